/- The walks of parts, fenced (the program's). Conditions: none but those that each theorem names. · The walk of fenced at three fences (the program's). No condition. -/
import Derived.Test.YtigimkgmghjgoaaGreatDoorQb
namespace Go.Proofs.YtigimkgmghjgoaaGreatDoor
open Go.RowKit
set_option linter.unusedVariables false

theorem progParts (w : World) : Calls Tryz.prog 63 #[] w fun e w' => e = .returned (.slice (some ⟨w.heap.size, 0, none⟩) 3 3) ∧ w' = w.alloc (.cells #[.string ⟨#[114]⟩, .string ⟨#[119]⟩, .string ⟨#[114, 119]⟩] 9) := by
  go_enter Tryz.func63, Tryz.ntmps63
  go_wp2
  go_ret
  exact ⟨rfl, rfl⟩
def fenceT (f : Int) : Tx := if f = 2 then [102, 101, 110, 99, 101, 46, 116, 115, 111]
  else [102, 101, 110, 99, 101, 32] ++ fpart ((f - 3) / 3) ++ [44] ++ fpart ((f - 3) % 3)
end Go.Proofs.YtigimkgmghjgoaaGreatDoor
namespace Go.Proofs.YtigimkgmghjgoaaGreatDoor
open Go.RowKit
set_option linter.unusedVariables false

set_option maxRecDepth 100000 in
set_option maxHeartbeats 6400000 in
theorem progFenced_a (f : Int) (hf : f = 3 ∨ f = 4 ∨ f = 5) (w : World) : Calls Tryz.prog 34 #[.int .i64 f] w (Ret w (.string (tx (fenceT f)))) := by
  rcases hf with rfl | rfl | rfl
  all_goals
    go_enter Tryz.func34, Tryz.ntmps34
    go_wp2_with fail
    go_region_with (go_at_call 63; refine (progParts _).mono ?_; rintro e' w' ⟨rfl, rfl⟩)
    all_goals
      go_wp2_with fail
      go_ret
      exact ⟨ret_str (by kernel_rfl), (by repeat (first | with_reducible assumption | with_reducible exact Below.refl _ _ | with_reducible refine bel_alloc ?_ _ | with_reducible refine bel_drew ?_ | with_reducible refine bel_set ?_ (by dsimp only; omega) _))⟩
end Go.Proofs.YtigimkgmghjgoaaGreatDoor

/- The walk of fenced at three fences (the program's). No condition. -/
import Derived.Test.YtigimkgmghjgoaaGreatDoorQe
namespace Go.Proofs.YtigimkgmghjgoaaGreatDoor
open Go.RowKit
set_option linter.unusedVariables false

set_option maxRecDepth 100000 in
set_option maxHeartbeats 6400000 in
theorem progFenced_b (f : Int) (hf : f = 6 ∨ f = 7 ∨ f = 8) (w : World) : Calls Tryz.prog 34 #[.int .i64 f] w (Ret w (.string (tx (fenceT f)))) := by
  rcases hf with rfl | rfl | rfl
  all_goals
    go_enter Tryz.func34, Tryz.ntmps34
    go_wp2_with fail
    go_region_with (go_at_call 63; refine (progParts _).mono ?_; rintro e' w' ⟨rfl, rfl⟩)
    all_goals
      go_wp2_with fail
      go_ret
      exact ⟨ret_str (by kernel_rfl), (by repeat (first | with_reducible assumption | with_reducible exact Below.refl _ _ | with_reducible refine bel_alloc ?_ _ | with_reducible refine bel_drew ?_ | with_reducible refine bel_set ?_ (by dsimp only; omega) _))⟩
end Go.Proofs.YtigimkgmghjgoaaGreatDoor

/- The walk of fenced at three fences (the program's). No condition. · The walk of fenced (the program's). Conditions: none but those that the theorem names. -/
import Derived.Test.YtigimkgmghjgoaaGreatDoorQe
import Derived.Test.YtigimkgmghjgoaaGreatDoorQc
import Derived.Test.YtigimkgmghjgoaaGreatDoorQR6b
namespace Go.Proofs.YtigimkgmghjgoaaGreatDoor
open Go.RowKit
set_option linter.unusedVariables false

set_option maxRecDepth 100000 in
set_option maxHeartbeats 6400000 in
theorem progFenced_c (f : Int) (hf : f = 9 ∨ f = 10 ∨ f = 11) (w : World) : Calls Tryz.prog 34 #[.int .i64 f] w (Ret w (.string (tx (fenceT f)))) := by
  rcases hf with rfl | rfl | rfl
  all_goals
    go_enter Tryz.func34, Tryz.ntmps34
    go_wp2_with fail
    go_region_with (go_at_call 63; refine (progParts _).mono ?_; rintro e' w' ⟨rfl, rfl⟩)
    all_goals
      go_wp2_with fail
      go_ret
      exact ⟨ret_str (by kernel_rfl), (by repeat (first | with_reducible assumption | with_reducible exact Below.refl _ _ | with_reducible refine bel_alloc ?_ _ | with_reducible refine bel_drew ?_ | with_reducible refine bel_set ?_ (by dsimp only; omega) _))⟩
end Go.Proofs.YtigimkgmghjgoaaGreatDoor
namespace Go.Proofs.YtigimkgmghjgoaaGreatDoor
open Go.RowKit
set_option linter.unusedVariables false

theorem progFenced (f : Int) (h1 : 2 ≤ f) (h2 : f ≤ 11) (w : World) : Calls Tryz.prog 34 #[.int .i64 f] w (Ret w (.string (tx (fenceT f)))) := by
  by_cases h3 : f = 2
  · subst h3
    clear h1 h2
    go_enter Tryz.func34, Tryz.ntmps34
    go_wp2_with fail
    go_ret
    exact ⟨rfl, Below.refl _ _⟩
  by_cases h4 : f ≤ 5
  · exact progFenced_a f (by omega) w
  by_cases h5 : f ≤ 8
  · exact progFenced_b f (by omega) w
  · exact progFenced_c f (by omega) w
end Go.Proofs.YtigimkgmghjgoaaGreatDoor

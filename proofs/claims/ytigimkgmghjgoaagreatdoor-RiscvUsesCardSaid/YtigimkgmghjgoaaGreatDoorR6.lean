/- The walk of fenced (the program's). Conditions: none but those that the theorem names. -/
import Derived.Test.YtigimkgmghjgoaaGreatDoorR5
import Derived.Test.YtigimkgmghjgoaaGreatDoorR6a
import Derived.Test.YtigimkgmghjgoaaGreatDoorR6b
import Derived.Test.YtigimkgmghjgoaaGreatDoorR6c
namespace Go.Proofs.YtigimkgmghjgoaaGreatDoor
open Go.RowKit
set_option linter.unusedVariables false

theorem progFenced (f : Int) (h1 : 2 ≤ f) (h2 : f ≤ 11) (w : World) : Calls Tryz.prog 34 #[.int .i64 f] w (Ret w (.string (tx (fenceT f)))) := by
  by_cases h3 : f = 2
  · subst h3
    clear h1 h2
    go_enter Tryz.func34, Tryz.ntmps34
    go_wp2_with fail
    go_ret
    exact ⟨rfl, Below.refl _ _⟩
  by_cases h4 : f ≤ 5
  · exact progFenced_a f (by omega) w
  by_cases h5 : f ≤ 8
  · exact progFenced_b f (by omega) w
  · exact progFenced_c f (by omega) w
end Go.Proofs.YtigimkgmghjgoaaGreatDoor

/- The walk of fenced (the program's). Conditions: none but those that the theorem names. -/
import Derived.Test.YtigimkgmghjgoaaDoorR5
import Derived.Test.YtigimkgmghjgoaaDoorR6a
import Derived.Test.YtigimkgmghjgoaaDoorR6b
import Derived.Test.YtigimkgmghjgoaaDoorR6c
namespace Go.Proofs.YtigimkgmghjgoaaDoor
open Go.RowKit
set_option linter.unusedVariables false

theorem progFenced (f : Int) (h1 : 2 ≤ f) (h2 : f ≤ 11) (w : World) : Calls Tryd.prog 16 #[.int .i64 f] w (Ret w (.string (tx (fenceT f)))) := by
  by_cases h3 : f = 2
  · subst h3
    clear h1 h2
    go_enter Tryd.func16, Tryd.ntmps16
    go_wp2_with fail
    go_ret
    exact ⟨rfl, Below.refl _ _⟩
  by_cases h4 : f ≤ 5
  · exact progFenced_a f (by omega) w
  by_cases h5 : f ≤ 8
  · exact progFenced_b f (by omega) w
  · exact progFenced_c f (by omega) w
end Go.Proofs.YtigimkgmghjgoaaDoor

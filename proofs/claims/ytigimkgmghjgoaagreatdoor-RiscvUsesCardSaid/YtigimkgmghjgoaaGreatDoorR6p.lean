/- The walks of parts, fenced (the program's). Conditions: none but those that each theorem names. -/
import Derived.Test.YtigimkgmghjgoaaGreatDoorLibS
namespace Go.Proofs.YtigimkgmghjgoaaGreatDoor
open Go.RowKit
set_option linter.unusedVariables false

theorem progParts (w : World) : Calls Tryz.prog 63 #[] w fun e w' => e = .returned (.slice (some ⟨w.heap.size, 0, none⟩) 3 3) ∧ w' = w.alloc (.cells #[.string ⟨#[114]⟩, .string ⟨#[119]⟩, .string ⟨#[114, 119]⟩] 9) := by
  go_enter Tryz.func63, Tryz.ntmps63
  go_wp2
  go_ret
  exact ⟨rfl, rfl⟩
def fenceT (f : Int) : Tx := if f = 2 then [102, 101, 110, 99, 101, 46, 116, 115, 111]
  else [102, 101, 110, 99, 101, 32] ++ fpart ((f - 3) / 3) ++ [44] ++ fpart ((f - 3) % 3)
end Go.Proofs.YtigimkgmghjgoaaGreatDoor

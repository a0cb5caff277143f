/- The walk of Check (the document's answer). Condition: lengths that an int holds. -/
import Derived.Test.YtigimkgmghjgoaaGreatDoorS5a
import Derived.Test.YtigimkgmghjgoaaGreatDoorS5b
import Derived.Test.YtigimkgmghjgoaaGreatDoorS5c
namespace Go.Proofs.YtigimkgmghjgoaaGreatDoor
open Go.RowKit
set_option linter.unusedVariables false

theorem refCheck (i : Ins) (hl : i.label.length ≤ 9223372036854775807) (w : World) : Calls Tryz.prog 15 #[vI i] w (Ret w (.int .i64 (errI i))) := by
  obtain ⟨op, d, a, b, imm, loc, label, fence⟩ := i
  by_cases h6 : op = 6
  · subst h6; exact refCheck_lw d a b imm loc label fence w
  by_cases h7 : op = 7
  · subst h7; exact refCheck_sw d a b imm loc label fence w
  by_cases h8 : op = 8
  · subst h8
    by_cases h1 : imm < -2048
    · exact refCheck_ori_lo d a b imm loc label fence h1 w
    · by_cases h2 : imm ≤ 2047
      · exact refCheck_ori_in d a b imm loc label fence (by omega) h2 w
      · exact refCheck_ori_hi d a b imm loc label fence (by omega) w
  by_cases h9 : op = 9
  · subst h9; exact refCheck_xor d a b imm loc label fence w
  by_cases h10 : op = 10
  · subst h10; exact refCheck_add d a b imm loc label fence w
  by_cases h11 : op = 11
  · subst h11
    cases hm : nameB label
    · exact refCheck_bne_no d a b imm loc label fence hl hm w
    · exact refCheck_bne d a b imm loc label fence hl hm w
  by_cases h12 : op = 12
  · subst h12
    cases hm : nameB label
    · exact refCheck_label_no d a b imm loc label fence hl hm w
    · exact refCheck_label d a b imm loc label fence hl hm w
  by_cases h13 : op = 13
  · subst h13
    by_cases h1 : fence < 2
    · exact refCheck_fence_lo d a b imm loc label fence h1 w
    · by_cases h2 : fence ≤ 11
      · exact refCheck_fence_in d a b imm loc label fence (by omega) h2 w
      · exact refCheck_fence_hi d a b imm loc label fence (by omega) w
  exact refCheck_no d a b imm loc label fence op (by omega) w
end Go.Proofs.YtigimkgmghjgoaaGreatDoor

/- The walks of fields at a branch and a label, and of Check (the program's). Condition: lengths that an int holds. -/
import Derived.Test.YtigimkgmghjgoaaGreatDoorR3
import Derived.Deep.RegionWith
namespace Go.Proofs.YtigimkgmghjgoaaGreatDoor
open Go.RowKit
set_option linter.unusedVariables false

set_option maxRecDepth 100000 in
set_option maxHeartbeats 1600000 in
theorem progFields_bne (d a b imm : Int) (loc label : Tx) (fence : Int) (hl : label.length ≤ 9223372036854775807) (w : World) : Calls Tryz.prog 46 #[vI ⟨11, d, a, b, imm, loc, label, fence⟩] w (RetF w 11 0 a b 0 ⟨#[]⟩ (tx label) 0 (nameB label)) := by
  go_enter Tryz.func46, Tryz.ntmps46
  go_wp2_with fail
  go_big_region
  go_wp2_with fail
  go_region_with (go_at_call 76; refine (progNamed label hl _).mono ?_; rintro e' w' ⟨rfl, rfl⟩)
  all_goals
    go_wp2_with fail
    exact bodyPost_ret (by simp [results, Tryz.results46, go_sem]) rfl ⟨rfl, (by repeat (first | with_reducible assumption | with_reducible exact Below.refl _ _ | with_reducible refine bel_alloc ?_ _ | with_reducible refine bel_drew ?_ | with_reducible refine bel_set ?_ (by dsimp only; omega) _))⟩
set_option maxRecDepth 100000 in
set_option maxHeartbeats 1600000 in
theorem progFields_label (d a b imm : Int) (loc label : Tx) (fence : Int) (hl : label.length ≤ 9223372036854775807) (w : World) : Calls Tryz.prog 46 #[vI ⟨12, d, a, b, imm, loc, label, fence⟩] w (RetF w 12 0 0 0 0 ⟨#[]⟩ (tx label) 0 (nameB label)) := by
  go_enter Tryz.func46, Tryz.ntmps46
  go_wp2_with fail
  go_region_with (go_at_call 76; refine (progNamed label hl _).mono ?_; rintro e' w' ⟨rfl, rfl⟩)
  all_goals
    go_wp2_with fail
    exact bodyPost_ret (by simp [results, Tryz.results46, go_sem]) rfl ⟨rfl, (by repeat (first | with_reducible assumption | with_reducible exact Below.refl _ _ | with_reducible refine bel_alloc ?_ _ | with_reducible refine bel_drew ?_ | with_reducible refine bel_set ?_ (by dsimp only; omega) _))⟩
theorem progFields (i : Ins) (hl : i.label.length ≤ 9223372036854775807) (w : World) : Calls Tryz.prog 46 #[vI i] w fun x w' => x = .returned (.tuple #[vI (wantI i), .bool (okI i)]) ∧ Below w.heap.size w w' := by
  obtain ⟨op, d, a, b, imm, loc, label, fence⟩ := i
  by_cases h6 : op = 6
  · subst h6; exact progFields_lw d a b imm loc label fence w
  by_cases h7 : op = 7
  · subst h7; exact progFields_sw d a b imm loc label fence w
  by_cases h8 : op = 8
  · subst h8
    have ho : okI ⟨8, d, a, b, imm, loc, label, fence⟩ = (decide (-2048 ≤ imm) && decide (imm ≤ 2047)) := rfl
    rw [ho]
    by_cases h1 : imm < -2048
    · rw [show (decide (-2048 ≤ imm) && decide (imm ≤ 2047)) = false by simp; omega]; exact progFields_ori_lo d a b imm loc label fence h1 w
    · by_cases h2 : imm ≤ 2047
      · rw [show (decide (-2048 ≤ imm) && decide (imm ≤ 2047)) = true by simp; omega]; exact progFields_ori_in d a b imm loc label fence (by omega) h2 w
      · rw [show (decide (-2048 ≤ imm) && decide (imm ≤ 2047)) = false by simp; omega]; exact progFields_ori_hi d a b imm loc label fence (by omega) w
  by_cases h9 : op = 9
  · subst h9; exact progFields_xor d a b imm loc label fence w
  by_cases h10 : op = 10
  · subst h10; exact progFields_add d a b imm loc label fence w
  by_cases h11 : op = 11
  · subst h11; exact progFields_bne d a b imm loc label fence hl w
  by_cases h12 : op = 12
  · subst h12; exact progFields_label d a b imm loc label fence hl w
  by_cases h13 : op = 13
  · subst h13
    have ho : okI ⟨13, d, a, b, imm, loc, label, fence⟩ = (decide (2 ≤ fence) && decide (fence ≤ 11)) := rfl
    rw [ho]
    by_cases h1 : fence < 2
    · rw [show (decide (2 ≤ fence) && decide (fence ≤ 11)) = false by simp; omega]; exact progFields_fence_lo d a b imm loc label fence h1 w
    · by_cases h2 : fence ≤ 11
      · rw [show (decide (2 ≤ fence) && decide (fence ≤ 11)) = true by simp; omega]; exact progFields_fence_in d a b imm loc label fence (by omega) h2 w
      · rw [show (decide (2 ≤ fence) && decide (fence ≤ 11)) = false by simp; omega]; exact progFields_fence_hi d a b imm loc label fence (by omega) w
  have hw : wantI ⟨op, d, a, b, imm, loc, label, fence⟩ = ⟨op, 0, 0, 0, 0, [], [], 0⟩ := by
    unfold wantI; simp only; rw [if_neg h6, if_neg h7, if_neg h8, if_neg h9, if_neg h10, if_neg h11, if_neg h12, if_neg h13]
  have ho : okI ⟨op, d, a, b, imm, loc, label, fence⟩ = false := by
    unfold okI; simp only; rw [if_neg h8, if_neg (by omega), if_neg h13]; simp; omega
  rw [hw, ho]
  exact progFields_no op d a b imm loc label fence (by omega) w
end Go.Proofs.YtigimkgmghjgoaaGreatDoor

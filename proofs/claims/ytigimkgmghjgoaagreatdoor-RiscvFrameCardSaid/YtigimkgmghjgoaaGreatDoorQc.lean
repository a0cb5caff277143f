/- The walk of fields (the program's). Condition: lengths that an int holds. · The walks of fields at a branch and a label, and of Check (the program's). Condition: lengths that an int holds. · The walk of Check (the program's). Condition: lengths that an int holds. -/
import Derived.Test.YtigimkgmghjgoaaGreatDoorQb
import Derived.BigRegion
import Derived.StillTailTactics
import Derived.Deep.RegionWith
namespace Go.Proofs.YtigimkgmghjgoaaGreatDoor
open Go.RowKit
set_option linter.unusedVariables false

/-- an instruction and a bool -/
def RetF (w : World) (op d a b imm : Int) (loc label : ByteArray) (fence : Int) (ok : Bool) (x : Ending) (w' : World) : Prop :=
  x = .returned (.tuple #[.agg #[.int .i64 op, .int .i64 d, .int .i64 a, .int .i64 b, .int .i64 imm, .string loc, .string label, .int .i64 fence], .bool ok]) ∧ Below w.heap.size w w'
set_option maxRecDepth 100000 in
set_option maxHeartbeats 1600000 in
theorem progFields_lw (d a b imm : Int) (loc label : Tx) (fence : Int) (w : World) : Calls Tryz.prog 46 #[vI ⟨6, d, a, b, imm, loc, label, fence⟩] w (RetF w 6 d a 0 0 ⟨#[]⟩ ⟨#[]⟩ 0 true) := by
  go_enter Tryz.func46, Tryz.ntmps46
  go_wp2_with fail
  go_big_region
  go_wp2_with fail
  exact bodyPost_ret (by simp [results, Tryz.results46, go_sem]) rfl ⟨rfl, (by repeat (first | with_reducible assumption | with_reducible exact Below.refl _ _ | with_reducible refine bel_alloc ?_ _ | with_reducible refine bel_drew ?_ | with_reducible refine bel_set ?_ (by dsimp only; omega) _))⟩
set_option maxRecDepth 100000 in
set_option maxHeartbeats 1600000 in
theorem progFields_sw (d a b imm : Int) (loc label : Tx) (fence : Int) (w : World) : Calls Tryz.prog 46 #[vI ⟨7, d, a, b, imm, loc, label, fence⟩] w (RetF w 7 0 a b 0 ⟨#[]⟩ ⟨#[]⟩ 0 true) := by
  go_enter Tryz.func46, Tryz.ntmps46
  go_wp2_with fail
  go_big_region
  go_wp2_with fail
  exact bodyPost_ret (by simp [results, Tryz.results46, go_sem]) rfl ⟨rfl, (by repeat (first | with_reducible assumption | with_reducible exact Below.refl _ _ | with_reducible refine bel_alloc ?_ _ | with_reducible refine bel_drew ?_ | with_reducible refine bel_set ?_ (by dsimp only; omega) _))⟩
set_option maxRecDepth 100000 in
set_option maxHeartbeats 1600000 in
theorem progFields_ori_lo (d a b imm : Int) (loc label : Tx) (fence : Int) (h : imm < -2048) (w : World) : Calls Tryz.prog 46 #[vI ⟨8, d, a, b, imm, loc, label, fence⟩] w (RetF w 8 d a 0 imm ⟨#[]⟩ ⟨#[]⟩ 0 false) := by
  have z1 : decide (-2048 ≤ imm) = false := by simp; omega
  go_enter Tryz.func46, Tryz.ntmps46
  go_wp2_with fail
  go_big_region
  go_wp2_with fail
  go_big_region
  go_wp2_with fail
  exact bodyPost_ret (by simp [results, Tryz.results46, go_sem]) rfl ⟨rfl, (by repeat (first | with_reducible assumption | with_reducible exact Below.refl _ _ | with_reducible refine bel_alloc ?_ _ | with_reducible refine bel_drew ?_ | with_reducible refine bel_set ?_ (by dsimp only; omega) _))⟩
set_option maxRecDepth 100000 in
set_option maxHeartbeats 1600000 in
theorem progFields_ori_in (d a b imm : Int) (loc label : Tx) (fence : Int) (h1 : -2048 ≤ imm) (h2 : imm ≤ 2047) (w : World) : Calls Tryz.prog 46 #[vI ⟨8, d, a, b, imm, loc, label, fence⟩] w (RetF w 8 d a 0 imm ⟨#[]⟩ ⟨#[]⟩ 0 true) := by
  have z1 : decide (-2048 ≤ imm) = true := by simp; omega
  have z2 : decide (imm ≤ 2047) = true := by simp; omega
  go_enter Tryz.func46, Tryz.ntmps46
  go_wp2_with fail
  go_big_region
  go_wp2_with fail
  go_big_region
  go_wp2_with fail
  exact bodyPost_ret (by simp [results, Tryz.results46, go_sem]) rfl ⟨rfl, (by repeat (first | with_reducible assumption | with_reducible exact Below.refl _ _ | with_reducible refine bel_alloc ?_ _ | with_reducible refine bel_drew ?_ | with_reducible refine bel_set ?_ (by dsimp only; omega) _))⟩
set_option maxRecDepth 100000 in
set_option maxHeartbeats 1600000 in
theorem progFields_ori_hi (d a b imm : Int) (loc label : Tx) (fence : Int) (h : 2047 < imm) (w : World) : Calls Tryz.prog 46 #[vI ⟨8, d, a, b, imm, loc, label, fence⟩] w (RetF w 8 d a 0 imm ⟨#[]⟩ ⟨#[]⟩ 0 false) := by
  have z1 : decide (-2048 ≤ imm) = true := by simp; omega
  have z2 : decide (imm ≤ 2047) = false := by simp; omega
  go_enter Tryz.func46, Tryz.ntmps46
  go_wp2_with fail
  go_big_region
  go_wp2_with fail
  go_big_region
  go_wp2_with fail
  exact bodyPost_ret (by simp [results, Tryz.results46, go_sem]) rfl ⟨rfl, (by repeat (first | with_reducible assumption | with_reducible exact Below.refl _ _ | with_reducible refine bel_alloc ?_ _ | with_reducible refine bel_drew ?_ | with_reducible refine bel_set ?_ (by dsimp only; omega) _))⟩
set_option maxRecDepth 100000 in
set_option maxHeartbeats 1600000 in
theorem progFields_xor (d a b imm : Int) (loc label : Tx) (fence : Int) (w : World) : Calls Tryz.prog 46 #[vI ⟨9, d, a, b, imm, loc, label, fence⟩] w (RetF w 9 d a b 0 ⟨#[]⟩ ⟨#[]⟩ 0 true) := by
  go_enter Tryz.func46, Tryz.ntmps46
  go_wp2_with fail
  go_big_region
  go_wp2_with fail
  exact bodyPost_ret (by simp [results, Tryz.results46, go_sem]) rfl ⟨rfl, (by repeat (first | with_reducible assumption | with_reducible exact Below.refl _ _ | with_reducible refine bel_alloc ?_ _ | with_reducible refine bel_drew ?_ | with_reducible refine bel_set ?_ (by dsimp only; omega) _))⟩
set_option maxRecDepth 100000 in
set_option maxHeartbeats 1600000 in
theorem progFields_add (d a b imm : Int) (loc label : Tx) (fence : Int) (w : World) : Calls Tryz.prog 46 #[vI ⟨10, d, a, b, imm, loc, label, fence⟩] w (RetF w 10 d a b 0 ⟨#[]⟩ ⟨#[]⟩ 0 true) := by
  go_enter Tryz.func46, Tryz.ntmps46
  go_wp2_with fail
  go_big_region
  go_wp2_with fail
  exact bodyPost_ret (by simp [results, Tryz.results46, go_sem]) rfl ⟨rfl, (by repeat (first | with_reducible assumption | with_reducible exact Below.refl _ _ | with_reducible refine bel_alloc ?_ _ | with_reducible refine bel_drew ?_ | with_reducible refine bel_set ?_ (by dsimp only; omega) _))⟩
set_option maxRecDepth 100000 in
set_option maxHeartbeats 1600000 in
theorem progFields_fence_lo (d a b imm : Int) (loc label : Tx) (fence : Int) (h : fence < 2) (w : World) : Calls Tryz.prog 46 #[vI ⟨13, d, a, b, imm, loc, label, fence⟩] w (RetF w 13 0 0 0 0 ⟨#[]⟩ ⟨#[]⟩ fence false) := by
  have z1 : decide (2 ≤ fence) = false := by simp; omega
  go_enter Tryz.func46, Tryz.ntmps46
  go_wp2_with fail
  go_big_region
  go_wp2_with fail
  exact bodyPost_ret (by simp [results, Tryz.results46, go_sem]) rfl ⟨rfl, (by repeat (first | with_reducible assumption | with_reducible exact Below.refl _ _ | with_reducible refine bel_alloc ?_ _ | with_reducible refine bel_drew ?_ | with_reducible refine bel_set ?_ (by dsimp only; omega) _))⟩
set_option maxRecDepth 100000 in
set_option maxHeartbeats 1600000 in
theorem progFields_fence_in (d a b imm : Int) (loc label : Tx) (fence : Int) (h1 : 2 ≤ fence) (h2 : fence ≤ 11) (w : World) : Calls Tryz.prog 46 #[vI ⟨13, d, a, b, imm, loc, label, fence⟩] w (RetF w 13 0 0 0 0 ⟨#[]⟩ ⟨#[]⟩ fence true) := by
  have z1 : decide (2 ≤ fence) = true := by simp; omega
  have z2 : decide (fence ≤ 11) = true := by simp; omega
  go_enter Tryz.func46, Tryz.ntmps46
  go_wp2_with fail
  go_big_region
  go_wp2_with fail
  exact bodyPost_ret (by simp [results, Tryz.results46, go_sem]) rfl ⟨rfl, (by repeat (first | with_reducible assumption | with_reducible exact Below.refl _ _ | with_reducible refine bel_alloc ?_ _ | with_reducible refine bel_drew ?_ | with_reducible refine bel_set ?_ (by dsimp only; omega) _))⟩
set_option maxRecDepth 100000 in
set_option maxHeartbeats 1600000 in
theorem progFields_fence_hi (d a b imm : Int) (loc label : Tx) (fence : Int) (h : 11 < fence) (w : World) : Calls Tryz.prog 46 #[vI ⟨13, d, a, b, imm, loc, label, fence⟩] w (RetF w 13 0 0 0 0 ⟨#[]⟩ ⟨#[]⟩ fence false) := by
  have z1 : decide (2 ≤ fence) = true := by simp; omega
  have z2 : decide (fence ≤ 11) = false := by simp; omega
  go_enter Tryz.func46, Tryz.ntmps46
  go_wp2_with fail
  go_big_region
  go_wp2_with fail
  exact bodyPost_ret (by simp [results, Tryz.results46, go_sem]) rfl ⟨rfl, (by repeat (first | with_reducible assumption | with_reducible exact Below.refl _ _ | with_reducible refine bel_alloc ?_ _ | with_reducible refine bel_drew ?_ | with_reducible refine bel_set ?_ (by dsimp only; omega) _))⟩
set_option maxRecDepth 100000 in
set_option maxHeartbeats 1600000 in
theorem progFields_no (op d a b imm : Int) (loc label : Tx) (fence : Int) (h : op < 6 ∨ 13 < op) (w : World) : Calls Tryz.prog 46 #[vI ⟨op, d, a, b, imm, loc, label, fence⟩] w (RetF w op 0 0 0 0 ⟨#[]⟩ ⟨#[]⟩ 0 false) := by
  have z6 : (op == 6) = false := by simp; omega
  have z7 : (op == 7) = false := by simp; omega
  have z8 : (op == 8) = false := by simp; omega
  have z9 : (op == 9) = false := by simp; omega
  have z10 : (op == 10) = false := by simp; omega
  have z11 : (op == 11) = false := by simp; omega
  have z12 : (op == 12) = false := by simp; omega
  have z13 : (op == 13) = false := by simp; omega
  go_enter Tryz.func46, Tryz.ntmps46
  go_wp2_with fail
  exact bodyPost_ret (by simp [results, Tryz.results46, go_sem]) rfl ⟨rfl, (by repeat (first | with_reducible assumption | with_reducible exact Below.refl _ _ | with_reducible refine bel_alloc ?_ _ | with_reducible refine bel_drew ?_ | with_reducible refine bel_set ?_ (by dsimp only; omega) _))⟩
end Go.Proofs.YtigimkgmghjgoaaGreatDoor
namespace Go.Proofs.YtigimkgmghjgoaaGreatDoor
open Go.RowKit
set_option linter.unusedVariables false

set_option maxRecDepth 100000 in
set_option maxHeartbeats 1600000 in
theorem progFields_bne (d a b imm : Int) (loc label : Tx) (fence : Int) (hl : label.length ≤ 9223372036854775807) (w : World) : Calls Tryz.prog 46 #[vI ⟨11, d, a, b, imm, loc, label, fence⟩] w (RetF w 11 0 a b 0 ⟨#[]⟩ (tx label) 0 (nameB label)) := by
  go_enter Tryz.func46, Tryz.ntmps46
  go_wp2_with fail
  go_big_region
  go_wp2_with fail
  go_region_with (go_at_call 76; refine (progNamed label hl _).mono ?_; rintro e' w' ⟨rfl, rfl⟩)
  all_goals
    go_wp2_with fail
    exact bodyPost_ret (by simp [results, Tryz.results46, go_sem]) rfl ⟨rfl, (by repeat (first | with_reducible assumption | with_reducible exact Below.refl _ _ | with_reducible refine bel_alloc ?_ _ | with_reducible refine bel_drew ?_ | with_reducible refine bel_set ?_ (by dsimp only; omega) _))⟩
set_option maxRecDepth 100000 in
set_option maxHeartbeats 1600000 in
theorem progFields_label (d a b imm : Int) (loc label : Tx) (fence : Int) (hl : label.length ≤ 9223372036854775807) (w : World) : Calls Tryz.prog 46 #[vI ⟨12, d, a, b, imm, loc, label, fence⟩] w (RetF w 12 0 0 0 0 ⟨#[]⟩ (tx label) 0 (nameB label)) := by
  go_enter Tryz.func46, Tryz.ntmps46
  go_wp2_with fail
  go_region_with (go_at_call 76; refine (progNamed label hl _).mono ?_; rintro e' w' ⟨rfl, rfl⟩)
  all_goals
    go_wp2_with fail
    exact bodyPost_ret (by simp [results, Tryz.results46, go_sem]) rfl ⟨rfl, (by repeat (first | with_reducible assumption | with_reducible exact Below.refl _ _ | with_reducible refine bel_alloc ?_ _ | with_reducible refine bel_drew ?_ | with_reducible refine bel_set ?_ (by dsimp only; omega) _))⟩
theorem progFields (i : Ins) (hl : i.label.length ≤ 9223372036854775807) (w : World) : Calls Tryz.prog 46 #[vI i] w fun x w' => x = .returned (.tuple #[vI (wantI i), .bool (okI i)]) ∧ Below w.heap.size w w' := by
  obtain ⟨op, d, a, b, imm, loc, label, fence⟩ := i
  by_cases h6 : op = 6
  · subst h6; exact progFields_lw d a b imm loc label fence w
  by_cases h7 : op = 7
  · subst h7; exact progFields_sw d a b imm loc label fence w
  by_cases h8 : op = 8
  · subst h8
    have ho : okI ⟨8, d, a, b, imm, loc, label, fence⟩ = (decide (-2048 ≤ imm) && decide (imm ≤ 2047)) := rfl
    rw [ho]
    by_cases h1 : imm < -2048
    · rw [show (decide (-2048 ≤ imm) && decide (imm ≤ 2047)) = false by simp; omega]; exact progFields_ori_lo d a b imm loc label fence h1 w
    · by_cases h2 : imm ≤ 2047
      · rw [show (decide (-2048 ≤ imm) && decide (imm ≤ 2047)) = true by simp; omega]; exact progFields_ori_in d a b imm loc label fence (by omega) h2 w
      · rw [show (decide (-2048 ≤ imm) && decide (imm ≤ 2047)) = false by simp; omega]; exact progFields_ori_hi d a b imm loc label fence (by omega) w
  by_cases h9 : op = 9
  · subst h9; exact progFields_xor d a b imm loc label fence w
  by_cases h10 : op = 10
  · subst h10; exact progFields_add d a b imm loc label fence w
  by_cases h11 : op = 11
  · subst h11; exact progFields_bne d a b imm loc label fence hl w
  by_cases h12 : op = 12
  · subst h12; exact progFields_label d a b imm loc label fence hl w
  by_cases h13 : op = 13
  · subst h13
    have ho : okI ⟨13, d, a, b, imm, loc, label, fence⟩ = (decide (2 ≤ fence) && decide (fence ≤ 11)) := rfl
    rw [ho]
    by_cases h1 : fence < 2
    · rw [show (decide (2 ≤ fence) && decide (fence ≤ 11)) = false by simp; omega]; exact progFields_fence_lo d a b imm loc label fence h1 w
    · by_cases h2 : fence ≤ 11
      · rw [show (decide (2 ≤ fence) && decide (fence ≤ 11)) = true by simp; omega]; exact progFields_fence_in d a b imm loc label fence (by omega) h2 w
      · rw [show (decide (2 ≤ fence) && decide (fence ≤ 11)) = false by simp; omega]; exact progFields_fence_hi d a b imm loc label fence (by omega) w
  have hw : wantI ⟨op, d, a, b, imm, loc, label, fence⟩ = ⟨op, 0, 0, 0, 0, [], [], 0⟩ := by
    unfold wantI; simp only; rw [if_neg h6, if_neg h7, if_neg h8, if_neg h9, if_neg h10, if_neg h11, if_neg h12, if_neg h13]
  have ho : okI ⟨op, d, a, b, imm, loc, label, fence⟩ = false := by
    unfold okI; simp only; rw [if_neg h8, if_neg (by omega), if_neg h13]; simp; omega
  rw [hw, ho]
  exact progFields_no op d a b imm loc label fence (by omega) w
end Go.Proofs.YtigimkgmghjgoaaGreatDoor
namespace Go.Proofs.YtigimkgmghjgoaaGreatDoor
open Go.RowKit
set_option linter.unusedVariables false

attribute [local go_sem high] eqI neqI

theorem errI_no {i : Ins} (h : checkI i = false) : errI i = 91 := by unfold errI; rw [h]; rfl
theorem errI_yes {i : Ins} (h : checkI i = true) : errI i = 0 := by unfold errI; rw [h]; rfl
set_option maxRecDepth 100000 in
set_option maxHeartbeats 1600000 in
theorem progCheck (i : Ins) (hl : i.label.length ≤ 9223372036854775807) (w : World) : Calls Tryz.prog 14 #[vI i] w (Ret w (.int .i64 (errI i))) := by
  have E1 := al w (mkI i)
  have b0 := BxI.new w i
  obtain ⟨wi, hwi⟩ : ∃ wi, wantI i = wi := ⟨_, rfl⟩
  obtain ⟨ok, hok⟩ : ∃ ok, okI i = ok := ⟨_, rfl⟩
  have hc : checkI i = (ok && decide (i = wi) && regB i.d && regB i.a && regB i.b) := by unfold checkI; rw [hwi, hok]
  have PF := hid (progFields i hl)
  have HF := hid (show ∀ w, Calls Tryz.prog 46 #[vI i] w fun x w' => x = .returned (.tuple #[vI wi, .bool ok]) ∧ Below w.heap.size w w' from by rw [← hwi, ← hok]; exact PF.out)
  clear hwi hok hl PF
  cases ok
  · have HE := hid (errI_no (by rw [hc]; rfl))
    clear hc
    go_enter Tryz.func14, Tryz.ntmps14
    go_wp2_with fail
    refine (HF.out _).mono ?_
    rintro x w1 ⟨rfl, E⟩
    have B := E1.trans (E.mono E1.size)
    go_wp2_with fail
    go_ret
    exact ⟨ret_int HE.out.symm, (by repeat (first | with_reducible assumption | with_reducible exact Below.refl _ _ | with_reducible refine bel_alloc ?_ _ | with_reducible refine bel_drew ?_ | with_reducible refine bel_set ?_ (by dsimp only; omega) _))⟩
  by_cases he : i = wi
  · have hd : decide (wi = i) = true := decide_eq_true he.symm
    have hd2 : (!decide (wi = i)) = false := by rw [hd]; rfl
    have hd3 : decide (¬ wi = i) = false := by simpa using he.symm
    by_cases h1 : regB i.d = true
    · by_cases h2 : regB i.a = true
      · by_cases h3 : regB i.b = true
        · have HE := hid (errI_yes (by rw [hc, h1, h2, h3, decide_eq_true he]; rfl))
          have H1 := hid h1; have H2 := hid h2; have H3 := hid h3
          clear hc he h1 h2 h3
          go_enter Tryz.func14, Tryz.ntmps14
          go_wp2_with fail
          refine (HF.out _).mono ?_
          rintro x w1 ⟨rfl, E⟩
          have B := E1.trans (E.mono E1.size)
          have b := b0.below E
          have hlt := b.1
          obtain ⟨q0, q1, q2, q3, q4, q5, q6, q7⟩ := b.cells
          clear b
          go_wp2_with (go_at_call 47; refine (progReg0 _ _).mono ?_; rintro e w' ⟨rfl, rfl⟩; (try rw [H1.out]); (try rw [H2.out]); (try rw [H3.out]))
          go_ret
          exact ⟨ret_int HE.out.symm, (by repeat (first | with_reducible assumption | with_reducible exact Below.refl _ _ | with_reducible refine bel_alloc ?_ _ | with_reducible refine bel_drew ?_ | with_reducible refine bel_set ?_ (by dsimp only; omega) _))⟩
        · have H1 := hid h1; have H2 := hid h2; have H3 := hid (Bool.eq_false_iff.2 h3)
          have HE := hid (errI_no (by rw [hc, H3.out]; simp))
          clear hc he h1 h2 h3
          go_enter Tryz.func14, Tryz.ntmps14
          go_wp2_with fail
          refine (HF.out _).mono ?_
          rintro x w1 ⟨rfl, E⟩
          have B := E1.trans (E.mono E1.size)
          have b := b0.below E
          have hlt := b.1
          obtain ⟨q0, q1, q2, q3, q4, q5, q6, q7⟩ := b.cells
          clear b
          go_wp2_with (go_at_call 47; refine (progReg0 _ _).mono ?_; rintro e w' ⟨rfl, rfl⟩; (try rw [H1.out]); (try rw [H2.out]); (try rw [H3.out]))
          go_ret
          exact ⟨ret_int HE.out.symm, (by repeat (first | with_reducible assumption | with_reducible exact Below.refl _ _ | with_reducible refine bel_alloc ?_ _ | with_reducible refine bel_drew ?_ | with_reducible refine bel_set ?_ (by dsimp only; omega) _))⟩
      · have H1 := hid h1; have H2 := hid (Bool.eq_false_iff.2 h2)
        have HE := hid (errI_no (by rw [hc, H2.out]; simp))
        clear hc he h1 h2
        go_enter Tryz.func14, Tryz.ntmps14
        go_wp2_with fail
        refine (HF.out _).mono ?_
        rintro x w1 ⟨rfl, E⟩
        have B := E1.trans (E.mono E1.size)
        have b := b0.below E
        have hlt := b.1
        obtain ⟨q0, q1, q2, q3, q4, q5, q6, q7⟩ := b.cells
        clear b
        go_wp2_with (go_at_call 47; refine (progReg0 _ _).mono ?_; rintro e w' ⟨rfl, rfl⟩; (try rw [H1.out]); (try rw [H2.out]))
        go_ret
        exact ⟨ret_int HE.out.symm, (by repeat (first | with_reducible assumption | with_reducible exact Below.refl _ _ | with_reducible refine bel_alloc ?_ _ | with_reducible refine bel_drew ?_ | with_reducible refine bel_set ?_ (by dsimp only; omega) _))⟩
    · have H1 := hid (Bool.eq_false_iff.2 h1)
      have HE := hid (errI_no (by rw [hc, H1.out]; simp))
      clear hc he h1
      go_enter Tryz.func14, Tryz.ntmps14
      go_wp2_with fail
      refine (HF.out _).mono ?_
      rintro x w1 ⟨rfl, E⟩
      have B := E1.trans (E.mono E1.size)
      have b := b0.below E
      have hlt := b.1
      obtain ⟨q0, q1, q2, q3, q4, q5, q6, q7⟩ := b.cells
      clear b
      go_wp2_with (go_at_call 47; refine (progReg0 _ _).mono ?_; rintro e w' ⟨rfl, rfl⟩; (try rw [H1.out]))
      go_ret
      exact ⟨ret_int HE.out.symm, (by repeat (first | with_reducible assumption | with_reducible exact Below.refl _ _ | with_reducible refine bel_alloc ?_ _ | with_reducible refine bel_drew ?_ | with_reducible refine bel_set ?_ (by dsimp only; omega) _))⟩
  · have hd : decide (wi = i) = false := decide_eq_false (fun e => he e.symm)
    have hd2 : (!decide (wi = i)) = true := by rw [hd]; rfl
    have hd3 : decide (¬ wi = i) = true := by simpa using (fun e => he (Eq.symm e))
    have HE := hid (errI_no (by rw [hc, decide_eq_false he]; simp))
    clear hc he
    go_enter Tryz.func14, Tryz.ntmps14
    go_wp2_with fail
    refine (HF.out _).mono ?_
    rintro x w1 ⟨rfl, E⟩
    have B := E1.trans (E.mono E1.size)
    have b := b0.below E
    have hlt := b.1
    obtain ⟨q0, q1, q2, q3, q4, q5, q6, q7⟩ := b.cells
    clear b
    go_wp2_with (go_at_call 47; refine (progReg0 _ _).mono ?_; rintro e w' ⟨rfl, rfl⟩)
    go_ret
    exact ⟨ret_int HE.out.symm, (by repeat (first | with_reducible assumption | with_reducible exact Below.refl _ _ | with_reducible refine bel_alloc ?_ _ | with_reducible refine bel_drew ?_ | with_reducible refine bel_set ?_ (by dsimp only; omega) _))⟩
end Go.Proofs.YtigimkgmghjgoaaGreatDoor

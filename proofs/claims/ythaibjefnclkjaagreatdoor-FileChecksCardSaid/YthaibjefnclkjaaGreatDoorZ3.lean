/- The walk of fields (the program's). Condition: lengths that an int holds. The walks of fields at a branch and a label, and of Check (the program's). Condition: lengths that an int holds. The walk of Check (the program's). Condition: lengths that an int holds. What read answers, as plain functions of the parts. No condition. The walks of three, moved (the program's). Conditions: texts in memory as read, of lengths that an int holds. The walks of parts, fenced (the program's). Conditions: none but those that each theorem names. The walk of fenced at three fences (the program's). No condition. The walk of fenced at three fences (the program's). No condition. The walk of fenced at three fences (the program's). No condition. The walk of fenced (the program's). Conditions: none but those that the theorem names. The walk of read (the program's). Conditions: texts in memory as read, of lengths that an int holds; the library's variables as the program's text lays them. The walks of blank, Parse (the program's). Conditions: lengths that an int holds; the library's variables as the program's text lays them. Slices of instructions: read. Lemmas of this claim's own; no condition. Rows of elements of several cells, over whatever encoding: read, cut, indexed. Lemmas of this claim's own; no condition. -/
import Derived.Test.YthaibjefnclkjaaGreatDoorZ2
import Derived.BigRegion
import Derived.StillTailTactics
import Derived.Deep.RegionWith
import Derived.Lib.AtoiAll
import Derived.Deep.DeepCutAuto
namespace Go.Proofs.YthaibjefnclkjaaGreatDoor
open Go.RowKit
set_option linter.unusedVariables false

/-- an instruction and a bool -/
def RetF (w : World) (op d a b imm : Int) (loc label : ByteArray) (fence : Int) (ok : Bool) (x : Ending) (w' : World) : Prop :=
  x = .returned (.tuple #[.agg #[.int .i64 op, .int .i64 d, .int .i64 a, .int .i64 b, .int .i64 imm, .string loc, .string label, .int .i64 fence], .bool ok]) ∧ Below w.heap.size w w'
set_option maxRecDepth 100000 in
set_option maxHeartbeats 1600000 in
theorem progFields_lw (d a b imm : Int) (loc label : Tx) (fence : Int) (w : World) : Calls Tryz.prog 96 #[vI ⟨6, d, a, b, imm, loc, label, fence⟩] w (RetF w 6 d a 0 0 ⟨#[]⟩ ⟨#[]⟩ 0 true) := by
  go_enter Tryz.func96, Tryz.ntmps96
  go_wp2_with fail
  go_big_region
  go_wp2_with fail
  exact bodyPost_ret (by simp [results, Tryz.results96, go_sem]) rfl ⟨rfl, (by repeat (first | with_reducible assumption | with_reducible exact Below.refl _ _ | with_reducible refine bel_alloc ?_ _ | with_reducible refine bel_drew ?_ | with_reducible refine bel_set ?_ (by dsimp only; omega) _))⟩
set_option maxRecDepth 100000 in
set_option maxHeartbeats 1600000 in
theorem progFields_sw (d a b imm : Int) (loc label : Tx) (fence : Int) (w : World) : Calls Tryz.prog 96 #[vI ⟨7, d, a, b, imm, loc, label, fence⟩] w (RetF w 7 0 a b 0 ⟨#[]⟩ ⟨#[]⟩ 0 true) := by
  go_enter Tryz.func96, Tryz.ntmps96
  go_wp2_with fail
  go_big_region
  go_wp2_with fail
  exact bodyPost_ret (by simp [results, Tryz.results96, go_sem]) rfl ⟨rfl, (by repeat (first | with_reducible assumption | with_reducible exact Below.refl _ _ | with_reducible refine bel_alloc ?_ _ | with_reducible refine bel_drew ?_ | with_reducible refine bel_set ?_ (by dsimp only; omega) _))⟩
set_option maxRecDepth 100000 in
set_option maxHeartbeats 1600000 in
theorem progFields_ori_lo (d a b imm : Int) (loc label : Tx) (fence : Int) (h : imm < -2048) (w : World) : Calls Tryz.prog 96 #[vI ⟨8, d, a, b, imm, loc, label, fence⟩] w (RetF w 8 d a 0 imm ⟨#[]⟩ ⟨#[]⟩ 0 false) := by
  have z1 : decide (-2048 ≤ imm) = false := by simp; omega
  go_enter Tryz.func96, Tryz.ntmps96
  go_wp2_with fail
  go_big_region
  go_wp2_with fail
  go_big_region
  go_wp2_with fail
  exact bodyPost_ret (by simp [results, Tryz.results96, go_sem]) rfl ⟨rfl, (by repeat (first | with_reducible assumption | with_reducible exact Below.refl _ _ | with_reducible refine bel_alloc ?_ _ | with_reducible refine bel_drew ?_ | with_reducible refine bel_set ?_ (by dsimp only; omega) _))⟩
set_option maxRecDepth 100000 in
set_option maxHeartbeats 1600000 in
theorem progFields_ori_in (d a b imm : Int) (loc label : Tx) (fence : Int) (h1 : -2048 ≤ imm) (h2 : imm ≤ 2047) (w : World) : Calls Tryz.prog 96 #[vI ⟨8, d, a, b, imm, loc, label, fence⟩] w (RetF w 8 d a 0 imm ⟨#[]⟩ ⟨#[]⟩ 0 true) := by
  have z1 : decide (-2048 ≤ imm) = true := by simp; omega
  have z2 : decide (imm ≤ 2047) = true := by simp; omega
  go_enter Tryz.func96, Tryz.ntmps96
  go_wp2_with fail
  go_big_region
  go_wp2_with fail
  go_big_region
  go_wp2_with fail
  exact bodyPost_ret (by simp [results, Tryz.results96, go_sem]) rfl ⟨rfl, (by repeat (first | with_reducible assumption | with_reducible exact Below.refl _ _ | with_reducible refine bel_alloc ?_ _ | with_reducible refine bel_drew ?_ | with_reducible refine bel_set ?_ (by dsimp only; omega) _))⟩
set_option maxRecDepth 100000 in
set_option maxHeartbeats 1600000 in
theorem progFields_ori_hi (d a b imm : Int) (loc label : Tx) (fence : Int) (h : 2047 < imm) (w : World) : Calls Tryz.prog 96 #[vI ⟨8, d, a, b, imm, loc, label, fence⟩] w (RetF w 8 d a 0 imm ⟨#[]⟩ ⟨#[]⟩ 0 false) := by
  have z1 : decide (-2048 ≤ imm) = true := by simp; omega
  have z2 : decide (imm ≤ 2047) = false := by simp; omega
  go_enter Tryz.func96, Tryz.ntmps96
  go_wp2_with fail
  go_big_region
  go_wp2_with fail
  go_big_region
  go_wp2_with fail
  exact bodyPost_ret (by simp [results, Tryz.results96, go_sem]) rfl ⟨rfl, (by repeat (first | with_reducible assumption | with_reducible exact Below.refl _ _ | with_reducible refine bel_alloc ?_ _ | with_reducible refine bel_drew ?_ | with_reducible refine bel_set ?_ (by dsimp only; omega) _))⟩
set_option maxRecDepth 100000 in
set_option maxHeartbeats 1600000 in
theorem progFields_xor (d a b imm : Int) (loc label : Tx) (fence : Int) (w : World) : Calls Tryz.prog 96 #[vI ⟨9, d, a, b, imm, loc, label, fence⟩] w (RetF w 9 d a b 0 ⟨#[]⟩ ⟨#[]⟩ 0 true) := by
  go_enter Tryz.func96, Tryz.ntmps96
  go_wp2_with fail
  go_big_region
  go_wp2_with fail
  exact bodyPost_ret (by simp [results, Tryz.results96, go_sem]) rfl ⟨rfl, (by repeat (first | with_reducible assumption | with_reducible exact Below.refl _ _ | with_reducible refine bel_alloc ?_ _ | with_reducible refine bel_drew ?_ | with_reducible refine bel_set ?_ (by dsimp only; omega) _))⟩
set_option maxRecDepth 100000 in
set_option maxHeartbeats 1600000 in
theorem progFields_add (d a b imm : Int) (loc label : Tx) (fence : Int) (w : World) : Calls Tryz.prog 96 #[vI ⟨10, d, a, b, imm, loc, label, fence⟩] w (RetF w 10 d a b 0 ⟨#[]⟩ ⟨#[]⟩ 0 true) := by
  go_enter Tryz.func96, Tryz.ntmps96
  go_wp2_with fail
  go_big_region
  go_wp2_with fail
  exact bodyPost_ret (by simp [results, Tryz.results96, go_sem]) rfl ⟨rfl, (by repeat (first | with_reducible assumption | with_reducible exact Below.refl _ _ | with_reducible refine bel_alloc ?_ _ | with_reducible refine bel_drew ?_ | with_reducible refine bel_set ?_ (by dsimp only; omega) _))⟩
set_option maxRecDepth 100000 in
set_option maxHeartbeats 1600000 in
theorem progFields_fence_lo (d a b imm : Int) (loc label : Tx) (fence : Int) (h : fence < 2) (w : World) : Calls Tryz.prog 96 #[vI ⟨13, d, a, b, imm, loc, label, fence⟩] w (RetF w 13 0 0 0 0 ⟨#[]⟩ ⟨#[]⟩ fence false) := by
  have z1 : decide (2 ≤ fence) = false := by simp; omega
  go_enter Tryz.func96, Tryz.ntmps96
  go_wp2_with fail
  go_big_region
  go_wp2_with fail
  exact bodyPost_ret (by simp [results, Tryz.results96, go_sem]) rfl ⟨rfl, (by repeat (first | with_reducible assumption | with_reducible exact Below.refl _ _ | with_reducible refine bel_alloc ?_ _ | with_reducible refine bel_drew ?_ | with_reducible refine bel_set ?_ (by dsimp only; omega) _))⟩
set_option maxRecDepth 100000 in
set_option maxHeartbeats 1600000 in
theorem progFields_fence_in (d a b imm : Int) (loc label : Tx) (fence : Int) (h1 : 2 ≤ fence) (h2 : fence ≤ 11) (w : World) : Calls Tryz.prog 96 #[vI ⟨13, d, a, b, imm, loc, label, fence⟩] w (RetF w 13 0 0 0 0 ⟨#[]⟩ ⟨#[]⟩ fence true) := by
  have z1 : decide (2 ≤ fence) = true := by simp; omega
  have z2 : decide (fence ≤ 11) = true := by simp; omega
  go_enter Tryz.func96, Tryz.ntmps96
  go_wp2_with fail
  go_big_region
  go_wp2_with fail
  exact bodyPost_ret (by simp [results, Tryz.results96, go_sem]) rfl ⟨rfl, (by repeat (first | with_reducible assumption | with_reducible exact Below.refl _ _ | with_reducible refine bel_alloc ?_ _ | with_reducible refine bel_drew ?_ | with_reducible refine bel_set ?_ (by dsimp only; omega) _))⟩
set_option maxRecDepth 100000 in
set_option maxHeartbeats 1600000 in
theorem progFields_fence_hi (d a b imm : Int) (loc label : Tx) (fence : Int) (h : 11 < fence) (w : World) : Calls Tryz.prog 96 #[vI ⟨13, d, a, b, imm, loc, label, fence⟩] w (RetF w 13 0 0 0 0 ⟨#[]⟩ ⟨#[]⟩ fence false) := by
  have z1 : decide (2 ≤ fence) = true := by simp; omega
  have z2 : decide (fence ≤ 11) = false := by simp; omega
  go_enter Tryz.func96, Tryz.ntmps96
  go_wp2_with fail
  go_big_region
  go_wp2_with fail
  exact bodyPost_ret (by simp [results, Tryz.results96, go_sem]) rfl ⟨rfl, (by repeat (first | with_reducible assumption | with_reducible exact Below.refl _ _ | with_reducible refine bel_alloc ?_ _ | with_reducible refine bel_drew ?_ | with_reducible refine bel_set ?_ (by dsimp only; omega) _))⟩
set_option maxRecDepth 100000 in
set_option maxHeartbeats 1600000 in
theorem progFields_no (op d a b imm : Int) (loc label : Tx) (fence : Int) (h : op < 6 ∨ 13 < op) (w : World) : Calls Tryz.prog 96 #[vI ⟨op, d, a, b, imm, loc, label, fence⟩] w (RetF w op 0 0 0 0 ⟨#[]⟩ ⟨#[]⟩ 0 false) := by
  have z6 : (op == 6) = false := by simp; omega
  have z7 : (op == 7) = false := by simp; omega
  have z8 : (op == 8) = false := by simp; omega
  have z9 : (op == 9) = false := by simp; omega
  have z10 : (op == 10) = false := by simp; omega
  have z11 : (op == 11) = false := by simp; omega
  have z12 : (op == 12) = false := by simp; omega
  have z13 : (op == 13) = false := by simp; omega
  go_enter Tryz.func96, Tryz.ntmps96
  go_wp2_with fail
  exact bodyPost_ret (by simp [results, Tryz.results96, go_sem]) rfl ⟨rfl, (by repeat (first | with_reducible assumption | with_reducible exact Below.refl _ _ | with_reducible refine bel_alloc ?_ _ | with_reducible refine bel_drew ?_ | with_reducible refine bel_set ?_ (by dsimp only; omega) _))⟩
end Go.Proofs.YthaibjefnclkjaaGreatDoor
namespace Go.Proofs.YthaibjefnclkjaaGreatDoor
open Go.RowKit
set_option linter.unusedVariables false

set_option maxRecDepth 100000 in
set_option maxHeartbeats 1600000 in
theorem progFields_bne (d a b imm : Int) (loc label : Tx) (fence : Int) (hl : label.length ≤ 9223372036854775807) (w : World) : Calls Tryz.prog 96 #[vI ⟨11, d, a, b, imm, loc, label, fence⟩] w (RetF w 11 0 a b 0 ⟨#[]⟩ (tx label) 0 (nameB label)) := by
  go_enter Tryz.func96, Tryz.ntmps96
  go_wp2_with fail
  go_big_region
  go_wp2_with fail
  go_region_with (go_at_call 131; refine (progNamed label hl _).mono ?_; rintro e' w' ⟨rfl, rfl⟩)
  all_goals
    go_wp2_with fail
    exact bodyPost_ret (by simp [results, Tryz.results96, go_sem]) rfl ⟨rfl, (by repeat (first | with_reducible assumption | with_reducible exact Below.refl _ _ | with_reducible refine bel_alloc ?_ _ | with_reducible refine bel_drew ?_ | with_reducible refine bel_set ?_ (by dsimp only; omega) _))⟩
set_option maxRecDepth 100000 in
set_option maxHeartbeats 1600000 in
theorem progFields_label (d a b imm : Int) (loc label : Tx) (fence : Int) (hl : label.length ≤ 9223372036854775807) (w : World) : Calls Tryz.prog 96 #[vI ⟨12, d, a, b, imm, loc, label, fence⟩] w (RetF w 12 0 0 0 0 ⟨#[]⟩ (tx label) 0 (nameB label)) := by
  go_enter Tryz.func96, Tryz.ntmps96
  go_wp2_with fail
  go_region_with (go_at_call 131; refine (progNamed label hl _).mono ?_; rintro e' w' ⟨rfl, rfl⟩)
  all_goals
    go_wp2_with fail
    exact bodyPost_ret (by simp [results, Tryz.results96, go_sem]) rfl ⟨rfl, (by repeat (first | with_reducible assumption | with_reducible exact Below.refl _ _ | with_reducible refine bel_alloc ?_ _ | with_reducible refine bel_drew ?_ | with_reducible refine bel_set ?_ (by dsimp only; omega) _))⟩
theorem progFields (i : Ins) (hl : i.label.length ≤ 9223372036854775807) (w : World) : Calls Tryz.prog 96 #[vI i] w fun x w' => x = .returned (.tuple #[vI (wantI i), .bool (okI i)]) ∧ Below w.heap.size w w' := by
  obtain ⟨op, d, a, b, imm, loc, label, fence⟩ := i
  by_cases h6 : op = 6
  · subst h6; exact progFields_lw d a b imm loc label fence w
  by_cases h7 : op = 7
  · subst h7; exact progFields_sw d a b imm loc label fence w
  by_cases h8 : op = 8
  · subst h8
    have ho : okI ⟨8, d, a, b, imm, loc, label, fence⟩ = (decide (-2048 ≤ imm) && decide (imm ≤ 2047)) := rfl
    rw [ho]
    by_cases h1 : imm < -2048
    · rw [show (decide (-2048 ≤ imm) && decide (imm ≤ 2047)) = false by simp; omega]; exact progFields_ori_lo d a b imm loc label fence h1 w
    · by_cases h2 : imm ≤ 2047
      · rw [show (decide (-2048 ≤ imm) && decide (imm ≤ 2047)) = true by simp; omega]; exact progFields_ori_in d a b imm loc label fence (by omega) h2 w
      · rw [show (decide (-2048 ≤ imm) && decide (imm ≤ 2047)) = false by simp; omega]; exact progFields_ori_hi d a b imm loc label fence (by omega) w
  by_cases h9 : op = 9
  · subst h9; exact progFields_xor d a b imm loc label fence w
  by_cases h10 : op = 10
  · subst h10; exact progFields_add d a b imm loc label fence w
  by_cases h11 : op = 11
  · subst h11; exact progFields_bne d a b imm loc label fence hl w
  by_cases h12 : op = 12
  · subst h12; exact progFields_label d a b imm loc label fence hl w
  by_cases h13 : op = 13
  · subst h13
    have ho : okI ⟨13, d, a, b, imm, loc, label, fence⟩ = (decide (2 ≤ fence) && decide (fence ≤ 11)) := rfl
    rw [ho]
    by_cases h1 : fence < 2
    · rw [show (decide (2 ≤ fence) && decide (fence ≤ 11)) = false by simp; omega]; exact progFields_fence_lo d a b imm loc label fence h1 w
    · by_cases h2 : fence ≤ 11
      · rw [show (decide (2 ≤ fence) && decide (fence ≤ 11)) = true by simp; omega]; exact progFields_fence_in d a b imm loc label fence (by omega) h2 w
      · rw [show (decide (2 ≤ fence) && decide (fence ≤ 11)) = false by simp; omega]; exact progFields_fence_hi d a b imm loc label fence (by omega) w
  have hw : wantI ⟨op, d, a, b, imm, loc, label, fence⟩ = ⟨op, 0, 0, 0, 0, [], [], 0⟩ := by
    unfold wantI; simp only; rw [if_neg h6, if_neg h7, if_neg h8, if_neg h9, if_neg h10, if_neg h11, if_neg h12, if_neg h13]
  have ho : okI ⟨op, d, a, b, imm, loc, label, fence⟩ = false := by
    unfold okI; simp only; rw [if_neg h8, if_neg (by omega), if_neg h13]; simp; omega
  rw [hw, ho]
  exact progFields_no op d a b imm loc label fence (by omega) w
end Go.Proofs.YthaibjefnclkjaaGreatDoor
namespace Go.Proofs.YthaibjefnclkjaaGreatDoor
open Go.RowKit
set_option linter.unusedVariables false

attribute [local go_sem high] eqI neqI

theorem errI_no {i : Ins} (h : checkI i = false) : errI i = 91 := by unfold errI; rw [h]; rfl
theorem errI_yes {i : Ins} (h : checkI i = true) : errI i = 0 := by unfold errI; rw [h]; rfl
set_option maxRecDepth 100000 in
set_option maxHeartbeats 1600000 in
theorem progCheck (i : Ins) (hl : i.label.length ≤ 9223372036854775807) (w : World) : Calls Tryz.prog 58 #[vI i] w (Ret w (.int .i64 (errI i))) := by
  have E1 := al w (mkI i)
  have b0 := BxI.new w i
  obtain ⟨wi, hwi⟩ : ∃ wi, wantI i = wi := ⟨_, rfl⟩
  obtain ⟨ok, hok⟩ : ∃ ok, okI i = ok := ⟨_, rfl⟩
  have hc : checkI i = (ok && decide (i = wi) && regB i.d && regB i.a && regB i.b) := by unfold checkI; rw [hwi, hok]
  have PF := hid (progFields i hl)
  have HF := hid (show ∀ w, Calls Tryz.prog 96 #[vI i] w fun x w' => x = .returned (.tuple #[vI wi, .bool ok]) ∧ Below w.heap.size w w' from by rw [← hwi, ← hok]; exact PF.out)
  clear hwi hok hl PF
  cases ok
  · have HE := hid (errI_no (by rw [hc]; rfl))
    clear hc
    go_enter Tryz.func58, Tryz.ntmps58
    go_wp2_with fail
    refine (HF.out _).mono ?_
    rintro x w1 ⟨rfl, E⟩
    have B := E1.trans (E.mono E1.size)
    go_wp2_with fail
    go_ret
    exact ⟨ret_int HE.out.symm, (by repeat (first | with_reducible assumption | with_reducible exact Below.refl _ _ | with_reducible refine bel_alloc ?_ _ | with_reducible refine bel_drew ?_ | with_reducible refine bel_set ?_ (by dsimp only; omega) _))⟩
  by_cases he : i = wi
  · have hd : decide (wi = i) = true := decide_eq_true he.symm
    have hd2 : (!decide (wi = i)) = false := by rw [hd]; rfl
    have hd3 : decide (¬ wi = i) = false := by simpa using he.symm
    by_cases h1 : regB i.d = true
    · by_cases h2 : regB i.a = true
      · by_cases h3 : regB i.b = true
        · have HE := hid (errI_yes (by rw [hc, h1, h2, h3, decide_eq_true he]; rfl))
          have H1 := hid h1; have H2 := hid h2; have H3 := hid h3
          clear hc he h1 h2 h3
          go_enter Tryz.func58, Tryz.ntmps58
          go_wp2_with fail
          refine (HF.out _).mono ?_
          rintro x w1 ⟨rfl, E⟩
          have B := E1.trans (E.mono E1.size)
          have b := b0.below E
          have hlt := b.1
          obtain ⟨q0, q1, q2, q3, q4, q5, q6, q7⟩ := b.cells
          clear b
          go_wp2_with (go_at_call 97; refine (progReg0 _ _).mono ?_; rintro e w' ⟨rfl, rfl⟩; (try rw [H1.out]); (try rw [H2.out]); (try rw [H3.out]))
          go_ret
          exact ⟨ret_int HE.out.symm, (by repeat (first | with_reducible assumption | with_reducible exact Below.refl _ _ | with_reducible refine bel_alloc ?_ _ | with_reducible refine bel_drew ?_ | with_reducible refine bel_set ?_ (by dsimp only; omega) _))⟩
        · have H1 := hid h1; have H2 := hid h2; have H3 := hid (Bool.eq_false_iff.2 h3)
          have HE := hid (errI_no (by rw [hc, H3.out]; simp))
          clear hc he h1 h2 h3
          go_enter Tryz.func58, Tryz.ntmps58
          go_wp2_with fail
          refine (HF.out _).mono ?_
          rintro x w1 ⟨rfl, E⟩
          have B := E1.trans (E.mono E1.size)
          have b := b0.below E
          have hlt := b.1
          obtain ⟨q0, q1, q2, q3, q4, q5, q6, q7⟩ := b.cells
          clear b
          go_wp2_with (go_at_call 97; refine (progReg0 _ _).mono ?_; rintro e w' ⟨rfl, rfl⟩; (try rw [H1.out]); (try rw [H2.out]); (try rw [H3.out]))
          go_ret
          exact ⟨ret_int HE.out.symm, (by repeat (first | with_reducible assumption | with_reducible exact Below.refl _ _ | with_reducible refine bel_alloc ?_ _ | with_reducible refine bel_drew ?_ | with_reducible refine bel_set ?_ (by dsimp only; omega) _))⟩
      · have H1 := hid h1; have H2 := hid (Bool.eq_false_iff.2 h2)
        have HE := hid (errI_no (by rw [hc, H2.out]; simp))
        clear hc he h1 h2
        go_enter Tryz.func58, Tryz.ntmps58
        go_wp2_with fail
        refine (HF.out _).mono ?_
        rintro x w1 ⟨rfl, E⟩
        have B := E1.trans (E.mono E1.size)
        have b := b0.below E
        have hlt := b.1
        obtain ⟨q0, q1, q2, q3, q4, q5, q6, q7⟩ := b.cells
        clear b
        go_wp2_with (go_at_call 97; refine (progReg0 _ _).mono ?_; rintro e w' ⟨rfl, rfl⟩; (try rw [H1.out]); (try rw [H2.out]))
        go_ret
        exact ⟨ret_int HE.out.symm, (by repeat (first | with_reducible assumption | with_reducible exact Below.refl _ _ | with_reducible refine bel_alloc ?_ _ | with_reducible refine bel_drew ?_ | with_reducible refine bel_set ?_ (by dsimp only; omega) _))⟩
    · have H1 := hid (Bool.eq_false_iff.2 h1)
      have HE := hid (errI_no (by rw [hc, H1.out]; simp))
      clear hc he h1
      go_enter Tryz.func58, Tryz.ntmps58
      go_wp2_with fail
      refine (HF.out _).mono ?_
      rintro x w1 ⟨rfl, E⟩
      have B := E1.trans (E.mono E1.size)
      have b := b0.below E
      have hlt := b.1
      obtain ⟨q0, q1, q2, q3, q4, q5, q6, q7⟩ := b.cells
      clear b
      go_wp2_with (go_at_call 97; refine (progReg0 _ _).mono ?_; rintro e w' ⟨rfl, rfl⟩; (try rw [H1.out]))
      go_ret
      exact ⟨ret_int HE.out.symm, (by repeat (first | with_reducible assumption | with_reducible exact Below.refl _ _ | with_reducible refine bel_alloc ?_ _ | with_reducible refine bel_drew ?_ | with_reducible refine bel_set ?_ (by dsimp only; omega) _))⟩
  · have hd : decide (wi = i) = false := decide_eq_false (fun e => he e.symm)
    have hd2 : (!decide (wi = i)) = true := by rw [hd]; rfl
    have hd3 : decide (¬ wi = i) = true := by simpa using (fun e => he (Eq.symm e))
    have HE := hid (errI_no (by rw [hc, decide_eq_false he]; simp))
    clear hc he
    go_enter Tryz.func58, Tryz.ntmps58
    go_wp2_with fail
    refine (HF.out _).mono ?_
    rintro x w1 ⟨rfl, E⟩
    have B := E1.trans (E.mono E1.size)
    have b := b0.below E
    have hlt := b.1
    obtain ⟨q0, q1, q2, q3, q4, q5, q6, q7⟩ := b.cells
    clear b
    go_wp2_with (go_at_call 97; refine (progReg0 _ _).mono ?_; rintro e w' ⟨rfl, rfl⟩)
    go_ret
    exact ⟨ret_int HE.out.symm, (by repeat (first | with_reducible assumption | with_reducible exact Below.refl _ _ | with_reducible refine bel_alloc ?_ _ | with_reducible refine bel_drew ?_ | with_reducible refine bel_set ?_ (by dsimp only; omega) _))⟩
end Go.Proofs.YthaibjefnclkjaaGreatDoor
namespace Go.Proofs.YthaibjefnclkjaaGreatDoor
set_option linter.unusedVariables false

/-- what is kept of an answer -/
def keepI (i : Ins) (ok : Bool) : Option Ins := if ok && checkI i then some i else none
end Go.Proofs.YthaibjefnclkjaaGreatDoor
namespace Go.Proofs.YthaibjefnclkjaaGreatDoor
open Go.RowKit
set_option linter.unusedVariables false

theorem Txs.lt {w : World} {a : Option Addr} {l : List Tx} (h : Txs w a l) {k : Nat} (hk : k < l.length) : bk a < w.heap.size := cell?_lt (p := ⟨bk a, fo a + k, none⟩) (h.cell k hk)
/-- texts of lengths that an int holds -/
def Sm (l : List Tx) : Prop := ∀ x ∈ l, x.length ≤ 1000000
theorem Sm.at {l : List Tx} (h : Sm l) (x : Tx) (hx : x ∈ l) : x.length ≤ 9223372036854775807 := by have := h x hx; omega
end Go.Proofs.YthaibjefnclkjaaGreatDoor
namespace Go.Proofs.YthaibjefnclkjaaGreatDoor
open Go.RowKit
set_option linter.unusedVariables false

theorem progParts (w : World) : Calls Tryz.prog 98 #[] w fun e w' => e = .returned (.slice (some ⟨w.heap.size, 0, none⟩) 3 3) ∧ w' = w.alloc (.cells #[.string ⟨#[114]⟩, .string ⟨#[119]⟩, .string ⟨#[114, 119]⟩] 9) := by
  go_enter Tryz.func98, Tryz.ntmps98
  go_wp2
  go_ret
  exact ⟨rfl, rfl⟩
def fenceT (f : Int) : Tx := if f = 2 then [102, 101, 110, 99, 101, 46, 116, 115, 111]
  else [102, 101, 110, 99, 101, 32] ++ fpart ((f - 3) / 3) ++ [44] ++ fpart ((f - 3) % 3)
end Go.Proofs.YthaibjefnclkjaaGreatDoor
namespace Go.Proofs.YthaibjefnclkjaaGreatDoor
open Go.RowKit
set_option linter.unusedVariables false

set_option maxRecDepth 100000 in
set_option maxHeartbeats 6400000 in
theorem progFenced_a (f : Int) (hf : f = 3 ∨ f = 4 ∨ f = 5) (w : World) : Calls Tryz.prog 60 #[.int .i64 f] w (Ret w (.string (tx (fenceT f)))) := by
  rcases hf with rfl | rfl | rfl
  all_goals
    go_enter Tryz.func60, Tryz.ntmps60
    go_wp2_with fail
    go_region_with (go_at_call 98; refine (progParts _).mono ?_; rintro e' w' ⟨rfl, rfl⟩)
    all_goals
      go_wp2_with fail
      go_ret
      exact ⟨ret_str (by kernel_rfl), (by repeat (first | with_reducible assumption | with_reducible exact Below.refl _ _ | with_reducible refine bel_alloc ?_ _ | with_reducible refine bel_drew ?_ | with_reducible refine bel_set ?_ (by dsimp only; omega) _))⟩
end Go.Proofs.YthaibjefnclkjaaGreatDoor
namespace Go.Proofs.YthaibjefnclkjaaGreatDoor
open Go.RowKit
set_option linter.unusedVariables false

set_option maxRecDepth 100000 in
set_option maxHeartbeats 6400000 in
theorem progFenced_b (f : Int) (hf : f = 6 ∨ f = 7 ∨ f = 8) (w : World) : Calls Tryz.prog 60 #[.int .i64 f] w (Ret w (.string (tx (fenceT f)))) := by
  rcases hf with rfl | rfl | rfl
  all_goals
    go_enter Tryz.func60, Tryz.ntmps60
    go_wp2_with fail
    go_region_with (go_at_call 98; refine (progParts _).mono ?_; rintro e' w' ⟨rfl, rfl⟩)
    all_goals
      go_wp2_with fail
      go_ret
      exact ⟨ret_str (by kernel_rfl), (by repeat (first | with_reducible assumption | with_reducible exact Below.refl _ _ | with_reducible refine bel_alloc ?_ _ | with_reducible refine bel_drew ?_ | with_reducible refine bel_set ?_ (by dsimp only; omega) _))⟩
end Go.Proofs.YthaibjefnclkjaaGreatDoor
namespace Go.Proofs.YthaibjefnclkjaaGreatDoor
open Go.RowKit
set_option linter.unusedVariables false

set_option maxRecDepth 100000 in
set_option maxHeartbeats 6400000 in
theorem progFenced_c (f : Int) (hf : f = 9 ∨ f = 10 ∨ f = 11) (w : World) : Calls Tryz.prog 60 #[.int .i64 f] w (Ret w (.string (tx (fenceT f)))) := by
  rcases hf with rfl | rfl | rfl
  all_goals
    go_enter Tryz.func60, Tryz.ntmps60
    go_wp2_with fail
    go_region_with (go_at_call 98; refine (progParts _).mono ?_; rintro e' w' ⟨rfl, rfl⟩)
    all_goals
      go_wp2_with fail
      go_ret
      exact ⟨ret_str (by kernel_rfl), (by repeat (first | with_reducible assumption | with_reducible exact Below.refl _ _ | with_reducible refine bel_alloc ?_ _ | with_reducible refine bel_drew ?_ | with_reducible refine bel_set ?_ (by dsimp only; omega) _))⟩
end Go.Proofs.YthaibjefnclkjaaGreatDoor
namespace Go.Proofs.YthaibjefnclkjaaGreatDoor
open Go.RowKit
set_option linter.unusedVariables false

theorem progFenced (f : Int) (h1 : 2 ≤ f) (h2 : f ≤ 11) (w : World) : Calls Tryz.prog 60 #[.int .i64 f] w (Ret w (.string (tx (fenceT f)))) := by
  by_cases h3 : f = 2
  · subst h3
    clear h1 h2
    go_enter Tryz.func60, Tryz.ntmps60
    go_wp2_with fail
    go_ret
    exact ⟨rfl, Below.refl _ _⟩
  by_cases h4 : f ≤ 5
  · exact progFenced_a f (by omega) w
  by_cases h5 : f ≤ 8
  · exact progFenced_b f (by omega) w
  · exact progFenced_c f (by omega) w
end Go.Proofs.YthaibjefnclkjaaGreatDoor
namespace Go.Proofs.YthaibjefnclkjaaGreatDoor
open Go.RowKit
set_option linter.unusedVariables false

/-- an instruction, and whether: what is kept of them -/
def Rd (r : Option Ins) (w : World) (e : Ending) (w' : World) : Prop :=
  ∃ (op d a b imm : Int) (label : Tx) (fence : Int) (ok : Bool), e = .returned (.tuple #[.agg #[.int .i64 op, .int .i64 d, .int .i64 a, .int .i64 b, .int .i64 imm, .string ⟨#[]⟩, .string (tx label), .int .i64 fence], .bool ok]) ∧ keepI ⟨op, d, a, b, imm, [], label, fence⟩ ok = r ∧ label.length ≤ 1000000 ∧ Below w.heap.size w w'
theorem Rd.of {r : Option Ins} {w w' : World} {e : Ending} {op d a b imm fence : Int} {ok : Bool} (h : RetF w op d a b imm ⟨#[]⟩ ⟨#[]⟩ fence ok e w') (hk : keepI ⟨op, d, a, b, imm, [], [], fence⟩ ok = r) : Rd r w e w' :=
  ⟨op, d, a, b, imm, [], fence, ok, h.1, hk, by simp, h.2⟩
theorem Rd.map {r r' : Option Ins} {w w' : World} {e : Ending} (h : Rd r w e w') (hr : r = r') : Rd r' w e w' := hr ▸ h
end Go.Proofs.YthaibjefnclkjaaGreatDoor
namespace Go.Proofs.YthaibjefnclkjaaGreatDoor
open Go.RowKit
set_option linter.unusedVariables false

attribute [local go_sem high] eqI neqI

/-- what Parse answers -/
def insO (r : Option Ins) : Ins := match r with
  | some i => i
  | none => ins0
def errO (r : Option Ins) : Int := match r with
  | some _ => 0
  | none => 91
def RetP (r : Option Ins) (w : World) (e : Ending) (w' : World) : Prop := e = .returned (.tuple #[vI (insO r), .int .i64 (errO r)]) ∧ Below w.heap.size w w'
theorem RetP.no {w w' : World} {e : Ending} {r : Option Ins} (hr : r = none) (h : e = .returned (.tuple #[.agg #[.int .i64 0, .int .i64 0, .int .i64 0, .int .i64 0, .int .i64 0, .string ⟨#[]⟩, .string ⟨#[]⟩, .int .i64 0], .int .i64 91])) (hb : Below w.heap.size w w') : RetP r w e w' := by
  subst hr h; exact ⟨rfl, hb⟩
end Go.Proofs.YthaibjefnclkjaaGreatDoor
namespace Go.Proofs.YthaibjefnclkjaaGreatDoor
open Go.RowKit
set_option linter.unusedVariables false

def insC (l : List Ins) : List Value := l.flatMap iC
theorem insC_length (l : List Ins) : (insC l).length = l.length * 8 := by
  induction l with
  | nil => rfl
  | cons x r ih => unfold insC at *; simp [List.flatMap_cons, ih, iC]; omega
theorem insC_app (l r : List Ins) : insC (l ++ r) = insC l ++ insC r := by unfold insC; rw [List.flatMap_append]
theorem insC_cons (x : Ins) (r : List Ins) : insC (x :: r) = iC x ++ insC r := by unfold insC; rw [List.flatMap_cons]
theorem insC_get : ∀ (l : List Ins) (k i : Nat) (x : Ins), l[k]? = some x → i < 8 → (insC l)[k * 8 + i]? = (iC x)[i]?
  | [], k, i, x, h, _ => by simp at h
  | y :: r, 0, i, x, h, hi => by
    simp at h; subst h
    rw [insC_cons, Nat.zero_mul, Nat.zero_add, List.getElem?_append_left (by simpa [iC] using hi)]
  | y :: r, k + 1, i, x, h, hi => by
    rw [insC_cons, List.getElem?_append_right (by simp [iC]; omega)]
    have : (k + 1) * 8 + i - (iC y).length = k * 8 + i := by simp [iC]; omega
    rw [this, insC_get r k i x (by simpa using h) hi]
theorem insC_take (l : List Ins) (k : Nat) : (insC l).take (k * 8) = insC (l.take k) := by
  by_cases hk : k ≤ l.length
  · have h1 : insC l = insC (l.take k) ++ insC (l.drop k) := by rw [← insC_app, List.take_append_drop]
    rw [h1, List.take_left' (by rw [insC_length, List.length_take, Nat.min_eq_left hk])]
  · rw [List.take_of_length_le (by rw [insC_length]; omega), List.take_of_length_le (by omega)]
theorem insC_drop (l : List Ins) (k : Nat) : (insC l).drop (k * 8) = insC (l.drop k) := by
  by_cases hk : k ≤ l.length
  · have h1 : insC l = insC (l.take k) ++ insC (l.drop k) := by rw [← insC_app, List.take_append_drop]
    rw [h1, List.drop_left' (by rw [insC_length, List.length_take, Nat.min_eq_left hk])]
  · rw [List.drop_of_length_le (by rw [insC_length]; omega), List.drop_of_length_le (by omega)]; rfl
/-- instructions that are read -/
structure Is (w : World) (a : Option Addr) (l : List Ins) : Prop where
  row : Row w a (insC l)
  len : l.length ≤ 1000000000000000000
theorem Is.nil (w : World) (a : Option Addr) : Is w a [] := ⟨Row.nil _ _, by simp⟩
theorem Is.below {w w' : World} {a : Option Addr} {l : List Ins} (h : Is w a l) (hb : Below w.heap.size w w') : Is w' a l := ⟨h.row.below hb, h.len⟩
theorem Is.cells {w : World} {a : Option Addr} {l : List Ins} (h : Is w a l) {k : Nat} {i : Ins} (hk : l[k]? = some i) :
    w.cell? ⟨bk a, fo a + k * 8, none⟩ = some (.int .i64 i.op) ∧ w.cell? ⟨bk a, fo a + k * 8 + 1, none⟩ = some (.int .i64 i.d) ∧ w.cell? ⟨bk a, fo a + k * 8 + 2, none⟩ = some (.int .i64 i.a) ∧ w.cell? ⟨bk a, fo a + k * 8 + 3, none⟩ = some (.int .i64 i.b) ∧ w.cell? ⟨bk a, fo a + k * 8 + 4, none⟩ = some (.int .i64 i.imm) ∧ w.cell? ⟨bk a, fo a + k * 8 + 5, none⟩ = some (.string (tx i.loc)) ∧ w.cell? ⟨bk a, fo a + k * 8 + 6, none⟩ = some (.string (tx i.label)) ∧ w.cell? ⟨bk a, fo a + k * 8 + 7, none⟩ = some (.int .i64 i.fence) := by
  have hlt := (List.getElem?_eq_some_iff.1 hk).1
  have g : ∀ j, j < 8 → w.cell? ⟨bk a, fo a + k * 8 + j, none⟩ = (iC i)[j]? := fun j hj => by
    have h1 := h.row.cell (k * 8 + j) (by rw [insC_length]; omega)
    rw [insC_get l k j i hk hj] at h1
    rw [Nat.add_assoc]; exact h1
  exact ⟨g 0 (by omega), g 1 (by omega), g 2 (by omega), g 3 (by omega), g 4 (by omega), g 5 (by omega), g 6 (by omega), g 7 (by omega)⟩
theorem Is.lt {w : World} {a : Option Addr} {l : List Ins} (h : Is w a l) {k : Nat} (hk : k < l.length) : bk a < w.heap.size :=
  cell?_lt (p := ⟨bk a, fo a + k * 8, none⟩) (h.cells (List.getElem?_eq_getElem hk)).1
theorem inl : ElT Tryz.prog 49 23 (.agg #[.int .i64 0, .int .i64 0, .int .i64 0, .int .i64 0, .int .i64 0, .string ByteArray.empty, .string ByteArray.empty, .int .i64 0]) 8 80 := ⟨Tryz.underlying49, by kernel_rfl, rfl, by decide⟩
theorem Is.idx {w : World} {a : Option Addr} {l : List Ins} (h : Is w a l) (k : Nat) (hk : k < l.length) :
    ∀ c w', (Instr.indexAt 49 (.slice a l.length c) (.int .i64 k)).run Tryz.prog w' = .ok (.pointer (some ⟨bk a, fo a + k * 8, none⟩)) w' := by
  intro c
  exact run_idx (c := c) (n := l.length) (m := 8) h.row inl.und inl.cells inl.isSome (insC_length l) (by omega) k hk .i64
theorem Is.take {w : World} {a : Option Addr} {l : List Ins} (h : Is w a l) (k : Nat) : Is w a (l.take k) := by
  refine ⟨?_, by have := h.len; simp; omega⟩
  have := h.row.take (k * 8)
  rwa [insC_take] at this
theorem Is.drop {w : World} {a : Option Addr} {l : List Ins} (h : Is w a l) (k : Nat) (stay : Prop) [Decidable stay] (hs : stay → l.length ≤ k ∨ k = 0) : Is w (cutA a stay (k * 8)) (l.drop k) := by
  refine ⟨?_, by have := h.len; simp; omega⟩
  have := h.row.drop (k * 8) stay (fun h' => by have := hs h'; rw [insC_length]; omega)
  rwa [insC_drop] at this
abbrev OwnN (w : World) (B : Nat) (a : Option Addr) (n c : Nat) (l : List Ins) : Prop := Own w B 23 8 a n c (insC l)
theorem OwnN.len {w : World} {B n c : Nat} {a : Option Addr} {l : List Ins} (h : OwnN w B a n c l) : n = l.length := by
  have := h.cap.2.2; rw [insC_length] at this; omega
theorem OwnN.is {w : World} {B n c : Nat} {a : Option Addr} {l : List Ins} (h : OwnN w B a n c l) (hl : l.length ≤ 1000000000000000000) : Is w a l := ⟨h.row, hl⟩
theorem isl : ElT Tryz.prog 81 3 (.int .i64 0) 1 8 := ⟨Tryz.underlying81, by kernel_rfl, rfl, by decide⟩
end Go.Proofs.YthaibjefnclkjaaGreatDoor
namespace Go.Proofs.YthaibjefnclkjaaGreatDoor
open Go.RowKit
set_option linter.unusedVariables false
set_option linter.unusedSectionVars false

def flat {α : Type} (enc : α → List Value) (l : List α) : List Value := l.flatMap enc
section
variable {α : Type} {enc : α → List Value} {m : Nat} (hm : ∀ x, (enc x).length = m)
theorem flat_nil : flat enc [] = [] := rfl
theorem flat_cons (x : α) (r : List α) : flat enc (x :: r) = enc x ++ flat enc r := by unfold flat; rw [List.flatMap_cons]
theorem flat_app (l r : List α) : flat enc (l ++ r) = flat enc l ++ flat enc r := by unfold flat; rw [List.flatMap_append]
theorem flat_one (x : α) : flat enc [x] = enc x := by rw [flat_cons, flat_nil, List.append_nil]
include hm
theorem flat_length (l : List α) : (flat enc l).length = l.length * m := by
  induction l with
  | nil => simp [flat]
  | cons x r ih => rw [flat_cons, List.length_append, hm, ih, List.length_cons, Nat.succ_mul, Nat.add_comm]
theorem flat_get : ∀ (l : List α) (k i : Nat) (x : α), l[k]? = some x → i < m → (flat enc l)[k * m + i]? = (enc x)[i]?
  | [], k, i, x, h, _ => by simp at h
  | y :: r, 0, i, x, h, hi => by
    simp at h; subst h
    rw [flat_cons, Nat.zero_mul, Nat.zero_add, List.getElem?_append_left (by rw [hm]; exact hi)]
  | y :: r, k + 1, i, x, h, hi => by
    have e : (k + 1) * m + i = m + (k * m + i) := by rw [Nat.succ_mul]; omega
    rw [flat_cons, List.getElem?_append_right (by rw [hm, e]; omega), hm, e, Nat.add_sub_cancel_left, flat_get r k i x (by simpa using h) hi]
theorem flat_take (l : List α) (k : Nat) : (flat enc l).take (k * m) = flat enc (l.take k) := by
  by_cases hk : k ≤ l.length
  · have h1 : flat enc l = flat enc (l.take k) ++ flat enc (l.drop k) := by rw [← flat_app, List.take_append_drop]
    rw [h1, List.take_left' (by rw [flat_length hm, List.length_take, Nat.min_eq_left hk])]
  · have h2 : l.length * m ≤ k * m := Nat.mul_le_mul_right _ (by omega)
    rw [List.take_of_length_le (by rw [flat_length hm]; exact h2), List.take_of_length_le (by omega)]
theorem flat_drop (l : List α) (k : Nat) : (flat enc l).drop (k * m) = flat enc (l.drop k) := by
  by_cases hk : k ≤ l.length
  · have h1 : flat enc l = flat enc (l.take k) ++ flat enc (l.drop k) := by rw [← flat_app, List.take_append_drop]
    rw [h1, List.drop_left' (by rw [flat_length hm, List.length_take, Nat.min_eq_left hk])]
  · have h2 : l.length * m ≤ k * m := Nat.mul_le_mul_right _ (by omega)
    rw [List.drop_of_length_le (by rw [flat_length hm]; exact h2), List.drop_of_length_le (by omega)]; rfl
end
theorem flat_oneCell {α : Type} {enc : α → List Value} (h : ∀ x, ∀ u ∈ enc x, u.oneCell' = true) (l : List α) : ∀ u ∈ flat enc l, u.oneCell' = true := by
  intro u hu
  unfold flat at hu
  obtain ⟨x, -, hx⟩ := List.mem_flatMap.1 hu
  exact h x u hx

/-- elements that are read -/
structure Els {α : Type} (enc : α → List Value) (w : World) (a : Option Addr) (l : List α) : Prop where
  row : Row w a (flat enc l)
  len : l.length ≤ 1000000000000000000
section
variable {α : Type} {enc : α → List Value} {m : Nat} {w w' : World} {a : Option Addr} {l : List α}
theorem Els.nil (w : World) (a : Option Addr) : Els enc w a [] := ⟨Row.nil _ _, by simp⟩
theorem Els.below (h : Els enc w a l) (hb : Below w.heap.size w w') : Els enc w' a l := ⟨h.row.below hb, h.len⟩
theorem Els.cell (h : Els enc w a l) (hm : ∀ x, (enc x).length = m) {k : Nat} {x : α} (hk : l[k]? = some x) (j : Nat) (hj : j < m) : w.cell? ⟨bk a, fo a + k * m + j, none⟩ = (enc x)[j]? := by
  have hlt := (List.getElem?_eq_some_iff.1 hk).1
  have hb : k * m + j < l.length * m := by
    have : (k + 1) * m ≤ l.length * m := Nat.mul_le_mul_right _ hlt
    rw [Nat.succ_mul] at this; omega
  have h1 := h.row.cell (k * m + j) (by rw [flat_length hm]; exact hb)
  rw [flat_get hm l k j x hk hj] at h1
  rw [Nat.add_assoc]; exact h1
theorem Els.cell0 (h : Els enc w a l) (hm : ∀ x, (enc x).length = m) {k : Nat} {x : α} (hk : l[k]? = some x) (hj : 0 < m) : w.cell? ⟨bk a, fo a + k * m, none⟩ = (enc x)[0]? := h.cell hm hk 0 hj
theorem Els.lt (h : Els enc w a l) (hm : ∀ x, (enc x).length = m) (hpos : 0 < m) (hl : l ≠ []) : bk a < w.heap.size := by
  refine h.row.lt fun e => hl ?_
  have : (flat enc l).length = 0 := by rw [e]; rfl
  rw [flat_length hm] at this
  rcases Nat.mul_eq_zero.1 this with h1 | h1
  · exact List.eq_nil_of_length_eq_zero h1
  · omega
theorem Els.idx {P : Program} {t e bytes : Nat} {z : Value} (h : Els enc w a l) (T : ElT P t e z m bytes) (hm : ∀ x, (enc x).length = m) (k : Nat) (hk : k < l.length) :
    ∀ c w', (Instr.indexAt t (.slice a l.length c) (.int .i64 k)).run P w' = .ok (.pointer (some ⟨bk a, fo a + k * m, none⟩)) w' := by
  intro c
  exact run_idx (c := c) (n := l.length) (m := m) h.row T.und T.cells T.isSome (flat_length hm l) T.pos k hk .i64
theorem Els.take (h : Els enc w a l) (hm : ∀ x, (enc x).length = m) (k : Nat) : Els enc w a (l.take k) := by
  refine ⟨?_, by have := h.len; simp; omega⟩
  have := h.row.take (k * m)
  rwa [flat_take hm] at this
theorem Els.drop (h : Els enc w a l) (hm : ∀ x, (enc x).length = m) (hpos : 0 < m) (k : Nat) (stay : Prop) [Decidable stay] (hs : stay → l.length ≤ k ∨ k = 0) : Els enc w (cutA a stay (k * m)) (l.drop k) := by
  refine ⟨?_, by have := h.len; simp; omega⟩
  have := h.row.drop (k * m) stay (fun h' => by
    rcases hs h' with h1 | h1
    · left; rw [flat_length hm]; exact Nat.mul_le_mul_right _ h1
    · right; rw [h1, Nat.zero_mul])
  rwa [flat_drop hm] at this
theorem Own.els {B E n c : Nat} (h : Own w B E m a n c (flat enc l)) (hm : ∀ x, (enc x).length = m) (hpos : 0 < m) (hl : l.length ≤ 1000000000000000000) : Els enc w a l ∧ n = l.length := by
  refine ⟨⟨h.row, hl⟩, ?_⟩
  have h1 := h.cap.2.2
  rw [flat_length hm] at h1
  exact Nat.eq_of_mul_eq_mul_right hpos h1.symm
end

/-- a block of its own that holds these cells -/
def BxL (w : World) (b : Nat) (l : List Value) : Prop := b < w.heap.size ∧ ∀ k, k < l.length → w.cell? ⟨b, k, none⟩ = l[k]?
theorem BxL.new (w : World) (us : Array Value) (T : TypeId) : BxL (w.alloc (.cells us T)) w.heap.size us.toList :=
  ⟨by simp, fun k hk => by
    have hh := heap_alloc_new w (.cells us T)
    simp only [World.cell?, hh]
    simp⟩
theorem BxL.below {w w' : World} {b : Nat} {l : List Value} (h : BxL w b l) (hb : Below w.heap.size w w') : BxL w' b l :=
  ⟨Nat.lt_of_lt_of_le h.1 hb.size, fun k hk => by rw [hb.cell (p := ⟨b, k, none⟩) h.1]; exact h.2 k hk⟩
theorem BxL.get {w : World} {b : Nat} {l : List Value} (h : BxL w b l) (k : Nat) (v : Value) (hk : l[k]? = some v) : w.cell? ⟨b, k, none⟩ = some v := by
  rw [h.2 k (List.getElem?_eq_some_iff.1 hk).1]; exact hk
end Go.Proofs.YthaibjefnclkjaaGreatDoor

/- The walk of Check (the program's). Condition: lengths that an int holds. -/
import Derived.Test.YtigimkgmghjgoaaGreatDoorR4
namespace Go.Proofs.YtigimkgmghjgoaaGreatDoor
open Go.RowKit
set_option linter.unusedVariables false

attribute [local go_sem high] eqI neqI

theorem errI_no {i : Ins} (h : checkI i = false) : errI i = 91 := by unfold errI; rw [h]; rfl
theorem errI_yes {i : Ins} (h : checkI i = true) : errI i = 0 := by unfold errI; rw [h]; rfl
set_option maxRecDepth 100000 in
set_option maxHeartbeats 1600000 in
theorem progCheck (i : Ins) (hl : i.label.length ≤ 9223372036854775807) (w : World) : Calls Tryz.prog 14 #[vI i] w (Ret w (.int .i64 (errI i))) := by
  have E1 := al w (mkI i)
  have b0 := BxI.new w i
  obtain ⟨wi, hwi⟩ : ∃ wi, wantI i = wi := ⟨_, rfl⟩
  obtain ⟨ok, hok⟩ : ∃ ok, okI i = ok := ⟨_, rfl⟩
  have hc : checkI i = (ok && decide (i = wi) && regB i.d && regB i.a && regB i.b) := by unfold checkI; rw [hwi, hok]
  have PF := hid (progFields i hl)
  have HF := hid (show ∀ w, Calls Tryz.prog 46 #[vI i] w fun x w' => x = .returned (.tuple #[vI wi, .bool ok]) ∧ Below w.heap.size w w' from by rw [← hwi, ← hok]; exact PF.out)
  clear hwi hok hl PF
  cases ok
  · have HE := hid (errI_no (by rw [hc]; rfl))
    clear hc
    go_enter Tryz.func14, Tryz.ntmps14
    go_wp2_with fail
    refine (HF.out _).mono ?_
    rintro x w1 ⟨rfl, E⟩
    have B := E1.trans (E.mono E1.size)
    go_wp2_with fail
    go_ret
    exact ⟨ret_int HE.out.symm, (by repeat (first | with_reducible assumption | with_reducible exact Below.refl _ _ | with_reducible refine bel_alloc ?_ _ | with_reducible refine bel_drew ?_ | with_reducible refine bel_set ?_ (by dsimp only; omega) _))⟩
  by_cases he : i = wi
  · have hd : decide (wi = i) = true := decide_eq_true he.symm
    have hd2 : (!decide (wi = i)) = false := by rw [hd]; rfl
    have hd3 : decide (¬ wi = i) = false := by simpa using he.symm
    by_cases h1 : regB i.d = true
    · by_cases h2 : regB i.a = true
      · by_cases h3 : regB i.b = true
        · have HE := hid (errI_yes (by rw [hc, h1, h2, h3, decide_eq_true he]; rfl))
          have H1 := hid h1; have H2 := hid h2; have H3 := hid h3
          clear hc he h1 h2 h3
          go_enter Tryz.func14, Tryz.ntmps14
          go_wp2_with fail
          refine (HF.out _).mono ?_
          rintro x w1 ⟨rfl, E⟩
          have B := E1.trans (E.mono E1.size)
          have b := b0.below E
          have hlt := b.1
          obtain ⟨q0, q1, q2, q3, q4, q5, q6, q7⟩ := b.cells
          clear b
          go_wp2_with (go_at_call 47; refine (progReg0 _ _).mono ?_; rintro e w' ⟨rfl, rfl⟩; (try rw [H1.out]); (try rw [H2.out]); (try rw [H3.out]))
          go_ret
          exact ⟨ret_int HE.out.symm, (by repeat (first | with_reducible assumption | with_reducible exact Below.refl _ _ | with_reducible refine bel_alloc ?_ _ | with_reducible refine bel_drew ?_ | with_reducible refine bel_set ?_ (by dsimp only; omega) _))⟩
        · have H1 := hid h1; have H2 := hid h2; have H3 := hid (Bool.eq_false_iff.2 h3)
          have HE := hid (errI_no (by rw [hc, H3.out]; simp))
          clear hc he h1 h2 h3
          go_enter Tryz.func14, Tryz.ntmps14
          go_wp2_with fail
          refine (HF.out _).mono ?_
          rintro x w1 ⟨rfl, E⟩
          have B := E1.trans (E.mono E1.size)
          have b := b0.below E
          have hlt := b.1
          obtain ⟨q0, q1, q2, q3, q4, q5, q6, q7⟩ := b.cells
          clear b
          go_wp2_with (go_at_call 47; refine (progReg0 _ _).mono ?_; rintro e w' ⟨rfl, rfl⟩; (try rw [H1.out]); (try rw [H2.out]); (try rw [H3.out]))
          go_ret
          exact ⟨ret_int HE.out.symm, (by repeat (first | with_reducible assumption | with_reducible exact Below.refl _ _ | with_reducible refine bel_alloc ?_ _ | with_reducible refine bel_drew ?_ | with_reducible refine bel_set ?_ (by dsimp only; omega) _))⟩
      · have H1 := hid h1; have H2 := hid (Bool.eq_false_iff.2 h2)
        have HE := hid (errI_no (by rw [hc, H2.out]; simp))
        clear hc he h1 h2
        go_enter Tryz.func14, Tryz.ntmps14
        go_wp2_with fail
        refine (HF.out _).mono ?_
        rintro x w1 ⟨rfl, E⟩
        have B := E1.trans (E.mono E1.size)
        have b := b0.below E
        have hlt := b.1
        obtain ⟨q0, q1, q2, q3, q4, q5, q6, q7⟩ := b.cells
        clear b
        go_wp2_with (go_at_call 47; refine (progReg0 _ _).mono ?_; rintro e w' ⟨rfl, rfl⟩; (try rw [H1.out]); (try rw [H2.out]))
        go_ret
        exact ⟨ret_int HE.out.symm, (by repeat (first | with_reducible assumption | with_reducible exact Below.refl _ _ | with_reducible refine bel_alloc ?_ _ | with_reducible refine bel_drew ?_ | with_reducible refine bel_set ?_ (by dsimp only; omega) _))⟩
    · have H1 := hid (Bool.eq_false_iff.2 h1)
      have HE := hid (errI_no (by rw [hc, H1.out]; simp))
      clear hc he h1
      go_enter Tryz.func14, Tryz.ntmps14
      go_wp2_with fail
      refine (HF.out _).mono ?_
      rintro x w1 ⟨rfl, E⟩
      have B := E1.trans (E.mono E1.size)
      have b := b0.below E
      have hlt := b.1
      obtain ⟨q0, q1, q2, q3, q4, q5, q6, q7⟩ := b.cells
      clear b
      go_wp2_with (go_at_call 47; refine (progReg0 _ _).mono ?_; rintro e w' ⟨rfl, rfl⟩; (try rw [H1.out]))
      go_ret
      exact ⟨ret_int HE.out.symm, (by repeat (first | with_reducible assumption | with_reducible exact Below.refl _ _ | with_reducible refine bel_alloc ?_ _ | with_reducible refine bel_drew ?_ | with_reducible refine bel_set ?_ (by dsimp only; omega) _))⟩
  · have hd : decide (wi = i) = false := decide_eq_false (fun e => he e.symm)
    have hd2 : (!decide (wi = i)) = true := by rw [hd]; rfl
    have hd3 : decide (¬ wi = i) = true := by simpa using (fun e => he (Eq.symm e))
    have HE := hid (errI_no (by rw [hc, decide_eq_false he]; simp))
    clear hc he
    go_enter Tryz.func14, Tryz.ntmps14
    go_wp2_with fail
    refine (HF.out _).mono ?_
    rintro x w1 ⟨rfl, E⟩
    have B := E1.trans (E.mono E1.size)
    have b := b0.below E
    have hlt := b.1
    obtain ⟨q0, q1, q2, q3, q4, q5, q6, q7⟩ := b.cells
    clear b
    go_wp2_with (go_at_call 47; refine (progReg0 _ _).mono ?_; rintro e w' ⟨rfl, rfl⟩)
    go_ret
    exact ⟨ret_int HE.out.symm, (by repeat (first | with_reducible assumption | with_reducible exact Below.refl _ _ | with_reducible refine bel_alloc ?_ _ | with_reducible refine bel_drew ?_ | with_reducible refine bel_set ?_ (by dsimp only; omega) _))⟩
end Go.Proofs.YtigimkgmghjgoaaGreatDoor

/- The walk of the statement MendStrongers. No condition. -/
import Derived.Test.YteijgmaggmhggaaL9
import Derived.Test.YteijgmaggmhggaaE25
import Derived.Test.YteijgmaggmhggaaE31
namespace Go.Proofs.Yteijgmaggmhggaa
open Go.RowKit
set_option linter.unusedVariables false

attribute [local go_sem high] eqE neqE

/-- a row that lies in older memory is not that of a newer one -/
theorem Own.apart {w w' : World} {B B' E E' size size' n n' c c' : Nat} {a a' : Option Addr} {xs xs' : List Value} (h : Own w B E size a n c xs) (h' : Own w' B' E' size' a' n' c' xs') (hb : w.heap.size ≤ B') : Apart a a' := by
  cases a with
  | none => exact .inl rfl
  | some x => cases a' with
    | none => exact .inr (.inl rfl)
    | some y => have h1 := (h.lt (by simp)).2; have h2 := (h'.lt (by simp)).1; exact .inr (.inr (by omega))
theorem refAlike_n (a b : List Int) (a1 a2 : Option Addr) (c1 c2 : Nat) (w : World) (h1 : Ints w a1 a) (h2 : Ints w a2 b) (n m : Nat) (hn : a.length = n) (hm : b.length = m) :
    Calls Try.prog 9 #[.slice a1 n c1, .slice a2 m c2] w (RetQ w (.bool (decide (a = b)))) := by
  subst hn hm; exact refAlike a b a1 a2 c1 c2 w h1 h2
set_option maxRecDepth 100000 in
set_option maxHeartbeats 6400000 in
theorem lawMendStrongers (arch : Int) (e : Edge) (w : World) : Calls Try.prog 3 #[.int .i64 arch, vE e] w (Tru w) := by
  have E1 := al w (mkE e)
  have b0 := Bx.new w e 23
  by_cases hn : strN arch e ≠ 0
  · have P1 := hid (progStronger_no arch e hn)
    have P2 := hid (refStronger_no arch e hn)
    generalize strN arch e = n at *
    have zn : (n != n) = false := by simp
    clear hn
    obtain ⟨q0, q1, q2, q3, q4, q5⟩ := b0.cells
    go_enter Try.func3, Try.ntmps3
    go_wp2_with fail
    refine (P1.out _).mono ?_
    rintro x w1 ⟨rfl, E⟩
    have b := b0.below E
    have B := E1.trans (E.mono E1.size)
    clear q0 q1 q2 q3 q4 q5 b0 E1 E
    obtain ⟨q0, q1, q2, q3, q4, q5⟩ := b.cells
    go_wp2_with fail
    refine (P1.out _).mono ?_
    rintro x w2 ⟨rfl, E⟩
    have b := b.below E
    have B := B.trans (E.mono B.size)
    clear q0 q1 q2 q3 q4 q5 E
    obtain ⟨q0, q1, q2, q3, q4, q5⟩ := b.cells
    go_wp2_with fail
    refine (P2.out _).mono ?_
    rintro x w3 ⟨rfl, E⟩
    have B := B.trans (E.mono B.size)
    clear q0 q1 q2 q3 q4 q5 E b
    have B0 := B.size
    go_wp2_with fail
    refine (refAlikeE [] [] none none 0 0 _ (Es.nil _ _) (Es.nil _ _)).mono ?_
    rintro x w4 ⟨rfl, q⟩
    have B := below_q B B.size q
    rw [decide_eq_true rfl]
    go_wp2_with fail
    refine (refAlike [] [] none none 0 0 _ (Ints.nil _ _) (Ints.nil _ _)).mono ?_
    rintro x w5 ⟨rfl, q⟩
    have B := below_q B B.size q
    rw [decide_eq_true rfl]
    go_wp2_with fail
    refine (refMarkedE [] 1 w5.heap.size none 0 _ (Own.nil _ _ _ _) (Nat.le_refl _) (by simp) (by omega) (by omega)).mono ?_
    rintro x w6 ⟨rfl, o, st⟩
    have B : Below w.heap.size w w6 := st.below (Own.nil _ _ 23 6) B B.size
    go_wp2_with fail
    refine (refMarked [] 2 w6.heap.size none 0 0 _ (Own.nil _ _ _ _) (by omega) (by omega)).mono ?_
    rintro x w7 ⟨rfl, o, st⟩
    have B : Below w.heap.size w w7 := st.below (Own.nil _ _ 3 1) B B.size
    go_wp2_with fail
    refine (refGrownE [] 1 w7.heap.size none 0 _ (Own.nil _ _ _ _) (Nat.le_refl _) (by simp) (by omega) (by omega)).mono ?_
    rintro x w8 ⟨rfl, o, st⟩
    have B : Below w.heap.size w w8 := st.below (Own.nil _ _ 23 6) B B.size
    go_wp2_with fail
    refine (refGrown [] 2 w8.heap.size none 0 0 _ (Own.nil _ _ _ _) (Nat.le_refl _) (by simp) (by omega) (by omega)).mono ?_
    rintro x w9 ⟨rfl, o, st⟩
    have B : Below w.heap.size w w9 := st.below (Own.nil _ _ 3 1) B B.size
    clear o st
    go_wp2_with fail
    refine (refAlikeE [] [] none none 0 0 _ (Es.nil _ _) (Es.nil _ _)).mono ?_
    rintro x w4 ⟨rfl, q⟩
    have B := below_q B B.size q
    rw [decide_eq_true rfl]
    go_wp2_with fail
    refine (refAlike [] [] none none 0 0 _ (Ints.nil _ _) (Ints.nil _ _)).mono ?_
    rintro x w5 ⟨rfl, q⟩
    have B := below_q B B.size q
    rw [decide_eq_true rfl]
    go_wp2_with fail
    refine (awake26 _).mono ?_
    rintro x w10 ⟨rfl, E⟩
    have B := B.trans (E.mono B.size)
    go_wp2_with fail
    go_ret
    exact ⟨rfl, B⟩
  · have hz : strN arch e = 0 := by omega
    have ha : isArch arch := by
      apply Classical.byContradiction; intro h
      unfold strN at hz; rw [if_neg h] at hz; omega
    have hz2 : errA arch e = 0 := by unfold strN at hz; rwa [if_pos ha] at hz
    have P1 := hid (progStronger_ok arch ha e hz2)
    have P2 := hid (refStronger_ok arch ha e hz2)
    have hll := strongE_length ha (errA_zero hz2).1
    generalize strongE arch e = L at *
    clear hn hz ha hz2
    have hcl : (costsE e L).length = L.length := by simp [costsE]
    obtain ⟨C, hC⟩ : ∃ C, costsE e L = C := ⟨_, rfl⟩
    have hCl : C.length < 20 := by rw [← hC, hcl]; exact hll
    have HC := hid hC; have HCL := hid (show C.length = L.length by rw [← hC]; exact hcl)
    clear hC hcl
    obtain ⟨q0, q1, q2, q3, q4, q5⟩ := b0.cells
    go_enter Try.func3, Try.ntmps3
    go_wp2_with fail
    refine (P1.out _).mono ?_
    rintro x w1 ⟨a1, c1, n1, d1, rfl, o1, i1, ap1, E⟩
    rw [HC.out] at i1
    have b := b0.below E
    have B := E1.trans (E.mono E1.size)
    have o1 := Own.mono o1 E1.size; have i1 := Own.mono i1 E1.size
    clear q0 q1 q2 q3 q4 q5 b0 E1 E
    obtain ⟨q0, q1, q2, q3, q4, q5⟩ := b.cells
    go_wp2_with fail
    refine (P1.out _).mono ?_
    rintro x w2 ⟨a2, c2, n2, d2, rfl, o2, i2, ap2, E⟩
    rw [HC.out] at i2
    have p12 := Own.apart o1 o2 (Nat.le_refl _); have p1n2 := Own.apart o1 i2 (Nat.le_refl _)
    have pn12 := Own.apart i1 o2 (Nat.le_refl _); have pn1n2 := Own.apart i1 i2 (Nat.le_refl _)
    have b := b.below E
    have o1 := o1.below E; have i1 := i1.below E
    have o2 := Own.mono o2 B.size; have i2 := Own.mono i2 B.size
    have B := B.trans (E.mono B.size)
    clear q0 q1 q2 q3 q4 q5 E
    obtain ⟨q0, q1, q2, q3, q4, q5⟩ := b.cells
    go_wp2_with fail
    refine (P2.out _).mono ?_
    rintro x w3 ⟨a3, c3, n3, d3, rfl, o3, i3, ap3, E⟩
    rw [HC.out] at i3
    have p13 := Own.apart o1 o3 (Nat.le_refl _); have p1n3 := Own.apart o1 i3 (Nat.le_refl _)
    have pn13 := Own.apart i1 o3 (Nat.le_refl _); have pn1n3 := Own.apart i1 i3 (Nat.le_refl _)
    have o1 := o1.below E; have i1 := i1.below E; have o2 := o2.below E; have i2 := i2.below E
    have o3 := Own.mono o3 B.size; have i3 := Own.mono i3 B.size
    have B := B.trans (E.mono B.size)
    clear q0 q1 q2 q3 q4 q5 E b
    have hw : w.heap.size ≤ w3.heap.size := B.size
    go_wp2_with fail
    refine (refAlikeE L L a1 a3 c1 c3 _ (OwnE.es o1 (by omega)) (OwnE.es o3 (by omega))).mono ?_
    rintro x w4 ⟨rfl, q⟩
    rw [decide_eq_true rfl]
    have E := q.below
    have o1 := o1.below E; have i1 := i1.below E; have o2 := o2.below E; have i2 := i2.below E; have o3 := o3.below E; have i3 := i3.below E
    have B := B.trans (E.mono B.size)
    clear E q hw
    go_wp2_with fail
    refine (refAlike_n C C n1 n3 d1 d3 _ i1.ints.1 i3.ints.1 _ _ HCL.out HCL.out).mono ?_
    rintro x w5 ⟨rfl, q⟩
    rw [decide_eq_true rfl]
    have E := q.below
    have o1 := o1.below E; have i1 := i1.below E; have o2 := o2.below E; have i2 := i2.below E; have o3 := o3.below E; have i3 := i3.below E
    have B := B.trans (E.mono B.size)
    clear E q
    go_wp2_with fail
    refine (refMarkedE L 1 w.heap.size a1 c1 _ o1 B.size (by omega) (by omega) (by omega)).mono ?_
    rintro x w6 ⟨rfl, o1', st⟩
    have i1 := (Own.step i1 st ap1.symm).1; have o2 := (Own.step o2 st p12.symm).1; have i2 := (Own.step i2 st p1n2.symm).1; have o3 := (Own.step o3 st p13.symm).1; have i3 := (Own.step i3 st p1n3.symm).1
    have B : Below w.heap.size w w6 := st.below o1 B B.size
    have o1 : OwnE w6 w.heap.size a1 L.length c1 _ := o1'
    clear o1' st
    generalize hM : List.replicate L.length (markE (500 + 1)) = M at o1
    have hMl : M.length = L.length := by rw [← hM]; simp
    clear hM
    go_wp2_with fail
    refine (refMarked C 2 w.heap.size n1 _ d1 _ i1 (by omega) (by omega)).mono ?_
    rintro x w7 ⟨rfl, i1', st⟩
    have o1 := (Own.step o1 st ap1).1; have o2 := (Own.step o2 st pn12.symm).1; have i2 := (Own.step i2 st pn1n2.symm).1; have o3 := (Own.step o3 st pn13.symm).1; have i3 := (Own.step i3 st pn1n3.symm).1
    have B : Below w.heap.size w w7 := st.below i1 B B.size
    have i1 : OwnI w7 w.heap.size n1 L.length d1 _ := i1'
    clear i1' st
    generalize hN : List.replicate C.length (-1000000 - (2 : Int)) = N at i1
    have hNl : N.length < 20 := by rw [← hN]; simpa using hCl
    clear hN
    rw [← hMl] at o1
    have GE := refGrownE M 1 w.heap.size a1 c1 w7 o1 B.size (by omega) (by omega) (by omega)
    rw [hMl] at GE o1
    have GE := hid GE
    have HMl := hid hMl; clear hMl
    go_wp2_with fail
    refine GE.out.mono ?_
    clear GE
    rintro x w8 ⟨rfl, o1', st⟩
    have i1 := (Own.step i1 st ap1.symm).1; have o2 := (Own.step o2 st p12.symm).1; have i2 := (Own.step i2 st p1n2.symm).1; have o3 := (Own.step o3 st p13.symm).1; have i3 := (Own.step i3 st p1n3.symm).1
    have B : Below w.heap.size w w8 := st.below o1 B B.size
    clear o1 o1' st
    go_wp2_with fail
    refine (refGrown N 2 w.heap.size n1 _ d1 _ i1 B.size (by omega) (by omega) (by omega)).mono ?_
    rintro x w9 ⟨rfl, i1', st⟩
    have o2 := (Own.step o2 st pn12.symm).1; have i2 := (Own.step i2 st pn1n2.symm).1; have o3 := (Own.step o3 st pn13.symm).1; have i3 := (Own.step i3 st pn1n3.symm).1
    have B : Below w.heap.size w w9 := st.below i1 B B.size
    clear i1 i1' st
    go_wp2_with fail
    refine (refAlikeE L L a2 a3 c2 c3 _ (OwnE.es o2 (by omega)) (OwnE.es o3 (by omega))).mono ?_
    rintro x w4 ⟨rfl, q⟩
    rw [decide_eq_true rfl]
    have E := q.below
    have i2 := i2.below E; have i3 := i3.below E
    have B := B.trans (E.mono B.size)
    clear E q
    go_wp2_with fail
    refine (refAlike_n C C n2 n3 d2 d3 _ i2.ints.1 i3.ints.1 _ _ HCL.out HCL.out).mono ?_
    rintro x w5 ⟨rfl, q⟩
    rw [decide_eq_true rfl]
    have E := q.below
    have B := B.trans (E.mono B.size)
    clear E q i2 i3 o2 o3
    go_wp2_with fail
    refine (awake26 _).mono ?_
    rintro x w10 ⟨rfl, E⟩
    have B := B.trans (E.mono B.size)
    go_wp2_with fail
    go_ret
    exact ⟨rfl, B⟩
end Go.Proofs.Yteijgmaggmhggaa

/- The walk of Uses (the document's answer). Condition: lengths that an int holds. -/
import Derived.Test.YtigimkgmghjgoaaGreatDoorU2
import Derived.Test.YtigimkgmghjgoaaGreatDoorS5
namespace Go.Proofs.YtigimkgmghjgoaaGreatDoor
open Go.RowKit Go.Sort
set_option linter.unusedVariables false

set_option maxRecDepth 100000 in
theorem refUses_no (i : Ins) (h : checkI i = false) (hl : i.label.length ≤ 9223372036854775807) (w : World) : Calls Tryz.prog 31 #[vI i] w (RetL (usesV i) w) := by
  have E1 := al w (mkI i)
  have HE := hid (errI_no h)
  have HV := hid (usesV_no h)
  generalize usesV i = r at *
  clear h
  go_enter Tryz.func31, Tryz.ntmps31
  go_wp2_with fail
  refine (refCheck i hl _).mono ?_
  rintro x w1 ⟨rfl, E⟩
  rw [HE.out]
  have B := E1.trans (E.mono E1.size)
  go_wp2_with fail
  go_ret3
  exact RetL.nil HV.out rfl B
set_option maxRecDepth 100000 in
set_option maxHeartbeats 1600000 in
theorem refUses_12 (i : Ins) (hop : i.op = 12) (hc : checkI i = true) (hl : i.label.length ≤ 9223372036854775807) (w : World) : Calls Tryz.prog 31 #[vI i] w (RetL (usesV i) w) := by
  have E1 := al w (mkI i)
  have b0 := BxI.new w i
  have HE := hid (errI_yes hc)
  have HV := hid (show usesV i = ([], -1, 0) by unfold usesV usesL usesW; rw [hc, if_pos rfl]; simp only [hop]; simp)
  generalize usesV i = r at *
  have HOP := hid hop
  clear hc hop
  go_enter Tryz.func31, Tryz.ntmps31
  go_wp2_with fail
  refine (refCheck i hl _).mono ?_
  rintro x w1 ⟨rfl, E⟩
  rw [HE.out]
  have bb := b0.below E
  have B := E1.trans (E.mono E1.size)
  obtain ⟨q0, q1, q2, q3, q4, q5, q6, q7⟩ := bb.cells
  rw [HOP.out] at q0
  clear b0 bb E1 E
  go_wp2_with fail
  go_ret3
  exact RetL.nil HV.out rfl B
set_option maxRecDepth 100000 in
set_option maxHeartbeats 1600000 in
theorem refUses_13 (i : Ins) (hop : i.op = 13) (hc : checkI i = true) (hl : i.label.length ≤ 9223372036854775807) (w : World) : Calls Tryz.prog 31 #[vI i] w (RetL (usesV i) w) := by
  have E1 := al w (mkI i)
  have b0 := BxI.new w i
  have HE := hid (errI_yes hc)
  have HV := hid (show usesV i = ([], -1, 0) by unfold usesV usesL usesW; rw [hc, if_pos rfl]; simp only [hop]; simp)
  generalize usesV i = r at *
  have HOP := hid hop
  clear hc hop
  go_enter Tryz.func31, Tryz.ntmps31
  go_wp2_with fail
  refine (refCheck i hl _).mono ?_
  rintro x w1 ⟨rfl, E⟩
  rw [HE.out]
  have bb := b0.below E
  have B := E1.trans (E.mono E1.size)
  obtain ⟨q0, q1, q2, q3, q4, q5, q6, q7⟩ := bb.cells
  rw [HOP.out] at q0
  clear b0 bb E1 E
  go_wp2_with fail
  go_ret3
  exact RetL.nil HV.out rfl B
set_option maxRecDepth 100000 in
set_option maxHeartbeats 1600000 in
theorem refUses_6 (i : Ins) (hop : i.op = 6) (hc : checkI i = true) (hl : i.label.length ≤ 9223372036854775807) (w : World) : Calls Tryz.prog 31 #[vI i] w (RetL (usesV i) w) := by
  have E1 := al w (mkI i)
  have b0 := BxI.new w i
  have HE := hid (errI_yes hc)
  have HV := hid (show usesV i = ([i.a], i.d, 0) by unfold usesV usesL usesW; rw [hc, if_pos rfl]; simp only [hop]; simp)
  generalize usesV i = r at *
  have HOP := hid hop
  clear hc hop
  go_enter Tryz.func31, Tryz.ntmps31
  go_wp2_with fail
  refine (refCheck i hl _).mono ?_
  rintro x w1 ⟨rfl, E⟩
  rw [HE.out]
  have bb := b0.below E
  have B := E1.trans (E.mono E1.size)
  obtain ⟨q0, q1, q2, q3, q4, q5, q6, q7⟩ := bb.cells
  rw [HOP.out] at q0
  clear b0 E1 E
  go_wp2_with (at_builtin; go_loud (refine wpList_app1 isl (.tmp 45) (.tmp 48) rfl rfl rfl (Own.nil _ _ _ _ : OwnI _ w1.heap.size none 0 0 []) rfl rfl (by intro u hu; simp at hu; subst hu; rfl) (Below.refl _ _ : Below w1.heap.size w1 w1) (Below.refl _ _ : Below w1.heap.size w1 w1).size (by omega) (by unfold maxLen; omega) ?_))
  intro a1 c1 v1 o1 g1 B1
  have F1 : Below w1.heap.size w1 v1 := B1
  have bb1 := bb.below F1
  clear q0 q1 q2 q3 q4 q5 q6 q7
  obtain ⟨q0, q1, q2, q3, q4, q5, q6, q7⟩ := bb1.cells
  have p1 : OwnI v1 w1.heap.size a1 1 c1 [i.a] := by simpa [OwnI] using o1
  have B := B.trans (F1.mono B.size)
  have p := Own.mono p1 (show w.heap.size ≤ w1.heap.size by have := bb.1; omega)
  go_wp2_with fail
  go_ret3
  exact RetL.of HV.out rfl rfl p B
set_option maxRecDepth 100000 in
set_option maxHeartbeats 1600000 in
theorem refUses_8 (i : Ins) (hop : i.op = 8) (hc : checkI i = true) (hl : i.label.length ≤ 9223372036854775807) (w : World) : Calls Tryz.prog 31 #[vI i] w (RetL (usesV i) w) := by
  have E1 := al w (mkI i)
  have b0 := BxI.new w i
  have HE := hid (errI_yes hc)
  have HV := hid (show usesV i = ([i.a], i.d, 0) by unfold usesV usesL usesW; rw [hc, if_pos rfl]; simp only [hop]; simp)
  generalize usesV i = r at *
  have HOP := hid hop
  clear hc hop
  go_enter Tryz.func31, Tryz.ntmps31
  go_wp2_with fail
  refine (refCheck i hl _).mono ?_
  rintro x w1 ⟨rfl, E⟩
  rw [HE.out]
  have bb := b0.below E
  have B := E1.trans (E.mono E1.size)
  obtain ⟨q0, q1, q2, q3, q4, q5, q6, q7⟩ := bb.cells
  rw [HOP.out] at q0
  clear b0 E1 E
  go_wp2_with (at_builtin; go_loud (refine wpList_app1 isl (.tmp 45) (.tmp 48) rfl rfl rfl (Own.nil _ _ _ _ : OwnI _ w1.heap.size none 0 0 []) rfl rfl (by intro u hu; simp at hu; subst hu; rfl) (Below.refl _ _ : Below w1.heap.size w1 w1) (Below.refl _ _ : Below w1.heap.size w1 w1).size (by omega) (by unfold maxLen; omega) ?_))
  intro a1 c1 v1 o1 g1 B1
  have F1 : Below w1.heap.size w1 v1 := B1
  have bb1 := bb.below F1
  clear q0 q1 q2 q3 q4 q5 q6 q7
  obtain ⟨q0, q1, q2, q3, q4, q5, q6, q7⟩ := bb1.cells
  have p1 : OwnI v1 w1.heap.size a1 1 c1 [i.a] := by simpa [OwnI] using o1
  have B := B.trans (F1.mono B.size)
  have p := Own.mono p1 (show w.heap.size ≤ w1.heap.size by have := bb.1; omega)
  go_wp2_with fail
  go_ret3
  exact RetL.of HV.out rfl rfl p B
set_option maxRecDepth 100000 in
set_option maxHeartbeats 1600000 in
theorem refUses_9_lt (i : Ins) (hop : i.op = 9) (hc : checkI i = true) (hab : i.b < i.a) (hl : i.label.length ≤ 9223372036854775807) (w : World) : Calls Tryz.prog 31 #[vI i] w (RetL (usesV i) w) := by
  have E1 := al w (mkI i)
  have b0 := BxI.new w i
  have HE := hid (errI_yes hc)
  have HV := hid (show usesV i = ([i.b, i.a], i.d, 0) by unfold usesV usesL usesW; rw [hc, if_pos rfl]; simp only [hop]; simp [hab])
  generalize usesV i = r at *
  have HOP := hid hop
  clear hc hop
  have t1 : decide (i.b < i.a) = true := by simpa using hab
  have t2 : decide (i.a < i.b) = false := by simp; omega
  clear hab
  go_enter Tryz.func31, Tryz.ntmps31
  go_wp2_with fail
  refine (refCheck i hl _).mono ?_
  rintro x w1 ⟨rfl, E⟩
  rw [HE.out]
  have bb := b0.below E
  have B := E1.trans (E.mono E1.size)
  obtain ⟨q0, q1, q2, q3, q4, q5, q6, q7⟩ := bb.cells
  rw [HOP.out] at q0
  clear b0 E1 E
  go_wp2_with (at_builtin; go_loud (refine wpList_app1 isl (.tmp 40) (.tmp 43) rfl rfl rfl (Own.nil _ _ _ _ : OwnI _ w1.heap.size none 0 0 []) rfl rfl (by intro u hu; simp at hu; subst hu; rfl) (Below.refl _ _ : Below w1.heap.size w1 w1) (Below.refl _ _ : Below w1.heap.size w1 w1).size (by omega) (by unfold maxLen; omega) ?_))
  intro a1 c1 v1 o1 g1 B1
  have F1 : Below w1.heap.size w1 v1 := B1
  have bb1 := bb.below F1
  clear q0 q1 q2 q3 q4 q5 q6 q7
  obtain ⟨q0, q1, q2, q3, q4, q5, q6, q7⟩ := bb1.cells
  have p1 : OwnI v1 w1.heap.size a1 1 c1 [i.b] := by simpa [OwnI] using o1
  go_wp2_with (at_builtin; go_loud (refine wpList_app1 isl (.tmp 45) (.tmp 48) rfl rfl rfl p1 rfl rfl (by intro u hu; simp at hu; subst hu; rfl) B1 B1.size (by omega) (by unfold maxLen; omega) ?_))
  intro a2 c2 v2 o2 g2 B2
  have F2 : Below w1.heap.size w1 v2 := B2
  have bb2 := bb.below F2
  clear q0 q1 q2 q3 q4 q5 q6 q7
  obtain ⟨q0, q1, q2, q3, q4, q5, q6, q7⟩ := bb2.cells
  have p2 : OwnI v2 w1.heap.size a2 2 c2 [i.b, i.a] := by simpa [OwnI] using o2
  have B := B.trans (F2.mono B.size)
  have p := Own.mono p2 (show w.heap.size ≤ w1.heap.size by have := bb.1; omega)
  go_wp2_with fail
  go_ret3
  exact RetL.of HV.out rfl rfl p B
set_option maxRecDepth 100000 in
set_option maxHeartbeats 1600000 in
theorem refUses_9_eq (i : Ins) (hop : i.op = 9) (hc : checkI i = true) (hab : i.b = i.a) (hl : i.label.length ≤ 9223372036854775807) (w : World) : Calls Tryz.prog 31 #[vI i] w (RetL (usesV i) w) := by
  have E1 := al w (mkI i)
  have b0 := BxI.new w i
  have HE := hid (errI_yes hc)
  have HV := hid (show usesV i = ([i.a], i.d, 0) by unfold usesV usesL usesW; rw [hc, if_pos rfl]; simp only [hop]; simp [hab])
  generalize usesV i = r at *
  have HOP := hid hop
  clear hc hop
  have t1 : decide (i.b < i.a) = false := by simp; omega
  have t2 : decide (i.a < i.b) = false := by simp; omega
  clear hab
  go_enter Tryz.func31, Tryz.ntmps31
  go_wp2_with fail
  refine (refCheck i hl _).mono ?_
  rintro x w1 ⟨rfl, E⟩
  rw [HE.out]
  have bb := b0.below E
  have B := E1.trans (E.mono E1.size)
  obtain ⟨q0, q1, q2, q3, q4, q5, q6, q7⟩ := bb.cells
  rw [HOP.out] at q0
  clear b0 E1 E
  go_wp2_with (at_builtin; go_loud (refine wpList_app1 isl (.tmp 45) (.tmp 48) rfl rfl rfl (Own.nil _ _ _ _ : OwnI _ w1.heap.size none 0 0 []) rfl rfl (by intro u hu; simp at hu; subst hu; rfl) (Below.refl _ _ : Below w1.heap.size w1 w1) (Below.refl _ _ : Below w1.heap.size w1 w1).size (by omega) (by unfold maxLen; omega) ?_))
  intro a1 c1 v1 o1 g1 B1
  have F1 : Below w1.heap.size w1 v1 := B1
  have bb1 := bb.below F1
  clear q0 q1 q2 q3 q4 q5 q6 q7
  obtain ⟨q0, q1, q2, q3, q4, q5, q6, q7⟩ := bb1.cells
  have p1 : OwnI v1 w1.heap.size a1 1 c1 [i.a] := by simpa [OwnI] using o1
  have B := B.trans (F1.mono B.size)
  have p := Own.mono p1 (show w.heap.size ≤ w1.heap.size by have := bb.1; omega)
  go_wp2_with fail
  go_ret3
  exact RetL.of HV.out rfl rfl p B
set_option maxRecDepth 100000 in
set_option maxHeartbeats 1600000 in
theorem refUses_9_gt (i : Ins) (hop : i.op = 9) (hc : checkI i = true) (hab : i.a < i.b) (hl : i.label.length ≤ 9223372036854775807) (w : World) : Calls Tryz.prog 31 #[vI i] w (RetL (usesV i) w) := by
  have E1 := al w (mkI i)
  have b0 := BxI.new w i
  have HE := hid (errI_yes hc)
  have HV := hid (show usesV i = ([i.a, i.b], i.d, 0) by unfold usesV usesL usesW; rw [hc, if_pos rfl]; simp only [hop]; simp [hab, show ¬ i.b < i.a by omega])
  generalize usesV i = r at *
  have HOP := hid hop
  clear hc hop
  have t1 : decide (i.b < i.a) = false := by simp; omega
  have t2 : decide (i.a < i.b) = true := by simpa using hab
  clear hab
  go_enter Tryz.func31, Tryz.ntmps31
  go_wp2_with fail
  refine (refCheck i hl _).mono ?_
  rintro x w1 ⟨rfl, E⟩
  rw [HE.out]
  have bb := b0.below E
  have B := E1.trans (E.mono E1.size)
  obtain ⟨q0, q1, q2, q3, q4, q5, q6, q7⟩ := bb.cells
  rw [HOP.out] at q0
  clear b0 E1 E
  go_wp2_with (at_builtin; go_loud (refine wpList_app1 isl (.tmp 45) (.tmp 48) rfl rfl rfl (Own.nil _ _ _ _ : OwnI _ w1.heap.size none 0 0 []) rfl rfl (by intro u hu; simp at hu; subst hu; rfl) (Below.refl _ _ : Below w1.heap.size w1 w1) (Below.refl _ _ : Below w1.heap.size w1 w1).size (by omega) (by unfold maxLen; omega) ?_))
  intro a1 c1 v1 o1 g1 B1
  have F1 : Below w1.heap.size w1 v1 := B1
  have bb1 := bb.below F1
  clear q0 q1 q2 q3 q4 q5 q6 q7
  obtain ⟨q0, q1, q2, q3, q4, q5, q6, q7⟩ := bb1.cells
  have p1 : OwnI v1 w1.heap.size a1 1 c1 [i.a] := by simpa [OwnI] using o1
  go_wp2_with (at_builtin; go_loud (refine wpList_app1 isl (.tmp 58) (.tmp 61) rfl rfl rfl p1 rfl rfl (by intro u hu; simp at hu; subst hu; rfl) B1 B1.size (by omega) (by unfold maxLen; omega) ?_))
  intro a2 c2 v2 o2 g2 B2
  have F2 : Below w1.heap.size w1 v2 := B2
  have bb2 := bb.below F2
  clear q0 q1 q2 q3 q4 q5 q6 q7
  obtain ⟨q0, q1, q2, q3, q4, q5, q6, q7⟩ := bb2.cells
  have p2 : OwnI v2 w1.heap.size a2 2 c2 [i.a, i.b] := by simpa [OwnI] using o2
  have B := B.trans (F2.mono B.size)
  have p := Own.mono p2 (show w.heap.size ≤ w1.heap.size by have := bb.1; omega)
  go_wp2_with fail
  go_ret3
  exact RetL.of HV.out rfl rfl p B
set_option maxRecDepth 100000 in
set_option maxHeartbeats 1600000 in
theorem refUses_10_lt (i : Ins) (hop : i.op = 10) (hc : checkI i = true) (hab : i.b < i.a) (hl : i.label.length ≤ 9223372036854775807) (w : World) : Calls Tryz.prog 31 #[vI i] w (RetL (usesV i) w) := by
  have E1 := al w (mkI i)
  have b0 := BxI.new w i
  have HE := hid (errI_yes hc)
  have HV := hid (show usesV i = ([i.b, i.a], i.d, 0) by unfold usesV usesL usesW; rw [hc, if_pos rfl]; simp only [hop]; simp [hab])
  generalize usesV i = r at *
  have HOP := hid hop
  clear hc hop
  have t1 : decide (i.b < i.a) = true := by simpa using hab
  have t2 : decide (i.a < i.b) = false := by simp; omega
  clear hab
  go_enter Tryz.func31, Tryz.ntmps31
  go_wp2_with fail
  refine (refCheck i hl _).mono ?_
  rintro x w1 ⟨rfl, E⟩
  rw [HE.out]
  have bb := b0.below E
  have B := E1.trans (E.mono E1.size)
  obtain ⟨q0, q1, q2, q3, q4, q5, q6, q7⟩ := bb.cells
  rw [HOP.out] at q0
  clear b0 E1 E
  go_wp2_with (at_builtin; go_loud (refine wpList_app1 isl (.tmp 40) (.tmp 43) rfl rfl rfl (Own.nil _ _ _ _ : OwnI _ w1.heap.size none 0 0 []) rfl rfl (by intro u hu; simp at hu; subst hu; rfl) (Below.refl _ _ : Below w1.heap.size w1 w1) (Below.refl _ _ : Below w1.heap.size w1 w1).size (by omega) (by unfold maxLen; omega) ?_))
  intro a1 c1 v1 o1 g1 B1
  have F1 : Below w1.heap.size w1 v1 := B1
  have bb1 := bb.below F1
  clear q0 q1 q2 q3 q4 q5 q6 q7
  obtain ⟨q0, q1, q2, q3, q4, q5, q6, q7⟩ := bb1.cells
  have p1 : OwnI v1 w1.heap.size a1 1 c1 [i.b] := by simpa [OwnI] using o1
  go_wp2_with (at_builtin; go_loud (refine wpList_app1 isl (.tmp 45) (.tmp 48) rfl rfl rfl p1 rfl rfl (by intro u hu; simp at hu; subst hu; rfl) B1 B1.size (by omega) (by unfold maxLen; omega) ?_))
  intro a2 c2 v2 o2 g2 B2
  have F2 : Below w1.heap.size w1 v2 := B2
  have bb2 := bb.below F2
  clear q0 q1 q2 q3 q4 q5 q6 q7
  obtain ⟨q0, q1, q2, q3, q4, q5, q6, q7⟩ := bb2.cells
  have p2 : OwnI v2 w1.heap.size a2 2 c2 [i.b, i.a] := by simpa [OwnI] using o2
  have B := B.trans (F2.mono B.size)
  have p := Own.mono p2 (show w.heap.size ≤ w1.heap.size by have := bb.1; omega)
  go_wp2_with fail
  go_ret3
  exact RetL.of HV.out rfl rfl p B
set_option maxRecDepth 100000 in
set_option maxHeartbeats 1600000 in
theorem refUses_10_eq (i : Ins) (hop : i.op = 10) (hc : checkI i = true) (hab : i.b = i.a) (hl : i.label.length ≤ 9223372036854775807) (w : World) : Calls Tryz.prog 31 #[vI i] w (RetL (usesV i) w) := by
  have E1 := al w (mkI i)
  have b0 := BxI.new w i
  have HE := hid (errI_yes hc)
  have HV := hid (show usesV i = ([i.a], i.d, 0) by unfold usesV usesL usesW; rw [hc, if_pos rfl]; simp only [hop]; simp [hab])
  generalize usesV i = r at *
  have HOP := hid hop
  clear hc hop
  have t1 : decide (i.b < i.a) = false := by simp; omega
  have t2 : decide (i.a < i.b) = false := by simp; omega
  clear hab
  go_enter Tryz.func31, Tryz.ntmps31
  go_wp2_with fail
  refine (refCheck i hl _).mono ?_
  rintro x w1 ⟨rfl, E⟩
  rw [HE.out]
  have bb := b0.below E
  have B := E1.trans (E.mono E1.size)
  obtain ⟨q0, q1, q2, q3, q4, q5, q6, q7⟩ := bb.cells
  rw [HOP.out] at q0
  clear b0 E1 E
  go_wp2_with (at_builtin; go_loud (refine wpList_app1 isl (.tmp 45) (.tmp 48) rfl rfl rfl (Own.nil _ _ _ _ : OwnI _ w1.heap.size none 0 0 []) rfl rfl (by intro u hu; simp at hu; subst hu; rfl) (Below.refl _ _ : Below w1.heap.size w1 w1) (Below.refl _ _ : Below w1.heap.size w1 w1).size (by omega) (by unfold maxLen; omega) ?_))
  intro a1 c1 v1 o1 g1 B1
  have F1 : Below w1.heap.size w1 v1 := B1
  have bb1 := bb.below F1
  clear q0 q1 q2 q3 q4 q5 q6 q7
  obtain ⟨q0, q1, q2, q3, q4, q5, q6, q7⟩ := bb1.cells
  have p1 : OwnI v1 w1.heap.size a1 1 c1 [i.a] := by simpa [OwnI] using o1
  have B := B.trans (F1.mono B.size)
  have p := Own.mono p1 (show w.heap.size ≤ w1.heap.size by have := bb.1; omega)
  go_wp2_with fail
  go_ret3
  exact RetL.of HV.out rfl rfl p B
set_option maxRecDepth 100000 in
set_option maxHeartbeats 1600000 in
theorem refUses_10_gt (i : Ins) (hop : i.op = 10) (hc : checkI i = true) (hab : i.a < i.b) (hl : i.label.length ≤ 9223372036854775807) (w : World) : Calls Tryz.prog 31 #[vI i] w (RetL (usesV i) w) := by
  have E1 := al w (mkI i)
  have b0 := BxI.new w i
  have HE := hid (errI_yes hc)
  have HV := hid (show usesV i = ([i.a, i.b], i.d, 0) by unfold usesV usesL usesW; rw [hc, if_pos rfl]; simp only [hop]; simp [hab, show ¬ i.b < i.a by omega])
  generalize usesV i = r at *
  have HOP := hid hop
  clear hc hop
  have t1 : decide (i.b < i.a) = false := by simp; omega
  have t2 : decide (i.a < i.b) = true := by simpa using hab
  clear hab
  go_enter Tryz.func31, Tryz.ntmps31
  go_wp2_with fail
  refine (refCheck i hl _).mono ?_
  rintro x w1 ⟨rfl, E⟩
  rw [HE.out]
  have bb := b0.below E
  have B := E1.trans (E.mono E1.size)
  obtain ⟨q0, q1, q2, q3, q4, q5, q6, q7⟩ := bb.cells
  rw [HOP.out] at q0
  clear b0 E1 E
  go_wp2_with (at_builtin; go_loud (refine wpList_app1 isl (.tmp 45) (.tmp 48) rfl rfl rfl (Own.nil _ _ _ _ : OwnI _ w1.heap.size none 0 0 []) rfl rfl (by intro u hu; simp at hu; subst hu; rfl) (Below.refl _ _ : Below w1.heap.size w1 w1) (Below.refl _ _ : Below w1.heap.size w1 w1).size (by omega) (by unfold maxLen; omega) ?_))
  intro a1 c1 v1 o1 g1 B1
  have F1 : Below w1.heap.size w1 v1 := B1
  have bb1 := bb.below F1
  clear q0 q1 q2 q3 q4 q5 q6 q7
  obtain ⟨q0, q1, q2, q3, q4, q5, q6, q7⟩ := bb1.cells
  have p1 : OwnI v1 w1.heap.size a1 1 c1 [i.a] := by simpa [OwnI] using o1
  go_wp2_with (at_builtin; go_loud (refine wpList_app1 isl (.tmp 58) (.tmp 61) rfl rfl rfl p1 rfl rfl (by intro u hu; simp at hu; subst hu; rfl) B1 B1.size (by omega) (by unfold maxLen; omega) ?_))
  intro a2 c2 v2 o2 g2 B2
  have F2 : Below w1.heap.size w1 v2 := B2
  have bb2 := bb.below F2
  clear q0 q1 q2 q3 q4 q5 q6 q7
  obtain ⟨q0, q1, q2, q3, q4, q5, q6, q7⟩ := bb2.cells
  have p2 : OwnI v2 w1.heap.size a2 2 c2 [i.a, i.b] := by simpa [OwnI] using o2
  have B := B.trans (F2.mono B.size)
  have p := Own.mono p2 (show w.heap.size ≤ w1.heap.size by have := bb.1; omega)
  go_wp2_with fail
  go_ret3
  exact RetL.of HV.out rfl rfl p B
set_option maxRecDepth 100000 in
set_option maxHeartbeats 1600000 in
theorem refUses_7_lt (i : Ins) (hop : i.op = 7) (hc : checkI i = true) (hab : i.b < i.a) (hl : i.label.length ≤ 9223372036854775807) (w : World) : Calls Tryz.prog 31 #[vI i] w (RetL (usesV i) w) := by
  have E1 := al w (mkI i)
  have b0 := BxI.new w i
  have HE := hid (errI_yes hc)
  have HV := hid (show usesV i = ([i.b, i.a], -1, 0) by unfold usesV usesL usesW; rw [hc, if_pos rfl]; simp only [hop]; simp [hab])
  generalize usesV i = r at *
  have HOP := hid hop
  clear hc hop
  have t1 : decide (i.b < i.a) = true := by simpa using hab
  have t2 : decide (i.a < i.b) = false := by simp; omega
  clear hab
  go_enter Tryz.func31, Tryz.ntmps31
  go_wp2_with fail
  refine (refCheck i hl _).mono ?_
  rintro x w1 ⟨rfl, E⟩
  rw [HE.out]
  have bb := b0.below E
  have B := E1.trans (E.mono E1.size)
  obtain ⟨q0, q1, q2, q3, q4, q5, q6, q7⟩ := bb.cells
  rw [HOP.out] at q0
  clear b0 E1 E
  go_wp2_with (at_builtin; go_loud (refine wpList_app1 isl (.tmp 40) (.tmp 43) rfl rfl rfl (Own.nil _ _ _ _ : OwnI _ w1.heap.size none 0 0 []) rfl rfl (by intro u hu; simp at hu; subst hu; rfl) (Below.refl _ _ : Below w1.heap.size w1 w1) (Below.refl _ _ : Below w1.heap.size w1 w1).size (by omega) (by unfold maxLen; omega) ?_))
  intro a1 c1 v1 o1 g1 B1
  have F1 : Below w1.heap.size w1 v1 := B1
  have bb1 := bb.below F1
  clear q0 q1 q2 q3 q4 q5 q6 q7
  obtain ⟨q0, q1, q2, q3, q4, q5, q6, q7⟩ := bb1.cells
  have p1 : OwnI v1 w1.heap.size a1 1 c1 [i.b] := by simpa [OwnI] using o1
  go_wp2_with (at_builtin; go_loud (refine wpList_app1 isl (.tmp 45) (.tmp 48) rfl rfl rfl p1 rfl rfl (by intro u hu; simp at hu; subst hu; rfl) B1 B1.size (by omega) (by unfold maxLen; omega) ?_))
  intro a2 c2 v2 o2 g2 B2
  have F2 : Below w1.heap.size w1 v2 := B2
  have bb2 := bb.below F2
  clear q0 q1 q2 q3 q4 q5 q6 q7
  obtain ⟨q0, q1, q2, q3, q4, q5, q6, q7⟩ := bb2.cells
  have p2 : OwnI v2 w1.heap.size a2 2 c2 [i.b, i.a] := by simpa [OwnI] using o2
  have B := B.trans (F2.mono B.size)
  have p := Own.mono p2 (show w.heap.size ≤ w1.heap.size by have := bb.1; omega)
  go_wp2_with fail
  go_ret3
  exact RetL.of HV.out rfl rfl p B
set_option maxRecDepth 100000 in
set_option maxHeartbeats 1600000 in
theorem refUses_7_eq (i : Ins) (hop : i.op = 7) (hc : checkI i = true) (hab : i.b = i.a) (hl : i.label.length ≤ 9223372036854775807) (w : World) : Calls Tryz.prog 31 #[vI i] w (RetL (usesV i) w) := by
  have E1 := al w (mkI i)
  have b0 := BxI.new w i
  have HE := hid (errI_yes hc)
  have HV := hid (show usesV i = ([i.a], -1, 0) by unfold usesV usesL usesW; rw [hc, if_pos rfl]; simp only [hop]; simp [hab])
  generalize usesV i = r at *
  have HOP := hid hop
  clear hc hop
  have t1 : decide (i.b < i.a) = false := by simp; omega
  have t2 : decide (i.a < i.b) = false := by simp; omega
  clear hab
  go_enter Tryz.func31, Tryz.ntmps31
  go_wp2_with fail
  refine (refCheck i hl _).mono ?_
  rintro x w1 ⟨rfl, E⟩
  rw [HE.out]
  have bb := b0.below E
  have B := E1.trans (E.mono E1.size)
  obtain ⟨q0, q1, q2, q3, q4, q5, q6, q7⟩ := bb.cells
  rw [HOP.out] at q0
  clear b0 E1 E
  go_wp2_with (at_builtin; go_loud (refine wpList_app1 isl (.tmp 45) (.tmp 48) rfl rfl rfl (Own.nil _ _ _ _ : OwnI _ w1.heap.size none 0 0 []) rfl rfl (by intro u hu; simp at hu; subst hu; rfl) (Below.refl _ _ : Below w1.heap.size w1 w1) (Below.refl _ _ : Below w1.heap.size w1 w1).size (by omega) (by unfold maxLen; omega) ?_))
  intro a1 c1 v1 o1 g1 B1
  have F1 : Below w1.heap.size w1 v1 := B1
  have bb1 := bb.below F1
  clear q0 q1 q2 q3 q4 q5 q6 q7
  obtain ⟨q0, q1, q2, q3, q4, q5, q6, q7⟩ := bb1.cells
  have p1 : OwnI v1 w1.heap.size a1 1 c1 [i.a] := by simpa [OwnI] using o1
  have B := B.trans (F1.mono B.size)
  have p := Own.mono p1 (show w.heap.size ≤ w1.heap.size by have := bb.1; omega)
  go_wp2_with fail
  go_ret3
  exact RetL.of HV.out rfl rfl p B
set_option maxRecDepth 100000 in
set_option maxHeartbeats 1600000 in
theorem refUses_7_gt (i : Ins) (hop : i.op = 7) (hc : checkI i = true) (hab : i.a < i.b) (hl : i.label.length ≤ 9223372036854775807) (w : World) : Calls Tryz.prog 31 #[vI i] w (RetL (usesV i) w) := by
  have E1 := al w (mkI i)
  have b0 := BxI.new w i
  have HE := hid (errI_yes hc)
  have HV := hid (show usesV i = ([i.a, i.b], -1, 0) by unfold usesV usesL usesW; rw [hc, if_pos rfl]; simp only [hop]; simp [hab, show ¬ i.b < i.a by omega])
  generalize usesV i = r at *
  have HOP := hid hop
  clear hc hop
  have t1 : decide (i.b < i.a) = false := by simp; omega
  have t2 : decide (i.a < i.b) = true := by simpa using hab
  clear hab
  go_enter Tryz.func31, Tryz.ntmps31
  go_wp2_with fail
  refine (refCheck i hl _).mono ?_
  rintro x w1 ⟨rfl, E⟩
  rw [HE.out]
  have bb := b0.below E
  have B := E1.trans (E.mono E1.size)
  obtain ⟨q0, q1, q2, q3, q4, q5, q6, q7⟩ := bb.cells
  rw [HOP.out] at q0
  clear b0 E1 E
  go_wp2_with (at_builtin; go_loud (refine wpList_app1 isl (.tmp 45) (.tmp 48) rfl rfl rfl (Own.nil _ _ _ _ : OwnI _ w1.heap.size none 0 0 []) rfl rfl (by intro u hu; simp at hu; subst hu; rfl) (Below.refl _ _ : Below w1.heap.size w1 w1) (Below.refl _ _ : Below w1.heap.size w1 w1).size (by omega) (by unfold maxLen; omega) ?_))
  intro a1 c1 v1 o1 g1 B1
  have F1 : Below w1.heap.size w1 v1 := B1
  have bb1 := bb.below F1
  clear q0 q1 q2 q3 q4 q5 q6 q7
  obtain ⟨q0, q1, q2, q3, q4, q5, q6, q7⟩ := bb1.cells
  have p1 : OwnI v1 w1.heap.size a1 1 c1 [i.a] := by simpa [OwnI] using o1
  go_wp2_with (at_builtin; go_loud (refine wpList_app1 isl (.tmp 58) (.tmp 61) rfl rfl rfl p1 rfl rfl (by intro u hu; simp at hu; subst hu; rfl) B1 B1.size (by omega) (by unfold maxLen; omega) ?_))
  intro a2 c2 v2 o2 g2 B2
  have F2 : Below w1.heap.size w1 v2 := B2
  have bb2 := bb.below F2
  clear q0 q1 q2 q3 q4 q5 q6 q7
  obtain ⟨q0, q1, q2, q3, q4, q5, q6, q7⟩ := bb2.cells
  have p2 : OwnI v2 w1.heap.size a2 2 c2 [i.a, i.b] := by simpa [OwnI] using o2
  have B := B.trans (F2.mono B.size)
  have p := Own.mono p2 (show w.heap.size ≤ w1.heap.size by have := bb.1; omega)
  go_wp2_with fail
  go_ret3
  exact RetL.of HV.out rfl rfl p B
set_option maxRecDepth 100000 in
set_option maxHeartbeats 1600000 in
theorem refUses_11_lt (i : Ins) (hop : i.op = 11) (hc : checkI i = true) (hab : i.b < i.a) (hl : i.label.length ≤ 9223372036854775807) (w : World) : Calls Tryz.prog 31 #[vI i] w (RetL (usesV i) w) := by
  have E1 := al w (mkI i)
  have b0 := BxI.new w i
  have HE := hid (errI_yes hc)
  have HV := hid (show usesV i = ([i.b, i.a], -1, 0) by unfold usesV usesL usesW; rw [hc, if_pos rfl]; simp only [hop]; simp [hab])
  generalize usesV i = r at *
  have HOP := hid hop
  clear hc hop
  have t1 : decide (i.b < i.a) = true := by simpa using hab
  have t2 : decide (i.a < i.b) = false := by simp; omega
  clear hab
  go_enter Tryz.func31, Tryz.ntmps31
  go_wp2_with fail
  refine (refCheck i hl _).mono ?_
  rintro x w1 ⟨rfl, E⟩
  rw [HE.out]
  have bb := b0.below E
  have B := E1.trans (E.mono E1.size)
  obtain ⟨q0, q1, q2, q3, q4, q5, q6, q7⟩ := bb.cells
  rw [HOP.out] at q0
  clear b0 E1 E
  go_wp2_with (at_builtin; go_loud (refine wpList_app1 isl (.tmp 40) (.tmp 43) rfl rfl rfl (Own.nil _ _ _ _ : OwnI _ w1.heap.size none 0 0 []) rfl rfl (by intro u hu; simp at hu; subst hu; rfl) (Below.refl _ _ : Below w1.heap.size w1 w1) (Below.refl _ _ : Below w1.heap.size w1 w1).size (by omega) (by unfold maxLen; omega) ?_))
  intro a1 c1 v1 o1 g1 B1
  have F1 : Below w1.heap.size w1 v1 := B1
  have bb1 := bb.below F1
  clear q0 q1 q2 q3 q4 q5 q6 q7
  obtain ⟨q0, q1, q2, q3, q4, q5, q6, q7⟩ := bb1.cells
  have p1 : OwnI v1 w1.heap.size a1 1 c1 [i.b] := by simpa [OwnI] using o1
  go_wp2_with (at_builtin; go_loud (refine wpList_app1 isl (.tmp 45) (.tmp 48) rfl rfl rfl p1 rfl rfl (by intro u hu; simp at hu; subst hu; rfl) B1 B1.size (by omega) (by unfold maxLen; omega) ?_))
  intro a2 c2 v2 o2 g2 B2
  have F2 : Below w1.heap.size w1 v2 := B2
  have bb2 := bb.below F2
  clear q0 q1 q2 q3 q4 q5 q6 q7
  obtain ⟨q0, q1, q2, q3, q4, q5, q6, q7⟩ := bb2.cells
  have p2 : OwnI v2 w1.heap.size a2 2 c2 [i.b, i.a] := by simpa [OwnI] using o2
  have B := B.trans (F2.mono B.size)
  have p := Own.mono p2 (show w.heap.size ≤ w1.heap.size by have := bb.1; omega)
  go_wp2_with fail
  go_ret3
  exact RetL.of HV.out rfl rfl p B
set_option maxRecDepth 100000 in
set_option maxHeartbeats 1600000 in
theorem refUses_11_eq (i : Ins) (hop : i.op = 11) (hc : checkI i = true) (hab : i.b = i.a) (hl : i.label.length ≤ 9223372036854775807) (w : World) : Calls Tryz.prog 31 #[vI i] w (RetL (usesV i) w) := by
  have E1 := al w (mkI i)
  have b0 := BxI.new w i
  have HE := hid (errI_yes hc)
  have HV := hid (show usesV i = ([i.a], -1, 0) by unfold usesV usesL usesW; rw [hc, if_pos rfl]; simp only [hop]; simp [hab])
  generalize usesV i = r at *
  have HOP := hid hop
  clear hc hop
  have t1 : decide (i.b < i.a) = false := by simp; omega
  have t2 : decide (i.a < i.b) = false := by simp; omega
  clear hab
  go_enter Tryz.func31, Tryz.ntmps31
  go_wp2_with fail
  refine (refCheck i hl _).mono ?_
  rintro x w1 ⟨rfl, E⟩
  rw [HE.out]
  have bb := b0.below E
  have B := E1.trans (E.mono E1.size)
  obtain ⟨q0, q1, q2, q3, q4, q5, q6, q7⟩ := bb.cells
  rw [HOP.out] at q0
  clear b0 E1 E
  go_wp2_with (at_builtin; go_loud (refine wpList_app1 isl (.tmp 45) (.tmp 48) rfl rfl rfl (Own.nil _ _ _ _ : OwnI _ w1.heap.size none 0 0 []) rfl rfl (by intro u hu; simp at hu; subst hu; rfl) (Below.refl _ _ : Below w1.heap.size w1 w1) (Below.refl _ _ : Below w1.heap.size w1 w1).size (by omega) (by unfold maxLen; omega) ?_))
  intro a1 c1 v1 o1 g1 B1
  have F1 : Below w1.heap.size w1 v1 := B1
  have bb1 := bb.below F1
  clear q0 q1 q2 q3 q4 q5 q6 q7
  obtain ⟨q0, q1, q2, q3, q4, q5, q6, q7⟩ := bb1.cells
  have p1 : OwnI v1 w1.heap.size a1 1 c1 [i.a] := by simpa [OwnI] using o1
  have B := B.trans (F1.mono B.size)
  have p := Own.mono p1 (show w.heap.size ≤ w1.heap.size by have := bb.1; omega)
  go_wp2_with fail
  go_ret3
  exact RetL.of HV.out rfl rfl p B
set_option maxRecDepth 100000 in
set_option maxHeartbeats 1600000 in
theorem refUses_11_gt (i : Ins) (hop : i.op = 11) (hc : checkI i = true) (hab : i.a < i.b) (hl : i.label.length ≤ 9223372036854775807) (w : World) : Calls Tryz.prog 31 #[vI i] w (RetL (usesV i) w) := by
  have E1 := al w (mkI i)
  have b0 := BxI.new w i
  have HE := hid (errI_yes hc)
  have HV := hid (show usesV i = ([i.a, i.b], -1, 0) by unfold usesV usesL usesW; rw [hc, if_pos rfl]; simp only [hop]; simp [hab, show ¬ i.b < i.a by omega])
  generalize usesV i = r at *
  have HOP := hid hop
  clear hc hop
  have t1 : decide (i.b < i.a) = false := by simp; omega
  have t2 : decide (i.a < i.b) = true := by simpa using hab
  clear hab
  go_enter Tryz.func31, Tryz.ntmps31
  go_wp2_with fail
  refine (refCheck i hl _).mono ?_
  rintro x w1 ⟨rfl, E⟩
  rw [HE.out]
  have bb := b0.below E
  have B := E1.trans (E.mono E1.size)
  obtain ⟨q0, q1, q2, q3, q4, q5, q6, q7⟩ := bb.cells
  rw [HOP.out] at q0
  clear b0 E1 E
  go_wp2_with (at_builtin; go_loud (refine wpList_app1 isl (.tmp 45) (.tmp 48) rfl rfl rfl (Own.nil _ _ _ _ : OwnI _ w1.heap.size none 0 0 []) rfl rfl (by intro u hu; simp at hu; subst hu; rfl) (Below.refl _ _ : Below w1.heap.size w1 w1) (Below.refl _ _ : Below w1.heap.size w1 w1).size (by omega) (by unfold maxLen; omega) ?_))
  intro a1 c1 v1 o1 g1 B1
  have F1 : Below w1.heap.size w1 v1 := B1
  have bb1 := bb.below F1
  clear q0 q1 q2 q3 q4 q5 q6 q7
  obtain ⟨q0, q1, q2, q3, q4, q5, q6, q7⟩ := bb1.cells
  have p1 : OwnI v1 w1.heap.size a1 1 c1 [i.a] := by simpa [OwnI] using o1
  go_wp2_with (at_builtin; go_loud (refine wpList_app1 isl (.tmp 58) (.tmp 61) rfl rfl rfl p1 rfl rfl (by intro u hu; simp at hu; subst hu; rfl) B1 B1.size (by omega) (by unfold maxLen; omega) ?_))
  intro a2 c2 v2 o2 g2 B2
  have F2 : Below w1.heap.size w1 v2 := B2
  have bb2 := bb.below F2
  clear q0 q1 q2 q3 q4 q5 q6 q7
  obtain ⟨q0, q1, q2, q3, q4, q5, q6, q7⟩ := bb2.cells
  have p2 : OwnI v2 w1.heap.size a2 2 c2 [i.a, i.b] := by simpa [OwnI] using o2
  have B := B.trans (F2.mono B.size)
  have p := Own.mono p2 (show w.heap.size ≤ w1.heap.size by have := bb.1; omega)
  go_wp2_with fail
  go_ret3
  exact RetL.of HV.out rfl rfl p B
theorem refUses (i : Ins) (hl : i.label.length ≤ 9223372036854775807) (w : World) : Calls Tryz.prog 31 #[vI i] w (RetL (usesV i) w) := by
  cases hc : checkI i
  · exact refUses_no i hc hl w
  have h3 : i.b < i.a ∨ i.b = i.a ∨ i.a < i.b := by omega
  rcases opOf hc with h | h | h | h | h | h | h | h
  · exact refUses_6 i h hc hl w
  · rcases h3 with g | g | g
    · exact refUses_7_lt i h hc g hl w
    · exact refUses_7_eq i h hc g hl w
    · exact refUses_7_gt i h hc g hl w
  · exact refUses_8 i h hc hl w
  · rcases h3 with g | g | g
    · exact refUses_9_lt i h hc g hl w
    · exact refUses_9_eq i h hc g hl w
    · exact refUses_9_gt i h hc g hl w
  · rcases h3 with g | g | g
    · exact refUses_10_lt i h hc g hl w
    · exact refUses_10_eq i h hc g hl w
    · exact refUses_10_gt i h hc g hl w
  · rcases h3 with g | g | g
    · exact refUses_11_lt i h hc g hl w
    · exact refUses_11_eq i h hc g hl w
    · exact refUses_11_gt i h hc g hl w
  · exact refUses_12 i h hc hl w
  · exact refUses_13 i h hc hl w
end Go.Proofs.YtigimkgmghjgoaaGreatDoor

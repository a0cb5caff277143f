/- The walk of Uses (the program's). Condition: lengths that an int holds. -/
import Derived.Test.YtigimkgmghjgoaaGreatDoorU1
import Derived.Test.YtigimkgmghjgoaaGreatDoorR16
import Derived.BigRegion
import Derived.StillTailTactics
namespace Go.Proofs.YtigimkgmghjgoaaGreatDoor
open Go.RowKit Go.Sort
set_option linter.unusedVariables false

theorem litI1 {B : Nat} {w : World} (x : Int) (h : B ≤ w.heap.size) : OwnI (w.alloc (.cells #[.int .i64 x] 3)) B (some ⟨w.heap.size, 0, none⟩) 1 1 [x] :=
  World.ownsRow_lit w #[.int .i64 x] 1 h (by unfold maxLen; omega) (by simp)
theorem litI2 {B : Nat} {w : World} (x y : Int) (h : B ≤ w.heap.size) : OwnI (w.alloc (.cells #[.int .i64 x, .int .i64 y] 3)) B (some ⟨w.heap.size, 0, none⟩) 2 2 [x, y] :=
  World.ownsRow_lit w #[.int .i64 x, .int .i64 y] 2 h (by unfold maxLen; omega) (by simp)
theorem usesV_no {i : Ins} (h : checkI i = false) : usesV i = ([], 0, 91) := by unfold usesV; rw [h]; rfl
theorem usesV_none {i : Ins} (h : checkI i = true) (ho : i.op = 12 ∨ i.op = 13) : usesV i = ([], -1, 0) := by
  unfold usesV usesL usesW; rw [h, if_pos rfl, if_pos ho, if_neg (by omega)]
theorem usesV_one {i : Ins} (h : checkI i = true) (ho : i.op = 6 ∨ i.op = 8) : usesV i = (Lib.compact (sortI [i.a]), i.d, 0) := by
  unfold usesV usesL usesW; rw [h, if_pos rfl, if_neg (by omega), if_pos ho, if_pos (by omega), sort1, compact1]
theorem usesV_two {i : Ins} (h : checkI i = true) (ho : i.op = 9 ∨ i.op = 10) : usesV i = (Lib.compact (sortI [i.a, i.b]), i.d, 0) := by
  unfold usesV usesL usesW; rw [h, both]; rcases ho with e | e <;> simp [e]
theorem usesV_twoN {i : Ins} (h : checkI i = true) (ho : i.op = 7 ∨ i.op = 11) : usesV i = (Lib.compact (sortI [i.a, i.b]), -1, 0) := by
  unfold usesV usesL usesW; rw [h, both]; rcases ho with e | e <;> simp [e]
set_option maxRecDepth 100000 in
theorem progUses_no (i : Ins) (h : checkI i = false) (hl : i.label.length ≤ 9223372036854775807) (w : World) : Calls Tryz.prog 30 #[vI i] w (RetL (usesV i) w) := by
  have E1 := al w (mkI i)
  have HE := hid (errI_no h)
  have HV := hid (usesV_no h)
  generalize usesV i = r at *
  clear h
  go_enter Tryz.func30, Tryz.ntmps30
  go_wp2_with fail
  refine (progCheck i hl _).mono ?_
  rintro x w1 ⟨rfl, E⟩
  rw [HE.out]
  have B := E1.trans (E.mono E1.size)
  go_wp2_with fail
  go_ret3
  exact RetL.nil HV.out rfl B
set_option maxRecDepth 100000 in
set_option maxHeartbeats 1600000 in
theorem progUses_6 (i : Ins) (hop : i.op = 6) (hc : checkI i = true) (hl : i.label.length ≤ 9223372036854775807) (w : World) : Calls Tryz.prog 30 #[vI i] w (RetL (usesV i) w) := by
  have E1 := al w (mkI i)
  have b0 := BxI.new w i
  have HE := hid (errI_yes hc)
  have HV := hid (usesV_one hc (by omega))
  generalize usesV i = r at *
  have HOP := hid hop
  clear hc hop
  go_enter Tryz.func30, Tryz.ntmps30
  go_wp2_with fail
  refine (progCheck i hl _).mono ?_
  rintro x w1 ⟨rfl, E⟩
  rw [HE.out]
  have bb := b0.below E
  have B := E1.trans (E.mono E1.size)
  obtain ⟨q0, q1, q2, q3, q4, q5, q6, q7⟩ := bb.cells
  rw [HOP.out] at q0
  have hlt := bb.1
  clear b0 bb E1 E
  have ho := litI1 (B := w.heap.size) (w := w1) i.a B.size
  have Ba := bel_alloc B (.cells #[.int .i64 i.a] 3)
  have hod := Own.below ho (below_drewN _ 1)
  have Bd := bel_drew Ba
  go_wp2_with fail
  go_big_region
  go_wp2_with fail
  refine (sort_own [i.a] (by simp) _ w.heap.size _ _ hod).mono ?_
  rintro x w2 ⟨rfl, o2, st2⟩
  have B2 := st2.below hod Bd Bd.size
  obtain ⟨zs, hzs⟩ : ∃ zs, sortI [i.a] = zs := ⟨_, rfl⟩
  have hz : zs.length = 1 := by rw [← hzs]; exact List.length_mergeSort _
  rw [hzs] at o2 HV
  clear hzs
  have CO := hid (compact_own zs w2 w.heap.size _ _ (by rw [hz]; exact o2))
  rw [hz] at CO
  go_wp2_with fail
  refine CO.out.mono ?_
  rintro x w3 ⟨rfl, o3, st3⟩
  have B3 := st3.below o2 B2 B2.size
  clear o2 st2 st3 B2 CO
  generalize Lib.compact zs = ys at *
  go_wp2_with fail
  go_ret3
  exact RetL.of HV.out rfl rfl o3 B3
set_option maxRecDepth 100000 in
set_option maxHeartbeats 1600000 in
theorem progUses_8 (i : Ins) (hop : i.op = 8) (hc : checkI i = true) (hl : i.label.length ≤ 9223372036854775807) (w : World) : Calls Tryz.prog 30 #[vI i] w (RetL (usesV i) w) := by
  have E1 := al w (mkI i)
  have b0 := BxI.new w i
  have HE := hid (errI_yes hc)
  have HV := hid (usesV_one hc (by omega))
  generalize usesV i = r at *
  have HOP := hid hop
  clear hc hop
  go_enter Tryz.func30, Tryz.ntmps30
  go_wp2_with fail
  refine (progCheck i hl _).mono ?_
  rintro x w1 ⟨rfl, E⟩
  rw [HE.out]
  have bb := b0.below E
  have B := E1.trans (E.mono E1.size)
  obtain ⟨q0, q1, q2, q3, q4, q5, q6, q7⟩ := bb.cells
  rw [HOP.out] at q0
  have hlt := bb.1
  clear b0 bb E1 E
  have ho := litI1 (B := w.heap.size) (w := w1) i.a B.size
  have Ba := bel_alloc B (.cells #[.int .i64 i.a] 3)
  have hod := Own.below ho (below_drewN _ 1)
  have Bd := bel_drew Ba
  go_wp2_with fail
  go_big_region
  go_wp2_with fail
  refine (sort_own [i.a] (by simp) _ w.heap.size _ _ hod).mono ?_
  rintro x w2 ⟨rfl, o2, st2⟩
  have B2 := st2.below hod Bd Bd.size
  obtain ⟨zs, hzs⟩ : ∃ zs, sortI [i.a] = zs := ⟨_, rfl⟩
  have hz : zs.length = 1 := by rw [← hzs]; exact List.length_mergeSort _
  rw [hzs] at o2 HV
  clear hzs
  have CO := hid (compact_own zs w2 w.heap.size _ _ (by rw [hz]; exact o2))
  rw [hz] at CO
  go_wp2_with fail
  refine CO.out.mono ?_
  rintro x w3 ⟨rfl, o3, st3⟩
  have B3 := st3.below o2 B2 B2.size
  clear o2 st2 st3 B2 CO
  generalize Lib.compact zs = ys at *
  go_wp2_with fail
  go_ret3
  exact RetL.of HV.out rfl rfl o3 B3
set_option maxRecDepth 100000 in
set_option maxHeartbeats 1600000 in
theorem progUses_9 (i : Ins) (hop : i.op = 9) (hc : checkI i = true) (hl : i.label.length ≤ 9223372036854775807) (w : World) : Calls Tryz.prog 30 #[vI i] w (RetL (usesV i) w) := by
  have E1 := al w (mkI i)
  have b0 := BxI.new w i
  have HE := hid (errI_yes hc)
  have HV := hid (usesV_two hc (by omega))
  generalize usesV i = r at *
  have HOP := hid hop
  clear hc hop
  go_enter Tryz.func30, Tryz.ntmps30
  go_wp2_with fail
  refine (progCheck i hl _).mono ?_
  rintro x w1 ⟨rfl, E⟩
  rw [HE.out]
  have bb := b0.below E
  have B := E1.trans (E.mono E1.size)
  obtain ⟨q0, q1, q2, q3, q4, q5, q6, q7⟩ := bb.cells
  rw [HOP.out] at q0
  have hlt := bb.1
  clear b0 bb E1 E
  have ho := litI2 (B := w.heap.size) (w := w1) i.a i.b B.size
  have Ba := bel_alloc B (.cells #[.int .i64 i.a, .int .i64 i.b] 3)
  have hod := Own.below ho (below_drewN _ 1)
  have Bd := bel_drew Ba
  go_wp2_with fail
  go_big_region
  go_wp2_with fail
  refine (sort_own [i.a, i.b] (by simp) _ w.heap.size _ _ hod).mono ?_
  rintro x w2 ⟨rfl, o2, st2⟩
  have B2 := st2.below hod Bd Bd.size
  obtain ⟨zs, hzs⟩ : ∃ zs, sortI [i.a, i.b] = zs := ⟨_, rfl⟩
  have hz : zs.length = 2 := by rw [← hzs]; exact List.length_mergeSort _
  rw [hzs] at o2 HV
  clear hzs
  have CO := hid (compact_own zs w2 w.heap.size _ _ (by rw [hz]; exact o2))
  rw [hz] at CO
  go_wp2_with fail
  refine CO.out.mono ?_
  rintro x w3 ⟨rfl, o3, st3⟩
  have B3 := st3.below o2 B2 B2.size
  clear o2 st2 st3 B2 CO
  generalize Lib.compact zs = ys at *
  go_wp2_with fail
  go_ret3
  exact RetL.of HV.out rfl rfl o3 B3
set_option maxRecDepth 100000 in
set_option maxHeartbeats 1600000 in
theorem progUses_10 (i : Ins) (hop : i.op = 10) (hc : checkI i = true) (hl : i.label.length ≤ 9223372036854775807) (w : World) : Calls Tryz.prog 30 #[vI i] w (RetL (usesV i) w) := by
  have E1 := al w (mkI i)
  have b0 := BxI.new w i
  have HE := hid (errI_yes hc)
  have HV := hid (usesV_two hc (by omega))
  generalize usesV i = r at *
  have HOP := hid hop
  clear hc hop
  go_enter Tryz.func30, Tryz.ntmps30
  go_wp2_with fail
  refine (progCheck i hl _).mono ?_
  rintro x w1 ⟨rfl, E⟩
  rw [HE.out]
  have bb := b0.below E
  have B := E1.trans (E.mono E1.size)
  obtain ⟨q0, q1, q2, q3, q4, q5, q6, q7⟩ := bb.cells
  rw [HOP.out] at q0
  have hlt := bb.1
  clear b0 bb E1 E
  have ho := litI2 (B := w.heap.size) (w := w1) i.a i.b B.size
  have Ba := bel_alloc B (.cells #[.int .i64 i.a, .int .i64 i.b] 3)
  have hod := Own.below ho (below_drewN _ 1)
  have Bd := bel_drew Ba
  go_wp2_with fail
  go_big_region
  go_wp2_with fail
  refine (sort_own [i.a, i.b] (by simp) _ w.heap.size _ _ hod).mono ?_
  rintro x w2 ⟨rfl, o2, st2⟩
  have B2 := st2.below hod Bd Bd.size
  obtain ⟨zs, hzs⟩ : ∃ zs, sortI [i.a, i.b] = zs := ⟨_, rfl⟩
  have hz : zs.length = 2 := by rw [← hzs]; exact List.length_mergeSort _
  rw [hzs] at o2 HV
  clear hzs
  have CO := hid (compact_own zs w2 w.heap.size _ _ (by rw [hz]; exact o2))
  rw [hz] at CO
  go_wp2_with fail
  refine CO.out.mono ?_
  rintro x w3 ⟨rfl, o3, st3⟩
  have B3 := st3.below o2 B2 B2.size
  clear o2 st2 st3 B2 CO
  generalize Lib.compact zs = ys at *
  go_wp2_with fail
  go_ret3
  exact RetL.of HV.out rfl rfl o3 B3
set_option maxRecDepth 100000 in
set_option maxHeartbeats 1600000 in
theorem progUses_7 (i : Ins) (hop : i.op = 7) (hc : checkI i = true) (hl : i.label.length ≤ 9223372036854775807) (w : World) : Calls Tryz.prog 30 #[vI i] w (RetL (usesV i) w) := by
  have E1 := al w (mkI i)
  have b0 := BxI.new w i
  have HE := hid (errI_yes hc)
  have HV := hid (usesV_twoN hc (by omega))
  generalize usesV i = r at *
  have HOP := hid hop
  clear hc hop
  go_enter Tryz.func30, Tryz.ntmps30
  go_wp2_with fail
  refine (progCheck i hl _).mono ?_
  rintro x w1 ⟨rfl, E⟩
  rw [HE.out]
  have bb := b0.below E
  have B := E1.trans (E.mono E1.size)
  obtain ⟨q0, q1, q2, q3, q4, q5, q6, q7⟩ := bb.cells
  rw [HOP.out] at q0
  have hlt := bb.1
  clear b0 bb E1 E
  have ho := litI2 (B := w.heap.size) (w := w1) i.a i.b B.size
  have Ba := bel_alloc B (.cells #[.int .i64 i.a, .int .i64 i.b] 3)
  go_wp2_with fail
  refine (sort_own [i.a, i.b] (by simp) _ w.heap.size _ _ ho).mono ?_
  rintro x w2 ⟨rfl, o2, st2⟩
  have B2 := st2.below ho Ba Ba.size
  obtain ⟨zs, hzs⟩ : ∃ zs, sortI [i.a, i.b] = zs := ⟨_, rfl⟩
  have hz : zs.length = 2 := by rw [← hzs]; exact List.length_mergeSort _
  rw [hzs] at o2 HV
  clear hzs
  have CO := hid (compact_own zs w2 w.heap.size _ _ (by rw [hz]; exact o2))
  rw [hz] at CO
  go_wp2_with fail
  refine CO.out.mono ?_
  rintro x w3 ⟨rfl, o3, st3⟩
  have B3 := st3.below o2 B2 B2.size
  clear o2 st2 st3 B2 CO
  generalize Lib.compact zs = ys at *
  go_wp2_with fail
  go_ret3
  exact RetL.of HV.out rfl rfl o3 B3
set_option maxRecDepth 100000 in
set_option maxHeartbeats 1600000 in
theorem progUses_11 (i : Ins) (hop : i.op = 11) (hc : checkI i = true) (hl : i.label.length ≤ 9223372036854775807) (w : World) : Calls Tryz.prog 30 #[vI i] w (RetL (usesV i) w) := by
  have E1 := al w (mkI i)
  have b0 := BxI.new w i
  have HE := hid (errI_yes hc)
  have HV := hid (usesV_twoN hc (by omega))
  generalize usesV i = r at *
  have HOP := hid hop
  clear hc hop
  go_enter Tryz.func30, Tryz.ntmps30
  go_wp2_with fail
  refine (progCheck i hl _).mono ?_
  rintro x w1 ⟨rfl, E⟩
  rw [HE.out]
  have bb := b0.below E
  have B := E1.trans (E.mono E1.size)
  obtain ⟨q0, q1, q2, q3, q4, q5, q6, q7⟩ := bb.cells
  rw [HOP.out] at q0
  have hlt := bb.1
  clear b0 bb E1 E
  have ho := litI2 (B := w.heap.size) (w := w1) i.a i.b B.size
  have Ba := bel_alloc B (.cells #[.int .i64 i.a, .int .i64 i.b] 3)
  go_wp2_with fail
  refine (sort_own [i.a, i.b] (by simp) _ w.heap.size _ _ ho).mono ?_
  rintro x w2 ⟨rfl, o2, st2⟩
  have B2 := st2.below ho Ba Ba.size
  obtain ⟨zs, hzs⟩ : ∃ zs, sortI [i.a, i.b] = zs := ⟨_, rfl⟩
  have hz : zs.length = 2 := by rw [← hzs]; exact List.length_mergeSort _
  rw [hzs] at o2 HV
  clear hzs
  have CO := hid (compact_own zs w2 w.heap.size _ _ (by rw [hz]; exact o2))
  rw [hz] at CO
  go_wp2_with fail
  refine CO.out.mono ?_
  rintro x w3 ⟨rfl, o3, st3⟩
  have B3 := st3.below o2 B2 B2.size
  clear o2 st2 st3 B2 CO
  generalize Lib.compact zs = ys at *
  go_wp2_with fail
  go_ret3
  exact RetL.of HV.out rfl rfl o3 B3
set_option maxRecDepth 100000 in
set_option maxHeartbeats 1600000 in
theorem progUses_12 (i : Ins) (hop : i.op = 12) (hc : checkI i = true) (hl : i.label.length ≤ 9223372036854775807) (w : World) : Calls Tryz.prog 30 #[vI i] w (RetL (usesV i) w) := by
  have E1 := al w (mkI i)
  have b0 := BxI.new w i
  have HE := hid (errI_yes hc)
  have HV := hid (usesV_none hc (by omega))
  generalize usesV i = r at *
  have HOP := hid hop
  clear hc hop
  go_enter Tryz.func30, Tryz.ntmps30
  go_wp2_with fail
  refine (progCheck i hl _).mono ?_
  rintro x w1 ⟨rfl, E⟩
  rw [HE.out]
  have bb := b0.below E
  have B := E1.trans (E.mono E1.size)
  obtain ⟨q0, q1, q2, q3, q4, q5, q6, q7⟩ := bb.cells
  rw [HOP.out] at q0
  have hlt := bb.1
  clear b0 bb E1 E
  go_wp2_with fail
  refine (sort_own [] (by simp) w1 w.heap.size none 0 (Own.nil _ _ _ _)).mono ?_
  rintro x w2 ⟨rfl, o2, st2⟩
  have B2 := st2.below (Own.nil w1 w.heap.size 3 1) B B.size
  have hs0 : sortI [] = [] := List.eq_nil_of_length_eq_zero (List.length_mergeSort _)
  rw [hs0] at o2
  clear hs0
  have CO := hid (compact_own [] w2 w.heap.size none 0 o2)
  rw [compact0] at CO
  go_wp2_with fail
  refine CO.out.mono ?_
  rintro x w3 ⟨rfl, o3, st3⟩
  have B3 := st3.below o2 B2 B2.size
  clear o2 st2 st3 B2 CO
  go_wp2_with fail
  go_ret3
  exact RetL.of HV.out rfl rfl o3 B3
set_option maxRecDepth 100000 in
set_option maxHeartbeats 1600000 in
theorem progUses_13 (i : Ins) (hop : i.op = 13) (hc : checkI i = true) (hl : i.label.length ≤ 9223372036854775807) (w : World) : Calls Tryz.prog 30 #[vI i] w (RetL (usesV i) w) := by
  have E1 := al w (mkI i)
  have b0 := BxI.new w i
  have HE := hid (errI_yes hc)
  have HV := hid (usesV_none hc (by omega))
  generalize usesV i = r at *
  have HOP := hid hop
  clear hc hop
  go_enter Tryz.func30, Tryz.ntmps30
  go_wp2_with fail
  refine (progCheck i hl _).mono ?_
  rintro x w1 ⟨rfl, E⟩
  rw [HE.out]
  have bb := b0.below E
  have B := E1.trans (E.mono E1.size)
  obtain ⟨q0, q1, q2, q3, q4, q5, q6, q7⟩ := bb.cells
  rw [HOP.out] at q0
  have hlt := bb.1
  clear b0 bb E1 E
  go_wp2_with fail
  refine (sort_own [] (by simp) w1 w.heap.size none 0 (Own.nil _ _ _ _)).mono ?_
  rintro x w2 ⟨rfl, o2, st2⟩
  have B2 := st2.below (Own.nil w1 w.heap.size 3 1) B B.size
  have hs0 : sortI [] = [] := List.eq_nil_of_length_eq_zero (List.length_mergeSort _)
  rw [hs0] at o2
  clear hs0
  have CO := hid (compact_own [] w2 w.heap.size none 0 o2)
  rw [compact0] at CO
  go_wp2_with fail
  refine CO.out.mono ?_
  rintro x w3 ⟨rfl, o3, st3⟩
  have B3 := st3.below o2 B2 B2.size
  clear o2 st2 st3 B2 CO
  go_wp2_with fail
  go_ret3
  exact RetL.of HV.out rfl rfl o3 B3
theorem opOf {i : Ins} (h : checkI i = true) : i.op = 6 ∨ i.op = 7 ∨ i.op = 8 ∨ i.op = 9 ∨ i.op = 10 ∨ i.op = 11 ∨ i.op = 12 ∨ i.op = 13 := by
  obtain ⟨ho, -⟩ := checkI_spec h
  unfold okI at ho
  by_cases h8 : i.op = 8
  · omega
  rw [if_neg h8] at ho
  by_cases h11 : i.op = 11 ∨ i.op = 12
  · omega
  rw [if_neg h11] at ho
  by_cases h13 : i.op = 13
  · omega
  rw [if_neg h13] at ho
  simp at ho
  omega
theorem progUses (i : Ins) (hl : i.label.length ≤ 9223372036854775807) (w : World) : Calls Tryz.prog 30 #[vI i] w (RetL (usesV i) w) := by
  cases hc : checkI i
  · exact progUses_no i hc hl w
  rcases opOf hc with h | h | h | h | h | h | h | h
  · exact progUses_6 i h hc hl w
  · exact progUses_7 i h hc hl w
  · exact progUses_8 i h hc hl w
  · exact progUses_9 i h hc hl w
  · exact progUses_10 i h hc hl w
  · exact progUses_11 i h hc hl w
  · exact progUses_12 i h hc hl w
  · exact progUses_13 i h hc hl w
end Go.Proofs.YtigimkgmghjgoaaGreatDoor

/- The walks of Compare, Alike, Marked, Grown and Heaped of ints (the document's answer). Conditions: the lists lie in memory as read, or in memory of the call's own. -/
import Derived.Test.YtigimkgmghjgoaaGreatDoorLibI
import Derived.Test.YtigimkgmghjgoaaGreatDoorMath
namespace Go.Proofs.YtigimkgmghjgoaaGreatDoor
open Go.RowKit
set_option linter.unusedVariables false

set_option maxHeartbeats 400000 in
theorem refCompare (a b : List Int) (a1 a2 : Option Addr) (c1 c2 : Nat) (w : World) (h1 : Ints w a1 a) (h2 : Ints w a2 b) :
    Calls Tryz.prog 53 #[.slice a1 a.length c1, .slice a2 b.length c2] w (RetQ w (.int .i64 (cmp a b))) := by
  have H1 := hid h1; have H2 := hid h2
  have hl1 := h1.len; have hl2 := h2.len; clear h1 h2
  go_enter Tryz.func53, Tryz.ntmps53
  go_wp2
  go_loopw [5] (fun i wr => ∃ k : Nat, k ≤ a.length ∧ k ≤ b.length ∧ i = .int .i64 k ∧ QW w wr ∧ Hid (cmp (a.drop k) (b.drop k) = cmp a b)) (fun i _ => a.length - (intOf i).toNat)
  case atStart => exact ⟨0, Nat.zero_le _, Nat.zero_le _, rfl, QW.refl _, hid rfl⟩
  case round =>
    obtain ⟨k, hk1, hk2, rfl, ⟨n, rfl⟩, hcmp⟩ := hrel
    by_cases hlt : k < a.length ∧ k < b.length
    · obtain ⟨hl1, hl2⟩ := hlt
      have c1' := H1.out.cell k hl1
      have c2' := H2.out.cell k hl2
      have i1 := H1.out.idx isl k hl1
      have i2 := H2.out.idx isl k hl2
      go_wp2_with fail
      go_quiet (fail)
      go_wp2_with fail
      · have h : a[k] < b[k] := by assumption
        go_ret
        exact ⟨ret_int (by rw [← hcmp.out, cmp_drop_lt hl1 hl2 h]), (by repeat (first | exact QW.refl _ | refine QW.d ?_ _))⟩
      · have h : b[k] ≤ a[k] := by assumption
        go_quiet (fail)
        go_wp2_with fail
        · have h' : b[k] < a[k] := by assumption
          go_ret
          exact ⟨ret_int (by rw [← hcmp.out, cmp_drop_gt hl1 hl2 h']), (by repeat (first | exact QW.refl _ | refine QW.d ?_ _))⟩
        · have h' : ¬ b[k] < a[k] := by omega
          have e := cmp_drop_eq hl1 hl2 (by omega)
          have E := hid (e.symm.trans hcmp.out)
          clear e
          go_roundw
          case rel => exact ⟨k + 1, by omega, by omega, by go_num, (by repeat (first | exact QW.refl _ | refine QW.d ?_ _)), E⟩
          case measure => simp [intOf]; omega
    · have e := cmp_drop_end (a := a) (b := b) hk1 hk2 (by omega)
      have E := hid (hcmp.out.symm.trans e)
      clear e
      by_cases hl1 : k < a.length
      · have hl2 : ¬ k < b.length := fun h => hlt ⟨hl1, h⟩
        clear hlt
        go_wp2_with fail
        all_goals
          have E' := E.out
          clear E
          go_ret
          exact ⟨ret_int (by rw [E']; simp [*]), (by repeat (first | exact QW.refl _ | refine QW.d ?_ _))⟩
      · clear hlt
        go_wp2_with fail
        all_goals
          have E' := E.out
          clear E
          go_ret
          exact ⟨ret_int (by rw [E']; simp [*]), (by repeat (first | exact QW.refl _ | refine QW.d ?_ _))⟩

set_option maxHeartbeats 400000 in
theorem refAlike (a b : List Int) (a1 a2 : Option Addr) (c1 c2 : Nat) (w : World) (h1 : Ints w a1 a) (h2 : Ints w a2 b) :
    Calls Tryz.prog 19 #[.slice a1 a.length c1, .slice a2 b.length c2] w (RetQ w (.bool (decide (a = b)))) := by
  have H1 := hid h1; have H2 := hid h2; clear h1 h2
  have e : (cmp a b == 0) = decide (a = b) := by rw [Bool.eq_iff_iff]; simp [cmp_eq_zero]
  have E := hid e
  clear e
  go_enter Tryz.func19, Tryz.ntmps19
  go_wp2_with (go_at_call 53; refine (refCompare a b _ _ _ _ _ H1.out H2.out).mono ?_; rintro e w' ⟨rfl, n, rfl⟩)
  go_ret
  exact ⟨ret_bool E.out, (by repeat (first | exact QW.refl _ | refine QW.d ?_ _))⟩


/-- a row of the call's own was written over, nothing else of what was there -/
def Wrote (B : Nat) (w : World) (a : Option Addr) (n c : Nat) (l : List Int) (e : Ending) (w' : World) : Prop :=
  e = .returned (.tuple #[]) ∧ OwnI w' B a n c l ∧ Step w w' a a

set_option maxHeartbeats 400000 in
theorem refMarked (l : List Int) (m : Int) (B : Nat) (a : Option Addr) (n c : Nat) (w : World) (h : OwnI w B a n c l) (hm0 : 0 ≤ m) (hm : m ≤ 1000000000000000000) :
    Calls Tryz.prog 21 #[.slice a n c, .int .i64 m] w (Wrote B w a n c (List.replicate l.length (-1000000 - m))) := by
  have hl := h.ints.1.len
  obtain rfl := h.ints.2
  have H := hid h; clear h
  go_enter Tryz.func21, Tryz.ntmps21
  go_wp2_with fail
  go_loopw [4] (fun i wr => ∃ (j : Nat), j ≤ l.length ∧ i = .int .i64 j ∧ OwnI wr B a l.length c (List.replicate j (-1000000 - m) ++ l.drop j) ∧ Step w wr a a) (fun i _ => l.length - (intOf i).toNat)
  case atStart => exact ⟨0, Nat.zero_le _, rfl, by simpa using H.out, Step.refl _ _⟩
  case round =>
    obtain ⟨j, hj, rfl, o1, st1⟩ := hrel
    by_cases hlt : j < l.length
    · have hlen : (List.replicate j (-1000000 - m) ++ l.drop j).length = l.length := by simp; omega
      have ij := (o1.ints.1).idx isl j (by rw [hlen]; exact hlt)
      have cj := (o1.ints.1).cell j (by rw [hlen]; exact hlt)
      obtain ⟨v, hv⟩ : ∃ v, (List.replicate j (-1000000 - m) ++ l.drop j)[j]'(by rw [hlen]; exact hlt) = v := ⟨_, rfl⟩
      rw [hv] at cj
      clear hv
      have fj := Own.frozen o1 (Own.some o1 (by omega)) j
      have oj := Own.set o1 (Own.some o1 (by omega)) j (.int .i64 (-1000000 - m))
      have e : (List.replicate j (-1000000 - m) ++ l.drop j).set j (-1000000 - m) = List.replicate (j + 1) (-1000000 - m) ++ l.drop (j + 1) := by
        rw [List.set_append_right _ _ (by simp)]
        simp only [List.length_replicate, Nat.sub_self]
        rw [List.drop_eq_getElem_cons hlt, List.set_cons_zero, List.replicate_succ', List.append_assoc]; rfl
      obtain ⟨oj1, oj2⟩ := oj
      have oj3 : OwnI (wr.setCell ⟨bk a, fo a + j, none⟩ (.int .i64 (-1000000 - m))) B a l.length c (List.replicate (j + 1) (-1000000 - m) ++ l.drop (j + 1)) := by
        rw [← e]; simpa only [OwnI, ints, List.map_set] using oj1
      have st3 := st1.trans oj2
      rw [hlen] at ij
      clear e oj1 oj2 hlen
      go_wp2_with fail
      go_roundw
      case rel => exact ⟨j + 1, by omega, by go_num, oj3, st3⟩
      case measure => simp [intOf]; omega
    · obtain rfl : j = l.length := by omega
      go_wp2_with fail
      go_end0
      exact ⟨rfl, by simpa using o1, st1⟩

set_option maxHeartbeats 400000 in
theorem refGrown (l : List Int) (m : Int) (B : Nat) (a : Option Addr) (n c : Nat) (w : World) (h : OwnI w B a n c l) (hB : B ≤ w.heap.size) (hb : l.length * 8 ≤ 140737488355000) (hm0 : 0 ≤ m) (hm : m ≤ 1000000000000000000) :
    Calls Tryz.prog 22 #[.slice a n c, .int .i64 m] w (Wrote B w a n c l) := by
  obtain rfl := h.ints.2
  have H := hid h; clear h
  go_enter Tryz.func22, Tryz.ntmps22
  go_wp2_with fail
  go_loopw [0, 4] (fun s i wr => ∃ (j : Nat) (a' : Option Addr) (c' : Nat), j ≤ 20 ∧ i = .int .i64 j ∧ s = .slice a' (l.length + j) c' ∧ OwnI wr B a' (l.length + j) c' (l ++ List.replicate j (-2000000 - m)) ∧ OwnI wr B a l.length c l ∧ Step w wr a a ∧ Tail w a c a' c') (fun _ i _ => 20 - (intOf i).toNat)
  case atStart => exact ⟨0, a, c, Nat.zero_le _, rfl, by simp, by simpa [OwnI] using H.out, H.out, Step.refl _ _, .inl ⟨rfl, rfl⟩⟩
  case round =>
    obtain ⟨j, a', c', hj, rfl, rfl, o1, o2, st1, tl⟩ := hrel
    by_cases hlt : j < 20
    · have hBr : B ≤ wr.heap.size := Nat.le_trans hB st1.grown.size
      go_wp2_with (at_builtin; go_loud (refine wpList_app1 isl (.tmp 9) (.tmp 12) rfl rfl rfl o1 rfl rfl (by intro u hu; simp at hu; subst hu; rfl) (Below.refl B wr) hBr (by omega) (by unfold maxLen; omega) ?_))
      intro a3 c3 w3 o3 g3 B3
      have hlt' : a ≠ none → bk a < w.heap.size := fun h => (Own.lt H.out h).2
      have e : ints (l ++ List.replicate j (-2000000 - m)) = ints l ++ ints (List.replicate j (-2000000 - m)) := by simp [ints]
      obtain ⟨q1, q2, q3⟩ := Tail.grew (m := 1) (zs := [.int .i64 (-2000000 - m)]) (ys := ints (List.replicate j (-2000000 - m))) o2 (by rw [← e]; exact o1) st1 hlt' tl g3 (by simpa [ints] using o3)
      have o4 : OwnI w3 B a3 (l.length + (j + 1)) c3 (l ++ List.replicate (j + 1) (-2000000 - m)) := by
        rw [List.replicate_succ', ← List.append_assoc]; simpa [OwnI, ints, Nat.add_assoc] using o3
      clear o1 o2 o3 g3 tl e st1
      go_wp2_with fail
      go_roundw
      case rel => exact ⟨j + 1, a3, c3, by omega, by go_num, by simp [Nat.add_assoc], o4, q1, q2, q3⟩
      case measure => simp [intOf]; omega
    · go_wp2_with fail
      go_end0
      exact ⟨rfl, o2, st1⟩


set_option maxHeartbeats 400000 in
theorem refHeaped (l : List Int) (m : Int) (B : Nat) (a : Option Addr) (n c : Nat) (w : World) (h : OwnI w B a n c l) (hB : B ≤ w.heap.size) (hb : l.length * 8 ≤ 140737488354000) (hm0 : 0 ≤ m) (hm : m ≤ 1000000000000000000) :
    Calls Tryz.prog 23 #[.slice a n c, .int .i64 m] w (Wrote B w a n c l) := by
  obtain rfl := h.ints.2
  have H := hid h; clear h
  go_enter Tryz.func23, Tryz.ntmps23
  go_wp2_with (at_make; go_loud (refine wpList_mk isl _ _ rfl rfl 80 rfl rfl (by omega) (by omega) (by omega) (by unfold maxLen; omega) (Below.refl w.heap.size w) (Nat.le_refl _) ?_))
  intro a1 w1 o1 st1 B1
  have S1 : Step w w1 a a := ⟨grownBy_none st1.grown, .inl rfl⟩
  go_wp2_with fail
  go_loopw [5] (fun i wr => ∃ (j : Nat) (x : List Int), j ≤ 80 ∧ i = .int .i64 j ∧ x.length = 80 ∧ OwnI wr w.heap.size a1 80 80 x ∧ Below w.heap.size w wr) (fun i _ => 80 - (intOf i).toNat)
  case atStart => exact ⟨0, List.replicate 80 0, Nat.zero_le _, rfl, by simp, (by have h := o1; rw [madeI 80] at h; exact h), B1⟩
  case round =>
    obtain ⟨j, x, hj, rfl, hx, o2, B2⟩ := hrel
    by_cases hlt : j < 80
    · have ij := (o2.ints.1).idx isl j (by omega)
      have cj := (o2.ints.1).cell j (by omega)
      rw [hx] at ij
      have fj := Own.frozen o2 (Own.some o2 (by omega)) j
      obtain ⟨q1, q2⟩ := Own.set o2 (Own.some o2 (by omega)) j (.int .i64 (-3000000 - m))
      have q3 : OwnI (wr.setCell ⟨bk a1, fo a1 + j, none⟩ (.int .i64 (-3000000 - m))) w.heap.size a1 80 80 (x.set j (-3000000 - m)) := by
        simpa only [OwnI, ints, List.map_set] using q1
      have B3 := q2.below o2 B2 B2.size
      clear q1 q2
      obtain ⟨v, hv⟩ : ∃ v, x[j]'(by omega) = v := ⟨_, rfl⟩
      rw [hv] at cj
      have HX := hid hx
      clear hv hx
      go_wp2_with fail
      go_roundw
      case rel => exact ⟨j + 1, _, by omega, by go_num, by simpa using HX.out, q3, B3⟩
      case measure => simp [intOf]; omega
    · have hw : Own wr B 3 1 a l.length c (ints l) := H.out.below B2
      have HX := hid hx
      clear hx
      go_wp2_with (at_builtin; go_loud (refine wpList_app isl (.tmp 16) (.tmp 17) rfl rfl rfl hw rfl o2.row (by have := HX.out; simp; omega) (ints_one _) (Below.refl B wr) (by have := B2.size; omega) (by omega) (by unfold maxLen; omega) ?_))
      intro a3 c3 w3 o3 g3 B3
      have q := hw.grew g3 o3
      go_wp2_with fail
      go_end0
      refine ⟨rfl, q, ⟨⟨g3.step.grown.os.trans B2.os, g3.step.grown.tape.trans B2.tape, g3.step.grown.output.trans B2.output, Nat.le_trans B2.size g3.step.grown.size, fun k hk hkn => ?_⟩, .inl rfl⟩⟩
      rw [g3.step.grown.block k (by have := B2.size; omega) hkn]
      exact B2.block k hk

end Go.Proofs.YtigimkgmghjgoaaGreatDoor

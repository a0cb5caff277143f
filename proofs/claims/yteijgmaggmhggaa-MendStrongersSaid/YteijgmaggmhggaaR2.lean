/- The walks of Compare, Alike, Marked and Grown of ints (the document's answer). Conditions: the lists lie in memory as read, or in memory of the call's own. -/
import Derived.Test.YteijgmaggmhggaaRows
import Derived.Test.YteijgmaggmhggaaLib
import Derived.Test.YteijgmaggmhggaaMath
namespace Go.Proofs.Yteijgmaggmhggaa
open Go.RowKit
set_option linter.unusedVariables false

theorem isl : ElT Try.prog 25 3 (.int .i64 0) 1 8 := ⟨Try.underlying25, by kernel_rfl, rfl, by decide⟩

set_option maxHeartbeats 400000 in
theorem refCompare (a b : List Int) (a1 a2 : Option Addr) (c1 c2 : Nat) (w : World) (h1 : Ints w a1 a) (h2 : Ints w a2 b) :
    Calls Try.prog 26 #[.slice a1 a.length c1, .slice a2 b.length c2] w (RetQ w (.int .i64 (cmp a b))) := by
  have H1 := hid h1; have H2 := hid h2
  have hl1 := h1.len; have hl2 := h2.len; clear h1 h2
  go_enter Try.func26, Try.ntmps26
  go_wp2
  go_loopw [5] (fun i wr => ∃ k : Nat, k ≤ a.length ∧ k ≤ b.length ∧ i = .int .i64 k ∧ QW w wr ∧ Hid (cmp (a.drop k) (b.drop k) = cmp a b)) (fun i _ => a.length - (intOf i).toNat)
  case atStart => exact ⟨0, Nat.zero_le _, Nat.zero_le _, rfl, QW.refl _, hid rfl⟩
  case round =>
    obtain ⟨k, hk1, hk2, rfl, ⟨n, rfl⟩, hcmp⟩ := hrel
    by_cases hlt : k < a.length ∧ k < b.length
    · obtain ⟨hl1, hl2⟩ := hlt
      have c1' := H1.out.cell k hl1
      have c2' := H2.out.cell k hl2
      have i1 := H1.out.idx isl k hl1
      have i2 := H2.out.idx isl k hl2
      go_wp2_with fail
      go_quiet (fail)
      go_wp2_with fail
      · have h : a[k] < b[k] := by assumption
        go_ret
        exact ⟨ret_int (by rw [← hcmp.out, cmp_drop_lt hl1 hl2 h]), (by repeat (first | exact QW.refl _ | refine QW.d ?_ _))⟩
      · have h : b[k] ≤ a[k] := by assumption
        go_quiet (fail)
        go_wp2_with fail
        · have h' : b[k] < a[k] := by assumption
          go_ret
          exact ⟨ret_int (by rw [← hcmp.out, cmp_drop_gt hl1 hl2 h']), (by repeat (first | exact QW.refl _ | refine QW.d ?_ _))⟩
        · have h' : ¬ b[k] < a[k] := by omega
          have e := cmp_drop_eq hl1 hl2 (by omega)
          have E := hid (e.symm.trans hcmp.out)
          clear e
          go_roundw
          case rel => exact ⟨k + 1, by omega, by omega, by go_num, (by repeat (first | exact QW.refl _ | refine QW.d ?_ _)), E⟩
          case measure => simp [intOf]; omega
    · have e := cmp_drop_end (a := a) (b := b) hk1 hk2 (by omega)
      have E := hid (hcmp.out.symm.trans e)
      clear e
      by_cases hl1 : k < a.length
      · have hl2 : ¬ k < b.length := fun h => hlt ⟨hl1, h⟩
        clear hlt
        go_wp2_with fail
        all_goals
          have E' := E.out
          clear E
          go_ret
          exact ⟨ret_int (by rw [E']; simp [*]), (by repeat (first | exact QW.refl _ | refine QW.d ?_ _))⟩
      · clear hlt
        go_wp2_with fail
        all_goals
          have E' := E.out
          clear E
          go_ret
          exact ⟨ret_int (by rw [E']; simp [*]), (by repeat (first | exact QW.refl _ | refine QW.d ?_ _))⟩

set_option maxHeartbeats 400000 in
theorem refAlike (a b : List Int) (a1 a2 : Option Addr) (c1 c2 : Nat) (w : World) (h1 : Ints w a1 a) (h2 : Ints w a2 b) :
    Calls Try.prog 9 #[.slice a1 a.length c1, .slice a2 b.length c2] w (RetQ w (.bool (decide (a = b)))) := by
  have H1 := hid h1; have H2 := hid h2; clear h1 h2
  have e : (cmp a b == 0) = decide (a = b) := by rw [Bool.eq_iff_iff]; simp [cmp_eq_zero]
  have E := hid e
  clear e
  go_enter Try.func9, Try.ntmps9
  go_wp2_with (go_at_call 26; refine (refCompare a b _ _ _ _ _ H1.out H2.out).mono ?_; rintro e w' ⟨rfl, n, rfl⟩)
  go_ret
  exact ⟨ret_bool E.out, (by repeat (first | exact QW.refl _ | refine QW.d ?_ _))⟩


/-- a row of the call's own was written over, nothing else of what was there -/
def Wrote (B : Nat) (w : World) (a : Option Addr) (n c : Nat) (l : List Int) (e : Ending) (w' : World) : Prop :=
  e = .returned (.tuple #[]) ∧ OwnI w' B a n c l ∧ Step w w' a a

set_option maxHeartbeats 400000 in
theorem refMarked (l : List Int) (m : Int) (B : Nat) (a : Option Addr) (n c : Nat) (w : World) (h : OwnI w B a n c l) (hm0 : 0 ≤ m) (hm : m ≤ 1000000000000000000) :
    Calls Try.prog 11 #[.slice a n c, .int .i64 m] w (Wrote B w a n c (List.replicate l.length (-1000000 - m))) := by
  have hl := h.ints.1.len
  obtain rfl := h.ints.2
  have H := hid h; clear h
  go_enter Try.func11, Try.ntmps11
  go_wp2_with fail
  go_loopw [4] (fun i wr => ∃ (j : Nat), j ≤ l.length ∧ i = .int .i64 j ∧ OwnI wr B a l.length c (List.replicate j (-1000000 - m) ++ l.drop j) ∧ Step w wr a a) (fun i _ => l.length - (intOf i).toNat)
  case atStart => exact ⟨0, Nat.zero_le _, rfl, by simpa using H.out, Step.refl _ _⟩
  case round =>
    obtain ⟨j, hj, rfl, o1, st1⟩ := hrel
    by_cases hlt : j < l.length
    · have hlen : (List.replicate j (-1000000 - m) ++ l.drop j).length = l.length := by simp; omega
      have ij := (o1.ints.1).idx isl j (by rw [hlen]; exact hlt)
      have cj := (o1.ints.1).cell j (by rw [hlen]; exact hlt)
      obtain ⟨v, hv⟩ : ∃ v, (List.replicate j (-1000000 - m) ++ l.drop j)[j]'(by rw [hlen]; exact hlt) = v := ⟨_, rfl⟩
      rw [hv] at cj
      clear hv
      have fj := Own.frozen o1 (Own.some o1 (by omega)) j
      have oj := Own.set o1 (Own.some o1 (by omega)) j (.int .i64 (-1000000 - m))
      have e : (List.replicate j (-1000000 - m) ++ l.drop j).set j (-1000000 - m) = List.replicate (j + 1) (-1000000 - m) ++ l.drop (j + 1) := by
        rw [List.set_append_right _ _ (by simp)]
        simp only [List.length_replicate, Nat.sub_self]
        rw [List.drop_eq_getElem_cons hlt, List.set_cons_zero, List.replicate_succ', List.append_assoc]; rfl
      obtain ⟨oj1, oj2⟩ := oj
      have oj3 : OwnI (wr.setCell ⟨bk a, fo a + j, none⟩ (.int .i64 (-1000000 - m))) B a l.length c (List.replicate (j + 1) (-1000000 - m) ++ l.drop (j + 1)) := by
        rw [← e]; simpa only [OwnI, ints, List.map_set] using oj1
      have st3 := st1.trans oj2
      rw [hlen] at ij
      clear e oj1 oj2 hlen
      go_wp2_with fail
      go_roundw
      case rel => exact ⟨j + 1, by omega, by go_num, oj3, st3⟩
      case measure => simp [intOf]; omega
    · obtain rfl : j = l.length := by omega
      go_wp2_with fail
      go_end0
      exact ⟨rfl, by simpa using o1, st1⟩

set_option maxHeartbeats 400000 in
theorem refGrown (l : List Int) (m : Int) (B : Nat) (a : Option Addr) (n c : Nat) (w : World) (h : OwnI w B a n c l) (hB : B ≤ w.heap.size) (hb : l.length * 8 ≤ 140737488355000) (hm0 : 0 ≤ m) (hm : m ≤ 1000000000000000000) :
    Calls Try.prog 13 #[.slice a n c, .int .i64 m] w (Wrote B w a n c l) := by
  obtain rfl := h.ints.2
  have H := hid h; clear h
  go_enter Try.func13, Try.ntmps13
  go_wp2_with fail
  go_loopw [0, 4] (fun s i wr => ∃ (j : Nat) (a' : Option Addr) (c' : Nat), j ≤ 20 ∧ i = .int .i64 j ∧ s = .slice a' (l.length + j) c' ∧ OwnI wr B a' (l.length + j) c' (l ++ List.replicate j (-2000000 - m)) ∧ OwnI wr B a l.length c l ∧ Step w wr a a ∧ Tail w a c a' c') (fun _ i _ => 20 - (intOf i).toNat)
  case atStart => exact ⟨0, a, c, Nat.zero_le _, rfl, by simp, by simpa [OwnI] using H.out, H.out, Step.refl _ _, .inl ⟨rfl, rfl⟩⟩
  case round =>
    obtain ⟨j, a', c', hj, rfl, rfl, o1, o2, st1, tl⟩ := hrel
    by_cases hlt : j < 20
    · have hBr : B ≤ wr.heap.size := Nat.le_trans hB st1.grown.size
      go_wp2_with (at_builtin; go_loud (refine wpList_app1 isl (.tmp 9) (.tmp 12) rfl rfl rfl o1 rfl rfl (by intro u hu; simp at hu; subst hu; rfl) (Below.refl B wr) hBr (by omega) (by unfold maxLen; omega) ?_))
      intro a3 c3 w3 o3 g3 B3
      have hlt' : a ≠ none → bk a < w.heap.size := fun h => (Own.lt H.out h).2
      have e : ints (l ++ List.replicate j (-2000000 - m)) = ints l ++ ints (List.replicate j (-2000000 - m)) := by simp [ints]
      obtain ⟨q1, q2, q3⟩ := Tail.grew (m := 1) (zs := [.int .i64 (-2000000 - m)]) (ys := ints (List.replicate j (-2000000 - m))) o2 (by rw [← e]; exact o1) st1 hlt' tl g3 (by simpa [ints] using o3)
      have o4 : OwnI w3 B a3 (l.length + (j + 1)) c3 (l ++ List.replicate (j + 1) (-2000000 - m)) := by
        rw [List.replicate_succ', ← List.append_assoc]; simpa [OwnI, ints, Nat.add_assoc] using o3
      clear o1 o2 o3 g3 tl e st1
      go_wp2_with fail
      go_roundw
      case rel => exact ⟨j + 1, a3, c3, by omega, by go_num, by simp [Nat.add_assoc], o4, q1, q2, q3⟩
      case measure => simp [intOf]; omega
    · go_wp2_with fail
      go_end0
      exact ⟨rfl, o2, st1⟩


end Go.Proofs.Yteijgmaggmhggaa

/- The walks of what the statements do to answers: Lent, Kept, Marked, Grown, Heaped, Bears. Conditions: the lists lie in memory as read; sizes below the reach. -/
import Derived.Test.YtdafpafoioejaaaW2
namespace Go.Proofs.Ytdafpafoioejaaa
open Go.RowKit
set_option linter.unusedVariables false

/-- a slice of a list, and marks in the room behind it, in memory of the call's own -/
def LentTo (w : World) (l : List Int) (e : Ending) (w' : World) : Prop :=
  ∃ a c, e = .returned (.slice a l.length c) ∧ OwnI w' w.heap.size a (l.length + 70) c (l ++ marks 70) ∧ Below w.heap.size w w'

set_option maxHeartbeats 400000 in
theorem refLent (l : List Int) (a : Option Addr) (c : Nat) (w : World) (h : Ints w a l) (hc : l.length ≤ c) (hb : l.length * 8 ≤ 140737488351232) :
    Calls Try.prog 11 #[.slice a l.length c] w (LentTo w l) := by
  have H := hid h; have hl := h.len; clear h
  go_enter Try.func11, Try.ntmps11
  go_wp2_with (at_make; go_loud (refine wpList_mk0 isl _ _ rfl rfl (l.length + 70) rfl rfl (by omega) (by omega) (by unfold maxLen; omega) (Below.refl w.heap.size w) (by simp) ?_))
  intro a1 w1 o1 st1 B1
  go_wp2_with (at_builtin; go_loud (refine wpList_app isl (.tmp 9) (.tmp 10) rfl rfl rfl o1 rfl ((H.out.below B1)).row (by simp) (ints_one _) B1 B1.size (by omega) (by unfold maxLen; omega) ?_))
  intro a2 c2 w2 o2 st2 B2
  go_wp2_with fail
  go_loopw [3, 4] (fun s i wr => ∃ (j : Nat) (a' : Option Addr) (c' : Nat), j ≤ 70 ∧ i = .int .i64 j ∧ s = .slice a' (l.length + j) c' ∧ OwnI wr w.heap.size a' (l.length + j) c' (l ++ marks j) ∧ Below w.heap.size w wr) (fun _ i _ => 70 - (intOf i).toNat)
  case atStart => exact ⟨0, a2, c2, Nat.zero_le _, rfl, by simp, by simpa [marks, OwnI] using o2, B2⟩
  case round =>
    obtain ⟨j, a', c', hj, rfl, rfl, o1, B1⟩ := hrel
    by_cases hlt : j < 70
    · have E := hid (marks_succ j)
      go_wp2_with (at_builtin; go_loud (refine wpList_app1 isl (.tmp 16) (.tmp 19) rfl rfl rfl o1 rfl rfl (by intro u hu; simp at hu; subst hu; rfl) B1 B1.size (by omega) (by unfold maxLen; omega) ?_))
      intro a3 c3 w3 o3 st3 B3
      have o4 : OwnI w3 w.heap.size a3 (l.length + (j + 1)) c3 (l ++ marks (j + 1)) := by rw [E.out]; simpa [OwnI, ints, Nat.add_assoc] using o3
      clear o3 E
      go_wp2_with fail
      go_roundw
      case rel => exact ⟨j + 1, a3, c3, by omega, by go_num, by simp [Nat.add_assoc], o4, B3⟩
      case measure => simp [intOf]; omega
    · obtain rfl : j = 70 := by omega
      have hcap : l.length ≤ c' := by have := o1.cap.1; omega
      have s2 := run_cut_to isl a' (l.length + 70) c' l.length hcap .i64
      go_wp2_with fail
      go_ret
      exact ⟨_, _, rfl, o1, B1⟩

set_option maxHeartbeats 400000 in
theorem refKept (l m : List Int) (a1 a2 : Option Addr) (c1 c2 : Nat) (w : World) (h1 : Ints w a1 (l ++ marks 70)) (h2 : Ints w a2 m) (hlm : l.length = m.length) (hc : m.length + 70 ≤ c1) (hm : m.length ≤ 9000000000000000000) :
    Calls Try.prog 19 #[.slice a1 m.length c1, .slice a2 m.length c2] w (RetQ w (.bool (decide (l = m)))) := by
  have H1 := hid h1; have H2 := hid h2; clear h1 h2
  have s1 := run_cut_to isl a1 m.length c1 (m.length + 70) hc .i64
  have HL := hid hlm
  clear hlm
  go_enter Try.func19, Try.ntmps19
  go_wp2_with fail
  go_loopw [6] (fun i wr => ∃ (j : Nat), j ≤ 70 ∧ i = .int .i64 j ∧ QW w wr) (fun i _ => 70 - (intOf i).toNat)
  case atStart => exact ⟨0, Nat.zero_le _, rfl, QW.refl _⟩
  case round =>
    obtain ⟨j, hj, rfl, ⟨n, rfl⟩⟩ := hrel
    by_cases hlt : j < 70
    · have cj := H1.out.cell (m.length + j) (by have := HL.out; simp [marks_length]; omega)
      have ij := H1.out.idxz isl (m.length + j) (by have := HL.out; simp [marks_length]; omega) ((m.length : Int) + (j : Int)) (by omega)
      have hlen : (l ++ marks 70).length = m.length + 70 := by have := HL.out; simp [marks_length]; omega
      have hg : (l ++ marks 70)[m.length + j]? = some ((-770000 : Int) - j) := by
        rw [List.getElem?_append_right (by have := HL.out; omega), HL.out, Nat.add_sub_cancel_left, marks_get 70 j hlt]
      rw [List.getElem?_eq_getElem (by omega)] at hg
      simp only [Option.some.injEq] at hg
      rw [hg] at cj
      rw [hlen] at ij
      clear hg hlen
      go_wp2_with fail
      go_roundw
      case rel => exact ⟨j + 1, by omega, by go_num, (by repeat (first | exact QW.refl _ | refine QW.d ?_ _))⟩
      case measure => simp [intOf]; omega
    · have C := fun w' (A : Ints w' a1 l) (M : Ints w' a2 m) => refAlike l m a1 a2 c1 c2 w' A M
      rw [HL.out] at C
      have A := H1.out.app_left
      have CH := hid C; have AH := hid A
      clear C A
      go_wp2_with fail
      refine (CH.out _ (AH.out.drewN _) (H2.out.drewN _)).mono ?_
      rintro e w' ⟨rfl, n2, rfl⟩
      go_wp2_with fail
      go_ret
      exact ⟨rfl, (by repeat (first | exact QW.refl _ | refine QW.d ?_ _))⟩

/-- a row of the call's own was written over, nothing else of what was there -/
def Wrote (B : Nat) (w : World) (a : Option Addr) (n c : Nat) (l : List Int) (e : Ending) (w' : World) : Prop :=
  e = .returned (.tuple #[]) ∧ OwnI w' B a n c l ∧ Step w w' a a

set_option maxHeartbeats 400000 in
theorem refMarked (l : List Int) (m : Int) (B : Nat) (a : Option Addr) (n c : Nat) (w : World) (h : OwnI w B a n c l) (hm0 : 0 ≤ m) (hm : m ≤ 1000000000000000000) :
    Calls Try.prog 24 #[.slice a n c, .int .i64 m] w (Wrote B w a n c (List.replicate l.length (-1000000 - m))) := by
  have hl := h.ints.1.len
  obtain rfl := h.ints.2
  have H := hid h; clear h
  go_enter Try.func24, Try.ntmps24
  go_wp2_with fail
  go_loopw [4] (fun i wr => ∃ (j : Nat), j ≤ l.length ∧ i = .int .i64 j ∧ OwnI wr B a l.length c (List.replicate j (-1000000 - m) ++ l.drop j) ∧ Step w wr a a) (fun i _ => l.length - (intOf i).toNat)
  case atStart => exact ⟨0, Nat.zero_le _, rfl, by simpa using H.out, Step.refl _ _⟩
  case round =>
    obtain ⟨j, hj, rfl, o1, st1⟩ := hrel
    by_cases hlt : j < l.length
    · have hlen : (List.replicate j (-1000000 - m) ++ l.drop j).length = l.length := by simp; omega
      have ij := (o1.ints.1).idx isl j (by rw [hlen]; exact hlt)
      have cj := (o1.ints.1).cell j (by rw [hlen]; exact hlt)
      obtain ⟨v, hv⟩ : ∃ v, (List.replicate j (-1000000 - m) ++ l.drop j)[j]'(by rw [hlen]; exact hlt) = v := ⟨_, rfl⟩
      rw [hv] at cj
      clear hv
      have fj := Own.frozen o1 (Own.some o1 (by omega)) j
      have oj := Own.set o1 (Own.some o1 (by omega)) j (.int .i64 (-1000000 - m))
      have e : (List.replicate j (-1000000 - m) ++ l.drop j).set j (-1000000 - m) = List.replicate (j + 1) (-1000000 - m) ++ l.drop (j + 1) := by
        rw [List.set_append_right _ _ (by simp)]
        simp only [List.length_replicate, Nat.sub_self]
        rw [List.drop_eq_getElem_cons hlt, List.set_cons_zero, List.replicate_succ', List.append_assoc]; rfl
      obtain ⟨oj1, oj2⟩ := oj
      have oj3 : OwnI (wr.setCell ⟨bk a, fo a + j, none⟩ (.int .i64 (-1000000 - m))) B a l.length c (List.replicate (j + 1) (-1000000 - m) ++ l.drop (j + 1)) := by
        rw [← e]; simpa only [OwnI, ints, List.map_set] using oj1
      have st3 := st1.trans oj2
      rw [hlen] at ij
      clear e oj1 oj2 hlen
      go_wp2_with fail
      go_roundw
      case rel => exact ⟨j + 1, by omega, by go_num, oj3, st3⟩
      case measure => simp [intOf]; omega
    · obtain rfl : j = l.length := by omega
      go_wp2_with fail
      go_end0
      exact ⟨rfl, by simpa using o1, st1⟩

set_option maxHeartbeats 400000 in
theorem refGrown (l : List Int) (m : Int) (B : Nat) (a : Option Addr) (n c : Nat) (w : World) (h : OwnI w B a n c l) (hB : B ≤ w.heap.size) (hb : l.length * 8 ≤ 140737488355000) (hm0 : 0 ≤ m) (hm : m ≤ 1000000000000000000) :
    Calls Try.prog 25 #[.slice a n c, .int .i64 m] w (Wrote B w a n c l) := by
  obtain rfl := h.ints.2
  have H := hid h; clear h
  go_enter Try.func25, Try.ntmps25
  go_wp2_with fail
  go_loopw [0, 4] (fun s i wr => ∃ (j : Nat) (a' : Option Addr) (c' : Nat), j ≤ 20 ∧ i = .int .i64 j ∧ s = .slice a' (l.length + j) c' ∧ OwnI wr B a' (l.length + j) c' (l ++ List.replicate j (-2000000 - m)) ∧ OwnI wr B a l.length c l ∧ Step w wr a a ∧ Tail w a c a' c') (fun _ i _ => 20 - (intOf i).toNat)
  case atStart => exact ⟨0, a, c, Nat.zero_le _, rfl, by simp, by simpa [OwnI] using H.out, H.out, Step.refl _ _, .inl ⟨rfl, rfl⟩⟩
  case round =>
    obtain ⟨j, a', c', hj, rfl, rfl, o1, o2, st1, tl⟩ := hrel
    by_cases hlt : j < 20
    · have hBr : B ≤ wr.heap.size := Nat.le_trans hB st1.grown.size
      go_wp2_with (at_builtin; go_loud (refine wpList_app1 isl (.tmp 9) (.tmp 12) rfl rfl rfl o1 rfl rfl (by intro u hu; simp at hu; subst hu; rfl) (Below.refl B wr) hBr (by omega) (by unfold maxLen; omega) ?_))
      intro a3 c3 w3 o3 g3 B3
      have hlt' : a ≠ none → bk a < w.heap.size := fun h => (Own.lt H.out h).2
      have e : ints (l ++ List.replicate j (-2000000 - m)) = ints l ++ ints (List.replicate j (-2000000 - m)) := by simp [ints]
      obtain ⟨q1, q2, q3⟩ := Tail.grew (m := 1) (zs := [.int .i64 (-2000000 - m)]) (ys := ints (List.replicate j (-2000000 - m))) o2 (by rw [← e]; exact o1) st1 hlt' tl g3 (by simpa [ints] using o3)
      have o4 : OwnI w3 B a3 (l.length + (j + 1)) c3 (l ++ List.replicate (j + 1) (-2000000 - m)) := by
        rw [List.replicate_succ', ← List.append_assoc]; simpa [OwnI, ints, Nat.add_assoc] using o3
      clear o1 o2 o3 g3 tl e st1
      go_wp2_with fail
      go_roundw
      case rel => exact ⟨j + 1, a3, c3, by omega, by go_num, by simp [Nat.add_assoc], o4, q1, q2, q3⟩
      case measure => simp [intOf]; omega
    · go_wp2_with fail
      go_end0
      exact ⟨rfl, o2, st1⟩

set_option maxHeartbeats 400000 in
theorem refHeaped (l : List Int) (m : Int) (B : Nat) (a : Option Addr) (n c : Nat) (w : World) (h : OwnI w B a n c l) (hB : B ≤ w.heap.size) (hb : l.length * 8 ≤ 140737488354000) (hm0 : 0 ≤ m) (hm : m ≤ 1000000000000000000) :
    Calls Try.prog 26 #[.slice a n c, .int .i64 m] w (Wrote B w a n c l) := by
  obtain rfl := h.ints.2
  have H := hid h; clear h
  go_enter Try.func26, Try.ntmps26
  go_wp2_with (at_make; go_loud (refine wpList_mk isl _ _ rfl rfl 80 rfl rfl (by omega) (by omega) (by omega) (by unfold maxLen; omega) (Below.refl w.heap.size w) (Nat.le_refl _) ?_))
  intro a1 w1 o1 st1 B1
  have S1 : Step w w1 a a := ⟨grownBy_none st1.grown, .inl rfl⟩
  go_wp2_with fail
  go_loopw [5] (fun i wr => ∃ (j : Nat) (x : List Int), j ≤ 80 ∧ i = .int .i64 j ∧ x.length = 80 ∧ OwnI wr w.heap.size a1 80 80 x ∧ Below w.heap.size w wr) (fun i _ => 80 - (intOf i).toNat)
  case atStart => exact ⟨0, List.replicate 80 0, Nat.zero_le _, rfl, by simp, (by have h := o1; rw [madeI 80] at h; exact h), B1⟩
  case round =>
    obtain ⟨j, x, hj, rfl, hx, o2, B2⟩ := hrel
    by_cases hlt : j < 80
    · have ij := (o2.ints.1).idx isl j (by omega)
      have cj := (o2.ints.1).cell j (by omega)
      rw [hx] at ij
      have fj := Own.frozen o2 (Own.some o2 (by omega)) j
      obtain ⟨q1, q2⟩ := Own.set o2 (Own.some o2 (by omega)) j (.int .i64 (-3000000 - m))
      have q3 : OwnI (wr.setCell ⟨bk a1, fo a1 + j, none⟩ (.int .i64 (-3000000 - m))) w.heap.size a1 80 80 (x.set j (-3000000 - m)) := by
        simpa only [OwnI, ints, List.map_set] using q1
      have B3 := q2.below o2 B2 B2.size
      clear q1 q2
      obtain ⟨v, hv⟩ : ∃ v, x[j]'(by omega) = v := ⟨_, rfl⟩
      rw [hv] at cj
      have HX := hid hx
      clear hv hx
      go_wp2_with fail
      go_roundw
      case rel => exact ⟨j + 1, _, by omega, by go_num, by simpa using HX.out, q3, B3⟩
      case measure => simp [intOf]; omega
    · have hw : Own wr B 3 1 a l.length c (ints l) := H.out.below B2
      have HX := hid hx
      clear hx
      go_wp2_with (at_builtin; go_loud (refine wpList_app isl (.tmp 16) (.tmp 17) rfl rfl rfl hw rfl o2.row (by have := HX.out; simp; omega) (ints_one _) (Below.refl B wr) (by have := B2.size; omega) (by omega) (by unfold maxLen; omega) ?_))
      intro a3 c3 w3 o3 g3 B3
      have q := hw.grew g3 o3
      go_wp2_with fail
      go_end0
      refine ⟨rfl, q, ⟨⟨g3.step.grown.os.trans B2.os, g3.step.grown.tape.trans B2.tape, g3.step.grown.output.trans B2.output, Nat.le_trans B2.size g3.step.grown.size, fun k hk hkn => ?_⟩, .inl rfl⟩⟩
      rw [g3.step.grown.block k (by have := B2.size; omega) hkn]
      exact B2.block k hk

set_option maxHeartbeats 400000 in
theorem refBears (l : List Int) (m : Int) (a : Option Addr) (c : Nat) (w : World) (h : Ints w a l) (hm0 : 0 ≤ m) (hm : m ≤ 1000000000000000000) :
    Calls Try.prog 27 #[.slice a l.length c, .int .i64 m] w (RetQ w (.bool (decide (∀ x ∈ l, x = -1000000 - m)))) := by
  have H := hid h; have hl := h.len; clear h
  go_enter Try.func27, Try.ntmps27
  go_wp2_with fail
  go_loopw [5] (fun i wr => ∃ (j : Nat), j ≤ l.length ∧ i = .int .i64 j ∧ QW w wr ∧ Hid (∀ x ∈ l.take j, x = -1000000 - m)) (fun i _ => l.length - (intOf i).toNat)
  case atStart => exact ⟨0, Nat.zero_le _, rfl, QW.refl _, hid (by simp)⟩
  case round =>
    obtain ⟨j, hj, rfl, ⟨n, rfl⟩, hall⟩ := hrel
    by_cases hlt : j < l.length
    · have cj := H.out.cell j hlt
      have ij := H.out.idx isl j hlt
      go_wp2_with fail
      · have hne : (l[j] != -1000000 - m) = true := by assumption
        go_ret
        refine ⟨ret_bool ?_, (by repeat (first | exact QW.refl _ | refine QW.d ?_ _))⟩
        symm
        rw [decide_eq_false_iff_not]
        intro hh
        have := hh l[j] (List.getElem_mem hlt)
        simp [this] at hne
      · have he : (l[j] != -1000000 - m) = false := by assumption
        have hE : Hid (∀ x ∈ l.take (j + 1), x = -1000000 - m) := by
          refine hid ?_
          rw [List.take_add_one]
          intro x hx
          rcases List.mem_append.1 hx with h1 | h1
          · exact hall.out x h1
          · simp [hlt] at h1 he; omega
        refine ⟨⟨j + 1, by omega, by go_num, (by repeat (first | exact QW.refl _ | refine QW.d ?_ _)), hE⟩, by simp [intOf]; omega⟩
    · go_wp2_with fail
      go_ret
      refine ⟨ret_bool ?_, (by repeat (first | exact QW.refl _ | refine QW.d ?_ _))⟩
      have h := hall.out
      rw [List.take_of_length_le (by omega)] at h
      exact (decide_eq_true h).symm
end Go.Proofs.Ytdafpafoioejaaa

/- The walks of Marked, Grown, Lent, Kept of edges (the document's answer). Conditions: the edges lie in memory as read, or in memory of the call's own. -/
import Derived.Test.YteijgmaggmhggaaE24
namespace Go.Proofs.Yteijgmaggmhggaa
open Go.RowKit
set_option linter.unusedVariables false

attribute [local go_sem high] eqE neqE

theorem step_of_below {w w' : World} (h : Below w.heap.size w w') (a : Option Addr) : Step w w' a a := ⟨⟨h.os, h.tape, h.output, h.size, fun k hk _ => h.block k hk⟩, .inl rfl⟩
/-- edges of the call's own were written over, nothing else of what was there -/
def WroteE (B : Nat) (w : World) (a : Option Addr) (n c : Nat) (l : List Edge) (e : Ending) (w' : World) : Prop :=
  e = .returned (.tuple #[]) ∧ OwnE w' B a n c l ∧ Step w w' a a

set_option maxRecDepth 100000 in
set_option maxHeartbeats 1600000 in
theorem refMarkedE (l : List Edge) (m : Int) (B : Nat) (a : Option Addr) (c : Nat) (w : World) (h : OwnE w B a l.length c l) (hB : B ≤ w.heap.size) (hl : l.length ≤ 1000000000000000000) (hm0 : 0 ≤ m) (hm : m ≤ 100000000000000000) :
    Calls Try.prog 10 #[.slice a l.length c, .int .i64 m] w (WroteE B w a l.length c (List.replicate l.length (markE (500 + m)))) := by
  have st := Step.refl w a
  go_enter Try.func10, Try.ntmps10
  go_wp2_with fail
  go_loopw [4] (fun i wr => ∃ (j : Nat) (L : List Edge), j ≤ l.length ∧ i = .int .i64 j ∧ L.length = l.length ∧ Hid (L.take j = List.replicate j (markE (500 + m))) ∧ OwnE wr B a l.length c L ∧ Step w wr a a) (fun i _ => l.length - (intOf i).toNat)
  case atStart => exact ⟨0, l, Nat.zero_le _, rfl, rfl, hid rfl, h, st⟩
  case round =>
    clear h st
    obtain ⟨j, L, hj, rfl, hL, HT, o, st⟩ := hrel
    by_cases hlt : j < l.length
    · have hBw : B ≤ wr.heap.size := Nat.le_trans hB st.grown.size
      go_wp2_with fail
      refine (refMark (500 + m) (by omega) (by omega) _).mono ?_
      rintro e w7 ⟨rfl, E7⟩
      have st2 := st.trans (step_of_below E7 a)
      have o2 : OwnE w7 B a l.length c L := o.below E7
      have es := OwnE.es o2 (by omega : L.length ≤ 1000000000000000000)
      obtain ⟨q0, q1, q2, q3, q4, q5⟩ := es.cells j (by omega) _ rfl
      generalize L[j]'(by omega) = g at *
      have iy := es.idx j (by omega)
      rw [hL] at iy
      obtain ⟨f0, f1, f2, f3, f4, f5⟩ := OwnE.frz o2 (by omega) j
      obtain ⟨o3, s3⟩ := OwnE.store o2 j (by omega) (markE (500 + m))
      have st3 := st2.trans s3
      have HT2 := hid (show (L.set j (markE (500 + m))).take (j + 1) = List.replicate (j + 1) (markE (500 + m)) by
        rw [List.take_add_one, List.take_set_of_le (Nat.le_refl j), HT.out, List.getElem?_set_self (by omega), List.replicate_succ']; rfl)
      rw [setCells6] at o3 st3
      clear es o o2 s3 st st2
      go_wp2_with fail
      go_roundw
      case rel => exact ⟨j + 1, _, by omega, by go_num, by rw [List.length_set]; exact hL, HT2, o3, st3⟩
      case measure => simp [intOf]; omega
    · have hjl : j = l.length := by omega
      have hLL := hid (show L = List.replicate l.length (markE (500 + m)) by
        have := HT.out
        rwa [List.take_of_length_le (by omega), hjl] at this)
      go_wp2_with fail
      go_end0
      exact ⟨rfl, by rw [← hLL.out]; exact o, st⟩
set_option maxRecDepth 100000 in
set_option maxHeartbeats 1600000 in
theorem refGrownE (l : List Edge) (m : Int) (B : Nat) (a : Option Addr) (c : Nat) (w : World) (h : OwnE w B a l.length c l) (hB : B ≤ w.heap.size) (hl : l.length ≤ 1000000000) (hm0 : 0 ≤ m) (hm : m ≤ 100000000000000000) :
    Calls Try.prog 12 #[.slice a l.length c, .int .i64 m] w (WroteE B w a l.length c l) := by
  have st := Step.refl w a
  have hlt0 : a ≠ none → bk a < w.heap.size := fun h' => (Own.lt h h').2
  have HLT := hid hlt0
  clear hlt0
  have o0 : OwnE w B a (l.length + 0) c (l ++ List.replicate 0 (markE (9000 + m))) := by simpa using h
  go_enter Try.func12, Try.ntmps12
  go_wp2_with fail
  go_loopw [0, 4] (fun s i wr => ∃ (j : Nat) (a' : Option Addr) (c' : Nat), j ≤ 20 ∧ i = .int .i64 j ∧ s = .slice a' (l.length + j) c' ∧ OwnE wr B a' (l.length + j) c' (l ++ List.replicate j (markE (9000 + m))) ∧ OwnE wr B a l.length c l ∧ Step w wr a a ∧ Tail w a c a' c') (fun _ i _ => 20 - (intOf i).toNat)
  case atStart => exact ⟨0, a, c, Nat.zero_le _, rfl, by simp, o0, h, st, .inl ⟨rfl, rfl⟩⟩
  case round =>
    clear o0 h st
    obtain ⟨j, a', c', hj, rfl, rfl, o1, o2, st1, tl⟩ := hrel
    by_cases hlt : j < 20
    · have hBr : B ≤ wr.heap.size := Nat.le_trans hB st1.grown.size
      go_wp2_with fail
      refine (refMark (9000 + m) (by omega) (by omega) _).mono ?_
      rintro e w7 ⟨rfl, E7⟩
      have o1 : OwnE w7 B a' (l.length + j) c' (l ++ List.replicate j (markE (9000 + m))) := o1.below E7
      have o2 : OwnE w7 B a l.length c l := o2.below E7
      have st1 := st1.trans (step_of_below E7 a)
      have hBr : B ≤ w7.heap.size := Nat.le_trans hB st1.grown.size
      go_wp2_with (at_builtin; go_loud (refine wpList_app1 esl (.tmp 9) (.tmp 13) rfl rfl rfl o1 rfl rfl (eC_one (markE (9000 + m))) (Below.refl B w7) hBr (by omega) (by unfold maxLen; omega) ?_))
      intro a3 c3 w3 o3 g3 B3
      have e : edges (l ++ List.replicate j (markE (9000 + m))) = edges l ++ edges (List.replicate j (markE (9000 + m))) := edges_app _ _
      obtain ⟨q1, q2, q3⟩ := Tail.grew (m := 1) (zs := eC (markE (9000 + m))) (ys := edges (List.replicate j (markE (9000 + m)))) o2 (by rw [← e]; exact o1) st1 HLT.out tl g3 (by rw [← e]; exact o3)
      have o4 : OwnE w3 B a3 (l.length + (j + 1)) c3 (l ++ List.replicate (j + 1) (markE (9000 + m))) := by
        unfold OwnE
        rw [List.replicate_succ', ← List.append_assoc, edges_snoc]; exact o3
      clear o1 o2 o3 g3 tl e st1
      go_wp2_with fail
      go_roundw
      case rel => exact ⟨j + 1, a3, c3, by omega, by go_num, by simp [Nat.add_assoc], o4, q1, q2, q3⟩
      case measure => simp [intOf]; omega
    · go_wp2_with fail
      go_end0
      exact ⟨rfl, o2, st1⟩

def marksE (n : Nat) : List Edge := (List.range n).map fun (k : Nat) => markE (k : Int)
theorem marksE_succ (n : Nat) : marksE (n + 1) = marksE n ++ [markE (n : Int)] := by unfold marksE; rw [List.range_succ, List.map_append]; rfl
theorem marksE_length (n : Nat) : (marksE n).length = n := by simp [marksE]
theorem marksE_get (n k : Nat) (h : k < n) : (marksE n)[k]'(by rw [marksE_length]; exact h) = markE (k : Int) := by simp [marksE]
/-- a slice of edges, and marks in the room behind it, in memory of the call's own -/
def LentE (w : World) (l : List Edge) (e : Ending) (w' : World) : Prop :=
  ∃ a c, e = .returned (.slice a l.length c) ∧ OwnE w' w.heap.size a (l.length + 40) c (l ++ marksE 40) ∧ Below w.heap.size w w'
set_option maxRecDepth 100000 in
set_option maxHeartbeats 1600000 in
theorem refLentE (l : List Edge) (a : Option Addr) (c : Nat) (w : World) (h : Es w a l) (hb : l.length * 40 ≤ 140737488351232) :
    Calls Try.prog 15 #[.slice a l.length c] w (LentE w l) := by
  have H := hid h; have hl := h.len; clear h
  go_enter Try.func15, Try.ntmps15
  go_wp2_with (at_make; go_loud (refine wpList_mk0 esl _ _ rfl rfl (l.length + 40) rfl rfl (by omega) (by omega) (by unfold maxLen; omega) (Below.refl w.heap.size w) (by simp) ?_))
  intro a1 w1 o1 st1 B1
  go_wp2_with (at_builtin; go_loud (refine wpList_app esl (.tmp 9) (.tmp 10) rfl rfl rfl o1 rfl ((H.out.below B1)).row (edges_length l) (edges_oneCell _) B1 B1.size (by omega) (by unfold maxLen; omega) ?_))
  intro a2 c2 w2 o2 st2 B2
  have o20 : OwnE w2 w.heap.size a2 (l.length + 0) c2 (l ++ marksE 0) := by simpa [marksE, OwnE] using o2
  clear o2
  go_wp2_with fail
  go_loopw [3, 4] (fun s i wr => ∃ (j : Nat) (a' : Option Addr) (c' : Nat), j ≤ 40 ∧ i = .int .i64 j ∧ s = .slice a' (l.length + j) c' ∧ OwnE wr w.heap.size a' (l.length + j) c' (l ++ marksE j) ∧ Below w.heap.size w wr) (fun _ i _ => 40 - (intOf i).toNat)
  case atStart => exact ⟨0, a2, c2, Nat.zero_le _, rfl, by simp, o20, B2⟩
  case round =>
    clear o20 B2
    obtain ⟨j, a', c', hj, rfl, rfl, o1, B1⟩ := hrel
    by_cases hlt : j < 40
    · have E := hid (marksE_succ j)
      go_wp2_with fail
      refine (refMark (j : Int) (by omega) (by omega) _).mono ?_
      rintro e w7 ⟨rfl, E7⟩
      have o1 : OwnE w7 w.heap.size a' (l.length + j) c' (l ++ marksE j) := o1.below E7
      have B1 := B1.trans (E7.mono B1.size)
      go_wp2_with (at_builtin; go_loud (refine wpList_app1 esl (.tmp 16) (.tmp 19) rfl rfl rfl o1 rfl rfl (eC_one (markE (j : Int))) B1 B1.size (by omega) (by unfold maxLen; omega) ?_))
      intro a3 c3 w3 o3 st3 B3
      have o4 : OwnE w3 w.heap.size a3 (l.length + (j + 1)) c3 (l ++ marksE (j + 1)) := by
        unfold OwnE
        rw [E.out, ← List.append_assoc, edges_snoc]; exact o3
      clear o3 E
      go_wp2_with fail
      go_roundw
      case rel => exact ⟨j + 1, a3, c3, by omega, by go_num, by simp [Nat.add_assoc], o4, B3⟩
      case measure => simp [intOf]; omega
    · obtain rfl : j = 40 := by omega
      have hcap : l.length ≤ c' := by have := o1.cap.1; omega
      have s2 := run_cut_to esl a' (l.length + 40) c' l.length hcap .i64
      go_wp2_with fail
      go_ret
      exact ⟨_, _, rfl, o1, B1⟩
end Go.Proofs.Yteijgmaggmhggaa

/- The walks of Turn (both), rest, and of what the statements do to answers: Lent, Kept, Marked, Grown, Heaped, Bears. Conditions: the lists lie in memory as read; sizes below the reach. -/
import Derived.Test.YtdafpafoioejaaaW1
namespace Go.Proofs.Ytdafpafoioejaaa
open Go.RowKit
set_option linter.unusedVariables false

theorem tmod_facts (x n : Int) (hn : 0 < n) : (x.tmod n < 0 → x.tmod n + n = x % n) ∧ (0 ≤ x.tmod n → x.tmod n = x % n) ∧ -n < x.tmod n ∧ x.tmod n < n := by
  have ht := @Int.tmod_eq_emod x n
  have hlo : 0 ≤ x % n := Int.emod_nonneg _ (by omega)
  have hhi : x % n < n := Int.emod_lt_of_pos _ hn
  have hab : (n.natAbs : Int) = n := by omega
  refine ⟨?_, ?_, ?_, ?_⟩
  · intro h; split at ht <;> omega
  · intro h; split at ht <;> omega
  · split at ht <;> omega
  · split at ht <;> omega

set_option maxHeartbeats 400000 in
theorem rest_any (x n : Int) (w : World) (hn : 0 < n) (hn' : n ≤ 9223372036854775807) :
    Calls Try.prog 37 #[.int .i64 x, .int .i64 n] w (RetQ w (.int .i64 (x % n))) := by
  obtain ⟨e1, e2, b1, b2⟩ := tmod_facts x n hn
  have E1 := hid e1; have E2 := hid e2
  clear e1 e2
  go_enter Try.func37, Try.ntmps37
  go_wp2_with fail
  · have h0 : x.tmod n < 0 := by assumption
    have h3 := E1.out h0
    clear E1 E2
    go_ret
    exact ⟨ret_int h3, (by repeat (first | exact QW.refl _ | refine QW.d ?_ _))⟩
  · have h0 : 0 ≤ x.tmod n := by assumption
    have h3 := E2.out (by omega)
    clear E1 E2
    go_ret
    exact ⟨ret_int h3, (by repeat (first | exact QW.refl _ | refine QW.d ?_ _))⟩

set_option maxHeartbeats 400000 in
theorem progTurn (l : List Int) (x : Int) (a : Option Addr) (c : Nat) (w : World) (h : Ints w a l) (hc : l.length ≤ c) (hb : l.length * 8 ≤ 140737488355328) :
    Calls Try.prog 21 #[.slice a l.length c, .int .i64 x] w (RetInts w (turn l x)) := by
  have H := hid h; have hl := h.len; clear h
  by_cases h0 : l = []
  · subst h0
    go_enter Try.func21, Try.ntmps21
    go_wp2_with fail
    go_ret
    exact ⟨none, 0, 0, rfl, (by rw [turn_nil]; exact Own.nil _ _ _ _), Below.refl _ _⟩
  · have hpos : 0 < l.length := List.length_pos_iff.2 h0
    have hr0 : 0 ≤ x % l.length := Int.emod_nonneg _ (by omega)
    have hr1 : x % l.length < l.length := Int.emod_lt_of_pos _ (by omega)
    obtain ⟨k, hk⟩ : ∃ k : Nat, x % l.length = k := ⟨(x % l.length).toNat, by omega⟩
    have hkl : k < l.length := by omega
    have ht : turn l x = rot l k := by unfold turn; rw [hk]; simp
    generalize turn l x = res at *
    have HT := hid ht
    have HK := hid hk
    have hz : ((l.length : Int) == 0) = false := by simp; omega
    have s1 := run_cut_from isl a l.length c k (by omega) .i64
    have s2 := run_cut_to isl a l.length c k (by omega) .i64
    clear hk hr0 hr1 h0 ht
    go_enter Try.func21, Try.ntmps21
    go_wp2_with fail
    refine (rest_any x l.length _ (by omega) (by omega)).mono ?_
    rintro e w1 ⟨rfl, n1, rfl⟩
    rw [HK.out]
    go_wp2_with (at_make; go_loud (refine wpList_mk0 isl _ _ rfl rfl l.length rfl rfl (by omega) (by omega) (by unfold maxLen; omega) (below_drewN w n1) (by simp) ?_))
    intro a1 w1 o1 st1 B1
    go_wp2_with (at_builtin; refine wpList_app isl (.tmp 17) (.tmp 20) rfl rfl rfl o1 rfl ((H.out.below B1).drop k _ (by omega)).row (by simp) (ints_one _) B1 B1.size (by omega) (by unfold maxLen; omega) ?_)
    intro a2 c2 w2 o2 st2 B2
    go_wp2_with (at_builtin; refine wpList_app isl (.tmp 22) (.tmp 25) rfl rfl rfl o2 rfl ((H.out.below B2).take k).row (by simp; omega) (ints_one _) B2 B2.size (by omega) (by unfold maxLen; omega) ?_)
    intro a3 c3 w3 o3 st3 B3
    go_wp2_with fail
    go_ret
    exact ⟨_, _, _, rfl, by rw [HT.out]; simpa [rot, ints, OwnI] using o3, B3⟩

set_option maxHeartbeats 400000 in
theorem refTurn (l : List Int) (x : Int) (a : Option Addr) (c : Nat) (w : World) (h : Ints w a l) (hb : l.length * 8 ≤ 140737488355328) :
    Calls Try.prog 23 #[.slice a l.length c, .int .i64 x] w (RetInts w (turn l x)) := by
  have H := hid h; have hl := h.len; clear h
  by_cases h0 : l = []
  · subst h0
    go_enter Try.func23, Try.ntmps23
    go_wp2_with fail
    go_ret
    exact ⟨none, 0, 0, rfl, (by rw [turn_nil]; exact Own.nil _ _ _ _), Below.refl _ _⟩
  · have hpos : 0 < l.length := List.length_pos_iff.2 h0
    obtain ⟨e1, e2, b1, b2⟩ := tmod_facts x l.length (by omega)
    have hr0 : 0 ≤ x % l.length := Int.emod_nonneg _ (by omega)
    have hr1 : x % l.length < l.length := Int.emod_lt_of_pos _ (by omega)
    obtain ⟨k, hk⟩ : ∃ k : Nat, x % l.length = k := ⟨(x % l.length).toNat, by omega⟩
    have hkl : k < l.length := by omega
    have ht : turn l x = rot l k := by unfold turn; rw [hk]; simp
    generalize turn l x = res at *
    have HT := hid ht
    rw [hk] at e1 e2
    have E1 := hid e1; have E2 := hid e2
    have hz : ((l.length : Int) == 0) = false := by simp; omega
    clear hk hr0 hr1 h0 ht e1 e2
    by_cases hneg : x.tmod l.length < 0
    all_goals
      first
      | (have hd : decide (x.tmod l.length < 0) = true := decide_eq_true hneg)
        have E := hid (E1.out hneg)
      | (have hd : decide (x.tmod l.length < 0) = false := decide_eq_false hneg)
        have E := hid (E2.out (by omega))
      go_enter Try.func23, Try.ntmps23
      go_wp2_with fail
      rw [E.out]
      go_loopw [5, 8] (fun s i wr => ∃ (j : Nat) (a' : Option Addr) (c' : Nat), j ≤ l.length ∧ i = .int .i64 j ∧ s = .slice a' j c' ∧ OwnI wr w.heap.size a' j c' ((rot l k).take j) ∧ Below w.heap.size w wr) (fun _ i _ => l.length - (intOf i).toNat)
      case atStart => exact ⟨0, none, 0, Nat.zero_le _, rfl, rfl, Own.nil _ _ _ _, Below.refl _ _⟩
      case round =>
        obtain ⟨j, a', c', hj, rfl, rfl, o1, B1⟩ := hrel
        by_cases hlt : j < l.length
        · have hm : (k + j) % l.length < l.length := Nat.mod_lt _ (by omega)
          have e3 := rot_take_succ l k j hkl hlt
          have hqz : ((k : Int) + (j : Int)) % (l.length : Int) = (((k + j) % l.length : Nat) : Int) := by simp
          generalize hq : (k + j) % l.length = q at *
          have cq := (H.out.below B1).cell q hm
          have iq := H.out.idxz isl q hm (((k : Int) + (j : Int)) % (l.length : Int)) hqz
          have E3 := hid e3
          clear e3 hq hqz
          go_wp2_with (at_builtin; go_loud (refine wpList_app1 isl (.tmp 27) (.tmp 36) rfl rfl rfl o1 rfl rfl (by intro u hu; simp at hu; subst hu; rfl) B1 B1.size (by omega) (by unfold maxLen; omega) ?_))
          intro a2 c2 w2 o2 st2 B2
          go_wp2_with fail
          have o3 : OwnI w2 w.heap.size a2 (j + 1) c2 ((rot l k).take (j + 1)) := by rw [E3.out]; simpa [OwnI, ints, hm] using o2
          clear o2 E3
          go_roundw
          case rel => exact ⟨j + 1, a2, c2, by omega, by go_num, rfl, o3, B2⟩
          case measure => simp [intOf]; omega
        · have hj' : j = l.length := by omega
          have e4 : (rot l k).take j = res := by rw [HT.out, hj', List.take_of_length_le (by rw [rot_length]; exact Nat.le_refl _)]
          rw [e4] at o1
          clear e4 hj'
          go_wp2_with fail
          go_ret
          exact ⟨_, _, _, rfl, o1, B1⟩

end Go.Proofs.Ytdafpafoioejaaa

/- The walk of the statement RoundBest. Conditions: what came in lies in memory as read; each slice takes fewer than 2^47 bytes. -/
import Derived.Test.YtdafpafoioejaaaL3
namespace Go.Proofs.Ytdafpafoioejaaa
open Go.RowKit
set_option linter.unusedVariables false

theorem turn_least (l : List Int) : turn l (least l) = canon l := by
  unfold turn canon
  by_cases h0 : l = []
  · subst h0; rfl
  · have := least_lt l h0
    rw [Int.emod_eq_of_lt (by omega) (by omega)]; simp
theorem turn_nat {l : List Int} {k : Nat} (hk : k < l.length) : turn l k = rot l k := by
  unfold turn; rw [Int.emod_eq_of_lt (by omega) (by omega)]; simp

set_option maxHeartbeats 1600000 in
theorem lawRoundBest (l : List Int) (a : Option Addr) (ca : Nat) (x : Int) (w : World)
    (ia : Ints w a l) (hca : l.length ≤ ca) (hba : l.length * 8 ≤ 140737488351232) (hwa : ∀ x ∈ l, -9223372036854775808 ≤ x ∧ x ≤ 9223372036854775807)
    (hx : -9223372036854775808 ≤ x ∧ x ≤ 9223372036854775807) :
    Calls Try.prog 4 #[.slice a l.length ca, .int .i64 x] w (Tru w) := by
  clear hwa hx
  have hlen := ia.len
  by_cases hl : l = []
  · subst hl
    go_enter Try.func4, Try.ntmps4
    go_wp2_with fail
    refine (progLeast [] _ _ _ ia (by simp)).mono ?_
    rintro e w1 ⟨rfl, q1⟩
    rw [least_nil]
    have ia := ia.below q1.below
    have B := q1.below
    go_wp2_with fail
    refine (progTurn [] 0 _ _ _ ia (by simp) (by simp)).mono ?_
    rintro e w2 ⟨a2, n2, c2, rfl, o2, E2⟩
    rw [turn_nil] at o2
    obtain ⟨r2, rfl⟩ := o2.ints
    have B := ext_trans B E2
    go_wp2_with fail
    refine (awake_any _).mono ?_
    rintro e w12 ⟨rfl, E12⟩
    have B := ext_trans B E12
    go_wp2_with fail
    go_ret
    exact ⟨rfl, B⟩
  · have hn : 0 < l.length := List.length_pos_iff.2 hl
    have hk := least_lt l hl
    have hcmp : ∀ i, i < l.length → 0 ≤ cmp (turn l i) (canon l) ∧ (cmp (turn l i) (canon l) = 0 → least l ≤ i) := by
      intro i hi
      rw [turn_nat hi]
      have h1 := canon_le l hl i hi
      refine ⟨by rcases cmp_range (rot l i) (canon l) with h | h | h <;> omega, fun h0 => ?_⟩
      have e := cmp_eq_zero.1 h0
      refine Classical.byContradiction fun hc => ?_
      have h2 := (least_spec l hl).2.2 i (by omega)
      rw [show rot l (least l) = canon l from rfl, e] at h2
      exact lt_irrefl _ h2
    have hct := canon_turn l x
    have htl := turn_length l x
    have hcl := canon_length l
    have hct2 : turn (turn l x) (least (turn l x)) = canon l := by rw [turn_least, hct]
    have HC := hid hcmp; have HT2 := hid hct2; have HTL := hid htl; have HCL := hid hcl
    have z1 : ((l.length : Int) == 0) = false := by simp; omega
    have htk := turn_least l
    generalize hK : least l = k at *
    have HK := hid hK; have HTK := hid htk
    have z3 : decide ((k : Int) < 0) = false := decide_eq_false (by omega)
    have z4 : decide (l.length ≤ k) = false := by simp; omega
    clear hcmp hct htl hcl hct2 htk hK
    go_enter Try.func4, Try.ntmps4
    go_wp2_with fail
    refine (progLeast l _ _ _ ia (by omega)).mono ?_
    rintro e w1 ⟨rfl, q1⟩
    rw [HK.out]
    have ia := ia.below q1.below
    have B := q1.below
    go_wp2_with fail
    refine (progTurn l k _ _ _ ia hca (by omega)).mono ?_
    rintro e w2 ⟨a2, n2, c2, rfl, o2, E2⟩
    rw [HTK.out] at o2
    obtain ⟨r2, rfl⟩ := o2.ints
    have B := ext_trans B E2
    have ia := ia.below E2
    have z5 : (((canon l).length : Int) != (l.length : Int)) = false := by simp [HCL.out]
    clear o2
    go_wp2_with fail
    go_loopw [7] (fun i wr => ∃ i' : Nat, i' ≤ l.length ∧ i = .int .i64 i' ∧ Ints wr a l ∧ Ints wr a2 (canon l) ∧ Below w.heap.size w wr) (fun i _ => l.length - (intOf i).toNat)
    case atStart => exact ⟨0, Nat.zero_le _, rfl, ia, r2, B⟩
    case round =>
      obtain ⟨i, hi, rfl, ia2, r3, B2⟩ := hrel
      by_cases hil : i < l.length
      · go_wp2_with fail
        refine (progTurn l i _ _ _ ia2 hca (by omega)).mono ?_
        rintro e w7 ⟨a7, n7, c7, rfl, o7, E7⟩
        obtain ⟨r7, rfl⟩ := o7.ints
        have ia3 := ia2.below E7
        have r4 := r3.below E7
        have B3 := ext_trans B2 E7
        clear o7
        go_wp2_with fail
        refine (progCompare (turn l i) (canon l) _ _ _ _ _ r7 r4).mono ?_
        rintro e w8 ⟨rfl, q8⟩
        have ia4 := ia3.below q8.below
        have r5 := r4.below q8.below
        have B4 := ext_trans B3 q8.below
        obtain ⟨g1, g2⟩ := HC.out i hil
        generalize cmp (turn l i) (canon l) = c at *
        clear r7
        by_cases hc : c = 0
        · subst hc
          have g3 := g2 rfl
          have g4 : decide (i < k) = false := by simp; omega
          clear g2
          go_wp2_with fail
          go_roundw
          case rel => exact ⟨i + 1, by omega, by go_num, ia4, r5, B4⟩
          case measure => simp [intOf]; omega
        · have g3 : (c == 0) = false := by simpa using hc
          clear g2
          go_wp2_with fail
          go_roundw
          case rel => exact ⟨i + 1, by omega, by go_num, ia4, r5, B4⟩
          case measure => simp [intOf]; omega
      · go_wp2_with fail
        refine (progTurn l x _ _ _ ia2 hca (by omega)).mono ?_
        rintro e w7 ⟨a7, n7, c7, rfl, o7, E7⟩
        obtain ⟨r7, rfl⟩ := o7.ints
        have h7 := o7.cap.1
        have r4 := r3.below E7
        have B3 := ext_trans B2 E7
        clear o7
        go_wp2_with fail
        refine (progLeast (turn l x) _ _ _ r7 (by have := HTL.out; omega)).mono ?_
        rintro e w8 ⟨rfl, q8⟩
        have r4 := r4.below q8.below
        have r7 := r7.below q8.below
        have B3 := ext_trans B3 q8.below
        go_wp2_with fail
        refine (progTurn (turn l x) (least (turn l x)) _ _ _ r7 h7 (by have := HTL.out; omega)).mono ?_
        rintro e w9 ⟨a9, n9, c9, rfl, o9, E9⟩
        rw [HT2.out] at o9
        obtain ⟨r9, rfl⟩ := o9.ints
        have r4 := r4.below E9
        have B3 := ext_trans B3 E9
        go_wp2_with fail
        refine (refAlike (canon l) (canon l) _ _ _ _ _ r9 r4).mono ?_
        rintro e w10 ⟨rfl, q10⟩
        rw [decide_eq_true rfl]
        have B3 := ext_trans B3 q10.below
        go_wp2_with fail
        refine (awake_any _).mono ?_
        rintro e w12 ⟨rfl, E12⟩
        have B3 := ext_trans B3 E12
        go_wp2_with fail
        go_ret
        exact ⟨rfl, B3⟩
end Go.Proofs.Ytdafpafoioejaaa

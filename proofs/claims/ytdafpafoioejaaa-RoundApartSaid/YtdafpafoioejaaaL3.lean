/- The walk of the statement RoundComes. Conditions: what came in lies in memory as read; each slice takes fewer than 2^47 bytes. -/
import Derived.Test.YtdafpafoioejaaaL1
import Derived.Deep.RegionHeld3
namespace Go.Proofs.Ytdafpafoioejaaa
open Go.RowKit
set_option linter.unusedVariables false

theorem turn_eq_iff (l : List Int) (hl : l ≠ []) (x : Int) : turn l x = l ↔ x % (period l : Int) = 0 := by
  have hn : 0 < l.length := List.length_pos_iff.2 hl
  have hp := period_spec l hl
  have h1 : 0 ≤ x % (l.length : Int) := Int.emod_nonneg _ (by omega)
  have h2 : x % (l.length : Int) < l.length := Int.emod_lt_of_pos _ (by omega)
  obtain ⟨k, hk⟩ : ∃ k : Nat, x % (l.length : Int) = k := ⟨(x % l.length).toNat, by omega⟩
  have hkl : k < l.length := by omega
  have e1 : turn l x = rot l (k % l.length) := by unfold turn; rw [hk, Nat.mod_eq_of_lt hkl]; simp
  rw [e1, rot_eq_iff hl]
  -- the length is a multiple of the period
  have hd := hp.dvd (cycPer_len l)
  obtain ⟨m, hm⟩ := Nat.dvd_of_mod_eq_zero hd
  have hx : x = (k : Int) + (period l : Int) * ((m : Int) * (x / (l.length : Int))) := by
    have h3 := Int.emod_add_mul_ediv x (l.length : Int)
    rw [hk] at h3
    have h4 : (l.length : Int) = (period l : Int) * (m : Int) := by rw [hm]; simp
    rw [← Int.mul_assoc, ← h4]; omega
  have hx2 : x % (period l : Int) = (k : Int) % (period l : Int) := by
    conv => lhs; rw [hx, Int.add_mul_emod_self_left]
  rw [hx2]
  have hx3 : (k : Int) % (period l : Int) = ((k % period l : Nat) : Int) := by simp
  rw [hx3]
  constructor
  · intro h; have := hp.dvd h; omega
  · intro h; exact hp.2.2.1.of_dvd (by omega)
theorem canon_turn (l : List Int) (x : Int) : canon (turn l x) = canon l := by
  by_cases hl : l = []
  · subst hl; rw [turn_nil]
  · have hn : 0 < l.length := List.length_pos_iff.2 hl
    have h1 : 0 ≤ x % (l.length : Int) := Int.emod_nonneg _ (by omega)
    have h2 : x % (l.length : Int) < l.length := Int.emod_lt_of_pos _ (by omega)
    exact canon_rot l _ (by omega)
theorem turn_ne {l : List Int} {i j : Nat} (hi : i < period l) (hj : j < i) : turn l i ≠ turn l j := by
  have hl : l ≠ [] := by intro e; subst e; rw [period_nil] at hi; omega
  have hn : 0 < l.length := List.length_pos_iff.2 hl
  have hp := period_spec l hl
  have h1 := hp.2.1
  have t : ∀ k : Nat, k < l.length → turn l k = rot l k := by
    intro k hk; unfold turn; rw [Int.emod_eq_of_lt (by omega) (by omega)]; simp
  rw [t i (by omega), t j (by omega)]
  intro e
  -- then turned by i - j it is itself
  have e2 : rot (rot l i) ((l.length - j) % l.length) = rot (rot l j) ((l.length - j) % l.length) := by rw [e]
  have hq : (l.length - j) % l.length < l.length := Nat.mod_lt _ hn
  rw [rot_rot l i _ (by omega) hq, rot_rot l j _ (by omega) hq, Nat.add_mod_mod, Nat.add_mod_mod, show j + (l.length - j) = l.length by omega, Nat.mod_self, rot_zero,
    show i + (l.length - j) = i - j + l.length by omega, Nat.add_mod_right] at e2
  exact hp.2.2.2 (i - j) (by omega) (by omega) ((rot_eq_iff hl).1 e2)

set_option maxHeartbeats 1600000 in
theorem lawRoundComes (l : List Int) (a : Option Addr) (ca : Nat) (x : Int) (w : World)
    (ia : Ints w a l) (hca : l.length ≤ ca) (hba : l.length * 8 ≤ 140737488351232) (hwa : ∀ x ∈ l, -9223372036854775808 ≤ x ∧ x ≤ 9223372036854775807)
    (hx : -9223372036854775808 ≤ x ∧ x ≤ 9223372036854775807) :
    Calls Try.prog 8 #[.slice a l.length ca, .int .i64 x] w (Tru w) := by
  clear hwa
  have hlen := ia.len
  by_cases hl : l = []
  · subst hl
    go_enter Try.func8, Try.ntmps8
    go_wp2_with fail
    refine (progPeriod [] _ _ _ ia (by simp)).mono ?_
    rintro e w1 ⟨rfl, E1⟩
    rw [period_nil]
    go_wp2_with fail
    refine (awake_any _).mono ?_
    rintro e w12 ⟨rfl, E12⟩
    have B := ext_trans E1 E12
    go_wp2_with fail
    go_ret
    exact ⟨rfl, B⟩
  · have hn : 0 < l.length := List.length_pos_iff.2 hl
    have hp := period_spec l hl
    have hp1 := hp.1; have hp2 := hp.2.1
    have hd := hp.dvd (cycPer_len l)
    obtain ⟨e1, e2, b1, b2⟩ := tmod_facts x (period l) (by omega)
    have hte := turn_eq_iff l hl x
    have hct := canon_turn l x
    have hdec : decide (turn l x = l) = ((x.tmod (period l : Int)) == 0) := by
      rw [Bool.eq_iff_iff, decide_eq_true_iff, beq_iff_eq, hte]
      constructor
      · intro h
        by_cases h0 : x.tmod (period l) < 0
        · have := e1 h0; omega
        · have := e2 (by omega); omega
      · intro h; have := e2 (by omega); omega
    have hne : ∀ (i j : Nat), i < period l → j < i → turn l i ≠ turn l j := fun i j hi hj => turn_ne hi hj
    have htl := turn_length l x
    have z1 : ((l.length : Int) == 0) = false := by simp; omega
    have z2 : ((l.length : Int) % (period l : Int)) = 0 := by rw [show (l.length : Int) % (period l : Int) = ((l.length % period l : Nat) : Int) by simp, hd]; rfl
    have z3 : decide (((period l : Nat) : Int) < 1) = false := by simp; omega
    have z4 : decide (l.length < period l) = false := by simp; omega
    generalize hP : period l = p at *
    have HP := hid hP; have HD := hid hdec; have HN := hid hne; have HT := hid htl; have HC := hid hct
    clear hP hdec hne htl hct hte e1 e2 hd hp
    go_enter Try.func8, Try.ntmps8
    go_wp2_with fail
    refine (progPeriod l _ _ _ ia (by omega)).mono ?_
    rintro e w1 ⟨rfl, E1⟩
    rw [HP.out]
    have ia := ia.below E1
    have B := E1
    have Z2 : (((l.length : Int) % (p : Int)) != 0) = false := by rw [z2]; rfl
    clear z2
    go_wp2_with fail
    have ia := ia.below (below_drewN w1 1)
    have B := ext_trans B (below_drewN w1 1)
    have ia : Ints w1.drew a l := ia
    have B : Below w.heap.size w w1.drew := B
    have zp : ¬ (p : Int) = 0 := by omega
    have zp3 : ¬ p = 0 := by omega
    go_region_held3 (fun w' => Ints w' a l ∧ Below w.heap.size w w') (first | exact ⟨by assumption, by assumption⟩)
      (first
        | (go_at_call 21; refine (progTurn l x _ _ _ ia hca (by omega)).mono ?_; rintro e w4 ⟨ay, ny, cy, rfl, oy, E4⟩; obtain ⟨ry, rfl⟩ := oy.ints; have ia := ia.below E4; have B := ext_trans B E4; have hcy := oy.cap.1; clear oy)
        | (go_at_call 17; refine (refAlike (turn l x) l _ _ _ _ _ ry ia).mono ?_; rintro e w5 ⟨rfl, q5⟩; rw [HD.out]; have ia := ia.below q5.below; have B := ext_trans B q5.below)
        | (go_at_call 28; refine (progSame l (turn l x) _ _ _ _ _ ia ry hca hcy (by omega)).mono ?_; rintro e w6 ⟨rfl, E6⟩; rw [decide_eq_true HC.out.symm]; have ia := ia.below E6; have B := ext_trans B E6))
    go_wp2_with fail
    go_loopw [6] (fun i wr => ∃ i' : Nat, i' ≤ p ∧ i = .int .i64 i' ∧ Ints wr a l ∧ Below w.heap.size w wr) (fun i _ => p - (intOf i).toNat)
    case atStart => exact ⟨0, Nat.zero_le _, rfl, ia, B⟩
    case round =>
      obtain ⟨i, hi, rfl, ia2, B2⟩ := hrel
      by_cases hip : i < p
      · go_wp2_with fail
        go_loopw [7] (fun j w2 => ∃ j' : Nat, j' ≤ i ∧ j = .int .i64 j' ∧ Ints w2 a l ∧ Below w.heap.size w w2) (fun j _ => i - (intOf j).toNat)
        case atStart => exact ⟨0, Nat.zero_le _, rfl, ia2, B2⟩
        case round =>
          obtain ⟨j, hj, rfl, ia3, B3⟩ := hrel
          by_cases hji : j < i
          · go_wp2_with fail
            refine (progTurn l i _ _ _ ia3 hca (by omega)).mono ?_
            rintro e w7 ⟨a7, n7, c7, rfl, o7, E7⟩
            obtain ⟨r7, rfl⟩ := o7.ints
            have ia4 := ia3.below E7
            have B4 := ext_trans B3 E7
            go_wp2_with fail
            refine (progTurn l j _ _ _ ia4 hca (by omega)).mono ?_
            rintro e w8 ⟨a8, n8, c8, rfl, o8, E8⟩
            obtain ⟨r8, rfl⟩ := o8.ints
            have ia5 := ia4.below E8
            have B5 := ext_trans B4 E8
            go_wp2_with fail
            refine (refAlike (turn l i) (turn l j) _ _ _ _ _ (r7.below E8) r8).mono ?_
            rintro e w9 ⟨rfl, q9⟩
            rw [decide_eq_false (HN.out i j hip hji)]
            have ia6 := ia5.below q9.below
            have B6 := ext_trans B5 q9.below
            clear o7 o8 r7 r8
            go_wp2_with fail
            go_roundw
            case rel => exact ⟨j + 1, by omega, by go_num, ia6, B6⟩
            case measure => simp [intOf]; omega
          · go_wp2_with fail
            go_roundw
            case rel => exact ⟨i + 1, by omega, by go_num, ia3, B3⟩
            case measure => simp [intOf]; omega
      · go_wp2_with fail
        refine (awake_any _).mono ?_
        rintro e w12 ⟨rfl, E12⟩
        have B3 := ext_trans B2 E12
        go_wp2_with fail
        go_ret
        exact ⟨rfl, B3⟩
end Go.Proofs.Ytdafpafoioejaaa

/- The walks of same and Same (the reference's), Least and Same (package round's). Conditions: the lists lie in memory as read; sizes below the reach. -/
import Derived.Test.YtdafpafoioejaaaW4
import Derived.Test.YtdafpafoioejaaaMath3
namespace Go.Proofs.Ytdafpafoioejaaa
open Go.RowKit
set_option linter.unusedVariables false

theorem take_step {a b : List Int} {i : Nat} (h : a.take i = b.take i) (ha : i < a.length) (hb : i < b.length) : (a[i] = b[i] → a.take (i + 1) = b.take (i + 1)) ∧ (a[i] ≠ b[i] → a ≠ b) := by
  refine ⟨fun e => ?_, fun hne e => ?_⟩
  · rw [List.take_add_one, List.take_add_one, h, List.getElem?_eq_getElem ha, List.getElem?_eq_getElem hb, e]
  · subst e; exact hne rfl

set_option maxHeartbeats 400000 in
theorem refSame1 (l m : List Int) (k : Nat) (a1 a2 : Option Addr) (c1 c2 : Nat) (w : World) (h1 : Ints w a1 l) (h2 : Ints w a2 m) (hk : k < l.length) (hlm : l.length = m.length) (hb : l.length * 8 ≤ 140737488355328) :
    Calls Try.prog 35 #[.slice a1 l.length c1, .int .i64 k, .slice a2 m.length c2] w (RetQ w (.bool (decide (rot l k = m)))) := by
  have H1 := hid h1; have H2 := hid h2; have hl := h1.len; have hl2 := h2.len; clear h1 h2
  have HL := hid hlm
  have hx1 : l.length ≤ m.length := by omega
  have hx2 : m.length ≤ l.length := by omega
  clear hlm
  go_enter Try.func35, Try.ntmps35
  go_wp2_with fail
  go_loopw [8] (fun i wr => ∃ (i' : Nat), i' ≤ l.length ∧ i = .int .i64 i' ∧ QW w wr ∧ Hid ((rot l k).take i' = m.take i')) (fun i _ => l.length - (intOf i).toNat)
  case atStart => exact ⟨0, Nat.zero_le _, rfl, QW.refl _, hid (by simp)⟩
  case round =>
    obtain ⟨i, hi, rfl, ⟨n, rfl⟩, ht⟩ := hrel
    by_cases hlt : i < l.length
    · obtain ⟨q1, x0, x1, x2, y1⟩ := H1.out.around k i (by omega) (by omega)
      have im := H2.out.idx isl i (by omega)
      have cm := H2.out.cell i (by omega)
      have hs := take_step ht.out (by rw [rot_length]; exact hlt) (by omega)
      rw [rot_getElem l k i hk hlt] at hs
      generalize at_ l k i = u at *
      generalize hv : m[i]'(by omega) = v at *
      have HS := hid hs
      clear hs hv ht
      by_cases huv : u = v
      · have e := HS.out.1 huv
        have HE := hid e
        have huv' : (u != v) = false := by simpa using huv
        subst huv
        clear HS e
        go_wp2_with fail
        go_quiet (fail)
        go_wp2_with fail
        go_roundw
        case rel => exact ⟨i + 1, by omega, by go_num, (by repeat (first | exact QW.refl _ | refine QW.d ?_ _)), HE⟩
        case measure => simp [intOf]; omega
      · have e := HS.out.2 huv
        have huv' : (u != v) = true := by simpa using huv
        clear HS
        have HE := hid e
        clear e
        go_wp2_with fail
        go_quiet (fail)
        go_wp2_with fail
        go_ret
        exact ⟨ret_bool (decide_eq_false HE.out).symm, (by repeat (first | exact QW.refl _ | refine QW.d ?_ _))⟩
    · have e := ht.out
      rw [List.take_of_length_le (by rw [rot_length]; omega), List.take_of_length_le (by omega)] at e
      have HE := hid e
      clear e ht
      go_wp2_with fail
      go_ret
      exact ⟨ret_bool (decide_eq_true HE.out).symm, (by repeat (first | exact QW.refl _ | refine QW.d ?_ _))⟩

set_option maxHeartbeats 400000 in
theorem refSame (l m : List Int) (a1 a2 : Option Addr) (c1 c2 : Nat) (w : World) (h1 : Ints w a1 l) (h2 : Ints w a2 m) (hb : l.length * 8 ≤ 140737488355328) :
    Calls Try.prog 30 #[.slice a1 l.length c1, .slice a2 m.length c2] w (RetQ w (.bool (decide (canon l = canon m)))) := by
  have H1 := hid h1; have H2 := hid h2; have hl := h1.len; have hl2 := h2.len; clear h1 h2
  have C := hid (@canon_eq l m)
  by_cases hlm : l.length = m.length
  · by_cases h0 : l = []
    · have e : canon l = canon m := C.out.2 ⟨hlm, .inl h0⟩
      have hr := decide_eq_true e
      rw [hr]
      have hz : ((l.length : Int) != (m.length : Int)) = false := by simp [hlm]
      have hz2 : ((l.length : Int) == 0) = true := by subst h0; rfl
      clear h0 hlm e hr
      go_enter Try.func30, Try.ntmps30
      go_wp2_with fail
      go_ret
      exact ⟨rfl, (by repeat (first | exact QW.refl _ | refine QW.d ?_ _))⟩
    · have hpos : 0 < l.length := List.length_pos_iff.2 h0
      have hz : ((l.length : Int) != (m.length : Int)) = false := by simp [hlm]
      have hz2 : ((l.length : Int) == 0) = false := by simp; omega
      have HL := hid hlm
      clear hlm
      go_enter Try.func30, Try.ntmps30
      go_wp2_with fail
      go_loopw [5] (fun i wr => ∃ (i' : Nat), i' ≤ l.length ∧ i = .int .i64 i' ∧ QW w wr ∧ Hid (∀ k, k < i' → rot l k ≠ m)) (fun i _ => l.length - (intOf i).toNat)
      case atStart => exact ⟨0, Nat.zero_le _, rfl, QW.refl _, hid (fun k h => absurd h (Nat.not_lt_zero k))⟩
      case round =>
        obtain ⟨i, hi, rfl, ⟨n, rfl⟩, ht⟩ := hrel
        by_cases hlt : i < l.length
        · by_cases he : rot l i = m
          · have e : canon l = canon m := C.out.2 ⟨HL.out, .inr ⟨i, hlt, he⟩⟩
            have E := hid e
            have D := hid (decide_eq_true he)
            clear e he
            go_wp2_with fail
            refine (refSame1 l m i _ _ _ _ _ (H1.out.drewN n) (H2.out.drewN n) hlt HL.out hb).mono ?_
            rintro e w' ⟨rfl, n2, rfl⟩
            rw [D.out]
            go_wp2_with fail
            go_ret
            exact ⟨ret_bool (decide_eq_true E.out).symm, (by repeat (first | exact QW.refl _ | refine QW.d ?_ _))⟩
          · have HT : Hid (∀ k, k < i + 1 → rot l k ≠ m) := hid (fun k hk => by
              by_cases h : k = i
              · subst h; exact he
              · exact ht.out k (by omega))
            have D := hid (decide_eq_false he)
            clear ht he
            go_wp2_with fail
            refine (refSame1 l m i _ _ _ _ _ (H1.out.drewN n) (H2.out.drewN n) hlt HL.out hb).mono ?_
            rintro e w' ⟨rfl, n2, rfl⟩
            rw [D.out]
            go_wp2_with fail
            go_roundw
            case rel => exact ⟨i + 1, by omega, by go_num, (by repeat (first | exact QW.refl _ | refine QW.d ?_ _)), HT⟩
            case measure => simp [intOf]; omega
        · have e : ¬ canon l = canon m := by
            intro hc
            rcases (C.out.1 hc).2 with h | ⟨k, hk, hkm⟩
            · exact h0 h
            · exact ht.out k (by omega) hkm
          have E := hid e
          clear e ht
          go_wp2_with fail
          go_ret
          exact ⟨ret_bool (decide_eq_false E.out).symm, (by repeat (first | exact QW.refl _ | refine QW.d ?_ _))⟩
  · have e : ¬ canon l = canon m := fun hc => hlm (C.out.1 hc).1
    have E := hid e
    have hz : ((l.length : Int) != (m.length : Int)) = true := by simp; omega
    clear e hlm
    go_enter Try.func30, Try.ntmps30
    go_wp2_with fail
    go_ret
    exact ⟨ret_bool (decide_eq_false E.out).symm, (by repeat (first | exact QW.refl _ | refine QW.d ?_ _))⟩
end Go.Proofs.Ytdafpafoioejaaa

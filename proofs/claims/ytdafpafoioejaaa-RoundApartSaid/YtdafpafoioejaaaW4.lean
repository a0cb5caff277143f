/- The walks of ahead, Least, same, Same (the reference's) and of Least, Same (package round's). Conditions: the lists lie in memory as read; sizes below the reach. -/
import Derived.Test.YtdafpafoioejaaaW3
import Derived.Test.YtdafpafoioejaaaMath2
import Derived.ScopeJumps
import Derived.WalkMore
namespace Go.Proofs.Ytdafpafoioejaaa
open Go.RowKit
set_option linter.unusedVariables false

/-- the element that 'l[(p+t)%n]' is, in the forms in which the walk meets it -/
theorem Ints.around {w : World} {a : Option Addr} {l : List Int} (h : Ints w a l) (p t : Nat) (hn : 0 < l.length) (hp : p + t ≤ 9223372036854775807) :
    ∃ q : Nat, (∀ c w', (Instr.indexAt 22 (.slice a l.length c) (.int .i64 (((p : Int) + (t : Int)) % (l.length : Int)))).run Try.prog w' = .ok (.pointer (some ⟨bk a, fo a + q, none⟩)) w') ∧
      (∀ c w', (Instr.indexAt 22 (.slice a l.length c) (.int .i64 (((p : Int) + (t : Int)).tmod (l.length : Int)))).run Try.prog w' = .ok (.pointer (some ⟨bk a, fo a + q, none⟩)) w') ∧
      IntKind.i64.wrap ((p : Int) + (t : Int)) = (p : Int) + (t : Int) ∧
      w.cell? ⟨bk a, fo a + q, none⟩ = some (.int .i64 (at_ l p t)) := by
  have hq : (p + t) % l.length < l.length := Nat.mod_lt _ hn
  have e1 : ((p : Int) + (t : Int)) % (l.length : Int) = (((p + t) % l.length : Nat) : Int) := by simp
  have e2 : ((p : Int) + (t : Int)).tmod (l.length : Int) = (((p + t) % l.length : Nat) : Int) := by
    rw [← e1, Int.tmod_eq_emod_of_nonneg (by omega)]
  refine ⟨(p + t) % l.length, h.idxz isl _ hq _ e1, h.idxz isl _ hq _ e2, IntWalk.i64_in _ (by omega), ?_⟩
  have := h.cell _ hq
  rw [this]
  unfold at_
  rw [List.getD_eq_getElem?_getD, List.getElem?_eq_getElem hq]; rfl

theorem rot_drop_at {l : List Int} {j i : Nat} (hj : j < l.length) (hi : i < l.length) : (rot l j).drop i = at_ l j i :: (rot l j).drop (i + 1) := by
  rw [List.drop_eq_getElem_cons (by rw [rot_length]; exact hi), rot_getElem l j i hj hi]

set_option maxHeartbeats 400000 in
theorem refAhead (l : List Int) (j k : Nat) (a : Option Addr) (c : Nat) (w : World) (h : Ints w a l) (hj : j < l.length) (hk : k < l.length) (hb : l.length * 8 ≤ 140737488355328) :
    Calls Try.prog 34 #[.slice a l.length c, .int .i64 j, .int .i64 k] w (RetQ w (.bool (decide (cmp (rot l j) (rot l k) = -1)))) := by
  have H := hid h; have hl := h.len; clear h
  go_enter Try.func34, Try.ntmps34
  go_wp2_with fail
  go_loopw [8] (fun i wr => ∃ (i' : Nat), i' ≤ l.length ∧ i = .int .i64 i' ∧ QW w wr ∧ Hid (cmp ((rot l j).drop i') ((rot l k).drop i') = cmp (rot l j) (rot l k))) (fun i _ => l.length - (intOf i).toNat)
  case atStart => exact ⟨0, Nat.zero_le _, rfl, QW.refl _, hid rfl⟩
  case round =>
    obtain ⟨i, hi, rfl, ⟨n, rfl⟩, hc⟩ := hrel
    by_cases hlt : i < l.length
    · obtain ⟨q1, x1, -, -, y1⟩ := H.out.around j i (by omega) (by omega)
      obtain ⟨q2, x2, -, -, y2⟩ := H.out.around k i (by omega) (by omega)
      have e1 := rot_drop_at hj hlt
      have e2 := rot_drop_at hk hlt
      have hc' := hc.out
      rw [e1, e2, cmp] at hc'
      generalize at_ l j i = u at *
      generalize at_ l k i = v at *
      have HC := hid hc'
      clear e1 e2 hc hc'
      by_cases huv : u = v
      · subst huv
        have hC2 := HC.out
        simp at hC2
        have HC2 := hid hC2
        clear hC2 HC
        go_wp2_with fail
        go_roundw
        case rel => exact ⟨i + 1, by omega, by go_num, (by repeat (first | exact QW.refl _ | refine QW.d ?_ _)), HC2⟩
        case measure => simp [intOf]; omega
      · have hne : (u != v) = true := by simpa using huv
        have hres : decide (u < v) = decide (cmp (rot l j) (rot l k) = -1) := by
          rw [← HC.out]
          by_cases h1 : u < v
          · simp [h1]
          · simp [h1, show v < u by omega]
        have HR := hid hres
        clear hres HC
        go_wp2_with fail
        go_ret
        exact ⟨ret_bool HR.out, (by repeat (first | exact QW.refl _ | refine QW.d ?_ _))⟩
    · have hc' := hc.out
      rw [List.drop_eq_nil_of_le (by rw [rot_length]; omega), List.drop_eq_nil_of_le (by rw [rot_length]; omega)] at hc'
      have HC := hid hc'
      clear hc hc'
      go_wp2_with fail
      go_ret
      exact ⟨ret_bool (by rw [← HC.out]; decide), (by repeat (first | exact QW.refl _ | refine QW.d ?_ _))⟩

set_option maxHeartbeats 400000 in
theorem refLeast (l : List Int) (a : Option Addr) (c : Nat) (w : World) (h : Ints w a l) (hb : l.length * 8 ≤ 140737488355328) :
    Calls Try.prog 15 #[.slice a l.length c] w (RetQ w (.int .i64 (least l))) := by
  have H := hid h; have hl := h.len; clear h
  go_enter Try.func15, Try.ntmps15
  go_wp2_with fail
  go_loopw [3, 4] (fun b k wr => ∃ (k' : Nat), 1 ≤ k' ∧ k' ≤ l.length + 1 ∧ (k' ≤ l.length ∨ l = []) ∧ k = .int .i64 k' ∧ b = .int .i64 (leastTo l k') ∧ QW w wr) (fun _ k _ => l.length - (intOf k).toNat)
  case atStart =>
    refine ⟨1, Nat.le_refl _, by omega, ?_, rfl, ?_, QW.refl _⟩
    · cases l <;> simp
    · simp [leastTo, cmp_self]
  case round =>
    obtain ⟨k, hk1, hk2, hk3, rfl, rfl, ⟨n, rfl⟩⟩ := hrel
    by_cases hlt : k < l.length
    · have hle := leastTo_spec l k (by omega)
      have hlo := hle.1
      have e : leastTo l (k + 1) = if cmp (rot l k) (rot l (leastTo l k)) = -1 then k else leastTo l k := rfl
      generalize hb' : leastTo l k = b at *
      clear hle hb'
      by_cases hd : cmp (rot l k) (rot l b) = -1
      all_goals
        first
        | rw [if_pos hd] at e
        | rw [if_neg hd] at e
        have E := hid e
        clear e
        go_wp2_with fail
        refine (refAhead l k b _ _ _ (H.out.drewN n) (by omega) (by omega) hb).mono ?_
        rintro e w' ⟨rfl, n2, rfl⟩
        first
        | rw [decide_eq_true hd]
        | rw [decide_eq_false hd]
        clear hd
        go_wp2_with fail
        go_roundw
        case rel => exact ⟨k + 1, by omega, by omega, .inl (by omega), by go_num, by rw [E.out], (by repeat (first | exact QW.refl _ | refine QW.d ?_ _))⟩
        case measure => simp [intOf]; omega
    · have e : least l = leastTo l k := by
        rcases hk3 with h3 | h3
        · unfold least; congr 1; omega
        · subst h3
          have : k = 1 := by simp at hk2; omega
          subst this; simp [least, leastTo, cmp_self]
      have E := hid e
      clear e hk3
      go_wp2_with fail
      go_ret
      exact ⟨ret_int (by rw [E.out]), (by repeat (first | exact QW.refl _ | refine QW.d ?_ _))⟩

end Go.Proofs.Ytdafpafoioejaaa

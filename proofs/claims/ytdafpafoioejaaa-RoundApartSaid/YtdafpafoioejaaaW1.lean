/- The walks of Compare, Alike and Turn, of package round and of its reference: what each call answers, and what it does to memory. Conditions: the lists lie in memory as read; sizes below the reach. -/
import Derived.Test.YtdafpafoioejaaaRows
import Derived.Test.YtdafpafoioejaaaLib
import Derived.Test.YtdafpafoioejaaaMath
namespace Go.Proofs.Ytdafpafoioejaaa
open Go.RowKit
set_option linter.unusedVariables false

theorem isl : ElT Try.prog 22 3 (.int .i64 0) 1 8 := ⟨Try.underlying22, by kernel_rfl, rfl, by decide⟩

set_option maxHeartbeats 400000 in
theorem refCompare (a b : List Int) (a1 a2 : Option Addr) (c1 c2 : Nat) (w : World) (h1 : Ints w a1 a) (h2 : Ints w a2 b) :
    Calls Try.prog 29 #[.slice a1 a.length c1, .slice a2 b.length c2] w (RetQ w (.int .i64 (cmp a b))) := by
  have H1 := hid h1; have H2 := hid h2
  have hl1 := h1.len; have hl2 := h2.len; clear h1 h2
  go_enter Try.func29, Try.ntmps29
  go_wp2
  go_loopw [5] (fun i wr => ∃ k : Nat, k ≤ a.length ∧ k ≤ b.length ∧ i = .int .i64 k ∧ QW w wr ∧ Hid (cmp (a.drop k) (b.drop k) = cmp a b)) (fun i _ => a.length - (intOf i).toNat)
  case atStart => exact ⟨0, Nat.zero_le _, Nat.zero_le _, rfl, QW.refl _, hid rfl⟩
  case round =>
    obtain ⟨k, hk1, hk2, rfl, ⟨n, rfl⟩, hcmp⟩ := hrel
    by_cases hlt : k < a.length ∧ k < b.length
    · obtain ⟨hl1, hl2⟩ := hlt
      have c1' := H1.out.cell k hl1
      have c2' := H2.out.cell k hl2
      have i1 := H1.out.idx isl k hl1
      have i2 := H2.out.idx isl k hl2
      go_wp2_with fail
      go_quiet (fail)
      go_wp2_with fail
      · have h : a[k] < b[k] := by assumption
        go_ret
        exact ⟨ret_int (by rw [← hcmp.out, cmp_drop_lt hl1 hl2 h]), (by repeat (first | exact QW.refl _ | refine QW.d ?_ _))⟩
      · have h : b[k] ≤ a[k] := by assumption
        go_quiet (fail)
        go_wp2_with fail
        · have h' : b[k] < a[k] := by assumption
          go_ret
          exact ⟨ret_int (by rw [← hcmp.out, cmp_drop_gt hl1 hl2 h']), (by repeat (first | exact QW.refl _ | refine QW.d ?_ _))⟩
        · have h' : ¬ b[k] < a[k] := by omega
          have e := cmp_drop_eq hl1 hl2 (by omega)
          have E := hid (e.symm.trans hcmp.out)
          clear e
          go_roundw
          case rel => exact ⟨k + 1, by omega, by omega, by go_num, (by repeat (first | exact QW.refl _ | refine QW.d ?_ _)), E⟩
          case measure => simp [intOf]; omega
    · have e := cmp_drop_end (a := a) (b := b) hk1 hk2 (by omega)
      have E := hid (hcmp.out.symm.trans e)
      clear e
      by_cases hl1 : k < a.length
      · have hl2 : ¬ k < b.length := fun h => hlt ⟨hl1, h⟩
        clear hlt
        go_wp2_with fail
        all_goals
          have E' := E.out
          clear E
          go_ret
          exact ⟨ret_int (by rw [E']; simp [*]), (by repeat (first | exact QW.refl _ | refine QW.d ?_ _))⟩
      · clear hlt
        go_wp2_with fail
        all_goals
          have E' := E.out
          clear E
          go_ret
          exact ⟨ret_int (by rw [E']; simp [*]), (by repeat (first | exact QW.refl _ | refine QW.d ?_ _))⟩

set_option maxHeartbeats 400000 in
theorem refAlike (a b : List Int) (a1 a2 : Option Addr) (c1 c2 : Nat) (w : World) (h1 : Ints w a1 a) (h2 : Ints w a2 b) :
    Calls Try.prog 17 #[.slice a1 a.length c1, .slice a2 b.length c2] w (RetQ w (.bool (decide (a = b)))) := by
  have H1 := hid h1; have H2 := hid h2; clear h1 h2
  have e : (cmp a b == 0) = decide (a = b) := by rw [Bool.eq_iff_iff]; simp [cmp_eq_zero]
  have E := hid e
  clear e
  go_enter Try.func17, Try.ntmps17
  go_wp2_with (go_at_call 29; refine (refCompare a b _ _ _ _ _ H1.out H2.out).mono ?_; rintro e w' ⟨rfl, n, rfl⟩)
  go_ret
  exact ⟨ret_bool E.out, (by repeat (first | exact QW.refl _ | refine QW.d ?_ _))⟩

set_option maxHeartbeats 400000 in
theorem progCompare (a b : List Int) (a1 a2 : Option Addr) (c1 c2 : Nat) (w : World) (h1 : Ints w a1 a) (h2 : Ints w a2 b) :
    Calls Try.prog 22 #[.slice a1 a.length c1, .slice a2 b.length c2] w (RetQ w (.int .i64 (cmp a b))) := by
  have H1 := hid h1; have H2 := hid h2
  have hl1 := h1.len; have hl2 := h2.len; clear h1 h2
  obtain ⟨m, hm⟩ : ∃ m : Nat, m = min a.length b.length := ⟨_, rfl⟩
  have hmin := run_min (P := Try.prog) #[3, 3] 3 .i64 (a.length : Int) (b.length : Int) (m : Int) (by omega)
  have hm1 : m ≤ a.length := by omega
  have hm2 : m ≤ b.length := by omega
  have hm3 : m = a.length ∨ m = b.length := by omega
  have HM := hid hm3
  clear hm hm3
  go_enter Try.func22, Try.ntmps22
  go_wp2
  go_loopw [11] (fun i wr => ∃ k : Nat, k ≤ m ∧ i = .int .i64 k ∧ QW w wr ∧ Hid (cmp (a.drop k) (b.drop k) = cmp a b)) (fun i _ => a.length - (intOf i).toNat)
  case atStart => exact ⟨0, Nat.zero_le _, rfl, QW.refl _, hid rfl⟩
  case round =>
    obtain ⟨k, hk, rfl, ⟨n, rfl⟩, hcmp⟩ := hrel
    by_cases hlt : k < m
    · have hl1 : k < a.length := by omega
      have hl2 : k < b.length := by omega
      have c1' := H1.out.cell k hl1
      have c2' := H2.out.cell k hl2
      have i1 := H1.out.idx isl k hl1
      have i2 := H2.out.idx isl k hl2
      go_wp2_with fail
      go_quiet (fail)
      go_wp2_with fail
      · have h : a[k] < b[k] := by assumption
        go_ret
        exact ⟨ret_int (by rw [← hcmp.out, cmp_drop_lt hl1 hl2 h]), (by repeat (first | exact QW.refl _ | refine QW.d ?_ _))⟩
      · have h : b[k] ≤ a[k] := by assumption
        go_quiet (fail)
        go_wp2_with fail
        · have h' : b[k] < a[k] := by assumption
          go_ret
          exact ⟨ret_int (by rw [← hcmp.out, cmp_drop_gt hl1 hl2 h']), (by repeat (first | exact QW.refl _ | refine QW.d ?_ _))⟩
        · have h' : ¬ b[k] < a[k] := by omega
          have e := cmp_drop_eq hl1 hl2 (by omega)
          have E := hid (e.symm.trans hcmp.out)
          clear e
          go_roundw
          case rel => exact ⟨k + 1, by omega, by go_num, (by repeat (first | exact QW.refl _ | refine QW.d ?_ _)), E⟩
          case measure => simp [intOf]; omega
    · have e := cmp_drop_end (a := a) (b := b) (k := k) (by omega) (by omega) (by have := HM.out; omega)
      have E := hid (hcmp.out.symm.trans e)
      clear e
      go_wp2_with fail
      all_goals
        have E' := E.out
        clear E
        go_ret
        exact ⟨ret_int (by rw [E']; simp [*]), (by repeat (first | exact QW.refl _ | refine QW.d ?_ _))⟩
end Go.Proofs.Ytdafpafoioejaaa

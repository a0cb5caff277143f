/- The walks of AllAlike and Classes (both). Conditions: the lists lie in memory as read; sizes below the reach. -/
import Derived.Test.YtdafpafoioejaaaW10
import Derived.Test.YtdafpafoioejaaaLibM
import Derived.Test.YtdafpafoioejaaaMath7
namespace Go.Proofs.Ytdafpafoioejaaa
open Go.RowKit
set_option linter.unusedVariables false

theorem msl : ElT Try.prog 31 22 (.slice none 0 0) 1 24 := ⟨Try.underlying31, by kernel_rfl, rfl, by decide⟩

theorem lists_step {x y : List (List Int)} {k : Nat} (hl : x.length = y.length) (h : ∀ j, j < k → ln x j = ln y j) (hk : x.length ≤ k) : x = y := by
  apply List.ext_getElem?
  intro i
  by_cases hi : i < x.length
  · have := h i (by omega)
    rw [List.getElem?_eq_getElem hi, List.getElem?_eq_getElem (by omega)]
    simpa [ln, List.getD_eq_getElem?_getD, hi, (by omega : i < y.length)] using this
  · rw [List.getElem?_eq_none (by omega), List.getElem?_eq_none (by omega)]

set_option maxHeartbeats 800000 in
theorem refAllAlike (x y : List (List Int)) (a1 a2 : Option Addr) (c1 c2 : Nat) (hs1 hs2 : List Hd) (w : World) (h1 : Lists w a1 hs1 x) (h2 : Lists w a2 hs2 y) :
    Calls Try.prog 33 #[.slice a1 x.length c1, .slice a2 y.length c2] w (RetQ w (.bool (decide (x = y)))) := by
  have H1 := hid h1; have H2 := hid h2
  have hm1 := h1.most; have hm2 := h2.most; clear h1 h2
  by_cases hl : x.length = y.length
  · have hz : ((x.length : Int) != (y.length : Int)) = false := by simp [hl]
    have hx1 : x.length ≤ y.length := by omega
    have HL := hid hl
    clear hl
    go_enter Try.func33, Try.ntmps33
    go_wp2_with fail
    go_loopw [5] (fun i wr => ∃ i' : Nat, i' ≤ x.length ∧ i = .int .i64 i' ∧ QW w wr ∧ Hid (∀ j, j < i' → ln x j = ln y j)) (fun i _ => x.length - (intOf i).toNat)
    case atStart => exact ⟨0, Nat.zero_le _, rfl, QW.refl _, hid (fun j h => absurd h (Nat.not_lt_zero j))⟩
    case round =>
      obtain ⟨i, hi, rfl, q, he⟩ := hrel
      have L1 := H1.out.below q.below
      have L2 := H2.out.below q.below
      by_cases hlt : i < x.length
      · have i1 := L1.idx msl i hlt
        have i2 := L2.idx msl i (by omega)
        have c1' := L1.cell i hlt
        have c2' := L2.cell i (by omega)
        have C := hid (fun w' => refAlike (ln x i) (ln y i) (hd hs1 i).1 (hd hs2 i).1 (hd hs1 i).2 (hd hs2 i).2 w')
        have e1 := hid (fun n => (L1.each i).drewN n)
        have e2 := hid (fun n => (L2.each i).drewN n)
        have hne : Hid (ln x i ≠ ln y i → x ≠ y) := hid (fun h e => h (by rw [e]))
        have hst : Hid (ln x i = ln y i → ∀ j, j < i + 1 → ln x j = ln y j) := hid (fun h j hj => by
          by_cases e : j = i
          · subst e; exact h
          · exact he.out j (by omega))
        generalize ln x i = u at *
        generalize ln y i = v at *
        by_cases huv : u = v
        · have HS := hid (hst.out huv)
          have D : decide (u = v) = true := decide_eq_true huv
          rw [D] at C
          clear huv hst hne D
          go_wp2_with fail
          go_quiet (((go_at_call 17; exact RetQ.quiet (C.out _ (e1.out _) (e2.out _)))))
          go_wp2_with fail
          go_roundw
          case rel => exact ⟨i + 1, by omega, by go_num, (q.trans (by repeat (first | exact QW.refl _ | refine QW.d ?_ _))), HS⟩
          case measure => simp [intOf]; omega
        · have HS := hid (hne.out huv)
          have D : decide (u = v) = false := decide_eq_false huv
          rw [D] at C
          clear huv hst hne D
          go_wp2_with fail
          go_quiet (((go_at_call 17; exact RetQ.quiet (C.out _ (e1.out _) (e2.out _)))))
          go_wp2_with fail
          go_ret
          exact ⟨ret_bool (decide_eq_false HS.out).symm, (q.trans (by repeat (first | exact QW.refl _ | refine QW.d ?_ _)))⟩
      · have e := lists_step HL.out he.out (by omega)
        have E := hid e
        clear e
        go_wp2_with fail
        go_ret
        exact ⟨ret_bool (decide_eq_true E.out).symm, (q.trans (by repeat (first | exact QW.refl _ | refine QW.d ?_ _)))⟩
  · have hz : ((x.length : Int) != (y.length : Int)) = true := by simp; omega
    have e : ¬ x = y := fun h => hl (by rw [h])
    have E := hid e
    clear e hl
    go_enter Try.func33, Try.ntmps33
    go_wp2_with fail
    go_ret
    exact ⟨ret_bool (decide_eq_false E.out).symm, (by repeat (first | exact QW.refl _ | refine QW.d ?_ _))⟩
end Go.Proofs.Ytdafpafoioejaaa

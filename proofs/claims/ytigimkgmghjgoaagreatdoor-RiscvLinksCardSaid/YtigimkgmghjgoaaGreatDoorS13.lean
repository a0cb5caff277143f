/- The walk of SameCode (the document's answer). Condition: the instructions lie in memory as read. -/
import Derived.Test.YtigimkgmghjgoaaGreatDoorLibI
import Derived.Test.YtigimkgmghjgoaaGreatDoorR5
namespace Go.Proofs.YtigimkgmghjgoaaGreatDoor
open Go.RowKit
set_option linter.unusedVariables false

attribute [local go_sem high] eqI neqI
theorem takeI_step {a b : List Ins} {k : Nat} {x : Ins} (h : a.take k = b.take k) (h1 : a[k]? = some x) (h2 : b[k]? = some x) : a.take (k + 1) = b.take (k + 1) := by
  rw [List.take_add_one, List.take_add_one, h, h1, h2]
set_option maxHeartbeats 1600000 in
theorem refSameCode (a b : List Ins) (a1 a2 : Option Addr) (c1 c2 : Nat) (w : World) (h1 : Is w a1 a) (h2 : Is w a2 b) :
    Calls Tryz.prog 20 #[.slice a1 a.length c1, .slice a2 b.length c2] w (RetQ w (.bool (decide (a = b)))) := by
  have H1 := hid h1; have H2 := hid h2
  by_cases hlen : a.length = b.length
  · have HL := hid hlen
    have hix1 := h1.idx; have hix2 := h2.idx
    have hal := h1.len
    rw [← hlen] at hix2 ⊢
    have X1 := hid hix1; have X2 := hid hix2
    obtain ⟨n, hn⟩ : ∃ n, a.length = n := ⟨_, rfl⟩
    rw [hn] at X1 X2 hal ⊢
    have HN := hid hn
    have HG1 := hid (fun (k : Nat) (hk : k < n) => show ∃ i, a[k]? = some i from ⟨_, List.getElem?_eq_getElem (by omega)⟩)
    have HG2 := hid (fun (k : Nat) (hk : k < n) => show ∃ i, b[k]? = some i from ⟨_, List.getElem?_eq_getElem (by omega)⟩)
    clear hlen hix1 hix2 hn h1 h2
    go_enter Tryz.func20, Tryz.ntmps20
    go_wp2_with fail
    go_loopw [5] (fun i wr => ∃ k : Nat, k ≤ n ∧ i = .int .i64 k ∧ Hid (a.take k = b.take k) ∧ QW w wr) (fun i _ => n - (intOf i).toNat)
    case atStart => exact ⟨0, by omega, rfl, hid (by simp), QW.refl _⟩
    case round =>
      obtain ⟨k, hk, rfl, HK, ⟨q, rfl⟩⟩ := hrel
      by_cases hlt : k < n
      · obtain ⟨x, hx⟩ := HG1.out k hlt
        obtain ⟨y, hy⟩ := HG2.out k hlt
        obtain ⟨p0, p1, p2, p3, p4, p5, p6, p7⟩ := H1.out.cells hx
        obtain ⟨q0, q1, q2, q3, q4, q5, q6, q7⟩ := H2.out.cells hy
        have ix := X1.out k hlt; have iy := X2.out k hlt
        by_cases hm : x = y
        · have hd : decide (x = y) = true := decide_eq_true hm
          have hd2 : (!decide (x = y)) = false := by rw [hd]; rfl
          have HK2 := hid (takeI_step HK.out hx (hm ▸ hy))
          clear hm hx hy
          go_wp2_with fail
          go_quiet (fail)
          go_wp2_with fail
          go_roundw
          case rel => exact ⟨k + 1, by omega, by go_num, HK2, (by repeat (first | exact QW.refl _ | refine QW.d ?_ _))⟩
          case measure => simp [intOf]; omega
        · have hd : decide (x = y) = false := decide_eq_false hm
          have hd2 : (!decide (x = y)) = true := by rw [hd]; rfl
          have HM := hid (show ¬ a = b by intro h; subst h; rw [hx] at hy; exact hm (Option.some.inj hy))
          clear hm hx hy
          go_wp2_with fail
          go_quiet (fail)
          go_wp2_with fail
          go_ret
          exact ⟨ret_bool (decide_eq_false HM.out).symm, (by repeat (first | exact QW.refl _ | refine QW.d ?_ _))⟩
      · have hab := hid (show a = b by
          have := HK.out
          rwa [List.take_of_length_le (by have := HN.out; omega), List.take_of_length_le (by have := HL.out; have := HN.out; omega)] at this)
        go_wp2_with fail
        go_ret
        exact ⟨ret_bool (decide_eq_true hab.out).symm, (by repeat (first | exact QW.refl _ | refine QW.d ?_ _))⟩
  · have z : ((a.length : Int) != (b.length : Int)) = true := by simp; omega
    have HM := hid (show ¬ a = b by intro h; subst h; exact hlen rfl)
    clear hlen h1 h2
    go_enter Tryz.func20, Tryz.ntmps20
    go_wp2_with fail
    go_ret
    exact ⟨ret_bool (decide_eq_false HM.out).symm, (by repeat (first | exact QW.refl _ | refine QW.d ?_ _))⟩
end Go.Proofs.YtigimkgmghjgoaaGreatDoor

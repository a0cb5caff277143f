/- The walks of what the statements do to edges: mark, Alike, Marked, Grown, Lent, Kept (the document's answer). Conditions: the edges lie in memory as read, or in memory of the call's own. -/
import Derived.Test.YteijgmaggmhggaaE15
import Derived.Test.YteijgmaggmhggaaLibE3
namespace Go.Proofs.Yteijgmaggmhggaa
open Go.RowKit
set_option linter.unusedVariables false

attribute [local go_sem high] eqE neqE

def markE (k : Int) : Edge := ⟨-77, true, k % 2 == 0, 1000 + k, -5, 99⟩
theorem refMark (k : Int) (h0 : 0 ≤ k) (hk : k ≤ 1000000000000000000) (w : World) : Calls Try.prog 27 #[.int .i64 k] w (Ret w (vE (markE k))) := by
  show Calls Try.prog _ _ w (Ret w (vE ⟨-77, true, k % 2 == 0, 1000 + k, -5, 99⟩))
  go_enter Try.func27, Try.ntmps27
  go_wp2
  exact bodyPost_ret (by simp [results, Try.results27, go_sem]) rfl ⟨rfl, (by repeat (first | with_reducible assumption | with_reducible exact Below.refl _ _ | with_reducible refine Below.setCell ?_ (Nat.le_refl _) _ | with_reducible refine Below.setCell ?_ (by simp) _ | with_reducible refine Below.alloc ?_ (Nat.le_refl _) _ | with_reducible refine Below.alloc ?_ (by simp) _ | with_reducible refine Below.alloc ?_ (by simp <;> omega) _ | with_reducible refine Below.drew ?_))⟩

theorem takeE_step {a b : List Edge} {i : Nat} (h : a.take i = b.take i) (ha : i < a.length) (hb : i < b.length) (he : a[i] = b[i]) : a.take (i + 1) = b.take (i + 1) := by
  rw [List.take_add_one, List.take_add_one, List.getElem?_eq_getElem ha, List.getElem?_eq_getElem hb, h, he]
set_option maxRecDepth 100000 in
set_option maxHeartbeats 1600000 in
theorem refAlikeE (a b : List Edge) (a1 a2 : Option Addr) (c1 c2 : Nat) (w : World) (h1 : Es w a1 a) (h2 : Es w a2 b) :
    Calls Try.prog 8 #[.slice a1 a.length c1, .slice a2 b.length c2] w (RetQ w (.bool (decide (a = b)))) := by
  have hl1 := h1.len; have hl2 := h2.len
  by_cases hlen : a.length = b.length
  · have z : ((a.length : Int) != (b.length : Int)) = false := by simp; omega
    have HL := hid hlen
    have hle : a.length ≤ b.length := by omega
    have H1 := hid h1; have H2 := hid h2
    clear hlen h1 h2
    go_enter Try.func8, Try.ntmps8
    go_wp2_with fail
    go_loopw [5] (fun i wr => ∃ k : Nat, k ≤ a.length ∧ i = .int .i64 k ∧ Hid (a.take k = b.take k) ∧ QW w wr) (fun i _ => a.length - (intOf i).toNat)
    case atStart => exact ⟨0, by omega, rfl, hid (by simp), QW.refl _⟩
    case round =>
      obtain ⟨k, hk, rfl, HK, ⟨n, rfl⟩⟩ := hrel
      by_cases hlt : k < a.length
      · obtain ⟨e, he⟩ : ∃ e, a[k] = e := ⟨_, rfl⟩
        obtain ⟨f, hf⟩ : ∃ f, b[k]'(by omega) = f := ⟨_, rfl⟩
        obtain ⟨p0, p1, p2, p3, p4, p5⟩ := H1.out.cells k hlt e he
        obtain ⟨q0, q1, q2, q3, q4, q5⟩ := H2.out.cells k (by omega) f hf
        have ix := H1.out.idx k hlt
        have iy := H2.out.idx k (by omega)
        have h0k : (0 : Int) ≤ (k : Int) := by omega
        have h1k : (k : Int) < (a.length : Int) := by omega
        have h2k : (k : Int) < (b.length : Int) := by omega
        have HE := hid he; have HF := hid hf
        clear he hf
        by_cases hm : e = f
        · have hd : decide (e = f) = true := decide_eq_true hm
          have HM := hid hm
          have HK2 := hid (takeE_step HK.out hlt (by omega) (by rw [HE.out, HF.out]; exact hm))
          clear hm
          go_wp2_with fail
          go_quiet (fail)
          go_wp2_with fail
          go_roundw
          case rel => exact ⟨k + 1, by omega, by go_num, HK2, (by repeat (first | exact QW.refl _ | refine QW.d ?_ _))⟩
          case measure => simp [intOf]; omega
        · have hd : decide (e = f) = false := decide_eq_false hm
          have HM := hid (show ¬ a = b by intro h; subst h; exact hm (HE.out.symm.trans HF.out))
          clear hm
          go_wp2_with fail
          go_quiet (fail)
          go_wp2_with fail
          go_ret
          exact ⟨ret_bool (decide_eq_false HM.out).symm, (by repeat (first | exact QW.refl _ | refine QW.d ?_ _))⟩
      · have hab := hid (show a = b by
          have := HK.out
          rwa [List.take_of_length_le (by omega), List.take_of_length_le (by have := HL.out; omega)] at this)
        go_wp2_with fail
        go_ret
        exact ⟨ret_bool (decide_eq_true hab.out).symm, (by repeat (first | exact QW.refl _ | refine QW.d ?_ _))⟩
  · have z : ((a.length : Int) != (b.length : Int)) = true := by simp; omega
    have HM := hid (show ¬ a = b by intro h; subst h; exact hlen rfl)
    clear hlen h1 h2
    go_enter Try.func8, Try.ntmps8
    go_wp2_with fail
    go_ret
    exact ⟨ret_bool (decide_eq_false HM.out).symm, QW.refl _⟩
end Go.Proofs.Yteijgmaggmhggaa

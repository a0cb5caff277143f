/- The walk of Kept of edges (the document's answer). Conditions: the edges lie in memory as read. -/
import Derived.Test.YteijgmaggmhggaaE25
import Derived.Deep.RegionHeld3
namespace Go.Proofs.Yteijgmaggmhggaa
open Go.RowKit
set_option linter.unusedVariables false

attribute [local go_sem high] eqE neqE

set_option maxRecDepth 100000 in
set_option maxHeartbeats 3200000 in
theorem refKeptE (l m : List Edge) (a1 a2 : Option Addr) (c1 c2 : Nat) (w : World) (h1 : Es w a1 (l ++ marksE 40)) (h2 : Es w a2 m) (hlm : l.length = m.length) (hc : m.length + 40 ≤ c1) :
    Calls Try.prog 18 #[.slice a1 m.length c1, .slice a2 m.length c2] w (Ret w (.bool (decide (l = m)))) := by
  have s1 := run_cut_to esl a1 m.length c1 (m.length + 40) hc .i64
  have hml := h2.len
  have hlen : (l ++ marksE 40).length = m.length + 40 := by rw [List.length_append, marksE_length, hlm]
  have HL := hid hlm; have HLEN := hid hlen
  have B := Below.refl w.heap.size w
  clear hlm hlen
  go_enter Try.func18, Try.ntmps18
  go_wp2_with fail
  go_loopw [6] (fun i wr => ∃ (j : Nat), j ≤ 40 ∧ i = .int .i64 j ∧ Es wr a1 (l ++ marksE 40) ∧ Es wr a2 m ∧ Below w.heap.size w wr) (fun i _ => 40 - (intOf i).toNat)
  case atStart => exact ⟨0, Nat.zero_le _, rfl, h1, h2, B⟩
  case round =>
    clear h1 h2 B
    obtain ⟨j, hj, rfl, h1, h2, B⟩ := hrel
    by_cases hlt : j < 40
    · have hg := hid (show (l ++ marksE 40)[m.length + j]'(by rw [HLEN.out]; omega) = markE (j : Int) by
        have h3 : (l ++ marksE 40)[m.length + j]? = some (markE (j : Int)) := by
          rw [List.getElem?_append_right (by have := HL.out; omega), HL.out, Nat.add_sub_cancel_left, List.getElem?_eq_getElem (by rw [marksE_length]; exact hlt), marksE_get 40 j hlt]
        rw [List.getElem?_eq_getElem (by rw [HLEN.out]; omega)] at h3
        exact Option.some.inj h3)
      have hd : decide (markE (j : Int) = markE (j : Int)) = true := decide_eq_true rfl
      have h1 : Es wr.drew a1 (l ++ marksE 40) := h1.below (below_drewN wr 1)
      have h2 : Es wr.drew a2 m := h2.below (below_drewN wr 1)
      have B : Below w.heap.size w wr.drew := B.trans ((below_drewN wr 1).mono B.size)
      obtain ⟨p0, p1, p2, p3, p4, p5⟩ := h1.cells (m.length + j) (by rw [HLEN.out]; omega) _ hg.out
      have ix := h1.idxz (m.length + j) (by rw [HLEN.out]; omega) ((m.length : Int) + (j : Int)) (by omega)
      rw [HLEN.out] at ix
      have hw : IntKind.i64.wrap ((m.length : Int) + (j : Int)) = (m.length : Int) + (j : Int) := IntWalk.i64_in _ (by omega)
      have h0k : (0 : Int) ≤ (m.length : Int) + (j : Int) := by omega
      have h1k : (m.length : Int) + (j : Int) < ((m.length + 40 : Nat) : Int) := by omega
      have CM := fun W => refMark (j : Int) (by omega) (by omega) W
      have HCM := hid CM
      clear CM hd
      go_wp2_with fail
      go_region_held3 (fun w' => w'.cell? ⟨bk a1, fo a1 + (m.length + j) * 6, none⟩ = some (.int .i64 (markE (j : Int)).kind) ∧ w'.cell? ⟨bk a1, fo a1 + (m.length + j) * 6 + 1, none⟩ = some (.bool (markE (j : Int)).ext) ∧ w'.cell? ⟨bk a1, fo a1 + (m.length + j) * 6 + 2, none⟩ = some (.bool (markE (j : Int)).same) ∧ w'.cell? ⟨bk a1, fo a1 + (m.length + j) * 6 + 3, none⟩ = some (.int .i64 (markE (j : Int)).src) ∧ w'.cell? ⟨bk a1, fo a1 + (m.length + j) * 6 + 4, none⟩ = some (.int .i64 (markE (j : Int)).dst) ∧ w'.cell? ⟨bk a1, fo a1 + (m.length + j) * 6 + 5, none⟩ = some (.int .i64 (markE (j : Int)).fence)) (first | exact ⟨by assumption, by assumption, by assumption, by assumption, by assumption, by assumption⟩)
        (((go_at_call 27; refine (HCM.out _).mono ?_; rintro e w7 ⟨rfl, E7⟩; have h1 := h1.below E7; have h2 := h2.below E7; have B := B.trans (E7.mono B.size); obtain ⟨p0, p1, p2, p3, p4, p5⟩ := h1.cells (m.length + j) (by rw [HLEN.out]; omega) _ hg.out)))
      go_wp2_with fail
      go_roundw
      case rel => exact ⟨j + 1, by omega, by go_num, h1, h2, B⟩
      case measure => simp [intOf]; omega
    · have C := fun w' (A : Es w' a1 l) (M : Es w' a2 m) => refAlikeE l m a1 a2 c1 c2 w' A M
      rw [HL.out] at C
      have A := h1.app_left
      have CH := hid C
      clear C
      go_wp2_with fail
      refine (CH.out _ A h2).mono ?_
      rintro e w' ⟨rfl, q⟩
      go_wp2_with fail
      go_ret
      exact ⟨rfl, B.trans (q.below.mono B.size)⟩
end Go.Proofs.Yteijgmaggmhggaa

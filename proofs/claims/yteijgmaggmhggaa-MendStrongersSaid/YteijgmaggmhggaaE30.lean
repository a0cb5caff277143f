/- The walk of awake: what must come, whatever the arguments are. No condition. -/
import Derived.Test.YteijgmaggmhggaaE29
import Derived.Test.YteijgmaggmhggaaE22
import Derived.Deep.RegionHeld3
namespace Go.Proofs.Yteijgmaggmhggaa
open Go.RowKit
set_option linter.unusedVariables false

attribute [local go_sem high] eqE neqE

theorem aw1 : strongE 1 (ofCode 8) = [ofCode 8, ofCode 16] := by decide +kernel
theorem aw2 : costsE (ofCode 8) [ofCode 8, ofCode 16] = [0, 6] := by decide +kernel
theorem aw3 : errA 1 (ofCode 8) = 0 := by decide +kernel
theorem aw4 : weakB 1 [ofCode 8] [ofCode 8] = true ∧ weakN 1 [ofCode 8] [ofCode 8] = 0 := by decide +kernel
theorem aw5 : weakB 1 [ofCode 8] [ofCode 2] = false ∧ weakN 1 [ofCode 8] [ofCode 2] = 0 := by decide +kernel
set_option maxRecDepth 100000 in
set_option maxHeartbeats 6400000 in
theorem awake26 (w : World) : Calls Try.prog 14 #[] w (Ret w (.bool true)) := by
  go_enter Try.func14, Try.ntmps14
  go_wp2_with fail
  refine (refParse_sb _).mono ?_
  rintro x w1 ⟨a, c, rfl, o, E1⟩
  have es := OwnE.es o (by decide : (sbTo 7).length ≤ 1000000000000000000)
  have hc := o.cap.1
  have cs := es.cells 0 (by decide) (ofCode 8) rfl
  have ix := es.idxz 0 (by decide) 0 rfl
  have hl4 : (sbTo 7).length = 4 := rfl
  rw [hl4] at ix
  simp only [Nat.zero_mul, Nat.add_zero] at cs ix
  obtain ⟨p0, p1, p2, p3, p4, p5⟩ := cs
  clear hl4
  go_wp2_with fail
  refine (progStronger_ok 1 (.inl rfl) (ofCode 8) aw3 _).mono ?_
  rintro x w2 ⟨a2, c2, a3, c3, rfl, o2, o3, ap, E2⟩
  rw [aw1] at o2 o3
  rw [aw2] at o3
  rw [aw1]
  have es := es.below E2
  have i3 := o3.ints.1
  have B := ext_trans E1 E2
  clear p0 p1 p2 p3 p4 p5 ix o o2 o3 ap
  have e1 := es.take 1
  have e2 : Es w2 (cutA a (c = 1) (1 * 6)) [ofCode 2] := (es.drop 1 (c = 1) (by intro h; omega)).take 1
  have s1 : ∀ w', (Instr.sliceAt 24 (.slice a 4 c) none (some (.int .i64 1)) none).run Try.prog w' = .ok (.slice a 1 c) w' := run_cut_to esl a 4 c 1 (by omega) .i64
  have s2 : ∀ w', (Instr.sliceAt 24 (.slice a 4 c) (some (.int .i64 1)) (some (.int .i64 2)) none).run Try.prog w' = .ok (.slice (cutA a (c = 1) (1 * 6)) 1 (c - 1)) w' := run_cut esl a 4 c 1 2 (by omega) (by omega) .i64 .i64
  have e1 : Es w2 a [ofCode 8] := e1
  clear es
  generalize cutA a (c = 1) (1 * 6) = a4 at *
  go_wp2_with fail
  have e1 : Es w2.drew a [ofCode 8] := e1.below (below_drewN w2 1)
  have e2 : Es w2.drew a4 [ofCode 2] := e2.below (below_drewN w2 1)
  have i3 : Ints w2.drew a3 [0, 6] := i3.below (below_drewN w2 1)
  have B : Below w.heap.size w w2.drew := Below.drew B
  go_region_held3 (fun w' => Es w' a [ofCode 8] ∧ Es w' a4 [ofCode 2]) (first | exact ⟨by assumption, by assumption⟩)
    (((go_at_call 16; refine (progWeaker 1 [ofCode 8] [ofCode 8] a a c c _ e1 e1).mono ?_; rintro x w3 ⟨rfl, E3⟩; rw [aw4.1, aw4.2]; have e1 := e1.below E3; have e2 := e2.below E3; have i3 := i3.below E3; have B := ext_trans B E3)))
  go_wp2_with fail
  have e1 : Es w3.drew a [ofCode 8] := e1.below (below_drewN w3 1)
  have e2 : Es w3.drew a4 [ofCode 2] := e2.below (below_drewN w3 1)
  have i3 : Ints w3.drew a3 [0, 6] := i3.below (below_drewN w3 1)
  have B : Below w.heap.size w w3.drew := Below.drew B
  go_region_held3 (fun w' => Es w' a [ofCode 8] ∧ Es w' a4 [ofCode 2]) (first | exact ⟨by assumption, by assumption⟩)
    (((go_at_call 16; refine (progWeaker 1 [ofCode 8] [ofCode 2] a a4 c (c - 1) _ e1 e2).mono ?_; rintro x w4 ⟨rfl, E4⟩; rw [aw5.1, aw5.2]; have e1 := e1.below E4; have e2 := e2.below E4; have i3 := i3.below E4; have B := ext_trans B E4)))
  have ii : ∀ c w', (Instr.indexAt 25 (.slice a3 2 c) (.int .i64 1)).run Try.prog w' = .ok (.pointer (some ⟨bk a3, fo a3 + 1, none⟩)) w' := i3.idxz isl 1 (by decide) 1 rfl
  have ci := i3.cell 1 (by decide)
  have ci : w4.cell? ⟨bk a3, fo a3 + 1, none⟩ = some (.int .i64 6) := ci
  go_wp2_with fail
  go_ret
  exact ⟨rfl, B⟩
end Go.Proofs.Yteijgmaggmhggaa

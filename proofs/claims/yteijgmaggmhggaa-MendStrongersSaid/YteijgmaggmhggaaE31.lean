/- The walk of Stronger (the document's answer). Conditions: none but those that each theorem names. -/
import Derived.Test.YteijgmaggmhggaaE23
namespace Go.Proofs.Yteijgmaggmhggaa
open Go.RowKit
set_option linter.unusedVariables false

attribute [local go_sem high] eqE neqE

set_option maxRecDepth 100000 in
set_option maxHeartbeats 3200000 in
theorem refStronger_no (arch : Int) (e : Edge) (hn : strN arch e ≠ 0) (w : World) :
    Calls Try.prog 7 #[.int .i64 arch, vE e] w (Ret w (.tuple #[.slice none 0 0, .slice none 0 0, .int .i64 (strN arch e)])) := by
  have E1 := al w (mkE e)
  have b0 := Bx.new w e 23
  by_cases ha : isArch arch
  · have hs : strN arch e = errA arch e := by unfold strN; rw [if_pos ha]
    rw [hs] at hn ⊢
    have z : (errA arch e != 0) = true := by simpa using hn
    have hd : decide (isArch arch) = true := decide_eq_true ha
    have CR := hid (refRefused arch ha e)
    generalize errA arch e = n at *
    clear hs hn ha
    obtain ⟨q0, q1, q2, q3, q4, q5⟩ := b0.cells
    go_enter Try.func7, Try.ntmps7
    go_wp2_with fail
    refine (refIsArch arch _).mono ?_
    rintro x w7 ⟨rfl, rfl⟩
    rw [hd]
    go_wp2_with fail
    refine (CR.out _).mono ?_
    rintro x w7 ⟨rfl, E7⟩
    go_wp2_with fail
    go_ret3
    exact ⟨rfl, E1.trans (E7.mono E1.size)⟩
  · have hs : strN arch e = 1 := by unfold strN; rw [if_neg ha]
    rw [hs]
    have hd : decide (isArch arch) = false := decide_eq_false ha
    clear hs hn ha
    go_enter Try.func7, Try.ntmps7
    go_wp2_with fail
    refine (refIsArch arch _).mono ?_
    rintro x w7 ⟨rfl, rfl⟩
    rw [hd]
    go_wp2_with fail
    go_ret3
    exact ⟨rfl, E1⟩
set_option maxRecDepth 100000 in
set_option maxHeartbeats 3200000 in
theorem refStronger_ok (arch : Int) (ha : isArch arch) (e : Edge) (hz : errA arch e = 0) (w : World) :
    Calls Try.prog 7 #[.int .i64 arch, vE e] w (RetStrong w e (strongE arch e)) := by
  have E1 := al w (mkE e)
  have b0 := Bx.new w e 23
  have hd : decide (isArch arch) = true := decide_eq_true ha
  have CR := hid (refRefused arch ha e)
  have hv := (errA_zero hz).1
  have CS := hid (refStrong arch ha e hv)
  have HZ := hid hz
  clear hz ha hv
  obtain ⟨q0, q1, q2, q3, q4, q5⟩ := b0.cells
  go_enter Try.func7, Try.ntmps7
  go_wp2_with fail
  refine (refIsArch arch _).mono ?_
  rintro x w7 ⟨rfl, rfl⟩
  rw [hd]
  go_wp2_with fail
  refine (CR.out _).mono ?_
  rintro x w7 ⟨rfl, E7⟩
  rw [HZ.out]
  have b7 := b0.below E7
  have B7 := E1.trans (E7.mono E1.size)
  clear q0 q1 q2 q3 q4 q5 b0 E1 E7
  obtain ⟨q0, q1, q2, q3, q4, q5⟩ := b7.cells
  go_wp2_with fail
  refine (CS.out _).mono ?_
  rintro x w8 ⟨a, c, a2, c2, rfl, o, oi, ap, E8⟩
  clear q0 q1 q2 q3 q4 q5 b7
  go_wp2_with fail
  go_ret3
  exact ⟨a, c, a2, c2, rfl, Own.mono o B7.size, Own.mono oi B7.size, ap, B7.trans (E8.mono B7.size)⟩
end Go.Proofs.Yteijgmaggmhggaa

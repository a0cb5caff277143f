/- The walks of dir, Name at the first nine numbers, Parse of such names (the document's answer). Conditions: none but those that each theorem names. -/
import Derived.Test.YteijgmaggmhggaaE6
import Derived.Test.YteijgmaggmhggaaE15
namespace Go.Proofs.Yteijgmaggmhggaa
open Go.RowKit
set_option linter.unusedVariables false

attribute [local go_sem high] eqE neqE

theorem ret_spair {k' : IntKind} {a c : ByteArray} {b : Int} (h : a = c) : Ending.returned (.tuple #[.string a, .int k' b]) = .returned (.tuple #[.string c, .int k' b]) := by rw [h]
/-- the names of the first nine numbers -/
def nmL : Nat → List UInt8
  | 0 => [82, 102, 101]
  | 1 => [82, 102, 105]
  | 2 => [70, 114, 101]
  | 3 => [70, 114, 105]
  | 4 => [67, 111, 101]
  | 5 => [67, 111, 105]
  | 6 => [80, 111, 100, 82, 82]
  | 7 => [80, 111, 100, 82, 87]
  | _ => [80, 111, 100, 87, 82]
def nm (c : Nat) : ByteArray := ⟨(nmL c).toArray⟩
theorem refDir (d : Int) (w : World) : Calls Try.prog 68 #[.int .i64 d] w fun e w' => e = .returned (.string (if d = 2 then ⟨#[87]⟩ else ⟨#[82]⟩)) ∧ w = w' := by
  by_cases h : d = 2
  · rw [if_pos h]
    have z : (d == 2) = true := by simp [h]
    clear h
    go_enter Try.func68, Try.ntmps68
    go_wp2
    go_ret
    exact ⟨rfl, rfl⟩
  · rw [if_neg h]
    have z : (d == 2) = false := by simp [h]
    clear h
    go_enter Try.func68, Try.ntmps68
    go_wp2
    go_ret
    exact ⟨rfl, rfl⟩
set_option maxRecDepth 100000 in
set_option maxHeartbeats 3200000 in
theorem refName_lo (c : Nat) (h : c < 9) (w : World) : Calls Try.prog 60 #[vE (ofCode c)] w (Ret w (.tuple #[.string (nm c), .int .i64 0])) := by
  have hz : errE (ofCode c) = 0 := by unfold errE; rw [codeOf_ofCode (by omega), if_neg (by omega)]
  have HZ := hid hz
  have b0 := Bx.new w (ofCode c) 23
  have B0 := al w (mkE (ofCode c))
  clear hz
  have hc : c = 0 ∨ c = 1 ∨ c = 2 ∨ c = 3 ∨ c = 4 ∨ c = 5 ∨ c = 6 ∨ c = 7 ∨ c = 8 := by omega
  go_enter Try.func60, Try.ntmps60
  go_wp2_with fail
  refine (refCheck (ofCode c) _).mono ?_
  rintro x w7 ⟨rfl, E7⟩
  rw [HZ.out]
  have b7 := b0.below E7
  have B7 := B0.trans (E7.mono B0.size)
  obtain ⟨c0, c1, c2, c3, c4, c5⟩ := b7.cells
  clear b0 B0 E7 b7 HZ h
  rcases hc with rfl | rfl | rfl | rfl | rfl | rfl | rfl | rfl | rfl
  all_goals
    simp only [show ofCode 0 = ⟨1, true, false, 2, 1, 0⟩ from by decide, show ofCode 1 = ⟨1, false, false, 2, 1, 0⟩ from by decide, show ofCode 2 = ⟨2, true, false, 1, 2, 0⟩ from by decide, show ofCode 3 = ⟨2, false, false, 1, 2, 0⟩ from by decide, show ofCode 4 = ⟨3, true, false, 2, 2, 0⟩ from by decide, show ofCode 5 = ⟨3, false, false, 2, 2, 0⟩ from by decide, show ofCode 6 = ⟨4, false, false, 1, 1, 0⟩ from by decide, show ofCode 7 = ⟨4, false, false, 1, 2, 0⟩ from by decide, show ofCode 8 = ⟨4, false, false, 2, 1, 0⟩ from by decide] at *
    go_wp2_with fail
    try (go_quiet ((go_at_call 68; exact Calls.quiet_of_same ((refDir _ _).mono fun _ _ hh => ⟨hh.1, hh.2.symm⟩))); go_wp2_with fail)
    go_ret2
    refine ⟨ret_spair (by kernel_rfl), ?_⟩
    first
      | with_reducible exact B7
      | exact B7.trans ((below_drewN _ _).mono B7.size)
end Go.Proofs.Yteijgmaggmhggaa

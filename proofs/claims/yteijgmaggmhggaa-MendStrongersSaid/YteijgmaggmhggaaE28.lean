/- The walk of Parse of one of the first nine names (the document's answer). Conditions: none but those that each theorem names. -/
import Derived.Test.YteijgmaggmhggaaE27
import Derived.Test.YteijgmaggmhggaaE5
namespace Go.Proofs.Yteijgmaggmhggaa
open Go.RowKit
set_option linter.unusedVariables false

attribute [local go_sem high] eqE neqE

theorem nm_toList (j : Nat) : (nm j).toList = nmL j := by rw [ByteArray.toList_eq]; simp [nm]
theorem nmL_ne : ∀ j, j < 9 → ∀ k, k < 9 → j ≠ k → (nmL j == nmL k) = false := by decide
set_option maxRecDepth 100000 in
set_option maxHeartbeats 6400000 in
theorem refParse_lo (k : Nat) (hk : k < 9) (w : World) : Calls Try.prog 44 #[.string (nm k)] w (Ret w (.tuple #[vE (ofCode k), .int .i64 0])) := by
  have B0 : Below (w.alloc (mkE ⟨0, false, false, 0, 0, 0⟩)).heap.size (w.alloc (mkE ⟨0, false, false, 0, 0, 0⟩)) (w.alloc (mkE ⟨0, false, false, 0, 0, 0⟩)) := Below.refl _ _
  go_enter Try.func44, Try.ntmps44
  go_wp2_with fail
  go_loopw [4] (fun i wr => ∃ j : Nat, j ≤ k ∧ i = .int .i64 j ∧ Below (w.alloc (mkE ⟨0, false, false, 0, 0, 0⟩)).heap.size (w.alloc (mkE ⟨0, false, false, 0, 0, 0⟩)) wr) (fun i _ => 9 - (intOf i).toNat)
  case atStart => exact ⟨0, by omega, rfl, B0⟩
  case round =>
    clear B0
    obtain ⟨j, hj, rfl, B⟩ := hrel
    have hjz : decide ((j : Int) < 112) = true := by simp; omega
    go_wp2_with fail
    refine (refOf j (by omega) _).mono ?_
    rintro x w7 ⟨rfl, E7⟩
    have B7 := B.trans (E7.mono B.size)
    have bx := Bx.new w7 (ofCode j) 23
    have E8 := al w7 (mkE (ofCode j))
    go_wp2_with fail
    refine (refName_lo j (by omega) _).mono ?_
    rintro x w8 ⟨rfl, E9⟩
    have B8 := B7.trans ((E8.trans (E9.mono E8.size)).mono B7.size)
    have bx8 := bx.below E9
    obtain ⟨c0, c1, c2, c3, c4, c5⟩ := bx8.cells
    have hlt8 := bx8.1
    clear B bx bx8 E7 E8 E9
    by_cases hjk : j = k
    · subst hjk
      have hz : ((nm j).toList == (nm j).toList) = true := by simp
      obtain ⟨⟨d0, d1, d2, d3, d4, d5⟩, hf, B9⟩ := fresh6 B8
      have hlt9 : w.heap.size < w8.heap.size := by have := B8.size; simp at this; omega
      have hlt7 : w.heap.size < w7.heap.size := by have := B7.size; simp at this; omega
      go_wp2_with fail
      refine bodyPost_ret (by simp [results, Try.results44, go_sem, d0, d1, d2, d3, d4, d5]) rfl ⟨rfl, (by repeat (first | with_reducible assumption | with_reducible exact Below.refl _ _ | with_reducible refine Below.setCell ?_ (Nat.le_refl _) _ | with_reducible refine Below.setCell ?_ (by simp) _ | with_reducible refine Below.alloc ?_ (Nat.le_refl _) _ | with_reducible refine Below.alloc ?_ (by simp) _ | with_reducible refine Below.alloc ?_ (by simp <;> omega) _ | with_reducible refine Below.drew ?_))⟩
    · have hz : ((nm j).toList == (nm k).toList) = false := by rw [nm_toList, nm_toList]; exact nmL_ne j (by omega) k hk hjk
      have hjk2 : j + 1 ≤ k := by omega
      clear hjk
      go_wp2_with fail
      go_roundw
      case rel => exact ⟨j + 1, hjk2, by go_num, B8⟩
      case measure => simp [intOf]; omega
end Go.Proofs.Yteijgmaggmhggaa

/- The walks of the edges' numbers, Has, Legal, All (the document's answer). Conditions: none but those that each theorem names. -/
import Derived.Test.YteijgmaggmhggaaE3
namespace Go.Proofs.Yteijgmaggmhggaa
open Go.RowKit
set_option linter.unusedVariables false

attribute [local go_sem high] eqE neqE

set_option maxHeartbeats 1600000 in
theorem refEight (kind fence : Int) (n : Nat) (h : n < 8) (w : World) : Calls Try.prog 66 #[.int .i64 kind, .int .i64 fence, .int .i64 n] w
    (Ret w (vE ⟨kind, false, decide (4 ≤ (n : Int)), if 2 ≤ n % 4 then 2 else 1, if n % 2 = 1 then 2 else 1, fence⟩)) := by
  by_cases h1 : 2 ≤ n % 4 <;> by_cases h2 : n % 2 = 1
  all_goals
    simp only [h1, h2, if_true, if_false]
    first
      | have h3 : decide (2 ≤ (n : Int) % 4) = true := by simp; omega
      | have h3 : decide (2 ≤ (n : Int) % 4) = false := by simp; omega
    first
      | have h4 : ((n : Int) % 2 == 1) = true := by simp; omega
      | have h4 : ((n : Int) % 2 == 1) = false := by simp; omega
    clear h1 h2
    go_enter Try.func66, Try.ntmps66
    go_wp2
    exact bodyPost_ret (by simp [results, Try.results66, go_sem]) rfl ⟨rfl, (by repeat (first | with_reducible assumption | with_reducible exact Below.refl _ _ | with_reducible refine Below.setCell ?_ (Nat.le_refl _) _ | with_reducible refine Below.setCell ?_ (by simp) _ | with_reducible refine Below.alloc ?_ (Nat.le_refl _) _ | with_reducible refine Below.alloc ?_ (by simp) _ | with_reducible refine Below.alloc ?_ (by simp <;> omega) _ | with_reducible refine Below.drew ?_))⟩
set_option maxHeartbeats 1600000 in
theorem refComm (c : Nat) (h : c < 6) (w : World) : Calls Try.prog 65 #[.int .i64 c] w (Ret w (vE (ofCode c))) := by
  have : c = 0 ∨ c = 1 ∨ c = 2 ∨ c = 3 ∨ c = 4 ∨ c = 5 := by omega
  rcases this with rfl | rfl | rfl | rfl | rfl | rfl
  all_goals
    go_enter Try.func65, Try.ntmps65
    go_wp2
    exact bodyPost_ret (v := vE (ofCode _)) (by simp [results, Try.results65, go_sem]; decide) rfl ⟨rfl, (by repeat (first | with_reducible assumption | with_reducible exact Below.refl _ _ | with_reducible refine Below.setCell ?_ (Nat.le_refl _) _ | with_reducible refine Below.setCell ?_ (by simp) _ | with_reducible refine Below.alloc ?_ (Nat.le_refl _) _ | with_reducible refine Below.alloc ?_ (by simp) _ | with_reducible refine Below.alloc ?_ (by simp <;> omega) _ | with_reducible refine Below.drew ?_))⟩
set_option maxHeartbeats 1600000 in
theorem refDep (kind : Int) (n : Nat) (h : n < 8) (w : World) : Calls Try.prog 67 #[.int .i64 kind, .int .i64 n] w
    (Ret w (vE ⟨kind, false, decide (2 ≤ (n : Int)), 1, if n % 2 = 1 then 2 else 1, 0⟩)) := by
  by_cases h2 : n % 2 = 1
  all_goals
    simp only [h2, if_true, if_false]
    first
      | have h4 : ((n : Int) % 2 == 1) = true := by simp; omega
      | have h4 : ((n : Int) % 2 == 1) = false := by simp; omega
    clear h2
    go_enter Try.func67, Try.ntmps67
    go_wp2
    exact bodyPost_ret (by simp [results, Try.results67, go_sem]) rfl ⟨rfl, (by repeat (first | with_reducible assumption | with_reducible exact Below.refl _ _ | with_reducible refine Below.setCell ?_ (Nat.le_refl _) _ | with_reducible refine Below.setCell ?_ (by simp) _ | with_reducible refine Below.alloc ?_ (Nat.le_refl _) _ | with_reducible refine Below.alloc ?_ (by simp) _ | with_reducible refine Below.alloc ?_ (by simp <;> omega) _ | with_reducible refine Below.drew ?_))⟩
end Go.Proofs.Yteijgmaggmhggaa

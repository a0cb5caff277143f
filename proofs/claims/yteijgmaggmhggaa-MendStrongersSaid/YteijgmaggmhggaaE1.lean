/- The walks of the edges' numbers (the program's). Conditions: none but those that each theorem names. -/
import Derived.Test.YteijgmaggmhggaaLibE
namespace Go.Proofs.Yteijgmaggmhggaa
open Go.RowKit
set_option linter.unusedVariables false


set_option maxHeartbeats 1600000 in
theorem progMade_lo (c : Nat) (h : c < 6) (w : World) : Calls Try.prog 52 #[.int .i64 c] w (Ret w (vE (ofCode c))) := by
  have : c = 0 ∨ c = 1 ∨ c = 2 ∨ c = 3 ∨ c = 4 ∨ c = 5 := by omega
  rcases this with rfl | rfl | rfl | rfl | rfl | rfl
  all_goals
    go_enter Try.func52, Try.ntmps52
    go_wp2
    exact bodyPost_ret (v := vE (ofCode _)) (by simp [results, Try.results52, go_sem]; decide) rfl ⟨rfl, (by repeat (first | with_reducible assumption | with_reducible exact Below.refl _ _ | with_reducible refine Below.setCell ?_ (Nat.le_refl _) _ | with_reducible refine Below.setCell ?_ (by simp) _ | with_reducible refine Below.alloc ?_ (Nat.le_refl _) _ | with_reducible refine Below.alloc ?_ (by simp) _ | with_reducible refine Below.alloc ?_ (by simp <;> omega) _ | with_reducible refine Below.drew ?_))⟩
set_option maxHeartbeats 1600000 in
theorem progMade_hi (c : Nat) (h1 : 102 ≤ c) (h2 : c < 112) (w : World) : Calls Try.prog 52 #[.int .i64 c] w (Ret w (vE (ofCode c))) := by
  have : c = 102 ∨ c = 103 ∨ c = 104 ∨ c = 105 ∨ c = 106 ∨ c = 107 ∨ c = 108 ∨ c = 109 ∨ c = 110 ∨ c = 111 := by omega
  rcases this with rfl | rfl | rfl | rfl | rfl | rfl | rfl | rfl | rfl | rfl
  all_goals
    go_enter Try.func52, Try.ntmps52
    go_wp2
    exact bodyPost_ret (v := vE (ofCode _)) (by simp [results, Try.results52, go_sem]; decide) rfl ⟨rfl, (by repeat (first | with_reducible assumption | with_reducible exact Below.refl _ _ | with_reducible refine Below.setCell ?_ (Nat.le_refl _) _ | with_reducible refine Below.setCell ?_ (by simp) _ | with_reducible refine Below.alloc ?_ (Nat.le_refl _) _ | with_reducible refine Below.alloc ?_ (by simp) _ | with_reducible refine Below.alloc ?_ (by simp <;> omega) _ | with_reducible refine Below.drew ?_))⟩
set_option maxHeartbeats 1600000 in
theorem progMade_po (d : Nat) (h : d < 8) (w : World) : Calls Try.prog 52 #[.int .i64 ((d + 6 : Nat) : Int)] w (Ret w (vE (ofCode (d + 6)))) := by
  have e : ofCode (d + 6) = ⟨4, false, decide (4 ≤ (d : Int) % 8), 1 + (d : Int) % 8 % 4 / 2, 1 + (d : Int) % 8 % 2, 0⟩ := by
    unfold ofCode
    rw [if_neg (by omega), if_pos (by omega), if_pos (by omega)]
    simp; omega
  rw [e]
  have z1 : decide ((d : Int) + 6 < 6) = false := by simp; omega
  have z2 : (d : Int) / 8 = 0 := by omega
  have z3 : d / 8 = 0 := by omega
  clear e
  go_enter Try.func52, Try.ntmps52
  go_wp2
  exact bodyPost_ret (by simp [results, Try.results52, go_sem]) rfl ⟨rfl, (by repeat (first | with_reducible assumption | with_reducible exact Below.refl _ _ | with_reducible refine Below.setCell ?_ (Nat.le_refl _) _ | with_reducible refine Below.setCell ?_ (by simp) _ | with_reducible refine Below.alloc ?_ (Nat.le_refl _) _ | with_reducible refine Below.alloc ?_ (by simp) _ | with_reducible refine Below.alloc ?_ (by simp <;> omega) _ | with_reducible refine Below.drew ?_))⟩
set_option maxHeartbeats 1600000 in
theorem progMade_fence (d : Nat) (h0 : 8 ≤ d) (h : d < 96) (w : World) : Calls Try.prog 52 #[.int .i64 ((d + 6 : Nat) : Int)] w (Ret w (vE (ofCode (d + 6)))) := by
  have e : ofCode (d + 6) = ⟨5, false, decide (4 ≤ (d : Int) % 8), 1 + (d : Int) % 8 % 4 / 2, 1 + (d : Int) % 8 % 2, (d : Int) / 8⟩ := by
    unfold ofCode
    rw [if_neg (by omega), if_pos (by omega), if_neg (by omega)]
    simp; omega
  rw [e]
  have z1 : decide ((d : Int) + 6 < 6) = false := by simp; omega
  have z2 : 0 < (d : Int) / 8 := by omega
  clear e
  go_enter Try.func52, Try.ntmps52
  go_wp2
  exact bodyPost_ret (by simp [results, Try.results52, go_sem]) rfl ⟨rfl, (by repeat (first | with_reducible assumption | with_reducible exact Below.refl _ _ | with_reducible refine Below.setCell ?_ (Nat.le_refl _) _ | with_reducible refine Below.setCell ?_ (by simp) _ | with_reducible refine Below.alloc ?_ (Nat.le_refl _) _ | with_reducible refine Below.alloc ?_ (by simp) _ | with_reducible refine Below.alloc ?_ (by simp <;> omega) _ | with_reducible refine Below.drew ?_))⟩
theorem progMade (c : Nat) (h : c < 112) (w : World) : Calls Try.prog 52 #[.int .i64 c] w (Ret w (vE (ofCode c))) := by
  by_cases h1 : c < 6
  · exact progMade_lo c h1 w
  · by_cases h2 : c < 102
    · obtain ⟨d, rfl⟩ : ∃ d, c = d + 6 := ⟨c - 6, by omega⟩
      by_cases h3 : d < 8
      · exact progMade_po d h3 w
      · exact progMade_fence d (by omega) (by omega) w
    · exact progMade_hi c (by omega) h w
end Go.Proofs.Yteijgmaggmhggaa

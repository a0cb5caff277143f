/- The walks of Of, Code, Check, Has, Legal, All (the document's answer). Conditions: none but those that each theorem names. -/
import Derived.Test.YteijgmaggmhggaaE4
namespace Go.Proofs.Yteijgmaggmhggaa
open Go.RowKit
set_option linter.unusedVariables false

attribute [local go_sem high] eqE neqE

/-- a block of six cells that the call has made, to be written over -/
theorem fresh6 {w w7 : World} {t : TypeId} {v0 v1 v2 v3 v4 v5 : Value} (E : Below (w.alloc (.cells #[v0, v1, v2, v3, v4, v5] t)).heap.size (w.alloc (.cells #[v0, v1, v2, v3, v4, v5] t)) w7) :
    (w7.cell? ⟨w.heap.size, 0, none⟩ = some v0 ∧ w7.cell? ⟨w.heap.size, 1, none⟩ = some v1 ∧ w7.cell? ⟨w.heap.size, 2, none⟩ = some v2 ∧ w7.cell? ⟨w.heap.size, 3, none⟩ = some v3 ∧ w7.cell? ⟨w.heap.size, 4, none⟩ = some v4 ∧ w7.cell? ⟨w.heap.size, 5, none⟩ = some v5) ∧
    (∀ i, w7.frozen? ⟨w.heap.size, i, none⟩ = false) ∧ Below w.heap.size w w7 := by
  have hh : w7.heap[w.heap.size]? = some (.cells #[v0, v1, v2, v3, v4, v5] t (0, 0)) := by rw [E.block w.heap.size (by simp)]; exact heap_alloc_new w _
  refine ⟨⟨?_, ?_, ?_, ?_, ?_, ?_⟩, fun i => by simp [World.frozen?, hh], (al w _).trans (E.mono (by simp))⟩
  all_goals simp [World.cell?, hh]

set_option maxRecDepth 100000 in
set_option maxHeartbeats 1600000 in
theorem refOf_lo (c : Nat) (h : c < 6) (w : World) : Calls Try.prog 59 #[.int .i64 c] w (Ret w (.tuple #[vE (ofCode c), .int .i64 0])) := by
  go_enter Try.func59, Try.ntmps59
  go_wp2_with fail
  refine (refComm c h _).mono ?_
  rintro e' w7 ⟨rfl, E7⟩
  obtain ⟨⟨c0, c1, c2, c3, c4, c5⟩, hf, B⟩ := fresh6 E7
  go_wp2
  refine bodyPost_ret (by simp [results, Try.results59, go_sem, c0, c1, c2, c3, c4, c5]) rfl ⟨rfl, (by repeat (first | with_reducible assumption | with_reducible exact Below.refl _ _ | with_reducible refine Below.setCell ?_ (Nat.le_refl _) _ | with_reducible refine Below.setCell ?_ (by simp) _ | with_reducible refine Below.alloc ?_ (Nat.le_refl _) _ | with_reducible refine Below.alloc ?_ (by simp) _ | with_reducible refine Below.alloc ?_ (by simp <;> omega) _ | with_reducible refine Below.drew ?_))⟩
theorem of_po : ∀ d, d < 8 → ofCode (d + 6) = ⟨4, false, decide (4 ≤ (d : Int)), if 2 ≤ d % 4 then 2 else 1, if d % 2 = 1 then 2 else 1, 0⟩ := by decide +kernel
theorem of_fence : ∀ d, d < 88 → ofCode (d + 14) = ⟨5, false, decide (4 ≤ ((d % 8 : Nat) : Int)), if 2 ≤ d % 8 % 4 then 2 else 1, if d % 8 % 2 = 1 then 2 else 1, 1 + (d : Int) / 8⟩ := by decide +kernel
theorem of_addr : ∀ d, d < 4 → ofCode (d + 102) = ⟨6, false, decide (2 ≤ (d : Int)), 1, if d % 2 = 1 then 2 else 1, 0⟩ := by decide +kernel
theorem of_ctrl : ∀ d, d < 4 → ofCode (d + 108) = ⟨8, false, decide (2 ≤ (d : Int)), 1, if d % 2 = 1 then 2 else 1, 0⟩ := by decide +kernel
set_option maxRecDepth 100000 in
set_option maxHeartbeats 1600000 in
theorem refOf_po (d : Nat) (h : d < 8) (w : World) : Calls Try.prog 59 #[.int .i64 ((d + 6 : Nat) : Int)] w (Ret w (.tuple #[vE (ofCode (d + 6)), .int .i64 0])) := by
  have e := hid (of_po d h)
  have z1 : decide ((d : Int) + 6 < 0) = false := by simp; omega
  have z2 : decide (112 ≤ (d : Int) + 6) = false := by simp; omega
  have z3 : decide ((d : Int) + 6 < 6) = false := by simp; omega
  go_enter Try.func59, Try.ntmps59
  go_wp2_with fail
  refine (refEight 4 0 d h _).mono ?_
  rw [← e.out]
  clear z1 z2 z3
  rintro e' w7 ⟨rfl, E7⟩
  obtain ⟨⟨c0, c1, c2, c3, c4, c5⟩, hf, B⟩ := fresh6 E7
  go_wp2
  refine bodyPost_ret (by simp [results, Try.results59, go_sem, c0, c1, c2, c3, c4, c5]) rfl ⟨rfl, (by repeat (first | with_reducible assumption | with_reducible exact Below.refl _ _ | with_reducible refine Below.setCell ?_ (Nat.le_refl _) _ | with_reducible refine Below.setCell ?_ (by simp) _ | with_reducible refine Below.alloc ?_ (Nat.le_refl _) _ | with_reducible refine Below.alloc ?_ (by simp) _ | with_reducible refine Below.alloc ?_ (by simp <;> omega) _ | with_reducible refine Below.drew ?_))⟩
set_option maxRecDepth 100000 in
set_option maxHeartbeats 1600000 in
theorem refOf_fence (d : Nat) (h : d < 88) (w : World) : Calls Try.prog 59 #[.int .i64 ((d + 14 : Nat) : Int)] w (Ret w (.tuple #[vE (ofCode (d + 14)), .int .i64 0])) := by
  have e := hid (of_fence d h)
  have z1 : decide ((d : Int) + 14 < 0) = false := by simp; omega
  have z2 : decide (112 ≤ (d : Int) + 14) = false := by simp; omega
  have z3 : decide ((d : Int) + 14 < 6) = false := by simp; omega
  have z4 : decide ((d : Int) + 14 < 14) = false := by simp; omega
  go_enter Try.func59, Try.ntmps59
  go_wp2_with fail
  refine (refEight 5 (1 + (d : Int) / 8) (d % 8) (by omega) _).mono ?_
  rw [← e.out]
  clear z1 z2 z3 z4
  rintro e' w7 ⟨rfl, E7⟩
  obtain ⟨⟨c0, c1, c2, c3, c4, c5⟩, hf, B⟩ := fresh6 E7
  go_wp2
  refine bodyPost_ret (by simp [results, Try.results59, go_sem, c0, c1, c2, c3, c4, c5]) rfl ⟨rfl, (by repeat (first | with_reducible assumption | with_reducible exact Below.refl _ _ | with_reducible refine Below.setCell ?_ (Nat.le_refl _) _ | with_reducible refine Below.setCell ?_ (by simp) _ | with_reducible refine Below.alloc ?_ (Nat.le_refl _) _ | with_reducible refine Below.alloc ?_ (by simp) _ | with_reducible refine Below.alloc ?_ (by simp <;> omega) _ | with_reducible refine Below.drew ?_))⟩
set_option maxRecDepth 100000 in
set_option maxHeartbeats 1600000 in
theorem refOf_data (c : Nat) (h : c = 106 ∨ c = 107) (w : World) : Calls Try.prog 59 #[.int .i64 c] w (Ret w (.tuple #[vE (ofCode c), .int .i64 0])) := by
  rcases h with rfl | rfl
  all_goals
    go_enter Try.func59, Try.ntmps59
    go_wp2
    refine bodyPost_ret (v := .tuple #[vE (ofCode _), .int .i64 0]) (by simp [results, Try.results59, go_sem]; decide) rfl ⟨rfl, (by repeat (first | with_reducible assumption | with_reducible exact Below.refl _ _ | with_reducible refine Below.setCell ?_ (Nat.le_refl _) _ | with_reducible refine Below.setCell ?_ (by simp) _ | with_reducible refine Below.alloc ?_ (Nat.le_refl _) _ | with_reducible refine Below.alloc ?_ (by simp) _ | with_reducible refine Below.alloc ?_ (by simp <;> omega) _ | with_reducible refine Below.drew ?_))⟩
set_option maxRecDepth 100000 in
set_option maxHeartbeats 1600000 in
theorem refOf_addr (d : Nat) (h : d < 4) (w : World) : Calls Try.prog 59 #[.int .i64 ((d + 102 : Nat) : Int)] w (Ret w (.tuple #[vE (ofCode (d + 102)), .int .i64 0])) := by
  have e := hid (of_addr d h)
  have z1 : decide ((d : Int) + 102 < 0) = false := by simp; omega
  have z2 : decide (112 ≤ (d : Int) + 102) = false := by simp; omega
  have z3 : ((d : Int) + 102 == 106) = false := by simp; omega
  have z4 : ((d : Int) + 102 == 107) = false := by simp; omega
  go_enter Try.func59, Try.ntmps59
  go_wp2_with fail
  refine (refDep 6 d (by omega) _).mono ?_
  rw [← e.out]
  clear z1 z2 z3 z4
  rintro e' w7 ⟨rfl, E7⟩
  obtain ⟨⟨c0, c1, c2, c3, c4, c5⟩, hf, B⟩ := fresh6 E7
  go_wp2
  refine bodyPost_ret (by simp [results, Try.results59, go_sem, c0, c1, c2, c3, c4, c5]) rfl ⟨rfl, (by repeat (first | with_reducible assumption | with_reducible exact Below.refl _ _ | with_reducible refine Below.setCell ?_ (Nat.le_refl _) _ | with_reducible refine Below.setCell ?_ (by simp) _ | with_reducible refine Below.alloc ?_ (Nat.le_refl _) _ | with_reducible refine Below.alloc ?_ (by simp) _ | with_reducible refine Below.alloc ?_ (by simp <;> omega) _ | with_reducible refine Below.drew ?_))⟩
set_option maxRecDepth 100000 in
set_option maxHeartbeats 1600000 in
theorem refOf_ctrl (d : Nat) (h : d < 4) (w : World) : Calls Try.prog 59 #[.int .i64 ((d + 108 : Nat) : Int)] w (Ret w (.tuple #[vE (ofCode (d + 108)), .int .i64 0])) := by
  have e := hid (of_ctrl d h)
  have z1 : decide ((d : Int) + 108 < 0) = false := by simp; omega
  have z2 : decide (112 ≤ (d : Int) + 108) = false := by simp; omega
  have z3 : ((d : Int) + 108 == 106) = false := by simp; omega
  have z4 : ((d : Int) + 108 == 107) = false := by simp; omega
  go_enter Try.func59, Try.ntmps59
  go_wp2_with fail
  refine (refDep 8 d (by omega) _).mono ?_
  rw [← e.out]
  clear z1 z2 z3 z4
  rintro e' w7 ⟨rfl, E7⟩
  obtain ⟨⟨c0, c1, c2, c3, c4, c5⟩, hf, B⟩ := fresh6 E7
  go_wp2
  refine bodyPost_ret (by simp [results, Try.results59, go_sem, c0, c1, c2, c3, c4, c5]) rfl ⟨rfl, (by repeat (first | with_reducible assumption | with_reducible exact Below.refl _ _ | with_reducible refine Below.setCell ?_ (Nat.le_refl _) _ | with_reducible refine Below.setCell ?_ (by simp) _ | with_reducible refine Below.alloc ?_ (Nat.le_refl _) _ | with_reducible refine Below.alloc ?_ (by simp) _ | with_reducible refine Below.alloc ?_ (by simp <;> omega) _ | with_reducible refine Below.drew ?_))⟩
theorem refOf (c : Nat) (h : c < 112) (w : World) : Calls Try.prog 59 #[.int .i64 c] w (Ret w (.tuple #[vE (ofCode c), .int .i64 0])) := by
  by_cases h1 : c < 6
  · exact refOf_lo c h1 w
  · by_cases h2 : c < 14
    · obtain ⟨d, rfl⟩ : ∃ d, c = d + 6 := ⟨c - 6, by omega⟩
      exact refOf_po d (by omega) w
    · by_cases h3 : c < 102
      · obtain ⟨d, rfl⟩ : ∃ d, c = d + 14 := ⟨c - 14, by omega⟩
        exact refOf_fence d (by omega) w
      · by_cases h4 : c < 106
        · obtain ⟨d, rfl⟩ : ∃ d, c = d + 102 := ⟨c - 102, by omega⟩
          exact refOf_addr d (by omega) w
        · by_cases h5 : c < 108
          · exact refOf_data c (by omega) w
          · obtain ⟨d, rfl⟩ : ∃ d, c = d + 108 := ⟨c - 108, by omega⟩
            exact refOf_ctrl d (by omega) w
end Go.Proofs.Yteijgmaggmhggaa

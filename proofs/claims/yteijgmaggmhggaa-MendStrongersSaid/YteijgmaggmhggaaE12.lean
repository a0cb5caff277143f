/- The walks of Orders, comm, orders (the document's answer). Conditions: the directions are read or write. -/
import Derived.Test.YteijgmaggmhggaaE8
namespace Go.Proofs.Yteijgmaggmhggaa
open Go.RowKit
set_option linter.unusedVariables false

attribute [local go_sem high] eqE neqE

set_option maxRecDepth 100000 in
set_option maxHeartbeats 3200000 in
theorem refOrders15 (f a b : Int) (ha : a = 1 ∨ a = 2) (hb : b = 1 ∨ b = 2) (w : World) : Calls Try.prog 62 #[.int .i64 f, .int .i64 a, .int .i64 b] w fun e w' => e = .returned (.bool (ordersF f a b)) ∧ w = w' := by
  by_cases h1 : f = 1
  · subst h1
    rcases ha with rfl | rfl <;> rcases hb with rfl | rfl
    all_goals
      go_enter Try.func62, Try.ntmps62
      go_wp2
      go_ret
      exact ⟨rfl, rfl⟩
  · have g1 : (f == 1) = false := by simp [h1]
    by_cases h2 : f = 2
    · subst h2
      rcases ha with rfl | rfl <;> rcases hb with rfl | rfl
      all_goals
        go_enter Try.func62, Try.ntmps62
        go_wp2
        go_ret
        exact ⟨rfl, rfl⟩
    · have g2 : (f == 2) = false := by simp [h2]
      by_cases h3 : f < 3 ∨ 11 < f
      · have e : ordersF f a b = false := by
          unfold ordersF
          rw [if_neg (by omega), if_neg h1, if_neg h2, if_pos h3]
        rw [e]; clear e
        have g3 : (decide (f < 3) || decide (11 < f)) = true := by simpa using h3
        by_cases h4 : f < 3
        · have g4 : decide (f < 3) = true := by simp [h4]
          clear h1 h2 h3 h4
          rcases ha with rfl | rfl <;> rcases hb with rfl | rfl
          all_goals
            go_enter Try.func62, Try.ntmps62
            go_wp2
            go_ret
            exact ⟨rfl, rfl⟩
        · have g4 : decide (f < 3) = false := by simp; omega
          have g5 : decide (11 < f) = true := by simp; omega
          clear h1 h2 h3 h4
          rcases ha with rfl | rfl <;> rcases hb with rfl | rfl
          all_goals
            go_enter Try.func62, Try.ntmps62
            go_wp2
            go_ret
            exact ⟨rfl, rfl⟩
      · have e : ordersF f a b = (partOf ((f - 3) / 3) a && partOf ((f - 3) % 3) b) := by
          unfold ordersF
          rw [if_neg (by omega), if_neg h1, if_neg h2, if_neg h3]
        rw [e]; clear e
        have g4 : decide (f < 3) = false := by simp; omega
        have g5 : decide (11 < f) = false := by simp; omega
        have b1 : 3 ≤ f := by omega
        have b2 : f ≤ 11 := by omega
        clear h1 h2 h3
        cases hp : partOf ((f - 3) / 3) a
        · have HP := hid hp
          clear hp
          rcases ha with rfl | rfl <;> rcases hb with rfl | rfl
          all_goals
            go_enter Try.func62, Try.ntmps62
            go_wp2_with (go_at_call 71; refine (refPart _ _ (by omega) _).mono ?_; rintro e' w7 ⟨rfl, rfl⟩; rw [HP.out])
            go_ret
            exact ⟨rfl, rfl⟩
        · have HP := hid hp
          clear hp
          rcases ha with rfl | rfl <;> rcases hb with rfl | rfl
          all_goals
            go_enter Try.func62, Try.ntmps62
            go_wp2_with (go_at_call 71; refine (refPart _ _ (by omega) _).mono ?_; rintro e' w7 ⟨rfl, rfl⟩; try rw [HP.out])
            go_ret
            exact ⟨by simp, rfl⟩

theorem refComm26 (e : Edge) (w : World) : Calls Try.prog 47 #[vE e] w (Ret w (.bool (commE e))) := by
  by_cases h1 : e.kind = 1
  · have g : commE e = true := by unfold commE; simp [h1]
    rw [g]; clear g
    have x1 : (e.kind == 1) = true := by simp [h1]
    clear h1
    go_enter Try.func47, Try.ntmps47
    go_wp2_with fail
    go_ret
    exact ⟨rfl, (by repeat (first | with_reducible assumption | with_reducible exact Below.refl _ _ | with_reducible refine Below.setCell ?_ (Nat.le_refl _) _ | with_reducible refine Below.setCell ?_ (by simp) _ | with_reducible refine Below.alloc ?_ (Nat.le_refl _) _ | with_reducible refine Below.alloc ?_ (by simp) _ | with_reducible refine Below.alloc ?_ (by simp <;> omega) _ | with_reducible refine Below.drew ?_))⟩
  · have x1 : (e.kind == 1) = false := by simp [h1]
    by_cases h2 : e.kind = 2
    · have g : commE e = true := by unfold commE; simp [h2]
      rw [g]; clear g
      have x2 : (e.kind == 2) = true := by simp [h2]
      clear h1 h2
      go_enter Try.func47, Try.ntmps47
      go_wp2_with fail
      go_ret
      exact ⟨rfl, (by repeat (first | with_reducible assumption | with_reducible exact Below.refl _ _ | with_reducible refine Below.setCell ?_ (Nat.le_refl _) _ | with_reducible refine Below.setCell ?_ (by simp) _ | with_reducible refine Below.alloc ?_ (Nat.le_refl _) _ | with_reducible refine Below.alloc ?_ (by simp) _ | with_reducible refine Below.alloc ?_ (by simp <;> omega) _ | with_reducible refine Below.drew ?_))⟩
    · have x2 : (e.kind == 2) = false := by simp [h2]
      have g : commE e = (e.kind == 3) := by unfold commE; rw [x1, x2]; simp
      rw [g]; clear g h1 h2
      go_enter Try.func47, Try.ntmps47
      go_wp2_with fail
      go_ret
      exact ⟨rfl, (by repeat (first | with_reducible assumption | with_reducible exact Below.refl _ _ | with_reducible refine Below.setCell ?_ (Nat.le_refl _) _ | with_reducible refine Below.setCell ?_ (by simp) _ | with_reducible refine Below.alloc ?_ (Nat.le_refl _) _ | with_reducible refine Below.alloc ?_ (by simp) _ | with_reducible refine Below.alloc ?_ (by simp <;> omega) _ | with_reducible refine Below.drew ?_))⟩
theorem refOrders26 (f : Edge) (a b : Int) (ha : a = 1 ∨ a = 2) (hb : b = 1 ∨ b = 2) (w : World) : Calls Try.prog 48 #[vE f, .int .i64 a, .int .i64 b] w (Ret w (.bool (ordersE f a b))) := by
  by_cases h5 : f.kind = 5
  · have g5 : (f.kind == 5) = true := by simp [h5]
    have e : ordersE f a b = ordersF f.fence a b := by unfold ordersE; rw [g5]; simp
    rw [e]; clear e h5
    go_enter Try.func48, Try.ntmps48
    go_wp2_with (go_at_call 62; refine (refOrders15 _ _ _ ha hb _).mono ?_; rintro e' w7 ⟨rfl, rfl⟩)
    go_ret
    exact ⟨rfl, (by repeat (first | with_reducible assumption | with_reducible exact Below.refl _ _ | with_reducible refine Below.setCell ?_ (Nat.le_refl _) _ | with_reducible refine Below.setCell ?_ (by simp) _ | with_reducible refine Below.alloc ?_ (Nat.le_refl _) _ | with_reducible refine Below.alloc ?_ (by simp) _ | with_reducible refine Below.alloc ?_ (by simp <;> omega) _ | with_reducible refine Below.drew ?_))⟩
  · have g5 : (f.kind == 5) = false := by simp [h5]
    have e : ordersE f a b = false := by unfold ordersE; rw [g5]; simp
    rw [e]; clear e h5
    go_enter Try.func48, Try.ntmps48
    go_wp2_with fail
    go_ret
    exact ⟨rfl, (by repeat (first | with_reducible assumption | with_reducible exact Below.refl _ _ | with_reducible refine Below.setCell ?_ (Nat.le_refl _) _ | with_reducible refine Below.setCell ?_ (by simp) _ | with_reducible refine Below.alloc ?_ (Nat.le_refl _) _ | with_reducible refine Below.alloc ?_ (by simp) _ | with_reducible refine Below.alloc ?_ (by simp <;> omega) _ | with_reducible refine Below.drew ?_))⟩
end Go.Proofs.Yteijgmaggmhggaa

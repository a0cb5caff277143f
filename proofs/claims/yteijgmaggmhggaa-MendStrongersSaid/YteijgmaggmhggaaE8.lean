/- The walks of what fences order (both). Conditions: the directions are read or write. -/
import Derived.Test.YteijgmaggmhggaaLibE2
namespace Go.Proofs.Yteijgmaggmhggaa
open Go.RowKit
set_option linter.unusedVariables false

theorem progPart (n d : Int) (hd : -1000 ≤ d ∧ d ≤ 1000) (w : World) : Calls Try.prog 70 #[.int .i64 n, .int .i64 d] w fun e w' => e = .returned (.bool (partOf n d)) ∧ w = w' := by
  by_cases h : n = 2
  · subst h
    go_enter Try.func70, Try.ntmps70
    go_wp2
    go_ret
    exact ⟨rfl, rfl⟩
  · have h2 : (n == 2) = false := by simp [h]
    have h3 : partOf n d = (n == d - 1) := by unfold partOf; rw [h2]; simp
    rw [h3]; clear h h3
    go_enter Try.func70, Try.ntmps70
    go_wp2
    go_ret
    exact ⟨rfl, rfl⟩
theorem refPart (n d : Int) (hd : d = 1 ∨ d = 2) (w : World) : Calls Try.prog 71 #[.int .i64 n, .int .i64 d] w fun e w' => e = .returned (.bool (partOf n d)) ∧ w = w' := by
  by_cases h : n = 2
  · subst h
    have h3 : partOf 2 d = true := by unfold partOf; simp
    rw [h3]; clear h3
    go_enter Try.func71, Try.ntmps71
    go_wp2
    go_ret
    exact ⟨rfl, rfl⟩
  · have h2 : (n == 2) = false := by simp [h]
    by_cases h0 : n = 0
    · subst h0
      rcases hd with rfl | rfl
      all_goals
        go_enter Try.func71, Try.ntmps71
        go_wp2
        go_ret
        exact ⟨rfl, rfl⟩
    · have h4 : (n == 0) = false := by simp [h0]
      by_cases h1 : n = 1
      · subst h1
        rcases hd with rfl | rfl
        all_goals
          go_enter Try.func71, Try.ntmps71
          go_wp2
          go_ret
          exact ⟨rfl, rfl⟩
      · have h5 : (n == 1) = false := by simp [h1]
        have h3 : partOf n d = false := by unfold partOf; rw [h2]; simp; omega
        rw [h3]; clear h3 h h0 h1
        go_enter Try.func71, Try.ntmps71
        go_wp2
        go_ret
        exact ⟨rfl, rfl⟩
set_option maxRecDepth 100000 in
set_option maxHeartbeats 3200000 in
theorem progOrders (f a b : Int) (ha : a = 1 ∨ a = 2) (hb : b = 1 ∨ b = 2) (w : World) : Calls Try.prog 61 #[.int .i64 f, .int .i64 a, .int .i64 b] w fun e w' => e = .returned (.bool (ordersF f a b)) ∧ w = w' := by
  by_cases h1 : f = 1
  · subst h1
    rcases ha with rfl | rfl <;> rcases hb with rfl | rfl
    all_goals
      go_enter Try.func61, Try.ntmps61
      go_wp2
      go_ret
      exact ⟨rfl, rfl⟩
  · have g1 : (f == 1) = false := by simp [h1]
    by_cases h2 : f = 2
    · subst h2
      rcases ha with rfl | rfl <;> rcases hb with rfl | rfl
      all_goals
        go_enter Try.func61, Try.ntmps61
        go_wp2
        go_ret
        exact ⟨rfl, rfl⟩
    · have g2 : (f == 2) = false := by simp [h2]
      by_cases h3 : f < 3 ∨ 11 < f
      · have e : ordersF f a b = false := by
          unfold ordersF
          rw [if_neg (by omega), if_neg h1, if_neg h2, if_pos h3]
        rw [e]; clear e
        have g3 : (decide (f < 3) || decide (11 < f)) = true := by simpa using h3
        by_cases h4 : f < 3
        · have g4 : decide (f < 3) = true := by simp [h4]
          clear h1 h2 h3 h4
          rcases ha with rfl | rfl <;> rcases hb with rfl | rfl
          all_goals
            go_enter Try.func61, Try.ntmps61
            go_wp2
            go_ret
            exact ⟨rfl, rfl⟩
        · have g4 : decide (f < 3) = false := by simp; omega
          have g5 : decide (11 < f) = true := by simp; omega
          clear h1 h2 h3 h4
          rcases ha with rfl | rfl <;> rcases hb with rfl | rfl
          all_goals
            go_enter Try.func61, Try.ntmps61
            go_wp2
            go_ret
            exact ⟨rfl, rfl⟩
      · have e : ordersF f a b = (partOf ((f - 3) / 3) a && partOf ((f - 3) % 3) b) := by
          unfold ordersF
          rw [if_neg (by omega), if_neg h1, if_neg h2, if_neg h3]
        rw [e]; clear e
        have g4 : decide (f < 3) = false := by simp; omega
        have g5 : decide (11 < f) = false := by simp; omega
        have b1 : 3 ≤ f := by omega
        have b2 : f ≤ 11 := by omega
        clear h1 h2 h3
        cases hp : partOf ((f - 3) / 3) a
        · have HP := hid hp
          clear hp
          rcases ha with rfl | rfl <;> rcases hb with rfl | rfl
          all_goals
            go_enter Try.func61, Try.ntmps61
            go_wp2_with (go_at_call 70; refine (progPart _ _ (by omega) _).mono ?_; rintro e' w7 ⟨rfl, rfl⟩; rw [HP.out])
            go_ret
            exact ⟨rfl, rfl⟩
        · have HP := hid hp
          clear hp
          rcases ha with rfl | rfl <;> rcases hb with rfl | rfl
          all_goals
            go_enter Try.func61, Try.ntmps61
            go_wp2_with (go_at_call 70; refine (progPart _ _ (by omega) _).mono ?_; rintro e' w7 ⟨rfl, rfl⟩; try rw [HP.out])
            go_ret
            exact ⟨by simp, rfl⟩
end Go.Proofs.Yteijgmaggmhggaa

/- The walks of costs (the program's) and Cost (the document's answer). Conditions: none but those that each theorem names. -/
import Derived.Test.YteijgmaggmhggaaE10
namespace Go.Proofs.Yteijgmaggmhggaa
open Go.RowKit
set_option linter.unusedVariables false

attribute [local go_sem high] eqE neqE

set_option maxRecDepth 100000 in
set_option maxHeartbeats 3200000 in
theorem progCosts (e f : Edge) (w : World) : Calls Try.prog 22 #[vE e, vE f] w (Ret w (.int .i64 (costP e f))) := by
  obtain ⟨r, hr⟩ : ∃ r, costP e f = r := ⟨_, rfl⟩
  rw [hr]
  unfold costP fenceCost at hr
  by_cases h0 : e = f
  · have d0 : decide (e = f) = true := decide_eq_true h0
    rw [if_pos h0] at hr; subst hr; clear h0
    go_enter Try.func22, Try.ntmps22
    go_wp2_with fail
    go_ret
    exact ⟨rfl, (by repeat (first | with_reducible assumption | with_reducible exact Below.refl _ _ | with_reducible refine Below.setCell ?_ (Nat.le_refl _) _ | with_reducible refine Below.setCell ?_ (by simp) _ | with_reducible refine Below.alloc ?_ (Nat.le_refl _) _ | with_reducible refine Below.alloc ?_ (by simp) _ | with_reducible refine Below.alloc ?_ (by simp <;> omega) _ | with_reducible refine Below.drew ?_))⟩
  · have d0 : decide (e = f) = false := decide_eq_false h0
    rw [if_neg h0] at hr; clear h0
    by_cases k8 : f.kind = 8
    · rw [if_pos k8] at hr; subst hr
      have x8 : (f.kind == 8) = true := by simp; omega
      clear k8
      go_enter Try.func22, Try.ntmps22
      go_wp2_with fail
      go_ret
      exact ⟨rfl, (by repeat (first | with_reducible assumption | with_reducible exact Below.refl _ _ | with_reducible refine Below.setCell ?_ (Nat.le_refl _) _ | with_reducible refine Below.setCell ?_ (by simp) _ | with_reducible refine Below.alloc ?_ (Nat.le_refl _) _ | with_reducible refine Below.alloc ?_ (by simp) _ | with_reducible refine Below.alloc ?_ (by simp <;> omega) _ | with_reducible refine Below.drew ?_))⟩
    · rw [if_neg k8] at hr
      have xk8 : (f.kind == 8) = false := by simp; omega
      clear k8
      by_cases k76 : f.kind = 7 ∨ f.kind = 6
      · rw [if_pos k76] at hr; subst hr
        by_cases y7 : f.kind = 7
        · have x7 : (f.kind == 7) = true := by simp [y7]
          clear y7 k76
          go_enter Try.func22, Try.ntmps22
          go_wp2_with fail
          go_ret
          exact ⟨rfl, (by repeat (first | with_reducible assumption | with_reducible exact Below.refl _ _ | with_reducible refine Below.setCell ?_ (Nat.le_refl _) _ | with_reducible refine Below.setCell ?_ (by simp) _ | with_reducible refine Below.alloc ?_ (Nat.le_refl _) _ | with_reducible refine Below.alloc ?_ (by simp) _ | with_reducible refine Below.alloc ?_ (by simp <;> omega) _ | with_reducible refine Below.drew ?_))⟩
        · have x7 : (f.kind == 7) = false := by simp [y7]
          have x6 : (f.kind == 6) = true := by simp; omega
          clear k76 y7
          go_enter Try.func22, Try.ntmps22
          go_wp2_with fail
          go_ret
          exact ⟨rfl, (by repeat (first | with_reducible assumption | with_reducible exact Below.refl _ _ | with_reducible refine Below.setCell ?_ (Nat.le_refl _) _ | with_reducible refine Below.setCell ?_ (by simp) _ | with_reducible refine Below.alloc ?_ (Nat.le_refl _) _ | with_reducible refine Below.alloc ?_ (by simp) _ | with_reducible refine Below.alloc ?_ (by simp <;> omega) _ | with_reducible refine Below.drew ?_))⟩
      · rw [if_neg k76] at hr
        have xk7 : (f.kind == 7) = false := by simp; omega
        have xk6 : (f.kind == 6) = false := by simp; omega
        clear k76
        by_cases k4 : f.kind = 4
        · rw [if_pos k4] at hr; subst hr
          have x4 : (f.kind == 4) = true := by simp; omega
          clear k4
          go_enter Try.func22, Try.ntmps22
          go_wp2_with fail
          go_ret
          exact ⟨rfl, (by repeat (first | with_reducible assumption | with_reducible exact Below.refl _ _ | with_reducible refine Below.setCell ?_ (Nat.le_refl _) _ | with_reducible refine Below.setCell ?_ (by simp) _ | with_reducible refine Below.alloc ?_ (Nat.le_refl _) _ | with_reducible refine Below.alloc ?_ (by simp) _ | with_reducible refine Below.alloc ?_ (by simp <;> omega) _ | with_reducible refine Below.drew ?_))⟩
        · rw [if_neg k4] at hr
          have xk4 : (f.kind == 4) = false := by simp; omega
          clear k4
          by_cases f2 : f.fence = 2
          · rw [if_pos f2] at hr; subst hr
            have x2 : (f.fence == 2) = true := by simp; omega
            clear f2
            go_enter Try.func22, Try.ntmps22
            go_wp2_with fail
            go_ret
            exact ⟨rfl, (by repeat (first | with_reducible assumption | with_reducible exact Below.refl _ _ | with_reducible refine Below.setCell ?_ (Nat.le_refl _) _ | with_reducible refine Below.setCell ?_ (by simp) _ | with_reducible refine Below.alloc ?_ (Nat.le_refl _) _ | with_reducible refine Below.alloc ?_ (by simp) _ | with_reducible refine Below.alloc ?_ (by simp <;> omega) _ | with_reducible refine Below.drew ?_))⟩
          · rw [if_neg f2] at hr
            have xf2 : (f.fence == 2) = false := by simp; omega
            clear f2
            by_cases f1 : f.fence = 1 ∨ f.fence = 11
            · rw [if_pos f1] at hr; subst hr
              by_cases y1 : f.fence = 1
              · have x1 : (f.fence == 1) = true := by simp [y1]
                clear y1 f1
                go_enter Try.func22, Try.ntmps22
                go_wp2_with fail
                go_ret
                exact ⟨rfl, (by repeat (first | with_reducible assumption | with_reducible exact Below.refl _ _ | with_reducible refine Below.setCell ?_ (Nat.le_refl _) _ | with_reducible refine Below.setCell ?_ (by simp) _ | with_reducible refine Below.alloc ?_ (Nat.le_refl _) _ | with_reducible refine Below.alloc ?_ (by simp) _ | with_reducible refine Below.alloc ?_ (by simp <;> omega) _ | with_reducible refine Below.drew ?_))⟩
              · have x1 : (f.fence == 1) = false := by simp [y1]
                have x11 : (f.fence == 11) = true := by simp; omega
                clear f1 y1
                go_enter Try.func22, Try.ntmps22
                go_wp2_with fail
                go_ret
                exact ⟨rfl, (by repeat (first | with_reducible assumption | with_reducible exact Below.refl _ _ | with_reducible refine Below.setCell ?_ (Nat.le_refl _) _ | with_reducible refine Below.setCell ?_ (by simp) _ | with_reducible refine Below.alloc ?_ (Nat.le_refl _) _ | with_reducible refine Below.alloc ?_ (by simp) _ | with_reducible refine Below.alloc ?_ (by simp <;> omega) _ | with_reducible refine Below.drew ?_))⟩
            · rw [if_neg f1] at hr
              have xf1 : (f.fence == 1) = false := by simp; omega
              have xf11 : (f.fence == 11) = false := by simp; omega
              clear f1
              by_cases f5 : f.fence = 5 ∨ f.fence = 8 ∨ f.fence = 9 ∨ f.fence = 10
              · rw [if_pos f5] at hr; subst hr
                by_cases y5 : f.fence = 5
                · have x5 : (f.fence == 5) = true := by simp [y5]
                  clear y5 f5
                  go_enter Try.func22, Try.ntmps22
                  go_wp2_with fail
                  go_ret
                  exact ⟨rfl, (by repeat (first | with_reducible assumption | with_reducible exact Below.refl _ _ | with_reducible refine Below.setCell ?_ (Nat.le_refl _) _ | with_reducible refine Below.setCell ?_ (by simp) _ | with_reducible refine Below.alloc ?_ (Nat.le_refl _) _ | with_reducible refine Below.alloc ?_ (by simp) _ | with_reducible refine Below.alloc ?_ (by simp <;> omega) _ | with_reducible refine Below.drew ?_))⟩
                · have x5 : (f.fence == 5) = false := by simp [y5]
                  by_cases y8 : f.fence = 8
                  · have x8 : (f.fence == 8) = true := by simp [y8]
                    clear y8 f5
                    go_enter Try.func22, Try.ntmps22
                    go_wp2_with fail
                    go_ret
                    exact ⟨rfl, (by repeat (first | with_reducible assumption | with_reducible exact Below.refl _ _ | with_reducible refine Below.setCell ?_ (Nat.le_refl _) _ | with_reducible refine Below.setCell ?_ (by simp) _ | with_reducible refine Below.alloc ?_ (Nat.le_refl _) _ | with_reducible refine Below.alloc ?_ (by simp) _ | with_reducible refine Below.alloc ?_ (by simp <;> omega) _ | with_reducible refine Below.drew ?_))⟩
                  · have x8 : (f.fence == 8) = false := by simp [y8]
                    by_cases y9 : f.fence = 9
                    · have x9 : (f.fence == 9) = true := by simp [y9]
                      clear y9 f5
                      go_enter Try.func22, Try.ntmps22
                      go_wp2_with fail
                      go_ret
                      exact ⟨rfl, (by repeat (first | with_reducible assumption | with_reducible exact Below.refl _ _ | with_reducible refine Below.setCell ?_ (Nat.le_refl _) _ | with_reducible refine Below.setCell ?_ (by simp) _ | with_reducible refine Below.alloc ?_ (Nat.le_refl _) _ | with_reducible refine Below.alloc ?_ (by simp) _ | with_reducible refine Below.alloc ?_ (by simp <;> omega) _ | with_reducible refine Below.drew ?_))⟩
                    · have x9 : (f.fence == 9) = false := by simp [y9]
                      have x10 : (f.fence == 10) = true := by simp; omega
                      clear f5 y5 y8 y9
                      go_enter Try.func22, Try.ntmps22
                      go_wp2_with fail
                      go_ret
                      exact ⟨rfl, (by repeat (first | with_reducible assumption | with_reducible exact Below.refl _ _ | with_reducible refine Below.setCell ?_ (Nat.le_refl _) _ | with_reducible refine Below.setCell ?_ (by simp) _ | with_reducible refine Below.alloc ?_ (Nat.le_refl _) _ | with_reducible refine Below.alloc ?_ (by simp) _ | with_reducible refine Below.alloc ?_ (by simp <;> omega) _ | with_reducible refine Below.drew ?_))⟩
              · rw [if_neg f5] at hr
                have xf5 : (f.fence == 5) = false := by simp; omega
                have xf8 : (f.fence == 8) = false := by simp; omega
                have xf9 : (f.fence == 9) = false := by simp; omega
                have xf10 : (f.fence == 10) = false := by simp; omega
                clear f5
                subst hr
                go_enter Try.func22, Try.ntmps22
                go_wp2_with fail
                go_ret
                exact ⟨rfl, (by repeat (first | with_reducible assumption | with_reducible exact Below.refl _ _ | with_reducible refine Below.setCell ?_ (Nat.le_refl _) _ | with_reducible refine Below.setCell ?_ (by simp) _ | with_reducible refine Below.alloc ?_ (Nat.le_refl _) _ | with_reducible refine Below.alloc ?_ (by simp) _ | with_reducible refine Below.alloc ?_ (by simp <;> omega) _ | with_reducible refine Below.drew ?_))⟩
set_option maxRecDepth 100000 in
set_option maxHeartbeats 3200000 in
theorem refCost (e f : Edge) (w : World) : Calls Try.prog 42 #[vE e, vE f] w (Ret w (.int .i64 (costR e f))) := by
  obtain ⟨r, hr⟩ : ∃ r, costR e f = r := ⟨_, rfl⟩
  rw [hr]
  unfold costR fenceCost at hr
  by_cases h0 : e = f
  · have d0 : decide (e = f) = true := decide_eq_true h0
    rw [if_pos h0] at hr; subst hr; clear h0
    go_enter Try.func42, Try.ntmps42
    go_wp2_with fail
    go_ret
    exact ⟨rfl, (by repeat (first | with_reducible assumption | with_reducible exact Below.refl _ _ | with_reducible refine Below.setCell ?_ (Nat.le_refl _) _ | with_reducible refine Below.setCell ?_ (by simp) _ | with_reducible refine Below.alloc ?_ (Nat.le_refl _) _ | with_reducible refine Below.alloc ?_ (by simp) _ | with_reducible refine Below.alloc ?_ (by simp <;> omega) _ | with_reducible refine Below.drew ?_))⟩
  · have d0 : decide (e = f) = false := decide_eq_false h0
    rw [if_neg h0] at hr; clear h0
    by_cases k8 : f.kind = 8
    · rw [if_pos k8] at hr; subst hr
      have x8 : (f.kind == 8) = true := by simp; omega
      clear k8
      go_enter Try.func42, Try.ntmps42
      go_wp2_with fail
      go_ret
      exact ⟨rfl, (by repeat (first | with_reducible assumption | with_reducible exact Below.refl _ _ | with_reducible refine Below.setCell ?_ (Nat.le_refl _) _ | with_reducible refine Below.setCell ?_ (by simp) _ | with_reducible refine Below.alloc ?_ (Nat.le_refl _) _ | with_reducible refine Below.alloc ?_ (by simp) _ | with_reducible refine Below.alloc ?_ (by simp <;> omega) _ | with_reducible refine Below.drew ?_))⟩
    · rw [if_neg k8] at hr
      have xk8 : (f.kind == 8) = false := by simp; omega
      clear k8
      by_cases k76 : f.kind = 7 ∨ f.kind = 6
      · rw [if_pos k76] at hr; subst hr
        by_cases y7 : f.kind = 7
        · have x7 : (f.kind == 7) = true := by simp [y7]
          clear y7 k76
          go_enter Try.func42, Try.ntmps42
          go_wp2_with fail
          go_ret
          exact ⟨rfl, (by repeat (first | with_reducible assumption | with_reducible exact Below.refl _ _ | with_reducible refine Below.setCell ?_ (Nat.le_refl _) _ | with_reducible refine Below.setCell ?_ (by simp) _ | with_reducible refine Below.alloc ?_ (Nat.le_refl _) _ | with_reducible refine Below.alloc ?_ (by simp) _ | with_reducible refine Below.alloc ?_ (by simp <;> omega) _ | with_reducible refine Below.drew ?_))⟩
        · have x7 : (f.kind == 7) = false := by simp [y7]
          have x6 : (f.kind == 6) = true := by simp; omega
          clear k76 y7
          go_enter Try.func42, Try.ntmps42
          go_wp2_with fail
          go_ret
          exact ⟨rfl, (by repeat (first | with_reducible assumption | with_reducible exact Below.refl _ _ | with_reducible refine Below.setCell ?_ (Nat.le_refl _) _ | with_reducible refine Below.setCell ?_ (by simp) _ | with_reducible refine Below.alloc ?_ (Nat.le_refl _) _ | with_reducible refine Below.alloc ?_ (by simp) _ | with_reducible refine Below.alloc ?_ (by simp <;> omega) _ | with_reducible refine Below.drew ?_))⟩
      · rw [if_neg k76] at hr
        have xk7 : (f.kind == 7) = false := by simp; omega
        have xk6 : (f.kind == 6) = false := by simp; omega
        clear k76
        by_cases f2 : f.fence = 2
        · rw [if_pos f2] at hr; subst hr
          have x2 : (f.fence == 2) = true := by simp; omega
          clear f2
          go_enter Try.func42, Try.ntmps42
          go_wp2_with fail
          go_ret
          exact ⟨rfl, (by repeat (first | with_reducible assumption | with_reducible exact Below.refl _ _ | with_reducible refine Below.setCell ?_ (Nat.le_refl _) _ | with_reducible refine Below.setCell ?_ (by simp) _ | with_reducible refine Below.alloc ?_ (Nat.le_refl _) _ | with_reducible refine Below.alloc ?_ (by simp) _ | with_reducible refine Below.alloc ?_ (by simp <;> omega) _ | with_reducible refine Below.drew ?_))⟩
        · rw [if_neg f2] at hr
          have xf2 : (f.fence == 2) = false := by simp; omega
          clear f2
          by_cases f1 : f.fence = 1 ∨ f.fence = 11
          · rw [if_pos f1] at hr; subst hr
            by_cases y1 : f.fence = 1
            · have x1 : (f.fence == 1) = true := by simp [y1]
              clear y1 f1
              go_enter Try.func42, Try.ntmps42
              go_wp2_with fail
              go_ret
              exact ⟨rfl, (by repeat (first | with_reducible assumption | with_reducible exact Below.refl _ _ | with_reducible refine Below.setCell ?_ (Nat.le_refl _) _ | with_reducible refine Below.setCell ?_ (by simp) _ | with_reducible refine Below.alloc ?_ (Nat.le_refl _) _ | with_reducible refine Below.alloc ?_ (by simp) _ | with_reducible refine Below.alloc ?_ (by simp <;> omega) _ | with_reducible refine Below.drew ?_))⟩
            · have x1 : (f.fence == 1) = false := by simp [y1]
              have x11 : (f.fence == 11) = true := by simp; omega
              clear f1 y1
              go_enter Try.func42, Try.ntmps42
              go_wp2_with fail
              go_ret
              exact ⟨rfl, (by repeat (first | with_reducible assumption | with_reducible exact Below.refl _ _ | with_reducible refine Below.setCell ?_ (Nat.le_refl _) _ | with_reducible refine Below.setCell ?_ (by simp) _ | with_reducible refine Below.alloc ?_ (Nat.le_refl _) _ | with_reducible refine Below.alloc ?_ (by simp) _ | with_reducible refine Below.alloc ?_ (by simp <;> omega) _ | with_reducible refine Below.drew ?_))⟩
          · rw [if_neg f1] at hr
            have xf1 : (f.fence == 1) = false := by simp; omega
            have xf11 : (f.fence == 11) = false := by simp; omega
            clear f1
            by_cases f5 : f.fence = 5 ∨ f.fence = 8 ∨ f.fence = 9 ∨ f.fence = 10
            · rw [if_pos f5] at hr; subst hr
              by_cases y5 : f.fence = 5
              · have x5 : (f.fence == 5) = true := by simp [y5]
                clear y5 f5
                go_enter Try.func42, Try.ntmps42
                go_wp2_with fail
                go_ret
                exact ⟨rfl, (by repeat (first | with_reducible assumption | with_reducible exact Below.refl _ _ | with_reducible refine Below.setCell ?_ (Nat.le_refl _) _ | with_reducible refine Below.setCell ?_ (by simp) _ | with_reducible refine Below.alloc ?_ (Nat.le_refl _) _ | with_reducible refine Below.alloc ?_ (by simp) _ | with_reducible refine Below.alloc ?_ (by simp <;> omega) _ | with_reducible refine Below.drew ?_))⟩
              · have x5 : (f.fence == 5) = false := by simp [y5]
                by_cases y8 : f.fence = 8
                · have x8 : (f.fence == 8) = true := by simp [y8]
                  clear y8 f5
                  go_enter Try.func42, Try.ntmps42
                  go_wp2_with fail
                  go_ret
                  exact ⟨rfl, (by repeat (first | with_reducible assumption | with_reducible exact Below.refl _ _ | with_reducible refine Below.setCell ?_ (Nat.le_refl _) _ | with_reducible refine Below.setCell ?_ (by simp) _ | with_reducible refine Below.alloc ?_ (Nat.le_refl _) _ | with_reducible refine Below.alloc ?_ (by simp) _ | with_reducible refine Below.alloc ?_ (by simp <;> omega) _ | with_reducible refine Below.drew ?_))⟩
                · have x8 : (f.fence == 8) = false := by simp [y8]
                  by_cases y9 : f.fence = 9
                  · have x9 : (f.fence == 9) = true := by simp [y9]
                    clear y9 f5
                    go_enter Try.func42, Try.ntmps42
                    go_wp2_with fail
                    go_ret
                    exact ⟨rfl, (by repeat (first | with_reducible assumption | with_reducible exact Below.refl _ _ | with_reducible refine Below.setCell ?_ (Nat.le_refl _) _ | with_reducible refine Below.setCell ?_ (by simp) _ | with_reducible refine Below.alloc ?_ (Nat.le_refl _) _ | with_reducible refine Below.alloc ?_ (by simp) _ | with_reducible refine Below.alloc ?_ (by simp <;> omega) _ | with_reducible refine Below.drew ?_))⟩
                  · have x9 : (f.fence == 9) = false := by simp [y9]
                    have x10 : (f.fence == 10) = true := by simp; omega
                    clear f5 y5 y8 y9
                    go_enter Try.func42, Try.ntmps42
                    go_wp2_with fail
                    go_ret
                    exact ⟨rfl, (by repeat (first | with_reducible assumption | with_reducible exact Below.refl _ _ | with_reducible refine Below.setCell ?_ (Nat.le_refl _) _ | with_reducible refine Below.setCell ?_ (by simp) _ | with_reducible refine Below.alloc ?_ (Nat.le_refl _) _ | with_reducible refine Below.alloc ?_ (by simp) _ | with_reducible refine Below.alloc ?_ (by simp <;> omega) _ | with_reducible refine Below.drew ?_))⟩
            · rw [if_neg f5] at hr
              have xf5 : (f.fence == 5) = false := by simp; omega
              have xf8 : (f.fence == 8) = false := by simp; omega
              have xf9 : (f.fence == 9) = false := by simp; omega
              have xf10 : (f.fence == 10) = false := by simp; omega
              clear f5
              subst hr
              go_enter Try.func42, Try.ntmps42
              go_wp2_with fail
              go_ret
              exact ⟨rfl, (by repeat (first | with_reducible assumption | with_reducible exact Below.refl _ _ | with_reducible refine Below.setCell ?_ (Nat.le_refl _) _ | with_reducible refine Below.setCell ?_ (by simp) _ | with_reducible refine Below.alloc ?_ (Nat.le_refl _) _ | with_reducible refine Below.alloc ?_ (by simp) _ | with_reducible refine Below.alloc ?_ (by simp <;> omega) _ | with_reducible refine Below.drew ?_))⟩
end Go.Proofs.Yteijgmaggmhggaa

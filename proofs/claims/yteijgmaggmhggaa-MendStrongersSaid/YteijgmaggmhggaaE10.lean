/- The walks of may and costs (the program's), May and Cost (the document's answer). Conditions: none but those that each theorem names. -/
import Derived.Test.YteijgmaggmhggaaE9
namespace Go.Proofs.Yteijgmaggmhggaa
open Go.RowKit
set_option linter.unusedVariables false

attribute [local go_sem high] eqE neqE

set_option maxRecDepth 100000 in
set_option maxHeartbeats 3200000 in
theorem progMay (e f : Edge) (w : World) : Calls Try.prog 30 #[vE e, vE f] w (Ret w (.bool (mayP e f))) := by
  have B0 := (al w (.cells #[.int .i64 e.kind, .bool e.ext, .bool e.same, .int .i64 e.src, .int .i64 e.dst, .int .i64 e.fence] 23)).alloc (by simp) (.cells #[.int .i64 f.kind, .bool f.ext, .bool f.same, .int .i64 f.src, .int .i64 f.dst, .int .i64 f.fence] 23)
  have B1 : Below (w.heap.size + 2) _ _ := Below.refl _ ((w.alloc (.cells #[.int .i64 e.kind, .bool e.ext, .bool e.same, .int .i64 e.src, .int .i64 e.dst, .int .i64 e.fence] 23)).alloc (.cells #[.int .i64 f.kind, .bool f.ext, .bool f.same, .int .i64 f.src, .int .i64 f.dst, .int .i64 f.fence] 23))
  clear B1
  by_cases h0 : e = f
  · have d0 : decide (e = f) = true := decide_eq_true h0
    have hv : mayP e f = true := by unfold mayP; rw [if_pos h0]
    rw [hv]; clear hv h0
    go_enter Try.func30, Try.ntmps30
    go_wp2_with fail
    go_ret
    exact ⟨rfl, (by repeat (first | with_reducible assumption | with_reducible exact Below.refl _ _ | with_reducible refine Below.setCell ?_ (Nat.le_refl _) _ | with_reducible refine Below.setCell ?_ (by simp) _ | with_reducible refine Below.alloc ?_ (Nat.le_refl _) _ | with_reducible refine Below.alloc ?_ (by simp) _ | with_reducible refine Below.alloc ?_ (by simp <;> omega) _ | with_reducible refine Below.drew ?_))⟩
  · have d0 : decide (e = f) = false := decide_eq_false h0
    by_cases hc : e.kind < 4 ∨ f.kind < 4 ∨ e.src ≠ f.src ∨ e.dst ≠ f.dst ∨ e.same ≠ f.same
    · have hv : mayP e f = false := by unfold mayP; rw [if_neg h0, if_pos hc]
      rw [hv]; clear hv h0
      by_cases c0 : e.kind < 4
      · have z0 : decide (e.kind < 4) = true := by simpa using c0
        clear hc c0
        go_enter Try.func30, Try.ntmps30
        go_wp2_with fail
        go_ret
        exact ⟨rfl, (by repeat (first | with_reducible assumption | with_reducible exact Below.refl _ _ | with_reducible refine Below.setCell ?_ (Nat.le_refl _) _ | with_reducible refine Below.setCell ?_ (by simp) _ | with_reducible refine Below.alloc ?_ (Nat.le_refl _) _ | with_reducible refine Below.alloc ?_ (by simp) _ | with_reducible refine Below.alloc ?_ (by simp <;> omega) _ | with_reducible refine Below.drew ?_))⟩
      · have z0 : decide (e.kind < 4) = false := by simpa using c0
        by_cases c1 : f.kind < 4
        · have z1 : decide (f.kind < 4) = true := by simpa using c1
          clear hc c0 c1
          go_enter Try.func30, Try.ntmps30
          go_wp2_with fail
          go_ret
          exact ⟨rfl, (by repeat (first | with_reducible assumption | with_reducible exact Below.refl _ _ | with_reducible refine Below.setCell ?_ (Nat.le_refl _) _ | with_reducible refine Below.setCell ?_ (by simp) _ | with_reducible refine Below.alloc ?_ (Nat.le_refl _) _ | with_reducible refine Below.alloc ?_ (by simp) _ | with_reducible refine Below.alloc ?_ (by simp <;> omega) _ | with_reducible refine Below.drew ?_))⟩
        · have z1 : decide (f.kind < 4) = false := by simpa using c1
          by_cases c2 : e.src ≠ f.src
          · have z2 : (e.src != f.src) = true := by simpa using c2
            clear hc c0 c1 c2
            go_enter Try.func30, Try.ntmps30
            go_wp2_with fail
            go_ret
            exact ⟨rfl, (by repeat (first | with_reducible assumption | with_reducible exact Below.refl _ _ | with_reducible refine Below.setCell ?_ (Nat.le_refl _) _ | with_reducible refine Below.setCell ?_ (by simp) _ | with_reducible refine Below.alloc ?_ (Nat.le_refl _) _ | with_reducible refine Below.alloc ?_ (by simp) _ | with_reducible refine Below.alloc ?_ (by simp <;> omega) _ | with_reducible refine Below.drew ?_))⟩
          · have z2 : (e.src != f.src) = false := by simpa using c2
            by_cases c3 : e.dst ≠ f.dst
            · have z3 : (e.dst != f.dst) = true := by simpa using c3
              clear hc c0 c1 c2 c3
              go_enter Try.func30, Try.ntmps30
              go_wp2_with fail
              go_ret
              exact ⟨rfl, (by repeat (first | with_reducible assumption | with_reducible exact Below.refl _ _ | with_reducible refine Below.setCell ?_ (Nat.le_refl _) _ | with_reducible refine Below.setCell ?_ (by simp) _ | with_reducible refine Below.alloc ?_ (Nat.le_refl _) _ | with_reducible refine Below.alloc ?_ (by simp) _ | with_reducible refine Below.alloc ?_ (by simp <;> omega) _ | with_reducible refine Below.drew ?_))⟩
            · have z3 : (e.dst != f.dst) = false := by simpa using c3
              by_cases c4 : e.same ≠ f.same
              · have z4 : (e.same != f.same) = true := by simpa using c4
                have z5 : (!(e.same == f.same)) = true := by simpa using c4
                clear hc c0 c1 c2 c3 c4
                go_enter Try.func30, Try.ntmps30
                go_wp2_with fail
                go_ret
                exact ⟨rfl, (by repeat (first | with_reducible assumption | with_reducible exact Below.refl _ _ | with_reducible refine Below.setCell ?_ (Nat.le_refl _) _ | with_reducible refine Below.setCell ?_ (by simp) _ | with_reducible refine Below.alloc ?_ (Nat.le_refl _) _ | with_reducible refine Below.alloc ?_ (by simp) _ | with_reducible refine Below.alloc ?_ (by simp <;> omega) _ | with_reducible refine Below.drew ?_))⟩
                skip
              · have z4 : (e.same != f.same) = false := by simpa using c4
                exact absurd hc (by simp only [not_or]; exact ⟨c0, c1, c2, c3, c4⟩)
    · have hv0 : mayP e f = (if e.kind = 4 then true else if e.kind = 5 then f.kind == 5 && withinF e.fence f.fence else if e.kind = 8 then readsE f false else if e.kind = 7 then f.kind == 6 || readsE f true else readsE f true) := by unfold mayP; rw [if_neg h0, if_neg hc]
      rw [hv0]
      simp only [not_or, ne_eq, Decidable.not_not] at hc
      obtain ⟨c0, c1, c2, c3, c4⟩ := hc
      have z0 : decide (e.kind < 4) = false := decide_eq_false c0
      have z1 : decide (f.kind < 4) = false := decide_eq_false c1
      have z2 : (e.src != f.src) = false := by simp [c2]
      have z3 : (e.dst != f.dst) = false := by simp [c3]
      have z4 : (e.same != f.same) = false := by simp [c4]
      have z5 : (!(e.same == f.same)) = false := by simp [c4]
      clear h0 hv0 c0 c1 c2 c3 c4
      by_cases k4 : e.kind = 4
      · have y4 : (e.kind == 4) = true := by simp [k4]
        rw [if_pos k4]; clear k4
        go_enter Try.func30, Try.ntmps30
        go_wp2_with fail
        go_ret
        exact ⟨rfl, (by repeat (first | with_reducible assumption | with_reducible exact Below.refl _ _ | with_reducible refine Below.setCell ?_ (Nat.le_refl _) _ | with_reducible refine Below.setCell ?_ (by simp) _ | with_reducible refine Below.alloc ?_ (Nat.le_refl _) _ | with_reducible refine Below.alloc ?_ (by simp) _ | with_reducible refine Below.alloc ?_ (by simp <;> omega) _ | with_reducible refine Below.drew ?_))⟩
      · have y4 : (e.kind == 4) = false := by simp [k4]
        rw [if_neg k4]; clear k4
        by_cases k5 : e.kind = 5
        · have y5 : (e.kind == 5) = true := by simp [k5]
          rw [if_pos k5]; clear k5
          by_cases f5 : f.kind = 5
          · have x5 : (f.kind == 5) = true := by simp [f5]
            rw [x5, Bool.true_and]; clear f5
            go_enter Try.func30, Try.ntmps30
            go_wp2_with (go_at_call 45; refine (progWithin _ _ _).mono ?_; rintro e1 w7 ⟨rfl, rfl⟩)
            go_ret
            exact ⟨rfl, (by repeat (first | with_reducible assumption | with_reducible exact Below.refl _ _ | with_reducible refine Below.setCell ?_ (Nat.le_refl _) _ | with_reducible refine Below.setCell ?_ (by simp) _ | with_reducible refine Below.alloc ?_ (Nat.le_refl _) _ | with_reducible refine Below.alloc ?_ (by simp) _ | with_reducible refine Below.alloc ?_ (by simp <;> omega) _ | with_reducible refine Below.drew ?_))⟩
          · have x5 : (f.kind == 5) = false := by simp [f5]
            rw [x5, Bool.false_and]; clear f5
            go_enter Try.func30, Try.ntmps30
            go_wp2_with fail
            go_ret
            exact ⟨rfl, (by repeat (first | with_reducible assumption | with_reducible exact Below.refl _ _ | with_reducible refine Below.setCell ?_ (Nat.le_refl _) _ | with_reducible refine Below.setCell ?_ (by simp) _ | with_reducible refine Below.alloc ?_ (Nat.le_refl _) _ | with_reducible refine Below.alloc ?_ (by simp) _ | with_reducible refine Below.alloc ?_ (by simp <;> omega) _ | with_reducible refine Below.drew ?_))⟩
        · have y5 : (e.kind == 5) = false := by simp [k5]
          rw [if_neg k5]; clear k5
          by_cases k8 : e.kind = 8
          · have y8 : (e.kind == 8) = true := by simp [k8]
            rw [if_pos k8]; clear k8
            go_enter Try.func30, Try.ntmps30
            go_wp2_with fail
            refine (progReads f false _).mono ?_; rintro e1 w7 ⟨rfl, E7⟩
            go_wp2_with fail
            go_ret
            exact ⟨rfl, Below.trans (by repeat (first | with_reducible assumption | with_reducible exact Below.refl _ _ | with_reducible refine Below.setCell ?_ (Nat.le_refl _) _ | with_reducible refine Below.setCell ?_ (by simp) _ | with_reducible refine Below.alloc ?_ (Nat.le_refl _) _ | with_reducible refine Below.alloc ?_ (by simp) _ | with_reducible refine Below.alloc ?_ (by simp <;> omega) _ | with_reducible refine Below.drew ?_)) (E7.mono (by simp <;> omega))⟩
          · have y8 : (e.kind == 8) = false := by simp [k8]
            rw [if_neg k8]; clear k8
            by_cases k7 : e.kind = 7
            · have y7 : (e.kind == 7) = true := by simp [k7]
              rw [if_pos k7]; clear k7
              by_cases f6 : f.kind = 6
              · have x6 : (f.kind == 6) = true := by simp [f6]
                rw [x6, Bool.true_or]; clear f6
                go_enter Try.func30, Try.ntmps30
                go_wp2_with fail
                go_ret
                exact ⟨rfl, (by repeat (first | with_reducible assumption | with_reducible exact Below.refl _ _ | with_reducible refine Below.setCell ?_ (Nat.le_refl _) _ | with_reducible refine Below.setCell ?_ (by simp) _ | with_reducible refine Below.alloc ?_ (Nat.le_refl _) _ | with_reducible refine Below.alloc ?_ (by simp) _ | with_reducible refine Below.alloc ?_ (by simp <;> omega) _ | with_reducible refine Below.drew ?_))⟩
              · have x6 : (f.kind == 6) = false := by simp [f6]
                rw [x6, Bool.false_or]; clear f6
                go_enter Try.func30, Try.ntmps30
                go_wp2_with fail
                refine (progReads f true _).mono ?_; rintro e1 w7 ⟨rfl, E7⟩
                go_wp2_with fail
                go_ret
                exact ⟨rfl, Below.trans (by repeat (first | with_reducible assumption | with_reducible exact Below.refl _ _ | with_reducible refine Below.setCell ?_ (Nat.le_refl _) _ | with_reducible refine Below.setCell ?_ (by simp) _ | with_reducible refine Below.alloc ?_ (Nat.le_refl _) _ | with_reducible refine Below.alloc ?_ (by simp) _ | with_reducible refine Below.alloc ?_ (by simp <;> omega) _ | with_reducible refine Below.drew ?_)) (E7.mono (by simp <;> omega))⟩
            · have y7 : (e.kind == 7) = false := by simp [k7]
              rw [if_neg k7]; clear k7
              go_enter Try.func30, Try.ntmps30
              go_wp2_with fail
              refine (progReads f true _).mono ?_; rintro e1 w7 ⟨rfl, E7⟩
              go_wp2_with fail
              go_ret
              exact ⟨rfl, Below.trans (by repeat (first | with_reducible assumption | with_reducible exact Below.refl _ _ | with_reducible refine Below.setCell ?_ (Nat.le_refl _) _ | with_reducible refine Below.setCell ?_ (by simp) _ | with_reducible refine Below.alloc ?_ (Nat.le_refl _) _ | with_reducible refine Below.alloc ?_ (by simp) _ | with_reducible refine Below.alloc ?_ (by simp <;> omega) _ | with_reducible refine Below.drew ?_)) (E7.mono (by simp <;> omega))⟩
end Go.Proofs.Yteijgmaggmhggaa

/- What stands for what: in itself, through one another, and both ways only for itself. No program in sight; no condition. -/
import Derived.Test.YteijgmaggmhggaaE15
namespace Go.Proofs.Yteijgmaggmhggaa
set_option linter.unusedVariables false
theorem mayP_refl (e : Edge) : mayP e e = true := by unfold mayP; rw [if_pos rfl]
theorem withinF_trans {e f g : Int} (h1 : withinF e f = true) (h2 : withinF f g = true) : withinF e g = true := by
  obtain ⟨⟨a1, a2⟩, a3, a4⟩ := (withinF_iff e f).1 h1
  obtain ⟨⟨b1, b2⟩, b3, b4⟩ := (withinF_iff f g).1 h2
  exact (withinF_iff e g).2 ⟨⟨fun h => b1 (a1 h), fun h => b2 (a2 h)⟩, fun h => b3 (a3 h), fun h => b4 (a4 h)⟩
theorem withinF_12 {f g : Int} (h : withinF f g = true) (h1 : ordersF f 1 2 = true) : ordersF g 1 2 = true := by
  unfold withinF at h; rw [h1] at h; simp at h; exact h.1.1.2
theorem withinF_11 {f g : Int} (h : withinF f g = true) (h1 : ordersF f 1 1 = true) : ordersF g 1 1 = true := by
  unfold withinF at h; rw [h1] at h; simp at h; exact h.1.1.1
/-- what mayP asks of two that are not one -/
theorem mayP_ne {e f : Edge} (hne : e ≠ f) : mayP e f = true ↔ ¬ (e.kind < 4 ∨ f.kind < 4 ∨ e.src ≠ f.src ∨ e.dst ≠ f.dst ∨ e.same ≠ f.same) ∧
    (if e.kind = 4 then true else if e.kind = 5 then f.kind == 5 && withinF e.fence f.fence else if e.kind = 8 then readsE f false else if e.kind = 7 then f.kind == 6 || readsE f true else readsE f true) = true := by
  unfold mayP
  rw [if_neg hne]
  by_cases h : e.kind < 4 ∨ f.kind < 4 ∨ e.src ≠ f.src ∨ e.dst ≠ f.dst ∨ e.same ≠ f.same
  · rw [if_pos h]; simp [h]
  · rw [if_neg h]; simp [h]
theorem reads_on {f g : Edge} {both : Bool} (h : readsE f both = true) (hfg : mayP f g = true) : readsE g both = true := by
  by_cases e : f = g
  · subst e; exact h
  · have h2 := ((mayP_ne e).1 hfg).2
    unfold readsE at h ⊢
    have h5 : f.kind = 5 := by
      cases hk : (f.kind == 5)
      · rw [hk] at h; simp at h
      · simpa using hk
    rw [if_neg (by omega), if_pos h5] at h2
    simp only [Bool.and_eq_true, beq_iff_eq] at h2 h ⊢
    refine ⟨⟨h2.1, withinF_12 h2.2 h.1.2⟩, ?_⟩
    have h3 := h.2
    cases both
    · rfl
    · simp at h3 ⊢; exact withinF_11 h2.2 h3
theorem mayP_trans {e f g : Edge} (h1 : mayP e f = true) (h2 : mayP f g = true) : mayP e g = true := by
  by_cases eg : e = g
  · subst eg; exact mayP_refl e
  by_cases ef : e = f
  · subst ef; exact h2
  by_cases fg : f = g
  · subst fg; exact h1
  obtain ⟨c1, d1⟩ := (mayP_ne ef).1 h1
  obtain ⟨c2, d2⟩ := (mayP_ne fg).1 h2
  refine (mayP_ne eg).2 ⟨?_, ?_⟩
  · simp only [not_or, ne_eq, Decidable.not_not] at c1 c2 ⊢
    exact ⟨c1.1, c2.2.1, c1.2.2.1.trans c2.2.2.1, c1.2.2.2.1.trans c2.2.2.2.1, c1.2.2.2.2.trans c2.2.2.2.2⟩
  · by_cases k4 : e.kind = 4
    · rw [if_pos k4]
    · rw [if_neg k4] at d1 ⊢
      by_cases k5 : e.kind = 5
      · rw [if_pos k5] at d1 ⊢
        simp only [Bool.and_eq_true, beq_iff_eq] at d1 ⊢
        rw [if_neg (by omega), if_pos d1.1] at d2
        simp only [Bool.and_eq_true, beq_iff_eq] at d2
        exact ⟨d2.1, withinF_trans d1.2 d2.2⟩
      · rw [if_neg k5] at d1 ⊢
        by_cases k8 : e.kind = 8
        · rw [if_pos k8] at d1 ⊢; exact reads_on d1 h2
        · rw [if_neg k8] at d1 ⊢
          by_cases k7 : e.kind = 7
          · rw [if_pos k7] at d1 ⊢
            rcases Bool.or_eq_true _ _ ▸ d1 with d1 | d1
            · have f6 : f.kind = 6 := by simpa using d1
              rw [if_neg (by omega), if_neg (by omega), if_neg (by omega), if_neg (by omega)] at d2
              rw [d2]; simp
            · rw [reads_on d1 h2]; simp
          · rw [if_neg k7] at d1 ⊢; exact reads_on d1 h2
def both (arch : Int) (a b : Nat) : Bool := legalC arch a && legalC arch b && mayP (ofCode a) (ofCode b) && mayP (ofCode b) (ofCode a)
theorem anti1 : ∀ a, a < 112 → ∀ b, b < 112 → both 1 a b = true → a = b := by decide +kernel
theorem anti2 : ∀ a, a < 112 → ∀ b, b < 112 → both 2 a b = true → a = b := by decide +kernel
theorem mayP_anti {arch : Int} (ha : isArch arch) {e f : Edge} (he : errA arch e = 0) (hf : errA arch f = 0) (h1 : mayP e f = true) (h2 : mayP f e = true) : e = f := by
  obtain ⟨c1, l1⟩ := errA_zero he
  obtain ⟨c2, l2⟩ := errA_zero hf
  have hb : both arch (codeOf e) (codeOf f) = true := by unfold both; rw [l1, l2, codeOf_lt c1, codeOf_lt c2, h1, h2]; rfl
  have k : codeOf e = codeOf f := by
    rcases ha with rfl | rfl
    · exact anti1 _ c1 _ c2 hb
    · exact anti2 _ c1 _ c2 hb
  rw [← codeOf_lt c1, ← codeOf_lt c2, k]
theorem allMay_refl : ∀ a : List Edge, allMay a a = true
  | [] => rfl
  | x :: r => by unfold allMay; rw [mayP_refl, allMay_refl r]; rfl
theorem allMay_trans : ∀ {a b c : List Edge}, allMay a b = true → allMay b c = true → allMay a c = true
  | [], [], [], _, _ => rfl
  | [], [], _ :: _, _, h => by simp [allMay] at h
  | [], _ :: _, _, h, _ => by simp [allMay] at h
  | _ :: _, [], _, h, _ => by simp [allMay] at h
  | _ :: _, _ :: _, [], _, h => by simp [allMay] at h
  | x :: r, y :: s, z :: t, h1, h2 => by
    simp only [allMay, Bool.and_eq_true] at h1 h2 ⊢
    exact ⟨mayP_trans h1.1 h2.1, allMay_trans h1.2 h2.2⟩
theorem allMay_anti {arch : Int} (ha : isArch arch) : ∀ {a b : List Edge}, (∀ e ∈ a, errA arch e = 0) → (∀ e ∈ b, errA arch e = 0) → allMay a b = true → allMay b a = true → a = b
  | [], [], _, _, _, _ => rfl
  | [], _ :: _, _, _, h, _ => by simp [allMay] at h
  | _ :: _, [], _, _, h, _ => by simp [allMay] at h
  | x :: r, y :: s, h1, h2, h3, h4 => by
    simp only [allMay, Bool.and_eq_true] at h3 h4
    rw [mayP_anti ha (h1 x (by simp)) (h2 y (by simp)) h3.1 h4.1, allMay_anti ha (fun e he => h1 e (by simp [he])) (fun e he => h2 e (by simp [he])) h3.2 h4.2]
end Go.Proofs.Yteijgmaggmhggaa

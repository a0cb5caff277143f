/- The walks of Least and Same (package round's). Conditions: the lists lie in memory as read; sizes below the reach. -/
import Derived.Test.YtdafpafoioejaaaW5
namespace Go.Proofs.Ytdafpafoioejaaa
open Go.RowKit
set_option linter.unusedVariables false

/-- a scope whose label is jumped to: the first way to the label may use what each round from there on does -/
theorem wp_scope_rounds {P : Program} {a : Act} {w : World} {Q : Exit → Act → World → Prop} {c X : Code} (l : Nat) (J : Act → World → Prop) (μ : Act → World → Nat) (hf : findLabel c l = some (.seq .skip X))
    (first : (∀ a w, J a w → X.wp P (Exit.jump l J Q) a w) → c.wp P (Exit.jump l J Q) a w)
    (pass : ∀ a w, J a w → X.wp P (Exit.jump l (fun a' w' => J a' w' ∧ μ a' w' < μ a w) Q) a w) : (Code.scope c).wp P Q a w := by
  refine wp_scope_jumps l J μ hf (first fun a w h => wp_mono (pass a w h) ?_) fun a w h => wp_seq (wp_skip (pass a w h))
  intro e a w h
  cases e <;> simp only [Exit.jump] at h ⊢
  case goto l' => exact ⟨h.1, h.2.1⟩
  all_goals exact h

/-- where the two beginnings are -/
def At2 (l : List Int) (i j s : Nat) : Prop := Two l i j s ∧ i ≤ 2 * l.length + 1 ∧ j ≤ 2 * l.length + 2 ∧ s ≤ l.length

/-- the frame at the label -/
def lfr (l : List Int) (a : Option Addr) (c i j s : Nat) (v : Nat → Value) : Act :=
  { tmps := #[.slice a l.length c, undef, .int .i64 0, .int .i64 l.length, .int .i64 i, .int .i64 j, .int .i64 s, v 7, v 8, .slice a l.length c, .int .i64 l.length, v 11, v 12, v 13, v 14, v 15, v 16, v 17, v 18, v 19, v 20, v 21, v 22, v 23, v 24, v 25, v 26, v 27, v 28, v 29, v 30, v 31, v 32, v 33, v 34, v 35, v 36, v 37, v 38, v 39, v 40, v 41, v 42, v 43, v 44, v 45, v 46, v 47, v 48, v 49, v 50, v 51, v 52, v 53, v 54, v 55, v 56, v 57, v 58, v 59, v 60, v 61, v 62, v 63, v 64, v 65, v 66], defers := [] }

set_option maxHeartbeats 1000000 in
theorem progLeast (l : List Int) (a : Option Addr) (c : Nat) (w : World) (h : Ints w a l) (hb : l.length * 8 ≤ 140737488355328) :
    Calls Try.prog 12 #[.slice a l.length c] w (RetQ w (.int .i64 (least l))) := by
  have H := hid h; have hl := h.len; clear h
  go_enter Try.func12, Try.ntmps12
  go_wp2_with fail
  refine wp_scope_rounds 0 (fun a' w' => QW w w' ∧ ∃ (i j s : Nat), a' = lfr l a c i j s (fun k => a'.tmps.getD k undef) ∧ Hid (At2 l i j s)) (fun a' _ => (6 * l.length + 9) - ((intOf (a'.tmps.getD 4 undef)).toNat + (intOf (a'.tmps.getD 5 undef)).toNat + (intOf (a'.tmps.getD 6 undef)).toNat)) rfl ?_ ?_
  · intro hrest
    have HR := hid hrest
    clear hrest
    go_wp2
    go_step3
    rename_i hK
    refine hK _ _ (HR.out _ _ ?_)
    exact ⟨QW.refl _, 0, 1, 0, rfl, hid ⟨Two.start l, by omega, by omega, by omega⟩⟩
  · rintro a' w' ⟨⟨n, rfl⟩, i, j, s, ha, hat⟩
    generalize (fun k => a'.tmps.getD k undef) = v at ha
    subst ha
    unfold lfr
    have hi := hat.out.2.1; have hj := hat.out.2.2.1; have hs := hat.out.2.2.2
    by_cases hgo : i < l.length ∧ j < l.length ∧ s < l.length
    · obtain ⟨h1, h2, h3⟩ := hgo
      have d1 : decide (l.length ≤ i) = false := by simp; omega
      have d2 : decide (l.length ≤ j) = false := by simp; omega
      have d3 : decide (l.length ≤ s) = false := by simp; omega
      obtain ⟨q1, x1, x1', x1w, y1⟩ := H.out.around i s (by omega) (by omega)
      obtain ⟨q2, x2, x2', x2w, y2⟩ := H.out.around j s (by omega) (by omega)
      have step1 := fun he => hat.out.1.more (s := s) he
      have step2 := fun hg hne => hat.out.1.skip h1 h2 h3 hg hne
      have step3 := fun hg he => hat.out.1.skipEq h1 h2 h3 hg he
      have step4 := fun hg hne => hat.out.1.symm.skip h2 h1 h3 hg hne
      have step5 := fun hg he => hat.out.1.symm.skipEq h2 h1 h3 hg he
      have S := hid (And.intro step1 (And.intro step2 (And.intro step3 (And.intro step4 step5))))
      clear step1 step2 step3 step4 step5 hat
      generalize at_ l i s = u at *
      generalize at_ l j s = v at *
      by_cases huv : u = v
      · have HA : Hid (At2 l i j (s + 1)) := hid ⟨S.out.1 huv, by omega, by omega, by omega⟩
        have e1 : (u == v) = true := by simpa using huv
        clear S huv
        go_wp2
        go_quiet (fail)
        go_wp2
        go_step3
        refine ⟨rfl, ⟨(by repeat (first | exact QW.refl _ | refine QW.d ?_ _)), i, j, s + 1, rfl, HA⟩, ?_⟩
        simp [intOf]; omega
      · have e1 : (u == v) = false := by simpa using huv
        by_cases hgt : v < u
        · have hgt2 : ¬ u < v := by omega
          by_cases heq : i + (s + 1) = j
          · have HA : Hid (At2 l j (j + 1) 0) := hid ⟨S.out.2.2.1 hgt heq, by omega, by omega, by omega⟩
            have e2 : ((i : Int) + ((s : Int) + 1)) = (j : Int) := by omega
            have E2 := hid e2
            have e3 : (((i : Int) + ((s : Int) + 1)) == (j : Int)) = true := by simpa using e2
            clear S huv heq e2
            go_wp2
            go_quiet (fail)
            go_wp2
            go_step3
            refine ⟨rfl, ⟨(by repeat (first | exact QW.refl _ | refine QW.d ?_ _)), j, j + 1, 0, ?_, HA⟩, ?_⟩
            · simp; exact E2.out
            · simp [intOf]; omega
          · have HA : Hid (At2 l (i + (s + 1)) j 0) := hid ⟨S.out.2.1 hgt heq, by omega, by omega, by omega⟩
            have e3 : (((i : Int) + ((s : Int) + 1)) == (j : Int)) = false := by simp; omega
            clear S huv heq
            go_wp2
            go_quiet (fail)
            go_wp2
            go_step3
            refine ⟨rfl, ⟨(by repeat (first | exact QW.refl _ | refine QW.d ?_ _)), i + (s + 1), j, 0, ?_, HA⟩, ?_⟩
            · simp
            · simp [intOf]; omega
        · have hgt2 : u < v := by omega
          have hgt3 : u ≤ v := by omega
          by_cases heq : j + (s + 1) = i
          · have HA : Hid (At2 l i (i + 1) 0) := hid ⟨S.out.2.2.2.2 hgt2 heq, by omega, by omega, by omega⟩
            have e2 : ((j : Int) + ((s : Int) + 1)) = (i : Int) := by omega
            have e3 : ((i : Int) == (j : Int) + ((s : Int) + 1)) = true := by simp; omega
            have E2 := hid e2
            clear S huv heq e2
            go_wp2
            go_quiet (fail)
            go_wp2
            go_step3
            refine ⟨rfl, ⟨(by repeat (first | exact QW.refl _ | refine QW.d ?_ _)), i, i + 1, 0, ?_, HA⟩, ?_⟩
            · simp; exact E2.out
            · simp [intOf]; omega
          · have HA : Hid (At2 l i (j + (s + 1)) 0) := hid ⟨(S.out.2.2.2.1 hgt2 heq).symm, by omega, by omega, by omega⟩
            have e3 : ((i : Int) == (j : Int) + ((s : Int) + 1)) = false := by simp; omega
            clear S huv heq
            go_wp2
            go_quiet (fail)
            go_wp2
            go_step3
            refine ⟨rfl, ⟨(by repeat (first | exact QW.refl _ | refine QW.d ?_ _)), i, j + (s + 1), 0, ?_, HA⟩, ?_⟩
            · simp
            · simp [intOf]; omega
    · have hr : min (min i j) (l.length - 1) = least l := by
        obtain ⟨hT, -⟩ := hat.out
        by_cases h0 : l = []
        · subst h0; simp [least_nil]
        · have hp : 0 < l.length := List.length_pos_iff.2 h0
          have hle := least_lt l h0
          by_cases h1 : l.length ≤ i
          · have := hT.out h0 h1; omega
          · by_cases h2 : l.length ≤ j
            · have := hT.symm.out h0 h2; omega
            · rcases Nat.lt_or_gt_of_ne hT.ne with h3 | h3
              · have := hT.all (by omega) (by omega) (by omega) h3; omega
              · have := hT.symm.all (by omega) (by omega) (by omega) h3; omega
      obtain ⟨m, hm⟩ : ∃ m : Nat, m = l.length - 1 := ⟨_, rfl⟩
      have r1 := run_max (P := Try.prog) #[3, 3] 3 .i64 ((l.length : Int) - 1) 0 (m : Int) (by omega)
      have r2 := run_min3 (P := Try.prog) #[3, 3, 3] 3 .i64 (i : Int) (j : Int) (m : Int) (least l : Int) (by omega)
      clear hr hm hat
      by_cases h1 : l.length ≤ i
      · have d1 : decide (l.length ≤ i) = true := by simpa using h1
        clear hgo
        go_wp2
        simp only [Exit.jump]
        go_ret
        exact ⟨rfl, (by repeat (first | exact QW.refl _ | refine QW.d ?_ _))⟩
      · have d1 : decide (l.length ≤ i) = false := by simp; omega
        by_cases h2 : l.length ≤ j
        · have d2 : decide (l.length ≤ j) = true := by simpa using h2
          clear hgo
          go_wp2
          simp only [Exit.jump]
          go_ret
          exact ⟨rfl, (by repeat (first | exact QW.refl _ | refine QW.d ?_ _))⟩
        · have d2 : decide (l.length ≤ j) = false := by simp; omega
          have h3 : l.length ≤ s := by omega
          have d3 : decide (l.length ≤ s) = true := by simpa using h3
          clear hgo
          go_wp2
          simp only [Exit.jump]
          go_ret
          exact ⟨rfl, (by repeat (first | exact QW.refl _ | refine QW.d ?_ _))⟩

set_option maxHeartbeats 400000 in
theorem progSame (l m : List Int) (a1 a2 : Option Addr) (c1 c2 : Nat) (w : World) (h1 : Ints w a1 l) (h2 : Ints w a2 m) (hc1 : l.length ≤ c1) (hc2 : m.length ≤ c2) (hb : l.length * 8 ≤ 140737488355328) :
    Calls Try.prog 28 #[.slice a1 l.length c1, .slice a2 m.length c2] w (Ret w (.bool (decide (canon l = canon m)))) := by
  have H1 := hid h1; have H2 := hid h2; have hl := h1.len; have hl2 := h2.len; clear h1 h2
  have t1 : turn l (least l) = canon l := by
    unfold turn canon
    by_cases h0 : l = []
    · subst h0; rfl
    · have := least_lt l h0
      rw [Int.emod_eq_of_lt (by omega) (by omega)]; simp
  have t2 : turn m (least m) = canon m := by
    unfold turn canon
    by_cases h0 : m = []
    · subst h0; rfl
    · have := least_lt m h0
      rw [Int.emod_eq_of_lt (by omega) (by omega)]; simp
  have T1 := hid t1; have T2 := hid t2
  clear t1 t2
  by_cases hlm : l.length = m.length
  · have hz : ((l.length : Int) == (m.length : Int)) = true := by simp [hlm]
    have hb2 : m.length * 8 ≤ 140737488355328 := by omega
    have e : (cmp (canon l) (canon m) == 0) = decide (canon l = canon m) := by rw [Bool.eq_iff_iff]; simp [cmp_eq_zero]
    have E := hid e
    clear hlm e
    go_enter Try.func28, Try.ntmps28
    go_wp2_with fail
    refine (progLeast l _ _ _ H1.out hb).mono ?_
    rintro e w1 ⟨rfl, n1, rfl⟩
    go_wp2_with fail
    refine (progTurn l _ _ _ _ (H1.out.drewN n1) hc1 hb).mono ?_
    rintro e w2 ⟨a3, n3, c3, rfl, o3, B3⟩
    rw [T1.out] at o3
    obtain ⟨r3, rfl⟩ := o3.ints
    have B3' := (below_drewN w n1).trans B3
    go_wp2_with fail
    refine (progLeast m _ _ _ (H2.out.below B3') hb2).mono ?_
    rintro e w4 ⟨rfl, n4, rfl⟩
    go_wp2_with fail
    refine (progTurn m _ _ _ _ ((H2.out.below B3').drewN n4) hc2 hb2).mono ?_
    rintro e w5 ⟨a5, n5, c5, rfl, o5, B5⟩
    rw [T2.out] at o5
    obtain ⟨r5, rfl⟩ := o5.ints
    go_wp2_with fail
    refine (progCompare (canon l) (canon m) _ _ _ _ _ ((r3.drewN n4).below B5) r5).mono ?_
    rintro e w6 ⟨rfl, n6, rfl⟩
    go_wp2_with fail
    go_ret
    exact ⟨ret_bool E.out, ((B3'.trans ((below_drewN _ _).mono B3'.size)).trans (B5.mono (by have := B3'.size; simpa using this))).trans ((below_drewN _ _).mono (by have h1 := B3'.size; have h2 := B5.size; simp at h2 ⊢; omega))⟩
  · have hz : ((l.length : Int) == (m.length : Int)) = false := by simp; omega
    have e : ¬ canon l = canon m := fun h => hlm (canon_eq.1 h).1
    have E := hid e
    clear hlm e
    go_enter Try.func28, Try.ntmps28
    go_wp2_with fail
    go_ret
    exact ⟨ret_bool (decide_eq_false E.out).symm, Below.refl _ _⟩
end Go.Proofs.Ytdafpafoioejaaa

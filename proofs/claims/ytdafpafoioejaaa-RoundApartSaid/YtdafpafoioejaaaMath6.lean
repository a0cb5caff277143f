/- What words have of one another, and those of a least turned list. No program in sight; no condition. -/
import Derived.Test.YtdafpafoioejaaaMath5
namespace Go.Proofs.Ytdafpafoioejaaa
set_option linter.unusedVariables false

theorem lt_cases {a b : List Int} (h : cmp a b = -1) : (∃ d, d < a.length ∧ d < b.length ∧ (∀ t, t < d → a.getD t 0 = b.getD t 0) ∧ a.getD d 0 < b.getD d 0) ∨ (a.length < b.length ∧ ∀ t, t < a.length → a.getD t 0 = b.getD t 0) := by
  induction a generalizing b with
  | nil =>
    cases b with
    | nil => simp [cmp] at h
    | cons y s => right; simp
  | cons x r ih =>
    cases b with
    | nil => simp [cmp] at h
    | cons y s =>
      simp only [cmp] at h
      by_cases h1 : x < y
      · left; exact ⟨0, by simp, by simp, fun t ht => absurd ht (Nat.not_lt_zero t), by simpa using h1⟩
      · by_cases h2 : y < x
        · simp [h1, h2] at h
        · obtain rfl : x = y := by omega
          simp [h1] at h
          rcases ih h with ⟨d, d1, d2, d3, d4⟩ | ⟨d1, d2⟩
          · left
            refine ⟨d + 1, by simpa using d1, by simpa using d2, fun t ht => ?_, by simpa using d4⟩
            cases t with
            | zero => rfl
            | succ t => simpa using d3 t (by omega)
          · right
            refine ⟨by simpa using d1, fun t ht => ?_⟩
            cases t with
            | zero => rfl
            | succ t => simpa using d2 t (by simpa using ht)

/-- a word and a greater one behind it are a word -/
theorem lyn_concat {g : Nat → Int} {m m' : Nat} (h1 : Lyn g m) (h2 : Lyn (fun t => g (m + t)) m') (hm : 1 ≤ m) (hm' : 1 ≤ m')
    (h : (∃ d, d < m ∧ d < m' ∧ (∀ t, t < d → g t = g (m + t)) ∧ g d < g (m + d)) ∨ (m < m' ∧ ∀ t, t < m → g t = g (m + t))) : Lyn g (m + m') := by
  have stepA : ∃ d, d < m' ∧ (∀ t, t < d → g t = g (m + t)) ∧ g d < g (m + d) := by
    rcases h with ⟨d, d1, d2, d3, d4⟩ | ⟨d1, d2⟩
    · exact ⟨d, d2, d3, d4⟩
    · obtain ⟨d, e1, e2, e3⟩ := h2 m hm d1
      refine ⟨m + d, e1, fun t ht => ?_, e3⟩
      by_cases hc : t < m
      · exact d2 t hc
      · have := e2 (t - m) (by omega)
        simp only at this
        rwa [show m + (t - m) = t by omega] at this
  intro k hk1 hk2
  rcases Nat.lt_trichotomy k m with hc | hc | hc
  · obtain ⟨d, e1, e2, e3⟩ := h1 k hk1 hc
    exact ⟨d, by omega, e2, e3⟩
  · subst hc
    obtain ⟨d, e1, e2, e3⟩ := stepA
    exact ⟨d, by omega, e2, e3⟩
  · obtain ⟨q, rfl⟩ : ∃ q, k = m + q := ⟨k - m, by omega⟩
    obtain ⟨d', f1, f2, f3⟩ := h2 q (by omega) (by omega)
    obtain ⟨d, e1, e2, e3⟩ := stepA
    simp only [← Nat.add_assoc] at f2 f3
    by_cases hdd : d < d'
    · refine ⟨d, by omega, fun t ht => ?_, ?_⟩
      · rw [e2 t ht, f2 t (by omega)]
      · rw [← f2 d hdd]; exact e3
    · refine ⟨d', by omega, fun t ht => ?_, ?_⟩
      · rw [e2 t (by omega), f2 t ht]
      · have : g d' ≤ g (m + d') := by
          by_cases he : d' = d
          · subst he; omega
          · have := e2 d' (by omega); omega
        omega

/-- no word is behind the next one -/
theorem words_fall {s : List Int} {m m' : Nat} (h : IsLongest s m) (h' : IsLongest (s.drop m) m') : cmp (s.take m) ((s.drop m).take m') ≠ -1 := by
  intro hc
  have p1 := h.pos; have p2 := h'.pos
  have l1 := h.1
  have l2 := h'.1
  rw [List.length_drop] at l2
  have w1 := ((isWord_take s m l1).1 h.2.1).2
  have w2 := ((isWord_take (s.drop m) m' (by rw [List.length_drop]; exact l2)).1 h'.2.1).2
  have w2' : Lyn (fun t => (fun u => s.getD u 0) (m + t)) m' := w2.congr fun t ht => getD_drop s m t
  have a1 : (s.take m).length = m := by simp; omega
  have a2 : ((s.drop m).take m').length = m' := by simp; omega
  have g1 : ∀ t, t < m → (s.take m).getD t 0 = s.getD t 0 := fun t ht => getD_take s m t ht
  have g2 : ∀ t, t < m' → ((s.drop m).take m').getD t 0 = s.getD (m + t) 0 := fun t ht => by rw [getD_take _ _ _ ht, getD_drop]
  have hw : IsWord (s.take (m + m')) := by
    refine (isWord_take s (m + m') (by omega)).2 ⟨by omega, lyn_concat w1 w2' p1 p2 ?_⟩
    rcases lt_cases hc with ⟨d, d1, d2, d3, d4⟩ | ⟨d1, d2⟩
    · rw [a1] at d1; rw [a2] at d2
      left
      refine ⟨d, d1, d2, fun t ht => ?_, ?_⟩
      · have := d3 t ht; rwa [g1 t (by omega), g2 t (by omega)] at this
      · rwa [g1 d d1, g2 d d2] at d4
    · rw [a1] at d1 d2; rw [a2] at d1
      right
      refine ⟨d1, fun t ht => ?_⟩
      have := d2 t ht; rwa [g1 t ht, g2 t (by omega)] at this
  have := h.2.2 (m + m') (by omega) hw
  omega

/-! ### a least turned list -/
theorem cyc_rot (l : List Int) (k t : Nat) (hk : k < l.length) : cyc (rot l k) t = cyc l (k + t) := by
  have hn : 0 < l.length := by omega
  have ht : t % l.length < l.length := Nat.mod_lt _ hn
  have h := rot_getD l k (t % l.length) hk ht
  rw [← cyc_low (rot l k) (t % l.length) (by rw [rot_length]; exact ht)] at h
  have e : cyc (rot l k) (t % l.length) = cyc (rot l k) t := by
    have := cyc_mod (rot l k) t; rwa [rot_length] at this
  rw [← e, h, ← cyc_mod, ← cyc_mod l (k + t), Nat.add_mod_mod]
theorem isPer_rot {l : List Int} {k p : Nat} (hk : k < l.length) (h : IsPer l p) : IsPer (rot l k) p := by
  have key : ∀ q, CycPer (rot l k) q ↔ CycPer l q := by
    intro q
    constructor
    · intro hc t
      have hq := hc (t + (l.length - k))
      rw [cyc_rot l k _ hk, cyc_rot l k _ hk, show k + (t + (l.length - k) + q) = t + q + l.length by omega, show k + (t + (l.length - k)) = t + l.length by omega, cyc_add, cyc_add] at hq
      exact hq
    · intro hc t
      rw [cyc_rot l k _ hk, cyc_rot l k _ hk, ← Nat.add_assoc]; exact hc _
  exact ⟨h.1, by rw [rot_length]; exact h.2.1, (key p).2 h.2.2.1, fun q h1 h2 hc => h.2.2.2 q h1 h2 ((key q).1 hc)⟩

theorem canon_duv (l : List Int) (hl : l ≠ []) : Duv (fun t => (canon l).getD t 0) l.length (period l) := by
  have hn : 0 < l.length := List.length_pos_iff.2 hl
  have hk := least_lt l hl
  have hp : IsPer (canon l) (period l) := isPer_rot hk (period_spec l hl)
  have hcl : canon l ≠ [] := rot_ne_nil hl
  have hlen := canon_length l
  have hp2 := hp.2.1
  have hle : ∀ q, 1 ≤ q → q < period l → cmp (canon l) (rot (canon l) q) = -1 := by
    intro q h1 h2
    have hq : q < (canon l).length := by omega
    have e1 : rot (canon l) q = rot l ((least l + q) % l.length) := rot_rot l _ _ hk (by omega)
    have h3 := canon_le l hl _ (Nat.mod_lt (least l + q) hn)
    rw [← e1] at h3
    rcases not_lt h3 with h4 | h4
    · exact h4
    · exfalso
      have : CycPer (canon l) q := (rot_eq_iff hcl).1 (by rw [Nat.mod_eq_of_lt hq]; exact h4)
      exact hp.2.2.2 q h1 h2 this
  generalize canon l = c at *
  generalize period l = p at *
  rw [← hlen]
  have hc0 : ∀ t, t < c.length → c.getD t 0 = cyc c t := fun t ht => (cyc_low c t ht).symm
  refine ⟨hp.1, hp2, fun t ht => ?_, fun k hk1 hk2 => ?_⟩
  · rw [hc0 _ ht, hc0 _ (by omega)]; exact hp.2.2.1 t
  · obtain ⟨d, d1, d2, d3⟩ := (lt_iff_at (rot_length c k).symm).1 (hle k hk1 hk2)
    have r : ∀ t, t < c.length → (rot c k).getD t 0 = cyc c (k + t) := fun t ht => rot_getD c k t (by omega) ht
    -- it shows within the first p
    have hm : ∀ t, cyc c (t % p) = cyc c t := fun t => by
      have := CycPer.mul hp.2.2.1 (t / p) (t % p)
      rw [show t % p + t / p * p = t by rw [Nat.add_comm, Nat.mul_comm]; exact Nat.div_add_mod t p] at this
      exact this.symm
    have hdp : d < p := by
      refine Classical.byContradiction fun hc => ?_
      have h5 : d % p < d := by have := Nat.mod_lt d (show 0 < p by omega); omega
      have h6 := d2 (d % p) h5
      rw [r _ (by omega), hc0 _ (by omega)] at h6
      rw [r d d1, hc0 d d1] at d3
      rw [← hm d, ← hm (k + d)] at d3
      rw [← hm (k + d % p), Nat.add_mod_mod] at h6
      omega
    by_cases hkd : k + d < p
    · refine ⟨d, hkd, fun t ht => ?_, ?_⟩
      · have := d2 t ht
        rwa [r t (by omega), ← hc0 (k + t) (by omega)] at this
      · rwa [r d d1, ← hc0 (k + d) (by omega)] at d3
    · -- the first p numbers are less than all their turned ones, so they are a word
      have hw : IsWord (c.take p) := by
        refine ⟨by rw [List.length_take]; omega, fun q h1 h2 => ?_⟩
        have hpl : (c.take p).length = p := by rw [List.length_take]; omega
        rw [hpl] at h2
        obtain ⟨d', f1, f2, f3⟩ := (lt_iff_at (rot_length c q).symm).1 (hle q h1 h2)
        have rq : ∀ t, t < c.length → (rot c q).getD t 0 = cyc c (q + t) := fun t ht => rot_getD c q t (by omega) ht
        have ct : ∀ t, cyc (c.take p) t = cyc c t := fun t => by
          unfold cyc; rw [hpl, getD_take _ _ _ (Nat.mod_lt _ (by omega))]
          have h7 : t % p < p := Nat.mod_lt _ (by omega)
          have := hm t
          rw [← hc0 (t % p) (by omega)] at this
          rw [this]; rfl
        have hdp' : d' < p := by
          refine Classical.byContradiction fun hc => ?_
          have h5 : d' % p < d' := by have := Nat.mod_lt d' (show 0 < p by omega); omega
          have h6 := f2 (d' % p) h5
          rw [rq _ (by omega), hc0 _ (by omega)] at h6
          rw [rq d' f1, hc0 d' f1] at f3
          rw [← hm d', ← hm (q + d')] at f3
          rw [← hm (q + d' % p), Nat.add_mod_mod] at h6
          omega
        refine (lt_iff_at (rot_length _ q).symm).2 ⟨d', by omega, fun t ht => ?_, ?_⟩
        · have := f2 t ht
          rw [rq t (by omega)] at this
          rw [rot_getD (c.take p) q t (by omega) (by omega), ct, getD_take _ _ _ (by omega)]; exact this
        · rw [rq d' f1] at f3
          rw [rot_getD (c.take p) q d' (by omega) (by omega), ct, getD_take _ _ _ hdp']; exact f3
      have hl2 := ((isWord_take c p hp2).1 hw).2
      exact hl2 k hk1 hk2

/-- P2.7 -/
theorem ends_canon (c : List Int) (p : Nat) (hp : 1 ≤ p) : ∀ (q at0 : Nat), c.length = at0 + q * p → (1 ≤ q → Duv (fun t => (c.drop at0).getD t 0) (q * p) p) →
    endsFrom at0 (c.drop at0) = (List.range q).map fun (i : Nat) => ((at0 + (i + 1) * p : Nat) : Int) := by
  intro q
  induction q with
  | zero =>
    intro at0 hn _
    rw [List.drop_eq_nil_of_le (by omega), endsFrom_nil]; rfl
  | succ q ih =>
    intro at0 hn hd
    have h := hd (by omega)
    have hlen : (c.drop at0).length = (q + 1) * p := by rw [List.length_drop]; omega
    have hL : IsLongest (c.drop at0) p := h.longest (by rw [hlen]; exact ⟨Nat.le_refl _, .inl rfl⟩)
    rw [endsFrom_step at0 _ p hL, List.drop_drop, ih (at0 + p) (by rw [Nat.succ_mul] at hn; omega) ?_, List.range_succ_eq_map]
    · simp only [List.map_cons, List.map_map, Nat.zero_add, Nat.one_mul]
      congr 1
      apply List.map_congr_left
      intro i hi
      simp only [Function.comp]
      congr 1
      rw [show (i.succ + 1) * p = p + (i + 1) * p by rw [Nat.succ_add, Nat.succ_mul]; omega]
      omega
    · intro hq
      have h1 : p ≤ q * p := Nat.le_mul_of_pos_left p hq
      have := h.drop (by rw [Nat.succ_mul]; omega)
      rw [show (q + 1) * p - p = q * p by rw [Nat.succ_mul]; omega] at this
      refine ⟨this.pos, this.le, fun t ht => ?_, this.lyn.congr fun t ht => ?_⟩
      · have := this.per t ht
        simp only [getD_drop] at this ⊢
        rw [show at0 + p + (t + p) = at0 + (p + (t + p)) by omega, show at0 + p + t = at0 + (p + t) by omega]; exact this
      · simp only [getD_drop]; congr 1; omega
theorem words_canon (l : List Int) (hl : l ≠ []) : words (canon l) = (List.range (l.length / period l)).map fun (i : Nat) => (((i + 1) * period l : Nat) : Int) := by
  have hp := period_spec l hl
  have hd := hp.dvd (cycPer_len l)
  have hq : l.length / period l * period l = l.length := by
    have := Nat.div_add_mod l.length (period l); rw [hd, Nat.mul_comm] at this; omega
  have := ends_canon (canon l) (period l) hp.1 (l.length / period l) 0 (by rw [canon_length, hq]; omega) (fun _ => by rw [hq]; exact canon_duv l hl)
  simpa [words] using this

end Go.Proofs.Ytdafpafoioejaaa

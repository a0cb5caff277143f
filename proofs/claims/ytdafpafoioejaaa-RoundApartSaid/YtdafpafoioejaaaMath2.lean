/- The least turned list: its order, the definition by search, and the search with two beginnings. No program in sight; no condition. -/
import Derived.Test.YtdafpafoioejaaaMath
namespace Go.Proofs.Ytdafpafoioejaaa
set_option linter.unusedVariables false

theorem cmp_swap (a b : List Int) : cmp b a = - cmp a b := by
  induction a generalizing b with
  | nil => cases b <;> simp [cmp]
  | cons x r ih =>
    cases b with
    | nil => simp [cmp]
    | cons y s =>
      simp only [cmp]
      by_cases h1 : x < y
      · have : ¬ y < x := by omega
        simp [h1, this]
      · by_cases h2 : y < x
        · simp [h1, h2]
        · simp [h1, h2, ih]
theorem lt_trans {a b c : List Int} (h1 : cmp a b = -1) (h2 : cmp b c = -1) : cmp a c = -1 := by
  induction a generalizing b c with
  | nil =>
    cases b with
    | nil => simp [cmp] at h1
    | cons y s => cases c with
                  | nil => simp [cmp] at h2
                  | cons z t => simp [cmp]
  | cons x r ih =>
    cases b with
    | nil => simp [cmp] at h1
    | cons y s =>
      cases c with
      | nil => simp [cmp] at h2
      | cons z t =>
        simp only [cmp] at *
        by_cases hxy : x < y
        · by_cases hyz : y < z
          · simp [show x < z by omega]
          · by_cases hzy : z < y
            · simp [hyz, hzy] at h2
            · simp [show x < z by omega]
        · by_cases hyx : y < x
          · simp [hxy, hyx] at h1
          · obtain rfl : x = y := by omega
            by_cases hyz : x < z
            · simp [hyz]
            · by_cases hzy : z < x
              · simp [hyz, hzy] at h2
              · simp [hyz, hzy] at h2 h1 ⊢
                exact ih h1 h2
theorem lt_irrefl (a : List Int) : cmp a a ≠ -1 := by rw [cmp_self]; decide
theorem lt_tri (a b : List Int) : cmp a b = -1 ∨ a = b ∨ cmp b a = -1 := by
  rcases cmp_range a b with h | h | h
  · exact .inl h
  · exact .inr (.inl (cmp_eq_zero.1 h))
  · right; right; rw [cmp_swap, h]
theorem not_lt {a b : List Int} (h : cmp a b ≠ -1) : cmp b a = -1 ∨ a = b := by
  rcases lt_tri a b with h1 | h1 | h1
  · exact absurd h1 h
  · exact .inr h1
  · exact .inl h1
theorem le_lt {a b c : List Int} (h1 : cmp b a ≠ -1) (h2 : cmp b c = -1) : cmp a c = -1 := by
  rcases not_lt h1 with h | h
  · exact lt_trans h h2
  · rw [← h]; exact h2
theorem lt_le {a b c : List Int} (h1 : cmp a b = -1) (h2 : cmp c b ≠ -1) : cmp a c = -1 := by
  rcases not_lt h2 with h | h
  · exact lt_trans h1 h
  · rw [h]; exact h1

/-- two lists alike up to position k, of which one is less there -/
theorem lt_at {a b : List Int} {k : Nat} (hk : a.take k = b.take k) (ha : k < a.length) (hb : k < b.length) (h : a[k] < b[k]) : cmp a b = -1 := by
  induction k generalizing a b with
  | zero =>
    have := cmp_drop_lt ha hb h
    simpa using this
  | succ k ih =>
    cases a with
    | nil => simp at ha
    | cons x r =>
      cases b with
      | nil => simp at hb
      | cons y s =>
        simp only [List.take_succ_cons, List.cons.injEq] at hk
        obtain ⟨hxy, hk⟩ := hk
        have ha' : k < r.length := by simpa using ha
        have hb' : k < s.length := by simpa using hb
        have h' : r[k] < s[k] := by simpa using h
        have := ih hk ha' hb' h'
        simp [cmp, hxy, this]

/-- k is where the least turned list begins, and nothing before it does -/
def IsLeast (l : List Int) (k : Nat) : Prop := k < l.length ∧ (∀ q, q < l.length → cmp (rot l q) (rot l k) ≠ -1) ∧ ∀ q, q < k → cmp (rot l k) (rot l q) = -1
theorem IsLeast.unique {l : List Int} {a b : Nat} (ha : IsLeast l a) (hb : IsLeast l b) : a = b := by
  rcases Nat.lt_trichotomy a b with h | h | h
  · exact absurd (hb.2.2 a h) (ha.2.1 b hb.1)
  · exact h
  · exact absurd (ha.2.2 b h) (hb.2.1 a ha.1)

def leastTo (l : List Int) : Nat → Nat
  | 0 => 0
  | k + 1 => if cmp (rot l k) (rot l (leastTo l k)) = -1 then k else leastTo l k
/-- where the least turned list begins -/
def least (l : List Int) : Nat := leastTo l l.length
theorem leastTo_spec (l : List Int) : ∀ k, 0 < k → leastTo l k < k ∧ (∀ q, q < k → cmp (rot l q) (rot l (leastTo l k)) ≠ -1) ∧ ∀ q, q < leastTo l k → cmp (rot l (leastTo l k)) (rot l q) = -1 := by
  intro k
  induction k with
  | zero => intro h; omega
  | succ k ih =>
    intro _
    by_cases hk : k = 0
    · subst hk
      simp [leastTo, cmp_self]
    · obtain ⟨h1, h2, h3⟩ := ih (by omega)
      unfold leastTo
      split
      · rename_i hc
        refine ⟨by omega, ?_, ?_⟩
        · intro q hq
          by_cases hqk : q = k
          · subst hqk; exact lt_irrefl _
          · intro hlt
            exact h2 q (by omega) (lt_trans hlt hc)
        · intro q hq
          exact lt_le hc (h2 q hq)
      · rename_i hc
        refine ⟨by omega, ?_, h3⟩
        intro q hq
        by_cases hqk : q = k
        · subst hqk; exact hc
        · exact h2 q (by omega)
theorem least_spec (l : List Int) (h : l ≠ []) : IsLeast l (least l) := by
  have := leastTo_spec l l.length (List.length_pos_iff.2 h)
  exact this
theorem least_nil : least [] = 0 := rfl
theorem least_lt (l : List Int) (h : l ≠ []) : least l < l.length := (least_spec l h).1

/-! ### two beginnings -/
/-- element number t of the list turned by p -/
def at_ (l : List Int) (p t : Nat) : Int := l.getD ((p + t) % l.length) 0
theorem rot_getElem (l : List Int) (p t : Nat) (hp : p < l.length) (ht : t < l.length) : (rot l p)[t]'(by rw [rot_length]; exact ht) = at_ l p t := by
  have h := rot_get l p t hp ht
  rw [List.getElem?_eq_getElem (by rw [rot_length]; exact ht)] at h
  unfold at_
  rw [List.getD_eq_getElem?_getD, ← h]; rfl
/-- some turned list is ahead of that by p -/
def Beaten (l : List Int) (p : Nat) : Prop := ∃ q, q < l.length ∧ cmp (rot l q) (rot l p) = -1
structure Two (l : List Int) (i j s : Nat) : Prop where
  ne : i ≠ j
  same : ∀ t, t < s → at_ l i t = at_ l j t
  beaten : ∀ p, p < i ∨ p < j → p < l.length → p ≠ i → p ≠ j → Beaten l p
theorem Two.symm {l : List Int} {i j s : Nat} (h : Two l i j s) : Two l j i s :=
  ⟨h.ne.symm, fun t ht => (h.same t ht).symm, fun p hp hl h1 h2 => h.beaten p hp.symm hl h2 h1⟩
theorem Two.start (l : List Int) : Two l 0 1 0 := ⟨by decide, fun t h => absurd h (Nat.not_lt_zero t), fun p hp _ h1 h2 => by omega⟩
theorem Two.more {l : List Int} {i j s : Nat} (h : Two l i j s) (he : at_ l i s = at_ l j s) : Two l i j (s + 1) :=
  ⟨h.ne, fun t ht => by
    by_cases e : t = s
    · subst e; exact he
    · exact h.same t (by omega), h.beaten⟩
theorem at_mod (l : List Int) (p t : Nat) (hn : 0 < l.length) : at_ l (p % l.length) t = at_ l p t := by
  unfold at_; rw [Nat.mod_add_mod]
/-- the beginnings from i up to where it failed are beaten -/
theorem Two.fail {l : List Int} {i j s : Nat} (h : Two l i j s) (hi : i < l.length) (hj : j < l.length) (hs : s < l.length) (hg : at_ l j s < at_ l i s) : ∀ u, u ≤ s → i + u < l.length → Beaten l (i + u) := by
  intro u hu hl
  have hn : 0 < l.length := by omega
  have hm : (j + u) % l.length < l.length := Nat.mod_lt _ hn
  refine ⟨(j + u) % l.length, hm, ?_⟩
  have e1 : ∀ t, at_ l ((j + u) % l.length) t = at_ l j (u + t) := by
    intro t; rw [at_mod l _ t hn]; unfold at_; rw [Nat.add_assoc]
  have e2 : ∀ t, at_ l (i + u) t = at_ l i (u + t) := by
    intro t; unfold at_; rw [Nat.add_assoc]
  refine lt_at (k := s - u) ?_ (by rw [rot_length]; omega) (by rw [rot_length]; omega) ?_
  · apply List.ext_getElem
    · simp [rot_length]
    · intro t h1 h2
      simp [rot_length] at h1
      rw [List.getElem_take, List.getElem_take, rot_getElem l _ t hm (by omega), rot_getElem l _ t hl (by omega), e1, e2]
      exact (h.same (u + t) (by omega)).symm
  · rw [rot_getElem l _ _ hm (by omega), rot_getElem l _ _ hl (by omega), e1, e2, show u + (s - u) = s by omega]
    exact hg
theorem Two.skip {l : List Int} {i j s : Nat} (h : Two l i j s) (hi : i < l.length) (hj : j < l.length) (hs : s < l.length) (hg : at_ l j s < at_ l i s) (hne : i + (s + 1) ≠ j) : Two l (i + (s + 1)) j 0 := by
  refine ⟨hne, fun t ht => absurd ht (Nat.not_lt_zero t), fun p hp hl h1 h2 => ?_⟩
  by_cases hpi : p < i ∨ (p < j ∧ p ≠ i ∧ ¬ (i ≤ p ∧ p ≤ i + s))
  · exact h.beaten p (by omega) hl (by omega) h2
  · have hu : i ≤ p ∧ p ≤ i + s := by omega
    have := h.fail hi hj hs hg (p - i) (by omega) (by omega)
    rwa [show i + (p - i) = p by omega] at this
theorem Two.skipEq {l : List Int} {i j s : Nat} (h : Two l i j s) (hi : i < l.length) (hj : j < l.length) (hs : s < l.length) (hg : at_ l j s < at_ l i s) (he : i + (s + 1) = j) : Two l j (j + 1) 0 := by
  refine ⟨by omega, fun t ht => absurd ht (Nat.not_lt_zero t), fun p hp hl h1 h2 => ?_⟩
  by_cases hpi : p < i
  · exact h.beaten p (by omega) hl (by omega) h1
  · have := h.fail hi hj hs hg (p - i) (by omega) (by omega)
    rwa [show i + (p - i) = p by omega] at this
theorem not_beaten (l : List Int) (h : l ≠ []) : ¬ Beaten l (least l) := by
  rintro ⟨q, hq, hc⟩
  exact (least_spec l h).2.1 q hq hc
/-- one of the two has gone behind the end: the other one it is -/
theorem Two.out {l : List Int} {i j s : Nat} (h : Two l i j s) (hl : l ≠ []) (hi : l.length ≤ i) : least l = j := by
  have h1 := least_lt l hl
  exact Classical.byContradiction fun hne => not_beaten l hl (h.beaten _ (by omega) h1 (by omega) hne)
/-- the two turned lists are the same: the first one of them it is -/
theorem Two.all {l : List Int} {i j s : Nat} (h : Two l i j s) (hi : i < l.length) (hj : j < l.length) (hs : l.length ≤ s) (hij : i < j) : least l = i := by
  have hl : l ≠ [] := by intro e; subst e; simp at hi
  have hn : 0 < l.length := by omega
  -- what is turned by j - i more is the same
  have per : ∀ p, i ≤ p → p + (j - i) < l.length → rot l p = rot l (p + (j - i)) := by
    intro p hp hp2
    apply List.ext_getElem
    · simp [rot_length]
    · intro t h1 h2
      rw [rot_length] at h1
      rw [rot_getElem l _ t (by omega) h1, rot_getElem l _ t hp2 h1]
      have e1 : at_ l p t = at_ l i ((p - i + t) % l.length) := by
        unfold at_; rw [Nat.add_mod_mod, show i + (p - i + t) = p + t by omega]
      have e2 : at_ l (p + (j - i)) t = at_ l j ((p - i + t) % l.length) := by
        unfold at_; rw [Nat.add_mod_mod, show j + (p - i + t) = p + (j - i) + t by omega]
      rw [e1, e2]
      exact h.same _ (Nat.lt_of_lt_of_le (Nat.mod_lt _ hn) hs)
  have hlt := least_lt l hl
  have hsp := least_spec l hl
  by_cases h1 : least l < j
  · by_cases h2 : least l = i
    · exact h2
    · exact absurd (h.beaten _ (.inr h1) hlt h2 (by omega)) (not_beaten l hl)
  · have e := per (least l - (j - i)) (by omega) (by omega)
    rw [show least l - (j - i) + (j - i) = least l by omega] at e
    have := hsp.2.2 (least l - (j - i)) (by omega)
    rw [e] at this
    exact absurd this (lt_irrefl _)

end Go.Proofs.Ytdafpafoioejaaa

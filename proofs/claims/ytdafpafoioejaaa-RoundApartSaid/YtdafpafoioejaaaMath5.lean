/- Words: by definition, as Duval finds them, and what they have of a least turned list. No program in sight; no condition. -/
import Derived.Test.YtdafpafoioejaaaMath4
namespace Go.Proofs.Ytdafpafoioejaaa
set_option linter.unusedVariables false

/-- less than all its turned ones -/
def IsWord (w : List Int) : Prop := 1 ≤ w.length ∧ ∀ k, 1 ≤ k → k < w.length → cmp w (rot w k) = -1
/-- the same of the n numbers from 'g 0' on: each later beginning is greater, and it shows before the end -/
def Lyn (g : Nat → Int) (n : Nat) : Prop := ∀ k, 1 ≤ k → k < n → ∃ d, k + d < n ∧ (∀ t, t < d → g t = g (k + t)) ∧ g d < g (k + d)

/-- two lists of one length: the less one is less at a position -/
theorem lt_iff_at {a b : List Int} (h : a.length = b.length) : cmp a b = -1 ↔ ∃ d, d < a.length ∧ (∀ t, t < d → a.getD t 0 = b.getD t 0) ∧ a.getD d 0 < b.getD d 0 := by
  induction a generalizing b with
  | nil => cases b <;> simp [cmp] at *
  | cons x r ih =>
    cases b with
    | nil => simp at h
    | cons y s =>
      simp only [List.length_cons, Nat.add_right_cancel_iff] at h
      simp only [cmp]
      by_cases h1 : x < y
      · simp only [h1, if_true, true_iff]
        exact ⟨0, by simp, fun t ht => absurd ht (Nat.not_lt_zero t), by simpa using h1⟩
      · by_cases h2 : y < x
        · simp only [h1, h2, if_true, if_false]
          constructor
          · intro hc; simp at hc
          · rintro ⟨d, hd, he, hlt⟩
            cases d with
            | zero => simp at hlt; omega
            | succ d => have := he 0 (by omega); simp at this; omega
        · obtain rfl : x = y := by omega
          simp only [h1, if_false]
          rw [ih h]
          constructor
          · rintro ⟨d, hd, he, hlt⟩
            refine ⟨d + 1, by simpa using hd, fun t ht => ?_, by simpa using hlt⟩
            cases t with
            | zero => rfl
            | succ t => simpa using he t (by omega)
          · rintro ⟨d, hd, he, hlt⟩
            cases d with
            | zero => simp at hlt
            | succ d => exact ⟨d, by simpa using hd, fun t ht => by simpa using he (t + 1) (by omega), by simpa using hlt⟩

theorem rot_getD (w : List Int) (k t : Nat) (hk : k < w.length) (ht : t < w.length) : (rot w k).getD t 0 = cyc w (k + t) := by
  have h := rot_getElem w k t hk ht
  rw [at_cyc] at h
  rw [← h, List.getD_eq_getElem?_getD, List.getElem?_eq_getElem (by rw [rot_length]; exact ht)]; rfl
theorem cyc_low (w : List Int) (t : Nat) (ht : t < w.length) : cyc w t = w.getD t 0 := by unfold cyc; rw [Nat.mod_eq_of_lt ht]
theorem cyc_high (w : List Int) (t : Nat) (h1 : w.length ≤ t) (h2 : t < 2 * w.length) : cyc w t = w.getD (t - w.length) 0 := by
  unfold cyc; rw [Nat.mod_eq_sub_mod h1, Nat.mod_eq_of_lt (by omega)]
theorem isWord_iff (w : List Int) : IsWord w ↔ 1 ≤ w.length ∧ Lyn (fun t => w.getD t 0) w.length := by
  constructor
  · rintro ⟨h1, h⟩
    refine ⟨h1, fun k hk hkn => ?_⟩
    obtain ⟨d, hd, he, hlt⟩ := (lt_iff_at (rot_length w k).symm).1 (h k hk hkn)
    by_cases hdk : k + d < w.length
    · refine ⟨d, hdk, fun t ht => ?_, ?_⟩
      · have := he t ht
        rwa [rot_getD w k t hkn (by omega), cyc_low w _ (by omega)] at this
      · have := hlt
        rwa [rot_getD w k d hkn hd, cyc_low w _ hdk] at this
    · -- the list ends as it begins: then it is not less than the one that is turned by the other part
      exfalso
      obtain ⟨d', hd', he', hlt'⟩ := (lt_iff_at (rot_length w (w.length - k)).symm).1 (h (w.length - k) (by omega) (by omega))
      have hlt2 : (w.getD d 0) < w.getD (k + d - w.length) 0 := by
        have := hlt
        rwa [rot_getD w k d hkn hd, cyc_high w _ (by omega) (by omega)] at this
      have he2 : ∀ t, t < d → k + t < w.length → w.getD t 0 = w.getD (k + t) 0 := by
        intro t ht h3
        have := he t ht
        rwa [rot_getD w k t hkn (by omega), cyc_low w _ h3] at this
      have he3 : ∀ t, t < d → w.length ≤ k + t → w.getD t 0 = w.getD (k + t - w.length) 0 := by
        intro t ht h3
        have := he t ht
        rwa [rot_getD w k t hkn (by omega), cyc_high w _ h3 (by omega)] at this
      -- d = (n - k) + x, and x is where the two differ
      have hx : ∃ x, d = w.length - k + x := ⟨d - (w.length - k), by omega⟩
      obtain ⟨x, rfl⟩ := hx
      rw [show k + (w.length - k + x) - w.length = x by omega] at hlt2
      -- he' and hlt' at d'
      have g1 : ∀ t, t < w.length → (rot w (w.length - k)).getD t 0 = if t < k then w.getD (w.length - k + t) 0 else w.getD (t - k) 0 := by
        intro t ht
        rw [rot_getD w _ t (by omega) ht]
        split
        · rw [cyc_low w _ (by omega)]
        · rw [cyc_high w _ (by omega) (by omega)]; congr 1; omega
      rcases Nat.lt_trichotomy d' x with h3 | h3 | h3
      · rw [g1 d' hd', if_pos (by omega)] at hlt'
        have := he3 (w.length - k + d') (by omega) (by omega)
        rw [show k + (w.length - k + d') - w.length = d' by omega] at this
        omega
      · subst h3
        rw [g1 d' hd', if_pos (by omega)] at hlt'
        omega
      · have h4 := he' x h3
        rw [g1 x (by omega), if_pos (by omega)] at h4
        omega
  · rintro ⟨h1, h⟩
    refine ⟨h1, fun k hk hkn => ?_⟩
    obtain ⟨d, hd, he, hlt⟩ := h k hk hkn
    refine (lt_iff_at (rot_length w k).symm).2 ⟨d, by omega, fun t ht => ?_, ?_⟩
    · rw [rot_getD w k t hkn (by omega), cyc_low w _ (by omega)]; exact he t ht
    · rw [rot_getD w k d hkn (by omega), cyc_low w _ hd]; exact hlt

theorem getD_take (s : List Int) (m t : Nat) (h : t < m) : (s.take m).getD t 0 = s.getD t 0 := by
  rw [List.getD_eq_getElem?_getD, List.getElem?_take_of_lt h, List.getD_eq_getElem?_getD]
theorem getD_drop (s : List Int) (m t : Nat) : (s.drop m).getD t 0 = s.getD (m + t) 0 := by
  rw [List.getD_eq_getElem?_getD, List.getElem?_drop, List.getD_eq_getElem?_getD]
theorem Lyn.congr {g h : Nat → Int} {n : Nat} (hl : Lyn g n) (he : ∀ t, t < n → g t = h t) : Lyn h n := by
  intro k h1 h2
  obtain ⟨d, h3, h4, h5⟩ := hl k h1 h2
  refine ⟨d, h3, fun t ht => ?_, ?_⟩
  · rw [← he t (by omega), ← he (k + t) (by omega)]; exact h4 t ht
  · rw [← he d (by omega), ← he _ h3]; exact h5
theorem isWord_take (s : List Int) (m : Nat) (hm : m ≤ s.length) : IsWord (s.take m) ↔ 1 ≤ m ∧ Lyn (fun t => s.getD t 0) m := by
  rw [isWord_iff, List.length_take, Nat.min_eq_left hm]
  constructor
  · rintro ⟨h1, h2⟩; exact ⟨h1, h2.congr fun t ht => getD_take s m t ht⟩
  · rintro ⟨h1, h2⟩; exact ⟨h1, h2.congr fun t ht => (getD_take s m t ht).symm⟩
theorem lyn_one (g : Nat → Int) : Lyn g 1 := fun k h1 h2 => by omega

/-! ### the longest word that a list begins with -/
open Classical in
noncomputable def longUp (s : List Int) : Nat → Nat
  | 0 => 0
  | m + 1 => if IsWord (s.take (m + 1)) then m + 1 else longUp s m
noncomputable def longest (s : List Int) : Nat := longUp s s.length
/-- m is it -/
def IsLongest (s : List Int) (m : Nat) : Prop := m ≤ s.length ∧ IsWord (s.take m) ∧ ∀ q, q ≤ s.length → IsWord (s.take q) → q ≤ m
theorem IsLongest.unique {s : List Int} {a b : Nat} (h : IsLongest s a) (h' : IsLongest s b) : a = b :=
  Nat.le_antisymm (h'.2.2 a h.1 h.2.1) (h.2.2 b h'.1 h'.2.1)
theorem longUp_spec (s : List Int) : ∀ m, 1 ≤ m → m ≤ s.length → longUp s m ≤ m ∧ IsWord (s.take (longUp s m)) ∧ ∀ q, q ≤ m → IsWord (s.take q) → q ≤ longUp s m := by
  intro m
  induction m with
  | zero => intro h; omega
  | succ m ih =>
    intro _ hm
    unfold longUp
    split
    · rename_i h
      exact ⟨Nat.le_refl _, h, fun q hq _ => hq⟩
    · rename_i h
      by_cases hm0 : m = 0
      · subst hm0
        exact absurd ((isWord_take s 1 hm).2 ⟨Nat.le_refl _, lyn_one _⟩) h
      · obtain ⟨h1, h2, h3⟩ := ih (by omega) (by omega)
        refine ⟨by omega, h2, fun q hq hw => ?_⟩
        by_cases e : q = m + 1
        · subst e; exact absurd hw h
        · exact h3 q (by omega) hw
theorem longest_spec (s : List Int) (h : s ≠ []) : IsLongest s (longest s) := longUp_spec s s.length (List.length_pos_iff.2 h) (Nat.le_refl _)
theorem IsLongest.pos {s : List Int} {m : Nat} (h : IsLongest s m) : 1 ≤ m := by
  have := h.2.1.1; rw [List.length_take] at this; omega

noncomputable def wordsF : Nat → Nat → List Int → List Int
  | 0, _, _ => []
  | f + 1, at0, s => if s = [] then [] else ((at0 + longest s : Nat) : Int) :: wordsF f (at0 + longest s) (s.drop (longest s))
/-- the ends of the words of what is left, which begins at 'at0' -/
noncomputable def endsFrom (at0 : Nat) (s : List Int) : List Int := wordsF s.length at0 s
/-- P2.3 -/
noncomputable def words (l : List Int) : List Int := endsFrom 0 l
theorem wordsF_two : ∀ (f f' : Nat) (at0 : Nat) (s : List Int), s.length ≤ f → s.length ≤ f' → wordsF f at0 s = wordsF f' at0 s := by
  intro f
  induction f with
  | zero =>
    intro f' at0 s h h'
    have : s = [] := List.eq_nil_of_length_eq_zero (by omega)
    subst this
    cases f' <;> simp [wordsF]
  | succ f ih =>
    intro f' at0 s h h'
    by_cases hs : s = []
    · subst hs; cases f' <;> simp [wordsF]
    · have hl := List.length_pos_iff.2 hs
      cases f' with
      | zero => omega
      | succ f' =>
        simp only [wordsF, if_neg hs]
        have hp := (longest_spec s hs).pos
        rw [ih f' _ _ (by simp; omega) (by simp; omega)]
theorem wordsF_fuel (f : Nat) (at0 : Nat) (s : List Int) (h : s.length ≤ f) : wordsF f at0 s = wordsF s.length at0 s := wordsF_two f _ at0 s h (Nat.le_refl _)
theorem endsFrom_nil (at0 : Nat) : endsFrom at0 [] = [] := rfl
theorem endsFrom_step (at0 : Nat) (s : List Int) (m : Nat) (h : IsLongest s m) : endsFrom at0 s = ((at0 + m : Nat) : Int) :: endsFrom (at0 + m) (s.drop m) := by
  have hp := h.pos
  have hs : s ≠ [] := by intro e; subst e; have := h.1; simp at this; omega
  obtain rfl := IsLongest.unique h (longest_spec s hs)
  obtain ⟨n, hn⟩ : ∃ n, s.length = n + 1 := ⟨s.length - 1, by have := List.length_pos_iff.2 hs; omega⟩
  unfold endsFrom
  rw [hn]
  simp only [wordsF, if_neg hs]
  congr 1
  exact wordsF_fuel n _ _ (by simp; omega)
theorem endsFrom_length (s : List Int) : ∀ at0, (endsFrom at0 s).length ≤ s.length := by
  generalize hn : s.length = n
  induction n using Nat.strongRecOn generalizing s with
  | _ n ih =>
    intro at0
    by_cases hs : s = []
    · subst hs; simp [endsFrom_nil]
    · have h := longest_spec s hs
      have hp := h.pos
      rw [endsFrom_step at0 s _ h]
      have := ih (s.drop (longest s)).length (by simp; have := List.length_pos_iff.2 hs; omega) _ rfl (at0 + longest s)
      simp at this ⊢
      have := h.1
      omega

/-! ### Duval -/
/-- the first J numbers have the period p, and the first p of them are a word -/
structure Duv (g : Nat → Int) (J p : Nat) : Prop where
  pos : 1 ≤ p
  le : p ≤ J
  per : ∀ t, t + p < J → g (t + p) = g t
  lyn : Lyn g p
theorem Duv.start (g : Nat → Int) : Duv g 1 1 := ⟨Nat.le_refl _, Nat.le_refl _, fun t h => by omega, lyn_one g⟩
theorem Duv.rem {g : Nat → Int} {J p : Nat} (h : Duv g J p) : ∀ q r, r + q * p < J → g (r + q * p) = g r := by
  intro q
  induction q with
  | zero => intro r _; simp
  | succ q ih =>
    intro r hr
    rw [Nat.succ_mul, ← Nat.add_assoc] at hr ⊢
    rw [h.per _ hr, ih r (by omega)]
theorem Duv.same {g : Nat → Int} {J p : Nat} (h : Duv g J p) (he : g (J - p) = g J) : Duv g (J + 1) p := by
  refine ⟨h.pos, by have := h.le; omega, fun t ht => ?_, h.lyn⟩
  by_cases e : t + p = J
  · rw [e, ← he]; congr 1; omega
  · exact h.per t (by omega)
theorem Duv.more {g : Nat → Int} {J p : Nat} (h : Duv g J p) (hlt : g (J - p) < g J) : Duv g (J + 1) (J + 1) := by
  have hp := h.pos; have hle := h.le
  refine ⟨by omega, Nat.le_refl _, fun t ht => by omega, fun k hk hkn => ?_⟩
  have hq : k % p + k / p * p = k := by rw [Nat.add_comm, Nat.mul_comm]; exact Nat.div_add_mod k p
  have hr : k % p < p := Nat.mod_lt _ hp
  generalize k % p = r at *
  generalize k / p = q at *
  by_cases hr0 : r = 0
  · subst hr0
    refine ⟨J - k, by omega, fun t ht => ?_, ?_⟩
    · have := h.rem q t (by omega)
      rw [show k + t = t + q * p by omega]; exact this.symm
    · rw [show k + (J - k) = J by omega]
      -- J - k and J - p differ by a multiple of p
      have e : g (J - k) = g (J - p) := by
        cases q with
        | zero => omega
        | succ q =>
          rw [Nat.succ_mul] at hq
          have := h.rem q (J - k) (by omega)
          rw [show J - k + q * p = J - p by omega] at this
          exact this.symm
      rw [e]; exact hlt
  · obtain ⟨d, hd, he, hl⟩ := h.lyn r (by omega) hr
    by_cases hkd : k + d < J
    · refine ⟨d, by omega, fun t ht => ?_, ?_⟩
      · have := h.rem q (r + t) (by omega)
        rw [show k + t = r + t + q * p by omega, this]; exact he t ht
      · have := h.rem q (r + d) (by omega)
        rw [show k + d = r + d + q * p by omega, this]; exact hl
    · -- it shows at J
      refine ⟨J - k, by omega, fun t ht => ?_, ?_⟩
      · have := h.rem q (r + t) (by omega)
        rw [show k + t = r + t + q * p by omega, this]; exact he t (by omega)
      · rw [show k + (J - k) = J by omega]
        cases q with
        | zero => omega
        | succ q =>
          rw [Nat.succ_mul] at hq
          have e := h.rem q (r + (J - k)) (by omega)
          rw [show r + (J - k) + q * p = J - p by omega] at e
          have : g (J - k) ≤ g (r + (J - k)) := by
            by_cases e2 : J - k = d
            · rw [e2]; omega
            · have := he (J - k) (by omega); omega
          omega
/-- the search ends at J: the list ends there, or it falls there -/
def Ends (g : Nat → Int) (n J p : Nat) : Prop := J ≤ n ∧ (J = n ∨ (J < n ∧ g J < g (J - p)))
theorem Duv.longest {s : List Int} {J p : Nat} (h : Duv (fun t => s.getD t 0) J p) (he : Ends (fun t => s.getD t 0) s.length J p) : IsLongest s p := by
  have hp := h.pos; have hle := h.le; have hJ := he.1
  refine ⟨by omega, (isWord_take s p (by omega)).2 ⟨hp, h.lyn⟩, fun m hm hw => ?_⟩
  obtain ⟨-, hl⟩ := (isWord_take s m hm).1 hw
  refine Classical.byContradiction fun hc => ?_
  obtain ⟨d, hd, hs, hlt⟩ := hl p hp (by omega)
  by_cases h1 : p + d < J
  · have := h.per d (by omega)
    simp only at this hlt
    rw [Nat.add_comm] at hlt
    omega
  · rcases he.2 with h2 | ⟨h2, h3⟩
    · omega
    · simp only at h3 hs hlt
      by_cases h4 : p + d = J
      · rw [h4, show d = J - p by omega] at hlt; omega
      · have := hs (J - p) (by omega)
        rw [show p + (J - p) = J by omega] at this
        omega
theorem Duv.drop {g : Nat → Int} {J p : Nat} (h : Duv g J p) (h2 : p ≤ J - p) : Duv (fun t => g (p + t)) (J - p) p := by
  have hp := h.pos; have hle := h.le
  refine ⟨hp, h2, fun t ht => ?_, h.lyn.congr fun t ht => ?_⟩
  · have := h.per (p + t) (by omega); rwa [Nat.add_assoc] at this
  · have := h.per t (by omega); rw [Nat.add_comm] at this; exact this.symm
theorem Ends.drop {g : Nat → Int} {n J p : Nat} (h : Ends g n J p) (h2 : p ≤ J - p) (hp : 1 ≤ p) : Ends (fun t => g (p + t)) (n - p) (J - p) p := by
  have h1 := h.1
  refine ⟨by omega, ?_⟩
  rcases h.2 with h3 | ⟨h3, h4⟩
  · exact .inl (by omega)
  · refine .inr ⟨by omega, ?_⟩
    simp only
    rw [show p + (J - p) = J by omega, show p + (J - p - p) = J - p by omega]; exact h4

end Go.Proofs.Ytdafpafoioejaaa

/- What the classes have of each other: each place in one group, groups and heads ascending, keys apart. No program in sight; no condition. -/
import Derived.Test.YtdafpafoioejaaaMath7
namespace Go.Proofs.Ytdafpafoioejaaa
set_option linter.unusedVariables false

/-- how many places the groups hold -/
def tot (out : List (List Int)) : Nat := (out.map List.length).sum
theorem tot_set (out : List (List Int)) (x : List Int) : ∀ k, k < out.length → tot (out.set k x) + (ln out k).length = tot out + x.length := by
  induction out with
  | nil => intro k h; simp at h
  | cons y r ih =>
    intro k h
    cases k with
    | zero => simp [tot, ln]; omega
    | succ k =>
      have := ih k (by simpa using h)
      simp [tot, ln] at this ⊢; omega
theorem tot_snoc (out : List (List Int)) (x : List Int) : tot (out ++ [x]) = tot out + x.length := by simp [tot]
theorem tot_take (out : List (List Int)) (i : Nat) (h : i < out.length) : tot (out.take (i + 1)) = tot (out.take i) + (ln out i).length := by
  rw [List.take_add_one, List.getElem?_eq_getElem h]
  have : ln out i = out[i] := by unfold ln; rw [List.getD_eq_getElem?_getD, List.getElem?_eq_getElem h]; rfl
  rw [this]; exact tot_snoc _ _

theorem tot_take_le (out : List (List Int)) : ∀ i, tot (out.take i) ≤ tot out := by
  induction out with
  | nil => intro i; simp [tot]
  | cons y r ih =>
    intro i
    cases i with
    | zero => simp [tot]
    | succ i => have := ih i; simp [tot] at this ⊢; omega

structure Cls (ls out : List (List Int)) (i : Nat) : Prop where
  good : Good out i
  asc : ∀ k, k < out.length → ∀ p q, p < q → q < (ln out k).length → (ln out k).getD p 0 < (ln out k).getD q 0
  heads : ∀ k k', k < k' → k' < out.length → (ln out k).getD 0 0 < (ln out k').getD 0 0
  key : ∀ k, k < out.length → ∀ x ∈ ln out k, canon (ln ls x.toNat) = ln (keys ls out) k
  uniq : ∀ k k', k < k' → k' < out.length → ln (keys ls out) k ≠ ln (keys ls out) k'
  cover : ∀ j, j < i → ∃ k p, k < out.length ∧ p < (ln out k).length ∧ (ln out k).getD p 0 = (j : Int)
  count : tot out = i
theorem getD_mem {l : List Int} {p : Nat} (h : p < l.length) : l.getD p 0 ∈ l := by
  rw [List.getD_eq_getElem?_getD, List.getElem?_eq_getElem h]; exact List.getElem_mem h
theorem getD_app_lt {l r : List Int} {p : Nat} (h : p < l.length) : (l ++ r).getD p 0 = l.getD p 0 := by
  rw [List.getD_eq_getElem?_getD, List.getElem?_append_left h, List.getD_eq_getElem?_getD]
theorem getD_app_eq {l : List Int} {x : Int} : (l ++ [x]).getD l.length 0 = x := by
  rw [List.getD_eq_getElem?_getD]; simp
theorem cls_place {ls out : List (List Int)} {i : Nat} (h : Cls ls out i) : Cls ls (place ls out i) (i + 1) := by
  have hg := good_place (ls := ls) h.good
  by_cases hlt : firstOf (keys ls out) (canon (ln ls i)) < out.length
  · have hk := firstOf_spec (ks := keys ls out) (c := canon (ln ls i)) (by rw [keys_length]; exact hlt)
    have e : place ls out i = out.set (firstOf (keys ls out) (canon (ln ls i))) (ln out (firstOf (keys ls out) (canon (ln ls i))) ++ [(i : Int)]) := by unfold place; rw [if_pos hlt]
    rw [e] at hg ⊢
    generalize firstOf (keys ls out) (canon (ln ls i)) = k at *
    have hne := (h.good k hlt).1
    have h0 : 0 < (ln out k).length := List.length_pos_iff.2 hne
    have hks := keys_set (ls := ls) h.good hlt (i : Int)
    have hd : ∀ j, (ln (out.set k (ln out k ++ [(i : Int)])) j).getD 0 0 = (ln out j).getD 0 0 := by
      intro j
      by_cases ej : j = k
      · subst ej; rw [ln_set_self hlt, getD_app_lt h0]
      · rw [ln_set_ne ej]
    refine ⟨hg, fun j hj p q hpq hq => ?_, fun j j' hjj hj' => ?_, fun j hj x hx => ?_, fun j j' hjj hj' => ?_, fun j hj => ?_, ?_⟩
    · rw [List.length_set] at hj
      by_cases ej : j = k
      · subst ej
        rw [ln_set_self hlt] at hq ⊢
        rw [List.length_append] at hq
        simp only [List.length_cons, List.length_nil] at hq
        by_cases hq2 : q < (ln out j).length
        · rw [getD_app_lt hq2, getD_app_lt (by omega)]; exact h.asc j hj p q hpq hq2
        · obtain rfl : q = (ln out j).length := by omega
          rw [getD_app_eq, getD_app_lt hpq]
          exact ((h.good j hj).2 _ (getD_mem hpq)).2
      · rw [ln_set_ne ej] at hq ⊢; exact h.asc j hj p q hpq hq
    · rw [List.length_set] at hj'
      rw [hd, hd]; exact h.heads j j' hjj hj'
    · rw [List.length_set] at hj
      rw [hks]
      by_cases ej : j = k
      · subst ej
        rw [ln_set_self hlt] at hx
        rcases List.mem_append.1 hx with h1 | h1
        · exact h.key j hj x h1
        · simp at h1; subst h1; rw [hk]; simp
      · rw [ln_set_ne ej] at hx; exact h.key j hj x hx
    · rw [List.length_set] at hj'
      rw [hks]; exact h.uniq j j' hjj hj'
    · by_cases ej : j = i
      · subst ej
        exact ⟨k, (ln out k).length, by rw [List.length_set]; exact hlt, by rw [ln_set_self hlt]; simp, by rw [ln_set_self hlt]; exact getD_app_eq⟩
      · obtain ⟨k', p, h1, h2, h3⟩ := h.cover j (by omega)
        by_cases ek : k' = k
        · subst ek
          exact ⟨k', p, by rw [List.length_set]; exact h1, by rw [ln_set_self hlt, List.length_append]; omega, by rw [ln_set_self hlt, getD_app_lt h2]; exact h3⟩
        · exact ⟨k', p, by rw [List.length_set]; exact h1, by rw [ln_set_ne ek]; exact h2, by rw [ln_set_ne ek]; exact h3⟩
    · have := tot_set out (ln out k ++ [(i : Int)]) k hlt
      have hc := h.count
      rw [List.length_append] at this
      simp only [List.length_cons, List.length_nil] at this
      omega
  · have e : place ls out i = out ++ [[(i : Int)]] := by unfold place; rw [if_neg hlt]
    have hno : ∀ j, j < out.length → ln (keys ls out) j ≠ canon (ln ls i) := fun j hj => firstOf_lt_ne (by omega)
    rw [e] at hg ⊢
    clear e hlt
    have hks := keys_snoc ls out i
    have hl : (out ++ [[(i : Int)]]).length = out.length + 1 := by simp
    have kl := keys_length ls out
    have hk1 : ∀ j, j < out.length → ln (keys ls (out ++ [[(i : Int)]])) j = ln (keys ls out) j := fun j hj => by rw [hks]; exact ln_snoc_lt (by rw [kl]; exact hj)
    have hk2 : ln (keys ls (out ++ [[(i : Int)]])) out.length = canon (ln ls i) := by rw [hks, ← kl]; exact ln_snoc_eq
    refine ⟨hg, fun j hj p q hpq hq => ?_, fun j j' hjj hj' => ?_, fun j hj x hx => ?_, fun j j' hjj hj' => ?_, fun j hj => ?_, ?_⟩
    · rw [hl] at hj
      by_cases ej : j < out.length
      · rw [ln_snoc_lt ej] at hq ⊢; exact h.asc j ej p q hpq hq
      · obtain rfl : j = out.length := by omega
        rw [ln_snoc_eq] at hq; simp at hq; omega
    · rw [hl] at hj'
      rw [ln_snoc_lt (by omega)]
      by_cases ej : j' < out.length
      · rw [ln_snoc_lt ej]; exact h.heads j j' hjj ej
      · obtain rfl : j' = out.length := by omega
        rw [ln_snoc_eq]
        have := (h.good j hjj)
        exact (this.2 _ (getD_mem (List.length_pos_iff.2 this.1))).2
    · rw [hl] at hj
      by_cases ej : j < out.length
      · rw [ln_snoc_lt ej] at hx; rw [hk1 j ej]; exact h.key j ej x hx
      · obtain rfl : j = out.length := by omega
        rw [ln_snoc_eq] at hx; simp at hx; subst hx; rw [hk2]; simp
    · rw [hl] at hj'
      rw [hk1 j (by omega)]
      by_cases ej : j' < out.length
      · rw [hk1 j' ej]; exact h.uniq j j' hjj ej
      · obtain rfl : j' = out.length := by omega
        rw [hk2]; exact hno j hjj
    · by_cases ej : j = i
      · subst ej; exact ⟨out.length, 0, by rw [hl]; omega, by rw [ln_snoc_eq]; simp, by rw [ln_snoc_eq]; rfl⟩
      · obtain ⟨k', p, h1, h2, h3⟩ := h.cover j (by omega)
        exact ⟨k', p, by rw [hl]; omega, by rw [ln_snoc_lt h1]; exact h2, by rw [ln_snoc_lt h1]; exact h3⟩
    · rw [tot_snoc, h.count]; rfl
theorem cls_to (ls : List (List Int)) : ∀ i, Cls ls (classesTo ls i) i
  | 0 => ⟨good_classesTo ls 0, fun k h => by simp [classesTo] at h, fun k k' h h' => by simp [classesTo] at h', fun k h => by simp [classesTo] at h, fun k k' h h' => by simp [classesTo] at h', fun j h => by omega, rfl⟩
  | i + 1 => cls_place (cls_to ls i)
theorem cls_classes (ls : List (List Int)) : Cls ls (classes ls) ls.length := cls_to ls _

/-- what stands behind the walk's place (i, k) is marked with its group's number, nothing else -/
def Bef (q p i k : Nat) : Prop := q < i ∨ (q = i ∧ p < k)
def Mk (out : List (List Int)) (g : List Int) (n i k : Nat) : Prop :=
  g.length = n ∧ ∀ j, j < n → (g.getD j 0 = 0 ∧ ∀ q p, Bef q p i k → p < (ln out q).length → (ln out q).getD p 0 ≠ (j : Int)) ∨ (∃ q p, Bef q p i k ∧ q < out.length ∧ p < (ln out q).length ∧ (ln out q).getD p 0 = (j : Int) ∧ g.getD j 0 = (q : Int) + 1)
theorem Mk.start (out : List (List Int)) (n : Nat) : Mk out (List.replicate n 0) n 0 0 :=
  ⟨by simp, fun j hj => .inl ⟨by simp [List.getD_eq_getElem?_getD, hj], fun q p h => by unfold Bef at h; omega⟩⟩
theorem cls_same {ls out : List (List Int)} {n : Nat} (h : Cls ls out n) {q q' p p' : Nat} (hq : q < out.length) (hq' : q' < out.length) (hp : p < (ln out q).length) (hp' : p' < (ln out q').length) (e : (ln out q).getD p 0 = (ln out q').getD p' 0) : q = q' ∧ p = p' := by
  have e1 := h.key q hq _ (getD_mem hp)
  have e2 := h.key q' hq' _ (getD_mem hp')
  rw [e] at e1
  have : q = q' := by
    rcases Nat.lt_trichotomy q q' with c | c | c
    · exact absurd (e1.symm.trans e2) (h.uniq q q' c hq')
    · exact c
    · exact absurd (e2.symm.trans e1) (h.uniq q' q c hq)
  subst this
  refine ⟨rfl, ?_⟩
  rcases Nat.lt_trichotomy p p' with c | c | c
  · have := h.asc q hq p p' c hp'; omega
  · exact c
  · have := h.asc q hq p' p c hp; omega
theorem Mk.zero {ls out : List (List Int)} {g : List Int} {n i k j : Nat} (h : Cls ls out n) (m : Mk out g n i k) (hi : i < out.length) (hk : k < (ln out i).length) (hj : (ln out i).getD k 0 = (j : Int)) : j < n ∧ g.getD j 0 = 0 := by
  have hb := (h.good i hi).2 _ (getD_mem hk)
  rw [hj] at hb
  have hjn : j < n := by omega
  refine ⟨hjn, ?_⟩
  rcases m.2 j hjn with ⟨h1, _⟩ | ⟨q, p, b, hq, hp, e, _⟩
  · exact h1
  · obtain ⟨rfl, rfl⟩ := cls_same h hq hi hp hk (e.trans hj.symm)
    unfold Bef at b; omega
theorem Mk.next {ls out : List (List Int)} {g : List Int} {n i k j : Nat} (h : Cls ls out n) (m : Mk out g n i k) (hi : i < out.length) (hk : k < (ln out i).length) (hj : (ln out i).getD k 0 = (j : Int)) : Mk out (g.set j ((i : Int) + 1)) n i (k + 1) := by
  obtain ⟨hjn, hz⟩ := m.zero h hi hk hj
  refine ⟨by rw [List.length_set]; exact m.1, fun j' hj' => ?_⟩
  by_cases e : j' = j
  · subst e
    right
    refine ⟨i, k, .inr ⟨rfl, by omega⟩, hi, hk, hj, ?_⟩
    rw [List.getD_eq_getElem?_getD, List.getElem?_set_self (by rw [m.1]; exact hj')]; rfl
  · have eg : (g.set j ((i : Int) + 1)).getD j' 0 = g.getD j' 0 := by
      rw [List.getD_eq_getElem?_getD, List.getElem?_set_ne (Ne.symm e), List.getD_eq_getElem?_getD]
    rw [eg]
    rcases m.2 j' hj' with ⟨h1, h2⟩ | ⟨q, p, b, hq, hp, e2, e3⟩
    · left
      refine ⟨h1, fun q p b hp => ?_⟩
      by_cases c : Bef q p i k
      · exact h2 q p c hp
      · have : q = i ∧ p = k := by unfold Bef at b c; omega
        obtain ⟨rfl, rfl⟩ := this
        rw [hj]; omega
    · right; exact ⟨q, p, by unfold Bef at b ⊢; omega, hq, hp, e2, e3⟩
theorem Mk.group {out : List (List Int)} {g : List Int} {n i : Nat} (m : Mk out g n i (ln out i).length) : Mk out g n (i + 1) 0 := by
  refine ⟨m.1, fun j hj => ?_⟩
  rcases m.2 j hj with ⟨h1, h2⟩ | ⟨q, p, b, hq, hp, e2, e3⟩
  · left
    refine ⟨h1, fun q p b hp => h2 q p ?_ hp⟩
    by_cases e : q = i
    · subst e; exact .inr ⟨rfl, hp⟩
    · unfold Bef at b ⊢; omega
  · right; exact ⟨q, p, by unfold Bef at b ⊢; omega, hq, hp, e2, e3⟩
theorem Mk.final {ls out : List (List Int)} {g : List Int} {n : Nat} (h : Cls ls out n) (m : Mk out g n out.length 0) (i k : Nat) (hi : i < n) (hk : k < n) : g.getD i 0 = g.getD k 0 ↔ canon (ln ls i) = canon (ln ls k) := by
  have key : ∀ j, j < n → ∃ q, q < out.length ∧ g.getD j 0 = (q : Int) + 1 ∧ canon (ln ls j) = ln (keys ls out) q := by
    intro j hj
    obtain ⟨q0, p0, h1, h2, h3⟩ := h.cover j hj
    rcases m.2 j hj with ⟨_, h5⟩ | ⟨q, p, b, hq, hp, e2, e3⟩
    · exact absurd h3 (h5 q0 p0 (.inl h1) h2)
    · refine ⟨q, hq, e3, ?_⟩
      have := h.key q hq _ (getD_mem hp)
      rw [e2] at this
      simpa using this
  obtain ⟨q, hq, e1, e2⟩ := key i hi
  obtain ⟨q', hq', e1', e2'⟩ := key k hk
  rw [e1, e1', e2, e2']
  constructor
  · intro e
    have : q = q' := by omega
    rw [this]
  · intro e
    rcases Nat.lt_trichotomy q q' with c | c | c
    · exact absurd e (h.uniq q q' c hq')
    · rw [c]
    · exact absurd e.symm (h.uniq q' q c hq)
end Go.Proofs.Ytdafpafoioejaaa

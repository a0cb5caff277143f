/- The classes of lists that are one another turned, place by place. No program in sight; no condition. -/
import Derived.Test.YtdafpafoioejaaaMath6
namespace Go.Proofs.Ytdafpafoioejaaa
set_option linter.unusedVariables false

/-- the first of some lists that is c; their number, if none is -/
def firstOf : List (List Int) → List Int → Nat
  | [], _ => 0
  | k :: r, c => if k = c then 0 else firstOf r c + 1
theorem firstOf_eq {ks : List (List Int)} {c : List Int} {k : Nat} (hk : k ≤ ks.length) (h : ∀ j, j < k → ln ks j ≠ c) (he : k = ks.length ∨ ln ks k = c) : firstOf ks c = k := by
  induction ks generalizing k with
  | nil => simp at hk; subst hk; rfl
  | cons x r ih =>
    unfold firstOf
    cases k with
    | zero =>
      rcases he with h1 | h1
      · simp at h1
      · simp [ln] at h1; rw [if_pos h1]
    | succ k =>
      have h0 := h 0 (by omega)
      simp [ln] at h0
      rw [if_neg h0]
      congr 1
      refine ih (by simpa using hk) (fun j hj => by simpa [ln] using h (j + 1) (by omega)) ?_
      rcases he with h1 | h1
      · left; simpa using h1
      · right; simpa [ln] using h1
theorem firstOf_le (ks : List (List Int)) (c : List Int) : firstOf ks c ≤ ks.length := by
  induction ks with
  | nil => simp [firstOf]
  | cons x r ih => unfold firstOf; split <;> simp <;> omega
theorem firstOf_spec {ks : List (List Int)} {c : List Int} (h : firstOf ks c < ks.length) : ln ks (firstOf ks c) = c := by
  induction ks with
  | nil => simp at h
  | cons x r ih =>
    unfold firstOf at h ⊢
    split
    · rename_i e; simpa [ln] using e
    · rename_i e
      rw [if_neg e] at h
      have := ih (by simpa using h)
      simpa [ln] using this
theorem firstOf_lt_ne {ks : List (List Int)} {c : List Int} {j : Nat} (h : j < firstOf ks c) : ln ks j ≠ c := by
  induction ks generalizing j with
  | nil => simp [firstOf] at h
  | cons x r ih =>
    unfold firstOf at h
    split at h
    · omega
    · rename_i e
      cases j with
      | zero => simpa [ln] using e
      | succ j => have := ih (j := j) (by omega); simpa [ln] using this

/-- the place of a group's first list -/
def headAt (g : List Int) : Nat := (g.headD 0).toNat
/-- of each group the least turned list -/
def keys (ls : List (List Int)) (out : List (List Int)) : List (List Int) := out.map fun g => canon (ln ls (headAt g))
/-- list number i goes into its group -/
def place (ls out : List (List Int)) (i : Nat) : List (List Int) :=
  if firstOf (keys ls out) (canon (ln ls i)) < out.length then out.set (firstOf (keys ls out) (canon (ln ls i))) (ln out (firstOf (keys ls out) (canon (ln ls i))) ++ [(i : Int)]) else out ++ [[(i : Int)]]
def classesTo (ls : List (List Int)) : Nat → List (List Int)
  | 0 => []
  | i + 1 => place ls (classesTo ls i) i
/-- P2.4 -/
def classes (ls : List (List Int)) : List (List Int) := classesTo ls ls.length

theorem keys_length (ls out : List (List Int)) : (keys ls out).length = out.length := by simp [keys]
theorem keys_get (ls out : List (List Int)) (k : Nat) (hk : k < out.length) : ln (keys ls out) k = canon (ln ls (headAt (ln out k))) := by
  simp [ln, keys, List.getD_eq_getElem?_getD, hk]
/-- each group has a first element, the place of a list that has been met -/
def Good (out : List (List Int)) (i : Nat) : Prop := ∀ k, k < out.length → ln out k ≠ [] ∧ ∀ x ∈ ln out k, 0 ≤ x ∧ x < (i : Int)
theorem headAt_snoc {g : List Int} (h : g ≠ []) (x : Int) : headAt (g ++ [x]) = headAt g := by
  cases g with
  | nil => exact absurd rfl h
  | cons y r => rfl
theorem ln_set_self {out : List (List Int)} {k : Nat} {x : List Int} (h : k < out.length) : ln (out.set k x) k = x := by
  unfold ln; rw [List.getD_eq_getElem?_getD, List.getElem?_set_self h]; rfl
theorem ln_set_ne {out : List (List Int)} {k j : Nat} {x : List Int} (h : j ≠ k) : ln (out.set k x) j = ln out j := by
  unfold ln; rw [List.getD_eq_getElem?_getD, List.getElem?_set_ne (Ne.symm h), List.getD_eq_getElem?_getD]
theorem ln_snoc_lt {out : List (List Int)} {j : Nat} {x : List Int} (h : j < out.length) : ln (out ++ [x]) j = ln out j := by
  unfold ln; rw [List.getD_eq_getElem?_getD, List.getElem?_append_left h, List.getD_eq_getElem?_getD]
theorem ln_snoc_eq {out : List (List Int)} {x : List Int} : ln (out ++ [x]) out.length = x := by
  unfold ln; rw [List.getD_eq_getElem?_getD]; simp
theorem good_place {ls out : List (List Int)} {i : Nat} (h : Good out i) : Good (place ls out i) (i + 1) := by
  unfold place
  split
  · rename_i hlt
    generalize firstOf (keys ls out) (canon (ln ls i)) = k at *
    intro j hj
    rw [List.length_set] at hj
    by_cases e : j = k
    · subst e
      rw [ln_set_self hlt]
      refine ⟨by simp, fun x hx => ?_⟩
      rcases List.mem_append.1 hx with h1 | h1
      · have := (h j hlt).2 x h1; omega
      · simp at h1; omega
    · rw [ln_set_ne e]
      exact ⟨(h j hj).1, fun x hx => by have := (h j hj).2 x hx; omega⟩
  · intro j hj
    rw [List.length_append] at hj
    simp at hj
    by_cases e : j < out.length
    · rw [ln_snoc_lt e]
      exact ⟨(h j e).1, fun x hx => by have := (h j e).2 x hx; omega⟩
    · have : j = out.length := by omega
      subst this
      rw [ln_snoc_eq]
      exact ⟨by simp, fun x hx => by simp at hx; omega⟩
theorem good_classesTo (ls : List (List Int)) : ∀ i, Good (classesTo ls i) i
  | 0 => fun k hk => by simp [classesTo] at hk
  | i + 1 => good_place (good_classesTo ls i)
theorem classesTo_length_le (ls : List (List Int)) : ∀ i, (classesTo ls i).length ≤ i
  | 0 => by simp [classesTo]
  | i + 1 => by
    have := classesTo_length_le ls i
    simp only [classesTo, place]
    split
    · rw [List.length_set]; omega
    · simp; omega
theorem ln_length_le (ls : List (List Int)) : ∀ i k, (ln (classesTo ls i) k).length ≤ i
  | 0, k => by simp [classesTo, ln]
  | i + 1, k => by
    have h := ln_length_le ls i
    simp only [classesTo, place]
    split
    · rename_i hlt
      generalize firstOf (keys ls (classesTo ls i)) (canon (ln ls i)) = q at *
      by_cases e : k = q
      · subst e; rw [ln_set_self hlt]; have := h k; rw [List.length_append]; simp only [List.length_cons, List.length_nil]; omega
      · rw [ln_set_ne e]; have := h k; omega
    · by_cases e : k < (classesTo ls i).length
      · rw [ln_snoc_lt e]; have := h k; omega
      · by_cases e2 : k = (classesTo ls i).length
        · subst e2; rw [ln_snoc_eq]; simp
        · have : ln (classesTo ls i ++ [[(i : Int)]]) k = [] := by
            unfold ln; rw [List.getD_eq_getElem?_getD, List.getElem?_eq_none (by simp; omega)]; rfl
          rw [this]; simp
theorem keys_set {ls out : List (List Int)} {i k : Nat} (h : Good out i) (hk : k < out.length) (x : Int) : keys ls (out.set k (ln out k ++ [x])) = keys ls out := by
  apply List.ext_getElem?
  intro j
  unfold keys
  rw [List.getElem?_map, List.getElem?_map]
  by_cases e : j = k
  · subst e
    rw [List.getElem?_set_self hk, List.getElem?_eq_getElem hk]
    simp only [Option.map_some]
    rw [headAt_snoc (h j hk).1]
    congr 4
    unfold ln; rw [List.getD_eq_getElem?_getD, List.getElem?_eq_getElem hk]; rfl
  · rw [List.getElem?_set_ne (Ne.symm e)]
theorem keys_snoc (ls out : List (List Int)) (i : Nat) : keys ls (out ++ [[(i : Int)]]) = keys ls out ++ [canon (ln ls i)] := by
  simp [keys, headAt]
end Go.Proofs.Ytdafpafoioejaaa

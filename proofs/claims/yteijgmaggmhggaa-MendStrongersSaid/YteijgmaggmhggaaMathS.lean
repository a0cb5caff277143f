/- Sorted by a key, equals as they stood. No program in sight; no condition. -/
import Derived.Test.YteijgmaggmhggaaMathE
namespace Go.Proofs.Yteijgmaggmhggaa
set_option linter.unusedVariables false
section
variable {α : Type} (key : α → Int)

def restK (l : List α) (m : Nat) : Nat → List α
  | 0 => []
  | d + 1 => restK l m d ++ l.filter fun x => key x = ((m + d : Nat) : Int)
theorem byKey_rest (l : List α) (m : Nat) : ∀ d, byKey key (m + d) l = byKey key m l ++ restK key l m d
  | 0 => by simp [restK]
  | d + 1 => by rw [← Nat.add_assoc, byKey_succ, byKey_rest l m d, restK, List.append_assoc]
theorem restK_mem (l : List α) (m : Nat) : ∀ d x, x ∈ restK key l m d → (m : Int) ≤ key x
  | 0, x, h => by cases h
  | d + 1, x, h => by
    rcases List.mem_append.1 h with h | h
    · exact restK_mem l m d x h
    · simp at h; omega
theorem restK_snoc (l : List α) (m : Nat) (x : α) (h : key x < m) : ∀ d, restK key (l ++ [x]) m d = restK key l m d
  | 0 => rfl
  | d + 1 => by
    rw [restK, restK, restK_snoc l m x h d, List.filter_append]
    have : ([x] : List α).filter (fun x => key x = ((m + d : Nat) : Int)) = [] := by simp; omega
    rw [this, List.append_nil]
theorem byKey_snoc (l : List α) (x : α) (k d : Nat) (h : key x = k) : byKey key (k + 1 + d) (l ++ [x]) = byKey key (k + 1) l ++ x :: restK key l (k + 1) d := by
  rw [byKey_rest, restK_snoc key l (k + 1) x (by omega), byKey_succ, byKey_succ, byKey_snoc_ge key k l x (by omega), List.filter_append]
  simp [h]
theorem byKey_place {n : Nat} {l L1 L2 : List α} {x : α} (h0 : 0 ≤ key x) (hn : key x < n) (h : byKey key n l = L1 ++ L2) (h1 : ∀ y ∈ L1, key y ≤ key x) (h2 : ∀ y ∈ L2, key x < key y) : byKey key n (l ++ [x]) = L1 ++ x :: L2 := by
  obtain ⟨k, hk⟩ : ∃ k : Nat, key x = k := ⟨(key x).toNat, by omega⟩
  obtain ⟨d, rfl⟩ : ∃ d, n = k + 1 + d := ⟨n - (k + 1), by omega⟩
  rw [byKey_snoc key l x k d hk]
  rw [byKey_rest] at h
  have f1 : (byKey key (k + 1) l ++ restK key l (k + 1) d).filter (fun y => decide (key y ≤ key x)) = byKey key (k + 1) l := by
    rw [List.filter_append]
    have e1 : (byKey key (k + 1) l).filter (fun y => decide (key y ≤ key x)) = byKey key (k + 1) l := by
      rw [List.filter_eq_self]; intro y hy; have := (byKey_mem hy).2.2; simp; omega
    have e2 : (restK key l (k + 1) d).filter (fun y => decide (key y ≤ key x)) = [] := by
      rw [List.filter_eq_nil_iff]; intro y hy; have := restK_mem key l (k + 1) d y hy; simp; omega
    rw [e1, e2, List.append_nil]
  have f2 : (L1 ++ L2).filter (fun y => decide (key y ≤ key x)) = L1 := by
    rw [List.filter_append]
    have e1 : L1.filter (fun y => decide (key y ≤ key x)) = L1 := by rw [List.filter_eq_self]; intro y hy; have := h1 y hy; simp; omega
    have e2 : L2.filter (fun y => decide (key y ≤ key x)) = [] := by rw [List.filter_eq_nil_iff]; intro y hy; have := h2 y hy; simp; omega
    rw [e1, e2, List.append_nil]
  rw [h, f2] at f1
  subst f1
  rw [List.append_cancel_left h]
theorem byKey_nil (n : Nat) : byKey key n [] = [] := by
  induction n with
  | zero => rfl
  | succ n ih => rw [byKey_succ, ih]; rfl
theorem byKey_sorted (l : List α) : ∀ n, (byKey key n l).Pairwise fun a b => key a ≤ key b
  | 0 => List.Pairwise.nil
  | n + 1 => by
    rw [byKey_succ, List.pairwise_append]
    refine ⟨byKey_sorted l n, ?_, fun a ha b hb => ?_⟩
    · rw [List.pairwise_iff_getElem]
      intro i j hi hj hij
      have h1 := of_decide_eq_true (List.mem_filter.1 (List.getElem_mem hi)).2
      have h2 := of_decide_eq_true (List.mem_filter.1 (List.getElem_mem hj)).2
      omega
    · have := (byKey_mem ha).2.2; simp at hb; omega
theorem byKey_all (h0 : ∀ x, 0 ≤ key x) (n : Nat) (hn : ∀ x, key x < n) : ∀ l : List α, (byKey key n l).length = l.length := by
  intro l
  have : ∀ (k : Nat), ∀ l : List α, l.length = k → (byKey key n l).length = l.length := by
    intro k
    induction k with
    | zero => intro l hl; obtain rfl := List.eq_nil_of_length_eq_zero hl; rw [byKey_nil]
    | succ k ih =>
      intro l hl
      obtain ⟨r, x, rfl⟩ : ∃ r x, l = r ++ [x] := ⟨l.dropLast, l.getLast (by intro e; subst e; simp at hl), (List.dropLast_concat_getLast _).symm⟩
      have hr : r.length = k := by simpa using hl
      obtain ⟨q, hq⟩ : ∃ q : Nat, key x = q := ⟨(key x).toNat, by have := h0 x; omega⟩
      obtain ⟨d, hd⟩ : ∃ d, n = q + 1 + d := ⟨n - (q + 1), by have := hn x; omega⟩
      have e := ih r hr
      subst hd
      rw [byKey_snoc key r x q d hq]
      rw [byKey_rest] at e
      simp at e ⊢; omega
  exact this _ l rfl
/-- where x goes in: behind all that are not greater -/
theorem byKey_at {n : Nat} {l : List α} {x : α} {j : Nat} (h0 : 0 ≤ key x) (hn : key x < n) (hj : j ≤ (byKey key n l).length)
    (h1 : j = 0 ∨ ∃ h : j - 1 < (byKey key n l).length, key (byKey key n l)[j - 1] ≤ key x) (h2 : ∀ y ∈ (byKey key n l).drop j, key x < key y) :
    byKey key n (l ++ [x]) = (byKey key n l).take j ++ x :: (byKey key n l).drop j := by
  refine byKey_place key h0 hn (List.take_append_drop j _).symm (fun y hy => ?_) h2
  rcases h1 with rfl | ⟨h, hk⟩
  · simp at hy
  · obtain ⟨i, hi, rfl⟩ := List.mem_iff_getElem.1 hy
    simp at hi
    rw [List.getElem_take]
    by_cases e : i = j - 1
    · subst e; exact hk
    · have := List.pairwise_iff_getElem.1 (byKey_sorted key l n) i (j - 1) (by omega) h (by omega)
      omega
end
end Go.Proofs.Yteijgmaggmhggaa

/- One element goes to its place, step by step. No program in sight; no condition. -/
import Derived.Test.YteijgmaggmhggaaMathS
namespace Go.Proofs.Yteijgmaggmhggaa
set_option linter.unusedVariables false
structure InsAt {α : Type} (key : α → Int) (P R : List α) (x : α) (L : List α) (j : Nat) : Prop where
  eq : L = P.take j ++ x :: (P.drop j ++ R)
  gt : ∀ y ∈ P.drop j, key x < key y
  le : j ≤ P.length
section
variable {α : Type} {key : α → Int} {P R L : List α} {x : α} {j : Nat}
theorem InsAt.length (h : InsAt key P R x L j) : L.length = P.length + 1 + R.length := by
  have := h.le; rw [h.eq]; simp; omega
theorem InsAt.get (h : InsAt key P R x L j) : ∃ hj : j < L.length, L[j] = x := by
  have hl := h.length; have hle := h.le
  refine ⟨by omega, ?_⟩
  have : L[j]? = some x := by
    rw [h.eq, List.getElem?_append_right (by simp; omega)]; simp [Nat.min_eq_left hle]
  rw [List.getElem?_eq_getElem (by omega)] at this
  exact Option.some.inj this
theorem InsAt.prev (h : InsAt key P R x L j) (h0 : 0 < j) : ∃ hj : j - 1 < L.length, ∃ hp : j - 1 < P.length, L[j - 1] = P[j - 1] := by
  have hl := h.length; have hle := h.le
  refine ⟨by omega, by omega, ?_⟩
  have : L[j - 1]? = P[j - 1]? := by
    rw [h.eq, List.getElem?_append_left (by simp; omega), List.getElem?_take_of_lt (by omega)]
  rw [List.getElem?_eq_getElem (by omega), List.getElem?_eq_getElem (by omega)] at this
  exact Option.some.inj this
theorem InsAt.next (h : InsAt key P R x L j) (h0 : 0 < j) (hp : j - 1 < P.length) (hlt : key x < key P[j - 1]) : InsAt key P R x ((L.set j P[j - 1]).set (j - 1) x) (j - 1) := by
  obtain ⟨q, rfl⟩ : ∃ q, j = q + 1 := ⟨j - 1, by omega⟩
  simp only [Nat.add_sub_cancel] at *
  have hle := h.le
  have hp' : q < P.length := by simpa using hp
  have ht : P.take (q + 1) = P.take q ++ [P[q]] := by rw [List.take_add_one, List.getElem?_eq_getElem hp']; rfl
  have hd : P.drop q = P[q] :: P.drop (q + 1) := List.drop_eq_getElem_cons hp'
  have hlen : (P.take q).length = q := by simp; omega
  refine ⟨?_, fun y hy => ?_, by omega⟩
  · rw [h.eq, ht]
    have e1 : (P.take q ++ [P[q]] ++ x :: (P.drop (q + 1) ++ R)).set (q + 1) P[q] = P.take q ++ [P[q]] ++ P[q] :: (P.drop (q + 1) ++ R) := by
      rw [List.set_append_right _ _ (by simp; omega)]
      have : q + 1 - (P.take q ++ [P[q]]).length = 0 := by simp; omega
      rw [this]; rfl
    rw [e1, List.append_assoc, List.set_append_right _ _ (by omega), hlen, Nat.sub_self, hd]
    rfl
  · rw [hd] at hy
    rcases List.mem_cons.1 hy with rfl | hy
    · exact hlt
    · exact h.gt y hy
end
theorem InsAt.stop {α : Type} {key : α → Int} {l L : List α} {x : α} {i j n : Nat} (hi : i < l.length) (hx : l[i] = x) (h : InsAt key (byKey key n (l.take i)) (l.drop (i + 1)) x L j) (h0 : 0 ≤ key x) (hn : key x < n)
    (hs : j = 0 ∨ ∃ hp : j - 1 < (byKey key n (l.take i)).length, key (byKey key n (l.take i))[j - 1] ≤ key x) : L = byKey key n (l.take (i + 1)) ++ l.drop (i + 1) := by
  have ht : l.take (i + 1) = l.take i ++ [x] := by rw [List.take_add_one, List.getElem?_eq_getElem hi, hx]; rfl
  rw [ht, byKey_at key h0 hn h.le hs h.gt, h.eq]
  simp
theorem InsAt.start {α : Type} {key : α → Int} {l L : List α} {x : α} {i n : Nat} (hi : i < l.length) (hx : l[i] = x) (hl : (byKey key n (l.take i)).length = i) (h : L = byKey key n (l.take i) ++ l.drop i) :
    InsAt key (byKey key n (l.take i)) (l.drop (i + 1)) x L i := by
  have hd : l.drop i = x :: l.drop (i + 1) := by rw [List.drop_eq_getElem_cons hi, hx]
  rw [hd] at h
  generalize byKey key n (l.take i) = P at *
  refine ⟨?_, fun y hy => ?_, by omega⟩
  · rw [h, List.take_of_length_le (by omega : P.length ≤ i), List.drop_of_length_le (by omega : P.length ≤ i)]; rfl
  · rw [List.drop_of_length_le (by omega : P.length ≤ i)] at hy; cases hy
end Go.Proofs.Yteijgmaggmhggaa

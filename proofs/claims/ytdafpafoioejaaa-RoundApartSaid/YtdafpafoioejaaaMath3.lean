/- Lists that are one another turned: the least turned list of each tells. No program in sight; no condition. -/
import Derived.Test.YtdafpafoioejaaaMath2
namespace Go.Proofs.Ytdafpafoioejaaa
set_option linter.unusedVariables false

theorem rot_rot (l : List Int) (k q : Nat) (hk : k < l.length) (hq : q < l.length) : rot (rot l k) q = rot l ((k + q) % l.length) := by
  have hn : 0 < l.length := by omega
  have hm : (k + q) % l.length < l.length := Nat.mod_lt _ hn
  apply List.ext_getElem
  · simp [rot_length]
  · intro t h1 h2
    rw [rot_length] at h2
    rw [rot_getElem l _ t hm h2, rot_getElem (rot l k) q t (by rw [rot_length]; exact hq) (by rw [rot_length]; exact h2)]
    unfold at_
    have hx : (q + t) % l.length < l.length := Nat.mod_lt _ hn
    rw [rot_length, List.getD_eq_getElem?_getD, rot_get l k _ hk hx, List.getD_eq_getElem?_getD, Nat.add_mod_mod, Nat.mod_add_mod, Nat.add_assoc]
/-- the least turned list -/
def canon (l : List Int) : List Int := rot l (least l)
theorem canon_length (l : List Int) : (canon l).length = l.length := rot_length _ _
theorem canon_nil : canon [] = [] := rfl
theorem canon_le (l : List Int) (h : l ≠ []) (q : Nat) (hq : q < l.length) : cmp (rot l q) (canon l) ≠ -1 := (least_spec l h).2.1 q hq
theorem rot_ne_nil {l : List Int} {k : Nat} (h : l ≠ []) : rot l k ≠ [] := by
  intro e; apply h; apply List.eq_nil_of_length_eq_zero; rw [← rot_length l k, e]; rfl
theorem canon_rot (l : List Int) (k : Nat) (hk : k < l.length) : canon (rot l k) = canon l := by
  have hl : l ≠ [] := by intro e; subst e; simp at hk
  have hr : rot l k ≠ [] := rot_ne_nil hl
  have hn : 0 < l.length := by omega
  have h1 : least (rot l k) < l.length := by have := least_lt _ hr; rwa [rot_length] at this
  have h2 := least_lt l hl
  have e1 : canon (rot l k) = rot l ((k + least (rot l k)) % l.length) := rot_rot l k _ hk h1
  have a1 := canon_le l hl _ (Nat.mod_lt (k + least (rot l k)) hn)
  rw [← e1] at a1
  have hq : (l.length - k + least l) % l.length < l.length := Nat.mod_lt _ hn
  have e2 : rot (rot l k) ((l.length - k + least l) % l.length) = canon l := by
    rw [rot_rot l k _ hk hq]
    unfold canon
    congr 1
    rw [Nat.add_mod_mod, show k + (l.length - k + least l) = least l + l.length by omega, Nat.add_mod_right, Nat.mod_eq_of_lt h2]
  have a2 := canon_le (rot l k) hr _ (by rw [rot_length]; exact hq)
  rw [e2] at a2
  rcases lt_tri (canon (rot l k)) (canon l) with h | h | h
  · exact absurd h a1
  · exact h
  · exact absurd h a2
/-- a list is its least turned one, turned -/
theorem of_canon (l : List Int) (hl : l ≠ []) : ∃ q, q < l.length ∧ rot (canon l) q = l := by
  have h2 := least_lt l hl
  have hn : 0 < l.length := by omega
  refine ⟨(l.length - least l) % l.length, Nat.mod_lt _ hn, ?_⟩
  unfold canon
  rw [rot_rot l _ _ h2 (Nat.mod_lt _ hn), Nat.add_mod_mod, show least l + (l.length - least l) = l.length by omega, Nat.mod_self, rot_zero]
/-- P2.8 -/
theorem canon_eq {a b : List Int} : canon a = canon b ↔ a.length = b.length ∧ (a = [] ∨ ∃ k, k < a.length ∧ rot a k = b) := by
  constructor
  · intro h
    have hlen : a.length = b.length := by rw [← canon_length a, h, canon_length]
    refine ⟨hlen, ?_⟩
    by_cases ha : a = []
    · exact .inl ha
    · right
      have hb : b ≠ [] := by intro e; subst e; apply ha; exact List.eq_nil_of_length_eq_zero (by simpa using hlen)
      obtain ⟨q, hq, e⟩ := of_canon b hb
      have h2 := least_lt a ha
      refine ⟨(least a + q) % a.length, Nat.mod_lt _ (by omega), ?_⟩
      rw [← rot_rot a _ _ h2 (by omega)]
      show rot (canon a) q = b
      rw [h, e]
  · rintro ⟨hlen, h | ⟨k, hk, rfl⟩⟩
    · subst h
      have : b = [] := List.eq_nil_of_length_eq_zero (by simpa using hlen.symm)
      rw [this]
    · rw [canon_rot a k hk]

end Go.Proofs.Ytdafpafoioejaaa

/- Lists that are turned, as plain Lean: what the functions of packages round and alembicref02 compute. No program in sight; no condition. -/
namespace Go.Proofs.YtigimkgmghjgoaaGreatDoor

/-- list number i of some lists -/
def ln (xs : List (List Int)) (i : Nat) : List Int := xs.getD i []
/-- which list stands ahead -/
def cmp : List Int → List Int → Int
  | [], [] => 0
  | [], _ :: _ => -1
  | _ :: _, [] => 1
  | a :: r, b :: s => if a < b then -1 else if b < a then 1 else cmp r s

/-- a list turned by k places, k at most its length -/
def rot (l : List Int) (k : Nat) : List Int := l.drop k ++ l.take k
def turn (l : List Int) (z : Int) : List Int := rot l (z % l.length).toNat

theorem rot_length (l : List Int) (k : Nat) : (rot l k).length = l.length := by
  simp [rot]; omega
theorem turn_length (l : List Int) (z : Int) : (turn l z).length = l.length := rot_length _ _
theorem turn_nil (z : Int) : turn [] z = [] := by simp [turn, rot]
theorem rot_zero (l : List Int) : rot l 0 = l := by simp [rot]
theorem rot_get (l : List Int) (k i : Nat) (hk : k < l.length) (hi : i < l.length) : (rot l k)[i]? = l[(k + i) % l.length]? := by
  unfold rot
  by_cases h : k + i < l.length
  · rw [List.getElem?_append_left (by simp; omega), List.getElem?_drop, Nat.mod_eq_of_lt h]
  · rw [List.getElem?_append_right (by simp; omega), List.getElem?_take_of_lt (by simp; omega)]
    congr 1
    rw [List.length_drop, Nat.mod_eq_sub_mod (by omega), Nat.mod_eq_of_lt (by omega)]
    omega

theorem cmp_self (l : List Int) : cmp l l = 0 := by
  induction l with
  | nil => rfl
  | cons a r ih => simp [cmp, ih]
theorem cmp_eq_zero {a b : List Int} : cmp a b = 0 ↔ a = b := by
  constructor
  · induction a generalizing b with
    | nil => cases b <;> simp [cmp]
    | cons x r ih =>
      cases b with
      | nil => simp [cmp]
      | cons y s =>
        simp only [cmp]
        split
        · simp
        · split
          · simp
          · intro h; rw [ih h]; simp; omega
  · intro h; subst h; exact cmp_self _
theorem cmp_range (a b : List Int) : cmp a b = -1 ∨ cmp a b = 0 ∨ cmp a b = 1 := by
  induction a generalizing b with
  | nil => cases b <;> simp [cmp]
  | cons x r ih =>
    cases b with
    | nil => simp [cmp]
    | cons y s => simp only [cmp]; split <;> try split
                  all_goals first | exact ih s | simp

/-- what the two say at position k is what they say from there on, if they are alike up to there -/
theorem cmp_drop_lt {a b : List Int} {k : Nat} (ha : k < a.length) (hb : k < b.length) (h : a[k] < b[k]) : cmp (a.drop k) (b.drop k) = -1 := by
  rw [List.drop_eq_getElem_cons ha, List.drop_eq_getElem_cons hb]; simp [cmp, h]
theorem cmp_drop_gt {a b : List Int} {k : Nat} (ha : k < a.length) (hb : k < b.length) (h : b[k] < a[k]) : cmp (a.drop k) (b.drop k) = 1 := by
  rw [List.drop_eq_getElem_cons ha, List.drop_eq_getElem_cons hb]; simp [cmp, h]; omega
theorem cmp_drop_eq {a b : List Int} {k : Nat} (ha : k < a.length) (hb : k < b.length) (h : a[k] = b[k]) : cmp (a.drop k) (b.drop k) = cmp (a.drop (k + 1)) (b.drop (k + 1)) := by
  rw [List.drop_eq_getElem_cons ha, List.drop_eq_getElem_cons hb]; simp [cmp, h]
theorem cmp_drop_end {a b : List Int} {k : Nat} (ha : k ≤ a.length) (hb : k ≤ b.length) (h : k = a.length ∨ k = b.length) :
    cmp (a.drop k) (b.drop k) = if a.length < b.length then -1 else if b.length < a.length then 1 else 0 := by
  by_cases h1 : k = a.length
  · subst h1
    rw [List.drop_length]
    by_cases h2 : a.length < b.length
    · rw [List.drop_eq_getElem_cons h2]; simp [cmp, h2]
    · have : b.drop a.length = [] := List.drop_eq_nil_of_le (by omega)
      rw [this]; simp [cmp, h2]; omega
  · have h2 : k = b.length := by rcases h with h | h; exact absurd h h1; exact h
    subst h2
    rw [List.drop_length, List.drop_eq_getElem_cons (by omega)]
    have h3 : ¬ a.length < b.length := by omega
    have h4 : b.length < a.length := by omega
    simp [cmp, h3, h4]

/-- the first i elements of a turned list -/
theorem rot_take_succ (l : List Int) (k i : Nat) (hk : k < l.length) (hi : i < l.length) : (rot l k).take (i + 1) = (rot l k).take i ++ [(l[(k + i) % l.length]?).getD 0] := by
  rw [List.take_add_one, rot_get l k i hk hi]
  have : (k + i) % l.length < l.length := Nat.mod_lt _ (by omega)
  simp [this]

/-- the marks behind a list that is lent -/
def marks (k : Nat) : List Int := (List.range k).map fun (i : Nat) => (-770000 : Int) - i
theorem marks_length (k : Nat) : (marks k).length = k := by simp [marks]
theorem marks_succ (k : Nat) : marks (k + 1) = marks k ++ [(-770000 : Int) - k] := by simp [marks, List.range_succ]
theorem marks_get (k i : Nat) (h : i < k) : (marks k)[i]? = some ((-770000 : Int) - i) := by simp [marks, h]

end Go.Proofs.YtigimkgmghjgoaaGreatDoor

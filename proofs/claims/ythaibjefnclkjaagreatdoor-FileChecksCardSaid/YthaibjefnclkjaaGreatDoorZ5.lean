/- Things in order: consecutive equals struck out; rising lists. Plain lists; no program, no condition. The order of texts and of things; what a condition asks for, in order, each once. Plain lists; no program, no condition. The things of a condition: gathered one by one, as sorted with equals struck out. Plain lists; no program, no condition. What a condition asks for, if it may be. No program, no condition. What a test's file is: which tests may be, their locations, their table, their text. Plain lists; no program, no condition. A test's names, gathered step by step. Plain lists; no program, no condition. Tests in memory: read. Lemmas of this claim's own; no condition. -/
import Derived.Test.YthaibjefnclkjaaGreatDoorZ4
import Derived.Lib.Bytealg
import Derived.Test.YthaibjefnclkjaaGreatDoorZ2
import Derived.Test.YthaibjefnclkjaaGreatDoorZ3
namespace Go.Proofs.YthaibjefnclkjaaGreatDoor
set_option linter.unusedVariables false
set_option linter.unusedSectionVars false

section
variable {α : Type} [DecidableEq α]
/-- of consecutive equals the first one -/
def cmpct : List α → List α
  | [] => []
  | x :: r => match r with
    | [] => [x]
    | y :: _ => if x = y then cmpct r else x :: cmpct r
theorem cmpct_nil : cmpct ([] : List α) = [] := rfl
theorem cmpct_one (x : α) : cmpct [x] = [x] := rfl
theorem cmpct_cons (x y : α) (r : List α) : cmpct (x :: y :: r) = if x = y then cmpct (y :: r) else x :: cmpct (y :: r) := rfl
theorem cmpct_snoc : ∀ (l : List α) (y x : α), cmpct (l ++ [y] ++ [x]) = if x = y then cmpct (l ++ [y]) else cmpct (l ++ [y]) ++ [x]
  | [], y, x => by
    simp only [List.nil_append, List.cons_append, cmpct_cons, cmpct_one]
    by_cases h : x = y
    · rw [if_pos h.symm, if_pos h, h]
    · rw [if_neg (Ne.symm h), if_neg h]
  | [z], y, x => by
    simp only [List.nil_append, List.cons_append, cmpct_cons, cmpct_one]
    by_cases h : x = y <;> by_cases h' : z = y <;> simp [h, h', eq_comm] <;> (try (intro h2; exact absurd h2.symm h)) <;> simp_all [eq_comm]
  | z :: u :: r, y, x => by
    have ih := cmpct_snoc (u :: r) y x
    simp only [List.cons_append] at ih ⊢
    rw [cmpct_cons, cmpct_cons, ih]
    by_cases h : x = y <;> by_cases h' : z = u <;> simp [h, h']
theorem cmpct_mem {l : List α} {z : α} : z ∈ cmpct l ↔ z ∈ l := by
  induction l with
  | nil => simp [cmpct_nil]
  | cons x r ih =>
    cases r with
    | nil => simp [cmpct_one]
    | cons y r =>
      rw [cmpct_cons]
      by_cases h : x = y
      · rw [if_pos h, ih]; simp [h]
      · rw [if_neg h, List.mem_cons, ih]; simp
/-- nothing to strike -/
theorem cmpct_self {l : List α} (h : ∀ i (h1 : i + 1 < l.length), l[i + 1] ≠ l[i]'(by omega)) : cmpct l = l := by
  induction l with
  | nil => rfl
  | cons x r ih =>
    cases r with
    | nil => rfl
    | cons y r =>
      have h0 := h 0 (by simp)
      simp at h0
      rw [cmpct_cons, if_neg (Ne.symm h0), ih (fun i h1 => by have := h (i + 1) (by simp at h1 ⊢; omega); simpa using this)]
theorem cmpct_length_le (l : List α) : (cmpct l).length ≤ l.length := by
  induction l with
  | nil => simp [cmpct_nil]
  | cons x r ih =>
    cases r with
    | nil => simp [cmpct_one]
    | cons y r =>
      rw [cmpct_cons]
      split
      · simp at ih ⊢; omega
      · simp at ih ⊢; omega

/-- rising lists of the same things are one -/
theorem rise_ext {lt : α → α → Prop} (irr : ∀ a, ¬ lt a a) (asy : ∀ a b, lt a b → lt b a → False) : ∀ {l r : List α}, l.Pairwise lt → r.Pairwise lt → (∀ x, x ∈ l ↔ x ∈ r) → l = r
  | [], [], _, _, _ => rfl
  | [], y :: r, _, _, h => by have := (h y).2 (by simp); simp at this
  | x :: l, [], _, _, h => by have := (h x).1 (by simp); simp at this
  | x :: l, y :: r, h1, h2, h => by
    obtain ⟨a1, b1⟩ := List.pairwise_cons.1 h1
    obtain ⟨a2, b2⟩ := List.pairwise_cons.1 h2
    have hxy : x = y := by
      have hx := (h x).1 (by simp)
      have hy := (h y).2 (by simp)
      rcases List.mem_cons.1 hx with e | hx
      · exact e
      · rcases List.mem_cons.1 hy with e | hy
        · exact e.symm
        · exact (asy _ _ (a2 x hx) (a1 y hy)).elim
    subst hxy
    have : l = r := rise_ext irr asy b1 b2 (fun z => by
      have hz := h z
      simp only [List.mem_cons] at hz
      constructor
      · intro hm
        rcases hz.1 (.inr hm) with e | e
        · subst e; exact (irr _ (a1 _ hm)).elim
        · exact e
      · intro hm
        rcases hz.2 (.inr hm) with e | e
        · subst e; exact (irr _ (a2 _ hm)).elim
        · exact e)
    rw [this]
/-- a list in order, equals struck out, rises -/
theorem cmpct_rise {lt : α → α → Prop} (tr : ∀ a b c, lt a b → lt b c → lt a c) : ∀ {l : List α}, l.Pairwise (fun a b => a = b ∨ lt a b) → (cmpct l).Pairwise lt
  | [], _ => List.Pairwise.nil
  | [x], _ => by rw [cmpct_one]; simp
  | x :: y :: r, h => by
    obtain ⟨a1, b1⟩ := List.pairwise_cons.1 h
    have ih := cmpct_rise tr b1
    rw [cmpct_cons]
    by_cases e : x = y
    · rw [if_pos e]; exact ih
    · rw [if_neg e, List.pairwise_cons]
      refine ⟨fun z hz => ?_, ih⟩
      have hz := cmpct_mem.1 hz
      have hxy : lt x y := (a1 y (by simp)).resolve_left e
      rcases a1 z hz with e' | e'
      · subst e'
        rcases List.mem_cons.1 hz with e2 | e2
        · exact absurd e2 e
        · rcases (List.pairwise_cons.1 b1).1 x e2 with e3 | e3
          · exact absurd e3.symm e
          · exact tr _ _ _ hxy e3
      · exact e'
end
end Go.Proofs.YthaibjefnclkjaaGreatDoor
namespace Go.Proofs.YthaibjefnclkjaaGreatDoor
set_option linter.unusedVariables false

def ltX : Tx → Tx → Bool
  | [], [] => false
  | [], _ :: _ => true
  | _ :: _, [] => false
  | a :: s, b :: t => if a < b then true else if b < a then false else ltX s t
theorem u8_lt_irr (a : UInt8) : ¬ a < a := by rw [UInt8.lt_iff_toNat_lt]; omega
theorem u8_lt_tr {a b c : UInt8} (h : a < b) (h' : b < c) : a < c := by rw [UInt8.lt_iff_toNat_lt] at *; omega
theorem u8_lt_as {a b : UInt8} (h : a < b) : ¬ b < a := by rw [UInt8.lt_iff_toNat_lt] at *; omega
theorem u8_lt_tri {a b : UInt8} (h : ¬ a < b) (h' : ¬ b < a) : a = b := by rw [UInt8.lt_iff_toNat_lt] at *; exact UInt8.toNat_inj.1 (by omega)
theorem ltX_irr : ∀ a, ltX a a = false
  | [] => rfl
  | a :: s => by unfold ltX; rw [if_neg (u8_lt_irr a), if_neg (u8_lt_irr a)]; exact ltX_irr s
theorem ltX_asy : ∀ {a b : Tx}, ltX a b = true → ltX b a = false
  | [], [], h => by cases h
  | [], _ :: _, _ => rfl
  | _ :: _, [], h => by cases h
  | a :: s, b :: t, h => by
    unfold ltX at h ⊢
    by_cases h1 : a < b
    · rw [if_neg (u8_lt_as h1), if_pos h1]
    · rw [if_neg h1] at h
      by_cases h2 : b < a
      · rw [if_pos h2] at h; cases h
      · rw [if_neg h2] at h ⊢; rw [if_neg h1]; exact ltX_asy h
theorem ltX_tri : ∀ {a b : Tx}, ltX a b = false → ltX b a = false → a = b
  | [], [], _, _ => rfl
  | [], _ :: _, h, _ => by cases h
  | _ :: _, [], _, h => by cases h
  | a :: s, b :: t, h, h' => by
    unfold ltX at h h'
    by_cases h1 : a < b
    · rw [if_pos h1] at h; cases h
    rw [if_neg h1] at h h'
    by_cases h2 : b < a
    · rw [if_pos h2] at h'; cases h'
    rw [if_neg h2] at h h'
    rw [u8_lt_tri h1 h2, ltX_tri h h']
theorem ltX_tr : ∀ {a b c : Tx}, ltX a b = true → ltX b c = true → ltX a c = true
  | [], [], _, h, _ => by cases h
  | [], _ :: _, [], _, h => by cases h
  | [], _ :: _, _ :: _, _, _ => rfl
  | _ :: _, [], _, h, _ => by cases h
  | _ :: _, _ :: _, [], _, h => by cases h
  | a :: s, b :: t, c :: cs, h, h' => by
    unfold ltX at h h' ⊢
    by_cases h1 : a < b
    · by_cases h2 : b < c
      · rw [if_pos (u8_lt_tr h1 h2)]
      · rw [if_neg h2] at h'
        by_cases h3 : c < b
        · rw [if_pos h3] at h'; cases h'
        · have := u8_lt_tri h2 h3; subst this; rw [if_pos h1]
    · rw [if_neg h1] at h
      by_cases h2 : b < a
      · rw [if_pos h2] at h; cases h
      · rw [if_neg h2] at h
        have := u8_lt_tri h1 h2; subst this
        by_cases h3 : a < c
        · rw [if_pos h3]
        · rw [if_neg h3] at h' ⊢
          by_cases h4 : c < a
          · rw [if_pos h4] at h'; cases h'
          · rw [if_neg h4] at h' ⊢; exact ltX_tr h h'
theorem compare_neg : ∀ (a b : Tx), decide (Lib.compareBytes a b < 0) = ltX a b
  | [], [] => rfl
  | [], _ :: _ => rfl
  | _ :: _, [] => rfl
  | a :: s, b :: t => by
    unfold Lib.compareBytes ltX
    by_cases h1 : a < b
    · rw [if_pos h1, if_pos h1]; rfl
    · rw [if_neg h1, if_neg h1]
      by_cases h2 : b < a
      · rw [if_pos h2, if_pos h2]; rfl
      · rw [if_neg h2, if_neg h2]; exact compare_neg s t
/-- how two things stand, by the program -/
def cfT (a b : Th) : Int :=
  if a.thread = -1 ∧ b.thread = -1 then Lib.compareBytes a.loc b.loc
  else if a.thread = -1 then 1 else if b.thread = -1 then -1
  else if a.thread ≠ b.thread then a.thread - b.thread else a.reg - b.reg
/-- the documents order -/
def befT (a b : Th) : Bool :=
  if (a.thread = -1) ≠ (b.thread = -1) then decide (b.thread = -1)
  else if a.thread ≠ b.thread then decide (a.thread < b.thread)
  else if a.reg ≠ b.reg then decide (a.reg < b.reg)
  else ltX a.loc b.loc
abbrev VTh := { t : Th // thingB 2 t = true }
instance : Inhabited VTh := ⟨⟨⟨0, 0, []⟩, by decide⟩⟩
theorem vth_cases (t : VTh) : (t.1.thread = -1 ∧ t.1.reg = 0) ∨ (0 ≤ t.1.thread ∧ t.1.thread < 16 ∧ 0 ≤ t.1.reg ∧ t.1.reg < 32 ∧ t.1.loc = []) := by
  obtain ⟨t, h⟩ := t
  rcases thingB_cases h with ⟨h1, h2, h3⟩ | ⟨i, k, rfl, hi, hk⟩
  · exact .inl ⟨h1, h2⟩
  · exact .inr ⟨by simp only; omega, by simp only; omega, by simp only; omega, by simp only; unfold regsN at hk; rw [if_neg (by omega)] at hk; omega, rfl⟩
/-- both orders are one, at things that may be -/
theorem cf_bef (a b : VTh) : decide (cfT a.1 b.1 < 0) = befT a.1 b.1 := by
  unfold cfT befT
  rcases vth_cases a with ⟨a1, a2⟩ | ⟨a1, a2, a3, a4, a5⟩
  · rcases vth_cases b with ⟨b1, b2⟩ | ⟨b1, b2, b3, b4, b5⟩
    · rw [if_pos ⟨a1, b1⟩, if_neg (by simp [a1, b1]), if_neg (by simp [a1, b1]), if_neg (by simp [a2, b2]), compare_neg]
    · rw [if_neg (by omega), if_pos a1, if_pos (by simp [a1]; omega)]; simp; omega
  · rcases vth_cases b with ⟨b1, b2⟩ | ⟨b1, b2, b3, b4, b5⟩
    · rw [if_neg (by omega), if_neg (by omega), if_pos b1, if_pos (by simp [b1]; omega)]; simp; omega
    · have n1 : ¬ ((a.1.thread = -1) ≠ (b.1.thread = -1)) := by simp; omega
      rw [if_neg (by omega), if_neg (by omega), if_neg (by omega), if_neg (c := (a.1.thread = -1) ≠ (b.1.thread = -1)) n1]
      by_cases h : a.1.thread = b.1.thread
      · rw [if_neg (by simpa using h), if_neg (by simpa using h)]
        by_cases h2 : a.1.reg = b.1.reg
        · rw [if_neg (by simpa using h2), a5, b5, h2]; simp [ltX]
        · rw [if_pos h2]; rw [Bool.eq_iff_iff]; simp; omega
      · rw [if_pos h, if_pos h]; rw [Bool.eq_iff_iff]; simp; omega
def ltV (a b : VTh) : Prop := befT a.1 b.1 = true
theorem ltV_irr (a : VTh) : ¬ ltV a a := by
  unfold ltV befT; simp [ltX_irr]
theorem ltV_cases {a b : VTh} (h : ltV a b) : (a.1.thread ≠ -1 ∧ b.1.thread = -1) ∨ (a.1.thread = -1 ∧ b.1.thread = -1 ∧ ltX a.1.loc b.1.loc = true) ∨ (a.1.thread ≠ -1 ∧ b.1.thread ≠ -1 ∧ (a.1.thread < b.1.thread ∨ a.1.thread = b.1.thread ∧ a.1.reg < b.1.reg)) := by
  unfold ltV befT at h
  rcases vth_cases a with ⟨a1, a2⟩ | ⟨a1, a2, a3, a4, a5⟩
  · rcases vth_cases b with ⟨b1, b2⟩ | ⟨b1, b2, b3, b4, b5⟩
    · rw [if_neg (by simp [a1, b1]), if_neg (by simp [a1, b1]), if_neg (by simp [a2, b2])] at h
      exact .inr (.inl ⟨a1, b1, h⟩)
    · rw [if_pos (by simp [a1]; omega)] at h; simp at h; omega
  · rcases vth_cases b with ⟨b1, b2⟩ | ⟨b1, b2, b3, b4, b5⟩
    · exact .inl ⟨by omega, b1⟩
    · rw [if_neg (by simp; omega)] at h
      refine .inr (.inr ⟨by omega, by omega, ?_⟩)
      by_cases h1 : a.1.thread = b.1.thread
      · rw [if_neg (by simpa using h1)] at h
        by_cases h2 : a.1.reg = b.1.reg
        · rw [if_neg (by simpa using h2), a5, b5] at h; simp [ltX] at h
        · rw [if_pos h2] at h; exact .inr ⟨h1, by simpa using h⟩
      · rw [if_pos h1] at h; exact .inl (by simpa using h)
theorem ltV_mk {a b : VTh} (h : (a.1.thread ≠ -1 ∧ b.1.thread = -1) ∨ (a.1.thread = -1 ∧ b.1.thread = -1 ∧ ltX a.1.loc b.1.loc = true) ∨ (a.1.thread ≠ -1 ∧ b.1.thread ≠ -1 ∧ (a.1.thread < b.1.thread ∨ a.1.thread = b.1.thread ∧ a.1.reg < b.1.reg))) : ltV a b := by
  unfold ltV befT
  rcases h with ⟨h1, h2⟩ | ⟨h1, h2, h3⟩ | ⟨h1, h2, h3⟩
  · rw [if_pos (by simp [h1, h2])]; simpa using h2
  · have ha := vth_cases a; have hb := vth_cases b
    rw [if_neg (by simp [h1, h2]), if_neg (by simp [h1, h2]), if_neg (by omega)]; exact h3
  · rw [if_neg (by simp [h1, h2])]
    rcases h3 with h3 | ⟨h3, h4⟩
    · rw [if_pos (by omega)]; simpa using h3
    · rw [if_neg (by omega), if_pos (by omega)]; simpa using h4
theorem ltV_tr (a b c : VTh) (h : ltV a b) (h' : ltV b c) : ltV a c := by
  apply ltV_mk
  rcases ltV_cases h with ⟨h1, h2⟩ | ⟨h1, h2, h3⟩ | ⟨h1, h2, h3⟩ <;> rcases ltV_cases h' with ⟨k1, k2⟩ | ⟨k1, k2, k3⟩ | ⟨k1, k2, k3⟩
  all_goals first | exact absurd h2 k1 | exact absurd k1 h2 | (exact .inl ⟨h1, k2⟩) | (exact .inr (.inl ⟨h1, k2, ltX_tr h3 k3⟩)) | (exact .inr (.inr ⟨h1, k2, by omega⟩))
theorem ltV_asy (a b : VTh) (h : ltV a b) (h' : ltV b a) : False := ltV_irr a (ltV_tr a b a h h')
theorem ltV_tri (a b : VTh) (h : ¬ ltV a b) (h' : ¬ ltV b a) : a = b := by
  apply Subtype.ext
  apply (th_ext _ _).2
  rcases vth_cases a with ⟨a1, a2⟩ | ⟨a1, a2, a3, a4, a5⟩
  · rcases vth_cases b with ⟨b1, b2⟩ | ⟨b1, b2, b3, b4, b5⟩
    · refine ⟨by omega, by omega, ltX_tri ?_ ?_⟩
      · rw [Bool.eq_false_iff]; exact fun e => h (ltV_mk (.inr (.inl ⟨a1, b1, e⟩)))
      · rw [Bool.eq_false_iff]; exact fun e => h' (ltV_mk (.inr (.inl ⟨b1, a1, e⟩)))
    · exact absurd (ltV_mk (.inl ⟨by omega, a1⟩)) h'
  · rcases vth_cases b with ⟨b1, b2⟩ | ⟨b1, b2, b3, b4, b5⟩
    · exact absurd (ltV_mk (.inl ⟨by omega, b1⟩)) h
    · have h1 : ¬ (a.1.thread < b.1.thread ∨ a.1.thread = b.1.thread ∧ a.1.reg < b.1.reg) := fun e => h (ltV_mk (.inr (.inr ⟨by omega, by omega, e⟩)))
      have h2 : ¬ (b.1.thread < a.1.thread ∨ b.1.thread = a.1.thread ∧ b.1.reg < a.1.reg) := fun e => h' (ltV_mk (.inr (.inr ⟨by omega, by omega, e⟩)))
      exact ⟨by omega, by omega, by rw [a5, b5]⟩
end Go.Proofs.YthaibjefnclkjaaGreatDoor
namespace Go.Proofs.YthaibjefnclkjaaGreatDoor
set_option linter.unusedVariables false

mutual
/-- a node's atoms' things, in the order of the text -/
def atomsN : Nd → List Th
  | .mk k t v a c l => (if k = 2 then [t] else []) ++ atomsL l
def atomsL : List Nd → List Th
  | [] => []
  | x :: r => atomsN x ++ atomsL r
end
theorem atomsN_eq (x : Nd) : atomsN x = (if x.kind = 2 then [x.th] else []) ++ atomsL x.kids := by cases x; rw [atomsN]; rfl
theorem atomsL_nil : atomsL [] = [] := by rw [atomsL]
theorem atomsL_cons {x : Nd} {r : List Nd} : atomsL (x :: r) = atomsN x ++ atomsL r := by rw [atomsL]
theorem atomsL_app : ∀ (l r : List Nd), atomsL (l ++ r) = atomsL l ++ atomsL r
  | [], r => by rw [atomsL_nil]; rfl
  | x :: l, r => by rw [List.cons_append, atomsL_cons, atomsL_cons, atomsL_app l r, List.append_assoc]
theorem atomsL_take {l : List Nd} {k : Nat} {x : Nd} (hk : l[k]? = some x) : atomsL (l.take (k + 1)) = atomsL (l.take k) ++ atomsN x := by
  obtain ⟨hlt, rfl⟩ := List.getElem?_eq_some_iff.1 hk
  rw [List.take_succ_eq_append_getElem hlt, atomsL_app, atomsL_cons, atomsL_nil, List.append_nil]
/-- a thing put in its place, if it is not there -/
def insT (t : Th) : List Th → List Th
  | [] => [t]
  | y :: r => if befT t y then t :: y :: r else y :: insT t r
def putT (t : Th) (l : List Th) : List Th := if t ∈ l then l else insT t l
mutual
def gatherN : Nd → List Th → List Th
  | .mk k t v a c l, acc => if k = 2 then putT t acc else gatherL l acc
def gatherL : List Nd → List Th → List Th
  | [], acc => acc
  | x :: r, acc => gatherL r (gatherN x acc)
end
theorem gatherN_eq (x : Nd) (acc : List Th) : gatherN x acc = if x.kind = 2 then putT x.th acc else gatherL x.kids acc := by cases x; rw [gatherN]; rfl
theorem gatherL_nil {acc : List Th} : gatherL [] acc = acc := by rw [gatherL]
theorem gatherL_cons {x : Nd} {r : List Nd} {acc : List Th} : gatherL (x :: r) acc = gatherL r (gatherN x acc) := by rw [gatherL]
/-- what a condition asks for -/
def thingsN (x : Nd) : List Th := gatherN x []

theorem OkN.thing {arch : Int} {x : Nd} (h : OkN arch x) (hk : x.kind = 2) : thingB arch x.th = true ∧ x.kids = [] := by
  rcases mayN_kind h.may with ⟨h1, h2⟩ | ⟨h1, h2, h3, h4⟩ | ⟨h1, h2⟩ | ⟨h1, h2⟩ | ⟨h1, h2⟩
  · omega
  · exact ⟨h2, List.eq_nil_of_length_eq_zero h4⟩
  · omega
  · omega
  · omega
theorem thingB_up {arch : Int} {t : Th} (h : thingB arch t = true) : thingB 2 t = true := by
  unfold thingB at *
  by_cases h1 : t.thread = -1
  · rw [if_pos h1] at h ⊢; exact h
  · rw [if_neg h1] at h ⊢
    have := regsN_le arch
    simp only [Bool.and_eq_true, decide_eq_true_eq] at h ⊢
    refine ⟨⟨h.1.1, ?_⟩, h.2⟩
    unfold regsN; rw [if_neg (by omega)]; omega
theorem mayN_up {arch k v : Int} {t : Th} {n : Nat} (h : mayN arch k t v n = true) : mayN 2 k t v n = true := by
  unfold mayN at *
  by_cases h2 : k = 2
  · rw [if_pos h2] at h ⊢
    simp only [Bool.and_eq_true] at h ⊢
    exact ⟨⟨thingB_up h.1.1, h.1.2⟩, h.2⟩
  · rw [if_neg h2] at h ⊢; exact h
theorem OkN.up {arch : Int} : ∀ {x : Nd}, OkN arch x → OkN 2 x := by
  intro x
  induction x using Nd.ind with
  | h x ih => intro h; exact ⟨x, mayN_up h.may, fun y hy => ih y hy (h.kid y hy)⟩
theorem atoms_ok : ∀ {x : Nd}, OkN 2 x → ∀ t ∈ atomsN x, thingB 2 t = true := by
  intro x
  induction x using Nd.ind with
  | h x ih =>
    intro h t ht
    rw [atomsN_eq] at ht
    have key : ∀ (l : List Nd), (∀ y ∈ l, y ∈ x.kids) → ∀ t ∈ atomsL l, thingB 2 t = true := by
      intro l
      induction l with
      | nil => intro _ t ht; rw [atomsL_nil] at ht; simp at ht
      | cons y r ihl =>
        intro hin t ht
        rw [atomsL_cons] at ht
        rcases List.mem_append.1 ht with h1 | h1
        · exact ih y (hin y (by simp)) (h.kid y (hin y (by simp))) t h1
        · exact ihl (fun k hk => hin k (by simp [hk])) t h1
    rcases List.mem_append.1 ht with h1 | h1
    · by_cases hk : x.kind = 2
      · rw [if_pos hk] at h1; simp at h1; subst h1; exact (h.thing hk).1
      · rw [if_neg hk] at h1; simp at h1
    · exact key _ (fun y hy => hy) t h1
theorem atomsN_len : ∀ (x : Nd), (atomsN x).length ≤ cntN x := by
  intro x
  induction x using Nd.ind with
  | h x ih =>
    rw [atomsN_eq, cntN_eq, List.length_append]
    have key : ∀ (l : List Nd), (∀ y ∈ l, y ∈ x.kids) → (atomsL l).length ≤ cntL l := by
      intro l
      induction l with
      | nil => intro _; rw [atomsL_nil]; simp
      | cons y r ihl =>
        intro hin
        rw [atomsL_cons, cntL_cons, List.length_append]
        have := ih y (hin y (by simp))
        have := ihl (fun k hk => hin k (by simp [hk]))
        omega
    have := key _ (fun y hy => hy)
    split <;> simp <;> omega

/-! ### at things that may be -/
def toV (l : List Th) (h : ∀ t ∈ l, thingB 2 t = true) : List VTh := l.pmap (fun t ht => ⟨t, ht⟩) h
theorem toV_val (l : List Th) (h : ∀ t ∈ l, thingB 2 t = true) : (toV l h).map (·.1) = l := by
  unfold toV; rw [List.map_pmap]; simp
theorem toV_mem {l : List Th} {h : ∀ t ∈ l, thingB 2 t = true} {v : VTh} : v ∈ toV l h ↔ v.1 ∈ l := by
  constructor
  · intro hv
    rw [← toV_val l h]; exact List.mem_map_of_mem hv
  · intro hv
    rw [← toV_val l h] at hv
    obtain ⟨u, hu, e⟩ := List.mem_map.1 hv
    rw [← Subtype.ext e]; exact hu
/-- in order, each once -/
def RiseT (l : List Th) : Prop := l.Pairwise fun a b => befT a b = true
theorem insT_mem {t : Th} {z : Th} : ∀ {l : List Th}, z ∈ insT t l ↔ z = t ∨ z ∈ l
  | [] => by simp [insT]
  | y :: r => by
    unfold insT
    split
    · simp
    · simp only [List.mem_cons, insT_mem (l := r)]
      constructor
      · rintro (h | h | h)
        · exact .inr (.inl h)
        · exact .inl h
        · exact .inr (.inr h)
      · rintro (h | h | h)
        · exact .inr (.inl h)
        · exact .inl h
        · exact .inr (.inr h)
theorem putT_mem {t : Th} {z : Th} {l : List Th} : z ∈ putT t l ↔ z = t ∨ z ∈ l := by
  unfold putT
  split
  · rename_i h
    constructor
    · exact .inr
    · rintro (rfl | h')
      · exact h
      · exact h'
  · exact insT_mem
theorem insT_rise {t : Th} (ht : thingB 2 t = true) : ∀ {l : List Th}, (∀ z ∈ l, thingB 2 z = true) → t ∉ l → RiseT l → RiseT (insT t l)
  | [], _, _, _ => by unfold insT RiseT; simp
  | y :: r, hv, hn, h => by
    obtain ⟨a1, b1⟩ := List.pairwise_cons.1 h
    have hy := hv y (by simp)
    unfold insT
    by_cases hb : befT t y = true
    · rw [if_pos hb]
      unfold RiseT
      rw [List.pairwise_cons]
      refine ⟨fun z hz => ?_, h⟩
      rcases List.mem_cons.1 hz with rfl | hz
      · exact hb
      · exact ltV_tr ⟨t, ht⟩ ⟨y, hy⟩ ⟨z, hv z (by simp [hz])⟩ hb (a1 z hz)
    · rw [if_neg hb]
      unfold RiseT
      rw [List.pairwise_cons]
      refine ⟨fun z hz => ?_, insT_rise ht (fun z hz => hv z (by simp [hz])) (fun h => hn (by simp [h])) b1⟩
      rcases insT_mem.1 hz with rfl | hz
      · by_cases h2 : befT y z = true
        · exact h2
        · have := ltV_tri ⟨z, ht⟩ ⟨y, hy⟩ hb h2
          simp only [Subtype.mk.injEq] at this
          exact absurd (by rw [this]; simp) hn
      · exact a1 z hz
theorem putT_rise {t : Th} (ht : thingB 2 t = true) {l : List Th} (hv : ∀ z ∈ l, thingB 2 z = true) (h : RiseT l) : RiseT (putT t l) := by
  unfold putT
  split
  · exact h
  · rename_i hn; exact insT_rise ht hv hn h
theorem putT_len {t : Th} {l : List Th} : (putT t l).length ≤ l.length + 1 := by
  have : ∀ l : List Th, (insT t l).length = l.length + 1 := by
    intro l
    induction l with
    | nil => rfl
    | cons y r ih => unfold insT; split <;> simp [ih]
  unfold putT
  split
  · omega
  · rw [this]; omega
/-- what gathering does -/
theorem gather_ok : ∀ {x : Nd}, OkN 2 x → ∀ {acc : List Th}, (∀ z ∈ acc, thingB 2 z = true) → RiseT acc → (∀ z ∈ gatherN x acc, thingB 2 z = true) ∧ RiseT (gatherN x acc) ∧ (∀ z, z ∈ gatherN x acc ↔ z ∈ atomsN x ∨ z ∈ acc) ∧ (gatherN x acc).length ≤ acc.length + cntN x := by
  intro x
  induction x using Nd.ind with
  | h x ih =>
    intro h acc hv hr
    rw [gatherN_eq, atomsN_eq, cntN_eq]
    by_cases hk : x.kind = 2
    · obtain ⟨h1, h2⟩ := h.thing hk
      rw [if_pos hk, if_pos hk, h2, atomsL_nil, cntL_nil]
      refine ⟨fun z hz => ?_, putT_rise h1 hv hr, fun z => by rw [putT_mem]; simp, putT_len⟩
      rcases putT_mem.1 hz with rfl | hz
      · exact h1
      · exact hv z hz
    · rw [if_neg hk, if_neg hk]
      have key : ∀ (l : List Nd), (∀ y ∈ l, y ∈ x.kids) → ∀ {acc : List Th}, (∀ z ∈ acc, thingB 2 z = true) → RiseT acc → (∀ z ∈ gatherL l acc, thingB 2 z = true) ∧ RiseT (gatherL l acc) ∧ (∀ z, z ∈ gatherL l acc ↔ z ∈ atomsL l ∨ z ∈ acc) ∧ (gatherL l acc).length ≤ acc.length + cntL l := by
        intro l
        induction l with
        | nil => intro _ acc hv hr; rw [gatherL_nil, atomsL_nil, cntL_nil]; exact ⟨hv, hr, fun z => by simp, by omega⟩
        | cons y r ihl =>
          intro hin acc hv hr
          rw [gatherL_cons, atomsL_cons, cntL_cons]
          obtain ⟨a1, a2, a3, a4⟩ := ih y (hin y (by simp)) (h.kid y (hin y (by simp))) hv hr
          obtain ⟨b1, b2, b3, b4⟩ := ihl (fun k hk => hin k (by simp [hk])) a1 a2
          refine ⟨b1, b2, fun z => ?_, by omega⟩
          rw [b3, a3, List.mem_append]
          constructor
          · rintro (h | h | h)
            · exact .inl (.inr h)
            · exact .inl (.inl h)
            · exact .inr h
          · rintro ((h | h) | h)
            · exact .inr (.inl h)
            · exact .inl h
            · exact .inr (.inr h)
      obtain ⟨k1, k2, k3, k4⟩ := key x.kids (fun y hy => hy) hv hr
      exact ⟨k1, k2, fun z => by rw [k3]; simp, by omega⟩
theorem things_ok {x : Nd} (h : OkN 2 x) : (∀ z ∈ thingsN x, thingB 2 z = true) ∧ RiseT (thingsN x) ∧ (∀ z, z ∈ thingsN x ↔ z ∈ atomsN x) ∧ (thingsN x).length ≤ cntN x := by
  obtain ⟨h1, h2, h3, h4⟩ := gather_ok h (acc := []) (by simp) List.Pairwise.nil
  unfold thingsN
  exact ⟨h1, h2, fun z => by have := h3 z; simpa using this, by simpa using h4⟩
/-- sorted, equals struck out: the same -/
theorem sorted_things {x : Nd} (h : OkN 2 x) (le : VTh → VTh → Bool) (hle : ∀ a b, le a b = !befT b.1 a.1) :
    (cmpct ((toV (atomsN x) (atoms_ok h)).mergeSort le)).map (·.1) = thingsN x := by
  obtain ⟨h1, h2, h3, -⟩ := things_ok h
  have hs := List.pairwise_mergeSort (le := le) (fun a b c hab hbc => by
      rw [hle] at *
      simp only [Bool.not_eq_true', Bool.eq_false_iff] at *
      intro hca
      by_cases hcb : ltV c b
      · exact hbc hcb
      · by_cases hbc' : ltV b c
        · exact hab (ltV_tr b c a hbc' hca)
        · have := ltV_tri b c hbc' hcb; subst this; exact hab hca)
    (fun a b => by
      rw [hle, hle]
      by_cases h1 : befT b.1 a.1 = true
      · have : befT a.1 b.1 = false := by rw [Bool.eq_false_iff]; exact fun h2 => ltV_asy a b h2 h1
        rw [h1, this]; rfl
      · rw [Bool.eq_false_iff.2 h1]; rfl)
    (toV (atomsN x) (atoms_ok h))
  have hr := cmpct_rise (lt := ltV) ltV_tr (hs.imp (fun {a b} hab => by
    rw [hle] at hab
    simp only [Bool.not_eq_true', Bool.eq_false_iff] at hab
    by_cases h1 : ltV a b
    · exact .inr h1
    · exact .inl (ltV_tri a b h1 hab)))
  have hg : (toV (thingsN x) h1).Pairwise ltV := by
    have : ((toV (thingsN x) h1).map (·.1)).Pairwise fun a b => befT a b = true := by rw [toV_val]; exact h2
    exact (List.pairwise_map (f := fun v : VTh => v.1) (R := fun a b => befT a b = true)).1 this
  have e := rise_ext ltV_irr ltV_asy hr hg (fun v => by
    rw [cmpct_mem, List.mem_mergeSort, toV_mem, toV_mem, h3])
  rw [e, toV_val]
end Go.Proofs.YthaibjefnclkjaaGreatDoor
namespace Go.Proofs.YthaibjefnclkjaaGreatDoor
set_option linter.unusedVariables false

/-- what a condition asks for, or nothing -/
def thingsC (q : Int) (x : Nd) : List Th := if condE 2 q x = 0 then thingsN x else []
end Go.Proofs.YthaibjefnclkjaaGreatDoor
namespace Go.Proofs.YthaibjefnclkjaaGreatDoor
set_option linter.unusedVariables false

structure Ini where
  thread : Int
  reg : Int
  loc : Tx
  vloc : Tx
  n : Int
deriving DecidableEq
/-- a thread's code: where it lies, what lies there -/
structure Cd where
  a : Option Addr
  c : Nat
  l : List Ins
structure Tst where
  arch : Int
  name : Tx
  cycle : Tx
  ia : Option Addr
  ic : Nat
  init : List Ini
  ca : Option Addr
  cc : Nat
  code : List Cd
  q : Int
  node : Nd
/-- a byte that may be shown -/
def showC (lo : Nat) (b : UInt8) : Bool := decide (lo ≤ b.toNat) && (decide (b.toNat ≤ 126) && decide (b.toNat ≠ 34))
def showB (lo : Nat) (s : Tx) : Bool := s.all (showC lo)
def titleB (s : Tx) : Bool := decide (1 ≤ s.length) && (decide (s.length ≤ 1024) && showB 33 s)
/-- no blank at either end -/
def flushB (s : Tx) : Bool := s.isEmpty || (s.head? != some 32 && s.getLast? != some 32)
def cycleB (s : Tx) : Bool := decide (s.length ≤ 262144) && (showB 32 s && flushB s)
theorem showB_step {lo : Nat} {l : Tx} {k : Nat} {c : UInt8} (h : l[k]? = some c) (hn : showC lo c = false) : showB lo l = false := by
  unfold showB
  rw [Bool.eq_false_iff]
  intro h2
  rw [List.all_eq_true] at h2
  rw [h2 c (List.mem_of_getElem? h)] at hn
  cases hn
theorem showB_done {lo : Nat} {l : Tx} (h : ∀ (i : Nat) (x : UInt8), l[i]? = some x → showC lo x = true) : showB lo l = true := by
  unfold showB
  rw [List.all_eq_true]
  intro x hx
  obtain ⟨i, hi⟩ := List.mem_iff_getElem?.1 hx
  exact h i x hi
/-- a cell's text, and why there is none -/
def cellI (arch : Int) (i : Ins) : Tx × Int :=
  if arch = 1 then (if checkX i then (printX i, 0) else ([], 91)) else if arch = 2 then (if checkI i then (printI i, 0) else ([], 91)) else ([], 5)
def insA (arch : Int) (i : Ins) : Bool := if arch = 1 then checkX i else checkI i
/-- why a thread's code may not be -/
def rowE (arch : Int) (l : List Ins) : Int := if l.all (insA arch) then (if arch = 2 then (linksV l).2.1 else 0) else 91
def rowsE (arch : Int) : List Cd → Int
  | [] => 0
  | x :: r => if rowE arch x.l = 0 then rowsE arch r else rowE arch x.l
def codedE (t : Tst) : Int :=
  if t.code.length < 1 ∨ 16 < t.code.length then 2 else if t.code.any fun x => decide (256 < x.l.length) then 2 else rowsE t.arch t.code
/-- may a line of an initial state be? -/
def firstB (arch : Int) (n : Nat) (x : Ini) : Bool :=
  if x.thread = -1 then nameB x.loc && (decide (x.reg = 0) && (decide (x.vloc = []) && n32B x.n))
  else if x.thread < 0 ∨ (n : Int) ≤ x.thread ∨ x.loc ≠ [] then false
  else if (if arch = 2 then x.reg < 1 ∨ 31 < x.reg else x.reg < 0 ∨ 14 < x.reg) then false
  else if x.vloc ≠ [] then nameB x.vloc && decide (x.n = 0) else n32B x.n
def keyI (x : Ini) : Th := ⟨x.thread, x.reg, x.loc⟩
def begunE (t : Tst) : Int :=
  if 1024 < t.init.length then 2 else if t.init.all (firstB t.arch t.code.length) && decide ((t.init.map keyI).Nodup) then 0 else 130
def askT (t : Tst) : List Th := thingsC t.q t.node
/-- names, rising, with one more -/
def insX (s : Tx) : List Tx → List Tx
  | [] => [s]
  | y :: r => if ltX s y then s :: y :: r else y :: insX s r
def putX (l : List Tx) (s : Tx) : List Tx := if s = [] then l else if s ∈ l then l else insX s l
/-- all names of a test, in its order -/
def rawT (t : Tst) : List Tx := (t.init.flatMap fun x => [x.loc, x.vloc]) ++ ((t.code.flatMap fun x => x.l.map (·.loc)) ++ (askT t).map (·.loc))
def namesT (t : Tst) : List Tx := (rawT t).foldl putX []
/-- why a test may not be -/
def tstE (t : Tst) : Int :=
  if archB t.arch = false then 5
  else if titleB t.name = false ∨ cycleB t.cycle = false then 130
  else if codedE t ≠ 0 then codedE t
  else if begunE t ≠ 0 then begunE t
  else if condE t.arch t.q t.node ≠ 0 then condE t.arch t.q t.node
  else if (askT t).any fun x => decide ((t.code.length : Int) ≤ x.thread) then 80
  else if 64 < (namesT t).length then 2 else 0
/-! ### the table -/
/-- a column: its head, its cells -/
def colT (arch : Int) (k : Nat) (l : List Ins) : List Tx := ([80] ++ decN k) :: l.map fun i => (cellI arch i).1
def wideL (l : List Tx) : Nat := l.foldl (fun n s => max n s.length) 0
def colsT (t : Tst) : List (List Tx) := t.code.mapIdx fun k x => colT t.arch k x.l
def wideT (t : Tst) : List Nat := (colsT t).map wideL
def highT (t : Tst) : Nat := t.code.foldl (fun n x => max n x.l.length) 0
def padT (n : Nat) (s : Tx) : Tx := s ++ List.replicate (n - s.length) 32
/-- a line: its cells, with bars between -/
def lineT (i : Nat) (t : Tst) : Tx := [32] ++ ([32, 124, 32].intercalate ((colsT t).map fun c => padT (wideL c) (c.getD i []))) ++ [32, 59]
def tableT (t : Tst) : List Tx := (List.range (highT t + 1)).map fun i => lineT i t
/-! ### the text -/
def regT' (arch : Int) (n : Int) : Tx := if arch = 2 then rT n else rX n
def initT (arch : Int) (x : Ini) : Tx :=
  (if x.thread = -1 then x.loc else Lib.itoa x.thread ++ [58] ++ regT' arch x.reg) ++ [61] ++ (if x.vloc = [] then Lib.itoa x.n else x.vloc) ++ [59, 10]
def headT (t : Tst) : Tx := (if t.arch = 2 then [82, 73, 83, 67, 86, 32] else [88, 56, 54, 32]) ++ t.name ++ [10]
def cycT (t : Tst) : Tx := if t.cycle = [] then [] else [34] ++ t.cycle ++ [34, 10]
def fileT (t : Tst) : Tx := headT t ++ cycT t ++ [123, 10] ++ (t.init.flatMap (initT t.arch)) ++ [125, 10] ++ ((tableT t).flatMap fun l => l ++ [10]) ++ textC t.arch t.q t.node ++ [10]
/-- the file, or why there is none -/
def printE (t : Tst) : Tx × Int := if tstE t ≠ 0 then ([], tstE t) else if 262144 < (fileT t).length then ([], 3) else (fileT t, 0)
end Go.Proofs.YthaibjefnclkjaaGreatDoor
namespace Go.Proofs.YthaibjefnclkjaaGreatDoor
set_option linter.unusedVariables false

def foldX (acc : List Tx) (l : List Tx) : List Tx := l.foldl putX acc
def rawI (l : List Ini) : List Tx := l.flatMap fun x => [x.loc, x.vloc]
def rawC (l : List Cd) : List Tx := l.flatMap fun x => x.l.map (·.loc)
theorem take_snoc {α : Type} {l : List α} {k : Nat} {x : α} (h : l[k]? = some x) : l.take (k + 1) = l.take k ++ [x] := by
  obtain ⟨hlt, rfl⟩ := List.getElem?_eq_some_iff.1 h
  exact List.take_succ_eq_append_getElem hlt
end Go.Proofs.YthaibjefnclkjaaGreatDoor
namespace Go.Proofs.YthaibjefnclkjaaGreatDoor
open Go.RowKit
set_option linter.unusedVariables false

@[reducible] def cIni (x : Ini) : List Value := [.int .i64 x.thread, .int .i64 x.reg, .string (tx x.loc), .string (tx x.vloc), .int .i64 x.n]
@[reducible] def vIni (x : Ini) : Value := .agg #[.int .i64 x.thread, .int .i64 x.reg, .string (tx x.loc), .string (tx x.vloc), .int .i64 x.n]
abbrev mkIni (x : Ini) : Obj := .cells #[.int .i64 x.thread, .int .i64 x.reg, .string (tx x.loc), .string (tx x.vloc), .int .i64 x.n] 64
theorem cIni_len (x : Ini) : (cIni x).length = 5 := rfl
theorem inil : ElT Tryz.prog 29 64 (.agg #[.int .i64 0, .int .i64 0, .string ByteArray.empty, .string ByteArray.empty, .int .i64 0]) 5 56 := ⟨Tryz.underlying29, by kernel_rfl, rfl, by decide⟩
theorem Els.ini {w : World} {a : Option Addr} {l : List Ini} (h : Els cIni w a l) {k : Nat} {x : Ini} (hk : l[k]? = some x) :
    w.cell? ⟨bk a, fo a + k * 5, none⟩ = some (.int .i64 x.thread) ∧ w.cell? ⟨bk a, fo a + k * 5 + 1, none⟩ = some (.int .i64 x.reg) ∧ w.cell? ⟨bk a, fo a + k * 5 + 2, none⟩ = some (.string (tx x.loc)) ∧ w.cell? ⟨bk a, fo a + k * 5 + 3, none⟩ = some (.string (tx x.vloc)) ∧ w.cell? ⟨bk a, fo a + k * 5 + 4, none⟩ = some (.int .i64 x.n) :=
  ⟨h.cell0 cIni_len hk (by omega), h.cell cIni_len hk 1 (by omega), h.cell cIni_len hk 2 (by omega), h.cell cIni_len hk 3 (by omega), h.cell cIni_len hk 4 (by omega)⟩
@[reducible] def cCd (x : Cd) : List Value := [.slice x.a x.l.length x.c]
theorem cCd_len (x : Cd) : (cCd x).length = 1 := rfl
theorem cdl : ElT Tryz.prog 30 49 (.slice none 0 0) 1 24 := ⟨Tryz.underlying30, by kernel_rfl, rfl, by decide⟩
theorem Els.cd {w : World} {a : Option Addr} {l : List Cd} (h : Els cCd w a l) {k : Nat} {x : Cd} (hk : l[k]? = some x) :
    w.cell? ⟨bk a, fo a + k, none⟩ = some (.slice x.a x.l.length x.c) := by
  have := h.cell0 cCd_len hk (by omega)
  rwa [Nat.mul_one] at this
theorem Els.cdx {w : World} {a : Option Addr} {l : List Cd} (h : Els cCd w a l) (k : Nat) (hk : k < l.length) (c : Nat) :
    ∀ w', (Instr.indexAt 30 (.slice a l.length c) (.int .i64 k)).run Tryz.prog w' = .ok (.pointer (some ⟨bk a, fo a + k, none⟩)) w' := by
  have := h.idx cdl cCd_len k hk c
  rwa [Nat.mul_one] at this
@[reducible] def cT (t : Tst) : List Value := [.int .i64 t.arch, .string (tx t.name), .string (tx t.cycle), .slice t.ia t.init.length t.ic, .slice t.ca t.code.length t.cc, .int .i64 t.q, .int .i64 t.node.kind, .int .i64 t.node.th.thread, .int .i64 t.node.th.reg, .string (tx t.node.th.loc), .int .i64 t.node.val, .slice t.node.a t.node.kids.length t.node.c]
@[reducible] def vT (t : Tst) : Value := .agg #[.int .i64 t.arch, .string (tx t.name), .string (tx t.cycle), .slice t.ia t.init.length t.ic, .slice t.ca t.code.length t.cc, .int .i64 t.q, .int .i64 t.node.kind, .int .i64 t.node.th.thread, .int .i64 t.node.th.reg, .string (tx t.node.th.loc), .int .i64 t.node.val, .slice t.node.a t.node.kids.length t.node.c]
abbrev mkT (t : Tst) : Obj := .cells #[.int .i64 t.arch, .string (tx t.name), .string (tx t.cycle), .slice t.ia t.init.length t.ic, .slice t.ca t.code.length t.cc, .int .i64 t.q, .int .i64 t.node.kind, .int .i64 t.node.th.thread, .int .i64 t.node.th.reg, .string (tx t.node.th.loc), .int .i64 t.node.val, .slice t.node.a t.node.kids.length t.node.c] 39
/-- a test's cells, in a block of its own -/
structure BxT (w : World) (b : Nat) (t : Tst) : Prop where
  lt : b < w.heap.size
  cl : ∀ k, k < 12 → w.cell? ⟨b, k, none⟩ = (cT t)[k]?
theorem BxT.new (w : World) (t : Tst) : BxT (w.alloc (mkT t)) w.heap.size t :=
  ⟨(BxL.new w #[.int .i64 t.arch, .string (tx t.name), .string (tx t.cycle), .slice t.ia t.init.length t.ic, .slice t.ca t.code.length t.cc, .int .i64 t.q, .int .i64 t.node.kind, .int .i64 t.node.th.thread, .int .i64 t.node.th.reg, .string (tx t.node.th.loc), .int .i64 t.node.val, .slice t.node.a t.node.kids.length t.node.c] 39).1, fun k hk => (BxL.new w _ _).2 k (by simpa using hk)⟩
theorem BxT.below {w w' : World} {b : Nat} {t : Tst} (h : BxT w b t) (hb : Below w.heap.size w w') : BxT w' b t :=
  ⟨Nat.lt_of_lt_of_le h.lt hb.size, fun k hk => by rw [hb.cell h.lt]; exact h.cl k hk⟩
theorem BxT.cells {w : World} {b : Nat} {t : Tst} (h : BxT w b t) : w.cell? ⟨b, 0, none⟩ = some (.int .i64 t.arch) ∧ w.cell? ⟨b, 1, none⟩ = some (.string (tx t.name)) ∧ w.cell? ⟨b, 2, none⟩ = some (.string (tx t.cycle)) ∧ w.cell? ⟨b, 3, none⟩ = some (.slice t.ia t.init.length t.ic) ∧ w.cell? ⟨b, 4, none⟩ = some (.slice t.ca t.code.length t.cc) ∧ w.cell? ⟨b, 5, none⟩ = some (.int .i64 t.q) ∧ w.cell? ⟨b, 6, none⟩ = some (.int .i64 t.node.kind) ∧ w.cell? ⟨b, 7, none⟩ = some (.int .i64 t.node.th.thread) ∧ w.cell? ⟨b, 8, none⟩ = some (.int .i64 t.node.th.reg) ∧ w.cell? ⟨b, 9, none⟩ = some (.string (tx t.node.th.loc)) ∧ w.cell? ⟨b, 10, none⟩ = some (.int .i64 t.node.val) ∧ w.cell? ⟨b, 11, none⟩ = some (.slice t.node.a t.node.kids.length t.node.c) :=
  ⟨h.cl 0 (by omega), h.cl 1 (by omega), h.cl 2 (by omega), h.cl 3 (by omega), h.cl 4 (by omega), h.cl 5 (by omega), h.cl 6 (by omega), h.cl 7 (by omega), h.cl 8 (by omega), h.cl 9 (by omega), h.cl 10 (by omega), h.cl 11 (by omega)⟩
/-- a thread's code that is read -/
structure CdIn (w : World) (x : Cd) : Prop where
  is : Is w x.a x.l
  cap : x.l.length ≤ x.c
  locs : ∀ i ∈ x.l, i.loc.length ≤ 9223372036854775807 ∧ i.label.length ≤ 9223372036854775807
/-- a number that an int holds -/
def I64 (n : Int) : Prop := -9223372036854775808 ≤ n ∧ n ≤ 9223372036854775807
/-- a test that is read -/
structure TsIn (w : World) (t : Tst) : Prop where
  name : t.name.length ≤ 9223372036854775807
  cycle : t.cycle.length ≤ 9223372036854775807
  init : Els cIni w t.ia t.init
  icap : t.init.length ≤ t.ic
  locs : ∀ x ∈ t.init, x.loc.length ≤ 9223372036854775807 ∧ x.vloc.length ≤ 9223372036854775807
  wide : ∀ x ∈ t.init, I64 x.thread ∧ I64 x.reg
  code : Els cCd w t.ca t.code
  ccap : t.code.length ≤ t.cc
  rows : ∀ x ∈ t.code, CdIn w x
  node : NdIn w t.node
theorem CdIn.keep {w w' : World} {x : Cd} (h : CdIn w x) (hb : Below w.heap.size w w') : CdIn w' x := ⟨h.is.below hb, h.cap, h.locs⟩
theorem TsIn.keep {w w' : World} {t : Tst} (h : TsIn w t) (hb : Below w.heap.size w w') : TsIn w' t :=
  ⟨h.name, h.cycle, h.init.below hb, h.icap, h.locs, h.wide, h.code.below hb, h.ccap, fun x hx => (h.rows x hx).keep hb, h.node.keep hb⟩
end Go.Proofs.YthaibjefnclkjaaGreatDoor

/- Edges and their numbers; what architectures have; which fences order what; what may stand for what. No program in sight; no condition. -/
import Derived.Test.YteijgmaggmhggaaLib
namespace Go.Proofs.Yteijgmaggmhggaa
set_option linter.unusedVariables false

structure Edge where
  kind : Int
  ext : Bool
  same : Bool
  src : Int
  dst : Int
  fence : Int
deriving DecidableEq

/-- the edge of a number, from 0 to 111 -/
def ofCode (c : Nat) : Edge :=
  if c < 6 then
    if c / 2 = 0 then ⟨1, c % 2 == 0, false, 2, 1, 0⟩
    else if c / 2 = 1 then ⟨2, c % 2 == 0, false, 1, 2, 0⟩
    else ⟨3, c % 2 == 0, false, 2, 2, 0⟩
  else if c < 102 then
    if c < 14 then ⟨4, false, decide (4 ≤ (c - 6) % 8), 1 + ((c - 6) % 8 % 4 / 2 : Nat), 1 + ((c - 6) % 8 % 2 : Nat), 0⟩
    else ⟨5, false, decide (4 ≤ (c - 6) % 8), 1 + ((c - 6) % 8 % 4 / 2 : Nat), 1 + ((c - 6) % 8 % 2 : Nat), ((c - 6) / 8 : Nat)⟩
  else if c < 106 then ⟨6, false, decide (2 ≤ c - 102), 1, 1 + ((c - 102) % 2 : Nat), 0⟩
  else if c < 108 then ⟨7, false, c == 107, 1, 2, 0⟩
  else ⟨8, false, decide (8 ≤ c - 102), 1, 1 + ((c - 102) % 2 : Nat), 0⟩

theorem ofCode_inj : ∀ a, a < 112 → ∀ b, b < 112 → ofCode a = ofCode b → a = b := by decide +kernel
/-- an edge's number; 112: none -/
def codeFrom (e : Edge) : Nat → Nat → Nat
  | 0, k => k
  | n + 1, k => if ofCode k = e then k else codeFrom e n (k + 1)
def codeOf (e : Edge) : Nat := codeFrom e 112 0
theorem codeFrom_spec (e : Edge) : ∀ n k, k ≤ codeFrom e n k ∧ codeFrom e n k ≤ k + n ∧ (codeFrom e n k < k + n → ofCode (codeFrom e n k) = e) ∧ ∀ j, k ≤ j → j < codeFrom e n k → ofCode j ≠ e
  | 0, k => ⟨Nat.le_refl _, Nat.le_refl _, fun h => absurd h (Nat.lt_irrefl _), fun j h1 h2 => absurd h2 (by simp [codeFrom]; omega)⟩
  | n + 1, k => by
    unfold codeFrom
    split
    · rename_i h; exact ⟨Nat.le_refl _, by omega, fun _ => h, fun j h1 h2 => by omega⟩
    · rename_i h
      obtain ⟨h1, h2, h3, h4⟩ := codeFrom_spec e n (k + 1)
      refine ⟨by omega, by omega, fun h5 => h3 (by omega), fun j h5 h6 => ?_⟩
      by_cases hj : j = k
      · subst hj; exact h
      · exact h4 j (by omega) h6
theorem codeOf_le (e : Edge) : codeOf e ≤ 112 := by have := (codeFrom_spec e 112 0).2.1; unfold codeOf; omega
theorem codeOf_lt {e : Edge} (h : codeOf e < 112) : ofCode (codeOf e) = e := (codeFrom_spec e 112 0).2.2.1 (by unfold codeOf at h; omega)
theorem codeOf_ne {e : Edge} {j : Nat} (h : j < codeOf e) : ofCode j ≠ e := (codeFrom_spec e 112 0).2.2.2 j (Nat.zero_le _) h
theorem codeOf_eq {e : Edge} {k : Nat} (hk : k < 112) (h : ofCode k = e) : codeOf e = k := by
  have h1 : codeOf e ≤ k := Classical.byContradiction fun hc => codeOf_ne (by omega) h
  exact ofCode_inj _ (by omega) _ hk ((codeOf_lt (by omega)).trans h.symm)
theorem codeOf_ofCode {c : Nat} (h : c < 112) : codeOf (ofCode c) = c := codeOf_eq h rfl
theorem codeOf_none {e : Edge} (h : ∀ j, j < 112 → ofCode j ≠ e) : codeOf e = 112 := by
  have h1 := codeOf_le e
  rcases Nat.lt_or_ge (codeOf e) 112 with h2 | h2
  · exact absurd (codeOf_lt h2) (h _ h2)
  · omega
/-- the error that tells that an edge may not be -/
def errE (e : Edge) : Int := if codeOf e = 112 then 30 else 0
/-- what Code answers -/
def codeN (e : Edge) : Int := if codeOf e = 112 then 0 else codeOf e

/-- has an architecture a number's edge? -/
def legalC (arch : Int) (c : Nat) : Bool := decide (c < 14) || (decide (c < 22) == (arch == 1))
def hasE (arch : Int) (e : Edge) : Bool :=
  if e.kind = 1 ∨ e.kind = 2 ∨ e.kind = 3 ∨ e.kind = 4 then true
  else if e.kind = 5 then (e.fence == 1) == (arch == 1)
  else arch == 2
theorem hasE_ofCode1 : ∀ c, c < 112 → hasE 1 (ofCode c) = legalC 1 c := by decide +kernel
theorem hasE_ofCode2 : ∀ c, c < 112 → hasE 2 (ofCode c) = legalC 2 c := by decide +kernel
def isArch (arch : Int) : Prop := arch = 1 ∨ arch = 2
instance (arch : Int) : Decidable (isArch arch) := by unfold isArch; infer_instance
theorem hasE_ofCode {arch : Int} (h : isArch arch) (c : Nat) (hc : c < 112) : hasE arch (ofCode c) = legalC arch c := by
  rcases h with rfl | rfl
  · exact hasE_ofCode1 c hc
  · exact hasE_ofCode2 c hc
/-- the edges of an architecture -/
def allE (arch : Int) : List Edge := ((List.range 112).filter (legalC arch)).map ofCode
def allTo (arch : Int) (k : Nat) : List Edge := ((List.range k).filter (legalC arch)).map ofCode
theorem allTo_succ (arch : Int) (k : Nat) : allTo arch (k + 1) = allTo arch k ++ if legalC arch k then [ofCode k] else [] := by
  unfold allTo
  rw [List.range_succ, List.filter_append, List.map_append]
  congr 1
  by_cases h : legalC arch k <;> simp [h]
theorem allTo_length (arch : Int) (k : Nat) : (allTo arch k).length ≤ k := by
  unfold allTo; rw [List.length_map]; exact Nat.le_trans (List.length_filter_le _ _) (by simp)

/-- is a direction of a fence's part? -/
def partOf (n d : Int) : Bool := n == 2 || n == d - 1
/-- a fence orders two directions -/
def ordersF (f a b : Int) : Bool :=
  if (a ≠ 1 ∧ a ≠ 2) ∨ (b ≠ 1 ∧ b ≠ 2) then false
  else if f = 1 then true
  else if f = 2 then a == 1 || b == 2
  else if f < 3 ∨ 11 < f then false
  else partOf ((f - 3) / 3) a && partOf ((f - 3) % 3) b
def withinF (e f : Int) : Bool := (!ordersF e 1 1 || ordersF f 1 1) && (!ordersF e 1 2 || ordersF f 1 2) && (!ordersF e 2 1 || ordersF f 2 1) && (!ordersF e 2 2 || ordersF f 2 2)
def readsE (f : Edge) (both : Bool) : Bool := f.kind == 5 && ordersF f.fence 1 2 && (!both || ordersF f.fence 1 1)
/-- may an edge stand in another one's place: as the program asks it -/
def mayP (e f : Edge) : Bool :=
  if e = f then true
  else if e.kind < 4 ∨ f.kind < 4 ∨ e.src ≠ f.src ∨ e.dst ≠ f.dst ∨ e.same ≠ f.same then false
  else if e.kind = 4 then true
  else if e.kind = 5 then f.kind == 5 && withinF e.fence f.fence
  else if e.kind = 8 then readsE f false
  else if e.kind = 7 then f.kind == 6 || readsE f true
  else readsE f true
def ordersE (f : Edge) (a b : Int) : Bool := f.kind == 5 && ordersF f.fence a b
def commE (e : Edge) : Bool := e.kind == 1 || e.kind == 2 || e.kind == 3
/-- .. and as the document's answer does -/
def mayR (e f : Edge) : Bool :=
  if e = f then true
  else if commE e = true ∨ commE f = true ∨ e.src ≠ f.src ∨ e.dst ≠ f.dst ∨ e.same ≠ f.same then false
  else if e.kind = 4 then true
  else if e.kind = 8 then ordersE f 1 2
  else if e.kind = 7 then f.kind == 6 || (ordersE f 1 1 && ordersE f 1 2)
  else if e.kind = 6 then ordersE f 1 1 && ordersE f 1 2
  else if f.kind ≠ 5 then false
  else (!ordersE e 1 1 || ordersE f 1 1) && (!ordersE e 1 2 || ordersE f 1 2) && (!ordersE e 2 1 || ordersE f 2 1) && (!ordersE e 2 2 || ordersE f 2 2)
theorem kind_ofCode : ∀ c, c < 112 → 1 ≤ (ofCode c).kind ∧ (ofCode c).kind ≤ 8 := by decide +kernel
theorem kind_of {e : Edge} (h : codeOf e < 112) : 1 ≤ e.kind ∧ e.kind ≤ 8 := by have := kind_ofCode _ h; rwa [codeOf_lt h] at this
theorem mayP_eq {e f : Edge} (he : codeOf e < 112) (hf : codeOf f < 112) : mayP e f = mayR e f := by
  have h1 := kind_of he; have h2 := kind_of hf
  unfold mayP mayR
  by_cases h : e = f
  · rw [if_pos h, if_pos h]
  · rw [if_neg h, if_neg h]
    have c1 : (commE e = true) ↔ e.kind < 4 := by unfold commE; simp; omega
    have c2 : (commE f = true) ↔ f.kind < 4 := by unfold commE; simp; omega
    simp only [c1, c2]
    by_cases g : e.kind < 4 ∨ f.kind < 4 ∨ e.src ≠ f.src ∨ e.dst ≠ f.dst ∨ e.same ≠ f.same
    · rw [if_pos g, if_pos g]
    · rw [if_neg g, if_neg g]
      have g4 : ¬ e.kind < 4 := fun h => g (.inl h)
      by_cases k4 : e.kind = 4
      · rw [if_pos k4, if_pos k4]
      · rw [if_neg k4, if_neg k4]
        by_cases k5 : e.kind = 5
        · rw [if_pos k5, if_neg (by omega), if_neg (by omega), if_neg (by omega)]
          by_cases f5 : f.kind = 5
          · simp [f5, k5, ordersE, withinF]
          · simp [f5]
        · rw [if_neg k5]
          by_cases k8 : e.kind = 8
          · rw [if_pos k8, if_pos k8]; simp [readsE, ordersE]
          · rw [if_neg k8, if_neg k8]
            have hr : readsE f true = (ordersE f 1 1 && ordersE f 1 2) := by
              unfold readsE ordersE
              cases (f.kind == 5) <;> cases ordersF f.fence 1 1 <;> cases ordersF f.fence 1 2 <;> rfl
            by_cases k7 : e.kind = 7
            · rw [if_pos k7, if_pos k7, hr]
            · rw [if_neg k7, if_neg k7, if_pos (by omega), hr]

/-- what an edge costs in another one's place: by the program -/
def fenceCost (x : Int) : Int := if x = 2 then 5 else if x = 1 ∨ x = 11 then 6 else if x = 5 ∨ x = 8 ∨ x = 9 ∨ x = 10 then 4 else 3
def costP (e f : Edge) : Int :=
  if e = f then 0 else if f.kind = 8 then 1 else if f.kind = 7 ∨ f.kind = 6 then 2 else if f.kind = 4 then 0 else fenceCost f.fence
/-- .. by the document's answer -/
def costR (e f : Edge) : Int :=
  if e = f then 0 else if f.kind = 8 then 1 else if f.kind = 7 ∨ f.kind = 6 then 2 else fenceCost f.fence
theorem fenceCost_range (x : Int) : 3 ≤ fenceCost x ∧ fenceCost x ≤ 6 := by unfold fenceCost; split <;> (try split) <;> (try split) <;> omega
theorem costP_range (e f : Edge) : 0 ≤ costP e f ∧ costP e f ≤ 6 := by
  have := fenceCost_range f.fence
  unfold costP; split <;> (try split) <;> (try split) <;> (try split) <;> omega

/-- all numbers' edges: what may be known of pairs of them is asked of the numbers -/
theorem may_po : ∀ a, a < 112 → ∀ b, b < 112 → (ofCode b).kind = 4 → mayP (ofCode a) (ofCode b) = true → a = b := by decide +kernel
theorem costP_eq {e f : Edge} (he : codeOf e < 112) (hf : codeOf f < 112) (h : mayP e f = true) : costP e f = costR e f := by
  unfold costP costR
  by_cases h0 : e = f
  · rw [if_pos h0, if_pos h0]
  · rw [if_neg h0, if_neg h0]
    by_cases h4 : f.kind = 4
    · have := may_po _ he _ hf
      rw [codeOf_lt he, codeOf_lt hf] at this
      have := this h4 h
      exact absurd (by rw [← codeOf_lt he, ← codeOf_lt hf, this]) h0
    · rw [if_neg h4]

/-! ### sorted by a key, equals as they stood -/
/-- one more element goes in from the right -/
def insR {α : Type} (key : α → Int) (x : α) : List α → List α
  | [] => [x]
  | y :: r => if key x < key y then x :: y :: r else y :: insR key x r
def byKey {α : Type} (key : α → Int) (n : Nat) (l : List α) : List α := (List.range n).flatMap fun (k : Nat) => l.filter fun x => key x = (k : Int)
/-- the list, one more cost -/
theorem byKey_succ {α : Type} (key : α → Int) (n : Nat) (l : List α) : byKey key (n + 1) l = byKey key n l ++ l.filter fun x => key x = (n : Int) := by
  unfold byKey; rw [List.range_succ, List.flatMap_append]; simp
theorem byKey_mem {α : Type} {key : α → Int} {n : Nat} {l : List α} {x : α} (h : x ∈ byKey key n l) : x ∈ l ∧ 0 ≤ key x ∧ key x < n := by
  unfold byKey at h
  obtain ⟨k, hk, hx⟩ := List.mem_flatMap.1 h
  simp at hk hx
  exact ⟨hx.1, by omega, by omega⟩
theorem byKey_snoc_ge {α : Type} (key : α → Int) (n : Nat) (l : List α) (x : α) (h : (n : Int) ≤ key x) : byKey key n (l ++ [x]) = byKey key n l := by
  induction n with
  | zero => rfl
  | succ n ih => rw [byKey_succ, byKey_succ, ih (by omega), List.filter_append]; simp; omega
end Go.Proofs.Yteijgmaggmhggaa

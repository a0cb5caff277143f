/- Where branches lead: plain functions of lists of instructions. No condition. -/
import Derived.Test.YtigimkgmghjgoaaGreatDoorR15
import Derived.Maps.OwnSet
import Derived.Maps.Views
namespace Go.Proofs.YtigimkgmghjgoaaGreatDoor
open Go.Maps
set_option linter.unusedVariables false

/-- what an instruction leads to, by the program: none: an error -/
def stepP (code : List Ins) (k : Nat) : Option Int := match code[k]? with
  | none => some (-1)
  | some i =>
    if i.op = 12 then (if code.findIdx? (isLab i.label) = some k then some (-1) else none)
    else if i.op = 11 then (match code.findIdx? (isLab i.label) with
      | none => none
      | some at' => if ((code.drop (k + 1)).findIdx? (isLab i.label)).isSome then some (at' : Int) else none)
    else some (-1)
/-- .., by the document's answer -/
def stepR (code : List Ins) (k : Nat) : Option Int := match code[k]? with
  | none => some (-1)
  | some i =>
    if i.op = 12 then (if (code.take k).any (isLab i.label) then none else some (-1))
    else if i.op = 11 then ((code.drop (k + 1)).findIdx? (isLab i.label)).map fun j => ((k + 1 + j : Nat) : Int)
    else some (-1)
def outsP (code : List Ins) (k : Nat) : List Int := (List.range k).map fun j => (stepP code j).getD (-1)
def outsR (code : List Ins) (k : Nat) : List Int := (List.range k).map fun j => (stepR code j).getD (-1)
def linksV (code : List Ins) : List Int × Int × Int :=
  if 256 < code.length then ([], 2, 0)
  else match code.findIdx? fun i => !checkI i with
    | some k => ([], 91, k)
    | none => match (List.range code.length).find? fun k => (stepR code k).isNone with
      | some k => ([], 93, k)
      | none => (outsR code code.length, 0, 0)
theorem isLab_iff {nm : Tx} {j : Ins} : isLab nm j = true ↔ j.op = 12 ∧ j.label = nm := by unfold isLab; simp
theorem step_none (code : List Ins) (k : Nat) : stepP code k = none ↔ stepR code k = none := by
  unfold stepP stepR
  cases hk : code[k]? with
  | none => simp
  | some i =>
    obtain ⟨hlt, he⟩ := List.getElem?_eq_some_iff.1 hk
    simp only
    by_cases h12 : i.op = 12
    · rw [if_pos h12, if_pos h12]
      have hself : isLab i.label code[k] = true := by rw [he, isLab_iff]; exact ⟨h12, rfl⟩
      by_cases hany : (code.take k).any (isLab i.label) = true
      · rw [if_pos hany]
        have : ¬ code.findIdx? (isLab i.label) = some k := by
          intro hf
          rw [List.findIdx?_eq_some_iff_getElem] at hf
          obtain ⟨_, _, h3⟩ := hf
          rw [List.any_eq_true] at hany
          obtain ⟨x, hx, hp⟩ := hany
          obtain ⟨j, hj, rfl⟩ := List.mem_iff_getElem.1 hx
          simp at hj
          rw [List.getElem_take] at hp
          exact absurd hp (h3 j (by omega))
        rw [if_neg this]
      · rw [if_neg hany]
        have : code.findIdx? (isLab i.label) = some k := by
          refine findIdx_some hlt hself (fun j hj hjk => ?_)
          cases hb : isLab i.label code[j] with
          | false => rfl
          | true =>
            refine absurd (List.any_eq_true.2 ⟨code[j], ?_, hb⟩) hany
            rw [List.mem_take_iff_getElem]
            exact ⟨j, by omega, rfl⟩
        rw [if_pos this]
    · rw [if_neg h12, if_neg h12]
      by_cases h11 : i.op = 11
      · rw [if_pos h11, if_pos h11]
        cases hl : (code.drop (k + 1)).findIdx? (isLab i.label) with
        | none =>
          cases code.findIdx? (isLab i.label) <;> simp
        | some j =>
          rw [List.findIdx?_eq_some_iff_getElem] at hl
          obtain ⟨hj, hp, -⟩ := hl
          cases hf : code.findIdx? (isLab i.label) with
          | none =>
            rw [List.findIdx?_eq_none_iff] at hf
            rw [List.getElem_drop] at hp
            rw [hf _ (List.getElem_mem _)] at hp
            cases hp
          | some at' => simp
      · rw [if_neg h11, if_neg h11]
/-- no error: both lead to the same -/
theorem step_same (code : List Ins) (h : ∀ k, k < code.length → stepP code k ≠ none) (k : Nat) : stepP code k = stepR code k := by
  unfold stepP stepR
  cases hk : code[k]? with
  | none => rfl
  | some i =>
    obtain ⟨hlt, he⟩ := List.getElem?_eq_some_iff.1 hk
    have hn := h k hlt
    have hn2 : stepR code k ≠ none := fun e => hn ((step_none code k).2 e)
    unfold stepP at hn
    unfold stepR at hn2
    rw [hk] at hn hn2
    simp only at hn hn2 ⊢
    by_cases h12 : i.op = 12
    · rw [if_pos h12] at hn hn2 ⊢
      rw [if_pos h12]
      split at hn
      · split at hn2
        · exact absurd rfl hn2
        · rename_i a b; rw [if_pos a, if_neg b]
      · exact absurd rfl hn
    · rw [if_neg h12] at hn hn2 ⊢
      rw [if_neg h12]
      by_cases h11 : i.op = 11
      · rw [if_pos h11] at hn hn2 ⊢
        rw [if_pos h11]
        cases hl : (code.drop (k + 1)).findIdx? (isLab i.label) with
        | none => rw [hl] at hn2; simp at hn2
        | some j =>
          rw [List.findIdx?_eq_some_iff_getElem] at hl
          obtain ⟨hj, hp, -⟩ := hl
          simp at hj
          rw [List.getElem_drop, isLab_iff] at hp
          have hL := h (k + 1 + j) (by omega)
          unfold stepP at hL
          rw [List.getElem?_eq_getElem (by omega)] at hL
          simp only at hL
          rw [if_pos hp.1, hp.2] at hL
          split at hL
          · rename_i hf
            rw [hf]; simp
          · exact absurd rfl hL
      · rw [if_neg h11, if_neg h11]
theorem outs_same (code : List Ins) (h : ∀ k, k < code.length → stepP code k ≠ none) (n : Nat) : outsP code n = outsR code n := by
  unfold outsP outsR
  exact List.map_congr_left fun k _ => by rw [step_same code h k]
theorem outsP_length (code : List Ins) (k : Nat) : (outsP code k).length = k := by simp [outsP]
theorem outsP_succ (code : List Ins) (k : Nat) : outsP code (k + 1) = outsP code k ++ [(stepP code k).getD (-1)] := by simp [outsP, List.range_succ]
theorem linksV_full {code : List Ins} (h : 256 < code.length) : linksV code = ([], 2, 0) := by unfold linksV; rw [if_pos h]
theorem linksV_bad {code : List Ins} (h : code.length ≤ 256) {k : Nat} (hk : k < code.length) (h1 : checkI code[k] = false) (h2 : ∀ j (hj : j < code.length), j < k → checkI code[j] = true) : linksV code = ([], 91, (k : Int)) := by
  unfold linksV
  rw [if_neg (by omega), findIdx_some hk (by rw [h1]; rfl) (fun j hj hjk => by rw [h2 j hj hjk]; rfl)]
theorem find_range {n k : Nat} {p : Nat → Bool} (hk : k < n) (h1 : p k = true) (h2 : ∀ j, j < k → p j = false) : (List.range n).find? p = some k := by
  rw [List.find?_range_eq_some]
  exact ⟨h1, by simpa using hk, fun j hj => by rw [h2 j hj]; rfl⟩
theorem linksV_label {code : List Ins} (h : code.length ≤ 256) (hc : ∀ j (hj : j < code.length), checkI code[j] = true) {k : Nat} (hk : k < code.length) (h1 : stepP code k = none) (h2 : ∀ j, j < k → stepP code j ≠ none) : linksV code = ([], 93, (k : Int)) := by
  unfold linksV
  rw [if_neg (by omega), findIdx_none (fun j hj => by rw [hc j hj]; rfl)]
  simp only
  rw [find_range hk (by rw [(step_none code k).1 h1]; rfl) (fun j hj => by
    cases hs : stepR code j with
    | none => exact absurd ((step_none code j).2 hs) (h2 j hj)
    | some v => rfl)]
theorem linksV_ok {code : List Ins} (h : code.length ≤ 256) (hc : ∀ j (hj : j < code.length), checkI code[j] = true) (h2 : ∀ j, j < code.length → stepP code j ≠ none) : linksV code = (outsP code code.length, 0, 0) := by
  unfold linksV
  rw [if_neg (by omega), findIdx_none (fun j hj => by rw [hc j hj]; rfl)]
  simp only
  have : (List.range code.length).find? (fun k => (stepR code k).isNone) = none := by
    rw [List.find?_eq_none]
    intro j hj
    simp at hj
    cases hs : stepR code j with
    | none => exact absurd ((step_none code j).2 hs) (h2 j hj)
    | some v => simp
  rw [this, outs_same code h2]
/-- what the map of labels holds: the first of each name, from place m on -/
def LabD (code : List Ins) (m : Nat) (D : DataW Unit) : Prop :=
  ∀ nm : Tx, (∀ j, (code.drop m).findIdx? (isLab nm) = some j → Maps.has D (.string nm) = true ∧ D.atKey (.string nm) (.lit (.int .i64 0)) = .lit (.int .i64 ((m + j : Nat) : Int))) ∧ ((code.drop m).findIdx? (isLab nm) = none → Maps.has D (.string nm) = false)
theorem LabD.nil (code : List Ins) (m : Nat) (h : code.length ≤ m) : LabD code m (.map []) := by
  intro nm
  rw [List.drop_eq_nil_of_le h]
  exact ⟨fun j hj => by simp at hj, fun _ => rfl⟩
theorem findIdx_cons (p : Ins → Bool) (x : Ins) (l : List Ins) : (x :: l).findIdx? p = if p x then some 0 else (l.findIdx? p).map (· + 1) := by
  rw [List.findIdx?_cons]
theorem LabD.skip {code : List Ins} {m : Nat} {D : DataW Unit} {i : Ins} (h : LabD code (m + 1) D) (hi : code[m]? = some i) (hop : i.op ≠ 12) : LabD code m D := by
  intro nm
  obtain ⟨hlt, he⟩ := List.getElem?_eq_some_iff.1 hi
  rw [List.drop_eq_getElem_cons hlt, he, findIdx_cons, if_neg (by rw [isLab_iff]; exact fun h => hop h.1)]
  obtain ⟨h1, h2⟩ := h nm
  refine ⟨fun j hj => ?_, fun hn => h2 (by simpa using hn)⟩
  rw [Option.map_eq_some_iff] at hj
  obtain ⟨j', hj', rfl⟩ := hj
  obtain ⟨a, b⟩ := h1 j' hj'
  exact ⟨a, by rw [b]; congr 3; omega⟩
theorem LabD.put {code : List Ins} {m : Nat} {D : DataW Unit} {i : Ins} (h : LabD code (m + 1) D) (hm : IsMap D) (hi : code[m]? = some i) (hop : i.op = 12) (hk : WideAt.IsKeyLit (.string i.label)) : LabD code m (D.put (.string i.label) (.lit (.int .i64 (m : Int)))) := by
  intro nm
  obtain ⟨hlt, he⟩ := List.getElem?_eq_some_iff.1 hi
  rw [List.drop_eq_getElem_cons hlt, he, findIdx_cons]
  obtain ⟨h1, h2⟩ := h nm
  by_cases hn : i.label = nm
  · subst hn
    rw [if_pos (by rw [isLab_iff]; exact ⟨hop, rfl⟩)]
    refine ⟨fun j hj => ?_, fun hn => by simp at hn⟩
    simp at hj; subst hj
    exact ⟨has_put_same hm hk _, by rw [atKey_put_same hm hk]; rfl⟩
  · rw [if_neg (by rw [isLab_iff]; exact fun h => hn h.2)]
    have hne : (Lit.string nm) ≠ .string i.label := fun e => hn (by cases e; rfl)
    refine ⟨fun j hj => ?_, fun hn' => ?_⟩
    · rw [Option.map_eq_some_iff] at hj
      obtain ⟨j', hj', rfl⟩ := hj
      obtain ⟨a, b⟩ := h1 j' hj'
      rw [has_put_other hne, atKey_put_other hne]
      exact ⟨a, by rw [b]; congr 3; omega⟩
    · rw [has_put_other hne]; exact h2 (by simpa using hn')
end Go.Proofs.YtigimkgmghjgoaaGreatDoor

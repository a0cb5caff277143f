/- A step of a code leads on, and leaves registers that may be. No condition. -/
import Derived.Test.YtigimkgmghjgoaaGreatDoorQMathT
namespace Go.Proofs.YtigimkgmghjgoaaGreatDoor
open Go.RowKit
set_option linter.unusedVariables false

theorem linksV_lab {code : List Ins} (he : (linksV code).2.1 = 0) {k : Nat} {i : Ins} {lab : Int} (hi : code[k]? = some i) (ho : i.op = 11) (hl : (linksV code).1[k]? = some lab) : ∃ q : Nat, lab = q ∧ k < q ∧ q ≤ code.length := by
  have hkl := (List.getElem?_eq_some_iff.1 hi).1
  unfold linksV at he hl
  by_cases hlen : 256 < code.length
  · rw [if_pos hlen] at he; cases he
  · rw [if_neg hlen] at he hl
    cases hf : code.findIdx? fun i => !checkI i with
    | some k => rw [hf] at he; cases he
    | none =>
      rw [hf] at he hl
      simp only at he hl
      cases hg : (List.range code.length).find? fun k => (stepR code k).isNone with
      | some k => rw [hg] at he; cases he
      | none =>
        rw [hg] at hl
        simp only at hl
        have hsome : (stepR code k).isNone = false := by
          have := List.find?_eq_none.1 hg k (by simpa using hkl)
          cases hs : stepR code k with
          | none => rw [hs] at this; simp at this
          | some _ => rfl
        unfold outsR at hl
        rw [List.getElem?_map, List.getElem?_range hkl] at hl
        simp only [Option.map_some, Option.some.injEq] at hl
        unfold stepR at hl hsome
        rw [hi] at hl hsome
        simp only at hl hsome
        rw [if_neg (by omega), if_pos ho] at hl hsome
        cases hx : (code.drop (k + 1)).findIdx? (isLab i.label) with
        | none => rw [hx] at hsome; simp at hsome
        | some j =>
          rw [hx] at hl
          simp only [Option.map_some, Option.getD_some] at hl
          have hj := (List.findIdx?_eq_some_iff_getElem.1 hx).1
          simp at hj
          exact ⟨k + 1 + j, hl.symm, by omega, by omega⟩
theorem linksV_short {code : List Ins} (he : (linksV code).2.1 = 0) : code.length ≤ 256 := (linksV_ok0 he).1
theorem RegsOk.may {l : List Vl} (h : RegsOk l) {k : Nat} {v : Vl} (hk : l[k]? = some v) : mayB v = true := List.all_eq_true.1 h.2.1 v (List.mem_of_getElem? hk)
theorem mixV_may {op : Int} {a b v : Vl} (ha : mayB a = true) (hb : mayB b = true) (h : mixV op a b = some v) : mayB v = true := by
  unfold mixV at h
  split at h
  · cases h; exact mayB_vn (f32_in _ _ _)
  · split at h
    · cases h; exact ha
    · split at h
      · cases h; exact hb
      · cases h
theorem valR_may {i : Ins} {a b v : Vl} (hc : checkI i = true) (ha : mayB a = true) (hb : mayB b = true) (h : valR i a b = some v) : mayB v = true := by
  unfold valR at h
  split at h
  · rename_i ho
    exact mixV_may ha (mayB_vn (imm_n32 hc ho)) h
  · split at h
    · unfold xorV at h
      split at h
      · cases h; exact may0
      · exact mixV_may ha hb h
    · exact mixV_may ha hb h
theorem setR_ok {l : List Vl} (h : RegsOk l) {d : Int} (hd : regB d = true) {v : Vl} (hv : mayB v = true) : RegsOk (setR l d v) := by
  obtain ⟨k, hk, rfl⟩ := regB_nat hd
  unfold setR
  by_cases h0 : (k : Int) = 0
  · rw [if_pos h0]; exact h
  · rw [if_neg h0]
    exact h.set (by simpa using h0) hv
/-- one step: refused as wild, or on -/
theorem ends_step {code : List Ins} {l : List Vl} {k : Nat} (he : (linksV code).2.1 = 0) (h : RegsOk l) (hk : k < code.length) :
    doV code l k = doE 92 ∨ ∃ (R : List Vl) (q : Nat) (A : Ac), doV code l k = ⟨R, q, A, 0⟩ ∧ RegsOk R ∧ k < q ∧ q ≤ code.length := by
  obtain ⟨k', i, va, vb, lab, hk', hi, hci, hva, hvb, hlab, hma, hmb, hl32, hk1, hd⟩ := doV_main he (h.ready hk)
  have hkk : k = k' := by omega
  subst hkk
  obtain ⟨-, -, hD, -, -⟩ := checkI_spec hci
  rw [hd]
  unfold stepV
  have yes : ∀ (A : Ac), ∃ (R : List Vl) (q : Nat) (B : Ac), (⟨l, (k : Int) + 1, A, 0⟩ : DoR) = ⟨R, q, B, 0⟩ ∧ RegsOk R ∧ k < q ∧ q ≤ code.length := fun A => ⟨l, k + 1, A, by simp, h, by omega, by omega⟩
  split
  · split
    · exact .inl rfl
    · exact .inr (yes _)
  · split
    · split
      · exact .inl rfl
      · exact .inr (yes _)
    · split
      · split
        · cases hv : valR i va vb with
          | none => rename_i h1 h2; rw [hv] at h2; simp at h2
          | some v =>
            refine .inr ⟨setR l i.d v, k + 1, ac1, ?_, setR_ok h hD (valR_may hci (h.may hva) (h.may hvb) hv), by omega, by omega⟩
            simp [outM]
        · exact .inl rfl
      · split
        · rename_i h1 h2 h3 ho
          by_cases hab : va = vb
          · rw [if_pos hab]; exact .inr (yes _)
          · rw [if_neg hab]
            obtain ⟨q, rfl, hq1, hq2⟩ := linksV_lab he hi ho hlab
            exact .inr ⟨l, q, ac1, rfl, h, hq1, hq2⟩
        · split
          · exact .inr (yes _)
          · exact .inr (yes _)
end Go.Proofs.YtigimkgmghjgoaaGreatDoor

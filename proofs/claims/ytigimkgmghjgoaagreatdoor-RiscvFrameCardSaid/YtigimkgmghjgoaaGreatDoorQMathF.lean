/- A register that is not read changes nothing of what an instruction tells. No condition. -/
import Derived.Test.YtigimkgmghjgoaaGreatDoorQMathU
namespace Go.Proofs.YtigimkgmghjgoaaGreatDoor
open Go.RowKit
set_option linter.unusedVariables false

theorem doV_e0 {code : List Ins} {l : List Vl} {at' : Int} (h : (doV code l at').e = 0) : (linksV code).2.1 = 0 ∧ readyV code.length l at' = true := by
  unfold doV at h
  by_cases h1 : (linksV code).2.1 = 0
  · rw [if_neg (by rw [h1]; simp)] at h
    cases h2 : readyV code.length l at' with
    | true => exact ⟨h1, rfl⟩
    | false => rw [if_pos h2] at h; exact absurd h (by decide)
  · rw [if_pos h1] at h; exact absurd h h1
theorem ready_ok {n : Nat} {l : List Vl} {at' : Int} (h : readyV n l at' = true) : ∃ k : Nat, at' = k ∧ k < n ∧ RegsOk l := by
  obtain ⟨h0, h1, h2, h3, h4⟩ := ready_spec h
  exact ⟨at'.toNat, by omega, by omega, h2, List.all_eq_true.2 h3, h4⟩
/-- the registers that an instruction leaves as they are -/
theorem step_keeps {i : Ins} {va vb : Vl} {lab p : Int} {l R : List Vl} {q : Int} {A : Ac} (hc : checkI i = true) (hl : l.length = 32) (h : stepV i va vb lab p l = ⟨R, q, A, 0⟩) :
    R.length = 32 ∧ ∀ (j : Nat), (j : Int) ≠ usesW i → R[j]? = l[j]? := by
  obtain ⟨-, -, hD, -, -⟩ := checkI_spec hc
  unfold stepV at h
  have same : ∀ {q' : Int} {A' : Ac}, (⟨l, q', A', 0⟩ : DoR) = ⟨R, q, A, 0⟩ → R.length = 32 ∧ ∀ (j : Nat), (j : Int) ≠ usesW i → R[j]? = l[j]? := fun h => by
    simp only [DoR.mk.injEq] at h
    obtain ⟨rfl, -⟩ := h
    exact ⟨hl, fun j _ => rfl⟩
  have no : ∀ {P : Prop}, doE 92 = (⟨R, q, A, 0⟩ : DoR) → P := fun h => by simp [doE] at h
  split at h
  · split at h
    · exact no h
    · exact same h
  · split at h
    · split at h
      · exact no h
      · exact same h
    · split at h
      · rename_i ho
        split at h
        · simp only [DoR.mk.injEq] at h
          obtain ⟨hR, -⟩ := h
          have hw : usesW i = i.d := by unfold usesW; rw [if_pos (by omega)]
          cases hv : valR i va vb with
          | none => rename_i h2; rw [hv] at h2; simp at h2
          | some v =>
            rw [hv] at hR
            have hR : setR l i.d v = R := hR
            obtain ⟨kd, hkd, hd⟩ := regB_nat hD
            unfold setR at hR
            split at hR
            · rw [← hR]; exact ⟨hl, fun j _ => rfl⟩
            · rw [← hR]
              refine ⟨by simpa using hl, fun j hj => ?_⟩
              rw [hw, hd] at hj
              rw [hd, List.getElem?_set_ne (by simp; omega)]
        · exact no h
      · split at h
        · exact same h
        · split at h
          · exact same h
          · exact same h
/-- another value in a register that is not read: the same is told -/
theorem step_frame {i : Ins} {va vb va' vb' : Vl} {lab p : Int} {l R : List Vl} {q : Int} {A : Ac} {r : Nat} {v : Vl} (hc : checkI i = true) (hl : l.length = 32) (hr : r < 32)
    (ha : i.a ≠ r → va' = va) (hb : i.b ≠ r → vb' = vb) (hr2 : (r : Int) ∉ usesL i) (h : stepV i va vb lab p l = ⟨R, q, A, 0⟩) :
    ∃ R', stepV i va' vb' lab p (l.set r v) = ⟨R', q, A, 0⟩ ∧ (usesW i < 1 ∨ A.kind = 2 ∨ R'[(usesW i).toNat]? = R[(usesW i).toNat]?) := by
  obtain ⟨-, -, hD, -, -⟩ := checkI_spec hc
  have no : ∀ {P : Prop}, doE 92 = (⟨R, q, A, 0⟩ : DoR) → P := fun h => by simp [doE] at h
  have inA : ¬ (i.op = 12 ∨ i.op = 13) → i.a ≠ r := fun ho e => hr2 (by
    unfold usesL; rw [if_neg ho, e]
    split
    · simp
    · split
      · simp
      · split <;> simp)
  have inB : ¬ (i.op = 12 ∨ i.op = 13) → ¬ (i.op = 6 ∨ i.op = 8) → i.b ≠ r := fun ho ho2 e => hr2 (by
    unfold usesL; rw [if_neg ho, if_neg ho2]
    split
    · simp [e]
    · split
      · simp [e]
      · have : i.a = i.b := by omega
        simp [this, e])
  have wr : ∀ (x : Option Vl), x.isSome = true → (usesW i = i.d) → ∀ (m : List Vl), m.length = 32 → usesW i < 1 ∨ A.kind = 2 ∨ (outM m i.d x)[(usesW i).toNat]? = x := fun x hx hw m hm => by
    obtain ⟨kd, hkd, hd⟩ := regB_nat hD
    cases x with
    | none => simp at hx
    | some v =>
      rw [hw, hd]
      by_cases h0 : (kd : Int) < 1
      · exact .inl h0
      · refine .inr (.inr ?_)
        show (setR m (kd : Int) v)[_]? = _
        unfold setR
        rw [if_neg (by omega)]
        exact List.getElem?_set_self (by rw [hm]; simp; omega)
  unfold stepV at h ⊢
  rcases opOf hc with ho | ho | ho | ho | ho | ho | ho | ho
  · have e1 := ha (inA (by omega))
    subst e1
    rw [if_pos ho] at h ⊢
    split at h
    · exact no h
    · rename_i h1
      rw [if_neg h1]
      simp only [DoR.mk.injEq] at h
      obtain ⟨-, h2, h3, -⟩ := h
      exact ⟨_, by rw [h2, h3], .inr (.inl (by rw [← h3]))⟩
  · have e1 := ha (inA (by omega)); have e2 := hb (inB (by omega) (by omega))
    subst e1 e2
    rw [if_neg (by omega), if_pos ho] at h ⊢
    split at h
    · exact no h
    · rename_i h1
      rw [if_neg h1]
      simp only [DoR.mk.injEq] at h
      obtain ⟨-, h2, h3, -⟩ := h
      exact ⟨_, by rw [h2, h3], .inl (by unfold usesW; rw [if_neg (by omega)]; decide)⟩
  · have e1 := ha (inA (by omega))
    subst e1
    have hvv : valR i va' vb' = valR i va' vb := by unfold valR; rw [if_pos ho, if_pos ho]
    rw [if_neg (by omega), if_neg (by omega), if_pos (by omega)] at h ⊢
    rw [hvv]
    split at h
    · rename_i h1
      rw [if_pos h1]
      simp only [DoR.mk.injEq] at h
      obtain ⟨hR, h2, h3, -⟩ := h
      have hw : usesW i = i.d := by unfold usesW; rw [if_pos (by omega)]
      refine ⟨_, by rw [h2, h3], ?_⟩
      rcases wr _ h1 hw (l.set r v) (by simpa using hl) with h4 | h4 | h4
      · exact .inl h4
      · exact .inr (.inl h4)
      · rcases wr _ h1 hw l hl with h5 | h5 | h5
        · exact .inl h5
        · exact .inr (.inl h5)
        · exact .inr (.inr (by rw [h4, ← hR, h5]))
    · exact no h
  · have e1 := ha (inA (by omega)); have e2 := hb (inB (by omega) (by omega))
    subst e1 e2
    rw [if_neg (by omega), if_neg (by omega), if_pos (by omega)] at h ⊢
    split at h
    · rename_i h1
      rw [if_pos h1]
      simp only [DoR.mk.injEq] at h
      obtain ⟨hR, h2, h3, -⟩ := h
      have hw : usesW i = i.d := by unfold usesW; rw [if_pos (by omega)]
      refine ⟨_, by rw [h2, h3], ?_⟩
      rcases wr _ h1 hw (l.set r v) (by simpa using hl) with h4 | h4 | h4
      · exact .inl h4
      · exact .inr (.inl h4)
      · rcases wr _ h1 hw l hl with h5 | h5 | h5
        · exact .inl h5
        · exact .inr (.inl h5)
        · exact .inr (.inr (by rw [h4, ← hR, h5]))
    · exact no h
  · have e1 := ha (inA (by omega)); have e2 := hb (inB (by omega) (by omega))
    subst e1 e2
    rw [if_neg (by omega), if_neg (by omega), if_pos (by omega)] at h ⊢
    split at h
    · rename_i h1
      rw [if_pos h1]
      simp only [DoR.mk.injEq] at h
      obtain ⟨hR, h2, h3, -⟩ := h
      have hw : usesW i = i.d := by unfold usesW; rw [if_pos (by omega)]
      refine ⟨_, by rw [h2, h3], ?_⟩
      rcases wr _ h1 hw (l.set r v) (by simpa using hl) with h4 | h4 | h4
      · exact .inl h4
      · exact .inr (.inl h4)
      · rcases wr _ h1 hw l hl with h5 | h5 | h5
        · exact .inl h5
        · exact .inr (.inl h5)
        · exact .inr (.inr (by rw [h4, ← hR, h5]))
    · exact no h
  · have e1 := ha (inA (by omega)); have e2 := hb (inB (by omega) (by omega))
    subst e1 e2
    rw [if_neg (by omega), if_neg (by omega), if_neg (by omega), if_pos ho] at h ⊢
    simp only [DoR.mk.injEq] at h
    obtain ⟨-, h2, h3, -⟩ := h
    exact ⟨_, by rw [h2, h3], .inl (by unfold usesW; rw [if_neg (by omega)]; decide)⟩
  · rw [if_neg (by omega), if_neg (by omega), if_neg (by omega), if_neg (by omega), if_neg (by omega)] at h ⊢
    simp only [DoR.mk.injEq] at h
    obtain ⟨-, h2, h3, -⟩ := h
    exact ⟨_, by rw [h2, h3], .inl (by unfold usesW; rw [if_neg (by omega)]; decide)⟩
  · rw [if_neg (by omega), if_neg (by omega), if_neg (by omega), if_neg (by omega), if_pos ho] at h ⊢
    simp only [DoR.mk.injEq] at h
    obtain ⟨-, h2, h3, -⟩ := h
    exact ⟨_, by rw [h2, h3], .inl (by unfold usesW; rw [if_neg (by omega)]; decide)⟩
/-- all that the statement asks of two threads -/
theorem frame_ok {code : List Ins} {l R : List Vl} {k : Nat} {q : Int} {A : Ac} (h : doV code l k = ⟨R, q, A, 0⟩) :
    ∃ i, code[k]? = some i ∧ checkI i = true ∧ RegsOk l ∧ R.length = 32 ∧ (∀ (j : Nat), (j : Int) ≠ usesW i → R[j]? = l[j]?) ∧
      ∀ (r : Nat) (v : Vl), 1 ≤ r → r < 32 → mayB v = true → (r : Int) ∉ usesL i → ∃ R', doV code (l.set r v) k = ⟨R', q, A, 0⟩ ∧ R'.length = 32 ∧ (usesW i < 1 ∨ A.kind = 2 ∨ R'[(usesW i).toNat]? = R[(usesW i).toNat]?) := by
  obtain ⟨he, hr⟩ := doV_e0 (code := code) (l := l) (at' := k) (by rw [h])
  obtain ⟨k0, hk0, hkn, hok⟩ := ready_ok hr
  have hkk : k = k0 := by omega
  subst hkk
  have e1 : code.getD k ins0 = code[k] := by simp [List.getD_eq_getElem?_getD, hkn]
  have hci : checkI code[k] = true := (linksV_ok0 he).2.1 k hkn
  have h' := h
  rw [doV_go he hr, e1] at h'
  obtain ⟨hl, hk⟩ := step_keeps hci hok.1 h'
  refine ⟨code[k], List.getElem?_eq_getElem hkn, hci, hok, hl, hk, fun r v hr1 hr2 hv hn => ?_⟩
  have hok2 := hok.set (show r ≠ 0 by omega) hv
  obtain ⟨-, -, hD, hA, hB⟩ := checkI_spec hci
  obtain ⟨ka, hka, hia⟩ := regB_nat hA
  obtain ⟨kb, hkb, hib⟩ := regB_nat hB
  obtain ⟨R', h1, h2⟩ := step_frame (va' := (l.set r v).getD code[k].a.toNat vl0) (vb' := (l.set r v).getD code[k].b.toNat vl0) (v := v) hci hok.1 hr2
    (fun hne => by rw [hia] at hne ⊢; simp only [List.getD_eq_getElem?_getD]; rw [List.getElem?_set_ne (by simp; omega)])
    (fun hne => by rw [hib] at hne ⊢; simp only [List.getD_eq_getElem?_getD]; rw [List.getElem?_set_ne (by simp; omega)]) hn h'
  have h3 : doV code (l.set r v) k = ⟨R', q, A, 0⟩ := by rw [doV_go he (hok2.ready hkn), e1]; exact h1
  refine ⟨R', h3, ?_, h2⟩
  rw [doV_go he (hok2.ready hkn), e1] at h3
  exact (step_keeps hci hok2.1 h3).1
end Go.Proofs.YtigimkgmghjgoaaGreatDoor

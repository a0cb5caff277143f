/- The library's plain functions at one byte, and numerals of up to four digits; no program, no condition. -/
import Derived.Test.YtigimkgmghjgoaaGreatDoorMathR2
import Derived.Lib.SplitLaws
import Derived.Lib.Strings
import Derived.Lib.ItoaMem
namespace Go.Proofs.YtigimkgmghjgoaaGreatDoor
set_option linter.unusedVariables false

theorem dgt_eq (n : Nat) : UInt8.ofNat (48 + n % 10) = dgt n := rfl
theorem decDigits_decN {n : Nat} (h : n < 10000) : Lib.decDigits n = decN n := by
  have step : ∀ n, ¬ n < 10 → Lib.decDigits n = Lib.decDigits (n / 10) ++ [dgt n] := fun n hn => by rw [Lib.decDigits, dif_neg hn]; rfl
  have one : ∀ n, n < 10 → Lib.decDigits n = [dgt n] := fun n hn => by rw [Lib.decDigits, dif_pos hn]; unfold dgt; rw [Nat.mod_eq_of_lt hn]
  unfold decN
  split
  · rename_i h1; exact one n h1
  · rename_i h1
    split
    · rename_i h2; rw [step n h1, one _ (by omega)]; rfl
    · rename_i h2
      split
      · rename_i h3; rw [step n h1, step _ (by omega), one _ (by omega), Nat.div_div_eq_div_mul]; rfl
      · rename_i h3; rw [step n h1, step _ (by omega), step _ (by omega), one _ (by omega), Nat.div_div_eq_div_mul n 10 10, Nat.div_div_eq_div_mul]; rfl
theorem itoa_decI {n : Int} (h1 : -10000 < n) (h2 : n < 10000) : Lib.itoa n = decI n := by
  unfold Lib.itoa decI
  split
  · rw [decDigits_decN (by omega)]
  · rw [decDigits_decN (by omega)]
theorem hasSuffix_one (l : Tx) (c : UInt8) : Lib.hasSuffix l [c] = (l.getLast? == some c) := by
  unfold Lib.hasSuffix
  rw [Bool.eq_iff_iff]
  simp only [List.isSuffixOf_iff_suffix, beq_iff_eq]
  constructor
  · rintro ⟨t, rfl⟩; simp
  · intro h
    have hne : l ≠ [] := by intro e; subst e; simp at h
    refine ⟨l.dropLast, ?_⟩
    rw [List.getLast?_eq_some_getLast hne] at h
    simp at h; rw [← h]
    exact List.dropLast_concat_getLast hne
theorem indexByte_miss (c : UInt8) : ∀ l : Tx, c ∉ l → Lib.indexByte l c = -1
  | [], _ => rfl
  | b :: l, h => by
    simp only [List.mem_cons, not_or] at h
    unfold Lib.indexByte
    rw [indexByte_miss c l h.2, if_neg (by simpa using Ne.symm h.1)]; rfl
theorem indexByte_hit (c : UInt8) : ∀ l : Tx, c ∈ l → Lib.indexByte l c = (l.takeWhile (· != c)).length ∧ (l.takeWhile (· != c)).length < l.length
  | [], h => by simp at h
  | b :: l, h => by
    unfold Lib.indexByte
    by_cases hb : b = c
    · subst hb; simp
    · have hm : c ∈ l := by rcases List.mem_cons.1 h with e | e; exact absurd e.symm hb; exact e
      obtain ⟨h1, h2⟩ := indexByte_hit c l hm
      rw [h1, if_neg (by simpa using hb), if_neg (by simp), List.takeWhile_cons, if_pos (by simpa using hb)]
      simp; exact h2
theorem index_cons_ne {b c : UInt8} (l : Tx) (h : b ≠ c) : Lib.index (b :: l) [c] = if Lib.index l [c] == -1 then -1 else Lib.index l [c] + 1 := by
  have hp : ([c] : Tx).isPrefixOf (b :: l) = false := by simp [List.isPrefixOf, Ne.symm h]
  rw [Lib.index, hp]; simp
theorem splitK_one (c : UInt8) : ∀ l : Tx, Lib.splitK [c] 0 (Lib.count l [c]) l = splitC c l
  | [] => by rw [Lib.count_miss (by simp [Lib.index])]; rfl
  | b :: l => by
    have ih := splitK_one c l
    unfold splitC
    by_cases hb : b = c
    · subst hb
      have hix : Lib.index (b :: l) [b] = ((0 : Nat) : Int) := by rw [Lib.index]; simp [List.isPrefixOf]
      rw [Lib.count_cons_eq, Nat.add_comm, Lib.splitK, hix, if_neg (by simp), if_pos (by simp)]
      simp [ih]
    · rw [Lib.count_cons_ne b c l hb, if_neg (by simpa using hb), ← ih]
      by_cases hm : Lib.index l [c] = -1
      · rw [Lib.count_miss hm]; rfl
      · have hge := Lib.index_ge l [c]
        obtain ⟨j, hj⟩ : ∃ j : Nat, Lib.index l [c] = j := ⟨(Lib.index l [c]).toNat, by omega⟩
        rw [Lib.count_hit (by simp) hj, Nat.add_comm, Lib.splitK, Lib.splitK, index_cons_ne l hb, hj]
        rw [if_neg (show ¬ (((j : Nat) : Int) == -1) = true by simp), if_neg (show ¬ (((j : Nat) : Int) + 1 == -1) = true by simp; omega), if_neg (show ¬ (((j : Nat) : Int) == -1) = true by simp)]
        simp [show ((j : Int) + 1).toNat = j + 1 by omega]
theorem splitC_ne (c : UInt8) : ∀ l : Tx, splitC c l ≠ []
  | [] => by simp [splitC]
  | b :: l => by
    unfold splitC
    split
    · simp
    · split <;> simp
theorem splitC_length_le (c : UInt8) : ∀ l : Tx, (splitC c l).length ≤ l.length + 1
  | [] => by simp [splitC]
  | b :: l => by
    have ih := splitC_length_le c l
    unfold splitC
    split
    · simp; omega
    · split
      · simp
      · rename_i x t h; rw [h] at ih; simp at ih ⊢; omega
end Go.Proofs.YtigimkgmghjgoaaGreatDoor

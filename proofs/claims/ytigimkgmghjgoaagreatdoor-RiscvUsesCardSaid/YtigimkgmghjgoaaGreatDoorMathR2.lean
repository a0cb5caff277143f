/- RISC-V instructions and their texts: what is printed is read as what it was; what is read may be. Plain lists; no program, no condition. -/
import Derived.Test.YtigimkgmghjgoaaGreatDoorMathR
namespace Go.Proofs.YtigimkgmghjgoaaGreatDoor
set_option linter.unusedVariables false

theorem blank_cs (c : UInt8) : ([32, 9, 10, 13] : Tx).contains c = blankC c := by
  unfold blankC; simp [List.contains, List.elem, Bool.or_assoc]
  cases h1 : c == 32 <;> cases h2 : c == 9 <;> cases h3 : c == 10 <;> cases h4 : c == 13 <;> simp_all
theorem trimL_eq (l : Tx) : Lib.trimLeftS l [32, 9, 10, 13] = l.dropWhile blankC := by
  unfold Lib.trimLeftS; congr 1; funext c; exact blank_cs c
theorem trimR_eq (l : Tx) : Lib.trimRightS l [32, 9, 10, 13] = (l.reverse.dropWhile blankC).reverse := by
  unfold Lib.trimRightS; congr 2; funext c; exact blank_cs c
theorem trimT_eq (l : Tx) : trimT l = ((l.reverse.dropWhile blankC).reverse).dropWhile blankC := by
  unfold trimT Lib.trimS; rw [trimR_eq, trimL_eq]
theorem dropWhile_head {α : Type} {p : α → Bool} : ∀ {l : List α}, (∀ c, l.head? = some c → p c = false) → l.dropWhile p = l
  | [], _ => rfl
  | c :: r, h => by rw [List.dropWhile_cons]; rw [if_neg (by rw [h c rfl]; simp)]
theorem head_dropWhile {α : Type} {p : α → Bool} : ∀ {l : List α} {c : α}, (l.dropWhile p).head? = some c → p c = false
  | [], c, h => by simp at h
  | b :: r, c, h => by
    rw [List.dropWhile_cons] at h
    by_cases hb : p b = true
    · rw [if_pos hb] at h; exact head_dropWhile h
    · rw [if_neg hb] at h; simp at h; subst h; simpa using hb
theorem trimT_clean {l : Tx} (h1 : ∀ c, l.head? = some c → blankC c = false) (h2 : ∀ c, l.getLast? = some c → blankC c = false) : trimT l = l := by
  rw [trimT_eq, dropWhile_head (l := l.reverse) (by intro c hc; rw [List.head?_reverse] at hc; exact h2 c hc), List.reverse_reverse, dropWhile_head h1]
theorem trimT_blank (l : Tx) (b : UInt8) (hb : blankC b = true) (h0 : l ≠ []) (h1 : ∀ c, l.head? = some c → blankC c = false) (h2 : ∀ c, l.getLast? = some c → blankC c = false) : trimT (b :: l) = l := by
  rw [trimT_eq, dropWhile_head (l := (b :: l).reverse), List.reverse_reverse, List.dropWhile_cons, if_pos hb, dropWhile_head h1]
  intro c hc
  rw [List.head?_reverse, List.getLast?_cons] at hc
  obtain ⟨x, hx⟩ : ∃ x, l.getLast? = some x := ⟨l.getLast h0, List.getLast?_eq_some_getLast h0⟩
  rw [hx] at hc
  simp at hc; subst hc
  exact h2 x hx

theorem splitC_none (c : UInt8) : ∀ (l : Tx), c ∉ l → splitC c l = [l]
  | [], _ => rfl
  | b :: r, h => by
    simp only [List.mem_cons, not_or] at h
    unfold splitC
    rw [splitC_none c r h.2, if_neg (by simpa using Ne.symm h.1)]
theorem splitC_app (c : UInt8) : ∀ (l r : Tx), c ∉ l → splitC c (l ++ c :: r) = l :: splitC c r
  | [], r, _ => by simp [splitC]
  | b :: l, r, h => by
    simp only [List.mem_cons, not_or] at h
    rw [List.cons_append]
    conv => lhs; unfold splitC
    rw [splitC_app c l r h.2, if_neg (by simpa using Ne.symm h.1)]

/-! ### registers, numerals -/
theorem regOf_regT_fin : ∀ n : Fin 32, regOf (regT n.val) = some n.val := by decide +kernel
theorem regOf_regT {n : Nat} (h : n < 32) : regOf (regT n) = some n := regOf_regT_fin ⟨n, h⟩
theorem regOf_some {s : Tx} {n : Nat} (h : regOf s = some n) : n < 32 ∧ s = regT n := by
  unfold regOf at h
  have h1 := List.find?_some h
  have h2 := List.mem_of_find?_eq_some h
  simp at h1 h2
  exact ⟨h2, h1.symm⟩
/-- a text without blanks, commas and colons, not empty -/
def Cl (x : Tx) : Prop := x ≠ [] ∧ ∀ c ∈ x, blankC c = false ∧ c ≠ 44 ∧ c ≠ 58
instance (x : Tx) : Decidable (Cl x) := by unfold Cl; infer_instance
theorem Cl.head {x : Tx} (h : Cl x) : ∀ c, x.head? = some c → blankC c = false := fun c hc => (h.2 c (List.mem_of_head? hc)).1
theorem Cl.last {x : Tx} (h : Cl x) : ∀ c, x.getLast? = some c → blankC c = false := fun c hc => (h.2 c (List.mem_of_getLast? hc)).1
theorem Cl.comma {x : Tx} (h : Cl x) : (44 : UInt8) ∉ x := fun hm => (h.2 _ hm).2.1 rfl
theorem Cl.trim {x : Tx} (h : Cl x) : trimT x = x := trimT_clean h.head h.last
theorem Cl.trim1 {x : Tx} (h : Cl x) : trimT (32 :: x) = x := trimT_blank x 32 (by decide) h.1 h.head h.last
theorem Cl.app {x y : Tx} (h : Cl x) (h' : Cl y) : Cl (x ++ y) := ⟨by simp [h.1], fun c hc => by rcases List.mem_append.1 hc with h1 | h1; exact h.2 c h1; exact h'.2 c h1⟩
theorem cl_regT_fin : ∀ n : Fin 32, Cl (regT n.val) := by decide +kernel
theorem cl_regT {n : Nat} (h : n < 32) : Cl (regT n) := cl_regT_fin ⟨n, h⟩
theorem addr_fin : ∀ n : Fin 32, addrT ([48, 40] ++ regT n.val ++ [41]) = some n.val := by decide +kernel
theorem addr_regT {n : Nat} (h : n < 32) : addrT ([48, 40] ++ regT n ++ [41]) = some n := addr_fin ⟨n, h⟩
def valT : Nat → Tx → Nat
  | a, [] => a
  | a, c :: r => valT (10 * a + (c.toNat - 48)) r
def valI : Tx → Int
  | [] => 0
  | c :: r => if c = 45 then -(valT 0 r : Int) else valT 0 (c :: r)
theorem valI_fin : ∀ a : Fin 64, ∀ b : Fin 64, valI (decI ((64 * a.val + b.val : Nat) - 2048)) = (64 * a.val + b.val : Nat) - 2048 := by decide +kernel
theorem valI_decI {n : Int} (h1 : -2048 ≤ n) (h2 : n ≤ 2047) : valI (decI n) = n := by
  have := valI_fin ⟨(n + 2048).toNat / 64, by omega⟩ ⟨(n + 2048).toNat % 64, by omega⟩
  simp only at this
  rwa [show ((64 * ((n + 2048).toNat / 64) + (n + 2048).toNat % 64 : Nat) : Int) - 2048 = n by omega] at this
theorem cl_decI_fin : ∀ a : Fin 64, ∀ b : Fin 64, Cl (decI ((64 * a.val + b.val : Nat) - 2048)) := by decide +kernel
theorem cl_decI {n : Int} (h1 : -2048 ≤ n) (h2 : n ≤ 2047) : Cl (decI n) := by
  have := cl_decI_fin ⟨(n + 2048).toNat / 64, by omega⟩ ⟨(n + 2048).toNat % 64, by omega⟩
  simp only at this
  rwa [show ((64 * ((n + 2048).toNat / 64) + (n + 2048).toNat % 64 : Nat) : Int) - 2048 = n by omega] at this
theorem numT_some {s : Tx} {v : Int} (h : numT s = some v) : s = decI v ∧ -2048 ≤ v ∧ v ≤ 2047 := by
  unfold numT at h
  cases hf : (List.range 4096).find? fun (n : Nat) => decI ((n : Int) - 2048) == s with
  | none => rw [hf] at h; simp at h
  | some k =>
    rw [hf] at h
    have h1 := List.find?_some hf
    have h2 := List.mem_of_find?_eq_some hf
    simp at h h1 h2
    subst h
    exact ⟨h1.symm, by omega, by omega⟩
theorem numT_decI {n : Int} (h1 : -2048 ≤ n) (h2 : n ≤ 2047) : numT (decI n) = some n := by
  cases hn : numT (decI n) with
  | none =>
    unfold numT at hn
    simp only [Option.map_eq_none_iff, List.find?_eq_none, List.mem_range, beq_iff_eq] at hn
    have := hn (n + 2048).toNat (by omega)
    rw [show (((n + 2048).toNat : Nat) : Int) - 2048 = n by omega] at this
    exact absurd rfl this
  | some v =>
    obtain ⟨e, b1, b2⟩ := numT_some hn
    have := congrArg valI e
    rw [valI_decI h1 h2, valI_decI b1 b2] at this
    rw [this]
theorem fparts_fin : ∀ k : Fin 9, fpartOf (fpart ((k.val : Int) / 3)) = some ((k.val : Int) / 3) ∧ fpartOf (fpart ((k.val : Int) % 3)) = some ((k.val : Int) % 3) ∧ Cl (fpart ((k.val : Int) / 3)) ∧ Cl (fpart ((k.val : Int) % 3)) := by decide +kernel

/-! ### names -/
theorem nameB_cl {x : Tx} (h : nameB x = true) : Cl x ∧ x.length ≤ 32 := by
  cases x with
  | nil => simp [nameB] at h
  | cons c r =>
    simp only [nameB, Bool.and_eq_true, decide_eq_true_eq, List.all_eq_true] at h
    obtain ⟨⟨h1, h2⟩, h3⟩ := h
    have key : ∀ y : UInt8, nameC y = true → blankC y = false ∧ y ≠ 44 ∧ y ≠ 58 := by
      intro y hy
      unfold nameC letterC digitC at hy
      simp only [Bool.or_eq_true, Bool.and_eq_true, decide_eq_true_eq, beq_iff_eq, UInt8.le_iff_toNat_le] at hy
      unfold blankC
      refine ⟨?_, ?_, ?_⟩
      · simp only [Bool.or_eq_false_iff, beq_eq_false_iff_ne]
        refine ⟨⟨⟨?_, ?_⟩, ?_⟩, ?_⟩ <;> rintro rfl <;> revert hy <;> decide
      · rintro rfl; revert hy; decide
      · rintro rfl; revert hy; decide
    refine ⟨⟨by simp, fun y hy => ?_⟩, by simp; omega⟩
    rcases List.mem_cons.1 hy with rfl | hy
    · exact key y (by unfold nameC; rw [h2]; rfl)
    · exact key y (h3 y hy)
theorem regB_nat {n : Int} (h : regB n = true) : ∃ k : Nat, k < 32 ∧ n = k := by
  unfold regB at h
  simp at h
  exact ⟨n.toNat, by omega, by omega⟩
theorem regB_of {k : Nat} (h : k < 32) : regB (k : Int) = true := by unfold regB; simp; omega

/-! ### there and back -/
theorem parse_op (O body : Tx) (hO : O ≠ [] ∧ ∀ c ∈ O, blankC c = false) (hb : body ≠ []) (hl : ∀ c, body.getLast? = some c → blankC c = false ∧ c ≠ 58) (hlen : O.length + body.length ≤ 1000) (hf : O ++ 32 :: body ≠ [102, 101, 110, 99, 101, 46, 116, 115, 111]) :
    parseI (O ++ 32 :: body) = readI O ((splitC 44 (32 :: body)).map trimT) := by
  obtain ⟨o, O', rfl⟩ : ∃ o O', O = o :: O' := by cases O with
    | nil => exact absurd rfl hO.1
    | cons o O' => exact ⟨o, O', rfl⟩
  have ho : blankC o = false := hO.2 o (by simp)
  obtain ⟨z, hz⟩ : ∃ z, body.getLast? = some z := ⟨body.getLast hb, List.getLast?_eq_some_getLast hb⟩
  have hlast : ((o :: O') ++ 32 :: body).getLast? = some z := by
    rw [List.getLast?_append, List.getLast?_cons, hz]; rfl
  have ht : trimT ((o :: O') ++ 32 :: body) = (o :: O') ++ 32 :: body := by
    refine trimT_clean (fun c hc => ?_) (fun c hc => ?_)
    · simp at hc; subst hc; exact ho
    · rw [hlast] at hc; cases hc; exact (hl z hz).1
  unfold parseI
  rw [if_neg (by simp at hlen ⊢; omega)]
  simp only [ht]
  rw [if_neg hf, if_neg (by rw [hlast]; simpa using (hl z hz).2)]
  have htw : ((o :: O') ++ 32 :: body).takeWhile (fun c => !blankC c) = o :: O' := by
    rw [List.takeWhile_append_of_pos (by intro c hc; rw [hO.2 c hc]; rfl)]
    simp [show blankC 32 = true by decide]
  have hdw : ((o :: O') ++ 32 :: body).dropWhile (fun c => !blankC c) = 32 :: body := by
    rw [List.dropWhile_append_of_pos (by intro c hc; rw [hO.2 c hc]; rfl)]
    simp [show blankC 32 = true by decide]
  rw [htw, hdw]
theorem split2 {x y : Tx} (hx : Cl x) (hy : (44 : UInt8) ∉ y) : (splitC 44 (32 :: (x ++ 44 :: y))).map trimT = [x, trimT y] := by
  rw [show (32 :: (x ++ 44 :: y) : Tx) = (32 :: x) ++ 44 :: y from rfl, splitC_app 44 (32 :: x) y (by simp [hx.comma]), splitC_none 44 y hy]
  simp [hx.trim1]
theorem split3 {x y z : Tx} (hx : Cl x) (hy : Cl y) (hz : Cl z) : (splitC 44 (32 :: (x ++ 44 :: (y ++ 44 :: z)))).map trimT = [x, y, z] := by
  rw [show (32 :: (x ++ 44 :: (y ++ 44 :: z)) : Tx) = (32 :: x) ++ 44 :: (y ++ 44 :: z) from rfl, splitC_app 44 (32 :: x) _ (by simp [hx.comma]), splitC_app 44 y z hy.comma, splitC_none 44 z hz.comma]
  simp [hx.trim1, hy.trim, hz.trim]
theorem last_app {x y : Tx} (hy : y ≠ []) : (x ++ y).getLast? = y.getLast? := by
  rw [List.getLast?_append, List.getLast?_eq_some_getLast hy]; rfl
theorem regT_len {n : Nat} (h : n < 32) : (regT n).length ≤ 5 := by unfold regT decN; split <;> (try split) <;> (try split) <;> simp
theorem decI_len (n : Int) : (decI n).length ≤ 5 := by unfold decI decN; split <;> split <;> (try split) <;> (try split) <;> simp
theorem Cl.last58 {x : Tx} (h : Cl x) {c : UInt8} (hc : x.getLast? = some c) : blankC c = false ∧ c ≠ 58 := ⟨h.last c hc, (h.2 c (List.mem_of_getLast? hc)).2.2⟩
theorem parse3 (O x y z : Tx) (hO : O ≠ [] ∧ ∀ c ∈ O, blankC c = false) (hx : Cl x) (hy : Cl y) (hz : Cl z) (hlen : O.length + x.length + y.length + z.length ≤ 900) (hf : ∀ t, O ++ 32 :: t ≠ [102, 101, 110, 99, 101, 46, 116, 115, 111]) :
    parseI (O ++ 32 :: (x ++ 44 :: (y ++ 44 :: z))) = readI O [x, y, z] := by
  rw [parse_op O _ hO (by simp) (by
    intro c hc
    rw [last_app (by simp), List.getLast?_cons, last_app (by simp), List.getLast?_cons] at hc
    rw [show ((z.getLast?.getD 44) = (some ((z.getLast?.getD 44))).getD 44) from rfl] at hc
    obtain ⟨w, hw⟩ : ∃ w, z.getLast? = some w := ⟨z.getLast hz.1, List.getLast?_eq_some_getLast hz.1⟩
    simp [hw] at hc
    subst hc; exact hz.last58 hw) (by simp; omega) (hf _), split3 hx hy hz]
end Go.Proofs.YtigimkgmghjgoaaGreatDoor

/- place, number of the document's answer: the same as the program's. Plain functions; no condition. -/
import Derived.Test.YtigimkgmghjgoaaGreatDoorS4
import Derived.Test.YtigimkgmghjgoaaGreatDoorMathR4
namespace Go.Proofs.YtigimkgmghjgoaaGreatDoor
set_option linter.unusedVariables false

/-- the register of 0(A), in the document's form -/
def placeV (s : Tx) : Option Nat := match (splitC 40 s).map trimT with
  | [x, y] => if x = [48] ∧ y.getLast? = some 41 then regOf (trimT y.dropLast) else none
  | _ => none
theorem dw_stop (p : UInt8 → Bool) (c : UInt8) (hc : p c = false) (ys : Tx) : ∀ xs : Tx, (xs ++ c :: ys).dropWhile p = xs.dropWhile p ++ c :: ys
  | [] => by simp [hc]
  | x :: xs => by
    rw [List.cons_append, List.dropWhile_cons, List.dropWhile_cons]
    by_cases hx : p x = true
    · rw [if_pos hx, if_pos hx, dw_stop p c hc ys xs]
    · rw [if_neg hx, if_neg hx]; rfl
theorem dw_mem (p : UInt8 → Bool) (c : UInt8) (hc : p c = false) : ∀ xs : Tx, c ∈ xs → c ∈ xs.dropWhile p
  | [], h => h
  | x :: xs, h => by
    rw [List.dropWhile_cons]
    by_cases hx : p x = true
    · rw [if_pos hx]
      rcases List.mem_cons.1 h with e | e
      · subst e; rw [hc] at hx; cases hx
      · exact dw_mem p c hc xs e
    · rw [if_neg hx]; exact h
theorem dw_sub (p : UInt8 → Bool) (c : UInt8) (xs : Tx) (h : c ∈ xs.dropWhile p) : c ∈ xs := (List.dropWhile_suffix p).subset h
theorem dw_idem (p : UInt8 → Bool) (xs : Tx) : (xs.dropWhile p).dropWhile p = xs.dropWhile p := dropWhile_head (fun c hc => head_dropWhile hc)
theorem trimT_dw (l : Tx) : trimT (l.dropWhile blankC) = trimT l := by
  rw [← trim_comm, ← trim_comm, dw_idem]
/-- the blanks behind taken off -/
def rdr (l : Tx) : Tx := (l.reverse.dropWhile blankC).reverse
theorem trimT_rdr (l : Tx) : trimT l = (rdr l).dropWhile blankC := trimT_eq l
theorem trimT_mid (A B : Tx) (c : UInt8) (hc : blankC c = false) : trimT (A ++ c :: B) = A.dropWhile blankC ++ c :: rdr B := by
  rw [trimT_eq, List.reverse_append, List.reverse_cons, List.append_assoc, List.singleton_append, dw_stop _ _ hc, List.reverse_append, List.reverse_cons, List.reverse_reverse, List.append_assoc, List.singleton_append, dw_stop _ _ hc]; rfl
theorem tw_app (c : UInt8) (B : Tx) : ∀ A : Tx, c ∉ A → (A ++ c :: B).takeWhile (· != c) = A ∧ (A ++ c :: B).dropWhile (· != c) = c :: B
  | [], _ => by simp
  | x :: A, h => by
    simp only [List.mem_cons, not_or] at h
    obtain ⟨h1, h2⟩ := tw_app c B A h.2
    rw [List.cons_append, List.takeWhile_cons, List.dropWhile_cons, if_pos (by simpa using Ne.symm h.1), if_pos (by simpa using Ne.symm h.1), h1, h2]
    exact ⟨rfl, rfl⟩
theorem mem_rdr {c : UInt8} (hc : blankC c = false) {l : Tx} (h : c ∈ l) : c ∈ rdr l := by
  unfold rdr; rw [List.mem_reverse]; exact dw_mem _ _ hc _ (List.mem_reverse.2 h)
theorem mem_trimT {c : UInt8} (hc : blankC c = false) {l : Tx} (h : c ∈ l) : c ∈ trimT l := by
  rw [trimT_rdr]; exact dw_mem _ _ hc _ (mem_rdr hc h)
theorem trimT_mem {c : UInt8} {l : Tx} (h : c ∈ trimT l) : c ∈ l := by
  rw [trimT_eq] at h
  have := dw_sub _ _ _ h
  rw [List.mem_reverse] at this
  exact List.mem_reverse.1 (dw_sub _ _ _ this)
theorem first_of (c : UInt8) : ∀ l : Tx, c ∈ l → ∃ A B, l = A ++ c :: B ∧ c ∉ A
  | [], h => by simp at h
  | x :: l, h => by
    by_cases hx : x = c
    · exact ⟨[], l, by rw [hx]; rfl, by simp⟩
    · have hm : c ∈ l := by rcases List.mem_cons.1 h with e | e; exact absurd e.symm hx; exact e
      obtain ⟨A, B, rfl, hA⟩ := first_of c l hm
      exact ⟨x :: A, B, rfl, by simp only [List.mem_cons, not_or]; exact ⟨Ne.symm hx, hA⟩⟩
theorem reg_no40_fin : ∀ n : Fin 32, (40 : UInt8) ∉ regT n.val := by decide +kernel
theorem regOf_40 {t : Tx} (h : (40 : UInt8) ∈ t) : regOf t = none := by
  cases hr : regOf t with
  | none => rfl
  | some n =>
    obtain ⟨h1, h2⟩ := regOf_some hr
    rw [h2] at h
    exact absurd h (reg_no40_fin ⟨n, h1⟩)
theorem last_iff {l : Tx} {c : UInt8} : l.getLast? = some c ↔ ∃ X, l = X ++ [c] := by
  constructor
  · intro h
    have hne : l ≠ [] := by intro e; subst e; simp at h
    refine ⟨l.dropLast, ?_⟩
    rw [List.getLast?_eq_some_getLast hne] at h
    simp at h; rw [← h]
    exact (List.dropLast_concat_getLast hne).symm
  · rintro ⟨X, rfl⟩; simp
theorem addrT_app (A B : Tx) (hA : (40 : UInt8) ∉ A) : addrT (A ++ 40 :: B) = if trimT A = [48] ∧ (rdr B).getLast? = some 41 then regOf (trimT (rdr B).dropLast) else none := by
  have hA' : (40 : UInt8) ∉ A.dropWhile blankC := fun h => hA (dw_sub _ _ _ h)
  obtain ⟨t1, t2⟩ := tw_app 40 (rdr B) _ hA'
  unfold addrT
  simp only
  rw [trimT_mid A B 40 (by decide), t1, t2, trimT_dw]
  have hc : (A.dropWhile blankC ++ 40 :: rdr B).contains 40 = true := by simp
  rw [hc, List.getLast?_append, List.getLast?_cons, Bool.true_and, List.drop_one, List.tail_cons]
  generalize rdr B = B'
  cases hB : B'.getLast? with
  | none => simp
  | some x =>
    by_cases hx : x = 41 <;> by_cases hT : trimT A = [48] <;> simp [hx, hT]
theorem placeV_eq (s : Tx) : placeV s = addrT s := by
  by_cases h : (40 : UInt8) ∈ s
  · obtain ⟨A, B, rfl, hA⟩ := first_of 40 s h
    rw [addrT_app A B hA]
    unfold placeV
    rw [splitC_app 40 A B hA, List.map_cons]
    by_cases hB : (40 : UInt8) ∈ B
    · obtain ⟨A2, B2, rfl, hA2⟩ := first_of 40 B hB
      rw [splitC_app 40 A2 B2 hA2, List.map_cons]
      have hne := splitC_ne 40 B2
      have hn : (if trimT A = [48] ∧ (rdr (A2 ++ 40 :: B2)).getLast? = some 41 then regOf (trimT (rdr (A2 ++ 40 :: B2)).dropLast) else none) = none := by
        split
        · rename_i hh
          obtain ⟨X, hX⟩ := last_iff.1 hh.2
          rw [hX, List.dropLast_concat]
          refine regOf_40 (mem_trimT (by decide) ?_)
          have hm := mem_rdr (c := 40) (by decide) hB
          rw [hX] at hm
          rcases List.mem_append.1 hm with h | h
          · exact h
          · simp at h
        · rfl
      rw [hn]
      cases hs : splitC 40 B2 with
      | nil => exact absurd hs hne
      | cons u v => rfl
    · rw [splitC_none 40 B hB]
      simp only [List.map_cons, List.map_nil]
      have key : (trimT B).getLast? = some 41 ↔ (rdr B).getLast? = some 41 := by
        rw [trimT_rdr]
        constructor
        · exact last_dropWhile
        · intro hh
          obtain ⟨X, hX⟩ := last_iff.1 hh
          rw [hX, dw_stop blankC 41 (by decide)]; simp
      by_cases hh : (rdr B).getLast? = some 41
      · obtain ⟨X, hX⟩ := last_iff.1 hh
        have e2 : trimT (trimT B).dropLast = trimT (rdr B).dropLast := by
          rw [trimT_rdr B, hX, dw_stop blankC 41 (by decide), List.dropLast_concat, List.dropLast_concat, trimT_dw]
        rw [e2]
        by_cases hT : trimT A = [48]
        · rw [if_pos ⟨hT, key.2 hh⟩, if_pos ⟨hT, hh⟩]
        · rw [if_neg (fun h => hT h.1), if_neg (fun h => hT h.1)]
      · rw [if_neg (fun h => hh (key.1 h.2)), if_neg (fun h => hh h.2)]
  · rw [addr_miss (fun h' => h (trimT_mem h'))]
    unfold placeV
    rw [splitC_none 40 s h]; rfl

/-! ### numbers -/
theorem dgt_of {x : UInt8} (h1 : 48 ≤ x.toNat) (h2 : x.toNat ≤ 57) (a : Nat) : dgt (10 * a + (x.toNat - 48)) = x := by
  unfold dgt
  rw [show 48 + (10 * a + (x.toNat - 48)) % 10 = x.toNat by omega]
  exact UInt8.ofNat_toNat
theorem valT_pos : ∀ (l : Tx) (a : Nat), 0 < a → 0 < valT a l
  | [], a, h => h
  | c :: r, a, h => valT_pos r _ (by omega)
theorem valT_head {l : Tx} (h0 : l ≠ []) (hd : l.all digitC = true) (hh : l.head? ≠ some 48) : 0 < valT 0 l := by
  cases l with
  | nil => exact absurd rfl h0
  | cons c r =>
    simp only [List.all_cons, Bool.and_eq_true] at hd
    have hc := digitC_nat hd.1
    refine valT_pos r _ ?_
    have : c.toNat ≠ 48 := fun e => hh (by simp only [List.head?_cons, Option.some.injEq]; exact UInt8.toNat_inj.1 e)
    omega
theorem decDigits_step (n : Nat) (h : ¬ n < 10) : Lib.decDigits n = Lib.decDigits (n / 10) ++ [dgt n] := by rw [Lib.decDigits, dif_neg h]; rfl
theorem decDigits_one (n : Nat) (h : n < 10) : Lib.decDigits n = [dgt n] := by rw [Lib.decDigits, dif_pos h]; unfold dgt; rw [Nat.mod_eq_of_lt h]
theorem canon : ∀ (n : Nat) (l : Tx), l.length = n + 1 → l.all digitC = true → (l.head? = some 48 → l.length = 1) → Lib.decDigits (valT 0 l) = l
  | 0, l, hn, hd, _ => by
    match l, hn with
    | [x], _ =>
      simp only [List.all_cons, List.all_nil, Bool.and_true] at hd
      have hx := digitC_nat hd
      have := dgt_of hx.1 hx.2 0
      show Lib.decDigits (10 * 0 + (x.toNat - 48)) = [x]
      rw [decDigits_one _ (by omega), this]
  | n + 1, l, hn, hd, hh => by
    rcases List.eq_nil_or_concat l with rfl | ⟨r, x, rfl⟩
    · simp at hn
    rw [List.concat_eq_append] at *
    have hr : r.length = n + 1 := by simp at hn; omega
    rw [List.all_append] at hd
    simp only [Bool.and_eq_true, List.all_cons, List.all_nil, Bool.and_true] at hd
    have hx := digitC_nat hd.2
    have hne : r ≠ [] := by intro e; subst e; simp at hr
    have hhd : (r ++ [x]).head? = r.head? := by cases r with
      | nil => exact absurd rfl hne
      | cons a b => rfl
    have h48 : r.head? ≠ some 48 := by
      intro e
      rw [hhd] at hh
      have := hh e
      rw [List.length_append] at this; simp only [List.length_cons, List.length_nil] at this; omega
    have hp := valT_head hne hd.1 h48
    have ih := canon n r hr hd.1 (fun e => absurd e h48)
    rw [valT_concat, decDigits_step _ (by omega), dgt_of hx.1 hx.2, show (10 * valT 0 r + (x.toNat - 48)) / 10 = valT 0 r by omega, ih]
theorem numV_canon {z : Tx} {v : Int} (h : numV z = some v) (h1 : -2048 ≤ v) (h2 : v ≤ 2047) : numT z = some v := by
  suffices e : z = decI v by rw [e]; exact numT_decI h1 h2
  unfold numV at h
  split at h
  · cases h
  rename_i hu
  split at h
  · rename_i hm
    split at h
    · cases h
    rename_i hn
    obtain ⟨r, rfl⟩ : ∃ r, z = 45 :: r := by cases z with
      | nil => simp at hm
      | cons a b => simp at hm; subst hm; exact ⟨b, rfl⟩
    simp only [List.drop_one, List.tail_cons] at h hn
    cases h
    have a1 : r ≠ [] := fun e => hn (.inl e)
    have a2 : r.head? ≠ some 48 := fun e => hn (.inr (.inl e))
    have a3 : r.all digitC = true := by cases hb : r.all digitC; exact absurd (.inr (.inr hb)) hn; rfl
    have hp := valT_head a1 a3 a2
    have hc := canon (r.length - 1) r (by have := List.length_pos_iff.2 a1; omega) a3 (fun e => absurd e a2)
    unfold decI
    rw [if_pos (by omega), Int.natAbs_neg, Int.natAbs_natCast, ← decDigits_decN (by omega), hc]
  · split at h
    · cases h
    rename_i hn
    cases h
    have a1 : z ≠ [] := fun e => hu (.inl e)
    have a3 : z.all digitC = true := by cases hb : z.all digitC; exact absurd (.inr hb) hn; rfl
    have a2 : z.head? = some 48 → z.length = 1 := fun e => by
      have := List.length_pos_iff.2 a1
      rcases Nat.lt_or_ge 1 z.length with h' | h'
      · exact absurd (.inl ⟨e, h'⟩) hn
      · omega
    have hc := canon (z.length - 1) z (by have := List.length_pos_iff.2 a1; omega) a3 a2
    unfold decI
    rw [if_neg (by omega), Int.toNat_natCast, ← decDigits_decN (by omega), hc]
theorem numV_fin : ∀ a : Fin 64, ∀ b : Fin 64, numV (decI (((64 * a.val + b.val : Nat) : Int) - 2048)) = some (((64 * a.val + b.val : Nat) : Int) - 2048) := by decide +kernel
theorem numV_of {z : Tx} {v : Int} (h : numT z = some v) : numV z = some v := by
  obtain ⟨e, b1, b2⟩ := numT_some h
  have := numV_fin ⟨(v + 2048).toNat / 64, by omega⟩ ⟨(v + 2048).toNat % 64, by omega⟩
  simp only at this
  rw [show ((64 * ((v + 2048).toNat / 64) + (v + 2048).toNat % 64 : Nat) : Int) - 2048 = v by omega] at this
  rw [e]; exact this
theorem keep_oriR {a b : Nat} {z : Tx} {v : Int} {ok : Bool} (ha : a < 32) (hb : b < 32) (hv : NumR z v ok) :
    keepI ⟨8, a, b, 0, v, [], [], 0⟩ ok = match numT z with
      | some n => some ⟨8, a, b, 0, n, [], [], 0⟩
      | none => none := by
  rcases hv with ⟨h1, rfl, rfl⟩ | ⟨h1, rfl⟩
  · cases hn : numT z with
    | none => rfl
    | some n => rw [numV_of hn] at h1; cases h1
  · unfold keepI
    rw [check_ori ha hb]
    by_cases hr : -2048 ≤ v ∧ v ≤ 2047
    · rw [numV_canon h1 hr.1 hr.2]
      have hB : numB v = true := by unfold numB; simp; omega
      rw [hB, decide_eq_true hr.1, decide_eq_true hr.2]; rfl
    · rw [show (decide (-2048 ≤ v) && decide (v ≤ 2047)) = false by simp; omega]
      cases hn : numT z with
      | none => simp
      | some n =>
        rw [numV_of hn] at h1; cases h1
        obtain ⟨-, b1, b2⟩ := numT_some hn
        exact absurd ⟨b1, b2⟩ hr
/-- the fence of two parts, in the document's form -/
def fenceV (p s : Tx) : Int := match fpartOf p, fpartOf s with
  | some k, some j => 3 + 3 * k + j
  | _, _ => 0
end Go.Proofs.YtigimkgmghjgoaaGreatDoor

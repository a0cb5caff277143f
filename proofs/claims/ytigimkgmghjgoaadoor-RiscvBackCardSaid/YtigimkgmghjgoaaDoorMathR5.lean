/- What is printed is read as what it was; what is read may be. Plain lists; no condition. -/
import Derived.Test.YtigimkgmghjgoaaDoorR12
import Derived.Test.YtigimkgmghjgoaaDoorR7
namespace Go.Proofs.YtigimkgmghjgoaaDoor
set_option linter.unusedVariables false

theorem tso_ne (O : Tx) (h : O.length ≤ 5) : ∀ t, O ++ 32 :: t ≠ [102, 101, 110, 99, 101, 46, 116, 115, 111] := by
  intro t e
  have h1 : (O ++ 32 :: t)[O.length]? = some 32 := by simp
  rw [e] at h1
  have h2 : ∀ k, k ≤ 5 → ([102, 101, 110, 99, 101, 46, 116, 115, 111] : Tx)[k]? ≠ some 32 := by decide
  exact h2 _ h h1
theorem last_y (n : Nat) : ([48, 40] ++ regT n ++ [41] : Tx).getLast? = some 41 := List.getLast?_concat
theorem regT_no44 {n : Nat} (h : n < 32) : (44 : UInt8) ∉ ([48, 40] ++ regT n ++ [41] : Tx) := by
  have := (cl_regT h).comma
  simp only [List.mem_append, not_or]
  exact ⟨⟨by decide, this⟩, by decide⟩
theorem parse_mem (O : Tx) (d a : Nat) (hd : d < 32) (ha : a < 32) (hO : O ≠ [] ∧ ∀ c ∈ O, blankC c = false) (hl : O.length ≤ 5) :
    parseI (O ++ 32 :: (regT d ++ 44 :: ([48, 40] ++ regT a ++ [41]))) = readI O [regT d, [48, 40] ++ regT a ++ [41]] := by
  have h1 := regT_len hd; have h2 := regT_len ha
  have hlast : (regT d ++ 44 :: ([48, 40] ++ regT a ++ [41])).getLast? = some 41 := by
    rw [List.getLast?_append, List.getLast?_cons, last_y]; rfl
  rw [parse_op O _ hO (by simp) (by intro c hc; rw [hlast] at hc; cases hc; decide) (by simp; omega) (tso_ne O hl _), split2 (cl_regT hd) (regT_no44 ha)]
  rw [trimT_clean (l := [48, 40] ++ regT a ++ [41]) (by intro c hc; simp at hc; subst hc; decide) (by intro c hc; rw [last_y] at hc; cases hc; decide)]
theorem rT_nat (n : Nat) : rT (n : Int) = regT n := by unfold rT; simp
theorem parse_lw {d a : Nat} (hd : d < 32) (ha : a < 32) : parseI (printI ⟨6, d, a, 0, 0, [], [], 0⟩) = some ⟨6, d, a, 0, 0, [], [], 0⟩ := by
  have e : printI ⟨6, d, a, 0, 0, [], [], 0⟩ = [108, 119] ++ 32 :: (regT d ++ 44 :: ([48, 40] ++ regT a ++ [41])) := by
    unfold printI; simp only [rT_nat]; rw [if_pos trivial]; simp
  rw [e, parse_mem [108, 119] d a hd ha (by decide) (by decide), read_lw2, regOf_regT hd, addr_regT ha]
theorem parse_sw {b a : Nat} (hd : b < 32) (ha : a < 32) : parseI (printI ⟨7, 0, a, b, 0, [], [], 0⟩) = some ⟨7, 0, a, b, 0, [], [], 0⟩ := by
  have e : printI ⟨7, 0, a, b, 0, [], [], 0⟩ = [115, 119] ++ 32 :: (regT b ++ 44 :: ([48, 40] ++ regT a ++ [41])) := by
    unfold printI; simp only [rT_nat]; rw [if_neg (by decide), if_pos trivial]; simp
  rw [e, parse_mem [115, 119] b a hd ha (by decide) (by decide), read_sw2, regOf_regT hd, addr_regT ha]
theorem parse_ori {d a : Nat} {n : Int} (hd : d < 32) (ha : a < 32) (h1 : -2048 ≤ n) (h2 : n ≤ 2047) : parseI (printI ⟨8, d, a, 0, n, [], [], 0⟩) = some ⟨8, d, a, 0, n, [], [], 0⟩ := by
  have e : printI ⟨8, d, a, 0, n, [], [], 0⟩ = [111, 114, 105] ++ 32 :: (regT d ++ 44 :: (regT a ++ 44 :: decI n)) := by
    unfold printI; simp only [rT_nat]; rw [if_neg (by decide), if_neg (by decide), if_pos trivial]; simp
  have l1 := regT_len hd; have l2 := regT_len ha; have l3 := decI_len n
  rw [e, parse3 [111, 114, 105] _ _ _ (by decide) (cl_regT hd) (cl_regT ha) (cl_decI h1 h2) (by simp; omega) (tso_ne _ (by decide)), read_3 _ _ _ (by decide) (by decide) (by decide), regOf_regT hd, regOf_regT ha]
  simp only
  rw [if_neg (by decide), if_pos trivial, numT_decI h1 h2]
theorem parse_xor {d a b : Nat} (hd : d < 32) (ha : a < 32) (hb : b < 32) : parseI (printI ⟨9, d, a, b, 0, [], [], 0⟩) = some ⟨9, d, a, b, 0, [], [], 0⟩ := by
  have e : printI ⟨9, d, a, b, 0, [], [], 0⟩ = [120, 111, 114] ++ 32 :: (regT d ++ 44 :: (regT a ++ 44 :: regT b)) := by
    unfold printI; simp only [rT_nat]; rw [if_neg (by decide), if_neg (by decide), if_neg (by decide), if_pos trivial]; simp
  have l1 := regT_len hd; have l2 := regT_len ha; have l3 := regT_len hb
  rw [e, parse3 [120, 111, 114] _ _ _ (by decide) (cl_regT hd) (cl_regT ha) (cl_regT hb) (by simp; omega) (tso_ne _ (by decide)), read_3 _ _ _ (by decide) (by decide) (by decide), regOf_regT hd, regOf_regT ha]
  simp only
  rw [if_neg (by decide), if_neg (by decide), regOf_regT hb]
  simp only
  rw [if_pos trivial]
theorem parse_add {d a b : Nat} (hd : d < 32) (ha : a < 32) (hb : b < 32) : parseI (printI ⟨10, d, a, b, 0, [], [], 0⟩) = some ⟨10, d, a, b, 0, [], [], 0⟩ := by
  have e : printI ⟨10, d, a, b, 0, [], [], 0⟩ = [97, 100, 100] ++ 32 :: (regT d ++ 44 :: (regT a ++ 44 :: regT b)) := by
    unfold printI; simp only [rT_nat]; rw [if_neg (by decide), if_neg (by decide), if_neg (by decide), if_neg (by decide), if_pos trivial]; simp
  have l1 := regT_len hd; have l2 := regT_len ha; have l3 := regT_len hb
  rw [e, parse3 [97, 100, 100] _ _ _ (by decide) (cl_regT hd) (cl_regT ha) (cl_regT hb) (by simp; omega) (tso_ne _ (by decide)), read_3 _ _ _ (by decide) (by decide) (by decide), regOf_regT hd, regOf_regT ha]
  simp only
  rw [if_neg (by decide), if_neg (by decide), regOf_regT hb]
  simp only
  rw [if_neg (by decide), if_pos trivial]
theorem parse_bne {a b : Nat} {l : Tx} (ha : a < 32) (hb : b < 32) (hl : nameB l = true) : parseI (printI ⟨11, 0, a, b, 0, [], l, 0⟩) = some ⟨11, 0, a, b, 0, [], l, 0⟩ := by
  have e : printI ⟨11, 0, a, b, 0, [], l, 0⟩ = [98, 110, 101] ++ 32 :: (regT a ++ 44 :: (regT b ++ 44 :: l)) := by
    unfold printI; simp only [rT_nat]; rw [if_neg (by decide), if_neg (by decide), if_neg (by decide), if_neg (by decide), if_neg (by decide), if_pos trivial]; simp
  have l1 := regT_len ha; have l2 := regT_len hb
  obtain ⟨hcl, l3⟩ := nameB_cl hl
  rw [e, parse3 [98, 110, 101] _ _ _ (by decide) (cl_regT ha) (cl_regT hb) hcl (by simp; omega) (tso_ne _ (by decide)), read_3 _ _ _ (by decide) (by decide) (by decide), regOf_regT ha, regOf_regT hb]
  simp only
  rw [if_pos trivial, if_pos hl]
theorem parse_label {l : Tx} (hl : nameB l = true) : parseI (printI ⟨12, 0, 0, 0, 0, [], l, 0⟩) = some ⟨12, 0, 0, 0, 0, [], l, 0⟩ := by
  obtain ⟨hcl, hlen⟩ := nameB_cl hl
  have e : printI ⟨12, 0, 0, 0, 0, [], l, 0⟩ = l ++ [58] := by
    unfold printI; simp
  have ht : trimT (l ++ [58]) = l ++ [58] := by
    refine trimT_clean (fun c hc => ?_) (fun c hc => by simp at hc; subst hc; decide)
    obtain ⟨x, r, rfl⟩ : ∃ x r, l = x :: r := by cases l with
      | nil => exact absurd rfl hcl.1
      | cons x r => exact ⟨x, r, rfl⟩
    exact hcl.head c (by simpa using hc)
  rw [e]
  unfold parseI
  rw [if_neg (by simp; omega)]
  simp only [ht]
  rw [if_neg (by
    intro h
    have : (l ++ [58]).getLast? = some 58 := by simp
    rw [h] at this; cases this), if_pos (by simp), List.dropLast_concat, hcl.trim, if_pos hl]
theorem parse_fence_fin : ∀ k : Fin 10, parseI (printI ⟨13, 0, 0, 0, 0, [], [], (k.val : Int) + 2⟩) = some ⟨13, 0, 0, 0, 0, [], [], (k.val : Int) + 2⟩ := by decide +kernel
theorem parse_print (i : Ins) (h : checkI i = true) : parseI (printI i) = some i := by
  obtain ⟨ho, hw, hd, ha, hb⟩ := checkI_spec h
  obtain ⟨op, d, a, b, imm, loc, label, fence⟩ := i
  unfold wantI at hw
  unfold okI at ho
  simp only at ho hw hd ha hb
  obtain ⟨nd, hnd, rfl⟩ := regB_nat hd
  obtain ⟨na, hna, rfl⟩ := regB_nat ha
  obtain ⟨nb, hnb, rfl⟩ := regB_nat hb
  by_cases h6 : op = 6
  · subst h6; simp at hw
    obtain ⟨hz, rfl, rfl, rfl, rfl⟩ := hw
    rw [show (nb : Int) = 0 by omega]; exact parse_lw hnd hna
  by_cases h7 : op = 7
  · subst h7; simp at hw
    obtain ⟨hz, rfl, rfl, rfl, rfl⟩ := hw
    rw [show (nd : Int) = 0 by omega]; exact parse_sw hnb hna
  by_cases h8 : op = 8
  · subst h8; simp at hw ho
    obtain ⟨hz, rfl, rfl, rfl⟩ := hw
    rw [show (nb : Int) = 0 by omega]; exact parse_ori hnd hna ho.1 ho.2
  by_cases h9 : op = 9
  · subst h9; simp at hw
    obtain ⟨rfl, rfl, rfl, rfl⟩ := hw
    exact parse_xor hnd hna hnb
  by_cases h10 : op = 10
  · subst h10; simp at hw
    obtain ⟨rfl, rfl, rfl, rfl⟩ := hw
    exact parse_add hnd hna hnb
  by_cases h11 : op = 11
  · subst h11; simp at hw ho
    obtain ⟨hz, rfl, rfl, rfl⟩ := hw
    rw [show (nd : Int) = 0 by omega]; exact parse_bne hna hnb ho
  by_cases h12 : op = 12
  · subst h12; simp at hw ho
    obtain ⟨hz, hz2, hz3, rfl, rfl, rfl⟩ := hw
    rw [show (nd : Int) = 0 by omega, show (na : Int) = 0 by omega, show (nb : Int) = 0 by omega]; exact parse_label ho
  by_cases h13 : op = 13
  · subst h13; simp at hw ho
    obtain ⟨hz, hz2, hz3, rfl, rfl, rfl⟩ := hw
    rw [show (nd : Int) = 0 by omega, show (na : Int) = 0 by omega, show (nb : Int) = 0 by omega]
    have := parse_fence_fin ⟨(fence - 2).toNat, by omega⟩
    simp only at this
    rwa [show (((fence - 2).toNat : Nat) : Int) + 2 = fence by omega] at this
  exfalso
  rw [if_neg h8, if_neg (by omega), if_neg h13] at ho
  simp at ho
  omega
theorem fpart_lt {x : Tx} {k : Int} (h : fpartOf x = some k) : 0 ≤ k ∧ k ≤ 2 := by
  obtain ⟨n, hn, rfl, -⟩ := fpartOf_some h
  omega
theorem read_check {op : Tx} {l : List Tx} {k : Ins} (h : readI op l = some k) : checkI k = true := by
  by_cases h1 : op = [108, 119]
  · subst h1
    by_cases hl : l.length = 2
    · obtain ⟨x, y, rfl⟩ := len2 hl
      rw [read_lw2] at h
      cases hx : regOf x with
      | none => rw [hx] at h; simp at h
      | some d => cases hy : addrT y with
        | none => rw [hx, hy] at h; simp at h
        | some a => rw [hx, hy] at h; simp at h; subst h; exact check_lw (regOf_lt d hx) (addrT_lt hy)
    · rw [read_lw_no hl] at h; cases h
  by_cases h2 : op = [115, 119]
  · subst h2
    by_cases hl : l.length = 2
    · obtain ⟨x, y, rfl⟩ := len2 hl
      rw [read_sw2] at h
      cases hx : regOf x with
      | none => rw [hx] at h; simp at h
      | some d => cases hy : addrT y with
        | none => rw [hx, hy] at h; simp at h
        | some a => rw [hx, hy] at h; simp at h; subst h; exact check_sw (regOf_lt d hx) (addrT_lt hy)
    · rw [read_sw_no hl] at h; cases h
  by_cases h3 : op = [102, 101, 110, 99, 101]
  · subst h3
    by_cases hl : l.length = 2
    · obtain ⟨x, y, rfl⟩ := len2 hl
      rw [read_fence2] at h
      cases hx : fpartOf x with
      | none => rw [hx] at h; simp at h
      | some d => cases hy : fpartOf y with
        | none => rw [hx, hy] at h; simp at h
        | some a =>
          rw [hx, hy] at h; simp at h; subst h
          have := fpart_lt hx; have := fpart_lt hy
          rw [check_fence]; simp; omega
    · rw [read_fence_no hl] at h; cases h
  by_cases hl : l.length = 3
  · obtain ⟨x, y, z, rfl⟩ := len3 hl
    rw [read_3 _ _ _ h1 h2 h3] at h
    cases hx : regOf x with
    | none => rw [hx] at h; simp at h
    | some a => cases hy : regOf y with
      | none => rw [hx, hy] at h; simp at h
      | some b =>
        rw [hx, hy] at h
        simp only at h
        have la := regOf_lt a hx; have lb := regOf_lt b hy
        split at h
        · split at h
          · rename_i hn; cases h; rw [check_bne la lb]; exact hn
          · cases h
        · split at h
          · cases hn : numT z with
            | none => rw [hn] at h; simp at h
            | some n =>
              rw [hn] at h; simp at h; subst h
              obtain ⟨-, b1, b2⟩ := numT_some hn
              rw [check_ori la lb]; simp; omega
          · cases hz : regOf z with
            | none => rw [hz] at h; simp at h
            | some c =>
              rw [hz] at h
              simp only at h
              have lc := regOf_lt c hz
              split at h
              · cases h; exact check_3 (.inl rfl) la lb lc
              · split at h
                · cases h; exact check_3 (.inr rfl) la lb lc
                · cases h
  · rw [read_3no h1 h2 h3 hl] at h; cases h
theorem parse_check {s : Tx} {k : Ins} (h : parseI s = some k) : checkI k = true := by
  unfold parseI at h
  split at h
  · cases h
  · simp only at h
    split at h
    · cases h; decide
    · split at h
      · split at h
        · rename_i hn; cases h; rw [check_label]; exact hn
        · cases h
      · exact read_check h
theorem parse_empty : parseI [] = none := by decide +kernel
end Go.Proofs.YtigimkgmghjgoaaDoor

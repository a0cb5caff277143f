/- The walks of trimmed, register, address, three (the program's). Conditions: lengths that an int holds; texts in memory as read. -/
import Derived.Test.YtigimkgmghjgoaaGreatDoorR5
namespace Go.Proofs.YtigimkgmghjgoaaGreatDoor
open Go.RowKit
set_option linter.unusedVariables false

theorem tx_extract (l : Tx) (a b : Nat) : (tx l).extract a b = tx ((l.take b).drop a) := by
  apply ByteArray.ext
  simp [tx, List.extract_eq_take_drop, List.drop_take]
theorem run_strsl (l : Tx) (a b : Nat) (hab : a ≤ b) (hb : b ≤ l.length) : ∀ w, (Instr.sliceAt 9 (.string (tx l)) (some (.int .i64 a)) (some (.int .i64 b)) none).run Tryz.prog w = .ok (.string (tx ((l.take b).drop a))) w := by
  intro w
  have h1 := Tryz.underlying9
  have hs := tx_size l
  have hkk : (0 : Int) ≤ (a : Int) ∧ (a : Int) ≤ (b : Int) := by omega
  have hll : (0 : Int) ≤ (b : Int) ∧ (b : Int) ≤ (l.length : Int) := by omega
  rw [← tx_extract]
  simp [Instr.sliceAt, Instr.slice, Instr.sliceBounds, Instr.sliceBound, asIntOf, run_underlying h1, hs, hkk, hll, hab, hb]
theorem run_strto (l : Tx) (b : Nat) (hb : b ≤ l.length) : ∀ w, (Instr.sliceAt 9 (.string (tx l)) none (some (.int .i64 b)) none).run Tryz.prog w = .ok (.string (tx (l.take b))) w := by
  intro w
  have h1 := Tryz.underlying9
  have hs := tx_size l
  have hll : (0 : Int) ≤ (b : Int) ∧ (b : Int) ≤ (l.length : Int) := by omega
  have e := tx_extract l 0 b
  rw [List.drop_zero] at e
  rw [← e]
  simp [Instr.sliceAt, Instr.slice, Instr.sliceBounds, Instr.sliceBound, asIntOf, run_underlying h1, hs, hll, hb]
theorem run_strfrom (l : Tx) (a : Nat) (ha : a ≤ l.length) : ∀ w, (Instr.sliceAt 9 (.string (tx l)) (some (.int .i64 a)) none none).run Tryz.prog w = .ok (.string (tx (l.drop a))) w := by
  intro w
  have h1 := Tryz.underlying9
  have hs := tx_size l
  have hkk : (0 : Int) ≤ (a : Int) ∧ (a : Int) ≤ (l.length : Int) := by omega
  have e := tx_extract l a l.length
  rw [List.take_length] at e
  rw [← e]
  simp [Instr.sliceAt, Instr.slice, Instr.sliceBounds, Instr.sliceBound, asIntOf, run_underlying h1, hs, hkk, ha]
theorem trimT_length (l : Tx) : (trimT l).length ≤ l.length := by
  rw [trimT_eq]
  have h1 := (List.dropWhile_suffix (p := blankC) (l := (l.reverse.dropWhile blankC).reverse)).length_le
  have h2 := (List.dropWhile_suffix (p := blankC) (l := l.reverse)).length_le
  simp at h1 h2
  omega
theorem progTrimmed (l : Tx) (hl : l.length ≤ 9223372036854775807) (w : World) : Calls Tryz.prog 37 #[.string (tx l)] w (Ret w (.string (tx (trimT l)))) := by
  have C := hid (trim_any l hl)
  clear hl
  go_enter Tryz.func37, Tryz.ntmps37
  go_wp2_with fail
  refine (C.out _).mono ?_
  rintro x w1 ⟨rfl, E⟩
  go_wp2_with fail
  go_ret
  exact ⟨rfl, E⟩
theorem ret_ib {k : IntKind} {a b : Int} {p q : Bool} (h : a = b) (h' : p = q) : Ending.returned (.tuple #[.int k a, .bool p]) = .returned (.tuple #[.int k b, .bool q]) := by rw [h, h']
def optN (o : Option Nat) : Int := match o with
  | some n => n
  | none => 0
theorem regN_opt (s : Tx) : regN s = optN (regOf s) := by unfold regN optN; rfl
theorem regE_opt (s : Tx) : (regE s == 0) = (regOf s).isSome := by unfold regE; cases regOf s <;> rfl
/-- a register, and whether there is one -/
def vO (o : Option Nat) : Value := .tuple #[.int .i64 (optN o), .bool o.isSome]
theorem progRegister (l : Tx) (hl : l.length ≤ 9223372036854775807) (w : World) : Calls Tryz.prog 70 #[.string (tx l)] w (Ret w (.tuple #[.int .i64 (optN (regOf (trimT l))), .bool (regOf (trimT l)).isSome])) := by
  have C := hid (progTrimmed l hl)
  have e1 := regN_opt (trimT l); have e2 := regE_opt (trimT l)
  generalize trimT l = t at *
  have e2' := hid e2; have e1' := hid e1
  clear e1 e2 hl
  go_enter Tryz.func70, Tryz.ntmps70
  go_wp2_with fail
  refine (C.out _).mono ?_
  rintro x w1 ⟨rfl, E⟩
  go_wp2_with fail
  refine (progRegOf t _).mono ?_
  rintro x w2 ⟨rfl, rfl⟩
  rw [e1'.out]
  go_wp2_with fail
  go_ret2
  exact ⟨ret_ib rfl e2'.out, E⟩
theorem takeWhile_hit (c : UInt8) : ∀ l : Tx, c ∈ l → l[(l.takeWhile (· != c)).length]? = some c
  | [], h => by simp at h
  | b :: l, h => by
    by_cases hb : b = c
    · subst hb; simp
    · have hm : c ∈ l := by rcases List.mem_cons.1 h with e | e; exact absurd e.symm hb; exact e
      rw [List.takeWhile_cons, if_pos (by simpa using hb)]
      simpa using takeWhile_hit c l hm
theorem takeWhile_take (p : UInt8 → Bool) (l : Tx) : l.takeWhile p = l.take (l.takeWhile p).length := (List.prefix_iff_eq_take.1 (List.takeWhile_prefix p))
theorem dropWhile_drop' (p : UInt8 → Bool) (l : Tx) : l.dropWhile p = l.drop (l.takeWhile p).length := by
  have h := List.takeWhile_append_dropWhile (p := p) (l := l)
  have h2 : (l.takeWhile p ++ l.dropWhile p).drop (l.takeWhile p).length = l.dropWhile p := List.drop_left' rfl
  rw [h] at h2
  exact h2.symm
/-- what address asks -/
theorem addr_miss {l : Tx} (h : (40 : UInt8) ∉ trimT l) : addrT l = none := by
  unfold addrT
  simp only
  rw [if_neg (by simp [h])]
theorem addr_last {l : Tx} (h : ((trimT l).getLast? == some 41) = false) : addrT l = none := by
  unfold addrT; simp only [h]; simp
theorem addr_zero {l : Tx} (h : trimT ((trimT l).take ((trimT l).takeWhile (· != 40)).length) ≠ [48]) : addrT l = none := by
  unfold addrT; simp only
  rw [← takeWhile_take] at h
  rw [if_neg (by simp [h])]
theorem addr_hit {l t : Tx} {k n : Nat} (ht : trimT l = t) (hk : (t.takeWhile (· != 40)).length = k) (hn : t.length = n) (h1 : (40 : UInt8) ∈ t) (h2 : (t.getLast? == some 41) = true) (h3 : trimT (t.take k) = [48]) :
    addrT l = regOf (trimT ((t.take (n - 1)).drop (k + 1))) ∧ k + 1 ≤ n - 1 := by
  subst ht hk hn
  refine ⟨?_, ?_⟩
  · unfold addrT; simp only
    rw [if_pos (by rw [← takeWhile_take] at h3; simp [h1, h3]; simpa using h2)]
    rw [dropWhile_drop', List.drop_drop, List.dropLast_eq_take, List.length_drop, List.drop_take]
    congr 3
    omega
  · have hh := takeWhile_hit 40 _ h1
    obtain ⟨hlt, he⟩ := List.getElem?_eq_some_iff.1 hh
    have hne : trimT l ≠ [] := by intro e; rw [e] at h1; simp at h1
    rw [List.getLast?_eq_getElem?] at h2
    simp at h2
    by_cases hk : ((trimT l).takeWhile (· != 40)).length = (trimT l).length - 1
    · rw [hk] at hh; rw [hh] at h2; simp at h2
    · omega
set_option maxHeartbeats 1600000 in
theorem progAddress (l : Tx) (hl : l.length ≤ 9223372036854775807) (w : World) : Calls Tryz.prog 102 #[.string (tx l)] w (Ret w (.tuple #[.int .i64 (optN (addrT l)), .bool (addrT l).isSome])) := by
  have C := hid (progTrimmed l hl)
  have htl := trimT_length l
  obtain ⟨t, ht⟩ : ∃ t, trimT l = t := ⟨_, rfl⟩
  have HT := hid ht
  rw [ht] at htl C
  have hb : t.length ≤ 9223372036854775807 := by omega
  have SF := hid (suffix_any t 41 hb)
  clear ht htl hl
  by_cases h1 : (40 : UInt8) ∈ t
  · obtain ⟨k, hk⟩ : ∃ k, (t.takeWhile (· != 40)).length = k := ⟨_, rfl⟩
    obtain ⟨hi, hlt⟩ := indexByte_hit 40 t h1
    rw [hk] at hi hlt
    have IB := hid (show ∀ w, Calls Tryz.prog 135 #[.string (tx t), .int .u8 40] w fun e w' => e = .returned (.int .i64 (k : Int)) ∧ w = w' from by rw [← hi]; exact indexByte_any t)
    clear hi
    have h0k : ¬ ((k : Int) < 0) := by omega
    have hdk : decide ((k : Int) < 0) = false := by simp
    cases h2 : (t.getLast? == some 41)
    · have HA := hid (addr_last (l := l) (by rw [HT.out]; exact h2))
      rw [HA.out]
      have H2 := hid h2
      clear h2 HA
      have hk' := hid hk; clear hk
      go_enter Tryz.func102, Tryz.ntmps102
      go_wp2_with fail
      refine (C.out _).mono ?_
      rintro x w1 ⟨rfl, E⟩
      go_wp2_with fail
      refine (IB.out _).mono ?_
      rintro x w2 ⟨rfl, rfl⟩
      go_wp2_with fail
      refine (SF.out _).mono ?_
      rintro x w2 ⟨rfl, rfl⟩
      rw [H2.out]
      go_wp2_with fail
      go_ret2
      exact ⟨rfl, E⟩
    · have s1 := run_strto t k (by omega)
      have TK := hid (progTrimmed (t.take k) (by simp; omega))
      have H2 := hid h2
      by_cases h3 : trimT (t.take k) = [48]
      · obtain ⟨n, hn⟩ : ∃ n, t.length = n := ⟨_, rfl⟩
        obtain ⟨ha, hkn⟩ := addr_hit HT.out hk hn h1 h2 h3
        rw [ha]
        have hz : ((tx (trimT (t.take k))).toList != [48]) = false := by rw [tx_toList, h3]; rfl
        have hz2 : ((tx (trimT (t.take k))).toList == [48]) = true := by rw [tx_toList, h3]; rfl
        have s2 : ∀ w, (Instr.sliceAt 9 (.string (tx t)) (some (.int .i64 ((k : Int) + 1))) (some (.int .i64 ((n : Int) - 1))) none).run Tryz.prog w = .ok (.string (tx ((t.take (n - 1)).drop (k + 1)))) w := by
          have := run_strsl t (k + 1) (n - 1) hkn (by omega)
          rwa [show ((k + 1 : Nat) : Int) = (k : Int) + 1 from rfl, show ((n - 1 : Nat) : Int) = (n : Int) - 1 by omega] at this
        have hsz : (tx t).size = n := by rw [tx_size, hn]
        obtain ⟨u, hu⟩ : ∃ u, (t.take (n - 1)).drop (k + 1) = u := ⟨_, rfl⟩
        rw [hu] at s2 ⊢
        have hul : u.length ≤ 9223372036854775807 := by rw [← hu]; simp; omega
        have RG := hid (progRegister u hul)
        obtain ⟨v, hv⟩ : ∃ v, t.take k = v := ⟨_, rfl⟩
        rw [hv] at s1 hz hz2 TK
        have hn1 : 1 ≤ n := by omega
        have hnb : n ≤ 9223372036854775807 := by omega
        clear ha hu hul hn h3 h2 h1 hv hb
        have hk' := hid hk; clear hk
        go_enter Tryz.func102, Tryz.ntmps102
        go_wp2_with fail
        refine (C.out _).mono ?_
        rintro x w1 ⟨rfl, E⟩
        go_wp2_with fail
        refine (IB.out _).mono ?_
        rintro x w2 ⟨rfl, rfl⟩
        go_wp2_with fail
        refine (SF.out _).mono ?_
        rintro x w2 ⟨rfl, rfl⟩
        rw [H2.out]
        go_wp2_with fail
        refine (TK.out _).mono ?_
        rintro x w3 ⟨rfl, E3⟩
        have E := ext_trans E E3
        go_wp2_with fail
        refine (RG.out _).mono ?_
        rintro x w4 ⟨rfl, E4⟩
        have E := ext_trans E E4
        go_wp2_with fail
        go_ret2
        exact ⟨rfl, E⟩
      · have HA := hid (addr_zero (l := l) (by rw [HT.out, hk]; exact h3))
        rw [HA.out]
        have hz : ((tx (trimT (t.take k))).toList != [48]) = true := by rw [tx_toList]; simpa using h3
        have hz2 : ((tx (trimT (t.take k))).toList == [48]) = false := by rw [tx_toList]; simpa using h3
        obtain ⟨v, hv⟩ : ∃ v, t.take k = v := ⟨_, rfl⟩
        rw [hv] at s1 hz hz2 TK
        clear h3 h2 h1 hv HA
        have hk' := hid hk; clear hk
        go_enter Tryz.func102, Tryz.ntmps102
        go_wp2_with fail
        refine (C.out _).mono ?_
        rintro x w1 ⟨rfl, E⟩
        go_wp2_with fail
        refine (IB.out _).mono ?_
        rintro x w2 ⟨rfl, rfl⟩
        go_wp2_with fail
        refine (SF.out _).mono ?_
        rintro x w2 ⟨rfl, rfl⟩
        rw [H2.out]
        go_wp2_with fail
        refine (TK.out _).mono ?_
        rintro x w3 ⟨rfl, E3⟩
        have E := ext_trans E E3
        go_wp2_with fail
        go_ret2
        exact ⟨rfl, E⟩
  · have HA := hid (addr_miss (l := l) (by rw [HT.out]; exact h1))
    rw [HA.out]
    have IB := hid (show ∀ w, Calls Tryz.prog 135 #[.string (tx t), .int .u8 40] w fun e w' => e = .returned (.int .i64 (-1)) ∧ w = w' from by rw [← indexByte_miss 40 t h1]; exact indexByte_any t)
    clear h1 HA
    go_enter Tryz.func102, Tryz.ntmps102
    go_wp2_with fail
    refine (C.out _).mono ?_
    rintro x w1 ⟨rfl, E⟩
    go_wp2_with fail
    refine (IB.out _).mono ?_
    rintro x w2 ⟨rfl, rfl⟩
    go_wp2_with fail
    go_ret2
    exact ⟨rfl, E⟩
end Go.Proofs.YtigimkgmghjgoaaGreatDoor

/- The walk of number (the document's answer). No condition. -/
import Derived.Test.YtigimkgmghjgoaaGreatDoorS3
namespace Go.Proofs.YtigimkgmghjgoaaGreatDoor
open Go.RowKit
set_option linter.unusedVariables false

/-- the number of a text, in the document's form -/
def numV (s : Tx) : Option Int :=
  if s = [] ∨ 11 < s.length then none
  else if s.head? = some 45 then (if s.drop 1 = [] ∨ (s.drop 1).head? = some 48 ∨ (s.drop 1).all digitC = false then none else some (-(valT 0 (s.drop 1) : Int)))
  else if (s.head? = some 48 ∧ 1 < s.length) ∨ s.all digitC = false then none else some (valT 0 s : Int)
def NumR (s : Tx) (v : Int) (ok : Bool) : Prop := (numV s = none ∧ v = 0 ∧ ok = false) ∨ (numV s = some v ∧ ok = numB v)
def NumP (s : Tx) (w : World) (e : Ending) (w' : World) : Prop := (∃ v ok, e = .returned (.tuple #[.int .i64 v, .bool ok]) ∧ NumR s v ok) ∧ w = w'
theorem NumP.no {s : Tx} (w : World) (h : numV s = none) : NumP s w (.returned (.tuple #[.int .i64 0, .bool false])) w := ⟨⟨0, false, rfl, .inl ⟨h, rfl, rfl⟩⟩, rfl⟩
theorem NumP.yes {s : Tx} (w : World) {v : Int} (h : numV s = some v) : NumP s w (.returned (.tuple #[.int .i64 v, .bool (numB v)])) w := ⟨⟨v, _, rfl, .inr ⟨h, rfl⟩⟩, rfl⟩
theorem valT_concat (x : UInt8) : ∀ (l : Tx) (a : Nat), valT a (l ++ [x]) = 10 * valT a l + (x.toNat - 48)
  | [], a => rfl
  | c :: r, a => valT_concat x r _
/-- a number that is read up to the k-th byte, from the i-th on -/
def NumAt (s : Tx) (i k V : Nat) : Prop := i ≤ k ∧ V = valT 0 ((s.take k).drop i) ∧ ((s.take k).drop i).all digitC = true ∧ V < 10 ^ (k - i)
theorem digitC_nat {x : UInt8} (h : digitC x = true) : 48 ≤ x.toNat ∧ x.toNat ≤ 57 := by
  unfold digitC at h
  simp only [Bool.and_eq_true, decide_eq_true_eq, UInt8.le_iff_toNat_le] at h
  exact h
theorem NumAt.zero (s : Tx) (i : Nat) : NumAt s i i 0 := by
  have e : (s.take i).drop i = [] := List.drop_eq_nil_of_le (by simp; omega)
  exact ⟨Nat.le_refl _, by rw [e]; rfl, by rw [e]; rfl, by simp⟩
theorem NumAt.step {s : Tx} {i k V : Nat} {x : UInt8} (h : NumAt s i k V) (hx : s[k]? = some x) (hd : digitC x = true) : NumAt s i (k + 1) (10 * V + (x.toNat - 48)) := by
  obtain ⟨h1, h2, h3, h4⟩ := h
  obtain ⟨hk, -⟩ := List.getElem?_eq_some_iff.1 hx
  have e : (s.take (k + 1)).drop i = (s.take k).drop i ++ [x] := by
    rw [List.take_add_one, hx, List.drop_append_of_le_length (by simp; omega)]; rfl
  have hb := (digitC_nat hd).2
  refine ⟨by omega, by rw [e, valT_concat, ← h2], by rw [e, List.all_append, h3]; simp [hd], ?_⟩
  rw [show k + 1 - i = (k - i) + 1 by omega, Nat.pow_succ]
  omega
theorem NumAt.small {s : Tx} {i k V : Nat} (h : NumAt s i k V) (hk : k ≤ 11) : V ≤ 100000000000 := by
  have h1 : 10 ^ (k - i) ≤ 10 ^ 11 := Nat.pow_le_pow_right (by omega) (by omega)
  have h2 := h.2.2.2
  have h3 : (10 : Nat) ^ 11 = 100000000000 := by decide
  omega
theorem NumAt.bad {s : Tx} {i k V : Nat} {x : UInt8} (h : NumAt s i k V) (hx : s[k]? = some x) (hd : digitC x = false) : (s.drop i).all digitC = false := by
  rw [List.all_eq_false]
  refine ⟨x, List.mem_of_getElem? (i := k - i) ?_, by rw [hd]; simp⟩
  rw [List.getElem?_drop, show i + (k - i) = k by have := h.1; omega]; exact hx
theorem NumAt.done {s : Tx} {i k V : Nat} (h : NumAt s i k V) (hk : k = s.length) : V = valT 0 (s.drop i) ∧ (s.drop i).all digitC = true := by
  subst hk
  have := h.2
  rw [List.take_length] at this
  exact ⟨this.1, this.2.1⟩
set_option maxHeartbeats 6400000 in
theorem refNumber (s : Tx) (w : World) : Calls Tryz.prog 74 #[.string (tx s)] w (NumP s w) := by
  obtain ⟨n, hn⟩ : ∃ n, s.length = n := ⟨_, rfl⟩
  have hsz : (tx s).size = n := by rw [tx_size, hn]
  have HN := hid hn
  by_cases h0 : n = 0
  · have HR := hid (show numV s = none by unfold numV; rw [if_pos (.inl (List.eq_nil_of_length_eq_zero (by omega)))])
    have z0 : ((n : Int) == 0) = true := by simp; omega
    clear hn h0
    go_enter Tryz.func74, Tryz.ntmps74
    go_wp2_with fail
    go_ret2
    exact NumP.no _ HR.out
  have z0 : ((n : Int) == 0) = false := by simp; omega
  have hn1 : 1 ≤ n := by omega
  by_cases h11 : 11 < n
  · have HR := hid (show numV s = none by unfold numV; rw [if_pos (.inr (by omega))])
    clear hn h0
    go_enter Tryz.func74, Tryz.ntmps74
    go_wp2_with fail
    go_ret2
    exact NumP.no _ HR.out
  obtain ⟨c, hc⟩ : ∃ c, s[0]? = some c := ⟨_, List.getElem?_eq_getElem (by omega)⟩
  have hh : s.head? = some c := by rw [← hc]; cases s <;> rfl
  have HU : ¬ (s = [] ∨ 11 < s.length) := by
    rintro (rfl | h)
    · exact h0 hn.symm
    · omega
  have i0 := run_ixz s c hc
  by_cases h45 : c = 45
  · subst h45
    have z45 : (((45 : UInt8).toNat : Int) == 45) = true := by decide
    have HV := hid (show numV s = (if s.drop 1 = [] ∨ (s.drop 1).head? = some 48 ∨ (s.drop 1).all digitC = false then none else some (-(valT 0 (s.drop 1) : Int))) by unfold numV; rw [if_neg HU, if_pos hh])
    clear HU hh hc
    by_cases h1 : n = 1
    · have HR := hid (show numV s = none by rw [HV.out, if_pos (.inl (List.drop_eq_nil_of_le (by omega)))])
      have z1 : ((1 : Int) == (n : Int)) = true := by simp; omega
      clear hn h0 h1 HV
      go_enter Tryz.func74, Tryz.ntmps74
      go_wp2_with fail
      go_ret2
      exact NumP.no _ HR.out
    have z1 : ((1 : Int) == (n : Int)) = false := by simp; omega
    obtain ⟨d, hd⟩ : ∃ d, s[1]? = some d := ⟨_, List.getElem?_eq_getElem (by omega)⟩
    have hdh : (s.drop 1).head? = some d := by rw [List.head?_drop]; exact hd
    have i1 : ∀ w, (Instr.index 9 (.string (tx s)) (.int .i64 1)).run Tryz.prog w = .ok (.int .u8 d.toNat) w := run_ix s 1 d hd
    by_cases h48 : d = 48
    · have z48 : ((d.toNat : Int) == 48) = true := by rw [h48]; decide
      have HR := hid (show numV s = none by rw [HV.out, if_pos (.inr (.inl (by rw [hdh, h48])))])
      clear hn h0 HV hdh h48 hd
      by_cases h2 : 2 < n
      · go_enter Tryz.func74, Tryz.ntmps74
        go_wp2_with fail
        go_ret2
        exact NumP.no _ HR.out
      · go_enter Tryz.func74, Tryz.ntmps74
        go_wp2_with fail
        go_ret2
        exact NumP.no _ HR.out
    have z48 : ((d.toNat : Int) == 48) = false := by
      simp only [beq_eq_false_iff_ne, ne_eq]
      intro e; exact h48 (UInt8.toNat_inj.1 (by have : (48 : UInt8).toNat = 48 := rfl; omega))
    have HB := hid (fun (h : (s.drop 1).all digitC = false) => show numV s = none by rw [HV.out, if_pos (.inr (.inr h))])
    have HG := hid (fun (h : (s.drop 1).all digitC = true) => show numV s = some (-(valT 0 (s.drop 1) : Int)) by
      rw [HV.out, if_neg]
      rintro (h' | h' | h')
      · rw [h'] at hdh; cases hdh
      · rw [hdh] at h'; exact h48 (Option.some.inj h')
      · rw [h] at h'; cases h')
    clear hn h0 HV hdh h48 hd

    go_enter Tryz.func74, Tryz.ntmps74
    go_wp2_with fail
    go_loop [5, 6] (fun v kk => ∃ k V : Nat, k ≤ n ∧ kk = .int .i64 k ∧ v = .int .i64 V ∧ Hid (NumAt s 1 k V)) (fun _ kk => n - (intOf kk).toNat)
    case atStart => exact ⟨1, 0, by omega, rfl, rfl, NumAt.zero s 1⟩
    case round =>
      obtain ⟨k, V, hk, rfl, rfl, HA⟩ := hrel
      have hV := HA.out.small (by omega)
      by_cases hlt : k < n
      · obtain ⟨x, hx⟩ : ∃ x, s[k]? = some x := ⟨_, List.getElem?_eq_getElem (by have := HN.out; omega)⟩
        have ix := run_ix s k x hx
        cases hd : digitC x
        · have HR := hid (HB.out (HA.out.bad hx hd))
          have HD := hid hd
          clear hx hd HA
          go_wp2_with (go_at_call 78; refine (refDigit x _).mono ?_; rintro e w' ⟨rfl, rfl⟩; rw [HD.out])
          go_ret2
          exact NumP.no _ HR.out
        · have HR := hid (HA.out.step hx hd)
          have HD := hid hd
          obtain ⟨x1, x2⟩ := digitC_nat hd
          clear hx hd HA
          go_wp2_with (go_at_call 78; refine (refDigit x _).mono ?_; rintro e w' ⟨rfl, rfl⟩; rw [HD.out])
          go_round
          case rel => exact ⟨k + 1, _, by omega, by go_num, by congr 1; omega, HR.out⟩
          case measure => simp [intOf]; omega
      · obtain ⟨hv, ha⟩ := HA.out.done (by have := HN.out; omega)
        have HR := hid (HG.out ha)
        rw [← hv] at HR
        clear hv ha HA
        go_wp2_with (go_at_call 59; refine (refIsNumber _ _).mono ?_; rintro e w' ⟨rfl, rfl⟩)
        go_ret2
        exact NumP.yes _ HR.out
  have z45 : ((c.toNat : Int) == 45) = false := by
    simp only [beq_eq_false_iff_ne, ne_eq]
    intro e; exact h45 (UInt8.toNat_inj.1 (by have : (45 : UInt8).toNat = 45 := rfl; omega))
  have HV := hid (show numV s = (if (s.head? = some 48 ∧ 1 < s.length) ∨ s.all digitC = false then none else some (valT 0 s : Int)) by unfold numV; rw [if_neg HU, if_neg (by rw [hh]; intro e; exact h45 (Option.some.inj e))])
  have z1 : ((0 : Int) == (n : Int)) = false := by simp; omega
  have HB := hid (fun (h : (s.drop 0).all digitC = false) => show numV s = none by rw [HV.out, if_pos (.inr h)])
  by_cases h48 : c = 48
  · have z48 : ((c.toNat : Int) == 48) = true := by rw [h48]; decide
    by_cases h1 : 1 < n
    · have HR := hid (show numV s = none by rw [HV.out, if_pos (.inl ⟨by rw [hh, h48], by omega⟩)])
      clear hn h0 HV hh h48 hc HU h45
      go_enter Tryz.func74, Tryz.ntmps74
      go_wp2_with fail
      go_ret2
      exact NumP.no _ HR.out
    have HG := hid (fun (h : (s.drop 0).all digitC = true) => show numV s = some (valT 0 (s.drop 0) : Int) by
      rw [HV.out, if_neg]
      · rfl
      rintro (⟨-, h'⟩ | h')
      · omega
      · rw [show s.all digitC = true from h] at h'; cases h')
    clear hn h0 HV hh h48 hc HU h45

    go_enter Tryz.func74, Tryz.ntmps74
    go_wp2_with fail
    go_loop [5, 6] (fun v kk => ∃ k V : Nat, k ≤ n ∧ kk = .int .i64 k ∧ v = .int .i64 V ∧ Hid (NumAt s 0 k V)) (fun _ kk => n - (intOf kk).toNat)
    case atStart => exact ⟨0, 0, by omega, rfl, rfl, NumAt.zero s 0⟩
    case round =>
      obtain ⟨k, V, hk, rfl, rfl, HA⟩ := hrel
      have hV := HA.out.small (by omega)
      by_cases hlt : k < n
      · obtain ⟨x, hx⟩ : ∃ x, s[k]? = some x := ⟨_, List.getElem?_eq_getElem (by have := HN.out; omega)⟩
        have ix := run_ix s k x hx
        cases hd : digitC x
        · have HR := hid (HB.out (HA.out.bad hx hd))
          have HD := hid hd
          clear hx hd HA
          go_wp2_with (go_at_call 78; refine (refDigit x _).mono ?_; rintro e w' ⟨rfl, rfl⟩; rw [HD.out])
          go_ret2
          exact NumP.no _ HR.out
        · have HR := hid (HA.out.step hx hd)
          have HD := hid hd
          obtain ⟨x1, x2⟩ := digitC_nat hd
          clear hx hd HA
          go_wp2_with (go_at_call 78; refine (refDigit x _).mono ?_; rintro e w' ⟨rfl, rfl⟩; rw [HD.out])
          go_round
          case rel => exact ⟨k + 1, _, by omega, by go_num, by congr 1; omega, HR.out⟩
          case measure => simp [intOf]; omega
      · obtain ⟨hv, ha⟩ := HA.out.done (by have := HN.out; omega)
        have HR := hid (HG.out ha)
        rw [← hv] at HR
        clear hv ha HA
        go_wp2_with (go_at_call 59; refine (refIsNumber _ _).mono ?_; rintro e w' ⟨rfl, rfl⟩)
        go_ret2
        exact NumP.yes _ HR.out
  have z48 : ((c.toNat : Int) == 48) = false := by
    simp only [beq_eq_false_iff_ne, ne_eq]
    intro e; exact h48 (UInt8.toNat_inj.1 (by have : (48 : UInt8).toNat = 48 := rfl; omega))
  have HG := hid (fun (h : (s.drop 0).all digitC = true) => show numV s = some (valT 0 (s.drop 0) : Int) by
    rw [HV.out, if_neg]
    · rfl
    rintro (⟨h', -⟩ | h')
    · rw [hh] at h'; exact h48 (Option.some.inj h')
    · rw [show s.all digitC = true from h] at h'; cases h')
  clear hn h0 HV hh h48 hc HU h45

  go_enter Tryz.func74, Tryz.ntmps74
  go_wp2_with fail
  go_loop [5, 6] (fun v kk => ∃ k V : Nat, k ≤ n ∧ kk = .int .i64 k ∧ v = .int .i64 V ∧ Hid (NumAt s 0 k V)) (fun _ kk => n - (intOf kk).toNat)
  case atStart => exact ⟨0, 0, by omega, rfl, rfl, NumAt.zero s 0⟩
  case round =>
    obtain ⟨k, V, hk, rfl, rfl, HA⟩ := hrel
    have hV := HA.out.small (by omega)
    by_cases hlt : k < n
    · obtain ⟨x, hx⟩ : ∃ x, s[k]? = some x := ⟨_, List.getElem?_eq_getElem (by have := HN.out; omega)⟩
      have ix := run_ix s k x hx
      cases hd : digitC x
      · have HR := hid (HB.out (HA.out.bad hx hd))
        have HD := hid hd
        clear hx hd HA
        go_wp2_with (go_at_call 78; refine (refDigit x _).mono ?_; rintro e w' ⟨rfl, rfl⟩; rw [HD.out])
        go_ret2
        exact NumP.no _ HR.out
      · have HR := hid (HA.out.step hx hd)
        have HD := hid hd
        obtain ⟨x1, x2⟩ := digitC_nat hd
        clear hx hd HA
        go_wp2_with (go_at_call 78; refine (refDigit x _).mono ?_; rintro e w' ⟨rfl, rfl⟩; rw [HD.out])
        go_round
        case rel => exact ⟨k + 1, _, by omega, by go_num, by congr 1; omega, HR.out⟩
        case measure => simp [intOf]; omega
    · obtain ⟨hv, ha⟩ := HA.out.done (by have := HN.out; omega)
      have HR := hid (HG.out ha)
      rw [← hv] at HR
      clear hv ha HA
      go_wp2_with (go_at_call 59; refine (refIsNumber _ _).mono ?_; rintro e w' ⟨rfl, rfl⟩)
      go_ret2
      exact NumP.yes _ HR.out
end Go.Proofs.YtigimkgmghjgoaaGreatDoor

/- The walks of reg, letter, digit, Reg, RegOf (the program's), Reg, RegOf (the document's answer). No condition. -/
import Derived.Test.YtigimkgmghjgoaaGreatDoorLibS
namespace Go.Proofs.YtigimkgmghjgoaaGreatDoor
open Go.RowKit
set_option linter.unusedVariables false

theorem progReg0 (n : Int) (w : World) : Calls Tryz.prog 47 #[.int .i64 n] w fun e w' => e = .returned (.bool (regB n)) ∧ w = w' := by
  have hp : n < 0 ∨ (0 ≤ n ∧ n ≤ 31) ∨ 32 ≤ n := by omega
  rcases hp with h | ⟨h, h'⟩ | h
  all_goals
    go_enter Tryz.func47, Tryz.ntmps47
    go_wp2
    go_ret
    exact ⟨ret_bool (by unfold regB; rw [Bool.eq_iff_iff]; simp <;> omega), rfl⟩
theorem progLetter (c : UInt8) (w : World) : Calls Tryz.prog 108 #[.int .u8 c.toNat] w fun e w' => e = .returned (.bool (letterC c)) ∧ w = w' := by
  have hlt : c.toNat < 256 := c.toNat_lt
  have hl : letterC c = ((decide (97 ≤ c.toNat) && decide (c.toNat ≤ 122)) || (decide (65 ≤ c.toNat) && decide (c.toNat ≤ 90))) := by
    unfold letterC; simp only [UInt8.le_iff_toNat_le]; rfl
  rw [hl]; clear hl
  generalize c.toNat = n at *
  have hp : n < 65 ∨ (65 ≤ n ∧ n ≤ 90) ∨ (91 ≤ n ∧ n ≤ 96) ∨ (97 ≤ n ∧ n ≤ 122) ∨ 123 ≤ n := by omega
  rcases hp with h | ⟨h, h'⟩ | ⟨h, h'⟩ | ⟨h, h'⟩ | h
  all_goals
    go_enter Tryz.func108, Tryz.ntmps108
    go_wp2
    go_ret
    exact ⟨ret_bool (by first | (rw [Bool.eq_iff_iff]; simp <;> omega) | (simp <;> omega)), rfl⟩
theorem progDigit (c : UInt8) (w : World) : Calls Tryz.prog 109 #[.int .u8 c.toNat] w fun e w' => e = .returned (.bool (digitC c)) ∧ w = w' := by
  have hlt : c.toNat < 256 := c.toNat_lt
  have hl : digitC c = (decide (48 ≤ c.toNat) && decide (c.toNat ≤ 57)) := by
    unfold digitC; simp only [UInt8.le_iff_toNat_le]; rfl
  rw [hl]; clear hl
  generalize c.toNat = n at *
  have hp : n < 48 ∨ (48 ≤ n ∧ n ≤ 57) ∨ 58 ≤ n := by omega
  rcases hp with h | ⟨h, h'⟩ | h
  all_goals
    go_enter Tryz.func109, Tryz.ntmps109
    go_wp2
    go_ret
    exact ⟨ret_bool (by first | (rw [Bool.eq_iff_iff]; simp <;> omega) | (simp <;> omega)), rfl⟩

theorem decN_len (n : Nat) : (decN n).length ≤ 4 := by unfold decN; split <;> (try split) <;> (try split) <;> simp
theorem cat_x (n : Nat) : ∀ w, (Op.stringOp .add ⟨#[120]⟩ (tx (decN n))).run Tryz.prog w = .ok (.string (tx (regT n))) w := run_cat [120] (decN n) (by have := decN_len n; simp; omega)
theorem progReg (n : Nat) (h : n < 32) (w : World) : Calls Tryz.prog 32 #[.int .i64 n] w fun e w' => e = .returned (.tuple #[.string (tx (regT n)), .int .i64 0]) ∧ w = w' := by
  have hr := regB_of h
  have cx := cat_x n
  go_enter Tryz.func32, Tryz.ntmps32
  go_wp2_with (go_at_call 47; refine (progReg0 _ _).mono ?_; rintro e w' ⟨rfl, rfl⟩; rw [hr])
  refine (itoa_small n (by omega) _).mono ?_
  rintro e w' ⟨rfl, rfl⟩
  go_wp2_with fail
  go_ret2
  exact ⟨rfl, rfl⟩
theorem progReg_no (n : Int) (h : regB n = false) (w : World) : Calls Tryz.prog 32 #[.int .i64 n] w fun e w' => e = .returned (.tuple #[.string (tx []), .int .i64 90]) ∧ w = w' := by
  have H := hid h; clear h
  go_enter Tryz.func32, Tryz.ntmps32
  go_wp2_with (go_at_call 47; refine (progReg0 _ _).mono ?_; rintro e w' ⟨rfl, rfl⟩; rw [H.out])
  go_ret2
  exact ⟨rfl, rfl⟩
theorem refReg (n : Nat) (h : n < 32) (w : World) : Calls Tryz.prog 35 #[.int .i64 n] w fun e w' => e = .returned (.tuple #[.string (tx (regT n)), .int .i64 0]) ∧ w = w' := by
  have cx := cat_x n
  go_enter Tryz.func35, Tryz.ntmps35
  go_wp2_with fail
  refine (itoa_small n (by omega) _).mono ?_
  rintro e w' ⟨rfl, rfl⟩
  go_wp2_with fail
  go_ret2
  exact ⟨rfl, rfl⟩
theorem refReg_no (n : Int) (h : regB n = false) (w : World) : Calls Tryz.prog 35 #[.int .i64 n] w fun e w' => e = .returned (.tuple #[.string (tx []), .int .i64 90]) ∧ w = w' := by
  have hn : n < 0 ∨ 31 < n := by unfold regB at h; simp at h; omega
  clear h
  rcases hn with h | h
  · go_enter Tryz.func35, Tryz.ntmps35
    go_wp2_with fail
    go_ret2
    exact ⟨rfl, rfl⟩
  · have h0 : ¬ n < 0 := by omega
    go_enter Tryz.func35, Tryz.ntmps35
    go_wp2_with fail
    go_ret2
    exact ⟨rfl, rfl⟩

/-- the register of a name, and the error -/
def regN (s : Tx) : Int := match regOf s with
  | some n => n
  | none => 0
def regE (s : Tx) : Int := match regOf s with
  | some _ => 0
  | none => 90
theorem regT_inj {n m : Nat} (h : n < 32) (h' : m < 32) (e : regT n = regT m) : n = m := by
  have h1 := regOf_regT h
  rw [e, regOf_regT h'] at h1
  simpa using h1.symm
theorem regOf_hit {s : Tx} {n : Nat} (h : n < 32) (e : regT n = s) : regN s = n ∧ regE s = 0 := by
  subst e
  unfold regN regE
  rw [regOf_regT h]; exact ⟨rfl, rfl⟩
theorem regOf_miss {s : Tx} (h : ∀ m, m < 32 → regT m ≠ s) : regN s = 0 ∧ regE s = 90 := by
  unfold regN regE
  cases hr : regOf s with
  | none => exact ⟨rfl, rfl⟩
  | some n => obtain ⟨h1, h2⟩ := regOf_some hr; exact absurd h2.symm (h n h1)
set_option maxHeartbeats 800000 in
theorem progRegOf (s : Tx) (w : World) : Calls Tryz.prog 50 #[.string (tx s)] w fun e w' => e = .returned (.tuple #[.int .i64 (regN s), .int .i64 (regE s)]) ∧ w = w' := by
  go_enter Tryz.func50, Tryz.ntmps50
  go_wp2_with fail
  go_loop [7] (fun i => ∃ k : Nat, k ≤ 32 ∧ i = .int .i64 k ∧ Hid (∀ m, m < k → regT m ≠ s)) (fun i => 32 - (intOf i).toNat)
  case atStart => exact ⟨0, by omega, rfl, fun m hm => absurd hm (Nat.not_lt_zero m)⟩
  case round =>
    obtain ⟨k, hk, rfl, HM⟩ := hrel
    by_cases hlt : k < 32
    · by_cases he : regT k = s
      · have hz : ((tx (regT k)).toList == (tx s).toList) = true := by rw [tx_beq]; simpa using he
        have HR := hid (regOf_hit hlt he)
        clear he
        go_wp2_with (go_at_call 32; refine (progReg k hlt _).mono ?_; rintro e w' ⟨rfl, rfl⟩)
        go_ret2
        exact ⟨ret_pair HR.out.1.symm HR.out.2.symm, rfl⟩
      · have hz : ((tx (regT k)).toList == (tx s).toList) = false := tx_eq_false he
        have HM2 := hid (show ∀ m, m < k + 1 → regT m ≠ s from fun m hm => by
          rcases Nat.lt_succ_iff_lt_or_eq.1 hm with h | h
          · exact HM.out m h
          · subst h; exact he)
        clear he
        go_wp2_with (go_at_call 32; refine (progReg k hlt _).mono ?_; rintro e w' ⟨rfl, rfl⟩)
        go_round
        case rel => exact ⟨k + 1, by omega, by go_num, HM2⟩
        case measure => simp [intOf]; omega
    · obtain rfl : k = 32 := by omega
      have HR := hid (regOf_miss HM.out)
      go_wp2_with fail
      go_ret2
      exact ⟨ret_pair HR.out.1.symm HR.out.2.symm, rfl⟩
set_option maxHeartbeats 800000 in
theorem refRegOf (s : Tx) (w : World) : Calls Tryz.prog 72 #[.string (tx s)] w fun e w' => e = .returned (.tuple #[.int .i64 (regN s), .int .i64 (regE s)]) ∧ w = w' := by
  go_enter Tryz.func72, Tryz.ntmps72
  go_wp2_with fail
  go_loop [4] (fun i => ∃ k : Nat, k ≤ 32 ∧ i = .int .i64 k ∧ Hid (∀ m, m < k → regT m ≠ s)) (fun i => 32 - (intOf i).toNat)
  case atStart => exact ⟨0, by omega, rfl, fun m hm => absurd hm (Nat.not_lt_zero m)⟩
  case round =>
    obtain ⟨k, hk, rfl, HM⟩ := hrel
    by_cases hlt : k < 32
    · by_cases he : regT k = s
      · have cx := cat_x k
        have hz : ((tx s).toList == (tx (regT k)).toList) = true := by rw [tx_beq]; simpa using he.symm
        have HR := hid (regOf_hit hlt he)
        clear he
        go_wp2_with fail
        refine (itoa_small k (by omega) _).mono ?_
        rintro e w' ⟨rfl, rfl⟩
        go_wp2_with fail
        go_ret2
        exact ⟨ret_pair HR.out.1.symm HR.out.2.symm, rfl⟩
      · have cx := cat_x k
        have hz : ((tx s).toList == (tx (regT k)).toList) = false := tx_eq_false (fun e => he e.symm)
        have HM2 := hid (show ∀ m, m < k + 1 → regT m ≠ s from fun m hm => by
          rcases Nat.lt_succ_iff_lt_or_eq.1 hm with h | h
          · exact HM.out m h
          · subst h; exact he)
        clear he
        go_wp2_with fail
        refine (itoa_small k (by omega) _).mono ?_
        rintro e w' ⟨rfl, rfl⟩
        go_wp2_with fail
        go_round
        case rel => exact ⟨k + 1, by omega, by go_num, HM2⟩
        case measure => simp [intOf]; omega
    · obtain rfl : k = 32 := by omega
      have HR := hid (regOf_miss HM.out)
      go_wp2_with fail
      go_ret2
      exact ⟨ret_pair HR.out.1.symm HR.out.2.symm, rfl⟩
end Go.Proofs.YtigimkgmghjgoaaGreatDoor

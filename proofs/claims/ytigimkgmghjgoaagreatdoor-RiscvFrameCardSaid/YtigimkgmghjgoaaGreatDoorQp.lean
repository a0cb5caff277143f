/- The walks of the document's answer: isReg, letter, digit, isNumber, blank, part, isName. Conditions: lengths that an int holds. · The walk of trim (the document's answer). Condition: a length that an int holds. -/
import Derived.Test.YtigimkgmghjgoaaGreatDoorQb
import Derived.Test.YtigimkgmghjgoaaGreatDoorQd
namespace Go.Proofs.YtigimkgmghjgoaaGreatDoor
open Go.RowKit
set_option linter.unusedVariables false

theorem refIsReg (n : Int) (w : World) : Calls Tryz.prog 49 #[.int .i64 n] w fun e w' => e = .returned (.bool (regB n)) ∧ w = w' := by
  have hp : n < 0 ∨ (0 ≤ n ∧ n ≤ 31) ∨ 32 ≤ n := by omega
  rcases hp with h | ⟨h, h'⟩ | h
  all_goals
    go_enter Tryz.func49, Tryz.ntmps49
    go_wp2
    go_ret
    exact ⟨ret_bool (by unfold regB; rw [Bool.eq_iff_iff]; simp <;> omega), rfl⟩
theorem refLetter (c : UInt8) (w : World) : Calls Tryz.prog 77 #[.int .u8 c.toNat] w fun e w' => e = .returned (.bool (letterC c)) ∧ w = w' := by
  have hlt : c.toNat < 256 := c.toNat_lt
  have hl : letterC c = ((decide (97 ≤ c.toNat) && decide (c.toNat ≤ 122)) || (decide (65 ≤ c.toNat) && decide (c.toNat ≤ 90))) := by
    unfold letterC; simp only [UInt8.le_iff_toNat_le]; rfl
  rw [hl]; clear hl
  generalize c.toNat = n at *
  have hp : n < 65 ∨ (65 ≤ n ∧ n ≤ 90) ∨ (91 ≤ n ∧ n ≤ 96) ∨ (97 ≤ n ∧ n ≤ 122) ∨ 123 ≤ n := by omega
  rcases hp with h | ⟨h, h'⟩ | ⟨h, h'⟩ | ⟨h, h'⟩ | h
  all_goals
    go_enter Tryz.func77, Tryz.ntmps77
    go_wp2
    go_ret
    exact ⟨ret_bool (by first | (rw [Bool.eq_iff_iff]; simp <;> omega) | (simp <;> omega)), rfl⟩
theorem refDigit (c : UInt8) (w : World) : Calls Tryz.prog 78 #[.int .u8 c.toNat] w fun e w' => e = .returned (.bool (digitC c)) ∧ w = w' := by
  have hlt : c.toNat < 256 := c.toNat_lt
  have hl : digitC c = (decide (48 ≤ c.toNat) && decide (c.toNat ≤ 57)) := by
    unfold digitC; simp only [UInt8.le_iff_toNat_le]; rfl
  rw [hl]; clear hl
  generalize c.toNat = n at *
  have hp : n < 48 ∨ (48 ≤ n ∧ n ≤ 57) ∨ 58 ≤ n := by omega
  rcases hp with h | ⟨h, h'⟩ | h
  all_goals
    go_enter Tryz.func78, Tryz.ntmps78
    go_wp2
    go_ret
    exact ⟨ret_bool (by first | (rw [Bool.eq_iff_iff]; simp <;> omega) | (simp <;> omega)), rfl⟩


def numB (n : Int) : Bool := decide (-2147483648 ≤ n) && decide (n ≤ 2147483647)
theorem refIsNumber (n : Int) (w : World) : Calls Tryz.prog 59 #[.int .i64 n] w fun e w' => e = .returned (.bool (numB n)) ∧ w = w' := by
  have hp : n < -2147483648 ∨ (-2147483648 ≤ n ∧ n ≤ 2147483647) ∨ 2147483648 ≤ n := by omega
  rcases hp with h | ⟨h, h'⟩ | h
  all_goals
    go_enter Tryz.func59, Tryz.ntmps59
    go_wp2
    go_ret
    exact ⟨ret_bool (by unfold numB; rw [Bool.eq_iff_iff]; simp <;> omega), rfl⟩
theorem refBlank (c : UInt8) (w : World) : Calls Tryz.prog 43 #[.int .u8 c.toNat] w fun e w' => e = .returned (.bool (blankC c)) ∧ w = w' := by
  have hb : blankC c = (((c.toNat : Int) == 32) || ((c.toNat : Int) == 9) || ((c.toNat : Int) == 10) || ((c.toNat : Int) == 13)) := by
    have key : ∀ d : UInt8, (c == d) = ((c.toNat : Int) == (d.toNat : Int)) := fun d => by
      rw [Bool.eq_iff_iff]; simp only [beq_iff_eq]; constructor
      · rintro rfl; rfl
      · intro e; exact UInt8.toNat_inj.1 (by omega)
    unfold blankC; rw [key 32, key 9, key 10, key 13]; rfl
  rw [hb]; clear hb
  generalize c.toNat = n at *
  by_cases h1 : (n : Int) = 32
  · have z1 : ((n : Int) == 32) = true := by simpa using h1
    rw [h1]
    go_enter Tryz.func43, Tryz.ntmps43
    go_wp2
    go_ret
    exact ⟨rfl, rfl⟩
  have z1 : ((n : Int) == 32) = false := by simpa using h1
  by_cases h2 : (n : Int) = 9
  · rw [h2]
    go_enter Tryz.func43, Tryz.ntmps43
    go_wp2
    go_ret
    exact ⟨rfl, rfl⟩
  have z2 : ((n : Int) == 9) = false := by simpa using h2
  by_cases h3 : (n : Int) = 10
  · rw [h3]
    go_enter Tryz.func43, Tryz.ntmps43
    go_wp2
    go_ret
    exact ⟨rfl, rfl⟩
  have z3 : ((n : Int) == 10) = false := by simpa using h3
  rw [z1, z2, z3]
  by_cases h4 : (n : Int) = 13
  · rw [h4]
    go_enter Tryz.func43, Tryz.ntmps43
    go_wp2
    go_ret
    exact ⟨rfl, rfl⟩
  have z4 : ((n : Int) == 13) = false := by simpa using h4
  clear h1 h2 h3 h4
  rw [z4]
  go_enter Tryz.func43, Tryz.ntmps43
  go_wp2
  go_ret
  exact ⟨rfl, rfl⟩
theorem refPart (n : Int) (w : World) : Calls Tryz.prog 36 #[.int .i64 n] w fun e w' => e = .returned (.string (tx (fpart n))) ∧ w = w' := by
  by_cases h0 : n = 0
  · subst h0
    go_enter Tryz.func36, Tryz.ntmps36
    go_wp2
    go_ret
    exact ⟨rfl, rfl⟩
  by_cases h1 : n = 1
  · subst h1
    go_enter Tryz.func36, Tryz.ntmps36
    go_wp2
    go_ret
    exact ⟨rfl, rfl⟩
  have z0 : (n == 0) = false := by simpa using h0
  have z1 : (n == 1) = false := by simpa using h1
  have hf : fpart n = [114, 119] := by unfold fpart; rw [if_neg h0, if_neg h1]
  rw [hf]; clear hf h0 h1
  go_enter Tryz.func36, Tryz.ntmps36
  go_wp2
  go_ret
  exact ⟨rfl, rfl⟩
set_option maxHeartbeats 800000 in
theorem refIsName (l : Tx) (hl : l.length ≤ 9223372036854775807) (w : World) : Calls Tryz.prog 48 #[.string (tx l)] w fun e w' => e = .returned (.bool (nameB l)) ∧ w = w' := by
  have hs := tx_size l
  cases l with
  | nil =>
    have hs : (tx []).size = 0 := rfl
    go_enter Tryz.func48, Tryz.ntmps48
    go_wp2_with fail
    go_ret
    exact ⟨rfl, rfl⟩
  | cons c r =>
    obtain ⟨n, hn⟩ : ∃ n, (tx (c :: r)).size = n := ⟨_, rfl⟩
    have hn1 : 1 ≤ n := by rw [← hn, hs]; simp
    have hnr : n = r.length + 1 := by rw [← hn, hs]; simp
    have hz : ((n : Int) == 0) = false := by simp; omega
    clear hs hl
    by_cases h32 : n ≤ 32
    · have i0 := run_ixz (c :: r) c rfl
      by_cases hc : letterC c = true
      · have HC := hid hc
        have HR := hid hnr
        clear hc hnr
        go_enter Tryz.func48, Tryz.ntmps48
        go_wp2_with (go_at_call 77; refine (refLetter c _).mono ?_; rintro e w' ⟨rfl, rfl⟩; rw [HC.out])
        go_loop [3] (fun i => ∃ k : Nat, 1 ≤ k ∧ k ≤ n ∧ i = .int .i64 k ∧ Hid (∀ (i : Nat) (x : UInt8), i < k → (c :: r)[i]? = some x → nameC x = true)) (fun i => n - (intOf i).toNat)
        case atStart => exact ⟨1, by omega, by omega, rfl, fun i x hi h => by
          obtain rfl : i = 0 := by omega
          cases h; unfold nameC; rw [HC.out]; rfl⟩
        case round =>
          obtain ⟨k, hk1, hk, rfl, HM⟩ := hrel
          by_cases hlt : k < n
          · obtain ⟨x, hx⟩ : ∃ x, (c :: r)[k]? = some x := ⟨_, List.getElem?_eq_getElem (by have := HR.out; simp; omega)⟩
            have ix := run_ix (c :: r) k x hx
            have HX := hid hx
            clear hx
            have HM2 : nameC x = true → Hid (∀ (i : Nat) (y : UInt8), i < k + 1 → (c :: r)[i]? = some y → nameC y = true) := fun hx' i y hi hy => by
              rcases Nat.lt_succ_iff_lt_or_eq.1 hi with h | h
              · exact HM.out i y h hy
              · subst h; rw [HX.out] at hy; cases hy; exact hx'
            have HM2 := hid HM2
            by_cases h1 : letterC x = true
            · have H1 := hid h1
              have HN := hid (HM2.out (by unfold nameC; rw [h1]; rfl))
              clear h1
              go_wp2_with (go_at_call 77; refine (refLetter x _).mono ?_; rintro e w' ⟨rfl, rfl⟩; rw [H1.out])
              go_round
              case rel => exact ⟨k + 1, by omega, by omega, by go_num, HN.out⟩
              case measure => simp [intOf]; omega
            · have H1 := hid (Bool.eq_false_iff.2 h1)
              clear h1
              by_cases h2 : digitC x = true
              · have H2 := hid h2
                have HN := hid (HM2.out (by unfold nameC; rw [h2]; simp))
                clear h2
                go_wp2_with (first | (go_at_call 77; refine (refLetter x _).mono ?_; rintro e w' ⟨rfl, rfl⟩; rw [H1.out]) | (go_at_call 78; refine (refDigit x _).mono ?_; rintro e w' ⟨rfl, rfl⟩; rw [H2.out]))
                go_round
                case rel => exact ⟨k + 1, by omega, by omega, by go_num, HN.out⟩
                case measure => simp [intOf]; omega
              · have H2 := hid (Bool.eq_false_iff.2 h2)
                clear h2
                by_cases h3 : x = 95
                · subst h3
                  have HN := hid (HM2.out (by decide))
                  have z3 : (((95 : UInt8).toNat : Int) != 95) = false := by decide
                  go_wp2_with (first | (go_at_call 77; refine (refLetter 95 _).mono ?_; rintro e w' ⟨rfl, rfl⟩; rw [H1.out]) | (go_at_call 78; refine (refDigit 95 _).mono ?_; rintro e w' ⟨rfl, rfl⟩; rw [H2.out]))
                  go_round
                  case rel => exact ⟨k + 1, by omega, by omega, by go_num, HN.out⟩
                  case measure => simp [intOf]; omega
                · have z3 : ((x.toNat : Int) != 95) = true := u8_ne x 95 h3
                  have HF := hid (nameB_step HX.out (by unfold nameC; rw [H1.out, H2.out]; simpa using h3))
                  clear h3
                  go_wp2_with (first | (go_at_call 77; refine (refLetter x _).mono ?_; rintro e w' ⟨rfl, rfl⟩; rw [H1.out]) | (go_at_call 78; refine (refDigit x _).mono ?_; rintro e w' ⟨rfl, rfl⟩; rw [H2.out]))
                  go_ret
                  exact ⟨ret_bool HF.out.symm, rfl⟩
          · have HF := hid (nameB_done (c := c) (r := r) (by have := HR.out; omega) HC.out (fun i x hi => HM.out i x (by
              have h1 := (List.getElem?_eq_some_iff.1 hi).1
              have := HR.out
              simp at h1; omega) hi))
            go_wp2_with fail
            go_ret
            exact ⟨ret_bool HF.out.symm, rfl⟩
      · have HC := hid (Bool.eq_false_iff.2 hc)
        have HF := hid (show nameB (c :: r) = false by rw [nameB_cons, HC.out]; simp)
        clear hc hnr
        go_enter Tryz.func48, Tryz.ntmps48
        go_wp2_with (go_at_call 77; refine (refLetter c _).mono ?_; rintro e w' ⟨rfl, rfl⟩; rw [HC.out])
        go_ret
        exact ⟨ret_bool HF.out.symm, rfl⟩
    · have HF := hid (show nameB (c :: r) = false by rw [nameB_cons, decide_eq_false (by omega)]; simp)
      clear hnr
      go_enter Tryz.func48, Tryz.ntmps48
      go_wp2_with fail
      go_ret
      exact ⟨ret_bool HF.out.symm, rfl⟩
end Go.Proofs.YtigimkgmghjgoaaGreatDoor
namespace Go.Proofs.YtigimkgmghjgoaaGreatDoor
open Go.RowKit
set_option linter.unusedVariables false

theorem trim_comm : ∀ l : Tx, ((l.dropWhile blankC).reverse.dropWhile blankC).reverse = trimT l
  | [] => by decide
  | c :: r => by
    have ih := trim_comm r
    rw [trimT_eq] at ih ⊢
    by_cases hb : blankC c = true
    · rw [List.dropWhile_cons, if_pos hb, ih, List.reverse_cons, List.dropWhile_append]
      cases hx : r.reverse.dropWhile blankC with
      | nil => simp [hb]
      | cons y ys =>
        rw [if_neg (by simp), List.reverse_append, List.reverse_singleton, List.singleton_append, List.dropWhile_cons, if_pos hb]
    · rw [List.dropWhile_cons, if_neg hb, List.reverse_cons, List.dropWhile_append]
      cases hx : r.reverse.dropWhile blankC with
      | nil => simp [hb]
      | cons y ys =>
        rw [if_neg (by simp), List.reverse_append, List.reverse_singleton, List.singleton_append, List.dropWhile_cons, if_neg hb]
/-- a text's length -/
def strN : Value → Nat
  | .string b => b.size
  | _ => 0
theorem strN_tx (l : Tx) : strN (.string (tx l)) = l.length := tx_size l
theorem rdrop_concat (r : Tx) (c : UInt8) (h : blankC c = true) : ((r ++ [c]).reverse.dropWhile blankC).reverse = (r.reverse.dropWhile blankC).reverse := by simp [h]
theorem rdrop_stop (r : Tx) (c : UInt8) (h : blankC c = false) : ((r ++ [c]).reverse.dropWhile blankC).reverse = r ++ [c] := by simp [h]
theorem last_cases (l : Tx) : l = [] ∨ (∃ r c, l = r ++ [c] ∧ blankC c = false) ∨ (∃ r c, l = r ++ [c] ∧ blankC c = true) := by
  rcases List.eq_nil_or_concat l with rfl | ⟨r, c, rfl⟩
  · exact .inl rfl
  · cases hb : blankC c
    · exact .inr (.inl ⟨r, c, List.concat_eq_append, hb⟩)
    · exact .inr (.inr ⟨r, c, List.concat_eq_append, hb⟩)
set_option maxHeartbeats 1600000 in
theorem refTrim (s : Tx) (hs : s.length ≤ 9223372036854775807) (w : World) : Calls Tryz.prog 42 #[.string (tx s)] w fun e w' => e = .returned (.string (tx (trimT s))) ∧ w = w' := by
  have HT := hid (trim_comm s)
  generalize trimT s = T at *
  go_enter Tryz.func42, Tryz.ntmps42
  go_wp2_with fail
  go_loop [0] (fun v => ∃ l : Tx, v = .string (tx l) ∧ l.length ≤ 9223372036854775807 ∧ Hid (l.dropWhile blankC = s.dropWhile blankC)) strN
  case atStart => exact ⟨s, rfl, hs, rfl⟩
  case round =>
    clear hs
    obtain ⟨l, rfl, hl, HL⟩ := hrel
    have hc : l = [] ∨ (∃ c r, l = c :: r ∧ blankC c = false) ∨ (∃ c r, l = c :: r ∧ blankC c = true) := by
      cases l with
      | nil => exact .inl rfl
      | cons c r => cases hb : blankC c; exact .inr (.inl ⟨c, r, rfl, hb⟩); exact .inr (.inr ⟨c, r, rfl, hb⟩)
    rcases hc with rfl | ⟨c, r, rfl, hb⟩ | ⟨c, r, rfl, hb⟩
    · have HR := hid (show T = [] by rw [← HT.out, ← HL.out]; rfl)
      have hz : (tx []).size = 0 := rfl
      go_wp2_with fail
      go_loop [0] (fun v => ∃ l : Tx, v = .string (tx l) ∧ l.length ≤ 9223372036854775807 ∧ Hid ((l.reverse.dropWhile blankC).reverse = T)) strN
      case atStart => exact ⟨[], rfl, hl, by rw [HR.out]; rfl⟩
      case round =>
        clear hl HR HL
        obtain ⟨l, rfl, hl, HL⟩ := hrel
        rcases last_cases l with rfl | ⟨r, c, rfl, hb⟩ | ⟨r, c, rfl, hb⟩
        · have HR := hid (show T = [] by rw [← HL.out]; rfl)
          have hz : (tx []).size = 0 := rfl
          go_wp2_with fail
          go_ret
          exact ⟨ret_str (by rw [HR.out]), rfl⟩
        · have HR := hid (show r ++ [c] = T by rw [← HL.out, rdrop_stop r c hb])
          have HB := hid hb
          obtain ⟨k, hk⟩ : ∃ k, r.length = k := ⟨_, rfl⟩
          have hsz : (tx (r ++ [c])).size = k + 1 := by rw [tx_size]; simp [hk]
          have hk2 : k + 1 ≤ 9223372036854775807 := by rw [← hsz, tx_size]; exact hl
          have ix := run_ix (r ++ [c]) k c (by simp [← hk])
          clear hb hk hl
          generalize r ++ [c] = l at *
          go_wp2_with (go_at_call 43; refine (refBlank c _).mono ?_; rintro e w' ⟨rfl, rfl⟩; rw [HB.out])
          go_ret
          exact ⟨ret_str (by rw [HR.out]), rfl⟩
        · have HR := hid (show (r.reverse.dropWhile blankC).reverse = T by rw [← HL.out, rdrop_concat r c hb])
          have HB := hid hb
          obtain ⟨k, hk⟩ : ∃ k, r.length = k := ⟨_, rfl⟩
          have hsz : (tx (r ++ [c])).size = k + 1 := by rw [tx_size]; simp [hk]
          have hk2 : k + 1 ≤ 9223372036854775807 := by rw [← hsz, tx_size]; exact hl
          have ix := run_ix (r ++ [c]) k c (by simp [← hk])
          have sl : ∀ w, (Instr.sliceAt 9 (.string (tx (r ++ [c]))) none (some (.int .i64 k)) none).run Tryz.prog w = .ok (.string (tx r)) w := fun w => by
            have := run_strto (r ++ [c]) k (by simp; omega) w
            rwa [show (r ++ [c]).take k = r by rw [← hk]; simp] at this
          have HM := hid (show strN (.string (tx r)) < strN (.string (tx (r ++ [c]))) by rw [strN_tx, strN_tx]; simp)
          have HQ := hid (show r.length ≤ 9223372036854775807 by simp at hl; omega)
          clear hb hk hl
          generalize r ++ [c] = l at *
          go_wp2_with (go_at_call 43; refine (refBlank c _).mono ?_; rintro e w' ⟨rfl, rfl⟩; rw [HB.out])
          go_round
          case rel => exact ⟨r, rfl, HQ.out, HR.out⟩
          case measure => exact HM.out
    · have HR := hid (show ((c :: r).reverse.dropWhile blankC).reverse = T by rw [← HT.out, ← HL.out, List.dropWhile_cons, if_neg (by rw [hb]; simp)])
      have HB := hid hb
      clear hb
      have i0 := run_ixz (c :: r) c rfl
      obtain ⟨n, hn⟩ : ∃ n, (tx (c :: r)).size = n := ⟨_, rfl⟩
      have hn1 : 0 < n := by rw [← hn, tx_size]; simp
      go_wp2_with (go_at_call 43; refine (refBlank c _).mono ?_; rintro e w' ⟨rfl, rfl⟩; rw [HB.out])
      go_loop [0] (fun v => ∃ l : Tx, v = .string (tx l) ∧ l.length ≤ 9223372036854775807 ∧ Hid ((l.reverse.dropWhile blankC).reverse = T)) strN
      case atStart => exact ⟨_, rfl, hl, HR.out⟩
      case round =>
        clear hl HR HL
        obtain ⟨l, rfl, hl, HL⟩ := hrel
        rcases last_cases l with rfl | ⟨r, c, rfl, hb⟩ | ⟨r, c, rfl, hb⟩
        · have HR := hid (show T = [] by rw [← HL.out]; rfl)
          have hz : (tx []).size = 0 := rfl
          go_wp2_with fail
          go_ret
          exact ⟨ret_str (by rw [HR.out]), rfl⟩
        · have HR := hid (show r ++ [c] = T by rw [← HL.out, rdrop_stop r c hb])
          have HB := hid hb
          obtain ⟨k, hk⟩ : ∃ k, r.length = k := ⟨_, rfl⟩
          have hsz : (tx (r ++ [c])).size = k + 1 := by rw [tx_size]; simp [hk]
          have hk2 : k + 1 ≤ 9223372036854775807 := by rw [← hsz, tx_size]; exact hl
          have ix := run_ix (r ++ [c]) k c (by simp [← hk])
          clear hb hk hl
          generalize r ++ [c] = l at *
          go_wp2_with (go_at_call 43; refine (refBlank c _).mono ?_; rintro e w' ⟨rfl, rfl⟩; rw [HB.out])
          go_ret
          exact ⟨ret_str (by rw [HR.out]), rfl⟩
        · have HR := hid (show (r.reverse.dropWhile blankC).reverse = T by rw [← HL.out, rdrop_concat r c hb])
          have HB := hid hb
          obtain ⟨k, hk⟩ : ∃ k, r.length = k := ⟨_, rfl⟩
          have hsz : (tx (r ++ [c])).size = k + 1 := by rw [tx_size]; simp [hk]
          have hk2 : k + 1 ≤ 9223372036854775807 := by rw [← hsz, tx_size]; exact hl
          have ix := run_ix (r ++ [c]) k c (by simp [← hk])
          have sl : ∀ w, (Instr.sliceAt 9 (.string (tx (r ++ [c]))) none (some (.int .i64 k)) none).run Tryz.prog w = .ok (.string (tx r)) w := fun w => by
            have := run_strto (r ++ [c]) k (by simp; omega) w
            rwa [show (r ++ [c]).take k = r by rw [← hk]; simp] at this
          have HM := hid (show strN (.string (tx r)) < strN (.string (tx (r ++ [c]))) by rw [strN_tx, strN_tx]; simp)
          have HQ := hid (show r.length ≤ 9223372036854775807 by simp at hl; omega)
          clear hb hk hl
          generalize r ++ [c] = l at *
          go_wp2_with (go_at_call 43; refine (refBlank c _).mono ?_; rintro e w' ⟨rfl, rfl⟩; rw [HB.out])
          go_round
          case rel => exact ⟨r, rfl, HQ.out, HR.out⟩
          case measure => exact HM.out
    · have HR := hid (show r.dropWhile blankC = s.dropWhile blankC by rw [← HL.out, List.dropWhile_cons, if_pos hb])
      have HB := hid hb
      clear hb
      have i0 := run_ixz (c :: r) c rfl
      have sl : ∀ w, (Instr.sliceAt 9 (.string (tx (c :: r))) (some (.int .i64 1)) none none).run Tryz.prog w = .ok (.string (tx r)) w := run_strfrom (c :: r) 1 (by simp)
      obtain ⟨n, hn⟩ : ∃ n, (tx (c :: r)).size = n := ⟨_, rfl⟩
      have hn1 : 0 < n := by rw [← hn, tx_size]; simp
      go_wp2_with (go_at_call 43; refine (refBlank c _).mono ?_; rintro e w' ⟨rfl, rfl⟩; rw [HB.out])
      go_round
      case rel => exact ⟨r, rfl, by simp at hl; omega, HR.out⟩
      case measure => rw [strN_tx, strN_tx]; simp
end Go.Proofs.YtigimkgmghjgoaaGreatDoor

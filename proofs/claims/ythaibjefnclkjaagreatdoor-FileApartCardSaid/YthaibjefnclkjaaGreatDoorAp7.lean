/- The walks of letters, digits and names of locations. Conditions: lengths that an int holds. -/
import Derived.Test.YthaibjefnclkjaaGreatDoorAp3
set_option linter.unusedVariables false
set_option maxHeartbeats 1600000
namespace Go.Proofs.YthaibjefnclkjaaGreatDoor
open Go.RowKit
theorem letterX_nat (c:UInt8):letterC c=((decide (97≤c.toNat)&&decide (c.toNat≤122)) || (decide (65≤c.toNat)&&decide (c.toNat≤90))):=by
 unfold letterC;simp only [UInt8.le_iff_toNat_le];rfl
theorem digitX_nat (c:UInt8):digitC c=(decide (48≤c.toNat)&&decide (c.toNat≤57)):=by
 unfold digitC;simp only [UInt8.le_iff_toNat_le];rfl
theorem nameX_nat (c:UInt8):nameC c=(letterC c || digitC c || decide (c.toNat=95)):=by
 unfold nameC;congr 1
 rw [Bool.eq_iff_iff];simp only [beq_iff_eq,decide_eq_true_eq]
 exact ⟨fun h=>by rw [h];rfl,fun h=>UInt8.toNat_inj.1 h⟩
theorem condLetter (c:UInt8) (w:World):Calls Tryz.prog 202 #[.int .u8 c.toNat] w fun e w'=>e = .returned (.bool (letterC c))∧w=w':=by
 have hlt:c.toNat<256:=c.toNat_lt
 rw [letterX_nat]
 generalize c.toNat=n at *
 have hp:n<65∨(65≤n∧n≤90)∨(91≤n∧n≤96)∨(97≤n∧n≤122)∨123≤n:=by omega
 rcases hp with h|⟨h,h'⟩|⟨h,h'⟩|⟨h,h'⟩|h
 all_goals
  go_enter Tryz.func202,Tryz.ntmps202
  go_wp2
  go_ret
  exact ⟨ret_bool (by first|(rw [Bool.eq_iff_iff];simp <;> omega)|(simp <;> omega)),rfl⟩
theorem condDigit (c:UInt8) (w:World):Calls Tryz.prog 203 #[.int .u8 c.toNat] w fun e w'=>e = .returned (.bool (digitC c))∧w=w':=by
 have hlt:c.toNat<256:=c.toNat_lt
 rw [digitX_nat]
 generalize c.toNat=n at *
 have hp:n<48∨(48≤n∧n≤57)∨58≤n:=by omega
 rcases hp with h|⟨h,h'⟩|h
 all_goals
  go_enter Tryz.func203,Tryz.ntmps203
  go_wp2
  go_ret
  exact ⟨ret_bool (by first|(rw [Bool.eq_iff_iff];simp <;> omega)|(simp <;> omega)),rfl⟩
theorem r08Letter (c:UInt8) (w:World):Calls Tryz.prog 213 #[.int .u8 c.toNat] w fun e w'=>e = .returned (.bool (letterC c))∧w=w':=by
 have hlt:c.toNat<256:=c.toNat_lt
 rw [letterX_nat]
 generalize c.toNat=n at *
 have hp:n<65∨(65≤n∧n≤90)∨(91≤n∧n≤96)∨(97≤n∧n≤122)∨123≤n:=by omega
 rcases hp with h|⟨h,h'⟩|⟨h,h'⟩|⟨h,h'⟩|h
 all_goals
  go_enter Tryz.func213,Tryz.ntmps213
  go_wp2
  go_ret
  exact ⟨ret_bool (by first|(rw [Bool.eq_iff_iff];simp <;> omega)|(simp <;> omega)),rfl⟩
theorem r08Digit (c:UInt8) (w:World):Calls Tryz.prog 214 #[.int .u8 c.toNat] w fun e w'=>e = .returned (.bool (digitC c))∧w=w':=by
 have hlt:c.toNat<256:=c.toNat_lt
 rw [digitX_nat]
 generalize c.toNat=n at *
 have hp:n<48∨(48≤n∧n≤57)∨58≤n:=by omega
 rcases hp with h|⟨h,h'⟩|h
 all_goals
  go_enter Tryz.func214,Tryz.ntmps214
  go_wp2
  go_ret
  exact ⟨ret_bool (by first|(rw [Bool.eq_iff_iff];simp <;> omega)|(simp <;> omega)),rfl⟩
theorem r09Letter (c:UInt8) (w:World):Calls Tryz.prog 132 #[.int .u8 c.toNat] w fun e w'=>e = .returned (.bool (letterC c))∧w=w':=by
 have hlt:c.toNat<256:=c.toNat_lt
 rw [letterX_nat]
 generalize c.toNat=n at *
 have hp:n<65∨(65≤n∧n≤90)∨(91≤n∧n≤96)∨(97≤n∧n≤122)∨123≤n:=by omega
 rcases hp with h|⟨h,h'⟩|⟨h,h'⟩|⟨h,h'⟩|h
 all_goals
  go_enter Tryz.func132,Tryz.ntmps132
  go_wp2
  go_ret
  exact ⟨ret_bool (by first|(rw [Bool.eq_iff_iff];simp <;> omega)|(simp <;> omega)),rfl⟩
theorem r09Digit (c:UInt8) (w:World):Calls Tryz.prog 133 #[.int .u8 c.toNat] w fun e w'=>e = .returned (.bool (digitC c))∧w=w':=by
 have hlt:c.toNat<256:=c.toNat_lt
 rw [digitX_nat]
 generalize c.toNat=n at *
 have hp:n<48∨(48≤n∧n≤57)∨58≤n:=by omega
 rcases hp with h|⟨h,h'⟩|h
 all_goals
  go_enter Tryz.func133,Tryz.ntmps133
  go_wp2
  go_ret
  exact ⟨ret_bool (by first|(rw [Bool.eq_iff_iff];simp <;> omega)|(simp <;> omega)),rfl⟩
theorem condNamed (l : Tx) (hl : l.length ≤ 9223372036854775807) (w : World) : Calls Tryz.prog 191 #[.string (tx l)] w fun e w' => e = .returned (.bool (nameB l)) ∧ w = w' := by
  have hs := tx_size l
  cases l with
  | nil =>
    have hs : (tx []).size = 0 := rfl
    go_enter Tryz.func191, Tryz.ntmps191
    go_wp2_with fail
    go_ret
    exact ⟨rfl, rfl⟩
  | cons c r =>
    obtain ⟨n, hn⟩ : ∃ n, (tx (c :: r)).size = n := ⟨_, rfl⟩
    have hn1 : 1 ≤ n := by rw [← hn, hs]; simp
    have hnr : n = r.length + 1 := by rw [← hn, hs]; simp
    have hz : ((n : Int) == 0) = false := by simp; omega
    clear hs hl
    by_cases h32 : n ≤ 32
    · have i0 := run_ixz (c :: r) c rfl
      by_cases hc : letterC c = true
      · have HC := hid hc
        have HR := hid hnr
        clear hc hnr
        go_enter Tryz.func191, Tryz.ntmps191
        go_wp2_with (go_at_call 202; refine (condLetter c _).mono ?_; rintro e w' ⟨rfl, rfl⟩; rw [HC.out])
        go_loop [21] (fun i => ∃ k : Nat, k ≤ n ∧ i = .int .i64 k ∧ Hid (∀ (i : Nat) (x : UInt8), i < k → (c :: r)[i]? = some x → nameC x = true)) (fun i => n - (intOf i).toNat)
        case atStart => exact ⟨0, by omega, rfl, fun i x hi => absurd hi (Nat.not_lt_zero i)⟩
        case round =>
          obtain ⟨k, hk, rfl, HM⟩ := hrel
          by_cases hlt : k < n
          · obtain ⟨x, hx⟩ : ∃ x, (c :: r)[k]? = some x := ⟨_, List.getElem?_eq_getElem (by have := HR.out; simp; omega)⟩
            have ix := run_ix (c :: r) k x hx
            have HX := hid hx
            clear hx
            have HM2 : nameC x = true → Hid (∀ (i : Nat) (y : UInt8), i < k + 1 → (c :: r)[i]? = some y → nameC y = true) := fun hx' i y hi hy => by
              rcases Nat.lt_succ_iff_lt_or_eq.1 hi with h | h
              · exact HM.out i y h hy
              · subst h; rw [HX.out] at hy; cases hy; exact hx'
            have HM2 := hid HM2
            by_cases h1 : letterC x = true
            · have H1 := hid h1
              have HN := hid (HM2.out (by unfold nameC; rw [h1]; rfl))
              clear h1
              go_wp2_with (go_at_call 202; refine (condLetter x _).mono ?_; rintro e w' ⟨rfl, rfl⟩; rw [H1.out])
              go_round
              case rel => exact ⟨k + 1, by omega, by go_num, HN.out⟩
              case measure => simp [intOf]; omega
            · have H1 := hid (Bool.eq_false_iff.2 h1)
              clear h1
              by_cases h2 : digitC x = true
              · have H2 := hid h2
                have HN := hid (HM2.out (by unfold nameC; rw [h2]; simp))
                clear h2
                go_wp2_with (first | (go_at_call 202; refine (condLetter x _).mono ?_; rintro e w' ⟨rfl, rfl⟩; rw [H1.out]) | (go_at_call 203; refine (condDigit x _).mono ?_; rintro e w' ⟨rfl, rfl⟩; rw [H2.out]))
                go_round
                case rel => exact ⟨k + 1, by omega, by go_num, HN.out⟩
                case measure => simp [intOf]; omega
              · have H2 := hid (Bool.eq_false_iff.2 h2)
                clear h2
                by_cases h3 : x = 95
                · subst h3
                  have HN := hid (HM2.out (by decide))
                  have z3 : (((95 : UInt8).toNat : Int) != 95) = false := by decide
                  go_wp2_with (first | (go_at_call 202; refine (condLetter 95 _).mono ?_; rintro e w' ⟨rfl, rfl⟩; rw [H1.out]) | (go_at_call 203; refine (condDigit 95 _).mono ?_; rintro e w' ⟨rfl, rfl⟩; rw [H2.out]))
                  go_round
                  case rel => exact ⟨k + 1, by omega, by go_num, HN.out⟩
                  case measure => simp [intOf]; omega
                · have z3 : ((x.toNat : Int) != 95) = true := u8_ne x 95 h3
                  have HF := hid (nameB_step HX.out (by unfold nameC; rw [H1.out, H2.out]; simpa using h3))
                  clear h3
                  go_wp2_with (first | (go_at_call 202; refine (condLetter x _).mono ?_; rintro e w' ⟨rfl, rfl⟩; rw [H1.out]) | (go_at_call 203; refine (condDigit x _).mono ?_; rintro e w' ⟨rfl, rfl⟩; rw [H2.out]))
                  go_ret
                  exact ⟨ret_bool HF.out.symm, rfl⟩
          · have HF := hid (nameB_done (c := c) (r := r) (by have := HR.out; omega) HC.out (fun i x hi => HM.out i x (by
              have h1 := (List.getElem?_eq_some_iff.1 hi).1
              have := HR.out
              simp at h1; omega) hi))
            go_wp2_with fail
            go_ret
            exact ⟨ret_bool HF.out.symm, rfl⟩
      · have HC := hid (Bool.eq_false_iff.2 hc)
        have HF := hid (show nameB (c :: r) = false by rw [nameB_cons, HC.out]; simp)
        clear hc hnr
        go_enter Tryz.func191, Tryz.ntmps191
        go_wp2_with (go_at_call 202; refine (condLetter c _).mono ?_; rintro e w' ⟨rfl, rfl⟩; rw [HC.out])
        go_ret
        exact ⟨ret_bool HF.out.symm, rfl⟩
    · have HF := hid (show nameB (c :: r) = false by rw [nameB_cons, decide_eq_false (by omega)]; simp)
      clear hnr
      go_enter Tryz.func191, Tryz.ntmps191
      go_wp2_with fail
      go_ret
      exact ⟨ret_bool HF.out.symm, rfl⟩
theorem r08Named (l : Tx) (hl : l.length ≤ 9223372036854775807) (w : World) : Calls Tryz.prog 198 #[.string (tx l)] w fun e w' => e = .returned (.bool (nameB l)) ∧ w = w' := by
  have hs := tx_size l
  cases l with
  | nil =>
    have hs : (tx []).size = 0 := rfl
    go_enter Tryz.func198, Tryz.ntmps198
    go_wp2_with fail
    go_ret
    exact ⟨rfl, rfl⟩
  | cons c r =>
    obtain ⟨n, hn⟩ : ∃ n, (tx (c :: r)).size = n := ⟨_, rfl⟩
    have hn1 : 1 ≤ n := by rw [← hn, hs]; simp
    have hnr : n = r.length + 1 := by rw [← hn, hs]; simp
    have hz : ((n : Int) == 0) = false := by simp; omega
    clear hs hl
    by_cases h32 : n ≤ 32
    · have i0 := run_ixz (c :: r) c rfl
      by_cases hc : letterC c = true
      · have HC := hid hc
        have HR := hid hnr
        clear hc hnr
        go_enter Tryz.func198, Tryz.ntmps198
        go_wp2_with (go_at_call 213; refine (r08Letter c _).mono ?_; rintro e w' ⟨rfl, rfl⟩; rw [HC.out])
        go_loop [3] (fun i => ∃ k : Nat, k ≤ n ∧ i = .int .i64 k ∧ Hid (∀ (i : Nat) (x : UInt8), i < k → (c :: r)[i]? = some x → nameC x = true)) (fun i => n - (intOf i).toNat)
        case atStart => exact ⟨1, by omega, rfl, fun i x hi hx => by
          obtain rfl : i = 0 := by omega
          cases hx; unfold nameC; rw [HC.out]; rfl⟩
        case round =>
          obtain ⟨k, hk, rfl, HM⟩ := hrel
          by_cases hlt : k < n
          · obtain ⟨x, hx⟩ : ∃ x, (c :: r)[k]? = some x := ⟨_, List.getElem?_eq_getElem (by have := HR.out; simp; omega)⟩
            have ix := run_ix (c :: r) k x hx
            have HX := hid hx
            clear hx
            have HM2 : nameC x = true → Hid (∀ (i : Nat) (y : UInt8), i < k + 1 → (c :: r)[i]? = some y → nameC y = true) := fun hx' i y hi hy => by
              rcases Nat.lt_succ_iff_lt_or_eq.1 hi with h | h
              · exact HM.out i y h hy
              · subst h; rw [HX.out] at hy; cases hy; exact hx'
            have HM2 := hid HM2
            by_cases h1 : letterC x = true
            · have H1 := hid h1
              have HN := hid (HM2.out (by unfold nameC; rw [h1]; rfl))
              clear h1
              go_wp2_with (go_at_call 213; refine (r08Letter x _).mono ?_; rintro e w' ⟨rfl, rfl⟩; rw [H1.out])
              go_round
              case rel => exact ⟨k + 1, by omega, by go_num, HN.out⟩
              case measure => simp [intOf]; omega
            · have H1 := hid (Bool.eq_false_iff.2 h1)
              clear h1
              by_cases h2 : digitC x = true
              · have H2 := hid h2
                have HN := hid (HM2.out (by unfold nameC; rw [h2]; simp))
                clear h2
                go_wp2_with (first | (go_at_call 213; refine (r08Letter x _).mono ?_; rintro e w' ⟨rfl, rfl⟩; rw [H1.out]) | (go_at_call 214; refine (r08Digit x _).mono ?_; rintro e w' ⟨rfl, rfl⟩; rw [H2.out]))
                go_round
                case rel => exact ⟨k + 1, by omega, by go_num, HN.out⟩
                case measure => simp [intOf]; omega
              · have H2 := hid (Bool.eq_false_iff.2 h2)
                clear h2
                by_cases h3 : x = 95
                · subst h3
                  have HN := hid (HM2.out (by decide))
                  have z3 : (((95 : UInt8).toNat : Int) != 95) = false := by decide
                  go_wp2_with (first | (go_at_call 213; refine (r08Letter 95 _).mono ?_; rintro e w' ⟨rfl, rfl⟩; rw [H1.out]) | (go_at_call 214; refine (r08Digit 95 _).mono ?_; rintro e w' ⟨rfl, rfl⟩; rw [H2.out]))
                  go_round
                  case rel => exact ⟨k + 1, by omega, by go_num, HN.out⟩
                  case measure => simp [intOf]; omega
                · have z3 : ((x.toNat : Int) != 95) = true := u8_ne x 95 h3
                  have HF := hid (nameB_step HX.out (by unfold nameC; rw [H1.out, H2.out]; simpa using h3))
                  clear h3
                  go_wp2_with (first | (go_at_call 213; refine (r08Letter x _).mono ?_; rintro e w' ⟨rfl, rfl⟩; rw [H1.out]) | (go_at_call 214; refine (r08Digit x _).mono ?_; rintro e w' ⟨rfl, rfl⟩; rw [H2.out]))
                  go_ret
                  exact ⟨ret_bool HF.out.symm, rfl⟩
          · have HF := hid (nameB_done (c := c) (r := r) (by have := HR.out; omega) HC.out (fun i x hi => HM.out i x (by
              have h1 := (List.getElem?_eq_some_iff.1 hi).1
              have := HR.out
              simp at h1; omega) hi))
            go_wp2_with fail
            go_ret
            exact ⟨ret_bool HF.out.symm, rfl⟩
      · have HC := hid (Bool.eq_false_iff.2 hc)
        have HF := hid (show nameB (c :: r) = false by rw [nameB_cons, HC.out]; simp)
        clear hc hnr
        go_enter Tryz.func198, Tryz.ntmps198
        go_wp2_with (go_at_call 213; refine (r08Letter c _).mono ?_; rintro e w' ⟨rfl, rfl⟩; rw [HC.out])
        go_ret
        exact ⟨ret_bool HF.out.symm, rfl⟩
    · have HF := hid (show nameB (c :: r) = false by rw [nameB_cons, decide_eq_false (by omega)]; simp)
      clear hnr
      go_enter Tryz.func198, Tryz.ntmps198
      go_wp2_with fail
      go_ret
      exact ⟨ret_bool HF.out.symm, rfl⟩
theorem r09Named (l : Tx) (hl : l.length ≤ 9223372036854775807) (w : World) : Calls Tryz.prog 99 #[.string (tx l)] w fun e w' => e = .returned (.bool (nameB l)) ∧ w = w' := by
  have hs := tx_size l
  cases l with
  | nil =>
    have hs : (tx []).size = 0 := rfl
    go_enter Tryz.func99, Tryz.ntmps99
    go_wp2_with fail
    go_ret
    exact ⟨rfl, rfl⟩
  | cons c r =>
    obtain ⟨n, hn⟩ : ∃ n, (tx (c :: r)).size = n := ⟨_, rfl⟩
    have hn1 : 1 ≤ n := by rw [← hn, hs]; simp
    have hnr : n = r.length + 1 := by rw [← hn, hs]; simp
    have hz : ((n : Int) == 0) = false := by simp; omega
    clear hs hl
    by_cases h32 : n ≤ 32
    · have i0 := run_ixz (c :: r) c rfl
      by_cases hc : letterC c = true
      · have HC := hid hc
        have HR := hid hnr
        clear hc hnr
        go_enter Tryz.func99, Tryz.ntmps99
        go_wp2_with (go_at_call 132; refine (r09Letter c _).mono ?_; rintro e w' ⟨rfl, rfl⟩; rw [HC.out])
        go_loop [3] (fun i => ∃ k : Nat, k ≤ n ∧ i = .int .i64 k ∧ Hid (∀ (i : Nat) (x : UInt8), i < k → (c :: r)[i]? = some x → nameC x = true)) (fun i => n - (intOf i).toNat)
        case atStart => exact ⟨0, by omega, rfl, fun i x hi => absurd hi (Nat.not_lt_zero i)⟩
        case round =>
          obtain ⟨k, hk, rfl, HM⟩ := hrel
          by_cases hlt : k < n
          · obtain ⟨x, hx⟩ : ∃ x, (c :: r)[k]? = some x := ⟨_, List.getElem?_eq_getElem (by have := HR.out; simp; omega)⟩
            have ix := run_ix (c :: r) k x hx
            have HX := hid hx
            clear hx
            have HM2 : nameC x = true → Hid (∀ (i : Nat) (y : UInt8), i < k + 1 → (c :: r)[i]? = some y → nameC y = true) := fun hx' i y hi hy => by
              rcases Nat.lt_succ_iff_lt_or_eq.1 hi with h | h
              · exact HM.out i y h hy
              · subst h; rw [HX.out] at hy; cases hy; exact hx'
            have HM2 := hid HM2
            by_cases h1 : letterC x = true
            · have H1 := hid h1
              have HN := hid (HM2.out (by unfold nameC; rw [h1]; rfl))
              clear h1
              go_wp2_with (go_at_call 132; refine (r09Letter x _).mono ?_; rintro e w' ⟨rfl, rfl⟩; rw [H1.out])
              go_round
              case rel => exact ⟨k + 1, by omega, by go_num, HN.out⟩
              case measure => simp [intOf]; omega
            · have H1 := hid (Bool.eq_false_iff.2 h1)
              clear h1
              by_cases h2 : digitC x = true
              · have H2 := hid h2
                have HN := hid (HM2.out (by unfold nameC; rw [h2]; simp))
                clear h2
                go_wp2_with (first | (go_at_call 132; refine (r09Letter x _).mono ?_; rintro e w' ⟨rfl, rfl⟩; rw [H1.out]) | (go_at_call 133; refine (r09Digit x _).mono ?_; rintro e w' ⟨rfl, rfl⟩; rw [H2.out]))
                go_round
                case rel => exact ⟨k + 1, by omega, by go_num, HN.out⟩
                case measure => simp [intOf]; omega
              · have H2 := hid (Bool.eq_false_iff.2 h2)
                clear h2
                by_cases h3 : x = 95
                · subst h3
                  have HN := hid (HM2.out (by decide))
                  have z3 : (((95 : UInt8).toNat : Int) != 95) = false := by decide
                  go_wp2_with (first | (go_at_call 132; refine (r09Letter 95 _).mono ?_; rintro e w' ⟨rfl, rfl⟩; rw [H1.out]) | (go_at_call 133; refine (r09Digit 95 _).mono ?_; rintro e w' ⟨rfl, rfl⟩; rw [H2.out]))
                  go_round
                  case rel => exact ⟨k + 1, by omega, by go_num, HN.out⟩
                  case measure => simp [intOf]; omega
                · have z3 : ((x.toNat : Int) != 95) = true := u8_ne x 95 h3
                  have HF := hid (nameB_step HX.out (by unfold nameC; rw [H1.out, H2.out]; simpa using h3))
                  clear h3
                  go_wp2_with (first | (go_at_call 132; refine (r09Letter x _).mono ?_; rintro e w' ⟨rfl, rfl⟩; rw [H1.out]) | (go_at_call 133; refine (r09Digit x _).mono ?_; rintro e w' ⟨rfl, rfl⟩; rw [H2.out]))
                  go_ret
                  exact ⟨ret_bool HF.out.symm, rfl⟩
          · have HF := hid (nameB_done (c := c) (r := r) (by have := HR.out; omega) HC.out (fun i x hi => HM.out i x (by
              have h1 := (List.getElem?_eq_some_iff.1 hi).1
              have := HR.out
              simp at h1; omega) hi))
            go_wp2_with fail
            go_ret
            exact ⟨ret_bool HF.out.symm, rfl⟩
      · have HC := hid (Bool.eq_false_iff.2 hc)
        have HF := hid (show nameB (c :: r) = false by rw [nameB_cons, HC.out]; simp)
        clear hc hnr
        go_enter Tryz.func99, Tryz.ntmps99
        go_wp2_with (go_at_call 132; refine (r09Letter c _).mono ?_; rintro e w' ⟨rfl, rfl⟩; rw [HC.out])
        go_ret
        exact ⟨ret_bool HF.out.symm, rfl⟩
    · have HF := hid (show nameB (c :: r) = false by rw [nameB_cons, decide_eq_false (by omega)]; simp)
      clear hnr
      go_enter Tryz.func99, Tryz.ntmps99
      go_wp2_with fail
      go_ret
      exact ⟨ret_bool HF.out.symm, rfl⟩
theorem intelNamed (l : Tx) (hl : l.length ≤ 9223372036854775807) (w : World) : Calls Tryz.prog 93 #[.string (tx l)] w fun e w' => e = .returned (.bool (nameB l)) ∧ w = w' := by
  have hs := tx_size l
  cases l with
  | nil =>
    have hs : (tx []).size = 0 := rfl
    go_enter Tryz.func93, Tryz.ntmps93
    go_wp2_with fail
    go_ret
    exact ⟨rfl, rfl⟩
  | cons c r =>
    obtain ⟨n, hn⟩ : ∃ n, (tx (c :: r)).size = n := ⟨_, rfl⟩
    have hn1 : 1 ≤ n := by rw [← hn, hs]; simp
    have hnr : n = r.length + 1 := by rw [← hn, hs]; simp
    clear hs hl
    by_cases h32 : n ≤ 32
    · have i0 := run_ixz (c :: r) c rfl
      have HR := hid hnr
      clear hnr
      go_enter Tryz.func93, Tryz.ntmps93
      go_wp2_with fail
      go_loop [3] (fun i => ∃ k : Nat, k ≤ n ∧ i = .int .i64 k ∧ Hid (∀ (i : Nat) (x : UInt8), i < k → (c :: r)[i]? = some x → nameC x = true) ∧ Hid (0 < k → letterC c = true)) (fun i => n - (intOf i).toNat)
      case atStart => exact ⟨0, by omega, rfl, fun i x hi => absurd hi (Nat.not_lt_zero i), fun h => absurd h (Nat.lt_irrefl 0)⟩
      case round =>
        obtain ⟨k, hk, rfl, HM, HK⟩ := hrel
        by_cases hlt : k < n
        · by_cases hk0 : k = 0
          · subst hk0
            have hlt' : c.toNat < 256 := c.toNat_lt
            obtain ⟨m, hm⟩ : ∃ m, c.toNat = m := ⟨_, rfl⟩
            have HC := hid (letterX_nat c)
            rw [hm] at i0 hlt' HC
            have HY := hid (show letterC c = true → Hid (∀ (i : Nat) (x : UInt8), i < 1 → (c :: r)[i]? = some x → nameC x = true) from fun h i x hi hx => by
              obtain rfl : i = 0 := by omega
              cases hx; unfold nameC; rw [h]; rfl)
            have HF := hid (show letterC c = false → nameB (c :: r) = false from fun h => by rw [nameB_cons, h]; simp)
            have hlt0 : 0 < n := by omega
            clear hm HM HK hk hlt
            have hp : m < 65 ∨ (65 ≤ m ∧ m ≤ 90) ∨ (91 ≤ m ∧ m ≤ 96) ∨ (97 ≤ m ∧ m ≤ 122) ∨ 123 ≤ m := by omega
            rcases hp with h | ⟨h, h'⟩ | ⟨h, h'⟩ | ⟨h, h'⟩ | h
            all_goals
              (try (have z122 : (!decide ((m : Int) ≤ 122)) = true := by simp; omega))
              (try (have z90 : (!decide ((m : Int) ≤ 90)) = true := by simp; omega))
              go_wp2_with fail
              first
              | (go_round
                 case rel => exact ⟨1, by omega, by go_num, HY.out (by rw [HC.out]; simp <;> omega), hid fun _ => by rw [HC.out]; simp <;> omega⟩
                 case measure => simp [intOf]; omega)
              | (go_ret
                 exact ⟨ret_bool (HF.out (by rw [HC.out]; simp <;> omega)).symm, rfl⟩)
          · have hk1 : 0 < k := by omega
            obtain ⟨x, hx⟩ : ∃ x, (c :: r)[k]? = some x := ⟨_, List.getElem?_eq_getElem (by have := HR.out; simp; omega)⟩
            have ix := run_ix (c :: r) k x hx
            have hlt' : x.toNat < 256 := x.toNat_lt
            obtain ⟨m, hm⟩ : ∃ m, x.toNat = m := ⟨_, rfl⟩
            have HC := hid (show nameC x = (((decide (97 ≤ m) && decide (m ≤ 122)) || (decide (65 ≤ m) && decide (m ≤ 90))) || (decide (48 ≤ m) && decide (m ≤ 57)) || decide (m = 95)) by rw [nameX_nat, letterX_nat, digitX_nat, hm])
            rw [hm] at ix hlt'
            have HF := hid (fun h => nameB_step (l := c :: r) (k := k) (c := x) hx h)
            have HM2 : nameC x = true → Hid (∀ (i : Nat) (y : UInt8), i < k + 1 → (c :: r)[i]? = some y → nameC y = true) := fun hx' i y hi hy => by
              rcases Nat.lt_succ_iff_lt_or_eq.1 hi with h | h
              · exact HM.out i y h hy
              · subst h; rw [hx] at hy; cases hy; exact hx'
            have HM2 := hid HM2
            have HL := hid (HK.out hk1)
            clear hm hx HM HK hk0 i0
            have hp : m < 48 ∨ (48 ≤ m ∧ m ≤ 57) ∨ (58 ≤ m ∧ m ≤ 64) ∨ (65 ≤ m ∧ m ≤ 90) ∨ (91 ≤ m ∧ m ≤ 94) ∨ m = 95 ∨ m = 96 ∨ (97 ≤ m ∧ m ≤ 122) ∨ 123 ≤ m := by omega
            rcases hp with h | ⟨h, h'⟩ | ⟨h, h'⟩ | ⟨h, h'⟩ | ⟨h, h'⟩ | h | h | ⟨h, h'⟩ | h
            all_goals
              (try (have z122 : (!decide ((m : Int) ≤ 122)) = true := by simp; omega))
              (try (have z90 : (!decide ((m : Int) ≤ 90)) = true := by simp; omega))
              (try (have z57 : (!decide ((m : Int) ≤ 57)) = true := by simp; omega))
              (try (have z95 : ((m : Int) == 95) = false := by simp; omega))
              (try subst h)
              go_wp2_with fail
              first
              | (go_round
                 case rel => exact ⟨k + 1, by omega, by go_num, HM2.out (by rw [HC.out]; simp <;> omega), fun _ => HL.out⟩
                 case measure => simp [intOf]; omega)
              | (go_ret
                 exact ⟨ret_bool (HF.out (by rw [HC.out]; simp <;> omega)).symm, rfl⟩)
        · have HF := hid (nameB_done (c := c) (r := r) (by have := HR.out; omega) (HK.out (by omega)) (fun i x hi => HM.out i x (by
            have h1 := (List.getElem?_eq_some_iff.1 hi).1
            have := HR.out
            simp at h1; omega) hi))
          go_wp2_with fail
          go_ret
          exact ⟨ret_bool HF.out.symm, rfl⟩
    · have HF := hid (show nameB (c :: r) = false by rw [nameB_cons, decide_eq_false (by omega)]; simp)
      clear hnr
      go_enter Tryz.func93, Tryz.ntmps93
      go_wp2_with fail
      go_ret
      exact ⟨ret_bool HF.out.symm, rfl⟩
theorem fileNamed (l : Tx) (hl : l.length ≤ 9223372036854775807) (w : World) : Calls Tryz.prog 125 #[.string (tx l)] w fun e w' => e = .returned (.bool (nameB l)) ∧ w = w' := by
  have hs := tx_size l
  cases l with
  | nil =>
    have hs : (tx []).size = 0 := rfl
    go_enter Tryz.func125, Tryz.ntmps125
    go_wp2_with fail
    go_ret
    exact ⟨rfl, rfl⟩
  | cons c r =>
    obtain ⟨n, hn⟩ : ∃ n, (tx (c :: r)).size = n := ⟨_, rfl⟩
    have hn1 : 1 ≤ n := by rw [← hn, hs]; simp
    have hnr : n = r.length + 1 := by rw [← hn, hs]; simp
    clear hs hl
    by_cases h32 : n ≤ 32
    · have i0 := run_ixz (c :: r) c rfl
      have HR := hid hnr
      clear hnr
      go_enter Tryz.func125, Tryz.ntmps125
      go_wp2_with fail
      go_loop [3] (fun i => ∃ k : Nat, k ≤ n ∧ i = .int .i64 k ∧ Hid (∀ (i : Nat) (x : UInt8), i < k → (c :: r)[i]? = some x → nameC x = true) ∧ Hid (0 < k → letterC c = true)) (fun i => n - (intOf i).toNat)
      case atStart => exact ⟨0, by omega, rfl, fun i x hi => absurd hi (Nat.not_lt_zero i), fun h => absurd h (Nat.lt_irrefl 0)⟩
      case round =>
        obtain ⟨k, hk, rfl, HM, HK⟩ := hrel
        by_cases hlt : k < n
        · by_cases hk0 : k = 0
          · subst hk0
            have hlt' : c.toNat < 256 := c.toNat_lt
            obtain ⟨m, hm⟩ : ∃ m, c.toNat = m := ⟨_, rfl⟩
            have HC := hid (letterX_nat c)
            rw [hm] at i0 hlt' HC
            have HY := hid (show letterC c = true → Hid (∀ (i : Nat) (x : UInt8), i < 1 → (c :: r)[i]? = some x → nameC x = true) from fun h i x hi hx => by
              obtain rfl : i = 0 := by omega
              cases hx; unfold nameC; rw [h]; rfl)
            have HF := hid (show letterC c = false → nameB (c :: r) = false from fun h => by rw [nameB_cons, h]; simp)
            have hlt0 : 0 < n := by omega
            clear hm HM HK hk hlt
            have hp : m < 65 ∨ (65 ≤ m ∧ m ≤ 90) ∨ (91 ≤ m ∧ m ≤ 96) ∨ (97 ≤ m ∧ m ≤ 122) ∨ 123 ≤ m := by omega
            rcases hp with h | ⟨h, h'⟩ | ⟨h, h'⟩ | ⟨h, h'⟩ | h
            all_goals
              (try (have z122 : (!decide ((m : Int) ≤ 122)) = true := by simp; omega))
              (try (have z90 : (!decide ((m : Int) ≤ 90)) = true := by simp; omega))
              go_wp2_with fail
              first
              | (go_round
                 case rel => exact ⟨1, by omega, by go_num, HY.out (by rw [HC.out]; simp <;> omega), hid fun _ => by rw [HC.out]; simp <;> omega⟩
                 case measure => simp [intOf]; omega)
              | (go_ret
                 exact ⟨ret_bool (HF.out (by rw [HC.out]; simp <;> omega)).symm, rfl⟩)
          · have hk1 : 0 < k := by omega
            obtain ⟨x, hx⟩ : ∃ x, (c :: r)[k]? = some x := ⟨_, List.getElem?_eq_getElem (by have := HR.out; simp; omega)⟩
            have ix := run_ix (c :: r) k x hx
            have hlt' : x.toNat < 256 := x.toNat_lt
            obtain ⟨m, hm⟩ : ∃ m, x.toNat = m := ⟨_, rfl⟩
            have HC := hid (show nameC x = (((decide (97 ≤ m) && decide (m ≤ 122)) || (decide (65 ≤ m) && decide (m ≤ 90))) || (decide (48 ≤ m) && decide (m ≤ 57)) || decide (m = 95)) by rw [nameX_nat, letterX_nat, digitX_nat, hm])
            rw [hm] at ix hlt'
            have HF := hid (fun h => nameB_step (l := c :: r) (k := k) (c := x) hx h)
            have HM2 : nameC x = true → Hid (∀ (i : Nat) (y : UInt8), i < k + 1 → (c :: r)[i]? = some y → nameC y = true) := fun hx' i y hi hy => by
              rcases Nat.lt_succ_iff_lt_or_eq.1 hi with h | h
              · exact HM.out i y h hy
              · subst h; rw [hx] at hy; cases hy; exact hx'
            have HM2 := hid HM2
            have HL := hid (HK.out hk1)
            clear hm hx HM HK hk0 i0
            have hp : m < 48 ∨ (48 ≤ m ∧ m ≤ 57) ∨ (58 ≤ m ∧ m ≤ 64) ∨ (65 ≤ m ∧ m ≤ 90) ∨ (91 ≤ m ∧ m ≤ 94) ∨ m = 95 ∨ m = 96 ∨ (97 ≤ m ∧ m ≤ 122) ∨ 123 ≤ m := by omega
            rcases hp with h | ⟨h, h'⟩ | ⟨h, h'⟩ | ⟨h, h'⟩ | ⟨h, h'⟩ | h | h | ⟨h, h'⟩ | h
            all_goals
              (try (have z122 : (!decide ((m : Int) ≤ 122)) = true := by simp; omega))
              (try (have z90 : (!decide ((m : Int) ≤ 90)) = true := by simp; omega))
              (try (have z57 : (!decide ((m : Int) ≤ 57)) = true := by simp; omega))
              (try (have z95 : ((m : Int) == 95) = false := by simp; omega))
              (try subst h)
              go_wp2_with fail
              first
              | (go_round
                 case rel => exact ⟨k + 1, by omega, by go_num, HM2.out (by rw [HC.out]; simp <;> omega), fun _ => HL.out⟩
                 case measure => simp [intOf]; omega)
              | (go_ret
                 exact ⟨ret_bool (HF.out (by rw [HC.out]; simp <;> omega)).symm, rfl⟩)
        · have HF := hid (nameB_done (c := c) (r := r) (by have := HR.out; omega) (HK.out (by omega)) (fun i x hi => HM.out i x (by
            have h1 := (List.getElem?_eq_some_iff.1 hi).1
            have := HR.out
            simp at h1; omega) hi))
          go_wp2_with fail
          go_ret
          exact ⟨ret_bool HF.out.symm, rfl⟩
    · have HF := hid (show nameB (c :: r) = false by rw [nameB_cons, decide_eq_false (by omega)]; simp)
      clear hnr
      go_enter Tryz.func125, Tryz.ntmps125
      go_wp2_with fail
      go_ret
      exact ⟨ret_bool HF.out.symm, rfl⟩
theorem intelNumber (n:Int) (w:World):Calls Tryz.prog 94 #[.int .i64 n] w fun e w'=>e = .returned (.bool (n32B n))∧w=w':=by
 have hp:n < -2147483648∨(-2147483648≤n∧n≤2147483647)∨2147483647<n:=by omega
 rcases hp with h|⟨h,h'⟩|h
 all_goals
  go_enter Tryz.func94,Tryz.ntmps94
  go_wp2
  go_ret
  exact ⟨ret_bool (by unfold n32B;rw [Bool.eq_iff_iff];simp <;> omega),rfl⟩
theorem fileNumber (n:Int) (w:World):Calls Tryz.prog 126 #[.int .i64 n] w fun e w'=>e = .returned (.bool (n32B n))∧w=w':=by
 have hp:n < -2147483648∨(-2147483648≤n∧n≤2147483647)∨2147483647<n:=by omega
 rcases hp with h|⟨h,h'⟩|h
 all_goals
  go_enter Tryz.func126,Tryz.ntmps126
  go_wp2
  go_ret
  exact ⟨ret_bool (by unfold n32B;rw [Bool.eq_iff_iff];simp <;> omega),rfl⟩
theorem condNumber (n:Int) (w:World):Calls Tryz.prog 163 #[.int .i64 n] w fun e w'=>e = .returned (.bool (n32B n))∧w=w':=by
 have hp:n < -2147483648∨(-2147483648≤n∧n≤2147483647)∨2147483647<n:=by omega
 rcases hp with h|⟨h,h'⟩|h
 all_goals
  go_enter Tryz.func163,Tryz.ntmps163
  go_wp2
  go_ret
  exact ⟨ret_bool (by unfold n32B;rw [Bool.eq_iff_iff];simp <;> omega),rfl⟩
theorem r08Number (n:Int) (w:World):Calls Tryz.prog 180 #[.int .i64 n] w fun e w'=>e = .returned (.bool (n32B n))∧w=w':=by
 have hp:n < -2147483648∨(-2147483648≤n∧n≤2147483647)∨2147483647<n:=by omega
 rcases hp with h|⟨h,h'⟩|h
 all_goals
  go_enter Tryz.func180,Tryz.ntmps180
  go_wp2
  go_ret
  exact ⟨ret_bool (by unfold n32B;rw [Bool.eq_iff_iff];simp <;> omega),rfl⟩
theorem r09Number (n:Int) (w:World):Calls Tryz.prog 100 #[.int .i64 n] w fun e w'=>e = .returned (.bool (n32B n))∧w=w':=by
 have hp:n < -2147483648∨(-2147483648≤n∧n≤2147483647)∨2147483647<n:=by omega
 rcases hp with h|⟨h,h'⟩|h
 all_goals
  go_enter Tryz.func100,Tryz.ntmps100
  go_wp2
  go_ret
  exact ⟨ret_bool (by unfold n32B;rw [Bool.eq_iff_iff];simp <;> omega),rfl⟩
theorem intelReg0 (n:Int) (w:World):Calls Tryz.prog 95 #[.int .i64 n] w fun e w'=>e = .returned (.bool (regXB n))∧w=w':=by
 have hp:n<0∨(0≤n∧n<15)∨15≤n:=by omega
 rcases hp with h|⟨h,h'⟩|h
 all_goals
  go_enter Tryz.func95,Tryz.ntmps95
  go_wp2
  go_ret
  exact ⟨ret_bool (by unfold regXB;rw [Bool.eq_iff_iff];simp <;> omega),rfl⟩
theorem r09Reg0 (n:Int) (w:World):Calls Tryz.prog 101 #[.int .i64 n] w fun e w'=>e = .returned (.bool (regXB n))∧w=w':=by
 have hp:n<0∨(0≤n∧n<15)∨15≤n:=by omega
 rcases hp with h|⟨h,h'⟩|h
 all_goals
  go_enter Tryz.func101,Tryz.ntmps101
  go_wp2
  go_ret
  exact ⟨ret_bool (by unfold regXB;rw [Bool.eq_iff_iff];simp <;> omega),rfl⟩
end Go.Proofs.YthaibjefnclkjaaGreatDoor

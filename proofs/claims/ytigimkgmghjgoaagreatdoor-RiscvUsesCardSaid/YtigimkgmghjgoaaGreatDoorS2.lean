/- The walk of trim (the document's answer). Condition: a length that an int holds. -/
import Derived.Test.YtigimkgmghjgoaaGreatDoorS1
import Derived.Test.YtigimkgmghjgoaaGreatDoorR8
namespace Go.Proofs.YtigimkgmghjgoaaGreatDoor
open Go.RowKit
set_option linter.unusedVariables false

theorem trim_comm : ∀ l : Tx, ((l.dropWhile blankC).reverse.dropWhile blankC).reverse = trimT l
  | [] => by decide
  | c :: r => by
    have ih := trim_comm r
    rw [trimT_eq] at ih ⊢
    by_cases hb : blankC c = true
    · rw [List.dropWhile_cons, if_pos hb, ih, List.reverse_cons, List.dropWhile_append]
      cases hx : r.reverse.dropWhile blankC with
      | nil => simp [hb]
      | cons y ys =>
        rw [if_neg (by simp), List.reverse_append, List.reverse_singleton, List.singleton_append, List.dropWhile_cons, if_pos hb]
    · rw [List.dropWhile_cons, if_neg hb, List.reverse_cons, List.dropWhile_append]
      cases hx : r.reverse.dropWhile blankC with
      | nil => simp [hb]
      | cons y ys =>
        rw [if_neg (by simp), List.reverse_append, List.reverse_singleton, List.singleton_append, List.dropWhile_cons, if_neg hb]
/-- a text's length -/
def strN : Value → Nat
  | .string b => b.size
  | _ => 0
theorem strN_tx (l : Tx) : strN (.string (tx l)) = l.length := tx_size l
theorem rdrop_concat (r : Tx) (c : UInt8) (h : blankC c = true) : ((r ++ [c]).reverse.dropWhile blankC).reverse = (r.reverse.dropWhile blankC).reverse := by simp [h]
theorem rdrop_stop (r : Tx) (c : UInt8) (h : blankC c = false) : ((r ++ [c]).reverse.dropWhile blankC).reverse = r ++ [c] := by simp [h]
theorem last_cases (l : Tx) : l = [] ∨ (∃ r c, l = r ++ [c] ∧ blankC c = false) ∨ (∃ r c, l = r ++ [c] ∧ blankC c = true) := by
  rcases List.eq_nil_or_concat l with rfl | ⟨r, c, rfl⟩
  · exact .inl rfl
  · cases hb : blankC c
    · exact .inr (.inl ⟨r, c, List.concat_eq_append, hb⟩)
    · exact .inr (.inr ⟨r, c, List.concat_eq_append, hb⟩)
set_option maxHeartbeats 1600000 in
theorem refTrim (s : Tx) (hs : s.length ≤ 9223372036854775807) (w : World) : Calls Tryz.prog 42 #[.string (tx s)] w fun e w' => e = .returned (.string (tx (trimT s))) ∧ w = w' := by
  have HT := hid (trim_comm s)
  generalize trimT s = T at *
  go_enter Tryz.func42, Tryz.ntmps42
  go_wp2_with fail
  go_loop [0] (fun v => ∃ l : Tx, v = .string (tx l) ∧ l.length ≤ 9223372036854775807 ∧ Hid (l.dropWhile blankC = s.dropWhile blankC)) strN
  case atStart => exact ⟨s, rfl, hs, rfl⟩
  case round =>
    clear hs
    obtain ⟨l, rfl, hl, HL⟩ := hrel
    have hc : l = [] ∨ (∃ c r, l = c :: r ∧ blankC c = false) ∨ (∃ c r, l = c :: r ∧ blankC c = true) := by
      cases l with
      | nil => exact .inl rfl
      | cons c r => cases hb : blankC c; exact .inr (.inl ⟨c, r, rfl, hb⟩); exact .inr (.inr ⟨c, r, rfl, hb⟩)
    rcases hc with rfl | ⟨c, r, rfl, hb⟩ | ⟨c, r, rfl, hb⟩
    · have HR := hid (show T = [] by rw [← HT.out, ← HL.out]; rfl)
      have hz : (tx []).size = 0 := rfl
      go_wp2_with fail
      go_loop [0] (fun v => ∃ l : Tx, v = .string (tx l) ∧ l.length ≤ 9223372036854775807 ∧ Hid ((l.reverse.dropWhile blankC).reverse = T)) strN
      case atStart => exact ⟨[], rfl, hl, by rw [HR.out]; rfl⟩
      case round =>
        clear hl HR HL
        obtain ⟨l, rfl, hl, HL⟩ := hrel
        rcases last_cases l with rfl | ⟨r, c, rfl, hb⟩ | ⟨r, c, rfl, hb⟩
        · have HR := hid (show T = [] by rw [← HL.out]; rfl)
          have hz : (tx []).size = 0 := rfl
          go_wp2_with fail
          go_ret
          exact ⟨ret_str (by rw [HR.out]), rfl⟩
        · have HR := hid (show r ++ [c] = T by rw [← HL.out, rdrop_stop r c hb])
          have HB := hid hb
          obtain ⟨k, hk⟩ : ∃ k, r.length = k := ⟨_, rfl⟩
          have hsz : (tx (r ++ [c])).size = k + 1 := by rw [tx_size]; simp [hk]
          have hk2 : k + 1 ≤ 9223372036854775807 := by rw [← hsz, tx_size]; exact hl
          have ix := run_ix (r ++ [c]) k c (by simp [← hk])
          clear hb hk hl
          generalize r ++ [c] = l at *
          go_wp2_with (go_at_call 43; refine (refBlank c _).mono ?_; rintro e w' ⟨rfl, rfl⟩; rw [HB.out])
          go_ret
          exact ⟨ret_str (by rw [HR.out]), rfl⟩
        · have HR := hid (show (r.reverse.dropWhile blankC).reverse = T by rw [← HL.out, rdrop_concat r c hb])
          have HB := hid hb
          obtain ⟨k, hk⟩ : ∃ k, r.length = k := ⟨_, rfl⟩
          have hsz : (tx (r ++ [c])).size = k + 1 := by rw [tx_size]; simp [hk]
          have hk2 : k + 1 ≤ 9223372036854775807 := by rw [← hsz, tx_size]; exact hl
          have ix := run_ix (r ++ [c]) k c (by simp [← hk])
          have sl : ∀ w, (Instr.sliceAt 9 (.string (tx (r ++ [c]))) none (some (.int .i64 k)) none).run Tryz.prog w = .ok (.string (tx r)) w := fun w => by
            have := run_strto (r ++ [c]) k (by simp; omega) w
            rwa [show (r ++ [c]).take k = r by rw [← hk]; simp] at this
          have HM := hid (show strN (.string (tx r)) < strN (.string (tx (r ++ [c]))) by rw [strN_tx, strN_tx]; simp)
          have HQ := hid (show r.length ≤ 9223372036854775807 by simp at hl; omega)
          clear hb hk hl
          generalize r ++ [c] = l at *
          go_wp2_with (go_at_call 43; refine (refBlank c _).mono ?_; rintro e w' ⟨rfl, rfl⟩; rw [HB.out])
          go_round
          case rel => exact ⟨r, rfl, HQ.out, HR.out⟩
          case measure => exact HM.out
    · have HR := hid (show ((c :: r).reverse.dropWhile blankC).reverse = T by rw [← HT.out, ← HL.out, List.dropWhile_cons, if_neg (by rw [hb]; simp)])
      have HB := hid hb
      clear hb
      have i0 := run_ixz (c :: r) c rfl
      obtain ⟨n, hn⟩ : ∃ n, (tx (c :: r)).size = n := ⟨_, rfl⟩
      have hn1 : 0 < n := by rw [← hn, tx_size]; simp
      go_wp2_with (go_at_call 43; refine (refBlank c _).mono ?_; rintro e w' ⟨rfl, rfl⟩; rw [HB.out])
      go_loop [0] (fun v => ∃ l : Tx, v = .string (tx l) ∧ l.length ≤ 9223372036854775807 ∧ Hid ((l.reverse.dropWhile blankC).reverse = T)) strN
      case atStart => exact ⟨_, rfl, hl, HR.out⟩
      case round =>
        clear hl HR HL
        obtain ⟨l, rfl, hl, HL⟩ := hrel
        rcases last_cases l with rfl | ⟨r, c, rfl, hb⟩ | ⟨r, c, rfl, hb⟩
        · have HR := hid (show T = [] by rw [← HL.out]; rfl)
          have hz : (tx []).size = 0 := rfl
          go_wp2_with fail
          go_ret
          exact ⟨ret_str (by rw [HR.out]), rfl⟩
        · have HR := hid (show r ++ [c] = T by rw [← HL.out, rdrop_stop r c hb])
          have HB := hid hb
          obtain ⟨k, hk⟩ : ∃ k, r.length = k := ⟨_, rfl⟩
          have hsz : (tx (r ++ [c])).size = k + 1 := by rw [tx_size]; simp [hk]
          have hk2 : k + 1 ≤ 9223372036854775807 := by rw [← hsz, tx_size]; exact hl
          have ix := run_ix (r ++ [c]) k c (by simp [← hk])
          clear hb hk hl
          generalize r ++ [c] = l at *
          go_wp2_with (go_at_call 43; refine (refBlank c _).mono ?_; rintro e w' ⟨rfl, rfl⟩; rw [HB.out])
          go_ret
          exact ⟨ret_str (by rw [HR.out]), rfl⟩
        · have HR := hid (show (r.reverse.dropWhile blankC).reverse = T by rw [← HL.out, rdrop_concat r c hb])
          have HB := hid hb
          obtain ⟨k, hk⟩ : ∃ k, r.length = k := ⟨_, rfl⟩
          have hsz : (tx (r ++ [c])).size = k + 1 := by rw [tx_size]; simp [hk]
          have hk2 : k + 1 ≤ 9223372036854775807 := by rw [← hsz, tx_size]; exact hl
          have ix := run_ix (r ++ [c]) k c (by simp [← hk])
          have sl : ∀ w, (Instr.sliceAt 9 (.string (tx (r ++ [c]))) none (some (.int .i64 k)) none).run Tryz.prog w = .ok (.string (tx r)) w := fun w => by
            have := run_strto (r ++ [c]) k (by simp; omega) w
            rwa [show (r ++ [c]).take k = r by rw [← hk]; simp] at this
          have HM := hid (show strN (.string (tx r)) < strN (.string (tx (r ++ [c]))) by rw [strN_tx, strN_tx]; simp)
          have HQ := hid (show r.length ≤ 9223372036854775807 by simp at hl; omega)
          clear hb hk hl
          generalize r ++ [c] = l at *
          go_wp2_with (go_at_call 43; refine (refBlank c _).mono ?_; rintro e w' ⟨rfl, rfl⟩; rw [HB.out])
          go_round
          case rel => exact ⟨r, rfl, HQ.out, HR.out⟩
          case measure => exact HM.out
    · have HR := hid (show r.dropWhile blankC = s.dropWhile blankC by rw [← HL.out, List.dropWhile_cons, if_pos hb])
      have HB := hid hb
      clear hb
      have i0 := run_ixz (c :: r) c rfl
      have sl : ∀ w, (Instr.sliceAt 9 (.string (tx (c :: r))) (some (.int .i64 1)) none none).run Tryz.prog w = .ok (.string (tx r)) w := run_strfrom (c :: r) 1 (by simp)
      obtain ⟨n, hn⟩ : ∃ n, (tx (c :: r)).size = n := ⟨_, rfl⟩
      have hn1 : 0 < n := by rw [← hn, tx_size]; simp
      go_wp2_with (go_at_call 43; refine (refBlank c _).mono ?_; rintro e w' ⟨rfl, rfl⟩; rw [HB.out])
      go_round
      case rel => exact ⟨r, rfl, by simp at hl; omega, HR.out⟩
      case measure => rw [strN_tx, strN_tx]; simp
end Go.Proofs.YtigimkgmghjgoaaGreatDoor

/- The walks of named and fields (the program's), and of Check. Conditions: lengths that an int holds. -/
import Derived.Test.YtigimkgmghjgoaaGreatDoorR1
namespace Go.Proofs.YtigimkgmghjgoaaGreatDoor
open Go.RowKit
set_option linter.unusedVariables false

theorem run_ix (l : Tx) (k : Nat) (c : UInt8) (hk : l[k]? = some c) : ∀ w, (Instr.index 9 (.string (tx l)) (.int .i64 k)).run Tryz.prog w = .ok (.int .u8 c.toNat) w := by
  intro w
  obtain ⟨hlt, rfl⟩ := List.getElem?_eq_some_iff.1 hk
  have h1 := Tryz.underlying9
  have hs := tx_size l
  simp [Instr.index, asIntOf, run_underlying h1, hs, hlt]
  rfl
theorem run_ixz (l : Tx) (c : UInt8) (hk : l[0]? = some c) : ∀ w, (Instr.index 9 (.string (tx l)) (.int .i64 0)).run Tryz.prog w = .ok (.int .u8 c.toNat) w := run_ix l 0 c hk
theorem u8_ne (c d : UInt8) (h : c ≠ d) : ((c.toNat : Int) != (d.toNat : Int)) = true := by
  simp only [bne_iff_ne, ne_eq]
  intro e
  exact h (UInt8.toNat_inj.1 (by omega))

theorem nameB_cons (c : UInt8) (r : Tx) : nameB (c :: r) = (decide (r.length < 32) && letterC c && r.all nameC) := rfl
theorem nameB_step {l : Tx} {k : Nat} {c : UInt8} (h : l[k]? = some c) (hn : nameC c = false) : nameB l = false := by
  have hm : c ∈ l := List.mem_of_getElem? h
  cases l with
  | nil => rfl
  | cons d r =>
    rw [nameB_cons]
    rcases List.mem_cons.1 hm with rfl | hm
    · have : letterC c = false := by unfold nameC at hn; simp at hn; exact hn.1.1
      rw [this]; simp
    · have : r.all nameC = false := by simp only [List.all_eq_false]; exact ⟨c, hm, by rw [hn]; simp⟩
      rw [this]; simp
theorem nameB_done {c : UInt8} {r : Tx} (hl : r.length < 32) (hc : letterC c = true) (h : ∀ (i : Nat) (x : UInt8), (c :: r)[i]? = some x → nameC x = true) : nameB (c :: r) = true := by
  rw [nameB_cons, hc, decide_eq_true hl]
  simp only [Bool.and_self, Bool.true_and, List.all_eq_true]
  intro x hx
  obtain ⟨i, hi, rfl⟩ := List.mem_iff_getElem.1 hx
  exact h (i + 1) _ (by simp [hi])
set_option maxHeartbeats 800000 in
theorem progNamed (l : Tx) (hl : l.length ≤ 9223372036854775807) (w : World) : Calls Tryz.prog 76 #[.string (tx l)] w fun e w' => e = .returned (.bool (nameB l)) ∧ w = w' := by
  have hs := tx_size l
  cases l with
  | nil =>
    have hs : (tx []).size = 0 := rfl
    go_enter Tryz.func76, Tryz.ntmps76
    go_wp2_with fail
    go_ret
    exact ⟨rfl, rfl⟩
  | cons c r =>
    obtain ⟨n, hn⟩ : ∃ n, (tx (c :: r)).size = n := ⟨_, rfl⟩
    have hn1 : 1 ≤ n := by rw [← hn, hs]; simp
    have hnr : n = r.length + 1 := by rw [← hn, hs]; simp
    have hz : ((n : Int) == 0) = false := by simp; omega
    clear hs hl
    by_cases h32 : n ≤ 32
    · have i0 := run_ixz (c :: r) c rfl
      by_cases hc : letterC c = true
      · have HC := hid hc
        have HR := hid hnr
        clear hc hnr
        go_enter Tryz.func76, Tryz.ntmps76
        go_wp2_with (go_at_call 108; refine (progLetter c _).mono ?_; rintro e w' ⟨rfl, rfl⟩; rw [HC.out])
        go_loop [21] (fun i => ∃ k : Nat, k ≤ n ∧ i = .int .i64 k ∧ Hid (∀ (i : Nat) (x : UInt8), i < k → (c :: r)[i]? = some x → nameC x = true)) (fun i => n - (intOf i).toNat)
        case atStart => exact ⟨0, by omega, rfl, fun i x hi => absurd hi (Nat.not_lt_zero i)⟩
        case round =>
          obtain ⟨k, hk, rfl, HM⟩ := hrel
          by_cases hlt : k < n
          · obtain ⟨x, hx⟩ : ∃ x, (c :: r)[k]? = some x := ⟨_, List.getElem?_eq_getElem (by have := HR.out; simp; omega)⟩
            have ix := run_ix (c :: r) k x hx
            have HX := hid hx
            clear hx
            have HM2 : nameC x = true → Hid (∀ (i : Nat) (y : UInt8), i < k + 1 → (c :: r)[i]? = some y → nameC y = true) := fun hx' i y hi hy => by
              rcases Nat.lt_succ_iff_lt_or_eq.1 hi with h | h
              · exact HM.out i y h hy
              · subst h; rw [HX.out] at hy; cases hy; exact hx'
            have HM2 := hid HM2
            by_cases h1 : letterC x = true
            · have H1 := hid h1
              have HN := hid (HM2.out (by unfold nameC; rw [h1]; rfl))
              clear h1
              go_wp2_with (go_at_call 108; refine (progLetter x _).mono ?_; rintro e w' ⟨rfl, rfl⟩; rw [H1.out])
              go_round
              case rel => exact ⟨k + 1, by omega, by go_num, HN.out⟩
              case measure => simp [intOf]; omega
            · have H1 := hid (Bool.eq_false_iff.2 h1)
              clear h1
              by_cases h2 : digitC x = true
              · have H2 := hid h2
                have HN := hid (HM2.out (by unfold nameC; rw [h2]; simp))
                clear h2
                go_wp2_with (first | (go_at_call 108; refine (progLetter x _).mono ?_; rintro e w' ⟨rfl, rfl⟩; rw [H1.out]) | (go_at_call 109; refine (progDigit x _).mono ?_; rintro e w' ⟨rfl, rfl⟩; rw [H2.out]))
                go_round
                case rel => exact ⟨k + 1, by omega, by go_num, HN.out⟩
                case measure => simp [intOf]; omega
              · have H2 := hid (Bool.eq_false_iff.2 h2)
                clear h2
                by_cases h3 : x = 95
                · subst h3
                  have HN := hid (HM2.out (by decide))
                  have z3 : (((95 : UInt8).toNat : Int) != 95) = false := by decide
                  go_wp2_with (first | (go_at_call 108; refine (progLetter 95 _).mono ?_; rintro e w' ⟨rfl, rfl⟩; rw [H1.out]) | (go_at_call 109; refine (progDigit 95 _).mono ?_; rintro e w' ⟨rfl, rfl⟩; rw [H2.out]))
                  go_round
                  case rel => exact ⟨k + 1, by omega, by go_num, HN.out⟩
                  case measure => simp [intOf]; omega
                · have z3 : ((x.toNat : Int) != 95) = true := u8_ne x 95 h3
                  have HF := hid (nameB_step HX.out (by unfold nameC; rw [H1.out, H2.out]; simpa using h3))
                  clear h3
                  go_wp2_with (first | (go_at_call 108; refine (progLetter x _).mono ?_; rintro e w' ⟨rfl, rfl⟩; rw [H1.out]) | (go_at_call 109; refine (progDigit x _).mono ?_; rintro e w' ⟨rfl, rfl⟩; rw [H2.out]))
                  go_ret
                  exact ⟨ret_bool HF.out.symm, rfl⟩
          · have HF := hid (nameB_done (c := c) (r := r) (by have := HR.out; omega) HC.out (fun i x hi => HM.out i x (by
              have h1 := (List.getElem?_eq_some_iff.1 hi).1
              have := HR.out
              simp at h1; omega) hi))
            go_wp2_with fail
            go_ret
            exact ⟨ret_bool HF.out.symm, rfl⟩
      · have HC := hid (Bool.eq_false_iff.2 hc)
        have HF := hid (show nameB (c :: r) = false by rw [nameB_cons, HC.out]; simp)
        clear hc hnr
        go_enter Tryz.func76, Tryz.ntmps76
        go_wp2_with (go_at_call 108; refine (progLetter c _).mono ?_; rintro e w' ⟨rfl, rfl⟩; rw [HC.out])
        go_ret
        exact ⟨ret_bool HF.out.symm, rfl⟩
    · have HF := hid (show nameB (c :: r) = false by rw [nameB_cons, decide_eq_false (by omega)]; simp)
      clear hnr
      go_enter Tryz.func76, Tryz.ntmps76
      go_wp2_with fail
      go_ret
      exact ⟨ret_bool HF.out.symm, rfl⟩
end Go.Proofs.YtigimkgmghjgoaaGreatDoor

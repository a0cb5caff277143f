/- The walks of Legal and All (the program's). Conditions: none but those that each theorem names. -/
import Derived.Test.YteijgmaggmhggaaE2
import Derived.Test.YteijgmaggmhggaaLibE2
namespace Go.Proofs.Yteijgmaggmhggaa
open Go.RowKit
set_option linter.unusedVariables false

attribute [local go_sem high] eqE neqE

/-- what Legal answers: whether, and the error -/
def legalB (arch : Int) (e : Edge) : Bool := if isArch arch then (if codeOf e = 112 then false else legalC arch (codeOf e)) else false
def legalN (arch : Int) (e : Edge) : Int := if isArch arch then errE e else 1
set_option maxRecDepth 100000 in
set_option maxHeartbeats 1600000 in
theorem progLegal (arch : Int) (e : Edge) (w : World) : Calls Try.prog 32 #[.int .i64 arch, vE e] w (Ret w (.tuple #[.bool (legalB arch e), .int .i64 (legalN arch e)])) := by
  have B0 := (Below.refl w.heap.size w).alloc (Nat.le_refl _) (.cells #[.int .i64 e.kind, .bool e.ext, .bool e.same, .int .i64 e.src, .int .i64 e.dst, .int .i64 e.fence] 23)
  by_cases ha : isArch arch
  · have hd : decide (isArch arch) = true := decide_eq_true ha
    have HA := hid ha
    clear ha
    by_cases hc : codeOf e = 112
    · have h1 : legalB arch e = false := by unfold legalB; rw [if_pos HA.out, if_pos hc]
      have h2 : legalN arch e = 30 := by unfold legalN errE; rw [if_pos HA.out, if_pos hc]
      have h3 : errE e = 30 := by unfold errE; rw [if_pos hc]
      rw [h1, h2]
      have H3 := hid h3
      clear h1 h2 h3 hc
      go_enter Try.func32, Try.ntmps32
      go_wp2_with (go_at_call 49; refine (progKnown arch _).mono ?_; rintro e' w7 ⟨rfl, rfl⟩)
      go_wp2_with fail
      refine (progCode e _).mono ?_
      rintro e' w7 ⟨rfl, E7⟩
      rw [H3.out]
      go_wp2_with fail
      go_ret2
      exact ⟨rfl, B0.trans (E7.mono B0.size)⟩
    · have hlt : codeOf e < 112 := by have := codeOf_le e; omega
      have h1 : legalB arch e = legalC arch (codeOf e) := by unfold legalB; rw [if_pos HA.out, if_neg hc]
      have h2 : legalN arch e = 0 := by unfold legalN errE; rw [if_pos HA.out, if_neg hc]
      have h3 : errE e = 0 := by unfold errE; rw [if_neg hc]
      have h4 : codeN e = (codeOf e : Int) := by unfold codeN; rw [if_neg hc]
      rw [h1, h2]
      have H3 := hid h3; have H4 := hid h4
      clear h1 h2 h3 h4 hc
      go_enter Try.func32, Try.ntmps32
      go_wp2_with (go_at_call 49; refine (progKnown arch _).mono ?_; rintro e' w7 ⟨rfl, rfl⟩)
      go_wp2_with fail
      refine (progCode e _).mono ?_
      rintro e' w7 ⟨rfl, E7⟩
      rw [H3.out, H4.out]
      go_wp2_with (go_at_call 51; refine (progLegalC arch (codeOf e) _).mono ?_; rintro e' w8 ⟨rfl, rfl⟩)
      go_ret2
      exact ⟨rfl, B0.trans (E7.mono B0.size)⟩
  · have hd : decide (isArch arch) = false := decide_eq_false ha
    have h1 : legalB arch e = false := by unfold legalB; rw [if_neg ha]
    have h2 : legalN arch e = 1 := by unfold legalN; rw [if_neg ha]
    rw [h1, h2]
    have HA := hid ha
    clear ha h1 h2
    go_enter Try.func32, Try.ntmps32
    go_wp2_with (go_at_call 49; refine (progKnown arch _).mono ?_; rintro e' w7 ⟨rfl, rfl⟩)
    go_ret2
    exact ⟨rfl, B0⟩

set_option maxRecDepth 100000 in
set_option maxHeartbeats 1600000 in
theorem progAll (arch : Int) (ha : isArch arch) (w : World) : Calls Try.prog 33 #[.int .i64 arch] w (fun e w' => ∃ a c, e = .returned (.tuple #[.slice a (allE arch).length c, .int .i64 0]) ∧ OwnE w' w.heap.size a (allE arch).length c (allE arch) ∧ Below w.heap.size w w') := by
  have hd : decide (isArch arch) = true := decide_eq_true ha
  have HA := hid ha
  clear ha
  have o0 : OwnE w w.heap.size none 0 0 (allTo arch 0) := Own.nil _ _ _ _
  have B0 := Below.refl w.heap.size w
  go_enter Try.func33, Try.ntmps33
  go_wp2_with (go_at_call 49; refine (progKnown arch _).mono ?_; rintro e' w7 ⟨rfl, rfl⟩)
  go_loopw [4, 9] (fun s i wr => ∃ (k n c : Nat) (a : Option Addr) (l : List Edge), k ≤ 112 ∧ i = .int .i64 k ∧ s = .slice a n c ∧ n ≤ k ∧ Hid (l = allTo arch k) ∧ OwnE wr w.heap.size a n c l ∧ Below w.heap.size w wr) (fun _ i _ => 112 - (intOf i).toNat)
  case atStart => exact ⟨0, 0, 0, none, _, by omega, rfl, rfl, Nat.le_refl _, rfl, o0, B0⟩
  case round =>
    obtain ⟨k, n, c, a, l, hk, rfl, rfl, hn, HL, o, B⟩ := hrel
    by_cases hlt : k < 112
    · by_cases hg : legalC arch k = true
      · have HG := hid hg
        clear hg
        go_wp2_with (go_at_call 51; refine (progLegalC arch k _).mono ?_; rintro e' w8 ⟨rfl, rfl⟩; rw [HG.out])
        refine (progMade k hlt _).mono ?_
        rintro e' w9 ⟨rfl, E9⟩
        have o2 : OwnE w9 w.heap.size a n c l := o.below E9
        have B2 := B.trans (E9.mono B.size)
        go_wp2_with (at_builtin; go_loud (refine wpList_app1 esl (.tmp 15) (.tmp 18) rfl rfl rfl o2 rfl rfl (eC_one (ofCode k)) B2 B2.size (by omega) (by unfold maxLen; omega) ?_))
        intro a' c' w10 o10 g10 E10
        have HL2 := hid ((by rw [allTo_succ, HL.out, if_pos HG.out]) : l ++ [ofCode k] = allTo arch (k + 1))
        have o11 : OwnE w10 w.heap.size a' (n + 1) c' (l ++ [ofCode k]) := by unfold OwnE; rw [edges_snoc]; exact o10
        clear o o2 o10 g10
        go_wp2_with fail
        go_roundw
        case rel => exact ⟨k + 1, n + 1, c', a', _, by omega, by go_num, rfl, by omega, HL2, o11, E10⟩
        case measure => simp [intOf]; omega
      · have HG := hid hg
        clear hg
        have HL2 := hid ((by rw [allTo_succ, HL.out, if_neg HG.out, List.append_nil]) : l = allTo arch (k + 1))
        have hgf := hid ((by simpa using HG.out) : legalC arch k = false)
        go_wp2_with (go_at_call 51; refine (progLegalC arch k _).mono ?_; rintro e' w8 ⟨rfl, rfl⟩; rw [hgf.out])
        go_roundw
        case rel => exact ⟨k + 1, n, c, a, l, by omega, by go_num, rfl, by omega, HL2, o, B⟩
        case measure => simp [intOf]; omega
    · obtain rfl : k = 112 := by omega
      have hl := o.len
      go_wp2_with fail
      go_ret2
      subst hl
      have e : l = allE arch := HL.out
      subst e
      exact ⟨_, _, rfl, o, B⟩
end Go.Proofs.Yteijgmaggmhggaa

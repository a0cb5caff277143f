/- The walks of Legal and All (the document's answer), and of what fences order (both). Conditions: none but those that each theorem names. -/
import Derived.Test.YteijgmaggmhggaaE6
namespace Go.Proofs.Yteijgmaggmhggaa
open Go.RowKit
set_option linter.unusedVariables false

attribute [local go_sem high] eqE neqE

set_option maxRecDepth 100000 in
set_option maxHeartbeats 1600000 in
theorem refLegal (arch : Int) (e : Edge) (w : World) : Calls Try.prog 40 #[.int .i64 arch, vE e] w (Ret w (.tuple #[.bool (legalB arch e), .int .i64 (legalN arch e)])) := by
  have B0 := al w (.cells #[.int .i64 e.kind, .bool e.ext, .bool e.same, .int .i64 e.src, .int .i64 e.dst, .int .i64 e.fence] 23)
  have b0 := Bx.new w e 23
  by_cases ha : isArch arch
  · have hd : decide (isArch arch) = true := decide_eq_true ha
    have HA := hid ha
    clear ha
    by_cases hc : codeOf e = 112
    · have h1 : legalB arch e = false := by unfold legalB; rw [if_pos HA.out, if_pos hc]
      have h2 : legalN arch e = 30 := by unfold legalN errE; rw [if_pos HA.out, if_pos hc]
      have h3 : errE e = 30 := by unfold errE; rw [if_pos hc]
      rw [h1, h2]
      have H3 := hid h3
      clear h1 h2 h3 hc
      go_enter Try.func40, Try.ntmps40
      go_wp2_with (go_at_call 57; refine (refKnown arch _).mono ?_; rintro e' w7 ⟨rfl, rfl⟩)
      refine (refCheck e _).mono ?_
      rintro e' w7 ⟨rfl, E7⟩
      rw [H3.out]
      go_wp2_with fail
      go_ret2
      exact ⟨rfl, B0.trans (E7.mono B0.size)⟩
    · have hlt : codeOf e < 112 := by have := codeOf_le e; omega
      have h1 : legalB arch e = hasE arch e := by
        unfold legalB; rw [if_pos HA.out, if_neg hc, ← hasE_ofCode HA.out _ hlt, codeOf_lt hlt]
      have h2 : legalN arch e = 0 := by unfold legalN errE; rw [if_pos HA.out, if_neg hc]
      have h3 : errE e = 0 := by unfold errE; rw [if_neg hc]
      rw [h1, h2]
      have H3 := hid h3
      clear h1 h2 h3 hc
      go_enter Try.func40, Try.ntmps40
      go_wp2_with (go_at_call 57; refine (refKnown arch _).mono ?_; rintro e' w7 ⟨rfl, rfl⟩)
      refine (refCheck e _).mono ?_
      rintro e' w7 ⟨rfl, E7⟩
      rw [H3.out]
      have b1 := b0.below E7
      obtain ⟨c0, c1, c2, c3, c4, c5⟩ := b1.cells
      have B1 := B0.trans (E7.mono B0.size)
      go_wp2_with fail
      refine (refHas arch e _).mono ?_
      rintro e' w8 ⟨rfl, E8⟩
      go_wp2_with fail
      go_ret2
      exact ⟨rfl, B1.trans (E8.mono B1.size)⟩
  · have hd : decide (isArch arch) = false := decide_eq_false ha
    have h1 : legalB arch e = false := by unfold legalB; rw [if_neg ha]
    have h2 : legalN arch e = 1 := by unfold legalN; rw [if_neg ha]
    rw [h1, h2]
    have HA := hid ha
    clear ha h1 h2
    go_enter Try.func40, Try.ntmps40
    go_wp2_with (go_at_call 57; refine (refKnown arch _).mono ?_; rintro e' w7 ⟨rfl, rfl⟩)
    go_ret2
    exact ⟨rfl, B0⟩

set_option maxRecDepth 100000 in
set_option maxHeartbeats 1600000 in
theorem refAll (arch : Int) (ha : isArch arch) (w : World) : Calls Try.prog 41 #[.int .i64 arch] w (fun e w' => ∃ a c, e = .returned (.tuple #[.slice a (allE arch).length c, .int .i64 0]) ∧ OwnE w' w.heap.size a (allE arch).length c (allE arch) ∧ Below w.heap.size w w') := by
  have hd : decide (isArch arch) = true := decide_eq_true ha
  have HA := hid ha
  clear ha
  have o0 : OwnE w w.heap.size none 0 0 (allTo arch 0) := Own.nil _ _ _ _
  have B0 := Below.refl w.heap.size w
  go_enter Try.func41, Try.ntmps41
  go_wp2_with (go_at_call 57; refine (refKnown arch _).mono ?_; rintro e' w7 ⟨rfl, rfl⟩)
  go_loopw [4, 5] (fun s i wr => ∃ (k n c : Nat) (a : Option Addr) (l : List Edge), k ≤ 112 ∧ i = .int .i64 k ∧ s = .slice a n c ∧ n ≤ k ∧ Hid (l = allTo arch k) ∧ OwnE wr w.heap.size a n c l ∧ Below w.heap.size w wr) (fun _ i _ => 112 - (intOf i).toNat)
  case atStart => exact ⟨0, 0, 0, none, _, by omega, rfl, rfl, Nat.le_refl _, rfl, o0, B0⟩
  case round =>
    obtain ⟨k, n, c, a, l, hk, rfl, rfl, hn, HL, o, B⟩ := hrel
    by_cases hlt : k < 112
    · have HH := hid (hasE_ofCode HA.out k hlt)
      go_wp2_with fail
      refine (refOf k hlt _).mono ?_
      rintro e' w8 ⟨rfl, E8⟩
      have o1 := o.below E8
      have B1 := B.trans (E8.mono B.size)
      have b1 := Bx.new w8 (ofCode k) 23
      have E81 := al w8 (.cells #[.int .i64 (ofCode k).kind, .bool (ofCode k).ext, .bool (ofCode k).same, .int .i64 (ofCode k).src, .int .i64 (ofCode k).dst, .int .i64 (ofCode k).fence] 23)
      have o2 := o1.below E81
      have B2 := B1.trans (E81.mono B1.size)
      go_wp2_with fail
      refine (refHas arch (ofCode k) _).mono ?_
      rintro e' w9 ⟨rfl, E9⟩
      rw [HH.out]
      have o3 : OwnE w9 w.heap.size a n c l := o2.below E9
      have B3 := B2.trans (E9.mono B2.size)
      have b3 := b1.below E9
      obtain ⟨c0, c1, c2, c3, c4, c5⟩ := b3.cells
      have hl8 : w8.heap.size < w9.heap.size := b3.1
      clear o o1 o2 b1 E81 E8
      by_cases hg : legalC arch k = true
      · have HG := hid hg
        rw [hg]
        clear hg
        go_wp2_with (at_builtin; go_loud (refine wpList_app1 esl (.tmp 23) (.tmp 25) rfl rfl rfl o3 rfl rfl (eC_one (ofCode k)) B3 B3.size (by omega) (by unfold maxLen; omega) ?_))
        intro a' c' w10 o10 g10 E10
        have HL2 := hid ((by rw [allTo_succ, HL.out, if_pos HG.out]) : l ++ [ofCode k] = allTo arch (k + 1))
        have o11 : OwnE w10 w.heap.size a' (n + 1) c' (l ++ [ofCode k]) := by unfold OwnE; rw [edges_snoc]; exact o10
        clear o3 o10 g10
        go_wp2_with fail
        go_roundw
        case rel => exact ⟨k + 1, n + 1, c', a', _, by omega, by go_num, rfl, by omega, HL2, o11, E10⟩
        case measure => simp [intOf]; omega
      · have HG := hid hg
        have hgf : legalC arch k = false := by simpa using hg
        rw [hgf]
        clear hg hgf
        have HL2 := hid ((by rw [allTo_succ, HL.out, if_neg HG.out, List.append_nil]) : l = allTo arch (k + 1))
        go_wp2_with fail
        go_roundw
        case rel => exact ⟨k + 1, n, c, a, l, by omega, by go_num, rfl, by omega, HL2, o3, B3⟩
        case measure => simp [intOf]; omega
    · obtain rfl : k = 112 := by omega
      have hl := o.len
      go_wp2_with fail
      go_ret2
      subst hl
      have e : l = allE arch := HL.out
      subst e
      exact ⟨_, _, rfl, o, B⟩
end Go.Proofs.Yteijgmaggmhggaa

/- The walks of Code, Check, Has, Legal, All (the document's answer). Conditions: none but those that each theorem names. -/
import Derived.Test.YteijgmaggmhggaaE5
namespace Go.Proofs.Yteijgmaggmhggaa
open Go.RowKit
set_option linter.unusedVariables false

attribute [local go_sem high] eqE neqE

set_option maxRecDepth 100000 in
set_option maxHeartbeats 1600000 in
theorem refCode (e : Edge) (w : World) : Calls Try.prog 56 #[vE e] w (Ret w (.tuple #[.int .i64 (codeN e), .int .i64 (errE e)])) := by
  have b0 := Bx.new w e 23
  have B0 := al w (.cells #[.int .i64 e.kind, .bool e.ext, .bool e.same, .int .i64 e.src, .int .i64 e.dst, .int .i64 e.fence] 23)
  go_enter Try.func56, Try.ntmps56
  go_wp2_with fail
  go_loopw [4] (fun i wr => ∃ k : Nat, k ≤ 112 ∧ i = .int .i64 k ∧ Hid (∀ j, j < k → ofCode j ≠ e) ∧ Bx wr w.heap.size e ∧ Below w.heap.size w wr) (fun i _ => 112 - (intOf i).toNat)
  case atStart => exact ⟨0, by omega, rfl, hid (fun j h => absurd h (Nat.not_lt_zero j)), b0, B0⟩
  case round =>
    obtain ⟨k, hk, rfl, HK, b, B⟩ := hrel
    by_cases hlt : k < 112
    · by_cases he : e = ofCode k
      · have hd : decide (e = ofCode k) = true := decide_eq_true he
        have HE := hid he
        clear he
        go_wp2_with fail
        refine (refOf k hlt _).mono ?_
        rintro e' w7 ⟨rfl, E7⟩
        have b1 := (b.below E7).below (al w7 (.cells #[.int .i64 (ofCode k).kind, .bool (ofCode k).ext, .bool (ofCode k).same, .int .i64 (ofCode k).src, .int .i64 (ofCode k).dst, .int .i64 (ofCode k).fence] 23))
        have B1 := (B.trans (E7.mono B.size))
        obtain ⟨c0, c1, c2, c3, c4, c5⟩ := (b.below E7).cells
        have hl7 : w.heap.size < w7.heap.size := (b.below E7).1
        go_wp2_with fail
        go_ret2
        have hc := codeOf_eq hlt HE.out.symm
        have h1 : codeN e = (k : Int) := by unfold codeN; rw [hc, if_neg (by omega)]
        have h2 : errE e = 0 := by unfold errE; rw [hc, if_neg (by omega)]
        exact ⟨ret_pair h1.symm h2.symm, B1.alloc B1.size _⟩
      · have hd : decide (e = ofCode k) = false := decide_eq_false he
        have HE := hid he
        clear he
        go_wp2_with fail
        refine (refOf k hlt _).mono ?_
        rintro e' w7 ⟨rfl, E7⟩
        have b1 := (b.below E7).below (al w7 (.cells #[.int .i64 (ofCode k).kind, .bool (ofCode k).ext, .bool (ofCode k).same, .int .i64 (ofCode k).src, .int .i64 (ofCode k).dst, .int .i64 (ofCode k).fence] 23))
        have B1 := (B.trans (E7.mono B.size))
        obtain ⟨c0, c1, c2, c3, c4, c5⟩ := (b.below E7).cells
        have hl7 : w.heap.size < w7.heap.size := (b.below E7).1
        go_wp2_with fail
        go_roundw
        case rel => exact ⟨k + 1, by omega, by go_num, hid (fun j hj => by
          by_cases h' : j = k
          · subst h'; exact fun h => HE.out h.symm
          · exact HK.out j (by omega)), b1, B1.alloc B1.size _⟩
        case measure => simp [intOf]; omega
    · go_wp2_with fail
      go_ret2
      have hc := codeOf_none (e := e) (fun j hj => HK.out j (by omega))
      have h1 : codeN e = 0 := by unfold codeN; rw [if_pos hc]
      have h2 : errE e = 30 := by unfold errE; rw [if_pos hc]
      exact ⟨ret_pair h1.symm h2.symm, B⟩
theorem refCheck (e : Edge) (w : World) : Calls Try.prog 39 #[vE e] w (Ret w (.int .i64 (errE e))) := by
  have B0 := al w (.cells #[.int .i64 e.kind, .bool e.ext, .bool e.same, .int .i64 e.src, .int .i64 e.dst, .int .i64 e.fence] 23)
  go_enter Try.func39, Try.ntmps39
  go_wp2_with fail
  refine (refCode e _).mono ?_
  rintro e' w7 ⟨rfl, E7⟩
  go_wp2_with fail
  go_ret
  exact ⟨rfl, B0.trans (E7.mono B0.size)⟩
theorem refKnown (arch : Int) (w : World) : Calls Try.prog 57 #[.int .i64 arch] w fun e w' => e = .returned (.bool (decide (isArch arch))) ∧ w = w' := by
  by_cases h1 : arch = 1
  · subst h1
    go_enter Try.func57, Try.ntmps57
    go_wp2
    go_ret
    exact ⟨rfl, rfl⟩
  · by_cases h2 : arch = 2
    · subst h2
      go_enter Try.func57, Try.ntmps57
      go_wp2
      go_ret
      exact ⟨rfl, rfl⟩
    · have h3 : decide (isArch arch) = false := by unfold isArch; simp [h1, h2]
      rw [h3]; clear h3
      have h4 : (arch == 1) = false := by simp [h1]
      have h5 : (arch == 2) = false := by simp [h2]
      clear h1 h2
      go_enter Try.func57, Try.ntmps57
      go_wp2
      go_ret
      exact ⟨rfl, rfl⟩
set_option maxRecDepth 100000 in
set_option maxHeartbeats 1600000 in
theorem refHas (arch : Int) (e : Edge) (w : World) : Calls Try.prog 58 #[.int .i64 arch, vE e] w (Ret w (.bool (hasE arch e))) := by
  have B0 := al w (.cells #[.int .i64 e.kind, .bool e.ext, .bool e.same, .int .i64 e.src, .int .i64 e.dst, .int .i64 e.fence] 23)
  by_cases h1 : e.kind = 1 ∨ e.kind = 2 ∨ e.kind = 3 ∨ e.kind = 4
  · have h2 : hasE arch e = true := by unfold hasE; rw [if_pos h1]
    rw [h2]; clear h2
    obtain ⟨kd, hkd⟩ : ∃ kd, e.kind = kd := ⟨_, rfl⟩
    rw [hkd] at h1 B0
    show Calls Try.prog _ #[.int .i64 arch, .agg #[.int .i64 e.kind, .bool e.ext, .bool e.same, .int .i64 e.src, .int .i64 e.dst, .int .i64 e.fence]] w _
    rw [hkd]
    clear hkd
    rcases h1 with rfl | rfl | rfl | rfl
    all_goals
      go_enter Try.func58, Try.ntmps58
      go_wp2
      go_ret
      exact ⟨rfl, B0⟩
  · have g1 : (e.kind == 1) = false := by simp; omega
    have g2 : (e.kind == 2) = false := by simp; omega
    have g3 : (e.kind == 3) = false := by simp; omega
    have g4 : (e.kind == 4) = false := by simp; omega
    by_cases h5 : e.kind = 5
    · have g5 : (e.kind == 5) = true := by simp [h5]
      have h2 : hasE arch e = ((e.fence == 1) == (arch == 1)) := by unfold hasE; rw [if_neg h1, if_pos h5]
      rw [h2]; clear h2 h5 h1
      go_enter Try.func58, Try.ntmps58
      go_wp2
      go_ret
      exact ⟨rfl, B0⟩
    · have g5 : (e.kind == 5) = false := by simp [h5]
      have h2 : hasE arch e = (arch == 2) := by unfold hasE; rw [if_neg h1, if_neg h5]
      rw [h2]; clear h2 h5 h1
      go_enter Try.func58, Try.ntmps58
      go_wp2
      go_ret
      exact ⟨rfl, B0⟩
end Go.Proofs.Yteijgmaggmhggaa

/- The walks of Code, Legal, All of the edges (the program's). Conditions: none but those that each theorem names. -/
import Derived.Test.YteijgmaggmhggaaE1
import Derived.Deep.RegionHeld3
namespace Go.Proofs.Yteijgmaggmhggaa
open Go.RowKit
set_option linter.unusedVariables false

attribute [local go_sem high] eqE neqE

set_option maxRecDepth 100000 in
set_option maxHeartbeats 1600000 in
theorem progCode (e : Edge) (w : World) : Calls Try.prog 50 #[vE e] w (Ret w (.tuple #[.int .i64 (codeN e), .int .i64 (errE e)])) := by
  have b0 := Bx.new w e 23
  have B0 := (Below.refl w.heap.size w).alloc (Nat.le_refl _) (.cells #[.int .i64 e.kind, .bool e.ext, .bool e.same, .int .i64 e.src, .int .i64 e.dst, .int .i64 e.fence] 23)
  go_enter Try.func50, Try.ntmps50
  go_wp2_with fail
  go_loopw [5] (fun i wr => ∃ k : Nat, k ≤ 112 ∧ i = .int .i64 k ∧ Hid (∀ j, j < k → ofCode j ≠ e) ∧ Bx wr w.heap.size e ∧ Below w.heap.size w wr) (fun i _ => 112 - (intOf i).toNat)
  case atStart => exact ⟨0, by omega, rfl, hid (fun j h => absurd h (Nat.not_lt_zero j)), b0, B0⟩
  case round =>
    obtain ⟨k, hk, rfl, HK, b, B⟩ := hrel
    by_cases hlt : k < 112
    · go_wp2_with fail
      have b1 : Bx (World.drew _) w.heap.size e := b.below (below_drewN _ 1)
      obtain ⟨c0, c1, c2, c3, c4, c5⟩ := b1.cells
      have B1 : Below w.heap.size w (World.drew _) := B.trans ((below_drewN _ 1).mono B.size)
      go_region_held3 (fun w' => w'.cell? ⟨w.heap.size, 0, none⟩ = some (.int .i64 e.kind) ∧ w'.cell? ⟨w.heap.size, 1, none⟩ = some (.bool e.ext) ∧ w'.cell? ⟨w.heap.size, 2, none⟩ = some (.bool e.same) ∧ w'.cell? ⟨w.heap.size, 3, none⟩ = some (.int .i64 e.src) ∧ w'.cell? ⟨w.heap.size, 4, none⟩ = some (.int .i64 e.dst) ∧ w'.cell? ⟨w.heap.size, 5, none⟩ = some (.int .i64 e.fence)) (first | exact ⟨by assumption, by assumption, by assumption, by assumption, by assumption, by assumption⟩)
        (((go_at_call 52; refine (progMade k hlt _).mono ?_; rintro e' w7 ⟨rfl, E7⟩; have b1 := b1.below E7; obtain ⟨c0, c1, c2, c3, c4, c5⟩ := b1.cells; have B1 := B1.trans (E7.mono B1.size))))
      by_cases he : ofCode k = e
      · have hd : decide (ofCode k = e) = true := decide_eq_true he
        have HE := hid he
        clear he
        go_wp2_with fail
        go_ret2
        have hc := codeOf_eq hlt HE.out
        have h1 : codeN e = (k : Int) := by unfold codeN; rw [hc, if_neg (by omega)]
        have h2 : errE e = 0 := by unfold errE; rw [hc, if_neg (by omega)]
        exact ⟨ret_pair h1.symm h2.symm, B1⟩
      · have hd : decide (ofCode k = e) = false := decide_eq_false he
        have HE := hid he
        clear he
        go_wp2_with fail
        go_roundw
        case rel => exact ⟨k + 1, by omega, by go_num, hid (fun j hj => by
          by_cases h' : j = k
          · subst h'; exact HE.out
          · exact HK.out j (by omega)), b1, B1⟩
        case measure => simp [intOf]; omega
    · go_wp2_with fail
      go_ret2
      have hc := codeOf_none (e := e) (fun j hj => HK.out j (by omega))
      have h1 : codeN e = 0 := by unfold codeN; rw [if_pos hc]
      have h2 : errE e = 30 := by unfold errE; rw [if_pos hc]
      exact ⟨ret_pair h1.symm h2.symm, B⟩

theorem progLegalC (arch : Int) (c : Nat) (w : World) : Calls Try.prog 51 #[.int .i64 arch, .int .i64 c] w fun e w' => e = .returned (.bool (legalC arch c)) ∧ w = w' := by
  by_cases h1 : c < 14
  · have h2 : legalC arch c = true := by unfold legalC; simp [h1]
    rw [h2]; clear h2
    go_enter Try.func51, Try.ntmps51
    go_wp2
    go_ret
    exact ⟨rfl, rfl⟩
  · have h2 : legalC arch c = (decide ((c : Int) < 22) == (arch == 1)) := by
      have h4 : decide ((c : Int) < 22) = decide (c < 22) := decide_eq_decide.2 (by omega)
      unfold legalC; rw [h4]; simp [h1]
    rw [h2]; clear h2
    have h3 : decide ((c : Int) < 14) = false := by simp; omega
    clear h1
    go_enter Try.func51, Try.ntmps51
    go_wp2
    go_ret
    exact ⟨rfl, rfl⟩
theorem progKnown (arch : Int) (w : World) : Calls Try.prog 49 #[.int .i64 arch] w fun e w' => e = .returned (.bool (decide (isArch arch))) ∧ w = w' := by
  by_cases h1 : arch = 1
  · subst h1
    go_enter Try.func49, Try.ntmps49
    go_wp2
    go_ret
    exact ⟨rfl, rfl⟩
  · by_cases h2 : arch = 2
    · subst h2
      go_enter Try.func49, Try.ntmps49
      go_wp2
      go_ret
      exact ⟨rfl, rfl⟩
    · have h3 : decide (isArch arch) = false := by unfold isArch; simp [h1, h2]
      rw [h3]; clear h3
      have h4 : (arch == 1) = false := by simp [h1]
      have h5 : (arch == 2) = false := by simp [h2]
      clear h1 h2
      go_enter Try.func49, Try.ntmps49
      go_wp2
      go_ret
      exact ⟨rfl, rfl⟩
end Go.Proofs.Yteijgmaggmhggaa

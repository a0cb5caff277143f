/- The walk of fence (the document's answer). No condition. -/
import Derived.Test.YtigimkgmghjgoaaGreatDoorS3
import Derived.Test.YtigimkgmghjgoaaGreatDoorMathR6
import Derived.Test.YtigimkgmghjgoaaGreatDoorR13
namespace Go.Proofs.YtigimkgmghjgoaaGreatDoor
open Go.RowKit
set_option linter.unusedVariables false

/-- no fence of these parts among the first k -/
def NoR (p s : Tx) (k : Nat) : Prop := ∀ j : Nat, j < k → ¬ (fpart ((j : Int) / 3) = p ∧ fpart ((j : Int) % 3) = s)
theorem fence_hit {p s : Tx} {k : Nat} (hk : k < 9) (h1 : fpart ((k : Int) / 3) = p) (h2 : fpart ((k : Int) % 3) = s) : fenceV p s = 3 + k := by
  subst h1 h2
  have : ∀ k : Fin 9, fenceV (fpart ((k.val : Int) / 3)) (fpart ((k.val : Int) % 3)) = 3 + (k.val : Int) := by decide +kernel
  exact this ⟨k, hk⟩
theorem fence_miss {p s : Tx} (h : NoR p s 9) : fenceV p s = 0 := by
  unfold fenceV
  cases hp : fpartOf p with
  | none => rfl
  | some a =>
    cases hs : fpartOf s with
    | none => rfl
    | some b =>
      obtain ⟨i, hi, rfl, h1⟩ := fpartOf_some hp
      obtain ⟨j, hj, rfl, h2⟩ := fpartOf_some hs
      exfalso
      have key : ∀ i : Fin 3, ∀ j : Fin 3, ([[114], [119], [114, 119]] : List Tx)[i.val]? = some (fpart (((3 * i.val + j.val : Nat) : Int) / 3)) ∧ ([[114], [119], [114, 119]] : List Tx)[j.val]? = some (fpart (((3 * i.val + j.val : Nat) : Int) % 3)) := by decide +kernel
      obtain ⟨k1, k2⟩ := key ⟨i, hi⟩ ⟨j, hj⟩
      simp only at k1 k2
      rw [h1] at k1; rw [h2] at k2
      exact h (3 * i + j) (by omega) ⟨(Option.some.inj k1).symm, (Option.some.inj k2).symm⟩
theorem NoR.step {p s : Tx} {k : Nat} (h : NoR p s k) (hn : ¬ (fpart ((k : Int) / 3) = p ∧ fpart ((k : Int) % 3) = s)) : NoR p s (k + 1) := by
  intro j hj
  rcases Nat.lt_succ_iff_lt_or_eq.1 hj with h' | h'
  · exact h j h'
  · subst h'; exact hn
set_option maxHeartbeats 1600000 in
theorem refFence (p s : Tx) (w : World) : Calls Tryz.prog 75 #[.string (tx p), .string (tx s)] w fun e w' => e = .returned (.int .i64 (fenceV p s)) ∧ w = w' := by
  go_enter Tryz.func75, Tryz.ntmps75
  go_wp2_with fail
  go_loop [5] (fun i => ∃ k : Nat, k ≤ 9 ∧ i = .int .i64 k ∧ Hid (NoR p s k)) (fun i => 9 - (intOf i).toNat)
  case atStart => exact ⟨0, by omega, rfl, fun j hj => absurd hj (Nat.not_lt_zero j)⟩
  case round =>
    obtain ⟨k, hk, rfl, HN⟩ := hrel
    by_cases hlt : k < 9
    · by_cases h1 : fpart ((k : Int) / 3) = p
      · have z1 : ((tx (fpart ((k : Int) / 3))).toList == (tx p).toList) = true := by rw [tx_beq]; simpa using h1
        by_cases h2 : fpart ((k : Int) % 3) = s
        · have z2 : ((tx (fpart ((k : Int) % 3))).toList == (tx s).toList) = true := by rw [tx_beq]; simpa using h2
          have HR := hid (fence_hit hlt h1 h2)
          clear h1 h2
          go_wp2_with (go_at_call 36; refine (refPart _ _).mono ?_; rintro e w' ⟨rfl, rfl⟩)
          go_ret
          exact ⟨ret_int HR.out.symm, rfl⟩
        · have z2 : ((tx (fpart ((k : Int) % 3))).toList == (tx s).toList) = false := tx_eq_false h2
          have HR := hid (HN.out.step (fun h => h2 h.2))
          clear h1 h2
          go_wp2_with (go_at_call 36; refine (refPart _ _).mono ?_; rintro e w' ⟨rfl, rfl⟩)
          go_round
          case rel => exact ⟨k + 1, by omega, by go_num, HR⟩
          case measure => simp [intOf]; omega
      · have z1 : ((tx (fpart ((k : Int) / 3))).toList == (tx p).toList) = false := tx_eq_false h1
        have HR := hid (HN.out.step (fun h => h1 h.1))
        clear h1
        go_wp2_with (go_at_call 36; refine (refPart _ _).mono ?_; rintro e w' ⟨rfl, rfl⟩)
        go_round
        case rel => exact ⟨k + 1, by omega, by go_num, HR⟩
        case measure => simp [intOf]; omega
    · obtain rfl : k = 9 := by omega
      have HR := hid (fence_miss HN.out)
      go_wp2_with fail
      go_ret
      exact ⟨ret_int HR.out.symm, rfl⟩
end Go.Proofs.YtigimkgmghjgoaaGreatDoor

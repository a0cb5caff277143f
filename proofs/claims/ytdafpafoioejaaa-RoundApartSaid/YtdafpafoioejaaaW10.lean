/- The walks of awake, and of the statements RoundTurns and RoundLeast. Conditions: the lists lie in memory as read; sizes below the reach. -/
import Derived.Test.YtdafpafoioejaaaW9
namespace Go.Proofs.Ytdafpafoioejaaa
open Go.RowKit
set_option linter.unusedVariables false

/-- a list that was just written out -/
theorem ints_lit (w : World) (l : List Int) (n : Nat) (hn : w.heap.size = n) (h : l.length ≤ 9223372036854775807) : Ints (w.alloc (.cells (ints l).toArray 3)) (some ⟨n, 0, none⟩) l := by
  subst hn
  refine ⟨⟨fun _ => rfl, fun i hi => ?_⟩, h⟩
  have hh := heap_alloc_new w (.cells (ints l).toArray 3)
  simp only [World.cell?, bk_some, fo_some, hh]
  simp

theorem al (w : World) (o : Obj) : Below w.heap.size w (w.alloc o) := (Below.refl _ _).alloc (Nat.le_refl _) _

theorem words_112 : words [1, 1, 2] = [3] := by
  have h : IsLongest [1, 1, 2] 3 := ⟨by decide, ⟨by decide, fun k h1 h2 => by
    have : k = 1 ∨ k = 2 := by simp at h2; omega
    rcases this with rfl | rfl <;> decide⟩, fun q hq _ => hq⟩
  have := endsFrom_step 0 [1, 1, 2] 3 h
  simpa [words, endsFrom_nil] using this

set_option maxHeartbeats 800000 in
theorem awake_any (w : World) : Calls Try.prog 20 #[] w (Ret w (.bool true)) := by
  go_enter Try.func20, Try.ntmps20
  go_wp2_with fail
  refine (progCompare [3] [1, 9] _ _ _ _ _ ((ints_lit w [3] _ rfl (by decide)).below (al _ _)) (ints_lit _ [1, 9] _ (by simp) (by decide))).mono ?_
  rintro e w1 ⟨rfl, q1⟩
  rw [show cmp [3] [1, 9] = 1 by decide]
  have B1 : Below w.heap.size w w1 := ext_trans (ext_trans (al _ _) (al _ _)) q1.below
  clear q1
  go_wp2_with fail
  refine (progTurn [1, 2, 3] (-1) _ _ _ (ints_lit w1 [1, 2, 3] _ rfl (by decide)) (by decide) (by decide)).mono ?_
  rintro e w2 ⟨a2, n2, c2, rfl, o2, B2⟩
  rw [show turn [1, 2, 3] (-1) = [3, 1, 2] by decide] at o2
  obtain ⟨r2, rfl⟩ := o2.ints
  have B2' := ext_trans (ext_trans B1 (al _ _)) B2
  clear o2 B1 B2
  go_wp2_with fail
  refine (refAlike [3, 1, 2] [3, 1, 2] _ _ _ _ _ (r2.below (al _ _)) (ints_lit w2 [3, 1, 2] _ rfl (by decide))).mono ?_
  rintro e w3 ⟨rfl, q3⟩
  rw [decide_eq_true rfl]
  have B3 := ext_trans (ext_trans B2' (al _ _)) q3.below
  clear B2' q3 r2
  go_wp2_with fail
  refine (progLeast [2, 1, 3, 1] _ _ _ (ints_lit w3 [2, 1, 3, 1] _ rfl (by decide)) (by decide)).mono ?_
  rintro e w4 ⟨rfl, q4⟩
  rw [show least [2, 1, 3, 1] = 3 by decide]
  have B4 := ext_trans (ext_trans B3 (al _ _)) q4.below
  clear B3 q4
  go_wp2_with fail
  refine (progPeriod [1, 2, 1, 2] _ _ _ (ints_lit w4 [1, 2, 1, 2] _ rfl (by decide)) (by decide)).mono ?_
  rintro e w5 ⟨rfl, B5⟩
  rw [show period [1, 2, 1, 2] = 2 by decide]
  have B5' := ext_trans (ext_trans B4 (al _ _)) B5
  clear B4 B5
  go_wp2_with fail
  refine (progWords [1, 1, 2] _ _ _ (ints_lit w5 [1, 1, 2] _ rfl (by decide)) (by decide)).mono ?_
  rintro e w6 ⟨a6, n6, c6, rfl, o6, B6⟩
  rw [words_112] at o6
  obtain ⟨r6, rfl⟩ := o6.ints
  have B6' := ext_trans (ext_trans B5' (al _ _)) B6
  clear o6 B5' B6
  go_wp2_with fail
  refine (refAlike [3] [3] _ _ _ _ _ (r6.below (al _ _)) (ints_lit w6 [3] _ rfl (by decide))).mono ?_
  rintro e w7 ⟨rfl, q7⟩
  rw [decide_eq_true rfl]
  have B7 := ext_trans (ext_trans B6' (al _ _)) q7.below
  clear B6' q7 r6
  go_wp2_with fail
  go_ret
  exact ⟨rfl, B7⟩
end Go.Proofs.Ytdafpafoioejaaa

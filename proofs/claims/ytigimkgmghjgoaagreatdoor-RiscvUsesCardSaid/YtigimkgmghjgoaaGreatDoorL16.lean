/- The walk of the statement RiscvUses. Conditions: the library's variables as the program's text lays them; lengths that an int holds. -/
import Derived.Test.YtigimkgmghjgoaaGreatDoorR17
import Derived.Test.YtigimkgmghjgoaaGreatDoorU3
namespace Go.Proofs.YtigimkgmghjgoaaGreatDoor
open Go.RowKit
set_option linter.unusedVariables false

theorem usesV_len (i : Ins) : (usesV i).1.length ≤ 2 := by
  unfold usesV usesL
  split
  · simp only
    split
    · simp
    · split
      · simp
      · split
        · simp
        · split <;> simp
  · simp
def RetU3 (L : List Int) (x y : Int) (w : World) (e : Ending) (w' : World) : Prop :=
  ∃ a c, e = .returned (.tuple #[.slice a L.length c, .int .i64 x, .int .i64 y]) ∧ OwnI w' w.heap.size a L.length c L ∧ Below w.heap.size w w'
set_option maxRecDepth 100000 in
set_option maxHeartbeats 6400000 in
theorem lawRiscvUses (i : Ins) (hl : i.label.length ≤ 9223372036854775807) (w : World) (g : Gl w) : Calls Tryz.prog 8 #[vI i] w (Ret w (.bool true)) := by
  have hlen := usesV_len i
  have P1 := fun (w : World) => progUses i hl w
  have R1 := fun (w : World) => refUses i hl w
  obtain ⟨⟨L, x, y⟩, hr⟩ : ∃ r, usesV i = r := ⟨_, rfl⟩
  rw [hr] at hlen P1 R1
  have P1 := hid (show ∀ (w : World), Calls Tryz.prog 30 #[vI i] w (RetU3 L x y w) from P1)
  have R1 := hid (show ∀ (w : World), Calls Tryz.prog 31 #[vI i] w (RetU3 L x y w) from R1)
  have hlen : L.length ≤ 2 := hlen
  have zx : (x != x) = false := by simp
  have zy : (y != y) = false := by simp
  have zx2 : (x == x) = true := by simp
  have zy2 : (y == y) = true := by simp
  have AL := hid (fun (a1 a2 : Option Addr) (c1 c2 : Nat) (w : World) (h1 : Ints w a1 L) (h2 : Ints w a2 L) => refAlike L L a1 a2 c1 c2 w h1 h2)
  rw [decide_eq_true rfl] at AL
  have AW := hid awake10
  have E := al w (mkI i)
  have b := BxI.new w i
  obtain ⟨c0, c1, c2, c3, c4, c5, c6, c7⟩ := b.cells
  clear hr hl
  go_enter Tryz.func8, Tryz.ntmps8
  go_wp2_with fail
  refine (P1.out _).mono ?_
  rintro e w2 ⟨aA, cA, rfl, oA, E2⟩
  have oA := Own.mono oA E.size
  have E := E.trans (E2.mono E.size)
  have b := b.below E2
  clear c0 c1 c2 c3 c4 c5 c6 c7
  obtain ⟨c0, c1, c2, c3, c4, c5, c6, c7⟩ := b.cells
  go_wp2_with fail
  refine (P1.out _).mono ?_
  rintro e w3 ⟨aB, cB, rfl, oB, E3⟩
  have hAB : Apart aA aB := by
    by_cases h1 : aA = none
    · exact .inl h1
    · by_cases h2 : aB = none
      · exact .inr (.inl h2)
      · have := (Own.lt oA h1).2; have := (Own.lt oB h2).1
        exact .inr (.inr (by omega))
  have oA := oA.below E3
  have E := E.trans (E3.mono E.size)
  have b := b.below E3
  clear c0 c1 c2 c3 c4 c5 c6 c7
  obtain ⟨c0, c1, c2, c3, c4, c5, c6, c7⟩ := b.cells
  go_wp2_with fail
  refine (R1.out _).mono ?_
  rintro e w4 ⟨aC, cC, rfl, oC, E4⟩
  have hAC : Apart aA aC := by
    by_cases h1 : aA = none
    · exact .inl h1
    · by_cases h2 : aC = none
      · exact .inr (.inl h2)
      · have := (Own.lt oA h1).2; have := (Own.lt oC h2).1
        exact .inr (.inr (by omega))
  have oA := oA.below E4
  have oB := (Own.below oB E4)
  have E := E.trans (E4.mono E.size)
  clear c0 c1 c2 c3 c4 c5 c6 c7 b
  have iA := oA.ints.1; have iC' := oC.ints.1
  go_wp2_with (go_at_call 19; refine (AL.out _ _ _ _ _ iA iC').mono ?_; rintro e w5 ⟨rfl, q5⟩)
  have Q := q5.below
  have oA := oA.below Q; have oB := Own.below oB Q; have oC := Own.below oC Q
  have E := E.trans (Q.mono E.size)
  clear Q iA iC' q5
  go_wp2_with fail
  refine (refMarked L 1 w.heap.size aA L.length cA _ oA (by omega) (by omega)).mono ?_
  rintro e w7 ⟨rfl, oA7, st⟩
  have oB7 := (Own.step oB st hAB.symm).1
  have oC7 := (Own.step oC st hAC.symm).1
  have E7 := st.below oA E E.size
  clear oA oB oC st E
  generalize hM : List.replicate L.length (-1000000 - 1 : Int) = M at *
  have hml : M.length ≤ 2 := by rw [← hM]; simpa using hlen
  clear hM
  go_wp2_with fail
  refine (refGrown M 1 w.heap.size aA L.length cA _ oA7 E7.size (by omega) (by omega) (by omega)).mono ?_
  rintro e w8 ⟨rfl, oA8, st⟩
  have oB8 := (Own.step oB7 st hAB.symm).1
  have oC8 := (Own.step oC7 st hAC.symm).1
  have E8 := st.below oA7 E7 E7.size
  clear oA7 oB7 oC7 st E7
  have iB := oB8.ints.1; have iC := oC8.ints.1
  go_wp2_with (go_at_call 19; refine (AL.out _ _ _ _ _ iB iC).mono ?_; rintro e wa ⟨rfl, qa⟩)
  have E := E8.trans (qa.below.mono E8.size)
  have gl := g.below E
  go_wp2_with fail
  refine (AW.out _ gl).mono ?_
  rintro e wz ⟨rfl, Ez⟩
  have E := E.trans (Ez.mono E.size)
  go_wp2_with fail
  go_ret
  exact ⟨rfl, E⟩
end Go.Proofs.YtigimkgmghjgoaaGreatDoor

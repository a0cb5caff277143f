/- The walk of the statement RiscvLinks. Condition: the library's variables as the program's text lays them; the instructions lie in memory as read. -/
import Derived.Test.YtigimkgmghjgoaaGreatDoorR17
import Derived.Test.YtigimkgmghjgoaaGreatDoorS12
import Derived.Test.YtigimkgmghjgoaaGreatDoorS13
import Derived.Test.YtigimkgmghjgoaaGreatDoorS14
namespace Go.Proofs.YtigimkgmghjgoaaGreatDoor
open Go.RowKit
set_option linter.unusedVariables false

theorem linksV_len (code : List Ins) : (linksV code).1.length ≤ 256 := by
  unfold linksV
  split
  · simp
  · split
    · simp
    · split
      · simp
      · simp only [outsR_length]; omega
def RetL3 (L : List Int) (x y : Int) (w : World) (e : Ending) (w' : World) : Prop :=
  ∃ a c, e = .returned (.tuple #[.slice a L.length c, .int .i64 x, .int .i64 y]) ∧ OwnI w' w.heap.size a L.length c L ∧ Below w.heap.size w w'
theorem Own.lit0 (w : World) (E size : Nat) : Own (w.alloc (.cells #[] E)) w.heap.size E size (Option.some ⟨w.heap.size, 0, none⟩) 0 0 [] :=
  World.ownsRow_lit w #[] 0 (Nat.le_refl _) (by unfold maxLen; omega) (by simp)
set_option maxRecDepth 100000 in
set_option maxHeartbeats 6400000 in
theorem lawRiscvLinks (code : List Ins) (a : Option Addr) (c : Nat) (w : World) (hI : Is w a code) (hc : code.length ≤ c) (hb : code.length * 80 ≤ 140737488351232) (hL : ∀ i ∈ code, i.label.length ≤ 9223372036854775807) (g : Gl w) :
    Calls Tryz.prog 4 #[.slice a code.length c] w (Ret w (.bool true)) := by
  have hlen := linksV_len code
  have P1 := fun (a : Option Addr) (c : Nat) (h : code.length ≤ c) (w : World) (hI : Is w a code) => progLinks code a c h hL w hI
  have R1 := fun (a : Option Addr) (c : Nat) (w : World) (hI : Is w a code) => refLinks code a c hL w hI
  have SC := hid (fun (a1 a2 : Option Addr) (c1 c2 : Nat) (w : World) (h1 : Is w a1 code) (h2 : Is w a2 code) => refSameCode code code a1 a2 c1 c2 w h1 h2)
  rw [decide_eq_true rfl] at SC
  obtain ⟨⟨L, x, y⟩, hr⟩ : ∃ r, linksV code = r := ⟨_, rfl⟩
  rw [hr] at hlen P1 R1
  obtain ⟨n, hn⟩ : ∃ n, code.length = n := ⟨_, rfl⟩
  have HN := hid hn
  rw [hn] at P1 R1 SC hc hb ⊢
  have P1 := hid (show ∀ (a : Option Addr) (c : Nat), n ≤ c → ∀ (w : World), Is w a code → Calls Tryz.prog 17 #[.slice a n c] w (RetL3 L x y w) from P1)
  have R1 := hid (show ∀ (a : Option Addr) (c : Nat) (w : World), Is w a code → Calls Tryz.prog 18 #[.slice a n c] w (RetL3 L x y w) from R1)
  have hlen : L.length ≤ 256 := hlen
  have zx : (x != x) = false := by simp
  have zy : (y != y) = false := by simp
  have zx2 : (x == x) = true := by simp
  have zy2 : (y == y) = true := by simp
  have AL := hid (fun (a1 a2 : Option Addr) (c1 c2 : Nat) (w : World) (h1 : Ints w a1 L) (h2 : Ints w a2 L) => refAlike L L a1 a2 c1 c2 w h1 h2)
  rw [decide_eq_true rfl] at AL
  have AW := hid awake10
  have o0 := Own.lit0 w 23 8
  have A0 := al w (.cells #[] 23)
  have hI0 := hI.below A0
  have hrow : (insC code).length = n * 8 := by rw [insC_length, hn]
  clear hr hn hL
  go_enter Tryz.func4, Tryz.ntmps4
  go_wp2_with (at_builtin; go_loud (refine wpList_app inl (.tmp 13) (.tmp 14) rfl rfl rfl o0 rfl hI0.row hrow (insC_oneCell _) A0 A0.size (by omega) (by unfold maxLen; omega) ?_))
  intro a1 c1 w1 o1 g1 E1
  have T : OwnN w1 w.heap.size a1 n c1 code := by simpa [OwnN] using o1
  have hc1 := T.cap.1
  have I1 := hI.below E1
  have gl1 := g.below E1
  clear o0 A0 hI0 o1 g1
  have IT := OwnN.is T (by have := HN.out; omega)
  go_wp2_with fail
  refine (P1.out _ _ hc1 _ IT).mono ?_
  rintro e w2 ⟨aA, cA, rfl, oA, E2⟩
  have E := E1.trans (E2.mono E1.size)
  have T2 := T.below E2; have I2 := I1.below E2; have gl2 := gl1.below E2
  have IT2 := OwnN.is T2 (by have := HN.out; omega)
  clear T IT I1 gl1
  go_wp2_with fail
  refine (P1.out _ _ hc1 _ IT2).mono ?_
  rintro e w3 ⟨aB, cB, rfl, oB, E3⟩
  have hAB : Apart aA aB := by
    by_cases h1 : aA = none
    · exact .inl h1
    · by_cases h2 : aB = none
      · exact .inr (.inl h2)
      · have := (Own.lt oA h1).2; have := (Own.lt oB h2).1
        exact .inr (.inr (by omega))
  have oA := (Own.mono oA E1.size).below E3
  have E := E.trans (E3.mono E.size)
  have T3 := T2.below E3; have I3 := I2.below E3; have gl3 := gl2.below E3
  clear T2 IT2 I2 gl2
  go_wp2_with fail
  refine (R1.out _ _ _ I3).mono ?_
  rintro e w4 ⟨aC, cC, rfl, oC, E4⟩
  have hAC : Apart aA aC := by
    by_cases h1 : aA = none
    · exact .inl h1
    · by_cases h2 : aC = none
      · exact .inr (.inl h2)
      · have := (Own.lt oA h1).2; have := (Own.lt oC h2).1
        exact .inr (.inr (by omega))
  have oA := oA.below E4
  have oB := (Own.below oB E4)
  have E := E.trans (E4.mono E.size)
  have T4 := T3.below E4; have I4 := I3.below E4; have gl4 := gl3.below E4
  have IT4 := OwnN.is T4 (by have := HN.out; omega)
  clear T3 I3 gl3
  have iA := oA.ints.1; have iC' := oC.ints.1
  go_wp2_with (go_at_call 19; refine (AL.out _ _ _ _ _ iA iC').mono ?_; rintro e w5 ⟨rfl, q5⟩)
  have Q5 := q5.below
  have IT5 := IT4.below Q5; have I5 := I4.below Q5
  go_wp2_with (go_at_call 20; refine (SC.out _ _ _ _ _ IT5 I5).mono ?_; rintro e w6 ⟨rfl, q6⟩)
  have Q := (ext_trans Q5 q6.below)
  have oA := oA.below Q; have oB := Own.below oB Q; have oC := Own.below oC Q
  have E := E.trans (Q.mono E.size)
  have gl6 := gl4.below Q
  clear IT5 I5 IT4 I4 T4 Q Q5 iA iC' gl4 q5 q6
  go_wp2_with fail
  refine (refMarked L 1 w.heap.size aA L.length cA _ oA (by omega) (by omega)).mono ?_
  rintro e w7 ⟨rfl, oA7, st⟩
  have oB7 := (Own.step oB st hAB.symm).1
  have oC7 := (Own.step oC st hAC.symm).1
  have E7 := st.below oA E E.size
  clear oA oB oC st gl6 E
  generalize hM : List.replicate L.length (-1000000 - 1 : Int) = M at *
  have hml : M.length ≤ 256 := by rw [← hM]; simpa using hlen
  clear hM
  go_wp2_with fail
  refine (refGrown M 1 w.heap.size aA L.length cA _ oA7 E7.size (by omega) (by omega) (by omega)).mono ?_
  rintro e w8 ⟨rfl, oA8, st⟩
  have oB8 := (Own.step oB7 st hAB.symm).1
  have oC8 := (Own.step oC7 st hAC.symm).1
  have E8 := st.below oA7 E7 E7.size
  clear oA7 oB7 oC7 st E7
  go_wp2_with fail
  refine (refHeaped M 1 w.heap.size aA L.length cA _ oA8 E8.size (by omega) (by omega) (by omega)).mono ?_
  rintro e w9 ⟨rfl, oA9, st⟩
  have oB9 := (Own.step oB8 st hAB.symm).1
  have oC9 := (Own.step oC8 st hAC.symm).1
  have E9 := st.below oA8 E8 E8.size
  clear oA8 oB8 oC8 st E8 oA9
  have iB := oB9.ints.1; have iC := oC9.ints.1
  go_wp2_with (go_at_call 19; refine (AL.out _ _ _ _ _ iB iC).mono ?_; rintro e wa ⟨rfl, qa⟩)
  have E := E9.trans (qa.below.mono E9.size)
  have gl := g.below E
  go_wp2_with fail
  refine (AW.out _ gl).mono ?_
  rintro e wz ⟨rfl, Ez⟩
  have E := E.trans (Ez.mono E.size)
  go_wp2_with fail
  go_ret
  exact ⟨rfl, E⟩
end Go.Proofs.YtigimkgmghjgoaaGreatDoor

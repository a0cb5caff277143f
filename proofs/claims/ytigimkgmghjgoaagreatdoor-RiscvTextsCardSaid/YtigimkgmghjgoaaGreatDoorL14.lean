/- The walk of the statement RiscvTexts. Condition: the library's variables as the program's text lays them; lengths that an int holds. -/
import Derived.Test.YtigimkgmghjgoaaGreatDoorR17
import Derived.Test.YtigimkgmghjgoaaGreatDoorS7
import Derived.Test.YtigimkgmghjgoaaGreatDoorS11
import Derived.Lib.QuietBelow
namespace Go.Proofs.YtigimkgmghjgoaaGreatDoor
open Go.RowKit Go.Sort
set_option linter.unusedVariables false

attribute [local go_sem high] eqI neqI
theorem retc {w : World} {v : Value} {P : Program} {f : FuncId} {args : Array Value} (h : Calls P f args w (Ret w v)) : Calls P f args w fun e w' => e = .returned v ∧ Below w.heap.size w w' := h
theorem Gl.regrown {w : World} (h : Gl w) (d : Nat) (os : Array Obj) : Gl (grow (redrawn w d) os) := h.below (below_regrown w d os)
set_option maxRecDepth 100000 in
set_option maxHeartbeats 6400000 in
theorem lawTexts (i : Ins) (s : Tx) (t : Tx) (x y z : Int) (j : Ins) (w : World) (g : Gl w)
    (P1 : ∀ w, Gl w → Calls Tryz.prog 10 #[vI i] w (Ret w (.tuple #[.string (tx t), .int .i64 x])))
    (P2 : ∀ w, Gl w → Calls Tryz.prog 11 #[vI i] w (Ret w (.tuple #[.string (tx t), .int .i64 x])))
    (Q1 : ∀ w, Gl w → Calls Tryz.prog 12 #[.string (tx s)] w (Ret w (.tuple #[vI j, .int .i64 y])))
    (Q2 : ∀ w, Gl w → Calls Tryz.prog 13 #[.string (tx s)] w (Ret w (.tuple #[vI j, .int .i64 y])))
    (C1 : ∀ w, Calls Tryz.prog 14 #[vI i] w (Ret w (.int .i64 z)))
    (C2 : ∀ w, Calls Tryz.prog 15 #[vI i] w (Ret w (.int .i64 z))) :
    Calls Tryz.prog 3 #[vI i, .string (tx s)] w (Ret w (.bool true)) := by
  have P1 := hid P1; have P2 := hid P2; have Q1 := hid Q1; have Q2 := hid Q2; have C1 := hid C1; have C2 := hid C2
  have E := al w (mkI i)
  have b := BxI.new w i
  have g := g.below E
  have z1 : ((tx t).toList == (tx t).toList) = true := by simp
  have z2 : (x == x) = true := by simp
  have z3 : (y == y) = true := by simp
  have z4 : (z == z) = true := by simp
  have hEQ : ∀ w, (binOp .eql 23 (vI j) (vI j)).run Tryz.prog w = .ok (.bool true) w := fun w => by
    have := eqI j j w
    rw [decide_eq_true rfl] at this
    exact this
  go_enter Tryz.func3, Tryz.ntmps3
  go_wp2_with fail
  refine (P1.out _ g).mono ?_
  rintro e w1 ⟨rfl, E1⟩
  have b := b.below E1; have g := g.below E1; have E := E.trans (E1.mono E.size)
  clear E1
  obtain ⟨c0, c1, c2, c3, c4, c5, c6, c7⟩ := b.cells
  go_wp2_with fail
  refine (P2.out _ g).mono ?_
  rintro e w2 ⟨rfl, E2⟩
  have b := b.below E2; have g := g.below E2; have E := E.trans (E2.mono E.size)
  clear E2 c0 c1 c2 c3 c4 c5 c6 c7
  go_wp2_with fail
  refine (Q1.out _ g).mono ?_
  rintro e w3 ⟨rfl, E3⟩
  have b := b.below E3; have g := g.below E3; have E := E.trans (E3.mono E.size)
  clear E3
  have b := b.below (al w3 (mkI j)); have g := g.below (al w3 (mkI j)); have E := bel_alloc E (mkI j)
  have bj := BxI.new w3 j
  go_wp2_with fail
  refine (Q2.out _ g).mono ?_
  rintro e w4 ⟨rfl, E4⟩
  have b := b.below E4; have bj := bj.below E4; have g := g.below E4; have E := E.trans (E4.mono E.size)
  clear E4
  have b := b.below (al w4 (mkI j)); have bj := bj.below (al w4 (mkI j)); have g := g.below (al w4 (mkI j)); have E := bel_alloc E (mkI j)
  have bk := BxI.new w4 j
  generalize hwq : w4.alloc (mkI j) = wq at *
  obtain ⟨c0, c1, c2, c3, c4, c5, c6, c7⟩ := b.cells
  obtain ⟨d0, d1, d2, d3, d4, d5, d6, d7⟩ := bj.cells
  obtain ⟨e0, e1, e2, e3, e4, e5, e6, e7⟩ := bk.cells
  have cA := fun (d : Nat) (os : Array Obj) => Calls.regrown_of (retc (C1.out (grow (redrawn wq d) os)))
  have cB := fun (d : Nat) (os : Array Obj) => Calls.regrown_of (retc (C2.out (grow (redrawn wq d) os)))
  have cC := fun (d : Nat) (os : Array Obj) => Calls.regrown_of (awake10 (grow (redrawn wq d) os) (g.regrown d os))
  have c0 := cell_regrown c0; have c1 := cell_regrown c1; have c2 := cell_regrown c2; have c3 := cell_regrown c3; have c4 := cell_regrown c4; have c5 := cell_regrown c5; have c6 := cell_regrown c6; have c7 := cell_regrown c7
  have d0 := cell_regrown d0; have d1 := cell_regrown d1; have d2 := cell_regrown d2; have d3 := cell_regrown d3; have d4 := cell_regrown d4; have d5 := cell_regrown d5; have d6 := cell_regrown d6; have d7 := cell_regrown d7
  have e0 := cell_regrown e0; have e1 := cell_regrown e1; have e2 := cell_regrown e2; have e3 := cell_regrown e3; have e4 := cell_regrown e4; have e5 := cell_regrown e5; have e6 := cell_regrown e6; have e7 := cell_regrown e7
  go_wp2_with fail
  refine wp_region_quiet_below (by kernel_rfl) (by kernel_rfl) ?_
  repeat (go_big_quiet_step (first | exact cA _ _ | exact cB _ _ | exact cC _ _))
  refine wpQuiet_nil ?_
  intro _ hw'
  obtain ⟨⟨dq, osq⟩, hw''⟩ := hw'
  subst hw''
  have EQ := below_regrown wq dq osq
  have E := E.trans (EQ.mono E.size)
  go_wp2_with fail
  go_ret
  exact ⟨rfl, E⟩
theorem lawRiscvTexts (i : Ins) (s : Tx) (hl : i.label.length ≤ 9223372036854775807) (w : World) (g : Gl w) : Calls Tryz.prog 3 #[vI i, .string (tx s)] w (Ret w (.bool true)) := by
  cases h : checkI i
  · exact lawTexts i s [] 91 _ _ _ w g (fun w _ => progPrint_no i hl h w) (fun w _ => refPrint_no i hl h w) (fun w g => progParse s w g) (fun w _ => refParse s w) (progCheck i hl) (refCheck i hl)
  · exact lawTexts i s (printI i) 0 _ _ _ w g (progPrint_yes i h) (refPrint_yes i h) (fun w g => progParse s w g) (fun w _ => refParse s w) (progCheck i hl) (refCheck i hl)
end Go.Proofs.YtigimkgmghjgoaaGreatDoor

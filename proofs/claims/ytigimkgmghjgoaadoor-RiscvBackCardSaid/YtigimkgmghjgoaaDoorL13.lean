/- The walk of the statement RiscvBack. Condition: the library's variables as the program's text lays them; lengths that an int holds. -/
import Derived.Test.YtigimkgmghjgoaaDoorR17
import Derived.Test.YtigimkgmghjgoaaDoorMathR5
namespace Go.Proofs.YtigimkgmghjgoaaDoor
open Go.RowKit
set_option linter.unusedVariables false

attribute [local go_sem high] eqI neqI
abbrev mkZ : Obj := .cells #[.int .i64 0, .int .i64 0, .int .i64 0, .int .i64 0, .int .i64 0, .string ⟨#[]⟩, .string ⟨#[]⟩, .int .i64 0] 30
theorem bxZ (w : World) : BxI (w.alloc mkZ) w.heap.size ins0 := BxI.new w ins0

set_option maxRecDepth 100000 in
set_option maxHeartbeats 6400000 in
theorem lawBack_yes_none (i : Ins) (s : Tx) (hi : checkI i = true) (hs : parseI s = none) (w : World) (g : Gl w) : Calls Tryd.prog 4 #[vI i, .string (tx s)] w (Ret w (.bool true)) := by
  have PR := hid (fun (w : World) (g : Gl w) => progPrint_yes i hi w g)
  have PA := hid (fun (w : World) (g : Gl w) => (show Calls Tryd.prog 11 #[.string (tx (printI i))] w (Ret w (.tuple #[vI i, .int .i64 0])) by
    have := progParse (printI i) w g
    rw [parse_print i hi] at this
    exact this))
  generalize printI i = t at *
  have PS := hid (fun (w : World) (g : Gl w) => (show Calls Tryd.prog 11 #[.string (tx s)] w (Ret w (.tuple #[.agg #[.int .i64 0, .int .i64 0, .int .i64 0, .int .i64 0, .int .i64 0, .string ⟨#[]⟩, .string ⟨#[]⟩, .int .i64 0], .int .i64 91])) by
    have := progParse s w g
    rw [hs] at this
    exact this))
  have hEQ : ∀ w, (binOp .eql 30 (.agg #[.int .i64 0, .int .i64 0, .int .i64 0, .int .i64 0, .int .i64 0, .string ⟨#[]⟩, .string ⟨#[]⟩, .int .i64 0]) (.agg #[.int .i64 0, .int .i64 0, .int .i64 0, .int .i64 0, .int .i64 0, .string ⟨#[]⟩, .string ⟨#[]⟩, .int .i64 0])).run Tryd.prog w = .ok (.bool true) w := fun w => by
    have := eqI ins0 ins0 w
    rw [decide_eq_true rfl] at this
    exact this
  have AW := hid awake10
  clear hi hs
  have E := al w (mkI i)
  have b := BxI.new w i
  have g := g.below E
  go_enter Tryd.func4, Tryd.ntmps4
  go_wp2_with fail
  refine (PR.out _ g).mono ?_
  rintro e w1 ⟨rfl, E1⟩
  have b := b.below E1; have g := g.below E1; have E := E.trans (E1.mono E.size)
  clear E1
  obtain ⟨c0, c1, c2, c3, c4, c5, c6, c7⟩ := b.cells
  go_wp2_with fail
  refine (PA.out _ g).mono ?_
  rintro e w2 ⟨rfl, E2⟩
  have b := b.below E2; have g := g.below E2; have E := E.trans (E2.mono E.size)
  clear E2 c0 c1 c2 c3 c4 c5 c6 c7
  have b := b.below (al w2 (mkI i)); have g := g.below (al w2 (mkI i)); have E := bel_alloc E (mkI i)
  have bj := BxI.new w2 i
  obtain ⟨c0, c1, c2, c3, c4, c5, c6, c7⟩ := b.cells
  obtain ⟨d0, d1, d2, d3, d4, d5, d6, d7⟩ := bj.cells
  have hlt := b.1
  go_wp2_with fail
  refine (PS.out _ g).mono ?_
  rintro e w4 ⟨rfl, E4⟩
  have g := g.below E4; have E := E.trans (E4.mono E.size)
  clear E4 c0 c1 c2 c3 c4 c5 c6 c7 d0 d1 d2 d3 d4 d5 d6 d7 b bj hlt
  have g := g.below (al w4 (mkZ)); have E := bel_alloc E (mkZ)
  go_wp2_with fail
  refine (AW.out _ g).mono ?_
  rintro e w5 ⟨rfl, E5⟩
  have E := E.trans (E5.mono E.size)
  go_wp2_with fail
  go_ret
  exact ⟨rfl, E⟩
set_option maxRecDepth 100000 in
set_option maxHeartbeats 6400000 in
theorem lawBack_yes_some (i : Ins) (s : Tx) (hi : checkI i = true) (k : Ins) (hs : parseI s = some k) (w : World) (g : Gl w) : Calls Tryd.prog 4 #[vI i, .string (tx s)] w (Ret w (.bool true)) := by
  have PR := hid (fun (w : World) (g : Gl w) => progPrint_yes i hi w g)
  have PA := hid (fun (w : World) (g : Gl w) => (show Calls Tryd.prog 11 #[.string (tx (printI i))] w (Ret w (.tuple #[vI i, .int .i64 0])) by
    have := progParse (printI i) w g
    rw [parse_print i hi] at this
    exact this))
  generalize printI i = t at *
  have PS := hid (fun (w : World) (g : Gl w) => (show Calls Tryd.prog 11 #[.string (tx s)] w (Ret w (.tuple #[vI k, .int .i64 0])) by
    have := progParse s w g
    rw [hs] at this
    exact this))
  have hk := parse_check hs
  have QR := hid (fun (w : World) (g : Gl w) => progPrint_yes k hk w g)
  have QA := hid (fun (w : World) (g : Gl w) => (show Calls Tryd.prog 11 #[.string (tx (printI k))] w (Ret w (.tuple #[vI k, .int .i64 0])) by
    have := progParse (printI k) w g
    rw [parse_print k hk] at this
    exact this))
  generalize printI k = u at *
  have CK := hid (fun (w : World) => (show Calls Tryd.prog 12 #[vI k] w (Ret w (.int .i64 0)) by
    have := progCheck k (by have := checkI_label hk; omega) w
    rwa [errI_yes hk] at this))
  clear hk
  have AW := hid awake10
  clear hi hs
  have E := al w (mkI i)
  have b := BxI.new w i
  have g := g.below E
  go_enter Tryd.func4, Tryd.ntmps4
  go_wp2_with fail
  refine (PR.out _ g).mono ?_
  rintro e w1 ⟨rfl, E1⟩
  have b := b.below E1; have g := g.below E1; have E := E.trans (E1.mono E.size)
  clear E1
  obtain ⟨c0, c1, c2, c3, c4, c5, c6, c7⟩ := b.cells
  go_wp2_with fail
  refine (PA.out _ g).mono ?_
  rintro e w2 ⟨rfl, E2⟩
  have b := b.below E2; have g := g.below E2; have E := E.trans (E2.mono E.size)
  clear E2 c0 c1 c2 c3 c4 c5 c6 c7
  have b := b.below (al w2 (mkI i)); have g := g.below (al w2 (mkI i)); have E := bel_alloc E (mkI i)
  have bj := BxI.new w2 i
  obtain ⟨c0, c1, c2, c3, c4, c5, c6, c7⟩ := b.cells
  obtain ⟨d0, d1, d2, d3, d4, d5, d6, d7⟩ := bj.cells
  have hlt := b.1
  go_wp2_with fail
  refine (PS.out _ g).mono ?_
  rintro e w4 ⟨rfl, E4⟩
  have g := g.below E4; have E := E.trans (E4.mono E.size)
  clear E4 c0 c1 c2 c3 c4 c5 c6 c7 d0 d1 d2 d3 d4 d5 d6 d7 b bj hlt
  have g := g.below (al w4 (mkI k)); have E := bel_alloc E (mkI k)
  have bk := BxI.new w4 k
  obtain ⟨c0, c1, c2, c3, c4, c5, c6, c7⟩ := bk.cells
  go_wp2_with fail
  refine (QR.out _ g).mono ?_
  rintro e w5 ⟨rfl, E5⟩
  have bk := bk.below E5; have g := g.below E5; have E := E.trans (E5.mono E.size)
  clear E5 c0 c1 c2 c3 c4 c5 c6 c7
  go_wp2_with fail
  refine (QA.out _ g).mono ?_
  rintro e w6 ⟨rfl, E6⟩
  have bk := bk.below E6; have g := g.below E6; have E := E.trans (E6.mono E.size)
  clear E6
  have bk := bk.below (al w6 (mkI k)); have g := g.below (al w6 (mkI k)); have E := bel_alloc E (mkI k)
  have bl := BxI.new w6 k
  obtain ⟨c0, c1, c2, c3, c4, c5, c6, c7⟩ := bk.cells
  obtain ⟨d0, d1, d2, d3, d4, d5, d6, d7⟩ := bl.cells
  have hlt := bk.1
  go_wp2_with fail
  refine (CK.out _).mono ?_
  rintro e w7 ⟨rfl, E7⟩
  have g := g.below E7; have E := E.trans (E7.mono E.size)
  clear E7 c0 c1 c2 c3 c4 c5 c6 c7 d0 d1 d2 d3 d4 d5 d6 d7 bk bl hlt
  go_wp2_with fail
  refine (AW.out _ g).mono ?_
  rintro e w8 ⟨rfl, E8⟩
  have E := E.trans (E8.mono E.size)
  go_wp2_with fail
  go_ret
  exact ⟨rfl, E⟩
set_option maxRecDepth 100000 in
set_option maxHeartbeats 6400000 in
theorem lawBack_no_none (i : Ins) (s : Tx) (hi : checkI i = false) (hl : i.label.length ≤ 9223372036854775807) (hs : parseI s = none) (w : World) (g : Gl w) : Calls Tryd.prog 4 #[vI i, .string (tx s)] w (Ret w (.bool true)) := by
  obtain ⟨t, ht⟩ : ∃ t : Tx, t = [] := ⟨_, rfl⟩
  have PR := hid (fun (w : World) (g : Gl w) => (show Calls Tryd.prog 10 #[vI i] w (Ret w (.tuple #[.string (tx t), .int .i64 91])) by rw [ht]; exact progPrint_no i hl hi w))
  have PA := hid (fun (w : World) (g : Gl w) => (show Calls Tryd.prog 11 #[.string (tx t)] w (Ret w (.tuple #[.agg #[.int .i64 0, .int .i64 0, .int .i64 0, .int .i64 0, .int .i64 0, .string ⟨#[]⟩, .string ⟨#[]⟩, .int .i64 0], .int .i64 91])) by
    rw [ht]
    have := progParse [] w g
    rw [parse_empty] at this
    exact this))
  have CI := hid (fun (w : World) => (show Calls Tryd.prog 12 #[vI i] w (Ret w (.int .i64 91)) by
    have := progCheck i hl w
    rwa [errI_no hi] at this))
  have zt : ((tx t).toList != []) = false := by rw [ht, tx_toList]; rfl
  have zt2 : ((tx t).toList == []) = true := by rw [ht, tx_toList]; rfl
  clear ht
  have PS := hid (fun (w : World) (g : Gl w) => (show Calls Tryd.prog 11 #[.string (tx s)] w (Ret w (.tuple #[.agg #[.int .i64 0, .int .i64 0, .int .i64 0, .int .i64 0, .int .i64 0, .string ⟨#[]⟩, .string ⟨#[]⟩, .int .i64 0], .int .i64 91])) by
    have := progParse s w g
    rw [hs] at this
    exact this))
  have hEQ : ∀ w, (binOp .eql 30 (.agg #[.int .i64 0, .int .i64 0, .int .i64 0, .int .i64 0, .int .i64 0, .string ⟨#[]⟩, .string ⟨#[]⟩, .int .i64 0]) (.agg #[.int .i64 0, .int .i64 0, .int .i64 0, .int .i64 0, .int .i64 0, .string ⟨#[]⟩, .string ⟨#[]⟩, .int .i64 0])).run Tryd.prog w = .ok (.bool true) w := fun w => by
    have := eqI ins0 ins0 w
    rw [decide_eq_true rfl] at this
    exact this
  have AW := hid awake10
  clear hi hs hl
  have E := al w (mkI i)
  have b := BxI.new w i
  have g := g.below E
  go_enter Tryd.func4, Tryd.ntmps4
  go_wp2_with fail
  refine (PR.out _ g).mono ?_
  rintro e w1 ⟨rfl, E1⟩
  have b := b.below E1; have g := g.below E1; have E := E.trans (E1.mono E.size)
  clear E1
  obtain ⟨c0, c1, c2, c3, c4, c5, c6, c7⟩ := b.cells
  go_wp2_with fail
  refine (PA.out _ g).mono ?_
  rintro e w2 ⟨rfl, E2⟩
  have b := b.below E2; have g := g.below E2; have E := E.trans (E2.mono E.size)
  clear E2 c0 c1 c2 c3 c4 c5 c6 c7
  have b := b.below (al w2 (mkZ)); have g := g.below (al w2 (mkZ)); have E := bel_alloc E (mkZ)
  have bj := bxZ w2
  obtain ⟨c0, c1, c2, c3, c4, c5, c6, c7⟩ := b.cells
  obtain ⟨d0, d1, d2, d3, d4, d5, d6, d7⟩ := bj.cells
  have hlt := b.1
  go_wp2_with fail
  refine (CI.out _).mono ?_
  rintro e w3 ⟨rfl, E3⟩
  have g := g.below E3; have E := E.trans (E3.mono E.size)
  clear E3 c0 c1 c2 c3 c4 c5 c6 c7 d0 d1 d2 d3 d4 d5 d6 d7 b bj hlt
  go_wp2_with fail
  refine (PS.out _ g).mono ?_
  rintro e w4 ⟨rfl, E4⟩
  have g := g.below E4; have E := E.trans (E4.mono E.size)
  clear E4
  have g := g.below (al w4 (mkZ)); have E := bel_alloc E (mkZ)
  go_wp2_with fail
  refine (AW.out _ g).mono ?_
  rintro e w5 ⟨rfl, E5⟩
  have E := E.trans (E5.mono E.size)
  go_wp2_with fail
  go_ret
  exact ⟨rfl, E⟩
set_option maxRecDepth 100000 in
set_option maxHeartbeats 6400000 in
theorem lawBack_no_some (i : Ins) (s : Tx) (hi : checkI i = false) (hl : i.label.length ≤ 9223372036854775807) (k : Ins) (hs : parseI s = some k) (w : World) (g : Gl w) : Calls Tryd.prog 4 #[vI i, .string (tx s)] w (Ret w (.bool true)) := by
  obtain ⟨t, ht⟩ : ∃ t : Tx, t = [] := ⟨_, rfl⟩
  have PR := hid (fun (w : World) (g : Gl w) => (show Calls Tryd.prog 10 #[vI i] w (Ret w (.tuple #[.string (tx t), .int .i64 91])) by rw [ht]; exact progPrint_no i hl hi w))
  have PA := hid (fun (w : World) (g : Gl w) => (show Calls Tryd.prog 11 #[.string (tx t)] w (Ret w (.tuple #[.agg #[.int .i64 0, .int .i64 0, .int .i64 0, .int .i64 0, .int .i64 0, .string ⟨#[]⟩, .string ⟨#[]⟩, .int .i64 0], .int .i64 91])) by
    rw [ht]
    have := progParse [] w g
    rw [parse_empty] at this
    exact this))
  have CI := hid (fun (w : World) => (show Calls Tryd.prog 12 #[vI i] w (Ret w (.int .i64 91)) by
    have := progCheck i hl w
    rwa [errI_no hi] at this))
  have zt : ((tx t).toList != []) = false := by rw [ht, tx_toList]; rfl
  have zt2 : ((tx t).toList == []) = true := by rw [ht, tx_toList]; rfl
  clear ht
  have PS := hid (fun (w : World) (g : Gl w) => (show Calls Tryd.prog 11 #[.string (tx s)] w (Ret w (.tuple #[vI k, .int .i64 0])) by
    have := progParse s w g
    rw [hs] at this
    exact this))
  have hk := parse_check hs
  have QR := hid (fun (w : World) (g : Gl w) => progPrint_yes k hk w g)
  have QA := hid (fun (w : World) (g : Gl w) => (show Calls Tryd.prog 11 #[.string (tx (printI k))] w (Ret w (.tuple #[vI k, .int .i64 0])) by
    have := progParse (printI k) w g
    rw [parse_print k hk] at this
    exact this))
  generalize printI k = u at *
  have CK := hid (fun (w : World) => (show Calls Tryd.prog 12 #[vI k] w (Ret w (.int .i64 0)) by
    have := progCheck k (by have := checkI_label hk; omega) w
    rwa [errI_yes hk] at this))
  clear hk
  have AW := hid awake10
  clear hi hs hl
  have E := al w (mkI i)
  have b := BxI.new w i
  have g := g.below E
  go_enter Tryd.func4, Tryd.ntmps4
  go_wp2_with fail
  refine (PR.out _ g).mono ?_
  rintro e w1 ⟨rfl, E1⟩
  have b := b.below E1; have g := g.below E1; have E := E.trans (E1.mono E.size)
  clear E1
  obtain ⟨c0, c1, c2, c3, c4, c5, c6, c7⟩ := b.cells
  go_wp2_with fail
  refine (PA.out _ g).mono ?_
  rintro e w2 ⟨rfl, E2⟩
  have b := b.below E2; have g := g.below E2; have E := E.trans (E2.mono E.size)
  clear E2 c0 c1 c2 c3 c4 c5 c6 c7
  have b := b.below (al w2 (mkZ)); have g := g.below (al w2 (mkZ)); have E := bel_alloc E (mkZ)
  have bj := bxZ w2
  obtain ⟨c0, c1, c2, c3, c4, c5, c6, c7⟩ := b.cells
  obtain ⟨d0, d1, d2, d3, d4, d5, d6, d7⟩ := bj.cells
  have hlt := b.1
  go_wp2_with fail
  refine (CI.out _).mono ?_
  rintro e w3 ⟨rfl, E3⟩
  have g := g.below E3; have E := E.trans (E3.mono E.size)
  clear E3 c0 c1 c2 c3 c4 c5 c6 c7 d0 d1 d2 d3 d4 d5 d6 d7 b bj hlt
  go_wp2_with fail
  refine (PS.out _ g).mono ?_
  rintro e w4 ⟨rfl, E4⟩
  have g := g.below E4; have E := E.trans (E4.mono E.size)
  clear E4
  have g := g.below (al w4 (mkI k)); have E := bel_alloc E (mkI k)
  have bk := BxI.new w4 k
  obtain ⟨c0, c1, c2, c3, c4, c5, c6, c7⟩ := bk.cells
  go_wp2_with fail
  refine (QR.out _ g).mono ?_
  rintro e w5 ⟨rfl, E5⟩
  have bk := bk.below E5; have g := g.below E5; have E := E.trans (E5.mono E.size)
  clear E5 c0 c1 c2 c3 c4 c5 c6 c7
  go_wp2_with fail
  refine (QA.out _ g).mono ?_
  rintro e w6 ⟨rfl, E6⟩
  have bk := bk.below E6; have g := g.below E6; have E := E.trans (E6.mono E.size)
  clear E6
  have bk := bk.below (al w6 (mkI k)); have g := g.below (al w6 (mkI k)); have E := bel_alloc E (mkI k)
  have bl := BxI.new w6 k
  obtain ⟨c0, c1, c2, c3, c4, c5, c6, c7⟩ := bk.cells
  obtain ⟨d0, d1, d2, d3, d4, d5, d6, d7⟩ := bl.cells
  have hlt := bk.1
  go_wp2_with fail
  refine (CK.out _).mono ?_
  rintro e w7 ⟨rfl, E7⟩
  have g := g.below E7; have E := E.trans (E7.mono E.size)
  clear E7 c0 c1 c2 c3 c4 c5 c6 c7 d0 d1 d2 d3 d4 d5 d6 d7 bk bl hlt
  go_wp2_with fail
  refine (AW.out _ g).mono ?_
  rintro e w8 ⟨rfl, E8⟩
  have E := E.trans (E8.mono E.size)
  go_wp2_with fail
  go_ret
  exact ⟨rfl, E⟩
theorem lawRiscvBack (i : Ins) (s : Tx) (hl : i.label.length ≤ 9223372036854775807) (w : World) (g : Gl w) : Calls Tryd.prog 4 #[vI i, .string (tx s)] w (Ret w (.bool true)) := by
  cases hi : checkI i
  · cases hs : parseI s with
    | none => exact lawBack_no_none i s hi hl hs w g
    | some k => exact lawBack_no_some i s hi hl k hs w g
  · cases hs : parseI s with
    | none => exact lawBack_yes_none i s hi hs w g
    | some k => exact lawBack_yes_some i s hi k hs w g
end Go.Proofs.YtigimkgmghjgoaaDoor

/- The walks of names, Reg and Print of x86 instructions (the document's answer). Conditions: the library's variables as the program's text lays them. The walks of names and register (cond), of Reg and ThingText (the document's answer 08). Conditions: the library's variables as the program's text lays them. The walk of Print of a condition (the document's answer 08). Conditions: the nodes lie in memory as read; the library's variables as the program's text lays them. The walks of things, Clone of things, and Things (cond). Conditions: the nodes lie in memory as read. The walks of Things (cond) and of Before, gather, Things (the document's answer 08). Conditions: the nodes lie in memory as read. The walk of put (document). Conditions: the row is the call's own. The walk of locs (document). Conditions: the test lies in memory as read; few lines. The walk of asked (document). Conditions: the test lies in memory as read. The walks of the document's answer: isReg, letter, digit, isNumber, blank, part, isName. Conditions: lengths that an int holds. -/
import Derived.Test.YthaibjefnclkjaaGreatDoorZ13
import Derived.Test.YthaibjefnclkjaaGreatDoorZ11
import Derived.Deep.RegionHeld3
import Derived.Test.YthaibjefnclkjaaGreatDoorZ4
import Derived.Test.YthaibjefnclkjaaGreatDoorZ7
import Derived.Test.YthaibjefnclkjaaGreatDoorZ8
import Derived.Test.YthaibjefnclkjaaGreatDoorZ12
import Derived.Test.YthaibjefnclkjaaGreatDoorZ5
import Derived.Lib.QuietBelow
import Derived.Test.YthaibjefnclkjaaGreatDoorZ2
namespace Go.Proofs.YthaibjefnclkjaaGreatDoor
open Go.RowKit Go.Sort
set_option linter.unusedVariables false

theorem namesX_get {k : Nat} (h : k < 15) (h' : k < namesX.length) : namesX[k] = regX k := by
  unfold regX; rw [List.getD_eq_getElem?_getD, List.getElem?_eq_getElem h']; rfl
/-- the registers' names, in memory -/
structure NamesX (w : World) (a : Option Addr) : Prop where
  txs : Txs w a namesX
theorem NamesX.cell {w : World} {a : Option Addr} (h : NamesX w a) {k : Nat} (hk : k < 15) : w.cell? ⟨bk a, fo a + k, none⟩ = some (.string (tx (regX k))) := by
  rw [h.txs.cell k (show k < namesX.length from hk), namesX_get hk]
theorem NamesX.idx {w : World} {a : Option Addr} (h : NamesX w a) {k : Nat} (hk : k < 15) : ∀ w', (Instr.indexAt 44 (.slice a 15 15) (.int .i64 k)).run Tryz.prog w' = .ok (.pointer (some ⟨bk a, fo a + k, none⟩)) w' := h.txs.idx k hk 15
theorem NamesX.below {w w' : World} {a : Option Addr} (h : NamesX w a) (hb : Below w.heap.size w w') : NamesX w' a := ⟨h.txs.below hb⟩
theorem r9Names (w : World) : Calls Tryz.prog 62 #[] w fun e w' => ∃ a, e = .returned (.slice a 15 15) ∧ NamesX w' a ∧ Below w.heap.size w w' := by
  have E := al w (.cells #[.string ⟨#[69, 65, 88]⟩, .string ⟨#[69, 66, 88]⟩, .string ⟨#[69, 67, 88]⟩, .string ⟨#[69, 68, 88]⟩, .string ⟨#[69, 83, 73]⟩, .string ⟨#[69, 68, 73]⟩, .string ⟨#[69, 66, 80]⟩, .string ⟨#[82, 56, 68]⟩, .string ⟨#[82, 57, 68]⟩, .string ⟨#[82, 49, 48, 68]⟩, .string ⟨#[82, 49, 49, 68]⟩, .string ⟨#[82, 49, 50, 68]⟩, .string ⟨#[82, 49, 51, 68]⟩, .string ⟨#[82, 49, 52, 68]⟩, .string ⟨#[82, 49, 53, 68]⟩] 9)
  go_enter Tryz.func62, Tryz.ntmps62
  go_wp2_with fail
  go_ret
  refine ⟨_, rfl, ⟨⟨⟨fun _ => rfl, fun i hi => ?_⟩, by decide⟩⟩, E⟩
  simp only [World.cell?, bk_some, fo_some, heap_alloc_new, Nat.zero_add]
  rw [if_neg (by simp)]
  exact List.getElem?_toArray
set_option maxRecDepth 100000 in
set_option maxHeartbeats 6400000 in
theorem r9Print_1 (loc : Tx) (hn : nameB loc = true) (imm : Int) (hb : n32B imm = true) (hc : checkX ⟨1, 0, 0, 0, imm, loc, [], 0⟩ = true) (w : World) (g : Gl w) :
    Calls Tryz.prog 26 #[vI ⟨1, 0, 0, 0, imm, loc, [], 0⟩] w (Ret w (.tuple #[.string (tx (printX ⟨1, 0, 0, 0, imm, loc, [], 0⟩)), .int .i64 0])) := by
  have E1 := al w (mkI ⟨1, 0, 0, 0, imm, loc, [], 0⟩)
  have b0 := BxI.new w ⟨1, 0, 0, 0, imm, loc, [], 0⟩
  have g := g.below E1
  have HE := hid (errX_yes hc)
  have ll := (nameB_cl hn).2
  have li := itoa_len hb; have hbs := n32B_spec hb
  have HLL : (⟨1, 0, 0, 0, imm, loc, [], 0⟩ : Ins).loc.length ≤ 9223372036854775807 := by simp <;> omega
  obtain ⟨t1, ht1⟩ : ∃ t : Tx, [77, 79, 86, 32, 91] ++ (loc) = t := ⟨_, rfl⟩
  have n1 : t1.length = _ := (congrArg List.length ht1).symm.trans List.length_append
  have m1 : t1.length ≤ 100 := by rw [n1]; (try simp only [List.length_cons, List.length_nil]); omega
  have c1 : ∀ w, (Op.stringOp .add ⟨#[77, 79, 86, 32, 91]⟩ (tx (loc))).run Tryz.prog w = .ok (.string (tx t1)) w := run_catT [77, 79, 86, 32, 91] (loc) t1 ht1 (by omega)
  clear n1
  obtain ⟨t2, ht2⟩ : ∃ t : Tx, t1 ++ [93, 44, 36] = t := ⟨_, rfl⟩
  have n2 : t2.length = _ := (congrArg List.length ht2).symm.trans List.length_append
  have m2 : t2.length ≤ 150 := by rw [n2]; (try simp only [List.length_cons, List.length_nil]); omega
  have c2 : ∀ w, (Op.stringOp .add (tx t1) ⟨#[93, 44, 36]⟩).run Tryz.prog w = .ok (.string (tx t2)) w := run_catT t1 [93, 44, 36] t2 ht2 (by omega)
  clear n2
  obtain ⟨t3, ht3⟩ : ∃ t : Tx, t2 ++ (Lib.itoa imm) = t := ⟨_, rfl⟩
  have n3 : t3.length = _ := (congrArg List.length ht3).symm.trans List.length_append
  have m3 : t3.length ≤ 200 := by rw [n3]; (try simp only [List.length_cons, List.length_nil]); omega
  have c3 : ∀ w, (Op.stringOp .add (tx t2) (tx (Lib.itoa imm))).run Tryz.prog w = .ok (.string (tx t3)) w := run_catT t2 (Lib.itoa imm) t3 ht3 (by omega)
  clear n3
  have HP := hid (show printX ⟨1, 0, 0, 0, imm, loc, [], 0⟩ = t3 by rw [← ht3, ← ht2, ← ht1]; rfl)
  clear ht1 ht2 ht3 hc hn hb
  go_enter Tryz.func26, Tryz.ntmps26
  go_wp2_with fail
  refine (r9Check ⟨1, 0, 0, 0, imm, loc, [], 0⟩ HLL _).mono ?_
  rintro x w1 ⟨rfl, E⟩
  rw [HE.out]
  have bb := b0.below E; have g := g.below E
  have B := E1.trans (E.mono E1.size)
  obtain ⟨q0, q1, q2, q3, q4, q5, q6, q7⟩ := bb.cells
  clear b0 bb E1 E
  go_wp2_with fail
  have cA := fun (d : Nat) (os : Array Obj) => Calls.regrown_of (retc' (itoa_any imm (by omega) (by omega) (grow (redrawn w1 d) os) (g.below (below_regrown w1 d os))))
  have q1 := cell_regrown q1; have q2 := cell_regrown q2; have q4 := cell_regrown q4; have q5 := cell_regrown q5
  refine wp_region_quiet_below (by kernel_rfl) (by kernel_rfl) ?_
  repeat (go_big_quiet_step (exact cA _ _))
  refine wpQuiet_nil ?_
  intro _ hw'
  obtain ⟨⟨dq, osq⟩, hw''⟩ := hw'
  subst hw''
  have EQ' := below_regrown w1 dq osq
  have EZ := B.trans (EQ'.mono B.size)
  generalize grow (redrawn w1 dq) osq = wq at *
  go_wp2_with fail
  go_ret2
  exact ⟨ret_spair (by rw [HP.out]) rfl, EZ⟩
set_option maxRecDepth 100000 in
set_option maxHeartbeats 6400000 in
theorem r9Print_2 (loc : Tx) (hn : nameB loc = true) (a : Nat) (ha : a < 15) (hc : checkX ⟨2, 0, (a : Int), 0, 0, loc, [], 0⟩ = true) (w : World) (g : Gl w) :
    Calls Tryz.prog 26 #[vI ⟨2, 0, (a : Int), 0, 0, loc, [], 0⟩] w (Ret w (.tuple #[.string (tx (printX ⟨2, 0, (a : Int), 0, 0, loc, [], 0⟩)), .int .i64 0])) := by
  have E1 := al w (mkI ⟨2, 0, (a : Int), 0, 0, loc, [], 0⟩)
  have b0 := BxI.new w ⟨2, 0, (a : Int), 0, 0, loc, [], 0⟩
  have g := g.below E1
  have HE := hid (errX_yes hc)
  have ll := (nameB_cl hn).2
  have la := regX_len ha; have h0 : (0 : Int) ≤ (a : Int) := by omega
  have h1 : (a : Int) < 15 := by omega
  have HLL : (⟨2, 0, (a : Int), 0, 0, loc, [], 0⟩ : Ins).loc.length ≤ 9223372036854775807 := by simp <;> omega
  obtain ⟨t1, ht1⟩ : ∃ t : Tx, [77, 79, 86, 32, 91] ++ (loc) = t := ⟨_, rfl⟩
  have n1 : t1.length = _ := (congrArg List.length ht1).symm.trans List.length_append
  have m1 : t1.length ≤ 100 := by rw [n1]; (try simp only [List.length_cons, List.length_nil]); omega
  have c1 : ∀ w, (Op.stringOp .add ⟨#[77, 79, 86, 32, 91]⟩ (tx (loc))).run Tryz.prog w = .ok (.string (tx t1)) w := run_catT [77, 79, 86, 32, 91] (loc) t1 ht1 (by omega)
  clear n1
  obtain ⟨t2, ht2⟩ : ∃ t : Tx, t1 ++ [93, 44] = t := ⟨_, rfl⟩
  have n2 : t2.length = _ := (congrArg List.length ht2).symm.trans List.length_append
  have m2 : t2.length ≤ 150 := by rw [n2]; (try simp only [List.length_cons, List.length_nil]); omega
  have c2 : ∀ w, (Op.stringOp .add (tx t1) ⟨#[93, 44]⟩).run Tryz.prog w = .ok (.string (tx t2)) w := run_catT t1 [93, 44] t2 ht2 (by omega)
  clear n2
  obtain ⟨t3, ht3⟩ : ∃ t : Tx, t2 ++ (regX a) = t := ⟨_, rfl⟩
  have n3 : t3.length = _ := (congrArg List.length ht3).symm.trans List.length_append
  have m3 : t3.length ≤ 200 := by rw [n3]; (try simp only [List.length_cons, List.length_nil]); omega
  have c3 : ∀ w, (Op.stringOp .add (tx t2) (tx (regX a))).run Tryz.prog w = .ok (.string (tx t3)) w := run_catT t2 (regX a) t3 ht3 (by omega)
  clear n3
  have HP := hid (show printX ⟨2, 0, (a : Int), 0, 0, loc, [], 0⟩ = t3 by rw [← ht3, ← ht2, ← ht1]; simp [printX, rX_nat])
  clear ht1 ht2 ht3 hc hn
  go_enter Tryz.func26, Tryz.ntmps26
  go_wp2_with fail
  refine (r9Check ⟨2, 0, (a : Int), 0, 0, loc, [], 0⟩ HLL _).mono ?_
  rintro x w1 ⟨rfl, E⟩
  rw [HE.out]
  have bb := b0.below E; have g := g.below E
  have B := E1.trans (E.mono E1.size)
  obtain ⟨q0, q1, q2, q3, q4, q5, q6, q7⟩ := bb.cells
  clear b0 bb E1 E
  go_wp2_with fail
  obtain ⟨wo, hwo⟩ : ∃ wo : World, wo = w1.drew := ⟨_, rfl⟩
  have B : Below w.heap.size w wo := by rw [hwo]; exact bel_drew B
  have g : Gl wo := by rw [hwo]; exact g.below (below_drewN w1 1)
  have q2 : wo.cell? ⟨w.heap.size, 2, none⟩ = some (.int .i64 (a : Int)) := by rw [hwo]; simpa using q2
  have q5 : wo.cell? ⟨w.heap.size, 5, none⟩ = some (.string (tx loc)) := by rw [hwo]; simpa using q5
  subst hwo
  have HA := hid ha
  clear ha
  clear HE ll la HLL m1 m2 m3 q0 q1 q3 q4 q6 q7
  go_region_with
    (first
      | (go_at_call 62; refine (r9Names _).mono ?_; rintro e w4 ⟨an, rfl, T, E4⟩; have ix := T.idx HA.out; have cx := T.cell HA.out; have q2 := (E4.cell (cell?_lt q2)).trans q2; have q5 := (E4.cell (cell?_lt q5)).trans q5; have B := ext_trans B E4; have g := g.below E4; clear E4 T)
      | (go_at_call 30; refine (itoa_any imm (by omega) (by omega) _ g).mono ?_; rintro e w5 ⟨rfl, E5⟩; have q2 := (E5.cell (cell?_lt q2)).trans q2; have q5 := (E5.cell (cell?_lt q5)).trans q5; (try (have cx := (E5.cell (cell?_lt cx)).trans cx)); have B := ext_trans B E5; have g := g.below E5; clear E5))
  all_goals
    go_wp2_with fail
    (try go_simp)
    go_ret2
    exact ⟨ret_spair (by rw [HP.out]) rfl, by with_reducible assumption⟩
set_option maxRecDepth 100000 in
set_option maxHeartbeats 6400000 in
theorem r9Print_3 (loc : Tx) (hn : nameB loc = true) (a : Nat) (ha : a < 15) (hc : checkX ⟨3, (a : Int), 0, 0, 0, loc, [], 0⟩ = true) (w : World) (g : Gl w) :
    Calls Tryz.prog 26 #[vI ⟨3, (a : Int), 0, 0, 0, loc, [], 0⟩] w (Ret w (.tuple #[.string (tx (printX ⟨3, (a : Int), 0, 0, 0, loc, [], 0⟩)), .int .i64 0])) := by
  have E1 := al w (mkI ⟨3, (a : Int), 0, 0, 0, loc, [], 0⟩)
  have b0 := BxI.new w ⟨3, (a : Int), 0, 0, 0, loc, [], 0⟩
  have g := g.below E1
  have HE := hid (errX_yes hc)
  have ll := (nameB_cl hn).2
  have la := regX_len ha; have h0 : (0 : Int) ≤ (a : Int) := by omega
  have h1 : (a : Int) < 15 := by omega
  have HLL : (⟨3, (a : Int), 0, 0, 0, loc, [], 0⟩ : Ins).loc.length ≤ 9223372036854775807 := by simp <;> omega
  obtain ⟨t1, ht1⟩ : ∃ t : Tx, [77, 79, 86, 32] ++ (regX a) = t := ⟨_, rfl⟩
  have n1 : t1.length = _ := (congrArg List.length ht1).symm.trans List.length_append
  have m1 : t1.length ≤ 100 := by rw [n1]; (try simp only [List.length_cons, List.length_nil]); omega
  have c1 : ∀ w, (Op.stringOp .add ⟨#[77, 79, 86, 32]⟩ (tx (regX a))).run Tryz.prog w = .ok (.string (tx t1)) w := run_catT [77, 79, 86, 32] (regX a) t1 ht1 (by omega)
  clear n1
  obtain ⟨t2, ht2⟩ : ∃ t : Tx, t1 ++ [44, 91] = t := ⟨_, rfl⟩
  have n2 : t2.length = _ := (congrArg List.length ht2).symm.trans List.length_append
  have m2 : t2.length ≤ 150 := by rw [n2]; (try simp only [List.length_cons, List.length_nil]); omega
  have c2 : ∀ w, (Op.stringOp .add (tx t1) ⟨#[44, 91]⟩).run Tryz.prog w = .ok (.string (tx t2)) w := run_catT t1 [44, 91] t2 ht2 (by omega)
  clear n2
  obtain ⟨t3, ht3⟩ : ∃ t : Tx, t2 ++ (loc) = t := ⟨_, rfl⟩
  have n3 : t3.length = _ := (congrArg List.length ht3).symm.trans List.length_append
  have m3 : t3.length ≤ 200 := by rw [n3]; (try simp only [List.length_cons, List.length_nil]); omega
  have c3 : ∀ w, (Op.stringOp .add (tx t2) (tx (loc))).run Tryz.prog w = .ok (.string (tx t3)) w := run_catT t2 (loc) t3 ht3 (by omega)
  clear n3
  obtain ⟨t4, ht4⟩ : ∃ t : Tx, t3 ++ [93] = t := ⟨_, rfl⟩
  have n4 : t4.length = _ := (congrArg List.length ht4).symm.trans List.length_append
  have m4 : t4.length ≤ 250 := by rw [n4]; (try simp only [List.length_cons, List.length_nil]); omega
  have c4 : ∀ w, (Op.stringOp .add (tx t3) ⟨#[93]⟩).run Tryz.prog w = .ok (.string (tx t4)) w := run_catT t3 [93] t4 ht4 (by omega)
  clear n4
  have HP := hid (show printX ⟨3, (a : Int), 0, 0, 0, loc, [], 0⟩ = t4 by rw [← ht4, ← ht3, ← ht2, ← ht1]; simp [printX, rX_nat])
  clear ht1 ht2 ht3 ht4 hc hn
  go_enter Tryz.func26, Tryz.ntmps26
  go_wp2_with fail
  refine (r9Check ⟨3, (a : Int), 0, 0, 0, loc, [], 0⟩ HLL _).mono ?_
  rintro x w1 ⟨rfl, E⟩
  rw [HE.out]
  have bb := b0.below E; have g := g.below E
  have B := E1.trans (E.mono E1.size)
  obtain ⟨q0, q1, q2, q3, q4, q5, q6, q7⟩ := bb.cells
  clear b0 bb E1 E
  go_wp2_with fail
  obtain ⟨wo, hwo⟩ : ∃ wo : World, wo = w1.drew := ⟨_, rfl⟩
  have B : Below w.heap.size w wo := by rw [hwo]; exact bel_drew B
  have g : Gl wo := by rw [hwo]; exact g.below (below_drewN w1 1)
  have q1 : wo.cell? ⟨w.heap.size, 1, none⟩ = some (.int .i64 (a : Int)) := by rw [hwo]; simpa using q1
  have q5 : wo.cell? ⟨w.heap.size, 5, none⟩ = some (.string (tx loc)) := by rw [hwo]; simpa using q5
  subst hwo
  have HA := hid ha
  clear ha
  clear HE ll la HLL m1 m2 m3 m4 q0 q2 q3 q4 q6 q7
  go_region_with
    (first
      | (go_at_call 62; refine (r9Names _).mono ?_; rintro e w4 ⟨an, rfl, T, E4⟩; have ix := T.idx HA.out; have cx := T.cell HA.out; have q1 := (E4.cell (cell?_lt q1)).trans q1; have q5 := (E4.cell (cell?_lt q5)).trans q5; have B := ext_trans B E4; have g := g.below E4; clear E4 T)
      | (go_at_call 30; refine (itoa_any imm (by omega) (by omega) _ g).mono ?_; rintro e w5 ⟨rfl, E5⟩; have q1 := (E5.cell (cell?_lt q1)).trans q1; have q5 := (E5.cell (cell?_lt q5)).trans q5; (try (have cx := (E5.cell (cell?_lt cx)).trans cx)); have B := ext_trans B E5; have g := g.below E5; clear E5))
  all_goals
    go_wp2_with fail
    (try go_simp)
    go_ret2
    exact ⟨ret_spair (by rw [HP.out]) rfl, by with_reducible assumption⟩
set_option maxRecDepth 100000 in
set_option maxHeartbeats 6400000 in
theorem r9Print_4 (imm : Int) (hb : n32B imm = true) (a : Nat) (ha : a < 15) (hc : checkX ⟨4, (a : Int), 0, 0, imm, [], [], 0⟩ = true) (w : World) (g : Gl w) :
    Calls Tryz.prog 26 #[vI ⟨4, (a : Int), 0, 0, imm, [], [], 0⟩] w (Ret w (.tuple #[.string (tx (printX ⟨4, (a : Int), 0, 0, imm, [], [], 0⟩)), .int .i64 0])) := by
  have E1 := al w (mkI ⟨4, (a : Int), 0, 0, imm, [], [], 0⟩)
  have b0 := BxI.new w ⟨4, (a : Int), 0, 0, imm, [], [], 0⟩
  have g := g.below E1
  have HE := hid (errX_yes hc)
  have li := itoa_len hb; have hbs := n32B_spec hb
  have la := regX_len ha; have h0 : (0 : Int) ≤ (a : Int) := by omega
  have h1 : (a : Int) < 15 := by omega
  have HLL : (⟨4, (a : Int), 0, 0, imm, [], [], 0⟩ : Ins).loc.length ≤ 9223372036854775807 := by simp
  obtain ⟨t1, ht1⟩ : ∃ t : Tx, [77, 79, 86, 32] ++ (regX a) = t := ⟨_, rfl⟩
  have n1 : t1.length = _ := (congrArg List.length ht1).symm.trans List.length_append
  have m1 : t1.length ≤ 100 := by rw [n1]; (try simp only [List.length_cons, List.length_nil]); omega
  have c1 : ∀ w, (Op.stringOp .add ⟨#[77, 79, 86, 32]⟩ (tx (regX a))).run Tryz.prog w = .ok (.string (tx t1)) w := run_catT [77, 79, 86, 32] (regX a) t1 ht1 (by omega)
  clear n1
  obtain ⟨t2, ht2⟩ : ∃ t : Tx, t1 ++ [44, 36] = t := ⟨_, rfl⟩
  have n2 : t2.length = _ := (congrArg List.length ht2).symm.trans List.length_append
  have m2 : t2.length ≤ 150 := by rw [n2]; (try simp only [List.length_cons, List.length_nil]); omega
  have c2 : ∀ w, (Op.stringOp .add (tx t1) ⟨#[44, 36]⟩).run Tryz.prog w = .ok (.string (tx t2)) w := run_catT t1 [44, 36] t2 ht2 (by omega)
  clear n2
  obtain ⟨t3, ht3⟩ : ∃ t : Tx, t2 ++ (Lib.itoa imm) = t := ⟨_, rfl⟩
  have n3 : t3.length = _ := (congrArg List.length ht3).symm.trans List.length_append
  have m3 : t3.length ≤ 200 := by rw [n3]; (try simp only [List.length_cons, List.length_nil]); omega
  have c3 : ∀ w, (Op.stringOp .add (tx t2) (tx (Lib.itoa imm))).run Tryz.prog w = .ok (.string (tx t3)) w := run_catT t2 (Lib.itoa imm) t3 ht3 (by omega)
  clear n3
  have HP := hid (show printX ⟨4, (a : Int), 0, 0, imm, [], [], 0⟩ = t3 by rw [← ht3, ← ht2, ← ht1]; simp [printX, rX_nat])
  clear ht1 ht2 ht3 hc hb
  go_enter Tryz.func26, Tryz.ntmps26
  go_wp2_with fail
  refine (r9Check ⟨4, (a : Int), 0, 0, imm, [], [], 0⟩ HLL _).mono ?_
  rintro x w1 ⟨rfl, E⟩
  rw [HE.out]
  have bb := b0.below E; have g := g.below E
  have B := E1.trans (E.mono E1.size)
  obtain ⟨q0, q1, q2, q3, q4, q5, q6, q7⟩ := bb.cells
  clear b0 bb E1 E
  go_wp2_with fail
  obtain ⟨wo, hwo⟩ : ∃ wo : World, wo = w1.drew := ⟨_, rfl⟩
  have B : Below w.heap.size w wo := by rw [hwo]; exact bel_drew B
  have g : Gl wo := by rw [hwo]; exact g.below (below_drewN w1 1)
  have q1 : wo.cell? ⟨w.heap.size, 1, none⟩ = some (.int .i64 (a : Int)) := by rw [hwo]; simpa using q1
  have q4 : wo.cell? ⟨w.heap.size, 4, none⟩ = some (.int .i64 imm) := by rw [hwo]; simpa using q4
  subst hwo
  have HA := hid ha
  clear ha
  clear HE li la HLL m1 m2 m3 q0 q2 q3 q5 q6 q7
  go_region_with
    (first
      | (go_at_call 62; refine (r9Names _).mono ?_; rintro e w4 ⟨an, rfl, T, E4⟩; have ix := T.idx HA.out; have cx := T.cell HA.out; have q1 := (E4.cell (cell?_lt q1)).trans q1; have q4 := (E4.cell (cell?_lt q4)).trans q4; have B := ext_trans B E4; have g := g.below E4; clear E4 T)
      | (go_at_call 30; refine (itoa_any imm (by omega) (by omega) _ g).mono ?_; rintro e w5 ⟨rfl, E5⟩; have q1 := (E5.cell (cell?_lt q1)).trans q1; have q4 := (E5.cell (cell?_lt q4)).trans q4; (try (have cx := (E5.cell (cell?_lt cx)).trans cx)); have B := ext_trans B E5; have g := g.below E5; clear E5))
  all_goals
    go_wp2_with fail
    (try go_simp)
    go_ret2
    exact ⟨ret_spair (by rw [HP.out]) rfl, by with_reducible assumption⟩
set_option maxRecDepth 100000 in
set_option maxHeartbeats 6400000 in
theorem r9Print_5 (w : World) :
    Calls Tryz.prog 26 #[vI ⟨5, 0, 0, 0, 0, [], [], 0⟩] w (Ret w (.tuple #[.string (tx (printX ⟨5, 0, 0, 0, 0, [], [], 0⟩)), .int .i64 0])) := by
  have E1 := al w (mkI ⟨5, 0, 0, 0, 0, [], [], 0⟩)
  have b0 := BxI.new w ⟨5, 0, 0, 0, 0, [], [], 0⟩
  have HE := hid (errX_yes (show checkX ⟨5, 0, 0, 0, 0, [], [], 0⟩ = true from rfl))
  go_enter Tryz.func26, Tryz.ntmps26
  go_wp2_with fail
  refine (r9Check ⟨5, 0, 0, 0, 0, [], [], 0⟩ (by simp) _).mono ?_
  rintro x w1 ⟨rfl, E⟩
  rw [HE.out]
  have bb := b0.below E
  have B := E1.trans (E.mono E1.size)
  obtain ⟨q0, q1, q2, q3, q4, q5, q6, q7⟩ := bb.cells
  clear b0 bb E1 E
  go_wp2_with fail
  go_ret2
  exact ⟨rfl, B⟩
set_option maxRecDepth 100000 in
set_option maxHeartbeats 6400000 in
theorem r9Print_no (i : Ins) (hl : i.loc.length ≤ 9223372036854775807) (hc : checkX i = false) (w : World) :
    Calls Tryz.prog 26 #[vI i] w (Ret w (.tuple #[.string (tx []), .int .i64 91])) := by
  have E1 := al w (mkI i)
  have b0 := BxI.new w i
  have HE := hid (errX_no hc)
  have XC := hid (r9Check i hl)
  clear hc hl
  go_enter Tryz.func26, Tryz.ntmps26
  go_wp2_with fail
  refine (XC.out _).mono ?_
  rintro x w1 ⟨rfl, E⟩
  rw [HE.out]
  have B := E1.trans (E.mono E1.size)
  go_wp2_with fail
  go_ret2
  exact ⟨rfl, B⟩
theorem r9Print_yes (i : Ins) (hc : checkX i = true) (w : World) (g : Gl w) :
    Calls Tryz.prog 26 #[vI i] w (Ret w (.tuple #[.string (tx (printX i)), .int .i64 0])) := by
  rcases okX_cases hc with ⟨imm, loc, rfl, hn, hb⟩ | ⟨a, loc, rfl, hn, ha⟩ | ⟨a, loc, rfl, hn, ha⟩ | ⟨a, imm, rfl, hb, ha⟩ | rfl
  · exact r9Print_1 loc hn imm hb hc w g
  · exact r9Print_2 loc hn a ha hc w g
  · exact r9Print_3 loc hn a ha hc w g
  · exact r9Print_4 imm hb a ha hc w g
  · exact r9Print_5 w
end Go.Proofs.YthaibjefnclkjaaGreatDoor
namespace Go.Proofs.YthaibjefnclkjaaGreatDoor
open Go.RowKit Go.Sort
set_option linter.unusedVariables false

theorem condNames (w : World) : Calls Tryz.prog 143 #[] w fun e w' => ∃ a, e = .returned (.slice a 15 15) ∧ NamesX w' a ∧ Below w.heap.size w w' := by
  have E := al w (.cells #[.string ⟨#[69, 65, 88]⟩, .string ⟨#[69, 66, 88]⟩, .string ⟨#[69, 67, 88]⟩, .string ⟨#[69, 68, 88]⟩, .string ⟨#[69, 83, 73]⟩, .string ⟨#[69, 68, 73]⟩, .string ⟨#[69, 66, 80]⟩, .string ⟨#[82, 56, 68]⟩, .string ⟨#[82, 57, 68]⟩, .string ⟨#[82, 49, 48, 68]⟩, .string ⟨#[82, 49, 49, 68]⟩, .string ⟨#[82, 49, 50, 68]⟩, .string ⟨#[82, 49, 51, 68]⟩, .string ⟨#[82, 49, 52, 68]⟩, .string ⟨#[82, 49, 53, 68]⟩] 9)
  go_enter Tryz.func143, Tryz.ntmps143
  go_wp2_with fail
  go_ret
  refine ⟨_, rfl, ⟨⟨⟨fun _ => rfl, fun i hi => ?_⟩, by decide⟩⟩, E⟩
  simp only [World.cell?, bk_some, fo_some, heap_alloc_new, Nat.zero_add]
  rw [if_neg (by simp)]
  exact List.getElem?_toArray
theorem condRegister (arch : Int) (k : Nat) (hk : (k : Int) < regsN arch) (w : World) : Calls Tryz.prog 108 #[.int .i64 arch, .int .i64 k] w (Ret w (.string (tx (regA arch k)))) := by
  by_cases h1 : arch = 1
  · subst h1
    have h15 : k < 15 := by unfold regsN at hk; rw [if_pos rfl] at hk; omega
    have h0 : (0 : Int) ≤ (k : Int) := by omega
    have h1 : (k : Int) < 15 := by omega
    have e : regA 1 k = regX k := rfl
    rw [e]
    clear e hk
    go_enter Tryz.func108, Tryz.ntmps108
    go_wp2_with fail
    refine (condNames _).mono ?_
    rintro e w1 ⟨a, rfl, T, B⟩
    have ix := T.idx h15
    have cx := T.cell h15
    go_wp2_with fail
    go_ret
    exact ⟨rfl, B⟩
  · have z1 : (arch == 1) = false := by simpa using h1
    have e : regA arch k = regT k := by unfold regA; rw [if_neg h1]
    have h32 : k < 32 := by unfold regsN at hk; rw [if_neg h1] at hk; omega
    rw [e]
    have cx := cat_x k
    clear e hk h1
    go_enter Tryz.func108, Tryz.ntmps108
    go_wp2_with (go_at_call 30; refine (itoa_small k (by omega) _).mono ?_; rintro e w' ⟨rfl, rfl⟩)
    go_ret
    exact ⟨rfl, Below.refl _ _⟩
theorem thText_loc {arch : Int} {t : Th} (h : t.thread = -1) : thText arch t = t.loc := by unfold thText; rw [if_pos h]
theorem thText_reg {arch : Int} (i k : Nat) : thText arch ⟨i, k, []⟩ = Lib.itoa i ++ [58] ++ regA arch k := by
  unfold thText; rw [if_neg (by simp only; omega)]; simp
end Go.Proofs.YthaibjefnclkjaaGreatDoor
namespace Go.Proofs.YthaibjefnclkjaaGreatDoor
open Go.RowKit Go.Sort
set_option linter.unusedVariables false

abbrev cC (q : Int) (x : Nd) : List Value := [.int .i64 q, .int .i64 x.kind, .int .i64 x.th.thread, .int .i64 x.th.reg, .string (tx x.th.loc), .int .i64 x.val, .slice x.a x.kids.length x.c]
theorem BxL.cC {w : World} {b : Nat} {q : Int} {x : Nd} (h : BxL w b (cC q x)) : w.cell? ⟨b, 0, none⟩ = some (.int .i64 q) ∧ w.cell? ⟨b, 1, none⟩ = some (.int .i64 x.kind) ∧ w.cell? ⟨b, 2, none⟩ = some (.int .i64 x.th.thread) ∧ w.cell? ⟨b, 3, none⟩ = some (.int .i64 x.th.reg) ∧ w.cell? ⟨b, 4, none⟩ = some (.string (tx x.th.loc)) ∧ w.cell? ⟨b, 5, none⟩ = some (.int .i64 x.val) ∧ w.cell? ⟨b, 6, none⟩ = some (.slice x.a x.kids.length x.c) :=
  ⟨h.get 0 _ rfl, h.get 1 _ rfl, h.get 2 _ rfl, h.get 3 _ rfl, h.get 4 _ rfl, h.get 5 _ rfl, h.get 6 _ rfl⟩
end Go.Proofs.YthaibjefnclkjaaGreatDoor
namespace Go.Proofs.YthaibjefnclkjaaGreatDoor
open Go.RowKit Go.Sort
set_option linter.unusedVariables false

theorem cmpct_map {α β : Type} [DecidableEq α] [DecidableEq β] (f : α → β) (hf : ∀ a b, f a = f b → a = b) : ∀ l : List α, cmpct (l.map f) = (cmpct l).map f
  | [] => rfl
  | [x] => rfl
  | x :: y :: r => by
    have ih := cmpct_map f hf (y :: r)
    simp only [List.map_cons] at ih ⊢
    rw [cmpct_cons, cmpct_cons, ih]
    by_cases h : x = y
    · rw [if_pos h, if_pos (by rw [h])]
    · rw [if_neg h, if_neg (fun e => h (hf _ _ e))]; rfl
theorem flat_eV (d : List VTh) : flat eV d = flat cTh (d.map (·.1)) := by
  unfold flat; rw [List.flatMap_map]
theorem Own.lit0' (w : World) (E size : Nat) : Own (w.alloc (.cells #[] E)) w.heap.size E size (Option.some ⟨w.heap.size, 0, none⟩) 0 0 [] :=
  World.ownsRow_lit w #[] 0 (Nat.le_refl _) (by unfold maxLen; omega) (by simp)
/-- a list of things of the call's own is handed back -/
def RetTh (w : World) (l : List Th) (e : Ending) (w' : World) : Prop :=
  ∃ a c, e = .returned (.slice a l.length c) ∧ OwnT w' w.heap.size a l.length c l ∧ Below w.heap.size w w'
set_option maxRecDepth 100000 in
set_option maxHeartbeats 1600000 in
theorem cloneTh (l : List Th) (a : Option Addr) (c : Nat) (w : World) (h : Els cTh w a l) (hl : l.length ≤ 1000000) :
    Calls Tryz.prog 128 #[.slice a l.length c] w (RetTh w l) := by
  obtain ⟨n, hn⟩ : ∃ n, l.length = n := ⟨_, rfl⟩
  have HN := hid hn
  rw [hn] at hl
  unfold RetTh
  rw [hn]
  cases a with
  | none =>
    have hl0 : l = [] := by
      by_cases e : l = []
      · exact e
      · have := h.row.head (by intro e2; have := congrArg List.length e2; rw [flat_length cTh_len] at this; simp only [List.length_nil] at this; exact e (List.eq_nil_of_length_eq_zero (by omega)))
        cases this
    subst hl0
    have hn0 : n = 0 := hn.symm
    subst hn0
    have ze : ∀ w, (binOp .eql 78 (.slice none 0 c) (.slice none 0 0)).run Tryz.prog w = .ok (.bool true) w := fun w => rfl
    clear hn h
    go_enter Tryz.func128, Tryz.ntmps128
    go_wp2_with fail
    go_ret
    exact ⟨none, 0, rfl, Own.nil _ _ _ _, Below.refl _ _⟩
  | some p =>
    have ze : ∀ w, (binOp .eql 78 (.slice (some p) n c) (.slice none 0 0)).run Tryz.prog w = .ok (.bool false) w := fun w => rfl
    have A := al w (.cells #[] 32)
    have o0 := Own.lit0' w 32 3
    have hA := h.below A
    have hrl : (flat cTh l).length = n * 3 := by rw [flat_length cTh_len, hn]
    clear hn h
    go_enter Tryz.func128, Tryz.ntmps128
    go_wp2_with (at_builtin; go_loud (refine wpList_app thl (.tmp 5) (.tmp 6) rfl rfl rfl o0 rfl hA.row hrl (flat_oneCell cTh_one l) A A.size (by omega) (by unfold maxLen; omega) ?_))
    intro a1 c1 w1 o1 g1 E1
    have o2 : OwnT w1 w.heap.size a1 n c1 l := by simpa [OwnT] using o1
    have HO := hid (And.intro o2 E1)
    clear o0 A hA o1 g1 E1 o2
    go_wp2_with fail
    go_ret
    exact ⟨a1, c1, rfl, HO.out.1, HO.out.2⟩
set_option maxRecDepth 100000 in
set_option maxHeartbeats 3200000 in
theorem condThings (x : Nd) (w : World) (hI : NdIn w x) (ho : OkN 2 x) (hc : cntN x ≤ 1024) :
    Calls Tryz.prog 129 #[vN x] w (RetTh w (thingsN x)) := by
  have A := al w (mkN x)
  have b0 := BxN.new w x
  have L := al (w.alloc (mkN x)) (.cells #[.slice none 0 0] 78)
  have hLB : LB ((w.alloc (mkN x)).alloc (.cells #[.slice none 0 0] 78)) (w.alloc (mkN x)).heap.size (w.alloc (mkN x)).heap.size [] :=
    ⟨none, 0, Blk.new _ _ _, Own.nil _ _ _ _, Nat.le_refl _⟩
  have CA := condAtoms x (w.alloc (mkN x)) _ (w.alloc (mkN x)).heap.size [] (hI.keep A) L hLB (by simp; omega)
  rw [List.nil_append] at CA
  have hsz : (w.alloc (mkN x)).heap.size = w.heap.size + 1 := by simp
  have HV := atoms_ok ho
  have hal := atomsN_len x
  have hval := toV_val (atomsN x) HV
  have hst := sorted_things ho (fun x y => !ltOf cfV y x) (fun a b => by rw [ltOf_bef])
  obtain ⟨d, hd⟩ : ∃ d, toV (atomsN x) HV = d := ⟨_, rfl⟩
  rw [hd] at hval hst
  have hdl : (atomsN x).length = d.length := by rw [← hval, List.length_map]
  have HQ := hid (And.intro hval (And.intro hst hdl))
  have CA := hid CA
  rw [hsz] at CA
  clear hI hd hLB L A hsz hval hst
  go_enter Tryz.func129, Tryz.ntmps129
  go_wp2_with fail
  refine CA.out.mono ?_
  rintro e w1 ⟨rfl, hL, hB, K⟩
  obtain ⟨a, c, bL, oL, hle⟩ := hL
  have c0 := bL.get 0 _ rfl
  obtain ⟨hval, hst, -⟩ := HQ.out
  rw [hdl] at c0 oL
  have oL : Own w1 (w.alloc (mkN x)).heap.size 32 3 a d.length c (flat eV d) := by rw [flat_eV, hval]; exact oL
  have ST := hid (sortTh d w1 _ a c oL (by omega))
  have HOL := hid oL
  have HBL := hid bL
  have HB := hid hB
  clear oL bL hB K hle CA HQ hval
  go_wp2_with fail
  refine ST.out.mono ?_
  rintro e w2 ⟨rfl, oS, sS⟩
  have hka := own_kind HOL.out
  have bL2 : Blk w2 (w.heap.size + 1) [.slice a (atomsN x).length c] 78 := by
    have h1 := HBL.out
    have hl := h1.lt
    unfold Blk at h1 ⊢
    rw [sS.grown.block _ hl (fun e => by
      obtain ⟨cs, fz, hh⟩ := hka _ e.symm
      rw [h1] at hh
      simp at hh)]
    exact h1
  have c2 := bL2.get 0 _ rfl
  rw [hdl] at c2
  have hlen : ((sortV d).map (·.1)).length = d.length := by rw [List.length_map]; exact List.length_mergeSort d
  rw [flat_eV] at oS
  have B2 := sS.below HOL.out HB.out HB.out.size
  have CT := compactTh ((sortV d).map (·.1)) w2 _ a c (by rw [hlen]; exact oS) B2.size (by rw [hlen]; omega)
  rw [cmpct_map _ (fun a b h => Subtype.ext h), hst, hlen] at CT
  have CT := hid CT
  have HOS := hid oS
  have HLE := hid hlen
  have HB2 := hid B2
  clear c0 oS sS hka bL2 HBL ST hst hlen B2
  go_wp2_with fail
  refine CT.out.mono ?_
  rintro e w3 ⟨rfl, o3, s3⟩
  have B3 := s3.below HOS.out HB2.out HB2.out.size
  have BZ : Below w.heap.size w w3 := (al w (mkN x)).trans (B3.mono (al w (mkN x)).size)
  have oZ : OwnT w3 w.heap.size a (thingsN x).length c (thingsN x) := Own.mono o3 (by simp)
  have HZ := hid (And.intro oZ BZ)
  clear o3 s3 B3 BZ oZ c2 CT HOS
  go_wp2_with fail
  go_ret
  exact ⟨a, c, rfl, HZ.out.1, HZ.out.2⟩
end Go.Proofs.YthaibjefnclkjaaGreatDoor
namespace Go.Proofs.YthaibjefnclkjaaGreatDoor
open Go.RowKit Go.Sort
set_option linter.unusedVariables false

attribute [local go_sem high] eqTh neqTh
def RetThE (w : World) (l : List Th) (r : Int) (e : Ending) (w' : World) : Prop :=
  ∃ a c, e = .returned (.tuple #[.slice a l.length c, .int .i64 r]) ∧ OwnT w' w.heap.size a l.length c l ∧ Below w.heap.size w w'
theorem RetThE.none {w w' : World} {l : List Th} {r : Int} {e : Ending} (hl : l = []) (he : e = .returned (.tuple #[.slice Option.none 0 0, .int .i64 r])) (hb : Below w.heap.size w w') : RetThE w l r e w' := by
  subst hl; exact ⟨Option.none, 0, he, Own.nil _ _ _ _, hb⟩
set_option maxRecDepth 100000 in
set_option maxHeartbeats 3200000 in
theorem condThingsC (q : Int) (x : Nd) (w : World) (hI : NdIn w x) : Calls Tryz.prog 89 #[vC q x] w (RetThE w (thingsC q x) (condE 2 q x)) := by
  have B := al w (mkC q x)
  have b0 : BxL (w.alloc (mkC q x)) w.heap.size (cC q x) := BxL.new w _ _
  have CH := condCheck 2 q x (w.alloc (mkC q x)) (hI.keep B)
  obtain ⟨r, hr⟩ : ∃ r, condE 2 q x = r := ⟨_, rfl⟩
  rw [hr] at CH ⊢
  by_cases h0 : r = 0
  · subst h0
    obtain ⟨-, hq1, hq2, ho, hn⟩ := cond_ok hr
    have hT := hid (show thingsC q x = thingsN x by unfold thingsC; rw [if_pos hr])
    have CH := hid CH
    have HI := hid (hI.keep B)
    have HO := hid ho
    obtain ⟨-, -, -, htl⟩ := things_ok ho
    clear hr hI ho
    go_enter Tryz.func89, Tryz.ntmps89
    go_wp2_with fail
    refine CH.out.mono ?_
    rintro e1 w1 ⟨rfl, E1⟩
    obtain ⟨q0, q1, q2, q3, q4, q5, q6⟩ := (b0.below E1).cC
    have hI := HI.out.keep E1
    have B := B.trans (E1.mono B.size)
    have TH := hid (condThings x w1 hI HO.out hn)
    clear E1 CH HI hI
    go_wp2_with fail
    refine TH.out.mono ?_
    rintro e2 w2 ⟨a, c, rfl, o2, E2⟩
    have els := (Own.els o2 cTh_len (by omega) (by omega)).1
    have CL := hid (cloneTh _ a c w2 els (by omega))
    have B2 := B.trans (E2.mono B.size)
    clear q0 q1 q2 q3 q4 q5 q6 o2 els TH E2
    go_wp2_with fail
    refine CL.out.mono ?_
    rintro e3 w3 ⟨a3, c3, rfl, o3, E3⟩
    have B3 := B2.trans (E3.mono B2.size)
    have HZ := hid (And.intro (Own.mono o3 B2.size) B3)
    clear o3 E3 B3 CL
    go_wp2_with fail
    go_ret2
    rw [hT.out]
    exact ⟨a3, c3, rfl, HZ.out.1, HZ.out.2⟩
  · have hT := hid (show thingsC q x = [] by unfold thingsC; rw [if_neg (by rw [hr]; exact h0)])
    have z : (r != 0) = true := by simpa using h0
    have CH := hid CH
    clear hr hI h0
    go_enter Tryz.func89, Tryz.ntmps89
    go_wp2_with fail
    refine CH.out.mono ?_
    rintro e1 w1 ⟨rfl, E1⟩
    have B := B.trans (E1.mono B.size)
    go_wp2_with fail
    go_ret2
    exact RetThE.none hT.out rfl B

end Go.Proofs.YthaibjefnclkjaaGreatDoor
namespace Go.Proofs.YthaibjefnclkjaaGreatDoor
open Go.RowKit Go.Sort
set_option linter.unusedVariables false

abbrev sV (l : List Tx) : List Value := l.map fun x => Value.string (tx x)
abbrev OwnS (w : World) (B : Nat) (a : Option Addr) (n c : Nat) (l : List Tx) : Prop := Own w B 9 1 a n c (sV l)
theorem sV_app (l r : List Tx) : sV (l ++ r) = sV l ++ sV r := List.map_append
theorem OwnS.txs {w : World} {B n c : Nat} {a : Option Addr} {l : List Tx} (h : OwnS w B a n c l) (hl : l.length ≤ 1000000000000000000) : Txs w a l := ⟨h.row, hl⟩
theorem Txs.at {w : World} {a : Option Addr} {l : List Tx} (h : Txs w a l) {k : Nat} {y : Tx} (hy : l[k]? = some y) : w.cell? ⟨bk a, fo a + k, none⟩ = some (.string (tx y)) := by
  obtain ⟨hlt, rfl⟩ := List.getElem?_eq_some_iff.1 hy
  exact h.cell k hlt
end Go.Proofs.YthaibjefnclkjaaGreatDoor
namespace Go.Proofs.YthaibjefnclkjaaGreatDoor
open Go.RowKit Go.Sort
set_option linter.unusedVariables false

theorem thingsC_len (q : Int) (x : Nd) : (thingsC q x).length ≤ 1024 := by
  unfold thingsC
  split
  · rename_i h
    obtain ⟨-, -, -, ho, hn⟩ := cond_ok h
    have := (things_ok ho).2.2.2
    omega
  · simp
end Go.Proofs.YthaibjefnclkjaaGreatDoor
namespace Go.Proofs.YthaibjefnclkjaaGreatDoor
open Go.RowKit Go.Sort
set_option linter.unusedVariables false

/-- why the condition may not be -/
def askE (t : Tst) : Int := if condE t.arch t.q t.node ≠ 0 then condE t.arch t.q t.node else if (askT t).any fun x => decide ((t.code.length : Int) ≤ x.thread) then 80 else 0
end Go.Proofs.YthaibjefnclkjaaGreatDoor
namespace Go.Proofs.YthaibjefnclkjaaGreatDoor
open Go.RowKit
set_option linter.unusedVariables false

theorem refIsReg (n : Int) (w : World) : Calls Tryz.prog 103 #[.int .i64 n] w fun e w' => e = .returned (.bool (regB n)) ∧ w = w' := by
  have hp : n < 0 ∨ (0 ≤ n ∧ n ≤ 31) ∨ 32 ≤ n := by omega
  rcases hp with h | ⟨h, h'⟩ | h
  all_goals
    go_enter Tryz.func103, Tryz.ntmps103
    go_wp2
    go_ret
    exact ⟨ret_bool (by unfold regB; rw [Bool.eq_iff_iff]; simp <;> omega), rfl⟩
theorem refLetter (c : UInt8) (w : World) : Calls Tryz.prog 134 #[.int .u8 c.toNat] w fun e w' => e = .returned (.bool (letterC c)) ∧ w = w' := by
  have hlt : c.toNat < 256 := c.toNat_lt
  have hl : letterC c = ((decide (97 ≤ c.toNat) && decide (c.toNat ≤ 122)) || (decide (65 ≤ c.toNat) && decide (c.toNat ≤ 90))) := by
    unfold letterC; simp only [UInt8.le_iff_toNat_le]; rfl
  rw [hl]; clear hl
  generalize c.toNat = n at *
  have hp : n < 65 ∨ (65 ≤ n ∧ n ≤ 90) ∨ (91 ≤ n ∧ n ≤ 96) ∨ (97 ≤ n ∧ n ≤ 122) ∨ 123 ≤ n := by omega
  rcases hp with h | ⟨h, h'⟩ | ⟨h, h'⟩ | ⟨h, h'⟩ | h
  all_goals
    go_enter Tryz.func134, Tryz.ntmps134
    go_wp2
    go_ret
    exact ⟨ret_bool (by first | (rw [Bool.eq_iff_iff]; simp <;> omega) | (simp <;> omega)), rfl⟩
theorem refDigit (c : UInt8) (w : World) : Calls Tryz.prog 135 #[.int .u8 c.toNat] w fun e w' => e = .returned (.bool (digitC c)) ∧ w = w' := by
  have hlt : c.toNat < 256 := c.toNat_lt
  have hl : digitC c = (decide (48 ≤ c.toNat) && decide (c.toNat ≤ 57)) := by
    unfold digitC; simp only [UInt8.le_iff_toNat_le]; rfl
  rw [hl]; clear hl
  generalize c.toNat = n at *
  have hp : n < 48 ∨ (48 ≤ n ∧ n ≤ 57) ∨ 58 ≤ n := by omega
  rcases hp with h | ⟨h, h'⟩ | h
  all_goals
    go_enter Tryz.func135, Tryz.ntmps135
    go_wp2
    go_ret
    exact ⟨ret_bool (by first | (rw [Bool.eq_iff_iff]; simp <;> omega) | (simp <;> omega)), rfl⟩


theorem refPart (n : Int) (w : World) : Calls Tryz.prog 65 #[.int .i64 n] w fun e w' => e = .returned (.string (tx (fpart n))) ∧ w = w' := by
  by_cases h0 : n = 0
  · subst h0
    go_enter Tryz.func65, Tryz.ntmps65
    go_wp2
    go_ret
    exact ⟨rfl, rfl⟩
  by_cases h1 : n = 1
  · subst h1
    go_enter Tryz.func65, Tryz.ntmps65
    go_wp2
    go_ret
    exact ⟨rfl, rfl⟩
  have z0 : (n == 0) = false := by simpa using h0
  have z1 : (n == 1) = false := by simpa using h1
  have hf : fpart n = [114, 119] := by unfold fpart; rw [if_neg h0, if_neg h1]
  rw [hf]; clear hf h0 h1
  go_enter Tryz.func65, Tryz.ntmps65
  go_wp2
  go_ret
  exact ⟨rfl, rfl⟩
set_option maxHeartbeats 800000 in
theorem refIsName (l : Tx) (hl : l.length ≤ 9223372036854775807) (w : World) : Calls Tryz.prog 102 #[.string (tx l)] w fun e w' => e = .returned (.bool (nameB l)) ∧ w = w' := by
  have hs := tx_size l
  cases l with
  | nil =>
    have hs : (tx []).size = 0 := rfl
    go_enter Tryz.func102, Tryz.ntmps102
    go_wp2_with fail
    go_ret
    exact ⟨rfl, rfl⟩
  | cons c r =>
    obtain ⟨n, hn⟩ : ∃ n, (tx (c :: r)).size = n := ⟨_, rfl⟩
    have hn1 : 1 ≤ n := by rw [← hn, hs]; simp
    have hnr : n = r.length + 1 := by rw [← hn, hs]; simp
    have hz : ((n : Int) == 0) = false := by simp; omega
    clear hs hl
    by_cases h32 : n ≤ 32
    · have i0 := run_ixz (c :: r) c rfl
      by_cases hc : letterC c = true
      · have HC := hid hc
        have HR := hid hnr
        clear hc hnr
        go_enter Tryz.func102, Tryz.ntmps102
        go_wp2_with (go_at_call 134; refine (refLetter c _).mono ?_; rintro e w' ⟨rfl, rfl⟩; rw [HC.out])
        go_loop [3] (fun i => ∃ k : Nat, 1 ≤ k ∧ k ≤ n ∧ i = .int .i64 k ∧ Hid (∀ (i : Nat) (x : UInt8), i < k → (c :: r)[i]? = some x → nameC x = true)) (fun i => n - (intOf i).toNat)
        case atStart => exact ⟨1, by omega, by omega, rfl, fun i x hi h => by
          obtain rfl : i = 0 := by omega
          cases h; unfold nameC; rw [HC.out]; rfl⟩
        case round =>
          obtain ⟨k, hk1, hk, rfl, HM⟩ := hrel
          by_cases hlt : k < n
          · obtain ⟨x, hx⟩ : ∃ x, (c :: r)[k]? = some x := ⟨_, List.getElem?_eq_getElem (by have := HR.out; simp; omega)⟩
            have ix := run_ix (c :: r) k x hx
            have HX := hid hx
            clear hx
            have HM2 : nameC x = true → Hid (∀ (i : Nat) (y : UInt8), i < k + 1 → (c :: r)[i]? = some y → nameC y = true) := fun hx' i y hi hy => by
              rcases Nat.lt_succ_iff_lt_or_eq.1 hi with h | h
              · exact HM.out i y h hy
              · subst h; rw [HX.out] at hy; cases hy; exact hx'
            have HM2 := hid HM2
            by_cases h1 : letterC x = true
            · have H1 := hid h1
              have HN := hid (HM2.out (by unfold nameC; rw [h1]; rfl))
              clear h1
              go_wp2_with (go_at_call 134; refine (refLetter x _).mono ?_; rintro e w' ⟨rfl, rfl⟩; rw [H1.out])
              go_round
              case rel => exact ⟨k + 1, by omega, by omega, by go_num, HN.out⟩
              case measure => simp [intOf]; omega
            · have H1 := hid (Bool.eq_false_iff.2 h1)
              clear h1
              by_cases h2 : digitC x = true
              · have H2 := hid h2
                have HN := hid (HM2.out (by unfold nameC; rw [h2]; simp))
                clear h2
                go_wp2_with (first | (go_at_call 134; refine (refLetter x _).mono ?_; rintro e w' ⟨rfl, rfl⟩; rw [H1.out]) | (go_at_call 135; refine (refDigit x _).mono ?_; rintro e w' ⟨rfl, rfl⟩; rw [H2.out]))
                go_round
                case rel => exact ⟨k + 1, by omega, by omega, by go_num, HN.out⟩
                case measure => simp [intOf]; omega
              · have H2 := hid (Bool.eq_false_iff.2 h2)
                clear h2
                by_cases h3 : x = 95
                · subst h3
                  have HN := hid (HM2.out (by decide))
                  have z3 : (((95 : UInt8).toNat : Int) != 95) = false := by decide
                  go_wp2_with (first | (go_at_call 134; refine (refLetter 95 _).mono ?_; rintro e w' ⟨rfl, rfl⟩; rw [H1.out]) | (go_at_call 135; refine (refDigit 95 _).mono ?_; rintro e w' ⟨rfl, rfl⟩; rw [H2.out]))
                  go_round
                  case rel => exact ⟨k + 1, by omega, by omega, by go_num, HN.out⟩
                  case measure => simp [intOf]; omega
                · have z3 : ((x.toNat : Int) != 95) = true := u8_ne x 95 h3
                  have HF := hid (nameB_step HX.out (by unfold nameC; rw [H1.out, H2.out]; simpa using h3))
                  clear h3
                  go_wp2_with (first | (go_at_call 134; refine (refLetter x _).mono ?_; rintro e w' ⟨rfl, rfl⟩; rw [H1.out]) | (go_at_call 135; refine (refDigit x _).mono ?_; rintro e w' ⟨rfl, rfl⟩; rw [H2.out]))
                  go_ret
                  exact ⟨ret_bool HF.out.symm, rfl⟩
          · have HF := hid (nameB_done (c := c) (r := r) (by have := HR.out; omega) HC.out (fun i x hi => HM.out i x (by
              have h1 := (List.getElem?_eq_some_iff.1 hi).1
              have := HR.out
              simp at h1; omega) hi))
            go_wp2_with fail
            go_ret
            exact ⟨ret_bool HF.out.symm, rfl⟩
      · have HC := hid (Bool.eq_false_iff.2 hc)
        have HF := hid (show nameB (c :: r) = false by rw [nameB_cons, HC.out]; simp)
        clear hc hnr
        go_enter Tryz.func102, Tryz.ntmps102
        go_wp2_with (go_at_call 134; refine (refLetter c _).mono ?_; rintro e w' ⟨rfl, rfl⟩; rw [HC.out])
        go_ret
        exact ⟨ret_bool HF.out.symm, rfl⟩
    · have HF := hid (show nameB (c :: r) = false by rw [nameB_cons, decide_eq_false (by omega)]; simp)
      clear hnr
      go_enter Tryz.func102, Tryz.ntmps102
      go_wp2_with fail
      go_ret
      exact ⟨ret_bool HF.out.symm, rfl⟩
end Go.Proofs.YthaibjefnclkjaaGreatDoor

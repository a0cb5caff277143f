/- An instruction that is done, in memory; the walks of its methods lw, sw, bne, none, fence (the program's). Condition: it lies in memory of the caller's own. -/
import Derived.Test.YtigimkgmghjgoaaGreatDoorQk
import Derived.BigRegion
import Derived.StillTailTactics
namespace Go.Proofs.YtigimkgmghjgoaaGreatDoor
open Go.RowKit
set_option linter.unusedVariables false

attribute [local go_sem high] eqV neqV
/-- what is asked of the memory -/
structure Ac where
  kind : Int
  loc : Tx
  value : Int
  reg : Int
  fence : Int
  deriving DecidableEq
/-- an instruction that is done -/
structure Dg where
  i : Ins
  a : Vl
  b : Vl
  lab : Int
  ar : Option Addr
  cr : Nat
  at' : Int
  act : Ac
@[reducible] def dC (g : Dg) : List Value := [.int .i64 g.i.op, .int .i64 g.i.d, .int .i64 g.i.a, .int .i64 g.i.b, .int .i64 g.i.imm, .string (tx g.i.loc), .string (tx g.i.label), .int .i64 g.i.fence, .string (tx g.a.loc), .int .i64 g.a.n, .string (tx g.b.loc), .int .i64 g.b.n, .int .i64 g.lab, .slice g.ar 32 g.cr, .int .i64 g.at', .int .i64 g.act.kind, .string (tx g.act.loc), .int .i64 g.act.value, .int .i64 g.act.reg, .int .i64 g.act.fence]
structure DgW (w : World) (B d : Nat) (g : Dg) (regs : List Vl) : Prop where
  lo : B ≤ d
  lt : d < w.heap.size
  cell : ∀ k, k < 20 → w.cell? ⟨d, k, none⟩ = (dC g)[k]?
  fz : ∀ k, w.frozen? ⟨d, k, none⟩ = false
  own : OwnV w B g.ar 32 g.cr regs
  ap : g.ar = none ∨ bk g.ar ≠ d
theorem DgW.below {w w' : World} {B d : Nat} {g : Dg} {regs : List Vl} (h : DgW w B d g regs) (hb : Below w.heap.size w w') : DgW w' B d g regs :=
  ⟨h.lo, Nat.lt_of_lt_of_le h.lt hb.size, fun k hk => by rw [hb.cell (p := ⟨d, k, none⟩) h.lt]; exact h.cell k hk, fun k => by rw [hb.frozen (p := ⟨d, k, none⟩) h.lt]; exact h.fz k, Own.below h.own hb, h.ap⟩
theorem DgW.drew {w : World} {B d : Nat} {g : Dg} {regs : List Vl} (h : DgW w B d g regs) : DgW w.drew B d g regs := h.below (below_drewN w 1)
theorem DgW.cells {w : World} {B d : Nat} {g : Dg} {regs : List Vl} (h : DgW w B d g regs) :
    (w.cell? ⟨d, 0, none⟩ = some (.int .i64 g.i.op) ∧ w.cell? ⟨d, 1, none⟩ = some (.int .i64 g.i.d) ∧ w.cell? ⟨d, 2, none⟩ = some (.int .i64 g.i.a) ∧ w.cell? ⟨d, 3, none⟩ = some (.int .i64 g.i.b) ∧ w.cell? ⟨d, 4, none⟩ = some (.int .i64 g.i.imm)) ∧
    (w.cell? ⟨d, 5, none⟩ = some (.string (tx g.i.loc)) ∧ w.cell? ⟨d, 6, none⟩ = some (.string (tx g.i.label)) ∧ w.cell? ⟨d, 7, none⟩ = some (.int .i64 g.i.fence) ∧ w.cell? ⟨d, 8, none⟩ = some (.string (tx g.a.loc)) ∧ w.cell? ⟨d, 9, none⟩ = some (.int .i64 g.a.n)) ∧
    (w.cell? ⟨d, 10, none⟩ = some (.string (tx g.b.loc)) ∧ w.cell? ⟨d, 11, none⟩ = some (.int .i64 g.b.n) ∧ w.cell? ⟨d, 12, none⟩ = some (.int .i64 g.lab) ∧ w.cell? ⟨d, 13, none⟩ = some (.slice g.ar 32 g.cr) ∧ w.cell? ⟨d, 14, none⟩ = some (.int .i64 g.at')) ∧
    (w.cell? ⟨d, 15, none⟩ = some (.int .i64 g.act.kind) ∧ w.cell? ⟨d, 16, none⟩ = some (.string (tx g.act.loc)) ∧ w.cell? ⟨d, 17, none⟩ = some (.int .i64 g.act.value) ∧ w.cell? ⟨d, 18, none⟩ = some (.int .i64 g.act.reg) ∧ w.cell? ⟨d, 19, none⟩ = some (.int .i64 g.act.fence)) :=
  ⟨⟨h.cell 0 (by omega), h.cell 1 (by omega), h.cell 2 (by omega), h.cell 3 (by omega), h.cell 4 (by omega)⟩, ⟨h.cell 5 (by omega), h.cell 6 (by omega), h.cell 7 (by omega), h.cell 8 (by omega), h.cell 9 (by omega)⟩, ⟨h.cell 10 (by omega), h.cell 11 (by omega), h.cell 12 (by omega), h.cell 13 (by omega), h.cell 14 (by omega)⟩, ⟨h.cell 15 (by omega), h.cell 16 (by omega), h.cell 17 (by omega), h.cell 18 (by omega), h.cell 19 (by omega)⟩⟩
theorem cset {w : World} {a b : Addr} {v : Value} (h : a ≠ b) : (w.setCell a v).cell? b = w.cell? b := World.cell?_setCell_other _ _ _ _ h
theorem csame {w : World} {a : Addr} {v u : Value} (h : w.cell? a = some u) : (w.setCell a v).cell? a = some v := World.cell?_setCell_same _ _ _ h
theorem adn {b b' i j : Nat} (h : b ≠ b') : (⟨b, i, none⟩ : Addr) ≠ ⟨b', j, none⟩ := by intro e; injection e with e1; exact h e1
theorem ado {b b' i j : Nat} (h : i ≠ j) : (⟨b, i, none⟩ : Addr) ≠ ⟨b', j, none⟩ := by intro e; injection e with e1 e2; exact h e2
/-- one cell of the instruction that is done is written -/
theorem DgW.put {w : World} {B d : Nat} {g g' : Dg} {regs : List Vl} (h : DgW w B d g regs) (j : Nat) (hj : j < 20) (v : Value) (har : g'.ar = g.ar) (hcr : g'.cr = g.cr) (h1 : (dC g')[j]? = some v) (h2 : ∀ k, k < 20 → k ≠ j → (dC g')[k]? = (dC g)[k]?) :
    DgW (w.setCell ⟨d, j, none⟩ v) B d g' regs := by
  refine ⟨h.lo, by simpa using h.lt, fun k hk => ?_, fun k => by rw [World.frozen?_setCell]; exact h.fz k, ?_, by rw [har]; exact h.ap⟩
  · by_cases hkj : k = j
    · subst hkj
      obtain ⟨u, hu⟩ : ∃ u, (dC g)[k]? = some u := ⟨_, List.getElem?_eq_getElem (by simpa [dC] using hk)⟩
      rw [csame ((h.cell k hk).trans hu), h1]
    · rw [cset (ado (fun e => hkj e.symm)), h.cell k hk, h2 k hk hkj]
  · rw [har, hcr]
    refine Own.kept h.own ⟨rfl, rfl, rfl, by simp, fun k hk hne => Below.heap_setCell _ _ _ _ (fun e => hne ?_)⟩ (r := some d) ?_
    · rw [e]
    · rcases h.ap with h' | h'
      · exact .inl h'
      · exact .inr (fun e => h' (Option.some.inj e))
/-- what the instruction asks is written -/
theorem DgW.ask {w : World} {B d : Nat} {g : Dg} {regs : List Vl} (h : DgW w B d g regs) (c : Ac) :
    DgW (((((w.setCell ⟨d, 15, none⟩ (.int .i64 c.kind)).setCell ⟨d, 16, none⟩ (.string (tx c.loc))).setCell ⟨d, 17, none⟩ (.int .i64 c.value)).setCell ⟨d, 18, none⟩ (.int .i64 c.reg)).setCell ⟨d, 19, none⟩ (.int .i64 c.fence)) B d { g with act := c } regs := by
  obtain ⟨i, a, b, lab, ar, cr, at', ⟨k, l, v, r, f⟩⟩ := g
  obtain ⟨k2, l2, v2, r2, f2⟩ := c
  have case20 : ∀ k, k < 20 → k = 0 ∨ k = 1 ∨ k = 2 ∨ k = 3 ∨ k = 4 ∨ k = 5 ∨ k = 6 ∨ k = 7 ∨ k = 8 ∨ k = 9 ∨ k = 10 ∨ k = 11 ∨ k = 12 ∨ k = 13 ∨ k = 14 ∨ k = 15 ∨ k = 16 ∨ k = 17 ∨ k = 18 ∨ k = 19 := fun k hk => by omega
  have s1 := h.put (g' := ⟨i, a, b, lab, ar, cr, at', ⟨k2, l, v, r, f⟩⟩) 15 (by omega) (.int .i64 k2) rfl rfl rfl (fun k hk hne => by
    rcases case20 k hk with rfl | rfl | rfl | rfl | rfl | rfl | rfl | rfl | rfl | rfl | rfl | rfl | rfl | rfl | rfl | rfl | rfl | rfl | rfl | rfl <;> first | rfl | exact absurd rfl hne)
  have s2 := s1.put (g' := ⟨i, a, b, lab, ar, cr, at', ⟨k2, l2, v, r, f⟩⟩) 16 (by omega) (.string (tx l2)) rfl rfl rfl (fun k hk hne => by
    rcases case20 k hk with rfl | rfl | rfl | rfl | rfl | rfl | rfl | rfl | rfl | rfl | rfl | rfl | rfl | rfl | rfl | rfl | rfl | rfl | rfl | rfl <;> first | rfl | exact absurd rfl hne)
  have s3 := s2.put (g' := ⟨i, a, b, lab, ar, cr, at', ⟨k2, l2, v2, r, f⟩⟩) 17 (by omega) (.int .i64 v2) rfl rfl rfl (fun k hk hne => by
    rcases case20 k hk with rfl | rfl | rfl | rfl | rfl | rfl | rfl | rfl | rfl | rfl | rfl | rfl | rfl | rfl | rfl | rfl | rfl | rfl | rfl | rfl <;> first | rfl | exact absurd rfl hne)
  have s4 := s3.put (g' := ⟨i, a, b, lab, ar, cr, at', ⟨k2, l2, v2, r2, f⟩⟩) 18 (by omega) (.int .i64 r2) rfl rfl rfl (fun k hk hne => by
    rcases case20 k hk with rfl | rfl | rfl | rfl | rfl | rfl | rfl | rfl | rfl | rfl | rfl | rfl | rfl | rfl | rfl | rfl | rfl | rfl | rfl | rfl <;> first | rfl | exact absurd rfl hne)
  exact s4.put (g' := ⟨i, a, b, lab, ar, cr, at', ⟨k2, l2, v2, r2, f2⟩⟩) 19 (by omega) (.int .i64 f2) rfl rfl rfl (fun k hk hne => by
    rcases case20 k hk with rfl | rfl | rfl | rfl | rfl | rfl | rfl | rfl | rfl | rfl | rfl | rfl | rfl | rfl | rfl | rfl | rfl | rfl | rfl | rfl <;> first | rfl | exact absurd rfl hne)
theorem DgW.to {w : World} {B d : Nat} {g : Dg} {regs : List Vl} (h : DgW w B d g regs) (x : Int) : DgW (w.setCell ⟨d, 14, none⟩ (.int .i64 x)) B d { g with at' := x } regs := by
  obtain ⟨i, a, b, lab, ar, cr, at', c⟩ := g
  refine h.put (g' := ⟨i, a, b, lab, ar, cr, x, c⟩) 14 (by omega) (.int .i64 x) rfl rfl rfl (fun k hk hne => ?_)
  have case20 : k = 0 ∨ k = 1 ∨ k = 2 ∨ k = 3 ∨ k = 4 ∨ k = 5 ∨ k = 6 ∨ k = 7 ∨ k = 8 ∨ k = 9 ∨ k = 10 ∨ k = 11 ∨ k = 12 ∨ k = 13 ∨ k = 14 ∨ k = 15 ∨ k = 16 ∨ k = 17 ∨ k = 18 ∨ k = 19 := by omega
  rcases case20 with rfl | rfl | rfl | rfl | rfl | rfl | rfl | rfl | rfl | rfl | rfl | rfl | rfl | rfl | rfl | rfl | rfl | rfl | rfl | rfl <;> first | rfl | exact absurd rfl hne
/-- a method's answer -/
def Did (B d : Nat) (w : World) (g : Dg) (regs : List Vl) (ok : Bool) (e : Ending) (w' : World) : Prop := e = .returned (.bool ok) ∧ DgW w' B d g regs ∧ Below B w w'
theorem belD {B d : Nat} {w w' : World} (h : Below B w w') (hd : B ≤ d) (j : Nat) (v : Value) : Below B w (w'.setCell ⟨d, j, none⟩ v) := h.setCell hd v
theorem belDr {B : Nat} {w w' : World} (h : Below B w w') (hB : B ≤ w'.heap.size) : Below B w w'.drew := h.trans ((below_drewN w' 1).mono hB)
theorem emp_nz (l : Tx) : (!(tx l).toList.isEmpty) = decide (l ≠ []) := by rw [tx_toList, Bool.eq_iff_iff]; simp
theorem emp_z (l : Tx) : (tx l).toList.isEmpty = decide (l = []) := by rw [tx_toList, Bool.eq_iff_iff]; simp
set_option maxRecDepth 100000 in
set_option maxHeartbeats 1600000 in
theorem doLw (B d : Nat) (g : Dg) (regs : List Vl) (w : World) (h : DgW w B d g regs) :
    Calls Tryz.prog 83 #[.pointer (some ⟨d, 0, none⟩)] w (Did B d w { g with act := ⟨2, g.a.loc, 0, g.i.d, 0⟩ } regs (decide (g.a.loc ≠ []))) := by
  have hA := h.ask ⟨2, g.a.loc, 0, g.i.d, 0⟩
  have hB := Below.refl B w
  have hlo := h.lo; have hlt := h.lt; have hf := h.fz
  obtain ⟨⟨c0, c1, c2, c3, c4⟩, ⟨c5, c6, c7, c8, c9⟩, ⟨c10, c11, c12, c13, c14⟩, c15, c16, c17, c18, c19⟩ := h.cells
  have HZ := hid (emp_nz g.a.loc)
  clear h
  go_enter Tryz.func83, Tryz.ntmps83
  go_wp2_with fail
  go_big_region
  go_wp2_with fail
  go_ret
  first | exact ⟨ret_bool HZ.out, hA, belD (belD (belD (belD (belD hB hlo _ _) hlo _ _) hlo _ _) hlo _ _) hlo _ _⟩ | exact ⟨ret_bool HZ.out, hA.drew, belDr (belD (belD (belD (belD (belD hB hlo _ _) hlo _ _) hlo _ _) hlo _ _) hlo _ _) (by simp <;> omega)⟩
set_option maxRecDepth 100000 in
set_option maxHeartbeats 1600000 in
theorem doSw (B d : Nat) (g : Dg) (regs : List Vl) (w : World) (h : DgW w B d g regs) :
    Calls Tryz.prog 84 #[.pointer (some ⟨d, 0, none⟩)] w (Did B d w { g with act := ⟨3, g.a.loc, g.b.n, 0, 0⟩ } regs (decide (g.a.loc ≠ []) && decide (g.b.loc = []))) := by
  have hA := h.ask ⟨3, g.a.loc, g.b.n, 0, 0⟩
  have hB := Below.refl B w
  have hlo := h.lo; have hlt := h.lt; have hf := h.fz
  obtain ⟨⟨c0, c1, c2, c3, c4⟩, ⟨c5, c6, c7, c8, c9⟩, ⟨c10, c11, c12, c13, c14⟩, c15, c16, c17, c18, c19⟩ := h.cells
  have HZ := hid (emp_z g.b.loc)
  by_cases ha : g.a.loc = []
  · have z0 : ((tx g.a.loc).toList == []) = true := by rw [tx_toList, ha]; rfl
    have z1 : ((tx g.a.loc).toList != []) = false := by rw [tx_toList, ha]; rfl
    have z2 : (tx g.a.loc).toList.isEmpty = true := by rw [tx_toList, ha]; rfl
    have HR := hid (show (decide (g.a.loc ≠ []) && decide (g.b.loc = [])) = false by simp [ha])
    clear h ha
    go_enter Tryz.func84, Tryz.ntmps84
    go_wp2_with fail
    go_big_region
    go_wp2_with fail
    go_ret
    first | exact ⟨ret_bool HR.out.symm, hA, belD (belD (belD (belD (belD hB hlo _ _) hlo _ _) hlo _ _) hlo _ _) hlo _ _⟩ | exact ⟨ret_bool HR.out.symm, hA.drew, belDr (belD (belD (belD (belD (belD hB hlo _ _) hlo _ _) hlo _ _) hlo _ _) hlo _ _) (by simp <;> omega)⟩
  · have z0 : ((tx g.a.loc).toList == []) = false := tx_ne _ [] ha
    have z1 : ((tx g.a.loc).toList != []) = true := by rw [bne, z0]; rfl
    have z2 : (tx g.a.loc).toList.isEmpty = false := by rw [emp_z]; simpa using ha
    have HR := hid (show (decide (g.a.loc ≠ []) && decide (g.b.loc = [])) = decide (g.b.loc = []) by simp [ha])
    have y0 : ((tx g.b.loc).toList == []) = decide (g.b.loc = []) := by rw [tx_toList, Bool.eq_iff_iff]; simp
    clear h ha
    go_enter Tryz.func84, Tryz.ntmps84
    go_wp2_with fail
    go_big_region
    go_wp2_with fail
    go_ret
    first | exact ⟨ret_bool (by first | exact HR.out.symm | (rw [HR.out]; exact HZ.out)), hA, belD (belD (belD (belD (belD hB hlo _ _) hlo _ _) hlo _ _) hlo _ _) hlo _ _⟩ | exact ⟨ret_bool (by first | exact HR.out.symm | (rw [HR.out]; exact HZ.out)), hA.drew, belDr (belD (belD (belD (belD (belD hB hlo _ _) hlo _ _) hlo _ _) hlo _ _) hlo _ _) (by simp <;> omega)⟩
set_option maxRecDepth 100000 in
set_option maxHeartbeats 1600000 in
theorem doFence (B d : Nat) (g : Dg) (regs : List Vl) (w : World) (h : DgW w B d g regs) :
    Calls Tryz.prog 90 #[.pointer (some ⟨d, 0, none⟩)] w (Did B d w { g with act := ⟨4, [], 0, 0, g.i.fence⟩ } regs true) := by
  have hA := h.ask ⟨4, [], 0, 0, g.i.fence⟩
  have hB := Below.refl B w
  have hlo := h.lo; have hlt := h.lt; have hf := h.fz
  obtain ⟨⟨c0, c1, c2, c3, c4⟩, ⟨c5, c6, c7, c8, c9⟩, ⟨c10, c11, c12, c13, c14⟩, c15, c16, c17, c18, c19⟩ := h.cells
  clear h
  go_enter Tryz.func90, Tryz.ntmps90
  go_wp2_with fail
  go_ret
  first | exact ⟨rfl, hA, belD (belD (belD (belD (belD hB hlo _ _) hlo _ _) hlo _ _) hlo _ _) hlo _ _⟩ | exact ⟨rfl, hA.drew, belDr (belD (belD (belD (belD (belD hB hlo _ _) hlo _ _) hlo _ _) hlo _ _) hlo _ _) (by simp <;> omega)⟩
set_option maxRecDepth 100000 in
set_option maxHeartbeats 1600000 in
theorem doNone (B d : Nat) (g : Dg) (regs : List Vl) (w : World) (h : DgW w B d g regs) :
    Calls Tryz.prog 89 #[.pointer (some ⟨d, 0, none⟩)] w (Did B d w g regs true) := by
  go_enter Tryz.func89, Tryz.ntmps89
  go_wp2_with fail
  go_ret
  exact ⟨rfl, h, Below.refl _ _⟩
set_option maxRecDepth 100000 in
set_option maxHeartbeats 1600000 in
theorem doBne (B d : Nat) (g : Dg) (regs : List Vl) (w : World) (h : DgW w B d g regs) :
    Calls Tryz.prog 88 #[.pointer (some ⟨d, 0, none⟩)] w (Did B d w (if g.a = g.b then g else { g with at' := g.lab }) regs true) := by
  have hA := h.to g.lab
  have hA2 := h.drew.to g.lab
  have hB := Below.refl B w
  have hlo := h.lo; have hlt := h.lt; have hf := h.fz
  obtain ⟨⟨c0, c1, c2, c3, c4⟩, ⟨c5, c6, c7, c8, c9⟩, ⟨c10, c11, c12, c13, c14⟩, c15, c16, c17, c18, c19⟩ := h.cells
  by_cases hab : g.a = g.b
  · rw [if_pos hab]
    have hd : decide (g.a = g.b) = true := decide_eq_true hab
    have hd2 : (!decide (g.a = g.b)) = false := by rw [hd]; rfl
    have H := hid h
    clear hab h
    go_enter Tryz.func88, Tryz.ntmps88
    go_wp2_with fail
    go_big_region
    go_wp2_with fail
    go_ret
    first | exact ⟨rfl, H.out, hB⟩ | exact ⟨rfl, H.out.drew, belDr hB (by omega)⟩
  · rw [if_neg hab]
    have hd : decide (g.a = g.b) = false := decide_eq_false hab
    have hd2 : (!decide (g.a = g.b)) = true := by rw [hd]; rfl
    clear hab h
    go_enter Tryz.func88, Tryz.ntmps88
    go_wp2_with fail
    go_big_region
    go_wp2_with fail
    go_ret
    first | exact ⟨rfl, hA, belD hB hlo _ _⟩ | exact ⟨rfl, hA2, belD (belDr hB (by omega)) hlo _ _⟩
end Go.Proofs.YtigimkgmghjgoaaGreatDoor

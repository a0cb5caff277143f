/- The walks of set, either, mixed and their closures (the program's). Conditions: the instruction that is done lies in memory of the caller's own; numbers of 32 bits. · The walks of mixed, ori, xor, add (the program's). Conditions: the instruction that is done lies in memory of the caller's own; numbers of 32 bits. · The walks of xor, add (the program's). Conditions: the instruction that is done lies in memory of the caller's own; numbers of 32 bits. · The walk of ways, and what is looked up in its map (the program's). No condition. -/
import Derived.Test.YtigimkgmghjgoaaGreatDoorQV5
import Derived.MapKept
namespace Go.Proofs.YtigimkgmghjgoaaGreatDoor
open Go.RowKit
set_option linter.unusedVariables false

attribute [local go_sem high] eqV neqV
/-- a register is written -/
theorem DgW.reg {w : World} {B d : Nat} {g : Dg} {regs : List Vl} (h : DgW w B d g regs) (k : Nat) (hk : k < 32) (x : Vl) :
    DgW ((w.setCell ⟨bk g.ar, fo g.ar + k * 2, none⟩ (.string (tx x.loc))).setCell ⟨bk g.ar, fo g.ar + k * 2 + 1, none⟩ (.int .i64 x.n)) B d g (regs.set k x) ∧ B ≤ bk g.ar := by
  have ha : g.ar ≠ none := Own.some h.own (by omega)
  have hl := h.own.len
  have hne : bk g.ar ≠ d := by rcases h.ap with e | e; exact absurd e ha; exact e
  refine ⟨⟨h.lo, by simpa using h.lt, fun j hj => ?_, fun j => by rw [World.frozen?_setCell, World.frozen?_setCell]; exact h.fz j, (OwnV.set h.own ha k (by omega) x).1, h.ap⟩, (Own.lt h.own ha).1⟩
  rw [cset (adn hne), cset (adn hne)]; exact h.cell j hj
theorem regs_at {w : World} {B d : Nat} {g : Dg} {regs : List Vl} (h : DgW w B d g regs) (k : Nat) (hk : k < 32) :
    (∃ u, w.cell? ⟨bk g.ar, fo g.ar + k * 2, none⟩ = some u) ∧ (∃ u, w.cell? ⟨bk g.ar, fo g.ar + k * 2 + 1, none⟩ = some u) ∧ (∀ j, w.frozen? ⟨bk g.ar, fo g.ar + j, none⟩ = false) ∧ (∀ c w', (Instr.indexAt 40 (.slice g.ar 32 c) (.int .i64 k)).run Tryz.prog w' = .ok (.pointer (some ⟨bk g.ar, fo g.ar + k * 2, none⟩)) w') ∧ bk g.ar < w.heap.size ∧ bk g.ar ≠ d := by
  have hl := h.own.len
  have hv := OwnV.vs h.own (by omega)
  have ha : g.ar ≠ none := Own.some h.own (by omega)
  obtain ⟨p0, p1⟩ := hv.cells (k := k) (i := regs[k]'(by omega)) (List.getElem?_eq_getElem (by omega))
  refine ⟨⟨_, p0⟩, ⟨_, p1⟩, fun j => Own.frozen h.own ha j, fun c w' => ?_, (Own.lt h.own ha).2, by rcases h.ap with e | e; exact absurd e ha; exact e⟩
  have := hv.idx k (by omega) c w'
  rw [← hl] at this
  exact this
def setR (regs : List Vl) (d : Int) (v : Vl) : List Vl := if d = 0 then regs else regs.set d.toNat v
set_option maxRecDepth 100000 in
set_option maxHeartbeats 1600000 in
theorem doSet (B d : Nat) (g : Dg) (regs : List Vl) (v : Vl) (hd : regB g.i.d = true) (w : World) (h : DgW w B d g regs) :
    Calls Tryz.prog 113 #[.pointer (some ⟨d, 0, none⟩), vV v] w (Did B d w g (setR regs g.i.d v) true) := by
  have hlo := h.lo
  have hb : Below B w (w.alloc (mkV v)) := (Below.refl B w).alloc (by have := h.lt; omega) _
  have h1 := h.below (al w (mkV v))
  by_cases h0 : g.i.d = 0
  · have HR := hid (show setR regs g.i.d v = regs by unfold setR; rw [if_pos h0])
    rw [HR.out]
    obtain ⟨⟨c0, c1, c2, c3, c4⟩, -⟩ := h.cells
    have z : (g.i.d == 0) = true := by simpa using h0
    have z1 : (g.i.d != 0) = false := by simpa using h0
    rw [h0] at c1
    have hlt := h.lt
    have H1 := hid h1
    clear h0 h h1 HR
    go_enter Tryz.func113, Tryz.ntmps113
    go_wp2_with fail
    go_ret
    exact ⟨rfl, H1.out, hb⟩
  · obtain ⟨k, hk, hdk⟩ := regB_nat hd
    have HR := hid (show setR regs g.i.d v = regs.set k v by unfold setR; rw [if_neg h0, hdk]; rfl)
    rw [HR.out]
    obtain ⟨⟨u0, q0⟩, ⟨u1, q1⟩, hf, ix, hlb, hne⟩ := regs_at h k hk
    obtain ⟨⟨c0, c1, c2, c3, c4⟩, -, ⟨c10, c11, c12, c13, c14⟩, -⟩ := h.cells
    have z1 : ((k : Int) != 0) = true := by simp; omega
    have z : ((k : Int) == 0) = false := by simp; omega
    rw [hdk] at c1
    have hlt := h.lt
    obtain ⟨r1, hB1⟩ := h.reg k hk v
    have r2 := (r1.below (al _ (mkV v))).drew
    have e1 : Below B w ((w.setCell ⟨bk g.ar, fo g.ar + k * 2, none⟩ (.string (tx v.loc))).setCell ⟨bk g.ar, fo g.ar + k * 2 + 1, none⟩ (.int .i64 v.n)) := Below.setCell (p := ⟨bk g.ar, fo g.ar + k * 2 + 1, none⟩) (Below.setCell (p := ⟨bk g.ar, fo g.ar + k * 2, none⟩) (Below.refl B w) hB1 _) hB1 _
    have e2 := belDr (e1.alloc (by simp; omega) (mkV v)) (by simp; omega)
    have R2 := hid r2; have E2 := hid e2
    clear h0 h h1 HR r1 r2 hd e1 e2
    generalize regs.set k v = rg at *
    have hf0 := hf (k * 2)
    have hf1 : w.frozen? ⟨bk g.ar, fo g.ar + k * 2 + 1, none⟩ = false := by rw [Nat.add_assoc]; exact hf (k * 2 + 1)
    clear hf
    go_enter Tryz.func113, Tryz.ntmps113
    go_wp2_with fail
    go_big_region
    go_wp2_with fail
    go_ret
    exact ⟨rfl, R2.out, E2.out⟩
def eitherV (a b : Vl) : Option Vl := if b = vl0 then some a else if a = vl0 then some b else none
set_option maxRecDepth 100000 in
set_option maxHeartbeats 1600000 in
theorem doEither (a b : Vl) (w : World) : Calls Tryz.prog 144 #[vV a, vV b] w (MixP (eitherV a b) w) := by
  have hE1 : ∀ w, (binOp .eql 50 (.agg #[.string (tx b.loc), .int .i64 b.n]) (.agg #[.string ⟨#[]⟩, .int .i64 0])).run Tryz.prog w = .ok (.bool (decide (b = vl0))) w := fun w => eqV b vl0 w
  have hE2 : ∀ w, (binOp .eql 50 (.agg #[.string (tx a.loc), .int .i64 a.n]) (.agg #[.string ⟨#[]⟩, .int .i64 0])).run Tryz.prog w = .ok (.bool (decide (a = vl0))) w := fun w => eqV a vl0 w
  by_cases hb : b = vl0
  · have HF := hid (show eitherV a b = some ⟨a.loc, a.n⟩ by unfold eitherV; rw [if_pos hb])
    rw [decide_eq_true hb] at hE1
    generalize eitherV a b = r at *
    clear hb hE2
    go_enter Tryz.func144, Tryz.ntmps144
    go_wp2_with fail
    exact bodyPost_ret (by simp [results, Tryz.results144, go_sem]) rfl (MixP.yes HF.out rfl (by repeat (first | with_reducible assumption | with_reducible exact Below.refl _ _ | with_reducible refine bel_alloc ?_ _ | with_reducible refine bel_drew ?_ | with_reducible refine bel_set ?_ (by dsimp only; omega) _)))
  · rw [decide_eq_false hb] at hE1
    by_cases ha : a = vl0
    · have HF := hid (show eitherV a b = some ⟨b.loc, b.n⟩ by unfold eitherV; rw [if_neg hb, if_pos ha])
      rw [decide_eq_true ha] at hE2
      generalize eitherV a b = r at *
      clear hb ha
      go_enter Tryz.func144, Tryz.ntmps144
      go_wp2_with fail
      exact bodyPost_ret (by simp [results, Tryz.results144, go_sem]) rfl (MixP.yes HF.out rfl (by repeat (first | with_reducible assumption | with_reducible exact Below.refl _ _ | with_reducible refine bel_alloc ?_ _ | with_reducible refine bel_drew ?_ | with_reducible refine bel_set ?_ (by dsimp only; omega) _)))
    · have HF := hid (show eitherV a b = none by unfold eitherV; rw [if_neg hb, if_neg ha])
      rw [decide_eq_false ha] at hE2
      generalize eitherV a b = r at *
      clear hb ha
      go_enter Tryz.func144, Tryz.ntmps144
      go_wp2_with fail
      exact bodyPost_ret (by simp [results, Tryz.results144, go_sem]) rfl (MixP.no HF.out rfl (by repeat (first | with_reducible assumption | with_reducible exact Below.refl _ _ | with_reducible refine bel_alloc ?_ _ | with_reducible refine bel_drew ?_ | with_reducible refine bel_set ?_ (by dsimp only; omega) _)))
theorem closOr (x y : Int) (w : World) : Calls Tryz.prog 112 #[.int .i32 x, .int .i32 y] w fun e w' => e = .returned (.int .i32 (or32 x y)) ∧ w = w' := by
  have hb := bits32_or x y
  generalize or32 x y = z at *
  go_enter Tryz.func112, Tryz.ntmps112
  go_wp2_with fail
  go_ret
  exact ⟨rfl, rfl⟩
theorem closXor (x y : Int) (w : World) : Calls Tryz.prog 114 #[.int .i32 x, .int .i32 y] w fun e w' => e = .returned (.int .i32 (xor32 x y)) ∧ w = w' := by
  have hb := bits32_xor x y
  generalize xor32 x y = z at *
  go_enter Tryz.func114, Tryz.ntmps114
  go_wp2_with fail
  go_ret
  exact ⟨rfl, rfl⟩
theorem closAdd (x y : Int) (w : World) : Calls Tryz.prog 115 #[.int .i32 x, .int .i32 y] w fun e w' => e = .returned (.int .i32 (add32 x y)) ∧ w = w' := by
  have hb := round_add x y
  rw [IntWalk.i32_left] at hb
  generalize add32 x y = z at *
  go_enter Tryz.func115, Tryz.ntmps115
  go_wp2_with fail
  go_ret
  exact ⟨ret_int hb, rfl⟩
end Go.Proofs.YtigimkgmghjgoaaGreatDoor
namespace Go.Proofs.YtigimkgmghjgoaaGreatDoor
open Go.RowKit
set_option linter.unusedVariables false

attribute [local go_sem high] eqV neqV
def n32 (x : Int) : Prop := -2147483648 ≤ x ∧ x ≤ 2147483647
theorem n32_wrap {x : Int} (h : n32 x) : IntKind.i32.wrap x = x := by
  rw [IntWalk.i32_left]; exact IntWalk.wrap32_in x h
theorem f32_in (op x y : Int) : n32 (f32 op x y) := by
  unfold f32 or32 xor32 add32
  split
  · exact small32 _
  · split
    · exact small32 _
    · exact small32 _
theorem mix_either {op : Int} {a b : Vl} (h : ¬ (a.loc = [] ∧ b.loc = [])) : mixV op a b = eitherV a b := by
  obtain ⟨al', an⟩ := a
  obtain ⟨bl', bn⟩ := b
  unfold mixV eitherV
  simp only at h ⊢
  rw [if_neg h]
  simp only [vl0, Vl.mk.injEq]
  by_cases h1 : bl' = [] <;> by_cases h2 : al' = [] <;> by_cases h3 : bn = 0 <;> by_cases h4 : an = 0 <;> simp_all
def outM (regs : List Vl) (d : Int) : Option Vl → List Vl
  | some v => setR regs d v
  | none => regs
set_option maxRecDepth 100000 in
set_option maxHeartbeats 3200000 in
theorem doMixed (op : Int) (F : FuncId) (HE : ∀ args w, (callFunc F args).run Tryz.prog w = .ok (.enter F args) w) (CF : ∀ x y w, Calls Tryz.prog F #[.int .i32 x, .int .i32 y] w fun e w' => e = .returned (.int .i32 (f32 op x y)) ∧ w = w') (B d : Nat) (g : Dg) (regs : List Vl) (a b : Vl) (ha : n32 a.n) (hb : n32 b.n) (hd : regB g.i.d = true) (w : World) (h : DgW w B d g regs) :
    Calls Tryz.prog 111 #[.pointer (some ⟨d, 0, none⟩), vV a, vV b, .func (.func F) #[] #[]] w (Did B d w g (outM regs g.i.d (mixV op a b)) (mixV op a b).isSome) := by
  have hlt := h.lt
  have hlo := h.lo
  have B1 : Below B w (w.alloc (mkV a)) := (Below.refl B w).alloc (by omega) _
  have B2 : Below B w ((w.alloc (mkV a)).alloc (mkV b)) := B1.alloc (by simp; omega) _
  have h2 := (h.below (al w (mkV a))).below (al (w.alloc (mkV a)) (mkV b))
  by_cases hl : a.loc = [] ∧ b.loc = []
  · obtain ⟨al', an⟩ := a
    obtain ⟨bl', bn⟩ := b
    obtain ⟨e1, e2⟩ := hl
    simp only at e1 e2 ha hb
    subst e1 e2
    have hm : mixV op ⟨[], an⟩ ⟨[], bn⟩ = some ⟨[], f32 op an bn⟩ := rfl
    rw [hm]
    have z0 : ((tx ([] : Tx)).toList == []) = true := by rw [tx_toList]; rfl
    have wa := n32_wrap ha; have wb := n32_wrap hb
    have wa2 : wrap32 an = an := IntWalk.wrap32_in an ha
    have wb2 : wrap32 bn = bn := IntWalk.wrap32_in bn hb
    have CC := hid (CF an bn)
    have hz := f32_in op an bn
    have ST := hid (fun (w : World) (h : DgW w B d g regs) => doSet B d g regs ⟨[], f32 op an bn⟩ hd w h)
    have HO := hid (show outM regs g.i.d (some ⟨[], f32 op an bn⟩) = setR regs g.i.d ⟨[], f32 op an bn⟩ from rfl)
    rw [HO.out]
    generalize setR regs g.i.d ⟨[], f32 op an bn⟩ = rg at *
    generalize f32 op an bn = z at *
    have wz : IntKind.i64.wrap z = z := IntWalk.i64_in _ (by unfold n32 at hz; omega)
    have wz2 : wrap64 z = z := by rw [← IntWalk.i64_left]; exact wz
    have H2 := hid h2
    clear hm h h2 CF HO ha hb hz
    go_enter Tryz.func111, Tryz.ntmps111
    go_wp2_with fail
    refine (CC.out _).mono ?_
    rintro e w1 ⟨rfl, rfl⟩
    go_wp2_with fail
    refine (ST.out _ H2.out).mono ?_
    rintro e w1 ⟨rfl, D1, E1⟩
    go_wp2_with fail
    go_ret
    exact ⟨rfl, D1, B2.trans E1⟩
  · rw [mix_either hl]
    have EI := hid (fun w => doEither a b w)
    cases hr : eitherV a b with
    | none =>
      have EI := hid (fun w => show Calls Tryz.prog 144 #[vV a, vV b] w (Ret w (.tuple #[.agg #[.string ⟨#[]⟩, .int .i64 0], .bool false])) by have := doEither a b w; rw [hr] at this; exact this)
      have H2 := hid h2
      by_cases h1 : a.loc = []
      · have h3 : b.loc ≠ [] := fun e => hl ⟨h1, e⟩
        have z0 : ((tx a.loc).toList == []) = true := by rw [tx_toList, h1]; rfl
        have y0 : ((tx b.loc).toList == []) = false := tx_ne _ [] h3
        clear h h2 hl h1 h3 hr CF ha hb
        go_enter Tryz.func111, Tryz.ntmps111
        go_wp2_with fail
        refine (EI.out _).mono ?_
        rintro e w1 ⟨rfl, E1⟩
        have D1 := H2.out.below E1
        go_wp2_with fail
        go_ret
        exact ⟨rfl, D1.below (al _ _), (B2.trans (E1.mono (Nat.le_trans (by omega : B ≤ w.heap.size) B2.size))).alloc (by have := D1.lt; omega) _⟩
      · have z0 : ((tx a.loc).toList == []) = false := tx_ne _ [] h1
        clear h h2 hl h1 hr CF ha hb
        go_enter Tryz.func111, Tryz.ntmps111
        go_wp2_with fail
        refine (EI.out _).mono ?_
        rintro e w1 ⟨rfl, E1⟩
        have D1 := H2.out.below E1
        go_wp2_with fail
        go_ret
        exact ⟨rfl, D1.below (al _ _), (B2.trans (E1.mono (Nat.le_trans (by omega : B ≤ w.heap.size) B2.size))).alloc (by have := D1.lt; omega) _⟩
    | some v =>
      obtain ⟨vl, vn⟩ := v
      have EI := hid (fun w => show Calls Tryz.prog 144 #[vV a, vV b] w (Ret w (.tuple #[.agg #[.string (tx vl), .int .i64 vn], .bool true])) by have := doEither a b w; rw [hr] at this; exact this)
      have H2 := hid h2
      have ST := hid (fun (w : World) (h : DgW w B d g regs) => doSet B d g regs ⟨vl, vn⟩ hd w h)
      have HO := hid (show outM regs g.i.d (some ⟨vl, vn⟩) = setR regs g.i.d ⟨vl, vn⟩ from rfl)
      rw [HO.out]
      generalize setR regs g.i.d ⟨vl, vn⟩ = rg at *
      by_cases h1 : a.loc = []
      · have h3 : b.loc ≠ [] := fun e => hl ⟨h1, e⟩
        have z0 : ((tx a.loc).toList == []) = true := by rw [tx_toList, h1]; rfl
        have y0 : ((tx b.loc).toList == []) = false := tx_ne _ [] h3
        clear h h2 hl h1 h3 hr CF HO ha hb
        go_enter Tryz.func111, Tryz.ntmps111
        go_wp2_with fail
        refine (EI.out _).mono ?_
        rintro e w1 ⟨rfl, E1⟩
        have D1 := (H2.out.below E1).below (al w1 (mkV ⟨vl, vn⟩))
        have B3 := (B2.trans (E1.mono (Nat.le_trans (by omega : B ≤ w.heap.size) B2.size))).alloc (by have := (H2.out.below E1).lt; omega) (mkV ⟨vl, vn⟩)
        go_wp2_with fail
        refine (ST.out _ D1).mono ?_
        rintro e w2 ⟨rfl, D2, E2⟩
        go_wp2_with fail
        go_ret
        exact ⟨rfl, D2, B3.trans E2⟩
      · have z0 : ((tx a.loc).toList == []) = false := tx_ne _ [] h1
        clear h h2 hl h1 hr CF HO ha hb
        go_enter Tryz.func111, Tryz.ntmps111
        go_wp2_with fail
        refine (EI.out _).mono ?_
        rintro e w1 ⟨rfl, E1⟩
        have D1 := (H2.out.below E1).below (al w1 (mkV ⟨vl, vn⟩))
        have B3 := (B2.trans (E1.mono (Nat.le_trans (by omega : B ≤ w.heap.size) B2.size))).alloc (by have := (H2.out.below E1).lt; omega) (mkV ⟨vl, vn⟩)
        go_wp2_with fail
        refine (ST.out _ D1).mono ?_
        rintro e w2 ⟨rfl, D2, E2⟩
        go_wp2_with fail
        go_ret
        exact ⟨rfl, D2, B3.trans E2⟩
theorem entOr : ∀ args w, (callFunc 112 args).run Tryz.prog w = .ok (.enter 112 args) w := enters_of Tryz.func112 (by kernel_rfl) rfl
theorem entXor : ∀ args w, (callFunc 114 args).run Tryz.prog w = .ok (.enter 114 args) w := enters_of Tryz.func114 (by kernel_rfl) rfl
theorem entAdd : ∀ args w, (callFunc 115 args).run Tryz.prog w = .ok (.enter 115 args) w := enters_of Tryz.func115 (by kernel_rfl) rfl
set_option maxRecDepth 100000 in
set_option maxHeartbeats 1600000 in
theorem doOri (B d : Nat) (g : Dg) (regs : List Vl) (ha : n32 g.a.n) (hb : n32 g.i.imm) (hd : regB g.i.d = true) (w : World) (h : DgW w B d g regs) :
    Calls Tryz.prog 85 #[.pointer (some ⟨d, 0, none⟩)] w (Did B d w g (outM regs g.i.d (mixV 8 g.a ⟨[], g.i.imm⟩)) (mixV 8 g.a ⟨[], g.i.imm⟩).isSome) := by
  have MX := hid (fun w h => (show Calls Tryz.prog 111 #[.pointer (some ⟨d, 0, none⟩), .agg #[.string (tx g.a.loc), .int .i64 g.a.n], .agg #[.string ⟨#[]⟩, .int .i64 g.i.imm], .func (.func 112) #[] #[]] w (Did B d w g (outM regs g.i.d (mixV 8 g.a ⟨[], g.i.imm⟩)) (mixV 8 g.a ⟨[], g.i.imm⟩).isSome) from doMixed 8 _ entOr closOr B d g regs g.a ⟨[], g.i.imm⟩ ha hb hd w h))
  generalize outM regs g.i.d (mixV 8 g.a ⟨[], g.i.imm⟩) = rg at *
  generalize (mixV 8 g.a ⟨[], g.i.imm⟩).isSome = ok at *
  have hlo := h.lo; have hlt := h.lt
  obtain ⟨⟨c0, c1, c2, c3, c4⟩, ⟨c5, c6, c7, c8, c9⟩, ⟨c10, c11, c12, c13, c14⟩, c15, c16, c17, c18, c19⟩ := h.cells
  have H := hid h
  have hdr := belDr (Below.refl B w) (by omega : B ≤ w.heap.size)
  clear h ha hb hd
  go_enter Tryz.func85, Tryz.ntmps85
  go_wp2_with fail
  go_region_with (go_at_call 111; refine (MX.out _ (by first | exact H.out.drew | exact H.out)).mono ?_; rintro e' w' ⟨rfl, D1, E1⟩)
  all_goals
    go_wp2_with fail
    go_ret
    first | exact ⟨rfl, D1, hdr.trans E1⟩ | exact ⟨rfl, D1, E1⟩ | exact ⟨rfl, D1.drew, belDr E1 (by have := D1.lt; omega)⟩
end Go.Proofs.YtigimkgmghjgoaaGreatDoor
namespace Go.Proofs.YtigimkgmghjgoaaGreatDoor
open Go.RowKit
set_option linter.unusedVariables false

attribute [local go_sem high] eqV neqV
set_option maxRecDepth 100000 in
set_option maxHeartbeats 1600000 in
theorem doAdd (B d : Nat) (g : Dg) (regs : List Vl) (ha : n32 g.a.n) (hb : n32 g.b.n) (hd : regB g.i.d = true) (w : World) (h : DgW w B d g regs) :
    Calls Tryz.prog 87 #[.pointer (some ⟨d, 0, none⟩)] w (Did B d w g (outM regs g.i.d (mixV 10 g.a g.b)) (mixV 10 g.a g.b).isSome) := by
  have MX := hid (fun w h => (show Calls Tryz.prog 111 #[.pointer (some ⟨d, 0, none⟩), .agg #[.string (tx g.a.loc), .int .i64 g.a.n], .agg #[.string (tx g.b.loc), .int .i64 g.b.n], .func (.func 115) #[] #[]] w (Did B d w g (outM regs g.i.d (mixV 10 g.a g.b)) (mixV 10 g.a g.b).isSome) from doMixed 10 _ entAdd closAdd B d g regs g.a g.b ha hb hd w h))
  generalize outM regs g.i.d (mixV 10 g.a g.b) = rg at *
  generalize (mixV 10 g.a g.b).isSome = ok at *
  have hlo := h.lo; have hlt := h.lt
  obtain ⟨⟨c0, c1, c2, c3, c4⟩, ⟨c5, c6, c7, c8, c9⟩, ⟨c10, c11, c12, c13, c14⟩, c15, c16, c17, c18, c19⟩ := h.cells
  have H := hid h
  have hdr := belDr (Below.refl B w) (by omega : B ≤ w.heap.size)
  clear h ha hb hd
  go_enter Tryz.func87, Tryz.ntmps87
  go_wp2_with fail
  go_region_with (go_at_call 111; refine (MX.out _ (by first | exact H.out.drew | exact H.out)).mono ?_; rintro e' w' ⟨rfl, D1, E1⟩)
  all_goals
    go_wp2_with fail
    go_ret
    first | exact ⟨rfl, D1, hdr.trans E1⟩ | exact ⟨rfl, D1, E1⟩ | exact ⟨rfl, D1.drew, belDr E1 (by have := D1.lt; omega)⟩
/-- what an exclusive or leaves -/
def xorV (i : Ins) (a b : Vl) : Option Vl := if i.a = i.b then some vl0 else mixV 9 a b
set_option maxRecDepth 100000 in
set_option maxHeartbeats 1600000 in
theorem doXor (B d : Nat) (g : Dg) (regs : List Vl) (ha : n32 g.a.n) (hb : n32 g.b.n) (hd : regB g.i.d = true) (w : World) (h : DgW w B d g regs) :
    Calls Tryz.prog 86 #[.pointer (some ⟨d, 0, none⟩)] w (Did B d w g (outM regs g.i.d (xorV g.i g.a g.b)) (xorV g.i g.a g.b).isSome) := by
  have hlo := h.lo; have hlt := h.lt
  have hdr := belDr (Below.refl B w) (by omega : B ≤ w.heap.size)
  by_cases he : g.i.a = g.i.b
  · have HX := hid (show xorV g.i g.a g.b = some vl0 by unfold xorV; rw [if_pos he])
    rw [HX.out]
    have ST := hid (fun (w : World) (h : DgW w B d g regs) => (show Calls Tryz.prog 113 #[.pointer (some ⟨d, 0, none⟩), .agg #[.string ⟨#[]⟩, .int .i64 0]] w (Did B d w g (setR regs g.i.d vl0) true) from doSet B d g regs vl0 hd w h))
    have HO := hid (show outM regs g.i.d (some vl0) = setR regs g.i.d vl0 from rfl)
    rw [HO.out]
    generalize setR regs g.i.d vl0 = rg at *
    obtain ⟨⟨c0, c1, c2, c3, c4⟩, ⟨c5, c6, c7, c8, c9⟩, ⟨c10, c11, c12, c13, c14⟩, c15, c16, c17, c18, c19⟩ := h.cells
    rw [he] at c2
    have z : (g.i.b == g.i.b) = true := by simp
    have H := hid h
    clear h ha hb hd he HX HO
    go_enter Tryz.func86, Tryz.ntmps86
    go_wp2_with fail
    go_big_region
    go_wp2_with fail
    refine (ST.out _ (by first | exact H.out.drew | exact H.out)).mono ?_
    rintro e' w' ⟨rfl, D1, E1⟩
    go_wp2_with fail
    go_ret
    first | exact ⟨rfl, D1, hdr.trans E1⟩ | exact ⟨rfl, D1, E1⟩
  · have HX := hid (show xorV g.i g.a g.b = mixV 9 g.a g.b by unfold xorV; rw [if_neg he])
    rw [HX.out]
    have MX := hid (fun w h => (show Calls Tryz.prog 111 #[.pointer (some ⟨d, 0, none⟩), .agg #[.string (tx g.a.loc), .int .i64 g.a.n], .agg #[.string (tx g.b.loc), .int .i64 g.b.n], .func (.func 114) #[] #[]] w (Did B d w g (outM regs g.i.d (mixV 9 g.a g.b)) (mixV 9 g.a g.b).isSome) from doMixed 9 _ entXor closXor B d g regs g.a g.b ha hb hd w h))
    generalize outM regs g.i.d (mixV 9 g.a g.b) = rg at *
    generalize (mixV 9 g.a g.b).isSome = ok at *
    obtain ⟨⟨c0, c1, c2, c3, c4⟩, ⟨c5, c6, c7, c8, c9⟩, ⟨c10, c11, c12, c13, c14⟩, c15, c16, c17, c18, c19⟩ := h.cells
    have z : (g.i.a == g.i.b) = false := by simpa using he
    have H := hid h
    have hdr2 := belDr hdr (by simp; omega : B ≤ w.drew.heap.size)
    clear h ha hb hd he HX
    go_enter Tryz.func86, Tryz.ntmps86
    go_wp2_with fail
    go_big_region
    go_wp2_with fail
    go_region_with (go_at_call 111; refine (MX.out _ (by first | exact H.out.drew.drew | exact H.out.drew | exact H.out)).mono ?_; rintro e' w' ⟨rfl, D1, E1⟩)
    all_goals
      go_wp2_with fail
      go_ret
      first | exact ⟨rfl, D1, hdr2.trans E1⟩ | exact ⟨rfl, D1, hdr.trans E1⟩ | exact ⟨rfl, D1, E1⟩ | exact ⟨rfl, D1.drew, belDr E1 (by have := D1.lt; omega)⟩
end Go.Proofs.YtigimkgmghjgoaaGreatDoor
namespace Go.Proofs.YtigimkgmghjgoaaGreatDoor
open Go.RowKit Go.MapKept
set_option linter.unusedVariables false

def wayF : Nat → FuncId
  | 0 => 83
  | 1 => 84
  | 2 => 85
  | 3 => 86
  | 4 => 87
  | 5 => 88
  | 6 => 89
  | _ => 90
def wayE (j : Nat) : MapEntry := { key := .int .i64 (6 + (j : Int)), val := .func (.func (wayF j)) #[] #[], born := j }
def wE : Nat → Array MapEntry
  | 0 => #[]
  | n + 1 => (wE n).push (wayE n)
theorem push_set (h : Array Obj) (o o' : Obj) : (h.push o).setIfInBounds h.size o' = h.push o' := by
  apply Array.ext_getElem?
  intro i
  rw [Array.getElem?_setIfInBounds, Array.getElem?_push, Array.getElem?_push]
  by_cases e : h.size = i
  · subst e; simp
  · rw [if_neg e, if_neg (fun h' => e h'.symm), if_neg (fun h' => e h'.symm)]
theorem alloc_set (w : World) (o o' : Obj) : { w.alloc o with heap := (w.alloc o).heap.setIfInBounds w.heap.size o' } = w.alloc o' := by
  have h := push_set w.heap o o'
  unfold World.alloc
  simp only
  rw [h]
theorem upd (w : World) (n : Nat) (hn : n ≤ 8) :
    (Instr.mapUpdate 84 (.map (some w.heap.size)) (.int .i64 (6 + (n : Int))) (.func (.func (wayF n)) #[] #[])).run Tryz.prog (w.alloc (.map (wE n) n)) = .ok () (w.alloc (.map (wE (n + 1)) (n + 1))) := by
  have hb := heap_alloc_new w (.map (wE n) n)
  have hk : IsKey (.int .i64) (.int .i64 (6 + (n : Int))) := by simp [IsKey]
  have h1 : Instr.findNow (.int .i64) (.int .i64 (6 + (n : Int))) (wE n).toList 0 = some none := by
    have hp : n = 0 ∨ n = 1 ∨ n = 2 ∨ n = 3 ∨ n = 4 ∨ n = 5 ∨ n = 6 ∨ n = 7 ∨ n = 8 := by omega
    rcases hp with rfl | rfl | rfl | rfl | rfl | rfl | rfl | rfl | rfl <;> rfl
  have hm : Tryz.prog.underlying 84 = some (.map 3 83) := Tryz.underlying84
  simp [Instr.mapUpdate, run_underlying hm, MapKept.run_getObj_map hb, MapKept.run_checkKey Tryz.underlying3 hk, MapKept.run_findKey Tryz.underlying3 h1, MapKept.run_setObj_map _ hb, Result.andThen]
  rw [← alloc_set w (.map (wE n) n) (.map (wE (n + 1)) (n + 1))]
  rfl
theorem progWays (w : World) : Calls Tryz.prog 56 #[] w fun e w' => e = .returned (.map (some w.heap.size)) ∧ Below w.heap.size w w' ∧ w'.heap[w.heap.size]? = some (.map (wE 8) 8) := by
  have hmm := @run_makeMap Tryz.prog
  have u0 : (Instr.mapUpdate 84 (.map (some w.heap.size)) (.int .i64 6) (.func (.func 83) #[] #[])).run Tryz.prog (w.alloc (.map #[] 0)) = .ok () (w.alloc (.map (wE 1) 1)) := upd w 0 (by omega)
  have u1 : (Instr.mapUpdate 84 (.map (some w.heap.size)) (.int .i64 7) (.func (.func 84) #[] #[])).run Tryz.prog (w.alloc (.map (wE 1) 1)) = .ok () (w.alloc (.map (wE 2) 2)) := upd w 1 (by omega)
  have u2 : (Instr.mapUpdate 84 (.map (some w.heap.size)) (.int .i64 8) (.func (.func 85) #[] #[])).run Tryz.prog (w.alloc (.map (wE 2) 2)) = .ok () (w.alloc (.map (wE 3) 3)) := upd w 2 (by omega)
  have u3 : (Instr.mapUpdate 84 (.map (some w.heap.size)) (.int .i64 9) (.func (.func 86) #[] #[])).run Tryz.prog (w.alloc (.map (wE 3) 3)) = .ok () (w.alloc (.map (wE 4) 4)) := upd w 3 (by omega)
  have u4 : (Instr.mapUpdate 84 (.map (some w.heap.size)) (.int .i64 10) (.func (.func 87) #[] #[])).run Tryz.prog (w.alloc (.map (wE 4) 4)) = .ok () (w.alloc (.map (wE 5) 5)) := upd w 4 (by omega)
  have u5 : (Instr.mapUpdate 84 (.map (some w.heap.size)) (.int .i64 11) (.func (.func 88) #[] #[])).run Tryz.prog (w.alloc (.map (wE 5) 5)) = .ok () (w.alloc (.map (wE 6) 6)) := upd w 5 (by omega)
  have u6 : (Instr.mapUpdate 84 (.map (some w.heap.size)) (.int .i64 12) (.func (.func 89) #[] #[])).run Tryz.prog (w.alloc (.map (wE 6) 6)) = .ok () (w.alloc (.map (wE 7) 7)) := upd w 6 (by omega)
  have u7 : (Instr.mapUpdate 84 (.map (some w.heap.size)) (.int .i64 13) (.func (.func 90) #[] #[])).run Tryz.prog (w.alloc (.map (wE 7) 7)) = .ok () (w.alloc (.map (wE 8) 8)) := upd w 7 (by omega)
  have hB := al w (.map (wE 8) 8)
  have hN := heap_alloc_new w (.map (wE 8) 8)
  go_enter Tryz.func56, Tryz.ntmps56
  go_wp2_with fail
  go_ret
  exact ⟨rfl, hB, hN⟩
theorem lookW {w : World} {b : Nat} (hb : w.heap[b]? = some (.map (wE 8) 8)) (n : Nat) (hn : n < 8) :
    (Instr.lookup 84 (.map (some b)) (.int .i64 (6 + (n : Int))) false).run Tryz.prog w = .ok (.func (.func (wayF n)) #[] #[]) w := by
  have hk : IsKey (.int .i64) (.int .i64 (6 + (n : Int))) := by simp [IsKey]
  have h1 : Instr.findNow (.int .i64) (.int .i64 (6 + (n : Int))) (wE 8).toList 0 = some (some (n, .func (.func (wayF n)) #[] #[])) := by
    have hp : n = 0 ∨ n = 1 ∨ n = 2 ∨ n = 3 ∨ n = 4 ∨ n = 5 ∨ n = 6 ∨ n = 7 := by omega
    rcases hp with rfl | rfl | rfl | rfl | rfl | rfl | rfl | rfl <;> rfl
  have hm : Tryz.prog.underlying 84 = some (.map 3 83) := Tryz.underlying84
  simp [Instr.lookup, run_underlying hm, MapKept.run_getObj_map hb, MapKept.run_checkKey Tryz.underlying3 hk, MapKept.run_findKey Tryz.underlying3 h1, Result.andThen]
end Go.Proofs.YtigimkgmghjgoaaGreatDoor

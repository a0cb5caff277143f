/- The walk of Copy of the statements. Condition: the test lies in memory as read; its lists are no longer than memory. -/
import Derived.Test.YthaibjefnclkjaaGreatDoorZ27
import Derived.Test.YthaibjefnclkjaaGreatDoorZ25
import Derived.Test.YthaibjefnclkjaaGreatDoorZ24
import Derived.Test.YthaibjefnclkjaaGreatDoorY7
import Derived.Test.YthaibjefnclkjaaGreatDoorZ23
import Derived.Test.YthaibjefnclkjaaGreatDoorY6
import Derived.Test.YthaibjefnclkjaaGreatDoorZ22
import Derived.Test.YthaibjefnclkjaaGreatDoorZ20
import Derived.Test.YthaibjefnclkjaaGreatDoorY3
import Derived.Test.YthaibjefnclkjaaGreatDoorZ14
import Derived.Test.YthaibjefnclkjaaGreatDoorY1
import Derived.Test.YthaibjefnclkjaaGreatDoorZ5
import Derived.Test.YthaibjefnclkjaaGreatDoorZ4
import Derived.Test.YthaibjefnclkjaaGreatDoorZ3
import Derived.Test.YthaibjefnclkjaaGreatDoorZ2
import Derived.Test.YthaibjefnclkjaaGreatDoorZ1
import Derived.Test.YthaibjefnclkjaaGreatDoorRows
import Derived.Lib.SlTrimSet
import Derived.Lib.ItoaNum
import Derived.WalkKit
import Derived.WalkSpells
import Derived.WalkLawsBesides
import Derived.Deep.QuietTactic
import Derived.BigQuiet
import Derived.ProofKit
import Derived.OpenShut
import Derived.ShutString
import Derived.ChangeOld
import Derived.Carry
import Derived.SizedLaws
import Derived.Laws.StructEq
import Derived.Shelf.SlicesQ.Load
import Derived.Lib.SplitLaws
import Derived.Lib.Strings
import Derived.Lib.ItoaMem
import Derived.Shelf.Strings.SlTrimAscii
import Derived.Shelf.Small.Strs
import Derived.Shelf.Strconv.Itoa3
import Derived.Shelf.LaysM
import Derived.Shelf.Strings.Prefix
import Derived.Test.YthaibjefnclkjaaGreatDoorProg
import Derived.Lib.ItoaLen
import Derived.WalkSmall
import Derived.Laws.Concat
import Derived.BigRegion
import Derived.StillTailTactics
import Derived.Deep.RegionWith
import Derived.Lib.AtoiAll
import Derived.Deep.DeepCutAuto
import Derived.Maps.OwnSet
import Derived.Maps.Views
import Derived.Lib.Bytealg
import Derived.Test.YthaibjefnclkjaaGreatDoorY2
import Derived.Test.YthaibjefnclkjaaGreatDoorZ12
import Derived.Test.YthaibjefnclkjaaGreatDoorZ7
import Derived.Test.YthaibjefnclkjaaGreatDoorZ6
import Derived.Laws.IdiomCopy
import Derived.Shelf.Sort.Plain
import Derived.Shelf.Slices.In.SortNone
import Derived.Shelf.Slices.CompactS
import Derived.Shelf.Slices.Clone
import Derived.Shelf.SlSortCmp.NoneTotal
import Derived.Shelf.SlicesE.Clone
import Derived.Shelf.Strings.Repeat
import Derived.Test.YthaibjefnclkjaaGreatDoorZ8
import Derived.Test.YthaibjefnclkjaaGreatDoorZ11
import Derived.Test.YthaibjefnclkjaaGreatDoorZ9
import Derived.Test.YthaibjefnclkjaaGreatDoorZ10
import Derived.Lib.QuietBelow
import Derived.Lib.Builder
import Derived.Lib.AppendStr
import Derived.Lib.UnsafeStr
import Derived.Lib.OthersKept
import Derived.Laws.Externs
import Derived.RegionTactic
import Derived.Test.YthaibjefnclkjaaGreatDoorZ13
import Derived.Deep.RegionHeld3
import Derived.Test.YthaibjefnclkjaaGreatDoorY4
import Derived.Test.YthaibjefnclkjaaGreatDoorZ19
import Derived.Test.YthaibjefnclkjaaGreatDoorZ18
import Derived.Test.YthaibjefnclkjaaGreatDoorZ17
import Derived.Test.YthaibjefnclkjaaGreatDoorZ15
import Derived.Test.YthaibjefnclkjaaGreatDoorZ16
import Derived.Test.YthaibjefnclkjaaGreatDoorY5
import Derived.Maps.OwnOps
import Derived.StringKeys
import Derived.Test.YthaibjefnclkjaaGreatDoorZ21
import Derived.Lib.SlicesCompact
import Derived.Sort.OwnSorted
import Derived.DeepKeys5
import Derived.Test.YthaibjefnclkjaaGreatDoorZ26
namespace Go.Proofs.YthaibjefnclkjaaGreatDoor
open Go.RowKit Go.Sort
set_option linter.unusedVariables false

/-- lists that memory holds -/
structure TsSz (t : Tst) : Prop where
  init : t.init.length * 56 ≤ 140737488351232
  code : t.code.length * 24 ≤ 140737488351232
  rows : ∀ x ∈ t.code, x.l.length * 80 ≤ 140737488351232
theorem Blk.set {w : World} {b : Nat} {l : List Value} {T : TypeId} (h : Blk w b l T) (k : Nat) (v : Value) : Blk (w.setCell ⟨b, k, none⟩ v) b (l.set k v) T := by
  unfold Blk at h ⊢
  simp [World.setCell, Array.getElem?_modify, h]
theorem Blk.step {w w' : World} {b : Nat} {l : List Value} {T : TypeId} (h : Blk w b l T) {B E m n c : Nat} {a : Option Addr} {xs : List Value} (o : Own w B E m a n c xs) (hne : E ≠ T) (hg : w.grownBy w' (a.map (·.block))) : Blk w' b l T := by
  unfold Blk at h ⊢
  rw [hg.block b (Array.getElem?_eq_some_iff.1 h).1 (fun e => by
    obtain ⟨cs, fz, h1⟩ := own_kind o b e.symm
    rw [h] at h1
    simp only [Option.some.injEq, Obj.cells.injEq] at h1
    exact hne h1.2.1.symm)]
  exact h
theorem Own.farset {w : World} {B E size n c b : Nat} {a : Option Addr} {xs : List Value} (h : Own w B E size a n c xs) {l : List Value} {T : TypeId} (hb : Blk w b l T) (hne : E ≠ T) (k : Nat) (v : Value) : Own (w.setCell ⟨b, k, none⟩ v) B E size a n c xs := by
  refine Own.kept h (r := Option.some b) ⟨rfl, rfl, rfl, by simp [World.setCell], fun j _ hj => Below.heap_setCell _ _ _ _ (fun e => hj (by simp [e]))⟩ ?_
  cases a with
  | none => exact .inl rfl
  | some p =>
    right
    intro e
    obtain ⟨cs, fz, h1⟩ := own_kind h p.block rfl
    unfold Blk at hb
    have : p.block = b := by simpa [bk] using e
    rw [this, hb] at h1
    simp only [Option.some.injEq, Obj.cells.injEq] at h1
    exact hne h1.2.1.symm
/-- a copied list of threads' codes -/
abbrev OwnCd (w : World) (B : Nat) (a : Option Addr) (n c : Nat) (R : List Cd) : Prop := Own w B 49 1 a n c (flat cCd R)
def CdsOk (w : World) (B : Nat) (R : List Cd) : Prop := ∀ x ∈ R, Own w B 23 8 x.a x.l.length x.c (insC x.l)
theorem CdsOk.below {w w' : World} {B : Nat} {R : List Cd} (h : CdsOk w B R) (hb : Below w.heap.size w w') : CdsOk w' B R := fun x hx => Own.below (h x hx) hb
theorem bareT_ext {t t' : Tst} (h1 : t'.arch = t.arch) (h2 : t'.name = t.name) (h3 : t'.cycle = t.cycle) (h4 : t'.init = t.init) (h5 : t'.code.map (·.l) = t.code.map (·.l)) (h6 : t'.q = t.q) (h7 : t'.node = t.node) : bare t' = bare t := by
  unfold bare
  rw [h1, h2, h3, h4, h6, h7, bareC_eq h5]
theorem Blk.belowB {w w' : World} {b B : Nat} {l : List Value} {T : TypeId} (h : Blk w b l T) (hb : Below B w w') (hlt : b < B) : Blk w' b l T := by
  unfold Blk at h ⊢
  rw [hb.block b hlt]; exact h
theorem BxT.belowB {w w' : World} {b B : Nat} {t : Tst} (h : BxT w b t) (hb : Below B w w') (hlt : b < B) : BxT w' b t :=
  ⟨Nat.lt_of_lt_of_le h.lt hb.size, fun k hk => by rw [hb.cell (p := ⟨b, k, none⟩) hlt]; exact h.cl k hk⟩
theorem CdsOk.kept {w w' : World} {B : Nat} {R : List Cd} (h : CdsOk w B R) {B' E' m' n' c' : Nat} {a : Option Addr} {xs : List Value} (o : Own w B' E' m' a n' c' xs) (hne : E' ≠ 23) (hg : w.grownBy w' (a.map (·.block))) : CdsOk w' B R :=
  fun x hx => Own.kept (h x hx) hg (own_types o (h x hx) hne)
theorem CdsOk.farset {w : World} {B b : Nat} {R : List Cd} (h : CdsOk w B R) {l : List Value} {T : TypeId} (hb : Blk w b l T) (hne : 23 ≠ T) (k : Nat) (v : Value) : CdsOk (w.setCell ⟨b, k, none⟩ v) B R :=
  fun x hx => Own.farset (h x hx) hb hne k v
/-- stores one behind the other -/
def setL (w : World) (b : Nat) : Nat → List Value → World
  | _, [] => w
  | k, v :: r => setL (w.setCell ⟨b, k, none⟩ v) b (k + 1) r
def setsL (l : List Value) : Nat → List Value → List Value
  | _, [] => l
  | k, v :: r => setsL (l.set k v) (k + 1) r
theorem setL_blk {T : TypeId} {b : Nat} : ∀ (vs : List Value) (k : Nat) (w : World) (l : List Value), Blk w b l T → Blk (setL w b k vs) b (setsL l k vs) T
  | [], _, _, _, h => h
  | v :: r, k, w, l, h => setL_blk r (k + 1) _ _ (h.set k v)
theorem setL_own {T : TypeId} {b B E size n c : Nat} {a : Option Addr} {xs : List Value} (hne : E ≠ T) : ∀ (vs : List Value) (k : Nat) (w : World) (l : List Value), Blk w b l T → Own w B E size a n c xs → Own (setL w b k vs) B E size a n c xs
  | [], _, _, _, _, h => h
  | v :: r, k, w, l, hb, h => setL_own hne r (k + 1) _ _ (hb.set k v) (Own.farset h hb hne k v)
theorem setL_below {b B : Nat} {w0 : World} (hB : B ≤ b) : ∀ (vs : List Value) (k : Nat) (w : World), Below B w0 w → Below B w0 (setL w b k vs)
  | [], _, _, h => h
  | v :: r, k, w, h => setL_below hB r (k + 1) _ (Below.setCell h (p := ⟨b, k, none⟩) hB v)
theorem setL12 (w : World) (b : Nat) (v0 v1 v2 v3 v4 v5 v6 v7 v8 v9 v10 v11 : Value) : ((((((((((((w.setCell ⟨b, 0, none⟩ v0).setCell ⟨b, 1, none⟩ v1).setCell ⟨b, 2, none⟩ v2).setCell ⟨b, 3, none⟩ v3).setCell ⟨b, 4, none⟩ v4).setCell ⟨b, 5, none⟩ v5).setCell ⟨b, 6, none⟩ v6).setCell ⟨b, 7, none⟩ v7).setCell ⟨b, 8, none⟩ v8).setCell ⟨b, 9, none⟩ v9).setCell ⟨b, 10, none⟩ v10).setCell ⟨b, 11, none⟩ v11) = setL w b 0 [v0, v1, v2, v3, v4, v5, v6, v7, v8, v9, v10, v11] := rfl
/-- the copy's cells -/
@[reducible] def cO (t : Tst) (ia : Option Addr) (ic : Nat) (a : Option Addr) (k c : Nat) (n : Nat) : List Value := [.int .i64 t.arch, .string (tx t.name), .string (tx t.cycle), .slice ia n ic, .slice a k c, .int .i64 t.q, .int .i64 t.node.kind, .int .i64 t.node.th.thread, .int .i64 t.node.th.reg, .string (tx t.node.th.loc), .int .i64 t.node.val, .slice t.node.a t.node.kids.length t.node.c]
@[reducible] def cZ : List Value := [.int .i64 0, .string ⟨#[]⟩, .string ⟨#[]⟩, .slice none 0 0, .slice none 0 0, .int .i64 0, .int .i64 0, .int .i64 0, .int .i64 0, .string ⟨#[]⟩, .int .i64 0, .slice none 0 0]
abbrev tT : TypeId := 39
theorem Blk.t12 {w : World} {b : Nat} {t : Tst} {ia a : Option Addr} {ic k c n : Nat} (h : Blk w b (cO t ia ic a k c n) tT) : w.cell? ⟨b, 0, none⟩ = some (.int .i64 t.arch) ∧ w.cell? ⟨b, 1, none⟩ = some (.string (tx t.name)) ∧ w.cell? ⟨b, 2, none⟩ = some (.string (tx t.cycle)) ∧ w.cell? ⟨b, 3, none⟩ = some (.slice ia n ic) ∧ w.cell? ⟨b, 4, none⟩ = some (.slice a k c) ∧ w.cell? ⟨b, 5, none⟩ = some (.int .i64 t.q) ∧ w.cell? ⟨b, 6, none⟩ = some (.int .i64 t.node.kind) ∧ w.cell? ⟨b, 7, none⟩ = some (.int .i64 t.node.th.thread) ∧ w.cell? ⟨b, 8, none⟩ = some (.int .i64 t.node.th.reg) ∧ w.cell? ⟨b, 9, none⟩ = some (.string (tx t.node.th.loc)) ∧ w.cell? ⟨b, 10, none⟩ = some (.int .i64 t.node.val) ∧ w.cell? ⟨b, 11, none⟩ = some (.slice t.node.a t.node.kids.length t.node.c) :=
  ⟨h.get 0 _ rfl, h.get 1 _ rfl, h.get 2 _ rfl, h.get 3 _ rfl, h.get 4 _ rfl, h.get 5 _ rfl, h.get 6 _ rfl, h.get 7 _ rfl, h.get 8 _ rfl, h.get 9 _ rfl, h.get 10 _ rfl, h.get 11 _ rfl⟩
theorem flat_ok {α : Type} {enc : α → List Value} {m : Nat} (hm : ∀ x, (enc x).length = m) (l : List α) (n : Nat) (h : l.length = n) : (flat enc l).length = n * m := by rw [flat_length hm, h]
set_option maxRecDepth 100000 in
set_option maxHeartbeats 6400000 in
theorem copy13 (t : Tst) (w : World) (h : TsIn w t) (hz : TsSz t) :
    Calls Tryz.prog 12 #[vT t] w fun e w' => ∃ t', e = .returned (vT t') ∧ bare t' = bare t ∧ TsIn w' t' ∧ Below w.heap.size w w' := by
  have HI := hid h
  have HZ := hid hz
  clear h hz
  go_enter Tryz.func12, Tryz.ntmps12
  have A1 := al w (mkT t)
  have b0 := BxT.new w t
  have hs1 := alloc_size w (mkT t)
  go_upto_region 4 with (fail)
  obtain ⟨W1, hW1⟩ : ∃ W1, w.alloc (mkT t) = W1 := ⟨_, rfl⟩
  rw [hW1] at A1 b0 hs1
  have A2 := al W1 (.cells cZ.toArray tT)
  have bz : Blk (W1.alloc (.cells cZ.toArray tT)) W1.heap.size cZ tT := Blk.new W1 cZ.toArray tT
  have hs2 := alloc_size W1 (.cells cZ.toArray tT)
  obtain ⟨W2, hW2⟩ : ∃ W2, W1.alloc (.cells cZ.toArray tT) = W2 := ⟨_, rfl⟩
  rw [hW2] at A2 bz hs2
  have A3 := al W2 (.cells (cO t none 0 none 0 0 0).toArray tT)
  have bo : Blk (W2.alloc (.cells (cO t none 0 none 0 0 0).toArray tT)) W2.heap.size (cO t none 0 none 0 0 0) tT := Blk.new W2 (cO t none 0 none 0 0 0).toArray tT
  have hs3 := alloc_size W2 (.cells (cO t none 0 none 0 0 0).toArray tT)
  obtain ⟨W3, hW3⟩ : ∃ W3, W2.alloc (.cells (cO t none 0 none 0 0 0).toArray tT) = W3 := ⟨_, rfl⟩
  rw [hW3, hs2, hs1] at hs3
  have hWW : ((w.alloc (mkT t)).alloc (.cells #[.int .i64 0, .string ⟨#[]⟩, .string ⟨#[]⟩, .slice none 0 0, .slice none 0 0, .int .i64 0, .int .i64 0, .int .i64 0, .int .i64 0, .string ⟨#[]⟩, .int .i64 0, .slice none 0 0] tT)).alloc (.cells #[.int .i64 t.arch, .string (tx t.name), .string (tx t.cycle), .slice none 0 0, .slice none 0 0, .int .i64 t.q, .int .i64 t.node.kind, .int .i64 t.node.th.thread, .int .i64 t.node.th.reg, .string (tx t.node.th.loc), .int .i64 t.node.val, .slice t.node.a t.node.kids.length t.node.c] tT) = W3 := by rw [← hW3, ← hW2, ← hW1]
  rw [hWW]
  rw [hW3] at A3 bo
  rw [hs2, hs1] at bo
  rw [hs1] at bz
  have bz := bz.below A3
  have b0 := (b0.below A2).below A3
  have E := A1.trans ((A2.trans (A3.mono A2.size)).mono A1.size)
  clear hWW hW1 hW2 hW3 A1 A2 A3 hs1 hs2
  have HB0 := hid b0
  obtain ⟨c0, c1, c2, c3, c4, c5, c6, c7, c8, c9, c10, c11⟩ := b0.cells
  obtain ⟨d0, d1, d2, d3, d4, d5, d6, d7, d8, d9, d10, d11⟩ := bo.t12
  have hini := (HI.out.keep E).init.row
  obtain ⟨ni, hni⟩ : ∃ ni, t.init.length = ni := ⟨_, rfl⟩
  obtain ⟨n, hn⟩ : ∃ n, t.code.length = n := ⟨_, rfl⟩
  have hni1 : ni * 56 ≤ 140737488351232 := by rw [← hni]; exact HZ.out.init
  have hn1 : n * 24 ≤ 140737488351232 := by rw [← hn]; exact HZ.out.code
  have hfl := flat_ok cIni_len t.init ni hni
  have HNI := hid hni
  have HN := hid hn
  rw [hni] at c3
  rw [hn] at c4
  clear hni hn
  go_wp2_with (at_builtin; go_loud (refine wpList_app inil (.tmp 10) (.tmp 12) rfl rfl rfl (Own.nil _ (w.heap.size + 1 + 1) _ _) rfl hini hfl (flat_oneCell cIni_one _) (Below.refl (w.heap.size + 1 + 1) W3) (by omega) (by omega) (by unfold maxLen; omega) ?_))
  intro ia ic w4 oi gi Fi
  have E34 : Below W3.heap.size W3 w4 := Below.grown (Below.refl _ _) gi.step.grown (Nat.le_refl _) (by intro k hk; cases hk)
  have bo := bo.below E34
  have bz := bz.below E34
  have b0 := b0.below E34
  have d3 := bo.get 3 _ rfl
  have f3 := bo.frozen 3
  have bo2 := bo.set 3 (.slice ia ni ic)
  have oi2 := Own.farset oi bo (by decide) 3 (.slice ia ni ic)
  have F2 := Below.setCell Fi (p := ⟨w.heap.size + 1 + 1, 3, none⟩) (Nat.le_refl _) (.slice ia ni ic)
  have B0 : Below (w.heap.size + 1 + 1) W3 W3 := Below.refl _ _
  have bz2 : Blk (w4.setCell ⟨w.heap.size + 1 + 1, 3, none⟩ (.slice ia ni ic)) (w.heap.size + 1) cZ tT := Blk.belowB bz ((Below.refl (w.heap.size + 1 + 1) w4).setCell (p := ⟨w.heap.size + 1 + 1, 3, none⟩) (Nat.le_refl _) _) (by omega)
  have b02 : BxT (w4.setCell ⟨w.heap.size + 1 + 1, 3, none⟩ (.slice ia ni ic)) w.heap.size t := BxT.belowB b0 ((Below.refl (w.heap.size + 1 + 1) w4).setCell (p := ⟨w.heap.size + 1 + 1, 3, none⟩) (Nat.le_refl _) _) (by omega)
  have bo2 : Blk (w4.setCell ⟨w.heap.size + 1 + 1, 3, none⟩ (.slice ia ni ic)) (w.heap.size + 1 + 1) (cO t ia ic none 0 0 ni) tT := bo2
  have HE := hid E
  clear c0 c1 c2 c3 c4 c5 c6 c7 c8 c9 c10 c11 d0 d1 d2 d4 d5 d6 d7 d8 d9 d10 d11 hini hfl HB0 E
  go_wp2_with fail
  generalize w4.setCell ⟨w.heap.size + 1 + 1, 3, none⟩ (.slice ia ni ic) = W5 at *
  clear d3 f3 bo oi Fi E34 b0 bz gi
  have hWs : W3.heap.size ≤ W3.heap.size := Nat.le_refl _
  go_loopw [4] (fun i wr => ∃ (k : Nat) (a : Option Addr) (c : Nat) (R : List Cd), k ≤ n ∧ i = .int .i64 k ∧ R.length = k ∧ Hid (R.map (·.l) = (t.code.take k).map (·.l)) ∧ Below (w.heap.size + 1 + 1) W3 wr ∧ Own wr (w.heap.size + 1 + 1) 64 5 ia ni ic (flat cIni t.init) ∧ Blk wr (w.heap.size + 1 + 1) (cO t ia ic a k c ni) tT ∧ Blk wr (w.heap.size + 1) cZ tT ∧ BxT wr w.heap.size t ∧ OwnCd wr (w.heap.size + 1 + 1) a k c R ∧ CdsOk wr (w.heap.size + 1 + 1) R) (fun i _ => n - (intOf i).toNat)
  case atStart => exact ⟨0, none, 0, [], by omega, rfl, rfl, rfl, F2, oi2, bo2, bz2, b02, Own.nil _ _ _ _, fun x hx => absurd hx (by simp)⟩
  case round =>
    clear F2 oi2 bo2 bz2 b02
    obtain ⟨k, a, c, R, hk, rfl, hRk, HRR, F, oi, bo, bz, b0, oR, hR⟩ := hrel
    obtain ⟨c0, c1, c2, c3, c4, c5, c6, c7, c8, c9, c10, c11⟩ := b0.cells
    rw [HN.out] at c4
    by_cases hlt : k < n
    · obtain ⟨x, hx⟩ : ∃ x, t.code[k]? = some x := ⟨_, List.getElem?_eq_getElem (by rw [HN.out]; exact hlt)⟩
      have E := HE.out.trans (F.mono (by omega))
      have p0 := (HI.out.keep E).code.cd hx
      have ix := HI.out.code.cdx k (by rw [HN.out]; exact hlt) t.cc
      rw [HN.out] at ix
      have hxs := HZ.out.rows x (List.mem_of_getElem? hx)
      have hrow := ((HI.out.keep E).rows x (List.mem_of_getElem? hx)).is.row
      have HR2 := (show R.map (·.l) ++ [x.l] = (t.code.take (k + 1)).map (·.l) by rw [take_snoc hx, List.map_append, HRR.out]; rfl)
      obtain ⟨m, hm⟩ : ∃ m, x.l.length = m := ⟨_, rfl⟩
      have hil := insC_length x.l
      rw [hm] at p0 hxs hil
      have HR2 := hid HR2
      have HM := hid hm
      clear hx hm
      go_wp2_with (at_builtin; go_loud (refine wpList_app inl (.tmp 22) (.tmp 27) rfl rfl rfl (Own.nil _ wr.heap.size _ _) rfl hrow hil (insC_oneCell _) (Below.refl wr.heap.size wr) (Nat.le_refl _) (by omega) (by unfold maxLen; omega) ?_))
      intro a1 c1' w5 o1 g1 E1
      have o1 : Own w5 (w.heap.size + 1 + 1) 23 8 a1 m c1' (insC x.l) := Own.mono (by simpa using o1) (by have := F.size; omega)
      have F := F.trans (E1.mono (by have := F.size; omega))
      have oi := Own.below oi E1
      have bo := bo.below E1
      have bz := bz.below E1
      have b0 := b0.below E1
      have oR := Own.below oR E1
      have hR := hR.below E1
      have d4 := bo.get 4 _ rfl
      clear g1 E1 p0 ix hrow hil c0 c1 c2 c3 c4 c5 c6 c7 c8 c9 c10 c11 E
      go_wp2_with (at_builtin; go_loud (refine wpList_app1n cdl (.tmp 30) (.tmp 32) rfl rfl rfl rfl oR rfl rfl (by intro u hu; simp at hu; subst hu; rfl) F (by have := F.size; omega) (by omega) (by unfold maxLen; omega) ?_))
      intro a6 c6 w6 o6 g6 F6
      have oR2 : OwnCd w6 (w.heap.size + 1 + 1) a6 (k + 1) c6 (R ++ [⟨a1, c1', x.l⟩]) := by
        unfold OwnCd
        rw [flat_app, flat_one]
        show Own w6 _ _ _ _ _ _ (flat cCd R ++ [.slice a1 x.l.length c1'])
        rw [HM.out]
        exact o6
      have hR2 : CdsOk w6 (w.heap.size + 1 + 1) (R ++ [⟨a1, c1', x.l⟩]) := fun y hy => by
        rcases List.mem_append.1 hy with h | h
        · exact (hR.kept oR (by decide) g6.step.grown) y h
        · rcases List.mem_singleton.1 h with rfl
          show Own w6 _ _ _ a1 x.l.length c1' (insC x.l)
          rw [HM.out]
          exact Own.kept o1 g6.step.grown (own_types oR o1 (by decide))
      have oi := Own.kept oi g6.step.grown (own_types oR oi (by decide))
      have bo := bo.step oR (by decide) g6.step.grown
      have S6 := g6.step.below oR (Below.refl (w.heap.size + 1 + 1) w5) (by have := F.size; omega)
      have bz := bz.belowB S6 (by omega)
      have b0 := BxT.belowB b0 S6 (by omega)
      have d4 := bo.get 4 _ rfl
      have f4 := bo.frozen 4
      have SS := (Below.refl (w.heap.size + 1 + 1) w6).setCell (p := ⟨w.heap.size + 1 + 1, 4, none⟩) (Nat.le_refl _) (.slice a6 (k + 1) c6)
      have KEY := hid (show Below (w.heap.size + 1 + 1) W3 (w6.setCell ⟨w.heap.size + 1 + 1, 4, none⟩ (.slice a6 (k + 1) c6)) ∧ Own (w6.setCell ⟨w.heap.size + 1 + 1, 4, none⟩ (.slice a6 (k + 1) c6)) (w.heap.size + 1 + 1) 64 5 ia ni ic (flat cIni t.init) ∧ Blk (w6.setCell ⟨w.heap.size + 1 + 1, 4, none⟩ (.slice a6 (k + 1) c6)) (w.heap.size + 1 + 1) (cO t ia ic a6 (k + 1) c6 ni) tT ∧ Blk (w6.setCell ⟨w.heap.size + 1 + 1, 4, none⟩ (.slice a6 (k + 1) c6)) (w.heap.size + 1) cZ tT ∧ BxT (w6.setCell ⟨w.heap.size + 1 + 1, 4, none⟩ (.slice a6 (k + 1) c6)) w.heap.size t ∧ OwnCd (w6.setCell ⟨w.heap.size + 1 + 1, 4, none⟩ (.slice a6 (k + 1) c6)) (w.heap.size + 1 + 1) a6 (k + 1) c6 (R ++ [⟨a1, c1', x.l⟩]) ∧ CdsOk (w6.setCell ⟨w.heap.size + 1 + 1, 4, none⟩ (.slice a6 (k + 1) c6)) (w.heap.size + 1 + 1) (R ++ [⟨a1, c1', x.l⟩]) from
        ⟨F6.trans SS, Own.farset oi bo (by decide) 4 _, bo.set 4 _, bz.belowB SS (by omega), BxT.belowB b0 SS (by omega), Own.farset oR2 bo (by decide) 4 _, hR2.farset bo (by decide) 4 _⟩)
      have HR3 := hid (show (R ++ [(⟨a1, c1', x.l⟩ : Cd)]).length = k + 1 by rw [List.length_append, hRk]; rfl)
      have HR4 := hid (show (R ++ [(⟨a1, c1', x.l⟩ : Cd)]).map (·.l) = (t.code.take (k + 1)).map (·.l) by rw [List.map_append, ← HR2.out]; rfl)
      clear S6 SS oR oR2 hR hR2 oi bz b0 g6 o6 o1 F F6 bo
      go_wp2_with fail
      go_roundw
      case rel => exact ⟨k + 1, a6, c6, _, by omega, by go_num, HR3.out, HR4, KEY.out.1, KEY.out.2.1, KEY.out.2.2.1, KEY.out.2.2.2.1, KEY.out.2.2.2.2.1, KEY.out.2.2.2.2.2.1, KEY.out.2.2.2.2.2.2⟩
      case measure => simp [intOf]; omega
    · have hkn : k = n := by omega
      obtain ⟨d0, d1, d2, d3, d4, d5, d6, d7, d8, d9, d10, d11⟩ := bo.t12
      have e0 := bz.get 0 _ rfl; have e1 := bz.get 1 _ rfl; have e2 := bz.get 2 _ rfl; have e3 := bz.get 3 _ rfl; have e4 := bz.get 4 _ rfl; have e5 := bz.get 5 _ rfl; have e6 := bz.get 6 _ rfl; have e7 := bz.get 7 _ rfl; have e8 := bz.get 8 _ rfl; have e9 := bz.get 9 _ rfl; have e10 := bz.get 10 _ rfl; have e11 := bz.get 11 _ rfl
      have f0 := bz.frozen 0; have f1 := bz.frozen 1; have f2 := bz.frozen 2; have f3 := bz.frozen 3; have f4 := bz.frozen 4; have f5 := bz.frozen 5; have f6 := bz.frozen 6; have f7 := bz.frozen 7; have f8 := bz.frozen 8; have f9 := bz.frozen 9; have f10 := bz.frozen 10; have f11 := bz.frozen 11
      have HBX := hid (setL_blk [.int .i64 t.arch, .string (tx t.name), .string (tx t.cycle), .slice ia ni ic, .slice a k c, .int .i64 t.q, .int .i64 t.node.kind, .int .i64 t.node.th.thread, .int .i64 t.node.th.reg, .string (tx t.node.th.loc), .int .i64 t.node.val, .slice t.node.a t.node.kids.length t.node.c] 0 wr _ bz)
      have HOI := hid (setL_own (b := w.heap.size + 1) (T := tT) (by decide) [.int .i64 t.arch, .string (tx t.name), .string (tx t.cycle), .slice ia ni ic, .slice a k c, .int .i64 t.q, .int .i64 t.node.kind, .int .i64 t.node.th.thread, .int .i64 t.node.th.reg, .string (tx t.node.th.loc), .int .i64 t.node.val, .slice t.node.a t.node.kids.length t.node.c] 0 wr _ bz oi)
      have HOR := hid (setL_own (b := w.heap.size + 1) (T := tT) (by decide) [.int .i64 t.arch, .string (tx t.name), .string (tx t.cycle), .slice ia ni ic, .slice a k c, .int .i64 t.q, .int .i64 t.node.kind, .int .i64 t.node.th.thread, .int .i64 t.node.th.reg, .string (tx t.node.th.loc), .int .i64 t.node.val, .slice t.node.a t.node.kids.length t.node.c] 0 wr _ bz oR)
      have HOC := hid (show CdsOk _ _ R from fun y hy => setL_own (b := w.heap.size + 1) (T := tT) (by decide) [.int .i64 t.arch, .string (tx t.name), .string (tx t.cycle), .slice ia ni ic, .slice a k c, .int .i64 t.q, .int .i64 t.node.kind, .int .i64 t.node.th.thread, .int .i64 t.node.th.reg, .string (tx t.node.th.loc), .int .i64 t.node.val, .slice t.node.a t.node.kids.length t.node.c] 0 wr _ bz (hR y hy))
      have HBE := hid (setL_below (b := w.heap.size + 1) (B := w.heap.size) (by omega) [.int .i64 t.arch, .string (tx t.name), .string (tx t.cycle), .slice ia ni ic, .slice a k c, .int .i64 t.q, .int .i64 t.node.kind, .int .i64 t.node.th.thread, .int .i64 t.node.th.reg, .string (tx t.node.th.loc), .int .i64 t.node.val, .slice t.node.a t.node.kids.length t.node.c] 0 wr (HE.out.trans (F.mono (by omega))))
      have HRK := hid hRk
      have HRL := hid (show R.map (·.l) = t.code.map (·.l) by rw [HRR.out, hkn, ← HN.out, List.take_length])
      clear oi oR hR b0 bz bo F hRk hkn
      go_wp2_with fail
      rw [setL12]
      generalize setL wr (w.heap.size + 1) 0 [.int .i64 t.arch, .string (tx t.name), .string (tx t.cycle), .slice ia ni ic, .slice a k c, .int .i64 t.q, .int .i64 t.node.kind, .int .i64 t.node.th.thread, .int .i64 t.node.th.reg, .string (tx t.node.th.loc), .int .i64 t.node.val, .slice t.node.a t.node.kids.length t.node.c] = W9 at *
      obtain ⟨d0, d1, d2, d3, d4, d5, d6, d7, d8, d9, d10, d11⟩ := Blk.t12 (show Blk W9 (w.heap.size + 1) (cO t ia ic a k c ni) tT from HBX.out)
      refine bodyPost_ret (v := .agg #[.int .i64 t.arch, .string (tx t.name), .string (tx t.cycle), .slice ia ni ic, .slice a k c, .int .i64 t.q, .int .i64 t.node.kind, .int .i64 t.node.th.thread, .int .i64 t.node.th.reg, .string (tx t.node.th.loc), .int .i64 t.node.val, .slice t.node.a t.node.kids.length t.node.c]) ?hr rfl ?_
      case hr =>
        clear HI HZ HNI HN HRR HOI HOR HOC HBE HRK HRL HBX
        simp only [results, Tryz.results12]
        simp [go_sem, d0, d1, d2, d3, d4, d5, d6, d7, d8, d9, d10, d11]
      have hin : t.init.length = ni := HNI.out
      have hcn : R.length = k := HRK.out
      refine ⟨⟨t.arch, t.name, t.cycle, ia, ic, t.init, a, c, R, t.q, t.node⟩, ?_, bareT_ext rfl rfl rfl rfl HRL.out rfl rfl, ?_, HBE.out⟩
      · show Ending.returned (Value.agg #[.int .i64 t.arch, .string (tx t.name), .string (tx t.cycle), .slice ia ni ic, .slice a k c, .int .i64 t.q, .int .i64 t.node.kind, .int .i64 t.node.th.thread, .int .i64 t.node.th.reg, .string (tx t.node.th.loc), .int .i64 t.node.val, .slice t.node.a t.node.kids.length t.node.c]) = .returned (vT _)
        unfold vT
        rw [hin, hcn]
      · have KI := HI.out.keep HBE.out
        have ei := (Own.els HOI.out cIni_len (by omega) (by omega)).1
        have ec := (Own.els HOR.out cCd_len (by omega) (by omega)).1
        have ci := HOI.out.cap.1; have cc := HOR.out.cap.1
        have key : ∀ x ∈ R, ∃ y ∈ t.code, y.l = x.l := fun x hx => by
          have : x.l ∈ t.code.map (·.l) := by rw [← HRL.out]; exact List.mem_map_of_mem hx
          obtain ⟨y, hy, e⟩ := List.mem_map.1 this
          exact ⟨y, hy, e⟩
        exact ⟨KI.name, KI.cycle, ei, by dsimp only; omega, KI.locs, KI.wide, ec, by dsimp only; omega, fun x hx => by
          obtain ⟨y, hy, e⟩ := key x hx
          have o := HOC.out x hx
          have ky := KI.rows y hy
          rw [← e] at o
          have hz := HZ.out.rows y hy
          exact ⟨⟨by rw [← e]; exact o.row, by rw [← e]; omega⟩, by rw [← e]; exact o.cap.1, by rw [← e]; exact ky.locs⟩, KI.node⟩
end Go.Proofs.YthaibjefnclkjaaGreatDoor

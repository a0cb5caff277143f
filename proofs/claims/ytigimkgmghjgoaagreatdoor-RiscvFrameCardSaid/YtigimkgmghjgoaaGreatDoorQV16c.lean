/- The walk of Do (the document's answer), continued: exclusive ors. Conditions: code and registers lie in memory as read; lengths that an int holds. -/
import Derived.Test.YtigimkgmghjgoaaGreatDoorQV14
namespace Go.Proofs.YtigimkgmghjgoaaGreatDoor
open Go.RowKit Go.MapKept Go.Maps
set_option linter.unusedVariables false

attribute [local go_sem high] eqI neqI eqV neqV
set_option maxRecDepth 100000 in
set_option maxHeartbeats 12800000 in
theorem refDo_m9no (code : List Ins) (a : Option Addr) (c : Nat) (l : List Vl) (b : Option Addr) (cb : Nat) (hL : ∀ i ∈ code, i.label.length ≤ 9223372036854775807) (hs : SmV l) (he : (linksV code).2.1 = 0) (w : World) (hI : Is w a code) (hV : Vs w b l) (k : Nat) (hr : readyV code.length l k = true) (i : Ins) (va vb : Vl) (lab : Int)
    (hi : code[k]? = some i) (hci : checkI i = true) (hva : l[i.a.toNat]? = some va) (hvb : l[i.b.toNat]? = some vb) (hlab : (linksV code).1[k]? = some lab) (hma : n32 va.n) (hmb : n32 vb.n) (hl32 : l.length = 32) (hk1 : k < 1000) (r : DoR) (hop : i.op = 9) (hab : i.a ≠ i.b) (hm : mixV 9 va vb = none) (hrr : r = doE 92) :
    Calls Tryz.prog 26 #[.slice a code.length c, .agg #[.slice b l.length cb, .int .i64 k]] w (RetDo r w) := by
  have HOP := hid hop; have HRR := hid hrr
  have z6 : (i.op == 6) = false := by rw [hop]; rfl
  have z7 : (i.op == 7) = false := by rw [hop]; rfl
  have z8 : (i.op == 8) = false := by rw [hop]; rfl
  have z9 : (i.op == 9) = true := by rw [hop]; rfl
  have z10 : (i.op == 10) = false := by rw [hop]; rfl
  have z11 : (i.op == 11) = false := by rw [hop]; rfl
  have z13 : (i.op == 13) = false := by rw [hop]; rfl
  have zab : (i.a == i.b) = false := by simpa using hab
  have RM := hid (fun (w : World) => (show Calls Tryz.prog 58 #[.int .i64 i.op, .agg #[.string (tx va.loc), .int .i64 va.n], .agg #[.string (tx vb.loc), .int .i64 vb.n]] w (fun e w' => e = .returned (.tuple #[.agg #[.string ⟨#[]⟩, .int .i64 0], .bool false]) ∧ Below w.heap.size w w') from by
    have h := refMix i.op (by omega) va vb hma hmb w
    rw [show mixV i.op va vb = none by rw [hop]; exact hm] at h
    exact h))
  clear hop hrr hab hm
  have PL := fun (w : World) (hI : Is w a code) => refLinks code a c hL w hI
  have E0 := Below.refl (W5 w b l.length cb k).heap.size (W5 w b l.length cb k)
  have I3 := hI.below (Bx3.of ((W5.three w b l.length cb k).trans (E0.mono (W5.three w b l.length cb k).size))).bel
  have RD := fun (w : World) (hV : Vs w b l) => refIsThread code.length l b cb k w hV hs
  rw [hr] at RD
  obtain ⟨-, -, hd, hA, hBb⟩ := checkI_spec hci
  obtain ⟨ka, hka, hia⟩ := regB_nat hA
  obtain ⟨kb, hkb, hib⟩ := regB_nat hBb
  rw [hia] at hva; rw [hib] at hvb
  have hva : l[ka]? = some va := hva
  have hvb : l[kb]? = some vb := hvb
  have HV := hid hV
  have ixa := hV.idx ka (by omega)
  have ixb := hV.idx kb (by omega)
  have ixc := hI.idx k (List.getElem?_eq_some_iff.1 hi).1
  have HI := hid hI
  obtain ⟨⟨L, x, y⟩, hrl⟩ : ∃ r, linksV code = r := ⟨_, rfl⟩
  rw [hrl] at PL he hlab
  obtain rfl : x = 0 := he
  have hlab : L[k]? = some lab := hlab
  have PL := hid (show ∀ (w : World), Is w a code → Calls Tryz.prog 18 #[.slice a code.length c] w (RetL4 L 0 y w) from PL)
  have hrow : (valsC l).length = 32 * 2 := by rw [valsC_length, hl32]
  rw [hl32] at RD E0 I3 ixa ixb ⊢
  have RD := hid RD
  have HCI := hid hci; have HIC := hid hi; have HVA := hid hva; have HVB := hid hvb; have HLAB := hid hlab
  have ixa : ∀ c w', (Instr.indexAt 40 (.slice b 32 c) (.int .i64 i.a)).run Tryz.prog w' = .ok (.pointer (some ⟨bk b, fo b + ka * 2, none⟩)) w' := by rw [hia]; exact ixa
  have ixb : ∀ c w', (Instr.indexAt 40 (.slice b 32 c) (.int .i64 i.b)).run Tryz.prog w' = .ok (.pointer (some ⟨bk b, fo b + kb * 2, none⟩)) w' := by rw [hib]; exact ixb
  clear hrl hI hL hr hs hV hi hci hva hvb hlab hia hib hA hBb hl32
  generalize code.length = n at *
  have E5 := W5.three w b 32 cb k
  go_enter Tryz.func26, Tryz.ntmps26
  go_wp2_with fail
  refine (PL.out _ I3).mono ?_
  rintro e w1 ⟨aA, cA, rfl, oA, E⟩
  obtain ⟨⟨t0, t1⟩, -, -, -, -, hsz, B⟩ := Bx3.of (E5.trans (E.mono E5.size))
  have V1 := HV.out.below B
  clear I3 E0
  go_wp2_with fail
  refine (RD.out _ V1).mono ?_
  rintro e w2 ⟨rfl, E2⟩
  have oA := Own.below oA E2
  have E := E.trans (E2.mono E.size)
  clear t0 t1 hsz B V1
  obtain ⟨⟨t0, t1⟩, -, -, -, -, hsz, B⟩ := Bx3.of (E5.trans (E.mono E5.size))
  have I2 := HI.out.below B
  have V2 := HV.out.below B
  obtain ⟨p0, p1, p2, p3, p4, p5, p6, p7⟩ := I2.cells HIC.out
  have hlt := I2.lt (List.getElem?_eq_some_iff.1 HIC.out).1
  have hltb := V2.lt (List.getElem?_eq_some_iff.1 HVA.out).1
  have A2 := al w2 (mkI i)
  have A3 := al (w2.alloc (mkI i)) (oT ((k : Int) + 1))
  have A4 := ext_trans A2 A3
  have hlt0 : w.heap.size < w2.heap.size := by omega
  have hs2 : ((w2.alloc (mkI i)).alloc (oT ((k : Int) + 1))).heap.size = w2.heap.size + 2 := by simp
  have hVa := V2.below A4
  have hw : IntKind.i64.wrap ((k : Int) + 1) = (k : Int) + 1 := IntWalk.i64_in _ (by omega)
  have on := (Own.nil ((w2.alloc (mkI i)).alloc (oT ((k : Int) + 1))) ((w2.alloc (mkI i)).alloc (oT ((k : Int) + 1))).heap.size 50 2)
  go_wp2_with (at_builtin; go_loud (refine wpList_app vsl (.tmp 47) (.tmp 49) rfl rfl rfl on rfl hVa.row hrow (valsC_oneCell _) (Below.refl _ _) (Nat.le_refl _) (by omega) (by unfold maxLen; omega) ?_))
  intro a1 c1 w4 o1 g1 B1
  have T : OwnV w4 ((w2.alloc (mkI i)).alloc (oT ((k : Int) + 1))).heap.size a1 32 c1 l := by simpa [OwnV] using o1
  have T : OwnV w4 (w2.heap.size + 2) a1 32 c1 l := by rw [← hs2]; exact T
  have B1 : Below ((w2.alloc (mkI i)).alloc (oT ((k : Int) + 1))).heap.size ((w2.alloc (mkI i)).alloc (oT ((k : Int) + 1))) w4 := by rw [hs2]; exact B1
  have hwp : w2.heap.size + 2 ≤ w4.heap.size := by have := B1.size; rw [hs2] at this; exact this
  have EA := A4.trans (B1.mono A4.size)
  have bx4 := ((BxI.new w2 i).below A3).below B1
  obtain ⟨j0, j1, j2, j3, j4, j5, j6, j7⟩ := bx4.cells
  have V4 := hVa.below B1
  obtain ⟨x0, x1⟩ := V4.cells HVA.out
  obtain ⟨y0, y1⟩ := V4.cells HVB.out
  have hoT := heap_alloc_new (w2.alloc (mkI i)) (oT ((k : Int) + 1))
  have hs1 : (w2.alloc (mkI i)).heap.size = w2.heap.size + 1 := by simp
  rw [hs1] at hoT
  have q0 : w4.cell? ⟨w2.heap.size + 1, 0, none⟩ = some (.slice none 0 0) := by
    rw [B1.cell (p := ⟨w2.heap.size + 1, 0, none⟩) (by rw [hs2]; dsimp only; omega)]; simp only [World.cell?, hoT]; simp
  have q1 : w4.cell? ⟨w2.heap.size + 1, 1, none⟩ = some (.int .i64 ((k : Int) + 1)) := by
    rw [B1.cell (p := ⟨w2.heap.size + 1, 1, none⟩) (by rw [hs2]; dsimp only; omega)]; simp only [World.cell?, hoT]; simp
  have fq : w4.frozen? ⟨w2.heap.size + 1, 0, none⟩ = false := by
    rw [B1.frozen (p := ⟨w2.heap.size + 1, 0, none⟩) (by rw [hs2]; dsimp only; omega)]; simp only [World.frozen?, hoT]; simp
  have fq1 : w4.frozen? ⟨w2.heap.size + 1, 1, none⟩ = false := by
    rw [B1.frozen (p := ⟨w2.heap.size + 1, 1, none⟩) (by rw [hs2]; dsimp only; omega)]; simp only [World.frozen?, hoT]; simp
  have E4 := E.trans (EA.mono E.size)
  have b3 := Bx3.of (E5.trans (E4.mono E5.size))
  clear t0 t1
  obtain ⟨⟨t0, t1⟩, ⟨l0, l1⟩, ⟨a0, a1', a2, a3, a4⟩, fl, fa, hsz4, B4⟩ := b3
  have h5 := (Bx5.of E).size
  have g1' : w.heap.size < w4.heap.size := by omega
  have g2' : w.heap.size + 1 < w4.heap.size := by omega
  have g3' : w.heap.size + 1 + 1 < w4.heap.size := by omega
  have g4' : w2.heap.size < w4.heap.size := by omega
  have g5' : w2.heap.size + 1 < w4.heap.size := by omega
  have g6' : bk b < w4.heap.size := by omega
  have e1' : w.heap.size < w2.heap.size + 1 := by omega
  have e2' : w.heap.size + 1 < w2.heap.size + 1 := by omega
  have e3' : bk b < w2.heap.size + 1 := by omega
  have k00 : w.heap.size < w4.heap.size + 1 := by omega
  have k01 : w.heap.size < w4.heap.size + 1 + 1 := by omega
  have k10 : w.heap.size + 1 < w4.heap.size + 1 := by omega
  have k11 : w.heap.size + 1 < w4.heap.size + 1 + 1 := by omega
  have k20 : w.heap.size + 1 + 1 < w4.heap.size + 1 := by omega
  have k21 : w.heap.size + 1 + 1 < w4.heap.size + 1 + 1 := by omega
  have k30 : w2.heap.size < w4.heap.size + 1 := by omega
  have k31 : w2.heap.size < w4.heap.size + 1 + 1 := by omega
  have k40 : w2.heap.size + 1 < w4.heap.size + 1 := by omega
  have k41 : w2.heap.size + 1 < w4.heap.size + 1 + 1 := by omega
  have k50 : bk b < w4.heap.size + 1 := by omega
  have k51 : bk b < w4.heap.size + 1 + 1 := by omega
  have hn4 : a1 ≠ none := Own.some T (by omega)
  have hb4 := Own.lt T hn4
  have hO1 : a1 = none ∨ bk a1 ≠ w.heap.size + 1 := .inr (by omega)
  have hO2 : a1 = none ∨ bk a1 ≠ w.heap.size + 1 + 1 := .inr (by omega)
  have hO3 : a1 = none ∨ bk a1 ≠ w2.heap.size + 1 := .inr (by omega)
  have TT := hid (Own.mono T (show w.heap.size ≤ w2.heap.size + 2 by omega))
  have hl3 : l.length = 32 := (OwnV.len T).symm
  obtain ⟨⟨g00, g01⟩, ⟨h00, h01, h02, h03, h04⟩, hsz5⟩ := Bx5.of (E.trans ((A4.trans (B1.mono A4.size)).mono E.size))
  have g33' : w.heap.size + 3 < w4.heap.size := by omega
  have g34' : w.heap.size + 4 < w4.heap.size := by omega
  have e33' : w.heap.size + 3 < w2.heap.size + 1 := by omega
  have e34' : w.heap.size + 4 < w2.heap.size + 1 := by omega
  have k33 : w.heap.size + 3 < w4.heap.size + 1 := by omega
  have k34 : w.heap.size + 4 < w4.heap.size + 1 := by omega
  have k33' : w.heap.size + 3 < w4.heap.size + 1 + 1 := by omega
  have k34' : w.heap.size + 4 < w4.heap.size + 1 + 1 := by omega
  clear p0 p1 p2 p3 p4 p5 p6 p7 I2 V2 oA o1 g1 on hVa A2 A3 A4 T B1 EA E4 E bx4 V4 hoT
  go_wp2_with fail
  refine (RM.out _).mono ?_
  rintro e w5 ⟨rfl, E6⟩
  have hsS : (w4.setCell ⟨w2.heap.size + 1, 0, none⟩ (.slice a1 32 c1)).heap.size = w4.heap.size := by simp
  have P1 := al (w4.setCell ⟨w2.heap.size + 1, 0, none⟩ (.slice a1 32 c1)) (mkV va)
  have P2 := bel_alloc P1 (mkV ⟨vb.loc, vb.n⟩)
  have P3 := bel_alloc P2 (.cells #[.int .i64 1, .string ⟨#[]⟩, .int .i64 0, .int .i64 0, .int .i64 0] 45)
  have B5 := ext_trans P3 E6
  have hA := heap_alloc_new (((w4.setCell ⟨w2.heap.size + 1, 0, none⟩ (.slice a1 32 c1)).alloc (mkV va)).alloc (mkV ⟨vb.loc, vb.n⟩)) (.cells #[.int .i64 1, .string ⟨#[]⟩, .int .i64 0, .int .i64 0, .int .i64 0] 45)
  have hs3 : (((w4.setCell ⟨w2.heap.size + 1, 0, none⟩ (.slice a1 32 c1)).alloc (mkV va)).alloc (mkV ⟨vb.loc, vb.n⟩)).heap.size = w4.heap.size + 1 + 1 := by simp
  rw [hs3] at hA
  have hs5 : w4.heap.size + 3 ≤ w5.heap.size := by have h := E6.size; simp at h; omega
  have EA6 : ∀ j, w5.cell? ⟨w4.heap.size + 1 + 1, j, none⟩ = ((((w4.setCell ⟨w2.heap.size + 1, 0, none⟩ (.slice a1 32 c1)).alloc (mkV va)).alloc (mkV ⟨vb.loc, vb.n⟩)).alloc (.cells #[.int .i64 1, .string ⟨#[]⟩, .int .i64 0, .int .i64 0, .int .i64 0] 45)).cell? ⟨w4.heap.size + 1 + 1, j, none⟩ := fun j => E6.cell (p := ⟨w4.heap.size + 1 + 1, j, none⟩) (by simp)
  have act5 : w5.cell? ⟨w4.heap.size + 1 + 1, 0, none⟩ = some (.int .i64 1) ∧ w5.cell? ⟨w4.heap.size + 1 + 1, 1, none⟩ = some (.string ⟨#[]⟩) ∧ w5.cell? ⟨w4.heap.size + 1 + 1, 2, none⟩ = some (.int .i64 0) ∧ w5.cell? ⟨w4.heap.size + 1 + 1, 3, none⟩ = some (.int .i64 0) ∧ w5.cell? ⟨w4.heap.size + 1 + 1, 4, none⟩ = some (.int .i64 0) := by
    refine ⟨?_, ?_, ?_, ?_, ?_⟩ <;> (rw [EA6]; simp only [World.cell?, hA]; simp)
  have C5 : ∀ p : Addr, p.block < w4.heap.size → p.block ≠ w2.heap.size + 1 → w5.cell? p = w4.cell? p := fun p h1 h2 => (B5.cell (p := p) (by rw [hsS]; exact h1)).trans (World.cell?_of_block (Below.heap_setCell _ _ _ _ h2))
  have F5 : ∀ p : Addr, p.block < w4.heap.size → p.block ≠ w2.heap.size + 1 → w5.frozen? p = w4.frozen? p := fun p h1 h2 => (B5.frozen (p := p) (by rw [hsS]; exact h1)).trans (World.frozen?_of_block (Below.heap_setCell _ _ _ _ h2))
  have q0' : w5.cell? ⟨w2.heap.size + 1, 0, none⟩ = some (.slice a1 32 c1) := by rw [B5.cell (p := ⟨w2.heap.size + 1, 0, none⟩) (by rw [hsS]; exact g5')]; exact World.cell?_setCell_same w4 _ _ q0
  have q1' : w5.cell? ⟨w2.heap.size + 1, 1, none⟩ = some (.int .i64 ((k : Int) + 1)) := (B5.cell (p := ⟨w2.heap.size + 1, 1, none⟩) (by rw [hsS]; exact g5')).trans ((World.cell?_setCell_other w4 ⟨w2.heap.size + 1, 0, none⟩ ⟨w2.heap.size + 1, 1, none⟩ _ (by simp)).trans q1)
  have TT5 := Own.below (own_other (v := .slice a1 32 c1) (j := 0) TT.out hO3) B5
  have EX : Below w.heap.size w w5 := (bel_set (p := ⟨w2.heap.size + 1, 0, none⟩) B4 (by dsimp only; omega) (.slice a1 32 c1)).trans (B5.mono (by rw [hsS]; exact B4.size))
  replace j0 := (C5 ⟨w2.heap.size, 0, none⟩ g4' (by dsimp only; omega)).trans j0
  replace j1 := (C5 ⟨w2.heap.size, 1, none⟩ g4' (by dsimp only; omega)).trans j1
  replace j2 := (C5 ⟨w2.heap.size, 2, none⟩ g4' (by dsimp only; omega)).trans j2
  replace j3 := (C5 ⟨w2.heap.size, 3, none⟩ g4' (by dsimp only; omega)).trans j3
  replace l0 := (C5 ⟨w.heap.size + 1, 0, none⟩ g2' (by dsimp only; omega)).trans l0
  replace l1 := (C5 ⟨w.heap.size + 1, 1, none⟩ g2' (by dsimp only; omega)).trans l1
  replace a0 := (C5 ⟨w.heap.size + 2, 0, none⟩ g3' (by dsimp only; omega)).trans a0
  replace a1' := (C5 ⟨w.heap.size + 2, 1, none⟩ g3' (by dsimp only; omega)).trans a1'
  replace a2 := (C5 ⟨w.heap.size + 2, 2, none⟩ g3' (by dsimp only; omega)).trans a2
  replace a3 := (C5 ⟨w.heap.size + 2, 3, none⟩ g3' (by dsimp only; omega)).trans a3
  replace a4 := (C5 ⟨w.heap.size + 2, 4, none⟩ g3' (by dsimp only; omega)).trans a4
  replace fl := fun j => (F5 ⟨w.heap.size + 1, j, none⟩ g2' (by dsimp only; omega)).trans (fl j)
  replace fa := fun j => (F5 ⟨w.heap.size + 2, j, none⟩ g3' (by dsimp only; omega)).trans (fa j)
  replace g00 := (C5 ⟨w.heap.size + 3, 0, none⟩ g33' (by dsimp only; omega)).trans g00
  replace g01 := (C5 ⟨w.heap.size + 3, 1, none⟩ g33' (by dsimp only; omega)).trans g01
  replace h00 := (C5 ⟨w.heap.size + 4, 0, none⟩ g34' (by dsimp only; omega)).trans h00
  replace h01 := (C5 ⟨w.heap.size + 4, 1, none⟩ g34' (by dsimp only; omega)).trans h01
  replace h02 := (C5 ⟨w.heap.size + 4, 2, none⟩ g34' (by dsimp only; omega)).trans h02
  replace h03 := (C5 ⟨w.heap.size + 4, 3, none⟩ g34' (by dsimp only; omega)).trans h03
  replace h04 := (C5 ⟨w.heap.size + 4, 4, none⟩ g34' (by dsimp only; omega)).trans h04
  obtain ⟨ac0', ac1', ac2', ac3', ac4'⟩ := act5
  have r1 : w2.heap.size < w5.heap.size := by omega
  have r2 : w2.heap.size + 1 < w5.heap.size := by omega
  have r3 : w.heap.size + 1 < w5.heap.size := by omega
  have r4 : w.heap.size + 1 + 1 < w5.heap.size := by omega
  have r4' : w.heap.size + 2 < w5.heap.size := by omega
  have r5 : w.heap.size + 3 < w5.heap.size := by omega
  have r6 : w.heap.size + 4 < w5.heap.size := by omega
  have r7 : w4.heap.size + 1 + 1 < w5.heap.size := by omega
  have r8 : bk a1 < w5.heap.size := by omega
  clear TT q0 q1 fq fq1 E6 P1 P2 P3 B5 hA hs3 hsS EA6 C5 F5 x0 x1 y0 y1 j4 j5 j6 j7 t0 t1 B4 RM ixa ixb
  have B4 := EX
  clear TT5 EX
  go_wp2_with fail
  go_region
  all_goals
    go_wp2_with fail
    exact bodyPost_ret (by simp [results, Tryz.results26, go_sem, l0, l1, a0, a1', a2, a3, a4, r3, r4]) rfl (RetDo.err HRR.out rfl (by repeat (first | with_reducible assumption | with_reducible exact Below.refl _ _ | with_reducible refine bel_alloc ?_ _ | with_reducible refine bel_drew ?_ | with_reducible refine bel_set ?_ (by dsimp only; omega) _)))
set_option maxRecDepth 100000 in
set_option maxHeartbeats 12800000 in
theorem refDo_m9d0 (code : List Ins) (a : Option Addr) (c : Nat) (l : List Vl) (b : Option Addr) (cb : Nat) (hL : ∀ i ∈ code, i.label.length ≤ 9223372036854775807) (hs : SmV l) (he : (linksV code).2.1 = 0) (w : World) (hI : Is w a code) (hV : Vs w b l) (k : Nat) (hr : readyV code.length l k = true) (i : Ins) (va vb : Vl) (lab : Int)
    (hi : code[k]? = some i) (hci : checkI i = true) (hva : l[i.a.toNat]? = some va) (hvb : l[i.b.toNat]? = some vb) (hlab : (linksV code).1[k]? = some lab) (hma : n32 va.n) (hmb : n32 vb.n) (hl32 : l.length = 32) (hk1 : k < 1000) (r : DoR) (hop : i.op = 9) (hab : i.a ≠ i.b) (v : Vl) (hm : mixV 9 va vb = some v) (hd0 : i.d = 0) (hrr : r = ⟨l, (k : Int) + 1, ac1, 0⟩) :
    Calls Tryz.prog 26 #[.slice a code.length c, .agg #[.slice b l.length cb, .int .i64 k]] w (RetDo r w) := by
  have HOP := hid hop; have HRR := hid hrr
  have z6 : (i.op == 6) = false := by rw [hop]; rfl
  have z7 : (i.op == 7) = false := by rw [hop]; rfl
  have z8 : (i.op == 8) = false := by rw [hop]; rfl
  have z9 : (i.op == 9) = true := by rw [hop]; rfl
  have z10 : (i.op == 10) = false := by rw [hop]; rfl
  have z11 : (i.op == 11) = false := by rw [hop]; rfl
  have z13 : (i.op == 13) = false := by rw [hop]; rfl
  have zab : (i.a == i.b) = false := by simpa using hab
  have zd : (i.d != 0) = false := by rw [hd0]; rfl
  have zd2 : (i.d == 0) = true := by rw [hd0]; rfl
  have RM := hid (fun (w : World) => (show Calls Tryz.prog 58 #[.int .i64 i.op, .agg #[.string (tx va.loc), .int .i64 va.n], .agg #[.string (tx vb.loc), .int .i64 vb.n]] w (fun e w' => e = .returned (.tuple #[vV v, .bool true]) ∧ Below w.heap.size w w') from by
    have h := refMix i.op (by omega) va vb hma hmb w
    rw [show mixV i.op va vb = some v by rw [hop]; exact hm] at h
    exact h))
  clear hop hrr hab hd0 hm
  have PL := fun (w : World) (hI : Is w a code) => refLinks code a c hL w hI
  have E0 := Below.refl (W5 w b l.length cb k).heap.size (W5 w b l.length cb k)
  have I3 := hI.below (Bx3.of ((W5.three w b l.length cb k).trans (E0.mono (W5.three w b l.length cb k).size))).bel
  have RD := fun (w : World) (hV : Vs w b l) => refIsThread code.length l b cb k w hV hs
  rw [hr] at RD
  obtain ⟨-, -, hd, hA, hBb⟩ := checkI_spec hci
  obtain ⟨ka, hka, hia⟩ := regB_nat hA
  obtain ⟨kb, hkb, hib⟩ := regB_nat hBb
  rw [hia] at hva; rw [hib] at hvb
  have hva : l[ka]? = some va := hva
  have hvb : l[kb]? = some vb := hvb
  have HV := hid hV
  have ixa := hV.idx ka (by omega)
  have ixb := hV.idx kb (by omega)
  have ixc := hI.idx k (List.getElem?_eq_some_iff.1 hi).1
  have HI := hid hI
  obtain ⟨⟨L, x, y⟩, hrl⟩ : ∃ r, linksV code = r := ⟨_, rfl⟩
  rw [hrl] at PL he hlab
  obtain rfl : x = 0 := he
  have hlab : L[k]? = some lab := hlab
  have PL := hid (show ∀ (w : World), Is w a code → Calls Tryz.prog 18 #[.slice a code.length c] w (RetL4 L 0 y w) from PL)
  have hrow : (valsC l).length = 32 * 2 := by rw [valsC_length, hl32]
  rw [hl32] at RD E0 I3 ixa ixb ⊢
  have RD := hid RD
  have HCI := hid hci; have HIC := hid hi; have HVA := hid hva; have HVB := hid hvb; have HLAB := hid hlab
  have ixa : ∀ c w', (Instr.indexAt 40 (.slice b 32 c) (.int .i64 i.a)).run Tryz.prog w' = .ok (.pointer (some ⟨bk b, fo b + ka * 2, none⟩)) w' := by rw [hia]; exact ixa
  have ixb : ∀ c w', (Instr.indexAt 40 (.slice b 32 c) (.int .i64 i.b)).run Tryz.prog w' = .ok (.pointer (some ⟨bk b, fo b + kb * 2, none⟩)) w' := by rw [hib]; exact ixb
  clear hrl hI hL hr hs hV hi hci hva hvb hlab hia hib hA hBb hl32
  generalize code.length = n at *
  have E5 := W5.three w b 32 cb k
  go_enter Tryz.func26, Tryz.ntmps26
  go_wp2_with fail
  refine (PL.out _ I3).mono ?_
  rintro e w1 ⟨aA, cA, rfl, oA, E⟩
  obtain ⟨⟨t0, t1⟩, -, -, -, -, hsz, B⟩ := Bx3.of (E5.trans (E.mono E5.size))
  have V1 := HV.out.below B
  clear I3 E0
  go_wp2_with fail
  refine (RD.out _ V1).mono ?_
  rintro e w2 ⟨rfl, E2⟩
  have oA := Own.below oA E2
  have E := E.trans (E2.mono E.size)
  clear t0 t1 hsz B V1
  obtain ⟨⟨t0, t1⟩, -, -, -, -, hsz, B⟩ := Bx3.of (E5.trans (E.mono E5.size))
  have I2 := HI.out.below B
  have V2 := HV.out.below B
  obtain ⟨p0, p1, p2, p3, p4, p5, p6, p7⟩ := I2.cells HIC.out
  have hlt := I2.lt (List.getElem?_eq_some_iff.1 HIC.out).1
  have hltb := V2.lt (List.getElem?_eq_some_iff.1 HVA.out).1
  have A2 := al w2 (mkI i)
  have A3 := al (w2.alloc (mkI i)) (oT ((k : Int) + 1))
  have A4 := ext_trans A2 A3
  have hlt0 : w.heap.size < w2.heap.size := by omega
  have hs2 : ((w2.alloc (mkI i)).alloc (oT ((k : Int) + 1))).heap.size = w2.heap.size + 2 := by simp
  have hVa := V2.below A4
  have hw : IntKind.i64.wrap ((k : Int) + 1) = (k : Int) + 1 := IntWalk.i64_in _ (by omega)
  have on := (Own.nil ((w2.alloc (mkI i)).alloc (oT ((k : Int) + 1))) ((w2.alloc (mkI i)).alloc (oT ((k : Int) + 1))).heap.size 50 2)
  go_wp2_with (at_builtin; go_loud (refine wpList_app vsl (.tmp 47) (.tmp 49) rfl rfl rfl on rfl hVa.row hrow (valsC_oneCell _) (Below.refl _ _) (Nat.le_refl _) (by omega) (by unfold maxLen; omega) ?_))
  intro a1 c1 w4 o1 g1 B1
  have T : OwnV w4 ((w2.alloc (mkI i)).alloc (oT ((k : Int) + 1))).heap.size a1 32 c1 l := by simpa [OwnV] using o1
  have T : OwnV w4 (w2.heap.size + 2) a1 32 c1 l := by rw [← hs2]; exact T
  have B1 : Below ((w2.alloc (mkI i)).alloc (oT ((k : Int) + 1))).heap.size ((w2.alloc (mkI i)).alloc (oT ((k : Int) + 1))) w4 := by rw [hs2]; exact B1
  have hwp : w2.heap.size + 2 ≤ w4.heap.size := by have := B1.size; rw [hs2] at this; exact this
  have EA := A4.trans (B1.mono A4.size)
  have bx4 := ((BxI.new w2 i).below A3).below B1
  obtain ⟨j0, j1, j2, j3, j4, j5, j6, j7⟩ := bx4.cells
  have V4 := hVa.below B1
  obtain ⟨x0, x1⟩ := V4.cells HVA.out
  obtain ⟨y0, y1⟩ := V4.cells HVB.out
  have hoT := heap_alloc_new (w2.alloc (mkI i)) (oT ((k : Int) + 1))
  have hs1 : (w2.alloc (mkI i)).heap.size = w2.heap.size + 1 := by simp
  rw [hs1] at hoT
  have q0 : w4.cell? ⟨w2.heap.size + 1, 0, none⟩ = some (.slice none 0 0) := by
    rw [B1.cell (p := ⟨w2.heap.size + 1, 0, none⟩) (by rw [hs2]; dsimp only; omega)]; simp only [World.cell?, hoT]; simp
  have q1 : w4.cell? ⟨w2.heap.size + 1, 1, none⟩ = some (.int .i64 ((k : Int) + 1)) := by
    rw [B1.cell (p := ⟨w2.heap.size + 1, 1, none⟩) (by rw [hs2]; dsimp only; omega)]; simp only [World.cell?, hoT]; simp
  have fq : w4.frozen? ⟨w2.heap.size + 1, 0, none⟩ = false := by
    rw [B1.frozen (p := ⟨w2.heap.size + 1, 0, none⟩) (by rw [hs2]; dsimp only; omega)]; simp only [World.frozen?, hoT]; simp
  have fq1 : w4.frozen? ⟨w2.heap.size + 1, 1, none⟩ = false := by
    rw [B1.frozen (p := ⟨w2.heap.size + 1, 1, none⟩) (by rw [hs2]; dsimp only; omega)]; simp only [World.frozen?, hoT]; simp
  have E4 := E.trans (EA.mono E.size)
  have b3 := Bx3.of (E5.trans (E4.mono E5.size))
  clear t0 t1
  obtain ⟨⟨t0, t1⟩, ⟨l0, l1⟩, ⟨a0, a1', a2, a3, a4⟩, fl, fa, hsz4, B4⟩ := b3
  have h5 := (Bx5.of E).size
  have g1' : w.heap.size < w4.heap.size := by omega
  have g2' : w.heap.size + 1 < w4.heap.size := by omega
  have g3' : w.heap.size + 1 + 1 < w4.heap.size := by omega
  have g4' : w2.heap.size < w4.heap.size := by omega
  have g5' : w2.heap.size + 1 < w4.heap.size := by omega
  have g6' : bk b < w4.heap.size := by omega
  have e1' : w.heap.size < w2.heap.size + 1 := by omega
  have e2' : w.heap.size + 1 < w2.heap.size + 1 := by omega
  have e3' : bk b < w2.heap.size + 1 := by omega
  have k00 : w.heap.size < w4.heap.size + 1 := by omega
  have k01 : w.heap.size < w4.heap.size + 1 + 1 := by omega
  have k10 : w.heap.size + 1 < w4.heap.size + 1 := by omega
  have k11 : w.heap.size + 1 < w4.heap.size + 1 + 1 := by omega
  have k20 : w.heap.size + 1 + 1 < w4.heap.size + 1 := by omega
  have k21 : w.heap.size + 1 + 1 < w4.heap.size + 1 + 1 := by omega
  have k30 : w2.heap.size < w4.heap.size + 1 := by omega
  have k31 : w2.heap.size < w4.heap.size + 1 + 1 := by omega
  have k40 : w2.heap.size + 1 < w4.heap.size + 1 := by omega
  have k41 : w2.heap.size + 1 < w4.heap.size + 1 + 1 := by omega
  have k50 : bk b < w4.heap.size + 1 := by omega
  have k51 : bk b < w4.heap.size + 1 + 1 := by omega
  have hn4 : a1 ≠ none := Own.some T (by omega)
  have hb4 := Own.lt T hn4
  have hO1 : a1 = none ∨ bk a1 ≠ w.heap.size + 1 := .inr (by omega)
  have hO2 : a1 = none ∨ bk a1 ≠ w.heap.size + 1 + 1 := .inr (by omega)
  have hO3 : a1 = none ∨ bk a1 ≠ w2.heap.size + 1 := .inr (by omega)
  have TT := hid (Own.mono T (show w.heap.size ≤ w2.heap.size + 2 by omega))
  have hl3 : l.length = 32 := (OwnV.len T).symm
  obtain ⟨⟨g00, g01⟩, ⟨h00, h01, h02, h03, h04⟩, hsz5⟩ := Bx5.of (E.trans ((A4.trans (B1.mono A4.size)).mono E.size))
  have g33' : w.heap.size + 3 < w4.heap.size := by omega
  have g34' : w.heap.size + 4 < w4.heap.size := by omega
  have e33' : w.heap.size + 3 < w2.heap.size + 1 := by omega
  have e34' : w.heap.size + 4 < w2.heap.size + 1 := by omega
  have k33 : w.heap.size + 3 < w4.heap.size + 1 := by omega
  have k34 : w.heap.size + 4 < w4.heap.size + 1 := by omega
  have k33' : w.heap.size + 3 < w4.heap.size + 1 + 1 := by omega
  have k34' : w.heap.size + 4 < w4.heap.size + 1 + 1 := by omega
  clear p0 p1 p2 p3 p4 p5 p6 p7 I2 V2 oA o1 g1 on hVa A2 A3 A4 T B1 EA E4 E bx4 V4 hoT
  go_wp2_with fail
  refine (RM.out _).mono ?_
  rintro e w5 ⟨rfl, E6⟩
  have hsS : (w4.setCell ⟨w2.heap.size + 1, 0, none⟩ (.slice a1 32 c1)).heap.size = w4.heap.size := by simp
  have P1 := al (w4.setCell ⟨w2.heap.size + 1, 0, none⟩ (.slice a1 32 c1)) (mkV va)
  have P2 := bel_alloc P1 (mkV ⟨vb.loc, vb.n⟩)
  have P3 := bel_alloc P2 (.cells #[.int .i64 1, .string ⟨#[]⟩, .int .i64 0, .int .i64 0, .int .i64 0] 45)
  have B5 := ext_trans P3 E6
  have hA := heap_alloc_new (((w4.setCell ⟨w2.heap.size + 1, 0, none⟩ (.slice a1 32 c1)).alloc (mkV va)).alloc (mkV ⟨vb.loc, vb.n⟩)) (.cells #[.int .i64 1, .string ⟨#[]⟩, .int .i64 0, .int .i64 0, .int .i64 0] 45)
  have hs3 : (((w4.setCell ⟨w2.heap.size + 1, 0, none⟩ (.slice a1 32 c1)).alloc (mkV va)).alloc (mkV ⟨vb.loc, vb.n⟩)).heap.size = w4.heap.size + 1 + 1 := by simp
  rw [hs3] at hA
  have hs5 : w4.heap.size + 3 ≤ w5.heap.size := by have h := E6.size; simp at h; omega
  have EA6 : ∀ j, w5.cell? ⟨w4.heap.size + 1 + 1, j, none⟩ = ((((w4.setCell ⟨w2.heap.size + 1, 0, none⟩ (.slice a1 32 c1)).alloc (mkV va)).alloc (mkV ⟨vb.loc, vb.n⟩)).alloc (.cells #[.int .i64 1, .string ⟨#[]⟩, .int .i64 0, .int .i64 0, .int .i64 0] 45)).cell? ⟨w4.heap.size + 1 + 1, j, none⟩ := fun j => E6.cell (p := ⟨w4.heap.size + 1 + 1, j, none⟩) (by simp)
  have act5 : w5.cell? ⟨w4.heap.size + 1 + 1, 0, none⟩ = some (.int .i64 1) ∧ w5.cell? ⟨w4.heap.size + 1 + 1, 1, none⟩ = some (.string ⟨#[]⟩) ∧ w5.cell? ⟨w4.heap.size + 1 + 1, 2, none⟩ = some (.int .i64 0) ∧ w5.cell? ⟨w4.heap.size + 1 + 1, 3, none⟩ = some (.int .i64 0) ∧ w5.cell? ⟨w4.heap.size + 1 + 1, 4, none⟩ = some (.int .i64 0) := by
    refine ⟨?_, ?_, ?_, ?_, ?_⟩ <;> (rw [EA6]; simp only [World.cell?, hA]; simp)
  have C5 : ∀ p : Addr, p.block < w4.heap.size → p.block ≠ w2.heap.size + 1 → w5.cell? p = w4.cell? p := fun p h1 h2 => (B5.cell (p := p) (by rw [hsS]; exact h1)).trans (World.cell?_of_block (Below.heap_setCell _ _ _ _ h2))
  have F5 : ∀ p : Addr, p.block < w4.heap.size → p.block ≠ w2.heap.size + 1 → w5.frozen? p = w4.frozen? p := fun p h1 h2 => (B5.frozen (p := p) (by rw [hsS]; exact h1)).trans (World.frozen?_of_block (Below.heap_setCell _ _ _ _ h2))
  have q0' : w5.cell? ⟨w2.heap.size + 1, 0, none⟩ = some (.slice a1 32 c1) := by rw [B5.cell (p := ⟨w2.heap.size + 1, 0, none⟩) (by rw [hsS]; exact g5')]; exact World.cell?_setCell_same w4 _ _ q0
  have q1' : w5.cell? ⟨w2.heap.size + 1, 1, none⟩ = some (.int .i64 ((k : Int) + 1)) := (B5.cell (p := ⟨w2.heap.size + 1, 1, none⟩) (by rw [hsS]; exact g5')).trans ((World.cell?_setCell_other w4 ⟨w2.heap.size + 1, 0, none⟩ ⟨w2.heap.size + 1, 1, none⟩ _ (by simp)).trans q1)
  have TT5 := Own.below (own_other (v := .slice a1 32 c1) (j := 0) TT.out hO3) B5
  have EX : Below w.heap.size w w5 := (bel_set (p := ⟨w2.heap.size + 1, 0, none⟩) B4 (by dsimp only; omega) (.slice a1 32 c1)).trans (B5.mono (by rw [hsS]; exact B4.size))
  replace j0 := (C5 ⟨w2.heap.size, 0, none⟩ g4' (by dsimp only; omega)).trans j0
  replace j1 := (C5 ⟨w2.heap.size, 1, none⟩ g4' (by dsimp only; omega)).trans j1
  replace j2 := (C5 ⟨w2.heap.size, 2, none⟩ g4' (by dsimp only; omega)).trans j2
  replace j3 := (C5 ⟨w2.heap.size, 3, none⟩ g4' (by dsimp only; omega)).trans j3
  replace l0 := (C5 ⟨w.heap.size + 1, 0, none⟩ g2' (by dsimp only; omega)).trans l0
  replace l1 := (C5 ⟨w.heap.size + 1, 1, none⟩ g2' (by dsimp only; omega)).trans l1
  replace a0 := (C5 ⟨w.heap.size + 2, 0, none⟩ g3' (by dsimp only; omega)).trans a0
  replace a1' := (C5 ⟨w.heap.size + 2, 1, none⟩ g3' (by dsimp only; omega)).trans a1'
  replace a2 := (C5 ⟨w.heap.size + 2, 2, none⟩ g3' (by dsimp only; omega)).trans a2
  replace a3 := (C5 ⟨w.heap.size + 2, 3, none⟩ g3' (by dsimp only; omega)).trans a3
  replace a4 := (C5 ⟨w.heap.size + 2, 4, none⟩ g3' (by dsimp only; omega)).trans a4
  replace fl := fun j => (F5 ⟨w.heap.size + 1, j, none⟩ g2' (by dsimp only; omega)).trans (fl j)
  replace fa := fun j => (F5 ⟨w.heap.size + 2, j, none⟩ g3' (by dsimp only; omega)).trans (fa j)
  replace g00 := (C5 ⟨w.heap.size + 3, 0, none⟩ g33' (by dsimp only; omega)).trans g00
  replace g01 := (C5 ⟨w.heap.size + 3, 1, none⟩ g33' (by dsimp only; omega)).trans g01
  replace h00 := (C5 ⟨w.heap.size + 4, 0, none⟩ g34' (by dsimp only; omega)).trans h00
  replace h01 := (C5 ⟨w.heap.size + 4, 1, none⟩ g34' (by dsimp only; omega)).trans h01
  replace h02 := (C5 ⟨w.heap.size + 4, 2, none⟩ g34' (by dsimp only; omega)).trans h02
  replace h03 := (C5 ⟨w.heap.size + 4, 3, none⟩ g34' (by dsimp only; omega)).trans h03
  replace h04 := (C5 ⟨w.heap.size + 4, 4, none⟩ g34' (by dsimp only; omega)).trans h04
  obtain ⟨ac0', ac1', ac2', ac3', ac4'⟩ := act5
  have r1 : w2.heap.size < w5.heap.size := by omega
  have r2 : w2.heap.size + 1 < w5.heap.size := by omega
  have r3 : w.heap.size + 1 < w5.heap.size := by omega
  have r4 : w.heap.size + 1 + 1 < w5.heap.size := by omega
  have r4' : w.heap.size + 2 < w5.heap.size := by omega
  have r5 : w.heap.size + 3 < w5.heap.size := by omega
  have r6 : w.heap.size + 4 < w5.heap.size := by omega
  have r7 : w4.heap.size + 1 + 1 < w5.heap.size := by omega
  have r8 : bk a1 < w5.heap.size := by omega
  clear TT q0 q1 fq fq1 E6 P1 P2 P3 B5 hA hs3 hsS EA6 C5 F5 x0 x1 y0 y1 j4 j5 j6 j7 t0 t1 B4 RM ixa ixb
  have B4 := EX
  have TT := hid TT5
  clear TT5 EX
  go_wp2_with fail
  go_region
  all_goals
    go_wp2_with fail
    exact bodyPost_ret (by simp [results, Tryz.results26, go_sem, l0, l1, a0, a1', a2, a3, a4, r3, r4, ac1, tx_nil]) rfl (RetDo.yes (a := a1) (n := 32) (c := c1) HRR.out rfl hl3 (by repeat (first | with_reducible exact TT.out | with_reducible refine own_other ?_ hO1 | with_reducible refine own_other ?_ hO2 | with_reducible refine own_other ?_ hO3 | with_reducible refine own_drew ?_ | with_reducible refine own_alloc ?_ _)) (by repeat (first | with_reducible assumption | with_reducible exact Below.refl _ _ | with_reducible refine bel_alloc ?_ _ | with_reducible refine bel_drew ?_ | with_reducible refine bel_set ?_ (by dsimp only; omega) _)))
set_option maxRecDepth 100000 in
set_option maxHeartbeats 12800000 in
theorem refDo_m9dn (code : List Ins) (a : Option Addr) (c : Nat) (l : List Vl) (b : Option Addr) (cb : Nat) (hL : ∀ i ∈ code, i.label.length ≤ 9223372036854775807) (hs : SmV l) (he : (linksV code).2.1 = 0) (w : World) (hI : Is w a code) (hV : Vs w b l) (k : Nat) (hr : readyV code.length l k = true) (i : Ins) (va vb : Vl) (lab : Int)
    (hi : code[k]? = some i) (hci : checkI i = true) (hva : l[i.a.toNat]? = some va) (hvb : l[i.b.toNat]? = some vb) (hlab : (linksV code).1[k]? = some lab) (hma : n32 va.n) (hmb : n32 vb.n) (hl32 : l.length = 32) (hk1 : k < 1000) (r : DoR) (hop : i.op = 9) (hab : i.a ≠ i.b) (v : Vl) (hm : mixV 9 va vb = some v) (hdn : i.d ≠ 0) (hrr : r = ⟨l.set i.d.toNat v, (k : Int) + 1, ac1, 0⟩) :
    Calls Tryz.prog 26 #[.slice a code.length c, .agg #[.slice b l.length cb, .int .i64 k]] w (RetDo r w) := by
  have HOP := hid hop; have HRR := hid hrr
  have z6 : (i.op == 6) = false := by rw [hop]; rfl
  have z7 : (i.op == 7) = false := by rw [hop]; rfl
  have z8 : (i.op == 8) = false := by rw [hop]; rfl
  have z9 : (i.op == 9) = true := by rw [hop]; rfl
  have z10 : (i.op == 10) = false := by rw [hop]; rfl
  have z11 : (i.op == 11) = false := by rw [hop]; rfl
  have z13 : (i.op == 13) = false := by rw [hop]; rfl
  have zab : (i.a == i.b) = false := by simpa using hab
  have zd : (i.d != 0) = true := by simpa using hdn
  have zd2 : (i.d == 0) = false := by simpa using hdn
  have RM := hid (fun (w : World) => (show Calls Tryz.prog 58 #[.int .i64 i.op, .agg #[.string (tx va.loc), .int .i64 va.n], .agg #[.string (tx vb.loc), .int .i64 vb.n]] w (fun e w' => e = .returned (.tuple #[vV v, .bool true]) ∧ Below w.heap.size w w') from by
    have h := refMix i.op (by omega) va vb hma hmb w
    rw [show mixV i.op va vb = some v by rw [hop]; exact hm] at h
    exact h))
  clear hop hrr hab hdn hm
  have PL := fun (w : World) (hI : Is w a code) => refLinks code a c hL w hI
  have E0 := Below.refl (W5 w b l.length cb k).heap.size (W5 w b l.length cb k)
  have I3 := hI.below (Bx3.of ((W5.three w b l.length cb k).trans (E0.mono (W5.three w b l.length cb k).size))).bel
  have RD := fun (w : World) (hV : Vs w b l) => refIsThread code.length l b cb k w hV hs
  rw [hr] at RD
  obtain ⟨-, -, hd, hA, hBb⟩ := checkI_spec hci
  obtain ⟨ka, hka, hia⟩ := regB_nat hA
  obtain ⟨kb, hkb, hib⟩ := regB_nat hBb
  rw [hia] at hva; rw [hib] at hvb
  have hva : l[ka]? = some va := hva
  have hvb : l[kb]? = some vb := hvb
  have HV := hid hV
  have ixa := hV.idx ka (by omega)
  have ixb := hV.idx kb (by omega)
  have ixc := hI.idx k (List.getElem?_eq_some_iff.1 hi).1
  have HI := hid hI
  obtain ⟨⟨L, x, y⟩, hrl⟩ : ∃ r, linksV code = r := ⟨_, rfl⟩
  rw [hrl] at PL he hlab
  obtain rfl : x = 0 := he
  have hlab : L[k]? = some lab := hlab
  have PL := hid (show ∀ (w : World), Is w a code → Calls Tryz.prog 18 #[.slice a code.length c] w (RetL4 L 0 y w) from PL)
  have hrow : (valsC l).length = 32 * 2 := by rw [valsC_length, hl32]
  rw [hl32] at RD E0 I3 ixa ixb ⊢
  have RD := hid RD
  have HCI := hid hci; have HIC := hid hi; have HVA := hid hva; have HVB := hid hvb; have HLAB := hid hlab
  have ixa : ∀ c w', (Instr.indexAt 40 (.slice b 32 c) (.int .i64 i.a)).run Tryz.prog w' = .ok (.pointer (some ⟨bk b, fo b + ka * 2, none⟩)) w' := by rw [hia]; exact ixa
  have ixb : ∀ c w', (Instr.indexAt 40 (.slice b 32 c) (.int .i64 i.b)).run Tryz.prog w' = .ok (.pointer (some ⟨bk b, fo b + kb * 2, none⟩)) w' := by rw [hib]; exact ixb
  clear hrl hI hL hr hs hV hi hci hva hvb hlab hia hib hA hBb hl32
  generalize code.length = n at *
  have E5 := W5.three w b 32 cb k
  go_enter Tryz.func26, Tryz.ntmps26
  go_wp2_with fail
  refine (PL.out _ I3).mono ?_
  rintro e w1 ⟨aA, cA, rfl, oA, E⟩
  obtain ⟨⟨t0, t1⟩, -, -, -, -, hsz, B⟩ := Bx3.of (E5.trans (E.mono E5.size))
  have V1 := HV.out.below B
  clear I3 E0
  go_wp2_with fail
  refine (RD.out _ V1).mono ?_
  rintro e w2 ⟨rfl, E2⟩
  have oA := Own.below oA E2
  have E := E.trans (E2.mono E.size)
  clear t0 t1 hsz B V1
  obtain ⟨⟨t0, t1⟩, -, -, -, -, hsz, B⟩ := Bx3.of (E5.trans (E.mono E5.size))
  have I2 := HI.out.below B
  have V2 := HV.out.below B
  obtain ⟨p0, p1, p2, p3, p4, p5, p6, p7⟩ := I2.cells HIC.out
  have hlt := I2.lt (List.getElem?_eq_some_iff.1 HIC.out).1
  have hltb := V2.lt (List.getElem?_eq_some_iff.1 HVA.out).1
  have A2 := al w2 (mkI i)
  have A3 := al (w2.alloc (mkI i)) (oT ((k : Int) + 1))
  have A4 := ext_trans A2 A3
  have hlt0 : w.heap.size < w2.heap.size := by omega
  have hs2 : ((w2.alloc (mkI i)).alloc (oT ((k : Int) + 1))).heap.size = w2.heap.size + 2 := by simp
  have hVa := V2.below A4
  have hw : IntKind.i64.wrap ((k : Int) + 1) = (k : Int) + 1 := IntWalk.i64_in _ (by omega)
  have on := (Own.nil ((w2.alloc (mkI i)).alloc (oT ((k : Int) + 1))) ((w2.alloc (mkI i)).alloc (oT ((k : Int) + 1))).heap.size 50 2)
  go_wp2_with (at_builtin; go_loud (refine wpList_app vsl (.tmp 47) (.tmp 49) rfl rfl rfl on rfl hVa.row hrow (valsC_oneCell _) (Below.refl _ _) (Nat.le_refl _) (by omega) (by unfold maxLen; omega) ?_))
  intro a1 c1 w4 o1 g1 B1
  have T : OwnV w4 ((w2.alloc (mkI i)).alloc (oT ((k : Int) + 1))).heap.size a1 32 c1 l := by simpa [OwnV] using o1
  have T : OwnV w4 (w2.heap.size + 2) a1 32 c1 l := by rw [← hs2]; exact T
  have B1 : Below ((w2.alloc (mkI i)).alloc (oT ((k : Int) + 1))).heap.size ((w2.alloc (mkI i)).alloc (oT ((k : Int) + 1))) w4 := by rw [hs2]; exact B1
  have hwp : w2.heap.size + 2 ≤ w4.heap.size := by have := B1.size; rw [hs2] at this; exact this
  have EA := A4.trans (B1.mono A4.size)
  have bx4 := ((BxI.new w2 i).below A3).below B1
  obtain ⟨j0, j1, j2, j3, j4, j5, j6, j7⟩ := bx4.cells
  have V4 := hVa.below B1
  obtain ⟨x0, x1⟩ := V4.cells HVA.out
  obtain ⟨y0, y1⟩ := V4.cells HVB.out
  have hoT := heap_alloc_new (w2.alloc (mkI i)) (oT ((k : Int) + 1))
  have hs1 : (w2.alloc (mkI i)).heap.size = w2.heap.size + 1 := by simp
  rw [hs1] at hoT
  have q0 : w4.cell? ⟨w2.heap.size + 1, 0, none⟩ = some (.slice none 0 0) := by
    rw [B1.cell (p := ⟨w2.heap.size + 1, 0, none⟩) (by rw [hs2]; dsimp only; omega)]; simp only [World.cell?, hoT]; simp
  have q1 : w4.cell? ⟨w2.heap.size + 1, 1, none⟩ = some (.int .i64 ((k : Int) + 1)) := by
    rw [B1.cell (p := ⟨w2.heap.size + 1, 1, none⟩) (by rw [hs2]; dsimp only; omega)]; simp only [World.cell?, hoT]; simp
  have fq : w4.frozen? ⟨w2.heap.size + 1, 0, none⟩ = false := by
    rw [B1.frozen (p := ⟨w2.heap.size + 1, 0, none⟩) (by rw [hs2]; dsimp only; omega)]; simp only [World.frozen?, hoT]; simp
  have fq1 : w4.frozen? ⟨w2.heap.size + 1, 1, none⟩ = false := by
    rw [B1.frozen (p := ⟨w2.heap.size + 1, 1, none⟩) (by rw [hs2]; dsimp only; omega)]; simp only [World.frozen?, hoT]; simp
  have E4 := E.trans (EA.mono E.size)
  have b3 := Bx3.of (E5.trans (E4.mono E5.size))
  clear t0 t1
  obtain ⟨⟨t0, t1⟩, ⟨l0, l1⟩, ⟨a0, a1', a2, a3, a4⟩, fl, fa, hsz4, B4⟩ := b3
  have h5 := (Bx5.of E).size
  have g1' : w.heap.size < w4.heap.size := by omega
  have g2' : w.heap.size + 1 < w4.heap.size := by omega
  have g3' : w.heap.size + 1 + 1 < w4.heap.size := by omega
  have g4' : w2.heap.size < w4.heap.size := by omega
  have g5' : w2.heap.size + 1 < w4.heap.size := by omega
  have g6' : bk b < w4.heap.size := by omega
  have e1' : w.heap.size < w2.heap.size + 1 := by omega
  have e2' : w.heap.size + 1 < w2.heap.size + 1 := by omega
  have e3' : bk b < w2.heap.size + 1 := by omega
  have k00 : w.heap.size < w4.heap.size + 1 := by omega
  have k01 : w.heap.size < w4.heap.size + 1 + 1 := by omega
  have k10 : w.heap.size + 1 < w4.heap.size + 1 := by omega
  have k11 : w.heap.size + 1 < w4.heap.size + 1 + 1 := by omega
  have k20 : w.heap.size + 1 + 1 < w4.heap.size + 1 := by omega
  have k21 : w.heap.size + 1 + 1 < w4.heap.size + 1 + 1 := by omega
  have k30 : w2.heap.size < w4.heap.size + 1 := by omega
  have k31 : w2.heap.size < w4.heap.size + 1 + 1 := by omega
  have k40 : w2.heap.size + 1 < w4.heap.size + 1 := by omega
  have k41 : w2.heap.size + 1 < w4.heap.size + 1 + 1 := by omega
  have k50 : bk b < w4.heap.size + 1 := by omega
  have k51 : bk b < w4.heap.size + 1 + 1 := by omega
  have hn4 : a1 ≠ none := Own.some T (by omega)
  have hb4 := Own.lt T hn4
  have hO1 : a1 = none ∨ bk a1 ≠ w.heap.size + 1 := .inr (by omega)
  have hO2 : a1 = none ∨ bk a1 ≠ w.heap.size + 1 + 1 := .inr (by omega)
  have hO3 : a1 = none ∨ bk a1 ≠ w2.heap.size + 1 := .inr (by omega)
  have TT := hid (Own.mono T (show w.heap.size ≤ w2.heap.size + 2 by omega))
  have hl3 : l.length = 32 := (OwnV.len T).symm
  obtain ⟨⟨g00, g01⟩, ⟨h00, h01, h02, h03, h04⟩, hsz5⟩ := Bx5.of (E.trans ((A4.trans (B1.mono A4.size)).mono E.size))
  have g33' : w.heap.size + 3 < w4.heap.size := by omega
  have g34' : w.heap.size + 4 < w4.heap.size := by omega
  have e33' : w.heap.size + 3 < w2.heap.size + 1 := by omega
  have e34' : w.heap.size + 4 < w2.heap.size + 1 := by omega
  have k33 : w.heap.size + 3 < w4.heap.size + 1 := by omega
  have k34 : w.heap.size + 4 < w4.heap.size + 1 := by omega
  have k33' : w.heap.size + 3 < w4.heap.size + 1 + 1 := by omega
  have k34' : w.heap.size + 4 < w4.heap.size + 1 + 1 := by omega
  clear p0 p1 p2 p3 p4 p5 p6 p7 I2 V2 oA o1 g1 on hVa A2 A3 A4 T B1 EA E4 E bx4 V4 hoT
  go_wp2_with fail
  refine (RM.out _).mono ?_
  rintro e w5 ⟨rfl, E6⟩
  have hsS : (w4.setCell ⟨w2.heap.size + 1, 0, none⟩ (.slice a1 32 c1)).heap.size = w4.heap.size := by simp
  have P1 := al (w4.setCell ⟨w2.heap.size + 1, 0, none⟩ (.slice a1 32 c1)) (mkV va)
  have P2 := bel_alloc P1 (mkV ⟨vb.loc, vb.n⟩)
  have P3 := bel_alloc P2 (.cells #[.int .i64 1, .string ⟨#[]⟩, .int .i64 0, .int .i64 0, .int .i64 0] 45)
  have B5 := ext_trans P3 E6
  have hA := heap_alloc_new (((w4.setCell ⟨w2.heap.size + 1, 0, none⟩ (.slice a1 32 c1)).alloc (mkV va)).alloc (mkV ⟨vb.loc, vb.n⟩)) (.cells #[.int .i64 1, .string ⟨#[]⟩, .int .i64 0, .int .i64 0, .int .i64 0] 45)
  have hs3 : (((w4.setCell ⟨w2.heap.size + 1, 0, none⟩ (.slice a1 32 c1)).alloc (mkV va)).alloc (mkV ⟨vb.loc, vb.n⟩)).heap.size = w4.heap.size + 1 + 1 := by simp
  rw [hs3] at hA
  have hs5 : w4.heap.size + 3 ≤ w5.heap.size := by have h := E6.size; simp at h; omega
  have EA6 : ∀ j, w5.cell? ⟨w4.heap.size + 1 + 1, j, none⟩ = ((((w4.setCell ⟨w2.heap.size + 1, 0, none⟩ (.slice a1 32 c1)).alloc (mkV va)).alloc (mkV ⟨vb.loc, vb.n⟩)).alloc (.cells #[.int .i64 1, .string ⟨#[]⟩, .int .i64 0, .int .i64 0, .int .i64 0] 45)).cell? ⟨w4.heap.size + 1 + 1, j, none⟩ := fun j => E6.cell (p := ⟨w4.heap.size + 1 + 1, j, none⟩) (by simp)
  have act5 : w5.cell? ⟨w4.heap.size + 1 + 1, 0, none⟩ = some (.int .i64 1) ∧ w5.cell? ⟨w4.heap.size + 1 + 1, 1, none⟩ = some (.string ⟨#[]⟩) ∧ w5.cell? ⟨w4.heap.size + 1 + 1, 2, none⟩ = some (.int .i64 0) ∧ w5.cell? ⟨w4.heap.size + 1 + 1, 3, none⟩ = some (.int .i64 0) ∧ w5.cell? ⟨w4.heap.size + 1 + 1, 4, none⟩ = some (.int .i64 0) := by
    refine ⟨?_, ?_, ?_, ?_, ?_⟩ <;> (rw [EA6]; simp only [World.cell?, hA]; simp)
  have C5 : ∀ p : Addr, p.block < w4.heap.size → p.block ≠ w2.heap.size + 1 → w5.cell? p = w4.cell? p := fun p h1 h2 => (B5.cell (p := p) (by rw [hsS]; exact h1)).trans (World.cell?_of_block (Below.heap_setCell _ _ _ _ h2))
  have F5 : ∀ p : Addr, p.block < w4.heap.size → p.block ≠ w2.heap.size + 1 → w5.frozen? p = w4.frozen? p := fun p h1 h2 => (B5.frozen (p := p) (by rw [hsS]; exact h1)).trans (World.frozen?_of_block (Below.heap_setCell _ _ _ _ h2))
  have q0' : w5.cell? ⟨w2.heap.size + 1, 0, none⟩ = some (.slice a1 32 c1) := by rw [B5.cell (p := ⟨w2.heap.size + 1, 0, none⟩) (by rw [hsS]; exact g5')]; exact World.cell?_setCell_same w4 _ _ q0
  have q1' : w5.cell? ⟨w2.heap.size + 1, 1, none⟩ = some (.int .i64 ((k : Int) + 1)) := (B5.cell (p := ⟨w2.heap.size + 1, 1, none⟩) (by rw [hsS]; exact g5')).trans ((World.cell?_setCell_other w4 ⟨w2.heap.size + 1, 0, none⟩ ⟨w2.heap.size + 1, 1, none⟩ _ (by simp)).trans q1)
  have TT5 := Own.below (own_other (v := .slice a1 32 c1) (j := 0) TT.out hO3) B5
  have EX : Below w.heap.size w w5 := (bel_set (p := ⟨w2.heap.size + 1, 0, none⟩) B4 (by dsimp only; omega) (.slice a1 32 c1)).trans (B5.mono (by rw [hsS]; exact B4.size))
  replace j0 := (C5 ⟨w2.heap.size, 0, none⟩ g4' (by dsimp only; omega)).trans j0
  replace j1 := (C5 ⟨w2.heap.size, 1, none⟩ g4' (by dsimp only; omega)).trans j1
  replace j2 := (C5 ⟨w2.heap.size, 2, none⟩ g4' (by dsimp only; omega)).trans j2
  replace j3 := (C5 ⟨w2.heap.size, 3, none⟩ g4' (by dsimp only; omega)).trans j3
  replace l0 := (C5 ⟨w.heap.size + 1, 0, none⟩ g2' (by dsimp only; omega)).trans l0
  replace l1 := (C5 ⟨w.heap.size + 1, 1, none⟩ g2' (by dsimp only; omega)).trans l1
  replace a0 := (C5 ⟨w.heap.size + 2, 0, none⟩ g3' (by dsimp only; omega)).trans a0
  replace a1' := (C5 ⟨w.heap.size + 2, 1, none⟩ g3' (by dsimp only; omega)).trans a1'
  replace a2 := (C5 ⟨w.heap.size + 2, 2, none⟩ g3' (by dsimp only; omega)).trans a2
  replace a3 := (C5 ⟨w.heap.size + 2, 3, none⟩ g3' (by dsimp only; omega)).trans a3
  replace a4 := (C5 ⟨w.heap.size + 2, 4, none⟩ g3' (by dsimp only; omega)).trans a4
  replace fl := fun j => (F5 ⟨w.heap.size + 1, j, none⟩ g2' (by dsimp only; omega)).trans (fl j)
  replace fa := fun j => (F5 ⟨w.heap.size + 2, j, none⟩ g3' (by dsimp only; omega)).trans (fa j)
  replace g00 := (C5 ⟨w.heap.size + 3, 0, none⟩ g33' (by dsimp only; omega)).trans g00
  replace g01 := (C5 ⟨w.heap.size + 3, 1, none⟩ g33' (by dsimp only; omega)).trans g01
  replace h00 := (C5 ⟨w.heap.size + 4, 0, none⟩ g34' (by dsimp only; omega)).trans h00
  replace h01 := (C5 ⟨w.heap.size + 4, 1, none⟩ g34' (by dsimp only; omega)).trans h01
  replace h02 := (C5 ⟨w.heap.size + 4, 2, none⟩ g34' (by dsimp only; omega)).trans h02
  replace h03 := (C5 ⟨w.heap.size + 4, 3, none⟩ g34' (by dsimp only; omega)).trans h03
  replace h04 := (C5 ⟨w.heap.size + 4, 4, none⟩ g34' (by dsimp only; omega)).trans h04
  obtain ⟨ac0', ac1', ac2', ac3', ac4'⟩ := act5
  have r1 : w2.heap.size < w5.heap.size := by omega
  have r2 : w2.heap.size + 1 < w5.heap.size := by omega
  have r3 : w.heap.size + 1 < w5.heap.size := by omega
  have r4 : w.heap.size + 1 + 1 < w5.heap.size := by omega
  have r4' : w.heap.size + 2 < w5.heap.size := by omega
  have r5 : w.heap.size + 3 < w5.heap.size := by omega
  have r6 : w.heap.size + 4 < w5.heap.size := by omega
  have r7 : w4.heap.size + 1 + 1 < w5.heap.size := by omega
  have r8 : bk a1 < w5.heap.size := by omega
  clear TT q0 q1 fq fq1 E6 P1 P2 P3 B5 hA hs3 hsS EA6 C5 F5 x0 x1 y0 y1 j4 j5 j6 j7 t0 t1 B4 RM ixa ixb
  have B4 := EX
  obtain ⟨kd, hkd, hdd⟩ := regB_nat hd
  have ixd := (OwnV.vs TT5 (by omega)).idx kd (by omega)
  obtain ⟨vd, hvd⟩ : ∃ vd, l[kd]? = some vd := ⟨_, List.getElem?_eq_getElem (by omega)⟩
  obtain ⟨d0, d1⟩ := (OwnV.vs TT5 (by omega)).cells hvd
  have fd0 := Own.frozen TT5 hn4 (kd * 2)
  have fd1 := Own.frozen TT5 hn4 (kd * 2 + 1)
  rw [← Nat.add_assoc] at fd1
  rw [hl3] at ixd
  have ixd : ∀ c w', (Instr.indexAt 40 (.slice a1 32 c) (.int .i64 i.d)).run Tryz.prog w' = .ok (.pointer (some ⟨bk a1, fo a1 + kd * 2, none⟩)) w' := by rw [hdd]; exact ixd
  have hSr : l.set i.d.toNat v = l.set kd v := by rw [hdd]; rfl
  replace HRR := hid (show r = ⟨l.set kd v, (k : Int) + 1, ac1, 0⟩ by rw [HRR.out, hSr])
  replace hl3 : (l.set kd v).length = 32 := by simpa using hl3
  have TS := hid (OwnV.set TT5 hn4 kd (by have := hl3; simp at this; omega) v).1
  have s1 : w.heap.size + 1 < bk a1 := by omega
  have s2 : w.heap.size + 1 + 1 < bk a1 := by omega
  have s3 : w2.heap.size < bk a1 := by omega
  have s4 : w2.heap.size + 1 < bk a1 := by omega
  have s5 : bk a1 < w4.heap.size + 1 + 1 := by omega
  have s6 : w.heap.size ≤ bk a1 := by omega
  clear TT5 EX hSr hdd hvd
  go_wp2_with fail
  go_region
  all_goals
    go_wp2_with fail
    exact bodyPost_ret (by simp [results, Tryz.results26, go_sem, l0, l1, a0, a1', a2, a3, a4, r3, r4, ac1, tx_nil]) rfl (RetDo.yes (a := a1) (n := 32) (c := c1) HRR.out rfl hl3 (by repeat (first | with_reducible exact TS.out | with_reducible refine own_other ?_ hO1 | with_reducible refine own_other ?_ hO2 | with_reducible refine own_other ?_ hO3 | with_reducible refine own_drew ?_ | with_reducible refine own_alloc ?_ _)) (by repeat (first | with_reducible assumption | with_reducible exact Below.refl _ _ | with_reducible refine bel_alloc ?_ _ | with_reducible refine bel_drew ?_ | with_reducible refine bel_set ?_ (by dsimp only; omega) _)))
set_option maxRecDepth 100000 in
set_option maxHeartbeats 12800000 in
theorem refDo_m9s0 (code : List Ins) (a : Option Addr) (c : Nat) (l : List Vl) (b : Option Addr) (cb : Nat) (hL : ∀ i ∈ code, i.label.length ≤ 9223372036854775807) (hs : SmV l) (he : (linksV code).2.1 = 0) (w : World) (hI : Is w a code) (hV : Vs w b l) (k : Nat) (hr : readyV code.length l k = true) (i : Ins) (va vb : Vl) (lab : Int)
    (hi : code[k]? = some i) (hci : checkI i = true) (hva : l[i.a.toNat]? = some va) (hvb : l[i.b.toNat]? = some vb) (hlab : (linksV code).1[k]? = some lab) (hma : n32 va.n) (hmb : n32 vb.n) (hl32 : l.length = 32) (hk1 : k < 1000) (r : DoR) (hop : i.op = 9) (hab : i.a = i.b) (v : Vl) (hv0 : v = vl0) (m : Option Vl) (hm : mixV 9 va vb = m) (hd0 : i.d = 0) (hrr : r = ⟨l, (k : Int) + 1, ac1, 0⟩) :
    Calls Tryz.prog 26 #[.slice a code.length c, .agg #[.slice b l.length cb, .int .i64 k]] w (RetDo r w) := by
  have HOP := hid hop; have HRR := hid hrr
  have z6 : (i.op == 6) = false := by rw [hop]; rfl
  have z7 : (i.op == 7) = false := by rw [hop]; rfl
  have z8 : (i.op == 8) = false := by rw [hop]; rfl
  have z9 : (i.op == 9) = true := by rw [hop]; rfl
  have z10 : (i.op == 10) = false := by rw [hop]; rfl
  have z11 : (i.op == 11) = false := by rw [hop]; rfl
  have z13 : (i.op == 13) = false := by rw [hop]; rfl
  have zab : (i.a == i.b) = true := by rw [hab]; simp
  have zd : (i.d != 0) = false := by rw [hd0]; rfl
  have zd2 : (i.d == 0) = true := by rw [hd0]; rfl
  have RM := hid (fun (w : World) => (show Calls Tryz.prog 58 #[.int .i64 i.op, .agg #[.string (tx va.loc), .int .i64 va.n], .agg #[.string (tx vb.loc), .int .i64 vb.n]] w (fun e w' => e = .returned (.tuple #[vV (m.getD vl0), .bool m.isSome]) ∧ Below w.heap.size w w') from by
    have h := refMix i.op (by omega) va vb hma hmb w
    rw [show mixV i.op va vb = m by rw [hop]; exact hm] at h
    exact h))
  have HV0 := hid hv0
  clear hop hrr hab hd0 hm
  have PL := fun (w : World) (hI : Is w a code) => refLinks code a c hL w hI
  have E0 := Below.refl (W5 w b l.length cb k).heap.size (W5 w b l.length cb k)
  have I3 := hI.below (Bx3.of ((W5.three w b l.length cb k).trans (E0.mono (W5.three w b l.length cb k).size))).bel
  have RD := fun (w : World) (hV : Vs w b l) => refIsThread code.length l b cb k w hV hs
  rw [hr] at RD
  obtain ⟨-, -, hd, hA, hBb⟩ := checkI_spec hci
  obtain ⟨ka, hka, hia⟩ := regB_nat hA
  obtain ⟨kb, hkb, hib⟩ := regB_nat hBb
  rw [hia] at hva; rw [hib] at hvb
  have hva : l[ka]? = some va := hva
  have hvb : l[kb]? = some vb := hvb
  have HV := hid hV
  have ixa := hV.idx ka (by omega)
  have ixb := hV.idx kb (by omega)
  have ixc := hI.idx k (List.getElem?_eq_some_iff.1 hi).1
  have HI := hid hI
  obtain ⟨⟨L, x, y⟩, hrl⟩ : ∃ r, linksV code = r := ⟨_, rfl⟩
  rw [hrl] at PL he hlab
  obtain rfl : x = 0 := he
  have hlab : L[k]? = some lab := hlab
  have PL := hid (show ∀ (w : World), Is w a code → Calls Tryz.prog 18 #[.slice a code.length c] w (RetL4 L 0 y w) from PL)
  have hrow : (valsC l).length = 32 * 2 := by rw [valsC_length, hl32]
  rw [hl32] at RD E0 I3 ixa ixb ⊢
  have RD := hid RD
  have HCI := hid hci; have HIC := hid hi; have HVA := hid hva; have HVB := hid hvb; have HLAB := hid hlab
  have ixa : ∀ c w', (Instr.indexAt 40 (.slice b 32 c) (.int .i64 i.a)).run Tryz.prog w' = .ok (.pointer (some ⟨bk b, fo b + ka * 2, none⟩)) w' := by rw [hia]; exact ixa
  have ixb : ∀ c w', (Instr.indexAt 40 (.slice b 32 c) (.int .i64 i.b)).run Tryz.prog w' = .ok (.pointer (some ⟨bk b, fo b + kb * 2, none⟩)) w' := by rw [hib]; exact ixb
  clear hrl hI hL hr hs hV hi hci hva hvb hlab hia hib hA hBb hl32
  generalize code.length = n at *
  have E5 := W5.three w b 32 cb k
  go_enter Tryz.func26, Tryz.ntmps26
  go_wp2_with fail
  refine (PL.out _ I3).mono ?_
  rintro e w1 ⟨aA, cA, rfl, oA, E⟩
  obtain ⟨⟨t0, t1⟩, -, -, -, -, hsz, B⟩ := Bx3.of (E5.trans (E.mono E5.size))
  have V1 := HV.out.below B
  clear I3 E0
  go_wp2_with fail
  refine (RD.out _ V1).mono ?_
  rintro e w2 ⟨rfl, E2⟩
  have oA := Own.below oA E2
  have E := E.trans (E2.mono E.size)
  clear t0 t1 hsz B V1
  obtain ⟨⟨t0, t1⟩, -, -, -, -, hsz, B⟩ := Bx3.of (E5.trans (E.mono E5.size))
  have I2 := HI.out.below B
  have V2 := HV.out.below B
  obtain ⟨p0, p1, p2, p3, p4, p5, p6, p7⟩ := I2.cells HIC.out
  have hlt := I2.lt (List.getElem?_eq_some_iff.1 HIC.out).1
  have hltb := V2.lt (List.getElem?_eq_some_iff.1 HVA.out).1
  have A2 := al w2 (mkI i)
  have A3 := al (w2.alloc (mkI i)) (oT ((k : Int) + 1))
  have A4 := ext_trans A2 A3
  have hlt0 : w.heap.size < w2.heap.size := by omega
  have hs2 : ((w2.alloc (mkI i)).alloc (oT ((k : Int) + 1))).heap.size = w2.heap.size + 2 := by simp
  have hVa := V2.below A4
  have hw : IntKind.i64.wrap ((k : Int) + 1) = (k : Int) + 1 := IntWalk.i64_in _ (by omega)
  have on := (Own.nil ((w2.alloc (mkI i)).alloc (oT ((k : Int) + 1))) ((w2.alloc (mkI i)).alloc (oT ((k : Int) + 1))).heap.size 50 2)
  go_wp2_with (at_builtin; go_loud (refine wpList_app vsl (.tmp 47) (.tmp 49) rfl rfl rfl on rfl hVa.row hrow (valsC_oneCell _) (Below.refl _ _) (Nat.le_refl _) (by omega) (by unfold maxLen; omega) ?_))
  intro a1 c1 w4 o1 g1 B1
  have T : OwnV w4 ((w2.alloc (mkI i)).alloc (oT ((k : Int) + 1))).heap.size a1 32 c1 l := by simpa [OwnV] using o1
  have T : OwnV w4 (w2.heap.size + 2) a1 32 c1 l := by rw [← hs2]; exact T
  have B1 : Below ((w2.alloc (mkI i)).alloc (oT ((k : Int) + 1))).heap.size ((w2.alloc (mkI i)).alloc (oT ((k : Int) + 1))) w4 := by rw [hs2]; exact B1
  have hwp : w2.heap.size + 2 ≤ w4.heap.size := by have := B1.size; rw [hs2] at this; exact this
  have EA := A4.trans (B1.mono A4.size)
  have bx4 := ((BxI.new w2 i).below A3).below B1
  obtain ⟨j0, j1, j2, j3, j4, j5, j6, j7⟩ := bx4.cells
  have V4 := hVa.below B1
  obtain ⟨x0, x1⟩ := V4.cells HVA.out
  obtain ⟨y0, y1⟩ := V4.cells HVB.out
  have hoT := heap_alloc_new (w2.alloc (mkI i)) (oT ((k : Int) + 1))
  have hs1 : (w2.alloc (mkI i)).heap.size = w2.heap.size + 1 := by simp
  rw [hs1] at hoT
  have q0 : w4.cell? ⟨w2.heap.size + 1, 0, none⟩ = some (.slice none 0 0) := by
    rw [B1.cell (p := ⟨w2.heap.size + 1, 0, none⟩) (by rw [hs2]; dsimp only; omega)]; simp only [World.cell?, hoT]; simp
  have q1 : w4.cell? ⟨w2.heap.size + 1, 1, none⟩ = some (.int .i64 ((k : Int) + 1)) := by
    rw [B1.cell (p := ⟨w2.heap.size + 1, 1, none⟩) (by rw [hs2]; dsimp only; omega)]; simp only [World.cell?, hoT]; simp
  have fq : w4.frozen? ⟨w2.heap.size + 1, 0, none⟩ = false := by
    rw [B1.frozen (p := ⟨w2.heap.size + 1, 0, none⟩) (by rw [hs2]; dsimp only; omega)]; simp only [World.frozen?, hoT]; simp
  have fq1 : w4.frozen? ⟨w2.heap.size + 1, 1, none⟩ = false := by
    rw [B1.frozen (p := ⟨w2.heap.size + 1, 1, none⟩) (by rw [hs2]; dsimp only; omega)]; simp only [World.frozen?, hoT]; simp
  have E4 := E.trans (EA.mono E.size)
  have b3 := Bx3.of (E5.trans (E4.mono E5.size))
  clear t0 t1
  obtain ⟨⟨t0, t1⟩, ⟨l0, l1⟩, ⟨a0, a1', a2, a3, a4⟩, fl, fa, hsz4, B4⟩ := b3
  have h5 := (Bx5.of E).size
  have g1' : w.heap.size < w4.heap.size := by omega
  have g2' : w.heap.size + 1 < w4.heap.size := by omega
  have g3' : w.heap.size + 1 + 1 < w4.heap.size := by omega
  have g4' : w2.heap.size < w4.heap.size := by omega
  have g5' : w2.heap.size + 1 < w4.heap.size := by omega
  have g6' : bk b < w4.heap.size := by omega
  have e1' : w.heap.size < w2.heap.size + 1 := by omega
  have e2' : w.heap.size + 1 < w2.heap.size + 1 := by omega
  have e3' : bk b < w2.heap.size + 1 := by omega
  have k00 : w.heap.size < w4.heap.size + 1 := by omega
  have k01 : w.heap.size < w4.heap.size + 1 + 1 := by omega
  have k10 : w.heap.size + 1 < w4.heap.size + 1 := by omega
  have k11 : w.heap.size + 1 < w4.heap.size + 1 + 1 := by omega
  have k20 : w.heap.size + 1 + 1 < w4.heap.size + 1 := by omega
  have k21 : w.heap.size + 1 + 1 < w4.heap.size + 1 + 1 := by omega
  have k30 : w2.heap.size < w4.heap.size + 1 := by omega
  have k31 : w2.heap.size < w4.heap.size + 1 + 1 := by omega
  have k40 : w2.heap.size + 1 < w4.heap.size + 1 := by omega
  have k41 : w2.heap.size + 1 < w4.heap.size + 1 + 1 := by omega
  have k50 : bk b < w4.heap.size + 1 := by omega
  have k51 : bk b < w4.heap.size + 1 + 1 := by omega
  have hn4 : a1 ≠ none := Own.some T (by omega)
  have hb4 := Own.lt T hn4
  have hO1 : a1 = none ∨ bk a1 ≠ w.heap.size + 1 := .inr (by omega)
  have hO2 : a1 = none ∨ bk a1 ≠ w.heap.size + 1 + 1 := .inr (by omega)
  have hO3 : a1 = none ∨ bk a1 ≠ w2.heap.size + 1 := .inr (by omega)
  have TT := hid (Own.mono T (show w.heap.size ≤ w2.heap.size + 2 by omega))
  have hl3 : l.length = 32 := (OwnV.len T).symm
  obtain ⟨⟨g00, g01⟩, ⟨h00, h01, h02, h03, h04⟩, hsz5⟩ := Bx5.of (E.trans ((A4.trans (B1.mono A4.size)).mono E.size))
  have g33' : w.heap.size + 3 < w4.heap.size := by omega
  have g34' : w.heap.size + 4 < w4.heap.size := by omega
  have e33' : w.heap.size + 3 < w2.heap.size + 1 := by omega
  have e34' : w.heap.size + 4 < w2.heap.size + 1 := by omega
  have k33 : w.heap.size + 3 < w4.heap.size + 1 := by omega
  have k34 : w.heap.size + 4 < w4.heap.size + 1 := by omega
  have k33' : w.heap.size + 3 < w4.heap.size + 1 + 1 := by omega
  have k34' : w.heap.size + 4 < w4.heap.size + 1 + 1 := by omega
  clear p0 p1 p2 p3 p4 p5 p6 p7 I2 V2 oA o1 g1 on hVa A2 A3 A4 T B1 EA E4 E bx4 V4 hoT
  go_wp2_with fail
  refine (RM.out _).mono ?_
  rintro e w5 ⟨rfl, E6⟩
  have hsS : (w4.setCell ⟨w2.heap.size + 1, 0, none⟩ (.slice a1 32 c1)).heap.size = w4.heap.size := by simp
  have P1 := al (w4.setCell ⟨w2.heap.size + 1, 0, none⟩ (.slice a1 32 c1)) (mkV va)
  have P2 := bel_alloc P1 (mkV ⟨vb.loc, vb.n⟩)
  have P3 := bel_alloc P2 (.cells #[.int .i64 1, .string ⟨#[]⟩, .int .i64 0, .int .i64 0, .int .i64 0] 45)
  have B5 := ext_trans P3 E6
  have hA := heap_alloc_new (((w4.setCell ⟨w2.heap.size + 1, 0, none⟩ (.slice a1 32 c1)).alloc (mkV va)).alloc (mkV ⟨vb.loc, vb.n⟩)) (.cells #[.int .i64 1, .string ⟨#[]⟩, .int .i64 0, .int .i64 0, .int .i64 0] 45)
  have hs3 : (((w4.setCell ⟨w2.heap.size + 1, 0, none⟩ (.slice a1 32 c1)).alloc (mkV va)).alloc (mkV ⟨vb.loc, vb.n⟩)).heap.size = w4.heap.size + 1 + 1 := by simp
  rw [hs3] at hA
  have hs5 : w4.heap.size + 3 ≤ w5.heap.size := by have h := E6.size; simp at h; omega
  have EA6 : ∀ j, w5.cell? ⟨w4.heap.size + 1 + 1, j, none⟩ = ((((w4.setCell ⟨w2.heap.size + 1, 0, none⟩ (.slice a1 32 c1)).alloc (mkV va)).alloc (mkV ⟨vb.loc, vb.n⟩)).alloc (.cells #[.int .i64 1, .string ⟨#[]⟩, .int .i64 0, .int .i64 0, .int .i64 0] 45)).cell? ⟨w4.heap.size + 1 + 1, j, none⟩ := fun j => E6.cell (p := ⟨w4.heap.size + 1 + 1, j, none⟩) (by simp)
  have act5 : w5.cell? ⟨w4.heap.size + 1 + 1, 0, none⟩ = some (.int .i64 1) ∧ w5.cell? ⟨w4.heap.size + 1 + 1, 1, none⟩ = some (.string ⟨#[]⟩) ∧ w5.cell? ⟨w4.heap.size + 1 + 1, 2, none⟩ = some (.int .i64 0) ∧ w5.cell? ⟨w4.heap.size + 1 + 1, 3, none⟩ = some (.int .i64 0) ∧ w5.cell? ⟨w4.heap.size + 1 + 1, 4, none⟩ = some (.int .i64 0) := by
    refine ⟨?_, ?_, ?_, ?_, ?_⟩ <;> (rw [EA6]; simp only [World.cell?, hA]; simp)
  have C5 : ∀ p : Addr, p.block < w4.heap.size → p.block ≠ w2.heap.size + 1 → w5.cell? p = w4.cell? p := fun p h1 h2 => (B5.cell (p := p) (by rw [hsS]; exact h1)).trans (World.cell?_of_block (Below.heap_setCell _ _ _ _ h2))
  have F5 : ∀ p : Addr, p.block < w4.heap.size → p.block ≠ w2.heap.size + 1 → w5.frozen? p = w4.frozen? p := fun p h1 h2 => (B5.frozen (p := p) (by rw [hsS]; exact h1)).trans (World.frozen?_of_block (Below.heap_setCell _ _ _ _ h2))
  have q0' : w5.cell? ⟨w2.heap.size + 1, 0, none⟩ = some (.slice a1 32 c1) := by rw [B5.cell (p := ⟨w2.heap.size + 1, 0, none⟩) (by rw [hsS]; exact g5')]; exact World.cell?_setCell_same w4 _ _ q0
  have q1' : w5.cell? ⟨w2.heap.size + 1, 1, none⟩ = some (.int .i64 ((k : Int) + 1)) := (B5.cell (p := ⟨w2.heap.size + 1, 1, none⟩) (by rw [hsS]; exact g5')).trans ((World.cell?_setCell_other w4 ⟨w2.heap.size + 1, 0, none⟩ ⟨w2.heap.size + 1, 1, none⟩ _ (by simp)).trans q1)
  have TT5 := Own.below (own_other (v := .slice a1 32 c1) (j := 0) TT.out hO3) B5
  have EX : Below w.heap.size w w5 := (bel_set (p := ⟨w2.heap.size + 1, 0, none⟩) B4 (by dsimp only; omega) (.slice a1 32 c1)).trans (B5.mono (by rw [hsS]; exact B4.size))
  replace j0 := (C5 ⟨w2.heap.size, 0, none⟩ g4' (by dsimp only; omega)).trans j0
  replace j1 := (C5 ⟨w2.heap.size, 1, none⟩ g4' (by dsimp only; omega)).trans j1
  replace j2 := (C5 ⟨w2.heap.size, 2, none⟩ g4' (by dsimp only; omega)).trans j2
  replace j3 := (C5 ⟨w2.heap.size, 3, none⟩ g4' (by dsimp only; omega)).trans j3
  replace l0 := (C5 ⟨w.heap.size + 1, 0, none⟩ g2' (by dsimp only; omega)).trans l0
  replace l1 := (C5 ⟨w.heap.size + 1, 1, none⟩ g2' (by dsimp only; omega)).trans l1
  replace a0 := (C5 ⟨w.heap.size + 2, 0, none⟩ g3' (by dsimp only; omega)).trans a0
  replace a1' := (C5 ⟨w.heap.size + 2, 1, none⟩ g3' (by dsimp only; omega)).trans a1'
  replace a2 := (C5 ⟨w.heap.size + 2, 2, none⟩ g3' (by dsimp only; omega)).trans a2
  replace a3 := (C5 ⟨w.heap.size + 2, 3, none⟩ g3' (by dsimp only; omega)).trans a3
  replace a4 := (C5 ⟨w.heap.size + 2, 4, none⟩ g3' (by dsimp only; omega)).trans a4
  replace fl := fun j => (F5 ⟨w.heap.size + 1, j, none⟩ g2' (by dsimp only; omega)).trans (fl j)
  replace fa := fun j => (F5 ⟨w.heap.size + 2, j, none⟩ g3' (by dsimp only; omega)).trans (fa j)
  replace g00 := (C5 ⟨w.heap.size + 3, 0, none⟩ g33' (by dsimp only; omega)).trans g00
  replace g01 := (C5 ⟨w.heap.size + 3, 1, none⟩ g33' (by dsimp only; omega)).trans g01
  replace h00 := (C5 ⟨w.heap.size + 4, 0, none⟩ g34' (by dsimp only; omega)).trans h00
  replace h01 := (C5 ⟨w.heap.size + 4, 1, none⟩ g34' (by dsimp only; omega)).trans h01
  replace h02 := (C5 ⟨w.heap.size + 4, 2, none⟩ g34' (by dsimp only; omega)).trans h02
  replace h03 := (C5 ⟨w.heap.size + 4, 3, none⟩ g34' (by dsimp only; omega)).trans h03
  replace h04 := (C5 ⟨w.heap.size + 4, 4, none⟩ g34' (by dsimp only; omega)).trans h04
  obtain ⟨ac0', ac1', ac2', ac3', ac4'⟩ := act5
  have r1 : w2.heap.size < w5.heap.size := by omega
  have r2 : w2.heap.size + 1 < w5.heap.size := by omega
  have r3 : w.heap.size + 1 < w5.heap.size := by omega
  have r4 : w.heap.size + 1 + 1 < w5.heap.size := by omega
  have r4' : w.heap.size + 2 < w5.heap.size := by omega
  have r5 : w.heap.size + 3 < w5.heap.size := by omega
  have r6 : w.heap.size + 4 < w5.heap.size := by omega
  have r7 : w4.heap.size + 1 + 1 < w5.heap.size := by omega
  have r8 : bk a1 < w5.heap.size := by omega
  clear TT q0 q1 fq fq1 E6 P1 P2 P3 B5 hA hs3 hsS EA6 C5 F5 x0 x1 y0 y1 j4 j5 j6 j7 t0 t1 B4 RM ixa ixb
  have B4 := EX
  have TT := hid TT5
  clear TT5 EX
  go_wp2_with fail
  go_region
  all_goals
    go_wp2_with fail
    exact bodyPost_ret (by simp [results, Tryz.results26, go_sem, l0, l1, a0, a1', a2, a3, a4, r3, r4, ac1, tx_nil]) rfl (RetDo.yes (a := a1) (n := 32) (c := c1) HRR.out rfl hl3 (by repeat (first | with_reducible exact TT.out | with_reducible refine own_other ?_ hO1 | with_reducible refine own_other ?_ hO2 | with_reducible refine own_other ?_ hO3 | with_reducible refine own_drew ?_ | with_reducible refine own_alloc ?_ _)) (by repeat (first | with_reducible assumption | with_reducible exact Below.refl _ _ | with_reducible refine bel_alloc ?_ _ | with_reducible refine bel_drew ?_ | with_reducible refine bel_set ?_ (by dsimp only; omega) _)))
set_option maxRecDepth 100000 in
set_option maxHeartbeats 12800000 in
theorem refDo_m9sn (code : List Ins) (a : Option Addr) (c : Nat) (l : List Vl) (b : Option Addr) (cb : Nat) (hL : ∀ i ∈ code, i.label.length ≤ 9223372036854775807) (hs : SmV l) (he : (linksV code).2.1 = 0) (w : World) (hI : Is w a code) (hV : Vs w b l) (k : Nat) (hr : readyV code.length l k = true) (i : Ins) (va vb : Vl) (lab : Int)
    (hi : code[k]? = some i) (hci : checkI i = true) (hva : l[i.a.toNat]? = some va) (hvb : l[i.b.toNat]? = some vb) (hlab : (linksV code).1[k]? = some lab) (hma : n32 va.n) (hmb : n32 vb.n) (hl32 : l.length = 32) (hk1 : k < 1000) (r : DoR) (hop : i.op = 9) (hab : i.a = i.b) (v : Vl) (hv0 : v = vl0) (m : Option Vl) (hm : mixV 9 va vb = m) (hdn : i.d ≠ 0) (hrr : r = ⟨l.set i.d.toNat v, (k : Int) + 1, ac1, 0⟩) :
    Calls Tryz.prog 26 #[.slice a code.length c, .agg #[.slice b l.length cb, .int .i64 k]] w (RetDo r w) := by
  have HOP := hid hop; have HRR := hid hrr
  have z6 : (i.op == 6) = false := by rw [hop]; rfl
  have z7 : (i.op == 7) = false := by rw [hop]; rfl
  have z8 : (i.op == 8) = false := by rw [hop]; rfl
  have z9 : (i.op == 9) = true := by rw [hop]; rfl
  have z10 : (i.op == 10) = false := by rw [hop]; rfl
  have z11 : (i.op == 11) = false := by rw [hop]; rfl
  have z13 : (i.op == 13) = false := by rw [hop]; rfl
  have zab : (i.a == i.b) = true := by rw [hab]; simp
  have zd : (i.d != 0) = true := by simpa using hdn
  have zd2 : (i.d == 0) = false := by simpa using hdn
  have RM := hid (fun (w : World) => (show Calls Tryz.prog 58 #[.int .i64 i.op, .agg #[.string (tx va.loc), .int .i64 va.n], .agg #[.string (tx vb.loc), .int .i64 vb.n]] w (fun e w' => e = .returned (.tuple #[vV (m.getD vl0), .bool m.isSome]) ∧ Below w.heap.size w w') from by
    have h := refMix i.op (by omega) va vb hma hmb w
    rw [show mixV i.op va vb = m by rw [hop]; exact hm] at h
    exact h))
  have HV0 := hid hv0
  clear hop hrr hab hdn hm
  have PL := fun (w : World) (hI : Is w a code) => refLinks code a c hL w hI
  have E0 := Below.refl (W5 w b l.length cb k).heap.size (W5 w b l.length cb k)
  have I3 := hI.below (Bx3.of ((W5.three w b l.length cb k).trans (E0.mono (W5.three w b l.length cb k).size))).bel
  have RD := fun (w : World) (hV : Vs w b l) => refIsThread code.length l b cb k w hV hs
  rw [hr] at RD
  obtain ⟨-, -, hd, hA, hBb⟩ := checkI_spec hci
  obtain ⟨ka, hka, hia⟩ := regB_nat hA
  obtain ⟨kb, hkb, hib⟩ := regB_nat hBb
  rw [hia] at hva; rw [hib] at hvb
  have hva : l[ka]? = some va := hva
  have hvb : l[kb]? = some vb := hvb
  have HV := hid hV
  have ixa := hV.idx ka (by omega)
  have ixb := hV.idx kb (by omega)
  have ixc := hI.idx k (List.getElem?_eq_some_iff.1 hi).1
  have HI := hid hI
  obtain ⟨⟨L, x, y⟩, hrl⟩ : ∃ r, linksV code = r := ⟨_, rfl⟩
  rw [hrl] at PL he hlab
  obtain rfl : x = 0 := he
  have hlab : L[k]? = some lab := hlab
  have PL := hid (show ∀ (w : World), Is w a code → Calls Tryz.prog 18 #[.slice a code.length c] w (RetL4 L 0 y w) from PL)
  have hrow : (valsC l).length = 32 * 2 := by rw [valsC_length, hl32]
  rw [hl32] at RD E0 I3 ixa ixb ⊢
  have RD := hid RD
  have HCI := hid hci; have HIC := hid hi; have HVA := hid hva; have HVB := hid hvb; have HLAB := hid hlab
  have ixa : ∀ c w', (Instr.indexAt 40 (.slice b 32 c) (.int .i64 i.a)).run Tryz.prog w' = .ok (.pointer (some ⟨bk b, fo b + ka * 2, none⟩)) w' := by rw [hia]; exact ixa
  have ixb : ∀ c w', (Instr.indexAt 40 (.slice b 32 c) (.int .i64 i.b)).run Tryz.prog w' = .ok (.pointer (some ⟨bk b, fo b + kb * 2, none⟩)) w' := by rw [hib]; exact ixb
  clear hrl hI hL hr hs hV hi hci hva hvb hlab hia hib hA hBb hl32
  generalize code.length = n at *
  have E5 := W5.three w b 32 cb k
  go_enter Tryz.func26, Tryz.ntmps26
  go_wp2_with fail
  refine (PL.out _ I3).mono ?_
  rintro e w1 ⟨aA, cA, rfl, oA, E⟩
  obtain ⟨⟨t0, t1⟩, -, -, -, -, hsz, B⟩ := Bx3.of (E5.trans (E.mono E5.size))
  have V1 := HV.out.below B
  clear I3 E0
  go_wp2_with fail
  refine (RD.out _ V1).mono ?_
  rintro e w2 ⟨rfl, E2⟩
  have oA := Own.below oA E2
  have E := E.trans (E2.mono E.size)
  clear t0 t1 hsz B V1
  obtain ⟨⟨t0, t1⟩, -, -, -, -, hsz, B⟩ := Bx3.of (E5.trans (E.mono E5.size))
  have I2 := HI.out.below B
  have V2 := HV.out.below B
  obtain ⟨p0, p1, p2, p3, p4, p5, p6, p7⟩ := I2.cells HIC.out
  have hlt := I2.lt (List.getElem?_eq_some_iff.1 HIC.out).1
  have hltb := V2.lt (List.getElem?_eq_some_iff.1 HVA.out).1
  have A2 := al w2 (mkI i)
  have A3 := al (w2.alloc (mkI i)) (oT ((k : Int) + 1))
  have A4 := ext_trans A2 A3
  have hlt0 : w.heap.size < w2.heap.size := by omega
  have hs2 : ((w2.alloc (mkI i)).alloc (oT ((k : Int) + 1))).heap.size = w2.heap.size + 2 := by simp
  have hVa := V2.below A4
  have hw : IntKind.i64.wrap ((k : Int) + 1) = (k : Int) + 1 := IntWalk.i64_in _ (by omega)
  have on := (Own.nil ((w2.alloc (mkI i)).alloc (oT ((k : Int) + 1))) ((w2.alloc (mkI i)).alloc (oT ((k : Int) + 1))).heap.size 50 2)
  go_wp2_with (at_builtin; go_loud (refine wpList_app vsl (.tmp 47) (.tmp 49) rfl rfl rfl on rfl hVa.row hrow (valsC_oneCell _) (Below.refl _ _) (Nat.le_refl _) (by omega) (by unfold maxLen; omega) ?_))
  intro a1 c1 w4 o1 g1 B1
  have T : OwnV w4 ((w2.alloc (mkI i)).alloc (oT ((k : Int) + 1))).heap.size a1 32 c1 l := by simpa [OwnV] using o1
  have T : OwnV w4 (w2.heap.size + 2) a1 32 c1 l := by rw [← hs2]; exact T
  have B1 : Below ((w2.alloc (mkI i)).alloc (oT ((k : Int) + 1))).heap.size ((w2.alloc (mkI i)).alloc (oT ((k : Int) + 1))) w4 := by rw [hs2]; exact B1
  have hwp : w2.heap.size + 2 ≤ w4.heap.size := by have := B1.size; rw [hs2] at this; exact this
  have EA := A4.trans (B1.mono A4.size)
  have bx4 := ((BxI.new w2 i).below A3).below B1
  obtain ⟨j0, j1, j2, j3, j4, j5, j6, j7⟩ := bx4.cells
  have V4 := hVa.below B1
  obtain ⟨x0, x1⟩ := V4.cells HVA.out
  obtain ⟨y0, y1⟩ := V4.cells HVB.out
  have hoT := heap_alloc_new (w2.alloc (mkI i)) (oT ((k : Int) + 1))
  have hs1 : (w2.alloc (mkI i)).heap.size = w2.heap.size + 1 := by simp
  rw [hs1] at hoT
  have q0 : w4.cell? ⟨w2.heap.size + 1, 0, none⟩ = some (.slice none 0 0) := by
    rw [B1.cell (p := ⟨w2.heap.size + 1, 0, none⟩) (by rw [hs2]; dsimp only; omega)]; simp only [World.cell?, hoT]; simp
  have q1 : w4.cell? ⟨w2.heap.size + 1, 1, none⟩ = some (.int .i64 ((k : Int) + 1)) := by
    rw [B1.cell (p := ⟨w2.heap.size + 1, 1, none⟩) (by rw [hs2]; dsimp only; omega)]; simp only [World.cell?, hoT]; simp
  have fq : w4.frozen? ⟨w2.heap.size + 1, 0, none⟩ = false := by
    rw [B1.frozen (p := ⟨w2.heap.size + 1, 0, none⟩) (by rw [hs2]; dsimp only; omega)]; simp only [World.frozen?, hoT]; simp
  have fq1 : w4.frozen? ⟨w2.heap.size + 1, 1, none⟩ = false := by
    rw [B1.frozen (p := ⟨w2.heap.size + 1, 1, none⟩) (by rw [hs2]; dsimp only; omega)]; simp only [World.frozen?, hoT]; simp
  have E4 := E.trans (EA.mono E.size)
  have b3 := Bx3.of (E5.trans (E4.mono E5.size))
  clear t0 t1
  obtain ⟨⟨t0, t1⟩, ⟨l0, l1⟩, ⟨a0, a1', a2, a3, a4⟩, fl, fa, hsz4, B4⟩ := b3
  have h5 := (Bx5.of E).size
  have g1' : w.heap.size < w4.heap.size := by omega
  have g2' : w.heap.size + 1 < w4.heap.size := by omega
  have g3' : w.heap.size + 1 + 1 < w4.heap.size := by omega
  have g4' : w2.heap.size < w4.heap.size := by omega
  have g5' : w2.heap.size + 1 < w4.heap.size := by omega
  have g6' : bk b < w4.heap.size := by omega
  have e1' : w.heap.size < w2.heap.size + 1 := by omega
  have e2' : w.heap.size + 1 < w2.heap.size + 1 := by omega
  have e3' : bk b < w2.heap.size + 1 := by omega
  have k00 : w.heap.size < w4.heap.size + 1 := by omega
  have k01 : w.heap.size < w4.heap.size + 1 + 1 := by omega
  have k10 : w.heap.size + 1 < w4.heap.size + 1 := by omega
  have k11 : w.heap.size + 1 < w4.heap.size + 1 + 1 := by omega
  have k20 : w.heap.size + 1 + 1 < w4.heap.size + 1 := by omega
  have k21 : w.heap.size + 1 + 1 < w4.heap.size + 1 + 1 := by omega
  have k30 : w2.heap.size < w4.heap.size + 1 := by omega
  have k31 : w2.heap.size < w4.heap.size + 1 + 1 := by omega
  have k40 : w2.heap.size + 1 < w4.heap.size + 1 := by omega
  have k41 : w2.heap.size + 1 < w4.heap.size + 1 + 1 := by omega
  have k50 : bk b < w4.heap.size + 1 := by omega
  have k51 : bk b < w4.heap.size + 1 + 1 := by omega
  have hn4 : a1 ≠ none := Own.some T (by omega)
  have hb4 := Own.lt T hn4
  have hO1 : a1 = none ∨ bk a1 ≠ w.heap.size + 1 := .inr (by omega)
  have hO2 : a1 = none ∨ bk a1 ≠ w.heap.size + 1 + 1 := .inr (by omega)
  have hO3 : a1 = none ∨ bk a1 ≠ w2.heap.size + 1 := .inr (by omega)
  have TT := hid (Own.mono T (show w.heap.size ≤ w2.heap.size + 2 by omega))
  have hl3 : l.length = 32 := (OwnV.len T).symm
  obtain ⟨⟨g00, g01⟩, ⟨h00, h01, h02, h03, h04⟩, hsz5⟩ := Bx5.of (E.trans ((A4.trans (B1.mono A4.size)).mono E.size))
  have g33' : w.heap.size + 3 < w4.heap.size := by omega
  have g34' : w.heap.size + 4 < w4.heap.size := by omega
  have e33' : w.heap.size + 3 < w2.heap.size + 1 := by omega
  have e34' : w.heap.size + 4 < w2.heap.size + 1 := by omega
  have k33 : w.heap.size + 3 < w4.heap.size + 1 := by omega
  have k34 : w.heap.size + 4 < w4.heap.size + 1 := by omega
  have k33' : w.heap.size + 3 < w4.heap.size + 1 + 1 := by omega
  have k34' : w.heap.size + 4 < w4.heap.size + 1 + 1 := by omega
  clear p0 p1 p2 p3 p4 p5 p6 p7 I2 V2 oA o1 g1 on hVa A2 A3 A4 T B1 EA E4 E bx4 V4 hoT
  go_wp2_with fail
  refine (RM.out _).mono ?_
  rintro e w5 ⟨rfl, E6⟩
  have hsS : (w4.setCell ⟨w2.heap.size + 1, 0, none⟩ (.slice a1 32 c1)).heap.size = w4.heap.size := by simp
  have P1 := al (w4.setCell ⟨w2.heap.size + 1, 0, none⟩ (.slice a1 32 c1)) (mkV va)
  have P2 := bel_alloc P1 (mkV ⟨vb.loc, vb.n⟩)
  have P3 := bel_alloc P2 (.cells #[.int .i64 1, .string ⟨#[]⟩, .int .i64 0, .int .i64 0, .int .i64 0] 45)
  have B5 := ext_trans P3 E6
  have hA := heap_alloc_new (((w4.setCell ⟨w2.heap.size + 1, 0, none⟩ (.slice a1 32 c1)).alloc (mkV va)).alloc (mkV ⟨vb.loc, vb.n⟩)) (.cells #[.int .i64 1, .string ⟨#[]⟩, .int .i64 0, .int .i64 0, .int .i64 0] 45)
  have hs3 : (((w4.setCell ⟨w2.heap.size + 1, 0, none⟩ (.slice a1 32 c1)).alloc (mkV va)).alloc (mkV ⟨vb.loc, vb.n⟩)).heap.size = w4.heap.size + 1 + 1 := by simp
  rw [hs3] at hA
  have hs5 : w4.heap.size + 3 ≤ w5.heap.size := by have h := E6.size; simp at h; omega
  have EA6 : ∀ j, w5.cell? ⟨w4.heap.size + 1 + 1, j, none⟩ = ((((w4.setCell ⟨w2.heap.size + 1, 0, none⟩ (.slice a1 32 c1)).alloc (mkV va)).alloc (mkV ⟨vb.loc, vb.n⟩)).alloc (.cells #[.int .i64 1, .string ⟨#[]⟩, .int .i64 0, .int .i64 0, .int .i64 0] 45)).cell? ⟨w4.heap.size + 1 + 1, j, none⟩ := fun j => E6.cell (p := ⟨w4.heap.size + 1 + 1, j, none⟩) (by simp)
  have act5 : w5.cell? ⟨w4.heap.size + 1 + 1, 0, none⟩ = some (.int .i64 1) ∧ w5.cell? ⟨w4.heap.size + 1 + 1, 1, none⟩ = some (.string ⟨#[]⟩) ∧ w5.cell? ⟨w4.heap.size + 1 + 1, 2, none⟩ = some (.int .i64 0) ∧ w5.cell? ⟨w4.heap.size + 1 + 1, 3, none⟩ = some (.int .i64 0) ∧ w5.cell? ⟨w4.heap.size + 1 + 1, 4, none⟩ = some (.int .i64 0) := by
    refine ⟨?_, ?_, ?_, ?_, ?_⟩ <;> (rw [EA6]; simp only [World.cell?, hA]; simp)
  have C5 : ∀ p : Addr, p.block < w4.heap.size → p.block ≠ w2.heap.size + 1 → w5.cell? p = w4.cell? p := fun p h1 h2 => (B5.cell (p := p) (by rw [hsS]; exact h1)).trans (World.cell?_of_block (Below.heap_setCell _ _ _ _ h2))
  have F5 : ∀ p : Addr, p.block < w4.heap.size → p.block ≠ w2.heap.size + 1 → w5.frozen? p = w4.frozen? p := fun p h1 h2 => (B5.frozen (p := p) (by rw [hsS]; exact h1)).trans (World.frozen?_of_block (Below.heap_setCell _ _ _ _ h2))
  have q0' : w5.cell? ⟨w2.heap.size + 1, 0, none⟩ = some (.slice a1 32 c1) := by rw [B5.cell (p := ⟨w2.heap.size + 1, 0, none⟩) (by rw [hsS]; exact g5')]; exact World.cell?_setCell_same w4 _ _ q0
  have q1' : w5.cell? ⟨w2.heap.size + 1, 1, none⟩ = some (.int .i64 ((k : Int) + 1)) := (B5.cell (p := ⟨w2.heap.size + 1, 1, none⟩) (by rw [hsS]; exact g5')).trans ((World.cell?_setCell_other w4 ⟨w2.heap.size + 1, 0, none⟩ ⟨w2.heap.size + 1, 1, none⟩ _ (by simp)).trans q1)
  have TT5 := Own.below (own_other (v := .slice a1 32 c1) (j := 0) TT.out hO3) B5
  have EX : Below w.heap.size w w5 := (bel_set (p := ⟨w2.heap.size + 1, 0, none⟩) B4 (by dsimp only; omega) (.slice a1 32 c1)).trans (B5.mono (by rw [hsS]; exact B4.size))
  replace j0 := (C5 ⟨w2.heap.size, 0, none⟩ g4' (by dsimp only; omega)).trans j0
  replace j1 := (C5 ⟨w2.heap.size, 1, none⟩ g4' (by dsimp only; omega)).trans j1
  replace j2 := (C5 ⟨w2.heap.size, 2, none⟩ g4' (by dsimp only; omega)).trans j2
  replace j3 := (C5 ⟨w2.heap.size, 3, none⟩ g4' (by dsimp only; omega)).trans j3
  replace l0 := (C5 ⟨w.heap.size + 1, 0, none⟩ g2' (by dsimp only; omega)).trans l0
  replace l1 := (C5 ⟨w.heap.size + 1, 1, none⟩ g2' (by dsimp only; omega)).trans l1
  replace a0 := (C5 ⟨w.heap.size + 2, 0, none⟩ g3' (by dsimp only; omega)).trans a0
  replace a1' := (C5 ⟨w.heap.size + 2, 1, none⟩ g3' (by dsimp only; omega)).trans a1'
  replace a2 := (C5 ⟨w.heap.size + 2, 2, none⟩ g3' (by dsimp only; omega)).trans a2
  replace a3 := (C5 ⟨w.heap.size + 2, 3, none⟩ g3' (by dsimp only; omega)).trans a3
  replace a4 := (C5 ⟨w.heap.size + 2, 4, none⟩ g3' (by dsimp only; omega)).trans a4
  replace fl := fun j => (F5 ⟨w.heap.size + 1, j, none⟩ g2' (by dsimp only; omega)).trans (fl j)
  replace fa := fun j => (F5 ⟨w.heap.size + 2, j, none⟩ g3' (by dsimp only; omega)).trans (fa j)
  replace g00 := (C5 ⟨w.heap.size + 3, 0, none⟩ g33' (by dsimp only; omega)).trans g00
  replace g01 := (C5 ⟨w.heap.size + 3, 1, none⟩ g33' (by dsimp only; omega)).trans g01
  replace h00 := (C5 ⟨w.heap.size + 4, 0, none⟩ g34' (by dsimp only; omega)).trans h00
  replace h01 := (C5 ⟨w.heap.size + 4, 1, none⟩ g34' (by dsimp only; omega)).trans h01
  replace h02 := (C5 ⟨w.heap.size + 4, 2, none⟩ g34' (by dsimp only; omega)).trans h02
  replace h03 := (C5 ⟨w.heap.size + 4, 3, none⟩ g34' (by dsimp only; omega)).trans h03
  replace h04 := (C5 ⟨w.heap.size + 4, 4, none⟩ g34' (by dsimp only; omega)).trans h04
  obtain ⟨ac0', ac1', ac2', ac3', ac4'⟩ := act5
  have r1 : w2.heap.size < w5.heap.size := by omega
  have r2 : w2.heap.size + 1 < w5.heap.size := by omega
  have r3 : w.heap.size + 1 < w5.heap.size := by omega
  have r4 : w.heap.size + 1 + 1 < w5.heap.size := by omega
  have r4' : w.heap.size + 2 < w5.heap.size := by omega
  have r5 : w.heap.size + 3 < w5.heap.size := by omega
  have r6 : w.heap.size + 4 < w5.heap.size := by omega
  have r7 : w4.heap.size + 1 + 1 < w5.heap.size := by omega
  have r8 : bk a1 < w5.heap.size := by omega
  clear TT q0 q1 fq fq1 E6 P1 P2 P3 B5 hA hs3 hsS EA6 C5 F5 x0 x1 y0 y1 j4 j5 j6 j7 t0 t1 B4 RM ixa ixb
  have B4 := EX
  obtain ⟨kd, hkd, hdd⟩ := regB_nat hd
  have ixd := (OwnV.vs TT5 (by omega)).idx kd (by omega)
  obtain ⟨vd, hvd⟩ : ∃ vd, l[kd]? = some vd := ⟨_, List.getElem?_eq_getElem (by omega)⟩
  obtain ⟨d0, d1⟩ := (OwnV.vs TT5 (by omega)).cells hvd
  have fd0 := Own.frozen TT5 hn4 (kd * 2)
  have fd1 := Own.frozen TT5 hn4 (kd * 2 + 1)
  rw [← Nat.add_assoc] at fd1
  rw [hl3] at ixd
  have ixd : ∀ c w', (Instr.indexAt 40 (.slice a1 32 c) (.int .i64 i.d)).run Tryz.prog w' = .ok (.pointer (some ⟨bk a1, fo a1 + kd * 2, none⟩)) w' := by rw [hdd]; exact ixd
  have hSr : l.set i.d.toNat v = l.set kd v := by rw [hdd]; rfl
  replace HRR := hid (show r = ⟨l.set kd v, (k : Int) + 1, ac1, 0⟩ by rw [HRR.out, hSr])
  replace hl3 : (l.set kd v).length = 32 := by simpa using hl3
  have TS := hid (show OwnV ((w5.setCell ⟨bk a1, fo a1 + kd * 2, none⟩ (.string ⟨#[]⟩)).setCell ⟨bk a1, fo a1 + kd * 2 + 1, none⟩ (.int .i64 0)) w.heap.size a1 32 c1 (l.set kd v) by rw [HV0.out]; exact (OwnV.set TT5 hn4 kd (by have := hl3; simp at this; omega) vl0).1)
  have s1 : w.heap.size + 1 < bk a1 := by omega
  have s2 : w.heap.size + 1 + 1 < bk a1 := by omega
  have s3 : w2.heap.size < bk a1 := by omega
  have s4 : w2.heap.size + 1 < bk a1 := by omega
  have s5 : bk a1 < w4.heap.size + 1 + 1 := by omega
  have s6 : w.heap.size ≤ bk a1 := by omega
  clear TT5 EX hSr hdd hvd
  go_wp2_with fail
  go_region
  all_goals
    go_wp2_with fail
    exact bodyPost_ret (by simp [results, Tryz.results26, go_sem, l0, l1, a0, a1', a2, a3, a4, r3, r4, ac1, tx_nil]) rfl (RetDo.yes (a := a1) (n := 32) (c := c1) HRR.out rfl hl3 (by repeat (first | with_reducible exact TS.out | with_reducible refine own_other ?_ hO1 | with_reducible refine own_other ?_ hO2 | with_reducible refine own_other ?_ hO3 | with_reducible refine own_drew ?_ | with_reducible refine own_alloc ?_ _)) (by repeat (first | with_reducible assumption | with_reducible exact Below.refl _ _ | with_reducible refine bel_alloc ?_ _ | with_reducible refine bel_drew ?_ | with_reducible refine bel_set ?_ (by dsimp only; omega) _)))
end Go.Proofs.YtigimkgmghjgoaaGreatDoor

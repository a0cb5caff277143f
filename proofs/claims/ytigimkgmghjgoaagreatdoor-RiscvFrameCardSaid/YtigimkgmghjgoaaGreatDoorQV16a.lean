/- The walk of Do (the document's answer), continued: what is refused, and a branch that leads elsewhere. Conditions: code and registers lie in memory as read; lengths that an int holds. -/
import Derived.Test.YtigimkgmghjgoaaGreatDoorQV14
namespace Go.Proofs.YtigimkgmghjgoaaGreatDoor
open Go.RowKit Go.MapKept Go.Maps
set_option linter.unusedVariables false

attribute [local go_sem high] eqI neqI eqV neqV
set_option maxRecDepth 100000 in
set_option maxHeartbeats 12800000 in
theorem refDo_lw_no (code : List Ins) (a : Option Addr) (c : Nat) (l : List Vl) (b : Option Addr) (cb : Nat) (hL : ∀ i ∈ code, i.label.length ≤ 9223372036854775807) (hs : SmV l) (he : (linksV code).2.1 = 0) (w : World) (hI : Is w a code) (hV : Vs w b l) (k : Nat) (hr : readyV code.length l k = true) (i : Ins) (va vb : Vl) (lab : Int)
    (hi : code[k]? = some i) (hci : checkI i = true) (hva : l[i.a.toNat]? = some va) (hvb : l[i.b.toNat]? = some vb) (hlab : (linksV code).1[k]? = some lab) (hma : n32 va.n) (hmb : n32 vb.n) (hl32 : l.length = 32) (hk1 : k < 1000) (r : DoR) (hop : i.op = 6) (hla : va.loc = []) (hrr : r = doE 92) :
    Calls Tryz.prog 26 #[.slice a code.length c, .agg #[.slice b l.length cb, .int .i64 k]] w (RetDo r w) := by
  have HOP := hid hop; have HRR := hid hrr
  have z6 : (i.op == 6) = true := by rw [hop]; rfl
  have z7 : (i.op == 7) = false := by rw [hop]; rfl
  have z8 : (i.op == 8) = false := by rw [hop]; rfl
  have z9 : (i.op == 9) = false := by rw [hop]; rfl
  have z10 : (i.op == 10) = false := by rw [hop]; rfl
  have z11 : (i.op == 11) = false := by rw [hop]; rfl
  have z13 : (i.op == 13) = false := by rw [hop]; rfl
  have zl : ((tx va.loc).toList == []) = true := by rw [tx_toList, hla]; rfl
  clear hop hrr hla
  have PL := fun (w : World) (hI : Is w a code) => refLinks code a c hL w hI
  have E0 := Below.refl (W5 w b l.length cb k).heap.size (W5 w b l.length cb k)
  have I3 := hI.below (Bx3.of ((W5.three w b l.length cb k).trans (E0.mono (W5.three w b l.length cb k).size))).bel
  have RD := fun (w : World) (hV : Vs w b l) => refIsThread code.length l b cb k w hV hs
  rw [hr] at RD
  obtain ⟨-, -, hd, hA, hBb⟩ := checkI_spec hci
  obtain ⟨ka, hka, hia⟩ := regB_nat hA
  obtain ⟨kb, hkb, hib⟩ := regB_nat hBb
  rw [hia] at hva; rw [hib] at hvb
  have hva : l[ka]? = some va := hva
  have hvb : l[kb]? = some vb := hvb
  have HV := hid hV
  have ixa := hV.idx ka (by omega)
  have ixb := hV.idx kb (by omega)
  have ixc := hI.idx k (List.getElem?_eq_some_iff.1 hi).1
  have HI := hid hI
  obtain ⟨⟨L, x, y⟩, hrl⟩ : ∃ r, linksV code = r := ⟨_, rfl⟩
  rw [hrl] at PL he hlab
  obtain rfl : x = 0 := he
  have hlab : L[k]? = some lab := hlab
  have PL := hid (show ∀ (w : World), Is w a code → Calls Tryz.prog 18 #[.slice a code.length c] w (RetL4 L 0 y w) from PL)
  have hrow : (valsC l).length = 32 * 2 := by rw [valsC_length, hl32]
  rw [hl32] at RD E0 I3 ixa ixb ⊢
  have RD := hid RD
  have HCI := hid hci; have HIC := hid hi; have HVA := hid hva; have HVB := hid hvb; have HLAB := hid hlab
  have ixa : ∀ c w', (Instr.indexAt 40 (.slice b 32 c) (.int .i64 i.a)).run Tryz.prog w' = .ok (.pointer (some ⟨bk b, fo b + ka * 2, none⟩)) w' := by rw [hia]; exact ixa
  have ixb : ∀ c w', (Instr.indexAt 40 (.slice b 32 c) (.int .i64 i.b)).run Tryz.prog w' = .ok (.pointer (some ⟨bk b, fo b + kb * 2, none⟩)) w' := by rw [hib]; exact ixb
  clear hrl hI hL hr hs hV hi hci hva hvb hlab hia hib hA hBb hl32
  generalize code.length = n at *
  have E5 := W5.three w b 32 cb k
  go_enter Tryz.func26, Tryz.ntmps26
  go_wp2_with fail
  refine (PL.out _ I3).mono ?_
  rintro e w1 ⟨aA, cA, rfl, oA, E⟩
  obtain ⟨⟨t0, t1⟩, -, -, -, -, hsz, B⟩ := Bx3.of (E5.trans (E.mono E5.size))
  have V1 := HV.out.below B
  clear I3 E0
  go_wp2_with fail
  refine (RD.out _ V1).mono ?_
  rintro e w2 ⟨rfl, E2⟩
  have oA := Own.below oA E2
  have E := E.trans (E2.mono E.size)
  clear t0 t1 hsz B V1
  obtain ⟨⟨t0, t1⟩, -, -, -, -, hsz, B⟩ := Bx3.of (E5.trans (E.mono E5.size))
  have I2 := HI.out.below B
  have V2 := HV.out.below B
  obtain ⟨p0, p1, p2, p3, p4, p5, p6, p7⟩ := I2.cells HIC.out
  have hlt := I2.lt (List.getElem?_eq_some_iff.1 HIC.out).1
  have hltb := V2.lt (List.getElem?_eq_some_iff.1 HVA.out).1
  have A2 := al w2 (mkI i)
  have A3 := al (w2.alloc (mkI i)) (oT ((k : Int) + 1))
  have A4 := ext_trans A2 A3
  have hlt0 : w.heap.size < w2.heap.size := by omega
  have hs2 : ((w2.alloc (mkI i)).alloc (oT ((k : Int) + 1))).heap.size = w2.heap.size + 2 := by simp
  have hVa := V2.below A4
  have hw : IntKind.i64.wrap ((k : Int) + 1) = (k : Int) + 1 := IntWalk.i64_in _ (by omega)
  have on := (Own.nil ((w2.alloc (mkI i)).alloc (oT ((k : Int) + 1))) ((w2.alloc (mkI i)).alloc (oT ((k : Int) + 1))).heap.size 50 2)
  go_wp2_with (at_builtin; go_loud (refine wpList_app vsl (.tmp 47) (.tmp 49) rfl rfl rfl on rfl hVa.row hrow (valsC_oneCell _) (Below.refl _ _) (Nat.le_refl _) (by omega) (by unfold maxLen; omega) ?_))
  intro a1 c1 w4 o1 g1 B1
  have T : OwnV w4 ((w2.alloc (mkI i)).alloc (oT ((k : Int) + 1))).heap.size a1 32 c1 l := by simpa [OwnV] using o1
  have T : OwnV w4 (w2.heap.size + 2) a1 32 c1 l := by rw [← hs2]; exact T
  have B1 : Below ((w2.alloc (mkI i)).alloc (oT ((k : Int) + 1))).heap.size ((w2.alloc (mkI i)).alloc (oT ((k : Int) + 1))) w4 := by rw [hs2]; exact B1
  have hwp : w2.heap.size + 2 ≤ w4.heap.size := by have := B1.size; rw [hs2] at this; exact this
  have EA := A4.trans (B1.mono A4.size)
  have bx4 := ((BxI.new w2 i).below A3).below B1
  obtain ⟨j0, j1, j2, j3, j4, j5, j6, j7⟩ := bx4.cells
  have V4 := hVa.below B1
  obtain ⟨x0, x1⟩ := V4.cells HVA.out
  obtain ⟨y0, y1⟩ := V4.cells HVB.out
  have hoT := heap_alloc_new (w2.alloc (mkI i)) (oT ((k : Int) + 1))
  have hs1 : (w2.alloc (mkI i)).heap.size = w2.heap.size + 1 := by simp
  rw [hs1] at hoT
  have q0 : w4.cell? ⟨w2.heap.size + 1, 0, none⟩ = some (.slice none 0 0) := by
    rw [B1.cell (p := ⟨w2.heap.size + 1, 0, none⟩) (by rw [hs2]; dsimp only; omega)]; simp only [World.cell?, hoT]; simp
  have q1 : w4.cell? ⟨w2.heap.size + 1, 1, none⟩ = some (.int .i64 ((k : Int) + 1)) := by
    rw [B1.cell (p := ⟨w2.heap.size + 1, 1, none⟩) (by rw [hs2]; dsimp only; omega)]; simp only [World.cell?, hoT]; simp
  have fq : w4.frozen? ⟨w2.heap.size + 1, 0, none⟩ = false := by
    rw [B1.frozen (p := ⟨w2.heap.size + 1, 0, none⟩) (by rw [hs2]; dsimp only; omega)]; simp only [World.frozen?, hoT]; simp
  have fq1 : w4.frozen? ⟨w2.heap.size + 1, 1, none⟩ = false := by
    rw [B1.frozen (p := ⟨w2.heap.size + 1, 1, none⟩) (by rw [hs2]; dsimp only; omega)]; simp only [World.frozen?, hoT]; simp
  have E4 := E.trans (EA.mono E.size)
  have b3 := Bx3.of (E5.trans (E4.mono E5.size))
  clear t0 t1
  obtain ⟨⟨t0, t1⟩, ⟨l0, l1⟩, ⟨a0, a1', a2, a3, a4⟩, fl, fa, hsz4, B4⟩ := b3
  have h5 := (Bx5.of E).size
  have g1' : w.heap.size < w4.heap.size := by omega
  have g2' : w.heap.size + 1 < w4.heap.size := by omega
  have g3' : w.heap.size + 1 + 1 < w4.heap.size := by omega
  have g4' : w2.heap.size < w4.heap.size := by omega
  have g5' : w2.heap.size + 1 < w4.heap.size := by omega
  have g6' : bk b < w4.heap.size := by omega
  have e1' : w.heap.size < w2.heap.size + 1 := by omega
  have e2' : w.heap.size + 1 < w2.heap.size + 1 := by omega
  have e3' : bk b < w2.heap.size + 1 := by omega
  have k00 : w.heap.size < w4.heap.size + 1 := by omega
  have k01 : w.heap.size < w4.heap.size + 1 + 1 := by omega
  have k10 : w.heap.size + 1 < w4.heap.size + 1 := by omega
  have k11 : w.heap.size + 1 < w4.heap.size + 1 + 1 := by omega
  have k20 : w.heap.size + 1 + 1 < w4.heap.size + 1 := by omega
  have k21 : w.heap.size + 1 + 1 < w4.heap.size + 1 + 1 := by omega
  have k30 : w2.heap.size < w4.heap.size + 1 := by omega
  have k31 : w2.heap.size < w4.heap.size + 1 + 1 := by omega
  have k40 : w2.heap.size + 1 < w4.heap.size + 1 := by omega
  have k41 : w2.heap.size + 1 < w4.heap.size + 1 + 1 := by omega
  have k50 : bk b < w4.heap.size + 1 := by omega
  have k51 : bk b < w4.heap.size + 1 + 1 := by omega
  have hn4 : a1 ≠ none := Own.some T (by omega)
  have hb4 := Own.lt T hn4
  have hO1 : a1 = none ∨ bk a1 ≠ w.heap.size + 1 := .inr (by omega)
  have hO2 : a1 = none ∨ bk a1 ≠ w.heap.size + 1 + 1 := .inr (by omega)
  have hO3 : a1 = none ∨ bk a1 ≠ w2.heap.size + 1 := .inr (by omega)
  have TT := hid (Own.mono T (show w.heap.size ≤ w2.heap.size + 2 by omega))
  have hl3 : l.length = 32 := (OwnV.len T).symm
  obtain ⟨⟨g00, g01⟩, ⟨h00, h01, h02, h03, h04⟩, hsz5⟩ := Bx5.of (E.trans ((A4.trans (B1.mono A4.size)).mono E.size))
  have g33' : w.heap.size + 3 < w4.heap.size := by omega
  have g34' : w.heap.size + 4 < w4.heap.size := by omega
  have e33' : w.heap.size + 3 < w2.heap.size + 1 := by omega
  have e34' : w.heap.size + 4 < w2.heap.size + 1 := by omega
  have k33 : w.heap.size + 3 < w4.heap.size + 1 := by omega
  have k34 : w.heap.size + 4 < w4.heap.size + 1 := by omega
  have k33' : w.heap.size + 3 < w4.heap.size + 1 + 1 := by omega
  have k34' : w.heap.size + 4 < w4.heap.size + 1 + 1 := by omega
  clear p0 p1 p2 p3 p4 p5 p6 p7 I2 V2 oA o1 g1 on hVa A2 A3 A4 T B1 EA E4 E bx4 V4 hoT
  go_wp2_with fail
  go_region
  all_goals
    go_wp2_with fail
    exact bodyPost_ret (by simp [results, Tryz.results26, go_sem, l0, l1, a0, a1', a2, a3, a4, g2', g3', k10, k11, k20, k21]) rfl (RetDo.err HRR.out rfl (by repeat (first | with_reducible assumption | with_reducible exact Below.refl _ _ | with_reducible refine bel_alloc ?_ _ | with_reducible refine bel_drew ?_ | with_reducible refine bel_set ?_ (by dsimp only; omega) _)))
set_option maxRecDepth 100000 in
set_option maxHeartbeats 12800000 in
theorem refDo_sw_no (code : List Ins) (a : Option Addr) (c : Nat) (l : List Vl) (b : Option Addr) (cb : Nat) (hL : ∀ i ∈ code, i.label.length ≤ 9223372036854775807) (hs : SmV l) (he : (linksV code).2.1 = 0) (w : World) (hI : Is w a code) (hV : Vs w b l) (k : Nat) (hr : readyV code.length l k = true) (i : Ins) (va vb : Vl) (lab : Int)
    (hi : code[k]? = some i) (hci : checkI i = true) (hva : l[i.a.toNat]? = some va) (hvb : l[i.b.toNat]? = some vb) (hlab : (linksV code).1[k]? = some lab) (hma : n32 va.n) (hmb : n32 vb.n) (hl32 : l.length = 32) (hk1 : k < 1000) (r : DoR) (hop : i.op = 7) (hla : va.loc = []) (hrr : r = doE 92) :
    Calls Tryz.prog 26 #[.slice a code.length c, .agg #[.slice b l.length cb, .int .i64 k]] w (RetDo r w) := by
  have HOP := hid hop; have HRR := hid hrr
  have z6 : (i.op == 6) = false := by rw [hop]; rfl
  have z7 : (i.op == 7) = true := by rw [hop]; rfl
  have z8 : (i.op == 8) = false := by rw [hop]; rfl
  have z9 : (i.op == 9) = false := by rw [hop]; rfl
  have z10 : (i.op == 10) = false := by rw [hop]; rfl
  have z11 : (i.op == 11) = false := by rw [hop]; rfl
  have z13 : (i.op == 13) = false := by rw [hop]; rfl
  have zl : ((tx va.loc).toList == []) = true := by rw [tx_toList, hla]; rfl
  clear hop hrr hla
  have PL := fun (w : World) (hI : Is w a code) => refLinks code a c hL w hI
  have E0 := Below.refl (W5 w b l.length cb k).heap.size (W5 w b l.length cb k)
  have I3 := hI.below (Bx3.of ((W5.three w b l.length cb k).trans (E0.mono (W5.three w b l.length cb k).size))).bel
  have RD := fun (w : World) (hV : Vs w b l) => refIsThread code.length l b cb k w hV hs
  rw [hr] at RD
  obtain ⟨-, -, hd, hA, hBb⟩ := checkI_spec hci
  obtain ⟨ka, hka, hia⟩ := regB_nat hA
  obtain ⟨kb, hkb, hib⟩ := regB_nat hBb
  rw [hia] at hva; rw [hib] at hvb
  have hva : l[ka]? = some va := hva
  have hvb : l[kb]? = some vb := hvb
  have HV := hid hV
  have ixa := hV.idx ka (by omega)
  have ixb := hV.idx kb (by omega)
  have ixc := hI.idx k (List.getElem?_eq_some_iff.1 hi).1
  have HI := hid hI
  obtain ⟨⟨L, x, y⟩, hrl⟩ : ∃ r, linksV code = r := ⟨_, rfl⟩
  rw [hrl] at PL he hlab
  obtain rfl : x = 0 := he
  have hlab : L[k]? = some lab := hlab
  have PL := hid (show ∀ (w : World), Is w a code → Calls Tryz.prog 18 #[.slice a code.length c] w (RetL4 L 0 y w) from PL)
  have hrow : (valsC l).length = 32 * 2 := by rw [valsC_length, hl32]
  rw [hl32] at RD E0 I3 ixa ixb ⊢
  have RD := hid RD
  have HCI := hid hci; have HIC := hid hi; have HVA := hid hva; have HVB := hid hvb; have HLAB := hid hlab
  have ixa : ∀ c w', (Instr.indexAt 40 (.slice b 32 c) (.int .i64 i.a)).run Tryz.prog w' = .ok (.pointer (some ⟨bk b, fo b + ka * 2, none⟩)) w' := by rw [hia]; exact ixa
  have ixb : ∀ c w', (Instr.indexAt 40 (.slice b 32 c) (.int .i64 i.b)).run Tryz.prog w' = .ok (.pointer (some ⟨bk b, fo b + kb * 2, none⟩)) w' := by rw [hib]; exact ixb
  clear hrl hI hL hr hs hV hi hci hva hvb hlab hia hib hA hBb hl32
  generalize code.length = n at *
  have E5 := W5.three w b 32 cb k
  go_enter Tryz.func26, Tryz.ntmps26
  go_wp2_with fail
  refine (PL.out _ I3).mono ?_
  rintro e w1 ⟨aA, cA, rfl, oA, E⟩
  obtain ⟨⟨t0, t1⟩, -, -, -, -, hsz, B⟩ := Bx3.of (E5.trans (E.mono E5.size))
  have V1 := HV.out.below B
  clear I3 E0
  go_wp2_with fail
  refine (RD.out _ V1).mono ?_
  rintro e w2 ⟨rfl, E2⟩
  have oA := Own.below oA E2
  have E := E.trans (E2.mono E.size)
  clear t0 t1 hsz B V1
  obtain ⟨⟨t0, t1⟩, -, -, -, -, hsz, B⟩ := Bx3.of (E5.trans (E.mono E5.size))
  have I2 := HI.out.below B
  have V2 := HV.out.below B
  obtain ⟨p0, p1, p2, p3, p4, p5, p6, p7⟩ := I2.cells HIC.out
  have hlt := I2.lt (List.getElem?_eq_some_iff.1 HIC.out).1
  have hltb := V2.lt (List.getElem?_eq_some_iff.1 HVA.out).1
  have A2 := al w2 (mkI i)
  have A3 := al (w2.alloc (mkI i)) (oT ((k : Int) + 1))
  have A4 := ext_trans A2 A3
  have hlt0 : w.heap.size < w2.heap.size := by omega
  have hs2 : ((w2.alloc (mkI i)).alloc (oT ((k : Int) + 1))).heap.size = w2.heap.size + 2 := by simp
  have hVa := V2.below A4
  have hw : IntKind.i64.wrap ((k : Int) + 1) = (k : Int) + 1 := IntWalk.i64_in _ (by omega)
  have on := (Own.nil ((w2.alloc (mkI i)).alloc (oT ((k : Int) + 1))) ((w2.alloc (mkI i)).alloc (oT ((k : Int) + 1))).heap.size 50 2)
  go_wp2_with (at_builtin; go_loud (refine wpList_app vsl (.tmp 47) (.tmp 49) rfl rfl rfl on rfl hVa.row hrow (valsC_oneCell _) (Below.refl _ _) (Nat.le_refl _) (by omega) (by unfold maxLen; omega) ?_))
  intro a1 c1 w4 o1 g1 B1
  have T : OwnV w4 ((w2.alloc (mkI i)).alloc (oT ((k : Int) + 1))).heap.size a1 32 c1 l := by simpa [OwnV] using o1
  have T : OwnV w4 (w2.heap.size + 2) a1 32 c1 l := by rw [← hs2]; exact T
  have B1 : Below ((w2.alloc (mkI i)).alloc (oT ((k : Int) + 1))).heap.size ((w2.alloc (mkI i)).alloc (oT ((k : Int) + 1))) w4 := by rw [hs2]; exact B1
  have hwp : w2.heap.size + 2 ≤ w4.heap.size := by have := B1.size; rw [hs2] at this; exact this
  have EA := A4.trans (B1.mono A4.size)
  have bx4 := ((BxI.new w2 i).below A3).below B1
  obtain ⟨j0, j1, j2, j3, j4, j5, j6, j7⟩ := bx4.cells
  have V4 := hVa.below B1
  obtain ⟨x0, x1⟩ := V4.cells HVA.out
  obtain ⟨y0, y1⟩ := V4.cells HVB.out
  have hoT := heap_alloc_new (w2.alloc (mkI i)) (oT ((k : Int) + 1))
  have hs1 : (w2.alloc (mkI i)).heap.size = w2.heap.size + 1 := by simp
  rw [hs1] at hoT
  have q0 : w4.cell? ⟨w2.heap.size + 1, 0, none⟩ = some (.slice none 0 0) := by
    rw [B1.cell (p := ⟨w2.heap.size + 1, 0, none⟩) (by rw [hs2]; dsimp only; omega)]; simp only [World.cell?, hoT]; simp
  have q1 : w4.cell? ⟨w2.heap.size + 1, 1, none⟩ = some (.int .i64 ((k : Int) + 1)) := by
    rw [B1.cell (p := ⟨w2.heap.size + 1, 1, none⟩) (by rw [hs2]; dsimp only; omega)]; simp only [World.cell?, hoT]; simp
  have fq : w4.frozen? ⟨w2.heap.size + 1, 0, none⟩ = false := by
    rw [B1.frozen (p := ⟨w2.heap.size + 1, 0, none⟩) (by rw [hs2]; dsimp only; omega)]; simp only [World.frozen?, hoT]; simp
  have fq1 : w4.frozen? ⟨w2.heap.size + 1, 1, none⟩ = false := by
    rw [B1.frozen (p := ⟨w2.heap.size + 1, 1, none⟩) (by rw [hs2]; dsimp only; omega)]; simp only [World.frozen?, hoT]; simp
  have E4 := E.trans (EA.mono E.size)
  have b3 := Bx3.of (E5.trans (E4.mono E5.size))
  clear t0 t1
  obtain ⟨⟨t0, t1⟩, ⟨l0, l1⟩, ⟨a0, a1', a2, a3, a4⟩, fl, fa, hsz4, B4⟩ := b3
  have h5 := (Bx5.of E).size
  have g1' : w.heap.size < w4.heap.size := by omega
  have g2' : w.heap.size + 1 < w4.heap.size := by omega
  have g3' : w.heap.size + 1 + 1 < w4.heap.size := by omega
  have g4' : w2.heap.size < w4.heap.size := by omega
  have g5' : w2.heap.size + 1 < w4.heap.size := by omega
  have g6' : bk b < w4.heap.size := by omega
  have e1' : w.heap.size < w2.heap.size + 1 := by omega
  have e2' : w.heap.size + 1 < w2.heap.size + 1 := by omega
  have e3' : bk b < w2.heap.size + 1 := by omega
  have k00 : w.heap.size < w4.heap.size + 1 := by omega
  have k01 : w.heap.size < w4.heap.size + 1 + 1 := by omega
  have k10 : w.heap.size + 1 < w4.heap.size + 1 := by omega
  have k11 : w.heap.size + 1 < w4.heap.size + 1 + 1 := by omega
  have k20 : w.heap.size + 1 + 1 < w4.heap.size + 1 := by omega
  have k21 : w.heap.size + 1 + 1 < w4.heap.size + 1 + 1 := by omega
  have k30 : w2.heap.size < w4.heap.size + 1 := by omega
  have k31 : w2.heap.size < w4.heap.size + 1 + 1 := by omega
  have k40 : w2.heap.size + 1 < w4.heap.size + 1 := by omega
  have k41 : w2.heap.size + 1 < w4.heap.size + 1 + 1 := by omega
  have k50 : bk b < w4.heap.size + 1 := by omega
  have k51 : bk b < w4.heap.size + 1 + 1 := by omega
  have hn4 : a1 ≠ none := Own.some T (by omega)
  have hb4 := Own.lt T hn4
  have hO1 : a1 = none ∨ bk a1 ≠ w.heap.size + 1 := .inr (by omega)
  have hO2 : a1 = none ∨ bk a1 ≠ w.heap.size + 1 + 1 := .inr (by omega)
  have hO3 : a1 = none ∨ bk a1 ≠ w2.heap.size + 1 := .inr (by omega)
  have TT := hid (Own.mono T (show w.heap.size ≤ w2.heap.size + 2 by omega))
  have hl3 : l.length = 32 := (OwnV.len T).symm
  obtain ⟨⟨g00, g01⟩, ⟨h00, h01, h02, h03, h04⟩, hsz5⟩ := Bx5.of (E.trans ((A4.trans (B1.mono A4.size)).mono E.size))
  have g33' : w.heap.size + 3 < w4.heap.size := by omega
  have g34' : w.heap.size + 4 < w4.heap.size := by omega
  have e33' : w.heap.size + 3 < w2.heap.size + 1 := by omega
  have e34' : w.heap.size + 4 < w2.heap.size + 1 := by omega
  have k33 : w.heap.size + 3 < w4.heap.size + 1 := by omega
  have k34 : w.heap.size + 4 < w4.heap.size + 1 := by omega
  have k33' : w.heap.size + 3 < w4.heap.size + 1 + 1 := by omega
  have k34' : w.heap.size + 4 < w4.heap.size + 1 + 1 := by omega
  clear p0 p1 p2 p3 p4 p5 p6 p7 I2 V2 oA o1 g1 on hVa A2 A3 A4 T B1 EA E4 E bx4 V4 hoT
  go_wp2_with fail
  go_region
  all_goals
    go_wp2_with fail
    exact bodyPost_ret (by simp [results, Tryz.results26, go_sem, l0, l1, a0, a1', a2, a3, a4, g2', g3', k10, k11, k20, k21]) rfl (RetDo.err HRR.out rfl (by repeat (first | with_reducible assumption | with_reducible exact Below.refl _ _ | with_reducible refine bel_alloc ?_ _ | with_reducible refine bel_drew ?_ | with_reducible refine bel_set ?_ (by dsimp only; omega) _)))
set_option maxRecDepth 100000 in
set_option maxHeartbeats 12800000 in
theorem refDo_sw_no2 (code : List Ins) (a : Option Addr) (c : Nat) (l : List Vl) (b : Option Addr) (cb : Nat) (hL : ∀ i ∈ code, i.label.length ≤ 9223372036854775807) (hs : SmV l) (he : (linksV code).2.1 = 0) (w : World) (hI : Is w a code) (hV : Vs w b l) (k : Nat) (hr : readyV code.length l k = true) (i : Ins) (va vb : Vl) (lab : Int)
    (hi : code[k]? = some i) (hci : checkI i = true) (hva : l[i.a.toNat]? = some va) (hvb : l[i.b.toNat]? = some vb) (hlab : (linksV code).1[k]? = some lab) (hma : n32 va.n) (hmb : n32 vb.n) (hl32 : l.length = 32) (hk1 : k < 1000) (r : DoR) (hop : i.op = 7) (hla : va.loc ≠ []) (hlb : vb.loc ≠ []) (hrr : r = doE 92) :
    Calls Tryz.prog 26 #[.slice a code.length c, .agg #[.slice b l.length cb, .int .i64 k]] w (RetDo r w) := by
  have HOP := hid hop; have HRR := hid hrr
  have z6 : (i.op == 6) = false := by rw [hop]; rfl
  have z7 : (i.op == 7) = true := by rw [hop]; rfl
  have z8 : (i.op == 8) = false := by rw [hop]; rfl
  have z9 : (i.op == 9) = false := by rw [hop]; rfl
  have z10 : (i.op == 10) = false := by rw [hop]; rfl
  have z11 : (i.op == 11) = false := by rw [hop]; rfl
  have z13 : (i.op == 13) = false := by rw [hop]; rfl
  have zl : ((tx va.loc).toList == []) = false := tx_ne _ [] hla
  have zb : ((tx vb.loc).toList == []) = false := tx_ne _ [] hlb
  have zb2 : ((tx vb.loc).toList != []) = true := by rw [bne, zb]; rfl
  clear hop hrr hla hlb
  have PL := fun (w : World) (hI : Is w a code) => refLinks code a c hL w hI
  have E0 := Below.refl (W5 w b l.length cb k).heap.size (W5 w b l.length cb k)
  have I3 := hI.below (Bx3.of ((W5.three w b l.length cb k).trans (E0.mono (W5.three w b l.length cb k).size))).bel
  have RD := fun (w : World) (hV : Vs w b l) => refIsThread code.length l b cb k w hV hs
  rw [hr] at RD
  obtain ⟨-, -, hd, hA, hBb⟩ := checkI_spec hci
  obtain ⟨ka, hka, hia⟩ := regB_nat hA
  obtain ⟨kb, hkb, hib⟩ := regB_nat hBb
  rw [hia] at hva; rw [hib] at hvb
  have hva : l[ka]? = some va := hva
  have hvb : l[kb]? = some vb := hvb
  have HV := hid hV
  have ixa := hV.idx ka (by omega)
  have ixb := hV.idx kb (by omega)
  have ixc := hI.idx k (List.getElem?_eq_some_iff.1 hi).1
  have HI := hid hI
  obtain ⟨⟨L, x, y⟩, hrl⟩ : ∃ r, linksV code = r := ⟨_, rfl⟩
  rw [hrl] at PL he hlab
  obtain rfl : x = 0 := he
  have hlab : L[k]? = some lab := hlab
  have PL := hid (show ∀ (w : World), Is w a code → Calls Tryz.prog 18 #[.slice a code.length c] w (RetL4 L 0 y w) from PL)
  have hrow : (valsC l).length = 32 * 2 := by rw [valsC_length, hl32]
  rw [hl32] at RD E0 I3 ixa ixb ⊢
  have RD := hid RD
  have HCI := hid hci; have HIC := hid hi; have HVA := hid hva; have HVB := hid hvb; have HLAB := hid hlab
  have ixa : ∀ c w', (Instr.indexAt 40 (.slice b 32 c) (.int .i64 i.a)).run Tryz.prog w' = .ok (.pointer (some ⟨bk b, fo b + ka * 2, none⟩)) w' := by rw [hia]; exact ixa
  have ixb : ∀ c w', (Instr.indexAt 40 (.slice b 32 c) (.int .i64 i.b)).run Tryz.prog w' = .ok (.pointer (some ⟨bk b, fo b + kb * 2, none⟩)) w' := by rw [hib]; exact ixb
  clear hrl hI hL hr hs hV hi hci hva hvb hlab hia hib hA hBb hl32
  generalize code.length = n at *
  have E5 := W5.three w b 32 cb k
  go_enter Tryz.func26, Tryz.ntmps26
  go_wp2_with fail
  refine (PL.out _ I3).mono ?_
  rintro e w1 ⟨aA, cA, rfl, oA, E⟩
  obtain ⟨⟨t0, t1⟩, -, -, -, -, hsz, B⟩ := Bx3.of (E5.trans (E.mono E5.size))
  have V1 := HV.out.below B
  clear I3 E0
  go_wp2_with fail
  refine (RD.out _ V1).mono ?_
  rintro e w2 ⟨rfl, E2⟩
  have oA := Own.below oA E2
  have E := E.trans (E2.mono E.size)
  clear t0 t1 hsz B V1
  obtain ⟨⟨t0, t1⟩, -, -, -, -, hsz, B⟩ := Bx3.of (E5.trans (E.mono E5.size))
  have I2 := HI.out.below B
  have V2 := HV.out.below B
  obtain ⟨p0, p1, p2, p3, p4, p5, p6, p7⟩ := I2.cells HIC.out
  have hlt := I2.lt (List.getElem?_eq_some_iff.1 HIC.out).1
  have hltb := V2.lt (List.getElem?_eq_some_iff.1 HVA.out).1
  have A2 := al w2 (mkI i)
  have A3 := al (w2.alloc (mkI i)) (oT ((k : Int) + 1))
  have A4 := ext_trans A2 A3
  have hlt0 : w.heap.size < w2.heap.size := by omega
  have hs2 : ((w2.alloc (mkI i)).alloc (oT ((k : Int) + 1))).heap.size = w2.heap.size + 2 := by simp
  have hVa := V2.below A4
  have hw : IntKind.i64.wrap ((k : Int) + 1) = (k : Int) + 1 := IntWalk.i64_in _ (by omega)
  have on := (Own.nil ((w2.alloc (mkI i)).alloc (oT ((k : Int) + 1))) ((w2.alloc (mkI i)).alloc (oT ((k : Int) + 1))).heap.size 50 2)
  go_wp2_with (at_builtin; go_loud (refine wpList_app vsl (.tmp 47) (.tmp 49) rfl rfl rfl on rfl hVa.row hrow (valsC_oneCell _) (Below.refl _ _) (Nat.le_refl _) (by omega) (by unfold maxLen; omega) ?_))
  intro a1 c1 w4 o1 g1 B1
  have T : OwnV w4 ((w2.alloc (mkI i)).alloc (oT ((k : Int) + 1))).heap.size a1 32 c1 l := by simpa [OwnV] using o1
  have T : OwnV w4 (w2.heap.size + 2) a1 32 c1 l := by rw [← hs2]; exact T
  have B1 : Below ((w2.alloc (mkI i)).alloc (oT ((k : Int) + 1))).heap.size ((w2.alloc (mkI i)).alloc (oT ((k : Int) + 1))) w4 := by rw [hs2]; exact B1
  have hwp : w2.heap.size + 2 ≤ w4.heap.size := by have := B1.size; rw [hs2] at this; exact this
  have EA := A4.trans (B1.mono A4.size)
  have bx4 := ((BxI.new w2 i).below A3).below B1
  obtain ⟨j0, j1, j2, j3, j4, j5, j6, j7⟩ := bx4.cells
  have V4 := hVa.below B1
  obtain ⟨x0, x1⟩ := V4.cells HVA.out
  obtain ⟨y0, y1⟩ := V4.cells HVB.out
  have hoT := heap_alloc_new (w2.alloc (mkI i)) (oT ((k : Int) + 1))
  have hs1 : (w2.alloc (mkI i)).heap.size = w2.heap.size + 1 := by simp
  rw [hs1] at hoT
  have q0 : w4.cell? ⟨w2.heap.size + 1, 0, none⟩ = some (.slice none 0 0) := by
    rw [B1.cell (p := ⟨w2.heap.size + 1, 0, none⟩) (by rw [hs2]; dsimp only; omega)]; simp only [World.cell?, hoT]; simp
  have q1 : w4.cell? ⟨w2.heap.size + 1, 1, none⟩ = some (.int .i64 ((k : Int) + 1)) := by
    rw [B1.cell (p := ⟨w2.heap.size + 1, 1, none⟩) (by rw [hs2]; dsimp only; omega)]; simp only [World.cell?, hoT]; simp
  have fq : w4.frozen? ⟨w2.heap.size + 1, 0, none⟩ = false := by
    rw [B1.frozen (p := ⟨w2.heap.size + 1, 0, none⟩) (by rw [hs2]; dsimp only; omega)]; simp only [World.frozen?, hoT]; simp
  have fq1 : w4.frozen? ⟨w2.heap.size + 1, 1, none⟩ = false := by
    rw [B1.frozen (p := ⟨w2.heap.size + 1, 1, none⟩) (by rw [hs2]; dsimp only; omega)]; simp only [World.frozen?, hoT]; simp
  have E4 := E.trans (EA.mono E.size)
  have b3 := Bx3.of (E5.trans (E4.mono E5.size))
  clear t0 t1
  obtain ⟨⟨t0, t1⟩, ⟨l0, l1⟩, ⟨a0, a1', a2, a3, a4⟩, fl, fa, hsz4, B4⟩ := b3
  have h5 := (Bx5.of E).size
  have g1' : w.heap.size < w4.heap.size := by omega
  have g2' : w.heap.size + 1 < w4.heap.size := by omega
  have g3' : w.heap.size + 1 + 1 < w4.heap.size := by omega
  have g4' : w2.heap.size < w4.heap.size := by omega
  have g5' : w2.heap.size + 1 < w4.heap.size := by omega
  have g6' : bk b < w4.heap.size := by omega
  have e1' : w.heap.size < w2.heap.size + 1 := by omega
  have e2' : w.heap.size + 1 < w2.heap.size + 1 := by omega
  have e3' : bk b < w2.heap.size + 1 := by omega
  have k00 : w.heap.size < w4.heap.size + 1 := by omega
  have k01 : w.heap.size < w4.heap.size + 1 + 1 := by omega
  have k10 : w.heap.size + 1 < w4.heap.size + 1 := by omega
  have k11 : w.heap.size + 1 < w4.heap.size + 1 + 1 := by omega
  have k20 : w.heap.size + 1 + 1 < w4.heap.size + 1 := by omega
  have k21 : w.heap.size + 1 + 1 < w4.heap.size + 1 + 1 := by omega
  have k30 : w2.heap.size < w4.heap.size + 1 := by omega
  have k31 : w2.heap.size < w4.heap.size + 1 + 1 := by omega
  have k40 : w2.heap.size + 1 < w4.heap.size + 1 := by omega
  have k41 : w2.heap.size + 1 < w4.heap.size + 1 + 1 := by omega
  have k50 : bk b < w4.heap.size + 1 := by omega
  have k51 : bk b < w4.heap.size + 1 + 1 := by omega
  have hn4 : a1 ≠ none := Own.some T (by omega)
  have hb4 := Own.lt T hn4
  have hO1 : a1 = none ∨ bk a1 ≠ w.heap.size + 1 := .inr (by omega)
  have hO2 : a1 = none ∨ bk a1 ≠ w.heap.size + 1 + 1 := .inr (by omega)
  have hO3 : a1 = none ∨ bk a1 ≠ w2.heap.size + 1 := .inr (by omega)
  have TT := hid (Own.mono T (show w.heap.size ≤ w2.heap.size + 2 by omega))
  have hl3 : l.length = 32 := (OwnV.len T).symm
  obtain ⟨⟨g00, g01⟩, ⟨h00, h01, h02, h03, h04⟩, hsz5⟩ := Bx5.of (E.trans ((A4.trans (B1.mono A4.size)).mono E.size))
  have g33' : w.heap.size + 3 < w4.heap.size := by omega
  have g34' : w.heap.size + 4 < w4.heap.size := by omega
  have e33' : w.heap.size + 3 < w2.heap.size + 1 := by omega
  have e34' : w.heap.size + 4 < w2.heap.size + 1 := by omega
  have k33 : w.heap.size + 3 < w4.heap.size + 1 := by omega
  have k34 : w.heap.size + 4 < w4.heap.size + 1 := by omega
  have k33' : w.heap.size + 3 < w4.heap.size + 1 + 1 := by omega
  have k34' : w.heap.size + 4 < w4.heap.size + 1 + 1 := by omega
  clear p0 p1 p2 p3 p4 p5 p6 p7 I2 V2 oA o1 g1 on hVa A2 A3 A4 T B1 EA E4 E bx4 V4 hoT
  go_wp2_with fail
  go_region
  all_goals
    go_wp2_with fail
    exact bodyPost_ret (by simp [results, Tryz.results26, go_sem, l0, l1, a0, a1', a2, a3, a4, g2', g3', k10, k11, k20, k21]) rfl (RetDo.err HRR.out rfl (by repeat (first | with_reducible assumption | with_reducible exact Below.refl _ _ | with_reducible refine bel_alloc ?_ _ | with_reducible refine bel_drew ?_ | with_reducible refine bel_set ?_ (by dsimp only; omega) _)))
set_option maxRecDepth 100000 in
set_option maxHeartbeats 12800000 in
theorem refDo_bne_on (code : List Ins) (a : Option Addr) (c : Nat) (l : List Vl) (b : Option Addr) (cb : Nat) (hL : ∀ i ∈ code, i.label.length ≤ 9223372036854775807) (hs : SmV l) (he : (linksV code).2.1 = 0) (w : World) (hI : Is w a code) (hV : Vs w b l) (k : Nat) (hr : readyV code.length l k = true) (i : Ins) (va vb : Vl) (lab : Int)
    (hi : code[k]? = some i) (hci : checkI i = true) (hva : l[i.a.toNat]? = some va) (hvb : l[i.b.toNat]? = some vb) (hlab : (linksV code).1[k]? = some lab) (hma : n32 va.n) (hmb : n32 vb.n) (hl32 : l.length = 32) (hk1 : k < 1000) (r : DoR) (hop : i.op = 11) (hab : va ≠ vb) (hrr : r = ⟨l, lab, ac1, 0⟩) :
    Calls Tryz.prog 26 #[.slice a code.length c, .agg #[.slice b l.length cb, .int .i64 k]] w (RetDo r w) := by
  have HOP := hid hop; have HRR := hid hrr
  have z6 : (i.op == 6) = false := by rw [hop]; rfl
  have z7 : (i.op == 7) = false := by rw [hop]; rfl
  have z8 : (i.op == 8) = false := by rw [hop]; rfl
  have z9 : (i.op == 9) = false := by rw [hop]; rfl
  have z10 : (i.op == 10) = false := by rw [hop]; rfl
  have z11 : (i.op == 11) = true := by rw [hop]; rfl
  have z13 : (i.op == 13) = false := by rw [hop]; rfl
  have zab : decide (va = vb) = false := decide_eq_false hab
  have zab2 : (!decide (va = vb)) = true := by rw [zab]; rfl
  clear hop hrr hab
  have PL := fun (w : World) (hI : Is w a code) => refLinks code a c hL w hI
  have E0 := Below.refl (W5 w b l.length cb k).heap.size (W5 w b l.length cb k)
  have I3 := hI.below (Bx3.of ((W5.three w b l.length cb k).trans (E0.mono (W5.three w b l.length cb k).size))).bel
  have RD := fun (w : World) (hV : Vs w b l) => refIsThread code.length l b cb k w hV hs
  rw [hr] at RD
  obtain ⟨-, -, hd, hA, hBb⟩ := checkI_spec hci
  obtain ⟨ka, hka, hia⟩ := regB_nat hA
  obtain ⟨kb, hkb, hib⟩ := regB_nat hBb
  rw [hia] at hva; rw [hib] at hvb
  have hva : l[ka]? = some va := hva
  have hvb : l[kb]? = some vb := hvb
  have HV := hid hV
  have ixa := hV.idx ka (by omega)
  have ixb := hV.idx kb (by omega)
  have ixc := hI.idx k (List.getElem?_eq_some_iff.1 hi).1
  have HI := hid hI
  obtain ⟨⟨L, x, y⟩, hrl⟩ : ∃ r, linksV code = r := ⟨_, rfl⟩
  rw [hrl] at PL he hlab
  obtain rfl : x = 0 := he
  have hlab : L[k]? = some lab := hlab
  have PL := hid (show ∀ (w : World), Is w a code → Calls Tryz.prog 18 #[.slice a code.length c] w (RetL4 L 0 y w) from PL)
  have hrow : (valsC l).length = 32 * 2 := by rw [valsC_length, hl32]
  rw [hl32] at RD E0 I3 ixa ixb ⊢
  have RD := hid RD
  have HCI := hid hci; have HIC := hid hi; have HVA := hid hva; have HVB := hid hvb; have HLAB := hid hlab
  have ixa : ∀ c w', (Instr.indexAt 40 (.slice b 32 c) (.int .i64 i.a)).run Tryz.prog w' = .ok (.pointer (some ⟨bk b, fo b + ka * 2, none⟩)) w' := by rw [hia]; exact ixa
  have ixb : ∀ c w', (Instr.indexAt 40 (.slice b 32 c) (.int .i64 i.b)).run Tryz.prog w' = .ok (.pointer (some ⟨bk b, fo b + kb * 2, none⟩)) w' := by rw [hib]; exact ixb
  clear hrl hI hL hr hs hV hi hci hva hvb hlab hia hib hA hBb hl32
  generalize code.length = n at *
  have E5 := W5.three w b 32 cb k
  go_enter Tryz.func26, Tryz.ntmps26
  go_wp2_with fail
  refine (PL.out _ I3).mono ?_
  rintro e w1 ⟨aA, cA, rfl, oA, E⟩
  obtain ⟨⟨t0, t1⟩, -, -, -, -, hsz, B⟩ := Bx3.of (E5.trans (E.mono E5.size))
  have V1 := HV.out.below B
  clear I3 E0
  go_wp2_with fail
  refine (RD.out _ V1).mono ?_
  rintro e w2 ⟨rfl, E2⟩
  have oA := Own.below oA E2
  have E := E.trans (E2.mono E.size)
  clear t0 t1 hsz B V1
  obtain ⟨⟨t0, t1⟩, -, -, -, -, hsz, B⟩ := Bx3.of (E5.trans (E.mono E5.size))
  have I2 := HI.out.below B
  have V2 := HV.out.below B
  obtain ⟨p0, p1, p2, p3, p4, p5, p6, p7⟩ := I2.cells HIC.out
  have hlt := I2.lt (List.getElem?_eq_some_iff.1 HIC.out).1
  have hltb := V2.lt (List.getElem?_eq_some_iff.1 HVA.out).1
  have A2 := al w2 (mkI i)
  have A3 := al (w2.alloc (mkI i)) (oT ((k : Int) + 1))
  have A4 := ext_trans A2 A3
  have hlt0 : w.heap.size < w2.heap.size := by omega
  have hs2 : ((w2.alloc (mkI i)).alloc (oT ((k : Int) + 1))).heap.size = w2.heap.size + 2 := by simp
  have hVa := V2.below A4
  have hw : IntKind.i64.wrap ((k : Int) + 1) = (k : Int) + 1 := IntWalk.i64_in _ (by omega)
  have on := (Own.nil ((w2.alloc (mkI i)).alloc (oT ((k : Int) + 1))) ((w2.alloc (mkI i)).alloc (oT ((k : Int) + 1))).heap.size 50 2)
  go_wp2_with (at_builtin; go_loud (refine wpList_app vsl (.tmp 47) (.tmp 49) rfl rfl rfl on rfl hVa.row hrow (valsC_oneCell _) (Below.refl _ _) (Nat.le_refl _) (by omega) (by unfold maxLen; omega) ?_))
  intro a1 c1 w4 o1 g1 B1
  have T : OwnV w4 ((w2.alloc (mkI i)).alloc (oT ((k : Int) + 1))).heap.size a1 32 c1 l := by simpa [OwnV] using o1
  have T : OwnV w4 (w2.heap.size + 2) a1 32 c1 l := by rw [← hs2]; exact T
  have B1 : Below ((w2.alloc (mkI i)).alloc (oT ((k : Int) + 1))).heap.size ((w2.alloc (mkI i)).alloc (oT ((k : Int) + 1))) w4 := by rw [hs2]; exact B1
  have hwp : w2.heap.size + 2 ≤ w4.heap.size := by have := B1.size; rw [hs2] at this; exact this
  have EA := A4.trans (B1.mono A4.size)
  have bx4 := ((BxI.new w2 i).below A3).below B1
  obtain ⟨j0, j1, j2, j3, j4, j5, j6, j7⟩ := bx4.cells
  have V4 := hVa.below B1
  obtain ⟨x0, x1⟩ := V4.cells HVA.out
  obtain ⟨y0, y1⟩ := V4.cells HVB.out
  have hoT := heap_alloc_new (w2.alloc (mkI i)) (oT ((k : Int) + 1))
  have hs1 : (w2.alloc (mkI i)).heap.size = w2.heap.size + 1 := by simp
  rw [hs1] at hoT
  have q0 : w4.cell? ⟨w2.heap.size + 1, 0, none⟩ = some (.slice none 0 0) := by
    rw [B1.cell (p := ⟨w2.heap.size + 1, 0, none⟩) (by rw [hs2]; dsimp only; omega)]; simp only [World.cell?, hoT]; simp
  have q1 : w4.cell? ⟨w2.heap.size + 1, 1, none⟩ = some (.int .i64 ((k : Int) + 1)) := by
    rw [B1.cell (p := ⟨w2.heap.size + 1, 1, none⟩) (by rw [hs2]; dsimp only; omega)]; simp only [World.cell?, hoT]; simp
  have fq : w4.frozen? ⟨w2.heap.size + 1, 0, none⟩ = false := by
    rw [B1.frozen (p := ⟨w2.heap.size + 1, 0, none⟩) (by rw [hs2]; dsimp only; omega)]; simp only [World.frozen?, hoT]; simp
  have fq1 : w4.frozen? ⟨w2.heap.size + 1, 1, none⟩ = false := by
    rw [B1.frozen (p := ⟨w2.heap.size + 1, 1, none⟩) (by rw [hs2]; dsimp only; omega)]; simp only [World.frozen?, hoT]; simp
  have E4 := E.trans (EA.mono E.size)
  have b3 := Bx3.of (E5.trans (E4.mono E5.size))
  clear t0 t1
  obtain ⟨⟨t0, t1⟩, ⟨l0, l1⟩, ⟨a0, a1', a2, a3, a4⟩, fl, fa, hsz4, B4⟩ := b3
  have h5 := (Bx5.of E).size
  have g1' : w.heap.size < w4.heap.size := by omega
  have g2' : w.heap.size + 1 < w4.heap.size := by omega
  have g3' : w.heap.size + 1 + 1 < w4.heap.size := by omega
  have g4' : w2.heap.size < w4.heap.size := by omega
  have g5' : w2.heap.size + 1 < w4.heap.size := by omega
  have g6' : bk b < w4.heap.size := by omega
  have e1' : w.heap.size < w2.heap.size + 1 := by omega
  have e2' : w.heap.size + 1 < w2.heap.size + 1 := by omega
  have e3' : bk b < w2.heap.size + 1 := by omega
  have k00 : w.heap.size < w4.heap.size + 1 := by omega
  have k01 : w.heap.size < w4.heap.size + 1 + 1 := by omega
  have k10 : w.heap.size + 1 < w4.heap.size + 1 := by omega
  have k11 : w.heap.size + 1 < w4.heap.size + 1 + 1 := by omega
  have k20 : w.heap.size + 1 + 1 < w4.heap.size + 1 := by omega
  have k21 : w.heap.size + 1 + 1 < w4.heap.size + 1 + 1 := by omega
  have k30 : w2.heap.size < w4.heap.size + 1 := by omega
  have k31 : w2.heap.size < w4.heap.size + 1 + 1 := by omega
  have k40 : w2.heap.size + 1 < w4.heap.size + 1 := by omega
  have k41 : w2.heap.size + 1 < w4.heap.size + 1 + 1 := by omega
  have k50 : bk b < w4.heap.size + 1 := by omega
  have k51 : bk b < w4.heap.size + 1 + 1 := by omega
  have hn4 : a1 ≠ none := Own.some T (by omega)
  have hb4 := Own.lt T hn4
  have hO1 : a1 = none ∨ bk a1 ≠ w.heap.size + 1 := .inr (by omega)
  have hO2 : a1 = none ∨ bk a1 ≠ w.heap.size + 1 + 1 := .inr (by omega)
  have hO3 : a1 = none ∨ bk a1 ≠ w2.heap.size + 1 := .inr (by omega)
  have TT := hid (Own.mono T (show w.heap.size ≤ w2.heap.size + 2 by omega))
  have hl3 : l.length = 32 := (OwnV.len T).symm
  have oA4 := Own.below oA (A4.trans (B1.mono A4.size))
  have ixl := oA4.ints.1.idx isl k (List.getElem?_eq_some_iff.1 HLAB.out).1
  have cl := oA4.ints.1.cell k (List.getElem?_eq_some_iff.1 HLAB.out).1
  have hLk : L[k]'((List.getElem?_eq_some_iff.1 HLAB.out).1) = lab := (List.getElem?_eq_some_iff.1 HLAB.out).2
  rw [hLk] at cl
  have cl : w4.cell? ⟨bk aA, fo aA + k, none⟩ = some (.int .i64 lab) := cl
  have gA3 : bk aA < w2.heap.size := cell?_lt (p := ⟨bk aA, fo aA + k, none⟩) (oA.ints.1.cell k (List.getElem?_eq_some_iff.1 HLAB.out).1)
  have gA4 : bk aA < w2.heap.size + 1 := by omega
  have gA' : bk aA < w4.heap.size := cell?_lt (p := ⟨bk aA, fo aA + k, none⟩) cl
  have gA1 : bk aA < w4.heap.size + 1 := by omega
  have gA2 : bk aA < w4.heap.size + 1 + 1 := by omega
  clear hLk oA4
  clear p0 p1 p2 p3 p4 p5 p6 p7 I2 V2 oA o1 g1 on hVa A2 A3 A4 T B1 EA E4 E bx4 V4 hoT
  go_wp2_with fail
  go_region
  all_goals
    go_wp2_with fail
    exact bodyPost_ret (by simp [results, Tryz.results26, go_sem, l0, l1, a0, a1', a2, a3, a4, g2', g3', k10, k11, k20, k21, ac1, tx_nil]) rfl (RetDo.yes (a := a1) (n := 32) (c := c1) HRR.out rfl hl3 (by repeat (first | with_reducible exact TT.out | with_reducible refine own_other ?_ hO1 | with_reducible refine own_other ?_ hO2 | with_reducible refine own_other ?_ hO3 | with_reducible refine own_drew ?_ | with_reducible refine own_alloc ?_ _)) (by repeat (first | with_reducible assumption | with_reducible exact Below.refl _ _ | with_reducible refine bel_alloc ?_ _ | with_reducible refine bel_drew ?_ | with_reducible refine bel_set ?_ (by dsimp only; omega) _)))
end Go.Proofs.YtigimkgmghjgoaaGreatDoor

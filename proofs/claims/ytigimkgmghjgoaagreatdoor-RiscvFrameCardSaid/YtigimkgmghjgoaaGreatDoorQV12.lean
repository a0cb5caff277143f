/- The walk of Do (the program's), continued. Conditions: code and registers lie in memory as read; lengths that an int holds. -/
import Derived.Test.YtigimkgmghjgoaaGreatDoorQo
import Derived.Deep.DeepCutAuto
namespace Go.Proofs.YtigimkgmghjgoaaGreatDoor
open Go.RowKit Go.MapKept Go.Maps
set_option linter.unusedVariables false

attribute [local go_sem high] eqI neqI eqV neqV
theorem RetDo.yes {r : DoR} {regs : List Vl} {at' : Int} {act : Ac} {n c : Nat} {a : Option Addr} {w w' : World} {e : Ending} (hr : r = ⟨regs, at', act, 0⟩) (he : e = .returned (.tuple #[.agg #[.slice a n c, .int .i64 at'], aV act, .int .i64 0])) (hn : regs.length = n) (ho : OwnV w' w.heap.size a n c regs) (hb : Below w.heap.size w w') : RetDo r w e w' := by
  subst hr he hn; exact ⟨a, c, rfl, ho, hb⟩
theorem own_other {w : World} {B E size n c b j : Nat} {a : Option Addr} {xs : List Value} {v : Value} (h : Own w B E size a n c xs) (hne : a = none ∨ bk a ≠ b) : Own (w.setCell ⟨b, j, none⟩ v) B E size a n c xs := by
  refine Own.kept h ⟨rfl, rfl, rfl, by simp, fun k hk hne => Below.heap_setCell _ _ _ _ (fun e => hne ?_)⟩ (r := some b) ?_
  · rw [e]
  · rcases hne with h' | h'
    · exact .inl h'
    · exact .inr (fun e => h' (Option.some.inj e))
theorem own_drew {w : World} {B E size n c : Nat} {a : Option Addr} {xs : List Value} (h : Own w B E size a n c xs) : Own w.drew B E size a n c xs := Own.below h (below_drewN w 1)
theorem linksV_ok0 {code : List Ins} (h : (linksV code).2.1 = 0) : code.length ≤ 256 ∧ (∀ j (hj : j < code.length), checkI code[j] = true) ∧ (linksV code).1.length = code.length := by
  unfold linksV at h ⊢
  by_cases hl : 256 < code.length
  · rw [if_pos hl] at h; cases h
  · rw [if_neg hl] at h ⊢
    cases hf : code.findIdx? fun i => !checkI i with
    | some k => rw [hf] at h; cases h
    | none =>
      rw [hf] at h
      simp only at h ⊢
      refine ⟨by omega, fun j hj => ?_, ?_⟩
      · rw [List.findIdx?_eq_none_iff] at hf
        have := hf _ (List.getElem_mem hj)
        simpa using this
      · cases hg : (List.range code.length).find? fun k => (stepR code k).isNone with
        | some k => rw [hg] at h; cases h
        | none => simp [outsR]
theorem doV_main {code : List Ins} {l : List Vl} {at' : Int} (he : (linksV code).2.1 = 0) (hr : readyV code.length l at' = true) :
    ∃ (k : Nat) (i : Ins) (va vb : Vl) (lab : Int), at' = k ∧ code[k]? = some i ∧ checkI i = true ∧ l[i.a.toNat]? = some va ∧ l[i.b.toNat]? = some vb ∧ (linksV code).1[k]? = some lab ∧ n32 va.n ∧ n32 vb.n ∧ l.length = 32 ∧ k < 1000 ∧ doV code l at' = stepV i va vb lab (at' + 1) l := by
  obtain ⟨h0, h1, h2, h3, h4⟩ := ready_spec hr
  obtain ⟨k0, k1, k2⟩ := linksV_ok0 he
  obtain ⟨k, rfl⟩ : ∃ k : Nat, at' = k := ⟨at'.toNat, by omega⟩
  have hk : k < code.length := by omega
  have hci := k1 k hk
  obtain ⟨-, -, hd, hA, hB⟩ := checkI_spec hci
  obtain ⟨ka, hka, hia⟩ := regB_nat hA
  obtain ⟨kb, hkb, hib⟩ := regB_nat hB
  have ha : code[k].a.toNat < l.length := by omega
  have hb : code[k].b.toNat < l.length := by omega
  refine ⟨k, code[k], l[code[k].a.toNat], l[code[k].b.toNat], (linksV code).1[k]'(by omega), rfl, List.getElem?_eq_getElem hk, hci, List.getElem?_eq_getElem ha, List.getElem?_eq_getElem hb, List.getElem?_eq_getElem (by omega), may_n32 (h3 _ (List.getElem_mem ha)), may_n32 (h3 _ (List.getElem_mem hb)), h2, by omega, ?_⟩
  unfold doV
  rw [if_neg (by rw [he]; simp), if_neg (by rw [hr]; simp)]
  simp only [Int.toNat_natCast]
  have e1 : code.getD k ins0 = code[k] := by simp [List.getD_eq_getElem?_getD, hk]
  have e2 : ∀ (j : Nat) (hj : j < l.length), l.getD j vl0 = l[j] := fun j hj => by simp [List.getD_eq_getElem?_getD, hj]
  have e3 : (linksV code).1.getD k 0 = (linksV code).1[k]'(by omega) := by simp [List.getD_eq_getElem?_getD, (by omega : k < (linksV code).1.length)]
  rw [e1, e2 _ ha, e2 _ hb, e3]
set_option maxRecDepth 100000 in
set_option maxHeartbeats 3200000 in
theorem progDo_unready (code : List Ins) (a : Option Addr) (c : Nat) (l : List Vl) (b : Option Addr) (cb : Nat) (at' : Int) (hc : code.length ≤ c) (hL : ∀ i ∈ code, i.label.length ≤ 9223372036854775807) (hs : SmV l) (he : (linksV code).2.1 = 0) (hr : readyV code.length l at' = false) (w : World) (hI : Is w a code) (hV : Vs w b l) :
    Calls Tryz.prog 25 #[.slice a code.length c, .agg #[.slice b l.length cb, .int .i64 at']] w (RetDo (doV code l at') w) := by
  have HD := hid (show doV code l at' = doE 1 by unfold doV; rw [if_neg (by rw [he]; simp), if_pos hr])
  generalize doV code l at' = r at *
  have PL := fun (w : World) (hI : Is w a code) => progLinks code a c hc hL w hI
  have E0 := Below.refl (W3 w b l.length cb at').heap.size (W3 w b l.length cb at')
  have I3 := hI.below (Bx3.of E0).bel
  have RD := fun (w : World) (hV : Vs w b l) => progReady code.length a c l b cb at' w hV hs
  rw [hr] at RD
  have RD := hid RD
  have HV := hid hV
  obtain ⟨⟨L, x, y⟩, hrr⟩ : ∃ r, linksV code = r := ⟨_, rfl⟩
  rw [hrr] at PL he
  obtain rfl : x = 0 := he
  have PL := hid (show ∀ (w : World), Is w a code → Calls Tryz.prog 17 #[.slice a code.length c] w (RetL4 L 0 y w) from PL)
  clear hrr hI hL hc hr hs hV
  generalize code.length = n at *
  generalize l.length = m at *
  go_enter Tryz.func25, Tryz.ntmps25
  go_wp2_with fail
  refine (PL.out _ I3).mono ?_
  rintro e w1 ⟨aA, cA, rfl, oA, E⟩
  have b3 := Bx3.of E
  obtain ⟨⟨t0, t1⟩, -, -, -, -, hsz, B⟩ := b3
  have V1 := HV.out.below B
  clear oA I3
  go_wp2_with fail
  refine (RD.out _ V1).mono ?_
  rintro e w2 ⟨rfl, E2⟩
  have E := E.trans (E2.mono E.size)
  clear t0 t1 hsz B
  obtain ⟨⟨t0, t1⟩, ⟨l0, l1⟩, ⟨a0, a1, a2, a3, a4⟩, fl, fa, hsz, B⟩ := Bx3.of E
  clear E E2
  go_wp2_with fail
  exact bodyPost_ret (by simp [results, Tryz.results25, go_sem, l0, l1, a0, a1, a2, a3, a4]) rfl (RetDo.err HD.out rfl (by repeat (first | with_reducible assumption | with_reducible exact Below.refl _ _ | with_reducible refine bel_alloc ?_ _ | with_reducible refine bel_drew ?_ | with_reducible refine bel_set ?_ (by dsimp only; omega) _)))
set_option maxRecDepth 100000 in
set_option maxHeartbeats 12800000 in
theorem progDo_main (code : List Ins) (a : Option Addr) (c : Nat) (l : List Vl) (b : Option Addr) (cb : Nat) (at' : Int) (hc : code.length ≤ c) (hL : ∀ i ∈ code, i.label.length ≤ 9223372036854775807) (hs : SmV l) (he : (linksV code).2.1 = 0) (hr : readyV code.length l at' = true) (w : World) (hI : Is w a code) (hV : Vs w b l) (k : Nat) (i : Ins) (va vb : Vl) (lab : Int)
    (hk : at' = k) (hi : code[k]? = some i) (hci : checkI i = true) (hva : l[i.a.toNat]? = some va) (hvb : l[i.b.toNat]? = some vb) (hlab : (linksV code).1[k]? = some lab) (hma : n32 va.n) (hmb : n32 vb.n) (hl32 : l.length = 32) (hk1 : k < 1000) :
    Calls Tryz.prog 25 #[.slice a code.length c, .agg #[.slice b l.length cb, .int .i64 at']] w (RetDo (stepV i va vb lab (at' + 1) l) w) := by
  subst hk
  obtain ⟨r, hrr⟩ : ∃ r, stepV i va vb lab ((k : Int) + 1) l = r := ⟨_, rfl⟩
  rw [hrr]
  have PL := fun (w : World) (hI : Is w a code) => progLinks code a c hc hL w hI
  have E0 := Below.refl (W3 w b l.length cb k).heap.size (W3 w b l.length cb k)
  have I3 := hI.below (Bx3.of E0).bel
  have RD := fun (w : World) (hV : Vs w b l) => progReady code.length a c l b cb k w hV hs
  rw [hr] at RD
  have CL := hid (fun (w : World) (h : Vs w b l) => progCloneV l (by intro e; rw [e] at hl32; simp at hl32) (by omega) b cb w h)
  obtain ⟨-, -, hd, hA, hBb⟩ := checkI_spec hci
  obtain ⟨ka, hka, hia⟩ := regB_nat hA
  obtain ⟨kb, hkb, hib⟩ := regB_nat hBb
  rw [hia] at hva; rw [hib] at hvb
  have hva : l[ka]? = some va := hva
  have hvb : l[kb]? = some vb := hvb
  have HV := hid hV
  have ixa := hV.idx ka (by omega)
  have ixb := hV.idx kb (by omega)
  have ixc := hI.idx k (List.getElem?_eq_some_iff.1 hi).1
  have HI := hid hI
  obtain ⟨⟨L, x, y⟩, hrl⟩ : ∃ r, linksV code = r := ⟨_, rfl⟩
  rw [hrl] at PL he hlab
  obtain rfl : x = 0 := he
  have hlab : L[k]? = some lab := hlab
  have PL := hid (show ∀ (w : World), Is w a code → Calls Tryz.prog 17 #[.slice a code.length c] w (RetL4 L 0 y w) from PL)
  rw [hl32] at RD CL E0 I3 ixa ixb ⊢
  have RD := hid RD
  have CL := hid (show ∀ (w : World), Vs w b l → Calls Tryz.prog 55 #[.slice b 32 cb] w (fun e w' => ∃ a c, e = .returned (.slice a 32 c) ∧ OwnV w' w.heap.size a 32 c l ∧ Below w.heap.size w w') from by have := CL.out; unfold RetV at this; rw [hl32] at this; exact this)
  have HRR := hid hrr; have HCI := hid hci; have HIC := hid hi; have HVA := hid hva; have HVB := hid hvb; have HLAB := hid hlab; have HIA := hid hia; have HIB := hid hib
  have HMA := hid hma; have HMB := hid hmb
  clear hrl hI hL hc hr hs hV hi hci hva hvb hlab hia hib hd hA hBb hma hmb hrr hl32
  generalize code.length = n at *
  go_enter Tryz.func25, Tryz.ntmps25
  go_wp2_with fail
  refine (PL.out _ I3).mono ?_
  rintro e w1 ⟨aA, cA, rfl, oA, E⟩
  obtain ⟨⟨t0, t1⟩, -, -, -, -, hsz, B⟩ := Bx3.of E
  have V1 := HV.out.below B
  clear I3 E0
  go_wp2_with fail
  refine (RD.out _ V1).mono ?_
  rintro e w2 ⟨rfl, E2⟩
  have oA := Own.below oA E2
  have E := E.trans (E2.mono E.size)
  clear t0 t1 hsz B V1
  obtain ⟨⟨t0, t1⟩, -, -, -, -, hsz, B⟩ := Bx3.of E
  have I2 := HI.out.below B
  have V2 := HV.out.below B
  obtain ⟨p0, p1, p2, p3, p4, p5, p6, p7⟩ := I2.cells HIC.out
  have hlt := I2.lt (List.getElem?_eq_some_iff.1 HIC.out).1
  have ixl := oA.ints.1.idx isl k (List.getElem?_eq_some_iff.1 HLAB.out).1
  have cl := oA.ints.1.cell k (List.getElem?_eq_some_iff.1 HLAB.out).1
  have hLk : L[k]'((List.getElem?_eq_some_iff.1 HLAB.out).1) = lab := (List.getElem?_eq_some_iff.1 HLAB.out).2
  rw [hLk] at cl
  clear hLk
  obtain ⟨u0, u1⟩ := V2.cells HVA.out
  obtain ⟨v0, v1⟩ := V2.cells HVB.out
  have bx := BxI.new w2 i
  have A2 := al w2 (mkI i)
  have E3 := E.trans (A2.mono E.size)
  generalize hwa : w2.alloc (mkI i) = wa at *
  obtain ⟨i0, i1, i2, i3, i4, i5, i6, i7⟩ := bx.cells
  have ixa : ∀ c w', (Instr.indexAt 40 (.slice b 32 c) (.int .i64 i.a)).run Tryz.prog w' = .ok (.pointer (some ⟨bk b, fo b + ka * 2, none⟩)) w' := by rw [HIA.out]; exact ixa
  have ixb : ∀ c w', (Instr.indexAt 40 (.slice b 32 c) (.int .i64 i.b)).run Tryz.prog w' = .ok (.pointer (some ⟨bk b, fo b + kb * 2, none⟩)) w' := by rw [HIB.out]; exact ixb
  have V3 := V2.below A2
  have b3 := Bx3.of E3
  obtain ⟨s0, s1⟩ := b3.t
  have cl2 : wa.cell? ⟨bk aA, fo aA + k, none⟩ = some (.int .i64 lab) := by rw [A2.cell (p := ⟨bk aA, fo aA + k, none⟩) (cell?_lt cl)]; exact cl
  obtain ⟨x0, x1⟩ := V3.cells HVA.out
  obtain ⟨y0, y1⟩ := V3.cells HVB.out
  have hbx := bx.1
  have hV3 : ∀ w', Below wa.heap.size wa w' → Vs w' b l := fun w' h => V3.below h
  have KP : ∀ w', Below wa.heap.size wa w' → w'.cell? ⟨w2.heap.size, 0, none⟩ = some (.int .i64 i.op) ∧ w'.cell? ⟨w2.heap.size, 1, none⟩ = some (.int .i64 i.d) ∧ w'.cell? ⟨w2.heap.size, 2, none⟩ = some (.int .i64 i.a) ∧ w'.cell? ⟨w2.heap.size, 3, none⟩ = some (.int .i64 i.b) ∧ w'.cell? ⟨w2.heap.size, 4, none⟩ = some (.int .i64 i.imm) ∧ w'.cell? ⟨w2.heap.size, 5, none⟩ = some (.string (tx i.loc)) ∧ w'.cell? ⟨w2.heap.size, 6, none⟩ = some (.string (tx i.label)) ∧ w'.cell? ⟨w2.heap.size, 7, none⟩ = some (.int .i64 i.fence) ∧ w'.cell? ⟨w.heap.size, 0, none⟩ = some (.slice b 32 cb) ∧ w'.cell? ⟨w.heap.size, 1, none⟩ = some (.int .i64 k) ∧ w'.cell? ⟨bk aA, fo aA + k, none⟩ = some (.int .i64 lab) ∧ w'.cell? ⟨bk b, fo b + ka * 2, none⟩ = some (.string (tx va.loc)) ∧ w'.cell? ⟨bk b, fo b + ka * 2 + 1, none⟩ = some (.int .i64 va.n) ∧ w'.cell? ⟨bk b, fo b + kb * 2, none⟩ = some (.string (tx vb.loc)) ∧ w'.cell? ⟨bk b, fo b + kb * 2 + 1, none⟩ = some (.int .i64 vb.n) := fun w' h => ⟨(h.cell (cell?_lt i0)).trans i0, (h.cell (cell?_lt i1)).trans i1, (h.cell (cell?_lt i2)).trans i2, (h.cell (cell?_lt i3)).trans i3, (h.cell (cell?_lt i4)).trans i4, (h.cell (cell?_lt i5)).trans i5, (h.cell (cell?_lt i6)).trans i6, (h.cell (cell?_lt i7)).trans i7, (h.cell (cell?_lt s0)).trans s0, (h.cell (cell?_lt s1)).trans s1, (h.cell (cell?_lt cl2)).trans cl2, (h.cell (cell?_lt x0)).trans x0, (h.cell (cell?_lt x1)).trans x1, (h.cell (cell?_lt y0)).trans y0, (h.cell (cell?_lt y1)).trans y1⟩
  have EA := Below.refl wa.heap.size wa
  have hw : IntKind.i64.wrap ((k : Int) + 1) = (k : Int) + 1 := IntWalk.i64_in _ (by omega)
  have EAd := belDr EA (Nat.le_refl _)
  clear u0 u1 v0 v1 V2 I2 oA cl
  go_wp2_with fail
  clear p0 p1 p2 p3 p4 p5 p6 p7
  go_cut [11] (fun x wx => ∃ (d : Nat) (ar : Option Addr) (cr : Nat), x = .pointer (some ⟨d, 0, none⟩) ∧ DgW wx wa.heap.size d ⟨i, va, vb, lab, ar, cr, (k : Int) + 1, ac1⟩ l ∧ Below wa.heap.size wa wx)
  case first =>
    obtain ⟨i0, i1, i2, i3, i4, i5, i6, i7, s0, s1, cl2, x0, x1, y0, y1⟩ := KP _ EAd
    go_region_held3 (fun w' => w'.cell? ⟨w2.heap.size, 0, none⟩ = some (.int .i64 i.op) ∧ w'.cell? ⟨w2.heap.size, 1, none⟩ = some (.int .i64 i.d) ∧ w'.cell? ⟨w2.heap.size, 2, none⟩ = some (.int .i64 i.a) ∧ w'.cell? ⟨w2.heap.size, 3, none⟩ = some (.int .i64 i.b) ∧ w'.cell? ⟨w2.heap.size, 4, none⟩ = some (.int .i64 i.imm) ∧ w'.cell? ⟨w2.heap.size, 5, none⟩ = some (.string (tx i.loc)) ∧ w'.cell? ⟨w2.heap.size, 6, none⟩ = some (.string (tx i.label)) ∧ w'.cell? ⟨w2.heap.size, 7, none⟩ = some (.int .i64 i.fence) ∧ w'.cell? ⟨w.heap.size, 0, none⟩ = some (.slice b 32 cb) ∧ w'.cell? ⟨w.heap.size, 1, none⟩ = some (.int .i64 k) ∧ w'.cell? ⟨bk aA, fo aA + k, none⟩ = some (.int .i64 lab) ∧ w'.cell? ⟨bk b, fo b + ka * 2, none⟩ = some (.string (tx va.loc)) ∧ w'.cell? ⟨bk b, fo b + ka * 2 + 1, none⟩ = some (.int .i64 va.n) ∧ w'.cell? ⟨bk b, fo b + kb * 2, none⟩ = some (.string (tx vb.loc)) ∧ w'.cell? ⟨bk b, fo b + kb * 2 + 1, none⟩ = some (.int .i64 vb.n)) (first | exact ⟨by assumption, by assumption, by assumption, by assumption, by assumption, by assumption, by assumption, by assumption, by assumption, by assumption, by assumption, by assumption, by assumption, by assumption, by assumption⟩ | exact KP _ (Below.alloc EB EB.size _))
      (first
        | (go_at_call 55; refine (CL.out _ (by first | exact hV3 _ EAd | exact hV3 _ EA)).mono ?_; rintro e' w' ⟨ar, cr, rfl, oR, EC⟩; have EB := EAd.trans (EC.mono EAd.size); have oR := Own.mono oR EAd.size; clear i0 i1 i2 i3 i4 i5 i6 i7 s0 s1 cl2 x0 x1 y0 y1; obtain ⟨i0, i1, i2, i3, i4, i5, i6, i7, s0, s1, cl2, x0, x1, y0, y1⟩ := KP _ EB))
    all_goals
      go_wp2_with fail
      go_meet
      exact ⟨_, ar, cr, rfl, DgW.new (g := ⟨i, va, vb, lab, ar, cr, (k : Int) + 1, ac1⟩) oR EB.size, Below.alloc EB EB.size _⟩
  case rest =>
    obtain ⟨d, ar, cr, rfl, D, EW⟩ := hcut
    obtain ⟨n8, F, g2, regs2, ok, hn8, hop, hF, HE, MM, HS⟩ := methods wa.heap.size d ⟨i, va, vb, lab, ar, cr, (k : Int) + 1, ac1⟩ l HCI.out HMA.out HMB.out rfl
    have HSS := hid (show r = (if ok then ⟨regs2, g2.at', g2.act, 0⟩ else doE 92) from HRR.out.symm.trans HS)
    replace MM := hid MM
    replace hop : i.op = 6 + (n8 : Int) := hop
    have HOP := hid hop; have HF := hid hF
    have LKG : ∀ (W : World) (bm : Nat), W.heap[bm]? = some (.map (wE 8) 8) → (Instr.lookup 84 (.map (some bm)) (.int .i64 i.op) false).run Tryz.prog W = .ok (.func (.func F) #[] #[]) W := fun W bm h => by
      rw [HOP.out, ← HF.out]; exact lookW h n8 hn8
    have LKG := hid LKG
    clear HS hop hF i0 i1 i2 i3 i4 i5 i6 i7 s0 s1 cl2 x0 x1 y0 y1
    have j0 := (KP _ EW).1
    have EWd := belDr EW EW.size
    clear hV3 CL bx
    go_wp2_with fail
    go_region_with (first
      | (go_at_call 56; refine (progWays _).mono ?_; rintro e' w' ⟨rfl, EY, hmap⟩; have LK := LKG.out w' wc.heap.size hmap; have D9 := D.drew.below EY; have E9 := EWd.trans (EY.mono EWd.size); have j1 := (KP _ E9).1)
      | (refine (MM.out _ D9).mono ?_; rintro e' w'' ⟨rfl, D10, E10⟩))
    all_goals
      clear j0 j1 LK hmap
      have E11 := E9.trans E10
      obtain ⟨-, ⟨l0, l1⟩, ⟨a0, a1, a2, a3, a4⟩, fl, fa, hsz3, B3⟩ := Bx3.of (E3.trans (E11.mono E3.size))
      obtain ⟨-, -, ⟨-, -, -, c13, c14⟩, c15, c16, c17, c18, c19⟩ := D10.cells
      have hdlo := D10.lo
      have hdlt := D10.lt
      have O10 := D10.own
      have hsa := E3.size
      have hO1 : g2.ar = none ∨ bk g2.ar ≠ w.heap.size + 1 := by
        by_cases h : g2.ar = none
        · exact .inl h
        · have := (Own.lt O10 h).1; have := b3.size; exact .inr (by omega)
      have hO2 : g2.ar = none ∨ bk g2.ar ≠ w.heap.size + 2 := by
        by_cases h : g2.ar = none
        · exact .inl h
        · have := (Own.lt O10 h).1; have := b3.size; exact .inr (by omega)
      have hd1 : d ≠ w.heap.size + 1 := by have := b3.size; omega
      have hd2 : d ≠ w.heap.size + 2 := by have := b3.size; omega
      have hd1' := Ne.symm hd1; have hd2' := Ne.symm hd2
      have O11 := Own.mono O10 (show w.heap.size ≤ wa.heap.size by have := b3.size; omega)
      have OO := hid O11
      clear D10 D9 E10 E11 E9 O10 O11 EY D EW EWd KP MM LKG HE
      cases ok
      · have HQ := hid (show r = doE 92 from HSS.out)
        clear HSS
        go_wp2_with fail
        exact bodyPost_ret (by simp [results, Tryz.results25, go_sem, l0, l1, a0, a1, a2, a3, a4]) rfl (RetDo.err HQ.out rfl (by repeat (first | with_reducible assumption | with_reducible exact Below.refl _ _ | with_reducible refine bel_alloc ?_ _ | with_reducible refine bel_drew ?_ | with_reducible refine bel_set ?_ (by dsimp only; omega) _)))
      · have HQ := hid (show r = ⟨regs2, g2.at', g2.act, 0⟩ from HSS.out)
        clear HSS
        go_wp2_with fail
        have hl3 : regs2.length = 32 := (OwnV.len OO.out).symm
        have hO3 : g2.ar = none ∨ bk g2.ar ≠ w.heap.size + 1 + 1 := hO2
        go_region
        all_goals
          go_wp2_with fail
          exact bodyPost_ret (by simp [results, Tryz.results25, go_sem, l0, l1, a0, a1, a2, a3, a4]) rfl (RetDo.yes (a := g2.ar) (n := 32) (c := g2.cr) HQ.out rfl hl3 (by repeat (first | with_reducible exact OO.out | with_reducible refine own_other ?_ hO1 | with_reducible refine own_other ?_ hO3 | with_reducible refine own_other ?_ hO2 | with_reducible refine own_drew ?_)) (by repeat (first | with_reducible assumption | with_reducible exact Below.refl _ _ | with_reducible refine bel_alloc ?_ _ | with_reducible refine bel_drew ?_ | with_reducible refine bel_set ?_ (by dsimp only; omega) _)))
theorem progDo (code : List Ins) (a : Option Addr) (c : Nat) (l : List Vl) (b : Option Addr) (cb : Nat) (at' : Int) (hc : code.length ≤ c) (hL : ∀ i ∈ code, i.label.length ≤ 9223372036854775807) (hs : SmV l) (w : World) (hI : Is w a code) (hV : Vs w b l) :
    Calls Tryz.prog 25 #[.slice a code.length c, .agg #[.slice b l.length cb, .int .i64 at']] w (RetDo (doV code l at') w) := by
  by_cases he : (linksV code).2.1 = 0
  · cases hr : readyV code.length l at'
    · exact progDo_unready code a c l b cb at' hc hL hs he hr w hI hV
    · obtain ⟨k, i, va, vb, lab, hk, hi, hci, hva, hvb, hlab, hma, hmb, hl32, hk1, hd⟩ := doV_main he hr
      rw [hd]
      exact progDo_main code a c l b cb at' hc hL hs he hr w hI hV k i va vb lab hk hi hci hva hvb hlab hma hmb hl32 hk1
  · exact progDo_links code a c l b cb at' hc hL he w hI
end Go.Proofs.YtigimkgmghjgoaaGreatDoor

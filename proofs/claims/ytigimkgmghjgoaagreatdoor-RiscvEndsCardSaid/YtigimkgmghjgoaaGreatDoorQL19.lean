/- The walk of the statement RiscvEnds. Condition: the library's variables as the program's text lays them; code, registers and numbers lie in memory as read. -/
import Derived.Test.YtigimkgmghjgoaaGreatDoorQL18
import Derived.Test.YtigimkgmghjgoaaGreatDoorQMathU
import Derived.Test.YtigimkgmghjgoaaGreatDoorQV17
namespace Go.Proofs.YtigimkgmghjgoaaGreatDoor
open Go.RowKit
set_option linter.unusedVariables false

attribute [local go_sem high] eqI neqI eqV neqV eqAc neqAc
/-- where the thread in a box stands -/
def kOf (w : World) (d : Nat) : Nat := match w.cell? ⟨d, 1, none⟩ with
  | some (.int _ k) => k.toNat
  | _ => 0
theorem kOf_box {w : World} {d : Nat} {a : Option Addr} {n c : Nat} {k : Nat} (h : BxT w d a n c k) : kOf w d = k := by
  unfold kOf; rw [h.2.2]; simp
set_option maxRecDepth 100000 in
set_option maxHeartbeats 6400000 in
theorem lawRiscvEnds_no (code : List Ins) (a : Option Addr) (c : Nat) (l : List Vl) (b : Option Addr) (cb : Nat) (told : List Int) (bt : Option Addr) (ct : Nat) (w : World) (hI : Is w a code) (hc : code.length ≤ c) (hL : ∀ i ∈ code, i.label.length ≤ 9223372036854775807) (he : (linksV code).2.1 ≠ 0) (g : Gl w) :
    Calls Tryz.prog 7 #[.slice a code.length c, .slice b l.length cb, .slice bt told.length ct] w (Ret w (.bool true)) := by
  have AW := hid awake10
  have PL := fun (w : World) (hI : Is w a code) => progLinks code a c hc hL w hI
  have RL := fun (w : World) (hI : Is w a code) => refLinks code a c hL w hI
  obtain ⟨⟨L, x, y⟩, hr⟩ : ∃ r, linksV code = r := ⟨_, rfl⟩
  rw [hr] at PL RL he
  have PL := hid (show ∀ (w : World), Is w a code → Calls Tryz.prog 17 #[.slice a code.length c] w (RetL4 L x y w) from PL)
  have RL := hid (show ∀ (w : World), Is w a code → Calls Tryz.prog 18 #[.slice a code.length c] w (RetL4 L x y w) from RL)
  have z1 : (x != 0) = true := by simpa using he
  have zx : (x != x) = false := by simp
  have HI := hid hI; have HG := hid g
  clear hr he hL hc g
  generalize code.length = n at *
  generalize l.length = m at *
  generalize told.length = mt at *
  go_enter Tryz.func7, Tryz.ntmps7
  go_wp2_with fail
  refine (PL.out _ hI).mono ?_
  rintro e w1 ⟨aA, cA, rfl, oA, E1⟩
  have I1 := hI.below E1
  clear oA
  go_wp2_with fail
  refine (RL.out _ I1).mono ?_
  rintro e w2 ⟨aB, cB, rfl, oB, E2⟩
  have E := ext_trans E1 E2
  have G := HG.out.below E
  clear oB E1 E2 I1
  go_wp2_with fail
  refine (AW.out _ G).mono ?_
  rintro e w3 ⟨rfl, E3⟩
  have E := ext_trans E E3
  go_wp2_with fail
  go_ret
  exact ⟨rfl, E⟩
set_option maxRecDepth 100000 in
set_option maxHeartbeats 12800000 in
theorem lawRiscvEnds_yes (code : List Ins) (a : Option Addr) (c : Nat) (l : List Vl) (b : Option Addr) (cb : Nat) (told : List Int) (bt : Option Addr) (ct : Nat) (w : World) (hI : Is w a code) (hc : code.length ≤ c) (hL : ∀ i ∈ code, i.label.length ≤ 9223372036854775807)
    (hV : Vs w b l) (hs : SmV l) (hT : Ints w bt told) (he : (linksV code).2.1 = 0) (g : Gl w) :
    Calls Tryz.prog 7 #[.slice a code.length c, .slice b l.length cb, .slice bt told.length ct] w (Ret w (.bool true)) := by
  have AW := hid awake10
  have HES := hid (fun (x : List Vl) (k : Nat) (h : RegsOk x) (hk : k < code.length) => ends_step he h hk)
  have hn256 := linksV_short he
  have PL := fun (w : World) (hI : Is w a code) => progLinks code a c hc hL w hI
  have RL := fun (w : World) (hI : Is w a code) => refLinks code a c hL w hI
  have PD := hid (fun (x : List Vl) (k : Nat) (ar : Option Addr) (cr : Nat) (hx : RegsOk x) (w : World) (hI : Is w a code) (hV : Vs w ar x) => (show Calls Tryz.prog 25 #[.slice a code.length c, .agg #[.slice ar 32 cr, .int .i64 k]] w (RetDo (doV code x k) w) from by
    have h := progDo code a c x ar cr k hc hL (SmV.of_ok hx) w hI hV
    rw [hx.1] at h; exact h))
  have RD := hid (fun (x : List Vl) (k : Nat) (ar : Option Addr) (cr : Nat) (hx : RegsOk x) (w : World) (hI : Is w a code) (hV : Vs w ar x) => (show Calls Tryz.prog 26 #[.slice a code.length c, .agg #[.slice ar 32 cr, .int .i64 k]] w (RetDo (doV code x k) w) from by
    have h := refDo code a c x ar cr k hL (SmV.of_ok hx) w hI hV
    rw [hx.1] at h; exact h))
  obtain ⟨⟨L, x, y⟩, hr⟩ : ∃ r, linksV code = r := ⟨_, rfl⟩
  rw [hr] at PL RL he
  obtain rfl : x = 0 := he
  have PL := hid (show ∀ (w : World), Is w a code → Calls Tryz.prog 17 #[.slice a code.length c] w (RetL4 L 0 y w) from PL)
  have RL := hid (show ∀ (w : World), Is w a code → Calls Tryz.prog 18 #[.slice a code.length c] w (RetL4 L 0 y w) from RL)
  have HI := hid hI; have HG := hid g; have HV := hid hV; have HT := hid hT
  have HSV := hid (fun (v : Vl) (hv : v ∈ l) (w : World) => refIsVal v (hs v hv) w)
  have hVl := hV.len; have hTl := hT.len
  have HX := hid hV.idx
  have HXT := hid (fun (k : Nat) (hk : k < told.length) => hT.idx isl k hk)
  have HG0 := hid (fun (k : Nat) (hk : k < l.length) => show ∃ v, l[k]? = some v ∧ v ∈ l from ⟨l[k], List.getElem?_eq_getElem hk, List.getElem_mem hk⟩)
  have HGT := hid (fun (k : Nat) (hk : k < told.length) (w : World) (h : Ints w bt told) => show ∃ v, w.cell? ⟨bk bt, fo bt + k, none⟩ = some (.int .i64 v) from ⟨told[k], h.cell k hk⟩)
  clear hr hL hc g hV hT hs
  generalize code.length = n at *
  generalize l.length = m at *
  generalize told.length = mt at *
  go_enter Tryz.func7, Tryz.ntmps7
  go_wp2_with fail
  refine (PL.out _ hI).mono ?_
  rintro e w1 ⟨aA, cA, rfl, oA, E1⟩
  have I1 := hI.below E1
  clear oA
  go_wp2_with fail
  refine (RL.out _ I1).mono ?_
  rintro e w2 ⟨aB, cB, rfl, oB, E2⟩
  have E := ext_trans E1 E2
  clear oB E1 E2 I1 hI
  go_wp2_with (at_make; go_loud (refine wpList_mk vsl _ _ rfl rfl 32 rfl rfl (by omega) (by omega) (by omega) (by unfold maxLen; omega) (Below.refl _ w2) (Nat.le_refl _) ?_))
  intro ar w3 o1 st1 B1
  have hn := Own.some o1 (by omega)
  have o1 : OwnV w3 w.heap.size ar 32 32 (List.replicate 32 vl0) := Own.mono (by have h := o1; have e := madeV32; simp only [Value.cells] at e; show Own _ _ _ _ _ _ _ (valsC _); rw [← e]; exact h) E.size
  have hlt := (Own.lt o1 hn).2
  have E := ext_trans E B1
  have hw3 := E.size
  clear st1 B1
  go_wp2_with fail
  go_loopw [14] (fun i wr => ∃ (k : Nat) (x : List Vl), 1 ≤ k ∧ k ≤ 32 ∧ i = .int .i64 k ∧ RegsOk x ∧ OwnV wr w.heap.size ar 32 32 x ∧ BxT wr w3.heap.size ar 32 32 0 ∧ (∀ j, wr.frozen? ⟨w3.heap.size, j, none⟩ = false) ∧ Below w.heap.size w wr) (fun i _ => 32 - (intOf i).toNat)
  case atStart => exact ⟨1, _, Nat.le_refl _, by omega, rfl, zeros_ok, Own.below o1 (al _ _), BxT.new _ ar 32 32 0, frozT _ ar 32 32 0 _ rfl, bel_alloc E _⟩
  case round =>
    clear o1 E
    obtain ⟨k, x, hk0, hk, rfl, hok, oR, D, fz, E⟩ := hrel
    have V1 := HV.out.below E
    by_cases hcond : k < 32 ∧ k < m
    · obtain ⟨hk1, hk2⟩ := hcond
      obtain ⟨v, hv, hvm⟩ := HG0.out k hk2
      obtain ⟨p0, p1⟩ := V1.cells hv
      have ix := HX.out k hk2
      have IV := HSV.out v hvm
      have HOK := hid hok
      have HOR := hid oR; have HD := hid D
      obtain ⟨mb, hmb⟩ : ∃ mb, mayB v = mb := ⟨_, rfl⟩
      rw [hmb] at IV
      have HMB := hid hmb
      have IV := hid IV
      obtain ⟨d, d0, d1⟩ := D
      clear hv hvm hok hmb oR
      cases mb
      · go_wp2_with fail
        refine (IV.out _).mono ?_
        rintro e w4 ⟨rfl, E4⟩
        have oR := Own.below HOR.out E4
        have D := HD.out.below E4
        have fz4 : ∀ j, w4.frozen? ⟨w3.heap.size, j, none⟩ = false := fun j => by rw [E4.frozen (p := ⟨w3.heap.size, j, none⟩) d]; exact fz j
        have E := E.trans (E4.mono E.size)
        clear d d0 d1 p0 p1
        go_wp2_with fail
        go_roundw
        case rel => exact ⟨k + 1, x, by omega, by omega, by go_num, HOK.out, oR, D, fz4, E⟩
        case measure => simp [intOf]; omega
      · go_wp2_with fail
        refine (IV.out _).mono ?_
        rintro e w4 ⟨rfl, E4⟩
        have oR := Own.below HOR.out E4
        have D := HD.out.below E4
        have fz4 : ∀ j, w4.frozen? ⟨w3.heap.size, j, none⟩ = false := fun j => by rw [E4.frozen (p := ⟨w3.heap.size, j, none⟩) d]; exact fz j
        have E := E.trans (E4.mono E.size)
        have V4 := V1.below E4
        have hl32 := HOK.out.1
        have VR := OwnV.vs oR (by omega)
        have iy := VR.idx k (by omega)
        rw [hl32] at iy
        obtain ⟨y', hy'⟩ : ∃ y, x[k]? = some y := ⟨_, List.getElem?_eq_getElem (by omega)⟩
        obtain ⟨q0, q1⟩ := VR.cells hy'
        have f0 := Own.frozen oR hn (k * 2)
        have f1 := Own.frozen oR hn (k * 2 + 1)
        rw [← Nat.add_assoc] at f1
        have p0 : w4.cell? ⟨bk b, fo b + k * 2, none⟩ = some (.string (tx v.loc)) := (E4.cell (p := ⟨bk b, fo b + k * 2, none⟩) (cell?_lt p0)).trans p0
        have p1 : w4.cell? ⟨bk b, fo b + k * 2 + 1, none⟩ = some (.int .i64 v.n) := (E4.cell (p := ⟨bk b, fo b + k * 2 + 1, none⟩) (cell?_lt p1)).trans p1
        have hR := hid (HOK.out.set (show k ≠ 0 by omega) HMB.out)
        obtain ⟨o2, st2⟩ := OwnV.set oR hn k (by omega) v
        have hne : ar = none ∨ bk ar ≠ w3.heap.size := .inr (by omega)
        have O2 := hid o2
        have E2 := hid (st2.below oR E E.size)
        have D2 := hid (D.step st2 hne)
        have fz2 := hid (fun (j : Nat) => show ((w4.setCell ⟨bk ar, fo ar + k * 2, none⟩ (.string (tx v.loc))).setCell ⟨bk ar, fo ar + k * 2 + 1, none⟩ (.int .i64 v.n)).frozen? ⟨w3.heap.size, j, none⟩ = false by rw [World.frozen?_setCell, World.frozen?_setCell]; exact fz4 j)
        obtain ⟨d', d0', d1'⟩ := D
        clear d d0 d1 hy' o2 st2 oR VR V4 V1 fz4
        go_wp2_with fail
        go_region
        all_goals
          go_wp2_with fail
          go_roundw
          case rel => exact ⟨k + 1, x.set k v, by omega, by omega, by go_num, hR.out, own_drew O2.out, D2.out.drew, (fun j => fz2.out j), bel_drew E2.out⟩
          case measure => simp [intOf]; omega
    · have hD := D
      obtain ⟨d, d0, d1⟩ := D
      have D := hD
      clear hD
      by_cases hk32 : k < 32
      · have zz : decide ((k : Int) < 32) = true := decide_eq_true (by omega)
        have hkm : ¬ k < m := fun h => hcond ⟨hk32, h⟩
        have zm : decide ((k : Int) < (m : Int)) = false := decide_eq_false (by omega)
        go_wp2_with fail
        generalize wr = wv at *
        go_loopw [15] (fun s wr => ∃ (k n' : Nat) (ar : Option Addr) (cr : Nat) (x : List Vl), k ≤ n ∧ n' ≤ k ∧ s = .int .i64 n' ∧ RegsOk x ∧ OwnV wr w.heap.size ar 32 cr x ∧ BxT wr w3.heap.size ar 32 cr k ∧ (∀ j, wr.frozen? ⟨w3.heap.size, j, none⟩ = false) ∧ Below w.heap.size w wr) (fun _ wr => n - kOf wr w3.heap.size)
        case atStart => exact ⟨0, 0, ar, 32, x, by omega, Nat.le_refl _, rfl, hok, oR, D, fz, E⟩
        case round =>
          clear hok oR D fz E
          obtain ⟨k, n', ar, cr, x, hk, hnk, rfl, hok, oR, D, fz, E⟩ := hrel
          have HD := hid D
          have hd := D.1
          obtain ⟨d, d0, d1⟩ := D
          by_cases hkn : k < n
          · have V := OwnV.vs oR (by have := hok.1; omega)
            have I := HI.out.below E
            rcases HES.out x k hok hkn with hE | ⟨R, q, A, hE, hokR, hq1, hq2⟩
            · have P1 := PD.out x k ar cr hok _ I V
              rw [hE] at P1
              have P1 : Calls Tryz.prog 25 #[.slice a n c, .agg #[.slice ar 32 cr, .int .i64 k]] wr (fun e w' => ∃ aR cR, e = .returned (.tuple #[.agg #[.slice aR 0 cR, .int .i64 0], .agg #[.int .i64 0, .string ⟨#[]⟩, .int .i64 0, .int .i64 0, .int .i64 0], .int .i64 92]) ∧ Below wr.heap.size wr w') := P1.mono fun e w' ⟨a', c', he, ho, hb⟩ => ⟨a', c', he, hb⟩
              have P2 := hid (fun (w : World) (hI : Is w a code) (hV : Vs w ar x) => (show Calls Tryz.prog 26 #[.slice a n c, .agg #[.slice ar 32 cr, .int .i64 k]] w (fun e w' => ∃ aR cR, e = .returned (.tuple #[.agg #[.slice aR 0 cR, .int .i64 0], .agg #[.int .i64 0, .string ⟨#[]⟩, .int .i64 0, .int .i64 0, .int .i64 0], .int .i64 92]) ∧ Below w.heap.size w w') from by
                have h := RD.out x k ar cr hok w hI hV
                rw [hE] at h
                exact h.mono fun e w' ⟨a', c', he, ho, hb⟩ => ⟨a', c', he, hb⟩))
              have P1 := hid P1
              clear hE hok fz oR
              go_wp2_with fail
              refine P1.out.mono ?_
              rintro e w4 ⟨aR, cR, rfl, E4⟩
              have E5 := ext_trans E4 (bel_alloc (al w4 (boxT aR 0 cR 0)) zAc)
              have I5 := I.below E5; have V5 := V.below E5
              have D5 := HD.out.below E5
              have EE := E.trans (E5.mono E.size)
              clear d d0 d1
              obtain ⟨d, d0, d1⟩ := D5
              go_wp2_with fail
              refine (P2.out _ I5 V5).mono ?_
              rintro e w6 ⟨aW, cW, rfl, E6⟩
              have EE := bel_alloc (bel_alloc (EE.trans (E6.mono EE.size)) (boxT aW 0 cW 0)) zAc
              have G := HG.out.below EE
              clear d d0 d1
              go_wp2_with fail
              refine (AW.out _ G).mono ?_
              rintro e w7 ⟨rfl, E7⟩
              have EE := EE.trans (E7.mono EE.size)
              go_wp2_with fail
              go_ret
              exact ⟨rfl, EE⟩
            · have P1 := PD.out x k ar cr hok _ I V
              rw [hE] at P1
              have P1 := hid (show Calls Tryz.prog 25 #[.slice a n c, .agg #[.slice ar 32 cr, .int .i64 k]] wr (RetD R 32 q A 0 wr) from P1.mono fun e w' ⟨a', c', he, ho, hb⟩ => by
                simp only [hokR.1] at he ho
                exact ⟨a', c', he, ho, hb⟩)
              have hwn : IntKind.i64.wrap ((n' : Int) + 1) = (n' : Int) + 1 := IntWalk.i64_in _ (by omega)
              have zq1 : decide (q ≤ k) = false := decide_eq_false (by omega)
              have zq2 : decide (n < q) = false := decide_eq_false (by omega)
              clear hE hok oR V I
              go_wp2_with fail
              refine P1.out.mono ?_
              rintro e w4 ⟨aR, cR, rfl, oR2, E2⟩
              have hlo3 := (Own.lt oR2 (Own.some oR2 (by omega))).1
              have D4 := HD.out.below E2
              have T4 := HT.out.below (E.trans (E2.mono E.size))
              clear d d0 d1
              obtain ⟨d, d0, d1⟩ := D4
              by_cases hk2 : A.kind = 2
              · have zk : (A.kind == 2) = true := by simpa using hk2
                clear hk2
                by_cases hr1 : 0 < A.reg
                · have zr1 : decide (0 < A.reg) = true := decide_eq_true hr1
                  by_cases hr2 : A.reg < 32
                  · have zr2 : decide (A.reg < 32) = true := decide_eq_true hr2
                    obtain ⟨r, hr⟩ : ∃ r : Nat, A.reg = r := ⟨A.reg.toNat, by omega⟩
                    have hr0 : r ≠ 0 := by omega
                    have hr32 : r < 32 := by omega
                    clear hr1 hr2
                    obtain ⟨kd, lc, vl, rg, fc⟩ := A
                    simp only at hr zk zr1 zr2
                    subst hr
                    by_cases ht1 : n' < mt
                    · have zt1 : decide (n' < mt) = true := decide_eq_true ht1
                      obtain ⟨tv, htv⟩ := HGT.out n' ht1 _ T4
                      have hbt : bk bt < w4.heap.size := cell?_lt (p := ⟨bk bt, fo bt + n', none⟩) htv
                      have hbt1 : bk bt < w4.heap.size + 1 := by omega
                      have it := HXT.out n' ht1
                      by_cases ht2 : -2147483648 ≤ tv
                      · have zt2 : decide (-2147483648 ≤ tv) = true := decide_eq_true ht2
                        by_cases ht3 : tv ≤ 2147483647
                        · have zt3 : decide (tv ≤ 2147483647) = true := decide_eq_true ht3
                          have hn32 : n32 tv := ⟨ht2, ht3⟩
                          clear ht1 ht2 ht3
                          have hnR := Own.some oR2 (by omega)
                          have hltR := Own.lt oR2 hnR
                          have V4 := OwnV.vs oR2 (by have := hokR.1; omega)
                          have iy := V4.idx r (by have := hokR.1; omega)
                          rw [hokR.1] at iy
                          obtain ⟨y', hy'⟩ : ∃ y, R[r]? = some y := ⟨_, List.getElem?_eq_getElem (by have := hokR.1; omega)⟩
                          obtain ⟨q0, q1⟩ := V4.cells hy'
                          have u0 := Own.frozen oR2 hnR (r * 2)
                          have u1 := Own.frozen oR2 hnR (r * 2 + 1)
                          rw [← Nat.add_assoc] at u1
                          obtain ⟨o2, st2⟩ := OwnV.set oR2 hnR r (by have := hokR.1; omega) (vn tv)
                          have oS : OwnV ((w4.setCell ⟨bk aR, fo aR + r * 2, none⟩ (.string ⟨#[]⟩)).setCell ⟨bk aR, fo aR + r * 2 + 1, none⟩ (.int .i64 tv)) wr.heap.size aR 32 cR (R.set r (vn tv)) := o2
                          have st2 : Step w4 ((w4.setCell ⟨bk aR, fo aR + r * 2, none⟩ (.string ⟨#[]⟩)).setCell ⟨bk aR, fo aR + r * 2 + 1, none⟩ (.int .i64 tv)) aR aR := st2
                          have DS := (HD.out.below E2).step st2 (.inr (by omega))
                          have FS : ∀ j, ((w4.setCell ⟨bk aR, fo aR + r * 2, none⟩ (.string ⟨#[]⟩)).setCell ⟨bk aR, fo aR + r * 2 + 1, none⟩ (.int .i64 tv)).frozen? ⟨w3.heap.size, j, none⟩ = false := fun j => by rw [World.frozen?_setCell, World.frozen?_setCell, E2.frozen (p := ⟨w3.heap.size, j, none⟩) hd]; exact fz j
                          have ROK := hid (hokR.set (show r ≠ 0 by omega) (mayB_vn (x := tv) hn32))
                          have ES := E.trans ((st2.below oR2 E2 E2.size).mono E.size)
                          have hne1 : w3.heap.size < bk aR := by omega
                          have hne2 : bk aR < w4.heap.size := hltR.2
                          have hne3 : bk aR < w4.heap.size + 1 := by omega
                          clear hokR hy' V4 o2 st2 hltR
                          have hlo2 := (Own.lt oS (Own.some oS (by omega))).1
                          have hO : aR = none ∨ bk aR ≠ w3.heap.size := .inr (by omega)
                          have FZ := hid (fun (o p : Obj) (j : Nat) => show ((((((w4.setCell ⟨bk aR, fo aR + r * 2, none⟩ (.string ⟨#[]⟩)).setCell ⟨bk aR, fo aR + r * 2 + 1, none⟩ (.int .i64 tv)).setCell ⟨w3.heap.size, 0, none⟩ (.slice aR 32 cR)).setCell ⟨w3.heap.size, 1, none⟩ (.int .i64 q)).alloc o).alloc p).frozen? ⟨w3.heap.size, j, none⟩ = false by
                            have hsz := DS.1
                            rw [(al _ p).frozen (p := ⟨w3.heap.size, j, none⟩) (by simp at hsz ⊢; omega), (al _ o).frozen (p := ⟨w3.heap.size, j, none⟩) (by simp at hsz ⊢; omega), World.frozen?_setCell, World.frozen?_setCell]; exact FS j)
                          have OO := hid (fun (o p : Obj) => show OwnV ((((((w4.setCell ⟨bk aR, fo aR + r * 2, none⟩ (.string ⟨#[]⟩)).setCell ⟨bk aR, fo aR + r * 2 + 1, none⟩ (.int .i64 tv)).setCell ⟨w3.heap.size, 0, none⟩ (.slice aR 32 cR)).setCell ⟨w3.heap.size, 1, none⟩ (.int .i64 q)).alloc o).alloc p) w.heap.size aR 32 cR (R.set r (vn tv)) from
                            Own.below (Own.below (own_other (own_other (Own.mono oS E.size) hO) hO) (al _ o)) (al _ p))
                          have DP := hid (fun (o p : Obj) => show BxT ((((((w4.setCell ⟨bk aR, fo aR + r * 2, none⟩ (.string ⟨#[]⟩)).setCell ⟨bk aR, fo aR + r * 2 + 1, none⟩ (.int .i64 tv)).setCell ⟨w3.heap.size, 0, none⟩ (.slice aR 32 cR)).setCell ⟨w3.heap.size, 1, none⟩ (.int .i64 q)).alloc o).alloc p) w3.heap.size aR 32 cR q from ((DS.put aR 32 cR q).allocO o).allocO p)
                          have f0 := FS 0; have f1 := FS 1
                          obtain ⟨d', d0', d1'⟩ := DS
                          clear oS FS
                          go_wp2_with fail
                          go_roundw
                          case rel => exact ⟨q, (n' + 1), aR, cR, (R.set r (vn tv)), hq2, by omega, by go_num, ROK.out, OO.out _ _, DP.out _ _, FZ.out _ _, (by repeat (first | with_reducible assumption | with_reducible exact Below.refl _ _ | with_reducible refine bel_alloc ?_ _ | with_reducible refine bel_drew ?_ | with_reducible refine bel_set ?_ (by dsimp only; omega) _))⟩
                          case measure =>
                            rw [kOf_box (DP.out _ _), kOf_box HD.out]; omega
                        · have zt3 : decide (tv ≤ 2147483647) = false := decide_eq_false ht3
                          clear ht1 ht2 ht3
                          have hnR := Own.some oR2 (by omega)
                          have hltR := Own.lt oR2 hnR
                          have V4 := OwnV.vs oR2 (by have := hokR.1; omega)
                          have iy := V4.idx r (by have := hokR.1; omega)
                          rw [hokR.1] at iy
                          obtain ⟨y', hy'⟩ : ∃ y, R[r]? = some y := ⟨_, List.getElem?_eq_getElem (by have := hokR.1; omega)⟩
                          obtain ⟨q0, q1⟩ := V4.cells hy'
                          have u0 := Own.frozen oR2 hnR (r * 2)
                          have u1 := Own.frozen oR2 hnR (r * 2 + 1)
                          rw [← Nat.add_assoc] at u1
                          obtain ⟨o2, st2⟩ := OwnV.set oR2 hnR r (by have := hokR.1; omega) (vn 0)
                          have oS : OwnV ((w4.setCell ⟨bk aR, fo aR + r * 2, none⟩ (.string ⟨#[]⟩)).setCell ⟨bk aR, fo aR + r * 2 + 1, none⟩ (.int .i64 0)) wr.heap.size aR 32 cR (R.set r (vn 0)) := o2
                          have st2 : Step w4 ((w4.setCell ⟨bk aR, fo aR + r * 2, none⟩ (.string ⟨#[]⟩)).setCell ⟨bk aR, fo aR + r * 2 + 1, none⟩ (.int .i64 0)) aR aR := st2
                          have DS := (HD.out.below E2).step st2 (.inr (by omega))
                          have FS : ∀ j, ((w4.setCell ⟨bk aR, fo aR + r * 2, none⟩ (.string ⟨#[]⟩)).setCell ⟨bk aR, fo aR + r * 2 + 1, none⟩ (.int .i64 0)).frozen? ⟨w3.heap.size, j, none⟩ = false := fun j => by rw [World.frozen?_setCell, World.frozen?_setCell, E2.frozen (p := ⟨w3.heap.size, j, none⟩) hd]; exact fz j
                          have ROK := hid (hokR.set (show r ≠ 0 by omega) (mayB_vn (x := 0) (by unfold n32; omega)))
                          have ES := E.trans ((st2.below oR2 E2 E2.size).mono E.size)
                          have hne1 : w3.heap.size < bk aR := by omega
                          have hne2 : bk aR < w4.heap.size := hltR.2
                          have hne3 : bk aR < w4.heap.size + 1 := by omega
                          clear hokR hy' V4 o2 st2 hltR
                          have hlo2 := (Own.lt oS (Own.some oS (by omega))).1
                          have hO : aR = none ∨ bk aR ≠ w3.heap.size := .inr (by omega)
                          have FZ := hid (fun (o p : Obj) (j : Nat) => show ((((((w4.setCell ⟨bk aR, fo aR + r * 2, none⟩ (.string ⟨#[]⟩)).setCell ⟨bk aR, fo aR + r * 2 + 1, none⟩ (.int .i64 0)).setCell ⟨w3.heap.size, 0, none⟩ (.slice aR 32 cR)).setCell ⟨w3.heap.size, 1, none⟩ (.int .i64 q)).alloc o).alloc p).frozen? ⟨w3.heap.size, j, none⟩ = false by
                            have hsz := DS.1
                            rw [(al _ p).frozen (p := ⟨w3.heap.size, j, none⟩) (by simp at hsz ⊢; omega), (al _ o).frozen (p := ⟨w3.heap.size, j, none⟩) (by simp at hsz ⊢; omega), World.frozen?_setCell, World.frozen?_setCell]; exact FS j)
                          have OO := hid (fun (o p : Obj) => show OwnV ((((((w4.setCell ⟨bk aR, fo aR + r * 2, none⟩ (.string ⟨#[]⟩)).setCell ⟨bk aR, fo aR + r * 2 + 1, none⟩ (.int .i64 0)).setCell ⟨w3.heap.size, 0, none⟩ (.slice aR 32 cR)).setCell ⟨w3.heap.size, 1, none⟩ (.int .i64 q)).alloc o).alloc p) w.heap.size aR 32 cR (R.set r (vn 0)) from
                            Own.below (Own.below (own_other (own_other (Own.mono oS E.size) hO) hO) (al _ o)) (al _ p))
                          have DP := hid (fun (o p : Obj) => show BxT ((((((w4.setCell ⟨bk aR, fo aR + r * 2, none⟩ (.string ⟨#[]⟩)).setCell ⟨bk aR, fo aR + r * 2 + 1, none⟩ (.int .i64 0)).setCell ⟨w3.heap.size, 0, none⟩ (.slice aR 32 cR)).setCell ⟨w3.heap.size, 1, none⟩ (.int .i64 q)).alloc o).alloc p) w3.heap.size aR 32 cR q from ((DS.put aR 32 cR q).allocO o).allocO p)
                          have f0 := FS 0; have f1 := FS 1
                          obtain ⟨d', d0', d1'⟩ := DS
                          clear oS FS
                          go_wp2_with fail
                          go_roundw
                          case rel => exact ⟨q, (n' + 1), aR, cR, (R.set r (vn 0)), hq2, by omega, by go_num, ROK.out, OO.out _ _, DP.out _ _, FZ.out _ _, (by repeat (first | with_reducible assumption | with_reducible exact Below.refl _ _ | with_reducible refine bel_alloc ?_ _ | with_reducible refine bel_drew ?_ | with_reducible refine bel_set ?_ (by dsimp only; omega) _))⟩
                          case measure =>
                            rw [kOf_box (DP.out _ _), kOf_box HD.out]; omega
                      · have zt2 : decide (-2147483648 ≤ tv) = false := decide_eq_false ht2
                        clear ht1 ht2
                        have hnR := Own.some oR2 (by omega)
                        have hltR := Own.lt oR2 hnR
                        have V4 := OwnV.vs oR2 (by have := hokR.1; omega)
                        have iy := V4.idx r (by have := hokR.1; omega)
                        rw [hokR.1] at iy
                        obtain ⟨y', hy'⟩ : ∃ y, R[r]? = some y := ⟨_, List.getElem?_eq_getElem (by have := hokR.1; omega)⟩
                        obtain ⟨q0, q1⟩ := V4.cells hy'
                        have u0 := Own.frozen oR2 hnR (r * 2)
                        have u1 := Own.frozen oR2 hnR (r * 2 + 1)
                        rw [← Nat.add_assoc] at u1
                        obtain ⟨o2, st2⟩ := OwnV.set oR2 hnR r (by have := hokR.1; omega) (vn 0)
                        have oS : OwnV ((w4.setCell ⟨bk aR, fo aR + r * 2, none⟩ (.string ⟨#[]⟩)).setCell ⟨bk aR, fo aR + r * 2 + 1, none⟩ (.int .i64 0)) wr.heap.size aR 32 cR (R.set r (vn 0)) := o2
                        have st2 : Step w4 ((w4.setCell ⟨bk aR, fo aR + r * 2, none⟩ (.string ⟨#[]⟩)).setCell ⟨bk aR, fo aR + r * 2 + 1, none⟩ (.int .i64 0)) aR aR := st2
                        have DS := (HD.out.below E2).step st2 (.inr (by omega))
                        have FS : ∀ j, ((w4.setCell ⟨bk aR, fo aR + r * 2, none⟩ (.string ⟨#[]⟩)).setCell ⟨bk aR, fo aR + r * 2 + 1, none⟩ (.int .i64 0)).frozen? ⟨w3.heap.size, j, none⟩ = false := fun j => by rw [World.frozen?_setCell, World.frozen?_setCell, E2.frozen (p := ⟨w3.heap.size, j, none⟩) hd]; exact fz j
                        have ROK := hid (hokR.set (show r ≠ 0 by omega) (mayB_vn (x := 0) (by unfold n32; omega)))
                        have ES := E.trans ((st2.below oR2 E2 E2.size).mono E.size)
                        have hne1 : w3.heap.size < bk aR := by omega
                        have hne2 : bk aR < w4.heap.size := hltR.2
                        have hne3 : bk aR < w4.heap.size + 1 := by omega
                        clear hokR hy' V4 o2 st2 hltR
                        have hlo2 := (Own.lt oS (Own.some oS (by omega))).1
                        have hO : aR = none ∨ bk aR ≠ w3.heap.size := .inr (by omega)
                        have FZ := hid (fun (o p : Obj) (j : Nat) => show ((((((w4.setCell ⟨bk aR, fo aR + r * 2, none⟩ (.string ⟨#[]⟩)).setCell ⟨bk aR, fo aR + r * 2 + 1, none⟩ (.int .i64 0)).setCell ⟨w3.heap.size, 0, none⟩ (.slice aR 32 cR)).setCell ⟨w3.heap.size, 1, none⟩ (.int .i64 q)).alloc o).alloc p).frozen? ⟨w3.heap.size, j, none⟩ = false by
                          have hsz := DS.1
                          rw [(al _ p).frozen (p := ⟨w3.heap.size, j, none⟩) (by simp at hsz ⊢; omega), (al _ o).frozen (p := ⟨w3.heap.size, j, none⟩) (by simp at hsz ⊢; omega), World.frozen?_setCell, World.frozen?_setCell]; exact FS j)
                        have OO := hid (fun (o p : Obj) => show OwnV ((((((w4.setCell ⟨bk aR, fo aR + r * 2, none⟩ (.string ⟨#[]⟩)).setCell ⟨bk aR, fo aR + r * 2 + 1, none⟩ (.int .i64 0)).setCell ⟨w3.heap.size, 0, none⟩ (.slice aR 32 cR)).setCell ⟨w3.heap.size, 1, none⟩ (.int .i64 q)).alloc o).alloc p) w.heap.size aR 32 cR (R.set r (vn 0)) from
                          Own.below (Own.below (own_other (own_other (Own.mono oS E.size) hO) hO) (al _ o)) (al _ p))
                        have DP := hid (fun (o p : Obj) => show BxT ((((((w4.setCell ⟨bk aR, fo aR + r * 2, none⟩ (.string ⟨#[]⟩)).setCell ⟨bk aR, fo aR + r * 2 + 1, none⟩ (.int .i64 0)).setCell ⟨w3.heap.size, 0, none⟩ (.slice aR 32 cR)).setCell ⟨w3.heap.size, 1, none⟩ (.int .i64 q)).alloc o).alloc p) w3.heap.size aR 32 cR q from ((DS.put aR 32 cR q).allocO o).allocO p)
                        have f0 := FS 0; have f1 := FS 1
                        obtain ⟨d', d0', d1'⟩ := DS
                        clear oS FS
                        go_wp2_with fail
                        go_roundw
                        case rel => exact ⟨q, (n' + 1), aR, cR, (R.set r (vn 0)), hq2, by omega, by go_num, ROK.out, OO.out _ _, DP.out _ _, FZ.out _ _, (by repeat (first | with_reducible assumption | with_reducible exact Below.refl _ _ | with_reducible refine bel_alloc ?_ _ | with_reducible refine bel_drew ?_ | with_reducible refine bel_set ?_ (by dsimp only; omega) _))⟩
                        case measure =>
                          rw [kOf_box (DP.out _ _), kOf_box HD.out]; omega
                    · have zt1 : decide (n' < mt) = false := decide_eq_false ht1
                      clear ht1
                      have hnR := Own.some oR2 (by omega)
                      have hltR := Own.lt oR2 hnR
                      have V4 := OwnV.vs oR2 (by have := hokR.1; omega)
                      have iy := V4.idx r (by have := hokR.1; omega)
                      rw [hokR.1] at iy
                      obtain ⟨y', hy'⟩ : ∃ y, R[r]? = some y := ⟨_, List.getElem?_eq_getElem (by have := hokR.1; omega)⟩
                      obtain ⟨q0, q1⟩ := V4.cells hy'
                      have u0 := Own.frozen oR2 hnR (r * 2)
                      have u1 := Own.frozen oR2 hnR (r * 2 + 1)
                      rw [← Nat.add_assoc] at u1
                      obtain ⟨o2, st2⟩ := OwnV.set oR2 hnR r (by have := hokR.1; omega) (vn 0)
                      have oS : OwnV ((w4.setCell ⟨bk aR, fo aR + r * 2, none⟩ (.string ⟨#[]⟩)).setCell ⟨bk aR, fo aR + r * 2 + 1, none⟩ (.int .i64 0)) wr.heap.size aR 32 cR (R.set r (vn 0)) := o2
                      have st2 : Step w4 ((w4.setCell ⟨bk aR, fo aR + r * 2, none⟩ (.string ⟨#[]⟩)).setCell ⟨bk aR, fo aR + r * 2 + 1, none⟩ (.int .i64 0)) aR aR := st2
                      have DS := (HD.out.below E2).step st2 (.inr (by omega))
                      have FS : ∀ j, ((w4.setCell ⟨bk aR, fo aR + r * 2, none⟩ (.string ⟨#[]⟩)).setCell ⟨bk aR, fo aR + r * 2 + 1, none⟩ (.int .i64 0)).frozen? ⟨w3.heap.size, j, none⟩ = false := fun j => by rw [World.frozen?_setCell, World.frozen?_setCell, E2.frozen (p := ⟨w3.heap.size, j, none⟩) hd]; exact fz j
                      have ROK := hid (hokR.set (show r ≠ 0 by omega) (mayB_vn (x := 0) (by unfold n32; omega)))
                      have ES := E.trans ((st2.below oR2 E2 E2.size).mono E.size)
                      have hne1 : w3.heap.size < bk aR := by omega
                      have hne2 : bk aR < w4.heap.size := hltR.2
                      have hne3 : bk aR < w4.heap.size + 1 := by omega
                      clear hokR hy' V4 o2 st2 hltR
                      have hlo2 := (Own.lt oS (Own.some oS (by omega))).1
                      have hO : aR = none ∨ bk aR ≠ w3.heap.size := .inr (by omega)
                      have FZ := hid (fun (o p : Obj) (j : Nat) => show ((((((w4.setCell ⟨bk aR, fo aR + r * 2, none⟩ (.string ⟨#[]⟩)).setCell ⟨bk aR, fo aR + r * 2 + 1, none⟩ (.int .i64 0)).setCell ⟨w3.heap.size, 0, none⟩ (.slice aR 32 cR)).setCell ⟨w3.heap.size, 1, none⟩ (.int .i64 q)).alloc o).alloc p).frozen? ⟨w3.heap.size, j, none⟩ = false by
                        have hsz := DS.1
                        rw [(al _ p).frozen (p := ⟨w3.heap.size, j, none⟩) (by simp at hsz ⊢; omega), (al _ o).frozen (p := ⟨w3.heap.size, j, none⟩) (by simp at hsz ⊢; omega), World.frozen?_setCell, World.frozen?_setCell]; exact FS j)
                      have OO := hid (fun (o p : Obj) => show OwnV ((((((w4.setCell ⟨bk aR, fo aR + r * 2, none⟩ (.string ⟨#[]⟩)).setCell ⟨bk aR, fo aR + r * 2 + 1, none⟩ (.int .i64 0)).setCell ⟨w3.heap.size, 0, none⟩ (.slice aR 32 cR)).setCell ⟨w3.heap.size, 1, none⟩ (.int .i64 q)).alloc o).alloc p) w.heap.size aR 32 cR (R.set r (vn 0)) from
                        Own.below (Own.below (own_other (own_other (Own.mono oS E.size) hO) hO) (al _ o)) (al _ p))
                      have DP := hid (fun (o p : Obj) => show BxT ((((((w4.setCell ⟨bk aR, fo aR + r * 2, none⟩ (.string ⟨#[]⟩)).setCell ⟨bk aR, fo aR + r * 2 + 1, none⟩ (.int .i64 0)).setCell ⟨w3.heap.size, 0, none⟩ (.slice aR 32 cR)).setCell ⟨w3.heap.size, 1, none⟩ (.int .i64 q)).alloc o).alloc p) w3.heap.size aR 32 cR q from ((DS.put aR 32 cR q).allocO o).allocO p)
                      have f0 := FS 0; have f1 := FS 1
                      obtain ⟨d', d0', d1'⟩ := DS
                      clear oS FS
                      go_wp2_with fail
                      go_roundw
                      case rel => exact ⟨q, (n' + 1), aR, cR, (R.set r (vn 0)), hq2, by omega, by go_num, ROK.out, OO.out _ _, DP.out _ _, FZ.out _ _, (by repeat (first | with_reducible assumption | with_reducible exact Below.refl _ _ | with_reducible refine bel_alloc ?_ _ | with_reducible refine bel_drew ?_ | with_reducible refine bel_set ?_ (by dsimp only; omega) _))⟩
                      case measure =>
                        rw [kOf_box (DP.out _ _), kOf_box HD.out]; omega
                  · have zr2 : decide (A.reg < 32) = false := decide_eq_false hr2
                    clear hr1 hr2
                    have oS := oR2
                    have DS := HD.out.below E2
                    have FS : ∀ j, w4.frozen? ⟨w3.heap.size, j, none⟩ = false := fun j => by rw [E2.frozen (p := ⟨w3.heap.size, j, none⟩) hd]; exact fz j
                    have ROK := hid hokR
                    have ES := E.trans (E2.mono E.size)
                    clear hokR
                    have hlo2 := (Own.lt oS (Own.some oS (by omega))).1
                    have hO : aR = none ∨ bk aR ≠ w3.heap.size := .inr (by omega)
                    have FZ := hid (fun (o p : Obj) (j : Nat) => show ((((w4.setCell ⟨w3.heap.size, 0, none⟩ (.slice aR 32 cR)).setCell ⟨w3.heap.size, 1, none⟩ (.int .i64 q)).alloc o).alloc p).frozen? ⟨w3.heap.size, j, none⟩ = false by
                      have hsz := DS.1
                      rw [(al _ p).frozen (p := ⟨w3.heap.size, j, none⟩) (by simp at hsz ⊢; omega), (al _ o).frozen (p := ⟨w3.heap.size, j, none⟩) (by simp at hsz ⊢; omega), World.frozen?_setCell, World.frozen?_setCell]; exact FS j)
                    have OO := hid (fun (o p : Obj) => show OwnV ((((w4.setCell ⟨w3.heap.size, 0, none⟩ (.slice aR 32 cR)).setCell ⟨w3.heap.size, 1, none⟩ (.int .i64 q)).alloc o).alloc p) w.heap.size aR 32 cR R from
                      Own.below (Own.below (own_other (own_other (Own.mono oS E.size) hO) hO) (al _ o)) (al _ p))
                    have DP := hid (fun (o p : Obj) => show BxT ((((w4.setCell ⟨w3.heap.size, 0, none⟩ (.slice aR 32 cR)).setCell ⟨w3.heap.size, 1, none⟩ (.int .i64 q)).alloc o).alloc p) w3.heap.size aR 32 cR q from ((DS.put aR 32 cR q).allocO o).allocO p)
                    have f0 := FS 0; have f1 := FS 1
                    obtain ⟨d', d0', d1'⟩ := DS
                    clear oS FS
                    go_wp2_with fail
                    go_roundw
                    case rel => exact ⟨q, n', aR, cR, R, hq2, by omega, by go_num, ROK.out, OO.out _ _, DP.out _ _, FZ.out _ _, (by repeat (first | with_reducible assumption | with_reducible exact Below.refl _ _ | with_reducible refine bel_alloc ?_ _ | with_reducible refine bel_drew ?_ | with_reducible refine bel_set ?_ (by dsimp only; omega) _))⟩
                    case measure =>
                      rw [kOf_box (DP.out _ _), kOf_box HD.out]; omega
                · have zr1 : decide (0 < A.reg) = false := decide_eq_false hr1
                  clear hr1
                  have oS := oR2
                  have DS := HD.out.below E2
                  have FS : ∀ j, w4.frozen? ⟨w3.heap.size, j, none⟩ = false := fun j => by rw [E2.frozen (p := ⟨w3.heap.size, j, none⟩) hd]; exact fz j
                  have ROK := hid hokR
                  have ES := E.trans (E2.mono E.size)
                  clear hokR
                  have hlo2 := (Own.lt oS (Own.some oS (by omega))).1
                  have hO : aR = none ∨ bk aR ≠ w3.heap.size := .inr (by omega)
                  have FZ := hid (fun (o p : Obj) (j : Nat) => show ((((w4.setCell ⟨w3.heap.size, 0, none⟩ (.slice aR 32 cR)).setCell ⟨w3.heap.size, 1, none⟩ (.int .i64 q)).alloc o).alloc p).frozen? ⟨w3.heap.size, j, none⟩ = false by
                    have hsz := DS.1
                    rw [(al _ p).frozen (p := ⟨w3.heap.size, j, none⟩) (by simp at hsz ⊢; omega), (al _ o).frozen (p := ⟨w3.heap.size, j, none⟩) (by simp at hsz ⊢; omega), World.frozen?_setCell, World.frozen?_setCell]; exact FS j)
                  have OO := hid (fun (o p : Obj) => show OwnV ((((w4.setCell ⟨w3.heap.size, 0, none⟩ (.slice aR 32 cR)).setCell ⟨w3.heap.size, 1, none⟩ (.int .i64 q)).alloc o).alloc p) w.heap.size aR 32 cR R from
                    Own.below (Own.below (own_other (own_other (Own.mono oS E.size) hO) hO) (al _ o)) (al _ p))
                  have DP := hid (fun (o p : Obj) => show BxT ((((w4.setCell ⟨w3.heap.size, 0, none⟩ (.slice aR 32 cR)).setCell ⟨w3.heap.size, 1, none⟩ (.int .i64 q)).alloc o).alloc p) w3.heap.size aR 32 cR q from ((DS.put aR 32 cR q).allocO o).allocO p)
                  have f0 := FS 0; have f1 := FS 1
                  obtain ⟨d', d0', d1'⟩ := DS
                  clear oS FS
                  go_wp2_with fail
                  go_roundw
                  case rel => exact ⟨q, n', aR, cR, R, hq2, by omega, by go_num, ROK.out, OO.out _ _, DP.out _ _, FZ.out _ _, (by repeat (first | with_reducible assumption | with_reducible exact Below.refl _ _ | with_reducible refine bel_alloc ?_ _ | with_reducible refine bel_drew ?_ | with_reducible refine bel_set ?_ (by dsimp only; omega) _))⟩
                  case measure =>
                    rw [kOf_box (DP.out _ _), kOf_box HD.out]; omega
              · have zk : (A.kind == 2) = false := by simpa using hk2
                clear hk2
                have oS := oR2
                have DS := HD.out.below E2
                have FS : ∀ j, w4.frozen? ⟨w3.heap.size, j, none⟩ = false := fun j => by rw [E2.frozen (p := ⟨w3.heap.size, j, none⟩) hd]; exact fz j
                have ROK := hid hokR
                have ES := E.trans (E2.mono E.size)
                clear hokR
                have hlo2 := (Own.lt oS (Own.some oS (by omega))).1
                have hO : aR = none ∨ bk aR ≠ w3.heap.size := .inr (by omega)
                have FZ := hid (fun (o p : Obj) (j : Nat) => show ((((w4.setCell ⟨w3.heap.size, 0, none⟩ (.slice aR 32 cR)).setCell ⟨w3.heap.size, 1, none⟩ (.int .i64 q)).alloc o).alloc p).frozen? ⟨w3.heap.size, j, none⟩ = false by
                  have hsz := DS.1
                  rw [(al _ p).frozen (p := ⟨w3.heap.size, j, none⟩) (by simp at hsz ⊢; omega), (al _ o).frozen (p := ⟨w3.heap.size, j, none⟩) (by simp at hsz ⊢; omega), World.frozen?_setCell, World.frozen?_setCell]; exact FS j)
                have OO := hid (fun (o p : Obj) => show OwnV ((((w4.setCell ⟨w3.heap.size, 0, none⟩ (.slice aR 32 cR)).setCell ⟨w3.heap.size, 1, none⟩ (.int .i64 q)).alloc o).alloc p) w.heap.size aR 32 cR R from
                  Own.below (Own.below (own_other (own_other (Own.mono oS E.size) hO) hO) (al _ o)) (al _ p))
                have DP := hid (fun (o p : Obj) => show BxT ((((w4.setCell ⟨w3.heap.size, 0, none⟩ (.slice aR 32 cR)).setCell ⟨w3.heap.size, 1, none⟩ (.int .i64 q)).alloc o).alloc p) w3.heap.size aR 32 cR q from ((DS.put aR 32 cR q).allocO o).allocO p)
                have f0 := FS 0; have f1 := FS 1
                obtain ⟨d', d0', d1'⟩ := DS
                clear oS FS
                go_wp2_with fail
                go_roundw
                case rel => exact ⟨q, n', aR, cR, R, hq2, by omega, by go_num, ROK.out, OO.out _ _, DP.out _ _, FZ.out _ _, (by repeat (first | with_reducible assumption | with_reducible exact Below.refl _ _ | with_reducible refine bel_alloc ?_ _ | with_reducible refine bel_drew ?_ | with_reducible refine bel_set ?_ (by dsimp only; omega) _))⟩
                case measure =>
                  rw [kOf_box (DP.out _ _), kOf_box HD.out]; omega
          · obtain rfl : k = n := by omega
            have G := HG.out.below E
            clear hok oR fz
            go_wp2_with fail
            refine (AW.out _ G).mono ?_
            rintro e w7 ⟨rfl, E7⟩
            have EE := E.trans (E7.mono E.size)
            go_wp2_with fail
            go_ret
            exact ⟨rfl, EE⟩
      · have zz : decide ((k : Int) < 32) = false := decide_eq_false (by omega)
        go_wp2_with fail
        generalize wr = wv at *
        go_loopw [15] (fun s wr => ∃ (k n' : Nat) (ar : Option Addr) (cr : Nat) (x : List Vl), k ≤ n ∧ n' ≤ k ∧ s = .int .i64 n' ∧ RegsOk x ∧ OwnV wr w.heap.size ar 32 cr x ∧ BxT wr w3.heap.size ar 32 cr k ∧ (∀ j, wr.frozen? ⟨w3.heap.size, j, none⟩ = false) ∧ Below w.heap.size w wr) (fun _ wr => n - kOf wr w3.heap.size)
        case atStart => exact ⟨0, 0, ar, 32, x, by omega, Nat.le_refl _, rfl, hok, oR, D, fz, E⟩
        case round =>
          clear hok oR D fz E
          obtain ⟨k, n', ar, cr, x, hk, hnk, rfl, hok, oR, D, fz, E⟩ := hrel
          have HD := hid D
          have hd := D.1
          obtain ⟨d, d0, d1⟩ := D
          by_cases hkn : k < n
          · have V := OwnV.vs oR (by have := hok.1; omega)
            have I := HI.out.below E
            rcases HES.out x k hok hkn with hE | ⟨R, q, A, hE, hokR, hq1, hq2⟩
            · have P1 := PD.out x k ar cr hok _ I V
              rw [hE] at P1
              have P1 : Calls Tryz.prog 25 #[.slice a n c, .agg #[.slice ar 32 cr, .int .i64 k]] wr (fun e w' => ∃ aR cR, e = .returned (.tuple #[.agg #[.slice aR 0 cR, .int .i64 0], .agg #[.int .i64 0, .string ⟨#[]⟩, .int .i64 0, .int .i64 0, .int .i64 0], .int .i64 92]) ∧ Below wr.heap.size wr w') := P1.mono fun e w' ⟨a', c', he, ho, hb⟩ => ⟨a', c', he, hb⟩
              have P2 := hid (fun (w : World) (hI : Is w a code) (hV : Vs w ar x) => (show Calls Tryz.prog 26 #[.slice a n c, .agg #[.slice ar 32 cr, .int .i64 k]] w (fun e w' => ∃ aR cR, e = .returned (.tuple #[.agg #[.slice aR 0 cR, .int .i64 0], .agg #[.int .i64 0, .string ⟨#[]⟩, .int .i64 0, .int .i64 0, .int .i64 0], .int .i64 92]) ∧ Below w.heap.size w w') from by
                have h := RD.out x k ar cr hok w hI hV
                rw [hE] at h
                exact h.mono fun e w' ⟨a', c', he, ho, hb⟩ => ⟨a', c', he, hb⟩))
              have P1 := hid P1
              clear hE hok fz oR
              go_wp2_with fail
              refine P1.out.mono ?_
              rintro e w4 ⟨aR, cR, rfl, E4⟩
              have E5 := ext_trans E4 (bel_alloc (al w4 (boxT aR 0 cR 0)) zAc)
              have I5 := I.below E5; have V5 := V.below E5
              have D5 := HD.out.below E5
              have EE := E.trans (E5.mono E.size)
              clear d d0 d1
              obtain ⟨d, d0, d1⟩ := D5
              go_wp2_with fail
              refine (P2.out _ I5 V5).mono ?_
              rintro e w6 ⟨aW, cW, rfl, E6⟩
              have EE := bel_alloc (bel_alloc (EE.trans (E6.mono EE.size)) (boxT aW 0 cW 0)) zAc
              have G := HG.out.below EE
              clear d d0 d1
              go_wp2_with fail
              refine (AW.out _ G).mono ?_
              rintro e w7 ⟨rfl, E7⟩
              have EE := EE.trans (E7.mono EE.size)
              go_wp2_with fail
              go_ret
              exact ⟨rfl, EE⟩
            · have P1 := PD.out x k ar cr hok _ I V
              rw [hE] at P1
              have P1 := hid (show Calls Tryz.prog 25 #[.slice a n c, .agg #[.slice ar 32 cr, .int .i64 k]] wr (RetD R 32 q A 0 wr) from P1.mono fun e w' ⟨a', c', he, ho, hb⟩ => by
                simp only [hokR.1] at he ho
                exact ⟨a', c', he, ho, hb⟩)
              have hwn : IntKind.i64.wrap ((n' : Int) + 1) = (n' : Int) + 1 := IntWalk.i64_in _ (by omega)
              have zq1 : decide (q ≤ k) = false := decide_eq_false (by omega)
              have zq2 : decide (n < q) = false := decide_eq_false (by omega)
              clear hE hok oR V I
              go_wp2_with fail
              refine P1.out.mono ?_
              rintro e w4 ⟨aR, cR, rfl, oR2, E2⟩
              have hlo3 := (Own.lt oR2 (Own.some oR2 (by omega))).1
              have D4 := HD.out.below E2
              have T4 := HT.out.below (E.trans (E2.mono E.size))
              clear d d0 d1
              obtain ⟨d, d0, d1⟩ := D4
              by_cases hk2 : A.kind = 2
              · have zk : (A.kind == 2) = true := by simpa using hk2
                clear hk2
                by_cases hr1 : 0 < A.reg
                · have zr1 : decide (0 < A.reg) = true := decide_eq_true hr1
                  by_cases hr2 : A.reg < 32
                  · have zr2 : decide (A.reg < 32) = true := decide_eq_true hr2
                    obtain ⟨r, hr⟩ : ∃ r : Nat, A.reg = r := ⟨A.reg.toNat, by omega⟩
                    have hr0 : r ≠ 0 := by omega
                    have hr32 : r < 32 := by omega
                    clear hr1 hr2
                    obtain ⟨kd, lc, vl, rg, fc⟩ := A
                    simp only at hr zk zr1 zr2
                    subst hr
                    by_cases ht1 : n' < mt
                    · have zt1 : decide (n' < mt) = true := decide_eq_true ht1
                      obtain ⟨tv, htv⟩ := HGT.out n' ht1 _ T4
                      have hbt : bk bt < w4.heap.size := cell?_lt (p := ⟨bk bt, fo bt + n', none⟩) htv
                      have hbt1 : bk bt < w4.heap.size + 1 := by omega
                      have it := HXT.out n' ht1
                      by_cases ht2 : -2147483648 ≤ tv
                      · have zt2 : decide (-2147483648 ≤ tv) = true := decide_eq_true ht2
                        by_cases ht3 : tv ≤ 2147483647
                        · have zt3 : decide (tv ≤ 2147483647) = true := decide_eq_true ht3
                          have hn32 : n32 tv := ⟨ht2, ht3⟩
                          clear ht1 ht2 ht3
                          have hnR := Own.some oR2 (by omega)
                          have hltR := Own.lt oR2 hnR
                          have V4 := OwnV.vs oR2 (by have := hokR.1; omega)
                          have iy := V4.idx r (by have := hokR.1; omega)
                          rw [hokR.1] at iy
                          obtain ⟨y', hy'⟩ : ∃ y, R[r]? = some y := ⟨_, List.getElem?_eq_getElem (by have := hokR.1; omega)⟩
                          obtain ⟨q0, q1⟩ := V4.cells hy'
                          have u0 := Own.frozen oR2 hnR (r * 2)
                          have u1 := Own.frozen oR2 hnR (r * 2 + 1)
                          rw [← Nat.add_assoc] at u1
                          obtain ⟨o2, st2⟩ := OwnV.set oR2 hnR r (by have := hokR.1; omega) (vn tv)
                          have oS : OwnV ((w4.setCell ⟨bk aR, fo aR + r * 2, none⟩ (.string ⟨#[]⟩)).setCell ⟨bk aR, fo aR + r * 2 + 1, none⟩ (.int .i64 tv)) wr.heap.size aR 32 cR (R.set r (vn tv)) := o2
                          have st2 : Step w4 ((w4.setCell ⟨bk aR, fo aR + r * 2, none⟩ (.string ⟨#[]⟩)).setCell ⟨bk aR, fo aR + r * 2 + 1, none⟩ (.int .i64 tv)) aR aR := st2
                          have DS := (HD.out.below E2).step st2 (.inr (by omega))
                          have FS : ∀ j, ((w4.setCell ⟨bk aR, fo aR + r * 2, none⟩ (.string ⟨#[]⟩)).setCell ⟨bk aR, fo aR + r * 2 + 1, none⟩ (.int .i64 tv)).frozen? ⟨w3.heap.size, j, none⟩ = false := fun j => by rw [World.frozen?_setCell, World.frozen?_setCell, E2.frozen (p := ⟨w3.heap.size, j, none⟩) hd]; exact fz j
                          have ROK := hid (hokR.set (show r ≠ 0 by omega) (mayB_vn (x := tv) hn32))
                          have ES := E.trans ((st2.below oR2 E2 E2.size).mono E.size)
                          have hne1 : w3.heap.size < bk aR := by omega
                          have hne2 : bk aR < w4.heap.size := hltR.2
                          have hne3 : bk aR < w4.heap.size + 1 := by omega
                          clear hokR hy' V4 o2 st2 hltR
                          have hlo2 := (Own.lt oS (Own.some oS (by omega))).1
                          have hO : aR = none ∨ bk aR ≠ w3.heap.size := .inr (by omega)
                          have FZ := hid (fun (o p : Obj) (j : Nat) => show ((((((w4.setCell ⟨bk aR, fo aR + r * 2, none⟩ (.string ⟨#[]⟩)).setCell ⟨bk aR, fo aR + r * 2 + 1, none⟩ (.int .i64 tv)).setCell ⟨w3.heap.size, 0, none⟩ (.slice aR 32 cR)).setCell ⟨w3.heap.size, 1, none⟩ (.int .i64 q)).alloc o).alloc p).frozen? ⟨w3.heap.size, j, none⟩ = false by
                            have hsz := DS.1
                            rw [(al _ p).frozen (p := ⟨w3.heap.size, j, none⟩) (by simp at hsz ⊢; omega), (al _ o).frozen (p := ⟨w3.heap.size, j, none⟩) (by simp at hsz ⊢; omega), World.frozen?_setCell, World.frozen?_setCell]; exact FS j)
                          have OO := hid (fun (o p : Obj) => show OwnV ((((((w4.setCell ⟨bk aR, fo aR + r * 2, none⟩ (.string ⟨#[]⟩)).setCell ⟨bk aR, fo aR + r * 2 + 1, none⟩ (.int .i64 tv)).setCell ⟨w3.heap.size, 0, none⟩ (.slice aR 32 cR)).setCell ⟨w3.heap.size, 1, none⟩ (.int .i64 q)).alloc o).alloc p) w.heap.size aR 32 cR (R.set r (vn tv)) from
                            Own.below (Own.below (own_other (own_other (Own.mono oS E.size) hO) hO) (al _ o)) (al _ p))
                          have DP := hid (fun (o p : Obj) => show BxT ((((((w4.setCell ⟨bk aR, fo aR + r * 2, none⟩ (.string ⟨#[]⟩)).setCell ⟨bk aR, fo aR + r * 2 + 1, none⟩ (.int .i64 tv)).setCell ⟨w3.heap.size, 0, none⟩ (.slice aR 32 cR)).setCell ⟨w3.heap.size, 1, none⟩ (.int .i64 q)).alloc o).alloc p) w3.heap.size aR 32 cR q from ((DS.put aR 32 cR q).allocO o).allocO p)
                          have f0 := FS 0; have f1 := FS 1
                          obtain ⟨d', d0', d1'⟩ := DS
                          clear oS FS
                          go_wp2_with fail
                          go_roundw
                          case rel => exact ⟨q, (n' + 1), aR, cR, (R.set r (vn tv)), hq2, by omega, by go_num, ROK.out, OO.out _ _, DP.out _ _, FZ.out _ _, (by repeat (first | with_reducible assumption | with_reducible exact Below.refl _ _ | with_reducible refine bel_alloc ?_ _ | with_reducible refine bel_drew ?_ | with_reducible refine bel_set ?_ (by dsimp only; omega) _))⟩
                          case measure =>
                            rw [kOf_box (DP.out _ _), kOf_box HD.out]; omega
                        · have zt3 : decide (tv ≤ 2147483647) = false := decide_eq_false ht3
                          clear ht1 ht2 ht3
                          have hnR := Own.some oR2 (by omega)
                          have hltR := Own.lt oR2 hnR
                          have V4 := OwnV.vs oR2 (by have := hokR.1; omega)
                          have iy := V4.idx r (by have := hokR.1; omega)
                          rw [hokR.1] at iy
                          obtain ⟨y', hy'⟩ : ∃ y, R[r]? = some y := ⟨_, List.getElem?_eq_getElem (by have := hokR.1; omega)⟩
                          obtain ⟨q0, q1⟩ := V4.cells hy'
                          have u0 := Own.frozen oR2 hnR (r * 2)
                          have u1 := Own.frozen oR2 hnR (r * 2 + 1)
                          rw [← Nat.add_assoc] at u1
                          obtain ⟨o2, st2⟩ := OwnV.set oR2 hnR r (by have := hokR.1; omega) (vn 0)
                          have oS : OwnV ((w4.setCell ⟨bk aR, fo aR + r * 2, none⟩ (.string ⟨#[]⟩)).setCell ⟨bk aR, fo aR + r * 2 + 1, none⟩ (.int .i64 0)) wr.heap.size aR 32 cR (R.set r (vn 0)) := o2
                          have st2 : Step w4 ((w4.setCell ⟨bk aR, fo aR + r * 2, none⟩ (.string ⟨#[]⟩)).setCell ⟨bk aR, fo aR + r * 2 + 1, none⟩ (.int .i64 0)) aR aR := st2
                          have DS := (HD.out.below E2).step st2 (.inr (by omega))
                          have FS : ∀ j, ((w4.setCell ⟨bk aR, fo aR + r * 2, none⟩ (.string ⟨#[]⟩)).setCell ⟨bk aR, fo aR + r * 2 + 1, none⟩ (.int .i64 0)).frozen? ⟨w3.heap.size, j, none⟩ = false := fun j => by rw [World.frozen?_setCell, World.frozen?_setCell, E2.frozen (p := ⟨w3.heap.size, j, none⟩) hd]; exact fz j
                          have ROK := hid (hokR.set (show r ≠ 0 by omega) (mayB_vn (x := 0) (by unfold n32; omega)))
                          have ES := E.trans ((st2.below oR2 E2 E2.size).mono E.size)
                          have hne1 : w3.heap.size < bk aR := by omega
                          have hne2 : bk aR < w4.heap.size := hltR.2
                          have hne3 : bk aR < w4.heap.size + 1 := by omega
                          clear hokR hy' V4 o2 st2 hltR
                          have hlo2 := (Own.lt oS (Own.some oS (by omega))).1
                          have hO : aR = none ∨ bk aR ≠ w3.heap.size := .inr (by omega)
                          have FZ := hid (fun (o p : Obj) (j : Nat) => show ((((((w4.setCell ⟨bk aR, fo aR + r * 2, none⟩ (.string ⟨#[]⟩)).setCell ⟨bk aR, fo aR + r * 2 + 1, none⟩ (.int .i64 0)).setCell ⟨w3.heap.size, 0, none⟩ (.slice aR 32 cR)).setCell ⟨w3.heap.size, 1, none⟩ (.int .i64 q)).alloc o).alloc p).frozen? ⟨w3.heap.size, j, none⟩ = false by
                            have hsz := DS.1
                            rw [(al _ p).frozen (p := ⟨w3.heap.size, j, none⟩) (by simp at hsz ⊢; omega), (al _ o).frozen (p := ⟨w3.heap.size, j, none⟩) (by simp at hsz ⊢; omega), World.frozen?_setCell, World.frozen?_setCell]; exact FS j)
                          have OO := hid (fun (o p : Obj) => show OwnV ((((((w4.setCell ⟨bk aR, fo aR + r * 2, none⟩ (.string ⟨#[]⟩)).setCell ⟨bk aR, fo aR + r * 2 + 1, none⟩ (.int .i64 0)).setCell ⟨w3.heap.size, 0, none⟩ (.slice aR 32 cR)).setCell ⟨w3.heap.size, 1, none⟩ (.int .i64 q)).alloc o).alloc p) w.heap.size aR 32 cR (R.set r (vn 0)) from
                            Own.below (Own.below (own_other (own_other (Own.mono oS E.size) hO) hO) (al _ o)) (al _ p))
                          have DP := hid (fun (o p : Obj) => show BxT ((((((w4.setCell ⟨bk aR, fo aR + r * 2, none⟩ (.string ⟨#[]⟩)).setCell ⟨bk aR, fo aR + r * 2 + 1, none⟩ (.int .i64 0)).setCell ⟨w3.heap.size, 0, none⟩ (.slice aR 32 cR)).setCell ⟨w3.heap.size, 1, none⟩ (.int .i64 q)).alloc o).alloc p) w3.heap.size aR 32 cR q from ((DS.put aR 32 cR q).allocO o).allocO p)
                          have f0 := FS 0; have f1 := FS 1
                          obtain ⟨d', d0', d1'⟩ := DS
                          clear oS FS
                          go_wp2_with fail
                          go_roundw
                          case rel => exact ⟨q, (n' + 1), aR, cR, (R.set r (vn 0)), hq2, by omega, by go_num, ROK.out, OO.out _ _, DP.out _ _, FZ.out _ _, (by repeat (first | with_reducible assumption | with_reducible exact Below.refl _ _ | with_reducible refine bel_alloc ?_ _ | with_reducible refine bel_drew ?_ | with_reducible refine bel_set ?_ (by dsimp only; omega) _))⟩
                          case measure =>
                            rw [kOf_box (DP.out _ _), kOf_box HD.out]; omega
                      · have zt2 : decide (-2147483648 ≤ tv) = false := decide_eq_false ht2
                        clear ht1 ht2
                        have hnR := Own.some oR2 (by omega)
                        have hltR := Own.lt oR2 hnR
                        have V4 := OwnV.vs oR2 (by have := hokR.1; omega)
                        have iy := V4.idx r (by have := hokR.1; omega)
                        rw [hokR.1] at iy
                        obtain ⟨y', hy'⟩ : ∃ y, R[r]? = some y := ⟨_, List.getElem?_eq_getElem (by have := hokR.1; omega)⟩
                        obtain ⟨q0, q1⟩ := V4.cells hy'
                        have u0 := Own.frozen oR2 hnR (r * 2)
                        have u1 := Own.frozen oR2 hnR (r * 2 + 1)
                        rw [← Nat.add_assoc] at u1
                        obtain ⟨o2, st2⟩ := OwnV.set oR2 hnR r (by have := hokR.1; omega) (vn 0)
                        have oS : OwnV ((w4.setCell ⟨bk aR, fo aR + r * 2, none⟩ (.string ⟨#[]⟩)).setCell ⟨bk aR, fo aR + r * 2 + 1, none⟩ (.int .i64 0)) wr.heap.size aR 32 cR (R.set r (vn 0)) := o2
                        have st2 : Step w4 ((w4.setCell ⟨bk aR, fo aR + r * 2, none⟩ (.string ⟨#[]⟩)).setCell ⟨bk aR, fo aR + r * 2 + 1, none⟩ (.int .i64 0)) aR aR := st2
                        have DS := (HD.out.below E2).step st2 (.inr (by omega))
                        have FS : ∀ j, ((w4.setCell ⟨bk aR, fo aR + r * 2, none⟩ (.string ⟨#[]⟩)).setCell ⟨bk aR, fo aR + r * 2 + 1, none⟩ (.int .i64 0)).frozen? ⟨w3.heap.size, j, none⟩ = false := fun j => by rw [World.frozen?_setCell, World.frozen?_setCell, E2.frozen (p := ⟨w3.heap.size, j, none⟩) hd]; exact fz j
                        have ROK := hid (hokR.set (show r ≠ 0 by omega) (mayB_vn (x := 0) (by unfold n32; omega)))
                        have ES := E.trans ((st2.below oR2 E2 E2.size).mono E.size)
                        have hne1 : w3.heap.size < bk aR := by omega
                        have hne2 : bk aR < w4.heap.size := hltR.2
                        have hne3 : bk aR < w4.heap.size + 1 := by omega
                        clear hokR hy' V4 o2 st2 hltR
                        have hlo2 := (Own.lt oS (Own.some oS (by omega))).1
                        have hO : aR = none ∨ bk aR ≠ w3.heap.size := .inr (by omega)
                        have FZ := hid (fun (o p : Obj) (j : Nat) => show ((((((w4.setCell ⟨bk aR, fo aR + r * 2, none⟩ (.string ⟨#[]⟩)).setCell ⟨bk aR, fo aR + r * 2 + 1, none⟩ (.int .i64 0)).setCell ⟨w3.heap.size, 0, none⟩ (.slice aR 32 cR)).setCell ⟨w3.heap.size, 1, none⟩ (.int .i64 q)).alloc o).alloc p).frozen? ⟨w3.heap.size, j, none⟩ = false by
                          have hsz := DS.1
                          rw [(al _ p).frozen (p := ⟨w3.heap.size, j, none⟩) (by simp at hsz ⊢; omega), (al _ o).frozen (p := ⟨w3.heap.size, j, none⟩) (by simp at hsz ⊢; omega), World.frozen?_setCell, World.frozen?_setCell]; exact FS j)
                        have OO := hid (fun (o p : Obj) => show OwnV ((((((w4.setCell ⟨bk aR, fo aR + r * 2, none⟩ (.string ⟨#[]⟩)).setCell ⟨bk aR, fo aR + r * 2 + 1, none⟩ (.int .i64 0)).setCell ⟨w3.heap.size, 0, none⟩ (.slice aR 32 cR)).setCell ⟨w3.heap.size, 1, none⟩ (.int .i64 q)).alloc o).alloc p) w.heap.size aR 32 cR (R.set r (vn 0)) from
                          Own.below (Own.below (own_other (own_other (Own.mono oS E.size) hO) hO) (al _ o)) (al _ p))
                        have DP := hid (fun (o p : Obj) => show BxT ((((((w4.setCell ⟨bk aR, fo aR + r * 2, none⟩ (.string ⟨#[]⟩)).setCell ⟨bk aR, fo aR + r * 2 + 1, none⟩ (.int .i64 0)).setCell ⟨w3.heap.size, 0, none⟩ (.slice aR 32 cR)).setCell ⟨w3.heap.size, 1, none⟩ (.int .i64 q)).alloc o).alloc p) w3.heap.size aR 32 cR q from ((DS.put aR 32 cR q).allocO o).allocO p)
                        have f0 := FS 0; have f1 := FS 1
                        obtain ⟨d', d0', d1'⟩ := DS
                        clear oS FS
                        go_wp2_with fail
                        go_roundw
                        case rel => exact ⟨q, (n' + 1), aR, cR, (R.set r (vn 0)), hq2, by omega, by go_num, ROK.out, OO.out _ _, DP.out _ _, FZ.out _ _, (by repeat (first | with_reducible assumption | with_reducible exact Below.refl _ _ | with_reducible refine bel_alloc ?_ _ | with_reducible refine bel_drew ?_ | with_reducible refine bel_set ?_ (by dsimp only; omega) _))⟩
                        case measure =>
                          rw [kOf_box (DP.out _ _), kOf_box HD.out]; omega
                    · have zt1 : decide (n' < mt) = false := decide_eq_false ht1
                      clear ht1
                      have hnR := Own.some oR2 (by omega)
                      have hltR := Own.lt oR2 hnR
                      have V4 := OwnV.vs oR2 (by have := hokR.1; omega)
                      have iy := V4.idx r (by have := hokR.1; omega)
                      rw [hokR.1] at iy
                      obtain ⟨y', hy'⟩ : ∃ y, R[r]? = some y := ⟨_, List.getElem?_eq_getElem (by have := hokR.1; omega)⟩
                      obtain ⟨q0, q1⟩ := V4.cells hy'
                      have u0 := Own.frozen oR2 hnR (r * 2)
                      have u1 := Own.frozen oR2 hnR (r * 2 + 1)
                      rw [← Nat.add_assoc] at u1
                      obtain ⟨o2, st2⟩ := OwnV.set oR2 hnR r (by have := hokR.1; omega) (vn 0)
                      have oS : OwnV ((w4.setCell ⟨bk aR, fo aR + r * 2, none⟩ (.string ⟨#[]⟩)).setCell ⟨bk aR, fo aR + r * 2 + 1, none⟩ (.int .i64 0)) wr.heap.size aR 32 cR (R.set r (vn 0)) := o2
                      have st2 : Step w4 ((w4.setCell ⟨bk aR, fo aR + r * 2, none⟩ (.string ⟨#[]⟩)).setCell ⟨bk aR, fo aR + r * 2 + 1, none⟩ (.int .i64 0)) aR aR := st2
                      have DS := (HD.out.below E2).step st2 (.inr (by omega))
                      have FS : ∀ j, ((w4.setCell ⟨bk aR, fo aR + r * 2, none⟩ (.string ⟨#[]⟩)).setCell ⟨bk aR, fo aR + r * 2 + 1, none⟩ (.int .i64 0)).frozen? ⟨w3.heap.size, j, none⟩ = false := fun j => by rw [World.frozen?_setCell, World.frozen?_setCell, E2.frozen (p := ⟨w3.heap.size, j, none⟩) hd]; exact fz j
                      have ROK := hid (hokR.set (show r ≠ 0 by omega) (mayB_vn (x := 0) (by unfold n32; omega)))
                      have ES := E.trans ((st2.below oR2 E2 E2.size).mono E.size)
                      have hne1 : w3.heap.size < bk aR := by omega
                      have hne2 : bk aR < w4.heap.size := hltR.2
                      have hne3 : bk aR < w4.heap.size + 1 := by omega
                      clear hokR hy' V4 o2 st2 hltR
                      have hlo2 := (Own.lt oS (Own.some oS (by omega))).1
                      have hO : aR = none ∨ bk aR ≠ w3.heap.size := .inr (by omega)
                      have FZ := hid (fun (o p : Obj) (j : Nat) => show ((((((w4.setCell ⟨bk aR, fo aR + r * 2, none⟩ (.string ⟨#[]⟩)).setCell ⟨bk aR, fo aR + r * 2 + 1, none⟩ (.int .i64 0)).setCell ⟨w3.heap.size, 0, none⟩ (.slice aR 32 cR)).setCell ⟨w3.heap.size, 1, none⟩ (.int .i64 q)).alloc o).alloc p).frozen? ⟨w3.heap.size, j, none⟩ = false by
                        have hsz := DS.1
                        rw [(al _ p).frozen (p := ⟨w3.heap.size, j, none⟩) (by simp at hsz ⊢; omega), (al _ o).frozen (p := ⟨w3.heap.size, j, none⟩) (by simp at hsz ⊢; omega), World.frozen?_setCell, World.frozen?_setCell]; exact FS j)
                      have OO := hid (fun (o p : Obj) => show OwnV ((((((w4.setCell ⟨bk aR, fo aR + r * 2, none⟩ (.string ⟨#[]⟩)).setCell ⟨bk aR, fo aR + r * 2 + 1, none⟩ (.int .i64 0)).setCell ⟨w3.heap.size, 0, none⟩ (.slice aR 32 cR)).setCell ⟨w3.heap.size, 1, none⟩ (.int .i64 q)).alloc o).alloc p) w.heap.size aR 32 cR (R.set r (vn 0)) from
                        Own.below (Own.below (own_other (own_other (Own.mono oS E.size) hO) hO) (al _ o)) (al _ p))
                      have DP := hid (fun (o p : Obj) => show BxT ((((((w4.setCell ⟨bk aR, fo aR + r * 2, none⟩ (.string ⟨#[]⟩)).setCell ⟨bk aR, fo aR + r * 2 + 1, none⟩ (.int .i64 0)).setCell ⟨w3.heap.size, 0, none⟩ (.slice aR 32 cR)).setCell ⟨w3.heap.size, 1, none⟩ (.int .i64 q)).alloc o).alloc p) w3.heap.size aR 32 cR q from ((DS.put aR 32 cR q).allocO o).allocO p)
                      have f0 := FS 0; have f1 := FS 1
                      obtain ⟨d', d0', d1'⟩ := DS
                      clear oS FS
                      go_wp2_with fail
                      go_roundw
                      case rel => exact ⟨q, (n' + 1), aR, cR, (R.set r (vn 0)), hq2, by omega, by go_num, ROK.out, OO.out _ _, DP.out _ _, FZ.out _ _, (by repeat (first | with_reducible assumption | with_reducible exact Below.refl _ _ | with_reducible refine bel_alloc ?_ _ | with_reducible refine bel_drew ?_ | with_reducible refine bel_set ?_ (by dsimp only; omega) _))⟩
                      case measure =>
                        rw [kOf_box (DP.out _ _), kOf_box HD.out]; omega
                  · have zr2 : decide (A.reg < 32) = false := decide_eq_false hr2
                    clear hr1 hr2
                    have oS := oR2
                    have DS := HD.out.below E2
                    have FS : ∀ j, w4.frozen? ⟨w3.heap.size, j, none⟩ = false := fun j => by rw [E2.frozen (p := ⟨w3.heap.size, j, none⟩) hd]; exact fz j
                    have ROK := hid hokR
                    have ES := E.trans (E2.mono E.size)
                    clear hokR
                    have hlo2 := (Own.lt oS (Own.some oS (by omega))).1
                    have hO : aR = none ∨ bk aR ≠ w3.heap.size := .inr (by omega)
                    have FZ := hid (fun (o p : Obj) (j : Nat) => show ((((w4.setCell ⟨w3.heap.size, 0, none⟩ (.slice aR 32 cR)).setCell ⟨w3.heap.size, 1, none⟩ (.int .i64 q)).alloc o).alloc p).frozen? ⟨w3.heap.size, j, none⟩ = false by
                      have hsz := DS.1
                      rw [(al _ p).frozen (p := ⟨w3.heap.size, j, none⟩) (by simp at hsz ⊢; omega), (al _ o).frozen (p := ⟨w3.heap.size, j, none⟩) (by simp at hsz ⊢; omega), World.frozen?_setCell, World.frozen?_setCell]; exact FS j)
                    have OO := hid (fun (o p : Obj) => show OwnV ((((w4.setCell ⟨w3.heap.size, 0, none⟩ (.slice aR 32 cR)).setCell ⟨w3.heap.size, 1, none⟩ (.int .i64 q)).alloc o).alloc p) w.heap.size aR 32 cR R from
                      Own.below (Own.below (own_other (own_other (Own.mono oS E.size) hO) hO) (al _ o)) (al _ p))
                    have DP := hid (fun (o p : Obj) => show BxT ((((w4.setCell ⟨w3.heap.size, 0, none⟩ (.slice aR 32 cR)).setCell ⟨w3.heap.size, 1, none⟩ (.int .i64 q)).alloc o).alloc p) w3.heap.size aR 32 cR q from ((DS.put aR 32 cR q).allocO o).allocO p)
                    have f0 := FS 0; have f1 := FS 1
                    obtain ⟨d', d0', d1'⟩ := DS
                    clear oS FS
                    go_wp2_with fail
                    go_roundw
                    case rel => exact ⟨q, n', aR, cR, R, hq2, by omega, by go_num, ROK.out, OO.out _ _, DP.out _ _, FZ.out _ _, (by repeat (first | with_reducible assumption | with_reducible exact Below.refl _ _ | with_reducible refine bel_alloc ?_ _ | with_reducible refine bel_drew ?_ | with_reducible refine bel_set ?_ (by dsimp only; omega) _))⟩
                    case measure =>
                      rw [kOf_box (DP.out _ _), kOf_box HD.out]; omega
                · have zr1 : decide (0 < A.reg) = false := decide_eq_false hr1
                  clear hr1
                  have oS := oR2
                  have DS := HD.out.below E2
                  have FS : ∀ j, w4.frozen? ⟨w3.heap.size, j, none⟩ = false := fun j => by rw [E2.frozen (p := ⟨w3.heap.size, j, none⟩) hd]; exact fz j
                  have ROK := hid hokR
                  have ES := E.trans (E2.mono E.size)
                  clear hokR
                  have hlo2 := (Own.lt oS (Own.some oS (by omega))).1
                  have hO : aR = none ∨ bk aR ≠ w3.heap.size := .inr (by omega)
                  have FZ := hid (fun (o p : Obj) (j : Nat) => show ((((w4.setCell ⟨w3.heap.size, 0, none⟩ (.slice aR 32 cR)).setCell ⟨w3.heap.size, 1, none⟩ (.int .i64 q)).alloc o).alloc p).frozen? ⟨w3.heap.size, j, none⟩ = false by
                    have hsz := DS.1
                    rw [(al _ p).frozen (p := ⟨w3.heap.size, j, none⟩) (by simp at hsz ⊢; omega), (al _ o).frozen (p := ⟨w3.heap.size, j, none⟩) (by simp at hsz ⊢; omega), World.frozen?_setCell, World.frozen?_setCell]; exact FS j)
                  have OO := hid (fun (o p : Obj) => show OwnV ((((w4.setCell ⟨w3.heap.size, 0, none⟩ (.slice aR 32 cR)).setCell ⟨w3.heap.size, 1, none⟩ (.int .i64 q)).alloc o).alloc p) w.heap.size aR 32 cR R from
                    Own.below (Own.below (own_other (own_other (Own.mono oS E.size) hO) hO) (al _ o)) (al _ p))
                  have DP := hid (fun (o p : Obj) => show BxT ((((w4.setCell ⟨w3.heap.size, 0, none⟩ (.slice aR 32 cR)).setCell ⟨w3.heap.size, 1, none⟩ (.int .i64 q)).alloc o).alloc p) w3.heap.size aR 32 cR q from ((DS.put aR 32 cR q).allocO o).allocO p)
                  have f0 := FS 0; have f1 := FS 1
                  obtain ⟨d', d0', d1'⟩ := DS
                  clear oS FS
                  go_wp2_with fail
                  go_roundw
                  case rel => exact ⟨q, n', aR, cR, R, hq2, by omega, by go_num, ROK.out, OO.out _ _, DP.out _ _, FZ.out _ _, (by repeat (first | with_reducible assumption | with_reducible exact Below.refl _ _ | with_reducible refine bel_alloc ?_ _ | with_reducible refine bel_drew ?_ | with_reducible refine bel_set ?_ (by dsimp only; omega) _))⟩
                  case measure =>
                    rw [kOf_box (DP.out _ _), kOf_box HD.out]; omega
              · have zk : (A.kind == 2) = false := by simpa using hk2
                clear hk2
                have oS := oR2
                have DS := HD.out.below E2
                have FS : ∀ j, w4.frozen? ⟨w3.heap.size, j, none⟩ = false := fun j => by rw [E2.frozen (p := ⟨w3.heap.size, j, none⟩) hd]; exact fz j
                have ROK := hid hokR
                have ES := E.trans (E2.mono E.size)
                clear hokR
                have hlo2 := (Own.lt oS (Own.some oS (by omega))).1
                have hO : aR = none ∨ bk aR ≠ w3.heap.size := .inr (by omega)
                have FZ := hid (fun (o p : Obj) (j : Nat) => show ((((w4.setCell ⟨w3.heap.size, 0, none⟩ (.slice aR 32 cR)).setCell ⟨w3.heap.size, 1, none⟩ (.int .i64 q)).alloc o).alloc p).frozen? ⟨w3.heap.size, j, none⟩ = false by
                  have hsz := DS.1
                  rw [(al _ p).frozen (p := ⟨w3.heap.size, j, none⟩) (by simp at hsz ⊢; omega), (al _ o).frozen (p := ⟨w3.heap.size, j, none⟩) (by simp at hsz ⊢; omega), World.frozen?_setCell, World.frozen?_setCell]; exact FS j)
                have OO := hid (fun (o p : Obj) => show OwnV ((((w4.setCell ⟨w3.heap.size, 0, none⟩ (.slice aR 32 cR)).setCell ⟨w3.heap.size, 1, none⟩ (.int .i64 q)).alloc o).alloc p) w.heap.size aR 32 cR R from
                  Own.below (Own.below (own_other (own_other (Own.mono oS E.size) hO) hO) (al _ o)) (al _ p))
                have DP := hid (fun (o p : Obj) => show BxT ((((w4.setCell ⟨w3.heap.size, 0, none⟩ (.slice aR 32 cR)).setCell ⟨w3.heap.size, 1, none⟩ (.int .i64 q)).alloc o).alloc p) w3.heap.size aR 32 cR q from ((DS.put aR 32 cR q).allocO o).allocO p)
                have f0 := FS 0; have f1 := FS 1
                obtain ⟨d', d0', d1'⟩ := DS
                clear oS FS
                go_wp2_with fail
                go_roundw
                case rel => exact ⟨q, n', aR, cR, R, hq2, by omega, by go_num, ROK.out, OO.out _ _, DP.out _ _, FZ.out _ _, (by repeat (first | with_reducible assumption | with_reducible exact Below.refl _ _ | with_reducible refine bel_alloc ?_ _ | with_reducible refine bel_drew ?_ | with_reducible refine bel_set ?_ (by dsimp only; omega) _))⟩
                case measure =>
                  rw [kOf_box (DP.out _ _), kOf_box HD.out]; omega
          · obtain rfl : k = n := by omega
            have G := HG.out.below E
            clear hok oR fz
            go_wp2_with fail
            refine (AW.out _ G).mono ?_
            rintro e w7 ⟨rfl, E7⟩
            have EE := E.trans (E7.mono E.size)
            go_wp2_with fail
            go_ret
            exact ⟨rfl, EE⟩
theorem lawRiscvEnds (code : List Ins) (a : Option Addr) (c : Nat) (l : List Vl) (b : Option Addr) (cb : Nat) (told : List Int) (bt : Option Addr) (ct : Nat) (w : World) (hI : Is w a code) (hc : code.length ≤ c) (hb : code.length * 80 ≤ 140737488351232) (hL : ∀ i ∈ code, i.label.length ≤ 9223372036854775807)
    (hV : Vs w b l) (hbl : l.length * 24 ≤ 140737488351232) (hs : SmV l) (hT : Ints w bt told) (g : Gl w) :
    Calls Tryz.prog 7 #[.slice a code.length c, .slice b l.length cb, .slice bt told.length ct] w (Ret w (.bool true)) := by
  by_cases he : (linksV code).2.1 = 0
  · exact lawRiscvEnds_yes code a c l b cb told bt ct w hI hc hL hV hs hT he g
  · exact lawRiscvEnds_no code a c l b cb told bt ct w hI hc hL he g
end Go.Proofs.YtigimkgmghjgoaaGreatDoor

/- The walk of Table (document). Conditions: the test lies in memory as read; the library's variables as laid. -/
import Derived.Test.YthaibjefnclkjaaGreatDoorAp28
set_option linter.unusedVariables false
set_option maxRecDepth 100000
set_option maxHeartbeats 6400000
namespace Go.Proofs.YthaibjefnclkjaaGreatDoor
open Go.RowKit Go.Sort
def tabV (t:Tst):List Tx:=if tstE t=0 then tableT t else []
theorem r13Table (t : Tst) (w : World) (h : TsIn w t) (g : Gl w) : Calls Tryz.prog 22 #[vT t] w (RetTL w (tabV t) (tstE t)) := by
  have A := al w (mkT t)
  have b0 := BxT.new w t
  have HI := hid (h.keep A)
  have HA := hid A
  have HG := hid (g.below A)
  have CH := r13Check t _ (h.keep A)
  obtain ⟨r, hr⟩ : ∃ r, tstE t = r := ⟨_, rfl⟩
  rw [hr] at CH ⊢
  have CH := hid CH
  have HR := hid hr
  clear h A hr g
  go_enter Tryz.func22, Tryz.ntmps22
  go_upto_region 1 with (fail)
  generalize w.alloc (mkT t) = W1 at *
  obtain ⟨c0, c1, c2, c3, c4, c5, c6, c7, c8, c9, c10, c11⟩ := b0.cells
  go_wp2_with fail
  refine CH.out.mono ?_
  rintro e w2 ⟨rfl, E⟩
  clear c0 c1 c2 c3 c4 c5 c6 c7 c8 c9 c10 c11 CH
  by_cases h0 : r = 0
  · subst h0
    have HV := hid (show tabV t = tableT t by unfold tabV; rw [if_pos HR.out])
    obtain ⟨-, -, k3, k4, -, -⟩ := tst_ok HR.out
    obtain ⟨-, k5, k6⟩ := coded_ok k3
    have HC := hid (And.intro k5 k6)
    obtain ⟨n, hn⟩ : ∃ n, t.code.length = n := ⟨_, rfl⟩
    have HN := hid hn
    rw [hn] at k5
    clear hn k3 k4 k6
    obtain ⟨c0, c1, c2, c3, c4, c5, c6, c7, c8, c9, c10, c11⟩ := (b0.below E).cells
    rw [HN.out] at c4
    go_wp2_with (at_make; go_loud (refine wpList_mk isl _ _ rfl rfl n rfl rfl rfl rfl (by omega) (by unfold maxLen; omega) E E.size ?_))
    intro aw w3 o1 st1 B1
    rw [madeI] at o1
    have E1 : Below w2.heap.size w2 w3 := Below.grown (Below.refl _ _) st1.grown (Nat.le_refl _) (by intro k hk; cases hk)
    have E := B1
    have o : OwnI w3 W1.heap.size aw n n (widesI t 0) := by rw [widesI_none, HN.out]; exact o1
    clear o1 st1 B1 E1 c0 c1 c2 c3 c4 c5 c6 c7 c8 c9 c10 c11
    go_wp2_with fail
    go_loopw [5, 7] (fun lg i wr => ∃ (k : Nat), k ≤ n ∧ i = .int .i64 k ∧ lg = .int .i64 (highL (t.code.take k)) ∧ Below W1.heap.size W1 wr ∧ OwnI wr W1.heap.size aw n n (widesI t k)) (fun _ i _ => n - (intOf i).toNat)
    case atStart => exact ⟨0, by omega, rfl, rfl, E, o⟩
    case round =>
      clear E o
      obtain ⟨k, hk, rfl, rfl, E, o⟩ := hrel
      obtain ⟨c0, c1, c2, c3, c4, c5, c6, c7, c8, c9, c10, c11⟩ := (b0.below E).cells
      rw [HN.out] at c4
      by_cases hlt : k < n
      · obtain ⟨x, hx⟩ : ∃ x, t.code[k]? = some x := ⟨_, List.getElem?_eq_getElem (by rw [HN.out]; exact hlt)⟩
        have p0 := (HI.out.code.below E).cd hx
        have ix := HI.out.code.cdx k (by rw [HN.out]; exact hlt) t.cc
        rw [HN.out] at ix
        have HX := hid hx
        have HX2 := hid (HC.out.2 x (List.mem_of_getElem? hx))
        have HH := hid (highL_step hx)
        obtain ⟨H, hH⟩ : ∃ H, highL (t.code.take k) = H := ⟨_, rfl⟩
        rw [hH]
        obtain ⟨H2, hH2⟩ : ∃ H2 : Nat, H2 = max H x.l.length := ⟨_, rfl⟩
        have HH2 := hid (show highL (t.code.take (k + 1)) = H2 by rw [HH.out, hH, hH2])
        have xl := HX2.out
        have o : OwnI wr W1.heap.size aw n n (widesJ t k 0) := by rw [widesJ_start t k (by rw [HN.out]; exact hlt)]; exact o
        clear hx hH
        have L1 : (decide (H < x.l.length) = true ∧ H2 = x.l.length) ∨ (decide (H < x.l.length) = false ∧ H2 = H) := by
          by_cases h : H < x.l.length
          · exact .inl ⟨by simpa using h, by omega⟩
          · exact .inr ⟨by simpa using h, by omega⟩
        clear hH2
        rcases L1 with ⟨hgt, rfl⟩ | ⟨hgt, rfl⟩
        all_goals
          go_wp2_with fail
          clear c0 c1 c2 c3 c4 c5 c6 c7 c8 c9 c10 c11 p0
          go_loopw [8] (fun i wr => ∃ (j m : Nat), j ≤ x.l.length + 1 ∧ i = .int .i64 j ∧ m ≤ 70 ∧ Below W1.heap.size W1 wr ∧ OwnI wr W1.heap.size aw n n (widesJ t k m) ∧ Hid (m = wideL ((colT t.arch k x.l).take j))) (fun i _ => x.l.length + 1 - (intOf i).toNat)
          case atStart => exact ⟨0, 0, by omega, rfl, by omega, E, o, by simp [Hid, wideL]⟩
          case round =>
            clear E o
            obtain ⟨j, m, hj, rfl, hm, E, o, HM⟩ := hrel
            obtain ⟨c0, c1, c2, c3, c4, c5, c6, c7, c8, c9, c10, c11⟩ := (b0.below E).cells
            have c4b := c4
            rw [HN.out] at c4
            have p0 := (HI.out.code.below E).cd HX.out
            by_cases hjt : j ≤ x.l.length
            · have hjs : (colT t.arch k x.l)[j]? = some ((colT t.arch k x.l).getD j []) := by
                rw [List.getD_eq_getElem?_getD, List.getElem?_eq_getElem (by rw [colT_length]; omega)]; rfl
              have hs70 := colT_getD t.arch k x.l j
              have CC := hid (r13CellT t k j x HX.out (by omega) (by omega) wr (HI.out.keep E) (HG.out.below E))
              obtain ⟨s, hs⟩ : ∃ s, (colT t.arch k x.l).getD j [] = s := ⟨_, rfl⟩
              rw [hs] at CC hjs hs70
              unfold vT at CC
              rw [HN.out] at CC
              obtain ⟨ls, hls⟩ : ∃ ls, s.length = ls := ⟨_, rfl⟩
              have hsz := tsize hls
              have HW := hid (show wideL ((colT t.arch k x.l).take (j + 1)) = max m ls by rw [wideL_take hjs, ← HM.out, hls])
              rw [hls] at hs70
              clear hs hjs hls
              go_wp2_with fail
              refine CC.out.mono ?_
              rintro e w4 ⟨rfl, E4⟩
              have o := Own.below o E4
              have E := E.trans (E4.mono E.size)
              clear c0 c1 c2 c3 c4 c5 c6 c7 c8 c9 c10 c11 p0 CC E4
              have hwl := widesJ_length t k m (by rw [HN.out]; omega)
              rw [HN.out] at hwl
              have TI := (Own.ints o).1
              have iw := TI.idx isl k (by rw [hwl]; exact hlt)
              rw [hwl] at iw
              have pw := TI.cell k (by rw [hwl]; exact hlt)
              rw [show (widesJ t k m)[k]'(by rw [hwl]; exact hlt) = (m : Int) from by
                have := widesJ_at t k m (by rw [HN.out]; exact hlt)
                rw [List.getElem?_eq_getElem (by rw [hwl]; exact hlt)] at this
                exact Option.some.inj this] at pw
              clear TI hwl
              by_cases hgt2 : m < ls
              · have HW := hid (show ls = wideL ((colT t.arch k x.l).take (j + 1)) by rw [HW.out]; omega)
                have fj := Own.frozen o (Own.some o (by omega)) k
                obtain ⟨oj1, oj2⟩ := Own.set o (Own.some o (by omega)) k (.int .i64 (ls : Int))
                have o2 : OwnI (w4.setCell ⟨bk aw, fo aw + k, none⟩ (.int .i64 (ls : Int))) W1.heap.size aw n n (widesJ t k ls) := by
                  rw [← widesJ_set t k m ls]; simpa only [OwnI, ints, List.map_set] using oj1
                have E5 : Below W1.heap.size W1 (w4.setCell ⟨bk aw, fo aw + k, none⟩ (.int .i64 (ls : Int))) := bel_set E (by have := (Own.lt o (Own.some o (by omega))).1; dsimp only; omega) _
                clear oj1 oj2 o E
                go_wp2_with fail
                go_roundw
                case rel => exact ⟨j + 1, ls, by omega, by go_num, hs70, E5, o2, HW⟩
                case measure => simp [intOf]; omega
              · have HW := hid (show m = wideL ((colT t.arch k x.l).take (j + 1)) by rw [HW.out]; omega)
                go_wp2_with fail
                go_roundw
                case rel => exact ⟨j + 1, m, by omega, by go_num, hm, E, o, HW⟩
                case measure => simp [intOf]; omega
            · obtain rfl : j = x.l.length + 1 := by omega
              have HD := hid (show widesJ t k m = widesI t (k + 1) by
                rw [HM.out, List.take_of_length_le (by rw [colT_length]; omega)]; exact widesJ_done HX.out)
              rw [HD.out] at o
              go_wp2_with fail
              go_roundw
              case rel => exact ⟨k + 1, by omega, by go_num, by rw [HH2.out], E, o⟩
              case measure => simp [intOf]; omega
      · have hkn : k = n := by omega
        rw [hkn] at o ⊢
        obtain ⟨hi, hhi⟩ : ∃ hi, highL t.code = hi := ⟨_, rfl⟩
        have hi256 : hi ≤ 256 := by rw [← hhi]; exact highL_le HC.out.2
        have HHI := hid hhi
        rw [show t.code.take n = t.code by rw [← HN.out, List.take_length], hhi]
        clear hkn hk hlt hhi
        go_wp2_with fail
        clear c0 c1 c2 c3 c4 c5 c6 c7 c8 c9 c10 c11
        go_loopw [10, 11] (fun v i wr => ∃ (j : Nat) (a : Option Addr) (c : Nat) (L : List Tx), j ≤ hi + 1 ∧ i = .int .i64 j ∧ v = .slice a j c ∧ Below W1.heap.size W1 wr ∧ OwnI wr W1.heap.size aw n n (widesI t n) ∧ OwnS wr W1.heap.size a j c L ∧ Hid (L = linesT t j)) (fun _ i _ => hi + 1 - (intOf i).toNat)
        case atStart => exact ⟨0, none, 0, [], by omega, rfl, rfl, E, o, Own.nil _ _ _ _, rfl⟩
        case round =>
          clear E o
          obtain ⟨j, a, c, L, hj, rfl, rfl, E, o, ol, HL⟩ := hrel
          by_cases hjt : j ≤ hi
          · go_wp2_with fail
            go_loopw [12, 13] (fun v i wr => ∃ (k : Nat) (l : Tx), k ≤ n ∧ i = .int .i64 k ∧ v = .string (tx l) ∧ l.length ≤ 2001 ∧ Below W1.heap.size W1 wr ∧ OwnI wr W1.heap.size aw n n (widesI t n) ∧ OwnS wr W1.heap.size a j c L ∧ Hid (l = [32] ++ barT ((rowT j t).take k))) (fun _ i _ => n - (intOf i).toNat)
            case atStart => exact ⟨0, [32], by omega, rfl, rfl, by simp, E, o, ol, by simp [Hid, barT, List.intercalate]⟩
            case round =>
              clear E o ol
              obtain ⟨k, l, hk, rfl, rfl, hl, E, o, ol, HS⟩ := hrel
              obtain ⟨c0, c1, c2, c3, c4, c5, c6, c7, c8, c9, c10, c11⟩ := (b0.below E).cells
              rw [HN.out] at c4
              by_cases hlt : k < n
              · obtain ⟨x, hx⟩ : ∃ x, t.code[k]? = some x := ⟨_, List.getElem?_eq_getElem (by rw [HN.out]; exact hlt)⟩
                have hs70 := colT_getD t.arch k x.l j
                have hm70 := cellW t.arch k x.l
                have hra := rowT_at j hx
                have hbl := bar_take_le j t (k + 1) (by rw [HN.out]; omega)
                have wat := wideI_at hx
                rw [HN.out] at wat
                have CC := hid (fun (d : Nat) (os : Array Obj) => r13CellT t k j x hx (by omega) (by omega) (grow (redrawn wr d) os) (HI.out.keep (E.trans ((below_regrown wr d os).mono E.size))) (HG.out.below (E.trans ((below_regrown wr d os).mono E.size))))
                obtain ⟨s, hs⟩ : ∃ s, (colT t.arch k x.l).getD j [] = s := ⟨_, rfl⟩
                obtain ⟨m, hm⟩ : ∃ m, wideL (colT t.arch k x.l) = m := ⟨_, rfl⟩
                rw [hs] at CC hs70 hra
                unfold vT at CC
                rw [HN.out] at CC
                rw [hm] at hm70 wat hra
                have FC := hid (fun (d : Nat) (os : Array Obj) => r13Filled s m (by omega) (by omega) (grow (redrawn wr d) os))
                obtain ⟨p, hp⟩ : ∃ p, padT m s = p := ⟨_, rfl⟩
                have hp70 : p.length ≤ 70 := by rw [← hp, padT_len]; omega
                rw [hp] at FC hra
                have HRA := hid hra
                have hwl := widesI_length t n (by rw [HN.out]; omega)
                rw [HN.out] at hwl
                have TI := (Own.ints o).1
                have iw := TI.idx isl k (by rw [hwl]; exact hlt)
                rw [hwl] at iw
                have pw := TI.cell k (by rw [hwl]; exact hlt)
                rw [show (widesI t n)[k]'(by rw [hwl]; exact hlt) = (m : Int) from by
                  rw [List.getElem?_eq_getElem (by rw [hwl]; exact hlt)] at wat
                  exact Option.some.inj wat] at pw
                clear TI hwl hs hm hp hx hra wat
                have cA := fun (d : Nat) (os : Array Obj) => Calls.regrown_of (retc' (CC.out d os))
                have fA := fun (d : Nat) (os : Array Obj) => Calls.regrown_of (retc' (FC.out d os))
                obtain ⟨l1, hl1, HL1, hor⟩ : ∃ l1 : Tx, l1.length ≤ 2004 ∧ Hid (l1 ++ p = [32] ++ barT ((rowT j t).take (k + 1))) ∧ ((k = 0 ∧ l1 = l) ∨ (0 < k ∧ l1 = l ++ [32, 124, 32])) := by
                  by_cases hk0 : k = 0
                  · subst hk0
                    refine ⟨l, by omega, ?_, .inl ⟨rfl, rfl⟩⟩
                    show l ++ p = _
                    rw [HS.out, bar_first HRA.out]; simp [barT, List.intercalate]
                  · refine ⟨l ++ [32, 124, 32], by simp; omega, ?_, .inr ⟨by omega, rfl⟩⟩
                    show l ++ [32, 124, 32] ++ p = _
                    rw [HS.out, bar_next HRA.out hk0]; simp
                obtain ⟨l2, hl2⟩ : ∃ l2, l1 ++ p = l2 := ⟨_, rfl⟩
                have hll : l2.length ≤ 2001 := by rw [← hl2, HL1.out, List.length_append]; simp; omega
                have cc : ∀ w, (Op.stringOp .add (tx l1) (tx p)).run Tryz.prog w = .ok (.string (tx (l1 ++ p))) w := run_cat l1 p (by omega)
                rw [hl2] at cc HL1
                clear hl2 HRA CC FC
                rcases hor with ⟨hk0, he⟩ | ⟨hk0, he⟩
                · have z0 : decide ((0 : Int) < (k : Int)) = false := by simp; omega
                  have z1 : decide (0 < k) = false := by simp; omega
                  subst he
                  clear hk0
                  go_wp2_with fail
                  have c0 := cell_regrown c0; have c1 := cell_regrown c1; have c2 := cell_regrown c2; have c3 := cell_regrown c3; have c4 := cell_regrown c4; have c5 := cell_regrown c5; have c6 := cell_regrown c6; have c7 := cell_regrown c7; have c8 := cell_regrown c8; have c9 := cell_regrown c9; have c10 := cell_regrown c10; have c11 := cell_regrown c11; have pw := cell_regrown pw
                  refine wp_region_quiet_below (by kernel_rfl) (by kernel_rfl) ?_
                  repeat (go_big_quiet_step (first | exact cA _ _ | exact fA _ _))
                  refine wpQuiet_nil ?_
                  intro _ hw'
                  obtain ⟨⟨dq, osq⟩, hw''⟩ := hw'
                  subst hw''
                  have EQ := below_regrown wr dq osq
                  generalize grow (redrawn wr dq) osq = W5 at *
                  have E := E.trans (EQ.mono E.size)
                  have o := Own.below o EQ
                  have ol := Own.below ol EQ
                  clear c0 c1 c2 c3 c4 c5 c6 c7 c8 c9 c10 c11 pw iw EQ cA fA
                  go_wp2_with fail
                  go_roundw
                  case rel => exact ⟨k + 1, l2, by omega, by go_num, rfl, hll, E, o, ol, HL1⟩
                  case measure => simp [intOf]; omega
                · have c3b : ∀ w, (Op.stringOp .add (tx l) ⟨#[32, 124, 32]⟩).run Tryz.prog w = .ok (.string (tx (l ++ [32, 124, 32]))) w := run_cat l [32, 124, 32] (by simp; omega)
                  rw [← he] at c3b
                  clear he
                  go_wp2_with fail
                  have c0 := cell_regrown c0; have c1 := cell_regrown c1; have c2 := cell_regrown c2; have c3 := cell_regrown c3; have c4 := cell_regrown c4; have c5 := cell_regrown c5; have c6 := cell_regrown c6; have c7 := cell_regrown c7; have c8 := cell_regrown c8; have c9 := cell_regrown c9; have c10 := cell_regrown c10; have c11 := cell_regrown c11; have pw := cell_regrown pw
                  refine wp_region_quiet_below (by kernel_rfl) (by kernel_rfl) ?_
                  repeat (go_big_quiet_step (first | exact cA _ _ | exact fA _ _))
                  refine wpQuiet_nil ?_
                  intro _ hw'
                  obtain ⟨⟨dq, osq⟩, hw''⟩ := hw'
                  subst hw''
                  have EQ := below_regrown wr dq osq
                  generalize grow (redrawn wr dq) osq = W5 at *
                  have E := E.trans (EQ.mono E.size)
                  have o := Own.below o EQ
                  have ol := Own.below ol EQ
                  clear c0 c1 c2 c3 c4 c5 c6 c7 c8 c9 c10 c11 pw iw EQ cA fA
                  go_wp2_with fail
                  go_roundw
                  case rel => exact ⟨k + 1, l2, by omega, by go_num, rfl, hll, E, o, ol, HL1⟩
                  case measure => simp [intOf]; omega
              · have hkn : k = n := by omega
                have HT := hid (show l ++ [32, 59] = lineT j t by
                  rw [HS.out, hkn, List.take_of_length_le (by rw [rowT_length, HN.out]; omega)]; rfl)
                have cc2 : ∀ w, (Op.stringOp .add (tx l) ⟨#[32, 59]⟩).run Tryz.prog w = .ok (.string (tx (l ++ [32, 59]))) w := run_cat l [32, 59] (by simp; omega)
                obtain ⟨l2, hl2⟩ : ∃ l2, l ++ [32, 59] = l2 := ⟨_, rfl⟩
                rw [hl2] at cc2 HT
                have HL2 := hid (show L ++ [l2] = linesT t (j + 1) by rw [linesT_step, HL.out, HT.out])
                clear hkn hl2
                go_wp2_with (at_builtin; go_loud (refine wpList_app1n txl (.tmp 96) (.tmp 99) rfl rfl rfl rfl ol rfl rfl (by intro u hu; simp at hu; subst hu; rfl) E E.size (by omega) (by unfold maxLen; omega) ?_))
                intro a6 c6' w6 o6 g6 E6
                have o6 : OwnS w6 W1.heap.size a6 (j + 1) c6' (L ++ [l2]) := by unfold OwnS; rw [sV_app]; exact o6
                have o2 : OwnI w6 W1.heap.size aw n n (widesI t n) := Own.kept o g6.step.grown (own_types ol o (by decide))
                clear o ol g6 E c0 c1 c2 c3 c4 c5 c6 c7 c8 c9 c10 c11
                go_wp2_with fail
                go_roundw
                case rel => exact ⟨j + 1, a6, c6', _, by omega, by go_num, rfl, E6, o2, o6, HL2⟩
                case measure => simp [intOf]; omega
          · have hjh : j = hi + 1 := by omega
            have HT := hid (show L = tabV t by rw [HV.out, tableT_eq, highT_eq, HHI.out, HL.out, hjh])
            have HLL := hid (show j = L.length by rw [HL.out, linesT_length])
            clear hjh
            go_wp2_with fail
            (try go_simp)
            go_ret2
            rw [← HT.out]
            exact ⟨a, c, by rw [← HLL.out]; rfl, by rw [← HLL.out]; exact Own.mono ol HA.out.size, HA.out.trans (E.mono HA.out.size)⟩
  · have z : (r != 0) = true := by simpa using h0
    have HV := hid (show tabV t = [] by unfold tabV; rw [HR.out, if_neg h0])
    clear h0
    go_wp2_with fail
    (try go_simp)
    go_ret2
    rw [HV.out]
    exact ⟨none, 0, rfl, Own.nil _ _ _ _, HA.out.trans (E.mono HA.out.size)⟩
end Go.Proofs.YthaibjefnclkjaaGreatDoor

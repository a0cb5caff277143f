/- The walk of Print (document). Conditions: the test lies in memory as read; the library's variables as laid. The walks of the printer's closures, of kid, and of node at an atom (cond). Conditions: the nodes lie in memory as read and may be; the library's variables as the program's text lays them. -/
import Derived.Test.YthaibjefnclkjaaGreatDoorAp32
set_option linter.unusedVariables false
set_option maxRecDepth 100000
set_option maxHeartbeats 6400000
namespace Go.Proofs.YthaibjefnclkjaaGreatDoor
open Go.RowKit Go.Sort
theorem askE_ok {t:Tst} (h:askE t=0):condE t.arch t.q t.node=0:=by
 unfold askE at h
 by_cases h1:condE t.arch t.q t.node=0
 ·exact h1
 ·rw [if_pos h1] at h;exact absurd h h1
theorem begun_all {t:Tst} (h:begunE t=0) : ∀ x∈t.init,firstB t.arch t.code.length x=true:=by
 unfold begunE at h
 by_cases h1:1024<t.init.length
 ·rw [if_pos h1] at h;cases h
 rw [if_neg h1] at h
 split at h
 ·rename_i h2
  rw [Bool.and_eq_true,List.all_eq_true] at h2
  exact h2.1
 ·cases h
def head0 (t:Tst):Tx:=if t.arch=2 then [82,73,83,67,86,32] else [88,56,54,32]
theorem head0_len (t:Tst):(head0 t).length≤6:=by unfold head0;split <;> simp
structure Good (t:Tst):Prop where
 arch:archB t.arch=true
 title:titleB t.name=true
 cyc:cycleB t.cycle=true
 c1:1≤t.code.length
 c16:t.code.length≤16
 c256 : ∀ x∈t.code,x.l.length≤256
 i1024:t.init.length≤1024
 first : ∀ x∈t.init,firstB t.arch t.code.length x=true
 cond:condE t.arch t.q t.node=0
theorem Good.of {t:Tst} (h:tstE t=0):Good t:=by
 obtain ⟨a,b,c,d,e,-⟩:=tst_ok h
 rw [Bool.and_eq_true] at b
 obtain ⟨k1,k5,k6⟩:=coded_ok c
 exact ⟨a,b.1,b.2,k1,k5,k6,begun_ok d,begun_all d,askE_ok e⟩
theorem Good.inits {t:Tst} (h:Good t) (k:Nat):(initsK t k).length≤102400:=by
 have:=initsK_le (t:=t) (fun x hx=>initT_len h.arch h.c16 (h.first x hx)) k
 have:=h.i1024
 omega
theorem printE_no {t:Tst} {r:Int} (h:tstE t=r) (hr:r≠0):printE t=([],r):=by unfold printE;rw [if_pos (by rw [h];exact hr),h]
theorem printE_long {t:Tst} (h:tstE t=0) (hl:262144<(fileT t).length):printE t=([],3):=by unfold printE;rw [if_neg (by rw [h];simp),if_pos hl]
theorem printE_yes {t:Tst} (h:tstE t=0) (hl : ¬ 262144<(fileT t).length):printE t=(fileT t,0):=by unfold printE;rw [if_neg (by rw [h];simp),if_neg hl]
theorem r13Print (t : Tst) (w : World) (h : TsIn w t) (g : Gl w) : Calls Tryz.prog 14 #[vT t] w (Ret w (.tuple #[.string (tx (printE t).1), .int .i64 (printE t).2])) := by
  have A := al w (mkT t)
  have b0 := BxT.new w t
  have HI := hid (h.keep A)
  have HA := hid A
  have HG := hid (g.below A)
  have CH := r13Table t _ (h.keep A) (g.below A)
  obtain ⟨r, hr⟩ : ∃ r, tstE t = r := ⟨_, rfl⟩
  rw [hr] at CH
  have CH := hid CH
  have HR := hid hr
  clear h A hr g
  go_enter Tryz.func14, Tryz.ntmps14
  go_upto_region 1 with (fail)
  generalize w.alloc (mkT t) = W1 at *
  obtain ⟨c0, c1, c2, c3, c4, c5, c6, c7, c8, c9, c10, c11⟩ := b0.cells
  go_wp2_with fail
  refine CH.out.mono ?_
  rintro e w2 ⟨la, lc, rfl, o, E⟩
  clear c0 c1 c2 c3 c4 c5 c6 c7 c8 c9 c10 c11 CH
  by_cases h0 : r = 0
  · subst h0
    have G := hid (Good.of HR.out)
    rw [show tabV t = tableT t by unfold tabV; rw [if_pos HR.out]] at o ⊢
    obtain ⟨m, hm⟩ : ∃ m, (tableT t).length = m := ⟨_, rfl⟩
    have HM := hid hm
    rw [hm] at o ⊢
    have hm257 : m ≤ 257 := by
      rw [← hm, tableT_length]
      have := highL_le G.out.c256
      rw [highT_eq]; omega
    clear hm
    obtain ⟨c0, c1, c2, c3, c4, c5, c6, c7, c8, c9, c10, c11⟩ := (b0.below E).cells
    go_upto_if 20 with (fail)
    go_cut [6] (fun x wx => x = .string (tx (head0 t)) ∧ wx = w2)
    case first =>
      by_cases ha : t.arch = 2
      · have z : (t.arch == 2) = true := by simp; exact ha
        have HZ := hid (show head0 t = [82, 73, 83, 67, 86, 32] by unfold head0; rw [if_pos ha])
        clear ha
        go_wp2_with fail
        go_meet
        exact ⟨congrArg Value.string (by rw [HZ.out]; rfl), rfl⟩
      · have z : (t.arch == 2) = false := by simp; exact ha
        have HZ := hid (show head0 t = [88, 56, 54, 32] by unfold head0; rw [if_neg ha])
        clear ha
        go_wp2_with fail
        go_meet
        exact ⟨congrArg Value.string (by rw [HZ.out]; rfl), rfl⟩
    case rest =>
      obtain ⟨rfl, rfl⟩ := hcut
      have hl0 := head0_len t
      have hname : t.name.length ≤ 1024 := by
        have := G.out.title
        unfold titleB at this
        simp only [Bool.and_eq_true, decide_eq_true_eq] at this
        exact this.2.1
      have hcyc : t.cycle.length ≤ 262144 := by
        have := G.out.cyc
        unfold cycleB at this
        simp only [Bool.and_eq_true, decide_eq_true_eq] at this
        exact this.1
      have k1 : ∀ w, (Op.stringOp .add (tx (head0 t)) (tx t.name)).run Tryz.prog w = .ok (.string (tx (head0 t ++ t.name))) w := run_cat _ _ (by omega)
      have k2 : ∀ w, (Op.stringOp .add (tx (head0 t ++ t.name)) ⟨#[10]⟩).run Tryz.prog w = .ok (.string (tx (headT t))) w := run_cat (head0 t ++ t.name) [10] (by simp; omega)
      have hh := headT_len G.out.title
      obtain ⟨hd, hhd⟩ : ∃ hd, headT t = hd := ⟨_, rfl⟩
      rw [hhd] at k2 hh
      have HHD := hid hhd
      clear hhd
      go_upto_if 28 with (fail)
      clear k1 k2
      go_cut [6] (fun x wx => x = .string (tx (hd ++ cycT t)) ∧ wx = wc)
      case first =>
        have HY : t.cycle ≠ [] → hd ++ cycT t = hd ++ [34] ++ t.cycle ++ [34, 10] := fun hc => by unfold cycT; rw [if_neg hc]; simp
        have HN : t.cycle = [] → hd ++ cycT t = hd := fun hc => by unfold cycT; rw [if_pos hc]; simp
        have HE : ∀ b, (!(tx t.cycle).toList.isEmpty) = b → (b = true → t.cycle ≠ []) ∧ (b = false → t.cycle = []) := fun b hb => by
          rw [tx_toList] at hb
          subst hb
          cases hq : t.cycle with
          | nil => simp
          | cons a r => simp
        have k1 : ∀ w, (Op.stringOp .add (tx hd) ⟨#[34]⟩).run Tryz.prog w = .ok (.string (tx (hd ++ [34]))) w := run_cat hd [34] (by simp; omega)
        have k2 : ∀ w, (Op.stringOp .add (tx (hd ++ [34])) (tx t.cycle)).run Tryz.prog w = .ok (.string (tx (hd ++ [34] ++ t.cycle))) w := run_cat (hd ++ [34]) t.cycle (by simp; omega)
        have k3 : ∀ w, (Op.stringOp .add (tx (hd ++ [34] ++ t.cycle)) ⟨#[34, 10]⟩).run Tryz.prog w = .ok (.string (tx (hd ++ [34] ++ t.cycle ++ [34, 10]))) w := run_cat (hd ++ [34] ++ t.cycle) [34, 10] (by simp; omega)
        obtain ⟨s1, hs1⟩ : ∃ s1, hd ++ [34] = s1 := ⟨_, rfl⟩
        rw [hs1] at k1 k2 k3 HY
        obtain ⟨s2, hs2⟩ : ∃ s2, s1 ++ t.cycle = s2 := ⟨_, rfl⟩
        rw [hs2] at k2 k3 HY
        obtain ⟨s3, hs3⟩ : ∃ s3, s2 ++ [34, 10] = s3 := ⟨_, rfl⟩
        rw [hs3] at k3 HY
        have HY := hid HY; have HN := hid HN; have HE := hid HE
        clear hs1 hs2 hs3
        go_wp2_with fail
        all_goals
          rename_i hb
          have HB := hid (HE.out _ hb)
          clear hb
          go_meet
          refine ⟨congrArg Value.string ?_, rfl⟩
        · rw [HY.out (HB.out.1 rfl)]
        · rw [HN.out (HB.out.2 rfl)]
      case rest =>
        obtain ⟨rfl, rfl⟩ := hcut
        have hcy := cycT_len G.out.cyc
        have k1 : ∀ w, (Op.stringOp .add (tx (hd ++ cycT t)) ⟨#[123, 10]⟩).run Tryz.prog w = .ok (.string (tx (preT t))) w := by
          rw [show preT t = hd ++ cycT t ++ [123, 10] by unfold preT; rw [HHD.out]]
          exact run_cat _ [123, 10] (by simp; omega)
        have hpl := preT_len G.out.title G.out.cyc
        obtain ⟨p0, hp0⟩ : ∃ p0, preT t = p0 := ⟨_, rfl⟩
        rw [hp0] at k1 hpl
        have HP := hid hp0
        have HIN := hid G.out.inits
        clear hp0
        have HTX := hid (OwnS.txs o (by rw [HM.out]; omega))
        have HEC := hid E
        have F0 : Below wc.heap.size wc wc := Below.refl _ _
        obtain ⟨ni, hni⟩ : ∃ ni, t.init.length = ni := ⟨_, rfl⟩
        have hni1 : ni ≤ 1024 := by rw [← hni]; exact G.out.i1024
        have HNI := hid hni
        clear hni o E hh hl0 hname hcyc hcy c0 c1 c2 c3 c4 c5 c6 c7 c8 c9 c10 c11
        go_wp2_with fail
        clear k1
        go_loopw [6, 7] (fun v i wr => ∃ (k : Nat) (l : Tx), k ≤ ni ∧ i = .int .i64 k ∧ v = .string (tx l) ∧ l.length ≤ 365600 ∧ Below wc.heap.size wc wr ∧ Hid (l = p0 ++ initsK t k)) (fun _ i _ => ni - (intOf i).toNat)
        case atStart => exact ⟨0, p0, by omega, rfl, rfl, by omega, F0, by simp [Hid, initsK_zero]⟩
        case round =>
          clear F0
          obtain ⟨k, l, hk, rfl, rfl, hl, F, HL⟩ := hrel
          have E := HEC.out.trans (F.mono HEC.out.size)
          obtain ⟨c0, c1, c2, c3, c4, c5, c6, c7, c8, c9, c10, c11⟩ := (b0.below E).cells
          rw [HNI.out] at c3
          by_cases hlt : k < ni
          · obtain ⟨x, hx⟩ : ∃ x, t.init[k]? = some x := ⟨_, List.getElem?_eq_getElem (by rw [HNI.out]; exact hlt)⟩
            obtain ⟨p0', p1, p2, p3, p4⟩ := (HI.out.init.below E).ini hx
            have ix := HI.out.init.idx inil cIni_len k (by rw [HNI.out]; exact hlt) t.ic
            rw [HNI.out] at ix
            have CC := hid (fun (d : Nat) (os : Array Obj) => r13First t x G.out.arch G.out.c16 (G.out.first x (List.mem_of_getElem? hx)) (grow (redrawn wr d) os) (HG.out.below (E.trans ((below_regrown wr d os).mono E.size))))
            have hil := HIN.out (k + 1)
            have hst := initsK_step hx
            unfold vT at CC
            rw [HNI.out] at CC
            obtain ⟨s, hs⟩ : ∃ s, initT t.arch x = s := ⟨_, rfl⟩
            rw [hs] at CC hst
            have HT := hid (show l ++ s = p0 ++ initsK t (k + 1) by rw [HL.out, hst]; simp)
            have hls : (l ++ s).length ≤ 365600 := by rw [HT.out]; simp; omega
            have cc : ∀ w, (Op.stringOp .add (tx l) (tx s)).run Tryz.prog w = .ok (.string (tx (l ++ s))) w := run_cat l s (by rw [List.length_append] at hls; omega)
            obtain ⟨l2, hl2⟩ : ∃ l2, l ++ s = l2 := ⟨_, rfl⟩
            rw [hl2] at cc HT hls
            clear hx hs hl2 hst hil
            go_wp2_with fail
            have cA := fun (d : Nat) (os : Array Obj) => Calls.regrown_of (retc' (CC.out d os))
            have c0 := cell_regrown c0; have c1 := cell_regrown c1; have c2 := cell_regrown c2; have c3 := cell_regrown c3; have c4 := cell_regrown c4; have c5 := cell_regrown c5; have c6 := cell_regrown c6; have c7 := cell_regrown c7; have c8 := cell_regrown c8; have c9 := cell_regrown c9; have c10 := cell_regrown c10; have c11 := cell_regrown c11
            have p0' := cell_regrown p0'; have p1 := cell_regrown p1; have p2 := cell_regrown p2; have p3 := cell_regrown p3; have p4 := cell_regrown p4
            refine wp_region_quiet_below (by kernel_rfl) (by kernel_rfl) ?_
            repeat (go_big_quiet_step (exact cA _ _))
            refine wpQuiet_nil ?_
            intro _ hw'
            obtain ⟨⟨dq, osq⟩, hw''⟩ := hw'
            subst hw''
            have EQ := below_regrown wr dq osq
            generalize grow (redrawn wr dq) osq = W5 at *
            have F := F.trans (EQ.mono F.size)
            clear c0 c1 c2 c3 c4 c5 c6 c7 c8 c9 c10 c11 p0' p1 p2 p3 p4 ix EQ cA CC cc E
            go_wp2_with fail
            go_roundw
            case rel => exact ⟨k + 1, l2, by omega, by go_num, rfl, hls, F, HT⟩
            case measure => simp [intOf]; omega
          · have hkn : k = ni := by omega
            have k1 : ∀ w, (Op.stringOp .add (tx l) ⟨#[125, 10]⟩).run Tryz.prog w = .ok (.string (tx (l ++ [125, 10]))) w := run_cat l [125, 10] (by simp; omega)
            obtain ⟨p1, hp1⟩ : ∃ p1, l ++ [125, 10] = p1 := ⟨_, rfl⟩
            rw [hp1] at k1
            have hpl1 : p1.length ≤ 365602 := by rw [← hp1]; simp; omega
            have HP1 := hid (show p1 = p0 ++ initsK t t.init.length ++ [125, 10] by rw [← hp1, HL.out, hkn, HNI.out])
            have HFT := hid (show fileT t = p1 ++ rowsK t m ++ textC t.arch t.q t.node ++ [10] by rw [fileT_eq, HP1.out, HP.out, ← tableT_length, HM.out])
            have hrl := rowsK_le G.out.c16 G.out.c256
            have HRL := hid hrl
            have HF := hid F
            clear hkn hp1 hrl hl
            go_wp2_with fail
            clear k1
            go_loopw [6, 8] (fun v i wr => ∃ (j : Nat) (l : Tx), j ≤ m ∧ i = .int .i64 j ∧ v = .string (tx l) ∧ l.length ≤ 365602 ∧ Below wc.heap.size wc wr ∧ Hid (l = p1 ++ rowsK t j)) (fun _ i _ => m - (intOf i).toNat)
            case atStart => exact ⟨0, p1, by omega, rfl, rfl, by omega, F, by simp [Hid, rowsK_zero]⟩
            case round =>
              clear F E c0 c1 c2 c3 c4 c5 c6 c7 c8 c9 c10 c11
              obtain ⟨j, l, hj, rfl, rfl, hl, F, HL⟩ := hrel
              by_cases hjt : j < m
              · obtain ⟨s, hs⟩ : ∃ s, (tableT t)[j]? = some s := ⟨_, List.getElem?_eq_getElem (by rw [HM.out]; exact hjt)⟩
                have p0' := (HTX.out.below F).at hs
                have ix := (HTX.out.below F).idx j (by rw [HM.out]; exact hjt) lc
                rw [HM.out] at ix
                have hsl := tableT_le G.out.c16 (List.mem_of_getElem? hs)
                have k1 : ∀ w, (Op.stringOp .add (tx l) (tx s)).run Tryz.prog w = .ok (.string (tx (l ++ s))) w := run_cat l s (by omega)
                have k2 : ∀ w, (Op.stringOp .add (tx (l ++ s)) ⟨#[10]⟩).run Tryz.prog w = .ok (.string (tx (l ++ s ++ [10]))) w := run_cat (l ++ s) [10] (by simp; omega)
                have HT := hid (show l ++ s ++ [10] = p1 ++ rowsK t (j + 1) by rw [HL.out, rowsK_step hs]; simp)
                obtain ⟨l1, hl1⟩ : ∃ l1, l ++ s = l1 := ⟨_, rfl⟩
                rw [hl1] at k1 k2 HT
                obtain ⟨l2, hl2⟩ : ∃ l2, l1 ++ [10] = l2 := ⟨_, rfl⟩
                rw [hl2] at k2 HT
                obtain ⟨n2, hn2⟩ : ∃ n2, l2.length = n2 := ⟨_, rfl⟩
                have hsz := tsize hn2
                have HN2 := hid hn2
                clear hs hl1 hl2 hn2
                by_cases hbig : 262144 < n2
                · have HV := hid (printE_long HR.out (by
                    rw [HFT.out]
                    have h1 := rowsK_mono t (j := j + 1) (k := m) (by omega)
                    have h2 := congrArg List.length HT.out
                    have h3 := HN2.out
                    simp only [List.length_append] at h2 ⊢
                    omega))
                  go_wp2_with fail
                  (try go_simp)
                  go_ret2
                  rw [HV.out]
                  exact ⟨rfl, HA.out.trans ((HEC.out.trans (F.mono HEC.out.size)).mono HA.out.size)⟩
                · have hl2 : l2.length ≤ 365602 := by rw [HN2.out]; omega
                  go_wp2_with fail
                  go_roundw
                  case rel => exact ⟨j + 1, l2, by omega, by go_num, rfl, hl2, F, HT⟩
                  case measure => simp [intOf]; omega
              · have hjm : j = m := by omega
                have E := HEC.out.trans (F.mono HEC.out.size)
                obtain ⟨c0, c1, c2, c3, c4, c5, c6, c7, c8, c9, c10, c11⟩ := (b0.below E).cells
                have PC := hid (r08Print_yes t.arch t.q t.node wr (HI.out.node.keep E) G.out.cond (HG.out.below E))
                have hcl := textC_len2 G.out.cond
                have HFT2 := hid (show fileT t = l ++ textC t.arch t.q t.node ++ [10] by rw [HFT.out, HL.out, hjm])
                obtain ⟨d, hd⟩ : ∃ d, textC t.arch t.q t.node = d := ⟨_, rfl⟩
                rw [hd] at PC hcl HFT2
                have k1 : ∀ w, (Op.stringOp .add (tx l) (tx d)).run Tryz.prog w = .ok (.string (tx (l ++ d))) w := run_cat l d (by omega)
                have k2 : ∀ w, (Op.stringOp .add (tx (l ++ d)) ⟨#[10]⟩).run Tryz.prog w = .ok (.string (tx (l ++ d ++ [10]))) w := run_cat (l ++ d) [10] (by simp; omega)
                obtain ⟨l1, hl1⟩ : ∃ l1, l ++ d = l1 := ⟨_, rfl⟩
                rw [hl1] at k1 k2 HFT2
                obtain ⟨l2, hl2⟩ : ∃ l2, l1 ++ [10] = l2 := ⟨_, rfl⟩
                rw [hl2] at k2 HFT2
                obtain ⟨n2, hn2⟩ : ∃ n2, l2.length = n2 := ⟨_, rfl⟩
                have hsz := tsize hn2
                have HN2 := hid hn2
                have HF2 := hid (HA.out.trans (E.mono HA.out.size))
                clear hd hl1 hl2 hn2 hjm
                go_wp2_with fail
                refine PC.out.mono ?_
                rintro e w7 ⟨rfl, E7⟩
                have HW7 := hid (HF2.out.trans (E7.mono HF2.out.size))
                clear c0 c1 c2 c3 c4 c5 c6 c7 c8 c9 c10 c11 PC E7
                by_cases hbig : 262144 < n2
                · have HV := hid (printE_long HR.out (by rw [HFT2.out, HN2.out]; exact hbig))
                  go_wp2_with fail
                  (try go_simp)
                  go_ret2
                  rw [HV.out]
                  exact ⟨rfl, HW7.out⟩
                · have HV := hid (printE_yes HR.out (by rw [HFT2.out, HN2.out]; exact hbig))
                  go_wp2_with fail
                  (try go_simp)
                  go_ret2
                  rw [HV.out, HFT2.out]
                  exact ⟨rfl, HW7.out⟩
  · have z : (r != 0) = true := by simpa using h0
    have HV := hid (printE_no HR.out h0)
    clear h0
    go_wp2_with fail
    (try go_simp)
    go_ret2
    rw [HV.out]
    exact ⟨rfl, HA.out.trans (E.mono HA.out.size)⟩
theorem condWeakA (k:Int) (w:World):Calls Tryz.prog 107 #[.int .i64 k] w (RetQ w (.bool (weak true k))):=by
 by_cases h4:k=4
 ·subst h4
  go_enter Tryz.func107,Tryz.ntmps107
  go_wp2
  go_ret
  exact ⟨rfl,(by repeat (first|exact QW.refl _|refine QW.d ?_ _))⟩
 ·have z4:(k==4)=false:=by simpa using h4
  have e:weak true k=(k==5):=by unfold weak;rw [decide_eq_false h4];simp only [Bool.and_false,Bool.false_or];rw [Bool.eq_iff_iff];simp
  have E:=hid e
  clear e h4
  go_enter Tryz.func107,Tryz.ntmps107
  go_wp2
  go_ret
  exact ⟨ret_bool E.out.symm,(by repeat (first|exact QW.refl _|refine QW.d ?_ _))⟩
theorem condWeakO (k:Int) (w:World):Calls Tryz.prog 111 #[.int .i64 k] w (RetQ w (.bool (weak false k))):=by
 have e:weak false k=(k==5):=by unfold weak;simp only [Bool.false_and,Bool.false_or];rw [Bool.eq_iff_iff];simp
 have E:=hid e
 clear e
 go_enter Tryz.func111,Tryz.ntmps111
 go_wp2
 go_ret
 exact ⟨ret_bool E.out.symm,(by repeat (first|exact QW.refl _|refine QW.d ?_ _))⟩
abbrev prT:TypeId:=92
def RetPr (w0 w:World) (b:Nat) (arch:Int) (l:Tx) (e:Ending) (w':World):Prop :=
 e = .returned (.tuple #[])∧Bld w' w0.heap.size b prT [.int .i64 arch] l∧Below w0.heap.size w0 w'∧Lib.OthersKept u8T (some b) w w'
def PNode (arch:Int) (x:Nd):Prop:=∀ (w0 w:World) (b:Nat) (l:Tx),NdIn w0 x→Gl w0→Below w0.heap.size w0 w→Bld w w0.heap.size b prT [.int .i64 arch] l→l.length+100 * cntN x≤1000000 →
 Calls Tryz.prog 70 #[.pointer (some ⟨b,0,none⟩),vN x] w (RetPr w0 w b arch (l++textN arch x))
theorem ndT_ne:35≠u8T:=by decide
theorem pWrite {w0 w:World} {b:Nat} {arch:Int} {l:Tx} (s:Tx) (hB:Below w0.heap.size w0 w) (h:Bld w w0.heap.size b prT [.int .i64 arch] l) (hl:l.length+s.length≤2000000) :
  Calls Tryz.prog 29 #[.pointer (some ⟨b,0,none⟩),.string (tx s)] w fun e w'=>e = .returned (.tuple #[.int .i64 s.length,.nilIface])∧Bld w' w0.heap.size b prT [.int .i64 arch] (l++s)∧Below w0.heap.size w0 w'∧Lib.OthersKept u8T (some b) w w' :=
 (bldWrite w0.heap.size b prT [.int .i64 arch] l s w bldT3 h (by omega) hB.size).mono fun e w' ⟨he,h1,h2,h3⟩=>⟨he,h1,hB.trans h2,h3⟩
theorem others_trans {b:Option Nat} {u v w:World} (h:Lib.OthersKept u8T b u v) (k:Lib.OthersKept u8T b v w):Lib.OthersKept u8T b u w:=h.trans k
theorem condKid (arch:Int) (x:Nd) (br:Bool) (H:PNode arch x) (ho:OkN arch x) (w0 w:World) (b:Nat) (l:Tx) (hI:NdIn w0 x) (g:Gl w0) (hB:Below w0.heap.size w0 w) (hP:Bld w w0.heap.size b prT [.int .i64 arch] l) (hl:l.length+10+100 * cntN x≤1000000) :
  Calls Tryz.prog 109 #[.pointer (some ⟨b,0,none⟩),vN x,.bool br] w (RetPr w0 w b arch (l++inB br (textN arch x))):=by
 have hbb:=hP.base
 have hne:w.heap.size≠b:=by omega
 have B:=al w (mkN x)
 have hP:=hP.below B
 have hB:=hB.trans (B.mono hB.size)
 have KB:=others_below (some b) B
 have b0:Blk (w.alloc (mkN x)) w.heap.size (cN x) 35:=Blk.new w _ _
 have HI:=hid hI;have HG:=hid g;have HH:=hid H
 have hln:=textN_len ho
 clear H hI g ho B
 cases br
 ·have HN:=HH.out w0 (w.alloc (mkN x)) b l HI.out HG.out hB hP (by omega)
  have HN:=hid HN
  have HE:=hid (show inB false (textN arch x)=textN arch x from rfl)
  clear hB hP b0
  rw [HE.out]
  generalize textN arch x=s at *
  go_enter Tryz.func109,Tryz.ntmps109
  go_wp2_with fail
  refine HN.out.mono ?_
  rintro e w1 ⟨rfl,hP,hB,K⟩
  have K:=others_trans KB K
  go_wp2_with fail
  go_end0
  exact ⟨rfl,hP,hB,K⟩
 ·have W1:=pWrite [40] hB hP (by simp;omega)
  have W1:=hid W1
  have HE:=hid (show l++inB true (textN arch x)=l++[40]++textN arch x++[41] by unfold inB;rw [if_pos rfl];simp)
  clear hB hP
  rw [HE.out]
  go_enter Tryz.func109,Tryz.ntmps109
  go_wp2_with fail
  refine W1.out.mono ?_
  rintro e w1 ⟨rfl,hP,hB,K⟩
  have b1:=b0.others K hne ndT_ne
  have K1:=others_trans KB K
  obtain ⟨q0,q1,q2,q3,q4,q5⟩:w1.cell? ⟨w.heap.size,0,none⟩=some (.int .i64 x.kind)∧w1.cell? ⟨w.heap.size,1,none⟩=some (.int .i64 x.th.thread)∧w1.cell? ⟨w.heap.size,2,none⟩=some (.int .i64 x.th.reg)∧w1.cell? ⟨w.heap.size,3,none⟩=some (.string (tx x.th.loc))∧w1.cell? ⟨w.heap.size,4,none⟩=some (.int .i64 x.val)∧w1.cell? ⟨w.heap.size,5,none⟩=some (.slice x.a x.kids.length x.c):=⟨b1.get 0 _ rfl,b1.get 1 _ rfl,b1.get 2 _ rfl,b1.get 3 _ rfl,b1.get 4 _ rfl,b1.get 5 _ rfl⟩
  have HN:=hid (HH.out w0 w1 b (l++[40]) HI.out HG.out hB hP (by simp;omega))
  clear hB hP K b0 b1
  go_wp2_with fail
  refine HN.out.mono ?_
  rintro e w2 ⟨rfl,hP,hB,K⟩
  have K1:=others_trans K1 K
  have W2:=hid (pWrite [41] hB hP (by simp;omega))
  clear hB hP K q0 q1 q2 q3 q4 q5
  go_wp2_with fail
  refine W2.out.mono ?_
  rintro e w3 ⟨rfl,hP,hB,K⟩
  have K1:=others_trans K1 K
  go_wp2_with fail
  go_end0
  exact ⟨rfl,hP,hB,K1⟩
end Go.Proofs.YthaibjefnclkjaaGreatDoor

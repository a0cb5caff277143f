/- The walk of Check (program). Conditions: the test lies in memory as read. The walks of Clone of names, Locs (document and program). Conditions: the test lies in memory as read. The walks of Clone of names and Locs (program). Conditions: the test lies in memory as read. The walk of filled (document). Conditions: short texts. The walk of cell (document). Conditions: the test lies in memory as read; the library's variables as laid. A table's columns and lines, step by step. Plain lists; no program, no condition. A table's columns, lines and their lengths. Plain lists; no program, no condition. -/
import Derived.Test.YthaibjefnclkjaaGreatDoorAp26
import Derived.Test.YthaibjefnclkjaaGreatDoorAp27
set_option linter.unusedVariables false
set_option maxRecDepth 100000
set_option maxHeartbeats 6400000
namespace Go.Proofs.YthaibjefnclkjaaGreatDoor
open Go.RowKit Go.Sort
theorem fileCoded (t:Tst) (ha:archB t.arch=true) (w:World) (h:TsIn w t):Calls Tryz.prog 46 #[vT t] w (Ret w (.int .i64 (codedE t))):=by
 have:t.arch=1∨t.arch=2:=by unfold archB at ha;simpa using ha
 rcases this with h1|h1
 ·exact fileCoded_1 t h1 w h
 ·exact fileCoded_2 t h1 w h
theorem cycleB_flush (l:Tx):((tx (Lib.trimB l 32)).toList==(tx l).toList)=flushB l:=by
 rw [tx_beq,Bool.eq_iff_iff,beq_iff_eq];exact trimB_self l
theorem fileCheck (t : Tst) (w : World) (h : TsIn w t) : Calls Tryz.prog 18 #[vT t] w (Ret w (.int .i64 (tstE t))) := by
  have A := al w (mkT t)
  have b0 := BxT.new w t
  have HI := hid (h.keep A)
  have HA := hid A
  obtain ⟨ab, hab⟩ : ∃ ab, archB t.arch = ab := ⟨_, rfl⟩
  have CA := hid (show ∀ w, Calls Tryz.prog 43 #[.int .i64 t.arch] w fun e w' => e = .returned (.bool ab) ∧ w = w' from fun w => hab ▸ fileKnown t.arch w)
  obtain ⟨tb, htb⟩ : ∃ tb, showB 33 t.name = tb := ⟨_, rfl⟩
  have CT := hid (show ∀ w, Calls Tryz.prog 44 #[.string (tx t.name), .int .u8 33] w fun e w' => e = .returned (.bool tb) ∧ w = w' from fun w => htb ▸ fileShown 33 (by omega) (by omega) t.name h.name w)
  obtain ⟨cb, hcb⟩ : ∃ cb, showB 32 t.cycle = cb := ⟨_, rfl⟩
  have CC := hid (show ∀ w, Calls Tryz.prog 44 #[.string (tx t.cycle), .int .u8 32] w fun e w' => e = .returned (.bool cb) ∧ w = w' from fun w => hcb ▸ fileShown 32 (by omega) (by omega) t.cycle h.cycle w)
  have CF := hid (fun w => trim_blank t.cycle h.cycle w)
  obtain ⟨fb, hfb⟩ : ∃ fb, flushB t.cycle = fb := ⟨_, rfl⟩
  have zf : ((tx (Lib.trimB t.cycle 32)).toList == (tx t.cycle).toList) = fb := by rw [cycleB_flush, hfb]
  have hs1 : (tx t.name).size = t.name.length := tx_size _
  have hs2 : (tx t.cycle).size = t.cycle.length := tx_size _
  have hl1 := h.name; have hl2 := h.cycle
  have HB := hid hab
  have HTB := hid (show titleB t.name = (decide (1 ≤ t.name.length) && (decide (t.name.length ≤ 1024) && tb)) by unfold titleB; rw [htb])
  have HCB := hid (show cycleB t.cycle = (decide (t.cycle.length ≤ 262144) && (cb && fb)) by unfold cycleB; rw [hcb, hfb])
  clear h A hab htb hcb hfb
  cases ab with
  | false =>
    have HZ := hid (tstE_arch HB.out)
    clear hs1 hs2 zf
    go_enter Tryz.func18, Tryz.ntmps18
    go_upto_region 1 with (fail)
    generalize w.alloc (mkT t) = W1 at *
    obtain ⟨c0, c1, c2, c3, c4, c5, c6, c7, c8, c9, c10, c11⟩ := b0.cells
    go_wp2_with (go_at_call 43; refine (CA.out _).mono ?_; rintro e w' ⟨rfl, rfl⟩)
    go_ret
    rw [HZ.out]
    exact ⟨rfl, HA.out⟩
  | true =>
    obtain ⟨n1, hn1⟩ : ∃ n, t.name.length = n := ⟨_, rfl⟩
    rw [hn1] at hs1 HTB hl1
    clear hn1
    by_cases hT : n1 < 1 ∨ 1024 < n1 ∨ tb = false
    · have HZ := hid (tstE_text HB.out (show _ = false by
        rw [HTB.out]
        rcases hT with h | h | h
        · rw [decide_eq_false (by omega)]; rfl
        · rw [decide_eq_false (show ¬ n1 ≤ 1024 by omega)]; simp
        · rw [h]; simp))
      clear HTB HCB
      have hT3 : n1 < 1 ∨ 1024 < n1 ∨ (1 ≤ n1 ∧ n1 ≤ 1024 ∧ tb = false) := by
        rcases hT with h | h | h
        · exact .inl h
        · exact .inr (.inl h)
        · by_cases h1 : n1 < 1
          · exact .inl h1
          · by_cases h2 : 1024 < n1
            · exact .inr (.inl h2)
            · exact .inr (.inr ⟨by omega, by omega, h⟩)
      clear hT hs2 zf
      go_enter Tryz.func18, Tryz.ntmps18
      go_upto_region 1 with (fail)
      generalize w.alloc (mkT t) = W1 at *
      obtain ⟨c0, c1, c2, c3, c4, c5, c6, c7, c8, c9, c10, c11⟩ := b0.cells
      rcases hT3 with h | h | ⟨h, h', h''⟩
      rotate_left 2
      · subst h''
        go_wp2_with (first | (go_at_call 43; refine (CA.out _).mono ?_; rintro e w' ⟨rfl, rfl⟩) | (go_at_call 44; refine (CT.out _).mono ?_; rintro e w' ⟨rfl, rfl⟩))
        go_ret
        rw [HZ.out]
        exact ⟨rfl, HA.out⟩
      all_goals
        go_wp2_with (go_at_call 43; refine (CA.out _).mono ?_; rintro e w' ⟨rfl, rfl⟩)
        go_ret
        rw [HZ.out]
        exact ⟨rfl, HA.out⟩
    · have h11 : 1 ≤ n1 := by omega
      have h12 : n1 ≤ 1024 := by omega
      obtain rfl : tb = true := by cases tb with | true => rfl | false => exact absurd (.inr (.inr rfl)) hT
      have HTB2 := hid (show titleB t.name = true by rw [HTB.out, decide_eq_true h11, decide_eq_true h12]; rfl)
      clear hT HTB
      obtain ⟨n2, hn2⟩ : ∃ n, t.cycle.length = n := ⟨_, rfl⟩
      rw [hn2] at hs2 HCB hl2
      clear hn2
      obtain ⟨ok, hok⟩ : ∃ ok, (decide (n2 ≤ 262144) && (cb && fb)) = ok := ⟨_, rfl⟩
      have HOK := hid (show (titleB t.name && cycleB t.cycle) = ok by rw [HTB2.out, HCB.out, hok]; rfl)
      clear HTB2 HCB
      go_enter Tryz.func18, Tryz.ntmps18
      go_upto_region 1 with (fail)
      generalize w.alloc (mkT t) = W1 at *
      obtain ⟨c0, c1, c2, c3, c4, c5, c6, c7, c8, c9, c10, c11⟩ := b0.cells
      go_upto_region 5 with (first | (go_at_call 43; refine (CA.out _).mono ?_; rintro e w' ⟨rfl, rfl⟩) | (go_at_call 44; refine (CT.out _).mono ?_; rintro e w' ⟨rfl, rfl⟩))
      have cA := fun (d : Nat) (os : Array Obj) => Calls.regrown_of (retc' ((CC.out (grow (redrawn W1 d) os)).mono fun e w' hh => ⟨hh.1, by rw [← hh.2]; exact Below.refl _ _⟩))
      have cB := fun (d : Nat) (os : Array Obj) => Calls.regrown_of (retc' (CF.out (grow (redrawn W1 d) os)))
      have hsz : (n2 : Int) = t.cycle.length → True := fun _ => trivial
      have c2r := cell_regrown c2
      clear hsz
      by_cases h262 : 262144 < n2
      · have d2 : decide (262144 < (n2 : Int)) = true := by simp; omega
        have HZ := hid (tstE_text HB.out (show _ = false by rw [HOK.out, ← hok, decide_eq_false (by omega)]; rfl))
        clear hok
        refine wp_region_quiet_below (by kernel_rfl) (by kernel_rfl) ?_
        repeat (go_big_quiet_step (first | exact cA _ _ | exact cB _ _))
        refine wpQuiet_nil ?_
        intro _ hw'
        obtain ⟨⟨dq, osq⟩, hw''⟩ := hw'
        subst hw''
        have EQ := below_regrown W1 dq osq
        go_wp2_with fail
        go_ret
        rw [HZ.out]
        exact ⟨rfl, HA.out.trans (EQ.mono HA.out.size)⟩
      · have h262' : n2 ≤ 262144 := by omega
        have d2 : decide (262144 < (n2 : Int)) = false := by simp; omega
        rw [decide_eq_true h262', Bool.true_and] at hok
        cases cb with
        | false =>
          have HZ := hid (tstE_text HB.out (show _ = false by rw [HOK.out, ← hok]; rfl))
          clear hok
          refine wp_region_quiet_below (by kernel_rfl) (by kernel_rfl) ?_
          repeat (go_big_quiet_step (first | exact cA _ _ | exact cB _ _))
          refine wpQuiet_nil ?_
          intro _ hw'
          obtain ⟨⟨dq, osq⟩, hw''⟩ := hw'
          subst hw''
          have EQ := below_regrown W1 dq osq
          go_wp2_with fail
          go_ret
          rw [HZ.out]
          exact ⟨rfl, HA.out.trans (EQ.mono HA.out.size)⟩
        | true =>
        cases fb with
        | false =>
          have HZ := hid (tstE_text HB.out (show _ = false by rw [HOK.out, ← hok]; rfl))
          clear hok
          refine wp_region_quiet_below (by kernel_rfl) (by kernel_rfl) ?_
          repeat (go_big_quiet_step (first | exact cA _ _ | exact cB _ _))
          refine wpQuiet_nil ?_
          intro _ hw'
          obtain ⟨⟨dq, osq⟩, hw''⟩ := hw'
          subst hw''
          have EQ := below_regrown W1 dq osq
          go_wp2_with fail
          go_ret
          rw [HZ.out]
          exact ⟨rfl, HA.out.trans (EQ.mono HA.out.size)⟩
        | true =>
        obtain rfl : ok = true := by rw [← hok]; rfl
        clear hok
        refine wp_region_quiet_below (by kernel_rfl) (by kernel_rfl) ?_
        repeat (go_big_quiet_step (first | exact cA _ _ | exact cB _ _))
        refine wpQuiet_nil ?_
        intro _ hw'
        obtain ⟨⟨dq, osq⟩, hw''⟩ := hw'
        subst hw''
        have E := below_regrown W1 dq osq
        generalize grow (redrawn W1 dq) osq = W5 at *
        clear c0 c1 c2 c3 c4 c5 c6 c7 c8 c9 c10 c11 c2r cA cB zf hs2 CC CF CT CA d2
        obtain ⟨c0, c1, c2, c3, c4, c5, c6, c7, c8, c9, c10, c11⟩ := (b0.below E).cells
        have CO := fileCoded t HB.out W5 (HI.out.keep E)
        obtain ⟨e1, he1⟩ : ∃ e1, codedE t = e1 := ⟨_, rfl⟩
        rw [he1] at CO
        have CO := hid CO
        have HE1 := hid he1
        clear he1
        go_wp2_with fail
        refine CO.out.mono ?_
        rintro e w2 ⟨rfl, E2⟩
        have E := E.trans (E2.mono E.size)
        clear c0 c1 c2 c3 c4 c5 c6 c7 c8 c9 c10 c11 CO E2
        by_cases h1 : e1 = 0
        rotate_left
        · have z : (e1 != 0) = true := by simpa using h1
          have HZ := hid (show tstE t = e1 by rw [tstE_coded HB.out HOK.out (by rw [HE1.out]; exact h1), HE1.out])
          clear h1
          go_wp2_with fail
          go_ret
          rw [HZ.out]
          exact ⟨rfl, HA.out.trans (E.mono HA.out.size)⟩
        subst h1
        obtain ⟨k1, k2, k3⟩ := coded_ok HE1.out
        have HK3 := hid k3
        obtain ⟨c0, c1, c2, c3, c4, c5, c6, c7, c8, c9, c10, c11⟩ := (b0.below E).cells
        have CO := fileBegun t (by omega) w2 (HI.out.keep E)
        obtain ⟨e2, he2⟩ : ∃ e2, begunE t = e2 := ⟨_, rfl⟩
        rw [he2] at CO
        have CO := hid CO
        have HE2 := hid he2
        clear he2 k3
        go_wp2_with fail
        refine CO.out.mono ?_
        rintro e w3 ⟨rfl, E3⟩
        have E := E.trans (E3.mono E.size)
        clear c0 c1 c2 c3 c4 c5 c6 c7 c8 c9 c10 c11 CO E3
        by_cases h2 : e2 = 0
        rotate_left
        · have z : (e2 != 0) = true := by simpa using h2
          have HZ := hid (show tstE t = e2 by rw [tstE_begun HB.out HOK.out HE1.out (by rw [HE2.out]; exact h2), HE2.out])
          clear h2
          go_wp2_with fail
          go_ret
          rw [HZ.out]
          exact ⟨rfl, HA.out.trans (E.mono HA.out.size)⟩
        subst h2
        have k4 := begun_ok HE2.out
        have HT := hid (tstE_ask HB.out HOK.out HE1.out HE2.out)
        obtain ⟨c0, c1, c2, c3, c4, c5, c6, c7, c8, c9, c10, c11⟩ := (b0.below E).cells
        have CO := condCheck t.arch t.q t.node w3 (HI.out.keep E).node
        obtain ⟨e3, he3⟩ : ∃ e3, condE t.arch t.q t.node = e3 := ⟨_, rfl⟩
        rw [he3] at CO
        have CO := hid CO
        have HAE := hid (show askE t = if e3 ≠ 0 then e3 else if (askT t).any fun x => decide ((t.code.length : Int) ≤ x.thread) then 80 else 0 by unfold askE; rw [he3])
        clear he3
        go_wp2_with fail
        refine CO.out.mono ?_
        rintro e w4 ⟨rfl, E4⟩
        have E := E.trans (E4.mono E.size)
        clear c0 c1 c2 c3 c4 c5 c6 c7 c8 c9 c10 c11 CO E4
        by_cases h3 : e3 = 0
        rotate_left
        · have z : (e3 != 0) = true := by simpa using h3
          have HZ := hid (show tstE t = e3 by
            have : askE t = e3 := by rw [HAE.out, if_pos h3]
            rw [HT.out, this, if_pos h3])
          clear h3
          go_wp2_with fail
          go_ret
          rw [HZ.out]
          exact ⟨rfl, HA.out.trans (E.mono HA.out.size)⟩
        subst h3
        have HAE := hid (show askE t = if (askT t).any fun x => decide ((t.code.length : Int) ≤ x.thread) then 80 else 0 by rw [HAE.out, if_neg (by omega)])
        obtain ⟨c0, c1, c2, c3, c4, c5, c6, c7, c8, c9, c10, c11⟩ := (b0.below E).cells
        have TH := hid (fileAsked t w4 (HI.out.node.keep E))
        have htl : (askT t).length ≤ 1024 := thingsC_len t.q t.node
        obtain ⟨T, hT⟩ : ∃ T, askT t = T := ⟨_, rfl⟩
        rw [hT] at TH htl HAE
        clear hT
        go_wp2_with fail
        refine TH.out.mono ?_
        rintro e w5 ⟨a2, c2', rfl, o2, E5⟩
        have els := (Own.els o2 cTh_len (by omega) (by omega)).1
        have E := E.trans (E5.mono E.size)
        clear c0 c1 c2 c3 c4 c5 c6 c7 c8 c9 c10 c11 o2 E5 TH
        go_wp2_with fail
        go_loopw [67] (fun i wr => ∃ j : Nat, j ≤ T.length ∧ i = .int .i64 j ∧ Below W1.heap.size W1 wr ∧ Els cTh wr a2 T ∧ Hid (∀ (m : Nat) (x : Th), m < j → T[m]? = some x → x.thread < t.code.length)) (fun i _ => T.length - (intOf i).toNat)
        case atStart => exact ⟨0, by omega, rfl, E, els, fun m x hm => absurd hm (Nat.not_lt_zero m)⟩
        case round =>
          clear E els
          obtain ⟨j, hj, rfl, E, els, HJ⟩ := hrel
          by_cases hjt : j < T.length
          · obtain ⟨x, hx⟩ : ∃ x, T[j]? = some x := ⟨_, List.getElem?_eq_getElem hjt⟩
            obtain ⟨q0, q1, q2⟩ := els.th hx
            have ix := els.idx thl cTh_len j hjt c2'
            have HX := hid hx
            clear hx
            go_upto_region 19 with (fail)
            have A3 := al wr (mkTh x)
            have x0 : BxL (wr.alloc (mkTh x)) wr.heap.size (cTh x) := BxL.new _ _ _
            generalize wr.alloc (mkTh x) = W7 at *
            have E := E.trans (A3.mono E.size)
            have els := els.below A3
            have i0 := x0.get 0 _ rfl
            clear q0 q1 q2 ix A3
            obtain ⟨c0, c1, c2, c3, c4, c5, c6, c7, c8, c9, c10, c11⟩ := (b0.below E).cells
            by_cases hth : (t.code.length : Int) ≤ x.thread
            · have HZ := hid (show tstE t = 80 by
                have h9 : askE t = 80 := by rw [HAE.out, if_pos]; rw [List.any_eq_true]; exact ⟨x, List.mem_of_getElem? HX.out, by simpa using hth⟩
                rw [HT.out, h9]; simp)
              go_wp2_with fail
              go_ret
              rw [HZ.out]
              exact ⟨rfl, HA.out.trans (E.mono HA.out.size)⟩
            · have hth' : x.thread < t.code.length := by omega
              have HJ2 : ∀ (m : Nat) (y : Th), m < j + 1 → T[m]? = some y → y.thread < t.code.length := fun m y hm hy => by
                rcases Nat.lt_succ_iff_lt_or_eq.1 hm with h | h
                · exact HJ.out m y h hy
                · subst h; rw [HX.out] at hy; cases hy; exact hth'
              have HJ2 := hid HJ2
              clear HJ
              go_wp2_with fail
              go_roundw
              case rel => exact ⟨j + 1, by omega, by go_num, E, els, HJ2⟩
              case measure => simp [intOf]; omega
          · obtain rfl : j = T.length := by omega
            have HZ0 := hid (show askE t = 0 by
              rw [HAE.out, if_neg]
              rw [List.any_eq_true]
              rintro ⟨x, hx, h2⟩
              obtain ⟨k, hk⟩ := List.mem_iff_getElem?.1 hx
              have := HJ.out k x (List.getElem?_eq_some_iff.1 hk).1 hk
              simp at h2; omega)
            have HT2 := hid (show tstE t = if 64 < (namesT t).length then 2 else 0 by rw [HT.out, HZ0.out, if_neg (by omega)])
            obtain ⟨c0, c1, c2, c3, c4, c5, c6, c7, c8, c9, c10, c11⟩ := (b0.below E).cells
            have LO := hid (fileNames t k4 k2 HK3.out wr (HI.out.keep E))
            clear hjt hj
            go_wp2_with fail
            refine LO.out.mono ?_
            rintro e w8 ⟨a8, c8', rfl, t8, E8⟩
            have E := E.trans (E8.mono E.size)
            have hcap := t8.len
            clear c0 c1 c2 c3 c4 c5 c6 c7 c8 c9 c10 c11 LO E8 t8
            by_cases h64 : 64 < (namesT t).length
            · have HZ := hid (show tstE t = 2 by rw [HT2.out, if_pos h64])
              go_wp2_with fail
              go_ret
              rw [HZ.out]
              exact ⟨rfl, HA.out.trans (E.mono HA.out.size)⟩
            · have HZ := hid (show tstE t = 0 by rw [HT2.out, if_neg h64])
              go_wp2_with fail
              go_ret
              rw [HZ.out]
              exact ⟨rfl, HA.out.trans (E.mono HA.out.size)⟩
theorem tst_ok {t:Tst} (h:tstE t=0):archB t.arch=true∧(titleB t.name&&cycleB t.cycle)=true∧codedE t=0∧begunE t=0∧askE t=0∧(namesT t).length≤64:=by
 cases h1:archB t.arch with
 | false=>rw [tstE_arch h1] at h;cases h
 | true =>
  cases h2:(titleB t.name&&cycleB t.cycle) with
  | false=>rw [tstE_text h1 h2] at h;cases h
  | true =>
   by_cases h3:codedE t=0
   ·by_cases h4:begunE t=0
    ·rw [tstE_ask h1 h2 h3 h4] at h
     by_cases h5:askE t=0
     ·rw [if_neg (by simpa using h5)] at h
      by_cases h6:64<(namesT t).length
      ·rw [if_pos h6] at h;cases h
      ·exact ⟨rfl,rfl,h3,h4,h5,by omega⟩
     ·rw [if_pos h5] at h;exact absurd h h5
    ·rw [tstE_begun h1 h2 h3 h4] at h;exact absurd h h4
   ·rw [tstE_coded h1 h2 h3] at h;exact absurd h h3
def RetTL (w:World) (l:List Tx) (r:Int) (e:Ending) (w':World):Prop :=
 ∃ a c,e = .returned (.tuple #[.slice a l.length c,.int .i64 r])∧OwnS w' w.heap.size a l.length c l∧Below w.heap.size w w'
def RetS1 (w:World) (l:List Tx) (e:Ending) (w':World):Prop :=
 ∃ a c,e = .returned (.slice a l.length c)∧OwnS w' w.heap.size a l.length c l∧Below w.heap.size w w'
theorem r13Filled (s:Tx) (n:Nat) (hs:s.length≤1000000) (hn:n≤1000000) (w:World) :
  Calls Tryz.prog 56 #[.string (tx s),.int .i64 n] w (Ret w (.string (tx (padT n s)))):=by
 obtain ⟨m,hm⟩ : ∃ m,s.length=m:=⟨_,rfl⟩
 have HM:=hid hm
 rw [hm] at hs
 clear hm
 go_enter Tryz.func56,Tryz.ntmps56
 go_wp2_with fail
 go_loopw [0] (fun v wr=>∃ (j:Nat) (l:Tx),j≤n-m∧v = .string (tx l)∧(tx l).size=m+j∧Below w.heap.size w wr∧Hid (l=s++List.replicate j 32)) (fun v _=>n-(match v with | .string b=>b.size|_=>0))
 case atStart=>exact ⟨0,s,by omega,rfl,by rw [tx_size,HM.out];rfl,Below.refl _ _,by simp [Hid]⟩
 case round =>
  obtain ⟨j,l,hj,rfl,hl,E,HL⟩:=hrel
  by_cases hlt:m+j<n
  ·have hll:l.length=m+j:=by rw [← tx_size,hl]
   have cc : ∀ w,(Op.stringOp .add (tx l) ⟨#[32]⟩).run Tryz.prog w = .ok (.string (tx (l++[32]))) w:=run_cat l [32] (by rw [hll];simp;omega)
   obtain ⟨l2,hl2⟩ : ∃ l2,l++[32]=l2:=⟨_,rfl⟩
   rw [hl2] at cc
   have HL2:=hid (show l2=s++List.replicate (j+1) 32 by rw [← hl2,HL.out,List.append_assoc,List.replicate_succ'])
   have hsz:(tx l2).size=m+(j+1):=by rw [tx_size,← hl2,List.length_append,hll];rfl
   clear hl2 hll
   go_wp2_with fail
   go_roundw
   case rel=>exact ⟨j+1,l2,by omega,rfl,hsz,E,HL2⟩
   case measure=>simp only [hsz,hl];omega
  ·have HZ:=hid (show padT n s=l by unfold padT;rw [HM.out,HL.out,show n-m=j by omega])
   go_wp2_with fail
   go_ret
   rw [HZ.out]
   exact ⟨rfl,E⟩
theorem tsize {s:Tx} {n:Nat} (h:s.length=n):(tx s).size=n:=by rw [tx_size,h]
theorem r13CellT (t : Tst) (k line : Nat) (x : Cd) (hx : t.code[k]? = some x) (hk : k < 100) (hl : line ≤ 100000) (w : World) (h : TsIn w t) (g : Gl w) :
    Calls Tryz.prog 55 #[vT t, .int .i64 k, .int .i64 line] w (Ret w (.string (tx ((colT t.arch k x.l).getD line [])))) := by
  have A := al w (mkT t)
  have b0 := BxT.new w t
  have HI := hid (h.keep A)
  have HA := hid A
  have HG := hid (g.below A)
  have HX := hid hx
  clear h A g hx
  by_cases h0 : line = 0
  · subst h0
    have HZ := hid (show (colT t.arch k x.l).getD 0 [] = [80] ++ decN k from rfl)
    have cc : ∀ w, (Op.stringOp .add ⟨#[80]⟩ (tx (decN k))).run Tryz.prog w = .ok (.string (tx ([80] ++ decN k))) w := run_cat [80] (decN k) (by
      have : (decN k).length ≤ 4 := by unfold decN; split <;> (try split) <;> (try split) <;> simp
      simp; omega)
    obtain ⟨r, hr⟩ : ∃ r, [80] ++ decN k = r := ⟨_, rfl⟩
    rw [hr] at cc HZ
    clear hr
    go_enter Tryz.func55, Tryz.ntmps55
    go_wp2_with (go_at_call 30; refine (itoa_small k hk _).mono ?_; rintro e w' ⟨rfl, rfl⟩)
    go_ret
    rw [HZ.out]
    exact ⟨rfl, HA.out⟩
  · have z0 : ((line : Int) == 0) = false := by simp; omega
    go_enter Tryz.func55, Tryz.ntmps55
    go_upto_region 1 with (fail)
    generalize w.alloc (mkT t) = W1 at *
    obtain ⟨c0, c1, c2, c3, c4, c5, c6, c7, c8, c9, c10, c11⟩ := b0.cells
    have p0 := HI.out.code.cd HX.out
    have ix := HI.out.code.cdx k (List.getElem?_eq_some_iff.1 HX.out).1 t.cc
    have hxl := (HI.out.rows x (List.mem_of_getElem? HX.out)).is.len
    by_cases hlt : x.l.length < line
    · have HZ := hid (show (colT t.arch k x.l).getD line [] = [] by
        unfold colT; rw [List.getD_eq_getElem?_getD, List.getElem?_eq_none (by simp; omega)]; rfl)
      go_wp2_with fail
      go_ret
      rw [HZ.out]
      exact ⟨rfl, HA.out⟩
    · obtain ⟨j, hj⟩ : ∃ j, line = j + 1 := ⟨line - 1, by omega⟩
      obtain ⟨i, hi⟩ : ∃ i, x.l[j]? = some i := ⟨_, List.getElem?_eq_getElem (by omega)⟩
      have hxI := HI.out.rows x (List.mem_of_getElem? HX.out)
      obtain ⟨q0, q1, q2, q3, q4, q5, q6, q7⟩ := hxI.is.cells hi
      have ix2 := hxI.is.idx j (by omega) x.c
      rw [show (j : Int) = (line : Int) - 1 by omega] at ix2
      have hb := hxI.locs i (List.mem_of_getElem? hi)
      have HZ := hid (show (colT t.arch k x.l).getD line [] = (cellI t.arch i).1 by
        rw [hj]; unfold colT; rw [List.getD_eq_getElem?_getD, List.getElem?_cons_succ, List.getElem?_map, hi]; rfl)
      have CK := hid (fun d os => r13Cell t.arch i hb.1 hb.2 (grow (redrawn W1 d) os) (HG.out.below (below_regrown W1 d os)))
      generalize cellI t.arch i = r at *
      clear hj hi hb
      go_wp2_with fail
      have cA := fun (d : Nat) (os : Array Obj) => Calls.regrown_of (retc' (CK.out d os))
      have c0 := cell_regrown c0; have c4 := cell_regrown c4; have p0 := cell_regrown p0
      have q0 := cell_regrown q0; have q1 := cell_regrown q1; have q2 := cell_regrown q2; have q3 := cell_regrown q3; have q4 := cell_regrown q4; have q5 := cell_regrown q5; have q6 := cell_regrown q6; have q7 := cell_regrown q7
      refine wp_region_quiet_below (by kernel_rfl) (by kernel_rfl) ?_
      repeat (go_big_quiet_step (exact cA _ _))
      refine wpQuiet_nil ?_
      intro _ hw'
      obtain ⟨⟨dq, osq⟩, hw''⟩ := hw'
      subst hw''
      have EQ := below_regrown W1 dq osq
      go_wp2_with fail
      go_ret
      rw [HZ.out]
      exact ⟨rfl, HA.out.trans (EQ.mono HA.out.size)⟩
end Go.Proofs.YthaibjefnclkjaaGreatDoor
namespace Go.Proofs.YthaibjefnclkjaaGreatDoor
theorem wideL_snoc (l:List Tx) (s:Tx):wideL (l++[s])=max (wideL l) s.length:=by unfold wideL;rw [List.foldl_append];rfl
theorem wideL_take {l:List Tx} {k:Nat} {s:Tx} (h:l[k]? = some s):wideL (l.take (k+1))=max (wideL (l.take k)) s.length:=by rw [take_snoc h,wideL_snoc]
theorem wideL_mem : ∀ {l:List Tx} {s:Tx},s∈l→s.length≤wideL l:=by
 intro l s h
 obtain ⟨k,hk⟩:=List.mem_iff_getElem?.1 h
 have key : ∀ m,k<m→s.length≤wideL (l.take m):=by
  intro m
  induction m with
  | zero=>intro h;omega
  | succ m ih =>
   intro hm
   by_cases hml:m<l.length
   ·rw [wideL_take (List.getElem?_eq_getElem hml)]
    rcases Nat.lt_succ_iff_lt_or_eq.1 hm with h1|h1
    ·have:=ih h1;omega
    ·subst h1
     have:l[k]=s:=by have:=List.getElem?_eq_some_iff.1 hk;exact this.2
     rw [this];omega
   ·have hkl:=(List.getElem?_eq_some_iff.1 hk).1
    have:=ih (by omega)
    rw [List.take_of_length_le (show l.length≤m by omega)] at this
    rw [List.take_of_length_le (show l.length≤m+1 by omega)]
    exact this
 have:=key l.length (List.getElem?_eq_some_iff.1 hk).1
 rwa [List.take_length] at this
theorem padT_len (n:Nat) (s:Tx):(padT n s).length=max n s.length:=by unfold padT;rw [List.length_append,List.length_replicate];omega
theorem n32_len {n:Int} (h:n32B n=true):(Lib.itoa n).length≤21:=by
 unfold n32B at h
 simp only [Bool.and_eq_true,decide_eq_true_eq] at h
 exact Lib.itoa_length_le n (by omega) (by omega)
theorem printX_len {i:Ins} (h:checkX i=true):(printX i).length≤70:=by
 unfold checkX okX at h
 unfold printX
 by_cases h1:i.op=1
 ·rw [if_pos h1] at h ⊢
  simp only [Bool.and_eq_true] at h
  have a:=(nameB_cl h.1.1).2;have b:=n32_len h.1.2
  simp only [List.length_append,List.length_cons,List.length_nil];omega
 ·rw [if_neg h1] at h ⊢
  by_cases h2:i.op=2
  ·rw [if_pos h2] at h ⊢
   simp only [Bool.and_eq_true] at h
   have a:=(nameB_cl h.1.1).2
   obtain ⟨k,hk,e⟩:=regXB_nat h.1.2
   have b:(rX i.a).length≤4:=by rw [e];exact regX_len hk
   simp only [List.length_append,List.length_cons,List.length_nil];omega
  ·rw [if_neg h2] at h ⊢
   by_cases h3:i.op=3
   ·rw [if_pos h3] at h ⊢
    simp only [Bool.and_eq_true] at h
    have a:=(nameB_cl h.1.1).2
    obtain ⟨k,hk,e⟩:=regXB_nat h.1.2
    have b:(rX i.d).length≤4:=by rw [e];exact regX_len hk
    simp only [List.length_append,List.length_cons,List.length_nil];omega
   ·rw [if_neg h3] at h ⊢
    by_cases h4:i.op=4
    ·rw [if_pos h4] at h ⊢
     simp only [Bool.and_eq_true] at h
     obtain ⟨k,hk,e⟩:=regXB_nat h.1.1
     have b:(rX i.d).length≤4:=by rw [e];exact regX_len hk
     have c:=n32_len h.1.2
     simp only [List.length_append,List.length_cons,List.length_nil];omega
    ·rw [if_neg h4];simp
theorem regB_len {n:Int} (h:regB n=true):(rT n).length≤5:=by
 unfold regB at h
 simp only [Bool.and_eq_true,decide_eq_true_eq] at h
 exact regT_len (by omega)
theorem fpart_le2 (n:Int):(fpart n).length≤2:=by unfold fpart;split <;> (try split) <;> simp
theorem printI_len {i:Ins} (h:checkI i=true):(printI i).length≤70:=by
 unfold checkI at h
 simp only [Bool.and_eq_true] at h
 obtain ⟨⟨⟨⟨ho,-⟩,hd⟩,ha⟩,hb⟩:=h
 have d:=regB_len hd;have a:=regB_len ha;have b:=regB_len hb
 have n:=decI_len i.imm
 have f1:=fpart_le2 ((i.fence-3) / 3);have f2:=fpart_le2 ((i.fence-3) % 3)
 have hl:i.op=11∨i.op=12→i.label.length≤32:=fun e=>by
  unfold okI at ho
  rw [if_neg (by omega),if_pos e] at ho
  exact (nameB_cl ho).2
 unfold printI
 by_cases e1:i.op=6
 ·rw [if_pos e1];simp only [List.length_append,List.length_cons,List.length_nil];omega
 rw [if_neg e1]
 by_cases e2:i.op=7
 ·rw [if_pos e2];simp only [List.length_append,List.length_cons,List.length_nil];omega
 rw [if_neg e2]
 by_cases e3:i.op=8
 ·rw [if_pos e3];simp only [List.length_append,List.length_cons,List.length_nil];omega
 rw [if_neg e3]
 by_cases e4:i.op=9
 ·rw [if_pos e4];simp only [List.length_append,List.length_cons,List.length_nil];omega
 rw [if_neg e4]
 by_cases e5:i.op=10
 ·rw [if_pos e5];simp only [List.length_append,List.length_cons,List.length_nil];omega
 rw [if_neg e5]
 by_cases e6:i.op=11
 ·have:=hl (.inl e6);rw [if_pos e6];simp only [List.length_append,List.length_cons,List.length_nil];omega
 rw [if_neg e6]
 by_cases e7:i.op=12
 ·have:=hl (.inr e7);rw [if_pos e7];simp only [List.length_append,List.length_cons,List.length_nil];omega
 rw [if_neg e7]
 split
 ·simp
 ·simp only [List.length_append,List.length_cons,List.length_nil];omega
theorem cellI_len (arch:Int) (i:Ins):(cellI arch i).1.length≤70:=by
 unfold cellI
 split
 ·split
  ·rename_i h;exact printX_len h
  ·simp
 ·split
  ·split
   ·rename_i h;exact printI_len h
   ·simp
  ·simp
theorem wideL_le {l:List Tx} {n:Nat} (h : ∀ s∈l,s.length≤n):wideL l≤n:=by
 have key : ∀ (l:List Tx) (a:Nat),a≤n→(∀ s∈l,s.length≤n)→l.foldl (fun n s=>max n s.length) a≤n:=by
  intro l
  induction l with
  | nil=>intro a ha _;exact ha
  | cons x r ih=>intro a ha hh;exact ih _ (by have:=hh x (by simp);dsimp only;omega) fun s hs=>hh s (by simp [hs])
 exact key l 0 (by omega) h
theorem colT_length (arch:Int) (k:Nat) (l:List Ins):(colT arch k l).length=l.length+1:=by unfold colT;simp
theorem decN4 (k:Nat):(decN k).length≤4:=by unfold decN;split <;> (try split) <;> (try split) <;> simp
theorem colT_le (arch:Int) (k:Nat) (l:List Ins) : ∀ s∈colT arch k l,s.length≤70:=by
 intro s hs
 unfold colT at hs
 rcases List.mem_cons.1 hs with rfl|hs
 ·have:=decN4 k;simp only [List.length_append,List.length_cons,List.length_nil];omega
 ·obtain ⟨i,-,rfl⟩:=List.mem_map.1 hs
  exact cellI_len arch i
theorem colT_getD (arch:Int) (k:Nat) (l:List Ins) (i:Nat):((colT arch k l).getD i []).length≤70:=by
 rw [List.getD_eq_getElem?_getD]
 cases h:(colT arch k l)[i]? with
 | none=>simp
 | some s=>exact colT_le arch k l s (List.mem_of_getElem? h)
theorem colsT_at {t:Tst} {k:Nat} {x:Cd} (h:t.code[k]? = some x):(colsT t)[k]? = some (colT t.arch k x.l):=by
 unfold colsT;rw [List.getElem?_mapIdx,h];rfl
theorem colsT_length (t:Tst):(colsT t).length=t.code.length:=by unfold colsT;simp
theorem wideT_length (t:Tst):(wideT t).length=t.code.length:=by unfold wideT;rw [List.length_map,colsT_length]
theorem wideT_at {t:Tst} {k:Nat} {x:Cd} (h:t.code[k]? = some x):(wideT t)[k]? = some (wideL (colT t.arch k x.l)):=by
 unfold wideT;rw [List.getElem?_map,colsT_at h];rfl
def rowT (i:Nat) (t:Tst):List Tx:=(colsT t).map fun c=>padT (wideL c) (c.getD i [])
theorem rowT_at {t:Tst} {k:Nat} {x:Cd} (i:Nat) (h:t.code[k]? = some x):(rowT i t)[k]? = some (padT (wideL (colT t.arch k x.l)) ((colT t.arch k x.l).getD i [])):=by
 unfold rowT;rw [List.getElem?_map,colsT_at h];rfl
theorem rowT_length (i:Nat) (t:Tst):(rowT i t).length=t.code.length:=by unfold rowT;rw [List.length_map,colsT_length]
theorem cellW (arch:Int) (k:Nat) (l:List Ins):wideL (colT arch k l)≤70:=wideL_le (colT_le arch k l)
theorem rowT_le (i:Nat) (t:Tst) : ∀ s∈rowT i t,s.length≤70:=by
 intro s hs
 obtain ⟨k,hk⟩:=List.mem_iff_getElem?.1 hs
 have hlt:k<t.code.length:=by rw [← rowT_length i t];exact (List.getElem?_eq_some_iff.1 hk).1
 rw [rowT_at i (List.getElem?_eq_getElem hlt)] at hk
 simp only [Option.some.injEq] at hk
 subst hk
 rw [padT_len]
 have:=cellW t.arch k t.code[k].l
 have:=colT_getD t.arch k t.code[k].l i
 omega
def barT (l:List Tx):Tx:=[32,124,32].intercalate l
theorem barT_one (x:Tx):barT [x]=x:=by simp [barT,List.intercalate]
theorem barT_two (x y:Tx) (r:List Tx):barT (x::y::r)=x++([32,124,32]++barT (y::r)):=by
 simp [barT,List.intercalate]
theorem barT_snoc : ∀ (l:List Tx) (x:Tx),l≠[]→barT (l++[x])=barT l++[32,124,32]++x
 | [],x,h=>absurd rfl h
 | [y],x,_=>by rw [show [y]++[x] = [y,x] from rfl,barT_two,barT_one,barT_one];simp
 | y::z::r,x,_=>by
  rw [show (y::z::r)++[x]=y::z::(r++[x]) from rfl,barT_two,barT_two,show z::(r++[x])=(z::r)++[x] from rfl,barT_snoc (z::r) x (by simp)]
  simp
theorem lineT_eq (i:Nat) (t:Tst):lineT i t = [32]++barT (rowT i t)++[32,59]:=rfl
theorem barT_le : ∀ (l:List Tx) (n:Nat),(∀ s∈l,s.length≤n)→(barT l).length≤l.length * (n+3)
 | [],n,_=>by simp [barT,List.intercalate]
 | [x],n,h=>by rw [barT_one];have:=h x (by simp);simp;omega
 | x::y::r,n,h=>by
  have h1:=barT_le (y::r) n fun s hs=>h s (by simp at hs ⊢;exact .inr hs)
  have h2:=h x (by simp)
  rw [barT_two]
  simp only [List.length_append,List.length_cons,List.length_nil,Nat.add_mul] at *
  omega
theorem bar_first {l:List Tx} {x:Tx} (h:l[0]? = some x):barT (l.take 1)=x:=by
 rw [take_snoc h];simp [barT_one]
theorem bar_next {l:List Tx} {x:Tx} {k:Nat} (h:l[k]? = some x) (hk:k≠0):barT (l.take (k+1))=barT (l.take k)++[32,124,32]++x:=by
 rw [take_snoc h]
 refine barT_snoc _ _ ?_
 intro e
 have h1:=congrArg List.length e
 have h2:=(List.getElem?_eq_some_iff.1 h).1
 rw [List.length_take,List.length_nil] at h1
 omega
theorem bar_take_le (i:Nat) (t:Tst) (k:Nat) (hc:t.code.length≤16):(barT ((rowT i t).take k)).length≤2000:=by
 have:=barT_le ((rowT i t).take k) 70 fun s hs=>rowT_le i t s (List.mem_of_mem_take hs)
 have h2:((rowT i t).take k).length≤16:=by rw [List.length_take,rowT_length];omega
 have h3:((rowT i t).take k).length * 73≤16 * 73:=Nat.mul_le_mul_right _ h2
 omega
def highL (l:List Cd):Nat:=l.foldl (fun n x=>max n x.l.length) 0
theorem highL_step {l:List Cd} {k:Nat} {x:Cd} (h:l[k]? = some x):highL (l.take (k+1))=max (highL (l.take k)) x.l.length:=by
 rw [take_snoc h];unfold highL;rw [List.foldl_append];rfl
theorem highL_le {l:List Cd} {n:Nat} (h : ∀ x∈l,x.l.length≤n):highL l≤n:=by
 have key : ∀ (l:List Cd) (a:Nat),a≤n→(∀ s∈l,s.l.length≤n)→l.foldl (fun n s=>max n s.l.length) a≤n:=by
  intro l
  induction l with
  | nil=>intro a ha _;exact ha
  | cons x r ih=>intro a ha hh;exact ih _ (by have:=hh x (by simp);dsimp only;omega) fun s hs=>hh s (by simp [hs])
 exact key l 0 (by omega) h
theorem highT_eq (t:Tst):highT t=highL t.code:=rfl
def linesT (t:Tst) (n:Nat):List Tx:=(List.range n).map fun i=>lineT i t
theorem linesT_step (t:Tst) (n:Nat):linesT t (n+1)=linesT t n++[lineT n t]:=by unfold linesT;rw [List.range_succ,List.map_append];rfl
theorem linesT_length (t:Tst) (n:Nat):(linesT t n).length=n:=by unfold linesT;simp
theorem tableT_eq (t:Tst):tableT t=linesT t (highT t+1):=rfl
def widesI (t:Tst) (k:Nat):List Int:=((wideT t).take k).map (fun n:Nat=>(n:Int))++List.replicate (t.code.length-k) 0
theorem widesI_length (t:Tst) (k:Nat) (hk:k≤t.code.length):(widesI t k).length=t.code.length:=by
 unfold widesI;simp [wideT_length];omega
def widesJ (t:Tst) (k m:Nat):List Int:=(widesI t k).set k m
theorem widesJ_length (t:Tst) (k m:Nat) (hk:k≤t.code.length):(widesJ t k m).length=t.code.length:=by
 unfold widesJ;rw [List.length_set,widesI_length t k hk]
theorem widesJ_set (t:Tst) (k m m':Nat):(widesJ t k m).set k m'=widesJ t k m':=by unfold widesJ;rw [List.set_set]
theorem widesJ_at (t:Tst) (k m:Nat) (hk:k<t.code.length):(widesJ t k m)[k]? = some (m:Int):=by
 unfold widesJ;rw [List.getElem?_set_self (by rw [widesI_length t k (by omega)];exact hk)]
theorem set_self {l:List Int} {k:Nat} {v:Int} (h:l[k]? = some v):l.set k v=l:=by
 obtain ⟨hlt,rfl⟩:=List.getElem?_eq_some_iff.1 h
 exact List.set_getElem_self hlt
theorem widesJ_start (t:Tst) (k:Nat) (hk:k<t.code.length):widesJ t k 0=widesI t k:=by
 unfold widesJ
 refine set_self ?_
 unfold widesI
 have h1:(((wideT t).take k).map (fun n:Nat=>(n:Int))).length=k:=by simp [wideT_length];omega
 rw [List.getElem?_append_right (by omega),h1,Nat.sub_self,List.getElem?_replicate,if_pos (by omega)];rfl
theorem widesJ_done {t:Tst} {k:Nat} {x:Cd} (h:t.code[k]? = some x):widesJ t k (wideL (colT t.arch k x.l))=widesI t (k+1):=by
 have hk:=(List.getElem?_eq_some_iff.1 h).1
 unfold widesJ widesI
 have h1:(((wideT t).take k).map (fun n:Nat=>(n:Int))).length=k:=by simp [wideT_length];omega
 rw [take_snoc (wideT_at h),List.map_append,show t.code.length-k=(t.code.length-(k+1))+1 by omega,List.replicate_succ,List.set_append_right _ _ (by omega),h1,Nat.sub_self,List.set_cons_zero]
 simp
theorem widesI_all (t:Tst):widesI t t.code.length=(wideT t).map fun n:Nat=>(n:Int):=by
 unfold widesI;rw [Nat.sub_self,List.take_of_length_le (by rw [wideT_length];omega)];simp
theorem wideI_at {t:Tst} {k:Nat} {x:Cd} (h:t.code[k]? = some x):(widesI t t.code.length)[k]? = some ((wideL (colT t.arch k x.l):Nat):Int):=by
 rw [widesI_all,List.getElem?_map,wideT_at h];rfl
theorem widesI_none (t:Tst):widesI t 0=List.replicate t.code.length 0:=by unfold widesI;simp
end Go.Proofs.YthaibjefnclkjaaGreatDoor

/- The walk of SameTest (document). Conditions: the tests lie in memory as read; few nodes. The walk of the law FilePrints. Conditions: the test lies in memory as read; the library's variables as laid. -/
import Derived.Test.YthaibjefnclkjaaGreatDoorZc3
import Derived.Test.YthaibjefnclkjaaGreatDoorY8
import Derived.Test.YthaibjefnclkjaaGreatDoorZ27
import Derived.Test.YthaibjefnclkjaaGreatDoorZ25
import Derived.Test.YthaibjefnclkjaaGreatDoorZc2
import Derived.Test.YthaibjefnclkjaaGreatDoorZ24
import Derived.Test.YthaibjefnclkjaaGreatDoorY7
import Derived.Test.YthaibjefnclkjaaGreatDoorZ23
import Derived.Test.YthaibjefnclkjaaGreatDoorY6
import Derived.Test.YthaibjefnclkjaaGreatDoorZ22
import Derived.Test.YthaibjefnclkjaaGreatDoorZ20
import Derived.Test.YthaibjefnclkjaaGreatDoorY3
import Derived.Test.YthaibjefnclkjaaGreatDoorZ14
import Derived.Test.YthaibjefnclkjaaGreatDoorY1
import Derived.Test.YthaibjefnclkjaaGreatDoorZ5
import Derived.Test.YthaibjefnclkjaaGreatDoorZ4
import Derived.Test.YthaibjefnclkjaaGreatDoorZc1
import Derived.Test.YthaibjefnclkjaaGreatDoorZ3
import Derived.Test.YthaibjefnclkjaaGreatDoorZ2
import Derived.Test.YthaibjefnclkjaaGreatDoorZ1
import Derived.Test.YthaibjefnclkjaaGreatDoorRows
import Derived.Lib.SlTrimSet
import Derived.Lib.ItoaNum
import Derived.WalkKit
import Derived.WalkSpells
import Derived.WalkLawsBesides
import Derived.Deep.QuietTactic
import Derived.BigQuiet
import Derived.ProofKit
import Derived.OpenShut
import Derived.ShutString
import Derived.ChangeOld
import Derived.Carry
import Derived.SizedLaws
import Derived.Laws.StructEq
import Derived.Shelf.SlicesQ.Load
import Derived.Lib.SplitLaws
import Derived.Lib.Strings
import Derived.Lib.ItoaMem
import Derived.Shelf.Strings.SlTrimAscii
import Derived.Shelf.Small.Strs
import Derived.Shelf.Strconv.Itoa3
import Derived.Shelf.LaysM
import Derived.Shelf.Strings.Prefix
import Derived.Test.YthaibjefnclkjaaGreatDoorProg
import Derived.Lib.ItoaLen
import Derived.WalkSmall
import Derived.Laws.Concat
import Derived.BigRegion
import Derived.StillTailTactics
import Derived.Deep.RegionWith
import Derived.Lib.AtoiAll
import Derived.Deep.DeepCutAuto
import Derived.Maps.OwnSet
import Derived.Maps.Views
import Derived.Lib.Bytealg
import Derived.Test.YthaibjefnclkjaaGreatDoorY2
import Derived.Test.YthaibjefnclkjaaGreatDoorZ12
import Derived.Test.YthaibjefnclkjaaGreatDoorZ7
import Derived.Test.YthaibjefnclkjaaGreatDoorZ6
import Derived.Laws.IdiomCopy
import Derived.Shelf.Sort.Plain
import Derived.Shelf.Slices.In.SortNone
import Derived.Shelf.Slices.CompactS
import Derived.Shelf.Slices.Clone
import Derived.Shelf.SlSortCmp.NoneTotal
import Derived.Shelf.SlicesE.Clone
import Derived.Shelf.Strings.Repeat
import Derived.Test.YthaibjefnclkjaaGreatDoorZ8
import Derived.Test.YthaibjefnclkjaaGreatDoorZ11
import Derived.Test.YthaibjefnclkjaaGreatDoorZ9
import Derived.Test.YthaibjefnclkjaaGreatDoorZ10
import Derived.Lib.QuietBelow
import Derived.Lib.Builder
import Derived.Lib.AppendStr
import Derived.Lib.UnsafeStr
import Derived.Lib.OthersKept
import Derived.Laws.Externs
import Derived.RegionTactic
import Derived.Test.YthaibjefnclkjaaGreatDoorZ13
import Derived.Deep.RegionHeld3
import Derived.Test.YthaibjefnclkjaaGreatDoorY4
import Derived.Test.YthaibjefnclkjaaGreatDoorZ19
import Derived.Test.YthaibjefnclkjaaGreatDoorZ18
import Derived.Test.YthaibjefnclkjaaGreatDoorZ17
import Derived.Test.YthaibjefnclkjaaGreatDoorZ15
import Derived.Test.YthaibjefnclkjaaGreatDoorZ16
import Derived.Test.YthaibjefnclkjaaGreatDoorY5
import Derived.Maps.OwnOps
import Derived.StringKeys
import Derived.Test.YthaibjefnclkjaaGreatDoorZ21
import Derived.Lib.SlicesCompact
import Derived.Sort.OwnSorted
import Derived.DeepKeys5
import Derived.Test.YthaibjefnclkjaaGreatDoorZ26
import Derived.Deep.LoopGhost
import Derived.Test.YthaibjefnclkjaaGreatDoorY9
namespace Go.Proofs.YthaibjefnclkjaaGreatDoor
open Go.RowKit Go.Sort
set_option linter.unusedVariables false

attribute [local go_sem high] neqIni
/-- two tests are the same -/
def SameT (a b : Tst) : Prop := a.arch = b.arch ∧ a.name = b.name ∧ a.cycle = b.cycle ∧ a.init.length = b.init.length ∧ codL a.code = codL b.code ∧ a.q = b.q ∧ a.init = b.init ∧ bareN a.node = bareN b.node
theorem eq_tx (a b : Tx) (c : Bool) (h : ((tx a).toList == (tx b).toList) = c) : (c = true ↔ a = b) := by rw [← h, tx_beq]; simp
set_option maxRecDepth 100000 in
set_option maxHeartbeats 6400000 in
theorem r11SameTest (a b : Tst) (w : World) (h1 : TsIn w a) (h2 : TsIn w b) (c1 : cntN a.node ≤ 1024) (c2 : cntN b.node ≤ 1024) :
    Calls Tryz.prog 15 #[vT a, vT b] w (RetB w (SameT a b)) := by
  have A1 := al w (mkT a)
  have A2 := al (w.alloc (mkT a)) (mkT b)
  have a0 := (BxT.new w a).below A2
  have b0 := BxT.new (w.alloc (mkT a)) b
  rw [alloc_size] at b0
  have HA := hid (A1.trans (A2.mono A1.size))
  have H1 := hid (h1.keep HA.out); have H2 := hid (h2.keep HA.out)
  have SN := hid (fun (w' : World) (h1 : NdIn w' a.node) (h2 : NdIn w' b.node) => r11SameNode a.node b.node w' h1 h2 c1 c2)
  clear h1 h2 A1 A2
  obtain ⟨b1, hb1⟩ : ∃ x, (a.arch != b.arch) = x := ⟨_, rfl⟩
  obtain ⟨b2, hb2⟩ : ∃ x, ((tx a.name).toList == (tx b.name).toList) = x := ⟨_, rfl⟩
  obtain ⟨b3, hb3⟩ : ∃ x, ((tx a.cycle).toList == (tx b.cycle).toList) = x := ⟨_, rfl⟩
  obtain ⟨b4, hb4⟩ : ∃ x, ((a.init.length : Int) != b.init.length) = x := ⟨_, rfl⟩
  obtain ⟨b6, hb6⟩ : ∃ x, (a.q != b.q) = x := ⟨_, rfl⟩
  have K1 := hid (show b1 = false ↔ a.arch = b.arch by rw [← hb1]; simp)
  have K2 := hid (eq_tx _ _ _ hb2)
  have K3 := hid (eq_tx _ _ _ hb3)
  have K4 := hid (show b4 = false ↔ a.init.length = b.init.length by rw [← hb4]; simp; omega)
  have K6 := hid (show b6 = false ↔ a.q = b.q by rw [← hb6]; simp)
  go_enter Tryz.func15, Tryz.ntmps15
  go_upto_region 1 with (fail)
  generalize (w.alloc (mkT a)).alloc (mkT b) = W1 at *
  obtain ⟨p0, p1, p2, p3, p4, p5, p6, p7, p8, p9, p10, p11⟩ := a0.cells
  obtain ⟨q0, q1, q2, q3, q4, q5, q6, q7, q8, q9, q10, q11⟩ := b0.cells
  have SC := hid (r11SameCode a.code b.code a.ca b.ca a.cc b.cc W1 H1.out.code H2.out.code H1.out.rows H2.out.rows)
  cases b1 with
  | true =>
    have HZ := hid (show ¬ SameT a b from fun h => by have := K1.out.2 h.1; cases this)
    clear hb2 hb3 hb4 hb6
    go_wp2_with fail
    (try go_simp)
    go_ret
    exact ⟨false, rfl, ⟨fun h => Bool.noConfusion h, fun h => absurd h HZ.out⟩, HA.out⟩
  | false =>
    have F1 := hid (K1.out.1 rfl)
    cases b2 with
    | false =>
      have HZ := hid (show ¬ SameT a b from fun h => by have := K2.out.2 h.2.1; cases this)
      clear hb3 hb4 hb6
      go_wp2_with fail
      (try go_simp)
      go_ret
      exact ⟨false, rfl, ⟨fun h => Bool.noConfusion h, fun h => absurd h HZ.out⟩, HA.out⟩
    | true =>
      have F2 := hid (K2.out.1 rfl)
      cases b3 with
      | false =>
        have HZ := hid (show ¬ SameT a b from fun h => by have := K3.out.2 h.2.2.1; cases this)
        clear hb4 hb6
        go_wp2_with fail
        (try go_simp)
        go_ret
        exact ⟨false, rfl, ⟨fun h => Bool.noConfusion h, fun h => absurd h HZ.out⟩, HA.out⟩
      | true =>
        have F3 := hid (K3.out.1 rfl)
        cases b4 with
        | true =>
          have HZ := hid (show ¬ SameT a b from fun h => by have := K4.out.2 h.2.2.2.1; cases this)
          clear hb6
          go_wp2_with fail
          (try go_simp)
          go_ret
          exact ⟨false, rfl, ⟨fun h => Bool.noConfusion h, fun h => absurd h HZ.out⟩, HA.out⟩
        | false =>
          have F4 := hid (K4.out.1 rfl)
          obtain ⟨b5, hb5⟩ : ∃ x, decide (codL a.code = codL b.code) = x := ⟨_, rfl⟩
          have K5 := hid (show b5 = true ↔ codL a.code = codL b.code by rw [← hb5]; simp)
          rw [hb5] at SC
          clear hb5
          go_wp2_with fail
          refine SC.out.mono ?_
          rintro e w2 ⟨rfl, E⟩
          clear p0 p1 p2 p3 p4 p5 p6 p7 p8 p9 p10 p11 q0 q1 q2 q3 q4 q5 q6 q7 q8 q9 q10 q11 SC
          obtain ⟨p0, p1, p2, p3, p4, p5, p6, p7, p8, p9, p10, p11⟩ := (a0.below E).cells
          obtain ⟨q0, q1, q2, q3, q4, q5, q6, q7, q8, q9, q10, q11⟩ := (b0.below E).cells
          cases b5 with
          | false =>
            have HZ := hid (show ¬ SameT a b from fun h => by have := K5.out.2 h.2.2.2.2.1; cases this)
            clear hb6
            go_wp2_with fail
            (try go_simp)
            go_ret
            exact ⟨false, rfl, ⟨fun h => Bool.noConfusion h, fun h => absurd h HZ.out⟩, HA.out.trans (E.mono HA.out.size)⟩
          | true =>
            have F5 := hid (K5.out.1 rfl)
            cases b6 with
            | true =>
              have HZ := hid (show ¬ SameT a b from fun h => by have := K6.out.2 h.2.2.2.2.2.1; cases this)
              go_wp2_with fail
              (try go_simp)
              go_ret
              exact ⟨false, rfl, ⟨fun h => Bool.noConfusion h, fun h => absurd h HZ.out⟩, HA.out.trans (E.mono HA.out.size)⟩
            | false =>
              have F6 := hid (K6.out.1 rfl)
              have hlen := F4.out
              obtain ⟨n, hn⟩ : ∃ n, a.init.length = n := ⟨_, rfl⟩
              have HN := hid hn
              have HM := hid (hlen.symm.trans hn)
              have hn1 : n ≤ 1000000000000000000 := by rw [← hn]; exact H1.out.init.len
              have HE := hid E
              rw [hn] at p3
              rw [HM.out] at q3
              clear hn hlen
              go_wp2_with fail
              clear p0 p1 p2 p3 p4 p5 p6 p7 p8 p9 p10 p11 q0 q1 q2 q3 q4 q5 q6 q7 q8 q9 q10 q11
              go_loopw [5] (fun i wr => ∃ j : Nat, j ≤ n ∧ i = .int .i64 j ∧ Below W1.heap.size W1 wr ∧ Hid (∀ k : Nat, k < j → a.init[k]? = b.init[k]?)) (fun i _ => n - (intOf i).toNat)
              case atStart => exact ⟨0, by omega, rfl, E, fun k hk => absurd hk (Nat.not_lt_zero k)⟩
              case round =>
                clear E
                obtain ⟨j, hj, rfl, E, HJ⟩ := hrel
                obtain ⟨p0, p1, p2, p3, p4, p5, p6, p7, p8, p9, p10, p11⟩ := (a0.below E).cells
                obtain ⟨q0, q1, q2, q3, q4, q5, q6, q7, q8, q9, q10, q11⟩ := (b0.below E).cells
                rw [HN.out] at p3
                rw [HM.out] at q3
                by_cases hjt : j < n
                · obtain ⟨x, hx⟩ : ∃ x, a.init[j]? = some x := ⟨_, List.getElem?_eq_getElem (by rw [HN.out]; exact hjt)⟩
                  obtain ⟨y, hy⟩ : ∃ y, b.init[j]? = some y := ⟨_, List.getElem?_eq_getElem (by rw [HM.out]; exact hjt)⟩
                  obtain ⟨r0, r1, r2, r3, r4⟩ := (H1.out.init.below E).ini hx
                  obtain ⟨s0, s1, s2, s3, s4⟩ := (H2.out.init.below E).ini hy
                  have ix := H1.out.init.idx inil cIni_len j (by rw [HN.out]; exact hjt) a.ic
                  have iy := H2.out.init.idx inil cIni_len j (by rw [HM.out]; exact hjt) b.ic
                  rw [HN.out] at ix
                  rw [HM.out] at iy
                  have HXY := hid (And.intro hx hy)
                  clear hx hy
                  have DD : decide (x = y) = true ∨ decide (x = y) = false := by cases decide (x = y) <;> simp
                  rcases DD with hd | hd
                  · have hd2 : (!decide (x = y)) = false := by rw [hd]; rfl
                    have HJ2 := hid (show ∀ k : Nat, k < j + 1 → a.init[k]? = b.init[k]? from fun k hk => by
                      rcases Nat.lt_succ_iff_lt_or_eq.1 hk with h | h
                      · exact HJ.out k h
                      · subst h; rw [HXY.out.1, HXY.out.2, of_decide_eq_true hd])
                    go_wp2_with fail
                    have p3 := cell_regrown p3; have q3 := cell_regrown q3; have r0 := cell_regrown r0; have r1 := cell_regrown r1; have r2 := cell_regrown r2; have r3 := cell_regrown r3; have r4 := cell_regrown r4; have s0 := cell_regrown s0; have s1 := cell_regrown s1; have s2 := cell_regrown s2; have s3 := cell_regrown s3; have s4 := cell_regrown s4
                    refine wp_region_quiet_below (by kernel_rfl) (by kernel_rfl) ?_
                    repeat (go_big_quiet_step (fail))
                    refine wpQuiet_nil ?_
                    intro _ hw'
                    obtain ⟨⟨dq, osq⟩, hw''⟩ := hw'
                    subst hw''
                    have EQ := below_regrown wr dq osq
                    generalize grow (redrawn wr dq) osq = W6 at *
                    have E := E.trans (EQ.mono E.size)
                    clear p3 q3 r0 r1 r2 r3 r4 s0 s1 s2 s3 s4 EQ ix iy
                    go_wp2_with fail
                    go_roundw
                    case rel => exact ⟨j + 1, by omega, by go_num, E, HJ2⟩
                    case measure => simp [intOf]; omega
                  · have hd2 : (!decide (x = y)) = true := by rw [hd]; rfl
                    have HZ := hid (show ¬ SameT a b from fun h => by
                      have h1 := h.2.2.2.2.2.2.1
                      have h3 := HXY.out.1; have h4 := HXY.out.2
                      rw [h1, h4] at h3
                      exact of_decide_eq_false hd (Option.some.inj h3).symm)
                    go_wp2_with fail
                    have p3 := cell_regrown p3; have q3 := cell_regrown q3; have r0 := cell_regrown r0; have r1 := cell_regrown r1; have r2 := cell_regrown r2; have r3 := cell_regrown r3; have r4 := cell_regrown r4; have s0 := cell_regrown s0; have s1 := cell_regrown s1; have s2 := cell_regrown s2; have s3 := cell_regrown s3; have s4 := cell_regrown s4
                    refine wp_region_quiet_below (by kernel_rfl) (by kernel_rfl) ?_
                    repeat (go_big_quiet_step (fail))
                    refine wpQuiet_nil ?_
                    intro _ hw'
                    obtain ⟨⟨dq, osq⟩, hw''⟩ := hw'
                    subst hw''
                    have EQ := below_regrown wr dq osq
                    generalize grow (redrawn wr dq) osq = W6 at *
                    have E := E.trans (EQ.mono E.size)
                    clear p3 q3 r0 r1 r2 r3 r4 s0 s1 s2 s3 s4 EQ ix iy
                    go_wp2_with fail
                    (try go_simp)
                    go_ret
                    exact ⟨false, rfl, ⟨fun h => Bool.noConfusion h, fun h => absurd h HZ.out⟩, HA.out.trans (E.mono HA.out.size)⟩
                · have hjn : j = n := by omega
                  have HIN := hid (show a.init = b.init from list_eq_of (by rw [HN.out, HM.out]) fun k hk => HJ.out k (by rw [HN.out] at hk; omega))
                  have SN := hid (SN.out wr (H1.out.node.keep E) (H2.out.node.keep E))
                  clear hjn
                  go_wp2_with fail
                  refine SN.out.mono ?_
                  rintro e w7 ⟨bb, rfl, hbb, E7⟩
                  have HBB := hid hbb
                  clear hbb
                  go_wp2_with fail
                  (try go_simp)
                  go_ret
                  exact ⟨bb, rfl, ⟨fun h => ⟨F1.out, F2.out, F3.out, F4.out, F5.out, F6.out, HIN.out, HBB.out.1 h⟩, fun h => HBB.out.2 h.2.2.2.2.2.2.2⟩, HA.out.trans ((E.trans (E7.mono E.size)).mono HA.out.size)⟩
end Go.Proofs.YthaibjefnclkjaaGreatDoor
namespace Go.Proofs.YthaibjefnclkjaaGreatDoor
open Go.RowKit Go.Sort
set_option linter.unusedVariables false

theorem codL_bareC (l : List Cd) : codL (bareC l) = codL l := by unfold codL bareC; rw [List.map_map]; rfl
theorem bare_same {t t' : Tst} (h : bare t' = bare t) : SameT t' t := by
  have h1 := congrArg Tst.arch h; have h2 := congrArg Tst.name h; have h3 := congrArg Tst.cycle h; have h4 := congrArg Tst.init h; have h5 := congrArg Tst.code h; have h6 := congrArg Tst.q h; have h7 := congrArg Tst.node h
  simp only [bare] at h1 h2 h3 h4 h5 h6 h7
  refine ⟨h1, h2, h3, by rw [h4], ?_, h6, h4, by rw [h7]⟩
  rw [← codL_bareC t'.code, ← codL_bareC t.code, h5]
theorem bare_node {t t' : Tst} (h : bare t' = bare t) : t'.node = t.node := by have h7 := congrArg Tst.node h; exact h7
theorem printE_ok {t : Tst} (h : (printE t).2 = 0) : tstE t = 0 := by
  unfold printE at h
  by_cases h1 : tstE t = 0
  · exact h1
  · rw [if_pos h1] at h; exact h
set_option maxRecDepth 100000 in
set_option maxHeartbeats 3200000 in
theorem lawFilePrints (t : Tst) (w : World) (h : TsIn w t) (hz : TsSz t) (g : Gl w) : Calls Tryz.prog 4 #[vT t] w (Ret w (.bool true)) := by
  have A := al w (mkT t)
  have b0 := BxT.new w t
  have HI := hid (h.keep A)
  have HA := hid A
  have HG := hid (g.below A)
  have CP := hid (copy13 t _ (h.keep A) hz)
  have AW := hid awake13
  have R2 := hid (fun (w' : World) (h : TsIn w' t) (g : Gl w') => r13Print t w' h g)
  have HOK := hid (printE_ok (t := t))
  obtain ⟨pr, hpr⟩ : ∃ pr, printE t = pr := ⟨_, rfl⟩
  have P1 := hid (fun (t' : Tst) (hb : bare t' = bare t) (w' : World) (h : TsIn w' t') (g : Gl w') => (show Calls Tryz.prog 13 #[vT t'] w' (Ret w' (.tuple #[.string (tx pr.1), .int .i64 pr.2])) from by
    have h1 := filePrint t' w' h g
    rw [of_bare printE_bare hb, hpr] at h1
    exact h1))
  rw [hpr] at R2 HOK
  obtain ⟨s, er⟩ := pr
  dsimp only at R2 P1 HOK
  have ze : ((tx s).toList == (tx s).toList) = true := by simp
  clear h hz A g hpr
  go_enter Tryz.func4, Tryz.ntmps4
  go_upto_region 1 with (fail)
  generalize w.alloc (mkT t) = W1 at *
  obtain ⟨c0, c1, c2, c3, c4, c5, c6, c7, c8, c9, c10, c11⟩ := b0.cells
  go_wp2_with fail
  refine CP.out.mono ?_
  rintro e w2 ⟨t', rfl, hb, h', E⟩
  have A3 := al w2 (mkT t')
  have t0 := BxT.new w2 t'
  have H' := hid (h'.keep A3)
  have E := E.trans (A3.mono E.size)
  have P1 := hid (P1.out t' hb _ H'.out (HG.out.below E))
  have HB := hid hb
  clear c0 c1 c2 c3 c4 c5 c6 c7 c8 c9 c10 c11 CP h' hb A3
  go_upto_region 2 with (fail)
  generalize w2.alloc (mkT t') = W3 at *
  have HT0 := hid t0
  obtain ⟨d0, d1, d2, d3, d4, d5, d6, d7, d8, d9, d10, d11⟩ := t0.cells
  go_wp2_with fail
  refine P1.out.mono ?_
  rintro e w4 ⟨rfl, E4⟩
  have HT4 := hid (HT0.out.below E4)
  have H4 := hid (H'.out.keep E4)
  have E := E.trans (E4.mono E.size)
  clear d0 d1 d2 d3 d4 d5 d6 d7 d8 d9 d10 d11 P1 E4 HT0 H'
  obtain ⟨c0, c1, c2, c3, c4, c5, c6, c7, c8, c9, c10, c11⟩ := (b0.below E).cells
  have R2 := hid (R2.out w4 (HI.out.keep E) (HG.out.below E))
  go_wp2_with fail
  refine R2.out.mono ?_
  rintro e w5 ⟨rfl, E5⟩
  have HT5 := hid (HT4.out.below E5)
  have H5 := hid (H4.out.keep E5)
  have E := E.trans (E5.mono E.size)
  clear c0 c1 c2 c3 c4 c5 c6 c7 c8 c9 c10 c11 R2 E5 HT4 H4
  by_cases h0 : er = 0
  · subst h0
    have hcn : cntN t.node ≤ 1024 := by
      obtain ⟨-, -, -, -, k, -⟩ := tst_ok (HOK.out rfl)
      exact (cond_ok (askE_ok k)).2.2.2.2
    have ST := hid (r11SameTest t' t w5 H5.out (HI.out.keep E) (by rw [bare_node HB.out]; exact hcn) hcn)
    have HS := hid (bare_same HB.out)
    obtain ⟨c0, c1, c2, c3, c4, c5, c6, c7, c8, c9, c10, c11⟩ := (b0.below E).cells
    obtain ⟨d0, d1, d2, d3, d4, d5, d6, d7, d8, d9, d10, d11⟩ := HT5.out.cells
    clear HOK hcn
    go_wp2_with fail
    refine ST.out.mono ?_
    rintro e w6 ⟨b, rfl, hb, E6⟩
    have HBT := hid (hb.2 HS.out)
    have hbt := HBT.out
    subst hbt
    have E := E.trans (E6.mono E.size)
    clear c0 c1 c2 c3 c4 c5 c6 c7 c8 c9 c10 c11 d0 d1 d2 d3 d4 d5 d6 d7 d8 d9 d10 d11 hb ST E6 HS HBT
    have AW := hid (AW.out _ (HG.out.below E))
    go_wp2_with fail
    refine AW.out.mono ?_
    rintro e w7 ⟨rfl, E7⟩
    have E := E.trans (E7.mono E.size)
    go_wp2_with fail
    (try go_simp)
    go_ret
    exact ⟨rfl, HA.out.trans (E.mono HA.out.size)⟩
  · have z : (er != 0) = true := by simpa using h0
    have AW := hid (AW.out _ (HG.out.below E))
    clear h0 HOK
    go_wp2_with fail
    refine AW.out.mono ?_
    rintro e w7 ⟨rfl, E7⟩
    have E := E.trans (E7.mono E.size)
    go_wp2_with fail
    (try go_simp)
    go_ret
    exact ⟨rfl, HA.out.trans (E.mono HA.out.size)⟩
end Go.Proofs.YthaibjefnclkjaaGreatDoor

/- The walks of Clone of names, Locs (document and program). Conditions: the test lies in memory as read. The walks of Clone of names and Locs (program). Conditions: the test lies in memory as read. The walk of the law FileTables. Conditions: the test lies in memory as read; the library's variables as laid. The walk of the law FileChecks. Conditions: the test lies in memory as read; the library's variables as laid. -/
import Derived.Test.YthaibjefnclkjaaGreatDoorY6
import Derived.Test.YthaibjefnclkjaaGreatDoorZ22
import Derived.Test.YthaibjefnclkjaaGreatDoorZ20
import Derived.Test.YthaibjefnclkjaaGreatDoorY3
import Derived.Test.YthaibjefnclkjaaGreatDoorZ14
import Derived.Test.YthaibjefnclkjaaGreatDoorY1
import Derived.Test.YthaibjefnclkjaaGreatDoorZ5
import Derived.Test.YthaibjefnclkjaaGreatDoorZ4
import Derived.Test.YthaibjefnclkjaaGreatDoorZc1
import Derived.Test.YthaibjefnclkjaaGreatDoorZ3
import Derived.Test.YthaibjefnclkjaaGreatDoorZ2
import Derived.Test.YthaibjefnclkjaaGreatDoorZ1
import Derived.Test.YthaibjefnclkjaaGreatDoorRows
import Derived.Lib.SlTrimSet
import Derived.Lib.ItoaNum
import Derived.WalkKit
import Derived.WalkSpells
import Derived.WalkLawsBesides
import Derived.Deep.QuietTactic
import Derived.BigQuiet
import Derived.ProofKit
import Derived.OpenShut
import Derived.ShutString
import Derived.ChangeOld
import Derived.Carry
import Derived.SizedLaws
import Derived.Laws.StructEq
import Derived.Shelf.SlicesQ.Load
import Derived.Lib.SplitLaws
import Derived.Lib.Strings
import Derived.Lib.ItoaMem
import Derived.Shelf.Strings.SlTrimAscii
import Derived.Shelf.Small.Strs
import Derived.Shelf.Strconv.Itoa3
import Derived.Shelf.LaysM
import Derived.Shelf.Strings.Prefix
import Derived.Test.YthaibjefnclkjaaGreatDoorProg
import Derived.Lib.ItoaLen
import Derived.WalkSmall
import Derived.Laws.Concat
import Derived.BigRegion
import Derived.StillTailTactics
import Derived.Deep.RegionWith
import Derived.Lib.AtoiAll
import Derived.Deep.DeepCutAuto
import Derived.Maps.OwnSet
import Derived.Maps.Views
import Derived.Lib.Bytealg
import Derived.Test.YthaibjefnclkjaaGreatDoorY2
import Derived.Test.YthaibjefnclkjaaGreatDoorZ12
import Derived.Test.YthaibjefnclkjaaGreatDoorZ7
import Derived.Test.YthaibjefnclkjaaGreatDoorZ6
import Derived.Laws.IdiomCopy
import Derived.Shelf.Sort.Plain
import Derived.Shelf.Slices.In.SortNone
import Derived.Shelf.Slices.CompactS
import Derived.Shelf.Slices.Clone
import Derived.Shelf.SlSortCmp.NoneTotal
import Derived.Shelf.SlicesE.Clone
import Derived.Shelf.Strings.Repeat
import Derived.Test.YthaibjefnclkjaaGreatDoorZ8
import Derived.Test.YthaibjefnclkjaaGreatDoorZ11
import Derived.Test.YthaibjefnclkjaaGreatDoorZ9
import Derived.Test.YthaibjefnclkjaaGreatDoorZ10
import Derived.Lib.QuietBelow
import Derived.Lib.Builder
import Derived.Lib.AppendStr
import Derived.Lib.UnsafeStr
import Derived.Lib.OthersKept
import Derived.Laws.Externs
import Derived.RegionTactic
import Derived.Test.YthaibjefnclkjaaGreatDoorZ13
import Derived.Deep.RegionHeld3
import Derived.Test.YthaibjefnclkjaaGreatDoorY4
import Derived.Test.YthaibjefnclkjaaGreatDoorZ19
import Derived.Test.YthaibjefnclkjaaGreatDoorZ18
import Derived.Test.YthaibjefnclkjaaGreatDoorZ17
import Derived.Test.YthaibjefnclkjaaGreatDoorZ15
import Derived.Test.YthaibjefnclkjaaGreatDoorZ16
import Derived.Test.YthaibjefnclkjaaGreatDoorY5
import Derived.Maps.OwnOps
import Derived.StringKeys
import Derived.Test.YthaibjefnclkjaaGreatDoorZ21
import Derived.Lib.SlicesCompact
import Derived.Sort.OwnSorted
import Derived.DeepKeys5
import Derived.Test.YthaibjefnclkjaaGreatDoorY9
import Derived.Test.YthaibjefnclkjaaGreatDoorY8
import Derived.Test.YthaibjefnclkjaaGreatDoorZ27
import Derived.Test.YthaibjefnclkjaaGreatDoorZ25
import Derived.Test.YthaibjefnclkjaaGreatDoorZc2
import Derived.Test.YthaibjefnclkjaaGreatDoorZ24
import Derived.Test.YthaibjefnclkjaaGreatDoorY7
import Derived.Test.YthaibjefnclkjaaGreatDoorZ23
import Derived.Test.YthaibjefnclkjaaGreatDoorZ26
import Derived.Test.YthaibjefnclkjaaGreatDoorZc4
import Derived.Test.YthaibjefnclkjaaGreatDoorZc3
import Derived.Deep.LoopGhost
namespace Go.Proofs.YthaibjefnclkjaaGreatDoor
open Go.RowKit Go.Sort
set_option linter.unusedVariables false

def locsV (t : Tst) : List Tx := if tstE t = 0 then namesT t else []
set_option maxRecDepth 100000 in
set_option maxHeartbeats 3200000 in
theorem r13Locs (t : Tst) (w : World) (h : TsIn w t) : Calls Tryz.prog 17 #[vT t] w (RetTL w (locsV t) (tstE t)) := by
  have A := al w (mkT t)
  have b0 := BxT.new w t
  have HI := hid (h.keep A)
  have HA := hid A
  have CH := r13Check t _ (h.keep A)
  obtain ⟨r, hr⟩ : ∃ r, tstE t = r := ⟨_, rfl⟩
  rw [hr] at CH ⊢
  have CH := hid CH
  have HR := hid hr
  clear h A hr
  go_enter Tryz.func17, Tryz.ntmps17
  go_upto_region 1 with (fail)
  generalize w.alloc (mkT t) = W1 at *
  obtain ⟨c0, c1, c2, c3, c4, c5, c6, c7, c8, c9, c10, c11⟩ := b0.cells
  go_wp2_with fail
  refine CH.out.mono ?_
  rintro e w2 ⟨rfl, E⟩
  clear c0 c1 c2 c3 c4 c5 c6 c7 c8 c9 c10 c11 CH
  by_cases h0 : r = 0
  · subst h0
    have HV := hid (show locsV t = namesT t by unfold locsV; rw [if_pos HR.out])
    obtain ⟨-, -, k3, k4, -, -⟩ := tst_ok HR.out
    obtain ⟨-, k5, k6⟩ := coded_ok k3
    obtain ⟨c0, c1, c2, c3, c4, c5, c6, c7, c8, c9, c10, c11⟩ := (b0.below E).cells
    have LO := hid (r13Locs0 t (begun_ok k4) k5 k6 w2 (HI.out.keep E))
    clear k3 k4 k5 k6
    go_wp2_with fail
    refine LO.out.mono ?_
    rintro e w3 ⟨a, c, rfl, o, E3⟩
    have HO := hid (And.intro (Own.mono o (Nat.le_trans HA.out.size E.size)) (HA.out.trans ((E.trans (E3.mono E.size)).mono HA.out.size)))
    clear c0 c1 c2 c3 c4 c5 c6 c7 c8 c9 c10 c11 LO E3 o
    go_wp2_with fail
    (try go_simp)
    go_ret2
    rw [HV.out]
    exact ⟨a, c, rfl, HO.out.1, HO.out.2⟩
  · have z : (r != 0) = true := by simpa using h0
    have HV := hid (show locsV t = [] by unfold locsV; rw [HR.out, if_neg h0])
    clear h0
    go_wp2_with fail
    (try go_simp)
    go_ret2
    rw [HV.out]
    exact ⟨none, 0, rfl, Own.nil _ _ _ _, HA.out.trans (E.mono HA.out.size)⟩
end Go.Proofs.YthaibjefnclkjaaGreatDoor
namespace Go.Proofs.YthaibjefnclkjaaGreatDoor
open Go.RowKit Go.Sort
set_option linter.unusedVariables false

set_option maxRecDepth 100000 in
set_option maxHeartbeats 1600000 in
theorem cloneS (l : List Tx) (a : Option Addr) (c : Nat) (w : World) (h : Txs w a l) (hl : l.length ≤ 1000000) :
    Calls Tryz.prog 40 #[.slice a l.length c] w (RetS1 w l) := by
  obtain ⟨n, hn⟩ : ∃ n, l.length = n := ⟨_, rfl⟩
  have HN := hid hn
  rw [hn] at hl
  unfold RetS1
  rw [hn]
  cases a with
  | none =>
    have hl0 : l = [] := by
      by_cases e : l = []
      · exact e
      · have := h.row.head (by intro e2; exact e (List.map_eq_nil_iff.1 e2))
        cases this
    subst hl0
    have hn0 : n = 0 := hn.symm
    subst hn0
    have ze : ∀ w, (binOp .eql 44 (.slice none 0 c) (.slice none 0 0)).run Tryz.prog w = .ok (.bool true) w := fun w => rfl
    clear hn h
    go_enter Tryz.func40, Tryz.ntmps40
    go_wp2_with fail
    go_ret
    exact ⟨none, 0, rfl, Own.nil _ _ _ _, Below.refl _ _⟩
  | some p =>
    have ze : ∀ w, (binOp .eql 44 (.slice (some p) n c) (.slice none 0 0)).run Tryz.prog w = .ok (.bool false) w := fun w => rfl
    have A := al w (.cells #[] 9)
    have o0 := Own.lit0' w 9 1
    have hA := h.below A
    have hrl : (sV l).length = n * 1 := by simp [sV, hn]
    have h1c : ∀ u ∈ sV l, u.oneCell' = true := by
      intro u hu
      obtain ⟨x, -, rfl⟩ := List.mem_map.1 hu
      rfl
    clear hn h
    go_enter Tryz.func40, Tryz.ntmps40
    go_wp2_with (at_builtin; go_loud (refine wpList_app txl (.tmp 5) (.tmp 6) rfl rfl rfl o0 rfl hA.row hrl h1c A A.size (by omega) (by unfold maxLen; omega) ?_))
    intro a1 c1 w1 o1 g1 E1
    have o2 : OwnS w1 w.heap.size a1 n c1 l := by simpa [OwnS] using o1
    have HO := hid (And.intro o2 E1)
    clear o0 A hA o1 g1 E1 o2
    go_wp2_with fail
    go_ret
    exact ⟨a1, c1, rfl, HO.out.1, HO.out.2⟩
set_option maxRecDepth 100000 in
set_option maxHeartbeats 3200000 in
theorem fileLocs (t : Tst) (w : World) (h : TsIn w t) : Calls Tryz.prog 16 #[vT t] w (RetTL w (locsV t) (tstE t)) := by
  have A := al w (mkT t)
  have b0 := BxT.new w t
  have HI := hid (h.keep A)
  have HA := hid A
  have CH := fileCheck t _ (h.keep A)
  obtain ⟨r, hr⟩ : ∃ r, tstE t = r := ⟨_, rfl⟩
  rw [hr] at CH ⊢
  have CH := hid CH
  have HR := hid hr
  clear h A hr
  go_enter Tryz.func16, Tryz.ntmps16
  go_upto_region 1 with (fail)
  generalize w.alloc (mkT t) = W1 at *
  obtain ⟨c0, c1, c2, c3, c4, c5, c6, c7, c8, c9, c10, c11⟩ := b0.cells
  go_wp2_with fail
  refine CH.out.mono ?_
  rintro e w2 ⟨rfl, E⟩
  clear c0 c1 c2 c3 c4 c5 c6 c7 c8 c9 c10 c11 CH
  by_cases h0 : r = 0
  · subst h0
    have HV := hid (show locsV t = namesT t by unfold locsV; rw [if_pos HR.out])
    obtain ⟨-, -, k3, k4, -, k7⟩ := tst_ok HR.out
    obtain ⟨-, k5, k6⟩ := coded_ok k3
    obtain ⟨c0, c1, c2, c3, c4, c5, c6, c7, c8, c9, c10, c11⟩ := (b0.below E).cells
    have LO := hid (fileNames t (begun_ok k4) k5 k6 w2 (HI.out.keep E))
    clear k3 k4 k5 k6
    go_wp2_with fail
    refine LO.out.mono ?_
    rintro e w3 ⟨a, c, rfl, ts, E3⟩
    have CL := hid (cloneS (namesT t) a c w3 ts (by omega))
    have E := E.trans (E3.mono E.size)
    clear c0 c1 c2 c3 c4 c5 c6 c7 c8 c9 c10 c11 LO E3 ts
    go_wp2_with fail
    refine CL.out.mono ?_
    rintro e w4 ⟨a4, c4, rfl, o, E4⟩
    have HO := hid (And.intro (Own.mono o (Nat.le_trans HA.out.size E.size)) (HA.out.trans ((E.trans (E4.mono E.size)).mono HA.out.size)))
    clear CL E4 o
    go_wp2_with fail
    (try go_simp)
    go_ret2
    rw [HV.out]
    exact ⟨a4, c4, rfl, HO.out.1, HO.out.2⟩
  · have z : (r != 0) = true := by simpa using h0
    have HV := hid (show locsV t = [] by unfold locsV; rw [HR.out, if_neg h0])
    clear h0
    go_wp2_with fail
    (try go_simp)
    go_ret2
    rw [HV.out]
    exact ⟨none, 0, rfl, Own.nil _ _ _ _, HA.out.trans (E.mono HA.out.size)⟩
end Go.Proofs.YthaibjefnclkjaaGreatDoor
namespace Go.Proofs.YthaibjefnclkjaaGreatDoor
open Go.RowKit Go.Sort
set_option linter.unusedVariables false

theorem locsV_bare (t : Tst) : locsV (bare t) = locsV t := by unfold locsV; rw [tstE_bare, namesT_bare]
theorem locsV_len (t : Tst) : (locsV t).length ≤ 1000 := by
  unfold locsV
  split
  · rename_i h
    obtain ⟨-, -, -, -, -, k7⟩ := tst_ok h
    omega
  · simp
end Go.Proofs.YthaibjefnclkjaaGreatDoor
namespace Go.Proofs.YthaibjefnclkjaaGreatDoor
open Go.RowKit Go.Sort
set_option linter.unusedVariables false

theorem r11SameTest_yes (a b : Tst) (w : World) (h1 : TsIn w a) (h2 : TsIn w b) (c1 : cntN a.node ≤ 1024) (c2 : cntN b.node ≤ 1024) (h : SameT a b) :
    Calls Tryz.prog 15 #[vT a, vT b] w (Ret w (.bool true)) :=
  (r11SameTest a b w h1 h2 c1 c2).mono fun e w' ⟨bb, he, hb, hE⟩ => ⟨by rw [he, hb.2 h], hE⟩
set_option maxRecDepth 100000 in
set_option maxHeartbeats 6400000 in
theorem lawFileChecks (t : Tst) (w : World) (h : TsIn w t) (hz : TsSz t) (g : Gl w) : Calls Tryz.prog 6 #[vT t] w (Ret w (.bool true)) := by
  have A := al w (mkT t)
  have b0 := BxT.new w t
  have HI := hid (h.keep A)
  have HA := hid A
  have HG := hid (g.below A)
  have CP := hid (copy13 t _ (h.keep A) hz)
  have AW := hid awake13
  have hl := locsV_len t
  have R2 := hid (fun (w' : World) (h : TsIn w' t) => r13Locs t w' h)
  have R3 := hid (fun (w' : World) (h : TsIn w' t) => r13Check t w' h)
  have HCN := hid (show tstE t = 0 → cntN t.node ≤ 1024 from fun h => by
    obtain ⟨-, -, -, -, k, -⟩ := tst_ok h
    exact (cond_ok (askE_ok k)).2.2.2.2)
  obtain ⟨L, hL⟩ : ∃ L, locsV t = L := ⟨_, rfl⟩
  obtain ⟨r, hr⟩ : ∃ r, tstE t = r := ⟨_, rfl⟩
  have P1 := hid (fun (t' : Tst) (hb : bare t' = bare t) (w' : World) (h : TsIn w' t') => (show Calls Tryz.prog 16 #[vT t'] w' (RetTL w' L r) from by
    have h1 := fileLocs t' w' h
    rw [of_bare locsV_bare hb, of_bare tstE_bare hb, hL, hr] at h1
    exact h1))
  have P2 := hid (fun (t' : Tst) (hb : bare t' = bare t) (w' : World) (h : TsIn w' t') => (show Calls Tryz.prog 18 #[vT t'] w' (Ret w' (.int .i64 r)) from by
    have h1 := fileCheck t' w' h
    rw [of_bare tstE_bare hb, hr] at h1
    exact h1))
  rw [hL, hr] at R2
  rw [hr] at R3 HCN
  rw [hL] at hl
  clear h hz A g hL hr
  go_enter Tryz.func6, Tryz.ntmps6
  go_upto_region 1 with (fail)
  generalize w.alloc (mkT t) = W1 at *
  obtain ⟨c0, c1, c2, c3, c4, c5, c6, c7, c8, c9, c10, c11⟩ := b0.cells
  go_wp2_with fail
  refine CP.out.mono ?_
  rintro e w2 ⟨t', rfl, hb, h', E⟩
  have A3 := al w2 (mkT t')
  have t0 := BxT.new w2 t'
  have H' := hid (h'.keep A3)
  have E := E.trans (A3.mono E.size)
  have PL := hid (P1.out t' hb _ H'.out)
  have HB := hid hb
  clear c0 c1 c2 c3 c4 c5 c6 c7 c8 c9 c10 c11 CP h' hb A3
  go_upto_region 2 with (fail)
  obtain ⟨u, hu⟩ : ∃ u, w2.heap.size = u := ⟨_, rfl⟩
  generalize w2.alloc (mkT t') = W3 at *
  rw [hu] at t0 ⊢
  have HE13 := hid E
  have HT0 := hid t0
  obtain ⟨d0, d1, d2, d3, d4, d5, d6, d7, d8, d9, d10, d11⟩ := t0.cells
  clear hu
  go_wp2_with fail
  refine PL.out.mono ?_
  rintro e w4 ⟨la, lc, rfl, ol, E4⟩
  have HE34 := hid E4
  have HH3 := hid H'.out
  have HT3 := hid HT0.out
  have HT4 := hid (HT0.out.below E4)
  have H4 := hid (H'.out.keep E4)
  have E := E.trans (E4.mono E.size)
  clear d0 d1 d2 d3 d4 d5 d6 d7 d8 d9 d10 d11 PL E4 HT0 H'
  obtain ⟨c0, c1, c2, c3, c4, c5, c6, c7, c8, c9, c10, c11⟩ := (b0.below E).cells
  have R2 := hid (R2.out w4 (HI.out.keep E))
  go_wp2_with fail
  refine R2.out.mono ?_
  rintro e w5 ⟨ma, mc, rfl, om, E5⟩
  have ol0 := ol
  have ol := Own.below ol E5
  have HT5 := hid (HT4.out.below E5)
  have H5 := hid (H4.out.keep E5)
  have E := E.trans (E5.mono E.size)
  clear c0 c1 c2 c3 c4 c5 c6 c7 c8 c9 c10 c11 R2 HT4 H4
  obtain ⟨c0, c1, c2, c3, c4, c5, c6, c7, c8, c9, c10, c11⟩ := (b0.below E).cells
  obtain ⟨d0, d1, d2, d3, d4, d5, d6, d7, d8, d9, d10, d11⟩ := HT5.out.cells
  have HTL := hid (OwnS.txs ol (by omega)); have HTM := hid (OwnS.txs om (by omega))
  have hAP : Apart la ma := by
    cases la with
    | none => exact .inl rfl
    | some p =>
      cases ma with
      | none => exact .inr (.inl rfl)
      | some q =>
        have h1 := (Own.lt ol0 (by simp)).2
        have h2 := (Own.lt om (by simp)).1
        exact .inr (.inr (by omega))
  have HAP := hid hAP
  have CA := hid (fun (d : Nat) (os : Array Obj) => P2.out t' HB.out (grow (redrawn w5 d) os) (H5.out.keep (below_regrown w5 d os)))
  have CB := hid (fun (d : Nat) (os : Array Obj) => R3.out (grow (redrawn w5 d) os) (HI.out.keep (E.trans ((below_regrown w5 d os).mono E.size))))
  have CC := hid (fun (d : Nat) (os : Array Obj) => r13SameTexts_self L la ma lc mc (grow (redrawn w5 d) os) (HTL.out.below (below_regrown w5 d os)) (HTM.out.below (below_regrown w5 d os)) (by omega))
  have CD := hid (fun (h0 : r = 0) (d : Nat) (os : Array Obj) => r11SameTest_yes t' t (grow (redrawn w5 d) os) (H5.out.keep (below_regrown w5 d os)) (HI.out.keep (E.trans ((below_regrown w5 d os).mono E.size))) (by rw [bare_node HB.out]; exact HCN.out h0) (HCN.out h0) (bare_same HB.out))
  have zr : (r != r) = false := by simp
  have zr2 : (r == r) = true := by simp
  go_upto_region 4 with (fail)
  go_cut [49] (fun x wx => x = .bool false ∧ Below w5.heap.size w5 wx)
  case first =>
    by_cases h0 : r = 0
    · have z0 : (r == 0) = true := by simpa using h0
      have CD := hid (CD.out h0)
      clear h0
      have cA := fun (d : Nat) (os : Array Obj) => Calls.regrown_of (retc' (CA.out d os))
      have cB := fun (d : Nat) (os : Array Obj) => Calls.regrown_of (retc' (CB.out d os))
      have cC := fun (d : Nat) (os : Array Obj) => Calls.regrown_of (retc' (CC.out d os))
      have cD := fun (d : Nat) (os : Array Obj) => Calls.regrown_of (retc' (CD.out d os))
      have c0 := cell_regrown c0; have c1 := cell_regrown c1; have c2 := cell_regrown c2; have c3 := cell_regrown c3; have c4 := cell_regrown c4; have c5 := cell_regrown c5; have c6 := cell_regrown c6; have c7 := cell_regrown c7; have c8 := cell_regrown c8; have c9 := cell_regrown c9; have c10 := cell_regrown c10; have c11 := cell_regrown c11; have d0 := cell_regrown d0; have d1 := cell_regrown d1; have d2 := cell_regrown d2; have d3 := cell_regrown d3; have d4 := cell_regrown d4; have d5 := cell_regrown d5; have d6 := cell_regrown d6; have d7 := cell_regrown d7; have d8 := cell_regrown d8; have d9 := cell_regrown d9; have d10 := cell_regrown d10; have d11 := cell_regrown d11
      refine wp_region_quiet_below (by kernel_rfl) (by kernel_rfl) ?_
      repeat (go_big_quiet_step (first | exact cA _ _ | exact cB _ _ | exact cC _ _ | exact cD _ _))
      refine wpQuiet_nil ?_
      intro _ hw'
      obtain ⟨⟨dq, osq⟩, hw''⟩ := hw'
      subst hw''
      have EQ := hid (below_regrown w5 dq osq)
      go_wp2_with fail
      go_meet
      exact ⟨rfl, EQ.out⟩
    · have z0 : (r == 0) = false := by simpa using h0
      clear h0
      have cA := fun (d : Nat) (os : Array Obj) => Calls.regrown_of (retc' (CA.out d os))
      have cB := fun (d : Nat) (os : Array Obj) => Calls.regrown_of (retc' (CB.out d os))
      have cC := fun (d : Nat) (os : Array Obj) => Calls.regrown_of (retc' (CC.out d os))
      have c0 := cell_regrown c0; have c1 := cell_regrown c1; have c2 := cell_regrown c2; have c3 := cell_regrown c3; have c4 := cell_regrown c4; have c5 := cell_regrown c5; have c6 := cell_regrown c6; have c7 := cell_regrown c7; have c8 := cell_regrown c8; have c9 := cell_regrown c9; have c10 := cell_regrown c10; have c11 := cell_regrown c11; have d0 := cell_regrown d0; have d1 := cell_regrown d1; have d2 := cell_regrown d2; have d3 := cell_regrown d3; have d4 := cell_regrown d4; have d5 := cell_regrown d5; have d6 := cell_regrown d6; have d7 := cell_regrown d7; have d8 := cell_regrown d8; have d9 := cell_regrown d9; have d10 := cell_regrown d10; have d11 := cell_regrown d11
      refine wp_region_quiet_below (by kernel_rfl) (by kernel_rfl) ?_
      repeat (go_big_quiet_step (first | exact cA _ _ | exact cB _ _ | exact cC _ _))
      refine wpQuiet_nil ?_
      intro _ hw'
      obtain ⟨⟨dq, osq⟩, hw''⟩ := hw'
      subst hw''
      have EQ := hid (below_regrown w5 dq osq)
      go_wp2_with fail
      go_meet
      exact ⟨rfl, EQ.out⟩
  case rest =>
    obtain ⟨rfl, E6⟩ := hcut
    have E := E.trans (E6.mono E.size)
    have ol := Own.below ol E6
    have om := Own.below om E6
    have E3 := (HE34.out.trans (E5.mono HE34.out.size)).trans (E6.mono (by have := HE34.out.size; have := E5.size; omega))
    obtain ⟨n, hn⟩ : ∃ n, L.length = n := ⟨_, rfl⟩
    have HN := hid hn
    rw [hn] at ol om hl ⊢
    clear c0 c1 c2 c3 c4 c5 c6 c7 c8 c9 c10 c11 d0 d1 d2 d3 d4 d5 d6 d7 d8 d9 d10 d11 CA CB CC CD E6 E E5 hn
    have HW1 := hid (show Below W1.heap.size W1 W3 from HE13.out)
    go_wp2_with fail
    go_loopw [8] (fun i wr => ∃ (j : Nat) (L' : List Tx), j ≤ n ∧ i = .int .i64 j ∧ L'.length = n ∧ Below W3.heap.size W3 wr ∧ OwnS wr W3.heap.size la n lc L' ∧ OwnS wr w4.heap.size ma n mc L) (fun i _ => n - (intOf i).toNat)
    case atStart => exact ⟨0, L, by omega, rfl, HN.out, E3, ol, om⟩
    case round =>
      clear E3 ol om
      obtain ⟨j, L', hj, rfl, hL', E3, ol, om⟩ := hrel
      by_cases hjt : j < n
      · have TX := OwnS.txs ol (by omega)
        have i0 := TX.idx j (by omega) lc
        rw [hL'] at i0
        have q0 := TX.cell j (by omega)
        have f0 := Own.frozen ol (Own.some ol (by omega)) j
        obtain ⟨oj1, oj2⟩ := Own.set ol (Own.some ol (by omega)) j (.string ⟨#[115, 112, 111, 105, 108, 116]⟩)
        have KEY := hid (show Below W3.heap.size W3 (wr.setCell ⟨bk la, fo la + j, none⟩ (.string ⟨#[115, 112, 111, 105, 108, 116]⟩)) ∧ OwnS (wr.setCell ⟨bk la, fo la + j, none⟩ (.string ⟨#[115, 112, 111, 105, 108, 116]⟩)) W3.heap.size la n lc (L'.set j [115, 112, 111, 105, 108, 116]) ∧ OwnS (wr.setCell ⟨bk la, fo la + j, none⟩ (.string ⟨#[115, 112, 111, 105, 108, 116]⟩)) w4.heap.size ma n mc L from
          ⟨bel_set E3 (by have := (Own.lt ol (Own.some ol (by omega))).1; dsimp only; omega) _, by
            unfold OwnS sV
            rw [List.map_set]
            exact oj1, (Own.step om oj2 HAP.out.symm).1⟩)
        have HL2 := hid (show (L'.set j [115, 112, 111, 105, 108, 116]).length = n by rw [List.length_set, hL'])
        clear oj1 oj2 TX ol om E3
        go_wp2_with fail
        go_roundw
        case rel => exact ⟨j + 1, _, by omega, by go_num, HL2.out, KEY.out.1, KEY.out.2.1, KEY.out.2.2⟩
        case measure => simp [intOf]; omega
      · have PL2 := hid (P1.out t' HB.out wr (HH3.out.keep E3))
        have E := HW1.out.trans (E3.mono HW1.out.size)
        have HTM2 := hid (OwnS.txs om (by rw [HN.out]; omega))
        obtain ⟨d0, d1, d2, d3, d4, d5, d6, d7, d8, d9, d10, d11⟩ := (HT3.out.below E3).cells
        go_wp2_with fail
        refine PL2.out.mono ?_
        rintro e w7 ⟨na, nc, rfl, on, E7⟩
        have ST := hid (r13SameTexts_self L na ma nc mc w7 (OwnS.txs on (by rw [HN.out]; omega)) (HTM2.out.below E7) (by rw [HN.out]; omega))
        rw [HN.out] at ST ⊢
        have E := E.trans (E7.mono E.size)
        clear d0 d1 d2 d3 d4 d5 d6 d7 d8 d9 d10 d11 ol om on PL2 E7
        go_wp2_with fail
        refine ST.out.mono ?_
        rintro e w8 ⟨rfl, E8⟩
        have E := E.trans (E8.mono E.size)
        have AW := hid (AW.out _ (HG.out.below E))
        go_wp2_with fail
        refine AW.out.mono ?_
        rintro e w9 ⟨rfl, E9⟩
        have E := E.trans (E9.mono E.size)
        go_wp2_with fail
        (try go_simp)
        go_ret
        exact ⟨rfl, HA.out.trans (E.mono HA.out.size)⟩
end Go.Proofs.YthaibjefnclkjaaGreatDoor

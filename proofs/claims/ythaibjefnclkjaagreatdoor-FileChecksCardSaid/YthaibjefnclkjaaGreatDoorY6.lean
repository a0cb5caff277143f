/- The walk of inits (document). Conditions: the test lies in memory as read. The walk of Check (document). Conditions: the test lies in memory as read. The walks of Clone of names, Locs (document and program). Conditions: the test lies in memory as read. The walk of SameTexts (document). Conditions: the texts lie in memory as read. The walk of filled (document). Conditions: short texts. The walk of cell (document). Conditions: the test lies in memory as read; the library's variables as laid. A table's columns, lines and their lengths. Plain lists; no program, no condition. -/
import Derived.Test.YthaibjefnclkjaaGreatDoorY5
import Derived.Test.YthaibjefnclkjaaGreatDoorZ19
import Derived.Test.YthaibjefnclkjaaGreatDoorZ5
import Derived.Test.YthaibjefnclkjaaGreatDoorZ4
import Derived.Test.YthaibjefnclkjaaGreatDoorZ3
import Derived.Test.YthaibjefnclkjaaGreatDoorY1
import Derived.Test.YthaibjefnclkjaaGreatDoorZ2
import Derived.Test.YthaibjefnclkjaaGreatDoorZ1
import Derived.Test.YthaibjefnclkjaaGreatDoorRows
import Derived.Lib.SlTrimSet
import Derived.Lib.ItoaNum
import Derived.WalkKit
import Derived.WalkSpells
import Derived.WalkLawsBesides
import Derived.Deep.QuietTactic
import Derived.BigQuiet
import Derived.ProofKit
import Derived.OpenShut
import Derived.ShutString
import Derived.ChangeOld
import Derived.Carry
import Derived.SizedLaws
import Derived.Laws.StructEq
import Derived.Shelf.SlicesQ.Load
import Derived.Lib.SplitLaws
import Derived.Lib.Strings
import Derived.Lib.ItoaMem
import Derived.Shelf.Strings.SlTrimAscii
import Derived.Shelf.Small.Strs
import Derived.Shelf.Strconv.Itoa3
import Derived.Shelf.LaysM
import Derived.Shelf.Strings.Prefix
import Derived.Test.YthaibjefnclkjaaGreatDoorProg
import Derived.Lib.ItoaLen
import Derived.WalkSmall
import Derived.Laws.Concat
import Derived.BigRegion
import Derived.StillTailTactics
import Derived.Deep.RegionWith
import Derived.Lib.AtoiAll
import Derived.Deep.DeepCutAuto
import Derived.Maps.OwnSet
import Derived.Maps.Views
import Derived.Lib.Bytealg
import Derived.Test.YthaibjefnclkjaaGreatDoorZ20
import Derived.Test.YthaibjefnclkjaaGreatDoorZ6
import Derived.Test.YthaibjefnclkjaaGreatDoorZ7
import Derived.Test.YthaibjefnclkjaaGreatDoorY3
import Derived.Test.YthaibjefnclkjaaGreatDoorZ14
import Derived.Test.YthaibjefnclkjaaGreatDoorY2
import Derived.Test.YthaibjefnclkjaaGreatDoorZ12
import Derived.Laws.IdiomCopy
import Derived.Shelf.Sort.Plain
import Derived.Shelf.Slices.In.SortNone
import Derived.Shelf.Slices.CompactS
import Derived.Shelf.Slices.Clone
import Derived.Shelf.SlSortCmp.NoneTotal
import Derived.Shelf.SlicesE.Clone
import Derived.Shelf.Strings.Repeat
import Derived.Test.YthaibjefnclkjaaGreatDoorZ8
import Derived.Test.YthaibjefnclkjaaGreatDoorZ11
import Derived.Test.YthaibjefnclkjaaGreatDoorZ9
import Derived.Test.YthaibjefnclkjaaGreatDoorZ10
import Derived.Lib.QuietBelow
import Derived.Lib.Builder
import Derived.Lib.AppendStr
import Derived.Lib.UnsafeStr
import Derived.Lib.OthersKept
import Derived.Laws.Externs
import Derived.RegionTactic
import Derived.Test.YthaibjefnclkjaaGreatDoorZ13
import Derived.Deep.RegionHeld3
import Derived.Test.YthaibjefnclkjaaGreatDoorY4
import Derived.Test.YthaibjefnclkjaaGreatDoorZ18
import Derived.Test.YthaibjefnclkjaaGreatDoorZ17
import Derived.Test.YthaibjefnclkjaaGreatDoorZ15
import Derived.Test.YthaibjefnclkjaaGreatDoorZ16
import Derived.Maps.OwnOps
import Derived.StringKeys
import Derived.Test.YthaibjefnclkjaaGreatDoorZ22
import Derived.Test.YthaibjefnclkjaaGreatDoorZ21
import Derived.Lib.SlicesCompact
import Derived.Sort.OwnSorted
import Derived.DeepKeys5
namespace Go.Proofs.YthaibjefnclkjaaGreatDoor
open Go.RowKit Go.Sort
set_option linter.unusedVariables false

set_option maxRecDepth 100000 in
set_option maxHeartbeats 3200000 in
theorem r13Inits (t : Tst) (ha : archB t.arch = true) (hcn : t.code.length ≤ 1000) (w : World) (h : TsIn w t) : Calls Tryz.prog 53 #[vT t] w (Ret w (.int .i64 (begunE t))) := by
  have A := al w (mkT t)
  have b0 := BxT.new w t
  have HI := hid (h.keep A)
  have HA := hid A
  have HAr := hid ha
  have hil := h.init.len
  clear ha
  by_cases hn : 1024 < t.init.length
  · rw [begunE_long hn]
    obtain ⟨c0, c1, c2, c3, c4, c5, c6, c7, c8, c9, c10, c11⟩ := b0.cells
    clear h A
    go_enter Tryz.func53, Tryz.ntmps53
    go_wp2_with fail
    go_ret
    exact ⟨rfl, HA.out⟩
  · have h1024 : t.init.length ≤ 1024 := by omega
    have HNN := hid hn
    clear hn h A
    go_enter Tryz.func53, Tryz.ntmps53
    go_upto_region 1 with (fail)
    generalize w.alloc (mkT t) = W1 at *
    obtain ⟨c0, c1, c2, c3, c4, c5, c6, c7, c8, c9, c10, c11⟩ := b0.cells
    go_wp2_with fail
    clear c0 c1 c2 c3 c4 c5 c6 c7 c8 c9 c10 c11
    go_loopw [3] (fun i wr => ∃ k : Nat, k ≤ t.init.length ∧ i = .int .i64 k ∧ Below W1.heap.size W1 wr ∧ Hid (FirstK t k ∧ ApartK t k)) (fun i _ => t.init.length - (intOf i).toNat)
    case atStart => exact ⟨0, by omega, rfl, Below.refl _ _, fun j x hj => absurd hj (Nat.not_lt_zero j), fun i j x y _ hj => absurd hj (Nat.not_lt_zero j)⟩
    case round =>
      obtain ⟨k, hk, rfl, E, HK⟩ := hrel
      obtain ⟨c0, c1, c2, c3, c4, c5, c6, c7, c8, c9, c10, c11⟩ := (b0.below E).cells
      by_cases hlt : k < t.init.length
      · obtain ⟨x, hx⟩ : ∃ x, t.init[k]? = some x := ⟨_, List.getElem?_eq_getElem hlt⟩
        obtain ⟨p0, p1, p2, p3, p4⟩ := (HI.out.init.below E).ini hx
        have ix := HI.out.init.idx inil cIni_len k hlt t.ic
        have hxl := HI.out.locs x (List.mem_of_getElem? hx)
        have HX := hid hx
        have LN := hid (fun w => r13Lined t HAr.out x hxl.1 hxl.2 hcn w)
        obtain ⟨f, hf⟩ : ∃ f, firstB t.arch t.code.length x = f := ⟨_, rfl⟩
        rw [hf] at LN
        have HF := hid hf
        clear hx hf hxl
        go_upto_region 7 with (fail)
        have A3 := al wr (mkIni x)
        have x0 : BxL (wr.alloc (mkIni x)) wr.heap.size (cIni x) := BxL.new _ _ _
        generalize wr.alloc (mkIni x) = W3 at *
        have E := E.trans (A3.mono E.size)
        clear c0 c1 c2 c3 c4 c5 c6 c7 c8 c9 c10 c11 p0 p1 p2 p3 p4 ix A3
        obtain ⟨c0, c1, c2, c3, c4, c5, c6, c7, c8, c9, c10, c11⟩ := (b0.below E).cells
        have i0 := x0.get 0 _ rfl; have i1 := x0.get 1 _ rfl; have i2 := x0.get 2 _ rfl; have i3 := x0.get 3 _ rfl; have i4 := x0.get 4 _ rfl
        go_wp2_with fail
        refine (LN.out _).mono ?_
        rintro e w4 ⟨rfl, E4⟩
        have x0 := x0.below E4
        have E := E.trans (E4.mono E.size)
        clear c0 c1 c2 c3 c4 c5 c6 c7 c8 c9 c10 c11 i0 i1 i2 i3 i4 E4 LN
        cases f with
        | false =>
          have HZ := hid (begunE_first HNN.out HX.out HF.out)
          go_wp2_with fail
          go_ret
          rw [HZ.out]
          exact ⟨rfl, HA.out.trans (E.mono HA.out.size)⟩
        | true =>
          go_wp2_with fail
          obtain ⟨xb, hxb⟩ : ∃ xb, wr.heap.size = xb := ⟨_, rfl⟩
          rw [hxb] at x0 ⊢
          clear hxb
          go_loopw [5] (fun i wr2 => ∃ j : Nat, j ≤ k ∧ i = .int .i64 j ∧ Below W1.heap.size W1 wr2 ∧ BxL wr2 xb (cIni x) ∧ Hid (∀ (i : Nat) (y : Ini), i < j → t.init[i]? = some y → keyI y ≠ keyI x)) (fun i _ => k - (intOf i).toNat)
          case atStart => exact ⟨0, by omega, rfl, E, x0, fun j x hj => absurd hj (Nat.not_lt_zero j)⟩
          case round =>
            clear E x0
            obtain ⟨j, hj, rfl, E, x0, HJ⟩ := hrel
            by_cases hjt : j < k
            · obtain ⟨y, hy⟩ : ∃ y, t.init[j]? = some y := ⟨_, List.getElem?_eq_getElem (by omega)⟩
              obtain ⟨c0, c1, c2, c3, c4, c5, c6, c7, c8, c9, c10, c11⟩ := (b0.below E).cells
              obtain ⟨p0, p1, p2, p3, p4⟩ := (HI.out.init.below E).ini hy
              have ix := HI.out.init.idx inil cIni_len j (by omega) t.ic
              have HY := hid hy
              clear hy
              have hne : ∀ (p : Prop), (keyI y = keyI x ↔ (x.thread = y.thread ∧ x.reg = y.reg ∧ x.loc = y.loc)) := fun _ => keyI_eq x y
              have HKE := hid (keyI_eq x y)
              clear hne
              have i0 := x0.get 0 _ rfl; have i1 := x0.get 1 _ rfl; have i2 := x0.get 2 _ rfl
              have x0l := x0.1
              go_upto_region 13 with (fail)
              have A3 := al wr (mkIni y)
              have y0 : BxL (wr.alloc (mkIni y)) wr.heap.size (cIni y) := BxL.new _ _ _
              have x1 := x0.below A3
              generalize wr.alloc (mkIni y) = W5 at *
              have E := E.trans (A3.mono E.size)
              clear c0 c1 c2 c3 c4 c5 c6 c7 c8 c9 c10 c11 p0 p1 p2 p3 p4 ix i0 i1 i2 A3 x0 x0l
              have i0 := x1.get 0 _ rfl; have i1 := x1.get 1 _ rfl; have i2 := x1.get 2 _ rfl
              have j0 := y0.get 0 _ rfl; have j1 := y0.get 1 _ rfl; have j2 := y0.get 2 _ rfl
              obtain ⟨d1, hd1⟩ : ∃ d, (x.thread == y.thread) = d := ⟨_, rfl⟩
              obtain ⟨d2, hd2⟩ : ∃ d, (x.reg == y.reg) = d := ⟨_, rfl⟩
              obtain ⟨d3, hd3⟩ : ∃ d, ((tx x.loc).toList == (tx y.loc).toList) = d := ⟨_, rfl⟩
              have HQ := hid (show decide (keyI y = keyI x) = (d1 && (d2 && d3)) by
                rw [← hd1, ← hd2, ← hd3, tx_beq, Bool.eq_iff_iff, decide_eq_true_eq, HKE.out]; simp)
              clear HKE
              have HJ2 : (d1 && (d2 && d3)) = false → Hid (∀ (i : Nat) (z : Ini), i < j + 1 → t.init[i]? = some z → keyI z ≠ keyI x) := fun hd i z hi hz => by
                rcases Nat.lt_succ_iff_lt_or_eq.1 hi with h1 | h1
                · exact HJ.out i z h1 hz
                · subst h1; rw [HY.out] at hz; cases hz
                  have := HQ.out; rw [hd] at this; exact of_decide_eq_false this
              have HJ2 := hid HJ2
              have HZ := hid (fun hd : (d1 && (d2 && d3)) = true => begunE_twice HNN.out hjt HY.out HX.out (of_decide_eq_true (HQ.out.trans hd)))
              clear HJ
              cases d1
              rotate_left
              · cases d2
                rotate_left
                · cases d3
                  rotate_left
                  · go_wp2_with fail
                    go_ret
                    rw [HZ.out rfl]
                    exact ⟨rfl, HA.out.trans (E.mono HA.out.size)⟩
                  · go_wp2_with fail
                    go_roundw
                    case rel => exact ⟨j + 1, by omega, by go_num, E, x1, HJ2.out rfl⟩
                    case measure => simp [intOf]; omega
                · go_wp2_with fail
                  go_roundw
                  case rel => exact ⟨j + 1, by omega, by go_num, E, x1, HJ2.out rfl⟩
                  case measure => simp [intOf]; omega
              · go_wp2_with fail
                go_roundw
                case rel => exact ⟨j + 1, by omega, by go_num, E, x1, HJ2.out rfl⟩
                case measure => simp [intOf]; omega
            · obtain rfl : j = k := by omega
              have HK2 := hid (And.intro (HK.out.1.snoc HX.out HF.out) (HK.out.2.snoc HX.out HJ.out))
              go_wp2_with fail
              go_roundw
              case rel => exact ⟨j + 1, by omega, by go_num, E, HK2⟩
              case measure => simp [intOf]; omega
      · obtain rfl : k = t.init.length := by omega
        have HZ := hid (begunE_ok HNN.out HK.out.1 HK.out.2)
        go_wp2_with fail
        go_ret
        rw [HZ.out]
        exact ⟨rfl, HA.out.trans (E.mono HA.out.size)⟩
end Go.Proofs.YthaibjefnclkjaaGreatDoor
namespace Go.Proofs.YthaibjefnclkjaaGreatDoor
open Go.RowKit Go.Sort
set_option linter.unusedVariables false

theorem r13Coded (t : Tst) (ha : archB t.arch = true) (w : World) (h : TsIn w t) : Calls Tryz.prog 52 #[vT t] w (Ret w (.int .i64 (codedE t))) := by
  have : t.arch = 1 ∨ t.arch = 2 := by unfold archB at ha; simpa using ha
  rcases this with h1 | h1
  · exact r13Coded_1 t h1 w h
  · exact r13Coded_2 t h1 w h
set_option maxRecDepth 100000 in
set_option maxHeartbeats 3200000 in
theorem r13Check (t : Tst) (w : World) (h : TsIn w t) : Calls Tryz.prog 19 #[vT t] w (Ret w (.int .i64 (tstE t))) := by
  have A := al w (mkT t)
  have b0 := BxT.new w t
  have HI := hid (h.keep A)
  have HA := hid A
  obtain ⟨ab, hab⟩ : ∃ ab, archB t.arch = ab := ⟨_, rfl⟩
  have CA := hid (show ∀ w, Calls Tryz.prog 25 #[.int .i64 t.arch] w fun e w' => e = .returned (.bool ab) ∧ w = w' from fun w => hab ▸ r13Known t.arch w)
  obtain ⟨tb, htb⟩ : ∃ tb, titleB t.name = tb := ⟨_, rfl⟩
  have CT := hid (show ∀ w, Calls Tryz.prog 50 #[.string (tx t.name)] w fun e w' => e = .returned (.bool tb) ∧ w = w' from fun w => htb ▸ r11Titled t.name h.name w)
  obtain ⟨cb, hcb⟩ : ∃ cb, cycleB t.cycle = cb := ⟨_, rfl⟩
  have CC := hid (show ∀ w, Calls Tryz.prog 51 #[.string (tx t.cycle)] w fun e w' => e = .returned (.bool cb) ∧ w = w' from fun w => hcb ▸ r13Cycled t.cycle h.cycle w)
  have HB := hid hab
  have HTC := hid (show (titleB t.name && cycleB t.cycle) = (tb && cb) by rw [htb, hcb])
  clear h A hab htb hcb
  cases ab with
  | false =>
    have HZ := hid (tstE_arch HB.out)
    go_enter Tryz.func19, Tryz.ntmps19
    go_upto_region 1 with (fail)
    generalize w.alloc (mkT t) = W1 at *
    obtain ⟨c0, c1, c2, c3, c4, c5, c6, c7, c8, c9, c10, c11⟩ := b0.cells
    go_wp2_with (go_at_call 25; refine (CA.out _).mono ?_; rintro e w' ⟨rfl, rfl⟩)
    go_ret
    rw [HZ.out]
    exact ⟨rfl, HA.out⟩
  | true =>
    obtain ⟨ok, hok⟩ : ∃ ok, (tb && cb) = ok := ⟨_, rfl⟩
    have HOK := hid (HTC.out.trans hok)
    cases ok with
    | false =>
      have HZ := hid (tstE_text HB.out HOK.out)
      go_enter Tryz.func19, Tryz.ntmps19
      go_upto_region 1 with (fail)
      generalize w.alloc (mkT t) = W1 at *
      obtain ⟨c0, c1, c2, c3, c4, c5, c6, c7, c8, c9, c10, c11⟩ := b0.cells
      cases tb <;> cases cb
      all_goals (try (exfalso; simp at hok; done))
      all_goals
        clear hok
        go_wp2_with (first | (go_at_call 25; refine (CA.out _).mono ?_; rintro e w' ⟨rfl, rfl⟩) | (go_at_call 50; refine (CT.out _).mono ?_; rintro e w' ⟨rfl, rfl⟩) | (go_at_call 51; refine (CC.out _).mono ?_; rintro e w' ⟨rfl, rfl⟩))
        go_ret
        rw [HZ.out]
        exact ⟨rfl, HA.out⟩
    | true =>
      obtain ⟨rfl, rfl⟩ : tb = true ∧ cb = true := by simpa using hok
      have CO := r13Coded t HB.out _ HI.out
      obtain ⟨e1, he1⟩ : ∃ e1, codedE t = e1 := ⟨_, rfl⟩
      rw [he1] at CO
      have CO := hid CO
      have HE1 := hid he1
      clear hok he1
      go_enter Tryz.func19, Tryz.ntmps19
      go_upto_region 1 with (fail)
      generalize w.alloc (mkT t) = W1 at *
      obtain ⟨c0, c1, c2, c3, c4, c5, c6, c7, c8, c9, c10, c11⟩ := b0.cells
      go_wp2_with (first | (go_at_call 25; refine (CA.out _).mono ?_; rintro e w' ⟨rfl, rfl⟩) | (go_at_call 50; refine (CT.out _).mono ?_; rintro e w' ⟨rfl, rfl⟩) | (go_at_call 51; refine (CC.out _).mono ?_; rintro e w' ⟨rfl, rfl⟩))
      refine CO.out.mono ?_
      rintro e w2 ⟨rfl, E⟩
      clear c0 c1 c2 c3 c4 c5 c6 c7 c8 c9 c10 c11 CO
      by_cases h1 : e1 = 0
      rotate_left
      · have z : (e1 != 0) = true := by simpa using h1
        have HZ := hid (show tstE t = e1 by rw [tstE_coded HB.out HOK.out (by rw [HE1.out]; exact h1), HE1.out])
        clear h1
        go_wp2_with fail
        go_ret
        rw [HZ.out]
        exact ⟨rfl, HA.out.trans (E.mono HA.out.size)⟩
      subst h1
      obtain ⟨k1, k2, k3⟩ := coded_ok HE1.out
      have HK3 := hid k3
      obtain ⟨c0, c1, c2, c3, c4, c5, c6, c7, c8, c9, c10, c11⟩ := (b0.below E).cells
      have CO := r13Inits t HB.out (by omega) w2 (HI.out.keep E)
      obtain ⟨e2, he2⟩ : ∃ e2, begunE t = e2 := ⟨_, rfl⟩
      rw [he2] at CO
      have CO := hid CO
      have HE2 := hid he2
      clear he2 k3
      go_wp2_with fail
      refine CO.out.mono ?_
      rintro e w3 ⟨rfl, E3⟩
      have E := E.trans (E3.mono E.size)
      clear c0 c1 c2 c3 c4 c5 c6 c7 c8 c9 c10 c11 CO E3
      by_cases h2 : e2 = 0
      rotate_left
      · have z : (e2 != 0) = true := by simpa using h2
        have HZ := hid (show tstE t = e2 by rw [tstE_begun HB.out HOK.out HE1.out (by rw [HE2.out]; exact h2), HE2.out])
        clear h2
        go_wp2_with fail
        go_ret
        rw [HZ.out]
        exact ⟨rfl, HA.out.trans (E.mono HA.out.size)⟩
      subst h2
      have k4 := begun_ok HE2.out
      have HT := hid (tstE_ask HB.out HOK.out HE1.out HE2.out)
      obtain ⟨c0, c1, c2, c3, c4, c5, c6, c7, c8, c9, c10, c11⟩ := (b0.below E).cells
      have CO := r13Asked t (by omega) w3 (HI.out.keep E)
      obtain ⟨e3, he3⟩ : ∃ e3, askE t = e3 := ⟨_, rfl⟩
      rw [he3] at CO
      have CO := hid CO
      have HE3 := hid he3
      clear he3
      go_wp2_with fail
      refine CO.out.mono ?_
      rintro e w4 ⟨rfl, E4⟩
      have E := E.trans (E4.mono E.size)
      clear c0 c1 c2 c3 c4 c5 c6 c7 c8 c9 c10 c11 CO E4
      by_cases h3 : e3 = 0
      rotate_left
      · have z : (e3 != 0) = true := by simpa using h3
        have HZ := hid (show tstE t = e3 by rw [HT.out, HE3.out, if_pos h3])
        clear h3
        go_wp2_with fail
        go_ret
        rw [HZ.out]
        exact ⟨rfl, HA.out.trans (E.mono HA.out.size)⟩
      subst h3
      obtain ⟨c0, c1, c2, c3, c4, c5, c6, c7, c8, c9, c10, c11⟩ := (b0.below E).cells
      have LO := hid (r13Locs0 t k4 k2 HK3.out w4 (HI.out.keep E))
      go_wp2_with fail
      refine LO.out.mono ?_
      rintro e w5 ⟨a5, c5', rfl, o5, E5⟩
      have E := E.trans (E5.mono E.size)
      have HT2 := hid (show tstE t = if 64 < (namesT t).length then 2 else 0 by rw [HT.out, HE3.out, if_neg (by omega)])
      have hcap := o5.cap.2.1
      unfold Go.maxLen at hcap
      have hcap2 := o5.cap.1
      clear c0 c1 c2 c3 c4 c5 c6 c7 c8 c9 c10 c11 LO E5 o5
      by_cases h64 : 64 < (namesT t).length
      · have HZ := hid (show tstE t = 2 by rw [HT2.out, if_pos h64])
        go_wp2_with fail
        go_ret
        rw [HZ.out]
        exact ⟨rfl, HA.out.trans (E.mono HA.out.size)⟩
      · have HZ := hid (show tstE t = 0 by rw [HT2.out, if_neg h64])
        go_wp2_with fail
        go_ret
        rw [HZ.out]
        exact ⟨rfl, HA.out.trans (E.mono HA.out.size)⟩
end Go.Proofs.YthaibjefnclkjaaGreatDoor
namespace Go.Proofs.YthaibjefnclkjaaGreatDoor
open Go.RowKit Go.Sort
set_option linter.unusedVariables false

def RetTL (w : World) (l : List Tx) (r : Int) (e : Ending) (w' : World) : Prop :=
  ∃ a c, e = .returned (.tuple #[.slice a l.length c, .int .i64 r]) ∧ OwnS w' w.heap.size a l.length c l ∧ Below w.heap.size w w'
end Go.Proofs.YthaibjefnclkjaaGreatDoor
namespace Go.Proofs.YthaibjefnclkjaaGreatDoor
open Go.RowKit Go.Sort
set_option linter.unusedVariables false

set_option maxRecDepth 100000 in
set_option maxHeartbeats 1600000 in
theorem r13SameTexts (l m : List Tx) (a b : Option Addr) (c d : Nat) (w : World) (h1 : Txs w a l) (h2 : Txs w b m) (hl : l.length ≤ 1000000) (hm : m.length ≤ 1000000) :
    Calls Tryz.prog 20 #[.slice a l.length c, .slice b m.length d] w (Ret w (.bool (decide (l = m)))) := by
  by_cases hlm : l.length = m.length
  · obtain ⟨n, hn⟩ : ∃ n, l.length = n := ⟨_, rfl⟩
    have HN := hid hn
    have HM := hid (hlm.symm.trans hn)
    have H1 := hid h1; have H2 := hid h2
    rw [hn] at hl ⊢
    rw [HM.out]
    clear hn hlm h1 h2 hm
    go_enter Tryz.func20, Tryz.ntmps20
    go_wp2_with fail
    go_loopw [5] (fun i wr => ∃ j : Nat, j ≤ n ∧ i = .int .i64 j ∧ Below w.heap.size w wr ∧ Hid (∀ k : Nat, k < j → l[k]? = m[k]?)) (fun i _ => n - (intOf i).toNat)
    case atStart => exact ⟨0, by omega, rfl, Below.refl _ _, fun k hk => absurd hk (Nat.not_lt_zero k)⟩
    case round =>
      obtain ⟨j, hj, rfl, E, HJ⟩ := hrel
      by_cases hjt : j < n
      · obtain ⟨x, hx⟩ : ∃ x, l[j]? = some x := ⟨_, List.getElem?_eq_getElem (by rw [HN.out]; exact hjt)⟩
        obtain ⟨y, hy⟩ : ∃ y, m[j]? = some y := ⟨_, List.getElem?_eq_getElem (by rw [HM.out]; exact hjt)⟩
        have p0 := (H1.out.below E).at hx
        have q0 := (H2.out.below E).at hy
        have ix := (H1.out.below E).idx j (by rw [HN.out]; exact hjt) c
        have iy := (H2.out.below E).idx j (by rw [HM.out]; exact hjt) d
        rw [HN.out] at ix
        rw [HM.out] at iy
        obtain ⟨e, he⟩ : ∃ e, ((tx x).toList == (tx y).toList) = e := ⟨_, rfl⟩
        have HE := hid (show decide (x = y) = e by rw [← he, tx_beq, Bool.eq_iff_iff]; simp)
        have HX := hid (And.intro hx hy)
        clear hx hy
        go_wp2_with fail
        have p0 := cell_regrown p0; have q0 := cell_regrown q0
        refine wp_region_quiet_below (by kernel_rfl) (by kernel_rfl) ?_
        repeat (go_big_quiet_step (fail))
        refine wpQuiet_nil ?_
        intro _ hw'
        obtain ⟨⟨dq, osq⟩, hw''⟩ := hw'
        subst hw''
        have EQ := below_regrown wr dq osq
        generalize grow (redrawn wr dq) osq = W5 at *
        have E := E.trans (EQ.mono E.size)
        clear p0 q0 ix iy EQ
        cases e with
        | true =>
          have HJ2 : ∀ k : Nat, k < j + 1 → l[k]? = m[k]? := fun k hk => by
            rcases Nat.lt_succ_iff_lt_or_eq.1 hk with h | h
            · exact HJ.out k h
            · subst h; rw [HX.out.1, HX.out.2, of_decide_eq_true HE.out]
          have HJ2 := hid HJ2
          clear HJ
          go_wp2_with fail
          go_roundw
          case rel => exact ⟨j + 1, by omega, by go_num, E, HJ2⟩
          case measure => simp [intOf]; omega
        | false =>
          have HZ := hid (show decide (l = m) = false by
            rw [decide_eq_false_iff_not]
            intro e
            subst e
            have := HX.out.1.symm.trans HX.out.2
            cases this
            exact absurd rfl (of_decide_eq_false HE.out))
          go_wp2_with fail
          go_ret
          exact ⟨ret_bool HZ.out.symm, E⟩
      · obtain rfl : j = n := by omega
        have HZ := hid (show decide (l = m) = true by
          rw [decide_eq_true_eq]
          refine List.ext_getElem? fun k => ?_
          by_cases hk : k < j
          · exact HJ.out k hk
          · rw [List.getElem?_eq_none (by rw [HN.out]; omega), List.getElem?_eq_none (by rw [HM.out]; omega)])
        go_wp2_with fail
        go_ret
        exact ⟨ret_bool HZ.out.symm, E⟩
  · have HZ := hid (show decide (l = m) = false by rw [decide_eq_false_iff_not]; intro e; exact hlm (by rw [e]))
    have z : ((l.length : Int) != m.length) = true := by simp; omega
    clear hlm
    go_enter Tryz.func20, Tryz.ntmps20
    go_wp2_with fail
    go_ret
    exact ⟨ret_bool HZ.out.symm, Below.refl _ _⟩
end Go.Proofs.YthaibjefnclkjaaGreatDoor
namespace Go.Proofs.YthaibjefnclkjaaGreatDoor
open Go.RowKit Go.Sort
set_option linter.unusedVariables false

set_option maxRecDepth 100000 in
set_option maxHeartbeats 1600000 in
theorem r13Filled (s : Tx) (n : Nat) (hs : s.length ≤ 1000000) (hn : n ≤ 1000000) (w : World) :
    Calls Tryz.prog 56 #[.string (tx s), .int .i64 n] w (Ret w (.string (tx (padT n s)))) := by
  obtain ⟨m, hm⟩ : ∃ m, s.length = m := ⟨_, rfl⟩
  have HM := hid hm
  rw [hm] at hs
  clear hm
  go_enter Tryz.func56, Tryz.ntmps56
  go_wp2_with fail
  go_loopw [0] (fun v wr => ∃ (j : Nat) (l : Tx), j ≤ n - m ∧ v = .string (tx l) ∧ (tx l).size = m + j ∧ Below w.heap.size w wr ∧ Hid (l = s ++ List.replicate j 32)) (fun v _ => n - (match v with | .string b => b.size | _ => 0))
  case atStart => exact ⟨0, s, by omega, rfl, by rw [tx_size, HM.out]; rfl, Below.refl _ _, by simp [Hid]⟩
  case round =>
    obtain ⟨j, l, hj, rfl, hl, E, HL⟩ := hrel
    by_cases hlt : m + j < n
    · have hll : l.length = m + j := by rw [← tx_size, hl]
      have cc : ∀ w, (Op.stringOp .add (tx l) ⟨#[32]⟩).run Tryz.prog w = .ok (.string (tx (l ++ [32]))) w := run_cat l [32] (by rw [hll]; simp; omega)
      obtain ⟨l2, hl2⟩ : ∃ l2, l ++ [32] = l2 := ⟨_, rfl⟩
      rw [hl2] at cc
      have HL2 := hid (show l2 = s ++ List.replicate (j + 1) 32 by rw [← hl2, HL.out, List.append_assoc, List.replicate_succ'])
      have hsz : (tx l2).size = m + (j + 1) := by rw [tx_size, ← hl2, List.length_append, hll]; rfl
      clear hl2 hll
      go_wp2_with fail
      go_roundw
      case rel => exact ⟨j + 1, l2, by omega, rfl, hsz, E, HL2⟩
      case measure => simp only [hsz, hl]; omega
    · have HZ := hid (show padT n s = l by unfold padT; rw [HM.out, HL.out, show n - m = j by omega])
      go_wp2_with fail
      go_ret
      rw [HZ.out]
      exact ⟨rfl, E⟩
end Go.Proofs.YthaibjefnclkjaaGreatDoor
namespace Go.Proofs.YthaibjefnclkjaaGreatDoor
open Go.RowKit Go.Sort
set_option linter.unusedVariables false

set_option maxRecDepth 100000 in
set_option maxHeartbeats 1600000 in
theorem r13CellT (t : Tst) (k line : Nat) (x : Cd) (hx : t.code[k]? = some x) (hk : k < 100) (hl : line ≤ 100000) (w : World) (h : TsIn w t) (g : Gl w) :
    Calls Tryz.prog 55 #[vT t, .int .i64 k, .int .i64 line] w (Ret w (.string (tx ((colT t.arch k x.l).getD line [])))) := by
  have A := al w (mkT t)
  have b0 := BxT.new w t
  have HI := hid (h.keep A)
  have HA := hid A
  have HG := hid (g.below A)
  have HX := hid hx
  clear h A g hx
  by_cases h0 : line = 0
  · subst h0
    have HZ := hid (show (colT t.arch k x.l).getD 0 [] = [80] ++ decN k from rfl)
    have cc : ∀ w, (Op.stringOp .add ⟨#[80]⟩ (tx (decN k))).run Tryz.prog w = .ok (.string (tx ([80] ++ decN k))) w := run_cat [80] (decN k) (by
      have : (decN k).length ≤ 4 := by unfold decN; split <;> (try split) <;> (try split) <;> simp
      simp; omega)
    obtain ⟨r, hr⟩ : ∃ r, [80] ++ decN k = r := ⟨_, rfl⟩
    rw [hr] at cc HZ
    clear hr
    go_enter Tryz.func55, Tryz.ntmps55
    go_wp2_with (go_at_call 30; refine (itoa_small k hk _).mono ?_; rintro e w' ⟨rfl, rfl⟩)
    go_ret
    rw [HZ.out]
    exact ⟨rfl, HA.out⟩
  · have z0 : ((line : Int) == 0) = false := by simp; omega
    go_enter Tryz.func55, Tryz.ntmps55
    go_upto_region 1 with (fail)
    generalize w.alloc (mkT t) = W1 at *
    obtain ⟨c0, c1, c2, c3, c4, c5, c6, c7, c8, c9, c10, c11⟩ := b0.cells
    have p0 := HI.out.code.cd HX.out
    have ix := HI.out.code.cdx k (List.getElem?_eq_some_iff.1 HX.out).1 t.cc
    have hxl := (HI.out.rows x (List.mem_of_getElem? HX.out)).is.len
    by_cases hlt : x.l.length < line
    · have HZ := hid (show (colT t.arch k x.l).getD line [] = [] by
        unfold colT; rw [List.getD_eq_getElem?_getD, List.getElem?_eq_none (by simp; omega)]; rfl)
      go_wp2_with fail
      go_ret
      rw [HZ.out]
      exact ⟨rfl, HA.out⟩
    · obtain ⟨j, hj⟩ : ∃ j, line = j + 1 := ⟨line - 1, by omega⟩
      obtain ⟨i, hi⟩ : ∃ i, x.l[j]? = some i := ⟨_, List.getElem?_eq_getElem (by omega)⟩
      have hxI := HI.out.rows x (List.mem_of_getElem? HX.out)
      obtain ⟨q0, q1, q2, q3, q4, q5, q6, q7⟩ := hxI.is.cells hi
      have ix2 := hxI.is.idx j (by omega) x.c
      rw [show (j : Int) = (line : Int) - 1 by omega] at ix2
      have hb := hxI.locs i (List.mem_of_getElem? hi)
      have HZ := hid (show (colT t.arch k x.l).getD line [] = (cellI t.arch i).1 by
        rw [hj]; unfold colT; rw [List.getD_eq_getElem?_getD, List.getElem?_cons_succ, List.getElem?_map, hi]; rfl)
      have CK := hid (fun d os => r13Cell t.arch i hb.1 hb.2 (grow (redrawn W1 d) os) (HG.out.below (below_regrown W1 d os)))
      generalize cellI t.arch i = r at *
      clear hj hi hb
      go_wp2_with fail
      have cA := fun (d : Nat) (os : Array Obj) => Calls.regrown_of (retc' (CK.out d os))
      have c0 := cell_regrown c0; have c4 := cell_regrown c4; have p0 := cell_regrown p0
      have q0 := cell_regrown q0; have q1 := cell_regrown q1; have q2 := cell_regrown q2; have q3 := cell_regrown q3; have q4 := cell_regrown q4; have q5 := cell_regrown q5; have q6 := cell_regrown q6; have q7 := cell_regrown q7
      refine wp_region_quiet_below (by kernel_rfl) (by kernel_rfl) ?_
      repeat (go_big_quiet_step (exact cA _ _))
      refine wpQuiet_nil ?_
      intro _ hw'
      obtain ⟨⟨dq, osq⟩, hw''⟩ := hw'
      subst hw''
      have EQ := below_regrown W1 dq osq
      go_wp2_with fail
      go_ret
      rw [HZ.out]
      exact ⟨rfl, HA.out.trans (EQ.mono HA.out.size)⟩
end Go.Proofs.YthaibjefnclkjaaGreatDoor
namespace Go.Proofs.YthaibjefnclkjaaGreatDoor
set_option linter.unusedVariables false

/-- the columns' lengths, the first k of them known -/
def widesI (t : Tst) (k : Nat) : List Int := ((wideT t).take k).map (fun n : Nat => (n : Int)) ++ List.replicate (t.code.length - k) 0
theorem widesI_length (t : Tst) (k : Nat) (hk : k ≤ t.code.length) : (widesI t k).length = t.code.length := by
  unfold widesI; simp [wideT_length]; omega
/-- while the k-th is being found -/
def widesJ (t : Tst) (k m : Nat) : List Int := (widesI t k).set k m
theorem widesJ_length (t : Tst) (k m : Nat) (hk : k ≤ t.code.length) : (widesJ t k m).length = t.code.length := by
  unfold widesJ; rw [List.length_set, widesI_length t k hk]
theorem widesJ_set (t : Tst) (k m m' : Nat) : (widesJ t k m).set k m' = widesJ t k m' := by unfold widesJ; rw [List.set_set]
theorem widesJ_at (t : Tst) (k m : Nat) (hk : k < t.code.length) : (widesJ t k m)[k]? = some (m : Int) := by
  unfold widesJ; rw [List.getElem?_set_self (by rw [widesI_length t k (by omega)]; exact hk)]
theorem set_self {l : List Int} {k : Nat} {v : Int} (h : l[k]? = some v) : l.set k v = l := by
  obtain ⟨hlt, rfl⟩ := List.getElem?_eq_some_iff.1 h
  exact List.set_getElem_self hlt
theorem widesJ_start (t : Tst) (k : Nat) (hk : k < t.code.length) : widesJ t k 0 = widesI t k := by
  unfold widesJ
  refine set_self ?_
  unfold widesI
  have h1 : (((wideT t).take k).map (fun n : Nat => (n : Int))).length = k := by simp [wideT_length]; omega
  rw [List.getElem?_append_right (by omega), h1, Nat.sub_self, List.getElem?_replicate, if_pos (by omega)]; rfl
theorem widesJ_done {t : Tst} {k : Nat} {x : Cd} (h : t.code[k]? = some x) : widesJ t k (wideL (colT t.arch k x.l)) = widesI t (k + 1) := by
  have hk := (List.getElem?_eq_some_iff.1 h).1
  unfold widesJ widesI
  have h1 : (((wideT t).take k).map (fun n : Nat => (n : Int))).length = k := by simp [wideT_length]; omega
  rw [take_snoc (wideT_at h), List.map_append, show t.code.length - k = (t.code.length - (k + 1)) + 1 by omega, List.replicate_succ, List.set_append_right _ _ (by omega), h1, Nat.sub_self, List.set_cons_zero]
  simp
theorem widesI_all (t : Tst) : widesI t t.code.length = (wideT t).map fun n : Nat => (n : Int) := by
  unfold widesI; rw [Nat.sub_self, List.take_of_length_le (by rw [wideT_length]; omega)]; simp
theorem wideI_at {t : Tst} {k : Nat} {x : Cd} (h : t.code[k]? = some x) : (widesI t t.code.length)[k]? = some ((wideL (colT t.arch k x.l) : Nat) : Int) := by
  rw [widesI_all, List.getElem?_map, wideT_at h]; rfl
theorem widesI_none (t : Tst) : widesI t 0 = List.replicate t.code.length 0 := by unfold widesI; simp
end Go.Proofs.YthaibjefnclkjaaGreatDoor

/- The walk of the law FileLines. Conditions: the test lies in memory as read; the library's variables as laid. -/
import Derived.Test.YthaibjefnclkjaaGreatDoorY9
import Derived.Test.YthaibjefnclkjaaGreatDoorY8
import Derived.Test.YthaibjefnclkjaaGreatDoorZ27
import Derived.Test.YthaibjefnclkjaaGreatDoorZ25
import Derived.Test.YthaibjefnclkjaaGreatDoorZ24
import Derived.Test.YthaibjefnclkjaaGreatDoorY7
import Derived.Test.YthaibjefnclkjaaGreatDoorZ23
import Derived.Test.YthaibjefnclkjaaGreatDoorY6
import Derived.Test.YthaibjefnclkjaaGreatDoorZ22
import Derived.Test.YthaibjefnclkjaaGreatDoorZ20
import Derived.Test.YthaibjefnclkjaaGreatDoorY3
import Derived.Test.YthaibjefnclkjaaGreatDoorZ14
import Derived.Test.YthaibjefnclkjaaGreatDoorY1
import Derived.Test.YthaibjefnclkjaaGreatDoorZ5
import Derived.Test.YthaibjefnclkjaaGreatDoorZ4
import Derived.Test.YthaibjefnclkjaaGreatDoorZ3
import Derived.Test.YthaibjefnclkjaaGreatDoorZ2
import Derived.Test.YthaibjefnclkjaaGreatDoorZ1
import Derived.Test.YthaibjefnclkjaaGreatDoorRows
import Derived.Lib.SlTrimSet
import Derived.Lib.ItoaNum
import Derived.WalkKit
import Derived.WalkSpells
import Derived.WalkLawsBesides
import Derived.Deep.QuietTactic
import Derived.BigQuiet
import Derived.ProofKit
import Derived.OpenShut
import Derived.ShutString
import Derived.ChangeOld
import Derived.Carry
import Derived.SizedLaws
import Derived.Laws.StructEq
import Derived.Shelf.SlicesQ.Load
import Derived.Lib.SplitLaws
import Derived.Lib.Strings
import Derived.Lib.ItoaMem
import Derived.Shelf.Strings.SlTrimAscii
import Derived.Shelf.Small.Strs
import Derived.Shelf.Strconv.Itoa3
import Derived.Shelf.LaysM
import Derived.Shelf.Strings.Prefix
import Derived.Test.YthaibjefnclkjaaGreatDoorProg
import Derived.Lib.ItoaLen
import Derived.WalkSmall
import Derived.Laws.Concat
import Derived.BigRegion
import Derived.StillTailTactics
import Derived.Deep.RegionWith
import Derived.Lib.AtoiAll
import Derived.Deep.DeepCutAuto
import Derived.Maps.OwnSet
import Derived.Maps.Views
import Derived.Lib.Bytealg
import Derived.Test.YthaibjefnclkjaaGreatDoorY2
import Derived.Test.YthaibjefnclkjaaGreatDoorZ12
import Derived.Test.YthaibjefnclkjaaGreatDoorZ7
import Derived.Test.YthaibjefnclkjaaGreatDoorZ6
import Derived.Laws.IdiomCopy
import Derived.Shelf.Sort.Plain
import Derived.Shelf.Slices.In.SortNone
import Derived.Shelf.Slices.CompactS
import Derived.Shelf.Slices.Clone
import Derived.Shelf.SlSortCmp.NoneTotal
import Derived.Shelf.SlicesE.Clone
import Derived.Shelf.Strings.Repeat
import Derived.Test.YthaibjefnclkjaaGreatDoorZ8
import Derived.Test.YthaibjefnclkjaaGreatDoorZ11
import Derived.Test.YthaibjefnclkjaaGreatDoorZ9
import Derived.Test.YthaibjefnclkjaaGreatDoorZ10
import Derived.Lib.QuietBelow
import Derived.Lib.Builder
import Derived.Lib.AppendStr
import Derived.Lib.UnsafeStr
import Derived.Lib.OthersKept
import Derived.Laws.Externs
import Derived.RegionTactic
import Derived.Test.YthaibjefnclkjaaGreatDoorZ13
import Derived.Deep.RegionHeld3
import Derived.Test.YthaibjefnclkjaaGreatDoorY4
import Derived.Test.YthaibjefnclkjaaGreatDoorZ19
import Derived.Test.YthaibjefnclkjaaGreatDoorZ18
import Derived.Test.YthaibjefnclkjaaGreatDoorZ17
import Derived.Test.YthaibjefnclkjaaGreatDoorZ15
import Derived.Test.YthaibjefnclkjaaGreatDoorZ16
import Derived.Test.YthaibjefnclkjaaGreatDoorY5
import Derived.Maps.OwnOps
import Derived.StringKeys
import Derived.Test.YthaibjefnclkjaaGreatDoorZ21
import Derived.Lib.SlicesCompact
import Derived.Sort.OwnSorted
import Derived.DeepKeys5
import Derived.Test.YthaibjefnclkjaaGreatDoorZ26
namespace Go.Proofs.YthaibjefnclkjaaGreatDoor
open Go.RowKit Go.Sort
set_option linter.unusedVariables false

theorem maskT_at {s : Tx} {k : Nat} {x : UInt8} (h : s[k]? = some x) : (maskT s)[k]? = some (x == 124) := by unfold maskT; rw [List.getElem?_map, h]; rfl
theorem count_step {l : List Bool} {k : Nat} {b : Bool} (h : l[k]? = some b) : (l.take (k + 1)).count true = (l.take k).count true + (if b then 1 else 0) := by
  rw [take_snoc h, List.count_append]
  cases b <;> rfl
theorem bar_nat (x : UInt8) (m : Nat) (h : x.toNat = m) : ((m : Int) == 124) = (x == 124) := by
  rw [Bool.eq_iff_iff]
  simp only [beq_iff_eq]
  constructor
  · intro e; exact UInt8.toNat_inj.1 (by rw [h]; show m = 124; omega)
  · intro e; subst e; have : m = 124 := h.symm; omega
set_option maxRecDepth 100000 in
set_option maxHeartbeats 6400000 in
theorem lawFileLines (t : Tst) (w : World) (h : TsIn w t) (_hz : TsSz t) (g : Gl w) : Calls Tryz.prog 8 #[vT t] w (Ret w (.bool true)) := by
  have A := al w (mkT t)
  have b0 := BxT.new w t
  have HI := hid (h.keep A)
  have HA := hid A
  have HG := hid (g.below A)
  have AW := hid awake13
  have TB := fileTable t _ (h.keep A) (g.below A)
  have CH := hid (fun (w' : World) (h : TsIn w' t) => r13Check t w' h)
  obtain ⟨r, hr⟩ : ∃ r, tstE t = r := ⟨_, rfl⟩
  rw [hr] at TB CH
  have TB := hid TB
  have HR := hid hr
  clear h A hr g
  go_enter Tryz.func8, Tryz.ntmps8
  go_upto_region 1 with (fail)
  generalize w.alloc (mkT t) = W1 at *
  obtain ⟨c0, c1, c2, c3, c4, c5, c6, c7, c8, c9, c10, c11⟩ := b0.cells
  go_wp2_with fail
  refine TB.out.mono ?_
  rintro e w2 ⟨a, c, rfl, o, E⟩
  clear c0 c1 c2 c3 c4 c5 c6 c7 c8 c9 c10 c11 TB
  by_cases h0 : r = 0
  · subst h0
    obtain ⟨-, -, k3, -, -, -⟩ := tst_ok HR.out
    obtain ⟨k1, k5, k6⟩ := coded_ok k3
    rw [show tabV t = tableT t by unfold tabV; rw [if_pos HR.out]] at o ⊢
    have HC := hid (And.intro k1 (And.intro k5 k6))
    obtain ⟨n, hn⟩ : ∃ n, t.code.length = n := ⟨_, rfl⟩
    rw [hn] at k5 k1
    have HN := hid hn
    obtain ⟨m, hm⟩ : ∃ m, (tableT t).length = m := ⟨_, rfl⟩
    have HM := hid hm
    rw [hm] at o ⊢
    have hm257 : m ≤ 257 := by
      rw [← hm, tableT_length]
      have := highL_le k6
      rw [highT_eq]; omega
    have HTX := hid (OwnS.txs o (by rw [hm]; omega))
    have HE := hid E
    have F0 : Below w2.heap.size w2 w2 := Below.refl _ _
    clear hn hm k3 k6 o E
    go_wp2_with fail
    go_loopw [5, 6] (fun hg i wr => ∃ (k : Nat), k ≤ n ∧ i = .int .i64 k ∧ hg = .int .i64 (highL (t.code.take k)) ∧ Below w2.heap.size w2 wr) (fun _ i _ => n - (intOf i).toNat)
    case atStart => exact ⟨0, by omega, rfl, rfl, F0⟩
    case round =>
      clear F0
      obtain ⟨k, hk, rfl, rfl, F⟩ := hrel
      have E := HE.out.trans (F.mono HE.out.size)
      obtain ⟨c0, c1, c2, c3, c4, c5, c6, c7, c8, c9, c10, c11⟩ := (b0.below E).cells
      rw [HN.out] at c4
      by_cases hlt : k < n
      · obtain ⟨x, hx⟩ : ∃ x, t.code[k]? = some x := ⟨_, List.getElem?_eq_getElem (by rw [HN.out]; exact hlt)⟩
        have p0 := (HI.out.code.below E).cd hx
        have ix := HI.out.code.cdx k (by rw [HN.out]; exact hlt) t.cc
        rw [HN.out] at ix
        have hx256 := HC.out.2.2 x (List.mem_of_getElem? hx)
        have HH := highL_step hx
        obtain ⟨H, hH⟩ : ∃ H, highL (t.code.take k) = H := ⟨_, rfl⟩
        rw [hH] at HH ⊢
        have L1 : (decide (H < x.l.length) = true ∧ highL (t.code.take (k + 1)) = x.l.length) ∨ (decide (H < x.l.length) = false ∧ highL (t.code.take (k + 1)) = H) := by
          by_cases h : H < x.l.length
          · exact .inl ⟨by simpa using h, by rw [HH]; omega⟩
          · exact .inr ⟨by simpa using h, by rw [HH]; omega⟩
        clear hx hH HH
        rcases L1 with ⟨hgt, HH⟩ | ⟨hgt, HH⟩
        all_goals
          have HH := hid HH
          go_wp2_with fail
          go_roundw
          case rel => exact ⟨k + 1, by omega, by go_num, by rw [HH.out], F⟩
          case measure => simp [intOf]; omega
      · have hkn : k = n := by omega
        obtain ⟨hi, hhi⟩ : ∃ hi, highL t.code = hi := ⟨_, rfl⟩
        have hmh : m = hi + 1 := by rw [← HM.out, tableT_length, highT_eq, hhi]
        have hi256 : hi ≤ 256 := by omega
        rw [hkn, show t.code.take n = t.code by rw [← HN.out, List.take_length], hhi]
        clear hhi hkn
        subst hmh
        have HTX2 := hid (HTX.out.below F)
        have HE2 := hid E
        have F1 : Below wr.heap.size wr wr := Below.refl _ _
        obtain ⟨W5, hW5⟩ : ∃ W5, wr = W5 := ⟨_, rfl⟩
        rw [hW5] at HTX2 HE2
        have F1 : Below W5.heap.size W5 wr := by rw [hW5]; exact Below.refl _ _
        obtain ⟨N, hN⟩ : ∃ N, (maskL t).length = N := ⟨_, rfl⟩
        have hN1 : N ≤ 2100 := by rw [← hN, ← lineT_length 0 t]; exact lineT_len t 0 HC.out.2.1
        have HNN := hid hN
        have HKC := hid (maskL_count HC.out.1)
        rw [HN.out] at HKC
        clear hN F E hW5
        go_wp2_with fail
        clear c0 c1 c2 c3 c4 c5 c6 c7 c8 c9 c10 c11
        go_loopw [7] (fun i wr => ∃ j : Nat, j ≤ hi + 1 ∧ i = .int .i64 j ∧ Below W5.heap.size W5 wr) (fun i _ => hi + 1 - (intOf i).toNat)
        case atStart => exact ⟨0, by omega, rfl, F1⟩
        case round =>
          clear F1
          obtain ⟨j, hj, rfl, F⟩ := hrel
          have E := HE2.out.trans (F.mono HE2.out.size)
          by_cases hjt : j < hi + 1
          · have zj : decide ((j : Int) < (hi : Int) + 1) = true := by simp; omega
            have hs := tableT_at (t := t) (k := j) (by rw [← tableT_length, HM.out]; exact hjt)
            have hs0 := tableT_at (t := t) (k := 0) (by rw [← tableT_length, HM.out]; omega)
            have hsl := lineT_length j t
            have hsl0 := lineT_length 0 t
            have hma := lineT_mask j t
            have hma0 := lineT_mask 0 t
            obtain ⟨s, hse⟩ : ∃ s, lineT j t = s := ⟨_, rfl⟩
            obtain ⟨s0, hs0e⟩ : ∃ s0, lineT 0 t = s0 := ⟨_, rfl⟩
            rw [hse] at hs hsl hma
            rw [hs0e] at hs0 hsl0 hma0
            rw [HNN.out] at hsl hsl0
            have hsz := tsize hsl
            have hsz0 := tsize hsl0
            have HS := hid (And.intro hs (And.intro hs0 (And.intro hma hma0)))
            have HSL := hid (And.intro hsl hsl0)
            have p1 := (HTX2.out.below F).at hs
            have p2 := (HTX2.out.below F).at hs0
            rw [Nat.add_zero] at p2
            have i1 := HTX2.out.idx j (by rw [HM.out]; exact hjt) c
            have i2 : ∀ w', (Instr.indexAt 44 (.slice a (tableT t).length c) (.int .i64 0)).run Tryz.prog w' = .ok (.pointer (some ⟨bk a, fo a, none⟩)) w' := HTX2.out.idx 0 (by rw [HM.out]; omega) c
            rw [HM.out] at i1 i2
            clear hs hs0 hma hma0 hse hs0e hsl hsl0
            go_wp2_with fail
            have p1 := cell_regrown p1; have p2 := cell_regrown p2
            refine wp_region_quiet_below (by kernel_rfl) (by kernel_rfl) ?_
            repeat (go_big_quiet_step (fail))
            refine wpQuiet_nil ?_
            intro _ hw'
            obtain ⟨⟨dq, osq⟩, hw''⟩ := hw'
            subst hw''
            have EQ := below_regrown wr dq osq
            generalize grow (redrawn wr dq) osq = W6 at *
            have F := F.trans (EQ.mono F.size)
            clear p1 p2 EQ E
            go_wp2_with fail
            go_loopw [8, 9] (fun bv kv wr => ∃ (k q : Nat), k ≤ N ∧ kv = .int .i64 k ∧ bv = .int .i64 q ∧ q ≤ k ∧ Below W5.heap.size W5 wr ∧ Hid (q = ((maskL t).take k).count true)) (fun _ kv _ => N - (intOf kv).toNat)
            case atStart => exact ⟨0, 0, by omega, rfl, rfl, by omega, F, rfl⟩
            case round =>
              clear F
              obtain ⟨k, q, hk, rfl, rfl, hq, F, HQ⟩ := hrel
              have p1 := (HTX2.out.below F).at HS.out.1
              have p2 := (HTX2.out.below F).at HS.out.2.1
              rw [Nat.add_zero] at p2
              by_cases hkt : k < N
              · obtain ⟨x, hx⟩ : ∃ x, s[k]? = some x := ⟨_, List.getElem?_eq_getElem (by rw [HSL.out.1]; exact hkt)⟩
                obtain ⟨y, hy⟩ : ∃ y, s0[k]? = some y := ⟨_, List.getElem?_eq_getElem (by rw [HSL.out.2]; exact hkt)⟩
                have ix := run_ix s k x hx
                have iy := run_ix s0 k y hy
                have hmx := maskT_at hx; have hmy := maskT_at hy
                rw [HS.out.2.2.1] at hmx
                rw [HS.out.2.2.2] at hmy
                have hst := count_step hmx
                have hxy : (x == 124) = (y == 124) := by rw [hmx] at hmy; exact Option.some.inj hmy
                obtain ⟨mx, hmx'⟩ : ∃ m, x.toNat = m := ⟨_, rfl⟩
                obtain ⟨my, hmy'⟩ : ∃ m, y.toNat = m := ⟨_, rfl⟩
                have zx := bar_nat x mx hmx'
                have zy := bar_nat y my hmy'
                rw [← hxy] at zy
                obtain ⟨bb, hbb⟩ : ∃ bb, (x == 124) = bb := ⟨_, rfl⟩
                rw [hbb] at zx zy hst
                rw [hmx'] at ix
                rw [hmy'] at iy
                have HST := hid hst
                clear hx hy hmx hmy hxy hmx' hmy' hbb hst
                cases bb with
                | true =>
                  have HQ2 := hid (show q + 1 = ((maskL t).take (k + 1)).count true by rw [HST.out, ← HQ.out]; rfl)
                  go_wp2_with fail
                  have p1 := cell_regrown p1; have p2 := cell_regrown p2
                  refine wp_region_quiet_below (by kernel_rfl) (by kernel_rfl) ?_
                  repeat (go_big_quiet_step (fail))
                  refine wpQuiet_nil ?_
                  intro _ hw'
                  obtain ⟨⟨dq, osq⟩, hw''⟩ := hw'
                  subst hw''
                  have EQ := below_regrown wr dq osq
                  generalize grow (redrawn wr dq) osq = W7 at *
                  have F := F.trans (EQ.mono F.size)
                  have p1 := (HTX2.out.below F).at HS.out.1
                  clear EQ
                  go_wp2_with fail
                  go_roundw
                  case rel => exact ⟨k + 1, q + 1, by omega, by go_num, by go_num, by omega, F, HQ2⟩
                  case measure => simp [intOf]; omega
                | false =>
                  have HQ2 := hid (show q = ((maskL t).take (k + 1)).count true by rw [HST.out, ← HQ.out]; rfl)
                  go_wp2_with fail
                  have p1 := cell_regrown p1; have p2 := cell_regrown p2
                  refine wp_region_quiet_below (by kernel_rfl) (by kernel_rfl) ?_
                  repeat (go_big_quiet_step (fail))
                  refine wpQuiet_nil ?_
                  intro _ hw'
                  obtain ⟨⟨dq, osq⟩, hw''⟩ := hw'
                  subst hw''
                  have EQ := below_regrown wr dq osq
                  generalize grow (redrawn wr dq) osq = W7 at *
                  have F := F.trans (EQ.mono F.size)
                  have p1 := (HTX2.out.below F).at HS.out.1
                  clear EQ
                  go_wp2_with fail
                  go_roundw
                  case rel => exact ⟨k + 1, q, by omega, by go_num, rfl, by omega, F, HQ2⟩
                  case measure => simp [intOf]; omega
              · have hkN : k = N := by omega
                have hqn : q = n - 1 := by rw [HQ.out, hkN, ← HNN.out, List.take_length, HKC.out]
                have E := HE2.out.trans (F.mono HE2.out.size)
                obtain ⟨c0, c1, c2, c3, c4, c5, c6, c7, c8, c9, c10, c11⟩ := (b0.below E).cells
                rw [HN.out] at c4
                have z : ((q : Int) != (n : Int) - 1) = false := by simp; omega
                clear hkN
                go_wp2_with fail
                go_roundw
                case rel => exact ⟨j + 1, by omega, by go_num, F⟩
                case measure => simp [intOf]; omega
          · have AW := hid (AW.out _ (HG.out.below E))
            go_wp2_with fail
            refine AW.out.mono ?_
            rintro e w6 ⟨rfl, E6⟩
            have E := E.trans (E6.mono E.size)
            go_wp2_with fail
            (try go_simp)
            go_ret
            exact ⟨rfl, HA.out.trans (E.mono HA.out.size)⟩
  · have z : (r != 0) = true := by simpa using h0
    rw [show tabV t = [] by unfold tabV; rw [HR.out, if_neg h0]]
    obtain ⟨c0, c1, c2, c3, c4, c5, c6, c7, c8, c9, c10, c11⟩ := (b0.below E).cells
    have CH := hid (CH.out w2 (HI.out.keep E))
    clear h0 o
    go_wp2_with fail
    refine CH.out.mono ?_
    rintro e w3 ⟨rfl, E3⟩
    have E := E.trans (E3.mono E.size)
    have AW := hid (AW.out _ (HG.out.below E))
    go_wp2_with fail
    refine AW.out.mono ?_
    rintro e w4 ⟨rfl, E4⟩
    have E := E.trans (E4.mono E.size)
    go_wp2_with fail
    (try go_simp)
    go_ret
    exact ⟨rfl, HA.out.trans (E.mono HA.out.size)⟩
end Go.Proofs.YthaibjefnclkjaaGreatDoor

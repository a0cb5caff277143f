/- The walks of instr and coded (document). Conditions: the test lies in memory as read. Why a test's initial state may not be: line by line. Plain lists; no program, no condition. The walks of May and lined (document). Conditions: texts of a machine's length. -/
import Derived.Test.YthaibjefnclkjaaGreatDoorZ19
import Derived.Test.YthaibjefnclkjaaGreatDoorZ5
import Derived.Test.YthaibjefnclkjaaGreatDoorZ4
import Derived.Test.YthaibjefnclkjaaGreatDoorZ3
import Derived.Test.YthaibjefnclkjaaGreatDoorY1
import Derived.Test.YthaibjefnclkjaaGreatDoorZ2
import Derived.Test.YthaibjefnclkjaaGreatDoorZ1
import Derived.Test.YthaibjefnclkjaaGreatDoorRows
import Derived.Lib.SlTrimSet
import Derived.Lib.ItoaNum
import Derived.WalkKit
import Derived.WalkSpells
import Derived.WalkLawsBesides
import Derived.Deep.QuietTactic
import Derived.BigQuiet
import Derived.ProofKit
import Derived.OpenShut
import Derived.ShutString
import Derived.ChangeOld
import Derived.Carry
import Derived.SizedLaws
import Derived.Laws.StructEq
import Derived.Shelf.SlicesQ.Load
import Derived.Lib.SplitLaws
import Derived.Lib.Strings
import Derived.Lib.ItoaMem
import Derived.Shelf.Strings.SlTrimAscii
import Derived.Shelf.Small.Strs
import Derived.Shelf.Strconv.Itoa3
import Derived.Shelf.LaysM
import Derived.Shelf.Strings.Prefix
import Derived.Test.YthaibjefnclkjaaGreatDoorProg
import Derived.Lib.ItoaLen
import Derived.WalkSmall
import Derived.Laws.Concat
import Derived.BigRegion
import Derived.StillTailTactics
import Derived.Deep.RegionWith
import Derived.Lib.AtoiAll
import Derived.Deep.DeepCutAuto
import Derived.Maps.OwnSet
import Derived.Maps.Views
import Derived.Lib.Bytealg
import Derived.Test.YthaibjefnclkjaaGreatDoorZ13
import Derived.Test.YthaibjefnclkjaaGreatDoorZ6
import Derived.Test.YthaibjefnclkjaaGreatDoorZ11
import Derived.Test.YthaibjefnclkjaaGreatDoorZ9
import Derived.Test.YthaibjefnclkjaaGreatDoorZ10
import Derived.Lib.QuietBelow
import Derived.Deep.RegionHeld3
import Derived.Test.YthaibjefnclkjaaGreatDoorZ17
import Derived.Test.YthaibjefnclkjaaGreatDoorZ15
import Derived.Test.YthaibjefnclkjaaGreatDoorZ14
import Derived.Test.YthaibjefnclkjaaGreatDoorZ16
import Derived.Test.YthaibjefnclkjaaGreatDoorY4
import Derived.Maps.OwnOps
import Derived.StringKeys
import Derived.Test.YthaibjefnclkjaaGreatDoorZ20
import Derived.Test.YthaibjefnclkjaaGreatDoorZ7
namespace Go.Proofs.YthaibjefnclkjaaGreatDoor
open Go.RowKit Go.Sort
set_option linter.unusedVariables false

set_option maxRecDepth 100000 in
set_option maxHeartbeats 1600000 in
theorem r13Instr_1 (i : Ins) (h1 : i.loc.length ≤ 9223372036854775807) (h2 : i.label.length ≤ 9223372036854775807) (w : World) : Calls Tryz.prog 90 #[.int .i64 1, vI i] w (Ret w (.int .i64 (errX i))) := by
  have A := al w (mkI i)
  obtain ⟨c0, c1, c2, c3, c4, c5, c6, c7⟩ := (BxI.new w i).cells
  have CK := hid (fun w => r9Check i h1 w)
  generalize errX i = e at *
  go_enter Tryz.func90, Tryz.ntmps90
  go_wp2_with fail
  refine (CK.out _).mono ?_
  rintro ee w1 ⟨rfl, E⟩
  have B := A.trans (E.mono A.size)
  go_wp2_with fail
  go_ret
  exact ⟨rfl, B⟩
set_option maxRecDepth 100000 in
set_option maxHeartbeats 3200000 in
theorem r13Coded_1 (t : Tst) (ha : t.arch = 1) (w : World) (h : TsIn w t) : Calls Tryz.prog 52 #[vT t] w (Ret w (.int .i64 (codedE t))) := by
  have A := al w (mkT t)
  have b0 := BxT.new w t
  have HI := hid (h.keep A)
  have HA := hid A
  have HAr := hid ha
  have hcl := h.code.len
  clear ha
  by_cases hn : t.code.length < 1 ∨ 16 < t.code.length
  · rw [codedE_n hn]
    obtain ⟨c0, c1, c2, c3, c4, c5, c6, c7, c8, c9, c10, c11⟩ := b0.cells
    clear h A
    rcases hn with hn | hn
    all_goals
      go_enter Tryz.func52, Tryz.ntmps52
      go_wp2_with fail
      go_ret
      exact ⟨rfl, HA.out⟩
  · have h1 : 1 ≤ t.code.length := by omega
    have h16 : t.code.length ≤ 16 := by omega
    have HNN := hid hn
    clear hn h A
    go_enter Tryz.func52, Tryz.ntmps52
    go_upto_region 1 with (fail)
    generalize w.alloc (mkT t) = W1 at *
    obtain ⟨c0, c1, c2, c3, c4, c5, c6, c7, c8, c9, c10, c11⟩ := b0.cells
    go_wp2_with fail
    clear c0 c1 c2 c3 c4 c5 c6 c7 c8 c9 c10 c11
    go_loopw [3] (fun i wr => ∃ k : Nat, k ≤ t.code.length ∧ i = .int .i64 k ∧ Below W1.heap.size W1 wr ∧ Hid (∀ (j : Nat) (x : Cd), j < k → t.code[j]? = some x → x.l.length ≤ 256)) (fun i _ => t.code.length - (intOf i).toNat)
    case atStart => exact ⟨0, by omega, rfl, Below.refl _ _, fun j x hj => absurd hj (Nat.not_lt_zero j)⟩
    case round =>
      obtain ⟨k, hk, rfl, E, HK⟩ := hrel
      obtain ⟨c0, c1, c2, c3, c4, c5, c6, c7, c8, c9, c10, c11⟩ := (b0.below E).cells
      by_cases hlt : k < t.code.length
      · obtain ⟨x, hx⟩ : ∃ x, t.code[k]? = some x := ⟨_, List.getElem?_eq_getElem hlt⟩
        have p0 := (HI.out.code.below E).cd hx
        have ix := HI.out.code.cdx k hlt t.cc
        have hxl := (HI.out.rows x (List.mem_of_getElem? hx)).is.len
        have HX := hid hx
        clear hx
        by_cases hl : 256 < x.l.length
        · have HZ := hid (codedE_long HNN.out HX.out hl)
          go_wp2_with fail
          go_ret
          rw [HZ.out]
          exact ⟨rfl, HA.out.trans (E.mono HA.out.size)⟩
        · have hl' : x.l.length ≤ 256 := by omega
          have HK2 : ∀ (j : Nat) (y : Cd), j < k + 1 → t.code[j]? = some y → y.l.length ≤ 256 := fun j y hj hy => by
            rcases Nat.lt_succ_iff_lt_or_eq.1 hj with h | h
            · exact HK.out j y h hy
            · subst h; rw [HX.out] at hy; cases hy; exact hl'
          have HK2 := hid HK2
          clear HK hl
          go_wp2_with fail
          go_roundw
          case rel => exact ⟨k + 1, by omega, by go_num, E, HK2⟩
          case measure => simp [intOf]; omega
      · obtain rfl : k = t.code.length := by omega
        have HR := hid (codedE_rows HNN.out (fun k x hx => HK.out k x (List.getElem?_eq_some_iff.1 hx).1 hx))
        have HL := hid (fun (k : Nat) (x : Cd) (hx : t.code[k]? = some x) => HK.out k x (List.getElem?_eq_some_iff.1 hx).1 hx)
        clear HK hk hlt
        go_wp2_with fail
        clear c0 c1 c2 c3 c4 c5 c6 c7 c8 c9 c10 c11
        go_loopw [4] (fun i wr2 => ∃ k : Nat, k ≤ t.code.length ∧ i = .int .i64 k ∧ Below W1.heap.size W1 wr2 ∧ Hid (rowsE 1 (t.code.drop k) = codedE t)) (fun i _ => t.code.length - (intOf i).toNat)
        case atStart => exact ⟨0, by omega, rfl, E, by rw [List.drop_zero]; exact (HR.out.trans (by rw [HAr.out])).symm⟩
        case round =>
          clear E
          obtain ⟨k, hk, rfl, E, HD⟩ := hrel
          obtain ⟨c0, c1, c2, c3, c4, c5, c6, c7, c8, c9, c10, c11⟩ := (b0.below E).cells
          by_cases hlt : k < t.code.length
          · obtain ⟨x, hx⟩ : ∃ x, t.code[k]? = some x := ⟨_, List.getElem?_eq_getElem hlt⟩
            have ix := HI.out.code.cdx k hlt t.cc
            have hxI := HI.out.rows x (List.mem_of_getElem? hx)
            have hxl := hxI.is.len
            have HXI := hid hxI
            have HXG := hid hx
            have hl6 := HL.out k x hx
            have HD := hid (show (if rowE 1 x.l = 0 then rowsE 1 (t.code.drop (k + 1)) else rowE 1 x.l) = codedE t by rw [← rowsE_drop hx]; exact HD.out)
            clear hx hxI
            go_wp2_with fail
            clear c0 c1 c2 c3 c4 c5 c6 c7 c8 c9 c10 c11
            go_loopw [5] (fun i wr3 => ∃ j : Nat, j ≤ x.l.length ∧ i = .int .i64 j ∧ Below W1.heap.size W1 wr3 ∧ Hid (∀ (m : Nat) (i : Ins), m < j → x.l[m]? = some i → insA 1 i = true)) (fun i _ => x.l.length - (intOf i).toNat)
            case atStart => exact ⟨0, by omega, rfl, E, fun j x hj => absurd hj (Nat.not_lt_zero j)⟩
            case round =>
              clear E
              obtain ⟨j, hj, rfl, E, HJ⟩ := hrel
              obtain ⟨c0, c1, c2, c3, c4, c5, c6, c7, c8, c9, c10, c11⟩ := (b0.below E).cells
              rw [HAr.out] at c0
              have p0 := (HI.out.code.below E).cd HXG.out
              by_cases hjt : j < x.l.length
              · obtain ⟨i, hi⟩ : ∃ i, x.l[j]? = some i := ⟨_, List.getElem?_eq_getElem hjt⟩
                obtain ⟨q0, q1, q2, q3, q4, q5, q6, q7⟩ := (HXI.out.is.below E).cells hi
                have ix2 := (HXI.out.is.below E).idx j hjt x.c
                have hb := HXI.out.locs i (List.mem_of_getElem? hi)
                have CK := hid (fun w => r13Instr_1 i hb.1 hb.2 w)
                have HIJ := hid hi
                clear hi hb
                obtain ⟨e, he⟩ : ∃ e, errX i = e := ⟨_, rfl⟩
                rw [he] at CK
                have HE := hid he
                clear he
                go_wp2_with fail
                have cA := fun (d : Nat) (os : Array Obj) => Calls.regrown_of (retc' (CK.out (grow (redrawn wr d) os)))
                have q0 := cell_regrown q0; have q1 := cell_regrown q1; have q2 := cell_regrown q2; have q3 := cell_regrown q3; have q4 := cell_regrown q4; have q5 := cell_regrown q5; have q6 := cell_regrown q6; have q7 := cell_regrown q7; have c0 := cell_regrown c0; have c4 := cell_regrown c4; have p0 := cell_regrown p0
                refine wp_region_quiet_below (by kernel_rfl) (by kernel_rfl) ?_
                repeat (go_big_quiet_step (exact cA _ _))
                refine wpQuiet_nil ?_
                intro _ hw'
                obtain ⟨⟨dq, osq⟩, hw''⟩ := hw'
                subst hw''
                have EQ := below_regrown wr dq osq
                generalize grow (redrawn wr dq) osq = W5 at *
                have E := E.trans (EQ.mono E.size)
                clear q0 q1 q2 q3 q4 q5 q6 q7 EQ CK c0 c1 c2 c3 c4 c5 c6 c7 c8 c9 c10 c11 p0 ix2 cA
                by_cases hck : checkX i = true
                · have e0 : e = 0 := by rw [← HE.out]; unfold errX; rw [hck]; rfl
                  subst e0
                  have HJ2 : ∀ (m : Nat) (y : Ins), m < j + 1 → x.l[m]? = some y → insA 1 y = true := fun m y hm hy => by
                    rcases Nat.lt_succ_iff_lt_or_eq.1 hm with h | h
                    · exact HJ.out m y h hy
                    · subst h; rw [HIJ.out] at hy; cases hy; exact hck
                  have HJ2 := hid HJ2
                  clear hck HJ HIJ HE
                  go_wp2_with fail
                  go_roundw
                  case rel => exact ⟨j + 1, by omega, by go_num, E, HJ2⟩
                  case measure => simp [intOf]; omega
                · have e0 : e = 91 := by rw [← HE.out]; unfold errX; rw [if_neg hck]
                  subst e0
                  have HZ := hid (show codedE t = 91 by rw [← HD.out, rowE_bad HIJ.out (by show checkX i = false; simpa using hck), if_neg (by omega)])
                  clear hck HJ HIJ HE
                  go_wp2_with fail
                  go_ret
                  rw [HZ.out]
                  exact ⟨rfl, HA.out.trans (E.mono HA.out.size)⟩
              · obtain rfl : j = x.l.length := by omega
                have HRA := hid (rowE_all (fun m i hi => HJ.out m i (List.getElem?_eq_some_iff.1 hi).1 hi))
                have HD := hid (show rowsE 1 (t.code.drop (k + 1)) = codedE t by rw [← HD.out, if_pos (by rw [HRA.out]; rfl)])
                clear HJ
                go_wp2_with fail
                go_roundw
                case rel => exact ⟨k + 1, by omega, by go_num, E, HD⟩
                case measure => simp [intOf]; omega
          · obtain rfl : k = t.code.length := by omega
            have HZ := hid (show codedE t = 0 by rw [← HD.out]; exact rowsE_end)
            go_wp2_with fail
            go_ret
            rw [HZ.out]
            exact ⟨rfl, HA.out.trans (E.mono HA.out.size)⟩
set_option maxRecDepth 100000 in
set_option maxHeartbeats 1600000 in
theorem r13Instr_2 (i : Ins) (h1 : i.loc.length ≤ 9223372036854775807) (h2 : i.label.length ≤ 9223372036854775807) (w : World) : Calls Tryz.prog 90 #[.int .i64 2, vI i] w (Ret w (.int .i64 (errI i))) := by
  have A := al w (mkI i)
  obtain ⟨c0, c1, c2, c3, c4, c5, c6, c7⟩ := (BxI.new w i).cells
  have CK := hid (fun w => refCheck i h2 w)
  generalize errI i = e at *
  go_enter Tryz.func90, Tryz.ntmps90
  go_wp2_with fail
  refine (CK.out _).mono ?_
  rintro ee w1 ⟨rfl, E⟩
  have B := A.trans (E.mono A.size)
  go_wp2_with fail
  go_ret
  exact ⟨rfl, B⟩
set_option maxRecDepth 100000 in
set_option maxHeartbeats 3200000 in
theorem r13Coded_2 (t : Tst) (ha : t.arch = 2) (w : World) (h : TsIn w t) : Calls Tryz.prog 52 #[vT t] w (Ret w (.int .i64 (codedE t))) := by
  have A := al w (mkT t)
  have b0 := BxT.new w t
  have HI := hid (h.keep A)
  have HA := hid A
  have HAr := hid ha
  have hcl := h.code.len
  clear ha
  by_cases hn : t.code.length < 1 ∨ 16 < t.code.length
  · rw [codedE_n hn]
    obtain ⟨c0, c1, c2, c3, c4, c5, c6, c7, c8, c9, c10, c11⟩ := b0.cells
    clear h A
    rcases hn with hn | hn
    all_goals
      go_enter Tryz.func52, Tryz.ntmps52
      go_wp2_with fail
      go_ret
      exact ⟨rfl, HA.out⟩
  · have h1 : 1 ≤ t.code.length := by omega
    have h16 : t.code.length ≤ 16 := by omega
    have HNN := hid hn
    clear hn h A
    go_enter Tryz.func52, Tryz.ntmps52
    go_upto_region 1 with (fail)
    generalize w.alloc (mkT t) = W1 at *
    obtain ⟨c0, c1, c2, c3, c4, c5, c6, c7, c8, c9, c10, c11⟩ := b0.cells
    go_wp2_with fail
    clear c0 c1 c2 c3 c4 c5 c6 c7 c8 c9 c10 c11
    go_loopw [3] (fun i wr => ∃ k : Nat, k ≤ t.code.length ∧ i = .int .i64 k ∧ Below W1.heap.size W1 wr ∧ Hid (∀ (j : Nat) (x : Cd), j < k → t.code[j]? = some x → x.l.length ≤ 256)) (fun i _ => t.code.length - (intOf i).toNat)
    case atStart => exact ⟨0, by omega, rfl, Below.refl _ _, fun j x hj => absurd hj (Nat.not_lt_zero j)⟩
    case round =>
      obtain ⟨k, hk, rfl, E, HK⟩ := hrel
      obtain ⟨c0, c1, c2, c3, c4, c5, c6, c7, c8, c9, c10, c11⟩ := (b0.below E).cells
      by_cases hlt : k < t.code.length
      · obtain ⟨x, hx⟩ : ∃ x, t.code[k]? = some x := ⟨_, List.getElem?_eq_getElem hlt⟩
        have p0 := (HI.out.code.below E).cd hx
        have ix := HI.out.code.cdx k hlt t.cc
        have hxl := (HI.out.rows x (List.mem_of_getElem? hx)).is.len
        have HX := hid hx
        clear hx
        by_cases hl : 256 < x.l.length
        · have HZ := hid (codedE_long HNN.out HX.out hl)
          go_wp2_with fail
          go_ret
          rw [HZ.out]
          exact ⟨rfl, HA.out.trans (E.mono HA.out.size)⟩
        · have hl' : x.l.length ≤ 256 := by omega
          have HK2 : ∀ (j : Nat) (y : Cd), j < k + 1 → t.code[j]? = some y → y.l.length ≤ 256 := fun j y hj hy => by
            rcases Nat.lt_succ_iff_lt_or_eq.1 hj with h | h
            · exact HK.out j y h hy
            · subst h; rw [HX.out] at hy; cases hy; exact hl'
          have HK2 := hid HK2
          clear HK hl
          go_wp2_with fail
          go_roundw
          case rel => exact ⟨k + 1, by omega, by go_num, E, HK2⟩
          case measure => simp [intOf]; omega
      · obtain rfl : k = t.code.length := by omega
        have HR := hid (codedE_rows HNN.out (fun k x hx => HK.out k x (List.getElem?_eq_some_iff.1 hx).1 hx))
        have HL := hid (fun (k : Nat) (x : Cd) (hx : t.code[k]? = some x) => HK.out k x (List.getElem?_eq_some_iff.1 hx).1 hx)
        clear HK hk hlt
        go_wp2_with fail
        clear c0 c1 c2 c3 c4 c5 c6 c7 c8 c9 c10 c11
        go_loopw [4] (fun i wr2 => ∃ k : Nat, k ≤ t.code.length ∧ i = .int .i64 k ∧ Below W1.heap.size W1 wr2 ∧ Hid (rowsE 2 (t.code.drop k) = codedE t)) (fun i _ => t.code.length - (intOf i).toNat)
        case atStart => exact ⟨0, by omega, rfl, E, by rw [List.drop_zero]; exact (HR.out.trans (by rw [HAr.out])).symm⟩
        case round =>
          clear E
          obtain ⟨k, hk, rfl, E, HD⟩ := hrel
          obtain ⟨c0, c1, c2, c3, c4, c5, c6, c7, c8, c9, c10, c11⟩ := (b0.below E).cells
          by_cases hlt : k < t.code.length
          · obtain ⟨x, hx⟩ : ∃ x, t.code[k]? = some x := ⟨_, List.getElem?_eq_getElem hlt⟩
            have ix := HI.out.code.cdx k hlt t.cc
            have hxI := HI.out.rows x (List.mem_of_getElem? hx)
            have hxl := hxI.is.len
            have HXI := hid hxI
            have HXG := hid hx
            have hl6 := HL.out k x hx
            have HD := hid (show (if rowE 2 x.l = 0 then rowsE 2 (t.code.drop (k + 1)) else rowE 2 x.l) = codedE t by rw [← rowsE_drop hx]; exact HD.out)
            clear hx hxI
            go_wp2_with fail
            clear c0 c1 c2 c3 c4 c5 c6 c7 c8 c9 c10 c11
            go_loopw [5] (fun i wr3 => ∃ j : Nat, j ≤ x.l.length ∧ i = .int .i64 j ∧ Below W1.heap.size W1 wr3 ∧ Hid (∀ (m : Nat) (i : Ins), m < j → x.l[m]? = some i → insA 2 i = true)) (fun i _ => x.l.length - (intOf i).toNat)
            case atStart => exact ⟨0, by omega, rfl, E, fun j x hj => absurd hj (Nat.not_lt_zero j)⟩
            case round =>
              clear E
              obtain ⟨j, hj, rfl, E, HJ⟩ := hrel
              obtain ⟨c0, c1, c2, c3, c4, c5, c6, c7, c8, c9, c10, c11⟩ := (b0.below E).cells
              rw [HAr.out] at c0
              have p0 := (HI.out.code.below E).cd HXG.out
              by_cases hjt : j < x.l.length
              · obtain ⟨i, hi⟩ : ∃ i, x.l[j]? = some i := ⟨_, List.getElem?_eq_getElem hjt⟩
                obtain ⟨q0, q1, q2, q3, q4, q5, q6, q7⟩ := (HXI.out.is.below E).cells hi
                have ix2 := (HXI.out.is.below E).idx j hjt x.c
                have hb := HXI.out.locs i (List.mem_of_getElem? hi)
                have CK := hid (fun w => r13Instr_2 i hb.1 hb.2 w)
                have HIJ := hid hi
                clear hi hb
                obtain ⟨e, he⟩ : ∃ e, errI i = e := ⟨_, rfl⟩
                rw [he] at CK
                have HE := hid he
                clear he
                go_wp2_with fail
                have cA := fun (d : Nat) (os : Array Obj) => Calls.regrown_of (retc' (CK.out (grow (redrawn wr d) os)))
                have q0 := cell_regrown q0; have q1 := cell_regrown q1; have q2 := cell_regrown q2; have q3 := cell_regrown q3; have q4 := cell_regrown q4; have q5 := cell_regrown q5; have q6 := cell_regrown q6; have q7 := cell_regrown q7; have c0 := cell_regrown c0; have c4 := cell_regrown c4; have p0 := cell_regrown p0
                refine wp_region_quiet_below (by kernel_rfl) (by kernel_rfl) ?_
                repeat (go_big_quiet_step (exact cA _ _))
                refine wpQuiet_nil ?_
                intro _ hw'
                obtain ⟨⟨dq, osq⟩, hw''⟩ := hw'
                subst hw''
                have EQ := below_regrown wr dq osq
                generalize grow (redrawn wr dq) osq = W5 at *
                have E := E.trans (EQ.mono E.size)
                clear q0 q1 q2 q3 q4 q5 q6 q7 EQ CK c0 c1 c2 c3 c4 c5 c6 c7 c8 c9 c10 c11 p0 ix2 cA
                by_cases hck : checkI i = true
                · have e0 : e = 0 := by rw [← HE.out]; unfold errI; rw [hck]; rfl
                  subst e0
                  have HJ2 : ∀ (m : Nat) (y : Ins), m < j + 1 → x.l[m]? = some y → insA 2 y = true := fun m y hm hy => by
                    rcases Nat.lt_succ_iff_lt_or_eq.1 hm with h | h
                    · exact HJ.out m y h hy
                    · subst h; rw [HIJ.out] at hy; cases hy; exact hck
                  have HJ2 := hid HJ2
                  clear hck HJ HIJ HE
                  go_wp2_with fail
                  go_roundw
                  case rel => exact ⟨j + 1, by omega, by go_num, E, HJ2⟩
                  case measure => simp [intOf]; omega
                · have e0 : e = 91 := by rw [← HE.out]; unfold errI; rw [if_neg hck]
                  subst e0
                  have HZ := hid (show codedE t = 91 by rw [← HD.out, rowE_bad HIJ.out (by show checkI i = false; simpa using hck), if_neg (by omega)])
                  clear hck HJ HIJ HE
                  go_wp2_with fail
                  go_ret
                  rw [HZ.out]
                  exact ⟨rfl, HA.out.trans (E.mono HA.out.size)⟩
              · obtain rfl : j = x.l.length := by omega
                have HRA := hid (rowE_all (fun m i hi => HJ.out m i (List.getElem?_eq_some_iff.1 hi).1 hi))
                have hLab : ∀ i ∈ x.l, i.label.length ≤ 9223372036854775807 := fun i hi => (HXI.out.locs i hi).2
                have LK := refLinks x.l x.a x.c hLab wr (HXI.out.is.below E)
                obtain ⟨e, he⟩ : ∃ e, (linksV x.l).2.1 = e := ⟨_, rfl⟩
                have HD := hid (show (if e = 0 then rowsE 2 (t.code.drop (k + 1)) else e) = codedE t by
                  rw [← HD.out, show rowE 2 x.l = e from by rw [HRA.out, if_pos rfl, he]])
                have HLE := hid he
                have LK := hid LK
                clear HJ he hLab HRA
                go_wp2_with fail
                refine LK.out.mono ?_
                rintro ee w5 ⟨a5, c5', rfl, o5, E5⟩
                rw [HLE.out]
                have E := E.trans (E5.mono E.size)
                clear o5 E5 LK c0 c1 c2 c3 c4 c5 c6 c7 c8 c9 c10 c11 p0 ix
                by_cases h0 : e = 0
                · subst h0
                  have HD := hid (show rowsE 2 (t.code.drop (k + 1)) = codedE t from HD.out)
                  go_wp2_with fail
                  go_roundw
                  case rel => exact ⟨k + 1, by omega, by go_num, E, HD⟩
                  case measure => simp [intOf]; omega
                · have z0 : (e != 0) = true := by simpa using h0
                  have HZ := hid (show codedE t = e by rw [← HD.out, if_neg h0])
                  clear h0
                  go_wp2_with fail
                  go_ret
                  rw [HZ.out]
                  exact ⟨rfl, HA.out.trans (E.mono HA.out.size)⟩
          · obtain rfl : k = t.code.length := by omega
            have HZ := hid (show codedE t = 0 by rw [← HD.out]; exact rowsE_end)
            go_wp2_with fail
            go_ret
            rw [HZ.out]
            exact ⟨rfl, HA.out.trans (E.mono HA.out.size)⟩
end Go.Proofs.YthaibjefnclkjaaGreatDoor
namespace Go.Proofs.YthaibjefnclkjaaGreatDoor
set_option linter.unusedVariables false

theorem keyI_eq (x y : Ini) : keyI y = keyI x ↔ (x.thread = y.thread ∧ x.reg = y.reg ∧ x.loc = y.loc) := by
  unfold keyI
  simp only [Th.mk.injEq]
  constructor
  · rintro ⟨a, b, c⟩; exact ⟨a.symm, b.symm, c.symm⟩
  · rintro ⟨a, b, c⟩; exact ⟨a.symm, b.symm, c.symm⟩
end Go.Proofs.YthaibjefnclkjaaGreatDoor
namespace Go.Proofs.YthaibjefnclkjaaGreatDoor
open Go.RowKit Go.Sort
set_option linter.unusedVariables false

def mayL (vloc : Tx) (n : Int) : Bool := if vloc = [] then n32B n else nameB vloc && decide (n = 0)
def placeB (arch : Int) (n : Nat) (x : Ini) : Bool :=
  if x.thread = -1 then nameB x.loc && (decide (x.reg = 0) && decide (x.vloc = []))
  else if x.thread < 0 ∨ (n : Int) ≤ x.thread ∨ x.loc ≠ [] then false
  else if arch = 2 then decide (1 ≤ x.reg) && decide (x.reg < 32) else decide (0 ≤ x.reg) && decide (x.reg < 15)
theorem firstB_eq (arch : Int) (n : Nat) (x : Ini) : firstB arch n x = (mayL x.vloc x.n && placeB arch n x) := by
  unfold firstB mayL placeB
  by_cases h1 : x.thread = -1
  · rw [if_pos h1, if_pos h1]
    by_cases h2 : x.vloc = []
    · rw [if_pos h2, decide_eq_true h2]; cases nameB x.loc <;> cases n32B x.n <;> simp
    · rw [if_neg h2, decide_eq_false h2]; simp
  · rw [if_neg h1, if_neg h1]
    by_cases h2 : x.thread < 0 ∨ (n : Int) ≤ x.thread ∨ x.loc ≠ []
    · rw [if_pos h2, if_pos h2, Bool.and_false]
    · rw [if_neg h2, if_neg h2]
      have hv : (if x.vloc ≠ [] then nameB x.vloc && decide (x.n = 0) else n32B x.n) = (if x.vloc = [] then n32B x.n else nameB x.vloc && decide (x.n = 0)) := by
        by_cases h : x.vloc = [] <;> simp [h]
      by_cases h3 : arch = 2
      · by_cases h4 : x.reg < 1 ∨ 31 < x.reg
        · rw [if_pos (by rw [if_pos h3]; exact h4), if_pos h3]
          have : (decide (1 ≤ x.reg) && decide (x.reg < 32)) = false := by simp; omega
          rw [this, Bool.and_false]
        · rw [if_neg (by rw [if_pos h3]; exact h4), if_pos h3, hv]
          have : (decide (1 ≤ x.reg) && decide (x.reg < 32)) = true := by simp; omega
          rw [this, Bool.and_true]
      · by_cases h4 : x.reg < 0 ∨ 14 < x.reg
        · rw [if_pos (by rw [if_neg h3]; exact h4), if_neg h3]
          have : (decide (0 ≤ x.reg) && decide (x.reg < 15)) = false := by simp; omega
          rw [this, Bool.and_false]
        · rw [if_neg (by rw [if_neg h3]; exact h4), if_neg h3, hv]
          have : (decide (0 ≤ x.reg) && decide (x.reg < 15)) = true := by simp; omega
          rw [this, Bool.and_true]
set_option maxRecDepth 100000 in
set_option maxHeartbeats 1600000 in
theorem r09May (vloc : Tx) (n : Int) (h2 : vloc.length ≤ 9223372036854775807) (w : World) : Calls Tryz.prog 130 #[.agg #[.string (tx vloc), .int .i64 n]] w (Ret w (.bool (mayL vloc n))) := by
  have B := al w (.cells #[.string (tx vloc), .int .i64 n] 62)
  obtain ⟨b2, hb2⟩ : ∃ b, nameB vloc = b := ⟨_, rfl⟩
  obtain ⟨b3, hb3⟩ : ∃ b, n32B n = b := ⟨_, rfl⟩
  obtain ⟨b5, hb5⟩ : ∃ b, decide (vloc = []) = b := ⟨_, rfl⟩
  have NV := hid (show ∀ w, Calls Tryz.prog 99 #[.string (tx vloc)] w fun e w' => e = .returned (.bool b2) ∧ w = w' from fun w => hb2 ▸ r09Named vloc h2 w)
  have NN := hid (show ∀ w, Calls Tryz.prog 100 #[.int .i64 n] w fun e w' => e = .returned (.bool b3) ∧ w = w' from fun w => hb3 ▸ r09Number n w)
  obtain ⟨zv, zv'⟩ := txE hb5
  cases b5 with
  | true =>
    have E := hid (show mayL vloc n = b3 by unfold mayL; rw [if_pos (by simpa using hb5)]; exact hb3)
    clear hb2 hb3 hb5
    go_enter Tryz.func130, Tryz.ntmps130
    go_wp2_with (go_at_call 100; refine (NN.out _).mono ?_; rintro e w1 ⟨rfl, rfl⟩)
    go_ret
    exact ⟨ret_bool E.out.symm, (by repeat (first | with_reducible assumption | with_reducible exact Below.refl _ _ | with_reducible refine bel_alloc ?_ _ | with_reducible refine bel_drew ?_ | with_reducible refine bel_drewN ?_ _ | with_reducible refine bel_set ?_ (by dsimp only; omega) _))⟩
  | false =>
    have hv : vloc ≠ [] := by simpa using hb5
    by_cases hn0 : n = 0
    · subst hn0
      have E := hid (show mayL vloc 0 = b2 by unfold mayL; rw [if_neg hv, hb2]; simp)
      clear hb2 hb3 hb5 hv
      cases b2
      all_goals
        go_enter Tryz.func130, Tryz.ntmps130
        go_wp2_with (go_at_call 99; refine (NV.out _).mono ?_; rintro e w1 ⟨rfl, rfl⟩)
        go_ret
        exact ⟨ret_bool E.out.symm, (by repeat (first | with_reducible assumption | with_reducible exact Below.refl _ _ | with_reducible refine bel_alloc ?_ _ | with_reducible refine bel_drew ?_ | with_reducible refine bel_drewN ?_ _ | with_reducible refine bel_set ?_ (by dsimp only; omega) _))⟩
    · have zn : (n == 0) = false := by simpa using hn0
      have E := hid (show mayL vloc n = false by unfold mayL; rw [if_neg hv, decide_eq_false hn0, Bool.and_false])
      clear hb2 hb3 hb5 hv hn0
      cases b2
      all_goals
        go_enter Tryz.func130, Tryz.ntmps130
        go_wp2_with (go_at_call 99; refine (NV.out _).mono ?_; rintro e w1 ⟨rfl, rfl⟩)
        go_ret
        exact ⟨ret_bool E.out.symm, (by repeat (first | with_reducible assumption | with_reducible exact Below.refl _ _ | with_reducible refine bel_alloc ?_ _ | with_reducible refine bel_drew ?_ | with_reducible refine bel_drewN ?_ _ | with_reducible refine bel_set ?_ (by dsimp only; omega) _))⟩

set_option maxRecDepth 100000 in
set_option maxHeartbeats 6400000 in
theorem r13Lined (t : Tst) (ha : archB t.arch = true) (x : Ini) (h1 : x.loc.length ≤ 9223372036854775807) (h2 : x.vloc.length ≤ 9223372036854775807) (hn : t.code.length ≤ 1000) (w : World) :
    Calls Tryz.prog 92 #[vT t, vIni x] w (Ret w (.bool (firstB t.arch t.code.length x))) := by
  have B := bel_alloc (al w (mkT t)) (mkIni x)
  have b0 := (BxT.new w t).below (al (w.alloc (mkT t)) (mkIni x))
  have x0 : BxL ((w.alloc (mkT t)).alloc (mkIni x)) (w.alloc (mkT t)).heap.size (cIni x) := BxL.new _ _ _
  rw [show (w.alloc (mkT t)).heap.size = w.heap.size + 1 by simp] at x0
  obtain ⟨thread, reg, loc, vloc, n⟩ := x
  simp only at h1 h2
  have EQ := firstB_eq t.arch t.code.length ⟨thread, reg, loc, vloc, n⟩
  obtain ⟨b1, hb1⟩ : ∃ b, nameB loc = b := ⟨_, rfl⟩
  obtain ⟨b6, hb6⟩ : ∃ b, mayL vloc n = b := ⟨_, rfl⟩
  obtain ⟨b4, hb4⟩ : ∃ b, decide (loc = []) = b := ⟨_, rfl⟩
  obtain ⟨b5, hb5⟩ : ∃ b, decide (vloc = []) = b := ⟨_, rfl⟩
  have NL := hid (show ∀ w, Calls Tryz.prog 99 #[.string (tx loc)] w fun e w' => e = .returned (.bool b1) ∧ w = w' from fun w => hb1 ▸ r09Named loc h1 w)
  have NM := hid (show ∀ w, Calls Tryz.prog 130 #[.agg #[.string (tx vloc), .int .i64 n]] w (Ret w (.bool b6)) from fun w => hb6 ▸ r09May vloc n h2 w)
  obtain ⟨zl, zl'⟩ := txE hb4
  obtain ⟨zv, zv'⟩ := txE hb5
  have HL := hid hb4
  have HV := hid hb5
  have HB1 := hid hb1
  have HA0 := hid ha
  simp only at EQ
  rw [hb6] at EQ
  have HEQ := hid EQ
  clear EQ hb1 hb4 hb5 hb6 h1 h2 ha
  cases b6 with
  | false =>
    have E2 := hid (HEQ.out.trans (Bool.false_and _))
    go_enter Tryz.func92, Tryz.ntmps92
    go_wp2_with fail
    refine (NM.out _).mono ?_
    rintro e w1 ⟨rfl, E1⟩
    have q0 := (b0.below E1).cells.1
    have q4 := (b0.below E1).cells.2.2.2.2.1
    have i0 := (x0.below E1).get 0 _ rfl; have i1 := (x0.below E1).get 1 _ rfl; have i2 := (x0.below E1).get 2 _ rfl; have i3 := (x0.below E1).get 3 _ rfl
    have B := B.trans (E1.mono B.size)
    clear E1
    go_wp2_with (first | (go_at_call 99; refine (NL.out _).mono ?_; rintro e w1 ⟨rfl, rfl⟩))
    go_ret
    exact ⟨ret_bool (E2.out.symm), (by repeat (first | with_reducible assumption | with_reducible exact Below.refl _ _ | with_reducible refine bel_alloc ?_ _ | with_reducible refine bel_drew ?_ | with_reducible refine bel_drewN ?_ _ | with_reducible refine bel_set ?_ (by dsimp only; omega) _))⟩
  | true =>
  have PL := hid (HEQ.out.trans (Bool.true_and _))
  clear HEQ
  by_cases ht : thread = -1
  · subst ht
    have P2 := hid (PL.out.trans (show _ = (b1 && (decide (reg = 0) && b5)) by unfold placeB; rw [if_pos rfl]; simp only [HB1.out, HV.out]))
    clear PL
    by_cases hr : reg = 0
    · subst hr
      cases b1 <;> cases b5
      all_goals
        go_enter Tryz.func92, Tryz.ntmps92
        go_wp2_with fail
        refine (NM.out _).mono ?_
        rintro e w1 ⟨rfl, E1⟩
        have q0 := (b0.below E1).cells.1
        have q4 := (b0.below E1).cells.2.2.2.2.1
        have i0 := (x0.below E1).get 0 _ rfl; have i1 := (x0.below E1).get 1 _ rfl; have i2 := (x0.below E1).get 2 _ rfl; have i3 := (x0.below E1).get 3 _ rfl
        have B := B.trans (E1.mono B.size)
        clear E1
        go_wp2_with (first | (go_at_call 99; refine (NL.out _).mono ?_; rintro e w1 ⟨rfl, rfl⟩))
        go_ret
        exact ⟨ret_bool ((show _ = _ from by first | rfl | simp).trans P2.out.symm), (by repeat (first | with_reducible assumption | with_reducible exact Below.refl _ _ | with_reducible refine bel_alloc ?_ _ | with_reducible refine bel_drew ?_ | with_reducible refine bel_drewN ?_ _ | with_reducible refine bel_set ?_ (by dsimp only; omega) _))⟩
    · have zr : (reg == 0) = false := by simpa using hr
      have P3 := hid (P2.out.trans (show _ = false by rw [decide_eq_false hr, Bool.false_and, Bool.and_false]))
      clear hr P2
      cases b1
      all_goals
        go_enter Tryz.func92, Tryz.ntmps92
        go_wp2_with fail
        refine (NM.out _).mono ?_
        rintro e w1 ⟨rfl, E1⟩
        have q0 := (b0.below E1).cells.1
        have q4 := (b0.below E1).cells.2.2.2.2.1
        have i0 := (x0.below E1).get 0 _ rfl; have i1 := (x0.below E1).get 1 _ rfl; have i2 := (x0.below E1).get 2 _ rfl; have i3 := (x0.below E1).get 3 _ rfl
        have B := B.trans (E1.mono B.size)
        clear E1
        go_wp2_with (first | (go_at_call 99; refine (NL.out _).mono ?_; rintro e w1 ⟨rfl, rfl⟩))
        go_ret
        exact ⟨ret_bool (P3.out.symm), (by repeat (first | with_reducible assumption | with_reducible exact Below.refl _ _ | with_reducible refine bel_alloc ?_ _ | with_reducible refine bel_drew ?_ | with_reducible refine bel_drewN ?_ _ | with_reducible refine bel_set ?_ (by dsimp only; omega) _))⟩
  · have zt : (thread == -1) = false := by simpa using ht
    have P2 := hid (PL.out.trans (show _ = (if thread < 0 ∨ (t.code.length : Int) ≤ thread ∨ loc ≠ [] then false else if t.arch = 2 then decide (1 ≤ reg) && decide (reg < 32) else decide (0 ≤ reg) && decide (reg < 15)) by unfold placeB; rw [if_neg ht]))
    clear PL
    by_cases h0 : thread < 0
    · have P3 := hid (P2.out.trans (if_pos (.inl h0)))
      clear ht P2
      go_enter Tryz.func92, Tryz.ntmps92
      go_wp2_with fail
      refine (NM.out _).mono ?_
      rintro e w1 ⟨rfl, E1⟩
      have q0 := (b0.below E1).cells.1
      have q4 := (b0.below E1).cells.2.2.2.2.1
      have i0 := (x0.below E1).get 0 _ rfl; have i1 := (x0.below E1).get 1 _ rfl; have i2 := (x0.below E1).get 2 _ rfl; have i3 := (x0.below E1).get 3 _ rfl
      have B := B.trans (E1.mono B.size)
      clear E1
      go_wp2_with (first | (go_at_call 99; refine (NL.out _).mono ?_; rintro e w1 ⟨rfl, rfl⟩))
      go_ret
      exact ⟨ret_bool (P3.out.symm), (by repeat (first | with_reducible assumption | with_reducible exact Below.refl _ _ | with_reducible refine bel_alloc ?_ _ | with_reducible refine bel_drew ?_ | with_reducible refine bel_drewN ?_ _ | with_reducible refine bel_set ?_ (by dsimp only; omega) _))⟩
    have h0' : 0 ≤ thread := by omega
    by_cases hc : (t.code.length : Int) ≤ thread
    · have P3 := hid (P2.out.trans (if_pos (.inr (.inl hc))))
      clear ht P2
      go_enter Tryz.func92, Tryz.ntmps92
      go_wp2_with fail
      refine (NM.out _).mono ?_
      rintro e w1 ⟨rfl, E1⟩
      have q0 := (b0.below E1).cells.1
      have q4 := (b0.below E1).cells.2.2.2.2.1
      have i0 := (x0.below E1).get 0 _ rfl; have i1 := (x0.below E1).get 1 _ rfl; have i2 := (x0.below E1).get 2 _ rfl; have i3 := (x0.below E1).get 3 _ rfl
      have B := B.trans (E1.mono B.size)
      clear E1
      go_wp2_with (first | (go_at_call 99; refine (NL.out _).mono ?_; rintro e w1 ⟨rfl, rfl⟩))
      go_ret
      exact ⟨ret_bool (P3.out.symm), (by repeat (first | with_reducible assumption | with_reducible exact Below.refl _ _ | with_reducible refine bel_alloc ?_ _ | with_reducible refine bel_drew ?_ | with_reducible refine bel_drewN ?_ _ | with_reducible refine bel_set ?_ (by dsimp only; omega) _))⟩
    have hc' : thread < t.code.length := by omega
    cases b4 with
    | false =>
      have P3 := hid (P2.out.trans (if_pos (.inr (.inr (by simpa using HL.out)))))
      clear ht hc P2
      go_enter Tryz.func92, Tryz.ntmps92
      go_wp2_with fail
      refine (NM.out _).mono ?_
      rintro e w1 ⟨rfl, E1⟩
      have q0 := (b0.below E1).cells.1
      have q4 := (b0.below E1).cells.2.2.2.2.1
      have i0 := (x0.below E1).get 0 _ rfl; have i1 := (x0.below E1).get 1 _ rfl; have i2 := (x0.below E1).get 2 _ rfl; have i3 := (x0.below E1).get 3 _ rfl
      have B := B.trans (E1.mono B.size)
      clear E1
      go_wp2_with (first | (go_at_call 99; refine (NL.out _).mono ?_; rintro e w1 ⟨rfl, rfl⟩))
      go_ret
      exact ⟨ret_bool (P3.out.symm), (by repeat (first | with_reducible assumption | with_reducible exact Below.refl _ _ | with_reducible refine bel_alloc ?_ _ | with_reducible refine bel_drew ?_ | with_reducible refine bel_drewN ?_ _ | with_reducible refine bel_set ?_ (by dsimp only; omega) _))⟩
    | true =>
      have hnot : ¬ (thread < 0 ∨ (t.code.length : Int) ≤ thread ∨ loc ≠ []) := by
        have := HL.out; simp at this; subst this; simp; omega
      have P3 := hid (P2.out.trans (if_neg hnot))
      clear P2 hnot ht hc
      by_cases ha : t.arch = 2
      · have za : (t.arch == 1) = false := by rw [ha]; rfl
        have P4 := hid (P3.out.trans (if_pos ha))
        clear P3 ha
        have hp : reg < 1 ∨ (1 ≤ reg ∧ reg < 32) ∨ 32 ≤ reg := by omega
        rcases hp with hr | ⟨hr, hr'⟩ | hr
        all_goals
          go_enter Tryz.func92, Tryz.ntmps92
          go_wp2_with fail
          refine (NM.out _).mono ?_
          rintro e w1 ⟨rfl, E1⟩
          have q0 := (b0.below E1).cells.1
          have q4 := (b0.below E1).cells.2.2.2.2.1
          have i0 := (x0.below E1).get 0 _ rfl; have i1 := (x0.below E1).get 1 _ rfl; have i2 := (x0.below E1).get 2 _ rfl; have i3 := (x0.below E1).get 3 _ rfl
          have B := B.trans (E1.mono B.size)
          clear E1
          go_wp2_with (first | (go_at_call 99; refine (NL.out _).mono ?_; rintro e w1 ⟨rfl, rfl⟩))
          go_ret
          exact ⟨ret_bool (by rw [P4.out]; first | rfl | (simp <;> omega)), (by repeat (first | with_reducible assumption | with_reducible exact Below.refl _ _ | with_reducible refine bel_alloc ?_ _ | with_reducible refine bel_drew ?_ | with_reducible refine bel_drewN ?_ _ | with_reducible refine bel_set ?_ (by dsimp only; omega) _))⟩
      · have h1 : t.arch = 1 := by
          have := HA0.out; unfold archB at this; simp at this; omega
        have za : (t.arch == 1) = true := by rw [h1]; rfl
        have P4 := hid (P3.out.trans (if_neg ha))
        clear P3 ha h1
        have hp : reg < 0 ∨ (0 ≤ reg ∧ reg < 15) ∨ 15 ≤ reg := by omega
        rcases hp with hr | ⟨hr, hr'⟩ | hr
        all_goals
          go_enter Tryz.func92, Tryz.ntmps92
          go_wp2_with fail
          refine (NM.out _).mono ?_
          rintro e w1 ⟨rfl, E1⟩
          have q0 := (b0.below E1).cells.1
          have q4 := (b0.below E1).cells.2.2.2.2.1
          have i0 := (x0.below E1).get 0 _ rfl; have i1 := (x0.below E1).get 1 _ rfl; have i2 := (x0.below E1).get 2 _ rfl; have i3 := (x0.below E1).get 3 _ rfl
          have B := B.trans (E1.mono B.size)
          clear E1
          go_wp2_with (first | (go_at_call 99; refine (NL.out _).mono ?_; rintro e w1 ⟨rfl, rfl⟩))
          go_ret
          exact ⟨ret_bool (by rw [P4.out]; first | rfl | (simp <;> omega)), (by repeat (first | with_reducible assumption | with_reducible exact Below.refl _ _ | with_reducible refine bel_alloc ?_ _ | with_reducible refine bel_drew ?_ | with_reducible refine bel_drewN ?_ _ | with_reducible refine bel_set ?_ (by dsimp only; omega) _))⟩
end Go.Proofs.YthaibjefnclkjaaGreatDoor

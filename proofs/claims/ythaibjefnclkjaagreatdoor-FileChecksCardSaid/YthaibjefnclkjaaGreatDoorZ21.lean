/- The walk of names (program). Conditions: the test lies in memory as read; few lines. The walk of coded (program). Conditions: the test lies in memory as read. A map's keys that are things. Lemmas of this claim's own; no condition. -/
import Derived.Test.YthaibjefnclkjaaGreatDoorZ20
import Derived.Test.YthaibjefnclkjaaGreatDoorZ19
import Derived.Test.YthaibjefnclkjaaGreatDoorZ5
import Derived.Test.YthaibjefnclkjaaGreatDoorZ9
import Derived.Test.YthaibjefnclkjaaGreatDoorZ11
import Derived.Deep.RegionHeld3
import Derived.Lib.QuietBelow
import Derived.DeepKeys5
import Derived.StringKeys
import Derived.Maps.OwnOps
namespace Go.Proofs.YthaibjefnclkjaaGreatDoor
open Go.RowKit Go.Sort
set_option linter.unusedVariables false

/-- a list of names is handed back, to be read -/
def RetN (w : World) (l : List Tx) (e : Ending) (w' : World) : Prop :=
  ∃ a c, e = .returned (.slice a l.length c) ∧ Txs w' a l ∧ Below w.heap.size w w'
theorem row_new (w : World) (us : List Value) (T : TypeId) : Row (w.alloc (.cells us.toArray T)) (some ⟨w.heap.size, 0, none⟩) us := by
  have h := BxL.new w us.toArray T
  exact ⟨fun _ => rfl, fun i hi => by simp only [bk_some, fo_some, Nat.zero_add]; exact h.2 i hi⟩
theorem rawC_snoc {l : List Cd} {k : Nat} {x : Cd} (h : l[k]? = some x) : rawC (l.take (k + 1)) = rawC (l.take k) ++ x.l.map (·.loc) := by
  rw [take_snoc h]; unfold rawC; rw [List.flatMap_append]; simp
theorem rawI_snoc {l : List Ini} {k : Nat} {x : Ini} (h : l[k]? = some x) : rawI (l.take (k + 1)) = rawI (l.take k) ++ [x.loc, x.vloc] := by
  rw [take_snoc h]; unfold rawI; rw [List.flatMap_append]; simp
theorem own_types {w : World} {B B' E E' m m' n n' c c' : Nat} {a r : Option Addr} {xs ys : List Value} (h : Own w B E m a n c xs) (h' : Own w B' E' m' r n' c' ys) (hne : E ≠ E') : r = none ∨ some (bk r) ≠ a.map (·.block) := by
  cases r with
  | none => exact .inl rfl
  | some p =>
    right
    intro e
    obtain ⟨cs, fz, h1⟩ := own_kind h' p.block rfl
    obtain ⟨cs', fz', h2⟩ := own_kind h p.block e.symm
    rw [h1] at h2
    simp only [Option.some.injEq, Obj.cells.injEq] at h2
    exact hne h2.2.1.symm
theorem txs_tail {w : World} {a : Option Addr} {y : Tx} {r : List Tx} (h : Txs w a (y :: r)) : Txs w (Option.map (fun x : Addr => ⟨x.block, x.off + 1, none⟩) a) r := by
  have hh := h.row.head (by simp)
  have hm : Option.map (fun x : Addr => (⟨x.block, x.off + 1, none⟩ : Addr)) a = some ⟨bk a, fo a + 1, none⟩ := by
    conv => lhs; rw [hh]
    rfl
  rw [hm]
  refine ⟨⟨fun _ => rfl, fun i hi => ?_⟩, by have := h.len; simp at this; omega⟩
  have := h.row.cell (i + 1) (by simpa using hi)
  simp only [bk_some, fo_some]
  rw [show fo a + 1 + i = fo a + (i + 1) by omega, this]
  rfl
theorem txs_none {w : World} {a : Option Addr} : Txs w a [] := ⟨Row.nil _ _, by simp⟩
set_option maxRecDepth 100000 in
set_option maxHeartbeats 3200000 in
theorem fileNames (t : Tst) (hi : t.init.length ≤ 1024) (hc : t.code.length ≤ 16) (hr : ∀ x ∈ t.code, x.l.length ≤ 256) (w : World) (h : TsIn w t) :
    Calls Tryz.prog 41 #[vT t] w (RetN w (namesT t)) := by
  have A := al w (mkT t)
  have b0 := BxT.new w t
  have HI := hid (h.keep A)
  have HA := hid A
  have HR := hid hr
  clear h A hr
  go_enter Tryz.func41, Tryz.ntmps41
  go_upto_region 2 with (fail)
  generalize w.alloc (mkT t) = W1 at *
  obtain ⟨c0, c1, c2, c3, c4, c5, c6, c7, c8, c9, c10, c11⟩ := b0.cells
  go_wp2_with fail
  clear c0 c1 c2 c3 c4 c5 c6 c7 c8 c9 c10 c11
  go_loopw [3, 15] (fun o i wr => ∃ (k : Nat) (a : Option Addr) (c : Nat) (L : List Tx), k ≤ t.init.length ∧ i = .int .i64 k ∧ o = .slice a L.length c ∧ Below W1.heap.size W1 wr ∧ OwnS wr W1.heap.size a L.length c L ∧ L.length ≤ 2 * k ∧ Hid (L = rawI (t.init.take k))) (fun _ i _ => t.init.length - (intOf i).toNat)
  case atStart => exact ⟨0, none, 0, [], by omega, rfl, rfl, Below.refl _ _, Own.nil _ _ _ _, by simp, rfl⟩
  case round =>
    obtain ⟨k, a, c, L, hk, rfl, rfl, E, o, hl, HL⟩ := hrel
    by_cases hlt : k < t.init.length
    · obtain ⟨x, hx⟩ : ∃ x, t.init[k]? = some x := ⟨_, List.getElem?_eq_getElem hlt⟩
      obtain ⟨p0, p1, p2, p3, p4⟩ := (HI.out.init.below E).ini hx
      have ix := HI.out.init.idx inil cIni_len k hlt t.ic
      have HT := hid (show L ++ [x.loc, x.vloc] = rawI (t.init.take (k + 1)) by rw [rawI_snoc hx, ← HL.out])
      clear hx
      go_upto_region 5 with (fail)
      have A3 := al wr (mkIni x)
      have x0 : BxL (wr.alloc (mkIni x)) wr.heap.size (cIni x) := BxL.new _ _ _
      generalize wr.alloc (mkIni x) = W3 at *
      have E := E.trans (A3.mono E.size)
      have o := Own.below o A3
      have i2 := x0.get 2 _ rfl; have i3 := x0.get 3 _ rfl
      clear p0 p1 p2 p3 p4 ix A3
      have A5 := al W3 (.cells #[.string (tx x.loc), .string (tx x.vloc)] 9)
      have o5 := Own.below o A5
      have E5 := E.trans (A5.mono E.size)
      have R5 : Row (W3.alloc (.cells #[.string (tx x.loc), .string (tx x.vloc)] 9)) (some ⟨W3.heap.size, 0, none⟩) [.string (tx x.loc), .string (tx x.vloc)] := row_new W3 [.string (tx x.loc), .string (tx x.vloc)] 9
      go_wp2_with (at_builtin; go_loud (refine wpList_app txl (.tmp 19) (.tmp 25) rfl rfl rfl o5 rfl R5 rfl (by intro u hu; simp at hu; rcases hu with rfl | rfl <;> rfl) E5 E5.size (by omega) (by unfold maxLen; omega) ?_))
      intro a6 c6 w6 o6 g6 E6
      have o6 : OwnS w6 W1.heap.size a6 (L ++ [x.loc, x.vloc]).length c6 (L ++ [x.loc, x.vloc]) := by
        rw [List.length_append]; unfold OwnS; rw [sV_app]; exact o6
      clear o o5 E5 R5 A5 g6 i2 i3 x0 E
      go_wp2_with fail
      go_roundw
      case rel => exact ⟨k + 1, a6, c6, _, by omega, by go_num, by rw [List.length_append]; rfl, E6, o6, by rw [List.length_append]; simp; omega, HT⟩
      case measure => simp [intOf]; omega
    · obtain rfl : k = t.init.length := by omega
      have HL := hid (show L = rawI t.init by rw [HL.out, List.take_length])
      have hl : L.length ≤ 2048 := by omega
      obtain ⟨c0, c1, c2, c3, c4, c5, c6, c7, c8, c9, c10, c11⟩ := (b0.below E).cells
      clear hlt hk
      go_wp2_with fail
      clear c0 c1 c2 c3 c4 c5 c6 c7 c8 c9 c10 c11
      go_loopw [3, 31] (fun o i wr => ∃ (k : Nat) (a : Option Addr) (c : Nat) (M : List Tx), k ≤ t.code.length ∧ i = .int .i64 k ∧ o = .slice a M.length c ∧ Below W1.heap.size W1 wr ∧ OwnS wr W1.heap.size a M.length c M ∧ M.length ≤ 2048 + 256 * k ∧ Hid (M = L ++ rawC (t.code.take k))) (fun _ i _ => t.code.length - (intOf i).toNat)
      case atStart => exact ⟨0, a, c, L, by omega, rfl, rfl, E, o, by omega, by simp [rawC, Hid]⟩
      case round =>
        clear E o
        obtain ⟨k, a, c, M, hk, rfl, rfl, E, o, hm, HM⟩ := hrel
        by_cases hlt : k < t.code.length
        · obtain ⟨x, hx⟩ : ∃ x, t.code[k]? = some x := ⟨_, List.getElem?_eq_getElem hlt⟩
          have p0 := (HI.out.code.below E).cd hx
          have iy := HI.out.code.cdx k hlt t.cc
          have HXI := hid (HI.out.rows x (List.mem_of_getElem? hx))
          have hx256 := HR.out x (List.mem_of_getElem? hx)
          have HT := hid (show M ++ x.l.map (·.loc) = L ++ rawC (t.code.take (k + 1)) by rw [rawC_snoc hx, HM.out, List.append_assoc])
          clear hx
          go_wp2_with fail
          clear p0 iy
          go_loopw [3, 37] (fun o i wr => ∃ (j : Nat) (a : Option Addr) (c : Nat) (N : List Tx), j ≤ x.l.length ∧ i = .int .i64 j ∧ o = .slice a N.length c ∧ Below W1.heap.size W1 wr ∧ OwnS wr W1.heap.size a N.length c N ∧ N.length ≤ M.length + j ∧ Hid (N = M ++ (x.l.take j).map (·.loc))) (fun _ i _ => x.l.length - (intOf i).toNat)
          case atStart => exact ⟨0, a, c, M, by omega, rfl, rfl, E, o, by omega, by simp [Hid]⟩
          case round =>
            clear E o
            obtain ⟨j, a, c, N, hj, rfl, rfl, E, o, hnl, HN⟩ := hrel
            by_cases hjt : j < x.l.length
            · obtain ⟨i, hi⟩ : ∃ i, x.l[j]? = some i := ⟨_, List.getElem?_eq_getElem hjt⟩
              obtain ⟨q0, q1, q2, q3, q4, q5, q6, q7⟩ := (HXI.out.is.below E).cells hi
              have ix := (HXI.out.is.below E).idx j hjt x.c
              have HT2 := hid (show N ++ [i.loc] = M ++ (x.l.take (j + 1)).map (·.loc) by rw [take_snoc hi, List.map_append, HN.out, List.append_assoc]; rfl)
              clear hi
              go_upto_region 13 with (fail)
              have A3 := al wr (mkI i)
              have x0 := BxI.new wr i
              generalize wr.alloc (mkI i) = W3 at *
              have E := E.trans (A3.mono E.size)
              have o := Own.below o A3
              obtain ⟨i0, i1, i2, i3, i4, i5, i6, i7⟩ := x0.cells
              clear q0 q1 q2 q3 q4 q5 q6 q7 ix A3
              go_wp2_with (at_builtin; go_loud (refine wpList_app1n txl (.tmp 41) (.tmp 44) rfl rfl rfl rfl o rfl rfl (by intro u hu; simp at hu; subst hu; rfl) E E.size (by omega) (by unfold maxLen; omega) ?_))
              intro a6 c6 w6 o6 g6 E6
              have o6 : OwnS w6 W1.heap.size a6 (N ++ [i.loc]).length c6 (N ++ [i.loc]) := by
                rw [List.length_append]; unfold OwnS; rw [sV_app]; exact o6
              clear o g6 i0 i1 i2 i3 i4 i5 i6 i7 x0 E
              go_wp2_with fail
              go_roundw
              case rel => exact ⟨j + 1, a6, c6, _, by omega, by go_num, by rw [List.length_append]; rfl, E6, o6, by rw [List.length_append]; simp; omega, HT2⟩
              case measure => simp [intOf]; omega
            · obtain rfl : j = x.l.length := by omega
              have HT2 := hid (show N = L ++ rawC (t.code.take (k + 1)) by rw [← HT.out, HN.out, List.take_length])
              go_wp2_with fail
              go_roundw
              case rel => exact ⟨k + 1, a, c, N, by omega, by go_num, rfl, E, o, by omega, HT2⟩
              case measure => simp [intOf]; omega
        · obtain rfl : k = t.code.length := by omega
          have HM := hid (show M = L ++ rawC t.code by rw [HM.out, List.take_length])
          have hm : M.length ≤ 6144 := by omega
          obtain ⟨c0, c1, c2, c3, c4, c5, c6, c7, c8, c9, c10, c11⟩ := (b0.below E).cells
          have TH := hid (fileAsked t wr (HI.out.node.keep E))
          have htl : (askT t).length ≤ 1024 := thingsC_len t.q t.node
          clear hlt hk
          obtain ⟨T, hT⟩ : ∃ T, askT t = T := ⟨_, rfl⟩
          rw [hT] at TH htl
          have HTT := hid hT
          clear hT
          go_wp2_with fail
          refine TH.out.mono ?_
          rintro e w2 ⟨a2, c2', rfl, o2, E2⟩
          have o := Own.below o E2
          have o2 : OwnT w2 W1.heap.size a2 T.length c2' T := Own.mono o2 E.size
          have E := E.trans (E2.mono E.size)
          clear c0 c1 c2 c3 c4 c5 c6 c7 c8 c9 c10 c11 E2 TH
          go_wp2_with fail
          go_loopw [3, 51] (fun o i wr => ∃ (j : Nat) (a : Option Addr) (c : Nat) (N : List Tx), j ≤ T.length ∧ i = .int .i64 j ∧ o = .slice a N.length c ∧ Below W1.heap.size W1 wr ∧ OwnT wr W1.heap.size a2 T.length c2' T ∧ OwnS wr W1.heap.size a N.length c N ∧ N.length ≤ M.length + j ∧ Hid (N = M ++ (T.take j).map (·.loc))) (fun _ i _ => T.length - (intOf i).toNat)
          case atStart => exact ⟨0, a, c, M, by omega, rfl, rfl, E, o2, o, by omega, by simp [Hid]⟩
          case round =>
            clear E o o2
            obtain ⟨j, a, c, N, hj, rfl, rfl, E, o2, o, hnl, HN⟩ := hrel
            by_cases hjt : j < T.length
            · obtain ⟨x, hx⟩ : ∃ x, T[j]? = some x := ⟨_, List.getElem?_eq_getElem hjt⟩
              have els := (Own.els o2 cTh_len (by omega) (by omega)).1
              obtain ⟨q0, q1, q2⟩ := els.th hx
              have ix := els.idx thl cTh_len j hjt c2'
              have HT2 := hid (show N ++ [x.loc] = M ++ (T.take (j + 1)).map (·.loc) by rw [take_snoc hx, List.map_append, HN.out, List.append_assoc]; rfl)
              clear hx
              go_upto_region 19 with (fail)
              have A3 := al wr (mkTh x)
              have x0 : BxL (wr.alloc (mkTh x)) wr.heap.size (cTh x) := BxL.new _ _ _
              generalize wr.alloc (mkTh x) = W3 at *
              have E := E.trans (A3.mono E.size)
              have o := Own.below o A3
              have o2 := Own.below o2 A3
              have i2 := x0.get 2 _ rfl
              clear q0 q1 q2 ix A3 els
              go_wp2_with (at_builtin; go_loud (refine wpList_app1n txl (.tmp 55) (.tmp 58) rfl rfl rfl rfl o rfl rfl (by intro u hu; simp at hu; subst hu; rfl) E E.size (by omega) (by unfold maxLen; omega) ?_))
              intro a6 c6 w6 o6 g6 E6
              have o6 : OwnS w6 W1.heap.size a6 (N ++ [x.loc]).length c6 (N ++ [x.loc]) := by
                rw [List.length_append]; unfold OwnS; rw [sV_app]; exact o6
              have o2 : OwnT w6 W1.heap.size a2 T.length c2' T := Own.kept o2 g6.step.grown (own_types o o2 (by decide))
              clear o g6 i2 x0 E
              go_wp2_with fail
              go_roundw
              case rel => exact ⟨j + 1, a6, c6, _, by omega, by go_num, by rw [List.length_append]; rfl, E6, o2, o6, by rw [List.length_append]; simp; omega, HT2⟩
              case measure => simp [intOf]; omega
            · obtain rfl : j = T.length := by omega
              have HZ := hid (show N = rawT t by
                unfold rawT; rw [HTT.out, HN.out, HM.out, HL.out, List.take_length, List.append_assoc]; rfl)
              have ST := hid (sortS N wr W1.heap.size a c o (by omega))
              have HO := hid o
              have HE := hid E
              clear o2 o E
              go_wp2_with fail
              refine ST.out.mono ?_
              rintro e w3 ⟨rfl, o3, s3⟩
              have E3 := s3.below HO.out HE.out HE.out.size
              have hln : (sortX N).length = N.length := List.length_mergeSort N
              have CT := hid (hln ▸ compactS (sortX N) w3 W1.heap.size a c o3 (by omega))
              have HO3 := hid o3
              have HE3 := hid E3
              clear o3 s3 E3 ST
              go_wp2_with fail
              refine CT.out.mono ?_
              rintro e w4 ⟨rfl, o4, s4⟩
              have E4 := s4.below HO3.out HE3.out HE3.out.size
              have hle := cmpct_length_le (sortX N)
              have HN2 := hid (show namesT t = cut0 (cmpct (sortX N)) by rw [HZ.out, sorted_names, namesT]; rfl)
              have TT := OwnS.txs o4 (by omega)
              have hqc : (cmpct (sortX N)).length ≤ c := o4.cap.1
              clear o4 s4 CT HO3 HO
              obtain ⟨P, hP⟩ : ∃ P, cmpct (sortX N) = P := ⟨_, rfl⟩
              rw [hP] at HN2 TT hle hqc ⊢
              clear hP
              have HT4 := hid TT
              have HW4 := hid E4
              clear TT E4
              cases P with
              | nil =>
                have HF := hid (show namesT t = [] from HN2.out)
                go_wp2_with fail
                (try go_simp)
                go_ret
                rw [HF.out]
                exact ⟨a, c, rfl, HT4.out, HA.out.trans (HW4.out.mono HA.out.size)⟩
              | cons y r =>
                have p0 := HT4.out.cell 0 (by simp)
                rw [Nat.add_zero] at p0
                simp only [List.getElem_cons_zero] at p0
                have ix0 : ∀ w', (Instr.indexAt 44 (.slice a (y :: r).length c) (.int .i64 0)).run Tryz.prog w' = .ok (.pointer (some ⟨bk a, fo a, none⟩)) w' := HT4.out.idx 0 (by simp) c
                obtain ⟨q, hq⟩ : ∃ q, (y :: r).length = q := ⟨_, rfl⟩
                have hq1 : 1 ≤ q := by rw [← hq]; simp
                have HQ := hid hq
                rw [hq] at ix0 hle hqc ⊢
                clear hq
                by_cases hy : y = []
                · have z5 : ((tx y).toList == ([] : List UInt8)) = true := by rw [hy, tx_toList]; rfl
                  have z6 : (tx y).toList.isEmpty = true := by rw [hy, tx_toList]; rfl
                  have HF := hid (show namesT t = r by rw [HN2.out, hy]; rfl)
                  clear hy
                  go_wp2_with fail
                  rotate_left
                  · (try go_simp)
                    go_ret
                    rw [HF.out]
                    exact ⟨_, c - 1, by rw [show r.length = q - 1 by have := HQ.out; simp at this; omega]; rfl, txs_tail HT4.out, HA.out.trans (HW4.out.mono HA.out.size)⟩
                  · (try go_simp)
                    go_ret
                    have hr0 : r = [] := List.eq_nil_of_length_eq_zero (by have := HQ.out; simp at this; omega)
                    rw [HF.out]
                    exact ⟨a, 0, by rw [show r.length = q - 1 by have := HQ.out; simp at this; omega]; rfl, by rw [hr0]; exact txs_none, HA.out.trans (HW4.out.mono HA.out.size)⟩
                · have z5 : ((tx y).toList == ([] : List UInt8)) = false := by rw [tx_toList]; simpa using hy
                  have z6 : (tx y).toList.isEmpty = false := by rw [tx_toList]; cases y <;> simp at *
                  have HF := hid (show namesT t = y :: r by rw [HN2.out]; unfold cut0; rw [if_neg (by simpa using hy)])
                  clear hy
                  go_wp2_with fail
                  (try go_simp)
                  go_ret
                  rw [HF.out]
                  exact ⟨a, c, by rw [HQ.out]; rfl, HT4.out, HA.out.trans (HW4.out.mono HA.out.size)⟩
end Go.Proofs.YthaibjefnclkjaaGreatDoor
namespace Go.Proofs.YthaibjefnclkjaaGreatDoor
open Go.RowKit Go.Sort
set_option linter.unusedVariables false

set_option maxRecDepth 100000 in
set_option maxHeartbeats 3200000 in
theorem fileCoded_1 (t : Tst) (ha : t.arch = 1) (w : World) (h : TsIn w t) : Calls Tryz.prog 46 #[vT t] w (Ret w (.int .i64 (codedE t))) := by
  have A := al w (mkT t)
  have b0 := BxT.new w t
  have HI := hid (h.keep A)
  have HA := hid A
  have HAr := hid ha
  have hcl := h.code.len
  clear ha
  by_cases hn : t.code.length < 1 ∨ 16 < t.code.length
  · rw [codedE_n hn]
    obtain ⟨c0, c1, c2, c3, c4, c5, c6, c7, c8, c9, c10, c11⟩ := b0.cells
    clear h A
    rcases hn with hn | hn
    all_goals
      go_enter Tryz.func46, Tryz.ntmps46
      go_wp2_with fail
      go_ret
      exact ⟨rfl, HA.out⟩
  · have h1 : 1 ≤ t.code.length := by omega
    have h16 : t.code.length ≤ 16 := by omega
    have HNN := hid hn
    clear hn h A
    go_enter Tryz.func46, Tryz.ntmps46
    go_upto_region 1 with (fail)
    generalize w.alloc (mkT t) = W1 at *
    obtain ⟨c0, c1, c2, c3, c4, c5, c6, c7, c8, c9, c10, c11⟩ := b0.cells
    go_wp2_with fail
    clear c0 c1 c2 c3 c4 c5 c6 c7 c8 c9 c10 c11
    go_loopw [25] (fun i wr => ∃ k : Nat, k ≤ t.code.length ∧ i = .int .i64 k ∧ Below W1.heap.size W1 wr ∧ Hid (∀ (j : Nat) (x : Cd), j < k → t.code[j]? = some x → x.l.length ≤ 256)) (fun i _ => t.code.length - (intOf i).toNat)
    case atStart => exact ⟨0, by omega, rfl, Below.refl _ _, fun j x hj => absurd hj (Nat.not_lt_zero j)⟩
    case round =>
      obtain ⟨k, hk, rfl, E, HK⟩ := hrel
      by_cases hlt : k < t.code.length
      · obtain ⟨x, hx⟩ : ∃ x, t.code[k]? = some x := ⟨_, List.getElem?_eq_getElem hlt⟩
        have p0 := (HI.out.code.below E).cd hx
        have ix := HI.out.code.cdx k hlt t.cc
        have hxl := (HI.out.rows x (List.mem_of_getElem? hx)).is.len
        have HX := hid hx
        clear hx
        by_cases hl : 256 < x.l.length
        · have HZ := hid (codedE_long HNN.out HX.out hl)
          go_wp2_with fail
          go_ret
          rw [HZ.out]
          exact ⟨rfl, HA.out.trans (E.mono HA.out.size)⟩
        · have hl' : x.l.length ≤ 256 := by omega
          have HK2 : ∀ (j : Nat) (y : Cd), j < k + 1 → t.code[j]? = some y → y.l.length ≤ 256 := fun j y hj hy => by
            rcases Nat.lt_succ_iff_lt_or_eq.1 hj with h | h
            · exact HK.out j y h hy
            · subst h; rw [HX.out] at hy; cases hy; exact hl'
          have HK2 := hid HK2
          clear HK hl
          go_wp2_with fail
          go_roundw
          case rel => exact ⟨k + 1, by omega, by go_num, E, HK2⟩
          case measure => simp [intOf]; omega
      · obtain rfl : k = t.code.length := by omega
        have HR := hid (codedE_rows HNN.out (fun k x hx => HK.out k x (List.getElem?_eq_some_iff.1 hx).1 hx))
        have HL := hid (fun (k : Nat) (x : Cd) (hx : t.code[k]? = some x) => HK.out k x (List.getElem?_eq_some_iff.1 hx).1 hx)
        obtain ⟨c0, c1, c2, c3, c4, c5, c6, c7, c8, c9, c10, c11⟩ := (b0.below E).cells
        clear HK hk hlt
        go_wp2_with fail
        clear c0 c1 c2 c3 c4 c5 c6 c7 c8 c9 c10 c11
        go_loopw [36] (fun i wr2 => ∃ k : Nat, k ≤ t.code.length ∧ i = .int .i64 k ∧ Below W1.heap.size W1 wr2 ∧ Hid (rowsE 1 (t.code.drop k) = codedE t)) (fun i _ => t.code.length - (intOf i).toNat)
        case atStart => exact ⟨0, by omega, rfl, E, by rw [List.drop_zero]; exact (HR.out.trans (by rw [HAr.out])).symm⟩
        case round =>
          clear E
          obtain ⟨k, hk, rfl, E, HD⟩ := hrel
          by_cases hlt : k < t.code.length
          · obtain ⟨x, hx⟩ : ∃ x, t.code[k]? = some x := ⟨_, List.getElem?_eq_getElem hlt⟩
            have p0 := (HI.out.code.below E).cd hx
            have ix := HI.out.code.cdx k hlt t.cc
            have hxI := HI.out.rows x (List.mem_of_getElem? hx)
            have hxl := hxI.is.len
            have HXI := hid hxI
            have hl6 := HL.out k x hx
            have HD := hid (show (if rowE 1 x.l = 0 then rowsE 1 (t.code.drop (k + 1)) else rowE 1 x.l) = codedE t by rw [← rowsE_drop hx]; exact HD.out)
            clear hx hxI
            go_wp2_with fail
            clear p0 ix
            go_loopw [42] (fun i wr3 => ∃ j : Nat, j ≤ x.l.length ∧ i = .int .i64 j ∧ Below W1.heap.size W1 wr3 ∧ Hid (∀ (m : Nat) (i : Ins), m < j → x.l[m]? = some i → insA 1 i = true)) (fun i _ => x.l.length - (intOf i).toNat)
            case atStart => exact ⟨0, by omega, rfl, E, fun j x hj => absurd hj (Nat.not_lt_zero j)⟩
            case round =>
              clear E
              obtain ⟨j, hj, rfl, E, HJ⟩ := hrel
              by_cases hjt : j < x.l.length
              · obtain ⟨i, hi⟩ : ∃ i, x.l[j]? = some i := ⟨_, List.getElem?_eq_getElem hjt⟩
                obtain ⟨p0, p1, p2, p3, p4, p5, p6, p7⟩ := (HXI.out.is.below E).cells hi
                have ix := (HXI.out.is.below E).idx j hjt x.c
                have hb := HXI.out.locs i (List.mem_of_getElem? hi)
                have CK := hid (fun w => xCheck i hb.1 w)
                have HIJ := hid hi
                clear hi hb
                obtain ⟨e, he⟩ : ∃ e, errX i = e := ⟨_, rfl⟩
                rw [he] at CK
                have HE := hid he
                clear he
                go_upto_region 15 with (fail)
                have A3 := al wr (mkI i)
                have b3 := BxI.new wr i
                generalize wr.alloc (mkI i) = W3 at *
                have E := E.trans (A3.mono E.size)
                clear p0 p1 p2 p3 p4 p5 p6 p7 ix A3
                obtain ⟨q0, q1, q2, q3, q4, q5, q6, q7⟩ := b3.cells
                have c0 := (b0.below E).cells.1
                rw [HAr.out] at c0
                go_wp2_with fail
                refine (CK.out _).mono ?_
                rintro ee w5 ⟨rfl, E5⟩
                have E := E.trans (E5.mono E.size)
                clear q0 q1 q2 q3 q4 q5 q6 q7 c0 E5 CK
                have c0 := (b0.below E).cells.1
                rw [HAr.out] at c0
                by_cases hck : checkX i = true
                · have e0 : e = 0 := by rw [← HE.out]; unfold errX; rw [hck]; rfl
                  subst e0
                  have HJ2 : ∀ (m : Nat) (y : Ins), m < j + 1 → x.l[m]? = some y → insA 1 y = true := fun m y hm hy => by
                    rcases Nat.lt_succ_iff_lt_or_eq.1 hm with h | h
                    · exact HJ.out m y h hy
                    · subst h; rw [HIJ.out] at hy; cases hy; exact hck
                  have HJ2 := hid HJ2
                  clear hck HJ HIJ HE
                  go_wp2_with fail
                  go_roundw
                  case rel => exact ⟨j + 1, by omega, by go_num, E, HJ2⟩
                  case measure => simp [intOf]; omega
                · have e0 : e = 91 := by rw [← HE.out]; unfold errX; rw [if_neg hck]
                  subst e0
                  have HZ := hid (show codedE t = 91 by rw [← HD.out, rowE_bad HIJ.out (by show checkX i = false; simpa using hck), if_neg (by omega)])
                  clear hck HJ HIJ HE
                  go_wp2_with fail
                  go_ret
                  rw [HZ.out]
                  exact ⟨rfl, HA.out.trans (E.mono HA.out.size)⟩
              · obtain rfl : j = x.l.length := by omega
                have c0 := (b0.below E).cells.1
                rw [HAr.out] at c0
                have HRA := hid (rowE_all (fun m i hi => HJ.out m i (List.getElem?_eq_some_iff.1 hi).1 hi))
                have HD := hid (show rowsE 1 (t.code.drop (k + 1)) = codedE t by rw [← HD.out, if_pos (by rw [HRA.out]; rfl)])
                clear HJ
                go_wp2_with fail
                go_roundw
                case rel => exact ⟨k + 1, by omega, by go_num, E, HD⟩
                case measure => simp [intOf]; omega
          · obtain rfl : k = t.code.length := by omega
            have HZ := hid (show codedE t = 0 by rw [← HD.out]; exact rowsE_end)
            go_wp2_with fail
            go_ret
            rw [HZ.out]
            exact ⟨rfl, HA.out.trans (E.mono HA.out.size)⟩
set_option maxRecDepth 100000 in
set_option maxHeartbeats 3200000 in
theorem fileCoded_2 (t : Tst) (ha : t.arch = 2) (w : World) (h : TsIn w t) : Calls Tryz.prog 46 #[vT t] w (Ret w (.int .i64 (codedE t))) := by
  have A := al w (mkT t)
  have b0 := BxT.new w t
  have HI := hid (h.keep A)
  have HA := hid A
  have HAr := hid ha
  have hcl := h.code.len
  clear ha
  by_cases hn : t.code.length < 1 ∨ 16 < t.code.length
  · rw [codedE_n hn]
    obtain ⟨c0, c1, c2, c3, c4, c5, c6, c7, c8, c9, c10, c11⟩ := b0.cells
    clear h A
    rcases hn with hn | hn
    all_goals
      go_enter Tryz.func46, Tryz.ntmps46
      go_wp2_with fail
      go_ret
      exact ⟨rfl, HA.out⟩
  · have h1 : 1 ≤ t.code.length := by omega
    have h16 : t.code.length ≤ 16 := by omega
    have HNN := hid hn
    clear hn h A
    go_enter Tryz.func46, Tryz.ntmps46
    go_upto_region 1 with (fail)
    generalize w.alloc (mkT t) = W1 at *
    obtain ⟨c0, c1, c2, c3, c4, c5, c6, c7, c8, c9, c10, c11⟩ := b0.cells
    go_wp2_with fail
    clear c0 c1 c2 c3 c4 c5 c6 c7 c8 c9 c10 c11
    go_loopw [25] (fun i wr => ∃ k : Nat, k ≤ t.code.length ∧ i = .int .i64 k ∧ Below W1.heap.size W1 wr ∧ Hid (∀ (j : Nat) (x : Cd), j < k → t.code[j]? = some x → x.l.length ≤ 256)) (fun i _ => t.code.length - (intOf i).toNat)
    case atStart => exact ⟨0, by omega, rfl, Below.refl _ _, fun j x hj => absurd hj (Nat.not_lt_zero j)⟩
    case round =>
      obtain ⟨k, hk, rfl, E, HK⟩ := hrel
      by_cases hlt : k < t.code.length
      · obtain ⟨x, hx⟩ : ∃ x, t.code[k]? = some x := ⟨_, List.getElem?_eq_getElem hlt⟩
        have p0 := (HI.out.code.below E).cd hx
        have ix := HI.out.code.cdx k hlt t.cc
        have hxl := (HI.out.rows x (List.mem_of_getElem? hx)).is.len
        have HX := hid hx
        clear hx
        by_cases hl : 256 < x.l.length
        · have HZ := hid (codedE_long HNN.out HX.out hl)
          go_wp2_with fail
          go_ret
          rw [HZ.out]
          exact ⟨rfl, HA.out.trans (E.mono HA.out.size)⟩
        · have hl' : x.l.length ≤ 256 := by omega
          have HK2 : ∀ (j : Nat) (y : Cd), j < k + 1 → t.code[j]? = some y → y.l.length ≤ 256 := fun j y hj hy => by
            rcases Nat.lt_succ_iff_lt_or_eq.1 hj with h | h
            · exact HK.out j y h hy
            · subst h; rw [HX.out] at hy; cases hy; exact hl'
          have HK2 := hid HK2
          clear HK hl
          go_wp2_with fail
          go_roundw
          case rel => exact ⟨k + 1, by omega, by go_num, E, HK2⟩
          case measure => simp [intOf]; omega
      · obtain rfl : k = t.code.length := by omega
        have HR := hid (codedE_rows HNN.out (fun k x hx => HK.out k x (List.getElem?_eq_some_iff.1 hx).1 hx))
        have HL := hid (fun (k : Nat) (x : Cd) (hx : t.code[k]? = some x) => HK.out k x (List.getElem?_eq_some_iff.1 hx).1 hx)
        obtain ⟨c0, c1, c2, c3, c4, c5, c6, c7, c8, c9, c10, c11⟩ := (b0.below E).cells
        clear HK hk hlt
        go_wp2_with fail
        clear c0 c1 c2 c3 c4 c5 c6 c7 c8 c9 c10 c11
        go_loopw [36] (fun i wr2 => ∃ k : Nat, k ≤ t.code.length ∧ i = .int .i64 k ∧ Below W1.heap.size W1 wr2 ∧ Hid (rowsE 2 (t.code.drop k) = codedE t)) (fun i _ => t.code.length - (intOf i).toNat)
        case atStart => exact ⟨0, by omega, rfl, E, by rw [List.drop_zero]; exact (HR.out.trans (by rw [HAr.out])).symm⟩
        case round =>
          clear E
          obtain ⟨k, hk, rfl, E, HD⟩ := hrel
          by_cases hlt : k < t.code.length
          · obtain ⟨x, hx⟩ : ∃ x, t.code[k]? = some x := ⟨_, List.getElem?_eq_getElem hlt⟩
            have p0 := (HI.out.code.below E).cd hx
            have ix := HI.out.code.cdx k hlt t.cc
            have hxI := HI.out.rows x (List.mem_of_getElem? hx)
            have hxl := hxI.is.len
            have HXI := hid hxI
            have hl6 := HL.out k x hx
            have HD := hid (show (if rowE 2 x.l = 0 then rowsE 2 (t.code.drop (k + 1)) else rowE 2 x.l) = codedE t by rw [← rowsE_drop hx]; exact HD.out)
            clear hx hxI
            go_wp2_with fail
            clear p0 ix
            go_loopw [42] (fun i wr3 => ∃ j : Nat, j ≤ x.l.length ∧ i = .int .i64 j ∧ Below W1.heap.size W1 wr3 ∧ Hid (∀ (m : Nat) (i : Ins), m < j → x.l[m]? = some i → insA 2 i = true)) (fun i _ => x.l.length - (intOf i).toNat)
            case atStart => exact ⟨0, by omega, rfl, E, fun j x hj => absurd hj (Nat.not_lt_zero j)⟩
            case round =>
              clear E
              obtain ⟨j, hj, rfl, E, HJ⟩ := hrel
              by_cases hjt : j < x.l.length
              · obtain ⟨i, hi⟩ : ∃ i, x.l[j]? = some i := ⟨_, List.getElem?_eq_getElem hjt⟩
                obtain ⟨p0, p1, p2, p3, p4, p5, p6, p7⟩ := (HXI.out.is.below E).cells hi
                have ix := (HXI.out.is.below E).idx j hjt x.c
                have hb := HXI.out.locs i (List.mem_of_getElem? hi)
                have CK := hid (fun w => progCheck i hb.2 w)
                have HIJ := hid hi
                clear hi hb
                obtain ⟨e, he⟩ : ∃ e, errI i = e := ⟨_, rfl⟩
                rw [he] at CK
                have HE := hid he
                clear he
                go_upto_region 15 with (fail)
                have A3 := al wr (mkI i)
                have b3 := BxI.new wr i
                generalize wr.alloc (mkI i) = W3 at *
                have E := E.trans (A3.mono E.size)
                clear p0 p1 p2 p3 p4 p5 p6 p7 ix A3
                obtain ⟨q0, q1, q2, q3, q4, q5, q6, q7⟩ := b3.cells
                have c0 := (b0.below E).cells.1
                rw [HAr.out] at c0
                go_wp2_with fail
                refine (CK.out _).mono ?_
                rintro ee w5 ⟨rfl, E5⟩
                have E := E.trans (E5.mono E.size)
                clear q0 q1 q2 q3 q4 q5 q6 q7 c0 E5 CK
                have c0 := (b0.below E).cells.1
                rw [HAr.out] at c0
                by_cases hck : checkI i = true
                · have e0 : e = 0 := by rw [← HE.out]; unfold errI; rw [hck]; rfl
                  subst e0
                  have HJ2 : ∀ (m : Nat) (y : Ins), m < j + 1 → x.l[m]? = some y → insA 2 y = true := fun m y hm hy => by
                    rcases Nat.lt_succ_iff_lt_or_eq.1 hm with h | h
                    · exact HJ.out m y h hy
                    · subst h; rw [HIJ.out] at hy; cases hy; exact hck
                  have HJ2 := hid HJ2
                  clear hck HJ HIJ HE
                  go_wp2_with fail
                  go_roundw
                  case rel => exact ⟨j + 1, by omega, by go_num, E, HJ2⟩
                  case measure => simp [intOf]; omega
                · have e0 : e = 91 := by rw [← HE.out]; unfold errI; rw [if_neg hck]
                  subst e0
                  have HZ := hid (show codedE t = 91 by rw [← HD.out, rowE_bad HIJ.out (by show checkI i = false; simpa using hck), if_neg (by omega)])
                  clear hck HJ HIJ HE
                  go_wp2_with fail
                  go_ret
                  rw [HZ.out]
                  exact ⟨rfl, HA.out.trans (E.mono HA.out.size)⟩
              · obtain rfl : j = x.l.length := by omega
                have c0 := (b0.below E).cells.1
                rw [HAr.out] at c0
                have HRA := hid (rowE_all (fun m i hi => HJ.out m i (List.getElem?_eq_some_iff.1 hi).1 hi))
                have hLab : ∀ i ∈ x.l, i.label.length ≤ 9223372036854775807 := fun i hi => (HXI.out.locs i hi).2
                have LK := progLinks x.l x.a x.c HXI.out.cap hLab wr (HXI.out.is.below E)
                obtain ⟨e, he⟩ : ∃ e, (linksV x.l).2.1 = e := ⟨_, rfl⟩
                have HD := hid (show (if e = 0 then rowsE 2 (t.code.drop (k + 1)) else e) = codedE t by
                  rw [← HD.out, show rowE 2 x.l = e from by rw [HRA.out, if_pos rfl, he]])
                have HLE := hid he
                have LK := hid LK
                clear HJ he hLab HRA
                go_wp2_with fail
                refine LK.out.mono ?_
                rintro ee w5 ⟨a5, c5, rfl, o5, E5⟩
                rw [HLE.out]
                have E := E.trans (E5.mono E.size)
                clear o5 E5 LK c0
                by_cases h0 : e = 0
                · subst h0
                  have HD := hid (show rowsE 2 (t.code.drop (k + 1)) = codedE t from HD.out)
                  go_wp2_with fail
                  go_roundw
                  case rel => exact ⟨k + 1, by omega, by go_num, E, HD⟩
                  case measure => simp [intOf]; omega
                · have z0 : (e != 0) = true := by simpa using h0
                  have HZ := hid (show codedE t = e by rw [← HD.out, if_neg h0])
                  clear h0
                  go_wp2_with fail
                  go_ret
                  rw [HZ.out]
                  exact ⟨rfl, HA.out.trans (E.mono HA.out.size)⟩
          · obtain rfl : k = t.code.length := by omega
            have HZ := hid (show codedE t = 0 by rw [← HD.out]; exact rowsE_end)
            go_wp2_with fail
            go_ret
            rw [HZ.out]
            exact ⟨rfl, HA.out.trans (E.mono HA.out.size)⟩
end Go.Proofs.YthaibjefnclkjaaGreatDoor
namespace Go.Proofs.YthaibjefnclkjaaGreatDoor
open Go.RowKit Go.Maps Go.WideMaps
set_option linter.unusedVariables false

theorem lawT : Keyed Tryz.prog 32 := Keyed.of_law (deep_law_gate (by kernel_rfl) (Nat.le_of_ble_eq_true (by kernel_rfl)) (Nat.lt_of_succ_le (Nat.le_of_ble_eq_true (by kernel_rfl))) (by kernel_rfl) (by kernel_rfl))
def kT (x : Th) : Lit := .string (keyBytes [.int .i64 x.thread, .int .i64 x.reg, .string x.loc])
theorem wf64 {n : Int} (h : I64 n) : (Lit.int .i64 n).wf = true := WalkArith.wf_i64 (by unfold I64 at h; omega)
theorem keyT' (x : Th) (h1 : I64 x.thread) (h2 : I64 x.reg) (h3 : x.loc.length ≤ 9223372036854775807) : keyOf Tryz.prog 32 (vTh x) = some (kT x) := by
  have hk : Tryz.prog.keyType 32 = true := by kernel_rfl
  have hc : Tryz.prog.cellsOf 32 = 3 := by kernel_rfl
  have hi : Tryz.prog.cellsOf 3 = 1 := by kernel_rfl
  have hs : Tryz.prog.cellsOf 9 = 1 := by kernel_rfl
  have h1s : 1 ≤ Tryz.prog.types.size := Nat.le_of_ble_eq_true (by kernel_rfl)
  obtain ⟨m, hm⟩ : ∃ m, Tryz.prog.types.size = m + 1 := ⟨_, (Nat.sub_add_cancel h1s).symm⟩
  unfold keyOf
  rw [Tryz.underlying32]
  simp only [hk, Value.formed, Tryz.underlying32, hc]
  rw [hm]
  simp [Program.keyLits, Tryz.underlying32, hc, hi, hs, Tryz.underlying3, Tryz.underlying9, Value.cells, wf64 h1, wf64 h2, kT, tx_size]
  rw [if_pos (show x.loc.length ≤ maxLen from h3), tx_data]
  rfl
theorem kT_inj {x y : Th} (h1 : I64 x.thread) (h2 : I64 x.reg) (h3 : x.loc.length ≤ 9223372036854775807) (g1 : I64 y.thread) (g2 : I64 y.reg) (g3 : y.loc.length ≤ 9223372036854775807) (h : kT x = kT y) : x = y := by
  have e := lawT.inj (keyT' x h1 h2 h3) (by rw [h]; exact keyT' y g1 g2 g3)
  simp only [vTh, Value.agg.injEq, Array.mk.injEq, List.cons.injEq, Value.int.injEq, Value.string.injEq, and_true, true_and, tx_inj] at e
  exact (th_ext x y).2 ⟨e.1, e.2.1, e.2.2⟩
/-- what the map has told of lines so far: a line's number from one on, nothing of others -/
def SeenD (t : Tst) (k : Nat) (D : DataW Unit) : Prop :=
  ∀ x : Th, I64 x.thread → I64 x.reg → x.loc.length ≤ 9223372036854775807 →
    (∀ (i : Nat) (y : Ini), i < k → t.init[i]? = some y → keyI y = x → ∃ c : Int, 0 < c ∧ c < 2000 ∧ D.atKey (kT x) (.lit (.int .i64 0)) = .lit (.int .i64 c)) ∧
    ((∀ (i : Nat) (y : Ini), i < k → t.init[i]? = some y → keyI y ≠ x) → D.atKey (kT x) (.lit (.int .i64 0)) = .lit (.int .i64 0))
theorem isKeyT (x : Th) : WideAt.IsKeyLit (kT x) := by unfold kT; trivial
theorem SeenD.nil {t : Tst} : SeenD t 0 (.map []) := fun x _ _ _ => ⟨fun i y hi => absurd hi (Nat.not_lt_zero i), fun _ => rfl⟩
theorem SeenD.put {t : Tst} {k : Nat} {D : DataW Unit} {x : Ini} (h : SeenD t k D) (hm : IsMap D) (hx : t.init[k]? = some x) (hk : k < 1024) (w1 : I64 x.thread) (w2 : I64 x.reg) (w3 : x.loc.length ≤ 9223372036854775807) :
    SeenD t (k + 1) (D.put (kT (keyI x)) (.lit (.int .i64 ((k : Int) + 1)))) := by
  intro z z1 z2 z3
  obtain ⟨h1, h2⟩ := h z z1 z2 z3
  by_cases he : keyI x = z
  · subst he
    refine ⟨fun i y hi hy e => ⟨(k : Int) + 1, by omega, by omega, by rw [atKey_put_same hm (isKeyT _)]⟩, fun hn => absurd rfl (hn k x (by omega) hx)⟩
  · have hne : kT z ≠ kT (keyI x) := fun e => he (kT_inj w1 w2 w3 z1 z2 z3 e.symm)
    refine ⟨fun i y hi hy e => ?_, fun hn => ?_⟩
    · rw [atKey_put_other hne]
      rcases Nat.lt_succ_iff_lt_or_eq.1 hi with h3 | h3
      · exact h1 i y h3 hy e
      · subst h3; rw [hx] at hy; cases hy; exact absurd e he
    · rw [atKey_put_other hne]
      exact h2 fun i y hi hy => hn i y (by omega) hy
/-- the map of things, of the call's own -/
def Seen (w : World) (b n : Nat) (D : DataW Unit) : Prop := w.ownsMap Tryz.prog 32 (plainElem (H := Unit) Tryz.prog 3) b n D
theorem Seen.below {w w' : World} {b n : Nat} {D : DataW Unit} (h : Seen w b n D) (hb : Below w.heap.size w w') : Seen w' b n D :=
  World.ownsMap.kept h ⟨hb.os, hb.tape, hb.output, hb.size, fun k hk _ => hb.block k hk⟩ (row := none) (by simp)
theorem zeroN (w : World) : (zeroValue 3).run Tryz.prog w = .ok (.int .i64 0) w := by kernel_rfl
end Go.Proofs.YthaibjefnclkjaaGreatDoor

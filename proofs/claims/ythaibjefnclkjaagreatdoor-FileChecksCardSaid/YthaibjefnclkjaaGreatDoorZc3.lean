/- The walks of SameCode and SameNode (document). Conditions: what is compared lies in memory as read. Nodes without their places in memory, compared with stacks. No program, no condition. The walk of SameNode (document). Conditions: the nodes lie in memory as read; few of them. Equality of lines of an initial state. Lemmas of this claim's own; no condition. -/
import Derived.Test.YthaibjefnclkjaaGreatDoorY8
import Derived.Test.YthaibjefnclkjaaGreatDoorZ27
import Derived.Test.YthaibjefnclkjaaGreatDoorZ25
import Derived.Test.YthaibjefnclkjaaGreatDoorZc2
import Derived.Test.YthaibjefnclkjaaGreatDoorZ24
import Derived.Test.YthaibjefnclkjaaGreatDoorY7
import Derived.Test.YthaibjefnclkjaaGreatDoorZ23
import Derived.Test.YthaibjefnclkjaaGreatDoorY6
import Derived.Test.YthaibjefnclkjaaGreatDoorZ22
import Derived.Test.YthaibjefnclkjaaGreatDoorZ20
import Derived.Test.YthaibjefnclkjaaGreatDoorY3
import Derived.Test.YthaibjefnclkjaaGreatDoorZ14
import Derived.Test.YthaibjefnclkjaaGreatDoorY1
import Derived.Test.YthaibjefnclkjaaGreatDoorZ5
import Derived.Test.YthaibjefnclkjaaGreatDoorZ4
import Derived.Test.YthaibjefnclkjaaGreatDoorZc1
import Derived.Test.YthaibjefnclkjaaGreatDoorZ3
import Derived.Test.YthaibjefnclkjaaGreatDoorZ2
import Derived.Test.YthaibjefnclkjaaGreatDoorZ1
import Derived.Test.YthaibjefnclkjaaGreatDoorRows
import Derived.Lib.SlTrimSet
import Derived.Lib.ItoaNum
import Derived.WalkKit
import Derived.WalkSpells
import Derived.WalkLawsBesides
import Derived.Deep.QuietTactic
import Derived.BigQuiet
import Derived.ProofKit
import Derived.OpenShut
import Derived.ShutString
import Derived.ChangeOld
import Derived.Carry
import Derived.SizedLaws
import Derived.Laws.StructEq
import Derived.Shelf.SlicesQ.Load
import Derived.Lib.SplitLaws
import Derived.Lib.Strings
import Derived.Lib.ItoaMem
import Derived.Shelf.Strings.SlTrimAscii
import Derived.Shelf.Small.Strs
import Derived.Shelf.Strconv.Itoa3
import Derived.Shelf.LaysM
import Derived.Shelf.Strings.Prefix
import Derived.Test.YthaibjefnclkjaaGreatDoorProg
import Derived.Lib.ItoaLen
import Derived.WalkSmall
import Derived.Laws.Concat
import Derived.BigRegion
import Derived.StillTailTactics
import Derived.Deep.RegionWith
import Derived.Lib.AtoiAll
import Derived.Deep.DeepCutAuto
import Derived.Maps.OwnSet
import Derived.Maps.Views
import Derived.Lib.Bytealg
import Derived.Test.YthaibjefnclkjaaGreatDoorY2
import Derived.Test.YthaibjefnclkjaaGreatDoorZ12
import Derived.Test.YthaibjefnclkjaaGreatDoorZ7
import Derived.Test.YthaibjefnclkjaaGreatDoorZ6
import Derived.Laws.IdiomCopy
import Derived.Shelf.Sort.Plain
import Derived.Shelf.Slices.In.SortNone
import Derived.Shelf.Slices.CompactS
import Derived.Shelf.Slices.Clone
import Derived.Shelf.SlSortCmp.NoneTotal
import Derived.Shelf.SlicesE.Clone
import Derived.Shelf.Strings.Repeat
import Derived.Test.YthaibjefnclkjaaGreatDoorZ8
import Derived.Test.YthaibjefnclkjaaGreatDoorZ11
import Derived.Test.YthaibjefnclkjaaGreatDoorZ9
import Derived.Test.YthaibjefnclkjaaGreatDoorZ10
import Derived.Lib.QuietBelow
import Derived.Lib.Builder
import Derived.Lib.AppendStr
import Derived.Lib.UnsafeStr
import Derived.Lib.OthersKept
import Derived.Laws.Externs
import Derived.RegionTactic
import Derived.Test.YthaibjefnclkjaaGreatDoorZ13
import Derived.Deep.RegionHeld3
import Derived.Test.YthaibjefnclkjaaGreatDoorY4
import Derived.Test.YthaibjefnclkjaaGreatDoorZ19
import Derived.Test.YthaibjefnclkjaaGreatDoorZ18
import Derived.Test.YthaibjefnclkjaaGreatDoorZ17
import Derived.Test.YthaibjefnclkjaaGreatDoorZ15
import Derived.Test.YthaibjefnclkjaaGreatDoorZ16
import Derived.Test.YthaibjefnclkjaaGreatDoorY5
import Derived.Maps.OwnOps
import Derived.StringKeys
import Derived.Test.YthaibjefnclkjaaGreatDoorZ21
import Derived.Lib.SlicesCompact
import Derived.Sort.OwnSorted
import Derived.DeepKeys5
import Derived.Test.YthaibjefnclkjaaGreatDoorZ26
import Derived.Deep.LoopGhost
namespace Go.Proofs.YthaibjefnclkjaaGreatDoor
open Go.RowKit Go.Sort
set_option linter.unusedVariables false

attribute [local go_sem high] eqI neqI
/-- threads' codes, their places forgotten -/
def codL (l : List Cd) : List (List Ins) := l.map (·.l)
theorem codL_at {l : List Cd} {k : Nat} {x : Cd} (h : l[k]? = some x) : (codL l)[k]? = some x.l := by unfold codL; rw [List.getElem?_map, h]; rfl
theorem codL_length (l : List Cd) : (codL l).length = l.length := by unfold codL; simp
theorem list_eq_of {α : Type} {a b : List α} (hl : a.length = b.length) (h : ∀ k, k < a.length → a[k]? = b[k]?) : a = b := by
  refine List.ext_getElem? fun k => ?_
  by_cases hk : k < a.length
  · exact h k hk
  · rw [List.getElem?_eq_none (by omega), List.getElem?_eq_none (by omega)]
set_option maxRecDepth 100000 in
set_option maxHeartbeats 3200000 in
theorem r11SameCode (l m : List Cd) (a b : Option Addr) (c d : Nat) (w : World) (h1 : Els cCd w a l) (h2 : Els cCd w b m) (g1 : ∀ x ∈ l, CdIn w x) (g2 : ∀ x ∈ m, CdIn w x) :
    Calls Tryz.prog 38 #[.slice a l.length c, .slice b m.length d] w (Ret w (.bool (decide (codL l = codL m)))) := by
  by_cases hlm : l.length = m.length
  · obtain ⟨n, hn⟩ : ∃ n, l.length = n := ⟨_, rfl⟩
    have hnn : n ≤ 1000000000000000000 := by rw [← hn]; exact h1.len
    have HN := hid hn
    have HM := hid (hlm.symm.trans hn)
    have H1 := hid h1; have H2 := hid h2
    have G1 := hid g1; have G2 := hid g2
    rw [hn]
    rw [HM.out]
    clear hn hlm h1 h2 g1 g2
    go_enter Tryz.func38, Tryz.ntmps38
    go_wp2_with fail
    go_loopw [5] (fun i wr => ∃ j : Nat, j ≤ n ∧ i = .int .i64 j ∧ Below w.heap.size w wr ∧ Hid (∀ k : Nat, k < j → (codL l)[k]? = (codL m)[k]?)) (fun i _ => n - (intOf i).toNat)
    case atStart => exact ⟨0, by omega, rfl, Below.refl _ _, fun k hk => absurd hk (Nat.not_lt_zero k)⟩
    case round =>
      obtain ⟨j, hj, rfl, E, HJ⟩ := hrel
      by_cases hjt : j < n
      · obtain ⟨x, hx⟩ : ∃ x, l[j]? = some x := ⟨_, List.getElem?_eq_getElem (by rw [HN.out]; exact hjt)⟩
        obtain ⟨y, hy⟩ : ∃ y, m[j]? = some y := ⟨_, List.getElem?_eq_getElem (by rw [HM.out]; exact hjt)⟩
        have p0 := (H1.out.below E).cd hx
        have q0 := (H2.out.below E).cd hy
        have ix := H1.out.cdx j (by rw [HN.out]; exact hjt) c
        have iy := H2.out.cdx j (by rw [HM.out]; exact hjt) d
        rw [HN.out] at ix
        rw [HM.out] at iy
        have HX := hid (And.intro hx hy)
        have IX := hid (G1.out x (List.mem_of_getElem? hx)).is
        have IY := hid (G2.out y (List.mem_of_getElem? hy)).is
        clear hx hy
        obtain ⟨nx, hnx⟩ : ∃ nx, x.l.length = nx := ⟨_, rfl⟩
        obtain ⟨ny, hny⟩ : ∃ ny, y.l.length = ny := ⟨_, rfl⟩
        have hnx1 : nx ≤ 1000000000000000000 := by rw [← hnx]; exact IX.out.len
        rw [hnx] at p0
        rw [hny] at q0
        have HNX := hid hnx; have HNY := hid hny
        clear hnx hny
        by_cases hxy : nx = ny
        · have z : ((nx : Int) != (ny : Int)) = false := by simp [hxy]
          subst hxy
          go_wp2_with fail
          have p0 := cell_regrown p0; have q0 := cell_regrown q0
          refine wp_region_quiet_below (by kernel_rfl) (by kernel_rfl) ?_
          repeat (go_big_quiet_step (fail))
          refine wpQuiet_nil ?_
          intro _ hw'
          obtain ⟨⟨dq, osq⟩, hw''⟩ := hw'
          subst hw''
          have EQ := below_regrown wr dq osq
          generalize grow (redrawn wr dq) osq = W5 at *
          have E := E.trans (EQ.mono E.size)
          clear p0 q0 EQ
          go_wp2_with fail
          go_loopw [6] (fun i wr => ∃ k : Nat, k ≤ nx ∧ i = .int .i64 k ∧ Below w.heap.size w wr ∧ Hid (∀ q : Nat, q < k → x.l[q]? = y.l[q]?)) (fun i _ => nx - (intOf i).toNat)
          case atStart => exact ⟨0, by omega, rfl, E, fun k hk => absurd hk (Nat.not_lt_zero k)⟩
          case round =>
            clear E
            obtain ⟨k, hk, rfl, E, HK⟩ := hrel
            have p0 := (H1.out.below E).cd HX.out.1
            have q0 := (H2.out.below E).cd HX.out.2
            rw [HNX.out] at p0
            rw [HNY.out] at q0
            by_cases hkt : k < nx
            · obtain ⟨i, hi⟩ : ∃ i, x.l[k]? = some i := ⟨_, List.getElem?_eq_getElem (by rw [HNX.out]; exact hkt)⟩
              obtain ⟨i', hi'⟩ : ∃ i', y.l[k]? = some i' := ⟨_, List.getElem?_eq_getElem (by rw [HNY.out]; exact hkt)⟩
              obtain ⟨r0, r1, r2, r3, r4, r5, r6, r7⟩ := (IX.out.below E).cells hi
              obtain ⟨s0, s1, s2, s3, s4, s5, s6, s7⟩ := (IY.out.below E).cells hi'
              have jx := IX.out.idx k (by rw [HNX.out]; exact hkt) x.c
              have jy := IY.out.idx k (by rw [HNY.out]; exact hkt) y.c
              rw [HNX.out] at jx
              rw [HNY.out] at jy
              have HI := hid (And.intro hi hi')
              clear hi hi'
              have DD : decide (i = i') = true ∨ decide (i = i') = false := by cases decide (i = i') <;> simp
              rcases DD with hd | hd
              · have hd2 : (!decide (i = i')) = false := by rw [hd]; rfl
                have HK2 := hid (show ∀ q : Nat, q < k + 1 → x.l[q]? = y.l[q]? from fun q hq => by
                  rcases Nat.lt_succ_iff_lt_or_eq.1 hq with h | h
                  · exact HK.out q h
                  · subst h; rw [HI.out.1, HI.out.2, of_decide_eq_true hd])
                go_wp2_with fail
                have p0 := cell_regrown p0; have q0 := cell_regrown q0
                have r0 := cell_regrown r0; have r1 := cell_regrown r1; have r2 := cell_regrown r2; have r3 := cell_regrown r3; have r4 := cell_regrown r4; have r5 := cell_regrown r5; have r6 := cell_regrown r6; have r7 := cell_regrown r7; have s0 := cell_regrown s0; have s1 := cell_regrown s1; have s2 := cell_regrown s2; have s3 := cell_regrown s3; have s4 := cell_regrown s4; have s5 := cell_regrown s5; have s6 := cell_regrown s6; have s7 := cell_regrown s7
                refine wp_region_quiet_below (by kernel_rfl) (by kernel_rfl) ?_
                repeat (go_big_quiet_step (fail))
                refine wpQuiet_nil ?_
                intro _ hw'
                obtain ⟨⟨dq, osq⟩, hw''⟩ := hw'
                subst hw''
                have EQ := below_regrown wr dq osq
                generalize grow (redrawn wr dq) osq = W6 at *
                have E := E.trans (EQ.mono E.size)
                clear p0 q0 r0 r1 r2 r3 r4 r5 r6 r7 s0 s1 s2 s3 s4 s5 s6 s7 EQ jx jy
                go_wp2_with fail
                go_roundw
                case rel => exact ⟨k + 1, by omega, by go_num, E, HK2⟩
                case measure => simp [intOf]; omega
              · have hd2 : (!decide (i = i')) = true := by rw [hd]; rfl
                have HZ := hid (show decide (codL l = codL m) = false by
                  rw [decide_eq_false_iff_not]
                  intro e
                  have h1 := codL_at HX.out.1; have h2 := codL_at HX.out.2
                  rw [e, h2] at h1
                  simp only [Option.some.injEq] at h1
                  have h3 := HI.out.1; have h4 := HI.out.2
                  rw [h1] at h4
                  rw [h4] at h3
                  exact of_decide_eq_false hd (Option.some.inj h3).symm)
                go_wp2_with fail
                have p0 := cell_regrown p0; have q0 := cell_regrown q0
                have r0 := cell_regrown r0; have r1 := cell_regrown r1; have r2 := cell_regrown r2; have r3 := cell_regrown r3; have r4 := cell_regrown r4; have r5 := cell_regrown r5; have r6 := cell_regrown r6; have r7 := cell_regrown r7; have s0 := cell_regrown s0; have s1 := cell_regrown s1; have s2 := cell_regrown s2; have s3 := cell_regrown s3; have s4 := cell_regrown s4; have s5 := cell_regrown s5; have s6 := cell_regrown s6; have s7 := cell_regrown s7
                refine wp_region_quiet_below (by kernel_rfl) (by kernel_rfl) ?_
                repeat (go_big_quiet_step (fail))
                refine wpQuiet_nil ?_
                intro _ hw'
                obtain ⟨⟨dq, osq⟩, hw''⟩ := hw'
                subst hw''
                have EQ := below_regrown wr dq osq
                generalize grow (redrawn wr dq) osq = W6 at *
                have E := E.trans (EQ.mono E.size)
                clear p0 q0 r0 r1 r2 r3 r4 r5 r6 r7 s0 s1 s2 s3 s4 s5 s6 s7 EQ jx jy
                go_wp2_with fail
                go_ret
                exact ⟨ret_bool HZ.out.symm, E⟩
            · have HJ2 := hid (show ∀ q : Nat, q < j + 1 → (codL l)[q]? = (codL m)[q]? from fun q hq => by
                rcases Nat.lt_succ_iff_lt_or_eq.1 hq with h | h
                · exact HJ.out q h
                · subst h
                  rw [codL_at HX.out.1, codL_at HX.out.2]
                  exact congrArg some (list_eq_of (by rw [HNX.out, HNY.out]) fun r hr => HK.out r (by rw [HNX.out] at hr; omega)))
              go_wp2_with fail
              go_roundw
              case rel => exact ⟨j + 1, by omega, by go_num, E, HJ2⟩
              case measure => simp [intOf]; omega
        · have z : ((nx : Int) != (ny : Int)) = true := by simp; omega
          have HZ := hid (show decide (codL l = codL m) = false by
            rw [decide_eq_false_iff_not]
            intro e
            have h1 := codL_at HX.out.1; have h2 := codL_at HX.out.2
            rw [e, h2] at h1
            simp only [Option.some.injEq] at h1
            exact hxy (by rw [← HNX.out, ← HNY.out, h1]))
          clear hxy
          go_wp2_with fail
          have p0 := cell_regrown p0; have q0 := cell_regrown q0
          refine wp_region_quiet_below (by kernel_rfl) (by kernel_rfl) ?_
          repeat (go_big_quiet_step (fail))
          refine wpQuiet_nil ?_
          intro _ hw'
          obtain ⟨⟨dq, osq⟩, hw''⟩ := hw'
          subst hw''
          have EQ := below_regrown wr dq osq
          generalize grow (redrawn wr dq) osq = W5 at *
          have E := E.trans (EQ.mono E.size)
          go_wp2_with fail
          go_ret
          exact ⟨ret_bool HZ.out.symm, E⟩
      · obtain rfl : j = n := by omega
        have HZ := hid (show decide (codL l = codL m) = true by
          rw [decide_eq_true_eq]
          exact list_eq_of (by rw [codL_length, codL_length, HN.out, HM.out]) fun k hk => HJ.out k (by rw [codL_length, HN.out] at hk; exact hk))
        go_wp2_with fail
        go_ret
        exact ⟨ret_bool HZ.out.symm, E⟩
  · have HZ := hid (show decide (codL l = codL m) = false by rw [decide_eq_false_iff_not]; intro e; have := congrArg List.length e; rw [codL_length, codL_length] at this; exact hlm this)
    have z : ((l.length : Int) != m.length) = true := by simp; omega
    clear hlm
    go_enter Tryz.func38, Tryz.ntmps38
    go_wp2_with fail
    go_ret
    exact ⟨ret_bool HZ.out.symm, Below.refl _ _⟩
end Go.Proofs.YthaibjefnclkjaaGreatDoor
namespace Go.Proofs.YthaibjefnclkjaaGreatDoor
set_option linter.unusedVariables false

mutual
/-- a node, its places forgotten -/
def bareN : Nd → Nd
  | .mk k t v a c l => .mk k t v none 0 (bareL l)
def bareL : List Nd → List Nd
  | [] => []
  | x :: r => bareN x :: bareL r
end
theorem bareN_eq (x : Nd) : bareN x = .mk x.kind x.th x.val none 0 (bareL x.kids) := by cases x; rw [bareN]; rfl
theorem bareL_nil : bareL [] = [] := by rw [bareL]
theorem bareL_cons {x : Nd} {r : List Nd} : bareL (x :: r) = bareN x :: bareL r := by rw [bareL]
theorem bareL_map : ∀ l : List Nd, bareL l = l.map bareN
  | [] => bareL_nil
  | x :: r => by rw [bareL_cons, bareL_map r]; rfl
theorem bareL_length (l : List Nd) : (bareL l).length = l.length := by rw [bareL_map]; simp
theorem bareL_app (l r : List Nd) : bareL (l ++ r) = bareL l ++ bareL r := by simp only [bareL_map, List.map_append]
theorem bareN_inj {x y : Nd} : bareN x = bareN y ↔ x.kind = y.kind ∧ x.th = y.th ∧ x.val = y.val ∧ bareL x.kids = bareL y.kids := by
  rw [bareN_eq, bareN_eq]; simp
theorem cntN_pos (x : Nd) : 1 ≤ cntN x := by rw [cntN_eq]; omega
theorem cntL_one (x : Nd) : cntL [x] = cntN x := by rw [cntL_cons, cntL_nil]; omega
theorem cntL_len : ∀ l : List Nd, l.length ≤ cntL l
  | [] => by simp
  | x :: r => by have := cntL_len r; have := cntN_pos x; rw [cntL_cons, List.length_cons]; omega
/-- one step of the comparison -/
theorem stack_step {X Y : List Nd} {p q : Nd} (hl : X.length = Y.length) :
    bareL (X ++ [p]) = bareL (Y ++ [q]) ↔ (p.kind = q.kind ∧ p.th = q.th ∧ p.val = q.val ∧ p.kids.length = q.kids.length) ∧ bareL (X ++ p.kids) = bareL (Y ++ q.kids) := by
  rw [bareL_app, bareL_app, bareL_app, bareL_app, bareL_cons, bareL_cons, bareL_nil]
  constructor
  · intro h
    obtain ⟨h1, h2⟩ := List.append_inj h (by rw [bareL_length, bareL_length, hl])
    simp only [List.cons.injEq, and_true] at h2
    obtain ⟨a, b, c, d⟩ := bareN_inj.1 h2
    refine ⟨⟨a, b, c, ?_⟩, by rw [h1, d]⟩
    have := congrArg List.length d
    rwa [bareL_length, bareL_length] at this
  · rintro ⟨⟨a, b, c, -⟩, h⟩
    obtain ⟨h1, h2⟩ := List.append_inj h (by rw [bareL_length, bareL_length, hl])
    rw [h1, bareN_inj.2 ⟨a, b, c, h2⟩]
theorem last_split {α : Type} {l : List α} {n : Nat} {x : α} (hl : l.length = n + 1) (h : l[n]? = some x) : l = l.take n ++ [x] := by
  obtain ⟨hlt, rfl⟩ := List.getElem?_eq_some_iff.1 h
  conv => lhs; rw [← List.take_append_drop n l]
  rw [List.drop_eq_getElem_cons hlt, List.drop_of_length_le (by omega)]
end Go.Proofs.YthaibjefnclkjaaGreatDoor
namespace Go.Proofs.YthaibjefnclkjaaGreatDoor
open Go.RowKit Go.Sort
set_option linter.unusedVariables false

attribute [local go_sem high] neqTh

abbrev OwnNd (w : World) (B : Nat) (a : Option Addr) (n c : Nat) (l : List Nd) : Prop := Own w B 35 6 a n c (flat cN l)
/-- a test's answer, of whatever says when it is yes -/
def RetB (w : World) (P : Prop) (e : Ending) (w' : World) : Prop := ∃ b : Bool, e = .returned (.bool b) ∧ (b = true ↔ P) ∧ Below w.heap.size w w'
theorem BxN.step {w w' : World} {b : Nat} {x : Nd} {sa a' : Option Addr} (h : BxN w b x) (hs : Step w w' sa a') (hne : sa = none ∨ b ≠ bk sa) : BxN w' b x := by
  refine ⟨Nat.lt_of_lt_of_le h.1 hs.grown.size, fun k hk => ?_⟩
  rw [← h.2 k hk]
  obtain ⟨v, hv⟩ : ∃ v, w.cell? ⟨b, k, none⟩ = some v := ⟨_, (h.2 k hk).trans (List.getElem?_eq_getElem (by rw [cN_len]; exact hk))⟩
  rw [hv]
  refine hs.grown.cell hv ?_
  cases sa with
  | none => simp
  | some y => rcases hne with h2 | h2
              · cases h2
              · simpa [bk] using h2
theorem Own.litNd (w : World) (x : Nd) : OwnNd (w.alloc (mkN x)) w.heap.size (Option.some ⟨w.heap.size, 0, none⟩) 1 1 [x] := by
  have h := World.ownsRow_lit w (e := 35) #[.int .i64 x.kind, .int .i64 x.th.thread, .int .i64 x.th.reg, .string (tx x.th.loc), .int .i64 x.val, .slice x.a x.kids.length x.c] 1 (Nat.le_refl w.heap.size) (size := 6) (by unfold maxLen; omega) (by simp)
  exact h
set_option maxRecDepth 100000 in
set_option maxHeartbeats 6400000 in
theorem r11SameNode (x y : Nd) (w : World) (h1 : NdIn w x) (h2 : NdIn w y) (c1 : cntN x ≤ 1024) (c2 : cntN y ≤ 1024) :
    Calls Tryz.prog 39 #[vN x, vN y] w (RetB w (bareN x = bareN y)) := by
  have A1 := al w (mkN x)
  have x0 := BxN.new w x
  have A2 := al (w.alloc (mkN x)) (mkN y)
  have y0 := BxN.new (w.alloc (mkN x)) y
  rw [alloc_size] at y0
  have x0 := x0.below A2
  have HA := hid (A1.trans (A2.mono A1.size))
  have HX := hid (h1.keep HA.out); have HY := hid (h2.keep HA.out)
  clear h1 h2 A1 A2
  go_enter Tryz.func39, Tryz.ntmps39
  go_upto_region 1 with (fail)
  generalize (w.alloc (mkN x)).alloc (mkN y) = W1 at *
  obtain ⟨p0, p1, p2, p3, p4, p5⟩ := x0.cells
  obtain ⟨q0, q1, q2, q3, q4, q5⟩ := y0.cells
  have hx0 := x0.1; have hy0 := y0.1
  go_cut [5, 6] (fun s5 s6 wx => ∃ (a1 a2 : Option Addr), s5 = .slice a1 1 1 ∧ s6 = .slice a2 1 1 ∧ OwnNd wx W1.heap.size a1 1 1 [x] ∧ OwnNd wx W1.heap.size a2 1 1 [y] ∧ Below W1.heap.size W1 wx ∧ Apart a1 a2)
  case first =>
    go_region
    all_goals
      go_wp2_with fail
      go_meet
    · refine ⟨some ⟨W1.heap.size, 0, none⟩, some ⟨W1.heap.size + 1, 0, none⟩, rfl, rfl, ?_, ?_, ?_, .inr (.inr (by simp))⟩
      · exact Own.below (Own.below (Own.litNd W1 x) (al _ (mkN y))) (below_drewN _ 1)
      · have h := Own.litNd (W1.alloc (mkN x)) y
        rw [alloc_size] at h
        exact Own.below (Own.mono h (by omega)) (below_drewN _ 1)
      · exact bel_drew (bel_alloc (al _ _) _)
    · refine ⟨some ⟨W1.heap.size + 1, 0, none⟩, some ⟨W1.heap.size, 0, none⟩, rfl, rfl, ?_, ?_, ?_, .inr (.inr (by simp))⟩
      · have h := Own.litNd (W1.alloc (mkN y)) x
        rw [alloc_size] at h
        exact Own.below (Own.mono h (by omega)) (below_drewN _ 1)
      · exact Own.below (Own.below (Own.litNd W1 y) (al _ (mkN x))) (below_drewN _ 1)
      · exact bel_drew (bel_alloc (al _ _) _)
  case rest =>
    obtain ⟨a1, a2, rfl, rfl, o1, o2, E, AP⟩ := hcut
    clear p0 p1 p2 p3 p4 p5 q0 q1 q2 q3 q4 q5 hx0 hy0 x0 y0
    have HIX := hid (show ∀ k ∈ [x], NdIn W1 k from fun k hk => by rcases List.mem_singleton.1 hk with rfl; exact HX.out)
    have HIY := hid (show ∀ k ∈ [y], NdIn W1 k from fun k hk => by rcases List.mem_singleton.1 hk with rfl; exact HY.out)
    go_wp2_with fail
    go_loopg [5, 6] (cntN x) (fun g s5 s6 wr => ∃ (n : Nat) (a1 : Option Addr) (d1 : Nat) (a2 : Option Addr) (d2 : Nat) (X Y : List Nd), s5 = .slice a1 n d1 ∧ s6 = .slice a2 n d2 ∧ X.length = n ∧ Y.length = n ∧ cntL X = g ∧ g ≤ 1024 ∧ cntL Y ≤ 1024 ∧ OwnNd wr W1.heap.size a1 n d1 X ∧ OwnNd wr W1.heap.size a2 n d2 Y ∧ Apart a1 a2 ∧ Below W1.heap.size W1 wr ∧ Hid (∀ k ∈ X, NdIn W1 k) ∧ Hid (∀ k ∈ Y, NdIn W1 k) ∧ Hid (bareL X = bareL Y ↔ bareN x = bareN y))
    case atStart => exact ⟨1, a1, 1, a2, 1, [x], [y], rfl, rfl, rfl, rfl, cntL_one x, c1, by rw [cntL_one]; exact c2, o1, o2, AP, E, HIX, HIY, by show _ ↔ _; rw [bareL_cons, bareL_cons, bareL_nil]; simp⟩
    case round =>
      clear o1 o2 E AP HIX HIY
      obtain ⟨n, a1, d1, a2, d2, X, Y, rfl, rfl, hX, hY, hg, hg2, hgY, o1, o2, AP, E, HIX, HIY, HB⟩ := hrel
      cases n with
      | zero =>
        have HZ := hid (show bareN x = bareN y by
          rw [← HB.out, List.eq_nil_of_length_eq_zero hX, List.eq_nil_of_length_eq_zero hY])
        go_wp2_with fail
        (try go_simp)
        go_ret
        exact ⟨true, rfl, ⟨fun _ => HZ.out, fun _ => rfl⟩, HA.out.trans (E.mono HA.out.size)⟩
      | succ n =>
        obtain ⟨p, hp⟩ : ∃ p, X[n]? = some p := ⟨_, List.getElem?_eq_getElem (by omega)⟩
        obtain ⟨q, hq⟩ : ∃ q, Y[n]? = some q := ⟨_, List.getElem?_eq_getElem (by omega)⟩
        have hXs := last_split hX hp
        have hYs := last_split hY hq
        have HST := hid (stack_step (p := p) (q := q) (show (X.take n).length = (Y.take n).length by rw [List.length_take, List.length_take]; omega))
        have HNP := hid (HIX.out p (List.mem_of_getElem? hp))
        have HNQ := hid (HIY.out q (List.mem_of_getElem? hq))
        have hcx : cntL (X.take n) + cntN p = cntL X := by conv => rhs; rw [hXs]; rw [cntL_app, cntL_one]
        have hcy : cntL (Y.take n) + cntN q = cntL Y := by conv => rhs; rw [hYs]; rw [cntL_app, cntL_one]
        have hXl := cntL_len X; have hYl := cntL_len Y
        have e1 := (Own.els o1 cN_len (by omega) (by omega)).1
        have e2 := (Own.els o2 cN_len (by omega) (by omega)).1
        obtain ⟨p0, p1, p2, p3, p4, p5⟩ := e1.nd hp
        obtain ⟨q0, q1, q2, q3, q4, q5⟩ := e2.nd hq
        have ix := e1.idx ndl cN_len n (by omega) d1
        have iy := e2.idx ndl cN_len n (by omega) d2
        rw [hX] at ix
        rw [hY] at iy
        have HXS := hid hXs; have HYS := hid hYs
        clear hXs hYs hp hq
        have hb1 := (Own.lt o1 (Own.some o1 (by omega))).2
        have hb2 := (Own.lt o2 (Own.some o2 (by omega))).2
        have z0 : decide ((0 : Int) < (n : Int) + 1) = true := decide_eq_true (by omega)
        have hd1 := o1.cap.1; have hd2 := o2.cap.1
        have hwm := o1.cap.2.1
        go_upto_region 4 with (fail)
        go_cut [8, 9] (fun s8 s9 wx => ∃ (u1 u2 : Nat), s8 = .pointer (some ⟨u1, 0, none⟩) ∧ s9 = .pointer (some ⟨u2, 0, none⟩) ∧ BxN wx u1 p ∧ BxN wx u2 q ∧ Below wr.heap.size wr wx ∧ wr.heap.size ≤ u1 ∧ wr.heap.size ≤ u2)
        case first =>
          go_region
          all_goals
            go_wp2_with fail
            go_meet
          · refine ⟨wr.heap.size, wr.heap.size + 1, rfl, rfl, ?_, ?_, bel_drew (bel_alloc (al _ _) _), by omega, by omega⟩
            · exact ((BxN.new wr p).below (al _ (mkN q))).below (below_drewN _ 1)
            · have h := BxN.new (wr.alloc (mkN p)) q
              rw [alloc_size] at h
              exact h.below (below_drewN _ 1)
          · refine ⟨wr.heap.size + 1, wr.heap.size, rfl, rfl, ?_, ?_, bel_drew (bel_alloc (al _ _) _), by omega, by omega⟩
            · have h := BxN.new (wr.alloc (mkN q)) p
              rw [alloc_size] at h
              exact h.below (below_drewN _ 1)
            · exact ((BxN.new wr q).below (al _ (mkN p))).below (below_drewN _ 1)
        case rest =>
          obtain ⟨u1, u2, rfl, rfl, B1, B2, E4, hu1, hu2⟩ := hcut
          have o1 := Own.below o1 E4
          have o2 := Own.below o2 E4
          have E := E.trans (E4.mono E.size)
          have r1 := run_cut_to ndl a1 (n + 1) d1 n (by omega) .i64
          have r2 := run_cut_to ndl a2 (n + 1) d2 n (by omega) .i64
          have hv2 : a1 = none ∨ u2 ≠ bk a1 := .inr (by omega)
          clear p0 p1 p2 p3 p4 p5 q0 q1 q2 q3 q4 q5 ix iy e1 e2 hb1 hb2 E4 hu1 hu2
          go_wp2_with fail
          refine wp_region_quiet_below (by kernel_rfl) (by kernel_rfl) ?_
          repeat (go_big_quiet_step (fail))
          refine wpQuiet_nil ?_
          intro _ hw'
          obtain ⟨⟨dq, osq⟩, hw''⟩ := hw'
          subst hw''
          have EQ := below_regrown wc dq osq
          generalize grow (redrawn wc dq) osq = W5 at *
          have E := E.trans (EQ.mono E.size)
          have o1 := Own.frontL cN_len (Own.below o1 EQ) hX.symm (Nat.le_succ n)
          have o2 := Own.frontL cN_len (Own.below o2 EQ) hY.symm (Nat.le_succ n)
          obtain ⟨p0, p1, p2, p3, p4, p5⟩ := (B1.below EQ).cells
          obtain ⟨q0, q1, q2, q3, q4, q5⟩ := (B2.below EQ).cells
          have HB1 := hid (B1.below EQ); have HB2 := hid (B2.below EQ)
          have HYN := hid (show bareL X = bareL Y ↔ (p.kind = q.kind ∧ p.th = q.th ∧ p.val = q.val ∧ p.kids.length = q.kids.length) ∧ bareL (X.take n ++ p.kids) = bareL (Y.take n ++ q.kids) by
            rw [← HST.out, ← HXS.out, ← HYS.out])
          have hmxy : 2 * n + p.kids.length + q.kids.length ≤ 4096 := by
            have := cntL_len p.kids; have := cntL_len q.kids
            have := cntN_eq p; have := cntN_eq q
            omega
          have hpk : cntL (X.take n ++ p.kids) + 1 = cntL X := by rw [cntL_app, ← hcx, cntN_eq p]; omega
          have hqk : cntL (Y.take n ++ q.kids) + 1 = cntL Y := by rw [cntL_app, ← hcy, cntN_eq q]; omega
          have hTX : (X.take n).length = n := by rw [List.length_take]; omega
          have hTY : (Y.take n).length = n := by rw [List.length_take]; omega
          have HIX2 := hid (show ∀ k ∈ X.take n ++ p.kids, NdIn W1 k from fun k hk => by
            rcases List.mem_append.1 hk with h | h
            · exact HIX.out k (List.mem_of_mem_take h)
            · exact HNP.out.kid k h)
          have HIY2 := hid (show ∀ k ∈ Y.take n ++ q.kids, NdIn W1 k from fun k hk => by
            rcases List.mem_append.1 hk with h | h
            · exact HIY.out k (List.mem_of_mem_take h)
            · exact HNQ.out.kid k h)
          clear EQ r1 r2 B1 B2 hcx hcy HIX HIY HXS HYS HST
          obtain ⟨b1, hb1⟩ : ∃ b, (p.kind != q.kind) = b := ⟨_, rfl⟩
          obtain ⟨b2, hb2⟩ : ∃ b, (!decide (p.th = q.th)) = b := ⟨_, rfl⟩
          obtain ⟨b3, hb3⟩ : ∃ b, (p.val != q.val) = b := ⟨_, rfl⟩
          obtain ⟨b4, hb4⟩ : ∃ b, ((p.kids.length : Int) != q.kids.length) = b := ⟨_, rfl⟩
          have HK := hid (show b1 = false ↔ p.kind = q.kind by rw [← hb1]; simp)
          have HTH := hid (show b2 = false ↔ p.th = q.th by rw [← hb2]; simp)
          have HVA := hid (show b3 = false ↔ p.val = q.val by rw [← hb3]; simp)
          have HLE := hid (show b4 = false ↔ p.kids.length = q.kids.length by rw [← hb4]; simp; omega)
          cases b1 with
          | true =>
            have HZ := hid (show ¬ bareN x = bareN y from fun h => by
              have := (HYN.out.1 (HB.out.2 h)).1.1
              rw [← HK.out] at this; cases this)
            clear hb2 hb3 hb4
            go_wp2_with fail
            (try go_simp)
            go_ret
            exact ⟨false, rfl, ⟨fun h => Bool.noConfusion h, fun h => absurd h HZ.out⟩, HA.out.trans (E.mono HA.out.size)⟩
          | false =>
            cases b2 with
            | true =>
              have HZ := hid (show ¬ bareN x = bareN y from fun h => by
                have := (HYN.out.1 (HB.out.2 h)).1.2.1
                rw [← HTH.out] at this; cases this)
              clear hb3 hb4
              go_wp2_with fail
              (try go_simp)
              go_ret
              exact ⟨false, rfl, ⟨fun h => Bool.noConfusion h, fun h => absurd h HZ.out⟩, HA.out.trans (E.mono HA.out.size)⟩
            | false =>
              cases b3 with
              | true =>
                have HZ := hid (show ¬ bareN x = bareN y from fun h => by
                  have := (HYN.out.1 (HB.out.2 h)).1.2.2.1
                  rw [← HVA.out] at this; cases this)
                clear hb4
                go_wp2_with fail
                (try go_simp)
                go_ret
                exact ⟨false, rfl, ⟨fun h => Bool.noConfusion h, fun h => absurd h HZ.out⟩, HA.out.trans (E.mono HA.out.size)⟩
              | false =>
                cases b4 with
                | true =>
                  have HZ := hid (show ¬ bareN x = bareN y from fun h => by
                    have := (HYN.out.1 (HB.out.2 h)).1.2.2.2
                    rw [← HLE.out] at this; cases this)
                  go_wp2_with fail
                  (try go_simp)
                  go_ret
                  exact ⟨false, rfl, ⟨fun h => Bool.noConfusion h, fun h => absurd h HZ.out⟩, HA.out.trans (E.mono HA.out.size)⟩
                | false =>
                  have HB3 := hid (show bareL (X.take n ++ p.kids) = bareL (Y.take n ++ q.kids) ↔ bareN x = bareN y by
                    rw [← HB.out, HYN.out]
                    exact ⟨fun h => ⟨⟨HK.out.1 rfl, HTH.out.1 rfl, HVA.out.1 rfl, HLE.out.1 rfl⟩, h⟩, fun h => h.2⟩)
                  have hll := HLE.out.1 rfl
                  have er := (HNP.out.els.below E).row
                  have hfl := flat_ok cN_len p.kids p.kids.length rfl
                  have HHLL := hid hll
                  clear hll
                  go_wp2_with (at_builtin; go_loud (refine wpList_app ndl (.tmp 62) (.tmp 64) rfl rfl rfl o1 rfl er hfl (flat_oneCell cN_one _) E E.size (by omega) (by unfold maxLen; omega) ?_))
                  intro a6 c6 w6 o6 g6 E6
                  have oX : OwnNd w6 W1.heap.size a6 (n + p.kids.length) c6 (X.take n ++ p.kids) := by unfold OwnNd; rw [flat_app]; exact o6
                  obtain ⟨oY, AP2⟩ := Own.step o2 g6.step AP.symm
                  have D2 := HB2.out.step g6.step hv2
                  obtain ⟨q0, q1, q2, q3, q4, q5⟩ := D2.cells
                  have er2 := (HNQ.out.els.below E6).row
                  have hfl2 := flat_ok cN_len q.kids q.kids.length rfl
                  clear o1 o2 o6 g6 E p0 p1 p2 p3 p4 p5 D2 er hfl AP
                  go_wp2_with (at_builtin; go_loud (refine wpList_app ndl (.tmp 66) (.tmp 68) rfl rfl rfl oY rfl er2 hfl2 (flat_oneCell cN_one _) E6 E6.size (by omega) (by unfold maxLen; omega) ?_))
                  intro a7 c7 w7 o7 g7 E7
                  have oY2 : OwnNd w7 W1.heap.size a7 (n + q.kids.length) c7 (Y.take n ++ q.kids) := by unfold OwnNd; rw [flat_app]; exact o7
                  obtain ⟨oX2, AP3⟩ := Own.step oX g7.step AP2.symm
                  have hl7 := HHLL.out
                  clear oX oY o7 g7 E6 q0 q1 q2 q3 q4 q5 er2 hfl2 AP2
                  go_wp2_with fail
                  go_roundg (cntL (X.take n ++ p.kids))
                  case measure => omega
                  case rel => exact ⟨n + p.kids.length, a6, c6, a7, c7, _, _, rfl, by rw [hl7], by rw [List.length_append, hTX], by rw [List.length_append, hTY, hl7], rfl, by omega, by omega, oX2, by rw [hl7]; exact oY2, AP3, E7, HIX2, HIY2, HB3⟩
end Go.Proofs.YthaibjefnclkjaaGreatDoor
namespace Go.Proofs.YthaibjefnclkjaaGreatDoor
open Go.RowKit Go.Sort
set_option linter.unusedVariables false

theorem ini_ext (x y : Ini) : (x = y) ↔ (x.thread = y.thread ∧ x.reg = y.reg ∧ x.loc = y.loc ∧ x.vloc = y.vloc ∧ x.n = y.n) := by
  cases x; cases y; simp
theorem eqIni (x y : Ini) (w : World) : (binOp .eql 64 (vIni x) (vIni y)).run Tryz.prog w = .ok (.bool (decide (x = y))) w := by
  have hS : Tryz.prog.underlying 64 = some (.struct (Tryz.prog.fieldsOf 64)) := by kernel_rfl
  have hp : Tryz.prog.stoodInHeld 64 = false := by kernel_rfl
  have hS2 : Tryz.prog.underlying 62 = some (.struct (Tryz.prog.fieldsOf 62)) := by kernel_rfl
  have hp2 : Tryz.prog.stoodInHeld 62 = false := by kernel_rfl
  have a3 := Tryz.isAgg3; have z3 := Tryz.sizeOf3; have u3 := Tryz.underlying3
  have a4 := Tryz.isAgg9; have z4 := Tryz.sizeOf9; have u4 := Tryz.underlying9
  have a5 := Tryz.isAgg62; have z5 := Tryz.sizeOf62; have u5 := Tryz.underlying62
  rw [run_eql_struct, show (10000 : Nat) = 9999 + 1 from rfl, run_equalIn_agg w 9999 64 _ _ hS hp]
  simp only [Program.fieldsOf, Tryz.underlying64]
  have hin : ∀ w, (Op.equalIn 9999 62 (.agg #[.string (tx x.vloc), .int .i64 x.n]) (.agg #[.string (tx y.vloc), .int .i64 y.n])).run Tryz.prog w = .ok (decide (x.vloc = y.vloc ∧ x.n = y.n)) w := fun w => by
    rw [show (9999 : Nat) = 9998 + 1 from rfl, run_equalIn_agg w 9998 62 _ _ hS2 hp2]
    simp only [Program.fieldsOf, Tryz.underlying62]
    go_simp
    simp only [tx_toList]
    by_cases h1 : x.vloc = y.vloc <;> by_cases h2 : x.n = y.n <;> simp [h1, h2]
  go_simp
  rw [show decide (x = y) = decide (x.thread = y.thread ∧ x.reg = y.reg ∧ x.loc = y.loc ∧ x.vloc = y.vloc ∧ x.n = y.n) from decide_eq_decide.2 (ini_ext x y)]
  simp only [tx_toList]
  by_cases h1 : x.thread = y.thread <;> by_cases h2 : x.reg = y.reg <;> by_cases h6 : x.loc = y.loc <;> by_cases h7 : x.vloc = y.vloc <;> by_cases h8 : x.n = y.n <;> simp [h1, h2, h6, h7, h8]
theorem neqIni (x y : Ini) (w : World) : (binOp .neq 64 (vIni x) (vIni y)).run Tryz.prog w = .ok (.bool (!decide (x = y))) w := by
  have h := eqIni x y w
  rw [run_eql_struct] at h
  rw [run_neq_struct]
  generalize (Op.equalIn 10000 64 (.agg #[.int .i64 x.thread, .int .i64 x.reg, .string (tx x.loc), .string (tx x.vloc), .int .i64 x.n]) (.agg #[.int .i64 y.thread, .int .i64 y.reg, .string (tx y.loc), .string (tx y.vloc), .int .i64 y.n])).run Tryz.prog w = r at *
  cases r with
  | ok b w' => simp [Result.andThen] at h ⊢; obtain ⟨rfl, rfl⟩ := h; exact ⟨rfl, rfl⟩
  | halt x w' => simp [Result.andThen] at h
end Go.Proofs.YthaibjefnclkjaaGreatDoor

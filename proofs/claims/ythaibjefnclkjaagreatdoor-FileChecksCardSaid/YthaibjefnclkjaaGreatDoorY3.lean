/- The walks of gather and Things (the document's answer 08). Conditions: the nodes lie in memory as read. The walk of locs (document). Conditions: the test lies in memory as read; few lines. The walk of asked (document). Conditions: the test lies in memory as read. The walks of Cell (program and document), shown, Titled, cycled. Conditions: texts of a machine's length; the library's variables as laid. -/
import Derived.Test.YthaibjefnclkjaaGreatDoorY2
import Derived.Test.YthaibjefnclkjaaGreatDoorZ14
import Derived.Test.YthaibjefnclkjaaGreatDoorZ12
import Derived.Test.YthaibjefnclkjaaGreatDoorZ7
import Derived.Test.YthaibjefnclkjaaGreatDoorY1
import Derived.Test.YthaibjefnclkjaaGreatDoorZ5
import Derived.Test.YthaibjefnclkjaaGreatDoorZ4
import Derived.Test.YthaibjefnclkjaaGreatDoorZ3
import Derived.Test.YthaibjefnclkjaaGreatDoorZ2
import Derived.Test.YthaibjefnclkjaaGreatDoorZ1
import Derived.Test.YthaibjefnclkjaaGreatDoorRows
import Derived.Lib.SlTrimSet
import Derived.Lib.ItoaNum
import Derived.WalkKit
import Derived.WalkSpells
import Derived.WalkLawsBesides
import Derived.Deep.QuietTactic
import Derived.BigQuiet
import Derived.ProofKit
import Derived.OpenShut
import Derived.ShutString
import Derived.ChangeOld
import Derived.Carry
import Derived.SizedLaws
import Derived.Laws.StructEq
import Derived.Shelf.SlicesQ.Load
import Derived.Lib.SplitLaws
import Derived.Lib.Strings
import Derived.Lib.ItoaMem
import Derived.Shelf.Strings.SlTrimAscii
import Derived.Shelf.Small.Strs
import Derived.Shelf.Strconv.Itoa3
import Derived.Shelf.LaysM
import Derived.Shelf.Strings.Prefix
import Derived.Test.YthaibjefnclkjaaGreatDoorProg
import Derived.Lib.ItoaLen
import Derived.WalkSmall
import Derived.Laws.Concat
import Derived.BigRegion
import Derived.StillTailTactics
import Derived.Deep.RegionWith
import Derived.Lib.AtoiAll
import Derived.Deep.DeepCutAuto
import Derived.Lib.Bytealg
import Derived.Test.YthaibjefnclkjaaGreatDoorZ6
import Derived.Laws.IdiomCopy
import Derived.Shelf.Sort.Plain
import Derived.Shelf.Slices.In.SortNone
import Derived.Shelf.Slices.CompactS
import Derived.Shelf.Slices.Clone
import Derived.Shelf.SlSortCmp.NoneTotal
import Derived.Shelf.SlicesE.Clone
import Derived.Shelf.Strings.Repeat
import Derived.Test.YthaibjefnclkjaaGreatDoorZ8
import Derived.Test.YthaibjefnclkjaaGreatDoorZ11
import Derived.Test.YthaibjefnclkjaaGreatDoorZ9
import Derived.Test.YthaibjefnclkjaaGreatDoorZ10
import Derived.Lib.QuietBelow
import Derived.Lib.Builder
import Derived.Lib.AppendStr
import Derived.Lib.UnsafeStr
import Derived.Lib.OthersKept
import Derived.Laws.Externs
import Derived.RegionTactic
import Derived.Test.YthaibjefnclkjaaGreatDoorZ13
import Derived.Deep.RegionHeld3
import Derived.Maps.OwnSet
import Derived.Maps.Views
import Derived.Test.YthaibjefnclkjaaGreatDoorZ18
import Derived.Test.YthaibjefnclkjaaGreatDoorZ17
import Derived.Test.YthaibjefnclkjaaGreatDoorZ15
import Derived.Test.YthaibjefnclkjaaGreatDoorZ16
namespace Go.Proofs.YthaibjefnclkjaaGreatDoor
open Go.RowKit Go.Sort
set_option linter.unusedVariables false

attribute [local go_sem high] eqTh neqTh
theorem insT_snoc (t y : Th) : ∀ l : List Th, insT t (l ++ [y]) = if l.any (befT t) then insT t l ++ [y] else if befT t y then l ++ [t, y] else l ++ [y, t]
  | [] => by simp [insT]
  | z :: r => by
    rw [List.cons_append, insT, insT_snoc t y r]
    cases h : befT t z
    · simp only [List.any_cons, h, Bool.false_or, insT, if_false, Bool.false_eq_true]
      by_cases h2 : r.any (befT t) = true
      · simp [h2]
      · by_cases h3 : befT t y = true
        · simp [h2, h3]
        · simp [h2, h3]
    · simp [h, insT]
def outT (t : Th) (l : List Th) : List Th := if l.any (befT t) then insT t l else l
theorem insT_no {t : Th} : ∀ {l : List Th}, ¬ l.any (befT t) = true → insT t l = l ++ [t]
  | [], _ => rfl
  | z :: r, h => by
    simp only [List.any_cons, Bool.or_eq_true, not_or] at h
    rw [insT, if_neg h.1, insT_no h.2]; rfl
theorem insT_end (t : Th) (l : List Th) : insT t l = if l.any (befT t) then outT t l else outT t l ++ [t] := by
  unfold outT
  by_cases h : l.any (befT t) = true
  · rw [if_pos h, if_pos h]
  · rw [if_neg h, if_neg h]; exact insT_no h
theorem outT_yes {t y : Th} {l : List Th} (h : l.any (befT t) = true) : outT t (l ++ [y]) = outT t l ++ [y] := by
  unfold outT
  rw [if_pos (by simp [h]), if_pos h, insT_snoc, if_pos h]
theorem outT_put {t y : Th} {l : List Th} (h : l.any (befT t) = false) (h2 : befT t y = true) : outT t (l ++ [y]) = outT t l ++ [t] ++ [y] := by
  unfold outT
  rw [if_pos (by simp [h2]), if_neg (by simp [h]), insT_snoc, if_neg (by simp [h]), if_pos h2]; simp
theorem outT_no {t y : Th} {l : List Th} (h : l.any (befT t) = false) (h2 : befT t y = false) : outT t (l ++ [y]) = outT t l ++ [y] := by
  unfold outT
  rw [if_neg (by simp [h, h2]), if_neg (by simp [h])]
theorem outT_len (t : Th) (l : List Th) : (outT t l).length ≤ l.length + 1 := by
  have h : (insT t l).length ≤ l.length + 1 := by
    induction l with
    | nil => simp [insT]
    | cons z r ih => unfold insT; split <;> simp only [List.length_cons] <;> omega
  unfold outT; split <;> omega
def RetG (B : Nat) (w : World) (l : List Th) (e : Ending) (w' : World) : Prop :=
  ∃ a c, e = .returned (.slice a l.length c) ∧ OwnT w' B a l.length c l ∧ Below w.heap.size w w'
set_option maxRecDepth 100000 in
set_option maxHeartbeats 6400000 in
theorem r08GatherA (x : Nd) (hk : x.kind = 2) (ho : thingB 2 x.th = true) (acc : List Th) (a : Option Addr) (c : Nat) (B : Nat) (w : World) (hB : B ≤ w.heap.size)
    (h : OwnT w B a acc.length c acc) (hv : ∀ t ∈ acc, thingB 2 t = true) (hl : acc.length ≤ 10000) :
    Calls Tryz.prog 118 #[vN x, .slice a acc.length c] w (RetG B w (putT x.th acc)) := by
  have A := al w (mkN x)
  have b0 := BxN.new w x
  have h1 := Own.below h A
  have zk : (x.kind == 2) = true := by simpa using hk
  obtain ⟨n, hn⟩ : ∃ n, acc.length = n := ⟨_, rfl⟩
  have HN := hid hn
  rw [hn] at h1 hl ⊢
  have H1 := hid h1
  have HB := hid hB
  have HV := hid hv
  have HO := hid ho
  have HA := hid A
  have HB0 := hid b0
  have HF := hid (fun (hf : ¬ x.th ∈ acc) => insT_end x.th acc)
  clear hk hB h h1 hv ho hn HF A
  go_enter Tryz.func118, Tryz.ntmps118
  go_upto_region 1 with (fail)
  generalize w.alloc (mkN x) = W1 at *
  obtain ⟨q0, -⟩ := b0.cells
  go_wp2_with fail
  clear q0
  go_loopw [5, 6, 7] (fun out put i wr => ∃ (k : Nat) (ao : Option Addr) (co : Nat), k ≤ n ∧ i = .int .i64 k ∧ put = .bool ((acc.take k).any (befT x.th)) ∧ out = .slice ao (outT x.th (acc.take k)).length co ∧ Below W1.heap.size W1 wr ∧ OwnT wr W1.heap.size ao (outT x.th (acc.take k)).length co (outT x.th (acc.take k)) ∧ Hid (x.th ∉ acc.take k)) (fun _ _ i _ => n - (intOf i).toNat)
  case atStart => exact ⟨0, none, 0, Nat.zero_le _, rfl, rfl, rfl, Below.refl _ _, Own.nil _ _ _ _, by simp [Hid]⟩
  case round =>
    obtain ⟨k, ao, co, hk, rfl, rfl, rfl, E1, oo, HNm⟩ := hrel
    have b0 := b0.below E1
    have hol := outT_len x.th (acc.take k)
    obtain ⟨L, hL⟩ : ∃ L, outT x.th (acc.take k) = L := ⟨_, rfl⟩
    obtain ⟨f, hf⟩ : ∃ f, (acc.take k).any (befT x.th) = f := ⟨_, rfl⟩
    obtain ⟨m, hm⟩ : ∃ m, L.length = m := ⟨_, rfl⟩
    have HFL := hid (And.intro hL hf)
    have HM := hid hm
    rw [hL] at oo hol ⊢
    rw [hf]
    rw [hm] at oo hol ⊢
    rw [List.length_take] at hol
    clear hL hf hm
    have hacc := Own.below H1.out E1
    by_cases hlt : k < n
    · obtain ⟨y, hy⟩ : ∃ y, acc[k]? = some y := ⟨_, List.getElem?_eq_getElem (by rw [HN.out]; exact hlt)⟩
      have HY := hid hy
      have els := (Own.els hacc cTh_len (by omega) (by have := HN.out; omega)).1
      obtain ⟨p0, p1, p2⟩ := els.th hy
      have ix := els.idx thl cTh_len k (by rw [HN.out]; exact hlt) c
      rw [HN.out] at ix
      obtain ⟨q0, q1, q2, q3, q4, q5⟩ := b0.cells
      obtain ⟨d, hd⟩ : ∃ d, decide (y = x.th) = d := ⟨_, rfl⟩
      have HD := hid hd
      have BF := hid (show ∀ w, Calls Tryz.prog 157 #[vTh x.th, vTh y] w (Ret w (.bool (befT x.th y))) from fun w => r08Before ⟨x.th, HO.out⟩ ⟨y, HV.out y (List.mem_of_getElem? HY.out)⟩ w)
      have hsz : W1.heap.size ≤ wr.heap.size := E1.size
      clear hy els hd hacc
      go_wp2_with fail
      have p0 := cell_regrown p0; have p1 := cell_regrown p1; have p2 := cell_regrown p2; have q0 := cell_regrown q0; have q1 := cell_regrown q1; have q2 := cell_regrown q2; have q3 := cell_regrown q3
      refine wp_region_quiet_below (by kernel_rfl) (by kernel_rfl) ?_
      repeat (go_big_quiet_step (fail))
      refine wpQuiet_nil ?_
      intro _ hw'
      obtain ⟨⟨dq, osq⟩, hw''⟩ := hw'
      subst hw''
      have EQ := below_regrown wr dq osq
      generalize grow (redrawn wr dq) osq = W7 at *
      have b0 := b0.below EQ
      have oo := Own.below oo EQ
      have E1 := E1.trans (EQ.mono E1.size)
      clear EQ p0 p1 p2 q0 q1 q2 q3 q4 q5 ix hsz
      have els := (Own.els (Own.below H1.out E1) cTh_len (by omega) (by have := HN.out; omega)).1
      obtain ⟨p0, p1, p2⟩ := els.th HY.out
      have ix := els.idx thl cTh_len k (by rw [HN.out]; exact hlt) c
      rw [HN.out] at ix
      obtain ⟨q0, q1, q2, q3, q4, q5⟩ := b0.cells
      clear els
      cases d with
      | true =>
        have HZ := hid (show putT x.th acc = acc ∧ acc.length = n from ⟨by
          unfold putT; rw [if_pos (by rw [← of_decide_eq_true HD.out]; exact List.mem_of_getElem? HY.out)], HN.out⟩)
        rw [HD.out]
        go_wp2_with fail
        (try go_simp)
        go_ret
        have E := HA.out.trans (E1.mono HA.out.size)
        refine ⟨a, c, ?_, ?_, E⟩
        · rw [HZ.out.1, HZ.out.2]; first | done | rfl
        · rw [HZ.out.1, HZ.out.2]; exact Own.below H1.out E1
      | false =>
        have TK := hid (show acc.take (k + 1) = acc.take k ++ [y] by
          obtain ⟨hlt, rfl⟩ := List.getElem?_eq_some_iff.1 HY.out
          exact List.take_succ_eq_append_getElem hlt)
        have NM := hid (show x.th ∉ acc.take k ++ [y] by
          intro hm
          rcases List.mem_append.1 hm with h1 | h1
          · exact HNm.out h1
          · simp at h1; have := of_decide_eq_false HD.out; exact this h1.symm)
        clear HNm
        rw [HD.out]
        cases f with
        | true =>
          have HT := hid (show outT x.th (acc.take (k + 1)) = L ++ [y] ∧ (acc.take (k + 1)).any (befT x.th) = true from ⟨by rw [TK.out, outT_yes HFL.out.2, HFL.out.1], by rw [TK.out]; simp [HFL.out.2]⟩)
          go_wp2_with fail
          have p0 := cell_regrown p0; have p1 := cell_regrown p1; have p2 := cell_regrown p2; have q0 := cell_regrown q0; have q1 := cell_regrown q1; have q2 := cell_regrown q2; have q3 := cell_regrown q3
          refine wp_region_quiet_below (by kernel_rfl) (by kernel_rfl) ?_
          repeat (go_big_quiet_step (fail))
          refine wpQuiet_nil ?_
          intro _ hw'
          obtain ⟨⟨dq, osq⟩, hw''⟩ := hw'
          subst hw''
          have EQ := below_regrown W7 dq osq
          generalize grow (redrawn W7 dq) osq = W9 at *
          have b0 := b0.below EQ
          have oo := Own.below oo EQ
          have E1 := E1.trans (EQ.mono E1.size)
          clear EQ p0 p1 p2 q0 q1 q2 q3 q4 q5 ix
          obtain ⟨p0, p1, p2⟩ := (Own.els (Own.below H1.out E1) cTh_len (by omega) (by have := HN.out; omega)).1.th HY.out
          have ix := (Own.els (Own.below H1.out E1) cTh_len (by omega) (by have := HN.out; omega)).1.idx thl cTh_len k (by rw [HN.out]; exact hlt) c
          rw [HN.out] at ix
          obtain ⟨q0, q1, q2, q3, q4, q5⟩ := b0.cells
          go_wp2_with (at_builtin; go_loud (refine wpList_app1n thl (.tmp 42) (.tmp 47) rfl rfl rfl rfl oo rfl rfl (by intro u hu; simp at hu; rcases hu with rfl | rfl | rfl <;> rfl) E1 E1.size (by omega) (by unfold maxLen; omega) ?_))
          intro a5 c5 w5 o5 g5 B5
          have o5 : OwnT w5 W1.heap.size a5 (m + 1) c5 (L ++ [y]) := by unfold OwnT; rw [flat_app, flat_one]; exact o5
          have E1 := B5
          have b0 := HB0.out.below E1
          clear g5 B5 p0 p1 p2 q0 q1 q2 q3 q4 q5 ix oo
          go_wp2_with fail
          go_roundw
          case rel =>
            have hz : (outT x.th (acc.take (k + 1))).length = m + 1 := by rw [HT.out.1, List.length_append, HM.out]; rfl
            refine ⟨k + 1, a5, c5, by omega, by go_num, ?_, ?_, E1, ?_, ?_⟩
            · rw [HT.out.2]
            · rw [hz]
            · rw [hz, HT.out.1]; exact o5
            · rw [TK.out]; exact NM.out
          case measure => simp [intOf]; omega

        | false =>
          obtain ⟨g, hg⟩ : ∃ g, befT x.th y = g := ⟨_, rfl⟩
          rw [hg] at BF
          go_wp2_with fail
          have p0 := cell_regrown p0; have p1 := cell_regrown p1; have p2 := cell_regrown p2; have q0 := cell_regrown q0; have q1 := cell_regrown q1; have q2 := cell_regrown q2; have q3 := cell_regrown q3
          have cA := fun (d : Nat) (os : Array Obj) => Calls.regrown_of (retc' (BF.out (grow (redrawn W7 d) os)))
          refine wp_region_quiet_below (by kernel_rfl) (by kernel_rfl) ?_
          repeat (go_big_quiet_step (exact cA _ _))
          refine wpQuiet_nil ?_
          intro _ hw'
          obtain ⟨⟨dq, osq⟩, hw''⟩ := hw'
          subst hw''
          have EQ := below_regrown W7 dq osq
          generalize grow (redrawn W7 dq) osq = W9 at *
          have b0 := b0.below EQ
          have oo := Own.below oo EQ
          have E1 := E1.trans (EQ.mono E1.size)
          clear EQ p0 p1 p2 q0 q1 q2 q3 q4 q5 ix
          obtain ⟨p0, p1, p2⟩ := (Own.els (Own.below H1.out E1) cTh_len (by omega) (by have := HN.out; omega)).1.th HY.out
          have ix := (Own.els (Own.below H1.out E1) cTh_len (by omega) (by have := HN.out; omega)).1.idx thl cTh_len k (by rw [HN.out]; exact hlt) c
          rw [HN.out] at ix
          obtain ⟨q0, q1, q2, q3, q4, q5⟩ := b0.cells

          clear cA
          cases g with
          | true =>
            have HT := hid (show outT x.th (acc.take (k + 1)) = L ++ [x.th] ++ [y] ∧ (acc.take (k + 1)).any (befT x.th) = true from ⟨by rw [TK.out, outT_put HFL.out.2 hg, HFL.out.1], by rw [TK.out]; simp [hg]⟩)
            clear hg
            go_wp2_with (at_builtin; go_loud (refine wpList_app1n thl (.tmp 37) (.tmp 40) rfl rfl rfl rfl oo rfl rfl (by intro u hu; simp at hu; rcases hu with rfl | rfl | rfl <;> rfl) E1 E1.size (by omega) (by unfold maxLen; omega) ?_))
            intro a3 c3 w3 o3 g3 B3
            have o3 : OwnT w3 W1.heap.size a3 (m + 1) c3 (L ++ [x.th]) := by unfold OwnT; rw [flat_app, flat_one]; exact o3
            have E1 := B3
            have b0 := HB0.out.below E1
            have oo := o3
            clear o3 g3 B3 p0 p1 p2 q0 q1 q2 q3 q4 q5 ix
            obtain ⟨p0, p1, p2⟩ := (Own.els (Own.below H1.out E1) cTh_len (by omega) (by have := HN.out; omega)).1.th HY.out
            have ix := (Own.els (Own.below H1.out E1) cTh_len (by omega) (by have := HN.out; omega)).1.idx thl cTh_len k (by rw [HN.out]; exact hlt) c
            rw [HN.out] at ix
            obtain ⟨q0, q1, q2, q3, q4, q5⟩ := b0.cells
            go_wp2_with (at_builtin; go_loud (refine wpList_app1n thl (.tmp 42) (.tmp 47) rfl rfl rfl rfl oo rfl rfl (by intro u hu; simp at hu; rcases hu with rfl | rfl | rfl <;> rfl) E1 E1.size (by omega) (by unfold maxLen; omega) ?_))
            intro a5 c5 w5 o5 g5 B5
            have o5 : OwnT w5 W1.heap.size a5 (m + 1 + 1) c5 (L ++ [x.th] ++ [y]) := by unfold OwnT; rw [flat_app, flat_one]; exact o5
            have E1 := B5
            have b0 := HB0.out.below E1
            clear g5 B5 p0 p1 p2 q0 q1 q2 q3 q4 q5 ix oo
            go_wp2_with fail
            go_roundw
            case rel =>
              have hz : (outT x.th (acc.take (k + 1))).length = m + 1 + 1 := by rw [HT.out.1, List.length_append, List.length_append, HM.out]; rfl
              refine ⟨k + 1, a5, c5, by omega, by go_num, ?_, ?_, E1, ?_, ?_⟩
              · rw [HT.out.2]
              · rw [hz]
              · rw [hz, HT.out.1]; exact o5
              · rw [TK.out]; exact NM.out
            case measure => simp [intOf]; omega

          | false =>
            have HT := hid (show outT x.th (acc.take (k + 1)) = L ++ [y] ∧ (acc.take (k + 1)).any (befT x.th) = false from ⟨by rw [TK.out, outT_no HFL.out.2 hg, HFL.out.1], by rw [TK.out]; simp only [List.any_append, HFL.out.2, List.any_cons, hg, List.any_nil, Bool.or_false]⟩)
            clear hg
            go_wp2_with (at_builtin; go_loud (refine wpList_app1n thl (.tmp 42) (.tmp 47) rfl rfl rfl rfl oo rfl rfl (by intro u hu; simp at hu; rcases hu with rfl | rfl | rfl <;> rfl) E1 E1.size (by omega) (by unfold maxLen; omega) ?_))
            intro a5 c5 w5 o5 g5 B5
            have o5 : OwnT w5 W1.heap.size a5 (m + 1) c5 (L ++ [y]) := by unfold OwnT; rw [flat_app, flat_one]; exact o5
            have E1 := B5
            have b0 := HB0.out.below E1
            clear g5 B5 p0 p1 p2 q0 q1 q2 q3 q4 q5 ix oo
            go_wp2_with fail
            go_roundw
            case rel =>
              have hz : (outT x.th (acc.take (k + 1))).length = m + 1 := by rw [HT.out.1, List.length_append, HM.out]; rfl
              refine ⟨k + 1, a5, c5, by omega, by go_num, ?_, ?_, E1, ?_, ?_⟩
              · rw [HT.out.2]
              · rw [hz]
              · rw [hz, HT.out.1]; exact o5
              · rw [TK.out]; exact NM.out
            case measure => simp [intOf]; omega

    · obtain rfl : k = n := by omega
      have hk' : acc.take k = acc := by rw [← HN.out, List.take_length]
      have HQ := hid (show putT x.th acc = if f then L else L ++ [x.th] by
        unfold putT
        rw [if_neg (by have := HNm.out; rwa [hk'] at this), insT_end]
        have h1 := HFL.out.1; have h2 := HFL.out.2
        rw [hk'] at h1 h2
        rw [h1, h2])
      obtain ⟨q0, q1, q2, q3, q4, q5⟩ := b0.cells
      clear hacc hk' HNm
      cases f with
      | true =>
        go_wp2_with fail
        (try go_simp)
        go_ret
        have E := HA.out.trans (E1.mono HA.out.size)
        have HQ' := HQ.out
        rw [if_pos trivial] at HQ'
        rw [HQ']
        refine ⟨ao, co, ?_, ?_, E⟩
        · rw [HM.out]; first | done | rfl
        · rw [HM.out]; exact Own.mono oo (by have := HA.out.size; have := HB.out; omega)
      | false =>
        go_wp2_with (at_builtin; go_loud (refine wpList_app1n thl (.tmp 51) (.tmp 54) rfl rfl rfl rfl oo rfl rfl (by intro u hu; simp at hu; rcases hu with rfl | rfl | rfl <;> rfl) E1 E1.size (by omega) (by unfold maxLen; omega) ?_))
        intro a5 c5 w5 o5 g5 B5
        have o5 : OwnT w5 W1.heap.size a5 (m + 1) c5 (L ++ [x.th]) := by unfold OwnT; rw [flat_app, flat_one]; exact o5
        have E1 := B5
        clear g5 B5 q0 q1 q2 q3 q4 q5 oo
        go_wp2_with fail
        (try go_simp)
        go_ret
        have E := HA.out.trans (E1.mono HA.out.size)
        have HQ' := HQ.out
        rw [if_neg (by simp)] at HQ'
        rw [HQ']
        refine ⟨a5, c5, ?_, ?_, E⟩
        · rw [List.length_append, HM.out]; first | done | rfl
        · rw [List.length_append, HM.out]; exact Own.mono o5 (by have := HA.out.size; have := HB.out; omega)
set_option maxRecDepth 100000 in
set_option maxHeartbeats 6400000 in
theorem r08Gather : ∀ (x : Nd) (acc : List Th) (a : Option Addr) (c : Nat) (B : Nat) (w : World), OkN 2 x → NdIn w x → B ≤ w.heap.size →
    OwnT w B a acc.length c acc → (∀ t ∈ acc, thingB 2 t = true) → RiseT acc → acc.length + cntN x ≤ 10000 →
    Calls Tryz.prog 118 #[vN x, .slice a acc.length c] w (RetG B w (gatherN x acc)) := by
  intro x
  induction x using Nd.ind with
  | h x ih =>
  intro acc a c B w ho hI hB h hv hr hl
  by_cases hk : x.kind = 2
  · rw [gatherN_eq, if_pos hk]
    exact r08GatherA x hk (ho.thing hk).1 acc a c B w hB h hv (by omega)
  · rw [gatherN_eq, if_neg hk]
    have hc := cntN_eq x
    have A := al w (mkN x)
    have b0 := BxN.new w x
    have h1 := Own.below h A
    have zk : (x.kind == 2) = false := by simpa using hk
    have HI := hid (hI.keep A)
    have HA := hid A
    have HIH := hid ih
    have HO := hid ho
    have hB1 : B ≤ (w.alloc (mkN x)).heap.size := Nat.le_trans hB A.size
    have HVR := hid (And.intro hv hr)
    clear hk ih hB h hI ho hv hr A
    go_enter Tryz.func118, Tryz.ntmps118
    go_upto_region 1 with (fail)
    generalize w.alloc (mkN x) = W1 at *
    obtain ⟨q0, q1, q2, q3, q4, q5⟩ := b0.cells
    go_wp2_with fail
    clear q0 q1 q2 q3 q4 q5
    go_loopw [1, 8] (fun ls i wr => ∃ (k : Nat) (a1 : Option Addr) (c1 : Nat), k ≤ x.kids.length ∧ i = .int .i64 k ∧ ls = .slice a1 (gatherL (x.kids.take k) acc).length c1 ∧ Below W1.heap.size W1 wr ∧ OwnT wr B a1 (gatherL (x.kids.take k) acc).length c1 (gatherL (x.kids.take k) acc) ∧ Hid ((∀ z ∈ gatherL (x.kids.take k) acc, thingB 2 z = true) ∧ RiseT (gatherL (x.kids.take k) acc)) ∧ (gatherL (x.kids.take k) acc).length ≤ acc.length + cntL (x.kids.take k)) (fun _ i _ => x.kids.length - (intOf i).toNat)
    case atStart => exact ⟨0, a, c, Nat.zero_le _, rfl, by rw [List.take_zero, gatherL_nil], Below.refl _ _, by rw [List.take_zero, gatherL_nil]; exact h1, by rw [List.take_zero, gatherL_nil]; exact HVR, by rw [List.take_zero, gatherL_nil]; omega⟩
    case round =>
      clear h1
      obtain ⟨k, a1, c1, hk, rfl, rfl, E, oo, HK, hlen⟩ := hrel
      have b0 := b0.below E
      obtain ⟨q0, q1, q2, q3, q4, q5⟩ := b0.cells
      obtain ⟨l, hl1⟩ : ∃ l, gatherL (x.kids.take k) acc = l := ⟨_, rfl⟩
      have HL1 := hid hl1
      rw [hl1] at oo HK hlen ⊢
      clear hl1
      by_cases hlt : k < x.kids.length
      · obtain ⟨y, hy⟩ : ∃ y, x.kids[k]? = some y := ⟨_, List.getElem?_eq_getElem hlt⟩
        have hym := List.mem_of_getElem? hy
        have hIr := HI.out.keep E
        obtain ⟨p0, p1, p2, p3, p4, p5⟩ := hIr.els.nd hy
        have ix := hIr.els.idx ndl cN_len k hlt x.c
        have hle := hIr.els.len
        have hT : x.kids.take (k + 1) = x.kids.take k ++ [y] := by
          obtain ⟨hlt, rfl⟩ := List.getElem?_eq_some_iff.1 hy
          exact List.take_succ_eq_append_getElem hlt
        have hc1 : cntL (x.kids.take (k + 1)) = cntL (x.kids.take k) + cntN y := by rw [hT, cntL_app, cntL_cons, cntL_nil]; rfl
        have hc2 : cntL x.kids = cntL (x.kids.take (k + 1)) + cntL (x.kids.drop (k + 1)) := by rw [← cntL_app, List.take_append_drop]
        have GN := gather_ok (HO.out.kid y hym) HK.out.1 HK.out.2
        have A := al wr (mkN y)
        have CY := hid (HIH.out y hym l a1 c1 B wr (HO.out.kid y hym) (hIr.kid y hym) (Nat.le_trans hB1 E.size) oo HK.out.1 HK.out.2 (by omega))
        have HT := hid (show gatherL (x.kids.take (k + 1)) acc = gatherN y l by rw [gatherL_take hy, HL1.out])
        have HG := hid (And.intro (And.intro GN.1 GN.2.1) (show (gatherN y l).length ≤ acc.length + cntL (x.kids.take (k + 1)) by have := GN.2.2.2; omega))
        clear hy hym hIr GN hT hc1 hc2
        go_wp2_with fail
        refine CY.out.mono ?_
        rintro e w2 ⟨a2, c2, rfl, o2, E2⟩
        have E2 := E.trans (E2.mono E.size)
        clear oo E b0 CY A q0 q1 q2 q3 q4 q5 p0 p1 p2 p3 p4 p5 ix
        go_wp2_with fail
        go_roundw
        case rel =>
          refine ⟨k + 1, a2, c2, by omega, by go_num, ?_, E2, ?_, ?_, ?_⟩
          · rw [HT.out]
          · rw [HT.out]; exact o2
          · rw [HT.out]; exact HG.out.1
          · rw [HT.out]; exact HG.out.2
        case measure => simp [intOf]; omega
      · obtain rfl : k = x.kids.length := by omega
        have HE := hid (show gatherL x.kids acc = l by rw [← HL1.out, List.take_length])
        go_wp2_with fail
        (try go_simp)
        go_ret
        rw [HE.out]
        exact ⟨a1, c1, rfl, oo, HA.out.trans (E.mono HA.out.size)⟩
set_option maxRecDepth 100000 in
set_option maxHeartbeats 3200000 in
theorem r08Things (q : Int) (x : Nd) (w : World) (hI : NdIn w x) : Calls Tryz.prog 77 #[vC q x] w (RetThE w (thingsC q x) (condE 2 q x)) := by
  have B := al w (mkC q x)
  have b0 : BxL (w.alloc (mkC q x)) w.heap.size (cC q x) := BxL.new w _ _
  have CH := r08Check 2 q x (w.alloc (mkC q x)) (hI.keep B)
  obtain ⟨r, hr⟩ : ∃ r, condE 2 q x = r := ⟨_, rfl⟩
  rw [hr] at CH ⊢
  by_cases h0 : r = 0
  · subst h0
    obtain ⟨-, hq1, hq2, ho, hn⟩ := cond_ok hr
    have hT := hid (show thingsC q x = thingsN x by unfold thingsC; rw [if_pos hr])
    have CH := hid CH
    have HI := hid (hI.keep B)
    have HO := hid ho
    clear hr hI ho
    go_enter Tryz.func77, Tryz.ntmps77
    go_wp2_with fail
    refine CH.out.mono ?_
    rintro e1 w1 ⟨rfl, E1⟩
    obtain ⟨q0, q1, q2, q3, q4, q5, q6⟩ := (b0.below E1).cC
    have hI := HI.out.keep E1
    have B := B.trans (E1.mono B.size)
    have TH := hid (r08Gather x [] none 0 w.heap.size w1 HO.out hI B.size (Own.nil _ _ _ _) (by simp) List.Pairwise.nil (by simp; omega))
    clear E1 CH HI hI
    go_wp2_with fail
    refine TH.out.mono ?_
    rintro e2 w2 ⟨a, c, rfl, o2, E2⟩
    have B2 := B.trans (E2.mono B.size)
    have HZ := hid (And.intro o2 B2)
    clear q0 q1 q2 q3 q4 q5 q6 o2 TH E2 B2
    go_wp2_with fail
    go_ret2
    rw [hT.out]
    exact ⟨a, c, rfl, HZ.out.1, HZ.out.2⟩
  · have hT := hid (show thingsC q x = [] by unfold thingsC; rw [if_neg (by rw [hr]; exact h0)])
    have z : (r != 0) = true := by simpa using h0
    have CH := hid CH
    clear hr hI h0
    go_enter Tryz.func77, Tryz.ntmps77
    go_wp2_with fail
    refine CH.out.mono ?_
    rintro e1 w1 ⟨rfl, E1⟩
    have B := B.trans (E1.mono B.size)
    go_wp2_with fail
    go_ret2
    exact RetThE.none hT.out rfl B
end Go.Proofs.YthaibjefnclkjaaGreatDoor
namespace Go.Proofs.YthaibjefnclkjaaGreatDoor
open Go.RowKit Go.Sort
set_option linter.unusedVariables false

set_option maxRecDepth 100000 in
set_option maxHeartbeats 3200000 in
theorem r13Locs0 (t : Tst) (hi : t.init.length ≤ 1024) (hc : t.code.length ≤ 16) (hr : ∀ x ∈ t.code, x.l.length ≤ 256) (w : World) (h : TsIn w t) :
    Calls Tryz.prog 42 #[vT t] w (RetS w.heap.size w (namesT t)) := by
  have A := al w (mkT t)
  have b0 := BxT.new w t
  have HI := hid (h.keep A)
  have HA := hid A
  have HR := hid hr
  clear h A hr
  go_enter Tryz.func42, Tryz.ntmps42
  go_upto_region 1 with (fail)
  generalize w.alloc (mkT t) = W1 at *
  go_wp2_with fail
  go_loopw [3, 4] (fun o i wr => ∃ (k : Nat) (a : Option Addr) (c : Nat) (L : List Tx), k ≤ t.init.length ∧ i = .int .i64 k ∧ o = .slice a L.length c ∧ Below W1.heap.size W1 wr ∧ OwnS wr W1.heap.size a L.length c L ∧ L.length ≤ 2 * k ∧ Hid (L = foldX [] (rawI (t.init.take k)))) (fun _ i _ => t.init.length - (intOf i).toNat)
  case atStart => exact ⟨0, none, 0, [], by omega, rfl, rfl, Below.refl _ _, Own.nil _ _ _ _, by simp, rfl⟩
  case round =>
    obtain ⟨k, a, c, L, hk, rfl, rfl, E, o, hl, HL⟩ := hrel
    obtain ⟨c0, c1, c2, c3, c4, c5, c6, c7, c8, c9, c10, c11⟩ := (b0.below E).cells
    by_cases hlt : k < t.init.length
    · obtain ⟨x, hx⟩ : ∃ x, t.init[k]? = some x := ⟨_, List.getElem?_eq_getElem hlt⟩
      obtain ⟨p0, p1, p2, p3, p4⟩ := (HI.out.init.below E).ini hx
      have ix := HI.out.init.idx inil cIni_len k hlt t.ic
      have P1 := hid (r13Put x.loc L a c W1.heap.size wr E.size o (by omega))
      have hl2 := putX_len L x.loc
      have hl3 := putX_len (putX L x.loc) x.vloc
      have HT := hid (show putX (putX L x.loc) x.vloc = foldX [] (rawI (t.init.take (k + 1))) by rw [rawI_step hx, ← HL.out])
      have HX := hid hx
      clear hx
      go_wp2_with fail
      refine P1.out.mono ?_
      rintro e w2 ⟨a2, c2', rfl, o2, E2⟩
      have E := E.trans (E2.mono E.size)
      clear c0 c1 c2 c3 c4 c5 c6 c7 c8 c9 c10 c11 p0 p1 p2 p3 p4 o E2 P1
      obtain ⟨c0, c1, c2, c3, c4, c5, c6, c7, c8, c9, c10, c11⟩ := (b0.below E).cells
      obtain ⟨p0, p1, p2, p3, p4⟩ := (HI.out.init.below E).ini HX.out
      have P1 := hid (r13Put x.vloc (putX L x.loc) a2 c2' W1.heap.size w2 E.size o2 (by omega))
      go_wp2_with fail
      refine P1.out.mono ?_
      rintro e w3 ⟨a3, c3', rfl, o3, E3⟩
      have E := E.trans (E3.mono E.size)
      clear c0 c1 c2 c3 c4 c5 c6 c7 c8 c9 c10 c11 p0 p1 p2 p3 p4 o2 E3 P1 ix
      go_wp2_with fail
      go_roundw
      case rel => exact ⟨k + 1, a3, c3', _, by omega, by go_num, rfl, E, o3, by omega, HT⟩
      case measure => simp [intOf]; omega
    · obtain rfl : k = t.init.length := by omega
      have HL := hid (show L = foldX [] (rawI t.init) by rw [HL.out, List.take_length])
      have hl : L.length ≤ 2048 := by omega
      clear hlt hk
      go_wp2_with fail
      clear c0 c1 c2 c3 c4 c5 c6 c7 c8 c9 c10 c11
      go_loopw [3, 5] (fun o i wr => ∃ (k : Nat) (a : Option Addr) (c : Nat) (M : List Tx), k ≤ t.code.length ∧ i = .int .i64 k ∧ o = .slice a M.length c ∧ Below W1.heap.size W1 wr ∧ OwnS wr W1.heap.size a M.length c M ∧ M.length ≤ 2048 + 256 * k ∧ Hid (M = foldX L (rawC (t.code.take k)))) (fun _ i _ => t.code.length - (intOf i).toNat)
      case atStart => exact ⟨0, a, c, L, by omega, rfl, rfl, E, o, by omega, rfl⟩
      case round =>
        clear E o
        obtain ⟨k, a, c, M, hk, rfl, rfl, E, o, hm, HM⟩ := hrel
        obtain ⟨c0, c1, c2, c3, c4, c5, c6, c7, c8, c9, c10, c11⟩ := (b0.below E).cells
        by_cases hlt : k < t.code.length
        · obtain ⟨x, hx⟩ : ∃ x, t.code[k]? = some x := ⟨_, List.getElem?_eq_getElem hlt⟩
          have iy := HI.out.code.cdx k hlt t.cc
          have HXI := hid (HI.out.rows x (List.mem_of_getElem? hx))
          have hx256 := HR.out x (List.mem_of_getElem? hx)
          have HX := hid hx
          have HT := hid (show foldX M (x.l.map (·.loc)) = foldX L (rawC (t.code.take (k + 1))) by rw [rawC_step hx, ← HM.out])
          clear hx
          go_wp2_with fail
          clear c0 c1 c2 c3 c4 c5 c6 c7 c8 c9 c10 c11
          go_loopw [3, 6] (fun o i wr => ∃ (j : Nat) (a : Option Addr) (c : Nat) (N : List Tx), j ≤ x.l.length ∧ i = .int .i64 j ∧ o = .slice a N.length c ∧ Below W1.heap.size W1 wr ∧ OwnS wr W1.heap.size a N.length c N ∧ N.length ≤ M.length + j ∧ Hid (N = foldX M ((x.l.take j).map (·.loc)))) (fun _ i _ => x.l.length - (intOf i).toNat)
          case atStart => exact ⟨0, a, c, M, by omega, rfl, rfl, E, o, by omega, rfl⟩
          case round =>
            clear E o
            obtain ⟨j, a, c, N, hj, rfl, rfl, E, o, hnl, HN⟩ := hrel
            obtain ⟨c0, c1, c2, c3, c4, c5, c6, c7, c8, c9, c10, c11⟩ := (b0.below E).cells
            have p0 := (HI.out.code.below E).cd HX.out
            by_cases hjt : j < x.l.length
            · obtain ⟨i, hi⟩ : ∃ i, x.l[j]? = some i := ⟨_, List.getElem?_eq_getElem hjt⟩
              obtain ⟨q0, q1, q2, q3, q4, q5, q6, q7⟩ := (HXI.out.is.below E).cells hi
              have ix := (HXI.out.is.below E).idx j hjt x.c
              have P1 := hid (r13Put i.loc N a c W1.heap.size wr E.size o (by omega))
              have hl2 := putX_len N i.loc
              have HT2 := hid (show putX N i.loc = foldX M ((x.l.take (j + 1)).map (·.loc)) by rw [mapL_step (·.loc) hi, ← HN.out])
              clear hi
              go_wp2_with fail
              refine P1.out.mono ?_
              rintro e w2 ⟨a2, c2', rfl, o2, E2⟩
              have E := E.trans (E2.mono E.size)
              clear c0 c1 c2 c3 c4 c5 c6 c7 c8 c9 c10 c11 p0 q0 q1 q2 q3 q4 q5 q6 q7 o E2 P1 ix
              go_wp2_with fail
              go_roundw
              case rel => exact ⟨j + 1, a2, c2', _, by omega, by go_num, rfl, E, o2, by omega, HT2⟩
              case measure => simp [intOf]; omega
            · obtain rfl : j = x.l.length := by omega
              have HT2 := hid (show N = foldX L (rawC (t.code.take (k + 1))) by rw [← HT.out, HN.out, List.take_length])
              go_wp2_with fail
              go_roundw
              case rel => exact ⟨k + 1, a, c, N, by omega, by go_num, rfl, E, o, by omega, HT2⟩
              case measure => simp [intOf]; omega
        · obtain rfl : k = t.code.length := by omega
          have HM := hid (show M = foldX L (rawC t.code) by rw [HM.out, List.take_length])
          have hm : M.length ≤ 6144 := by omega
          have TH := hid (r08Things t.q t.node wr (HI.out.node.keep E))
          have htl := thingsC_len t.q t.node
          clear hlt hk
          obtain ⟨T, hT⟩ : ∃ T, thingsC t.q t.node = T := ⟨_, rfl⟩
          rw [hT] at TH htl
          have HTT := hid hT
          clear hT
          go_wp2_with fail
          refine TH.out.mono ?_
          rintro e w2 ⟨a2, c2', rfl, o2, E2⟩
          have els := (Own.els o2 cTh_len (by omega) (by omega)).1
          have HEL := hid els
          have o := Own.below o E2
          have HLT := hid E2.size
          have E := E.trans (E2.mono E.size)
          have E3 := hid E
          clear c0 c1 c2 c3 c4 c5 c6 c7 c8 c9 c10 c11 o2 E2 TH els
          go_wp2_with fail
          obtain ⟨W3, hW3⟩ : ∃ W3, w2 = W3 := ⟨_, rfl⟩
          go_loopw [3, 9] (fun o i wr => ∃ (j : Nat) (a : Option Addr) (c : Nat) (N : List Tx), j ≤ T.length ∧ i = .int .i64 j ∧ o = .slice a N.length c ∧ Below W1.heap.size W1 wr ∧ Els cTh wr a2 T ∧ OwnS wr W1.heap.size a N.length c N ∧ N.length ≤ M.length + j ∧ Hid (N = foldX M ((T.take j).map (·.loc)))) (fun _ i _ => T.length - (intOf i).toNat)
          case atStart => exact ⟨0, a, c, M, by omega, rfl, rfl, E, HEL.out, o, by omega, rfl⟩
          case round =>
            clear E o
            obtain ⟨j, a, c, N, hj, rfl, rfl, E, els, o, hnl, HN⟩ := hrel
            by_cases hjt : j < T.length
            · obtain ⟨x, hx⟩ : ∃ x, T[j]? = some x := ⟨_, List.getElem?_eq_getElem hjt⟩
              obtain ⟨q0, q1, q2⟩ := els.th hx
              have ix := els.idx thl cTh_len j hjt c2'
              have P1 := hid (r13Put x.loc N a c W1.heap.size wr E.size o (by omega))
              have hl2 := putX_len N x.loc
              have HT2 := hid (show putX N x.loc = foldX M ((T.take (j + 1)).map (·.loc)) by rw [mapL_step (·.loc) hx, ← HN.out])
              clear hx
              go_wp2_with fail
              refine P1.out.mono ?_
              rintro e w4 ⟨a4, c4', rfl, o4, E4⟩
              have E := E.trans (E4.mono E.size)
              have els := els.below E4
              clear q0 q1 q2 o E4 P1 ix
              go_wp2_with fail
              go_roundw
              case rel => exact ⟨j + 1, a4, c4', _, by omega, by go_num, rfl, E, els, o4, by omega, HT2⟩
              case measure => simp [intOf]; omega
            · obtain rfl : j = T.length := by omega
              have HZ := hid (show N = namesT t by
                rw [namesT_eq, ← HL.out, ← HM.out, HN.out, List.take_length]; unfold askT; rw [HTT.out])
              go_wp2_with fail
              (try go_simp)
              go_ret
              rw [← HZ.out]
              exact ⟨a, c, rfl, Own.mono o HA.out.size, HA.out.trans (E.mono HA.out.size)⟩
end Go.Proofs.YthaibjefnclkjaaGreatDoor
namespace Go.Proofs.YthaibjefnclkjaaGreatDoor
open Go.RowKit Go.Sort
set_option linter.unusedVariables false

set_option maxRecDepth 100000 in
set_option maxHeartbeats 3200000 in
theorem r13Asked (t : Tst) (hn : t.code.length ≤ 1000) (w : World) (h : TsIn w t) : Calls Tryz.prog 54 #[vT t] w (Ret w (.int .i64 (askE t))) := by
  have A := al w (mkT t)
  have b0 := BxT.new w t
  have HI := hid (h.keep A)
  have HA := hid A
  have CH := r08Check t.arch t.q t.node _ (h.keep A).node
  obtain ⟨r, hr⟩ : ∃ r, condE t.arch t.q t.node = r := ⟨_, rfl⟩
  rw [hr] at CH
  have CH := hid CH
  have HAE := hid (show askE t = if r ≠ 0 then r else if (askT t).any fun x => decide ((t.code.length : Int) ≤ x.thread) then 80 else 0 by unfold askE; rw [hr])
  clear h A hr
  go_enter Tryz.func54, Tryz.ntmps54
  go_upto_region 1 with (fail)
  generalize w.alloc (mkT t) = W1 at *
  obtain ⟨c0, c1, c2, c3, c4, c5, c6, c7, c8, c9, c10, c11⟩ := b0.cells
  go_wp2_with fail
  refine CH.out.mono ?_
  rintro e w2 ⟨rfl, E⟩
  clear c0 c1 c2 c3 c4 c5 c6 c7 c8 c9 c10 c11 CH
  by_cases h0 : r = 0
  · subst h0
    have HAE := hid (show askE t = if (askT t).any fun x => decide ((t.code.length : Int) ≤ x.thread) then 80 else 0 by rw [HAE.out, if_neg (by omega)])
    obtain ⟨c0, c1, c2, c3, c4, c5, c6, c7, c8, c9, c10, c11⟩ := (b0.below E).cells
    have TH := hid (r08Things t.q t.node w2 (HI.out.node.keep E))
    have htl : (thingsC t.q t.node).length ≤ 1024 := thingsC_len t.q t.node
    obtain ⟨T, hT⟩ : ∃ T, thingsC t.q t.node = T := ⟨_, rfl⟩
    rw [hT] at TH htl
    have HAE := hid (show askE t = if T.any fun x => decide ((t.code.length : Int) ≤ x.thread) then 80 else 0 by rw [HAE.out]; unfold askT; rw [hT])
    clear hT
    go_wp2_with fail
    refine TH.out.mono ?_
    rintro e w3 ⟨a2, c2', rfl, o2, E2⟩
    have els := (Own.els o2 cTh_len (by omega) (by omega)).1
    have E := E.trans (E2.mono E.size)
    clear c0 c1 c2 c3 c4 c5 c6 c7 c8 c9 c10 c11 o2 E2 TH
    go_wp2_with fail
    go_loopw [6] (fun i wr => ∃ j : Nat, j ≤ T.length ∧ i = .int .i64 j ∧ Below W1.heap.size W1 wr ∧ Els cTh wr a2 T ∧ Hid (∀ (m : Nat) (x : Th), m < j → T[m]? = some x → x.thread < t.code.length)) (fun i _ => T.length - (intOf i).toNat)
    case atStart => exact ⟨0, by omega, rfl, E, els, fun m x hm => absurd hm (Nat.not_lt_zero m)⟩
    case round =>
      clear E els
      obtain ⟨j, hj, rfl, E, els, HJ⟩ := hrel
      by_cases hjt : j < T.length
      · obtain ⟨x, hx⟩ : ∃ x, T[j]? = some x := ⟨_, List.getElem?_eq_getElem hjt⟩
        obtain ⟨q0, q1, q2⟩ := els.th hx
        have ix := els.idx thl cTh_len j hjt c2'
        obtain ⟨c0, c1, c2, c3, c4, c5, c6, c7, c8, c9, c10, c11⟩ := (b0.below E).cells
        have HX := hid hx
        clear hx
        go_wp2_with fail
        have q0 := cell_regrown q0; have c4 := cell_regrown c4
        refine wp_region_quiet_below (by kernel_rfl) (by kernel_rfl) ?_
        repeat (go_big_quiet_step (fail))
        refine wpQuiet_nil ?_
        intro _ hw'
        obtain ⟨⟨dq, osq⟩, hw''⟩ := hw'
        subst hw''
        have EQ := below_regrown wr dq osq
        generalize grow (redrawn wr dq) osq = W5 at *
        have E := E.trans (EQ.mono E.size)
        have els := els.below EQ
        clear q0 q1 q2 c0 c1 c2 c3 c4 c5 c6 c7 c8 c9 c10 c11 EQ ix
        by_cases hth : (t.code.length : Int) ≤ x.thread
        · have HZ := hid (show askE t = 80 by rw [HAE.out, if_pos]; rw [List.any_eq_true]; exact ⟨x, List.mem_of_getElem? HX.out, by simpa using hth⟩)
          go_wp2_with fail
          go_ret
          rw [HZ.out]
          exact ⟨rfl, HA.out.trans (E.mono HA.out.size)⟩
        · have hth' : x.thread < t.code.length := by omega
          have HJ2 : ∀ (m : Nat) (y : Th), m < j + 1 → T[m]? = some y → y.thread < t.code.length := fun m y hm hy => by
            rcases Nat.lt_succ_iff_lt_or_eq.1 hm with h | h
            · exact HJ.out m y h hy
            · subst h; rw [HX.out] at hy; cases hy; exact hth'
          have HJ2 := hid HJ2
          clear HJ
          go_wp2_with fail
          go_roundw
          case rel => exact ⟨j + 1, by omega, by go_num, E, els, HJ2⟩
          case measure => simp [intOf]; omega
      · obtain rfl : j = T.length := by omega
        have HZ := hid (show askE t = 0 by
          rw [HAE.out, if_neg]
          rw [List.any_eq_true]
          rintro ⟨x, hx, h2⟩
          obtain ⟨k, hk⟩ := List.mem_iff_getElem?.1 hx
          have := HJ.out k x (List.getElem?_eq_some_iff.1 hk).1 hk
          simp at h2; omega)
        go_wp2_with fail
        go_ret
        rw [HZ.out]
        exact ⟨rfl, HA.out.trans (E.mono HA.out.size)⟩
  · have z : (r != 0) = true := by simpa using h0
    have HZ := hid (show askE t = r by rw [HAE.out, if_pos h0])
    clear h0
    go_wp2_with fail
    go_ret
    rw [HZ.out]
    exact ⟨rfl, HA.out.trans (E.mono HA.out.size)⟩
end Go.Proofs.YthaibjefnclkjaaGreatDoor
namespace Go.Proofs.YthaibjefnclkjaaGreatDoor
open Go.RowKit Go.Sort
set_option linter.unusedVariables false

set_option maxRecDepth 100000 in
set_option maxHeartbeats 1600000 in
theorem r11Titled (l : Tx) (hl : l.length ≤ 9223372036854775807) (w : World) : Calls Tryz.prog 50 #[.string (tx l)] w fun e w' => e = .returned (.bool (titleB l)) ∧ w = w' := by
  obtain ⟨n, hn⟩ : ∃ n, (tx l).size = n := ⟨_, rfl⟩
  have hln : l.length = n := by rw [← hn, tx_size]
  have HN := hid hln
  rw [hln] at hl
  clear hln
  by_cases hb : n < 1 ∨ 1024 < n
  · have HF := hid (show titleB l = false by unfold titleB; rw [HN.out]; rcases hb with h | h <;> simp <;> omega)
    rcases hb with h | h
    all_goals
      go_enter Tryz.func50, Tryz.ntmps50
      go_wp2_with fail
      go_ret
      exact ⟨ret_bool HF.out.symm, rfl⟩
  have hb1 : 1 ≤ n := by omega
  have hb2 : n ≤ 1024 := by omega
  have HT := hid (show titleB l = showB 33 l by unfold titleB; rw [HN.out, decide_eq_true hb1, decide_eq_true hb2]; rfl)
  clear hb
  go_enter Tryz.func50, Tryz.ntmps50
  go_wp2_with fail
  go_loop [3] (fun i => ∃ k : Nat, k ≤ n ∧ i = .int .i64 k ∧ Hid (∀ (i : Nat) (x : UInt8), i < k → l[i]? = some x → showC 33 x = true)) (fun i => n - (intOf i).toNat)
  case atStart => exact ⟨0, by omega, rfl, fun i x hi => absurd hi (Nat.not_lt_zero i)⟩
  case round =>
    obtain ⟨k, hk, rfl, HM⟩ := hrel
    by_cases hlt : k < n
    · obtain ⟨x, hx⟩ : ∃ x, l[k]? = some x := ⟨_, List.getElem?_eq_getElem (by rw [HN.out]; exact hlt)⟩
      have ix := run_ix l k x hx
      have hlt' : x.toNat < 256 := x.toNat_lt
      obtain ⟨m, hm⟩ : ∃ m, x.toNat = m := ⟨_, rfl⟩
      have HC := hid (show showC 33 x = (decide (33 ≤ m) && (decide (m ≤ 126) && decide (m ≠ 34))) by rw [showC_nat, hm])
      rw [hm] at ix hlt'
      have HF := hid (fun h => showB_step (lo := 33) (l := l) (k := k) (c := x) hx h)
      have HM2 : showC 33 x = true → Hid (∀ (i : Nat) (y : UInt8), i < k + 1 → l[i]? = some y → showC 33 y = true) := fun hx' i y hi hy => by
        rcases Nat.lt_succ_iff_lt_or_eq.1 hi with h | h
        · exact HM.out i y h hy
        · subst h; rw [hx] at hy; cases hy; exact hx'
      have HM2 := hid HM2
      clear hm hx HM
      have hp : m < 33 ∨ (33 ≤ m ∧ m = 34) ∨ (33 ≤ m ∧ m ≤ 126 ∧ m ≠ 34) ∨ 126 < m := by omega
      rcases hp with h | ⟨h, h'⟩ | ⟨h, h', h''⟩ | h
      all_goals
        (try (have z34 : ((m : Int) == 34) = false := by simp; omega))
        (try subst h')
        go_wp2_with fail
        first
        | (go_round
           case rel => exact ⟨k + 1, by omega, by go_num, HM2.out (by rw [HC.out]; simp <;> omega)⟩
           case measure => simp [intOf]; omega)
        | (go_ret
           exact ⟨ret_bool ((fun h => (HT.out.trans h).symm) (HF.out (by rw [HC.out]; simp <;> omega))), rfl⟩)
    · have HS := hid (showB_done (lo := 33) (l := l) (fun i x hi => HM.out i x (by
            have h1 := (List.getElem?_eq_some_iff.1 hi).1
            have := HN.out
            omega) hi))
      go_wp2_with fail
      go_ret
      exact ⟨ret_bool (HT.out.trans HS.out).symm, rfl⟩
end Go.Proofs.YthaibjefnclkjaaGreatDoor

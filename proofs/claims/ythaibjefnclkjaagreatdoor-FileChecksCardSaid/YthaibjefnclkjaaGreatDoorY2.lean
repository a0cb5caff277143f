/- The walks of walk and Check of a condition (the document's answer 08). Conditions: the nodes lie in memory as read. The walks of Things (cond) and of Before, gather, Things (the document's answer 08). Conditions: the nodes lie in memory as read. The walk of put (document). Conditions: the row is the call's own. -/
import Derived.Test.YthaibjefnclkjaaGreatDoorZ8
import Derived.Test.YthaibjefnclkjaaGreatDoorY1
import Derived.Test.YthaibjefnclkjaaGreatDoorZ7
import Derived.Test.YthaibjefnclkjaaGreatDoorZ4
import Derived.Test.YthaibjefnclkjaaGreatDoorZ3
import Derived.Test.YthaibjefnclkjaaGreatDoorZ2
import Derived.Test.YthaibjefnclkjaaGreatDoorZ1
import Derived.Test.YthaibjefnclkjaaGreatDoorRows
import Derived.Lib.SlTrimSet
import Derived.Lib.ItoaNum
import Derived.WalkKit
import Derived.WalkSpells
import Derived.WalkLawsBesides
import Derived.Deep.QuietTactic
import Derived.BigQuiet
import Derived.ProofKit
import Derived.OpenShut
import Derived.ShutString
import Derived.ChangeOld
import Derived.Carry
import Derived.SizedLaws
import Derived.Laws.StructEq
import Derived.Shelf.SlicesQ.Load
import Derived.Lib.SplitLaws
import Derived.Lib.Strings
import Derived.Lib.ItoaMem
import Derived.Shelf.Strings.SlTrimAscii
import Derived.Shelf.Small.Strs
import Derived.Shelf.Strconv.Itoa3
import Derived.Shelf.LaysM
import Derived.Shelf.Strings.Prefix
import Derived.Test.YthaibjefnclkjaaGreatDoorProg
import Derived.Lib.ItoaLen
import Derived.WalkSmall
import Derived.Laws.Concat
import Derived.BigRegion
import Derived.StillTailTactics
import Derived.Deep.RegionWith
import Derived.Lib.AtoiAll
import Derived.Deep.DeepCutAuto
import Derived.Test.YthaibjefnclkjaaGreatDoorZ6
import Derived.Test.YthaibjefnclkjaaGreatDoorZ14
import Derived.Test.YthaibjefnclkjaaGreatDoorZ12
import Derived.Test.YthaibjefnclkjaaGreatDoorZ5
import Derived.Lib.Bytealg
import Derived.Laws.IdiomCopy
import Derived.Shelf.Sort.Plain
import Derived.Shelf.Slices.In.SortNone
import Derived.Shelf.Slices.CompactS
import Derived.Shelf.Slices.Clone
import Derived.Shelf.SlSortCmp.NoneTotal
import Derived.Shelf.SlicesE.Clone
import Derived.Shelf.Strings.Repeat
import Derived.Test.YthaibjefnclkjaaGreatDoorZ11
import Derived.Test.YthaibjefnclkjaaGreatDoorZ9
import Derived.Test.YthaibjefnclkjaaGreatDoorZ10
import Derived.Lib.QuietBelow
import Derived.Lib.Builder
import Derived.Lib.AppendStr
import Derived.Lib.UnsafeStr
import Derived.Lib.OthersKept
import Derived.Laws.Externs
import Derived.RegionTactic
import Derived.Test.YthaibjefnclkjaaGreatDoorZ13
import Derived.Deep.RegionHeld3
import Derived.Maps.OwnSet
import Derived.Maps.Views
namespace Go.Proofs.YthaibjefnclkjaaGreatDoor
open Go.RowKit
set_option linter.unusedVariables false

set_option maxRecDepth 100000 in
set_option maxHeartbeats 3200000 in
theorem r08Walk (arch : Int) : ∀ (x : Nd) (met deep : Nat) (w : World), NdIn w x → met ≤ 1024 → deep ≤ 64 →
    Calls Tryz.prog 113 #[.int .i64 arch, vN x, .int .i64 met, .int .i64 deep] w (Ret w (.tuple #[.int .i64 ((walkN arch x met deep).1 : Nat), .int .i64 (walkN arch x met deep).2])) := by
  intro x
  induction x using Nd.ind with
  | h x ih =>
  intro met deep w hI hm hd
  have B := al w (mkN x)
  have b0 := BxN.new w x
  obtain ⟨p, hp⟩ : ∃ p, walkN arch x met deep = p := ⟨_, rfl⟩
  have hq := hp
  rw [walkN_eq] at hq
  rw [hp]
  clear hp
  by_cases h1 : 1024 ≤ met ∨ 64 ≤ deep
  · rw [if_pos h1] at hq
    have HQ := hid hq.symm
    clear hq
    by_cases h2 : 1024 ≤ met
    · have z2 : decide (1024 ≤ met) = true := decide_eq_true h2
      clear h1
      go_enter Tryz.func113, Tryz.ntmps113
      go_wp2_with fail
      go_ret2
      exact ⟨ret_pair (by rw [HQ.out]) (by rw [HQ.out]), (by repeat (first | with_reducible assumption | with_reducible exact Below.refl _ _ | with_reducible refine bel_alloc ?_ _ | with_reducible refine bel_drew ?_ | with_reducible refine bel_drewN ?_ _ | with_reducible refine bel_set ?_ (by dsimp only; omega) _))⟩
    · have z2 : decide (1024 ≤ met) = false := decide_eq_false h2
      have z3 : decide (64 ≤ deep) = true := decide_eq_true (by omega)
      have h3 : 64 ≤ deep := by omega
      clear h1
      go_enter Tryz.func113, Tryz.ntmps113
      go_wp2_with fail
      go_ret2
      exact ⟨ret_pair (by rw [HQ.out]) (by rw [HQ.out]), (by repeat (first | with_reducible assumption | with_reducible exact Below.refl _ _ | with_reducible refine bel_alloc ?_ _ | with_reducible refine bel_drew ?_ | with_reducible refine bel_drewN ?_ _ | with_reducible refine bel_set ?_ (by dsimp only; omega) _))⟩
  · rw [if_neg h1] at hq
    have h2 : met < 1024 := by omega
    have h3 : deep < 64 := by omega
    have z2 : decide (1024 ≤ met) = false := decide_eq_false (by omega)
    have z3 : decide (64 ≤ deep) = false := decide_eq_false (by omega)
    clear h1
    obtain ⟨mb, hmb⟩ : ∃ mb, mayN arch x.kind x.th x.val x.kids.length = mb := ⟨_, rfl⟩
    rw [hmb] at hq
    have CM := hid (show ∀ w, Calls Tryz.prog 144 #[.int .i64 arch, vN x] w (Ret w (.bool mb)) from fun w => hmb ▸ r08Node arch x hI.loc w)
    have HI := hid hI
    have HIH := hid ih
    clear hmb ih hI
    cases mb
    · rw [if_pos rfl] at hq
      have HQ := hid hq.symm
      clear hq
      go_enter Tryz.func113, Tryz.ntmps113
      go_wp2_with fail
      refine (CM.out _).mono ?_
      rintro e w1 ⟨rfl, E1⟩
      have B := B.trans (E1.mono B.size)
      go_wp2_with fail
      go_ret2
      exact ⟨ret_pair (by rw [HQ.out]) (by rw [HQ.out]), (by repeat (first | with_reducible assumption | with_reducible exact Below.refl _ _ | with_reducible refine bel_alloc ?_ _ | with_reducible refine bel_drew ?_ | with_reducible refine bel_drewN ?_ _ | with_reducible refine bel_set ?_ (by dsimp only; omega) _))⟩
    · rw [if_neg (by simp)] at hq
      have HQ := hid hq
      clear hq
      go_enter Tryz.func113, Tryz.ntmps113
      go_wp2_with fail
      refine (CM.out _).mono ?_
      rintro e w1 ⟨rfl, E1⟩
      have b1 := b0.below E1
      have HI1 := hid ((HI.out.keep B).keep E1)
      have B := B.trans (E1.mono B.size)
      clear E1 b0
      go_wp2_with fail
      go_loopw [2, 10] (fun ms i wr => ∃ k m : Nat, k ≤ x.kids.length ∧ i = .int .i64 k ∧ ms = .int .i64 m ∧ m ≤ 1024 ∧ Below w1.heap.size w1 wr ∧ Hid (RestN arch (x.kids.drop k) m (deep + 1) p)) (fun _ i _ => x.kids.length - (intOf i).toNat)
      case atStart => exact ⟨0, met + 1, Nat.zero_le _, rfl, by go_num, by omega, Below.refl _ _, HQ.out⟩
      case round =>
        obtain ⟨k, m, hk, rfl, rfl, hm1, E, HR⟩ := hrel
        have br := b1.below E
        have hlt := br.1
        obtain ⟨q0, q1, q2, q3, q4, q5⟩ := br.cells
        by_cases hlk : k < x.kids.length
        · obtain ⟨y, hy⟩ : ∃ y, x.kids[k]? = some y := ⟨_, List.getElem?_eq_getElem hlk⟩
          have hIr := HI1.out.keep E
          obtain ⟨p0, p1, p2, p3, p4, p5⟩ := hIr.els.nd hy
          have ix := hIr.els.idx ndl cN_len k hlk x.c
          have hyk := hIr.kid y (List.mem_of_getElem? hy)
          have CY := HIH.out y (List.mem_of_getElem? hy) m (deep + 1) wr hyk hm1 (by omega)
          have hle := walk_le arch y m (deep + 1) hm1
          have hst := HR.out
          unfold RestN at hst
          rw [walkL_drop hy] at hst
          rw [show ((deep + 1 : Nat) : Int) = (deep : Int) + 1 by omega] at CY
          generalize walkN arch y m (deep + 1) = r at *
          obtain ⟨m2, e2⟩ := r
          simp only at hst CY hle
          have CY := hid CY
          have hkl := hIr.els.len
          clear hy hyk hIr HR br
          by_cases he : e2 = 0
          · subst he
            rw [if_pos rfl] at hst
            have HST := hid (show RestN arch (x.kids.drop (k + 1)) m2 (deep + 1) p from hst)
            clear hst
            go_wp2_with fail
            refine CY.out.mono ?_
            rintro e w2 ⟨rfl, E2⟩
            have E := E.trans (E2.mono E.size)
            clear q0 q1 q2 q3 q4 q5 p0 p1 p2 p3 p4 p5 ix
            go_wp2_with fail
            go_roundw
            case rel => exact ⟨k + 1, m2, by omega, by go_num, rfl, hle, E, HST⟩
            case measure => simp [intOf]; omega
          · rw [if_neg he] at hst
            have ze : (e2 != 0) = true := by simpa using he
            have HST := hid hst.symm
            clear hst he
            go_wp2_with fail
            refine CY.out.mono ?_
            rintro e w2 ⟨rfl, E2⟩
            have E := E.trans (E2.mono E.size)
            clear q0 q1 q2 q3 q4 q5 p0 p1 p2 p3 p4 p5 ix
            go_wp2_with fail
            go_ret2
            have B := B.trans (E.mono B.size)
            exact ⟨ret_pair (by rw [HST.out]) (by rw [HST.out]), (by repeat (first | with_reducible assumption | with_reducible exact Below.refl _ _ | with_reducible refine bel_alloc ?_ _ | with_reducible refine bel_drew ?_ | with_reducible refine bel_drewN ?_ _ | with_reducible refine bel_set ?_ (by dsimp only; omega) _))⟩
        · obtain rfl : k = x.kids.length := by omega
          have hst := HR.out
          unfold RestN at hst
          rw [List.drop_length, walkL_nil] at hst
          have HST := hid hst.symm
          clear hst HR
          go_wp2_with fail
          go_ret2
          have B := B.trans (E.mono B.size)
          exact ⟨ret_pair (by rw [HST.out]) (by rw [HST.out]), (by repeat (first | with_reducible assumption | with_reducible exact Below.refl _ _ | with_reducible refine bel_alloc ?_ _ | with_reducible refine bel_drew ?_ | with_reducible refine bel_drewN ?_ _ | with_reducible refine bel_set ?_ (by dsimp only; omega) _))⟩
set_option maxRecDepth 100000 in
set_option maxHeartbeats 3200000 in
theorem r08Check (arch q : Int) (x : Nd) (w : World) (hI : NdIn w x) :
    Calls Tryz.prog 72 #[.int .i64 arch, vC q x] w (Ret w (.int .i64 (condE arch q x))) := by
  have B := al w (mkC q x)
  obtain ⟨ab, hab⟩ : ∃ ab, archB arch = ab := ⟨_, rfl⟩
  have CA := hid (show ∀ w, Calls Tryz.prog 112 #[.int .i64 arch] w fun e w' => e = .returned (.bool ab) ∧ w = w' from fun w => hab ▸ r08Known arch w)
  cases ab
  · have HE := hid (condE_arch (q := q) (x := x) hab)
    clear hab
    go_enter Tryz.func72, Tryz.ntmps72
    go_wp2_with (go_at_call 112; refine (CA.out _).mono ?_; rintro e w' ⟨rfl, rfl⟩)
    go_ret
    exact ⟨ret_int HE.out.symm, (by repeat (first | with_reducible assumption | with_reducible exact Below.refl _ _ | with_reducible refine bel_alloc ?_ _ | with_reducible refine bel_drew ?_ | with_reducible refine bel_drewN ?_ _ | with_reducible refine bel_set ?_ (by dsimp only; omega) _))⟩
  · by_cases h1 : q < 1
    · have HE := hid (condE_bad (x := x) hab (.inl h1))
      clear hab
      go_enter Tryz.func72, Tryz.ntmps72
      go_wp2_with (go_at_call 112; refine (CA.out _).mono ?_; rintro e w' ⟨rfl, rfl⟩)
      go_ret
      exact ⟨ret_int HE.out.symm, (by repeat (first | with_reducible assumption | with_reducible exact Below.refl _ _ | with_reducible refine bel_alloc ?_ _ | with_reducible refine bel_drew ?_ | with_reducible refine bel_drewN ?_ _ | with_reducible refine bel_set ?_ (by dsimp only; omega) _))⟩
    by_cases h2 : q ≤ 3
    · have h1 : 1 ≤ q := by omega
      have CW := r08Walk arch x 0 0 (w.alloc (mkC q x)) (hI.keep B) (by omega) (by omega)
      have HE := hid (condE_q (x := x) hab h1 h2)
      generalize walkN arch x 0 0 = r at *
      obtain ⟨m2, e2⟩ := r
      have CW := hid CW
      clear hab hI
      go_enter Tryz.func72, Tryz.ntmps72
      go_wp2_with (first | (go_at_call 112; refine (CA.out _).mono ?_; rintro e w' ⟨rfl, rfl⟩) | (go_at_call 113; refine CW.out.mono ?_; rintro e w2 ⟨rfl, E2⟩; have B := B.trans (E2.mono B.size); clear E2))
      go_ret
      exact ⟨ret_int HE.out.symm, (by repeat (first | with_reducible assumption | with_reducible exact Below.refl _ _ | with_reducible refine bel_alloc ?_ _ | with_reducible refine bel_drew ?_ | with_reducible refine bel_drewN ?_ _ | with_reducible refine bel_set ?_ (by dsimp only; omega) _))⟩
    · have HE := hid (condE_bad (q := q) (x := x) hab (.inr (by omega)))
      have h1 : 1 ≤ q := by omega
      clear hab
      go_enter Tryz.func72, Tryz.ntmps72
      go_wp2_with (go_at_call 112; refine (CA.out _).mono ?_; rintro e w' ⟨rfl, rfl⟩)
      go_ret
      exact ⟨ret_int HE.out.symm, (by repeat (first | with_reducible assumption | with_reducible exact Below.refl _ _ | with_reducible refine bel_alloc ?_ _ | with_reducible refine bel_drew ?_ | with_reducible refine bel_drewN ?_ _ | with_reducible refine bel_set ?_ (by dsimp only; omega) _))⟩
end Go.Proofs.YthaibjefnclkjaaGreatDoor
namespace Go.Proofs.YthaibjefnclkjaaGreatDoor
open Go.RowKit Go.Sort
set_option linter.unusedVariables false

attribute [local go_sem high] eqTh neqTh
/-! ### the document's -/
theorem bytesLess_ltX : ∀ a b : Tx, Op.bytesLess a b = ltX a b
  | [], [] => rfl
  | [], _ :: _ => rfl
  | _ :: _, [] => rfl
  | a :: x, b :: y => by
    unfold Op.bytesLess ltX
    by_cases h : a < b
    · rw [if_pos h, decide_eq_true h]; rfl
    · rw [if_neg h, decide_eq_false h, Bool.false_or]
      by_cases h2 : b < a
      · rw [if_pos h2]
        have : (a == b) = false := by
          rw [beq_eq_false_iff_ne]; intro e; subst e; exact h h2
        rw [this]; rfl
      · rw [if_neg h2, u8_lt_tri h h2, beq_self_eq_true, Bool.true_and]; exact bytesLess_ltX x y
theorem run_ltX (a b : Tx) : ∀ w, (Op.stringOp .lss (tx a) (tx b)).run Tryz.prog w = .ok (.bool (ltX a b)) w := fun w => by
  simp [Op.stringOp, tx_toList, bytesLess_ltX]
set_option maxRecDepth 100000 in
set_option maxHeartbeats 1600000 in
theorem r08Before (x y : VTh) (w : World) : Calls Tryz.prog 157 #[vTh x.1, vTh y.1] w (Ret w (.bool (befT x.1 y.1))) := by
  have hx := vth_cases x; have hy := vth_cases y
  obtain ⟨⟨t1, r1, l1⟩, p1⟩ := x
  obtain ⟨⟨t2, r2, l2⟩, p2⟩ := y
  simp only at hx hy ⊢
  clear p1 p2
  have B := bel_alloc (al w (mkTh ⟨t1, r1, l1⟩)) (mkTh ⟨t2, r2, l2⟩)
  have hlx := run_ltX l1 l2
  have hc : (t1 = -1 ∧ t2 = -1 ∧ r1 = r2 ∧ befT ⟨t1, r1, l1⟩ ⟨t2, r2, l2⟩ = ltX l1 l2) ∨ (t1 = -1 ∧ 0 ≤ t2 ∧ befT ⟨t1, r1, l1⟩ ⟨t2, r2, l2⟩ = false) ∨ (0 ≤ t1 ∧ t2 = -1 ∧ befT ⟨t1, r1, l1⟩ ⟨t2, r2, l2⟩ = true) ∨ (0 ≤ t1 ∧ 0 ≤ t2 ∧ t1 ≠ t2 ∧ befT ⟨t1, r1, l1⟩ ⟨t2, r2, l2⟩ = decide (t1 < t2)) ∨ (0 ≤ t1 ∧ 0 ≤ t2 ∧ t1 = t2 ∧ r1 ≠ r2 ∧ befT ⟨t1, r1, l1⟩ ⟨t2, r2, l2⟩ = decide (r1 < r2)) ∨ (0 ≤ t1 ∧ 0 ≤ t2 ∧ t1 = t2 ∧ r1 = r2 ∧ befT ⟨t1, r1, l1⟩ ⟨t2, r2, l2⟩ = ltX l1 l2) := by
    unfold befT
    simp only
    by_cases a1 : t1 = -1
    · by_cases b1 : t2 = -1
      · left; refine ⟨a1, b1, by omega, ?_⟩
        rw [if_neg (by simp [a1, b1]), if_neg (by simp [a1, b1]), if_neg (by omega)]
      · right; left; refine ⟨a1, by omega, ?_⟩
        rw [if_pos (by simp [a1, b1])]; simpa using b1
    · by_cases b1 : t2 = -1
      · right; right; left; refine ⟨by omega, b1, ?_⟩
        rw [if_pos (by simp [a1, b1])]; simpa using b1
      · right; right; right
        have n1 : ¬ ((t1 = -1) ≠ (t2 = -1)) := by simp [a1, b1]
        rw [if_neg (c := (t1 = -1) ≠ (t2 = -1)) n1]
        by_cases h : t1 = t2
        · by_cases h2 : r1 = r2
          · right; right; refine ⟨by omega, by omega, h, h2, ?_⟩; rw [if_neg (by omega), if_neg (by omega)]
          · right; left; refine ⟨by omega, by omega, h, h2, ?_⟩; rw [if_neg (by omega), if_pos h2]
        · left; refine ⟨by omega, by omega, h, ?_⟩; rw [if_pos h]
  clear hx hy
  rcases hc with ⟨a1, b1, h, e⟩ | ⟨a1, b1, e⟩ | ⟨a1, b1, e⟩ | ⟨a1, b1, h, e⟩ | ⟨a1, b1, h, h2, e⟩ | ⟨a1, b1, h, h2, e⟩
  · rw [e]; clear e
    subst a1 b1 h
    go_enter Tryz.func157, Tryz.ntmps157
    go_wp2_with fail
    go_ret
    exact ⟨ret_bool (by rw [tx_toList, tx_toList, bytesLess_ltX]), (by repeat (first | with_reducible assumption | with_reducible exact Below.refl _ _ | with_reducible refine bel_alloc ?_ _ | with_reducible refine bel_drew ?_ | with_reducible refine bel_drewN ?_ _ | with_reducible refine bel_set ?_ (by dsimp only; omega) _))⟩
  · rw [e]; clear e
    subst a1
    have z2 : (t2 == -1) = false := by simp; omega
    go_enter Tryz.func157, Tryz.ntmps157
    go_wp2_with fail
    go_ret
    exact ⟨rfl, (by repeat (first | with_reducible assumption | with_reducible exact Below.refl _ _ | with_reducible refine bel_alloc ?_ _ | with_reducible refine bel_drew ?_ | with_reducible refine bel_drewN ?_ _ | with_reducible refine bel_set ?_ (by dsimp only; omega) _))⟩
  · rw [e]; clear e
    subst b1
    have z2 : (t1 == -1) = false := by simp; omega
    go_enter Tryz.func157, Tryz.ntmps157
    go_wp2_with fail
    go_ret
    exact ⟨rfl, (by repeat (first | with_reducible assumption | with_reducible exact Below.refl _ _ | with_reducible refine bel_alloc ?_ _ | with_reducible refine bel_drew ?_ | with_reducible refine bel_drewN ?_ _ | with_reducible refine bel_set ?_ (by dsimp only; omega) _))⟩
  · rw [e]; clear e
    have z1 : (t1 == -1) = false := by simp; omega
    have z2 : (t2 == -1) = false := by simp; omega
    have z3 : (t1 != t2) = true := by simpa using h
    clear h
    go_enter Tryz.func157, Tryz.ntmps157
    go_wp2_with fail
    go_ret
    exact ⟨rfl, (by repeat (first | with_reducible assumption | with_reducible exact Below.refl _ _ | with_reducible refine bel_alloc ?_ _ | with_reducible refine bel_drew ?_ | with_reducible refine bel_drewN ?_ _ | with_reducible refine bel_set ?_ (by dsimp only; omega) _))⟩
  · rw [e]; clear e
    subst h
    have z1 : (t1 == -1) = false := by simp; omega
    have z3 : (t1 != t1) = false := by simp
    have z4 : (r1 != r2) = true := by simpa using h2
    clear h2
    go_enter Tryz.func157, Tryz.ntmps157
    go_wp2_with fail
    go_ret
    exact ⟨rfl, (by repeat (first | with_reducible assumption | with_reducible exact Below.refl _ _ | with_reducible refine bel_alloc ?_ _ | with_reducible refine bel_drew ?_ | with_reducible refine bel_drewN ?_ _ | with_reducible refine bel_set ?_ (by dsimp only; omega) _))⟩
  · rw [e]; clear e
    subst h h2
    have z1 : (t1 == -1) = false := by simp; omega
    have z3 : (t1 != t1) = false := by simp
    have z4 : (r1 != r1) = false := by simp
    go_enter Tryz.func157, Tryz.ntmps157
    go_wp2_with fail
    go_ret
    exact ⟨ret_bool (by rw [tx_toList, tx_toList, bytesLess_ltX]), (by repeat (first | with_reducible assumption | with_reducible exact Below.refl _ _ | with_reducible refine bel_alloc ?_ _ | with_reducible refine bel_drew ?_ | with_reducible refine bel_drewN ?_ _ | with_reducible refine bel_set ?_ (by dsimp only; omega) _))⟩
end Go.Proofs.YthaibjefnclkjaaGreatDoor
namespace Go.Proofs.YthaibjefnclkjaaGreatDoor
open Go.RowKit Go.Sort
set_option linter.unusedVariables false

def RetS (B : Nat) (w : World) (l : List Tx) (e : Ending) (w' : World) : Prop :=
  ∃ a c, e = .returned (.slice a l.length c) ∧ OwnS w' B a l.length c l ∧ Below w.heap.size w w'
set_option maxRecDepth 100000 in
set_option maxHeartbeats 6400000 in
theorem r13Put (s : Tx) (acc : List Tx) (a : Option Addr) (c : Nat) (B : Nat) (w : World) (hB : B ≤ w.heap.size)
    (h : OwnS w B a acc.length c acc) (hl : acc.length ≤ 10000) :
    Calls Tryz.prog 76 #[.slice a acc.length c, .string (tx s)] w (RetS B w (putX acc s)) := by
  by_cases hs : s = []
  · subst hs
    have z : ((tx []).toList == ([] : List UInt8)) = true := by rw [tx_toList]; rfl
    have HZ := hid (show putX acc [] = acc by unfold putX; rw [if_pos rfl])
    have H := hid h
    clear h
    go_enter Tryz.func76, Tryz.ntmps76
    go_wp2_with fail
    go_ret
    rw [HZ.out]
    exact ⟨a, c, rfl, H.out, Below.refl _ _⟩
  have z5 : ((tx s).toList == ([] : List UInt8)) = false := by rw [tx_toList]; simpa using hs
  have z6 : (tx s).toList.isEmpty = false := by rw [tx_toList]; cases s <;> simp at *
  obtain ⟨n, hn⟩ : ∃ n, acc.length = n := ⟨_, rfl⟩
  have HN := hid hn
  rw [hn] at h hl ⊢
  have H1 := hid h
  have HB := hid hB
  have HS := hid hs
  clear hB h hn hs
  go_enter Tryz.func76, Tryz.ntmps76
  go_wp2_with fail
  clear z5 z6
  go_loopw [5, 6, 7] (fun out put i wr => ∃ (k : Nat) (ao : Option Addr) (co : Nat), k ≤ n ∧ i = .int .i64 k ∧ put = .bool ((acc.take k).any (ltX s)) ∧ out = .slice ao (outX s (acc.take k)).length co ∧ Below w.heap.size w wr ∧ OwnS wr w.heap.size ao (outX s (acc.take k)).length co (outX s (acc.take k)) ∧ Hid (s ∉ acc.take k)) (fun _ _ i _ => n - (intOf i).toNat)
  case atStart => exact ⟨0, none, 0, Nat.zero_le _, rfl, rfl, rfl, Below.refl _ _, Own.nil _ _ _ _, by simp [Hid]⟩
  case round =>
    obtain ⟨k, ao, co, hk, rfl, rfl, rfl, E1, oo, HNm⟩ := hrel
    have hol := outX_len s (acc.take k)
    obtain ⟨L, hL⟩ : ∃ L, outX s (acc.take k) = L := ⟨_, rfl⟩
    obtain ⟨f, hf⟩ : ∃ f, (acc.take k).any (ltX s) = f := ⟨_, rfl⟩
    obtain ⟨m, hm⟩ : ∃ m, L.length = m := ⟨_, rfl⟩
    have HFL := hid (And.intro hL hf)
    have HM := hid hm
    rw [hL] at oo hol ⊢
    rw [hf]
    rw [hm] at oo hol ⊢
    rw [List.length_take] at hol
    clear hL hf hm
    by_cases hlt : k < n
    · obtain ⟨y, hy⟩ : ∃ y, acc[k]? = some y := ⟨_, List.getElem?_eq_getElem (by rw [HN.out]; exact hlt)⟩
      have HY := hid hy
      have tt := OwnS.txs (Own.below H1.out E1) (by have := HN.out; omega)
      have p0 := tt.at hy
      have ix := tt.idx k (by rw [HN.out]; exact hlt) c
      rw [HN.out] at ix
      obtain ⟨d, hd⟩ : ∃ d, ((tx y).toList == (tx s).toList) = d := ⟨_, rfl⟩
      obtain ⟨g, hg⟩ : ∃ g, Op.bytesLess (tx s).toList (tx y).toList = g := ⟨_, rfl⟩
      have HD := hid (show decide (y = s) = d by rw [← hd, tx_beq, Bool.eq_iff_iff]; simp)
      have HG := hid (show ltX s y = g by rw [← hg, tx_toList, tx_toList, bytesLess_ltX])
      clear hy tt
      cases d with
      | true =>
        have HZ := hid (show putX acc s = acc ∧ acc.length = n from ⟨by
          unfold putX; rw [if_neg HS.out, if_pos (by rw [← of_decide_eq_true HD.out]; exact List.mem_of_getElem? HY.out)], HN.out⟩)
        go_wp2_with fail
        (try go_simp)
        go_ret
        refine ⟨a, c, ?_, ?_, E1⟩
        · rw [HZ.out.1, HZ.out.2]; first | done | rfl
        · rw [HZ.out.1, HZ.out.2]; exact Own.below H1.out E1
      | false =>
        have TK := hid (show acc.take (k + 1) = acc.take k ++ [y] by
          obtain ⟨hlt, rfl⟩ := List.getElem?_eq_some_iff.1 HY.out
          exact List.take_succ_eq_append_getElem hlt)
        have NM := hid (show s ∉ acc.take k ++ [y] by
          intro hm
          rcases List.mem_append.1 hm with h1 | h1
          · exact HNm.out h1
          · simp at h1; have := of_decide_eq_false HD.out; exact this h1.symm)
        clear HNm
        cases f with
        | true =>
          have HT := hid (show outX s (acc.take (k + 1)) = L ++ [y] ∧ (acc.take (k + 1)).any (ltX s) = true from ⟨by rw [TK.out, outX_yes HFL.out.2, HFL.out.1], by rw [TK.out]; simp [HFL.out.2]⟩)
          go_wp2_with (at_builtin; go_loud (refine wpList_app1n txl (.tmp 38) (.tmp 43) rfl rfl rfl rfl oo rfl rfl (by intro u hu; simp at hu; subst hu; rfl) E1 E1.size (by omega) (by unfold maxLen; omega) ?_))
          intro a5 c5 w5 o5 g5 B5
          have o5 : OwnS w5 w.heap.size a5 (m + 1) c5 (L ++ [y]) := by unfold OwnS; rw [sV_app]; exact o5
          have E1 := B5
          clear g5 B5 p0 ix oo
          go_wp2_with fail
          go_roundw
          case rel =>
            have hz : (outX s (acc.take (k + 1))).length = m + 1 := by rw [HT.out.1, List.length_append, HM.out]; rfl
            refine ⟨k + 1, a5, c5, by omega, by go_num, ?_, ?_, E1, ?_, ?_⟩
            · rw [HT.out.2]
            · rw [hz]
            · rw [hz, HT.out.1]; exact o5
            · rw [TK.out]; exact NM.out
          case measure => simp [intOf]; omega
        | false =>
          cases g with
          | true =>
            have HT := hid (show outX s (acc.take (k + 1)) = L ++ [s] ++ [y] ∧ (acc.take (k + 1)).any (ltX s) = true from ⟨by rw [TK.out, outX_put HFL.out.2 HG.out, HFL.out.1], by rw [TK.out]; simp [HG.out]⟩)
            go_wp2_with (at_builtin; go_loud (refine wpList_app1n txl (.tmp 34) (.tmp 36) rfl rfl rfl rfl oo rfl rfl (by intro u hu; simp at hu; subst hu; rfl) E1 E1.size (by omega) (by unfold maxLen; omega) ?_))
            intro a3 c3 w3 o3 g3 B3
            have o3 : OwnS w3 w.heap.size a3 (m + 1) c3 (L ++ [s]) := by unfold OwnS; rw [sV_app]; exact o3
            have E1 := B3
            have oo := o3
            clear o3 g3 B3 p0 ix
            have tt := OwnS.txs (Own.below H1.out E1) (by have := HN.out; omega)
            have p0 := tt.at HY.out
            have ix := tt.idx k (by rw [HN.out]; exact hlt) c
            rw [HN.out] at ix
            clear tt
            go_wp2_with (at_builtin; go_loud (refine wpList_app1n txl (.tmp 38) (.tmp 43) rfl rfl rfl rfl oo rfl rfl (by intro u hu; simp at hu; subst hu; rfl) E1 E1.size (by omega) (by unfold maxLen; omega) ?_))
            intro a5 c5 w5 o5 g5 B5
            have o5 : OwnS w5 w.heap.size a5 (m + 1 + 1) c5 (L ++ [s] ++ [y]) := by simpa [OwnS, sV] using o5
            have E1 := B5
            clear g5 B5 p0 ix oo
            go_wp2_with fail
            go_roundw
            case rel =>
              have hz : (outX s (acc.take (k + 1))).length = m + 1 + 1 := by rw [HT.out.1, List.length_append, List.length_append, HM.out]; rfl
              refine ⟨k + 1, a5, c5, by omega, by go_num, ?_, ?_, E1, ?_, ?_⟩
              · rw [HT.out.2]
              · rw [hz]
              · rw [hz, HT.out.1]; exact o5
              · rw [TK.out]; exact NM.out
            case measure => simp [intOf]; omega
          | false =>
            have HT := hid (show outX s (acc.take (k + 1)) = L ++ [y] ∧ (acc.take (k + 1)).any (ltX s) = false from ⟨by rw [TK.out, outX_no HFL.out.2 HG.out, HFL.out.1], by rw [TK.out]; simp only [List.any_append, HFL.out.2, List.any_cons, HG.out, List.any_nil, Bool.or_false]⟩)
            go_wp2_with (at_builtin; go_loud (refine wpList_app1n txl (.tmp 38) (.tmp 43) rfl rfl rfl rfl oo rfl rfl (by intro u hu; simp at hu; subst hu; rfl) E1 E1.size (by omega) (by unfold maxLen; omega) ?_))
            intro a5 c5 w5 o5 g5 B5
            have o5 : OwnS w5 w.heap.size a5 (m + 1) c5 (L ++ [y]) := by unfold OwnS; rw [sV_app]; exact o5
            have E1 := B5
            clear g5 B5 p0 ix oo
            go_wp2_with fail
            go_roundw
            case rel =>
              have hz : (outX s (acc.take (k + 1))).length = m + 1 := by rw [HT.out.1, List.length_append, HM.out]; rfl
              refine ⟨k + 1, a5, c5, by omega, by go_num, ?_, ?_, E1, ?_, ?_⟩
              · rw [HT.out.2]
              · rw [hz]
              · rw [hz, HT.out.1]; exact o5
              · rw [TK.out]; exact NM.out
            case measure => simp [intOf]; omega
    · obtain rfl : k = n := by omega
      have hk' : acc.take k = acc := by rw [← HN.out, List.take_length]
      have HQ := hid (show putX acc s = if f then L else L ++ [s] by
        unfold putX
        rw [if_neg HS.out, if_neg (by have := HNm.out; rwa [hk'] at this), insX_end]
        have h1 := HFL.out.1; have h2 := HFL.out.2
        rw [hk'] at h1 h2
        rw [h1, h2])
      clear hk' HNm
      cases f with
      | true =>
        go_wp2_with fail
        (try go_simp)
        go_ret
        have HQ' := HQ.out
        rw [if_pos trivial] at HQ'
        rw [HQ']
        refine ⟨ao, co, ?_, ?_, E1⟩
        · rw [HM.out]; first | done | rfl
        · rw [HM.out]; exact Own.mono oo HB.out
      | false =>
        go_wp2_with (at_builtin; go_loud (refine wpList_app1n txl (.tmp 47) (.tmp 49) rfl rfl rfl rfl oo rfl rfl (by intro u hu; simp at hu; subst hu; rfl) E1 E1.size (by omega) (by unfold maxLen; omega) ?_))
        intro a5 c5 w5 o5 g5 B5
        have o5 : OwnS w5 w.heap.size a5 (m + 1) c5 (L ++ [s]) := by unfold OwnS; rw [sV_app]; exact o5
        have E1 := B5
        clear g5 B5 oo
        go_wp2_with fail
        (try go_simp)
        go_ret
        have HQ' := HQ.out
        rw [if_neg (by simp)] at HQ'
        rw [HQ']
        refine ⟨a5, c5, ?_, ?_, E1⟩
        · rw [List.length_append, HM.out]; first | done | rfl
        · rw [List.length_append, HM.out]; exact Own.mono o5 HB.out
end Go.Proofs.YthaibjefnclkjaaGreatDoor

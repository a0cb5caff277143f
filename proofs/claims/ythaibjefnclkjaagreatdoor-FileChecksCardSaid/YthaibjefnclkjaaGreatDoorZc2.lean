/- The walks of register (program), Reg and first (document). Conditions: a line that may be; the library's variables as laid. A file's text, part by part, and how long the parts are. Plain lists; no program, no condition. The walk of Print (document). Conditions: the test lies in memory as read; the library's variables as laid. A test without its places in memory: what it is does not hang on them. Plain lists; no program, no condition. -/
import Derived.Test.YthaibjefnclkjaaGreatDoorZ24
import Derived.Test.YthaibjefnclkjaaGreatDoorY7
import Derived.Test.YthaibjefnclkjaaGreatDoorZ23
import Derived.Test.YthaibjefnclkjaaGreatDoorY6
import Derived.Test.YthaibjefnclkjaaGreatDoorZ22
import Derived.Test.YthaibjefnclkjaaGreatDoorZ20
import Derived.Test.YthaibjefnclkjaaGreatDoorY3
import Derived.Test.YthaibjefnclkjaaGreatDoorZ14
import Derived.Test.YthaibjefnclkjaaGreatDoorY1
import Derived.Test.YthaibjefnclkjaaGreatDoorZ5
import Derived.Test.YthaibjefnclkjaaGreatDoorZ4
import Derived.Test.YthaibjefnclkjaaGreatDoorZc1
import Derived.Test.YthaibjefnclkjaaGreatDoorZ3
import Derived.Test.YthaibjefnclkjaaGreatDoorZ2
import Derived.Test.YthaibjefnclkjaaGreatDoorZ1
import Derived.Test.YthaibjefnclkjaaGreatDoorRows
import Derived.Lib.SlTrimSet
import Derived.Lib.ItoaNum
import Derived.WalkKit
import Derived.WalkSpells
import Derived.WalkLawsBesides
import Derived.Deep.QuietTactic
import Derived.BigQuiet
import Derived.ProofKit
import Derived.OpenShut
import Derived.ShutString
import Derived.ChangeOld
import Derived.Carry
import Derived.SizedLaws
import Derived.Laws.StructEq
import Derived.Shelf.SlicesQ.Load
import Derived.Lib.SplitLaws
import Derived.Lib.Strings
import Derived.Lib.ItoaMem
import Derived.Shelf.Strings.SlTrimAscii
import Derived.Shelf.Small.Strs
import Derived.Shelf.Strconv.Itoa3
import Derived.Shelf.LaysM
import Derived.Shelf.Strings.Prefix
import Derived.Test.YthaibjefnclkjaaGreatDoorProg
import Derived.Lib.ItoaLen
import Derived.WalkSmall
import Derived.Laws.Concat
import Derived.BigRegion
import Derived.StillTailTactics
import Derived.Deep.RegionWith
import Derived.Lib.AtoiAll
import Derived.Deep.DeepCutAuto
import Derived.Maps.OwnSet
import Derived.Maps.Views
import Derived.Lib.Bytealg
import Derived.Test.YthaibjefnclkjaaGreatDoorY2
import Derived.Test.YthaibjefnclkjaaGreatDoorZ12
import Derived.Test.YthaibjefnclkjaaGreatDoorZ7
import Derived.Test.YthaibjefnclkjaaGreatDoorZ6
import Derived.Laws.IdiomCopy
import Derived.Shelf.Sort.Plain
import Derived.Shelf.Slices.In.SortNone
import Derived.Shelf.Slices.CompactS
import Derived.Shelf.Slices.Clone
import Derived.Shelf.SlSortCmp.NoneTotal
import Derived.Shelf.SlicesE.Clone
import Derived.Shelf.Strings.Repeat
import Derived.Test.YthaibjefnclkjaaGreatDoorZ8
import Derived.Test.YthaibjefnclkjaaGreatDoorZ11
import Derived.Test.YthaibjefnclkjaaGreatDoorZ9
import Derived.Test.YthaibjefnclkjaaGreatDoorZ10
import Derived.Lib.QuietBelow
import Derived.Lib.Builder
import Derived.Lib.AppendStr
import Derived.Lib.UnsafeStr
import Derived.Lib.OthersKept
import Derived.Laws.Externs
import Derived.RegionTactic
import Derived.Test.YthaibjefnclkjaaGreatDoorZ13
import Derived.Deep.RegionHeld3
import Derived.Test.YthaibjefnclkjaaGreatDoorY4
import Derived.Test.YthaibjefnclkjaaGreatDoorZ19
import Derived.Test.YthaibjefnclkjaaGreatDoorZ18
import Derived.Test.YthaibjefnclkjaaGreatDoorZ17
import Derived.Test.YthaibjefnclkjaaGreatDoorZ15
import Derived.Test.YthaibjefnclkjaaGreatDoorZ16
import Derived.Test.YthaibjefnclkjaaGreatDoorY5
import Derived.Maps.OwnOps
import Derived.StringKeys
import Derived.Test.YthaibjefnclkjaaGreatDoorZ21
import Derived.Lib.SlicesCompact
import Derived.Sort.OwnSorted
import Derived.DeepKeys5
import Derived.Test.YthaibjefnclkjaaGreatDoorZ25
namespace Go.Proofs.YthaibjefnclkjaaGreatDoor
open Go.RowKit Go.Sort
set_option linter.unusedVariables false

theorem r9Reg_no (n : Int) (h : 15 ≤ n) (w : World) : Calls Tryz.prog 71 #[.int .i64 n] w (Ret w (.tuple #[.string (tx []), .int .i64 90])) := by
  have h0 : decide (n < 0) = false := by simp; omega
  have h1 : decide (15 ≤ n) = true := by simp; omega
  go_enter Tryz.func71, Tryz.ntmps71
  go_wp2_with fail
  (try go_simp)
  go_ret2
  exact ⟨rfl, Below.refl _ _⟩
set_option maxRecDepth 100000 in
set_option maxHeartbeats 1600000 in
theorem r13First_loc (t : Tst) (loc : Tx) (nn : Int) (h1 : nameB loc = true) (h2 : n32B nn = true) (w : World) (g : Gl w) :
    Calls Tryz.prog 36 #[vT t, vIni ⟨-1, 0, loc, [], nn⟩] w (Ret w (.string (tx (initT t.arch ⟨-1, 0, loc, [], nn⟩)))) := by
  have A := (al w (mkT t)).trans ((al (w.alloc (mkT t)) (mkIni ⟨-1, 0, loc, [], nn⟩)).mono (al w (mkT t)).size)
  have b0 := (BxT.new w t).below (al _ (mkIni ⟨-1, 0, loc, [], nn⟩))
  have x0 : BxL ((w.alloc (mkT t)).alloc (mkIni ⟨-1, 0, loc, [], nn⟩)) (w.alloc (mkT t)).heap.size (cIni ⟨-1, 0, loc, [], nn⟩) := BxL.new _ _ _
  rw [alloc_size] at x0
  have l1 := (nameB_cl h1).2; have l2 := itoa_len h2; have b2 := n32B_spec h2
  obtain ⟨d, hd⟩ : ∃ d, Lib.itoa nn = d := ⟨_, rfl⟩
  have IT := hid (itoa_any nn (by omega) (by omega) _ (g.below A))
  rw [hd] at IT l2
  obtain ⟨t1, ht1⟩ : ∃ t : Tx, loc ++ [61] = t := ⟨_, rfl⟩
  have n1 : t1.length = _ := (congrArg List.length ht1).symm.trans List.length_append
  have m1 : t1.length ≤ 80 := by rw [n1]; (try simp only [List.length_cons, List.length_nil]); omega
  have c1 : ∀ w, (Op.stringOp .add (tx loc) ⟨#[61]⟩).run Tryz.prog w = .ok (.string (tx t1)) w := run_catT loc [61] t1 ht1 (by omega)
  clear n1
  obtain ⟨t2, ht2⟩ : ∃ t : Tx, t1 ++ d = t := ⟨_, rfl⟩
  have n2 : t2.length = _ := (congrArg List.length ht2).symm.trans List.length_append
  have m2 : t2.length ≤ 120 := by rw [n2]; (try simp only [List.length_cons, List.length_nil]); omega
  have c2 : ∀ w, (Op.stringOp .add (tx t1) (tx d)).run Tryz.prog w = .ok (.string (tx t2)) w := run_catT t1 d t2 ht2 (by omega)
  clear n2
  obtain ⟨t3, ht3⟩ : ∃ t : Tx, t2 ++ [59, 10] = t := ⟨_, rfl⟩
  have n3 : t3.length = _ := (congrArg List.length ht3).symm.trans List.length_append
  have m3 : t3.length ≤ 160 := by rw [n3]; (try simp only [List.length_cons, List.length_nil]); omega
  have c3 : ∀ w, (Op.stringOp .add (tx t2) ⟨#[59, 10]⟩).run Tryz.prog w = .ok (.string (tx t3)) w := run_catT t2 [59, 10] t3 ht3 (by omega)
  clear n3
  have HZ := hid (show initT t.arch ⟨-1, 0, loc, [], nn⟩ = t3 by unfold initT; simp only [if_true]; rw [hd, ← ht3, ← ht2, ← ht1])
  clear ht1 ht2 ht3
  rw [HZ.out]
  have z5 : ((tx ([] : Tx)).toList == ([] : List UInt8)) = true := by rw [tx_toList]; rfl
  have z6 : (tx ([] : Tx)).toList.isEmpty = true := by rw [tx_toList]; rfl
  have z7 : ((tx ([] : Tx)).toList != ([] : List UInt8)) = false := by rw [tx_toList]; rfl
  clear hd g h1 h2
  go_enter Tryz.func36, Tryz.ntmps36
  go_upto_region 1 with (fail)
  generalize (w.alloc (mkT t)).alloc (mkIni ⟨-1, 0, loc, [], nn⟩) = W1 at *
  obtain ⟨p0, p1, p2, p3, p4⟩ := BxIni.cells x0
  go_wp2_with fail
  refine IT.out.mono ?_
  rintro e w2 ⟨rfl, E⟩
  go_wp2_with fail
  go_ret
  exact ⟨rfl, A.trans (E.mono A.size)⟩
set_option maxRecDepth 100000 in
set_option maxHeartbeats 1600000 in
theorem r13First_1v (t : Tst) (ha : t.arch = 1) (i k : Nat) (hi : i < 16) (hk : k < 15) (v : Tx) (hv : v ≠ []) (h2 : nameB v = true) (w : World) (g : Gl w) :
    Calls Tryz.prog 36 #[vT t, vIni ⟨i, k, [], v, 0⟩] w (Ret w (.string (tx (initT t.arch ⟨i, k, [], v, 0⟩)))) := by
  have A := (al w (mkT t)).trans ((al (w.alloc (mkT t)) (mkIni ⟨i, k, [], v, 0⟩)).mono (al w (mkT t)).size)
  have b0 := (BxT.new w t).below (al _ (mkIni ⟨i, k, [], v, 0⟩))
  have x0 : BxL ((w.alloc (mkT t)).alloc (mkIni ⟨i, k, [], v, 0⟩)) (w.alloc (mkT t)).heap.size (cIni ⟨i, k, [], v, 0⟩) := BxL.new _ _ _
  rw [alloc_size] at x0
  have HR := hid (show regK t.arch k from .inl ⟨ha, hk⟩)
  have l3 := regK_len HR.out
  have l1 := i16_len i hi
  have hi0 : ¬ ((i : Int) = -1) := by omega
  have l2 := (nameB_cl h2).2
  obtain ⟨d, hd⟩ : ∃ d, v = d := ⟨_, rfl⟩
  rw [hd] at l2
  obtain ⟨q, hq⟩ : ∃ q, Lib.itoa (i : Int) = q := ⟨_, rfl⟩
  obtain ⟨r, hr⟩ : ∃ r, regT' t.arch k = r := ⟨_, rfl⟩
  rw [hq] at l1
  rw [hr] at l3
  have HG := hid (g.below A)
  have IQ := hid (fun (w' : World) (g : Gl w') => itoa_any (i : Int) (by omega) (by omega) w' g)
  rw [hq] at IQ
  obtain ⟨t1, ht1⟩ : ∃ t : Tx, q ++ [58] = t := ⟨_, rfl⟩
  have n1 : t1.length = _ := (congrArg List.length ht1).symm.trans List.length_append
  have m1 : t1.length ≤ 80 := by rw [n1]; (try simp only [List.length_cons, List.length_nil]); omega
  have c1 : ∀ w, (Op.stringOp .add (tx q) ⟨#[58]⟩).run Tryz.prog w = .ok (.string (tx t1)) w := run_catT q [58] t1 ht1 (by omega)
  clear n1
  obtain ⟨t2, ht2⟩ : ∃ t : Tx, t1 ++ r = t := ⟨_, rfl⟩
  have n2 : t2.length = _ := (congrArg List.length ht2).symm.trans List.length_append
  have m2 : t2.length ≤ 120 := by rw [n2]; (try simp only [List.length_cons, List.length_nil]); omega
  have c2 : ∀ w, (Op.stringOp .add (tx t1) (tx r)).run Tryz.prog w = .ok (.string (tx t2)) w := run_catT t1 r t2 ht2 (by omega)
  clear n2
  obtain ⟨t3, ht3⟩ : ∃ t : Tx, t2 ++ [61] = t := ⟨_, rfl⟩
  have n3 : t3.length = _ := (congrArg List.length ht3).symm.trans List.length_append
  have m3 : t3.length ≤ 160 := by rw [n3]; (try simp only [List.length_cons, List.length_nil]); omega
  have c3 : ∀ w, (Op.stringOp .add (tx t2) ⟨#[61]⟩).run Tryz.prog w = .ok (.string (tx t3)) w := run_catT t2 [61] t3 ht3 (by omega)
  clear n3
  obtain ⟨t4, ht4⟩ : ∃ t : Tx, t3 ++ d = t := ⟨_, rfl⟩
  have n4 : t4.length = _ := (congrArg List.length ht4).symm.trans List.length_append
  have m4 : t4.length ≤ 200 := by rw [n4]; (try simp only [List.length_cons, List.length_nil]); omega
  have c4 : ∀ w, (Op.stringOp .add (tx t3) (tx d)).run Tryz.prog w = .ok (.string (tx t4)) w := run_catT t3 d t4 ht4 (by omega)
  clear n4
  obtain ⟨t5, ht5⟩ : ∃ t : Tx, t4 ++ [59, 10] = t := ⟨_, rfl⟩
  have n5 : t5.length = _ := (congrArg List.length ht5).symm.trans List.length_append
  have m5 : t5.length ≤ 240 := by rw [n5]; (try simp only [List.length_cons, List.length_nil]); omega
  have c5 : ∀ w, (Op.stringOp .add (tx t4) ⟨#[59, 10]⟩).run Tryz.prog w = .ok (.string (tx t5)) w := run_catT t4 [59, 10] t5 ht5 (by omega)
  clear n5
  have HZ := hid (show initT t.arch ⟨i, k, [], v, 0⟩ = t5 by unfold initT; simp only [if_neg hi0, if_neg hv]; rw [hq, hr, hd, ← ht5, ← ht4, ← ht3, ← ht2, ← ht1])
  clear ht1 ht2 ht3 ht4 ht5
  have R9 := hid (r9Reg k hk)
  have za : (t.arch == 2) = false := by simp; omega
  rw [show regX k = r by rw [← hr]; unfold regT'; rw [if_neg (by omega), rX_nat]] at R9
  have z5 : ((tx v).toList == ([] : List UInt8)) = false := by rw [tx_toList]; simpa using hv
  have z6 : (tx v).toList.isEmpty = false := by rw [tx_toList]; cases v <;> simp at *
  have z7 : ((tx v).toList != ([] : List UInt8)) = true := by rw [tx_toList]; simpa using hv
  rw [HZ.out]
  subst hd
  clear hv g h2 hq hr ha hi0
  go_enter Tryz.func36, Tryz.ntmps36
  go_upto_region 1 with (fail)
  generalize (w.alloc (mkT t)).alloc (mkIni ⟨i, k, [], v, 0⟩) = W1 at *
  obtain ⟨p0, p1, p2, p3, p4⟩ := BxIni.cells x0
  obtain ⟨c0, -⟩ := b0.cells
  go_wp2_with fail
  refine (R9.out _).mono ?_
  rintro e w2 ⟨rfl, E⟩
  clear p0 p1 p2 p3 p4 c0
  obtain ⟨p0, p1, p2, p3, p4⟩ := BxIni.cells (x0.below E)
  obtain ⟨c0, -⟩ := (b0.below E).cells
  go_wp2_with fail
  refine (IQ.out _ (HG.out.below E)).mono ?_
  rintro e w4 ⟨rfl, E4⟩
  have E := E.trans (E4.mono E.size)
  clear p0 p1 p2 p3 p4 c0
  obtain ⟨p0, p1, p2, p3, p4⟩ := BxIni.cells (x0.below E)
  go_wp2_with fail
  (try go_simp)
  go_ret
  exact ⟨rfl, A.trans (E.mono A.size)⟩
set_option maxRecDepth 100000 in
set_option maxHeartbeats 1600000 in
theorem r13First_1n (t : Tst) (ha : t.arch = 1) (i k : Nat) (hi : i < 16) (hk : k < 15) (nn : Int) (h2 : n32B nn = true) (w : World) (g : Gl w) :
    Calls Tryz.prog 36 #[vT t, vIni ⟨i, k, [], [], nn⟩] w (Ret w (.string (tx (initT t.arch ⟨i, k, [], [], nn⟩)))) := by
  have A := (al w (mkT t)).trans ((al (w.alloc (mkT t)) (mkIni ⟨i, k, [], [], nn⟩)).mono (al w (mkT t)).size)
  have b0 := (BxT.new w t).below (al _ (mkIni ⟨i, k, [], [], nn⟩))
  have x0 : BxL ((w.alloc (mkT t)).alloc (mkIni ⟨i, k, [], [], nn⟩)) (w.alloc (mkT t)).heap.size (cIni ⟨i, k, [], [], nn⟩) := BxL.new _ _ _
  rw [alloc_size] at x0
  have HR := hid (show regK t.arch k from .inl ⟨ha, hk⟩)
  have l3 := regK_len HR.out
  have l1 := i16_len i hi
  have hi0 : ¬ ((i : Int) = -1) := by omega
  have l2 := itoa_len h2; have b2 := n32B_spec h2
  obtain ⟨d, hd⟩ : ∃ d, Lib.itoa nn = d := ⟨_, rfl⟩
  rw [hd] at l2
  obtain ⟨q, hq⟩ : ∃ q, Lib.itoa (i : Int) = q := ⟨_, rfl⟩
  obtain ⟨r, hr⟩ : ∃ r, regT' t.arch k = r := ⟨_, rfl⟩
  rw [hq] at l1
  rw [hr] at l3
  have HG := hid (g.below A)
  have IQ := hid (fun (w' : World) (g : Gl w') => itoa_any (i : Int) (by omega) (by omega) w' g)
  rw [hq] at IQ
  have IT := hid (fun (w' : World) (g : Gl w') => itoa_any nn (by omega) (by omega) w' g)
  rw [hd] at IT
  obtain ⟨t1, ht1⟩ : ∃ t : Tx, q ++ [58] = t := ⟨_, rfl⟩
  have n1 : t1.length = _ := (congrArg List.length ht1).symm.trans List.length_append
  have m1 : t1.length ≤ 80 := by rw [n1]; (try simp only [List.length_cons, List.length_nil]); omega
  have c1 : ∀ w, (Op.stringOp .add (tx q) ⟨#[58]⟩).run Tryz.prog w = .ok (.string (tx t1)) w := run_catT q [58] t1 ht1 (by omega)
  clear n1
  obtain ⟨t2, ht2⟩ : ∃ t : Tx, t1 ++ r = t := ⟨_, rfl⟩
  have n2 : t2.length = _ := (congrArg List.length ht2).symm.trans List.length_append
  have m2 : t2.length ≤ 120 := by rw [n2]; (try simp only [List.length_cons, List.length_nil]); omega
  have c2 : ∀ w, (Op.stringOp .add (tx t1) (tx r)).run Tryz.prog w = .ok (.string (tx t2)) w := run_catT t1 r t2 ht2 (by omega)
  clear n2
  obtain ⟨t3, ht3⟩ : ∃ t : Tx, t2 ++ [61] = t := ⟨_, rfl⟩
  have n3 : t3.length = _ := (congrArg List.length ht3).symm.trans List.length_append
  have m3 : t3.length ≤ 160 := by rw [n3]; (try simp only [List.length_cons, List.length_nil]); omega
  have c3 : ∀ w, (Op.stringOp .add (tx t2) ⟨#[61]⟩).run Tryz.prog w = .ok (.string (tx t3)) w := run_catT t2 [61] t3 ht3 (by omega)
  clear n3
  obtain ⟨t4, ht4⟩ : ∃ t : Tx, t3 ++ d = t := ⟨_, rfl⟩
  have n4 : t4.length = _ := (congrArg List.length ht4).symm.trans List.length_append
  have m4 : t4.length ≤ 200 := by rw [n4]; (try simp only [List.length_cons, List.length_nil]); omega
  have c4 : ∀ w, (Op.stringOp .add (tx t3) (tx d)).run Tryz.prog w = .ok (.string (tx t4)) w := run_catT t3 d t4 ht4 (by omega)
  clear n4
  obtain ⟨t5, ht5⟩ : ∃ t : Tx, t4 ++ [59, 10] = t := ⟨_, rfl⟩
  have n5 : t5.length = _ := (congrArg List.length ht5).symm.trans List.length_append
  have m5 : t5.length ≤ 240 := by rw [n5]; (try simp only [List.length_cons, List.length_nil]); omega
  have c5 : ∀ w, (Op.stringOp .add (tx t4) ⟨#[59, 10]⟩).run Tryz.prog w = .ok (.string (tx t5)) w := run_catT t4 [59, 10] t5 ht5 (by omega)
  clear n5
  have HZ := hid (show initT t.arch ⟨i, k, [], [], nn⟩ = t5 by unfold initT; simp only [if_neg hi0, if_true]; rw [hq, hr, hd, ← ht5, ← ht4, ← ht3, ← ht2, ← ht1])
  clear ht1 ht2 ht3 ht4 ht5
  have R9 := hid (r9Reg k hk)
  have za : (t.arch == 2) = false := by simp; omega
  rw [show regX k = r by rw [← hr]; unfold regT'; rw [if_neg (by omega), rX_nat]] at R9
  have z5 : ((tx ([] : Tx)).toList == ([] : List UInt8)) = true := by rw [tx_toList]; rfl
  have z6 : (tx ([] : Tx)).toList.isEmpty = true := by rw [tx_toList]; rfl
  have z7 : ((tx ([] : Tx)).toList != ([] : List UInt8)) = false := by rw [tx_toList]; rfl
  rw [HZ.out]
  clear hd g h2 hq hr ha hi0
  go_enter Tryz.func36, Tryz.ntmps36
  go_upto_region 1 with (fail)
  generalize (w.alloc (mkT t)).alloc (mkIni ⟨i, k, [], [], nn⟩) = W1 at *
  obtain ⟨p0, p1, p2, p3, p4⟩ := BxIni.cells x0
  obtain ⟨c0, -⟩ := b0.cells
  go_wp2_with fail
  refine (R9.out _).mono ?_
  rintro e w2 ⟨rfl, E⟩
  clear p0 p1 p2 p3 p4 c0
  obtain ⟨p0, p1, p2, p3, p4⟩ := BxIni.cells (x0.below E)
  obtain ⟨c0, -⟩ := (b0.below E).cells
  go_wp2_with fail
  refine (IQ.out _ (HG.out.below E)).mono ?_
  rintro e w4 ⟨rfl, E4⟩
  have E := E.trans (E4.mono E.size)
  clear p0 p1 p2 p3 p4 c0
  obtain ⟨p0, p1, p2, p3, p4⟩ := BxIni.cells (x0.below E)
  go_wp2_with fail
  refine (IT.out _ (HG.out.below E)).mono ?_
  rintro e w5 ⟨rfl, E5⟩
  have E := E.trans (E5.mono E.size)
  go_wp2_with fail
  (try go_simp)
  go_ret
  exact ⟨rfl, A.trans (E.mono A.size)⟩
set_option maxRecDepth 100000 in
set_option maxHeartbeats 1600000 in
theorem r13First_2v (t : Tst) (ha : t.arch = 2) (i k : Nat) (hi : i < 16) (hk : k < 32) (v : Tx) (hv : v ≠ []) (h2 : nameB v = true) (w : World) (g : Gl w) :
    Calls Tryz.prog 36 #[vT t, vIni ⟨i, k, [], v, 0⟩] w (Ret w (.string (tx (initT t.arch ⟨i, k, [], v, 0⟩)))) := by
  have A := (al w (mkT t)).trans ((al (w.alloc (mkT t)) (mkIni ⟨i, k, [], v, 0⟩)).mono (al w (mkT t)).size)
  have b0 := (BxT.new w t).below (al _ (mkIni ⟨i, k, [], v, 0⟩))
  have x0 : BxL ((w.alloc (mkT t)).alloc (mkIni ⟨i, k, [], v, 0⟩)) (w.alloc (mkT t)).heap.size (cIni ⟨i, k, [], v, 0⟩) := BxL.new _ _ _
  rw [alloc_size] at x0
  have HR := hid (show regK t.arch k from .inr ⟨ha, hk⟩)
  have l3 := regK_len HR.out
  have l1 := i16_len i hi
  have hi0 : ¬ ((i : Int) = -1) := by omega
  have l2 := (nameB_cl h2).2
  obtain ⟨d, hd⟩ : ∃ d, v = d := ⟨_, rfl⟩
  rw [hd] at l2
  obtain ⟨q, hq⟩ : ∃ q, Lib.itoa (i : Int) = q := ⟨_, rfl⟩
  obtain ⟨r, hr⟩ : ∃ r, regT' t.arch k = r := ⟨_, rfl⟩
  rw [hq] at l1
  rw [hr] at l3
  have HG := hid (g.below A)
  have IQ := hid (fun (w' : World) (g : Gl w') => itoa_any (i : Int) (by omega) (by omega) w' g)
  rw [hq] at IQ
  obtain ⟨t1, ht1⟩ : ∃ t : Tx, q ++ [58] = t := ⟨_, rfl⟩
  have n1 : t1.length = _ := (congrArg List.length ht1).symm.trans List.length_append
  have m1 : t1.length ≤ 80 := by rw [n1]; (try simp only [List.length_cons, List.length_nil]); omega
  have c1 : ∀ w, (Op.stringOp .add (tx q) ⟨#[58]⟩).run Tryz.prog w = .ok (.string (tx t1)) w := run_catT q [58] t1 ht1 (by omega)
  clear n1
  obtain ⟨t2, ht2⟩ : ∃ t : Tx, t1 ++ r = t := ⟨_, rfl⟩
  have n2 : t2.length = _ := (congrArg List.length ht2).symm.trans List.length_append
  have m2 : t2.length ≤ 120 := by rw [n2]; (try simp only [List.length_cons, List.length_nil]); omega
  have c2 : ∀ w, (Op.stringOp .add (tx t1) (tx r)).run Tryz.prog w = .ok (.string (tx t2)) w := run_catT t1 r t2 ht2 (by omega)
  clear n2
  obtain ⟨t3, ht3⟩ : ∃ t : Tx, t2 ++ [61] = t := ⟨_, rfl⟩
  have n3 : t3.length = _ := (congrArg List.length ht3).symm.trans List.length_append
  have m3 : t3.length ≤ 160 := by rw [n3]; (try simp only [List.length_cons, List.length_nil]); omega
  have c3 : ∀ w, (Op.stringOp .add (tx t2) ⟨#[61]⟩).run Tryz.prog w = .ok (.string (tx t3)) w := run_catT t2 [61] t3 ht3 (by omega)
  clear n3
  obtain ⟨t4, ht4⟩ : ∃ t : Tx, t3 ++ d = t := ⟨_, rfl⟩
  have n4 : t4.length = _ := (congrArg List.length ht4).symm.trans List.length_append
  have m4 : t4.length ≤ 200 := by rw [n4]; (try simp only [List.length_cons, List.length_nil]); omega
  have c4 : ∀ w, (Op.stringOp .add (tx t3) (tx d)).run Tryz.prog w = .ok (.string (tx t4)) w := run_catT t3 d t4 ht4 (by omega)
  clear n4
  obtain ⟨t5, ht5⟩ : ∃ t : Tx, t4 ++ [59, 10] = t := ⟨_, rfl⟩
  have n5 : t5.length = _ := (congrArg List.length ht5).symm.trans List.length_append
  have m5 : t5.length ≤ 240 := by rw [n5]; (try simp only [List.length_cons, List.length_nil]); omega
  have c5 : ∀ w, (Op.stringOp .add (tx t4) ⟨#[59, 10]⟩).run Tryz.prog w = .ok (.string (tx t5)) w := run_catT t4 [59, 10] t5 ht5 (by omega)
  clear n5
  have HZ := hid (show initT t.arch ⟨i, k, [], v, 0⟩ = t5 by unfold initT; simp only [if_neg hi0, if_neg hv]; rw [hq, hr, hd, ← ht5, ← ht4, ← ht3, ← ht2, ← ht1])
  clear ht1 ht2 ht3 ht4 ht5
  obtain ⟨s9, e9, -, R9⟩ : ∃ (s : Tx) (e : Int), (k < 15 → s = regX k) ∧ ∀ w, Calls Tryz.prog 71 #[.int .i64 k] w (Ret w (.tuple #[.string (tx s), .int .i64 e])) := by
    by_cases h : k < 15
    · exact ⟨_, _, fun _ => rfl, r9Reg k h⟩
    · exact ⟨_, _, fun h' => absurd h' h, r9Reg_no k (by omega)⟩
  have R9 := hid R9
  have RT := hid (refReg k hk)
  have za : (t.arch == 2) = true := by simp; omega
  rw [show regT k = r by rw [← hr]; unfold regT'; rw [if_pos ha]; unfold rT; rw [Int.toNat_natCast]] at RT
  have z5 : ((tx v).toList == ([] : List UInt8)) = false := by rw [tx_toList]; simpa using hv
  have z6 : (tx v).toList.isEmpty = false := by rw [tx_toList]; cases v <;> simp at *
  have z7 : ((tx v).toList != ([] : List UInt8)) = true := by rw [tx_toList]; simpa using hv
  rw [HZ.out]
  subst hd
  clear hv g h2 hq hr ha hi0
  go_enter Tryz.func36, Tryz.ntmps36
  go_upto_region 1 with (fail)
  generalize (w.alloc (mkT t)).alloc (mkIni ⟨i, k, [], v, 0⟩) = W1 at *
  obtain ⟨p0, p1, p2, p3, p4⟩ := BxIni.cells x0
  obtain ⟨c0, -⟩ := b0.cells
  go_wp2_with fail
  refine (R9.out _).mono ?_
  rintro e w2 ⟨rfl, E⟩
  clear p0 p1 p2 p3 p4 c0
  obtain ⟨p0, p1, p2, p3, p4⟩ := BxIni.cells (x0.below E)
  obtain ⟨c0, -⟩ := (b0.below E).cells
  go_wp2_with fail
  refine (RT.out _).mono ?_
  rintro e w3 ⟨rfl, rfl⟩
  go_wp2_with fail
  refine (IQ.out _ (HG.out.below E)).mono ?_
  rintro e w4 ⟨rfl, E4⟩
  have E := E.trans (E4.mono E.size)
  clear p0 p1 p2 p3 p4 c0
  obtain ⟨p0, p1, p2, p3, p4⟩ := BxIni.cells (x0.below E)
  go_wp2_with fail
  (try go_simp)
  go_ret
  exact ⟨rfl, A.trans (E.mono A.size)⟩
set_option maxRecDepth 100000 in
set_option maxHeartbeats 1600000 in
theorem r13First_2n (t : Tst) (ha : t.arch = 2) (i k : Nat) (hi : i < 16) (hk : k < 32) (nn : Int) (h2 : n32B nn = true) (w : World) (g : Gl w) :
    Calls Tryz.prog 36 #[vT t, vIni ⟨i, k, [], [], nn⟩] w (Ret w (.string (tx (initT t.arch ⟨i, k, [], [], nn⟩)))) := by
  have A := (al w (mkT t)).trans ((al (w.alloc (mkT t)) (mkIni ⟨i, k, [], [], nn⟩)).mono (al w (mkT t)).size)
  have b0 := (BxT.new w t).below (al _ (mkIni ⟨i, k, [], [], nn⟩))
  have x0 : BxL ((w.alloc (mkT t)).alloc (mkIni ⟨i, k, [], [], nn⟩)) (w.alloc (mkT t)).heap.size (cIni ⟨i, k, [], [], nn⟩) := BxL.new _ _ _
  rw [alloc_size] at x0
  have HR := hid (show regK t.arch k from .inr ⟨ha, hk⟩)
  have l3 := regK_len HR.out
  have l1 := i16_len i hi
  have hi0 : ¬ ((i : Int) = -1) := by omega
  have l2 := itoa_len h2; have b2 := n32B_spec h2
  obtain ⟨d, hd⟩ : ∃ d, Lib.itoa nn = d := ⟨_, rfl⟩
  rw [hd] at l2
  obtain ⟨q, hq⟩ : ∃ q, Lib.itoa (i : Int) = q := ⟨_, rfl⟩
  obtain ⟨r, hr⟩ : ∃ r, regT' t.arch k = r := ⟨_, rfl⟩
  rw [hq] at l1
  rw [hr] at l3
  have HG := hid (g.below A)
  have IQ := hid (fun (w' : World) (g : Gl w') => itoa_any (i : Int) (by omega) (by omega) w' g)
  rw [hq] at IQ
  have IT := hid (fun (w' : World) (g : Gl w') => itoa_any nn (by omega) (by omega) w' g)
  rw [hd] at IT
  obtain ⟨t1, ht1⟩ : ∃ t : Tx, q ++ [58] = t := ⟨_, rfl⟩
  have n1 : t1.length = _ := (congrArg List.length ht1).symm.trans List.length_append
  have m1 : t1.length ≤ 80 := by rw [n1]; (try simp only [List.length_cons, List.length_nil]); omega
  have c1 : ∀ w, (Op.stringOp .add (tx q) ⟨#[58]⟩).run Tryz.prog w = .ok (.string (tx t1)) w := run_catT q [58] t1 ht1 (by omega)
  clear n1
  obtain ⟨t2, ht2⟩ : ∃ t : Tx, t1 ++ r = t := ⟨_, rfl⟩
  have n2 : t2.length = _ := (congrArg List.length ht2).symm.trans List.length_append
  have m2 : t2.length ≤ 120 := by rw [n2]; (try simp only [List.length_cons, List.length_nil]); omega
  have c2 : ∀ w, (Op.stringOp .add (tx t1) (tx r)).run Tryz.prog w = .ok (.string (tx t2)) w := run_catT t1 r t2 ht2 (by omega)
  clear n2
  obtain ⟨t3, ht3⟩ : ∃ t : Tx, t2 ++ [61] = t := ⟨_, rfl⟩
  have n3 : t3.length = _ := (congrArg List.length ht3).symm.trans List.length_append
  have m3 : t3.length ≤ 160 := by rw [n3]; (try simp only [List.length_cons, List.length_nil]); omega
  have c3 : ∀ w, (Op.stringOp .add (tx t2) ⟨#[61]⟩).run Tryz.prog w = .ok (.string (tx t3)) w := run_catT t2 [61] t3 ht3 (by omega)
  clear n3
  obtain ⟨t4, ht4⟩ : ∃ t : Tx, t3 ++ d = t := ⟨_, rfl⟩
  have n4 : t4.length = _ := (congrArg List.length ht4).symm.trans List.length_append
  have m4 : t4.length ≤ 200 := by rw [n4]; (try simp only [List.length_cons, List.length_nil]); omega
  have c4 : ∀ w, (Op.stringOp .add (tx t3) (tx d)).run Tryz.prog w = .ok (.string (tx t4)) w := run_catT t3 d t4 ht4 (by omega)
  clear n4
  obtain ⟨t5, ht5⟩ : ∃ t : Tx, t4 ++ [59, 10] = t := ⟨_, rfl⟩
  have n5 : t5.length = _ := (congrArg List.length ht5).symm.trans List.length_append
  have m5 : t5.length ≤ 240 := by rw [n5]; (try simp only [List.length_cons, List.length_nil]); omega
  have c5 : ∀ w, (Op.stringOp .add (tx t4) ⟨#[59, 10]⟩).run Tryz.prog w = .ok (.string (tx t5)) w := run_catT t4 [59, 10] t5 ht5 (by omega)
  clear n5
  have HZ := hid (show initT t.arch ⟨i, k, [], [], nn⟩ = t5 by unfold initT; simp only [if_neg hi0, if_true]; rw [hq, hr, hd, ← ht5, ← ht4, ← ht3, ← ht2, ← ht1])
  clear ht1 ht2 ht3 ht4 ht5
  obtain ⟨s9, e9, -, R9⟩ : ∃ (s : Tx) (e : Int), (k < 15 → s = regX k) ∧ ∀ w, Calls Tryz.prog 71 #[.int .i64 k] w (Ret w (.tuple #[.string (tx s), .int .i64 e])) := by
    by_cases h : k < 15
    · exact ⟨_, _, fun _ => rfl, r9Reg k h⟩
    · exact ⟨_, _, fun h' => absurd h' h, r9Reg_no k (by omega)⟩
  have R9 := hid R9
  have RT := hid (refReg k hk)
  have za : (t.arch == 2) = true := by simp; omega
  rw [show regT k = r by rw [← hr]; unfold regT'; rw [if_pos ha]; unfold rT; rw [Int.toNat_natCast]] at RT
  have z5 : ((tx ([] : Tx)).toList == ([] : List UInt8)) = true := by rw [tx_toList]; rfl
  have z6 : (tx ([] : Tx)).toList.isEmpty = true := by rw [tx_toList]; rfl
  have z7 : ((tx ([] : Tx)).toList != ([] : List UInt8)) = false := by rw [tx_toList]; rfl
  rw [HZ.out]
  clear hd g h2 hq hr ha hi0
  go_enter Tryz.func36, Tryz.ntmps36
  go_upto_region 1 with (fail)
  generalize (w.alloc (mkT t)).alloc (mkIni ⟨i, k, [], [], nn⟩) = W1 at *
  obtain ⟨p0, p1, p2, p3, p4⟩ := BxIni.cells x0
  obtain ⟨c0, -⟩ := b0.cells
  go_wp2_with fail
  refine (R9.out _).mono ?_
  rintro e w2 ⟨rfl, E⟩
  clear p0 p1 p2 p3 p4 c0
  obtain ⟨p0, p1, p2, p3, p4⟩ := BxIni.cells (x0.below E)
  obtain ⟨c0, -⟩ := (b0.below E).cells
  go_wp2_with fail
  refine (RT.out _).mono ?_
  rintro e w3 ⟨rfl, rfl⟩
  go_wp2_with fail
  refine (IQ.out _ (HG.out.below E)).mono ?_
  rintro e w4 ⟨rfl, E4⟩
  have E := E.trans (E4.mono E.size)
  clear p0 p1 p2 p3 p4 c0
  obtain ⟨p0, p1, p2, p3, p4⟩ := BxIni.cells (x0.below E)
  go_wp2_with fail
  refine (IT.out _ (HG.out.below E)).mono ?_
  rintro e w5 ⟨rfl, E5⟩
  have E := E.trans (E5.mono E.size)
  go_wp2_with fail
  (try go_simp)
  go_ret
  exact ⟨rfl, A.trans (E.mono A.size)⟩
theorem r13First (t : Tst) (x : Ini) (ha : archB t.arch = true) (hn : t.code.length ≤ 16) (h : firstB t.arch t.code.length x = true) (w : World) (g : Gl w) :
    Calls Tryz.prog 36 #[vT t, vIni x] w (Ret w (.string (tx (initT t.arch x)))) := by
  rcases firstB_cases ha hn h with ⟨loc, nn, rfl, h1, h2⟩ | ⟨i, k, v, nn, rfl, h1, -, h2, h3⟩
  · exact r13First_loc t loc nn h1 h2 w g
  · rcases h2 with ⟨h2, hk⟩ | ⟨h2, hk⟩
    · rcases h3 with ⟨h4, h5, rfl⟩ | ⟨rfl, h5⟩
      · exact r13First_1v t h2 i k h1 hk v h4 h5 w g
      · exact r13First_1n t h2 i k h1 hk nn h5 w g
    · rcases h3 with ⟨h4, h5, rfl⟩ | ⟨rfl, h5⟩
      · exact r13First_2v t h2 i k h1 hk v h4 h5 w g
      · exact r13First_2n t h2 i k h1 hk nn h5 w g
end Go.Proofs.YthaibjefnclkjaaGreatDoor
namespace Go.Proofs.YthaibjefnclkjaaGreatDoor
set_option linter.unusedVariables false

/-- a longer beginning is longer -/
theorem rowsK_mono (t : Tst) {j k : Nat} (h : j ≤ k) : (rowsK t j).length ≤ (rowsK t k).length := by
  obtain ⟨d, rfl⟩ := Nat.exists_eq_add_of_le h
  unfold rowsK
  rw [List.take_add, List.flatMap_append, List.length_append]
  omega
end Go.Proofs.YthaibjefnclkjaaGreatDoor
namespace Go.Proofs.YthaibjefnclkjaaGreatDoor
open Go.RowKit Go.Sort
set_option linter.unusedVariables false

set_option maxRecDepth 100000 in
set_option maxHeartbeats 6400000 in
theorem r13Print (t : Tst) (w : World) (h : TsIn w t) (g : Gl w) : Calls Tryz.prog 14 #[vT t] w (Ret w (.tuple #[.string (tx (printE t).1), .int .i64 (printE t).2])) := by
  have A := al w (mkT t)
  have b0 := BxT.new w t
  have HI := hid (h.keep A)
  have HA := hid A
  have HG := hid (g.below A)
  have CH := r13Table t _ (h.keep A) (g.below A)
  obtain ⟨r, hr⟩ : ∃ r, tstE t = r := ⟨_, rfl⟩
  rw [hr] at CH
  have CH := hid CH
  have HR := hid hr
  clear h A hr g
  go_enter Tryz.func14, Tryz.ntmps14
  go_upto_region 1 with (fail)
  generalize w.alloc (mkT t) = W1 at *
  obtain ⟨c0, c1, c2, c3, c4, c5, c6, c7, c8, c9, c10, c11⟩ := b0.cells
  go_wp2_with fail
  refine CH.out.mono ?_
  rintro e w2 ⟨la, lc, rfl, o, E⟩
  clear c0 c1 c2 c3 c4 c5 c6 c7 c8 c9 c10 c11 CH
  by_cases h0 : r = 0
  · subst h0
    have G := hid (Good.of HR.out)
    rw [show tabV t = tableT t by unfold tabV; rw [if_pos HR.out]] at o ⊢
    obtain ⟨m, hm⟩ : ∃ m, (tableT t).length = m := ⟨_, rfl⟩
    have HM := hid hm
    rw [hm] at o ⊢
    have hm257 : m ≤ 257 := by
      rw [← hm, tableT_length]
      have := highL_le G.out.c256
      rw [highT_eq]; omega
    clear hm
    obtain ⟨c0, c1, c2, c3, c4, c5, c6, c7, c8, c9, c10, c11⟩ := (b0.below E).cells
    go_upto_if 20 with (fail)
    go_cut [6] (fun x wx => x = .string (tx (head0 t)) ∧ wx = w2)
    case first =>
      by_cases ha : t.arch = 2
      · have z : (t.arch == 2) = true := by simp; exact ha
        have HZ := hid (show head0 t = [82, 73, 83, 67, 86, 32] by unfold head0; rw [if_pos ha])
        clear ha
        go_wp2_with fail
        go_meet
        exact ⟨congrArg Value.string (by rw [HZ.out]; rfl), rfl⟩
      · have z : (t.arch == 2) = false := by simp; exact ha
        have HZ := hid (show head0 t = [88, 56, 54, 32] by unfold head0; rw [if_neg ha])
        clear ha
        go_wp2_with fail
        go_meet
        exact ⟨congrArg Value.string (by rw [HZ.out]; rfl), rfl⟩
    case rest =>
      obtain ⟨rfl, rfl⟩ := hcut
      have hl0 := head0_len t
      have hname : t.name.length ≤ 1024 := by
        have := G.out.title
        unfold titleB at this
        simp only [Bool.and_eq_true, decide_eq_true_eq] at this
        exact this.2.1
      have hcyc : t.cycle.length ≤ 262144 := by
        have := G.out.cyc
        unfold cycleB at this
        simp only [Bool.and_eq_true, decide_eq_true_eq] at this
        exact this.1
      have k1 : ∀ w, (Op.stringOp .add (tx (head0 t)) (tx t.name)).run Tryz.prog w = .ok (.string (tx (head0 t ++ t.name))) w := run_cat _ _ (by omega)
      have k2 : ∀ w, (Op.stringOp .add (tx (head0 t ++ t.name)) ⟨#[10]⟩).run Tryz.prog w = .ok (.string (tx (headT t))) w := run_cat (head0 t ++ t.name) [10] (by simp; omega)
      have hh := headT_len G.out.title
      obtain ⟨hd, hhd⟩ : ∃ hd, headT t = hd := ⟨_, rfl⟩
      rw [hhd] at k2 hh
      have HHD := hid hhd
      clear hhd
      go_upto_if 28 with (fail)
      clear k1 k2
      go_cut [6] (fun x wx => x = .string (tx (hd ++ cycT t)) ∧ wx = wc)
      case first =>
        have HY : t.cycle ≠ [] → hd ++ cycT t = hd ++ [34] ++ t.cycle ++ [34, 10] := fun hc => by unfold cycT; rw [if_neg hc]; simp
        have HN : t.cycle = [] → hd ++ cycT t = hd := fun hc => by unfold cycT; rw [if_pos hc]; simp
        have HE : ∀ b, (!(tx t.cycle).toList.isEmpty) = b → (b = true → t.cycle ≠ []) ∧ (b = false → t.cycle = []) := fun b hb => by
          rw [tx_toList] at hb
          subst hb
          cases hq : t.cycle with
          | nil => simp
          | cons a r => simp
        have k1 : ∀ w, (Op.stringOp .add (tx hd) ⟨#[34]⟩).run Tryz.prog w = .ok (.string (tx (hd ++ [34]))) w := run_cat hd [34] (by simp; omega)
        have k2 : ∀ w, (Op.stringOp .add (tx (hd ++ [34])) (tx t.cycle)).run Tryz.prog w = .ok (.string (tx (hd ++ [34] ++ t.cycle))) w := run_cat (hd ++ [34]) t.cycle (by simp; omega)
        have k3 : ∀ w, (Op.stringOp .add (tx (hd ++ [34] ++ t.cycle)) ⟨#[34, 10]⟩).run Tryz.prog w = .ok (.string (tx (hd ++ [34] ++ t.cycle ++ [34, 10]))) w := run_cat (hd ++ [34] ++ t.cycle) [34, 10] (by simp; omega)
        obtain ⟨s1, hs1⟩ : ∃ s1, hd ++ [34] = s1 := ⟨_, rfl⟩
        rw [hs1] at k1 k2 k3 HY
        obtain ⟨s2, hs2⟩ : ∃ s2, s1 ++ t.cycle = s2 := ⟨_, rfl⟩
        rw [hs2] at k2 k3 HY
        obtain ⟨s3, hs3⟩ : ∃ s3, s2 ++ [34, 10] = s3 := ⟨_, rfl⟩
        rw [hs3] at k3 HY
        have HY := hid HY; have HN := hid HN; have HE := hid HE
        clear hs1 hs2 hs3
        go_wp2_with fail
        all_goals
          rename_i hb
          have HB := hid (HE.out _ hb)
          clear hb
          go_meet
          refine ⟨congrArg Value.string ?_, rfl⟩
        · rw [HY.out (HB.out.1 rfl)]
        · rw [HN.out (HB.out.2 rfl)]
      case rest =>
        obtain ⟨rfl, rfl⟩ := hcut
        have hcy := cycT_len G.out.cyc
        have k1 : ∀ w, (Op.stringOp .add (tx (hd ++ cycT t)) ⟨#[123, 10]⟩).run Tryz.prog w = .ok (.string (tx (preT t))) w := by
          rw [show preT t = hd ++ cycT t ++ [123, 10] by unfold preT; rw [HHD.out]]
          exact run_cat _ [123, 10] (by simp; omega)
        have hpl := preT_len G.out.title G.out.cyc
        obtain ⟨p0, hp0⟩ : ∃ p0, preT t = p0 := ⟨_, rfl⟩
        rw [hp0] at k1 hpl
        have HP := hid hp0
        have HIN := hid G.out.inits
        clear hp0
        have HTX := hid (OwnS.txs o (by rw [HM.out]; omega))
        have HEC := hid E
        have F0 : Below wc.heap.size wc wc := Below.refl _ _
        obtain ⟨ni, hni⟩ : ∃ ni, t.init.length = ni := ⟨_, rfl⟩
        have hni1 : ni ≤ 1024 := by rw [← hni]; exact G.out.i1024
        have HNI := hid hni
        clear hni o E hh hl0 hname hcyc hcy c0 c1 c2 c3 c4 c5 c6 c7 c8 c9 c10 c11
        go_wp2_with fail
        clear k1
        go_loopw [6, 7] (fun v i wr => ∃ (k : Nat) (l : Tx), k ≤ ni ∧ i = .int .i64 k ∧ v = .string (tx l) ∧ l.length ≤ 365600 ∧ Below wc.heap.size wc wr ∧ Hid (l = p0 ++ initsK t k)) (fun _ i _ => ni - (intOf i).toNat)
        case atStart => exact ⟨0, p0, by omega, rfl, rfl, by omega, F0, by simp [Hid, initsK_zero]⟩
        case round =>
          clear F0
          obtain ⟨k, l, hk, rfl, rfl, hl, F, HL⟩ := hrel
          have E := HEC.out.trans (F.mono HEC.out.size)
          obtain ⟨c0, c1, c2, c3, c4, c5, c6, c7, c8, c9, c10, c11⟩ := (b0.below E).cells
          rw [HNI.out] at c3
          by_cases hlt : k < ni
          · obtain ⟨x, hx⟩ : ∃ x, t.init[k]? = some x := ⟨_, List.getElem?_eq_getElem (by rw [HNI.out]; exact hlt)⟩
            obtain ⟨p0', p1, p2, p3, p4⟩ := (HI.out.init.below E).ini hx
            have ix := HI.out.init.idx inil cIni_len k (by rw [HNI.out]; exact hlt) t.ic
            rw [HNI.out] at ix
            have CC := hid (fun (d : Nat) (os : Array Obj) => r13First t x G.out.arch G.out.c16 (G.out.first x (List.mem_of_getElem? hx)) (grow (redrawn wr d) os) (HG.out.below (E.trans ((below_regrown wr d os).mono E.size))))
            have hil := HIN.out (k + 1)
            have hst := initsK_step hx
            unfold vT at CC
            rw [HNI.out] at CC
            obtain ⟨s, hs⟩ : ∃ s, initT t.arch x = s := ⟨_, rfl⟩
            rw [hs] at CC hst
            have HT := hid (show l ++ s = p0 ++ initsK t (k + 1) by rw [HL.out, hst]; simp)
            have hls : (l ++ s).length ≤ 365600 := by rw [HT.out]; simp; omega
            have cc : ∀ w, (Op.stringOp .add (tx l) (tx s)).run Tryz.prog w = .ok (.string (tx (l ++ s))) w := run_cat l s (by rw [List.length_append] at hls; omega)
            obtain ⟨l2, hl2⟩ : ∃ l2, l ++ s = l2 := ⟨_, rfl⟩
            rw [hl2] at cc HT hls
            clear hx hs hl2 hst hil
            go_wp2_with fail
            have cA := fun (d : Nat) (os : Array Obj) => Calls.regrown_of (retc' (CC.out d os))
            have c0 := cell_regrown c0; have c1 := cell_regrown c1; have c2 := cell_regrown c2; have c3 := cell_regrown c3; have c4 := cell_regrown c4; have c5 := cell_regrown c5; have c6 := cell_regrown c6; have c7 := cell_regrown c7; have c8 := cell_regrown c8; have c9 := cell_regrown c9; have c10 := cell_regrown c10; have c11 := cell_regrown c11
            have p0' := cell_regrown p0'; have p1 := cell_regrown p1; have p2 := cell_regrown p2; have p3 := cell_regrown p3; have p4 := cell_regrown p4
            refine wp_region_quiet_below (by kernel_rfl) (by kernel_rfl) ?_
            repeat (go_big_quiet_step (exact cA _ _))
            refine wpQuiet_nil ?_
            intro _ hw'
            obtain ⟨⟨dq, osq⟩, hw''⟩ := hw'
            subst hw''
            have EQ := below_regrown wr dq osq
            generalize grow (redrawn wr dq) osq = W5 at *
            have F := F.trans (EQ.mono F.size)
            clear c0 c1 c2 c3 c4 c5 c6 c7 c8 c9 c10 c11 p0' p1 p2 p3 p4 ix EQ cA CC cc E
            go_wp2_with fail
            go_roundw
            case rel => exact ⟨k + 1, l2, by omega, by go_num, rfl, hls, F, HT⟩
            case measure => simp [intOf]; omega
          · have hkn : k = ni := by omega
            have k1 : ∀ w, (Op.stringOp .add (tx l) ⟨#[125, 10]⟩).run Tryz.prog w = .ok (.string (tx (l ++ [125, 10]))) w := run_cat l [125, 10] (by simp; omega)
            obtain ⟨p1, hp1⟩ : ∃ p1, l ++ [125, 10] = p1 := ⟨_, rfl⟩
            rw [hp1] at k1
            have hpl1 : p1.length ≤ 365602 := by rw [← hp1]; simp; omega
            have HP1 := hid (show p1 = p0 ++ initsK t t.init.length ++ [125, 10] by rw [← hp1, HL.out, hkn, HNI.out])
            have HFT := hid (show fileT t = p1 ++ rowsK t m ++ textC t.arch t.q t.node ++ [10] by rw [fileT_eq, HP1.out, HP.out, ← tableT_length, HM.out])
            have hrl := rowsK_le G.out.c16 G.out.c256
            have HRL := hid hrl
            have HF := hid F
            clear hkn hp1 hrl hl
            go_wp2_with fail
            clear k1
            go_loopw [6, 8] (fun v i wr => ∃ (j : Nat) (l : Tx), j ≤ m ∧ i = .int .i64 j ∧ v = .string (tx l) ∧ l.length ≤ 365602 ∧ Below wc.heap.size wc wr ∧ Hid (l = p1 ++ rowsK t j)) (fun _ i _ => m - (intOf i).toNat)
            case atStart => exact ⟨0, p1, by omega, rfl, rfl, by omega, F, by simp [Hid, rowsK_zero]⟩
            case round =>
              clear F E c0 c1 c2 c3 c4 c5 c6 c7 c8 c9 c10 c11
              obtain ⟨j, l, hj, rfl, rfl, hl, F, HL⟩ := hrel
              by_cases hjt : j < m
              · obtain ⟨s, hs⟩ : ∃ s, (tableT t)[j]? = some s := ⟨_, List.getElem?_eq_getElem (by rw [HM.out]; exact hjt)⟩
                have p0' := (HTX.out.below F).at hs
                have ix := (HTX.out.below F).idx j (by rw [HM.out]; exact hjt) lc
                rw [HM.out] at ix
                have hsl := tableT_le G.out.c16 (List.mem_of_getElem? hs)
                have k1 : ∀ w, (Op.stringOp .add (tx l) (tx s)).run Tryz.prog w = .ok (.string (tx (l ++ s))) w := run_cat l s (by omega)
                have k2 : ∀ w, (Op.stringOp .add (tx (l ++ s)) ⟨#[10]⟩).run Tryz.prog w = .ok (.string (tx (l ++ s ++ [10]))) w := run_cat (l ++ s) [10] (by simp; omega)
                have HT := hid (show l ++ s ++ [10] = p1 ++ rowsK t (j + 1) by rw [HL.out, rowsK_step hs]; simp)
                obtain ⟨l1, hl1⟩ : ∃ l1, l ++ s = l1 := ⟨_, rfl⟩
                rw [hl1] at k1 k2 HT
                obtain ⟨l2, hl2⟩ : ∃ l2, l1 ++ [10] = l2 := ⟨_, rfl⟩
                rw [hl2] at k2 HT
                obtain ⟨n2, hn2⟩ : ∃ n2, l2.length = n2 := ⟨_, rfl⟩
                have hsz := tsize hn2
                have HN2 := hid hn2
                clear hs hl1 hl2 hn2
                by_cases hbig : 262144 < n2
                · have HV := hid (printE_long HR.out (by
                    rw [HFT.out]
                    have h1 := rowsK_mono t (j := j + 1) (k := m) (by omega)
                    have h2 := congrArg List.length HT.out
                    have h3 := HN2.out
                    simp only [List.length_append] at h2 ⊢
                    omega))
                  go_wp2_with fail
                  (try go_simp)
                  go_ret2
                  rw [HV.out]
                  exact ⟨rfl, HA.out.trans ((HEC.out.trans (F.mono HEC.out.size)).mono HA.out.size)⟩
                · have hl2 : l2.length ≤ 365602 := by rw [HN2.out]; omega
                  go_wp2_with fail
                  go_roundw
                  case rel => exact ⟨j + 1, l2, by omega, by go_num, rfl, hl2, F, HT⟩
                  case measure => simp [intOf]; omega
              · have hjm : j = m := by omega
                have E := HEC.out.trans (F.mono HEC.out.size)
                obtain ⟨c0, c1, c2, c3, c4, c5, c6, c7, c8, c9, c10, c11⟩ := (b0.below E).cells
                have PC := hid (r08Print_yes t.arch t.q t.node wr (HI.out.node.keep E) G.out.cond (HG.out.below E))
                have hcl := textC_len2 G.out.cond
                have HFT2 := hid (show fileT t = l ++ textC t.arch t.q t.node ++ [10] by rw [HFT.out, HL.out, hjm])
                obtain ⟨d, hd⟩ : ∃ d, textC t.arch t.q t.node = d := ⟨_, rfl⟩
                rw [hd] at PC hcl HFT2
                have k1 : ∀ w, (Op.stringOp .add (tx l) (tx d)).run Tryz.prog w = .ok (.string (tx (l ++ d))) w := run_cat l d (by omega)
                have k2 : ∀ w, (Op.stringOp .add (tx (l ++ d)) ⟨#[10]⟩).run Tryz.prog w = .ok (.string (tx (l ++ d ++ [10]))) w := run_cat (l ++ d) [10] (by simp; omega)
                obtain ⟨l1, hl1⟩ : ∃ l1, l ++ d = l1 := ⟨_, rfl⟩
                rw [hl1] at k1 k2 HFT2
                obtain ⟨l2, hl2⟩ : ∃ l2, l1 ++ [10] = l2 := ⟨_, rfl⟩
                rw [hl2] at k2 HFT2
                obtain ⟨n2, hn2⟩ : ∃ n2, l2.length = n2 := ⟨_, rfl⟩
                have hsz := tsize hn2
                have HN2 := hid hn2
                have HF2 := hid (HA.out.trans (E.mono HA.out.size))
                clear hd hl1 hl2 hn2 hjm
                go_wp2_with fail
                refine PC.out.mono ?_
                rintro e w7 ⟨rfl, E7⟩
                have HW7 := hid (HF2.out.trans (E7.mono HF2.out.size))
                clear c0 c1 c2 c3 c4 c5 c6 c7 c8 c9 c10 c11 PC E7
                by_cases hbig : 262144 < n2
                · have HV := hid (printE_long HR.out (by rw [HFT2.out, HN2.out]; exact hbig))
                  go_wp2_with fail
                  (try go_simp)
                  go_ret2
                  rw [HV.out]
                  exact ⟨rfl, HW7.out⟩
                · have HV := hid (printE_yes HR.out (by rw [HFT2.out, HN2.out]; exact hbig))
                  go_wp2_with fail
                  (try go_simp)
                  go_ret2
                  rw [HV.out, HFT2.out]
                  exact ⟨rfl, HW7.out⟩
  · have z : (r != 0) = true := by simpa using h0
    have HV := hid (printE_no HR.out h0)
    clear h0
    go_wp2_with fail
    (try go_simp)
    go_ret2
    rw [HV.out]
    exact ⟨rfl, HA.out.trans (E.mono HA.out.size)⟩
end Go.Proofs.YthaibjefnclkjaaGreatDoor
namespace Go.Proofs.YthaibjefnclkjaaGreatDoor
set_option linter.unusedVariables false

theorem fileT_bare (t : Tst) : fileT (bare t) = fileT t := by
  unfold fileT; rw [tableT_bare]; rfl
theorem printE_bare (t : Tst) : printE (bare t) = printE t := by unfold printE; rw [tstE_bare, fileT_bare]
end Go.Proofs.YthaibjefnclkjaaGreatDoor

/- The walk of Print (the program's). Condition: the library's table as the program's text lays it. · The walks of Links' closure, of IndexFunc and ContainsFunc over it (the program's). Conditions: the instructions lie in memory as read. -/
import Derived.Test.YtigimkgmghjgoaaGreatDoorQf
import Derived.Test.YtigimkgmghjgoaaGreatDoorQi
namespace Go.Proofs.YtigimkgmghjgoaaGreatDoor
open Go.RowKit
set_option linter.unusedVariables false

attribute [local go_sem high] eqI neqI

theorem run_catT (a b t : Tx) (ht : a ++ b = t) (h : t.length ≤ 1000) : ∀ w, (Op.stringOp .add (tx a) (tx b)).run Tryz.prog w = .ok (.string (tx t)) w := by
  subst ht; exact run_cat a b (by simp at h; omega)
theorem progRegZ (z : Int) (h : regB z = true) (w : World) : Calls Tryz.prog 32 #[.int .i64 z] w fun e w' => e = .returned (.tuple #[.string (tx (rT z)), .int .i64 0]) ∧ w = w' := by
  obtain ⟨n, hn, rfl⟩ := regB_nat h
  exact progReg n hn w
theorem refRegZ (z : Int) (h : regB z = true) (w : World) : Calls Tryz.prog 35 #[.int .i64 z] w fun e w' => e = .returned (.tuple #[.string (tx (rT z)), .int .i64 0]) ∧ w = w' := by
  obtain ⟨n, hn, rfl⟩ := regB_nat h
  exact refReg n hn w
theorem rT_len {z : Int} (h : regB z = true) : (rT z).length ≤ 5 := by
  obtain ⟨n, hn, rfl⟩ := regB_nat h
  unfold rT; simpa using regT_len hn
theorem checkI_spec {i : Ins} (h : checkI i = true) : okI i = true ∧ i = wantI i ∧ regB i.d = true ∧ regB i.a = true ∧ regB i.b = true := by
  unfold checkI at h
  simp only [Bool.and_eq_true, decide_eq_true_eq] at h
  exact ⟨h.1.1.1.1, h.1.1.1.2, h.1.1.2, h.1.2, h.2⟩

set_option maxRecDepth 100000 in
set_option maxHeartbeats 6400000 in
theorem progPrint_lw (d : Int) (a : Int) (hd : regB d = true) (ha : regB a = true) (hc : checkI ⟨6, d, a, 0, 0, [], [], 0⟩ = true) (w : World) (g : Gl w) :
    Calls Tryz.prog 10 #[vI ⟨6, d, a, 0, 0, [], [], 0⟩] w (Ret w (.tuple #[.string (tx (printI ⟨6, d, a, 0, 0, [], [], 0⟩)), .int .i64 0])) := by
  have E1 := al w (mkI ⟨6, d, a, 0, 0, [], [], 0⟩)
  have b0 := BxI.new w ⟨6, d, a, 0, 0, [], [], 0⟩
  have g := g.below E1
  have HE := hid (errI_yes hc)
  have r0 : regB 0 = true := by decide
  have ld := rT_len hd; have Rd := hid hd
  have la := rT_len ha; have Ra := hid ha
  obtain ⟨t1, ht1⟩ : ∃ t : Tx, [108, 119, 32] ++ (rT d) = t := ⟨_, rfl⟩
  have n1 : t1.length = _ := (congrArg List.length ht1).symm.trans List.length_append
  have m1 : t1.length ≤ 100 := by rw [n1]; (try simp only [List.length_cons, List.length_nil]); omega
  have c1 : ∀ w, (Op.stringOp .add ⟨#[108, 119, 32]⟩ (tx (rT d))).run Tryz.prog w = .ok (.string (tx t1)) w := run_catT [108, 119, 32] (rT d) t1 ht1 (by omega)
  clear n1
  obtain ⟨t2, ht2⟩ : ∃ t : Tx, t1 ++ [44, 48, 40] = t := ⟨_, rfl⟩
  have n2 : t2.length = _ := (congrArg List.length ht2).symm.trans List.length_append
  have m2 : t2.length ≤ 150 := by rw [n2]; (try simp only [List.length_cons, List.length_nil]); omega
  have c2 : ∀ w, (Op.stringOp .add (tx t1) ⟨#[44, 48, 40]⟩).run Tryz.prog w = .ok (.string (tx t2)) w := run_catT t1 [44, 48, 40] t2 ht2 (by omega)
  clear n2
  obtain ⟨t3, ht3⟩ : ∃ t : Tx, t2 ++ (rT a) = t := ⟨_, rfl⟩
  have n3 : t3.length = _ := (congrArg List.length ht3).symm.trans List.length_append
  have m3 : t3.length ≤ 200 := by rw [n3]; (try simp only [List.length_cons, List.length_nil]); omega
  have c3 : ∀ w, (Op.stringOp .add (tx t2) (tx (rT a))).run Tryz.prog w = .ok (.string (tx t3)) w := run_catT t2 (rT a) t3 ht3 (by omega)
  clear n3
  obtain ⟨t4, ht4⟩ : ∃ t : Tx, t3 ++ [41] = t := ⟨_, rfl⟩
  have n4 : t4.length = _ := (congrArg List.length ht4).symm.trans List.length_append
  have m4 : t4.length ≤ 250 := by rw [n4]; (try simp only [List.length_cons, List.length_nil]); omega
  have c4 : ∀ w, (Op.stringOp .add (tx t3) ⟨#[41]⟩).run Tryz.prog w = .ok (.string (tx t4)) w := run_catT t3 [41] t4 ht4 (by omega)
  clear n4
  have HP := hid (show printI ⟨6, d, a, 0, 0, [], [], 0⟩ = t4 by rw [← ht4, ← ht3, ← ht2, ← ht1]; rfl)
  clear ht1 ht2 ht3 ht4
  clear hc hd ha
  go_enter Tryz.func10, Tryz.ntmps10
  go_wp2_with fail
  refine (progCheck ⟨6, d, a, 0, 0, [], [], 0⟩ (by simp) _).mono ?_
  rintro x w1 ⟨rfl, E⟩
  rw [HE.out]
  have bb := b0.below E; have g := g.below E
  have B := E1.trans (E.mono E1.size)
  obtain ⟨q0, q1, q2, q3, q4, q5, q6, q7⟩ := bb.cells
  clear b0 bb E1 E
  go_wp2_with fail
  refine (progRegZ d Rd.out _).mono ?_
  rintro x w2 ⟨rfl, rfl⟩
  go_wp2_with fail
  refine (progRegZ a Ra.out _).mono ?_
  rintro x w2 ⟨rfl, rfl⟩
  go_wp2_with fail
  refine (progRegZ 0 r0 _).mono ?_
  rintro x w2 ⟨rfl, rfl⟩
  go_wp2_with fail
  go_ret2
  exact ⟨ret_spair (by rw [HP.out]) rfl, B⟩
set_option maxRecDepth 100000 in
set_option maxHeartbeats 6400000 in
theorem progPrint_sw (a : Int) (b : Int) (ha : regB a = true) (hb : regB b = true) (hc : checkI ⟨7, 0, a, b, 0, [], [], 0⟩ = true) (w : World) (g : Gl w) :
    Calls Tryz.prog 10 #[vI ⟨7, 0, a, b, 0, [], [], 0⟩] w (Ret w (.tuple #[.string (tx (printI ⟨7, 0, a, b, 0, [], [], 0⟩)), .int .i64 0])) := by
  have E1 := al w (mkI ⟨7, 0, a, b, 0, [], [], 0⟩)
  have b0 := BxI.new w ⟨7, 0, a, b, 0, [], [], 0⟩
  have g := g.below E1
  have HE := hid (errI_yes hc)
  have r0 : regB 0 = true := by decide
  have la := rT_len ha; have Ra := hid ha
  have lb := rT_len hb; have Rb := hid hb
  obtain ⟨t1, ht1⟩ : ∃ t : Tx, [115, 119, 32] ++ (rT b) = t := ⟨_, rfl⟩
  have n1 : t1.length = _ := (congrArg List.length ht1).symm.trans List.length_append
  have m1 : t1.length ≤ 100 := by rw [n1]; (try simp only [List.length_cons, List.length_nil]); omega
  have c1 : ∀ w, (Op.stringOp .add ⟨#[115, 119, 32]⟩ (tx (rT b))).run Tryz.prog w = .ok (.string (tx t1)) w := run_catT [115, 119, 32] (rT b) t1 ht1 (by omega)
  clear n1
  obtain ⟨t2, ht2⟩ : ∃ t : Tx, t1 ++ [44, 48, 40] = t := ⟨_, rfl⟩
  have n2 : t2.length = _ := (congrArg List.length ht2).symm.trans List.length_append
  have m2 : t2.length ≤ 150 := by rw [n2]; (try simp only [List.length_cons, List.length_nil]); omega
  have c2 : ∀ w, (Op.stringOp .add (tx t1) ⟨#[44, 48, 40]⟩).run Tryz.prog w = .ok (.string (tx t2)) w := run_catT t1 [44, 48, 40] t2 ht2 (by omega)
  clear n2
  obtain ⟨t3, ht3⟩ : ∃ t : Tx, t2 ++ (rT a) = t := ⟨_, rfl⟩
  have n3 : t3.length = _ := (congrArg List.length ht3).symm.trans List.length_append
  have m3 : t3.length ≤ 200 := by rw [n3]; (try simp only [List.length_cons, List.length_nil]); omega
  have c3 : ∀ w, (Op.stringOp .add (tx t2) (tx (rT a))).run Tryz.prog w = .ok (.string (tx t3)) w := run_catT t2 (rT a) t3 ht3 (by omega)
  clear n3
  obtain ⟨t4, ht4⟩ : ∃ t : Tx, t3 ++ [41] = t := ⟨_, rfl⟩
  have n4 : t4.length = _ := (congrArg List.length ht4).symm.trans List.length_append
  have m4 : t4.length ≤ 250 := by rw [n4]; (try simp only [List.length_cons, List.length_nil]); omega
  have c4 : ∀ w, (Op.stringOp .add (tx t3) ⟨#[41]⟩).run Tryz.prog w = .ok (.string (tx t4)) w := run_catT t3 [41] t4 ht4 (by omega)
  clear n4
  have HP := hid (show printI ⟨7, 0, a, b, 0, [], [], 0⟩ = t4 by rw [← ht4, ← ht3, ← ht2, ← ht1]; rfl)
  clear ht1 ht2 ht3 ht4
  clear hc ha hb
  go_enter Tryz.func10, Tryz.ntmps10
  go_wp2_with fail
  refine (progCheck ⟨7, 0, a, b, 0, [], [], 0⟩ (by simp) _).mono ?_
  rintro x w1 ⟨rfl, E⟩
  rw [HE.out]
  have bb := b0.below E; have g := g.below E
  have B := E1.trans (E.mono E1.size)
  obtain ⟨q0, q1, q2, q3, q4, q5, q6, q7⟩ := bb.cells
  clear b0 bb E1 E
  go_wp2_with fail
  refine (progRegZ 0 r0 _).mono ?_
  rintro x w2 ⟨rfl, rfl⟩
  go_wp2_with fail
  refine (progRegZ a Ra.out _).mono ?_
  rintro x w2 ⟨rfl, rfl⟩
  go_wp2_with fail
  refine (progRegZ b Rb.out _).mono ?_
  rintro x w2 ⟨rfl, rfl⟩
  go_wp2_with fail
  go_ret2
  exact ⟨ret_spair (by rw [HP.out]) rfl, B⟩
set_option maxRecDepth 100000 in
set_option maxHeartbeats 6400000 in
theorem progPrint_ori (d : Int) (a : Int) (imm : Int) (hd : regB d = true) (ha : regB a = true) (h1 : -2048 ≤ imm) (h2 : imm ≤ 2047) (hc : checkI ⟨8, d, a, 0, imm, [], [], 0⟩ = true) (w : World) (g : Gl w) :
    Calls Tryz.prog 10 #[vI ⟨8, d, a, 0, imm, [], [], 0⟩] w (Ret w (.tuple #[.string (tx (printI ⟨8, d, a, 0, imm, [], [], 0⟩)), .int .i64 0])) := by
  have E1 := al w (mkI ⟨8, d, a, 0, imm, [], [], 0⟩)
  have b0 := BxI.new w ⟨8, d, a, 0, imm, [], [], 0⟩
  have g := g.below E1
  have HE := hid (errI_yes hc)
  have r0 : regB 0 = true := by decide
  have ld := rT_len hd; have Rd := hid hd
  have la := rT_len ha; have Ra := hid ha
  have li := decI_len imm
  have hi := itoa_decI (n := imm) (by omega) (by omega)
  have HI := hid hi; clear hi
  obtain ⟨t1, ht1⟩ : ∃ t : Tx, [111, 114, 105, 32] ++ (rT d) = t := ⟨_, rfl⟩
  have n1 : t1.length = _ := (congrArg List.length ht1).symm.trans List.length_append
  have m1 : t1.length ≤ 100 := by rw [n1]; (try simp only [List.length_cons, List.length_nil]); omega
  have c1 : ∀ w, (Op.stringOp .add ⟨#[111, 114, 105, 32]⟩ (tx (rT d))).run Tryz.prog w = .ok (.string (tx t1)) w := run_catT [111, 114, 105, 32] (rT d) t1 ht1 (by omega)
  clear n1
  obtain ⟨t2, ht2⟩ : ∃ t : Tx, t1 ++ [44] = t := ⟨_, rfl⟩
  have n2 : t2.length = _ := (congrArg List.length ht2).symm.trans List.length_append
  have m2 : t2.length ≤ 150 := by rw [n2]; (try simp only [List.length_cons, List.length_nil]); omega
  have c2 : ∀ w, (Op.stringOp .add (tx t1) ⟨#[44]⟩).run Tryz.prog w = .ok (.string (tx t2)) w := run_catT t1 [44] t2 ht2 (by omega)
  clear n2
  obtain ⟨t3, ht3⟩ : ∃ t : Tx, t2 ++ (rT a) = t := ⟨_, rfl⟩
  have n3 : t3.length = _ := (congrArg List.length ht3).symm.trans List.length_append
  have m3 : t3.length ≤ 200 := by rw [n3]; (try simp only [List.length_cons, List.length_nil]); omega
  have c3 : ∀ w, (Op.stringOp .add (tx t2) (tx (rT a))).run Tryz.prog w = .ok (.string (tx t3)) w := run_catT t2 (rT a) t3 ht3 (by omega)
  clear n3
  obtain ⟨t4, ht4⟩ : ∃ t : Tx, t3 ++ [44] = t := ⟨_, rfl⟩
  have n4 : t4.length = _ := (congrArg List.length ht4).symm.trans List.length_append
  have m4 : t4.length ≤ 250 := by rw [n4]; (try simp only [List.length_cons, List.length_nil]); omega
  have c4 : ∀ w, (Op.stringOp .add (tx t3) ⟨#[44]⟩).run Tryz.prog w = .ok (.string (tx t4)) w := run_catT t3 [44] t4 ht4 (by omega)
  clear n4
  obtain ⟨t5, ht5⟩ : ∃ t : Tx, t4 ++ (decI imm) = t := ⟨_, rfl⟩
  have n5 : t5.length = _ := (congrArg List.length ht5).symm.trans List.length_append
  have m5 : t5.length ≤ 300 := by rw [n5]; (try simp only [List.length_cons, List.length_nil]); omega
  have c5 : ∀ w, (Op.stringOp .add (tx t4) (tx (decI imm))).run Tryz.prog w = .ok (.string (tx t5)) w := run_catT t4 (decI imm) t5 ht5 (by omega)
  clear n5
  have HP := hid (show printI ⟨8, d, a, 0, imm, [], [], 0⟩ = t5 by rw [← ht5, ← ht4, ← ht3, ← ht2, ← ht1]; rfl)
  clear ht1 ht2 ht3 ht4 ht5
  clear hc hd ha
  go_enter Tryz.func10, Tryz.ntmps10
  go_wp2_with fail
  refine (progCheck ⟨8, d, a, 0, imm, [], [], 0⟩ (by simp) _).mono ?_
  rintro x w1 ⟨rfl, E⟩
  rw [HE.out]
  have bb := b0.below E; have g := g.below E
  have B := E1.trans (E.mono E1.size)
  obtain ⟨q0, q1, q2, q3, q4, q5, q6, q7⟩ := bb.cells
  clear b0 bb E1 E
  go_wp2_with fail
  refine (progRegZ d Rd.out _).mono ?_
  rintro x w2 ⟨rfl, rfl⟩
  go_wp2_with fail
  refine (progRegZ a Ra.out _).mono ?_
  rintro x w2 ⟨rfl, rfl⟩
  go_wp2_with fail
  refine (progRegZ 0 r0 _).mono ?_
  rintro x w2 ⟨rfl, rfl⟩
  go_wp2_with fail
  refine (itoa_any imm (by omega) (by omega) _ g).mono ?_
  rintro x w3 ⟨rfl, E⟩
  rw [HI.out]
  have B := B.trans (E.mono B.size)
  go_wp2_with fail
  go_ret2
  exact ⟨ret_spair (by rw [HP.out]) rfl, B⟩
set_option maxRecDepth 100000 in
set_option maxHeartbeats 6400000 in
theorem progPrint_xor (d : Int) (a : Int) (b : Int) (hd : regB d = true) (ha : regB a = true) (hb : regB b = true) (hc : checkI ⟨9, d, a, b, 0, [], [], 0⟩ = true) (w : World) (g : Gl w) :
    Calls Tryz.prog 10 #[vI ⟨9, d, a, b, 0, [], [], 0⟩] w (Ret w (.tuple #[.string (tx (printI ⟨9, d, a, b, 0, [], [], 0⟩)), .int .i64 0])) := by
  have E1 := al w (mkI ⟨9, d, a, b, 0, [], [], 0⟩)
  have b0 := BxI.new w ⟨9, d, a, b, 0, [], [], 0⟩
  have g := g.below E1
  have HE := hid (errI_yes hc)
  have r0 : regB 0 = true := by decide
  have ld := rT_len hd; have Rd := hid hd
  have la := rT_len ha; have Ra := hid ha
  have lb := rT_len hb; have Rb := hid hb
  obtain ⟨t1, ht1⟩ : ∃ t : Tx, [120, 111, 114, 32] ++ (rT d) = t := ⟨_, rfl⟩
  have n1 : t1.length = _ := (congrArg List.length ht1).symm.trans List.length_append
  have m1 : t1.length ≤ 100 := by rw [n1]; (try simp only [List.length_cons, List.length_nil]); omega
  have c1 : ∀ w, (Op.stringOp .add ⟨#[120, 111, 114, 32]⟩ (tx (rT d))).run Tryz.prog w = .ok (.string (tx t1)) w := run_catT [120, 111, 114, 32] (rT d) t1 ht1 (by omega)
  clear n1
  obtain ⟨t2, ht2⟩ : ∃ t : Tx, t1 ++ [44] = t := ⟨_, rfl⟩
  have n2 : t2.length = _ := (congrArg List.length ht2).symm.trans List.length_append
  have m2 : t2.length ≤ 150 := by rw [n2]; (try simp only [List.length_cons, List.length_nil]); omega
  have c2 : ∀ w, (Op.stringOp .add (tx t1) ⟨#[44]⟩).run Tryz.prog w = .ok (.string (tx t2)) w := run_catT t1 [44] t2 ht2 (by omega)
  clear n2
  obtain ⟨t3, ht3⟩ : ∃ t : Tx, t2 ++ (rT a) = t := ⟨_, rfl⟩
  have n3 : t3.length = _ := (congrArg List.length ht3).symm.trans List.length_append
  have m3 : t3.length ≤ 200 := by rw [n3]; (try simp only [List.length_cons, List.length_nil]); omega
  have c3 : ∀ w, (Op.stringOp .add (tx t2) (tx (rT a))).run Tryz.prog w = .ok (.string (tx t3)) w := run_catT t2 (rT a) t3 ht3 (by omega)
  clear n3
  obtain ⟨t4, ht4⟩ : ∃ t : Tx, t3 ++ [44] = t := ⟨_, rfl⟩
  have n4 : t4.length = _ := (congrArg List.length ht4).symm.trans List.length_append
  have m4 : t4.length ≤ 250 := by rw [n4]; (try simp only [List.length_cons, List.length_nil]); omega
  have c4 : ∀ w, (Op.stringOp .add (tx t3) ⟨#[44]⟩).run Tryz.prog w = .ok (.string (tx t4)) w := run_catT t3 [44] t4 ht4 (by omega)
  clear n4
  obtain ⟨t5, ht5⟩ : ∃ t : Tx, t4 ++ (rT b) = t := ⟨_, rfl⟩
  have n5 : t5.length = _ := (congrArg List.length ht5).symm.trans List.length_append
  have m5 : t5.length ≤ 300 := by rw [n5]; (try simp only [List.length_cons, List.length_nil]); omega
  have c5 : ∀ w, (Op.stringOp .add (tx t4) (tx (rT b))).run Tryz.prog w = .ok (.string (tx t5)) w := run_catT t4 (rT b) t5 ht5 (by omega)
  clear n5
  have HP := hid (show printI ⟨9, d, a, b, 0, [], [], 0⟩ = t5 by rw [← ht5, ← ht4, ← ht3, ← ht2, ← ht1]; rfl)
  clear ht1 ht2 ht3 ht4 ht5
  clear hc hd ha hb
  go_enter Tryz.func10, Tryz.ntmps10
  go_wp2_with fail
  refine (progCheck ⟨9, d, a, b, 0, [], [], 0⟩ (by simp) _).mono ?_
  rintro x w1 ⟨rfl, E⟩
  rw [HE.out]
  have bb := b0.below E; have g := g.below E
  have B := E1.trans (E.mono E1.size)
  obtain ⟨q0, q1, q2, q3, q4, q5, q6, q7⟩ := bb.cells
  clear b0 bb E1 E
  go_wp2_with fail
  refine (progRegZ d Rd.out _).mono ?_
  rintro x w2 ⟨rfl, rfl⟩
  go_wp2_with fail
  refine (progRegZ a Ra.out _).mono ?_
  rintro x w2 ⟨rfl, rfl⟩
  go_wp2_with fail
  refine (progRegZ b Rb.out _).mono ?_
  rintro x w2 ⟨rfl, rfl⟩
  go_wp2_with fail
  go_ret2
  exact ⟨ret_spair (by rw [HP.out]) rfl, B⟩
set_option maxRecDepth 100000 in
set_option maxHeartbeats 6400000 in
theorem progPrint_add (d : Int) (a : Int) (b : Int) (hd : regB d = true) (ha : regB a = true) (hb : regB b = true) (hc : checkI ⟨10, d, a, b, 0, [], [], 0⟩ = true) (w : World) (g : Gl w) :
    Calls Tryz.prog 10 #[vI ⟨10, d, a, b, 0, [], [], 0⟩] w (Ret w (.tuple #[.string (tx (printI ⟨10, d, a, b, 0, [], [], 0⟩)), .int .i64 0])) := by
  have E1 := al w (mkI ⟨10, d, a, b, 0, [], [], 0⟩)
  have b0 := BxI.new w ⟨10, d, a, b, 0, [], [], 0⟩
  have g := g.below E1
  have HE := hid (errI_yes hc)
  have r0 : regB 0 = true := by decide
  have ld := rT_len hd; have Rd := hid hd
  have la := rT_len ha; have Ra := hid ha
  have lb := rT_len hb; have Rb := hid hb
  obtain ⟨t1, ht1⟩ : ∃ t : Tx, [97, 100, 100, 32] ++ (rT d) = t := ⟨_, rfl⟩
  have n1 : t1.length = _ := (congrArg List.length ht1).symm.trans List.length_append
  have m1 : t1.length ≤ 100 := by rw [n1]; (try simp only [List.length_cons, List.length_nil]); omega
  have c1 : ∀ w, (Op.stringOp .add ⟨#[97, 100, 100, 32]⟩ (tx (rT d))).run Tryz.prog w = .ok (.string (tx t1)) w := run_catT [97, 100, 100, 32] (rT d) t1 ht1 (by omega)
  clear n1
  obtain ⟨t2, ht2⟩ : ∃ t : Tx, t1 ++ [44] = t := ⟨_, rfl⟩
  have n2 : t2.length = _ := (congrArg List.length ht2).symm.trans List.length_append
  have m2 : t2.length ≤ 150 := by rw [n2]; (try simp only [List.length_cons, List.length_nil]); omega
  have c2 : ∀ w, (Op.stringOp .add (tx t1) ⟨#[44]⟩).run Tryz.prog w = .ok (.string (tx t2)) w := run_catT t1 [44] t2 ht2 (by omega)
  clear n2
  obtain ⟨t3, ht3⟩ : ∃ t : Tx, t2 ++ (rT a) = t := ⟨_, rfl⟩
  have n3 : t3.length = _ := (congrArg List.length ht3).symm.trans List.length_append
  have m3 : t3.length ≤ 200 := by rw [n3]; (try simp only [List.length_cons, List.length_nil]); omega
  have c3 : ∀ w, (Op.stringOp .add (tx t2) (tx (rT a))).run Tryz.prog w = .ok (.string (tx t3)) w := run_catT t2 (rT a) t3 ht3 (by omega)
  clear n3
  obtain ⟨t4, ht4⟩ : ∃ t : Tx, t3 ++ [44] = t := ⟨_, rfl⟩
  have n4 : t4.length = _ := (congrArg List.length ht4).symm.trans List.length_append
  have m4 : t4.length ≤ 250 := by rw [n4]; (try simp only [List.length_cons, List.length_nil]); omega
  have c4 : ∀ w, (Op.stringOp .add (tx t3) ⟨#[44]⟩).run Tryz.prog w = .ok (.string (tx t4)) w := run_catT t3 [44] t4 ht4 (by omega)
  clear n4
  obtain ⟨t5, ht5⟩ : ∃ t : Tx, t4 ++ (rT b) = t := ⟨_, rfl⟩
  have n5 : t5.length = _ := (congrArg List.length ht5).symm.trans List.length_append
  have m5 : t5.length ≤ 300 := by rw [n5]; (try simp only [List.length_cons, List.length_nil]); omega
  have c5 : ∀ w, (Op.stringOp .add (tx t4) (tx (rT b))).run Tryz.prog w = .ok (.string (tx t5)) w := run_catT t4 (rT b) t5 ht5 (by omega)
  clear n5
  have HP := hid (show printI ⟨10, d, a, b, 0, [], [], 0⟩ = t5 by rw [← ht5, ← ht4, ← ht3, ← ht2, ← ht1]; rfl)
  clear ht1 ht2 ht3 ht4 ht5
  clear hc hd ha hb
  go_enter Tryz.func10, Tryz.ntmps10
  go_wp2_with fail
  refine (progCheck ⟨10, d, a, b, 0, [], [], 0⟩ (by simp) _).mono ?_
  rintro x w1 ⟨rfl, E⟩
  rw [HE.out]
  have bb := b0.below E; have g := g.below E
  have B := E1.trans (E.mono E1.size)
  obtain ⟨q0, q1, q2, q3, q4, q5, q6, q7⟩ := bb.cells
  clear b0 bb E1 E
  go_wp2_with fail
  refine (progRegZ d Rd.out _).mono ?_
  rintro x w2 ⟨rfl, rfl⟩
  go_wp2_with fail
  refine (progRegZ a Ra.out _).mono ?_
  rintro x w2 ⟨rfl, rfl⟩
  go_wp2_with fail
  refine (progRegZ b Rb.out _).mono ?_
  rintro x w2 ⟨rfl, rfl⟩
  go_wp2_with fail
  go_ret2
  exact ⟨ret_spair (by rw [HP.out]) rfl, B⟩
set_option maxRecDepth 100000 in
set_option maxHeartbeats 6400000 in
theorem progPrint_bne (a : Int) (b : Int) (label : Tx) (ha : regB a = true) (hb : regB b = true) (h1 : nameB label = true) (hc : checkI ⟨11, 0, a, b, 0, [], label, 0⟩ = true) (w : World) (g : Gl w) :
    Calls Tryz.prog 10 #[vI ⟨11, 0, a, b, 0, [], label, 0⟩] w (Ret w (.tuple #[.string (tx (printI ⟨11, 0, a, b, 0, [], label, 0⟩)), .int .i64 0])) := by
  have E1 := al w (mkI ⟨11, 0, a, b, 0, [], label, 0⟩)
  have b0 := BxI.new w ⟨11, 0, a, b, 0, [], label, 0⟩
  have g := g.below E1
  have HE := hid (errI_yes hc)
  have r0 : regB 0 = true := by decide
  have la := rT_len ha; have Ra := hid ha
  have lb := rT_len hb; have Rb := hid hb
  have ll := (nameB_cl h1).2
  have HL := hid h1
  obtain ⟨t1, ht1⟩ : ∃ t : Tx, [98, 110, 101, 32] ++ (rT a) = t := ⟨_, rfl⟩
  have n1 : t1.length = _ := (congrArg List.length ht1).symm.trans List.length_append
  have m1 : t1.length ≤ 100 := by rw [n1]; (try simp only [List.length_cons, List.length_nil]); omega
  have c1 : ∀ w, (Op.stringOp .add ⟨#[98, 110, 101, 32]⟩ (tx (rT a))).run Tryz.prog w = .ok (.string (tx t1)) w := run_catT [98, 110, 101, 32] (rT a) t1 ht1 (by omega)
  clear n1
  obtain ⟨t2, ht2⟩ : ∃ t : Tx, t1 ++ [44] = t := ⟨_, rfl⟩
  have n2 : t2.length = _ := (congrArg List.length ht2).symm.trans List.length_append
  have m2 : t2.length ≤ 150 := by rw [n2]; (try simp only [List.length_cons, List.length_nil]); omega
  have c2 : ∀ w, (Op.stringOp .add (tx t1) ⟨#[44]⟩).run Tryz.prog w = .ok (.string (tx t2)) w := run_catT t1 [44] t2 ht2 (by omega)
  clear n2
  obtain ⟨t3, ht3⟩ : ∃ t : Tx, t2 ++ (rT b) = t := ⟨_, rfl⟩
  have n3 : t3.length = _ := (congrArg List.length ht3).symm.trans List.length_append
  have m3 : t3.length ≤ 200 := by rw [n3]; (try simp only [List.length_cons, List.length_nil]); omega
  have c3 : ∀ w, (Op.stringOp .add (tx t2) (tx (rT b))).run Tryz.prog w = .ok (.string (tx t3)) w := run_catT t2 (rT b) t3 ht3 (by omega)
  clear n3
  obtain ⟨t4, ht4⟩ : ∃ t : Tx, t3 ++ [44] = t := ⟨_, rfl⟩
  have n4 : t4.length = _ := (congrArg List.length ht4).symm.trans List.length_append
  have m4 : t4.length ≤ 250 := by rw [n4]; (try simp only [List.length_cons, List.length_nil]); omega
  have c4 : ∀ w, (Op.stringOp .add (tx t3) ⟨#[44]⟩).run Tryz.prog w = .ok (.string (tx t4)) w := run_catT t3 [44] t4 ht4 (by omega)
  clear n4
  obtain ⟨t5, ht5⟩ : ∃ t : Tx, t4 ++ label = t := ⟨_, rfl⟩
  have n5 : t5.length = _ := (congrArg List.length ht5).symm.trans List.length_append
  have m5 : t5.length ≤ 300 := by rw [n5]; (try simp only [List.length_cons, List.length_nil]); omega
  have c5 : ∀ w, (Op.stringOp .add (tx t4) (tx label)).run Tryz.prog w = .ok (.string (tx t5)) w := run_catT t4 label t5 ht5 (by omega)
  clear n5
  have HP := hid (show printI ⟨11, 0, a, b, 0, [], label, 0⟩ = t5 by rw [← ht5, ← ht4, ← ht3, ← ht2, ← ht1]; rfl)
  clear ht1 ht2 ht3 ht4 ht5
  clear hc ha hb h1
  go_enter Tryz.func10, Tryz.ntmps10
  go_wp2_with fail
  refine (progCheck ⟨11, 0, a, b, 0, [], label, 0⟩ (by simp; omega) _).mono ?_
  rintro x w1 ⟨rfl, E⟩
  rw [HE.out]
  have bb := b0.below E; have g := g.below E
  have B := E1.trans (E.mono E1.size)
  obtain ⟨q0, q1, q2, q3, q4, q5, q6, q7⟩ := bb.cells
  clear b0 bb E1 E
  go_wp2_with fail
  refine (progRegZ 0 r0 _).mono ?_
  rintro x w2 ⟨rfl, rfl⟩
  go_wp2_with fail
  refine (progRegZ a Ra.out _).mono ?_
  rintro x w2 ⟨rfl, rfl⟩
  go_wp2_with fail
  refine (progRegZ b Rb.out _).mono ?_
  rintro x w2 ⟨rfl, rfl⟩
  go_wp2_with fail
  go_ret2
  exact ⟨ret_spair (by rw [HP.out]) rfl, B⟩
set_option maxRecDepth 100000 in
set_option maxHeartbeats 6400000 in
theorem progPrint_label (label : Tx) (h1 : nameB label = true) (hc : checkI ⟨12, 0, 0, 0, 0, [], label, 0⟩ = true) (w : World) (g : Gl w) :
    Calls Tryz.prog 10 #[vI ⟨12, 0, 0, 0, 0, [], label, 0⟩] w (Ret w (.tuple #[.string (tx (printI ⟨12, 0, 0, 0, 0, [], label, 0⟩)), .int .i64 0])) := by
  have E1 := al w (mkI ⟨12, 0, 0, 0, 0, [], label, 0⟩)
  have b0 := BxI.new w ⟨12, 0, 0, 0, 0, [], label, 0⟩
  have g := g.below E1
  have HE := hid (errI_yes hc)
  have r0 : regB 0 = true := by decide
  have ll := (nameB_cl h1).2
  have HL := hid h1
  obtain ⟨t1, ht1⟩ : ∃ t : Tx, label ++ [58] = t := ⟨_, rfl⟩
  have n1 : t1.length = _ := (congrArg List.length ht1).symm.trans List.length_append
  have m1 : t1.length ≤ 100 := by rw [n1]; (try simp only [List.length_cons, List.length_nil]); omega
  have c1 : ∀ w, (Op.stringOp .add (tx label) ⟨#[58]⟩).run Tryz.prog w = .ok (.string (tx t1)) w := run_catT label [58] t1 ht1 (by omega)
  clear n1
  have HP := hid (show printI ⟨12, 0, 0, 0, 0, [], label, 0⟩ = t1 by rw [← ht1]; rfl)
  clear ht1
  clear hc h1
  go_enter Tryz.func10, Tryz.ntmps10
  go_wp2_with fail
  refine (progCheck ⟨12, 0, 0, 0, 0, [], label, 0⟩ (by simp; omega) _).mono ?_
  rintro x w1 ⟨rfl, E⟩
  rw [HE.out]
  have bb := b0.below E; have g := g.below E
  have B := E1.trans (E.mono E1.size)
  obtain ⟨q0, q1, q2, q3, q4, q5, q6, q7⟩ := bb.cells
  clear b0 bb E1 E
  go_wp2_with fail
  refine (progRegZ 0 r0 _).mono ?_
  rintro x w2 ⟨rfl, rfl⟩
  go_wp2_with fail
  refine (progRegZ 0 r0 _).mono ?_
  rintro x w2 ⟨rfl, rfl⟩
  go_wp2_with fail
  refine (progRegZ 0 r0 _).mono ?_
  rintro x w2 ⟨rfl, rfl⟩
  go_wp2_with fail
  go_ret2
  exact ⟨ret_spair (by rw [HP.out]) rfl, B⟩
set_option maxRecDepth 100000 in
set_option maxHeartbeats 6400000 in
theorem progPrint_fence (fence : Int) (h1 : 2 ≤ fence) (h2 : fence ≤ 11) (hc : checkI ⟨13, 0, 0, 0, 0, [], [], fence⟩ = true) (w : World) (g : Gl w) :
    Calls Tryz.prog 10 #[vI ⟨13, 0, 0, 0, 0, [], [], fence⟩] w (Ret w (.tuple #[.string (tx (printI ⟨13, 0, 0, 0, 0, [], [], fence⟩)), .int .i64 0])) := by
  have E1 := al w (mkI ⟨13, 0, 0, 0, 0, [], [], fence⟩)
  have b0 := BxI.new w ⟨13, 0, 0, 0, 0, [], [], fence⟩
  have g := g.below E1
  have HE := hid (errI_yes hc)
  have r0 : regB 0 = true := by decide
  clear hc
  go_enter Tryz.func10, Tryz.ntmps10
  go_wp2_with fail
  refine (progCheck ⟨13, 0, 0, 0, 0, [], [], fence⟩ (by simp) _).mono ?_
  rintro x w1 ⟨rfl, E⟩
  rw [HE.out]
  have bb := b0.below E; have g := g.below E
  have B := E1.trans (E.mono E1.size)
  obtain ⟨q0, q1, q2, q3, q4, q5, q6, q7⟩ := bb.cells
  clear b0 bb E1 E
  go_wp2_with fail
  refine (progRegZ 0 r0 _).mono ?_
  rintro x w2 ⟨rfl, rfl⟩
  go_wp2_with fail
  refine (progRegZ 0 r0 _).mono ?_
  rintro x w2 ⟨rfl, rfl⟩
  go_wp2_with fail
  refine (progRegZ 0 r0 _).mono ?_
  rintro x w2 ⟨rfl, rfl⟩
  go_wp2_with fail
  refine (progFenced fence h1 h2 _).mono ?_
  rintro x w3 ⟨rfl, E⟩
  have B := B.trans (E.mono B.size)
  have HP := hid (show printI ⟨13, 0, 0, 0, 0, [], [], fence⟩ = fenceT fence from rfl)
  generalize fenceT fence = t1 at *
  go_wp2_with fail
  go_ret2
  exact ⟨ret_spair (by rw [HP.out]) rfl, B⟩
theorem progPrint_yes (i : Ins) (h : checkI i = true) (w : World) (g : Gl w) : Calls Tryz.prog 10 #[vI i] w (Ret w (.tuple #[.string (tx (printI i)), .int .i64 0])) := by
  obtain ⟨ho, hw, hd, ha, hb⟩ := checkI_spec h
  obtain ⟨op, d, a, b, imm, loc, label, fence⟩ := i
  unfold wantI at hw
  unfold okI at ho
  simp only at ho hw hd ha hb
  by_cases h6 : op = 6
  · subst h6
    simp at hw ho
    obtain ⟨rfl, rfl, rfl, rfl, rfl⟩ := hw
    exact progPrint_lw d a hd ha h w g
  by_cases h7 : op = 7
  · subst h7
    simp at hw ho
    obtain ⟨rfl, rfl, rfl, rfl, rfl⟩ := hw
    exact progPrint_sw a b ha hb h w g
  by_cases h8 : op = 8
  · subst h8
    simp at hw ho
    obtain ⟨rfl, rfl, rfl, rfl⟩ := hw
    exact progPrint_ori d a imm hd ha ho.1 ho.2 h w g
  by_cases h9 : op = 9
  · subst h9
    simp at hw ho
    obtain ⟨rfl, rfl, rfl, rfl⟩ := hw
    exact progPrint_xor d a b hd ha hb h w g
  by_cases h10 : op = 10
  · subst h10
    simp at hw ho
    obtain ⟨rfl, rfl, rfl, rfl⟩ := hw
    exact progPrint_add d a b hd ha hb h w g
  by_cases h11 : op = 11
  · subst h11
    simp at hw ho
    obtain ⟨rfl, rfl, rfl, rfl⟩ := hw
    exact progPrint_bne a b label ha hb ho h w g
  by_cases h12 : op = 12
  · subst h12
    simp at hw ho
    obtain ⟨rfl, rfl, rfl, rfl, rfl, rfl⟩ := hw
    exact progPrint_label label ho h w g
  by_cases h13 : op = 13
  · subst h13
    simp at hw ho
    obtain ⟨rfl, rfl, rfl, rfl, rfl, rfl⟩ := hw
    exact progPrint_fence fence ho.1 ho.2 h w g
  exfalso
  rw [if_neg h8, if_neg (by omega), if_neg h13] at ho
  simp at ho
  omega
theorem progPrint_no (i : Ins) (hl : i.label.length ≤ 9223372036854775807) (h : checkI i = false) (w : World) : Calls Tryz.prog 10 #[vI i] w (Ret w (.tuple #[.string (tx []), .int .i64 91])) := by
  have E1 := al w (mkI i)
  have b0 := BxI.new w i
  have HE := hid (errI_no h)
  clear h
  go_enter Tryz.func10, Tryz.ntmps10
  go_wp2_with fail
  refine (progCheck i hl _).mono ?_
  rintro x w1 ⟨rfl, E⟩
  rw [HE.out]
  go_wp2_with fail
  go_ret2
  exact ⟨rfl, E1.trans (E.mono E1.size)⟩
end Go.Proofs.YtigimkgmghjgoaaGreatDoor
namespace Go.Proofs.YtigimkgmghjgoaaGreatDoor
open Go.RowKit
set_option linter.unusedVariables false

attribute [local go_sem high] eqI neqI

/-- a label of this name -/
def isLab (nm : Tx) (j : Ins) : Bool := decide (j.op = 12) && decide (j.label = nm)
set_option maxRecDepth 100000 in
set_option maxHeartbeats 1600000 in
theorem clos1 (i j : Ins) (b : Nat) (w : World) (hb : BxI w b i) : Calls Tryz.prog 52 #[vI j, .pointer (some ⟨b, 0, none⟩)] w (Ret w (.bool (isLab i.label j))) := by
  obtain ⟨c0, c1, c2, c3, c4, c5, c6, c7⟩ := hb.cells
  have hlt := hb.1
  have B := al w (mkI j)
  by_cases h : j.op = 12
  · have z : (j.op == 12) = true := by simpa using h
    have e : isLab i.label j = (j.label == i.label) := by unfold isLab; rw [Bool.eq_iff_iff]; simp [h]
    have z2 : ((tx j.label).toList == (tx i.label).toList) = (j.label == i.label) := tx_beq _ _
    have HE := hid e
    generalize (j.label == i.label) = bb at *
    clear h e
    go_enter Tryz.func52, Tryz.ntmps52
    go_wp2_with fail
    go_ret
    exact ⟨ret_bool HE.out.symm, (by repeat (first | with_reducible assumption | with_reducible exact Below.refl _ _ | with_reducible refine bel_alloc ?_ _ | with_reducible refine bel_drew ?_ | with_reducible refine bel_set ?_ (by dsimp only; omega) _))⟩
  · have z : (j.op == 12) = false := by simpa using h
    have HE := hid (show isLab i.label j = false by unfold isLab; rw [decide_eq_false h]; rfl)
    clear h
    go_enter Tryz.func52, Tryz.ntmps52
    go_wp2_with fail
    go_ret
    exact ⟨ret_bool HE.out.symm, (by repeat (first | with_reducible assumption | with_reducible exact Below.refl _ _ | with_reducible refine bel_alloc ?_ _ | with_reducible refine bel_drew ?_ | with_reducible refine bel_set ?_ (by dsimp only; omega) _))⟩
/-- the first that is a label of this name, if any -/
def idxN (o : Option Nat) : Int := match o with
  | some n => n
  | none => -1
theorem findIdx_none {p : Ins → Bool} {l : List Ins} (h : ∀ j (hj : j < l.length), p l[j] = false) : l.findIdx? p = none := by
  rw [List.findIdx?_eq_none_iff]
  intro x hx
  obtain ⟨i, hi, rfl⟩ := List.mem_iff_getElem.1 hx
  exact h i hi
theorem findIdx_some {p : Ins → Bool} {l : List Ins} {k : Nat} (hk : k < l.length) (h1 : p l[k] = true) (h2 : ∀ j (hj : j < l.length), j < k → p l[j] = false) : l.findIdx? p = some k := by
  rw [List.findIdx?_eq_some_iff_getElem]
  exact ⟨hk, h1, fun j hj => by rw [h2 j (by omega) hj]; simp⟩
set_option maxRecDepth 100000 in
set_option maxHeartbeats 1600000 in
theorem progIndexFunc (i : Ins) (b : Nat) (l : List Ins) (a : Option Addr) (c : Nat) (w : World) (h : Is w a l) (hb : BxI w b i) :
    Calls Tryz.prog 79 #[.slice a l.length c, .func (.func 52) #[] #[.pointer (some ⟨b, 0, none⟩)]] w (Ret w (.int .i64 (idxN (l.findIdx? (isLab i.label))))) := by
  have hl := h.len
  have B := Below.refl w.heap.size w
  go_enter Tryz.func79, Tryz.ntmps79
  go_wp2_with fail
  go_loopw [8] (fun i' wr => ∃ k : Nat, k ≤ l.length ∧ i' = .int .i64 k ∧ Hid (∀ j (hj : j < l.length), j < k → isLab i.label l[j] = false) ∧ Is wr a l ∧ BxI wr b i ∧ Below w.heap.size w wr) (fun i' _ => l.length - (intOf i').toNat)
  case atStart => exact ⟨0, by omega, rfl, hid (fun j hj h' => absurd h' (Nat.not_lt_zero j)), h, hb, B⟩
  case round =>
    clear h hb B
    obtain ⟨k, hk, rfl, HK, h, hb, B⟩ := hrel
    by_cases hlt : k < l.length
    · obtain ⟨f, hf⟩ : ∃ f, l[k]? = some f := ⟨_, List.getElem?_eq_getElem hlt⟩
      have hfk : l[k] = f := Option.some.inj ((List.getElem?_eq_getElem hlt).symm.trans hf)
      obtain ⟨p0, p1, p2, p3, p4, p5, p6, p7⟩ := h.cells hf
      have ix := h.idx k hlt
      have HF := hid hfk
      clear hf hfk
      cases hm : isLab i.label f
      all_goals
        have HM := hid hm
        clear hm
        go_wp2_with fail
        refine (clos1 i f b _ hb).mono ?_
        rintro e' w7 ⟨rfl, E7⟩
        rw [HM.out]
        have h := h.below E7; have hb := hb.below E7; have B := B.trans (E7.mono B.size)
        clear p0 p1 p2 p3 p4 p5 p6 p7 ix
        go_wp2_with fail
      · go_roundw
        case rel => exact ⟨k + 1, by omega, by go_num, hid (fun j hj hjk => by
          by_cases hh : j = k
          · subst hh; rw [HF.out]; exact HM.out
          · exact HK.out j hj (by omega)), h, hb, B⟩
        case measure => simp [intOf]; omega
      · have HR := hid (findIdx_some hlt (by rw [HF.out]; exact HM.out) HK.out)
        go_ret
        exact ⟨ret_int (by rw [HR.out]; rfl), B⟩
    · have HR := hid (findIdx_none (fun j hj => HK.out j hj (by omega)))
      go_wp2_with fail
      go_ret
      exact ⟨ret_int (by rw [HR.out]; rfl), B⟩
theorem progContains (i : Ins) (b : Nat) (l : List Ins) (a : Option Addr) (c : Nat) (w : World) (h : Is w a l) (hb : BxI w b i) :
    Calls Tryz.prog 51 #[.slice a l.length c, .func (.func 52) #[] #[.pointer (some ⟨b, 0, none⟩)]] w (Ret w (.bool (l.findIdx? (isLab i.label)).isSome)) := by
  have C := hid (progIndexFunc i b l a c w h hb)
  generalize l.findIdx? (isLab i.label) = r at *
  generalize l.length = n at *
  clear h hb
  cases r with
  | none =>
    go_enter Tryz.func51, Tryz.ntmps51
    go_wp2_with fail
    refine C.out.mono ?_
    rintro e w1 ⟨rfl, E⟩
    have z : idxN none = -1 := rfl
    go_wp2_with fail
    go_ret
    exact ⟨rfl, E⟩
  | some k =>
    have z : idxN (some k) = (k : Int) := rfl
    have hk : (0 : Int) ≤ (k : Int) := by omega
    rw [z] at C
    clear z
    go_enter Tryz.func51, Tryz.ntmps51
    go_wp2_with fail
    refine C.out.mono ?_
    rintro e w1 ⟨rfl, E⟩
    go_wp2_with fail
    go_ret
    exact ⟨ret_bool (by simp), E⟩
end Go.Proofs.YtigimkgmghjgoaaGreatDoor

/- The walks of first (program), May and lined (document). Conditions: texts of a machine's length. The walk of Check (document). Conditions: the test lies in memory as read. Names put into a rising list one by one, and as sorted with equals struck out and the empty one cut off: the same. Plain lists; no program, no condition. Sort and Compact of names, at a row of the call's own; the walk of asked (program). Conditions: the row is the call's own. -/
import Derived.Test.YthaibjefnclkjaaGreatDoorZ5
import Derived.Test.YthaibjefnclkjaaGreatDoorZ6
import Derived.Test.YthaibjefnclkjaaGreatDoorZ7
import Derived.Test.YthaibjefnclkjaaGreatDoorZ14
import Derived.Test.YthaibjefnclkjaaGreatDoorZ19
import Derived.Test.YthaibjefnclkjaaGreatDoorZ13
import Derived.Test.YthaibjefnclkjaaGreatDoorZ11
import Derived.Deep.RegionHeld3
import Derived.Lib.QuietBelow
import Derived.Test.YthaibjefnclkjaaGreatDoorZ17
import Derived.Lib.SlicesCompact
import Derived.Sort.OwnSorted
import Derived.Shelf.Sort.Plain
import Derived.Shelf.Slices.CompactS
namespace Go.Proofs.YthaibjefnclkjaaGreatDoor
open Go.RowKit Go.Sort
set_option linter.unusedVariables false

theorem txE {l : Tx} {b : Bool} (h : decide (l = []) = b) : ((tx l).toList == ([] : List UInt8)) = b ∧ (tx l).toList.isEmpty = b := by
  rw [tx_toList, ← h]
  cases l <;> simp
theorem firstB_loc {arch : Int} {n : Nat} {x : Ini} (h : x.thread = -1) : firstB arch n x = (nameB x.loc && (decide (x.reg = 0) && (decide (x.vloc = []) && n32B x.n))) := by unfold firstB; rw [if_pos h]
theorem firstB_out {arch : Int} {n : Nat} {x : Ini} (h : x.thread ≠ -1) (h2 : x.thread < 0 ∨ (n : Int) ≤ x.thread ∨ x.loc ≠ []) : firstB arch n x = false := by unfold firstB; rw [if_neg h, if_pos h2]
theorem firstB_reg {arch : Int} {n : Nat} {x : Ini} (h : x.thread ≠ -1) (h2 : ¬ (x.thread < 0 ∨ (n : Int) ≤ x.thread ∨ x.loc ≠ [])) (h3 : if arch = 2 then x.reg < 1 ∨ 31 < x.reg else x.reg < 0 ∨ 14 < x.reg) : firstB arch n x = false := by unfold firstB; rw [if_neg h, if_neg h2, if_pos h3]
theorem firstB_in {arch : Int} {n : Nat} {x : Ini} (h : x.thread ≠ -1) (h2 : ¬ (x.thread < 0 ∨ (n : Int) ≤ x.thread ∨ x.loc ≠ [])) (h3 : ¬ (if arch = 2 then x.reg < 1 ∨ 31 < x.reg else x.reg < 0 ∨ 14 < x.reg)) : firstB arch n x = if x.vloc ≠ [] then nameB x.vloc && decide (x.n = 0) else n32B x.n := by unfold firstB; rw [if_neg h, if_neg h2, if_neg h3]

set_option maxRecDepth 100000 in
set_option maxHeartbeats 6400000 in
theorem fileFirst (t : Tst) (x : Ini) (h1 : x.loc.length ≤ 9223372036854775807) (h2 : x.vloc.length ≤ 9223372036854775807) (hn : t.code.length ≤ 1000) (w : World) :
    Calls Tryz.prog 86 #[vT t, vIni x] w (Ret w (.bool (firstB t.arch t.code.length x))) := by
  have B := bel_alloc (al w (mkT t)) (mkIni x)
  obtain ⟨thread, reg, loc, vloc, n⟩ := x
  simp only at h1 h2
  obtain ⟨b1, hb1⟩ : ∃ b, nameB loc = b := ⟨_, rfl⟩
  obtain ⟨b2, hb2⟩ : ∃ b, nameB vloc = b := ⟨_, rfl⟩
  obtain ⟨b3, hb3⟩ : ∃ b, n32B n = b := ⟨_, rfl⟩
  obtain ⟨b4, hb4⟩ : ∃ b, decide (loc = []) = b := ⟨_, rfl⟩
  obtain ⟨b5, hb5⟩ : ∃ b, decide (vloc = []) = b := ⟨_, rfl⟩
  have NL := hid (show ∀ w, Calls Tryz.prog 125 #[.string (tx loc)] w fun e w' => e = .returned (.bool b1) ∧ w = w' from fun w => hb1 ▸ fileNamed loc h1 w)
  have NV := hid (show ∀ w, Calls Tryz.prog 125 #[.string (tx vloc)] w fun e w' => e = .returned (.bool b2) ∧ w = w' from fun w => hb2 ▸ fileNamed vloc h2 w)
  have NN := hid (show ∀ w, Calls Tryz.prog 126 #[.int .i64 n] w fun e w' => e = .returned (.bool b3) ∧ w = w' from fun w => hb3 ▸ fileNumber n w)
  obtain ⟨zl, zl'⟩ := txE hb4
  obtain ⟨zv, zv'⟩ := txE hb5
  have HL := hid hb4
  have HV := hid hb5
  have HB := hid (And.intro hb1 (And.intro hb2 hb3))
  obtain ⟨N, hN⟩ : ∃ N, t.code.length = N := ⟨_, rfl⟩
  obtain ⟨ar, har⟩ : ∃ ar, t.arch = ar := ⟨_, rfl⟩
  rw [hN] at hn
  have HN := hid hN
  clear hb1 hb2 hb3 hb4 hb5 h1 h2
  by_cases ht : thread = -1
  · subst ht
    have E := hid (firstB_loc (arch := t.arch) (n := t.code.length) (x := ⟨-1, reg, loc, vloc, n⟩) rfl)
    by_cases hr : reg = 0
    · subst hr
      have E2 := hid (E.out.trans (show _ = (b1 && (b5 && b3)) by simp only [HB.out.1, HB.out.2.2, HV.out, decide_true, Bool.true_and]))
      clear hN har
      cases b1 <;> cases b5 <;> cases b3
      all_goals
        go_enter Tryz.func86, Tryz.ntmps86
        go_wp2_with (first | (go_at_call 125; refine (NL.out _).mono ?_; rintro e w1 ⟨rfl, rfl⟩) | (go_at_call 126; refine (NN.out _).mono ?_; rintro e w1 ⟨rfl, rfl⟩))
        go_ret
        exact ⟨ret_bool ((show _ = _ from by first | rfl | simp).trans E2.out.symm), (by repeat (first | with_reducible assumption | with_reducible exact Below.refl _ _ | with_reducible refine bel_alloc ?_ _ | with_reducible refine bel_drew ?_ | with_reducible refine bel_drewN ?_ _ | with_reducible refine bel_set ?_ (by dsimp only; omega) _))⟩
    · have zr : (reg == 0) = false := by simpa using hr
      have E2 := hid (E.out.trans (show _ = false by simp only [decide_eq_false hr, Bool.false_and, Bool.and_false]))
      clear hN har hr
      cases b1
      all_goals
        go_enter Tryz.func86, Tryz.ntmps86
        go_wp2_with (first | (go_at_call 125; refine (NL.out _).mono ?_; rintro e w1 ⟨rfl, rfl⟩) | (go_at_call 126; refine (NN.out _).mono ?_; rintro e w1 ⟨rfl, rfl⟩))
        go_ret
        exact ⟨ret_bool ((show _ = _ from by first | rfl | simp).trans E2.out.symm), (by repeat (first | with_reducible assumption | with_reducible exact Below.refl _ _ | with_reducible refine bel_alloc ?_ _ | with_reducible refine bel_drew ?_ | with_reducible refine bel_drewN ?_ _ | with_reducible refine bel_set ?_ (by dsimp only; omega) _))⟩
  · have zt : (thread == -1) = false := by simpa using ht
    by_cases h0 : thread < 0
    · have E := hid (firstB_out (arch := t.arch) (n := t.code.length) (x := ⟨thread, reg, loc, vloc, n⟩) ht (.inl h0))
      clear hN har ht
      go_enter Tryz.func86, Tryz.ntmps86
      go_wp2_with (first | (go_at_call 125; refine (NL.out _).mono ?_; rintro e w1 ⟨rfl, rfl⟩) | (go_at_call 126; refine (NN.out _).mono ?_; rintro e w1 ⟨rfl, rfl⟩))
      go_ret
      exact ⟨ret_bool (E.out.symm), (by repeat (first | with_reducible assumption | with_reducible exact Below.refl _ _ | with_reducible refine bel_alloc ?_ _ | with_reducible refine bel_drew ?_ | with_reducible refine bel_drewN ?_ _ | with_reducible refine bel_set ?_ (by dsimp only; omega) _))⟩
    have h0' : 0 ≤ thread := by omega
    by_cases hc : (N : Int) ≤ thread
    · have E := hid (firstB_out (arch := t.arch) (n := t.code.length) (x := ⟨thread, reg, loc, vloc, n⟩) ht (.inr (.inl (by rw [hN]; exact hc))))
      rw [← hN] at hc
      clear hN har ht
      go_enter Tryz.func86, Tryz.ntmps86
      go_wp2_with (first | (go_at_call 125; refine (NL.out _).mono ?_; rintro e w1 ⟨rfl, rfl⟩) | (go_at_call 126; refine (NN.out _).mono ?_; rintro e w1 ⟨rfl, rfl⟩))
      go_ret
      exact ⟨ret_bool (E.out.symm), (by repeat (first | with_reducible assumption | with_reducible exact Below.refl _ _ | with_reducible refine bel_alloc ?_ _ | with_reducible refine bel_drew ?_ | with_reducible refine bel_drewN ?_ _ | with_reducible refine bel_set ?_ (by dsimp only; omega) _))⟩
    have hc' : thread < t.code.length := by omega
    cases b4 with
    | false =>
      have E := hid (firstB_out (arch := t.arch) (n := t.code.length) (x := ⟨thread, reg, loc, vloc, n⟩) ht (.inr (.inr (by simpa using HL.out))))
      clear hN har ht hc
      go_enter Tryz.func86, Tryz.ntmps86
      go_wp2_with (first | (go_at_call 125; refine (NL.out _).mono ?_; rintro e w1 ⟨rfl, rfl⟩) | (go_at_call 126; refine (NN.out _).mono ?_; rintro e w1 ⟨rfl, rfl⟩))
      go_ret
      exact ⟨ret_bool (E.out.symm), (by repeat (first | with_reducible assumption | with_reducible exact Below.refl _ _ | with_reducible refine bel_alloc ?_ _ | with_reducible refine bel_drew ?_ | with_reducible refine bel_drewN ?_ _ | with_reducible refine bel_set ?_ (by dsimp only; omega) _))⟩
    | true =>
      have hnot : ¬ (thread < 0 ∨ (t.code.length : Int) ≤ thread ∨ loc ≠ []) := by
        have := HL.out; simp at this; subst this; simp; omega
      have HA := hid har
      by_cases ha : ar = 2
      · have za : (t.arch == 2) = true := by rw [har, ha]; rfl
        by_cases hr : reg < 1 ∨ 31 < reg
        · have E := hid (firstB_reg (arch := t.arch) (n := t.code.length) (x := ⟨thread, reg, loc, vloc, n⟩) ht hnot (by rw [if_pos (har.trans ha)]; exact hr))
          clear hN har ht hc hnot ha
          rcases hr with hr | hr
          all_goals
            go_enter Tryz.func86, Tryz.ntmps86
            go_wp2_with (first | (go_at_call 125; refine (NV.out _).mono ?_; rintro e w1 ⟨rfl, rfl⟩) | (go_at_call 126; refine (NN.out _).mono ?_; rintro e w1 ⟨rfl, rfl⟩))
            go_ret
            exact ⟨ret_bool (E.out.symm), (by repeat (first | with_reducible assumption | with_reducible exact Below.refl _ _ | with_reducible refine bel_alloc ?_ _ | with_reducible refine bel_drew ?_ | with_reducible refine bel_drewN ?_ _ | with_reducible refine bel_set ?_ (by dsimp only; omega) _))⟩
        · have r1 : 1 ≤ reg := by omega
          have r2 : reg ≤ 31 := by omega
          have E := hid (firstB_in (arch := t.arch) (n := t.code.length) (x := ⟨thread, reg, loc, vloc, n⟩) ht hnot (by rw [if_pos (har.trans ha)]; exact hr))
          clear hN har ht hc hnot ha hr
          cases b5 with
          | true =>
            have E2 := hid (E.out.trans (show _ = b3 by rw [if_neg (by simpa using HV.out)]; exact HB.out.2.2))
            go_enter Tryz.func86, Tryz.ntmps86
            go_wp2_with (first | (go_at_call 125; refine (NV.out _).mono ?_; rintro e w1 ⟨rfl, rfl⟩) | (go_at_call 126; refine (NN.out _).mono ?_; rintro e w1 ⟨rfl, rfl⟩))
            go_ret
            exact ⟨ret_bool ((show _ = _ from by first | rfl | simp).trans E2.out.symm), (by repeat (first | with_reducible assumption | with_reducible exact Below.refl _ _ | with_reducible refine bel_alloc ?_ _ | with_reducible refine bel_drew ?_ | with_reducible refine bel_drewN ?_ _ | with_reducible refine bel_set ?_ (by dsimp only; omega) _))⟩
          | false =>
            by_cases hn0 : n = 0
            · subst hn0
              have E2 := hid (E.out.trans (show _ = b2 by rw [if_pos (by simpa using HV.out)]; simp only [HB.out.2.1, decide_true, Bool.and_true]))
              cases b2
              all_goals
                go_enter Tryz.func86, Tryz.ntmps86
                go_wp2_with (first | (go_at_call 125; refine (NV.out _).mono ?_; rintro e w1 ⟨rfl, rfl⟩) | (go_at_call 126; refine (NN.out _).mono ?_; rintro e w1 ⟨rfl, rfl⟩))
                go_ret
                exact ⟨ret_bool ((show _ = _ from by first | rfl | simp).trans E2.out.symm), (by repeat (first | with_reducible assumption | with_reducible exact Below.refl _ _ | with_reducible refine bel_alloc ?_ _ | with_reducible refine bel_drew ?_ | with_reducible refine bel_drewN ?_ _ | with_reducible refine bel_set ?_ (by dsimp only; omega) _))⟩
            · have zn : (n == 0) = false := by simpa using hn0
              have E2 := hid (E.out.trans (show _ = false by rw [if_pos (by simpa using HV.out)]; simp only [decide_eq_false hn0, Bool.and_false]))
              clear hn0
              cases b2
              all_goals
                go_enter Tryz.func86, Tryz.ntmps86
                go_wp2_with (first | (go_at_call 125; refine (NV.out _).mono ?_; rintro e w1 ⟨rfl, rfl⟩) | (go_at_call 126; refine (NN.out _).mono ?_; rintro e w1 ⟨rfl, rfl⟩))
                go_ret
                exact ⟨ret_bool ((show _ = _ from by first | rfl | simp).trans E2.out.symm), (by repeat (first | with_reducible assumption | with_reducible exact Below.refl _ _ | with_reducible refine bel_alloc ?_ _ | with_reducible refine bel_drew ?_ | with_reducible refine bel_drewN ?_ _ | with_reducible refine bel_set ?_ (by dsimp only; omega) _))⟩
      · have za : (t.arch == 2) = false := by rw [har]; simpa using ha
        by_cases hr : reg < 0 ∨ 14 < reg
        · have E := hid (firstB_reg (arch := t.arch) (n := t.code.length) (x := ⟨thread, reg, loc, vloc, n⟩) ht hnot (by rw [if_neg (by rw [har]; exact ha)]; exact hr))
          clear hN har ht hc hnot ha
          rcases hr with hr | hr
          all_goals
            go_enter Tryz.func86, Tryz.ntmps86
            go_wp2_with (first | (go_at_call 125; refine (NV.out _).mono ?_; rintro e w1 ⟨rfl, rfl⟩) | (go_at_call 126; refine (NN.out _).mono ?_; rintro e w1 ⟨rfl, rfl⟩))
            go_ret
            exact ⟨ret_bool (E.out.symm), (by repeat (first | with_reducible assumption | with_reducible exact Below.refl _ _ | with_reducible refine bel_alloc ?_ _ | with_reducible refine bel_drew ?_ | with_reducible refine bel_drewN ?_ _ | with_reducible refine bel_set ?_ (by dsimp only; omega) _))⟩
        · have r1 : 0 ≤ reg := by omega
          have r2 : reg ≤ 14 := by omega
          have E := hid (firstB_in (arch := t.arch) (n := t.code.length) (x := ⟨thread, reg, loc, vloc, n⟩) ht hnot (by rw [if_neg (by rw [har]; exact ha)]; exact hr))
          clear hN har ht hc hnot ha hr
          cases b5 with
          | true =>
            have E2 := hid (E.out.trans (show _ = b3 by rw [if_neg (by simpa using HV.out)]; exact HB.out.2.2))
            go_enter Tryz.func86, Tryz.ntmps86
            go_wp2_with (first | (go_at_call 125; refine (NV.out _).mono ?_; rintro e w1 ⟨rfl, rfl⟩) | (go_at_call 126; refine (NN.out _).mono ?_; rintro e w1 ⟨rfl, rfl⟩))
            go_ret
            exact ⟨ret_bool ((show _ = _ from by first | rfl | simp).trans E2.out.symm), (by repeat (first | with_reducible assumption | with_reducible exact Below.refl _ _ | with_reducible refine bel_alloc ?_ _ | with_reducible refine bel_drew ?_ | with_reducible refine bel_drewN ?_ _ | with_reducible refine bel_set ?_ (by dsimp only; omega) _))⟩
          | false =>
            by_cases hn0 : n = 0
            · subst hn0
              have E2 := hid (E.out.trans (show _ = b2 by rw [if_pos (by simpa using HV.out)]; simp only [HB.out.2.1, decide_true, Bool.and_true]))
              cases b2
              all_goals
                go_enter Tryz.func86, Tryz.ntmps86
                go_wp2_with (first | (go_at_call 125; refine (NV.out _).mono ?_; rintro e w1 ⟨rfl, rfl⟩) | (go_at_call 126; refine (NN.out _).mono ?_; rintro e w1 ⟨rfl, rfl⟩))
                go_ret
                exact ⟨ret_bool ((show _ = _ from by first | rfl | simp).trans E2.out.symm), (by repeat (first | with_reducible assumption | with_reducible exact Below.refl _ _ | with_reducible refine bel_alloc ?_ _ | with_reducible refine bel_drew ?_ | with_reducible refine bel_drewN ?_ _ | with_reducible refine bel_set ?_ (by dsimp only; omega) _))⟩
            · have zn : (n == 0) = false := by simpa using hn0
              have E2 := hid (E.out.trans (show _ = false by rw [if_pos (by simpa using HV.out)]; simp only [decide_eq_false hn0, Bool.and_false]))
              clear hn0
              cases b2
              all_goals
                go_enter Tryz.func86, Tryz.ntmps86
                go_wp2_with (first | (go_at_call 125; refine (NV.out _).mono ?_; rintro e w1 ⟨rfl, rfl⟩) | (go_at_call 126; refine (NN.out _).mono ?_; rintro e w1 ⟨rfl, rfl⟩))
                go_ret
                exact ⟨ret_bool ((show _ = _ from by first | rfl | simp).trans E2.out.symm), (by repeat (first | with_reducible assumption | with_reducible exact Below.refl _ _ | with_reducible refine bel_alloc ?_ _ | with_reducible refine bel_drew ?_ | with_reducible refine bel_drewN ?_ _ | with_reducible refine bel_set ?_ (by dsimp only; omega) _))⟩
end Go.Proofs.YthaibjefnclkjaaGreatDoor
namespace Go.Proofs.YthaibjefnclkjaaGreatDoor
open Go.RowKit Go.Sort
set_option linter.unusedVariables false

theorem coded_ok {t : Tst} (h : codedE t = 0) : 1 ≤ t.code.length ∧ t.code.length ≤ 16 ∧ ∀ x ∈ t.code, x.l.length ≤ 256 := by
  unfold codedE at h
  by_cases h1 : t.code.length < 1 ∨ 16 < t.code.length
  · rw [if_pos h1] at h; cases h
  · rw [if_neg h1] at h
    by_cases h2 : (t.code.any fun x => decide (256 < x.l.length)) = true
    · rw [if_pos h2] at h; cases h
    · refine ⟨by omega, by omega, fun x hx => ?_⟩
      by_cases h3 : x.l.length ≤ 256
      · exact h3
      · exact absurd (List.any_eq_true.2 ⟨x, hx, by simp; omega⟩) h2
theorem begun_ok {t : Tst} (h : begunE t = 0) : t.init.length ≤ 1024 := by
  unfold begunE at h
  by_cases h1 : 1024 < t.init.length
  · rw [if_pos h1] at h; cases h
  · omega
theorem tstE_arch {t : Tst} (h : archB t.arch = false) : tstE t = 5 := by unfold tstE; rw [if_pos h]
theorem tstE_text {t : Tst} (h : archB t.arch = true) (h2 : (titleB t.name && cycleB t.cycle) = false) : tstE t = 130 := by
  unfold tstE; rw [if_neg (by rw [h]; simp), if_pos (by cases h3 : titleB t.name <;> simp_all)]
theorem tstE_coded {t : Tst} (h : archB t.arch = true) (h2 : (titleB t.name && cycleB t.cycle) = true) (h3 : codedE t ≠ 0) : tstE t = codedE t := by
  rw [Bool.and_eq_true] at h2
  unfold tstE; rw [if_neg (by rw [h]; simp), if_neg (by rw [h2.1, h2.2]; simp), if_pos h3]
theorem tstE_begun {t : Tst} (h : archB t.arch = true) (h2 : (titleB t.name && cycleB t.cycle) = true) (h3 : codedE t = 0) (h4 : begunE t ≠ 0) : tstE t = begunE t := by
  rw [Bool.and_eq_true] at h2
  unfold tstE; rw [if_neg (by rw [h]; simp), if_neg (by rw [h2.1, h2.2]; simp), if_neg (by rw [h3]; simp), if_pos h4]
theorem tstE_ask {t : Tst} (h : archB t.arch = true) (h2 : (titleB t.name && cycleB t.cycle) = true) (h3 : codedE t = 0) (h4 : begunE t = 0) : tstE t = if askE t ≠ 0 then askE t else if 64 < (namesT t).length then 2 else 0 := by
  rw [Bool.and_eq_true] at h2
  unfold tstE; rw [if_neg (by rw [h]; simp), if_neg (by rw [h2.1, h2.2]; simp), if_neg (by rw [h3]; simp), if_neg (by rw [h4]; simp)]
  unfold askE
  by_cases h5 : condE t.arch t.q t.node = 0
  · rw [if_neg (c := condE t.arch t.q t.node ≠ 0) (by simpa using h5), if_neg (c := condE t.arch t.q t.node ≠ 0) (by simpa using h5)]
    by_cases h6 : ((askT t).any fun x => decide ((t.code.length : Int) ≤ x.thread)) = true
    · rw [if_pos h6]; simp [h6]
    · rw [if_neg h6]; simp [h6]
  · rw [if_pos h5, if_pos h5, if_pos h5]
end Go.Proofs.YthaibjefnclkjaaGreatDoor
namespace Go.Proofs.YthaibjefnclkjaaGreatDoor
set_option linter.unusedVariables false

theorem lt_ltX : ∀ a b : Tx, a < b ↔ ltX a b = true
  | [], [] => by simp [ltX]
  | [], y :: s => by simp [ltX]
  | x :: r, [] => by simp [ltX]
  | x :: r, y :: s => by
    rw [List.cons_lt_cons_iff, lt_ltX r s, ltX]
    by_cases h : x < y
    · simp [h]
    · by_cases h2 : y < x
      · simp only [h, false_or, if_false, h2, if_true, Bool.false_eq_true, iff_false, not_and]
        intro e; subst e; exact absurd h2 (u8_lt_irr x)
      · have := u8_lt_tri h h2; subst this
        simp [h]
theorem le_ltX (a b : Tx) : decide (a ≤ b) = !ltX b a := by
  rw [Bool.eq_iff_iff, decide_eq_true_eq, Bool.not_eq_true', ← Bool.not_eq_true, ← lt_ltX]
  exact List.not_lt.symm
def sortX (l : List Tx) : List Tx := l.mergeSort fun x y => decide (x ≤ y)
def RiseX (l : List Tx) : Prop := l.Pairwise fun a b => ltX a b = true
theorem insX_mem {t : Tx} {z : Tx} : ∀ {l : List Tx}, z ∈ insX t l ↔ z = t ∨ z ∈ l
  | [] => by simp [insX]
  | y :: r => by
    unfold insX
    split
    · simp
    · simp only [List.mem_cons, insX_mem (l := r)]
      constructor
      · rintro (h | h | h)
        · exact .inr (.inl h)
        · exact .inl h
        · exact .inr (.inr h)
      · rintro (h | h | h)
        · exact .inr (.inl h)
        · exact .inl h
        · exact .inr (.inr h)
theorem putX_mem {t : Tx} {z : Tx} {l : List Tx} : z ∈ putX l t ↔ (z = t ∧ t ≠ []) ∨ z ∈ l := by
  unfold putX
  by_cases h0 : t = []
  · rw [if_pos h0]; simp [h0]
  · rw [if_neg h0]
    split
    · rename_i h
      constructor
      · exact .inr
      · rintro (⟨rfl, -⟩ | h')
        · exact h
        · exact h'
    · rw [insX_mem]; simp [h0]
theorem insX_rise {t : Tx} : ∀ {l : List Tx}, t ∉ l → RiseX l → RiseX (insX t l)
  | [], _, _ => by unfold insX RiseX; simp
  | y :: r, hn, h => by
    obtain ⟨a1, b1⟩ := List.pairwise_cons.1 h
    unfold insX
    by_cases hb : ltX t y = true
    · rw [if_pos hb]
      unfold RiseX
      rw [List.pairwise_cons]
      refine ⟨fun z hz => ?_, h⟩
      rcases List.mem_cons.1 hz with rfl | hz
      · exact hb
      · exact ltX_tr hb (a1 z hz)
    · rw [if_neg hb]
      unfold RiseX
      rw [List.pairwise_cons]
      refine ⟨fun z hz => ?_, insX_rise (fun h => hn (by simp [h])) b1⟩
      rcases insX_mem.1 hz with rfl | hz
      · by_cases h2 : ltX y z = true
        · exact h2
        · have := ltX_tri (by simpa using hb) (by simpa using h2)
          exact absurd (by rw [this]; simp) hn
      · exact a1 z hz
theorem putX_rise {t : Tx} {l : List Tx} (h : RiseX l) : RiseX (putX l t) := by
  unfold putX
  split
  · exact h
  · split
    · exact h
    · rename_i hn; exact insX_rise hn h
theorem foldX_ok : ∀ (l acc : List Tx), RiseX acc → RiseX (foldX acc l) ∧ ∀ z, z ∈ foldX acc l ↔ (z ∈ l ∧ z ≠ []) ∨ z ∈ acc
  | [], acc, h => ⟨h, fun z => by unfold foldX; simp⟩
  | s :: r, acc, h => by
    obtain ⟨h1, h2⟩ := foldX_ok r (putX acc s) (putX_rise h)
    refine ⟨h1, fun z => ?_⟩
    show z ∈ foldX (putX acc s) r ↔ _
    rw [h2, putX_mem]
    constructor
    · rintro (⟨a, b⟩ | ⟨rfl, b⟩ | a)
      · exact .inl ⟨by simp [a], b⟩
      · exact .inl ⟨by simp, b⟩
      · exact .inr a
    · rintro (⟨a, b⟩ | a)
      · rcases List.mem_cons.1 a with rfl | a
        · exact .inr (.inl ⟨rfl, b⟩)
        · exact .inl ⟨a, b⟩
      · exact .inr (.inr a)
/-- the empty name, which can only stand first, cut off -/
def cut0 (l : List Tx) : List Tx := if l.head? = some [] then l.drop 1 else l
theorem ltX_nil (b : Tx) : ltX b [] = false := by cases b <;> simp [ltX]
theorem cut0_ok {l : List Tx} (h : RiseX l) : RiseX (cut0 l) ∧ ∀ z, z ∈ cut0 l ↔ z ∈ l ∧ z ≠ [] := by
  unfold cut0
  cases l with
  | nil => exact ⟨h, fun z => by simp⟩
  | cons y r =>
    obtain ⟨a1, b1⟩ := List.pairwise_cons.1 h
    have hr : ∀ z ∈ r, z ≠ [] := fun z hz e => by
      have := a1 z hz; rw [e, ltX_nil] at this; cases this
    by_cases hy : y = []
    · subst hy
      rw [if_pos (show ([] :: r).head? = some [] from rfl)]
      refine ⟨b1, fun z => ?_⟩
      simp only [List.drop_one, List.tail_cons, List.mem_cons]
      exact ⟨fun hz => ⟨.inr hz, hr z hz⟩, fun ⟨hz, hn⟩ => hz.resolve_left hn⟩
    · rw [if_neg (by simpa using hy)]
      refine ⟨h, fun z => ⟨fun hz => ⟨hz, ?_⟩, fun hz => hz.1⟩⟩
      rcases List.mem_cons.1 hz with rfl | hz
      · exact hy
      · exact hr z hz
theorem sorted_names (l : List Tx) : cut0 (cmpct (sortX l)) = foldX [] l := by
  have hs := List.pairwise_mergeSort (le := fun x y : Tx => decide (x ≤ y)) (fun a b c hab hbc => by
      simp only [le_ltX, Bool.not_eq_true'] at *
      cases hca : ltX c a with
      | false => rfl
      | true =>
        cases hcb : ltX c b with
        | true => rw [hcb] at hbc; cases hbc
        | false =>
          cases hbc' : ltX b c with
          | true => have := ltX_tr hbc' hca; rw [this] at hab; cases hab
          | false => have := ltX_tri hbc' hcb; subst this; rw [hca] at hab; cases hab)
    (fun a b => by
      simp only [le_ltX]
      cases h1 : ltX b a with
      | true => rw [ltX_asy h1]; rfl
      | false => rfl) l
  have hr : RiseX (cmpct (sortX l)) := cmpct_rise (lt := fun a b => ltX a b = true) (fun _ _ _ => ltX_tr) (hs.imp (fun {a b} hab => by
    simp only [le_ltX, Bool.not_eq_true'] at hab
    cases h1 : ltX a b with
    | true => exact .inr rfl
    | false => exact .inl (ltX_tri h1 hab)))
  obtain ⟨c1, c2⟩ := cut0_ok hr
  obtain ⟨f1, f2⟩ := foldX_ok l [] List.Pairwise.nil
  refine rise_ext (lt := fun a b => ltX a b = true) (fun a h => by rw [ltX_irr] at h; cases h) (fun a b h h' => by rw [ltX_asy h] at h'; cases h') c1 f1 fun z => ?_
  rw [c2, f2, cmpct_mem]
  unfold sortX
  rw [List.mem_mergeSort]; simp
theorem compact_cmpct (l : List Tx) : Lib.compact l = cmpct l := by
  have key : ∀ m, m ≤ l.length → Lib.compactUpTo l.toArray m = cmpct (l.take m) := by
    intro m
    induction m with
    | zero => intro _; rfl
    | succ m ih =>
      intro hm
      rw [Lib.compactUpTo_succ, ih (by omega)]
      have e1 : l.take (m + 1) = l.take m ++ [l[m]'(by omega)] := List.take_succ_eq_append_getElem (by omega)
      have g : l.toArray[m]! = l[m]'(by omega) := by rw [getElem!_pos l.toArray m (by simp; omega)]; rfl
      cases m with
      | zero =>
        rw [e1, show Lib.keeps l.toArray 0 = true from rfl, if_pos rfl, g]; rfl
      | succ k =>
        have e0 : l.take (k + 1) = l.take k ++ [l[k]'(by omega)] := List.take_succ_eq_append_getElem (by omega)
        have g0 : l.toArray[k]! = l[k]'(by omega) := by rw [getElem!_pos l.toArray k (by simp; omega)]; rfl
        rw [e1, e0, cmpct_snoc]
        unfold Lib.keeps
        rw [show k + 1 - 1 = k from rfl, g, g0]
        by_cases h : l[k + 1] = l[k]'(by omega)
        · rw [if_pos h]; simp [h]
        · rw [if_neg h]; simp [h]
  unfold Lib.compact
  rw [key _ (Nat.le_refl _), List.take_length]
end Go.Proofs.YthaibjefnclkjaaGreatDoor
namespace Go.Proofs.YthaibjefnclkjaaGreatDoor
open Go.RowKit Go.Sort
set_option linter.unusedVariables false

/-- a sorted row: the same slice, others kept -/
theorem step_sorted {w : World} {g n : Nat} {os : Array Obj} (d : Array (List UInt8)) : Step w (grow (putRow encStr (Sort.ahead w n) g 0 d) os) (some ⟨g, 0, none⟩) (some ⟨g, 0, none⟩) :=
  ⟨grownBy_sorted d, .inl rfl⟩
theorem sortS (l : List Tx) (w : World) (B : Nat) (a : Option Addr) (c : Nat) (h : OwnS w B a l.length c l) (hl : l.length ≤ 1000000) :
    Calls Tryz.prog 74 #[.slice a l.length c] w fun e w' => e = .returned (.tuple #[]) ∧ OwnS w' B a (sortX l).length c (sortX l) ∧ Step w w' a a := by
  have hlen : (sortX l).length = l.length := List.length_mergeSort l
  rcases h.2 with ⟨h2, h0⟩ | ⟨g, cap, cur, hv, hg, hh, hn, hc, hs, hx⟩
  · simp only [Value.slice.injEq] at h2
    obtain ⟨rfl, -, rfl⟩ := h2
    have hz : l = [] := List.eq_nil_of_length_eq_zero h0
    subst hz
    refine (Any.slices_Sort_string_none Tryz.l190 none 0 w).mono fun e w' ⟨he, hw⟩ => ?_
    subst hw
    exact ⟨he, by rw [show sortX [] = [] from List.eq_nil_of_length_eq_zero hlen]; exact h, Step.refl _ _⟩
  · cases hv
    have hH : Holds encStr w g 0 l.toArray := holds_of_block hh (by rw [Nat.mul_one] at hx; exact hx)
    refine (Any.slices_Sort_string Tryz.l190 g 0 c l w hH (Array.getElem?_eq_some_iff.1 hh).1 (by omega)).mono fun e w' ⟨he, n, os, hw⟩ => ?_
    subst hw
    refine ⟨he, ?_, step_sorted _⟩
    have := ownsRow_sorted (n := n) (os := os) (ss := l) (ts := sortX l) hlen hg hh hn hc hs
    rw [hlen]
    exact this
theorem compactS (l : List Tx) (w : World) (B : Nat) (a : Option Addr) (c : Nat) (h : OwnS w B a l.length c l) (hl : l.length ≤ 1000000) :
    Calls Tryz.prog 75 #[.slice a l.length c] w fun e w' => e = .returned (.slice a (cmpct l).length c) ∧ OwnS w' B a (cmpct l).length c (cmpct l) ∧ Step w w' a a := by
  rcases h.2 with ⟨h2, h0⟩ | ⟨g, cap, cur, hv, hg, hh, hn, hc, hs, hx⟩
  · simp only [Value.slice.injEq] at h2
    obtain ⟨rfl, -, rfl⟩ := h2
    have hz : l = [] := List.eq_nil_of_length_eq_zero h0
    subst hz
    refine (Any.slices_Compact_string_empty Tryz.l194 none 0 w).mono fun e w' ⟨he, hw⟩ => ?_
    subst hw
    exact ⟨he, h, Step.refl _ _⟩
  · cases hv
    have hH : Holds encStr w g 0 l.toArray := holds_of_block hh (by rw [Nat.mul_one] at hx; exact hx)
    refine (Any.slices_Compact_string Tryz.l194 g 0 c l w hH (by omega) hn).mono fun e w' ⟨he, n, hw⟩ => ?_
    rw [compact_cmpct] at he hw
    have hle := cmpct_length_le l
    have e1 : (cmpct l ++ List.replicate (l.length - (cmpct l).length) []).length = l.length := by simp; omega
    have o := ownsRow_sorted (n := n) (os := #[]) (ss := l) (ts := cmpct l ++ List.replicate (l.length - (cmpct l).length) []) e1 hg hh hn hc hs
    have st := step_sorted (w := w) (g := g) (n := n) (os := #[]) (cmpct l ++ List.replicate (l.length - (cmpct l).length) []).toArray
    rw [grow_empty] at o st
    rw [← hw] at o st
    refine ⟨he, ?_, st⟩
    rw [List.map_append] at o
    obtain ⟨m, hm⟩ : ∃ m, l.length = (cmpct l).length + m := ⟨l.length - (cmpct l).length, by omega⟩
    rw [hm] at o
    exact Own.front o (by simp)
set_option maxRecDepth 100000 in
set_option maxHeartbeats 1600000 in
theorem fileAsked (t : Tst) (w : World) (h : NdIn w t.node) : Calls Tryz.prog 49 #[vT t] w (RetTh w (askT t)) := by
  have A := al w (mkT t)
  have b0 := BxT.new w t
  obtain ⟨c0, c1, c2, c3, c4, c5, c6, c7, c8, c9, c10, c11⟩ := b0.cells
  have TH := hid (condThingsC t.q t.node _ (h.keep A))
  have HA := hid A
  clear A h
  go_enter Tryz.func49, Tryz.ntmps49
  go_wp2_with fail
  refine TH.out.mono ?_
  rintro e w1 ⟨a, c, rfl, o, E⟩
  have HO := hid (And.intro o E)
  clear o E TH c0 c1 c2 c3 c4 c5 c6 c7 c8 c9 c10 c11
  go_wp2_with fail
  (try go_simp)
  go_ret
  exact ⟨a, c, rfl, Own.mono HO.out.1 HA.out.size, HA.out.trans (HO.out.2.mono HA.out.size)⟩
end Go.Proofs.YthaibjefnclkjaaGreatDoor

/- Rows of cells that are read, rows that a call owns, and how the walk reads them. Lemmas of this claim's own; no condition. What comes in to a statement, as the walks take it. Lemmas of this claim's own; no condition. RISC-V instructions and their texts: what is printed is read as what it was; what is read may be. Plain lists; no program, no condition. Texts and instructions as values; equality. Lemmas of this claim's own; no condition. Slices of instructions: read. Lemmas of this claim's own; no condition. The things of a condition: gathered one by one, as sorted with equals struck out. Plain lists; no program, no condition. Names put into a rising list, one by one. Plain lists; no program, no condition. A test's names, gathered step by step. Plain lists; no program, no condition. Tests in memory: read. Lemmas of this claim's own; no condition. The walks of letters, digits and names of locations. Conditions: lengths that an int holds. The walks of known, registers, thing and may (cond), and of the document's. Conditions: lengths that an int holds. The walks of may (cond) and node (the document's answer 08). Conditions: lengths that an int holds. -/
import Derived.Test.YthaibjefnclkjaaGreatDoorZ1
import Derived.WalkKit
import Derived.WalkSpells
import Derived.WalkLawsBesides
import Derived.Deep.QuietTactic
import Derived.BigQuiet
import Derived.ProofKit
import Derived.OpenShut
import Derived.ShutString
import Derived.ChangeOld
import Derived.Carry
import Derived.SizedLaws
import Derived.Lib.SlTrimSet
import Derived.Lib.ItoaNum
import Derived.Test.YthaibjefnclkjaaGreatDoorRows
import Derived.Laws.StructEq
import Derived.Shelf.SlicesQ.Load
import Derived.Test.YthaibjefnclkjaaGreatDoorZ3
import Derived.Test.YthaibjefnclkjaaGreatDoorZ2
import Derived.Lib.SplitLaws
import Derived.Lib.Strings
import Derived.Lib.ItoaMem
import Derived.Shelf.Strings.SlTrimAscii
import Derived.Shelf.Small.Strs
import Derived.Shelf.Strconv.Itoa3
import Derived.Shelf.LaysM
import Derived.Shelf.Strings.Prefix
import Derived.Test.YthaibjefnclkjaaGreatDoorProg
import Derived.Lib.ItoaLen
import Derived.WalkSmall
import Derived.Laws.Concat
import Derived.BigRegion
import Derived.StillTailTactics
import Derived.Deep.RegionWith
import Derived.Lib.AtoiAll
import Derived.Deep.DeepCutAuto
import Derived.Test.YthaibjefnclkjaaGreatDoorZ5
import Derived.Test.YthaibjefnclkjaaGreatDoorZ4
import Derived.Lib.Bytealg
import Derived.Maps.OwnSet
import Derived.Maps.Views
import Derived.Test.YthaibjefnclkjaaGreatDoorZ6
import Derived.Test.YthaibjefnclkjaaGreatDoorZ7
namespace Go.Proofs.YthaibjefnclkjaaGreatDoor
open Go.RowKit

theorem Row.belowB {B : Nat} {w w' : World} {a : Option Addr} {l : List Value} (h : Row w a l) (hl : l ≠ [] → bk a < B) (hb : Below B w w') : Row w' a l := by
  refine ⟨h.head, fun i hi => ?_⟩
  have hne : l ≠ [] := by intro e; subst e; exact absurd hi (Nat.not_lt_zero i)
  rw [hb.cell (p := ⟨bk a, fo a + i, none⟩) (hl hne)]
  exact h.cell i hi

/-! ### cuts -/
section
set_option linter.unusedSectionVars false
variable {P : Program} {t e m bytes : Nat} {z : Value} (T : ElT P t e z m bytes) (a : Option Addr) (n c : Nat)
include T
end

section
variable {P : Program} {w : World} {ops : Array Oper} {rest : List Oper} {o : Oper} {a : Act} {Q : Exit → Act → World → Prop} {t e : TypeId} {z : Value} {size bytes : Nat} (T : ElT P t e z size bytes)
include T
end

end Go.Proofs.YthaibjefnclkjaaGreatDoor
namespace Go.Proofs.YthaibjefnclkjaaGreatDoor
open Go.ChangeShapes Go.WideShapes Go.ChangeAt Go.RowKit
set_option linter.unusedVariables false

theorem int_bounds {x : Int} (h : (Lit.int .i64 x).wf = true) : -9223372036854775808 ≤ x ∧ x ≤ 9223372036854775807 := by
  simpa [Lit.wf, IntKind.min, IntKind.max, IntKind.signed, IntKind.bits] using h
end Go.Proofs.YthaibjefnclkjaaGreatDoor
namespace Go.Proofs.YthaibjefnclkjaaGreatDoor
set_option linter.unusedVariables false

instance (x : Tx) : Decidable (Cl x) := by unfold Cl; infer_instance
theorem Cl.app {x y : Tx} (h : Cl x) (h' : Cl y) : Cl (x ++ y) := ⟨by simp [h.1], fun c hc => by rcases List.mem_append.1 hc with h1 | h1; exact h.2 c h1; exact h'.2 c h1⟩
end Go.Proofs.YthaibjefnclkjaaGreatDoor
namespace Go.Proofs.YthaibjefnclkjaaGreatDoor
open Go.RowKit
set_option linter.unusedVariables false

theorem tx_eq_false {a b : Tx} (h : a ≠ b) : ((tx a).toList == (tx b).toList) = false := by rw [tx_beq]; simpa using h

theorem BxI.belowB {w w' : World} {b B : Nat} {i : Ins} (h : BxI w b i) (hb : b < B) (hB : Below B w w') : BxI w' b i :=
  ⟨Nat.lt_of_lt_of_le h.1 hB.size, fun k hk => by rw [hB.cell (p := ⟨b, k, none⟩) hb]; exact h.2 k hk⟩
theorem ret_pair {k k' : IntKind} {a b c d : Int} (h : a = c) (h' : b = d) : Ending.returned (.tuple #[.int k a, .int k' b]) = .returned (.tuple #[.int k c, .int k' d]) := by rw [h, h']
end Go.Proofs.YthaibjefnclkjaaGreatDoor
namespace Go.Proofs.YthaibjefnclkjaaGreatDoor
open Go.RowKit
set_option linter.unusedVariables false

theorem insC_oneCell (l : List Ins) : ∀ u ∈ insC l, u.oneCell' = true := by
  intro u hu
  unfold insC at hu
  obtain ⟨x, -, hx⟩ := List.mem_flatMap.1 hu
  simp [iC] at hx
  rcases hx with rfl | rfl | rfl | rfl | rfl | rfl | rfl | rfl <;> rfl
end Go.Proofs.YthaibjefnclkjaaGreatDoor
namespace Go.Proofs.YthaibjefnclkjaaGreatDoor
set_option linter.unusedVariables false

theorem gatherL_app : ∀ (l r : List Nd) (acc : List Th), gatherL (l ++ r) acc = gatherL r (gatherL l acc)
  | [], r, acc => by rw [gatherL_nil]; rfl
  | x :: l, r, acc => by rw [List.cons_append, gatherL_cons, gatherL_cons, gatherL_app l r]
theorem gatherL_take {l : List Nd} {k : Nat} {x : Nd} (hk : l[k]? = some x) (acc : List Th) : gatherL (l.take (k + 1)) acc = gatherN x (gatherL (l.take k) acc) := by
  obtain ⟨hlt, rfl⟩ := List.getElem?_eq_some_iff.1 hk
  rw [List.take_succ_eq_append_getElem hlt, gatherL_app, gatherL_cons, gatherL_nil]
end Go.Proofs.YthaibjefnclkjaaGreatDoor
namespace Go.Proofs.YthaibjefnclkjaaGreatDoor
set_option linter.unusedVariables false

theorem insX_snoc (t y : Tx) : ∀ l : List Tx, insX t (l ++ [y]) = if l.any (ltX t) then insX t l ++ [y] else if ltX t y then l ++ [t, y] else l ++ [y, t]
  | [] => by simp [insX]
  | z :: r => by
    rw [List.cons_append, insX, insX_snoc t y r]
    cases h : ltX t z
    · simp only [List.any_cons, h, Bool.false_or, insX, if_false, Bool.false_eq_true]
      by_cases h2 : r.any (ltX t) = true
      · simp [h2]
      · by_cases h3 : ltX t y = true
        · simp [h2, h3]
        · simp [h2, h3]
    · simp [h, insX]
def outX (t : Tx) (l : List Tx) : List Tx := if l.any (ltX t) then insX t l else l
theorem insX_no {t : Tx} : ∀ {l : List Tx}, ¬ l.any (ltX t) = true → insX t l = l ++ [t]
  | [], _ => rfl
  | z :: r, h => by
    simp only [List.any_cons, Bool.or_eq_true, not_or] at h
    rw [insX, if_neg h.1, insX_no h.2]; rfl
theorem insX_end (t : Tx) (l : List Tx) : insX t l = if l.any (ltX t) then outX t l else outX t l ++ [t] := by
  unfold outX
  by_cases h : l.any (ltX t) = true
  · rw [if_pos h, if_pos h]
  · rw [if_neg h, if_neg h]; exact insX_no h
theorem outX_yes {t y : Tx} {l : List Tx} (h : l.any (ltX t) = true) : outX t (l ++ [y]) = outX t l ++ [y] := by
  unfold outX
  rw [if_pos (by simp [h]), if_pos h, insX_snoc, if_pos h]
theorem outX_put {t y : Tx} {l : List Tx} (h : l.any (ltX t) = false) (h2 : ltX t y = true) : outX t (l ++ [y]) = outX t l ++ [t] ++ [y] := by
  unfold outX
  rw [if_pos (by simp [h2]), if_neg (by simp [h]), insX_snoc, if_neg (by simp [h]), if_pos h2]; simp
theorem outX_no {t y : Tx} {l : List Tx} (h : l.any (ltX t) = false) (h2 : ltX t y = false) : outX t (l ++ [y]) = outX t l ++ [y] := by
  unfold outX
  rw [if_neg (by simp [h, h2]), if_neg (by simp [h])]
theorem insX_len (t : Tx) (l : List Tx) : (insX t l).length = l.length + 1 := by
  induction l with
  | nil => simp [insX]
  | cons z r ih => unfold insX; split <;> simp only [List.length_cons] <;> omega
theorem outX_len (t : Tx) (l : List Tx) : (outX t l).length ≤ l.length + 1 := by
  unfold outX; split
  · rw [insX_len]; exact Nat.le_refl _
  · omega
theorem putX_len (l : List Tx) (t : Tx) : (putX l t).length ≤ l.length + 1 := by
  unfold putX; split
  · omega
  · split
    · omega
    · rw [insX_len]; exact Nat.le_refl _
end Go.Proofs.YthaibjefnclkjaaGreatDoor
namespace Go.Proofs.YthaibjefnclkjaaGreatDoor
set_option linter.unusedVariables false

theorem foldX_app (acc l r : List Tx) : foldX acc (l ++ r) = foldX (foldX acc l) r := List.foldl_append
theorem rawI_step {l : List Ini} {k : Nat} {x : Ini} (h : l[k]? = some x) (acc : List Tx) : foldX acc (rawI (l.take (k + 1))) = putX (putX (foldX acc (rawI (l.take k))) x.loc) x.vloc := by
  rw [take_snoc h]
  unfold rawI
  rw [List.flatMap_append, foldX_app]; rfl
theorem rawC_step {l : List Cd} {k : Nat} {x : Cd} (h : l[k]? = some x) (acc : List Tx) : foldX acc (rawC (l.take (k + 1))) = foldX (foldX acc (rawC (l.take k))) (x.l.map (·.loc)) := by
  rw [take_snoc h]
  unfold rawC
  rw [List.flatMap_append, foldX_app]; simp
theorem mapL_step {α : Type} (f : α → Tx) {l : List α} {k : Nat} {x : α} (h : l[k]? = some x) (acc : List Tx) : foldX acc ((l.take (k + 1)).map f) = putX (foldX acc ((l.take k).map f)) (f x) := by
  rw [take_snoc h, List.map_append, foldX_app]; rfl
theorem namesT_eq (t : Tst) : namesT t = foldX (foldX (foldX [] (rawI t.init)) (rawC t.code)) ((askT t).map (·.loc)) := by
  unfold namesT rawT
  rw [show ∀ l, List.foldl putX [] l = foldX [] l from fun _ => rfl, foldX_app, foldX_app]; rfl
end Go.Proofs.YthaibjefnclkjaaGreatDoor
namespace Go.Proofs.YthaibjefnclkjaaGreatDoor
open Go.RowKit
set_option linter.unusedVariables false

theorem cIni_one (x : Ini) : ∀ u ∈ cIni x, u.oneCell' = true := by
  intro u hu; simp at hu; rcases hu with rfl | rfl | rfl | rfl | rfl <;> rfl
end Go.Proofs.YthaibjefnclkjaaGreatDoor
namespace Go.Proofs.YthaibjefnclkjaaGreatDoor
open Go.RowKit
set_option linter.unusedVariables false

theorem r08Letter (c : UInt8) (w : World) : Calls Tryz.prog 213 #[.int .u8 c.toNat] w fun e w' => e = .returned (.bool (letterC c)) ∧ w = w' := by
  have hlt : c.toNat < 256 := c.toNat_lt
  rw [letterX_nat]
  generalize c.toNat = n at *
  have hp : n < 65 ∨ (65 ≤ n ∧ n ≤ 90) ∨ (91 ≤ n ∧ n ≤ 96) ∨ (97 ≤ n ∧ n ≤ 122) ∨ 123 ≤ n := by omega
  rcases hp with h | ⟨h, h'⟩ | ⟨h, h'⟩ | ⟨h, h'⟩ | h
  all_goals
    go_enter Tryz.func213, Tryz.ntmps213
    go_wp2
    go_ret
    exact ⟨ret_bool (by first | (rw [Bool.eq_iff_iff]; simp <;> omega) | (simp <;> omega)), rfl⟩
theorem r08Digit (c : UInt8) (w : World) : Calls Tryz.prog 214 #[.int .u8 c.toNat] w fun e w' => e = .returned (.bool (digitC c)) ∧ w = w' := by
  have hlt : c.toNat < 256 := c.toNat_lt
  rw [digitX_nat]
  generalize c.toNat = n at *
  have hp : n < 48 ∨ (48 ≤ n ∧ n ≤ 57) ∨ 58 ≤ n := by omega
  rcases hp with h | ⟨h, h'⟩ | h
  all_goals
    go_enter Tryz.func214, Tryz.ntmps214
    go_wp2
    go_ret
    exact ⟨ret_bool (by first | (rw [Bool.eq_iff_iff]; simp <;> omega) | (simp <;> omega)), rfl⟩
set_option maxHeartbeats 800000 in
theorem r08Named (l : Tx) (hl : l.length ≤ 9223372036854775807) (w : World) : Calls Tryz.prog 198 #[.string (tx l)] w fun e w' => e = .returned (.bool (nameB l)) ∧ w = w' := by
  have hs := tx_size l
  cases l with
  | nil =>
    have hs : (tx []).size = 0 := rfl
    go_enter Tryz.func198, Tryz.ntmps198
    go_wp2_with fail
    go_ret
    exact ⟨rfl, rfl⟩
  | cons c r =>
    obtain ⟨n, hn⟩ : ∃ n, (tx (c :: r)).size = n := ⟨_, rfl⟩
    have hn1 : 1 ≤ n := by rw [← hn, hs]; simp
    have hnr : n = r.length + 1 := by rw [← hn, hs]; simp
    have hz : ((n : Int) == 0) = false := by simp; omega
    clear hs hl
    by_cases h32 : n ≤ 32
    · have i0 := run_ixz (c :: r) c rfl
      by_cases hc : letterC c = true
      · have HC := hid hc
        have HR := hid hnr
        clear hc hnr
        go_enter Tryz.func198, Tryz.ntmps198
        go_wp2_with (go_at_call 213; refine (r08Letter c _).mono ?_; rintro e w' ⟨rfl, rfl⟩; rw [HC.out])
        go_loop [3] (fun i => ∃ k : Nat, k ≤ n ∧ i = .int .i64 k ∧ Hid (∀ (i : Nat) (x : UInt8), i < k → (c :: r)[i]? = some x → nameC x = true)) (fun i => n - (intOf i).toNat)
        case atStart => exact ⟨1, by omega, rfl, fun i x hi hx => by
          obtain rfl : i = 0 := by omega
          cases hx; unfold nameC; rw [HC.out]; rfl⟩
        case round =>
          obtain ⟨k, hk, rfl, HM⟩ := hrel
          by_cases hlt : k < n
          · obtain ⟨x, hx⟩ : ∃ x, (c :: r)[k]? = some x := ⟨_, List.getElem?_eq_getElem (by have := HR.out; simp; omega)⟩
            have ix := run_ix (c :: r) k x hx
            have HX := hid hx
            clear hx
            have HM2 : nameC x = true → Hid (∀ (i : Nat) (y : UInt8), i < k + 1 → (c :: r)[i]? = some y → nameC y = true) := fun hx' i y hi hy => by
              rcases Nat.lt_succ_iff_lt_or_eq.1 hi with h | h
              · exact HM.out i y h hy
              · subst h; rw [HX.out] at hy; cases hy; exact hx'
            have HM2 := hid HM2
            by_cases h1 : letterC x = true
            · have H1 := hid h1
              have HN := hid (HM2.out (by unfold nameC; rw [h1]; rfl))
              clear h1
              go_wp2_with (go_at_call 213; refine (r08Letter x _).mono ?_; rintro e w' ⟨rfl, rfl⟩; rw [H1.out])
              go_round
              case rel => exact ⟨k + 1, by omega, by go_num, HN.out⟩
              case measure => simp [intOf]; omega
            · have H1 := hid (Bool.eq_false_iff.2 h1)
              clear h1
              by_cases h2 : digitC x = true
              · have H2 := hid h2
                have HN := hid (HM2.out (by unfold nameC; rw [h2]; simp))
                clear h2
                go_wp2_with (first | (go_at_call 213; refine (r08Letter x _).mono ?_; rintro e w' ⟨rfl, rfl⟩; rw [H1.out]) | (go_at_call 214; refine (r08Digit x _).mono ?_; rintro e w' ⟨rfl, rfl⟩; rw [H2.out]))
                go_round
                case rel => exact ⟨k + 1, by omega, by go_num, HN.out⟩
                case measure => simp [intOf]; omega
              · have H2 := hid (Bool.eq_false_iff.2 h2)
                clear h2
                by_cases h3 : x = 95
                · subst h3
                  have HN := hid (HM2.out (by decide))
                  have z3 : (((95 : UInt8).toNat : Int) != 95) = false := by decide
                  go_wp2_with (first | (go_at_call 213; refine (r08Letter 95 _).mono ?_; rintro e w' ⟨rfl, rfl⟩; rw [H1.out]) | (go_at_call 214; refine (r08Digit 95 _).mono ?_; rintro e w' ⟨rfl, rfl⟩; rw [H2.out]))
                  go_round
                  case rel => exact ⟨k + 1, by omega, by go_num, HN.out⟩
                  case measure => simp [intOf]; omega
                · have z3 : ((x.toNat : Int) != 95) = true := u8_ne x 95 h3
                  have HF := hid (nameB_step HX.out (by unfold nameC; rw [H1.out, H2.out]; simpa using h3))
                  clear h3
                  go_wp2_with (first | (go_at_call 213; refine (r08Letter x _).mono ?_; rintro e w' ⟨rfl, rfl⟩; rw [H1.out]) | (go_at_call 214; refine (r08Digit x _).mono ?_; rintro e w' ⟨rfl, rfl⟩; rw [H2.out]))
                  go_ret
                  exact ⟨ret_bool HF.out.symm, rfl⟩
          · have HF := hid (nameB_done (c := c) (r := r) (by have := HR.out; omega) HC.out (fun i x hi => HM.out i x (by
              have h1 := (List.getElem?_eq_some_iff.1 hi).1
              have := HR.out
              simp at h1; omega) hi))
            go_wp2_with fail
            go_ret
            exact ⟨ret_bool HF.out.symm, rfl⟩
      · have HC := hid (Bool.eq_false_iff.2 hc)
        have HF := hid (show nameB (c :: r) = false by rw [nameB_cons, HC.out]; simp)
        clear hc hnr
        go_enter Tryz.func198, Tryz.ntmps198
        go_wp2_with (go_at_call 213; refine (r08Letter c _).mono ?_; rintro e w' ⟨rfl, rfl⟩; rw [HC.out])
        go_ret
        exact ⟨ret_bool HF.out.symm, rfl⟩
    · have HF := hid (show nameB (c :: r) = false by rw [nameB_cons, decide_eq_false (by omega)]; simp)
      clear hnr
      go_enter Tryz.func198, Tryz.ntmps198
      go_wp2_with fail
      go_ret
      exact ⟨ret_bool HF.out.symm, rfl⟩
theorem r08Number (n : Int) (w : World) : Calls Tryz.prog 180 #[.int .i64 n] w fun e w' => e = .returned (.bool (n32B n)) ∧ w = w' := by
  have hp : n < -2147483648 ∨ (-2147483648 ≤ n ∧ n ≤ 2147483647) ∨ 2147483647 < n := by omega
  rcases hp with h | ⟨h, h'⟩ | h
  all_goals
    go_enter Tryz.func180, Tryz.ntmps180
    go_wp2
    go_ret
    exact ⟨ret_bool (by unfold n32B; rw [Bool.eq_iff_iff]; simp <;> omega), rfl⟩
end Go.Proofs.YthaibjefnclkjaaGreatDoor
namespace Go.Proofs.YthaibjefnclkjaaGreatDoor
open Go.RowKit
set_option linter.unusedVariables false

attribute [local go_sem high] eqTh neqTh
theorem r08Known (arch : Int) (w : World) : Calls Tryz.prog 112 #[.int .i64 arch] w fun e w' => e = .returned (.bool (archB arch)) ∧ w = w' := by
  by_cases h1 : arch = 1
  · subst h1
    go_enter Tryz.func112, Tryz.ntmps112
    go_wp2
    go_ret
    exact ⟨rfl, rfl⟩
  · have z1 : (arch == 1) = false := by simpa using h1
    have e : archB arch = (arch == 2) := by unfold archB; rw [decide_eq_false h1, Bool.false_or]; rw [Bool.eq_iff_iff]; simp
    have E := hid e
    clear e h1
    go_enter Tryz.func112, Tryz.ntmps112
    go_wp2
    go_ret
    exact ⟨ret_bool E.out.symm, rfl⟩
theorem r08Regs (arch : Int) (w : World) : Calls Tryz.prog 199 #[.int .i64 arch] w fun e w' => e = .returned (.int .i64 (regsN arch)) ∧ w = w' := by
  by_cases h1 : arch = 1
  · subst h1
    go_enter Tryz.func199, Tryz.ntmps199
    go_wp2
    go_ret
    exact ⟨rfl, rfl⟩
  · have z1 : (arch == 1) = false := by simpa using h1
    have E := hid (show regsN arch = 32 by unfold regsN; rw [if_neg h1])
    clear h1
    go_enter Tryz.func199, Tryz.ntmps199
    go_wp2
    go_ret
    exact ⟨ret_int E.out.symm, rfl⟩
set_option maxRecDepth 100000 in
set_option maxHeartbeats 3200000 in
theorem r08Thing (arch : Int) (t : Th) (hl : t.loc.length ≤ 9223372036854775807) (w : World) : Calls Tryz.prog 179 #[.int .i64 arch, vTh t] w (Ret w (.bool (thingB arch t))) := by
  obtain ⟨th, rg, loc⟩ := t
  have B := al w (mkTh ⟨th, rg, loc⟩)
  have hR := regsN_bd arch
  by_cases h1 : th = -1
  · subst h1
    by_cases h2 : rg = 0
    · subst h2
      have E := hid (show thingB arch ⟨-1, 0, loc⟩ = nameB loc by simp [thingB])
      go_enter Tryz.func179, Tryz.ntmps179
      go_wp2_with (go_at_call 198; refine (r08Named loc hl _).mono ?_; rintro e w' ⟨rfl, rfl⟩)
      go_ret
      exact ⟨ret_bool E.out.symm, (by repeat (first | with_reducible assumption | with_reducible exact Below.refl _ _ | with_reducible refine bel_alloc ?_ _ | with_reducible refine bel_drew ?_ | with_reducible refine bel_drewN ?_ _ | with_reducible refine bel_set ?_ (by dsimp only; omega) _))⟩
    · have E := hid (show thingB arch ⟨-1, rg, loc⟩ = false by simp [thingB, h2])
      have z2 : (rg == 0) = false := by simpa using h2
      clear h2
      go_enter Tryz.func179, Tryz.ntmps179
      go_wp2_with fail
      go_ret
      exact ⟨ret_bool E.out.symm, (by repeat (first | with_reducible assumption | with_reducible exact Below.refl _ _ | with_reducible refine bel_alloc ?_ _ | with_reducible refine bel_drew ?_ | with_reducible refine bel_drewN ?_ _ | with_reducible refine bel_set ?_ (by dsimp only; omega) _))⟩
  · have z1 : (th == -1) = false := by simpa using h1
    have hT : thingB arch ⟨th, rg, loc⟩ = (decide (0 ≤ th) && decide (th < 16) && decide (0 ≤ rg) && decide (rg < regsN arch) && decide (loc = [])) := by unfold thingB; simp only; rw [if_neg h1]
    obtain ⟨R, hRR⟩ : ∃ R, regsN arch = R := ⟨_, rfl⟩
    have RG := hid (show ∀ w, Calls Tryz.prog 199 #[.int .i64 arch] w fun e w' => e = .returned (.int .i64 R) ∧ w' = w from fun w => (r08Regs arch w).mono fun e w' hh => ⟨by rw [hh.1, hRR], hh.2.symm⟩)
    rw [hRR] at hT hR
    clear hRR h1
    by_cases cd1 : th < 0
    · have d1 : decide (0 ≤ th) = false := decide_eq_false (by omega)
      have nd1 : ¬ (0 ≤ th) := by omega
      have E := hid (show thingB arch ⟨th, rg, loc⟩ = false by rw [hT]; simp [*])
      clear hT
      go_enter Tryz.func179, Tryz.ntmps179
      go_wp2_with fail
      go_quiet ((go_at_call 199; exact Calls.quiet_of_same (RG.out _)))
      go_wp2_with fail
      go_ret
      exact ⟨ret_bool E.out.symm, (by repeat (first | with_reducible assumption | with_reducible exact Below.refl _ _ | with_reducible refine bel_alloc ?_ _ | with_reducible refine bel_drew ?_ | with_reducible refine bel_drewN ?_ _ | with_reducible refine bel_set ?_ (by dsimp only; omega) _))⟩
    have d1 : decide (0 ≤ th) = true := decide_eq_true (by omega)
    have pd1 : 0 ≤ th := by omega
    by_cases cd2 : 16 ≤ th
    · have d2 : decide (th < 16) = false := decide_eq_false (by omega)
      have nd2 : ¬ (th < 16) := by omega
      have E := hid (show thingB arch ⟨th, rg, loc⟩ = false by rw [hT]; simp [*])
      clear hT
      go_enter Tryz.func179, Tryz.ntmps179
      go_wp2_with fail
      go_quiet ((go_at_call 199; exact Calls.quiet_of_same (RG.out _)))
      go_wp2_with fail
      go_ret
      exact ⟨ret_bool E.out.symm, (by repeat (first | with_reducible assumption | with_reducible exact Below.refl _ _ | with_reducible refine bel_alloc ?_ _ | with_reducible refine bel_drew ?_ | with_reducible refine bel_drewN ?_ _ | with_reducible refine bel_set ?_ (by dsimp only; omega) _))⟩
    have d2 : decide (th < 16) = true := decide_eq_true (by omega)
    have pd2 : th < 16 := by omega
    by_cases cd3 : rg < 0
    · have d3 : decide (0 ≤ rg) = false := decide_eq_false (by omega)
      have nd3 : ¬ (0 ≤ rg) := by omega
      have E := hid (show thingB arch ⟨th, rg, loc⟩ = false by rw [hT]; simp [*])
      clear hT
      go_enter Tryz.func179, Tryz.ntmps179
      go_wp2_with fail
      go_quiet ((go_at_call 199; exact Calls.quiet_of_same (RG.out _)))
      go_wp2_with fail
      go_ret
      exact ⟨ret_bool E.out.symm, (by repeat (first | with_reducible assumption | with_reducible exact Below.refl _ _ | with_reducible refine bel_alloc ?_ _ | with_reducible refine bel_drew ?_ | with_reducible refine bel_drewN ?_ _ | with_reducible refine bel_set ?_ (by dsimp only; omega) _))⟩
    have d3 : decide (0 ≤ rg) = true := decide_eq_true (by omega)
    have pd3 : 0 ≤ rg := by omega
    by_cases cd4 : R ≤ rg
    · have d4 : decide (rg < R) = false := decide_eq_false (by omega)
      have nd4 : ¬ (rg < R) := by omega
      have E := hid (show thingB arch ⟨th, rg, loc⟩ = false by rw [hT]; simp [*])
      clear hT
      go_enter Tryz.func179, Tryz.ntmps179
      go_wp2_with fail
      go_quiet ((go_at_call 199; exact Calls.quiet_of_same (RG.out _)))
      go_wp2_with fail
      go_ret
      exact ⟨ret_bool E.out.symm, (by repeat (first | with_reducible assumption | with_reducible exact Below.refl _ _ | with_reducible refine bel_alloc ?_ _ | with_reducible refine bel_drew ?_ | with_reducible refine bel_drewN ?_ _ | with_reducible refine bel_set ?_ (by dsimp only; omega) _))⟩
    have d4 : decide (rg < R) = true := decide_eq_true (by omega)
    have pd4 : rg < R := by omega
    by_cases hl0 : loc = []
    · subst hl0
      have z5 : ((tx []).toList == ([] : List UInt8)) = true := by rw [tx_toList]; rfl
      have E := hid (show thingB arch ⟨th, rg, []⟩ = true by rw [hT]; simp [*])
      clear hT
      go_enter Tryz.func179, Tryz.ntmps179
      go_wp2_with fail
      go_quiet ((go_at_call 199; exact Calls.quiet_of_same (RG.out _)))
      go_wp2_with fail
      go_ret
      exact ⟨ret_bool E.out.symm, (by repeat (first | with_reducible assumption | with_reducible exact Below.refl _ _ | with_reducible refine bel_alloc ?_ _ | with_reducible refine bel_drew ?_ | with_reducible refine bel_drewN ?_ _ | with_reducible refine bel_set ?_ (by dsimp only; omega) _))⟩
    · have z5 : ((tx loc).toList == ([] : List UInt8)) = false := by rw [tx_toList]; simpa using hl0
      have z6 : (tx loc).toList.isEmpty = false := by rw [tx_toList]; cases loc <;> simp at *
      have E := hid (show thingB arch ⟨th, rg, loc⟩ = false by rw [hT]; simp [*])
      clear hT
      go_enter Tryz.func179, Tryz.ntmps179
      go_wp2_with fail
      go_quiet ((go_at_call 199; exact Calls.quiet_of_same (RG.out _)))
      go_wp2_with fail
      go_ret
      exact ⟨ret_bool E.out.symm, (by repeat (first | with_reducible assumption | with_reducible exact Below.refl _ _ | with_reducible refine bel_alloc ?_ _ | with_reducible refine bel_drew ?_ | with_reducible refine bel_drewN ?_ _ | with_reducible refine bel_set ?_ (by dsimp only; omega) _))⟩
end Go.Proofs.YthaibjefnclkjaaGreatDoor
namespace Go.Proofs.YthaibjefnclkjaaGreatDoor
open Go.RowKit
set_option linter.unusedVariables false

attribute [local go_sem high] eqTh neqTh
set_option maxRecDepth 100000 in
set_option maxHeartbeats 3200000 in
theorem r08Node_2 (arch : Int) (t : Th) (v : Int) (a : Option Addr) (n c : Nat) (hl : t.loc.length ≤ 9223372036854775807) (w : World) : Calls Tryz.prog 144 #[.int .i64 arch, .agg #[.int .i64 2, .int .i64 t.thread, .int .i64 t.reg, .string (tx t.loc), .int .i64 v, .slice a n c]] w (Ret w (.bool (mayN arch 2 t v n))) := by
  have B := al w (.cells #[.int .i64 2, .int .i64 t.thread, .int .i64 t.reg, .string (tx t.loc), .int .i64 v, .slice a n c] 35)
  have b0 := BxL.new w #[.int .i64 2, .int .i64 t.thread, .int .i64 t.reg, .string (tx t.loc), .int .i64 v, .slice a n c] 35
  have b0 := b0.below (al _ (.cells #[.int .i64 0, .int .i64 0, .string ⟨#[]⟩] 32))
  have B := bel_alloc B (.cells #[.int .i64 0, .int .i64 0, .string ⟨#[]⟩] 32)
  obtain ⟨b1, hb1⟩ : ∃ b1, thingB arch t = b1 := ⟨_, rfl⟩
  obtain ⟨b2, hb2⟩ : ∃ b2, n32B v = b2 := ⟨_, rfl⟩
  have CT := hid (show ∀ w, Calls Tryz.prog 179 #[.int .i64 arch, vTh t] w (Ret w (.bool b1)) from fun w => hb1 ▸ r08Thing arch t hl w)
  have CB := hid (show ∀ w, Calls Tryz.prog 180 #[.int .i64 v] w fun e w' => e = .returned (.bool b2) ∧ w = w' from fun w => hb2 ▸ r08Number v w)
  have hE := mayN_2 arch t v n
  rw [hb1, hb2] at hE
  clear hb1 hb2
  by_cases h0 : n = 0
  · subst h0
    cases b1 <;> cases b2
    all_goals
      have HE := hid hE; clear hE
      simp only [Bool.and_true, Bool.and_false, decide_true] at HE
      go_enter Tryz.func144, Tryz.ntmps144
      go_wp2_with (first | (go_at_call 179; refine (CT.out _).mono ?_; rintro e w1 ⟨rfl, E1⟩; have b1' := b0.below E1; have q4 := b1'.get 4 _ rfl; have q5 := b1'.get 5 _ rfl; have B := B.trans (E1.mono B.size); clear b1' E1) | (go_at_call 180; refine (CB.out _).mono ?_; rintro e w2 ⟨rfl, rfl⟩))
      go_ret
      exact ⟨ret_bool HE.out.symm, (by repeat (first | with_reducible assumption | with_reducible exact Below.refl _ _ | with_reducible refine bel_alloc ?_ _ | with_reducible refine bel_drew ?_ | with_reducible refine bel_drewN ?_ _ | with_reducible refine bel_set ?_ (by dsimp only; omega) _))⟩
  · have z0 : ((n : Int) == 0) = false := by simpa using h0
    rw [decide_eq_false h0] at hE
    clear h0
    cases b1 <;> cases b2
    all_goals
      have HE := hid hE; clear hE
      simp only [Bool.and_true, Bool.and_false] at HE
      go_enter Tryz.func144, Tryz.ntmps144
      go_wp2_with (first | (go_at_call 179; refine (CT.out _).mono ?_; rintro e w1 ⟨rfl, E1⟩; have b1' := b0.below E1; have q4 := b1'.get 4 _ rfl; have q5 := b1'.get 5 _ rfl; have B := B.trans (E1.mono B.size); clear b1' E1) | (go_at_call 180; refine (CB.out _).mono ?_; rintro e w2 ⟨rfl, rfl⟩))
      go_ret
      exact ⟨ret_bool HE.out.symm, (by repeat (first | with_reducible assumption | with_reducible exact Below.refl _ _ | with_reducible refine bel_alloc ?_ _ | with_reducible refine bel_drew ?_ | with_reducible refine bel_drewN ?_ _ | with_reducible refine bel_set ?_ (by dsimp only; omega) _))⟩
set_option maxRecDepth 100000 in
set_option maxHeartbeats 3200000 in
theorem r08Node_no (arch : Int) (k : Int) (t : Th) (v : Int) (a : Option Addr) (n c : Nat) (hl : t.loc.length ≤ 9223372036854775807) (hk : k ≠ 2) (h : t ≠ zTh ∨ v ≠ 0) (w : World) : Calls Tryz.prog 144 #[.int .i64 arch, .agg #[.int .i64 k, .int .i64 t.thread, .int .i64 t.reg, .string (tx t.loc), .int .i64 v, .slice a n c]] w (Ret w (.bool (mayN arch k t v n))) := by
  have B := al w (.cells #[.int .i64 k, .int .i64 t.thread, .int .i64 t.reg, .string (tx t.loc), .int .i64 v, .slice a n c] 35)
  have HE := hid (mayN_no (arch := arch) (n := n) hk h)
  have NZ := neq_zTh t
  have zk : (k == 2) = false := by simpa using hk
  have zk2 : (k != 2) = true := by simpa using hk
  clear hk
  by_cases ht : t = zTh
  · have hv : v ≠ 0 := by rcases h with h | h; exact absurd ht h; exact h
    have zv : (v != 0) = true := by simpa using hv
    rw [decide_eq_true ht] at NZ
    clear h ht hv
    go_enter Tryz.func144, Tryz.ntmps144
    go_wp2_with fail
    go_ret
    exact ⟨ret_bool HE.out.symm, (by repeat (first | with_reducible assumption | with_reducible exact Below.refl _ _ | with_reducible refine bel_alloc ?_ _ | with_reducible refine bel_drew ?_ | with_reducible refine bel_drewN ?_ _ | with_reducible refine bel_set ?_ (by dsimp only; omega) _))⟩
  · rw [decide_eq_false ht] at NZ
    clear h ht
    go_enter Tryz.func144, Tryz.ntmps144
    go_wp2_with fail
    go_ret
    exact ⟨ret_bool HE.out.symm, (by repeat (first | with_reducible assumption | with_reducible exact Below.refl _ _ | with_reducible refine bel_alloc ?_ _ | with_reducible refine bel_drew ?_ | with_reducible refine bel_drewN ?_ _ | with_reducible refine bel_set ?_ (by dsimp only; omega) _))⟩
set_option maxRecDepth 100000 in
set_option maxHeartbeats 3200000 in
theorem r08Node_z (arch k : Int) (a : Option Addr) (n c : Nat) (hk : k ≠ 2) (w : World) : Calls Tryz.prog 144 #[.int .i64 arch, .agg #[.int .i64 k, .int .i64 0, .int .i64 0, .string ⟨#[]⟩, .int .i64 0, .slice a n c]] w (Ret w (.bool (mayN arch k zTh 0 n))) := by
  have B := al w (.cells #[.int .i64 k, .int .i64 0, .int .i64 0, .string ⟨#[]⟩, .int .i64 0, .slice a n c] 35)
  have hE := mayN_z (arch := arch) (n := n) hk
  have NZ := neq_zTh zTh
  rw [decide_eq_true rfl] at NZ
  have NZ : ∀ w, (binOp .neq 32 (.agg #[.int .i64 0, .int .i64 0, .string ⟨#[]⟩]) (.agg #[.int .i64 0, .int .i64 0, .string ⟨#[]⟩])).run Tryz.prog w = .ok (.bool false) w := NZ
  have zk : (k == 2) = false := by simpa using hk
  have zk2 : (k != 2) = true := by simpa using hk
  by_cases h1 : k = 1
  · subst h1
    have e : mayN arch 1 zTh 0 n = ((n : Int) == 0) := by rw [hE, if_pos rfl, Bool.eq_iff_iff]; simp
    have HE := hid e
    clear e hE hk zk zk2
    go_enter Tryz.func144, Tryz.ntmps144
    go_wp2_with fail
    go_ret
    exact ⟨ret_bool HE.out.symm, (by repeat (first | with_reducible assumption | with_reducible exact Below.refl _ _ | with_reducible refine bel_alloc ?_ _ | with_reducible refine bel_drew ?_ | with_reducible refine bel_drewN ?_ _ | with_reducible refine bel_set ?_ (by dsimp only; omega) _))⟩
  by_cases h3 : k = 3
  · subst h3
    have e : mayN arch 3 zTh 0 n = ((n : Int) == 1) := by rw [hE, if_neg (by omega), if_pos rfl, Bool.eq_iff_iff]; simp; omega
    have HE := hid e
    clear e hE hk zk zk2 h1
    go_enter Tryz.func144, Tryz.ntmps144
    go_wp2_with fail
    go_ret
    exact ⟨ret_bool HE.out.symm, (by repeat (first | with_reducible assumption | with_reducible exact Below.refl _ _ | with_reducible refine bel_alloc ?_ _ | with_reducible refine bel_drew ?_ | with_reducible refine bel_drewN ?_ _ | with_reducible refine bel_set ?_ (by dsimp only; omega) _))⟩
  by_cases h45 : k = 4 ∨ k = 5
  · have e : mayN arch k zTh 0 n = decide (2 ≤ n) := by rw [hE, if_neg h1, if_neg h3, if_pos h45]
    clear hE hk zk zk2 h1 h3
    rcases h45 with rfl | rfl
    all_goals
      by_cases hn : 2 ≤ n
      · rw [decide_eq_true hn] at e
        have zn : decide ((2 : Int) ≤ n) = true := decide_eq_true (by omega)
        have HE := hid e
        clear e
        go_enter Tryz.func144, Tryz.ntmps144
        go_wp2_with fail
        go_ret
        exact ⟨ret_bool (by rw [HE.out]), (by repeat (first | with_reducible assumption | with_reducible exact Below.refl _ _ | with_reducible refine bel_alloc ?_ _ | with_reducible refine bel_drew ?_ | with_reducible refine bel_drewN ?_ _ | with_reducible refine bel_set ?_ (by dsimp only; omega) _))⟩
      · rw [decide_eq_false hn] at e
        have zn : decide ((2 : Int) ≤ n) = false := decide_eq_false (by omega)
        have HE := hid e
        clear e
        go_enter Tryz.func144, Tryz.ntmps144
        go_wp2_with fail
        go_ret
        exact ⟨ret_bool (by rw [HE.out]), (by repeat (first | with_reducible assumption | with_reducible exact Below.refl _ _ | with_reducible refine bel_alloc ?_ _ | with_reducible refine bel_drew ?_ | with_reducible refine bel_drewN ?_ _ | with_reducible refine bel_set ?_ (by dsimp only; omega) _))⟩
  · have HE := hid (show mayN arch k zTh 0 n = false by rw [hE, if_neg h1, if_neg h3, if_neg h45])
    have z1 : (k == 1) = false := by simpa using h1
    have z3 : (k == 3) = false := by simpa using h3
    have z4 : (k == 4) = false := by simp; omega
    have z5 : (k == 5) = false := by simp; omega
    clear hE hk h1 h3 h45
    go_enter Tryz.func144, Tryz.ntmps144
    go_wp2_with fail
    go_ret
    exact ⟨ret_bool HE.out.symm, (by repeat (first | with_reducible assumption | with_reducible exact Below.refl _ _ | with_reducible refine bel_alloc ?_ _ | with_reducible refine bel_drew ?_ | with_reducible refine bel_drewN ?_ _ | with_reducible refine bel_set ?_ (by dsimp only; omega) _))⟩
theorem r08Node (arch : Int) (x : Nd) (hl : x.th.loc.length ≤ 9223372036854775807) (w : World) : Calls Tryz.prog 144 #[.int .i64 arch, vN x] w (Ret w (.bool (mayN arch x.kind x.th x.val x.kids.length))) := by
  unfold vN
  generalize x.kind = k
  generalize x.th = t at *
  generalize x.val = v
  by_cases h2 : k = 2
  · subst h2; exact r08Node_2 arch t v x.a x.kids.length x.c hl w
  by_cases hz : t = zTh ∧ v = 0
  · obtain ⟨rfl, rfl⟩ := hz
    exact r08Node_z arch k x.a x.kids.length x.c h2 w
  · exact r08Node_no arch k t v x.a x.kids.length x.c hl h2 (by by_cases ht : t = zTh; exact .inr (fun hv => hz ⟨ht, hv⟩); exact .inl ht) w
end Go.Proofs.YthaibjefnclkjaaGreatDoor

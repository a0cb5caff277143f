/- The walks of blank, Parse (the program's). Conditions: lengths that an int holds; the library's variables as the program's text lays them. Things and nodes of conditions as values, and in memory. Lemmas of this claim's own; no condition. A condition's text as a plain function; what may be has a short text. No program, no condition. Rows of elements of several cells that are the call's own: written over in place, an end cleared. Lemmas of this claim's own; no condition. The walks of names, Reg and Print of x86 instructions (the document's answer). Conditions: the library's variables as the program's text lays them. The walks of names and register (cond), of Reg and ThingText (the document's answer 08). Conditions: the library's variables as the program's text lays them. The walks of kid, text and Print of a condition (the document's answer 08). Conditions: the nodes lie in memory as read and may be; the library's variables as the program's text lays them. The walk of Print of a condition (the document's answer 08). Conditions: the nodes lie in memory as read; the library's variables as the program's text lays them. -/
import Derived.Test.YthaibjefnclkjaaGreatDoorZ3
import Derived.Test.YthaibjefnclkjaaGreatDoorZ2
import Derived.Test.YthaibjefnclkjaaGreatDoorY1
import Derived.Test.YthaibjefnclkjaaGreatDoorZ1
import Derived.Test.YthaibjefnclkjaaGreatDoorRows
import Derived.Lib.SlTrimSet
import Derived.Lib.ItoaNum
import Derived.WalkKit
import Derived.WalkSpells
import Derived.WalkLawsBesides
import Derived.Deep.QuietTactic
import Derived.BigQuiet
import Derived.ProofKit
import Derived.OpenShut
import Derived.ShutString
import Derived.ChangeOld
import Derived.Carry
import Derived.SizedLaws
import Derived.Laws.StructEq
import Derived.Shelf.SlicesQ.Load
import Derived.Lib.SplitLaws
import Derived.Lib.Strings
import Derived.Lib.ItoaMem
import Derived.Shelf.Strings.SlTrimAscii
import Derived.Shelf.Small.Strs
import Derived.Shelf.Strconv.Itoa3
import Derived.Shelf.LaysM
import Derived.Shelf.Strings.Prefix
import Derived.Test.YthaibjefnclkjaaGreatDoorProg
import Derived.Lib.ItoaLen
import Derived.WalkSmall
import Derived.Laws.Concat
import Derived.BigRegion
import Derived.StillTailTactics
import Derived.Deep.RegionWith
import Derived.Lib.AtoiAll
import Derived.Test.YthaibjefnclkjaaGreatDoorZ4
import Derived.Deep.DeepCutAuto
import Derived.Test.YthaibjefnclkjaaGreatDoorZ6
import Derived.Laws.IdiomCopy
import Derived.Test.YthaibjefnclkjaaGreatDoorZ14
import Derived.Test.YthaibjefnclkjaaGreatDoorZ13
import Derived.Test.YthaibjefnclkjaaGreatDoorZ11
import Derived.Test.YthaibjefnclkjaaGreatDoorZ9
import Derived.Test.YthaibjefnclkjaaGreatDoorZ10
import Derived.Lib.QuietBelow
import Derived.Deep.RegionHeld3
import Derived.Test.YthaibjefnclkjaaGreatDoorZ7
import Derived.Test.YthaibjefnclkjaaGreatDoorY2
import Derived.Test.YthaibjefnclkjaaGreatDoorZ8
namespace Go.Proofs.YthaibjefnclkjaaGreatDoor
open Go.RowKit
set_option linter.unusedVariables false

attribute [local go_sem high] eqI neqI

theorem RetP.yes {w w' : World} {e : Ending} {r : Option Ins} {op d a b imm fence : Int} {label : Tx} (hr : r = some ⟨op, d, a, b, imm, [], label, fence⟩) (h : e = .returned (.tuple #[.agg #[.int .i64 op, .int .i64 d, .int .i64 a, .int .i64 b, .int .i64 imm, .string ⟨#[]⟩, .string (tx label), .int .i64 fence], .int .i64 0])) (hb : Below w.heap.size w w') : RetP r w e w' := by
  subst hr h; exact ⟨rfl, hb⟩
end Go.Proofs.YthaibjefnclkjaaGreatDoor
namespace Go.Proofs.YthaibjefnclkjaaGreatDoor
open Go.RowKit
set_option linter.unusedVariables false

theorem cN_one (x : Nd) : ∀ u ∈ cN x, u.oneCell' = true := by
  intro u hu; simp only [cN, List.mem_cons, List.not_mem_nil, or_false] at hu
  rcases hu with rfl | rfl | rfl | rfl | rfl | rfl <;> rfl
end Go.Proofs.YthaibjefnclkjaaGreatDoor
namespace Go.Proofs.YthaibjefnclkjaaGreatDoor
set_option linter.unusedVariables false

theorem cntL_mem {x : Nd} : ∀ {l : List Nd}, x ∈ l → cntN x ≤ cntL l
  | y :: r, h => by
    rw [cntL_cons]
    rcases List.mem_cons.1 h with rfl | h
    · omega
    · have := cntL_mem h; omega
end Go.Proofs.YthaibjefnclkjaaGreatDoor
namespace Go.Proofs.YthaibjefnclkjaaGreatDoor
open Go.RowKit
set_option linter.unusedVariables false
set_option linter.unusedSectionVars false

section
variable {α : Type} {enc : α → List Value} {m : Nat} (hm : ∀ x, (enc x).length = m)
include hm
theorem Own.frontL {w : World} {B E n c k : Nat} {a : Option Addr} {L : List α} (h : Own w B E m a n c (flat enc L)) (hn : n = L.length) (hk : k ≤ n) : Own w B E m a k c (flat enc (L.take k)) := by
  have := h.cap
  obtain ⟨m', rfl⟩ : ∃ m', n = k + m' := ⟨n - k, by omega⟩
  have h1 : flat enc L = flat enc (L.take k) ++ flat enc (L.drop k) := by rw [← flat_app, List.take_append_drop]
  rw [h1] at h
  exact Own.front h (by rw [flat_length hm, List.length_take]; congr 1; omega)
end
end Go.Proofs.YthaibjefnclkjaaGreatDoor
namespace Go.Proofs.YthaibjefnclkjaaGreatDoor
open Go.RowKit Go.Sort
set_option linter.unusedVariables false

theorem r9Reg (k : Nat) (h : k < 15) (w : World) : Calls Tryz.prog 71 #[.int .i64 k] w (Ret w (.tuple #[.string (tx (regX k)), .int .i64 0])) := by
  have h0 : (0 : Int) ≤ (k : Int) := by omega
  have h1 : (k : Int) < 15 := by omega
  go_enter Tryz.func71, Tryz.ntmps71
  go_wp2_with fail
  refine (r9Names _).mono ?_
  rintro e w1 ⟨a, rfl, T, B⟩
  have ix := T.idx h
  have cx := T.cell h
  go_wp2_with fail
  go_ret2
  exact ⟨rfl, B⟩

end Go.Proofs.YthaibjefnclkjaaGreatDoor
namespace Go.Proofs.YthaibjefnclkjaaGreatDoor
open Go.RowKit Go.Sort
set_option linter.unusedVariables false

theorem cat_R (k : Nat) (h : k < 100) : ∀ w, (Op.stringOp .add ⟨#[82]⟩ (tx (decN k))).run Tryz.prog w = .ok (.string (tx (82 :: decN k))) w := run_cat [82] (decN k) (by have := decN_len k; simp; omega)
theorem cat_RD (k : Nat) (h : k < 100) : ∀ w, (Op.stringOp .add (tx (82 :: decN k)) ⟨#[68]⟩).run Tryz.prog w = .ok (.string (tx (82 :: decN k ++ [68]))) w := run_cat (82 :: decN k) [68] (by have := decN_len k; simp; omega)
theorem regX_hi_fin : ∀ k : Fin 15, 7 ≤ k.val → 82 :: decN (k.val + 1) ++ [68] = regX k.val := by decide +kernel
theorem r08Reg (arch : Int) (k : Nat) (hk : (k : Int) < regsN arch) (w : World) : Calls Tryz.prog 145 #[.int .i64 arch, .int .i64 k] w (RetQ w (.string (tx (regA arch k)))) := by
  by_cases h1 : arch = 1
  · subst h1
    have h15 : k < 15 := by unfold regsN at hk; rw [if_pos rfl] at hk; omega
    have e : regA 1 k = regX k := rfl
    rw [e]
    clear e hk
    by_cases h7 : 7 ≤ k
    · have e := regX_hi_fin ⟨k, h15⟩ h7
      have z7 : (7 : Int) ≤ k := by omega
      have c1 := cat_R (k + 1) (by omega)
      simp only at e
      have c2 : ∀ w, (Op.stringOp .add (tx (82 :: decN (k + 1))) ⟨#[68]⟩).run Tryz.prog w = .ok (.string (tx (regX k))) w := fun w => by rw [← e]; exact cat_RD (k + 1) (by omega) w
      have hI := itoa_small (k + 1) (by omega)
      rw [show ((k + 1 : Nat) : Int) = (k : Int) + 1 by omega] at hI
      have hI := hid hI
      clear e
      have hkk : (k : Int) + 1 ≤ 100 := by omega
      go_enter Tryz.func145, Tryz.ntmps145
      go_wp2_with (go_at_call 30; refine (hI.out _).mono ?_; rintro e w' ⟨rfl, rfl⟩)
      go_ret
      exact ⟨rfl, (by repeat (first | exact QW.refl _ | refine QW.d ?_ _))⟩
    · have h : k = 0 ∨ k = 1 ∨ k = 2 ∨ k = 3 ∨ k = 4 ∨ k = 5 ∨ k = 6 := by omega
      clear h15 h7
      rcases h with rfl | rfl | rfl | rfl | rfl | rfl | rfl
      all_goals
        go_enter Tryz.func145, Tryz.ntmps145
        go_wp2_with fail
        go_ret
        exact ⟨ret_str (by decide +kernel), (by repeat (first | exact QW.refl _ | refine QW.d ?_ _))⟩
  · have z1 : (arch != 1) = true := by simpa using h1
    have e : regA arch k = regT k := by unfold regA; rw [if_neg h1]
    have h32 : k < 32 := by unfold regsN at hk; rw [if_neg h1] at hk; omega
    rw [e]
    have cx := cat_x k
    clear e hk h1
    go_enter Tryz.func145, Tryz.ntmps145
    go_wp2_with (go_at_call 30; refine (itoa_small k (by omega) _).mono ?_; rintro e w' ⟨rfl, rfl⟩)
    go_ret
    exact ⟨rfl, (by repeat (first | exact QW.refl _ | refine QW.d ?_ _))⟩
set_option maxRecDepth 100000 in
set_option maxHeartbeats 1600000 in
theorem r08ThText (arch : Int) (t : Th) (h : thingB arch t = true) (w : World) (g : Gl w) : Calls Tryz.prog 114 #[.int .i64 arch, vTh t] w (Ret w (.string (tx (thText arch t)))) := by
  rcases thingB_cases h with ⟨h1, h2, h3⟩ | ⟨i, k, rfl, hi, hk⟩
  · obtain ⟨th, rg, loc⟩ := t
    simp only at h1
    subst h1
    have B := al w (mkTh ⟨-1, rg, loc⟩)
    clear h h2 h3
    go_enter Tryz.func114, Tryz.ntmps114
    go_wp2_with fail
    go_ret
    exact ⟨rfl, (by repeat (first | with_reducible assumption | with_reducible exact Below.refl _ _ | with_reducible refine bel_alloc ?_ _ | with_reducible refine bel_drew ?_ | with_reducible refine bel_drewN ?_ _ | with_reducible refine bel_set ?_ (by dsimp only; omega) _))⟩
  · have B := al w (.cells #[.int .i64 i, .int .i64 k, .string (tx [])] 32)
    have b0 := BxL.new w #[.int .i64 i, .int .i64 k, .string (tx [])] 32
    have g := g.below B
    have z1 : ((i : Int) == -1) = false := by simp <;> omega
    have l1 := Lib.itoa_length_le (i : Int) (by omega) (by omega)
    have l2 := regA_len (arch := arch) (k := k) hk
    obtain ⟨s1, hs1⟩ : ∃ s1, Lib.itoa (i : Int) = s1 := ⟨_, rfl⟩
    obtain ⟨s2, hs2⟩ : ∃ s2, regA arch k = s2 := ⟨_, rfl⟩
    rw [hs1] at l1; rw [hs2] at l2
    have IT := hid (show ∀ (w : World), Gl w → Calls Tryz.prog 30 #[.int .i64 i] w (Ret w (.string (tx s1))) from fun w g => hs1 ▸ itoa_any (i : Int) (by omega) (by omega) w g)
    have RG := hid (show ∀ (w : World), Calls Tryz.prog 145 #[.int .i64 arch, .int .i64 k] w (Ret w (.string (tx s2))) from fun w => (r08Reg arch k hk w).mono fun e w' hh => ⟨by rw [hh.1, hs2], hh.2.below⟩)
    obtain ⟨t1, ht1⟩ : ∃ t : Tx, s1 ++ [58] = t := ⟨_, rfl⟩
    have n1 : t1.length ≤ 22 := by rw [← ht1]; simp; omega
    have c1 : ∀ w, (Op.stringOp .add (tx s1) ⟨#[58]⟩).run Tryz.prog w = .ok (.string (tx t1)) w := run_catT s1 [58] t1 ht1 (by omega)
    obtain ⟨t2, ht2⟩ : ∃ t : Tx, t1 ++ s2 = t := ⟨_, rfl⟩
    have n2 : t2.length ≤ 30 := by rw [← ht2]; simp; omega
    have c2 : ∀ w, (Op.stringOp .add (tx t1) (tx s2)).run Tryz.prog w = .ok (.string (tx t2)) w := run_catT t1 s2 t2 ht2 (by omega)
    have E := hid (show thText arch ⟨i, k, []⟩ = t2 by rw [thText_reg, hs1, hs2, ht1, ht2])
    have QQ := hid (And.intro B (And.intro b0 g))
    clear hs1 hs2 h B b0 g l1 l2 ht1 ht2 n1 n2
    go_enter Tryz.func114, Tryz.ntmps114
    go_wp2_with fail
    obtain ⟨B, b0, g⟩ := QQ.out
    generalize w.alloc (.cells #[.int .i64 i, .int .i64 k, .string (tx [])] 32) = W at *
    have q0 := b0.get 0 _ rfl; have q1 := b0.get 1 _ rfl
    have q0 := cell_regrown q0; have q1 := cell_regrown q1
    have cA := fun (d : Nat) (os : Array Obj) => Calls.regrown_of (retc' (IT.out (grow (redrawn W d) os) (g.below (below_regrown W d os))))
    have cB := fun (d : Nat) (os : Array Obj) => Calls.regrown_of (retc' (RG.out (grow (redrawn W d) os)))
    clear QQ b0
    refine wp_region_quiet_below (by kernel_rfl) (by kernel_rfl) ?_
    repeat (go_big_quiet_step (first | exact cA _ _ | exact cB _ _))
    refine wpQuiet_nil ?_
    intro _ hw'
    obtain ⟨⟨dq, osq⟩, hw''⟩ := hw'
    subst hw''
    have EQ' := below_regrown W dq osq
    have EZ := B.trans (EQ'.mono B.size)
    generalize grow (redrawn W dq) osq = wq at *
    go_wp2_with fail
    go_ret
    exact ⟨ret_str (by rw [E.out]), EZ⟩
end Go.Proofs.YthaibjefnclkjaaGreatDoor
namespace Go.Proofs.YthaibjefnclkjaaGreatDoor
open Go.RowKit Go.Sort
set_option linter.unusedVariables false

/-- a text's walk is known -/
def TextOf (arch : Int) (x : Nd) : Prop := ∀ w, NdIn w x → Gl w → Calls Tryz.prog 73 #[.int .i64 arch, vN x] w (Ret w (.string (tx (textN arch x))))
set_option maxRecDepth 100000 in
set_option maxHeartbeats 3200000 in
theorem r08Kid (arch : Int) (x : Nd) (and : Bool) (H : TextOf arch x) (hl : (textN arch x).length ≤ 200000) (w : World) (hI : NdIn w x) (g : Gl w) :
    Calls Tryz.prog 115 #[.int .i64 arch, vN x, .bool and, .bool true] w (Ret w (.string (tx (inB (weak and x.kind) (textN arch x))))) := by
  have B := al w (mkN x)
  have b0 := BxN.new w x
  have H1 := H (w.alloc (mkN x)) (hI.keep B) (g.below B)
  obtain ⟨s, hs⟩ : ∃ s, textN arch x = s := ⟨_, rfl⟩
  rw [hs] at H1 hl ⊢
  have hc1 : ∃ t1 : Tx, 40 :: s = t1 := ⟨_, rfl⟩
  obtain ⟨t1, ht1⟩ := hc1
  obtain ⟨t2, ht2⟩ : ∃ t2 : Tx, t1 ++ [41] = t2 := ⟨_, rfl⟩
  have n1 : t1.length ≤ 200001 := by rw [← ht1]; simp <;> omega
  have c1 : ∀ w, (Op.stringOp .add ⟨#[40]⟩ (tx s)).run Tryz.prog w = .ok (.string (tx t1)) w := fun w => by rw [← ht1]; exact run_cat [40] s (by simp only [List.length_singleton]; omega) w
  have c2 : ∀ w, (Op.stringOp .add (tx t1) ⟨#[41]⟩).run Tryz.prog w = .ok (.string (tx t2)) w := fun w => by rw [← ht2]; exact run_cat t1 [41] (by simp <;> omega) w
  have hY : inB true s = t2 := by unfold inB; rw [if_pos rfl, ← ht2, ← ht1]
  have hN : inB false s = s := rfl
  have HY := hid hY; have HN := hid hN
  have H1 := hid H1
  have hk := weak and x.kind
  clear hs ht1 ht2 hY hN H hI g hk
  have go1 : ∀ (b : Bool), weak and x.kind = b → (b = true → ((x.kind == 4) = true ∧ and = true) ∨ ((x.kind == 4) = false ∧ (x.kind == 5) = true)) → (b = false → ((x.kind == 4) = true ∧ and = false ∧ (x.kind == 5) = false) ∨ ((x.kind == 4) = false ∧ (x.kind == 5) = false)) →
      Calls Tryz.prog 115 #[.int .i64 arch, vN x, .bool and, .bool true] w (Ret w (.string (tx (inB (weak and x.kind) s)))) := by
    intro b hb h1 h2
    rw [hb]
    clear hb
    cases b
    · have h2 := h2 rfl
      clear h1
      rw [HN.out]
      rcases h2 with ⟨z4, rfl, z5⟩ | ⟨z4, z5⟩
      all_goals
        go_enter Tryz.func115, Tryz.ntmps115
        go_wp2_with fail
        refine H1.out.mono ?_
        rintro e w1 ⟨rfl, E1⟩
        obtain ⟨q0, q1, q2, q3, q4, q5⟩ := (b0.below E1).cells
        have B := B.trans (E1.mono B.size)
        go_wp2_with fail
        go_ret
        exact ⟨rfl, (by repeat (first | with_reducible assumption | with_reducible exact Below.refl _ _ | with_reducible refine bel_alloc ?_ _ | with_reducible refine bel_drew ?_ | with_reducible refine bel_drewN ?_ _ | with_reducible refine bel_set ?_ (by dsimp only; omega) _))⟩
    · have h1 := h1 rfl
      clear h2
      rw [HY.out]
      rcases h1 with ⟨z4, rfl⟩ | ⟨z4, z5⟩
      all_goals
        go_enter Tryz.func115, Tryz.ntmps115
        go_wp2_with fail
        refine H1.out.mono ?_
        rintro e w1 ⟨rfl, E1⟩
        obtain ⟨q0, q1, q2, q3, q4, q5⟩ := (b0.below E1).cells
        have B := B.trans (E1.mono B.size)
        go_wp2_with fail
        go_ret
        exact ⟨rfl, (by repeat (first | with_reducible assumption | with_reducible exact Below.refl _ _ | with_reducible refine bel_alloc ?_ _ | with_reducible refine bel_drew ?_ | with_reducible refine bel_drewN ?_ _ | with_reducible refine bel_set ?_ (by dsimp only; omega) _))⟩
  refine go1 _ rfl (fun h => ?_) (fun h => ?_)
  · unfold weak at h
    by_cases h4 : x.kind = 4
    · left; rw [h4] at h ⊢; simp at h; exact ⟨rfl, h⟩
    · right; simp [h4] at h ⊢; exact h
  · unfold weak at h
    by_cases h4 : x.kind = 4
    · left; rw [h4] at h ⊢; simp at h; exact ⟨rfl, h, rfl⟩
    · right; simp [h4] at h ⊢; exact h
set_option maxRecDepth 100000 in
set_option maxHeartbeats 3200000 in
theorem r08Text_1 (arch : Int) (x : Nd) (hk : x.kind = 1) (w : World) : Calls Tryz.prog 73 #[.int .i64 arch, vN x] w (Ret w (.string (tx (textN arch x)))) := by
  have B := al w (mkN x)
  have z1 : (x.kind == 1) = true := by simpa using hk
  have E := hid (show textN arch x = [116, 114, 117, 101] by rw [textN_eq, if_pos hk])
  clear hk
  go_enter Tryz.func73, Tryz.ntmps73
  go_wp2_with fail
  go_ret
  exact ⟨ret_str (by rw [E.out]; rfl), (by repeat (first | with_reducible assumption | with_reducible exact Below.refl _ _ | with_reducible refine bel_alloc ?_ _ | with_reducible refine bel_drew ?_ | with_reducible refine bel_drewN ?_ _ | with_reducible refine bel_set ?_ (by dsimp only; omega) _))⟩
set_option maxRecDepth 100000 in
set_option maxHeartbeats 3200000 in
theorem r08Text_2 (arch : Int) (x : Nd) (hk : x.kind = 2) (ht : thingB arch x.th = true) (hv : n32B x.val = true) (w : World) (g : Gl w) : Calls Tryz.prog 73 #[.int .i64 arch, vN x] w (Ret w (.string (tx (textN arch x)))) := by
  have B := al w (.cells #[.int .i64 x.kind, .int .i64 x.th.thread, .int .i64 x.th.reg, .string (tx x.th.loc), .int .i64 x.val, .slice x.a x.kids.length x.c] 35)
  have b0 := BxL.new w #[.int .i64 x.kind, .int .i64 x.th.thread, .int .i64 x.th.reg, .string (tx x.th.loc), .int .i64 x.val, .slice x.a x.kids.length x.c] 35
  have g := g.below B
  have z1 : (x.kind == 1) = false := by rw [hk]; rfl
  have z2 : (x.kind == 2) = true := by rw [hk]; rfl
  have hvb := n32B_spec hv
  have l1 := thText_len ht
  have l2 := itoa_len hv
  obtain ⟨s1, hs1⟩ : ∃ s1, thText arch x.th = s1 := ⟨_, rfl⟩
  obtain ⟨s2, hs2⟩ : ∃ s2, Lib.itoa x.val = s2 := ⟨_, rfl⟩
  rw [hs1] at l1; rw [hs2] at l2
  have TT := hid (show ∀ w, Gl w → Calls Tryz.prog 114 #[.int .i64 arch, vTh x.th] w (Ret w (.string (tx s1))) from fun w g => hs1 ▸ r08ThText arch x.th ht w g)
  have IT := hid (show ∀ (w : World), Gl w → Calls Tryz.prog 30 #[.int .i64 x.val] w (Ret w (.string (tx s2))) from fun w g => hs2 ▸ itoa_any x.val (by omega) (by omega) w g)
  obtain ⟨t1, ht1⟩ : ∃ t : Tx, s1 ++ [61] = t := ⟨_, rfl⟩
  have n1 : t1.length ≤ 33 := by rw [← ht1]; simp; omega
  have c1 : ∀ w, (Op.stringOp .add (tx s1) ⟨#[61]⟩).run Tryz.prog w = .ok (.string (tx t1)) w := run_catT s1 [61] t1 ht1 (by omega)
  obtain ⟨t2, ht2⟩ : ∃ t : Tx, t1 ++ s2 = t := ⟨_, rfl⟩
  have n2 : t2.length ≤ 60 := by rw [← ht2]; simp; omega
  have c2 : ∀ w, (Op.stringOp .add (tx t1) (tx s2)).run Tryz.prog w = .ok (.string (tx t2)) w := run_catT t1 s2 t2 ht2 (by omega)
  have E := hid (show textN arch x = t2 by rw [textN_eq, if_neg (by omega), if_pos hk]; unfold atomT; rw [hs1, hs2, ht1, ht2])
  have QQ := hid (And.intro B (And.intro b0 g))
  clear hs1 hs2 B b0 g l1 l2 ht1 ht2 n1 n2 hk ht hv hvb
  go_enter Tryz.func73, Tryz.ntmps73
  go_wp2_with fail
  obtain ⟨B, b0, g⟩ := QQ.out
  generalize w.alloc (.cells #[.int .i64 x.kind, .int .i64 x.th.thread, .int .i64 x.th.reg, .string (tx x.th.loc), .int .i64 x.val, .slice x.a x.kids.length x.c] 35) = W at *
  have q1 := b0.get 1 _ rfl; have q2 := b0.get 2 _ rfl; have q3 := b0.get 3 _ rfl; have q4 := b0.get 4 _ rfl
  have q1 := cell_regrown q1; have q2 := cell_regrown q2; have q3 := cell_regrown q3; have q4 := cell_regrown q4
  have cA := fun (d : Nat) (os : Array Obj) => Calls.regrown_of (retc' (IT.out (grow (redrawn W d) os) (g.below (below_regrown W d os))))
  have cB := fun (d : Nat) (os : Array Obj) => Calls.regrown_of (retc' (TT.out (grow (redrawn W d) os) (g.below (below_regrown W d os))))
  clear QQ b0
  refine wp_region_quiet_below (by kernel_rfl) (by kernel_rfl) ?_
  repeat (go_big_quiet_step (first | exact cA _ _ | exact cB _ _))
  refine wpQuiet_nil ?_
  intro _ hw'
  obtain ⟨⟨dq, osq⟩, hw''⟩ := hw'
  subst hw''
  have EQ' := below_regrown W dq osq
  have EZ := B.trans (EQ'.mono B.size)
  generalize grow (redrawn W dq) osq = wq at *
  go_wp2_with fail
  go_ret
  exact ⟨ret_str (by rw [E.out]), EZ⟩
set_option maxRecDepth 100000 in
set_option maxHeartbeats 3200000 in
theorem r08Text_3 (arch : Int) (x y : Nd) (hk : x.kind = 3) (hy : x.kids = [y]) (hl : (textN arch y).length ≤ 190000) (H : TextOf arch y) (w : World) (hI : NdIn w x) (g : Gl w) : Calls Tryz.prog 73 #[.int .i64 arch, vN x] w (Ret w (.string (tx (textN arch x)))) := by
  have B := al w (mkN x)
  have z1 : (x.kind == 1) = false := by rw [hk]; rfl
  have z2 : (x.kind == 2) = false := by rw [hk]; rfl
  have z3 : (x.kind == 3) = true := by rw [hk]; rfl
  have hI1 := hI.keep B
  have h0 : x.kids[0]? = some y := by rw [hy]; rfl
  have hlk : 0 < x.kids.length := by rw [hy]; simp
  obtain ⟨p0, p1, p2, p3, p4, p5⟩ := hI1.els.nd h0
  have ix := hI1.els.idx ndl cN_len 0 hlk x.c
  have KD := r08Kid arch y true H (by omega) (w.alloc (mkN x)) (hI1.kid y (by rw [hy]; simp)) (g.below B)
  simp only [Nat.zero_mul, Nat.add_zero, Int.ofNat_zero] at p0 p1 p2 p3 p4 p5 ix
  have l1 := inB_len (weak true y.kind) (textN arch y)
  obtain ⟨s1, hs1⟩ : ∃ s1, inB (weak true y.kind) (textN arch y) = s1 := ⟨_, rfl⟩
  rw [hs1] at KD l1
  obtain ⟨t1, ht1⟩ : ∃ t : Tx, 126 :: s1 = t := ⟨_, rfl⟩
  have c1 : ∀ w, (Op.stringOp .add ⟨#[126]⟩ (tx s1)).run Tryz.prog w = .ok (.string (tx t1)) w := fun w => by rw [← ht1]; exact run_cat [126] s1 (by simp; omega) w
  have E := hid (show textN arch x = t1 by rw [textN_eq, if_neg (by omega), if_neg (by omega), if_pos hk, hy, textL_cons, textR_nil, List.append_nil, hs1, ht1])
  have KD := hid KD
  clear hs1 ht1 hk hy h0 hI hI1 g H
  go_enter Tryz.func73, Tryz.ntmps73
  go_wp2_with fail
  refine KD.out.mono ?_
  rintro e w1 ⟨rfl, E1⟩
  have B := B.trans (E1.mono B.size)
  clear p0 p1 p2 p3 p4 p5 ix
  go_wp2_with fail
  go_ret
  exact ⟨ret_str (by rw [E.out]), (by repeat (first | with_reducible assumption | with_reducible exact Below.refl _ _ | with_reducible refine bel_alloc ?_ _ | with_reducible refine bel_drew ?_ | with_reducible refine bel_drewN ?_ _ | with_reducible refine bel_set ?_ (by dsimp only; omega) _))⟩

set_option maxRecDepth 100000 in
set_option maxHeartbeats 6400000 in
theorem r08Text_4 (arch : Int) (x : Nd) (hk : x.kind = 4) (hn : cntN x ≤ 1024) (ho : ∀ y ∈ x.kids, OkN arch y) (H : ∀ y ∈ x.kids, TextOf arch y) (w : World) (hI : NdIn w x) (g : Gl w) : Calls Tryz.prog 73 #[.int .i64 arch, vN x] w (Ret w (.string (tx (textN arch x)))) := by
  have B := al w (mkN x)
  have b0 := BxL.new w #[.int .i64 x.kind, .int .i64 x.th.thread, .int .i64 x.th.reg, .string (tx x.th.loc), .int .i64 x.val, .slice x.a x.kids.length x.c] 35
  have z1 : (x.kind == 1) = false := by rw [hk]; rfl
  have z2 : (x.kind == 2) = false := by rw [hk]; rfl
  have z3 : (x.kind == 3) = false := by rw [hk]; rfl
  have z4 : (x.kind == 4) = true := by rw [hk]; rfl
  have z5 : (x.kind == 5) = false := by rw [hk]; rfl
  have E := hid (show textN arch x = textL arch true sepA x.kids by rw [textN_eq, if_neg (by omega), if_neg (by omega), if_neg (by omega), if_pos hk])
  have hll := textL_len (arch := arch) (and := true) (sep := sepA) (by simp [sepA]) (l := x.kids) ho
  have hcnt := cntN_eq x
  have HB := hid B
  have HI1 := hid (hI.keep B)
  have HG := hid (g.below B)
  have HH := hid H
  have HO := hid ho
  clear hk hI g H ho B
  go_enter Tryz.func73, Tryz.ntmps73
  go_upto_region 1 with (fail)
  have B := HB.out
  have hI1 := HI1.out
  have g := HG.out
  generalize w.alloc (.cells #[.int .i64 x.kind, .int .i64 x.th.thread, .int .i64 x.th.reg, .string (tx x.th.loc), .int .i64 x.val, .slice x.a x.kids.length x.c] 35) = W at *
  have q0 := b0.get 0 _ rfl; have q5 := b0.get 5 _ rfl
  have hI1 := hid hI1; have g := hid g; have b0 := hid b0
  clear HI1 HG HB
  go_wp2_with fail
  clear q0 q5
  go_loopw [5, 6] (fun s i wr => ∃ (k : Nat) (t : Tx), k ≤ x.kids.length ∧ i = .int .i64 k ∧ s = .string (tx t) ∧ Below W.heap.size W wr ∧ Hid (t = textL arch true sepA (x.kids.take k))) (fun _ i _ => x.kids.length - (intOf i).toNat)
  case atStart => exact ⟨0, [], Nat.zero_le _, rfl, rfl, Below.refl _ _, hid (by rw [List.take_zero, textL_nil])⟩
  case round =>
    obtain ⟨k, t, hk, rfl, rfl, ER, HT⟩ := hrel
    have br := b0.out.below ER
    have q0 := br.get 0 _ rfl; have q5 := br.get 5 _ rfl
    by_cases hlk : k < x.kids.length
    · obtain ⟨y, hy⟩ : ∃ y, x.kids[k]? = some y := ⟨_, List.getElem?_eq_getElem hlk⟩
      have hym := List.mem_of_getElem? hy
      have hIr := hI1.out.keep ER
      obtain ⟨p0, p1, p2, p3, p4, p5⟩ := hIr.els.nd hy
      have ix := hIr.els.idx ndl cN_len k hlk x.c
      have hkl := hIr.els.len
      have htk := textL_take (arch := arch) (and := true) (sep := sepA) hy
      have hlen := textL_len (arch := arch) (and := true) (sep := sepA) (by simp [sepA]) (l := x.kids.take k) (fun z hz => HO.out z (List.mem_of_mem_take hz))
      have hlen2 : cntL (x.kids.take k) ≤ cntL x.kids := by
        have := cntL_app (x.kids.take k) (x.kids.drop k); rw [List.take_append_drop] at this; omega
      rw [← HT.out] at hlen htk
      have htn := textN_len (HO.out y hym)
      have hcy := cntL_mem hym
      have l1 := inB_len (weak true y.kind) (textN arch y)
      have KD := hid (show ∀ w, NdIn w y → Gl w → Calls Tryz.prog 115 #[.int .i64 arch, vN y, .bool true, .bool true] w (Ret w (.string (tx (inB (weak true y.kind) (textN arch y))))) from fun w hI g => r08Kid arch y true (HH.out y hym) (by omega) w hI g)
      obtain ⟨s1, hs1⟩ : ∃ s1, inB (weak true y.kind) (textN arch y) = s1 := ⟨_, rfl⟩
      rw [hs1] at KD l1 htk
      have HIY := hid (hIr.kid y hym)
      have HGR := hid (g.out.below ER)
      clear hs1 hIr hym hy br
      by_cases h0 : k = 0
      · subst h0
        rw [if_pos rfl, List.append_nil] at htk
        obtain ⟨t2, ht2⟩ : ∃ t2 : Tx, t ++ s1 = t2 := ⟨_, rfl⟩
        have c2 : ∀ w, (Op.stringOp .add (tx t) (tx s1)).run Tryz.prog w = .ok (.string (tx t2)) w := fun w => by rw [← ht2]; exact run_cat t s1 (by omega) w
        rw [ht2] at htk
        have HT2 := hid htk.symm
        simp only [Nat.zero_mul, Nat.add_zero, Int.ofNat_zero] at p0 p1 p2 p3 p4 p5 ix
        clear htk ht2 HT hk
        go_wp2_with fail
        have cA := fun (d : Nat) (os : Array Obj) => Calls.regrown_of (retc' (KD.out (grow (redrawn wr d) os) (HIY.out.keep (below_regrown wr d os)) (HGR.out.below (below_regrown wr d os))))
        have q0 := cell_regrown q0; have q5 := cell_regrown q5; have p0 := cell_regrown p0; have p1 := cell_regrown p1; have p2 := cell_regrown p2; have p3 := cell_regrown p3; have p4 := cell_regrown p4; have p5 := cell_regrown p5
        refine wp_region_quiet_below (by kernel_rfl) (by kernel_rfl) ?_
        repeat (go_big_quiet_step (exact cA _ _))
        refine wpQuiet_nil ?_
        intro _ hw'
        obtain ⟨⟨dq, osq⟩, hw''⟩ := hw'
        subst hw''
        have EQ' := below_regrown wr dq osq
        have ER := ER.trans (EQ'.mono ER.size)
        generalize grow (redrawn wr dq) osq = wq at *
        clear q0 q5 p0 p1 p2 p3 p4 p5 cA ix
        go_wp2_with fail
        go_roundw
        case rel => exact ⟨1, t2, by omega, by go_num, rfl, ER, HT2⟩
        case measure => simp [intOf]; omega
      · have h0' : 0 < k := by omega
        have zk : (0 : Int) < k := by omega
        rw [if_neg h0] at htk
        obtain ⟨t1, ht1⟩ : ∃ t1 : Tx, t ++ sepA = t1 := ⟨_, rfl⟩
        have hl1 : t1.length = t.length + 4 := by rw [← ht1]; simp [sepA]
        have c1 : ∀ w, (Op.stringOp .add (tx t) ⟨#[32, 47, 92, 32]⟩).run Tryz.prog w = .ok (.string (tx t1)) w := fun w => by rw [← ht1]; exact run_cat t sepA (by simp [sepA]; omega) w
        obtain ⟨t2, ht2⟩ : ∃ t2 : Tx, t1 ++ s1 = t2 := ⟨_, rfl⟩
        have c2 : ∀ w, (Op.stringOp .add (tx t1) (tx s1)).run Tryz.prog w = .ok (.string (tx t2)) w := fun w => by rw [← ht2]; exact run_cat t1 s1 (by omega) w
        rw [ht1, ht2] at htk
        have HT2 := hid htk.symm
        clear htk ht1 ht2 HT h0
        go_wp2_with fail
        have cA := fun (d : Nat) (os : Array Obj) => Calls.regrown_of (retc' (KD.out (grow (redrawn wr d) os) (HIY.out.keep (below_regrown wr d os)) (HGR.out.below (below_regrown wr d os))))
        have q0 := cell_regrown q0; have q5 := cell_regrown q5; have p0 := cell_regrown p0; have p1 := cell_regrown p1; have p2 := cell_regrown p2; have p3 := cell_regrown p3; have p4 := cell_regrown p4; have p5 := cell_regrown p5
        refine wp_region_quiet_below (by kernel_rfl) (by kernel_rfl) ?_
        repeat (go_big_quiet_step (exact cA _ _))
        refine wpQuiet_nil ?_
        intro _ hw'
        obtain ⟨⟨dq, osq⟩, hw''⟩ := hw'
        subst hw''
        have EQ' := below_regrown wr dq osq
        have ER := ER.trans (EQ'.mono ER.size)
        generalize grow (redrawn wr dq) osq = wq at *
        clear q0 q5 p0 p1 p2 p3 p4 p5 cA ix
        go_wp2_with fail
        go_roundw
        case rel => exact ⟨k + 1, t2, by omega, by go_num, rfl, ER, HT2⟩
        case measure => simp [intOf]; omega
    · obtain rfl : k = x.kids.length := by omega
      have HT2 := hid (show textN arch x = t by rw [E.out, HT.out, List.take_length])
      clear HT
      go_wp2_with fail
      go_ret
      exact ⟨ret_str (by rw [HT2.out]), B.trans (ER.mono B.size)⟩
set_option maxRecDepth 100000 in
set_option maxHeartbeats 6400000 in
theorem r08Text_5 (arch : Int) (x : Nd) (hk : x.kind = 5) (hn : cntN x ≤ 1024) (ho : ∀ y ∈ x.kids, OkN arch y) (H : ∀ y ∈ x.kids, TextOf arch y) (w : World) (hI : NdIn w x) (g : Gl w) : Calls Tryz.prog 73 #[.int .i64 arch, vN x] w (Ret w (.string (tx (textN arch x)))) := by
  have B := al w (mkN x)
  have b0 := BxL.new w #[.int .i64 x.kind, .int .i64 x.th.thread, .int .i64 x.th.reg, .string (tx x.th.loc), .int .i64 x.val, .slice x.a x.kids.length x.c] 35
  have z1 : (x.kind == 1) = false := by rw [hk]; rfl
  have z2 : (x.kind == 2) = false := by rw [hk]; rfl
  have z3 : (x.kind == 3) = false := by rw [hk]; rfl
  have z4 : (x.kind == 4) = false := by rw [hk]; rfl
  have z5 : (x.kind == 5) = true := by rw [hk]; rfl
  have E := hid (show textN arch x = textL arch false sepO x.kids by rw [textN_eq, if_neg (by omega), if_neg (by omega), if_neg (by omega), if_neg (by omega)])
  have hll := textL_len (arch := arch) (and := false) (sep := sepO) (by simp [sepO]) (l := x.kids) ho
  have hcnt := cntN_eq x
  have HB := hid B
  have HI1 := hid (hI.keep B)
  have HG := hid (g.below B)
  have HH := hid H
  have HO := hid ho
  clear hk hI g H ho B
  go_enter Tryz.func73, Tryz.ntmps73
  go_upto_region 1 with (fail)
  have B := HB.out
  have hI1 := HI1.out
  have g := HG.out
  generalize w.alloc (.cells #[.int .i64 x.kind, .int .i64 x.th.thread, .int .i64 x.th.reg, .string (tx x.th.loc), .int .i64 x.val, .slice x.a x.kids.length x.c] 35) = W at *
  have q0 := b0.get 0 _ rfl; have q5 := b0.get 5 _ rfl
  have hI1 := hid hI1; have g := hid g; have b0 := hid b0
  clear HI1 HG HB
  go_wp2_with fail
  clear q0 q5
  go_loopw [5, 6] (fun s i wr => ∃ (k : Nat) (t : Tx), k ≤ x.kids.length ∧ i = .int .i64 k ∧ s = .string (tx t) ∧ Below W.heap.size W wr ∧ Hid (t = textL arch false sepO (x.kids.take k))) (fun _ i _ => x.kids.length - (intOf i).toNat)
  case atStart => exact ⟨0, [], Nat.zero_le _, rfl, rfl, Below.refl _ _, hid (by rw [List.take_zero, textL_nil])⟩
  case round =>
    obtain ⟨k, t, hk, rfl, rfl, ER, HT⟩ := hrel
    have br := b0.out.below ER
    have q0 := br.get 0 _ rfl; have q5 := br.get 5 _ rfl
    by_cases hlk : k < x.kids.length
    · obtain ⟨y, hy⟩ : ∃ y, x.kids[k]? = some y := ⟨_, List.getElem?_eq_getElem hlk⟩
      have hym := List.mem_of_getElem? hy
      have hIr := hI1.out.keep ER
      obtain ⟨p0, p1, p2, p3, p4, p5⟩ := hIr.els.nd hy
      have ix := hIr.els.idx ndl cN_len k hlk x.c
      have hkl := hIr.els.len
      have htk := textL_take (arch := arch) (and := false) (sep := sepO) hy
      have hlen := textL_len (arch := arch) (and := false) (sep := sepO) (by simp [sepO]) (l := x.kids.take k) (fun z hz => HO.out z (List.mem_of_mem_take hz))
      have hlen2 : cntL (x.kids.take k) ≤ cntL x.kids := by
        have := cntL_app (x.kids.take k) (x.kids.drop k); rw [List.take_append_drop] at this; omega
      rw [← HT.out] at hlen htk
      have htn := textN_len (HO.out y hym)
      have hcy := cntL_mem hym
      have l1 := inB_len (weak false y.kind) (textN arch y)
      have KD := hid (show ∀ w, NdIn w y → Gl w → Calls Tryz.prog 115 #[.int .i64 arch, vN y, .bool false, .bool true] w (Ret w (.string (tx (inB (weak false y.kind) (textN arch y))))) from fun w hI g => r08Kid arch y false (HH.out y hym) (by omega) w hI g)
      obtain ⟨s1, hs1⟩ : ∃ s1, inB (weak false y.kind) (textN arch y) = s1 := ⟨_, rfl⟩
      rw [hs1] at KD l1 htk
      have HIY := hid (hIr.kid y hym)
      have HGR := hid (g.out.below ER)
      clear hs1 hIr hym hy br
      by_cases h0 : k = 0
      · subst h0
        rw [if_pos rfl, List.append_nil] at htk
        obtain ⟨t2, ht2⟩ : ∃ t2 : Tx, t ++ s1 = t2 := ⟨_, rfl⟩
        have c2 : ∀ w, (Op.stringOp .add (tx t) (tx s1)).run Tryz.prog w = .ok (.string (tx t2)) w := fun w => by rw [← ht2]; exact run_cat t s1 (by omega) w
        rw [ht2] at htk
        have HT2 := hid htk.symm
        simp only [Nat.zero_mul, Nat.add_zero, Int.ofNat_zero] at p0 p1 p2 p3 p4 p5 ix
        clear htk ht2 HT hk
        go_wp2_with fail
        have cA := fun (d : Nat) (os : Array Obj) => Calls.regrown_of (retc' (KD.out (grow (redrawn wr d) os) (HIY.out.keep (below_regrown wr d os)) (HGR.out.below (below_regrown wr d os))))
        have q0 := cell_regrown q0; have q5 := cell_regrown q5; have p0 := cell_regrown p0; have p1 := cell_regrown p1; have p2 := cell_regrown p2; have p3 := cell_regrown p3; have p4 := cell_regrown p4; have p5 := cell_regrown p5
        refine wp_region_quiet_below (by kernel_rfl) (by kernel_rfl) ?_
        repeat (go_big_quiet_step (exact cA _ _))
        refine wpQuiet_nil ?_
        intro _ hw'
        obtain ⟨⟨dq, osq⟩, hw''⟩ := hw'
        subst hw''
        have EQ' := below_regrown wr dq osq
        have ER := ER.trans (EQ'.mono ER.size)
        generalize grow (redrawn wr dq) osq = wq at *
        clear q0 q5 p0 p1 p2 p3 p4 p5 cA ix
        go_wp2_with fail
        go_roundw
        case rel => exact ⟨1, t2, by omega, by go_num, rfl, ER, HT2⟩
        case measure => simp [intOf]; omega
      · have h0' : 0 < k := by omega
        have zk : (0 : Int) < k := by omega
        rw [if_neg h0] at htk
        obtain ⟨t1, ht1⟩ : ∃ t1 : Tx, t ++ sepO = t1 := ⟨_, rfl⟩
        have hl1 : t1.length = t.length + 4 := by rw [← ht1]; simp [sepO]
        have c1 : ∀ w, (Op.stringOp .add (tx t) ⟨#[32, 92, 47, 32]⟩).run Tryz.prog w = .ok (.string (tx t1)) w := fun w => by rw [← ht1]; exact run_cat t sepO (by simp [sepO]; omega) w
        obtain ⟨t2, ht2⟩ : ∃ t2 : Tx, t1 ++ s1 = t2 := ⟨_, rfl⟩
        have c2 : ∀ w, (Op.stringOp .add (tx t1) (tx s1)).run Tryz.prog w = .ok (.string (tx t2)) w := fun w => by rw [← ht2]; exact run_cat t1 s1 (by omega) w
        rw [ht1, ht2] at htk
        have HT2 := hid htk.symm
        clear htk ht1 ht2 HT h0
        go_wp2_with fail
        have cA := fun (d : Nat) (os : Array Obj) => Calls.regrown_of (retc' (KD.out (grow (redrawn wr d) os) (HIY.out.keep (below_regrown wr d os)) (HGR.out.below (below_regrown wr d os))))
        have q0 := cell_regrown q0; have q5 := cell_regrown q5; have p0 := cell_regrown p0; have p1 := cell_regrown p1; have p2 := cell_regrown p2; have p3 := cell_regrown p3; have p4 := cell_regrown p4; have p5 := cell_regrown p5
        refine wp_region_quiet_below (by kernel_rfl) (by kernel_rfl) ?_
        repeat (go_big_quiet_step (exact cA _ _))
        refine wpQuiet_nil ?_
        intro _ hw'
        obtain ⟨⟨dq, osq⟩, hw''⟩ := hw'
        subst hw''
        have EQ' := below_regrown wr dq osq
        have ER := ER.trans (EQ'.mono ER.size)
        generalize grow (redrawn wr dq) osq = wq at *
        clear q0 q5 p0 p1 p2 p3 p4 p5 cA ix
        go_wp2_with fail
        go_roundw
        case rel => exact ⟨k + 1, t2, by omega, by go_num, rfl, ER, HT2⟩
        case measure => simp [intOf]; omega
    · obtain rfl : k = x.kids.length := by omega
      have HT2 := hid (show textN arch x = t by rw [E.out, HT.out, List.take_length])
      clear HT
      go_wp2_with fail
      go_ret
      exact ⟨ret_str (by rw [HT2.out]), B.trans (ER.mono B.size)⟩
theorem r08Text (arch : Int) : ∀ (x : Nd), OkN arch x → cntN x ≤ 1024 → TextOf arch x := by
  intro x
  induction x using Nd.ind with
  | h x ih =>
    intro ho hn w hI g
    have hc := cntN_eq x
    have hkid : ∀ y ∈ x.kids, TextOf arch y := fun y hy => ih y hy (ho.kid y hy) (by have := cntL_mem hy; omega)
    rcases mayN_kind ho.may with ⟨h1, h2⟩ | ⟨h1, h2, h3, h4⟩ | ⟨h1, h2⟩ | ⟨h1, h2⟩ | ⟨h1, h2⟩
    · exact r08Text_1 arch x h1 w
    · exact r08Text_2 arch x h1 h2 h3 w g
    · obtain ⟨y, hy⟩ : ∃ y, x.kids = [y] := List.length_eq_one_iff.1 h2
      have hym : y ∈ x.kids := by rw [hy]; simp
      have := textN_len (ho.kid y hym)
      have := cntL_mem hym
      exact r08Text_3 arch x y h1 hy (by omega) (hkid y hym) w hI g
    · exact r08Text_4 arch x h1 hn ho.kid hkid w hI g
    · exact r08Text_5 arch x h1 hn ho.kid hkid w hI g
end Go.Proofs.YthaibjefnclkjaaGreatDoor
namespace Go.Proofs.YthaibjefnclkjaaGreatDoor
open Go.RowKit Go.Sort
set_option linter.unusedVariables false

set_option maxRecDepth 100000 in
set_option maxHeartbeats 3200000 in
theorem r08Print_yes (arch q : Int) (x : Nd) (w : World) (hI : NdIn w x) (he : condE arch q x = 0) (g : Gl w) :
    Calls Tryz.prog 37 #[.int .i64 arch, vC q x] w (Ret w (.tuple #[.string (tx (textC arch q x)), .int .i64 0])) := by
  obtain ⟨-, hq1, hq2, ho, hn⟩ := cond_ok he
  have B := al w (mkC q x)
  have b0 : BxL (w.alloc (mkC q x)) w.heap.size (cC q x) := BxL.new w _ _
  have CH := r08Check arch q x (w.alloc (mkC q x)) (hI.keep B)
  rw [he] at CH
  have hl := textN_len ho
  have TX := hid (show ∀ w, NdIn w x → Gl w → Calls Tryz.prog 73 #[.int .i64 arch, vN x] w (Ret w (.string (tx (textN arch x)))) from r08Text arch x ho hn)
  have HI := hid (hI.keep B); have HG := hid (g.below B)
  obtain ⟨s, hs⟩ : ∃ s, textN arch x = s := ⟨_, rfl⟩
  rw [hs] at TX hl
  obtain ⟨t1, ht1⟩ : ∃ t1 : Tx, headC q ++ s = t1 := ⟨_, rfl⟩
  have hh : (headC q).length ≤ 9 := by unfold headC; split <;> (try split) <;> simp
  have n1 : t1.length ≤ 110000 := by rw [← ht1]; simp; omega
  obtain ⟨t2, ht2⟩ : ∃ t2 : Tx, t1 ++ [41] = t2 := ⟨_, rfl⟩
  have c1 : ∀ w, (Op.stringOp .add (tx (headC q)) (tx s)).run Tryz.prog w = .ok (.string (tx t1)) w := fun w => by rw [← ht1]; exact run_cat (headC q) s (by omega) w
  have c2 : ∀ w, (Op.stringOp .add (tx t1) ⟨#[41]⟩).run Tryz.prog w = .ok (.string (tx t2)) w := fun w => by rw [← ht2]; exact run_cat t1 [41] (by simp; omega) w
  have E := hid (show textC arch q x = t2 by unfold textC; rw [hs, ht1, ht2])
  have CH := hid CH
  clear hs ht1 ht2 hI g he ho hn hl hh n1
  have hq : q = 1 ∨ q = 2 ∨ q = 3 := by omega
  rcases hq with rfl | rfl | rfl
  all_goals
    first
    | (have c1' : ∀ w, (Op.stringOp .add ⟨#[101, 120, 105, 115, 116, 115, 32, 40]⟩ (tx s)).run Tryz.prog w = .ok (.string (tx t1)) w := c1)
    | (have c1' : ∀ w, (Op.stringOp .add ⟨#[126, 101, 120, 105, 115, 116, 115, 32, 40]⟩ (tx s)).run Tryz.prog w = .ok (.string (tx t1)) w := c1)
    | (have c1' : ∀ w, (Op.stringOp .add ⟨#[102, 111, 114, 97, 108, 108, 32, 40]⟩ (tx s)).run Tryz.prog w = .ok (.string (tx t1)) w := c1)
    clear c1
    go_enter Tryz.func37, Tryz.ntmps37
    go_wp2_with fail
    refine CH.out.mono ?_
    rintro e1 w1 ⟨rfl, E1⟩
    obtain ⟨q0, q1, q2, q3, q4, q5, q6⟩ := (b0.below E1).cC
    have hI := HI.out.keep E1; have g := HG.out.below E1
    have B := B.trans (E1.mono B.size)
    go_wp2_with fail
    refine (TX.out _ hI g).mono ?_
    rintro e2 w2 ⟨rfl, E2⟩
    have B := B.trans (E2.mono B.size)
    clear q0 q1 q2 q3 q4 q5 q6 hI g
    go_wp2_with fail
    go_ret2
    exact ⟨ret_spair (by rw [E.out]) rfl, B⟩
end Go.Proofs.YthaibjefnclkjaaGreatDoor

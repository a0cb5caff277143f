/- Things and nodes of conditions as values, and in memory. Lemmas of this claim's own; no condition. The walks of Links' closure, of IndexFunc and ContainsFunc over it (the program's). Conditions: the instructions lie in memory as read. Where branches lead: plain functions of lists of instructions. No condition. Conditions as plain functions: what may be, how many nodes there are. No program, no condition. A condition's text as a plain function; what may be has a short text. No program, no condition. -/
import Derived.Test.YthaibjefnclkjaaGreatDoorZ3
import Derived.Test.YthaibjefnclkjaaGreatDoorZ2
import Derived.Maps.OwnSet
import Derived.Maps.Views
namespace Go.Proofs.YthaibjefnclkjaaGreatDoor
open Go.RowKit
set_option linter.unusedVariables false

structure Th where
  thread : Int
  reg : Int
  loc : Tx
  deriving DecidableEq, Inhabited
@[reducible] def cTh (t : Th) : List Value := [.int .i64 t.thread, .int .i64 t.reg, .string (tx t.loc)]
@[reducible] def vTh (t : Th) : Value := .agg #[.int .i64 t.thread, .int .i64 t.reg, .string (tx t.loc)]
theorem th_ext (x y : Th) : (x = y) ↔ (x.thread = y.thread ∧ x.reg = y.reg ∧ x.loc = y.loc) := by
  cases x; cases y; simp
theorem eqTh (x y : Th) (w : World) : (binOp .eql 32 (vTh x) (vTh y)).run Tryz.prog w = .ok (.bool (decide (x = y))) w := by
  have hS : Tryz.prog.underlying 32 = some (.struct (Tryz.prog.fieldsOf 32)) := by kernel_rfl
  have hp : Tryz.prog.stoodInHeld 32 = false := by kernel_rfl
  have a3 := Tryz.isAgg3; have z3 := Tryz.sizeOf3; have u3 := Tryz.underlying3
  have a4 := Tryz.isAgg9; have z4 := Tryz.sizeOf9; have u4 := Tryz.underlying9
  rw [run_eql_struct, show (10000 : Nat) = 9999 + 1 from rfl, run_equalIn_agg w 9999 32 _ _ hS hp]
  simp only [Program.fieldsOf, Tryz.underlying32]
  go_simp
  rw [show decide (x = y) = decide (x.thread = y.thread ∧ x.reg = y.reg ∧ x.loc = y.loc) from decide_eq_decide.2 (th_ext x y)]
  simp only [tx_toList]
  by_cases h1 : x.thread = y.thread <;> by_cases h2 : x.reg = y.reg <;> by_cases h6 : x.loc = y.loc <;> simp [h1, h2, h6]
theorem neqTh (x y : Th) (w : World) : (binOp .neq 32 (vTh x) (vTh y)).run Tryz.prog w = .ok (.bool (!decide (x = y))) w := by
  have h := eqTh x y w
  rw [run_eql_struct] at h
  rw [run_neq_struct]
  generalize (Op.equalIn 10000 32 (.agg #[.int .i64 x.thread, .int .i64 x.reg, .string (tx x.loc)]) (.agg #[.int .i64 y.thread, .int .i64 y.reg, .string (tx y.loc)])).run Tryz.prog w = r at *
  cases r with
  | ok b w' => simp [Result.andThen] at h ⊢; obtain ⟨rfl, rfl⟩ := h; exact ⟨rfl, rfl⟩
  | halt x w' => simp [Result.andThen] at h
theorem cTh_len (x : Th) : (cTh x).length = 3 := rfl
theorem cTh_one (x : Th) : ∀ u ∈ cTh x, u.oneCell' = true := by
  intro u hu; simp only [cTh, List.mem_cons, List.not_mem_nil, or_false] at hu
  rcases hu with rfl | rfl | rfl <;> rfl
theorem thl : ElT Tryz.prog 78 32 (.agg #[.int .i64 0, .int .i64 0, .string ByteArray.empty]) 3 32 := ⟨Tryz.underlying78, by kernel_rfl, rfl, by decide⟩

/-- a node, with the place where its kids lie -/
inductive Nd where
  | mk (kind : Int) (th : Th) (val : Int) (a : Option Addr) (c : Nat) (kids : List Nd) : Nd
def Nd.kind : Nd → Int | .mk k _ _ _ _ _ => k
def Nd.th : Nd → Th | .mk _ t _ _ _ _ => t
def Nd.val : Nd → Int | .mk _ _ v _ _ _ => v
def Nd.a : Nd → Option Addr | .mk _ _ _ a _ _ => a
def Nd.c : Nd → Nat | .mk _ _ _ _ c _ => c
def Nd.kids : Nd → List Nd | .mk _ _ _ _ _ l => l
@[reducible] def cN (x : Nd) : List Value := [.int .i64 x.kind, .int .i64 x.th.thread, .int .i64 x.th.reg, .string (tx x.th.loc), .int .i64 x.val, .slice x.a x.kids.length x.c]
@[reducible] def vN (x : Nd) : Value := .agg #[.int .i64 x.kind, .int .i64 x.th.thread, .int .i64 x.th.reg, .string (tx x.th.loc), .int .i64 x.val, .slice x.a x.kids.length x.c]
theorem cN_len (x : Nd) : (cN x).length = 6 := rfl
theorem ndl : ElT Tryz.prog 33 35 (.agg #[.int .i64 0, .int .i64 0, .int .i64 0, .string ByteArray.empty, .int .i64 0, .slice none 0 0]) 6 72 := ⟨Tryz.underlying33, by kernel_rfl, rfl, by decide⟩
theorem Nd.ind {P : Nd → Prop} (h : ∀ x : Nd, (∀ k ∈ x.kids, P k) → P x) : ∀ x, P x
  | .mk k t v a c l => h _ fun y hy => Nd.ind h y
  termination_by x => SizeOf.sizeOf x
  decreasing_by
    have := List.sizeOf_lt_of_mem (show y ∈ l from hy)
    simp; omega

/-- a node lies in memory, with all below it -/
inductive NdIn (w : World) : Nd → Prop where
  | mk (x : Nd) (hl : x.th.loc.length ≤ 9223372036854775807) (hr : Els cN w x.a x.kids) (hc : x.kids.length ≤ x.c) (h : ∀ k ∈ x.kids, NdIn w k) : NdIn w x
theorem NdIn.loc {w : World} {x : Nd} (h : NdIn w x) : x.th.loc.length ≤ 9223372036854775807 := by cases h; assumption
theorem NdIn.els {w : World} {x : Nd} (h : NdIn w x) : Els cN w x.a x.kids := by cases h; assumption
theorem NdIn.cap {w : World} {x : Nd} (h : NdIn w x) : x.kids.length ≤ x.c := by cases h; assumption
theorem NdIn.kid {w : World} {x : Nd} (h : NdIn w x) : ∀ k ∈ x.kids, NdIn w k := by cases h; assumption
theorem NdIn.keep {w w' : World} (hb : Below w.heap.size w w') : ∀ {x : Nd}, NdIn w x → NdIn w' x := by
  intro x
  induction x using Nd.ind with
  | h x ih => intro h; exact ⟨x, h.loc, h.els.below hb, h.cap, fun k hk => ih k hk (h.kid k hk)⟩

/-- a node that lies in a block by itself, its own cells alone -/
def BxN (w : World) (b : Nat) (x : Nd) : Prop := b < w.heap.size ∧ ∀ k, k < 6 → w.cell? ⟨b, k, none⟩ = (cN x)[k]?
abbrev mkN (x : Nd) : Obj := .cells #[.int .i64 x.kind, .int .i64 x.th.thread, .int .i64 x.th.reg, .string (tx x.th.loc), .int .i64 x.val, .slice x.a x.kids.length x.c] 35
theorem BxN.below {w w' : World} {b : Nat} {x : Nd} (h : BxN w b x) (hb : Below w.heap.size w w') : BxN w' b x :=
  ⟨Nat.lt_of_lt_of_le h.1 hb.size, fun k hk => by rw [hb.cell (p := ⟨b, k, none⟩) h.1]; exact h.2 k hk⟩
theorem BxN.new (w : World) (x : Nd) : BxN (w.alloc (mkN x)) w.heap.size x :=
  ⟨by simp, fun k hk => by
    have hh := heap_alloc_new w (mkN x)
    simp only [World.cell?, hh]
    simp [cN]⟩
theorem BxN.cells {w : World} {b : Nat} {x : Nd} (h : BxN w b x) : w.cell? ⟨b, 0, none⟩ = some (.int .i64 x.kind) ∧ w.cell? ⟨b, 1, none⟩ = some (.int .i64 x.th.thread) ∧ w.cell? ⟨b, 2, none⟩ = some (.int .i64 x.th.reg) ∧ w.cell? ⟨b, 3, none⟩ = some (.string (tx x.th.loc)) ∧ w.cell? ⟨b, 4, none⟩ = some (.int .i64 x.val) ∧ w.cell? ⟨b, 5, none⟩ = some (.slice x.a x.kids.length x.c) :=
  ⟨h.2 0 (by omega), h.2 1 (by omega), h.2 2 (by omega), h.2 3 (by omega), h.2 4 (by omega), h.2 5 (by omega)⟩
theorem Els.nd {w : World} {a : Option Addr} {l : List Nd} (h : Els cN w a l) {k : Nat} {x : Nd} (hk : l[k]? = some x) :
    w.cell? ⟨bk a, fo a + k * 6, none⟩ = some (.int .i64 x.kind) ∧ w.cell? ⟨bk a, fo a + k * 6 + 1, none⟩ = some (.int .i64 x.th.thread) ∧ w.cell? ⟨bk a, fo a + k * 6 + 2, none⟩ = some (.int .i64 x.th.reg) ∧ w.cell? ⟨bk a, fo a + k * 6 + 3, none⟩ = some (.string (tx x.th.loc)) ∧ w.cell? ⟨bk a, fo a + k * 6 + 4, none⟩ = some (.int .i64 x.val) ∧ w.cell? ⟨bk a, fo a + k * 6 + 5, none⟩ = some (.slice x.a x.kids.length x.c) :=
  ⟨h.cell0 cN_len hk (by omega), h.cell cN_len hk 1 (by omega), h.cell cN_len hk 2 (by omega), h.cell cN_len hk 3 (by omega), h.cell cN_len hk 4 (by omega), h.cell cN_len hk 5 (by omega)⟩
theorem Els.th {w : World} {a : Option Addr} {l : List Th} (h : Els cTh w a l) {k : Nat} {x : Th} (hk : l[k]? = some x) :
    w.cell? ⟨bk a, fo a + k * 3, none⟩ = some (.int .i64 x.thread) ∧ w.cell? ⟨bk a, fo a + k * 3 + 1, none⟩ = some (.int .i64 x.reg) ∧ w.cell? ⟨bk a, fo a + k * 3 + 2, none⟩ = some (.string (tx x.loc)) :=
  ⟨h.cell0 cTh_len hk (by omega), h.cell cTh_len hk 1 (by omega), h.cell cTh_len hk 2 (by omega)⟩
end Go.Proofs.YthaibjefnclkjaaGreatDoor
namespace Go.Proofs.YthaibjefnclkjaaGreatDoor
open Go.RowKit
set_option linter.unusedVariables false

attribute [local go_sem high] eqI neqI

/-- a label of this name -/
def isLab (nm : Tx) (j : Ins) : Bool := decide (j.op = 12) && decide (j.label = nm)
set_option maxRecDepth 100000 in
set_option maxHeartbeats 1600000 in
theorem clos1 (i j : Ins) (b : Nat) (w : World) (hb : BxI w b i) : Calls Tryz.prog 124 #[vI j, .pointer (some ⟨b, 0, none⟩)] w (Ret w (.bool (isLab i.label j))) := by
  obtain ⟨c0, c1, c2, c3, c4, c5, c6, c7⟩ := hb.cells
  have hlt := hb.1
  have B := al w (mkI j)
  by_cases h : j.op = 12
  · have z : (j.op == 12) = true := by simpa using h
    have e : isLab i.label j = (j.label == i.label) := by unfold isLab; rw [Bool.eq_iff_iff]; simp [h]
    have z2 : ((tx j.label).toList == (tx i.label).toList) = (j.label == i.label) := tx_beq _ _
    have HE := hid e
    generalize (j.label == i.label) = bb at *
    clear h e
    go_enter Tryz.func124, Tryz.ntmps124
    go_wp2_with fail
    go_ret
    exact ⟨ret_bool HE.out.symm, (by repeat (first | with_reducible assumption | with_reducible exact Below.refl _ _ | with_reducible refine bel_alloc ?_ _ | with_reducible refine bel_drew ?_ | with_reducible refine bel_set ?_ (by dsimp only; omega) _))⟩
  · have z : (j.op == 12) = false := by simpa using h
    have HE := hid (show isLab i.label j = false by unfold isLab; rw [decide_eq_false h]; rfl)
    clear h
    go_enter Tryz.func124, Tryz.ntmps124
    go_wp2_with fail
    go_ret
    exact ⟨ret_bool HE.out.symm, (by repeat (first | with_reducible assumption | with_reducible exact Below.refl _ _ | with_reducible refine bel_alloc ?_ _ | with_reducible refine bel_drew ?_ | with_reducible refine bel_set ?_ (by dsimp only; omega) _))⟩
/-- the first that is a label of this name, if any -/
def idxN (o : Option Nat) : Int := match o with
  | some n => n
  | none => -1
theorem findIdx_none {p : Ins → Bool} {l : List Ins} (h : ∀ j (hj : j < l.length), p l[j] = false) : l.findIdx? p = none := by
  rw [List.findIdx?_eq_none_iff]
  intro x hx
  obtain ⟨i, hi, rfl⟩ := List.mem_iff_getElem.1 hx
  exact h i hi
theorem findIdx_some {p : Ins → Bool} {l : List Ins} {k : Nat} (hk : k < l.length) (h1 : p l[k] = true) (h2 : ∀ j (hj : j < l.length), j < k → p l[j] = false) : l.findIdx? p = some k := by
  rw [List.findIdx?_eq_some_iff_getElem]
  exact ⟨hk, h1, fun j hj => by rw [h2 j (by omega) hj]; simp⟩
set_option maxRecDepth 100000 in
set_option maxHeartbeats 1600000 in
theorem progIndexFunc (i : Ins) (b : Nat) (l : List Ins) (a : Option Addr) (c : Nat) (w : World) (h : Is w a l) (hb : BxI w b i) :
    Calls Tryz.prog 161 #[.slice a l.length c, .func (.func 124) #[] #[.pointer (some ⟨b, 0, none⟩)]] w (Ret w (.int .i64 (idxN (l.findIdx? (isLab i.label))))) := by
  have hl := h.len
  have B := Below.refl w.heap.size w
  go_enter Tryz.func161, Tryz.ntmps161
  go_wp2_with fail
  go_loopw [8] (fun i' wr => ∃ k : Nat, k ≤ l.length ∧ i' = .int .i64 k ∧ Hid (∀ j (hj : j < l.length), j < k → isLab i.label l[j] = false) ∧ Is wr a l ∧ BxI wr b i ∧ Below w.heap.size w wr) (fun i' _ => l.length - (intOf i').toNat)
  case atStart => exact ⟨0, by omega, rfl, hid (fun j hj h' => absurd h' (Nat.not_lt_zero j)), h, hb, B⟩
  case round =>
    clear h hb B
    obtain ⟨k, hk, rfl, HK, h, hb, B⟩ := hrel
    by_cases hlt : k < l.length
    · obtain ⟨f, hf⟩ : ∃ f, l[k]? = some f := ⟨_, List.getElem?_eq_getElem hlt⟩
      have hfk : l[k] = f := Option.some.inj ((List.getElem?_eq_getElem hlt).symm.trans hf)
      obtain ⟨p0, p1, p2, p3, p4, p5, p6, p7⟩ := h.cells hf
      have ix := h.idx k hlt
      have HF := hid hfk
      clear hf hfk
      cases hm : isLab i.label f
      all_goals
        have HM := hid hm
        clear hm
        go_wp2_with fail
        refine (clos1 i f b _ hb).mono ?_
        rintro e' w7 ⟨rfl, E7⟩
        rw [HM.out]
        have h := h.below E7; have hb := hb.below E7; have B := B.trans (E7.mono B.size)
        clear p0 p1 p2 p3 p4 p5 p6 p7 ix
        go_wp2_with fail
      · go_roundw
        case rel => exact ⟨k + 1, by omega, by go_num, hid (fun j hj hjk => by
          by_cases hh : j = k
          · subst hh; rw [HF.out]; exact HM.out
          · exact HK.out j hj (by omega)), h, hb, B⟩
        case measure => simp [intOf]; omega
      · have HR := hid (findIdx_some hlt (by rw [HF.out]; exact HM.out) HK.out)
        go_ret
        exact ⟨ret_int (by rw [HR.out]; rfl), B⟩
    · have HR := hid (findIdx_none (fun j hj => HK.out j hj (by omega)))
      go_wp2_with fail
      go_ret
      exact ⟨ret_int (by rw [HR.out]; rfl), B⟩
theorem progContains (i : Ins) (b : Nat) (l : List Ins) (a : Option Addr) (c : Nat) (w : World) (h : Is w a l) (hb : BxI w b i) :
    Calls Tryz.prog 123 #[.slice a l.length c, .func (.func 124) #[] #[.pointer (some ⟨b, 0, none⟩)]] w (Ret w (.bool (l.findIdx? (isLab i.label)).isSome)) := by
  have C := hid (progIndexFunc i b l a c w h hb)
  generalize l.findIdx? (isLab i.label) = r at *
  generalize l.length = n at *
  clear h hb
  cases r with
  | none =>
    go_enter Tryz.func123, Tryz.ntmps123
    go_wp2_with fail
    refine C.out.mono ?_
    rintro e w1 ⟨rfl, E⟩
    have z : idxN none = -1 := rfl
    go_wp2_with fail
    go_ret
    exact ⟨rfl, E⟩
  | some k =>
    have z : idxN (some k) = (k : Int) := rfl
    have hk : (0 : Int) ≤ (k : Int) := by omega
    rw [z] at C
    clear z
    go_enter Tryz.func123, Tryz.ntmps123
    go_wp2_with fail
    refine C.out.mono ?_
    rintro e w1 ⟨rfl, E⟩
    go_wp2_with fail
    go_ret
    exact ⟨ret_bool (by simp), E⟩
end Go.Proofs.YthaibjefnclkjaaGreatDoor
namespace Go.Proofs.YthaibjefnclkjaaGreatDoor
open Go.Maps
set_option linter.unusedVariables false

/-- what an instruction leads to, by the program: none: an error -/
def stepP (code : List Ins) (k : Nat) : Option Int := match code[k]? with
  | none => some (-1)
  | some i =>
    if i.op = 12 then (if code.findIdx? (isLab i.label) = some k then some (-1) else none)
    else if i.op = 11 then (match code.findIdx? (isLab i.label) with
      | none => none
      | some at' => if ((code.drop (k + 1)).findIdx? (isLab i.label)).isSome then some (at' : Int) else none)
    else some (-1)
/-- .., by the document's answer -/
def stepR (code : List Ins) (k : Nat) : Option Int := match code[k]? with
  | none => some (-1)
  | some i =>
    if i.op = 12 then (if (code.take k).any (isLab i.label) then none else some (-1))
    else if i.op = 11 then ((code.drop (k + 1)).findIdx? (isLab i.label)).map fun j => ((k + 1 + j : Nat) : Int)
    else some (-1)
def outsP (code : List Ins) (k : Nat) : List Int := (List.range k).map fun j => (stepP code j).getD (-1)
def outsR (code : List Ins) (k : Nat) : List Int := (List.range k).map fun j => (stepR code j).getD (-1)
def linksV (code : List Ins) : List Int × Int × Int :=
  if 256 < code.length then ([], 2, 0)
  else match code.findIdx? fun i => !checkI i with
    | some k => ([], 91, k)
    | none => match (List.range code.length).find? fun k => (stepR code k).isNone with
      | some k => ([], 93, k)
      | none => (outsR code code.length, 0, 0)
theorem isLab_iff {nm : Tx} {j : Ins} : isLab nm j = true ↔ j.op = 12 ∧ j.label = nm := by unfold isLab; simp
theorem step_none (code : List Ins) (k : Nat) : stepP code k = none ↔ stepR code k = none := by
  unfold stepP stepR
  cases hk : code[k]? with
  | none => simp
  | some i =>
    obtain ⟨hlt, he⟩ := List.getElem?_eq_some_iff.1 hk
    simp only
    by_cases h12 : i.op = 12
    · rw [if_pos h12, if_pos h12]
      have hself : isLab i.label code[k] = true := by rw [he, isLab_iff]; exact ⟨h12, rfl⟩
      by_cases hany : (code.take k).any (isLab i.label) = true
      · rw [if_pos hany]
        have : ¬ code.findIdx? (isLab i.label) = some k := by
          intro hf
          rw [List.findIdx?_eq_some_iff_getElem] at hf
          obtain ⟨_, _, h3⟩ := hf
          rw [List.any_eq_true] at hany
          obtain ⟨x, hx, hp⟩ := hany
          obtain ⟨j, hj, rfl⟩ := List.mem_iff_getElem.1 hx
          simp at hj
          rw [List.getElem_take] at hp
          exact absurd hp (h3 j (by omega))
        rw [if_neg this]
      · rw [if_neg hany]
        have : code.findIdx? (isLab i.label) = some k := by
          refine findIdx_some hlt hself (fun j hj hjk => ?_)
          cases hb : isLab i.label code[j] with
          | false => rfl
          | true =>
            refine absurd (List.any_eq_true.2 ⟨code[j], ?_, hb⟩) hany
            rw [List.mem_take_iff_getElem]
            exact ⟨j, by omega, rfl⟩
        rw [if_pos this]
    · rw [if_neg h12, if_neg h12]
      by_cases h11 : i.op = 11
      · rw [if_pos h11, if_pos h11]
        cases hl : (code.drop (k + 1)).findIdx? (isLab i.label) with
        | none =>
          cases code.findIdx? (isLab i.label) <;> simp
        | some j =>
          rw [List.findIdx?_eq_some_iff_getElem] at hl
          obtain ⟨hj, hp, -⟩ := hl
          cases hf : code.findIdx? (isLab i.label) with
          | none =>
            rw [List.findIdx?_eq_none_iff] at hf
            rw [List.getElem_drop] at hp
            rw [hf _ (List.getElem_mem _)] at hp
            cases hp
          | some at' => simp
      · rw [if_neg h11, if_neg h11]
/-- no error: both lead to the same -/
theorem step_same (code : List Ins) (h : ∀ k, k < code.length → stepP code k ≠ none) (k : Nat) : stepP code k = stepR code k := by
  unfold stepP stepR
  cases hk : code[k]? with
  | none => rfl
  | some i =>
    obtain ⟨hlt, he⟩ := List.getElem?_eq_some_iff.1 hk
    have hn := h k hlt
    have hn2 : stepR code k ≠ none := fun e => hn ((step_none code k).2 e)
    unfold stepP at hn
    unfold stepR at hn2
    rw [hk] at hn hn2
    simp only at hn hn2 ⊢
    by_cases h12 : i.op = 12
    · rw [if_pos h12] at hn hn2 ⊢
      rw [if_pos h12]
      split at hn
      · split at hn2
        · exact absurd rfl hn2
        · rename_i a b; rw [if_pos a, if_neg b]
      · exact absurd rfl hn
    · rw [if_neg h12] at hn hn2 ⊢
      rw [if_neg h12]
      by_cases h11 : i.op = 11
      · rw [if_pos h11] at hn hn2 ⊢
        rw [if_pos h11]
        cases hl : (code.drop (k + 1)).findIdx? (isLab i.label) with
        | none => rw [hl] at hn2; simp at hn2
        | some j =>
          rw [List.findIdx?_eq_some_iff_getElem] at hl
          obtain ⟨hj, hp, -⟩ := hl
          simp at hj
          rw [List.getElem_drop, isLab_iff] at hp
          have hL := h (k + 1 + j) (by omega)
          unfold stepP at hL
          rw [List.getElem?_eq_getElem (by omega)] at hL
          simp only at hL
          rw [if_pos hp.1, hp.2] at hL
          split at hL
          · rename_i hf
            rw [hf]; simp
          · exact absurd rfl hL
      · rw [if_neg h11, if_neg h11]
theorem outs_same (code : List Ins) (h : ∀ k, k < code.length → stepP code k ≠ none) (n : Nat) : outsP code n = outsR code n := by
  unfold outsP outsR
  exact List.map_congr_left fun k _ => by rw [step_same code h k]
theorem outsP_length (code : List Ins) (k : Nat) : (outsP code k).length = k := by simp [outsP]
theorem outsP_succ (code : List Ins) (k : Nat) : outsP code (k + 1) = outsP code k ++ [(stepP code k).getD (-1)] := by simp [outsP, List.range_succ]
theorem linksV_full {code : List Ins} (h : 256 < code.length) : linksV code = ([], 2, 0) := by unfold linksV; rw [if_pos h]
theorem linksV_bad {code : List Ins} (h : code.length ≤ 256) {k : Nat} (hk : k < code.length) (h1 : checkI code[k] = false) (h2 : ∀ j (hj : j < code.length), j < k → checkI code[j] = true) : linksV code = ([], 91, (k : Int)) := by
  unfold linksV
  rw [if_neg (by omega), findIdx_some hk (by rw [h1]; rfl) (fun j hj hjk => by rw [h2 j hj hjk]; rfl)]
theorem find_range {n k : Nat} {p : Nat → Bool} (hk : k < n) (h1 : p k = true) (h2 : ∀ j, j < k → p j = false) : (List.range n).find? p = some k := by
  rw [List.find?_range_eq_some]
  exact ⟨h1, by simpa using hk, fun j hj => by rw [h2 j hj]; rfl⟩
theorem linksV_label {code : List Ins} (h : code.length ≤ 256) (hc : ∀ j (hj : j < code.length), checkI code[j] = true) {k : Nat} (hk : k < code.length) (h1 : stepP code k = none) (h2 : ∀ j, j < k → stepP code j ≠ none) : linksV code = ([], 93, (k : Int)) := by
  unfold linksV
  rw [if_neg (by omega), findIdx_none (fun j hj => by rw [hc j hj]; rfl)]
  simp only
  rw [find_range hk (by rw [(step_none code k).1 h1]; rfl) (fun j hj => by
    cases hs : stepR code j with
    | none => exact absurd ((step_none code j).2 hs) (h2 j hj)
    | some v => rfl)]
theorem linksV_ok {code : List Ins} (h : code.length ≤ 256) (hc : ∀ j (hj : j < code.length), checkI code[j] = true) (h2 : ∀ j, j < code.length → stepP code j ≠ none) : linksV code = (outsP code code.length, 0, 0) := by
  unfold linksV
  rw [if_neg (by omega), findIdx_none (fun j hj => by rw [hc j hj]; rfl)]
  simp only
  have : (List.range code.length).find? (fun k => (stepR code k).isNone) = none := by
    rw [List.find?_eq_none]
    intro j hj
    simp at hj
    cases hs : stepR code j with
    | none => exact absurd ((step_none code j).2 hs) (h2 j hj)
    | some v => simp
  rw [this, outs_same code h2]
/-- what the map of labels holds: the first of each name, from place m on -/
def LabD (code : List Ins) (m : Nat) (D : DataW Unit) : Prop :=
  ∀ nm : Tx, (∀ j, (code.drop m).findIdx? (isLab nm) = some j → Maps.has D (.string nm) = true ∧ D.atKey (.string nm) (.lit (.int .i64 0)) = .lit (.int .i64 ((m + j : Nat) : Int))) ∧ ((code.drop m).findIdx? (isLab nm) = none → Maps.has D (.string nm) = false)
theorem LabD.nil (code : List Ins) (m : Nat) (h : code.length ≤ m) : LabD code m (.map []) := by
  intro nm
  rw [List.drop_eq_nil_of_le h]
  exact ⟨fun j hj => by simp at hj, fun _ => rfl⟩
theorem findIdx_cons (p : Ins → Bool) (x : Ins) (l : List Ins) : (x :: l).findIdx? p = if p x then some 0 else (l.findIdx? p).map (· + 1) := by
  rw [List.findIdx?_cons]
theorem LabD.skip {code : List Ins} {m : Nat} {D : DataW Unit} {i : Ins} (h : LabD code (m + 1) D) (hi : code[m]? = some i) (hop : i.op ≠ 12) : LabD code m D := by
  intro nm
  obtain ⟨hlt, he⟩ := List.getElem?_eq_some_iff.1 hi
  rw [List.drop_eq_getElem_cons hlt, he, findIdx_cons, if_neg (by rw [isLab_iff]; exact fun h => hop h.1)]
  obtain ⟨h1, h2⟩ := h nm
  refine ⟨fun j hj => ?_, fun hn => h2 (by simpa using hn)⟩
  rw [Option.map_eq_some_iff] at hj
  obtain ⟨j', hj', rfl⟩ := hj
  obtain ⟨a, b⟩ := h1 j' hj'
  exact ⟨a, by rw [b]; congr 3; omega⟩
theorem LabD.put {code : List Ins} {m : Nat} {D : DataW Unit} {i : Ins} (h : LabD code (m + 1) D) (hm : IsMap D) (hi : code[m]? = some i) (hop : i.op = 12) (hk : WideAt.IsKeyLit (.string i.label)) : LabD code m (D.put (.string i.label) (.lit (.int .i64 (m : Int)))) := by
  intro nm
  obtain ⟨hlt, he⟩ := List.getElem?_eq_some_iff.1 hi
  rw [List.drop_eq_getElem_cons hlt, he, findIdx_cons]
  obtain ⟨h1, h2⟩ := h nm
  by_cases hn : i.label = nm
  · subst hn
    rw [if_pos (by rw [isLab_iff]; exact ⟨hop, rfl⟩)]
    refine ⟨fun j hj => ?_, fun hn => by simp at hn⟩
    simp at hj; subst hj
    exact ⟨has_put_same hm hk _, by rw [atKey_put_same hm hk]; rfl⟩
  · rw [if_neg (by rw [isLab_iff]; exact fun h => hn h.2)]
    have hne : (Lit.string nm) ≠ .string i.label := fun e => hn (by cases e; rfl)
    refine ⟨fun j hj => ?_, fun hn' => ?_⟩
    · rw [Option.map_eq_some_iff] at hj
      obtain ⟨j', hj', rfl⟩ := hj
      obtain ⟨a, b⟩ := h1 j' hj'
      rw [has_put_other hne, atKey_put_other hne]
      exact ⟨a, by rw [b]; congr 3; omega⟩
    · rw [has_put_other hne]; exact h2 (by simpa using hn')
end Go.Proofs.YthaibjefnclkjaaGreatDoor
namespace Go.Proofs.YthaibjefnclkjaaGreatDoor
set_option linter.unusedVariables false

def zTh : Th := ⟨0, 0, []⟩
def regsN (arch : Int) : Int := if arch = 1 then 15 else 32
def archB (arch : Int) : Bool := decide (arch = 1) || decide (arch = 2)
/-- a thing that may be -/
def thingB (arch : Int) (t : Th) : Bool :=
  if t.thread = -1 then decide (t.reg = 0) && nameB t.loc
  else decide (0 ≤ t.thread) && decide (t.thread < 16) && decide (0 ≤ t.reg) && decide (t.reg < regsN arch) && decide (t.loc = [])
/-- a node that may be, its kids aside -/
def mayN (arch : Int) (kind : Int) (t : Th) (v : Int) (n : Nat) : Bool :=
  if kind = 2 then thingB arch t && n32B v && decide (n = 0)
  else decide (t = zTh) && decide (v = 0) && (if kind = 1 then decide (n = 0) else if kind = 3 then decide (n = 1) else if kind = 4 ∨ kind = 5 then decide (2 ≤ n) else false)
mutual
/-- goes through a node with all below it: how many were met then, and what is told -/
def walkN (arch : Int) : Nd → Nat → Nat → Nat × Int
  | .mk k t v a c l, met, deep => if 1024 ≤ met ∨ 64 ≤ deep then (met, 2) else if mayN arch k t v l.length = false then (met, 80) else walkL arch l (met + 1) (deep + 1)
def walkL (arch : Int) : List Nd → Nat → Nat → Nat × Int
  | [], met, _ => (met, 0)
  | x :: r, met, deep => if (walkN arch x met deep).2 = 0 then walkL arch r (walkN arch x met deep).1 deep else walkN arch x met deep
end
theorem walkN_eq (arch : Int) (x : Nd) (met deep : Nat) : walkN arch x met deep = if 1024 ≤ met ∨ 64 ≤ deep then (met, 2) else if mayN arch x.kind x.th x.val x.kids.length = false then (met, 80) else walkL arch x.kids (met + 1) (deep + 1) := by
  cases x; rw [walkN]; rfl
theorem walkL_cons {arch : Int} {x : Nd} {r : List Nd} {met deep : Nat} : walkL arch (x :: r) met deep = if (walkN arch x met deep).2 = 0 then walkL arch r (walkN arch x met deep).1 deep else walkN arch x met deep := by rw [walkL]
theorem walkL_nil {arch : Int} {met deep : Nat} : walkL arch [] met deep = (met, 0) := by rw [walkL]
theorem walkL_drop {arch : Int} {l : List Nd} {k : Nat} {x : Nd} (hk : l[k]? = some x) (met deep : Nat) : walkL arch (l.drop k) met deep = if (walkN arch x met deep).2 = 0 then walkL arch (l.drop (k + 1)) (walkN arch x met deep).1 deep else walkN arch x met deep := by
  obtain ⟨hlt, rfl⟩ := List.getElem?_eq_some_iff.1 hk
  rw [List.drop_eq_getElem_cons hlt, walkL_cons]
theorem walk_le (arch : Int) : ∀ (x : Nd) (met deep : Nat), met ≤ 1024 → (walkN arch x met deep).1 ≤ 1024 := by
  intro x
  induction x using Nd.ind with
  | h x ih =>
    intro met deep hm
    rw [walkN_eq]
    split
    · exact hm
    · rename_i h
      split
      · exact hm
      · have key : ∀ (l : List Nd), (∀ k ∈ l, k ∈ x.kids) → ∀ met deep, met ≤ 1024 → (walkL arch l met deep).1 ≤ 1024 := by
          intro l
          induction l with
          | nil => intro _ met deep hm; rw [walkL_nil]; exact hm
          | cons y r ihl =>
            intro hin met deep hm
            have h1 := ih y (hin y (by simp)) met deep hm
            rw [walkL_cons]
            split
            · exact ihl (fun k hk => hin k (by simp [hk])) _ _ h1
            · exact h1
        exact key _ (fun k hk => hk) _ _ (by omega)
/-- why a condition may not be -/
def condE (arch quant : Int) (x : Nd) : Int := if archB arch = false then 5 else if quant < 1 ∨ 3 < quant then 80 else (walkN arch x 0 0).2
end Go.Proofs.YthaibjefnclkjaaGreatDoor
namespace Go.Proofs.YthaibjefnclkjaaGreatDoor
set_option linter.unusedVariables false

/-- a register's name -/
def regA (arch : Int) (n : Nat) : Tx := if arch = 1 then regX n else regT n
def thText (arch : Int) (t : Th) : Tx := if t.thread = -1 then t.loc else Lib.itoa t.thread ++ [58] ++ regA arch t.reg.toNat
def atomT (arch : Int) (t : Th) (v : Int) : Tx := thText arch t ++ [61] ++ Lib.itoa v
def sepA : Tx := [32, 47, 92, 32]
def sepO : Tx := [32, 92, 47, 32]
def inB (b : Bool) (s : Tx) : Tx := if b then 40 :: s ++ [41] else s
/-- must a kid of this kind stand in brackets? -/
def weak (and : Bool) (k : Int) : Bool := (and && decide (k = 4)) || decide (k = 5)
mutual
/-- a node's text -/
def textN (arch : Int) : Nd → Tx
  | .mk k t v a c l => if k = 1 then [116, 114, 117, 101] else if k = 2 then atomT arch t v else if k = 3 then 126 :: textL arch true [] l else if k = 4 then textL arch true sepA l else textL arch false sepO l
/-- kids' texts, a sign between -/
def textL (arch : Int) (and : Bool) (sep : Tx) : List Nd → Tx
  | [] => []
  | x :: r => inB (weak and x.kind) (textN arch x) ++ textR arch and sep r
/-- .. a sign ahead of each -/
def textR (arch : Int) (and : Bool) (sep : Tx) : List Nd → Tx
  | [] => []
  | x :: r => sep ++ (inB (weak and x.kind) (textN arch x) ++ textR arch and sep r)
end
theorem textN_eq (arch : Int) (x : Nd) : textN arch x = if x.kind = 1 then [116, 114, 117, 101] else if x.kind = 2 then atomT arch x.th x.val else if x.kind = 3 then 126 :: textL arch true [] x.kids else if x.kind = 4 then textL arch true sepA x.kids else textL arch false sepO x.kids := by
  cases x; rw [textN]; rfl
theorem textL_nil {arch : Int} {and : Bool} {sep : Tx} : textL arch and sep [] = [] := by rw [textL]
theorem textL_cons {arch : Int} {and : Bool} {sep : Tx} {x : Nd} {r : List Nd} : textL arch and sep (x :: r) = inB (weak and x.kind) (textN arch x) ++ textR arch and sep r := by rw [textL]
theorem textR_nil {arch : Int} {and : Bool} {sep : Tx} : textR arch and sep [] = [] := by rw [textR]
theorem textR_cons {arch : Int} {and : Bool} {sep : Tx} {x : Nd} {r : List Nd} : textR arch and sep (x :: r) = sep ++ (inB (weak and x.kind) (textN arch x) ++ textR arch and sep r) := by rw [textR]
theorem textR_app {arch : Int} {and : Bool} {sep : Tx} : ∀ (l r : List Nd), textR arch and sep (l ++ r) = textR arch and sep l ++ textR arch and sep r
  | [], r => by rw [textR_nil]; rfl
  | x :: l, r => by rw [List.cons_append, textR_cons, textR_cons, textR_app l r]; simp [List.append_assoc]
theorem textL_snoc {arch : Int} {and : Bool} {sep : Tx} (l : List Nd) (x : Nd) : textL arch and sep (l ++ [x]) = textL arch and sep l ++ (if l = [] then [] else sep) ++ inB (weak and x.kind) (textN arch x) := by
  cases l with
  | nil => rw [List.nil_append, textL_cons, textL_nil, textR_nil]; simp
  | cons y r => rw [List.cons_append, textL_cons, textL_cons, textR_app, textR_cons, textR_nil]; simp [List.append_assoc]
theorem textL_take {arch : Int} {and : Bool} {sep : Tx} {l : List Nd} {k : Nat} {x : Nd} (hk : l[k]? = some x) : textL arch and sep (l.take (k + 1)) = textL arch and sep (l.take k) ++ (if k = 0 then [] else sep) ++ inB (weak and x.kind) (textN arch x) := by
  obtain ⟨hlt, rfl⟩ := List.getElem?_eq_some_iff.1 hk
  rw [List.take_succ_eq_append_getElem hlt, textL_snoc]
  congr 2
  by_cases h0 : k = 0
  · subst h0; simp
  · have : l.take k ≠ [] := by
      intro e
      have hz : (l.take k).length = 0 := by rw [e]; rfl
      rw [List.length_take] at hz; omega
    rw [if_neg this, if_neg h0]
mutual
def cntN : Nd → Nat
  | .mk k t v a c l => 1 + cntL l
def cntL : List Nd → Nat
  | [] => 0
  | x :: r => cntN x + cntL r
end
theorem cntN_eq (x : Nd) : cntN x = 1 + cntL x.kids := by cases x; rw [cntN]; rfl
theorem cntL_nil : cntL [] = 0 := by rw [cntL]
theorem cntL_cons {x : Nd} {r : List Nd} : cntL (x :: r) = cntN x + cntL r := by rw [cntL]
theorem cntL_app : ∀ (l r : List Nd), cntL (l ++ r) = cntL l + cntL r
  | [], r => by rw [cntL_nil]; simp
  | x :: l, r => by rw [List.cons_append, cntL_cons, cntL_cons, cntL_app l r]; omega
/-- all nodes may be -/
inductive OkN (arch : Int) : Nd → Prop where
  | mk (x : Nd) (h : mayN arch x.kind x.th x.val x.kids.length = true) (hk : ∀ y ∈ x.kids, OkN arch y) : OkN arch x
theorem OkN.may {arch : Int} {x : Nd} (h : OkN arch x) : mayN arch x.kind x.th x.val x.kids.length = true := by cases h; assumption
theorem OkN.kid {arch : Int} {x : Nd} (h : OkN arch x) : ∀ y ∈ x.kids, OkN arch y := by cases h; assumption
theorem walk_ok (arch : Int) : ∀ (x : Nd) (met deep m : Nat), walkN arch x met deep = (m, 0) → OkN arch x ∧ m = met + cntN x ∧ m ≤ 1024 := by
  intro x
  induction x using Nd.ind with
  | h x ih =>
    intro met deep m h
    rw [walkN_eq] at h
    by_cases h1 : 1024 ≤ met ∨ 64 ≤ deep
    · rw [if_pos h1] at h; cases h
    rw [if_neg h1] at h
    by_cases h2 : mayN arch x.kind x.th x.val x.kids.length = false
    · rw [if_pos h2] at h; cases h
    rw [if_neg h2] at h
    have key : ∀ (l : List Nd), (∀ k ∈ l, k ∈ x.kids) → ∀ met deep m, met ≤ 1024 → walkL arch l met deep = (m, 0) → (∀ y ∈ l, OkN arch y) ∧ m = met + cntL l ∧ m ≤ 1024 := by
      intro l
      induction l with
      | nil => intro _ met deep m hm h; rw [walkL_nil] at h; cases h; exact ⟨fun y hy => absurd hy (by simp), by rw [cntL_nil]; omega, hm⟩
      | cons y r ihl =>
        intro hin met deep m hm h
        rw [walkL_cons] at h
        by_cases h3 : (walkN arch y met deep).2 = 0
        · rw [if_pos h3] at h
          obtain ⟨o1, e1, b1⟩ := ih y (hin y (by simp)) met deep (walkN arch y met deep).1 (by rw [← h3])
          obtain ⟨o2, e2, b2⟩ := ihl (fun k hk => hin k (by simp [hk])) _ _ _ b1 h
          exact ⟨fun z hz => by rcases List.mem_cons.1 hz with rfl | hz; exact o1; exact o2 z hz, by rw [cntL_cons]; omega, b2⟩
        · rw [if_neg h3] at h; rw [h] at h3; exact absurd rfl h3
    obtain ⟨o, e, b⟩ := key _ (fun k hk => hk) _ _ _ (by omega) h
    exact ⟨⟨x, by simpa using h2, o⟩, by rw [cntN_eq]; omega, b⟩
/-- a condition's node that may be -/
theorem cond_ok {arch q : Int} {x : Nd} (h : condE arch q x = 0) : archB arch = true ∧ 1 ≤ q ∧ q ≤ 3 ∧ OkN arch x ∧ cntN x ≤ 1024 := by
  unfold condE at h
  by_cases ha : archB arch = false
  · rw [if_pos ha] at h; cases h
  rw [if_neg ha] at h
  by_cases hq : q < 1 ∨ 3 < q
  · rw [if_pos hq] at h; cases h
  rw [if_neg hq] at h
  obtain ⟨o, e, b⟩ := walk_ok arch x 0 0 (walkN arch x 0 0).1 (by rw [← h])
  exact ⟨by simpa using ha, by omega, by omega, o, by omega⟩
theorem mayN_kind {arch k v : Int} {t : Th} {n : Nat} (h : mayN arch k t v n = true) : (k = 1 ∧ n = 0) ∨ (k = 2 ∧ thingB arch t = true ∧ n32B v = true ∧ n = 0) ∨ (k = 3 ∧ n = 1) ∨ (k = 4 ∧ 2 ≤ n) ∨ (k = 5 ∧ 2 ≤ n) := by
  unfold mayN at h
  by_cases h2 : k = 2
  · rw [if_pos h2] at h
    simp only [Bool.and_eq_true, decide_eq_true_eq] at h
    exact .inr (.inl ⟨h2, h.1.1, h.1.2, h.2⟩)
  rw [if_neg h2] at h
  simp only [Bool.and_eq_true, decide_eq_true_eq] at h
  obtain ⟨-, h⟩ := h
  by_cases h1 : k = 1
  · rw [if_pos h1] at h; exact .inl ⟨h1, by simpa using h⟩
  rw [if_neg h1] at h
  by_cases h3 : k = 3
  · rw [if_pos h3] at h; exact .inr (.inr (.inl ⟨h3, by simpa using h⟩))
  rw [if_neg h3] at h
  by_cases h4 : k = 4 ∨ k = 5
  · rw [if_pos h4] at h
    rcases h4 with rfl | rfl
    · exact .inr (.inr (.inr (.inl ⟨rfl, by simpa using h⟩)))
    · exact .inr (.inr (.inr (.inr ⟨rfl, by simpa using h⟩)))
  · rw [if_neg h4] at h; cases h
theorem thingB_cases {arch : Int} {t : Th} (h : thingB arch t = true) : (t.thread = -1 ∧ t.reg = 0 ∧ nameB t.loc = true) ∨ (∃ (i k : Nat), t = ⟨i, k, []⟩ ∧ i < 16 ∧ (k : Int) < regsN arch) := by
  obtain ⟨th, rg, loc⟩ := t
  unfold thingB at h
  simp only at h
  by_cases h1 : th = -1
  · rw [if_pos h1] at h
    simp only [Bool.and_eq_true, decide_eq_true_eq] at h
    exact .inl ⟨h1, h.1, h.2⟩
  · rw [if_neg h1] at h
    simp only [Bool.and_eq_true, decide_eq_true_eq] at h
    obtain ⟨⟨⟨⟨a, b⟩, c⟩, d⟩, e⟩ := h
    refine .inr ⟨th.toNat, rg.toNat, ?_, by omega, by omega⟩
    simp only [Th.mk.injEq]
    exact ⟨by omega, by omega, e⟩
theorem regsN_le (arch : Int) : regsN arch ≤ 32 := by unfold regsN; split <;> omega
theorem regA_len {arch : Int} {k : Nat} (h : (k : Int) < regsN arch) : (regA arch k).length ≤ 5 := by
  unfold regA regsN at *
  split
  · rename_i h1; rw [if_pos h1] at h; have := regX_len (n := k) (by omega); omega
  · rename_i h1; rw [if_neg h1] at h; exact regT_len (by omega)
theorem thText_len {arch : Int} {t : Th} (h : thingB arch t = true) : (thText arch t).length ≤ 32 := by
  rcases thingB_cases h with ⟨h1, h2, h3⟩ | ⟨i, k, rfl, hi, hk⟩
  · unfold thText; rw [if_pos h1]; exact (nameB_cl h3).2
  · unfold thText
    rw [if_neg (by simp only; omega)]
    have h1 := Lib.itoa_length_le (i : Int) (by omega) (by omega)
    have h2 := regA_len (arch := arch) (k := k) hk
    simp only [List.length_append, List.length_singleton, Int.toNat_natCast]
    omega
theorem inB_len (b : Bool) (s : Tx) : (inB b s).length ≤ s.length + 2 := by unfold inB; split <;> simp
theorem textN_len {arch : Int} : ∀ {x : Nd}, OkN arch x → (textN arch x).length + 10 ≤ 100 * cntN x := by
  intro x
  induction x using Nd.ind with
  | h x ih =>
    intro h
    have key : ∀ (and : Bool) (sep : Tx) (l : List Nd), sep.length ≤ 4 → (∀ k ∈ l, k ∈ x.kids) → (textR arch and sep l).length ≤ 100 * cntL l := by
      intro and sep l hs
      induction l with
      | nil => intro _; rw [textR_nil]; simp
      | cons y r ihl =>
        intro hin
        have h1 := ih y (hin y (by simp)) (h.kid y (hin y (by simp)))
        have h2 := ihl (fun k hk => hin k (by simp [hk]))
        have h3 := inB_len (weak and y.kind) (textN arch y)
        rw [textR_cons, cntL_cons]
        simp only [List.length_append]
        omega
    have keyL : ∀ (and : Bool) (sep : Tx) (l : List Nd), sep.length ≤ 4 → (∀ k ∈ l, k ∈ x.kids) → (textL arch and sep l).length ≤ 100 * cntL l := by
      intro and sep l hs hin
      cases l with
      | nil => rw [textL_nil]; simp
      | cons y r =>
        have h1 := ih y (hin y (by simp)) (h.kid y (hin y (by simp)))
        have h2 := key and sep r hs (fun k hk => hin k (by simp [hk]))
        have h3 := inB_len (weak and y.kind) (textN arch y)
        rw [textL_cons, cntL_cons]
        simp only [List.length_append]
        omega
    rw [textN_eq, cntN_eq]
    rcases mayN_kind h.may with ⟨h1, h2⟩ | ⟨h1, h2, h3, h4⟩ | ⟨h1, h2⟩ | ⟨h1, h2⟩ | ⟨h1, h2⟩
    · rw [h1]; simp
      omega
    · rw [h1]
      have a1 := thText_len h2
      have a2 := Lib.itoa_length_le x.val (by unfold n32B at h3; simp at h3; omega) (by unfold n32B at h3; simp at h3; omega)
      simp [atomT]; omega
    · rw [h1]
      have := keyL true [] x.kids (by simp) (fun k hk => hk)
      simp; omega
    · rw [h1]
      have := keyL true sepA x.kids (by simp [sepA]) (fun k hk => hk)
      simp; omega
    · rw [h1]
      have := keyL false sepO x.kids (by simp [sepO]) (fun k hk => hk)
      simp; omega
theorem textL_len {arch : Int} {and : Bool} {sep : Tx} (hs : sep.length ≤ 4) : ∀ {l : List Nd}, (∀ y ∈ l, OkN arch y) → (textL arch and sep l).length ≤ 100 * cntL l := by
  have key : ∀ (l : List Nd), (∀ y ∈ l, OkN arch y) → (textR arch and sep l).length ≤ 100 * cntL l := by
    intro l
    induction l with
    | nil => intro _; rw [textR_nil]; simp
    | cons y r ihl =>
      intro h
      have h1 := textN_len (h y (by simp))
      have h2 := ihl (fun k hk => h k (by simp [hk]))
      have h3 := inB_len (weak and y.kind) (textN arch y)
      rw [textR_cons, cntL_cons]
      simp only [List.length_append]
      omega
  intro l h
  cases l with
  | nil => rw [textL_nil]; simp
  | cons y r =>
    have h1 := textN_len (h y (by simp))
    have h2 := key r (fun k hk => h k (by simp [hk]))
    have h3 := inB_len (weak and y.kind) (textN arch y)
    rw [textL_cons, cntL_cons]
    simp only [List.length_append]
    omega
def headC (q : Int) : Tx := if q = 1 then [101, 120, 105, 115, 116, 115, 32, 40] else if q = 2 then [126, 101, 120, 105, 115, 116, 115, 32, 40] else [102, 111, 114, 97, 108, 108, 32, 40]
/-- a condition's text -/
def textC (arch q : Int) (x : Nd) : Tx := headC q ++ textN arch x ++ [41]
end Go.Proofs.YthaibjefnclkjaaGreatDoor

/- What registers hold, as values; slices of them. Lemmas of this claim's own; no condition. · Sums, ors and exclusive ors of 32 bits, as plain functions. No condition. · The walks of may, ready's closure (the program's), Round, IsVal (the document's answer). Conditions: lengths that an int holds. · Where branches lead: plain functions of lists of instructions. No condition. · The walks of ready (the program's) and isThread (the document's answer). Conditions: the registers lie in memory as read; lengths that an int holds. · Threads and values that come in to a statement, as the walks take them. Lemmas of this claim's own; no condition. · The walk of isThread (the document's answer). Conditions: the registers lie in memory as read; lengths that an int holds. · The walks of Clone of values (the program's) and Mix (the document's answer). Conditions: the values lie in memory as read; numbers of 32 bits. -/
import Derived.Test.YtigimkgmghjgoaaGreatDoorQi
import Derived.Test.YtigimkgmghjgoaaGreatDoorQp
import Derived.Test.YtigimkgmghjgoaaGreatDoorQh
import Derived.Test.YtigimkgmghjgoaaGreatDoorQj
import Derived.Maps.OwnSet
import Derived.Maps.Views
namespace Go.Proofs.YtigimkgmghjgoaaGreatDoor
open Go.RowKit
set_option linter.unusedVariables false

structure Vl where
  loc : Tx
  n : Int
  deriving DecidableEq
def vl0 : Vl := ⟨[], 0⟩
@[reducible] def vC (v : Vl) : List Value := [.string (tx v.loc), .int .i64 v.n]
@[reducible] def vV (v : Vl) : Value := .agg #[.string (tx v.loc), .int .i64 v.n]
theorem vl_ext (x y : Vl) : (x = y) ↔ (x.loc = y.loc ∧ x.n = y.n) := by cases x; cases y; simp
theorem eqV (x y : Vl) (w : World) : (binOp .eql 50 (vV x) (vV y)).run Tryz.prog w = .ok (.bool (decide (x = y))) w := by
  have hS : Tryz.prog.underlying 50 = some (.struct (Tryz.prog.fieldsOf 50)) := by kernel_rfl
  have hp : Tryz.prog.stoodInHeld 50 = false := by kernel_rfl
  have a3 := Tryz.isAgg3; have z3 := Tryz.sizeOf3; have u3 := Tryz.underlying3
  have a4 := Tryz.isAgg9; have z4 := Tryz.sizeOf9; have u4 := Tryz.underlying9
  rw [run_eql_struct, show (10000 : Nat) = 9999 + 1 from rfl, run_equalIn_agg w 9999 50 _ _ hS hp]
  simp only [Program.fieldsOf, Tryz.underlying50]
  go_simp
  rw [show decide (x = y) = decide (x.loc = y.loc ∧ x.n = y.n) from decide_eq_decide.2 (vl_ext x y)]
  simp only [tx_toList]
  by_cases h1 : x.loc = y.loc <;> by_cases h2 : x.n = y.n <;> simp [h1, h2]
theorem neqV (x y : Vl) (w : World) : (binOp .neq 50 (vV x) (vV y)).run Tryz.prog w = .ok (.bool (!decide (x = y))) w := by
  have h := eqV x y w
  rw [run_eql_struct] at h
  rw [run_neq_struct]
  generalize (Op.equalIn 10000 50 (.agg #[.string (tx x.loc), .int .i64 x.n]) (.agg #[.string (tx y.loc), .int .i64 y.n])).run Tryz.prog w = r at *
  cases r with
  | ok b w' => simp [Result.andThen] at h ⊢; obtain ⟨rfl, rfl⟩ := h; exact ⟨rfl, rfl⟩
  | halt x w' => simp [Result.andThen] at h

def valsC (l : List Vl) : List Value := l.flatMap vC
theorem valsC_length (l : List Vl) : (valsC l).length = l.length * 2 := by
  induction l with
  | nil => rfl
  | cons x r ih => unfold valsC at *; simp [List.flatMap_cons, ih, vC]; omega
theorem valsC_app (l r : List Vl) : valsC (l ++ r) = valsC l ++ valsC r := by unfold valsC; rw [List.flatMap_append]
theorem valsC_cons (x : Vl) (r : List Vl) : valsC (x :: r) = vC x ++ valsC r := by unfold valsC; rw [List.flatMap_cons]
theorem valsC_get : ∀ (l : List Vl) (k i : Nat) (x : Vl), l[k]? = some x → i < 2 → (valsC l)[k * 2 + i]? = (vC x)[i]?
  | [], k, i, x, h, _ => by simp at h
  | y :: r, 0, i, x, h, hi => by
    simp at h; subst h
    rw [valsC_cons, Nat.zero_mul, Nat.zero_add, List.getElem?_append_left (by simpa [vC] using hi)]
  | y :: r, k + 1, i, x, h, hi => by
    rw [valsC_cons, List.getElem?_append_right (by simp [vC]; omega)]
    have : (k + 1) * 2 + i - (vC y).length = k * 2 + i := by simp [vC]; omega
    rw [this, valsC_get r k i x (by simpa using h) hi]
theorem valsC_oneCell (l : List Vl) : ∀ u ∈ valsC l, u.oneCell' = true := by
  intro u hu
  unfold valsC at hu
  obtain ⟨x, -, hx⟩ := List.mem_flatMap.1 hu
  simp [vC] at hx
  rcases hx with rfl | rfl <;> rfl
theorem valsC_take (l : List Vl) (k : Nat) : (valsC l).take (k * 2) = valsC (l.take k) := by
  by_cases hk : k ≤ l.length
  · have h1 : valsC l = valsC (l.take k) ++ valsC (l.drop k) := by rw [← valsC_app, List.take_append_drop]
    rw [h1, List.take_left' (by rw [valsC_length, List.length_take, Nat.min_eq_left hk])]
  · rw [List.take_of_length_le (by rw [valsC_length]; omega), List.take_of_length_le (by omega)]
theorem valsC_set : ∀ (l : List Vl) (k : Nat) (x : Vl), k < l.length → valsC (l.set k x) = ((valsC l).set (k * 2) (.string (tx x.loc))).set (k * 2 + 1) (.int .i64 x.n)
  | [], k, x, h => by simp at h
  | y :: r, 0, x, h => by simp [valsC_cons, vC]
  | y :: r, k + 1, x, h => by
    rw [List.set_cons_succ, valsC_cons, valsC_cons, valsC_set r k x (by simpa using h)]
    have e1 : (k + 1) * 2 = k * 2 + 2 := by omega
    rw [e1, show k * 2 + 2 + 1 = (k * 2 + 1) + 2 by omega]
    simp [vC]
/-- values that are read -/
structure Vs (w : World) (a : Option Addr) (l : List Vl) : Prop where
  row : Row w a (valsC l)
  len : l.length ≤ 1000000000000000000
theorem Vs.nil (w : World) (a : Option Addr) : Vs w a [] := ⟨Row.nil _ _, by simp⟩
theorem Vs.below {w w' : World} {a : Option Addr} {l : List Vl} (h : Vs w a l) (hb : Below w.heap.size w w') : Vs w' a l := ⟨h.row.below hb, h.len⟩
theorem Vs.cells {w : World} {a : Option Addr} {l : List Vl} (h : Vs w a l) {k : Nat} {i : Vl} (hk : l[k]? = some i) :
    w.cell? ⟨bk a, fo a + k * 2, none⟩ = some (.string (tx i.loc)) ∧ w.cell? ⟨bk a, fo a + k * 2 + 1, none⟩ = some (.int .i64 i.n) := by
  have hlt := (List.getElem?_eq_some_iff.1 hk).1
  have g : ∀ j, j < 2 → w.cell? ⟨bk a, fo a + k * 2 + j, none⟩ = (vC i)[j]? := fun j hj => by
    have h1 := h.row.cell (k * 2 + j) (by rw [valsC_length]; omega)
    rw [valsC_get l k j i hk hj] at h1
    rw [Nat.add_assoc]; exact h1
  exact ⟨g 0 (by omega), g 1 (by omega)⟩
theorem Vs.lt {w : World} {a : Option Addr} {l : List Vl} (h : Vs w a l) {k : Nat} (hk : k < l.length) : bk a < w.heap.size :=
  cell?_lt (p := ⟨bk a, fo a + k * 2, none⟩) (h.cells (List.getElem?_eq_getElem hk)).1
theorem vsl : ElT Tryz.prog 40 50 (.agg #[.string ByteArray.empty, .int .i64 0]) 2 24 := ⟨Tryz.underlying40, by kernel_rfl, rfl, by decide⟩
theorem Vs.idx {w : World} {a : Option Addr} {l : List Vl} (h : Vs w a l) (k : Nat) (hk : k < l.length) :
    ∀ c w', (Instr.indexAt 40 (.slice a l.length c) (.int .i64 k)).run Tryz.prog w' = .ok (.pointer (some ⟨bk a, fo a + k * 2, none⟩)) w' := by
  intro c
  exact run_idx (c := c) (n := l.length) (m := 2) h.row vsl.und vsl.cells vsl.isSome (valsC_length l) (by omega) k hk .i64
abbrev OwnV (w : World) (B : Nat) (a : Option Addr) (n c : Nat) (l : List Vl) : Prop := Own w B 50 2 a n c (valsC l)
theorem OwnV.len {w : World} {B n c : Nat} {a : Option Addr} {l : List Vl} (h : OwnV w B a n c l) : n = l.length := by
  have := h.cap.2.2; rw [valsC_length] at this; omega
theorem OwnV.vs {w : World} {B n c : Nat} {a : Option Addr} {l : List Vl} (h : OwnV w B a n c l) (hl : l.length ≤ 1000000000000000000) : Vs w a l := ⟨h.row, hl⟩
/-- a value written into a row of the call's own -/
theorem OwnV.set {w : World} {B n c : Nat} {a : Option Addr} {l : List Vl} (h : OwnV w B a n c l) (ha : a ≠ none) (k : Nat) (hk : k < l.length) (x : Vl) :
    OwnV ((w.setCell ⟨bk a, fo a + k * 2, none⟩ (.string (tx x.loc))).setCell ⟨bk a, fo a + k * 2 + 1, none⟩ (.int .i64 x.n)) B a n c (l.set k x) ∧ Step w ((w.setCell ⟨bk a, fo a + k * 2, none⟩ (.string (tx x.loc))).setCell ⟨bk a, fo a + k * 2 + 1, none⟩ (.int .i64 x.n)) a a := by
  obtain ⟨h1, s1⟩ := Own.set h ha (k * 2) (.string (tx x.loc))
  obtain ⟨h2, s2⟩ := Own.set h1 ha (k * 2 + 1) (.int .i64 x.n)
  rw [← Nat.add_assoc] at h2 s2
  refine ⟨?_, s1.trans s2⟩
  unfold OwnV
  rw [valsC_set l k x hk]; exact h2
/-- a value in a block by itself -/
def BxV (w : World) (b : Nat) (v : Vl) : Prop := b < w.heap.size ∧ w.cell? ⟨b, 0, none⟩ = some (.string (tx v.loc)) ∧ w.cell? ⟨b, 1, none⟩ = some (.int .i64 v.n)
abbrev mkV (v : Vl) : Obj := .cells #[.string (tx v.loc), .int .i64 v.n] 50
theorem BxV.new (w : World) (v : Vl) : BxV (w.alloc (mkV v)) w.heap.size v := by
  have hh := heap_alloc_new w (mkV v)
  exact ⟨by simp, by simp only [World.cell?, hh]; simp, by simp only [World.cell?, hh]; simp⟩
theorem BxV.below {w w' : World} {b : Nat} {v : Vl} (h : BxV w b v) (hb : Below w.heap.size w w') : BxV w' b v :=
  ⟨Nat.lt_of_lt_of_le h.1 hb.size, by rw [hb.cell (p := ⟨b, 0, none⟩) h.1]; exact h.2.1, by rw [hb.cell (p := ⟨b, 1, none⟩) h.1]; exact h.2.2⟩
/-- a value that a register may hold -/
def mayB (v : Vl) : Bool := if v.loc = [] then decide (-2147483648 ≤ v.n) && decide (v.n ≤ 2147483647) else decide (v.n = 0) && nameB v.loc
end Go.Proofs.YtigimkgmghjgoaaGreatDoor
namespace Go.Proofs.YtigimkgmghjgoaaGreatDoor
open Go.RowKit
set_option linter.unusedVariables false

def b32 (n : Int) : BitVec 32 := BitVec.ofInt 32 n
def or32 (x y : Int) : Int := (b32 x ||| b32 y).toInt
def xor32 (x y : Int) : Int := (b32 x ^^^ b32 y).toInt
def add32 (x y : Int) : Int := (b32 x + b32 y).toInt
theorem w32_def (n : Int) : IntKind.i32.wrap n = if 2147483648 ≤ n % 4294967296 then n % 4294967296 - 4294967296 else n % 4294967296 := by
  unfold IntKind.wrap; simp [IntKind.bits, IntKind.signed]
theorem w64_def (n : Int) : IntKind.i64.wrap n = if 9223372036854775808 ≤ n % 18446744073709551616 then n % 18446744073709551616 - 18446744073709551616 else n % 18446744073709551616 := by
  unfold IntKind.wrap; simp [IntKind.bits, IntKind.signed]
theorem u64_def (n : Int) : IntKind.u64.wrap n = n % 18446744073709551616 := by
  unfold IntKind.wrap; simp [IntKind.bits, IntKind.signed]
theorem u32_def (n : Int) : IntKind.u32.wrap n = n % 4294967296 := by
  unfold IntKind.wrap; simp [IntKind.bits, IntKind.signed]
theorem b32_nat (n : Int) : ((b32 n).toNat : Int) = n % 4294967296 := by
  unfold b32; rw [BitVec.toNat_ofInt]; simp; omega
theorem wrap32_toInt (v : BitVec 32) : IntKind.i32.wrap (v.toNat : Int) = v.toInt := by
  have h := v.isLt
  rw [w32_def, BitVec.toInt_eq_toNat_cond]
  simp only [Nat.reducePow] at *
  split <;> split <;> omega
theorem wrap32_eq (n : Int) : IntKind.i32.wrap n = (b32 n).toInt := by
  rw [← wrap32_toInt, b32_nat, w32_def, w32_def]
  have : n % 4294967296 % 4294967296 = n % 4294967296 := by omega
  rw [this]
theorem b32_eq {x y : Int} (h : x % 4294967296 = y % 4294967296) : b32 x = b32 y := by
  apply BitVec.eq_of_toNat_eq
  have h1 := b32_nat x; have h2 := b32_nat y
  omega
theorem b32_wrap64 (n : Int) : b32 (IntKind.i64.wrap n) = b32 n := by
  apply b32_eq
  rw [w64_def]
  split <;> omega
theorem b32_toNat64 (v : BitVec 64) : b32 (v.toNat : Int) = v.setWidth 32 := by
  apply BitVec.eq_of_toNat_eq
  have h1 := b32_nat (v.toNat : Int)
  rw [BitVec.toNat_setWidth]
  simp only [Nat.reducePow]
  omega
theorem set32 (n : Int) : (BitVec.ofInt 64 n).setWidth 32 = b32 n := by
  apply BitVec.eq_of_toNat_eq
  have h1 := b32_nat n
  rw [BitVec.toNat_setWidth, BitVec.toNat_ofInt]
  simp
  omega
theorem round_or (x y : Int) : IntKind.i32.wrap (bits .or .i64 x y) = or32 x y := by
  rw [wrap32_eq]
  show (b32 (IntKind.i64.wrap ((BitVec.ofInt 64 x ||| BitVec.ofInt 64 y).toNat : Int))).toInt = _
  rw [b32_wrap64, b32_toNat64, BitVec.setWidth_or, set32, set32]; rfl
theorem round_xor (x y : Int) : IntKind.i32.wrap (bits .xor .i64 x y) = xor32 x y := by
  rw [wrap32_eq]
  show (b32 (IntKind.i64.wrap ((BitVec.ofInt 64 x ^^^ BitVec.ofInt 64 y).toNat : Int))).toInt = _
  rw [b32_wrap64, b32_toNat64, BitVec.setWidth_xor, set32, set32]; rfl
theorem round_add (x y : Int) : IntKind.i32.wrap (x + y) = add32 x y := by
  rw [wrap32_eq]; unfold add32 b32; rw [BitVec.ofInt_add]
theorem bits32_or (x y : Int) : bits .or .i32 x y = or32 x y := by
  show IntKind.i32.wrap ((BitVec.ofInt 32 x ||| BitVec.ofInt 32 y).toNat : Int) = _
  rw [wrap32_toInt]; rfl
theorem bits32_xor (x y : Int) : bits .xor .i32 x y = xor32 x y := by
  show IntKind.i32.wrap ((BitVec.ofInt 32 x ^^^ BitVec.ofInt 32 y).toNat : Int) = _
  rw [wrap32_toInt]; rfl
theorem small32 (v : BitVec 32) : -2147483648 ≤ v.toInt ∧ v.toInt ≤ 2147483647 := by
  have h1 := BitVec.le_toInt (x := v); have h2 := BitVec.toInt_lt (x := v)
  simp at h1 h2; omega
/-- the document's way to 32 bits -/
theorem round_way (n : Int) : IntKind.i32.wrap (IntKind.u32.wrap (bits .and .u64 (IntKind.u64.wrap n) 4294967295)) = IntKind.i32.wrap n := by
  have key : bits .and .u64 (IntKind.u64.wrap n) 4294967295 = n % 4294967296 := by
    show IntKind.u64.wrap ((BitVec.ofInt 64 (IntKind.u64.wrap n) &&& BitVec.ofInt 64 4294967295).toNat : Int) = _
    have e2 : (BitVec.ofInt 64 (IntKind.u64.wrap n) &&& BitVec.ofInt 64 4294967295).toNat = (BitVec.ofInt 64 (IntKind.u64.wrap n)).toNat % 4294967296 := by
      rw [BitVec.toNat_and, show (BitVec.ofInt 64 4294967295).toNat = 2 ^ 32 - 1 by decide, Nat.and_two_pow_sub_one_eq_mod]
    rw [e2, u64_def, u64_def, BitVec.toNat_ofInt]
    simp
    omega
  rw [key, u32_def, w32_def, w32_def]
  have : n % 4294967296 % 4294967296 % 4294967296 = n % 4294967296 := by omega
  rw [this]
/-- what an operation of two values gives -/
def f32 (op : Int) (x y : Int) : Int := if op = 8 then or32 x y else if op = 9 then xor32 x y else add32 x y
def mixV (op : Int) (a b : Vl) : Option Vl :=
  if a.loc = [] ∧ b.loc = [] then some ⟨[], f32 op a.n b.n⟩
  else if a.loc ≠ [] ∧ b.loc = [] ∧ b.n = 0 then some a
  else if b.loc ≠ [] ∧ a.loc = [] ∧ a.n = 0 then some b
  else none
end Go.Proofs.YtigimkgmghjgoaaGreatDoor
namespace Go.Proofs.YtigimkgmghjgoaaGreatDoor
open Go.RowKit
set_option linter.unusedVariables false

attribute [local go_sem high] eqV neqV
theorem mayB_num {v : Vl} (h : v.loc = []) : mayB v = numB v.n := by unfold mayB numB; rw [if_pos h]
theorem mayB_loc {v : Vl} (h : v.loc ≠ []) : mayB v = (decide (v.n = 0) && nameB v.loc) := by unfold mayB; rw [if_neg h]
theorem refRound (n : Int) (w : World) : Calls Tryz.prog 91 #[.int .i64 n] w fun e w' => e = .returned (.int .i64 (IntKind.i32.wrap n)) ∧ w = w' := by
  have hw := round_way n
  have h2 := small32 (b32 n)
  rw [← wrap32_eq] at h2
  obtain ⟨m, hm⟩ : ∃ m, IntKind.i32.wrap n = m := ⟨_, rfl⟩
  rw [hm] at hw h2 ⊢
  rw [u32_def] at hw
  have hk : IntKind.i64.wrap m = m := IntWalk.i64_in _ (by omega)
  clear hm
  go_enter Tryz.func91, Tryz.ntmps91
  go_wp2_with fail
  go_ret
  exact ⟨rfl, rfl⟩
set_option maxRecDepth 100000 in
theorem progMay_num (n : Int) (w : World) : Calls Tryz.prog 82 #[vV ⟨[], n⟩] w (Ret w (.bool (numB n))) := by
  have B := al w (mkV ⟨[], n⟩)
  have z0 : ((tx ([] : Tx)).toList == []) = true := by rw [tx_toList]; rfl
  have hp : n < -2147483648 ∨ (-2147483648 ≤ n ∧ n ≤ 2147483647) ∨ 2147483648 ≤ n := by omega
  rcases hp with h | ⟨h, h'⟩ | h
  all_goals
    go_enter Tryz.func82, Tryz.ntmps82
    go_wp2_with fail
    go_ret
    exact ⟨ret_bool (by unfold numB; rw [Bool.eq_iff_iff]; simp <;> omega), (by repeat (first | with_reducible assumption | with_reducible exact Below.refl _ _ | with_reducible refine bel_alloc ?_ _ | with_reducible refine bel_drew ?_ | with_reducible refine bel_set ?_ (by dsimp only; omega) _))⟩
set_option maxRecDepth 100000 in
theorem progMay_loc (l : Tx) (h : l ≠ []) (hl : l.length ≤ 9223372036854775807) (n : Int) (w : World) : Calls Tryz.prog 82 #[vV ⟨l, n⟩] w (Ret w (.bool (decide (n = 0) && nameB l))) := by
  have B := al w (mkV ⟨l, n⟩)
  have z0 : ((tx l).toList == []) = false := tx_ne l [] h
  have NM := hid (fun w => progNamed l hl w)
  clear h
  by_cases hn : n = 0
  · subst hn
    generalize nameB l = bb at *
    go_enter Tryz.func82, Tryz.ntmps82
    go_wp2_with (go_at_call 76; refine (NM.out _).mono ?_; rintro e w' ⟨rfl, rfl⟩)
    go_ret
    exact ⟨ret_bool (by simp), (by repeat (first | with_reducible assumption | with_reducible exact Below.refl _ _ | with_reducible refine bel_alloc ?_ _ | with_reducible refine bel_drew ?_ | with_reducible refine bel_set ?_ (by dsimp only; omega) _))⟩
  · have zn : (n == 0) = false := by simpa using hn
    rw [decide_eq_false hn, Bool.false_and]
    clear hn
    go_enter Tryz.func82, Tryz.ntmps82
    go_wp2_with fail
    go_ret
    exact ⟨rfl, (by repeat (first | with_reducible assumption | with_reducible exact Below.refl _ _ | with_reducible refine bel_alloc ?_ _ | with_reducible refine bel_drew ?_ | with_reducible refine bel_set ?_ (by dsimp only; omega) _))⟩
theorem progMay (v : Vl) (hl : v.loc.length ≤ 9223372036854775807) (w : World) : Calls Tryz.prog 82 #[vV v] w (Ret w (.bool (mayB v))) := by
  obtain ⟨l, n⟩ := v
  by_cases h : l = []
  · subst h; rw [mayB_num rfl]; exact progMay_num n w
  · rw [mayB_loc h]; exact progMay_loc l h hl n w
set_option maxRecDepth 100000 in
theorem refIsVal_num (n : Int) (w : World) : Calls Tryz.prog 29 #[vV ⟨[], n⟩] w (Ret w (.bool (numB n))) := by
  have B := al w (mkV ⟨[], n⟩)
  have z0 : ((tx ([] : Tx)).toList == []) = true := by rw [tx_toList]; rfl
  have z1 : ((tx ([] : Tx)).toList != []) = false := by rw [tx_toList]; rfl
  go_enter Tryz.func29, Tryz.ntmps29
  go_wp2_with (go_at_call 59; refine (refIsNumber n _).mono ?_; rintro e w' ⟨rfl, rfl⟩)
  go_ret
  exact ⟨rfl, (by repeat (first | with_reducible assumption | with_reducible exact Below.refl _ _ | with_reducible refine bel_alloc ?_ _ | with_reducible refine bel_drew ?_ | with_reducible refine bel_set ?_ (by dsimp only; omega) _))⟩
set_option maxRecDepth 100000 in
theorem refIsVal_loc (l : Tx) (h : l ≠ []) (hl : l.length ≤ 9223372036854775807) (n : Int) (w : World) : Calls Tryz.prog 29 #[vV ⟨l, n⟩] w (Ret w (.bool (decide (n = 0) && nameB l))) := by
  have B := al w (mkV ⟨l, n⟩)
  have z0 : ((tx l).toList == []) = false := tx_ne l [] h
  have z1 : ((tx l).toList != []) = true := by rw [bne, z0]; rfl
  have NM := hid (fun w => refIsName l hl w)
  clear h
  cases hm : nameB l
  · rw [Bool.and_false]
    rw [hm] at NM
    clear hm
    go_enter Tryz.func29, Tryz.ntmps29
    go_wp2_with (go_at_call 48; refine (NM.out _).mono ?_; rintro e w' ⟨rfl, rfl⟩)
    go_ret
    exact ⟨rfl, (by repeat (first | with_reducible assumption | with_reducible exact Below.refl _ _ | with_reducible refine bel_alloc ?_ _ | with_reducible refine bel_drew ?_ | with_reducible refine bel_set ?_ (by dsimp only; omega) _))⟩
  · rw [Bool.and_true]
    rw [hm] at NM
    clear hm
    go_enter Tryz.func29, Tryz.ntmps29
    go_wp2_with (go_at_call 48; refine (NM.out _).mono ?_; rintro e w' ⟨rfl, rfl⟩)
    go_ret
    exact ⟨ret_bool (by first | rfl | simp), (by repeat (first | with_reducible assumption | with_reducible exact Below.refl _ _ | with_reducible refine bel_alloc ?_ _ | with_reducible refine bel_drew ?_ | with_reducible refine bel_set ?_ (by dsimp only; omega) _))⟩
theorem refIsVal (v : Vl) (hl : v.loc.length ≤ 9223372036854775807) (w : World) : Calls Tryz.prog 29 #[vV v] w (Ret w (.bool (mayB v))) := by
  obtain ⟨l, n⟩ := v
  by_cases h : l = []
  · subst h; rw [mayB_num rfl]; exact refIsVal_num n w
  · rw [mayB_loc h]; exact refIsVal_loc l h hl n w
set_option maxRecDepth 100000 in
theorem readyClos (v : Vl) (hl : v.loc.length ≤ 9223372036854775807) (w : World) : Calls Tryz.prog 81 #[vV v] w (Ret w (.bool (!mayB v))) := by
  have B := al w (mkV v)
  have PM := hid (fun w => progMay v hl w)
  generalize mayB v = bb at *
  go_enter Tryz.func81, Tryz.ntmps81
  go_wp2_with fail
  refine (PM.out _).mono ?_
  rintro e w1 ⟨rfl, E⟩
  have B := B.trans (E.mono B.size)
  go_wp2_with fail
  go_ret
  exact ⟨rfl, B⟩
end Go.Proofs.YtigimkgmghjgoaaGreatDoor
namespace Go.Proofs.YtigimkgmghjgoaaGreatDoor
open Go.Maps
set_option linter.unusedVariables false

/-- what an instruction leads to, by the program: none: an error -/
def stepP (code : List Ins) (k : Nat) : Option Int := match code[k]? with
  | none => some (-1)
  | some i =>
    if i.op = 12 then (if code.findIdx? (isLab i.label) = some k then some (-1) else none)
    else if i.op = 11 then (match code.findIdx? (isLab i.label) with
      | none => none
      | some at' => if ((code.drop (k + 1)).findIdx? (isLab i.label)).isSome then some (at' : Int) else none)
    else some (-1)
/-- .., by the document's answer -/
def stepR (code : List Ins) (k : Nat) : Option Int := match code[k]? with
  | none => some (-1)
  | some i =>
    if i.op = 12 then (if (code.take k).any (isLab i.label) then none else some (-1))
    else if i.op = 11 then ((code.drop (k + 1)).findIdx? (isLab i.label)).map fun j => ((k + 1 + j : Nat) : Int)
    else some (-1)
def outsP (code : List Ins) (k : Nat) : List Int := (List.range k).map fun j => (stepP code j).getD (-1)
def outsR (code : List Ins) (k : Nat) : List Int := (List.range k).map fun j => (stepR code j).getD (-1)
def linksV (code : List Ins) : List Int × Int × Int :=
  if 256 < code.length then ([], 2, 0)
  else match code.findIdx? fun i => !checkI i with
    | some k => ([], 91, k)
    | none => match (List.range code.length).find? fun k => (stepR code k).isNone with
      | some k => ([], 93, k)
      | none => (outsR code code.length, 0, 0)
theorem isLab_iff {nm : Tx} {j : Ins} : isLab nm j = true ↔ j.op = 12 ∧ j.label = nm := by unfold isLab; simp
theorem step_none (code : List Ins) (k : Nat) : stepP code k = none ↔ stepR code k = none := by
  unfold stepP stepR
  cases hk : code[k]? with
  | none => simp
  | some i =>
    obtain ⟨hlt, he⟩ := List.getElem?_eq_some_iff.1 hk
    simp only
    by_cases h12 : i.op = 12
    · rw [if_pos h12, if_pos h12]
      have hself : isLab i.label code[k] = true := by rw [he, isLab_iff]; exact ⟨h12, rfl⟩
      by_cases hany : (code.take k).any (isLab i.label) = true
      · rw [if_pos hany]
        have : ¬ code.findIdx? (isLab i.label) = some k := by
          intro hf
          rw [List.findIdx?_eq_some_iff_getElem] at hf
          obtain ⟨_, _, h3⟩ := hf
          rw [List.any_eq_true] at hany
          obtain ⟨x, hx, hp⟩ := hany
          obtain ⟨j, hj, rfl⟩ := List.mem_iff_getElem.1 hx
          simp at hj
          rw [List.getElem_take] at hp
          exact absurd hp (h3 j (by omega))
        rw [if_neg this]
      · rw [if_neg hany]
        have : code.findIdx? (isLab i.label) = some k := by
          refine findIdx_some hlt hself (fun j hj hjk => ?_)
          cases hb : isLab i.label code[j] with
          | false => rfl
          | true =>
            refine absurd (List.any_eq_true.2 ⟨code[j], ?_, hb⟩) hany
            rw [List.mem_take_iff_getElem]
            exact ⟨j, by omega, rfl⟩
        rw [if_pos this]
    · rw [if_neg h12, if_neg h12]
      by_cases h11 : i.op = 11
      · rw [if_pos h11, if_pos h11]
        cases hl : (code.drop (k + 1)).findIdx? (isLab i.label) with
        | none =>
          cases code.findIdx? (isLab i.label) <;> simp
        | some j =>
          rw [List.findIdx?_eq_some_iff_getElem] at hl
          obtain ⟨hj, hp, -⟩ := hl
          cases hf : code.findIdx? (isLab i.label) with
          | none =>
            rw [List.findIdx?_eq_none_iff] at hf
            rw [List.getElem_drop] at hp
            rw [hf _ (List.getElem_mem _)] at hp
            cases hp
          | some at' => simp
      · rw [if_neg h11, if_neg h11]
/-- no error: both lead to the same -/
theorem step_same (code : List Ins) (h : ∀ k, k < code.length → stepP code k ≠ none) (k : Nat) : stepP code k = stepR code k := by
  unfold stepP stepR
  cases hk : code[k]? with
  | none => rfl
  | some i =>
    obtain ⟨hlt, he⟩ := List.getElem?_eq_some_iff.1 hk
    have hn := h k hlt
    have hn2 : stepR code k ≠ none := fun e => hn ((step_none code k).2 e)
    unfold stepP at hn
    unfold stepR at hn2
    rw [hk] at hn hn2
    simp only at hn hn2 ⊢
    by_cases h12 : i.op = 12
    · rw [if_pos h12] at hn hn2 ⊢
      rw [if_pos h12]
      split at hn
      · split at hn2
        · exact absurd rfl hn2
        · rename_i a b; rw [if_pos a, if_neg b]
      · exact absurd rfl hn
    · rw [if_neg h12] at hn hn2 ⊢
      rw [if_neg h12]
      by_cases h11 : i.op = 11
      · rw [if_pos h11] at hn hn2 ⊢
        rw [if_pos h11]
        cases hl : (code.drop (k + 1)).findIdx? (isLab i.label) with
        | none => rw [hl] at hn2; simp at hn2
        | some j =>
          rw [List.findIdx?_eq_some_iff_getElem] at hl
          obtain ⟨hj, hp, -⟩ := hl
          simp at hj
          rw [List.getElem_drop, isLab_iff] at hp
          have hL := h (k + 1 + j) (by omega)
          unfold stepP at hL
          rw [List.getElem?_eq_getElem (by omega)] at hL
          simp only at hL
          rw [if_pos hp.1, hp.2] at hL
          split at hL
          · rename_i hf
            rw [hf]; simp
          · exact absurd rfl hL
      · rw [if_neg h11, if_neg h11]
theorem outs_same (code : List Ins) (h : ∀ k, k < code.length → stepP code k ≠ none) (n : Nat) : outsP code n = outsR code n := by
  unfold outsP outsR
  exact List.map_congr_left fun k _ => by rw [step_same code h k]
theorem outsP_length (code : List Ins) (k : Nat) : (outsP code k).length = k := by simp [outsP]
theorem outsP_succ (code : List Ins) (k : Nat) : outsP code (k + 1) = outsP code k ++ [(stepP code k).getD (-1)] := by simp [outsP, List.range_succ]
theorem linksV_full {code : List Ins} (h : 256 < code.length) : linksV code = ([], 2, 0) := by unfold linksV; rw [if_pos h]
theorem linksV_bad {code : List Ins} (h : code.length ≤ 256) {k : Nat} (hk : k < code.length) (h1 : checkI code[k] = false) (h2 : ∀ j (hj : j < code.length), j < k → checkI code[j] = true) : linksV code = ([], 91, (k : Int)) := by
  unfold linksV
  rw [if_neg (by omega), findIdx_some hk (by rw [h1]; rfl) (fun j hj hjk => by rw [h2 j hj hjk]; rfl)]
theorem find_range {n k : Nat} {p : Nat → Bool} (hk : k < n) (h1 : p k = true) (h2 : ∀ j, j < k → p j = false) : (List.range n).find? p = some k := by
  rw [List.find?_range_eq_some]
  exact ⟨h1, by simpa using hk, fun j hj => by rw [h2 j hj]; rfl⟩
theorem linksV_label {code : List Ins} (h : code.length ≤ 256) (hc : ∀ j (hj : j < code.length), checkI code[j] = true) {k : Nat} (hk : k < code.length) (h1 : stepP code k = none) (h2 : ∀ j, j < k → stepP code j ≠ none) : linksV code = ([], 93, (k : Int)) := by
  unfold linksV
  rw [if_neg (by omega), findIdx_none (fun j hj => by rw [hc j hj]; rfl)]
  simp only
  rw [find_range hk (by rw [(step_none code k).1 h1]; rfl) (fun j hj => by
    cases hs : stepR code j with
    | none => exact absurd ((step_none code j).2 hs) (h2 j hj)
    | some v => rfl)]
theorem linksV_ok {code : List Ins} (h : code.length ≤ 256) (hc : ∀ j (hj : j < code.length), checkI code[j] = true) (h2 : ∀ j, j < code.length → stepP code j ≠ none) : linksV code = (outsP code code.length, 0, 0) := by
  unfold linksV
  rw [if_neg (by omega), findIdx_none (fun j hj => by rw [hc j hj]; rfl)]
  simp only
  have : (List.range code.length).find? (fun k => (stepR code k).isNone) = none := by
    rw [List.find?_eq_none]
    intro j hj
    simp at hj
    cases hs : stepR code j with
    | none => exact absurd ((step_none code j).2 hs) (h2 j hj)
    | some v => simp
  rw [this, outs_same code h2]
/-- what the map of labels holds: the first of each name, from place m on -/
def LabD (code : List Ins) (m : Nat) (D : DataW Unit) : Prop :=
  ∀ nm : Tx, (∀ j, (code.drop m).findIdx? (isLab nm) = some j → Maps.has D (.string nm) = true ∧ D.atKey (.string nm) (.lit (.int .i64 0)) = .lit (.int .i64 ((m + j : Nat) : Int))) ∧ ((code.drop m).findIdx? (isLab nm) = none → Maps.has D (.string nm) = false)
theorem LabD.nil (code : List Ins) (m : Nat) (h : code.length ≤ m) : LabD code m (.map []) := by
  intro nm
  rw [List.drop_eq_nil_of_le h]
  exact ⟨fun j hj => by simp at hj, fun _ => rfl⟩
theorem findIdx_cons (p : Ins → Bool) (x : Ins) (l : List Ins) : (x :: l).findIdx? p = if p x then some 0 else (l.findIdx? p).map (· + 1) := by
  rw [List.findIdx?_cons]
theorem LabD.skip {code : List Ins} {m : Nat} {D : DataW Unit} {i : Ins} (h : LabD code (m + 1) D) (hi : code[m]? = some i) (hop : i.op ≠ 12) : LabD code m D := by
  intro nm
  obtain ⟨hlt, he⟩ := List.getElem?_eq_some_iff.1 hi
  rw [List.drop_eq_getElem_cons hlt, he, findIdx_cons, if_neg (by rw [isLab_iff]; exact fun h => hop h.1)]
  obtain ⟨h1, h2⟩ := h nm
  refine ⟨fun j hj => ?_, fun hn => h2 (by simpa using hn)⟩
  rw [Option.map_eq_some_iff] at hj
  obtain ⟨j', hj', rfl⟩ := hj
  obtain ⟨a, b⟩ := h1 j' hj'
  exact ⟨a, by rw [b]; congr 3; omega⟩
theorem LabD.put {code : List Ins} {m : Nat} {D : DataW Unit} {i : Ins} (h : LabD code (m + 1) D) (hm : IsMap D) (hi : code[m]? = some i) (hop : i.op = 12) (hk : WideAt.IsKeyLit (.string i.label)) : LabD code m (D.put (.string i.label) (.lit (.int .i64 (m : Int)))) := by
  intro nm
  obtain ⟨hlt, he⟩ := List.getElem?_eq_some_iff.1 hi
  rw [List.drop_eq_getElem_cons hlt, he, findIdx_cons]
  obtain ⟨h1, h2⟩ := h nm
  by_cases hn : i.label = nm
  · subst hn
    rw [if_pos (by rw [isLab_iff]; exact ⟨hop, rfl⟩)]
    refine ⟨fun j hj => ?_, fun hn => by simp at hn⟩
    simp at hj; subst hj
    exact ⟨has_put_same hm hk _, by rw [atKey_put_same hm hk]; rfl⟩
  · rw [if_neg (by rw [isLab_iff]; exact fun h => hn h.2)]
    have hne : (Lit.string nm) ≠ .string i.label := fun e => hn (by cases e; rfl)
    refine ⟨fun j hj => ?_, fun hn' => ?_⟩
    · rw [Option.map_eq_some_iff] at hj
      obtain ⟨j', hj', rfl⟩ := hj
      obtain ⟨a, b⟩ := h1 j' hj'
      rw [has_put_other hne, atKey_put_other hne]
      exact ⟨a, by rw [b]; congr 3; omega⟩
    · rw [has_put_other hne]; exact h2 (by simpa using hn')
end Go.Proofs.YtigimkgmghjgoaaGreatDoor
namespace Go.Proofs.YtigimkgmghjgoaaGreatDoor
open Go.RowKit
set_option linter.unusedVariables false

attribute [local go_sem high] eqV neqV
theorem findIdxV_none {p : Vl → Bool} {l : List Vl} (h : ∀ (j : Nat) x, l[j]? = some x → p x = false) : l.findIdx? p = none := by
  rw [List.findIdx?_eq_none_iff]
  intro x hx
  obtain ⟨i, hi, rfl⟩ := List.mem_iff_getElem.1 hx
  exact h i _ (List.getElem?_eq_getElem hi)
theorem findIdxV_some {p : Vl → Bool} {l : List Vl} {k : Nat} {x : Vl} (hk : l[k]? = some x) (h1 : p x = true) (h2 : ∀ j y, j < k → l[j]? = some y → p y = false) : l.findIdx? p = some k := by
  obtain ⟨hlt, he⟩ := List.getElem?_eq_some_iff.1 hk
  rw [List.findIdx?_eq_some_iff_getElem]
  exact ⟨hlt, by rw [he]; exact h1, fun j hj => by rw [h2 j _ hj (List.getElem?_eq_getElem (by omega))]; simp⟩
/-- lengths that an int holds -/
def SmV (l : List Vl) : Prop := ∀ v ∈ l, v.loc.length ≤ 9223372036854775807
theorem SmV.at {l : List Vl} (h : SmV l) {k : Nat} {v : Vl} (hk : l[k]? = some v) : v.loc.length ≤ 9223372036854775807 := h v (List.mem_of_getElem? hk)
set_option maxRecDepth 100000 in
set_option maxHeartbeats 1600000 in
theorem progIndexV (l : List Vl) (a : Option Addr) (c : Nat) (w : World) (h : Vs w a l) (hs : SmV l) :
    Calls Tryz.prog 110 #[.slice a l.length c, .func (.func 81) #[] #[]] w (Ret w (.int .i64 (idxN (l.findIdx? fun v => !mayB v)))) := by
  have hl := h.len
  have B := Below.refl w.heap.size w
  have HS := hid hs
  clear hs
  go_enter Tryz.func110, Tryz.ntmps110
  go_wp2_with fail
  go_loopw [8] (fun i' wr => ∃ k : Nat, k ≤ l.length ∧ i' = .int .i64 k ∧ Hid (∀ j y, j < k → l[j]? = some y → (!mayB y) = false) ∧ Vs wr a l ∧ Below w.heap.size w wr) (fun i' _ => l.length - (intOf i').toNat)
  case atStart => exact ⟨0, by omega, rfl, hid (fun j y hj h' => absurd hj (Nat.not_lt_zero j)), h, B⟩
  case round =>
    clear h B
    obtain ⟨k, hk, rfl, HK, h, B⟩ := hrel
    by_cases hlt : k < l.length
    · obtain ⟨f, hf⟩ : ∃ f, l[k]? = some f := ⟨_, List.getElem?_eq_getElem hlt⟩
      obtain ⟨p0, p1⟩ := h.cells hf
      have ix := h.idx k hlt
      have CL := hid (fun w => readyClos f (HS.out.at hf) w)
      have HF := hid hf
      clear hf
      cases hm : (!mayB f)
      all_goals
        rw [hm] at CL
        have HM := hid hm
        clear hm
        go_wp2_with fail
        refine (CL.out _).mono ?_
        rintro e' w7 ⟨rfl, E7⟩
        have h := h.below E7; have B := B.trans (E7.mono B.size)
        clear p0 p1 ix
        go_wp2_with fail
      · go_roundw
        case rel => exact ⟨k + 1, by omega, by go_num, hid (fun j y hjk hy => by
          rcases Nat.lt_succ_iff_lt_or_eq.1 hjk with h1 | h1
          · exact HK.out j y h1 hy
          · subst h1; rw [HF.out] at hy; cases hy; exact HM.out), h, B⟩
        case measure => simp [intOf]; omega
      · have HR := hid (findIdxV_some (p := fun v => !mayB v) HF.out HM.out HK.out)
        go_ret
        exact ⟨ret_int (by rw [HR.out]; rfl), B⟩
    · have HR := hid (findIdxV_none (p := fun v => !mayB v) (fun j y hy => HK.out j y (by have := (List.getElem?_eq_some_iff.1 hy).1; omega) hy))
      go_wp2_with fail
      go_ret
      exact ⟨ret_int (by rw [HR.out]; rfl), B⟩
theorem find_all (l : List Vl) : (l.findIdx? fun v => !mayB v).isSome = !(l.all mayB) := by
  cases h : l.findIdx? fun v => !mayB v with
  | none =>
    rw [List.findIdx?_eq_none_iff] at h
    have : l.all mayB = true := List.all_eq_true.2 (fun x hx => by have := h x hx; simpa using this)
    rw [this]; rfl
  | some k =>
    rw [List.findIdx?_eq_some_iff_getElem] at h
    obtain ⟨hk, hp, -⟩ := h
    have : l.all mayB = false := List.all_eq_false.2 ⟨l[k], List.getElem_mem hk, by simpa using hp⟩
    rw [this]; rfl
theorem progContainsV (l : List Vl) (a : Option Addr) (c : Nat) (w : World) (h : Vs w a l) (hs : SmV l) :
    Calls Tryz.prog 80 #[.slice a l.length c, .func (.func 81) #[] #[]] w (Ret w (.bool (!(l.all mayB)))) := by
  have C := hid (progIndexV l a c w h hs)
  rw [← find_all]
  generalize (l.findIdx? fun v => !mayB v) = r at *
  generalize l.length = n at *
  clear h hs
  cases r with
  | none =>
    go_enter Tryz.func80, Tryz.ntmps80
    go_wp2_with fail
    refine C.out.mono ?_
    rintro e w1 ⟨rfl, E⟩
    have z : idxN none = -1 := rfl
    go_wp2_with fail
    go_ret
    exact ⟨rfl, E⟩
  | some k =>
    have z : idxN (some k) = (k : Int) := rfl
    have hk : (0 : Int) ≤ (k : Int) := by omega
    rw [z] at C
    clear z
    go_enter Tryz.func80, Tryz.ntmps80
    go_wp2_with fail
    refine C.out.mono ?_
    rintro e w1 ⟨rfl, E⟩
    go_wp2_with fail
    go_ret
    exact ⟨ret_bool (by simp), E⟩
/-- a thread that may be -/
def readyV (n : Nat) (l : List Vl) (at' : Int) : Bool := decide (0 ≤ at') && decide (at' < n) && decide (l.length = 32) && l.all mayB && decide (l[0]? = some vl0)
set_option maxRecDepth 100000 in
set_option maxHeartbeats 1600000 in
theorem progReady (n : Nat) (ac : Option Addr) (cc : Nat) (l : List Vl) (a : Option Addr) (c : Nat) (at' : Int) (w : World) (h : Vs w a l) (hs : SmV l) :
    Calls Tryz.prog 54 #[.slice ac n cc, .agg #[.slice a l.length c, .int .i64 at']] w (Ret w (.bool (readyV n l at'))) := by
  obtain ⟨m, hm⟩ : ∃ m, l.length = m := ⟨_, rfl⟩
  have B := al w (.cells #[.slice a m c, .int .i64 at'] 42)
  have HM := hid hm
  by_cases h1 : at' < 0
  · have HR := hid (show readyV n l at' = false by unfold readyV; rw [decide_eq_false (by omega : ¬ 0 ≤ at')]; simp)
    rw [HR.out]
    clear HR h hs
    rw [hm] at *
    clear hm
    go_enter Tryz.func54, Tryz.ntmps54
    go_wp2_with fail
    go_ret
    exact ⟨rfl, (by repeat (first | with_reducible assumption | with_reducible exact Below.refl _ _ | with_reducible refine bel_alloc ?_ _ | with_reducible refine bel_drew ?_ | with_reducible refine bel_set ?_ (by dsimp only; omega) _))⟩
  by_cases h2 : (n : Int) ≤ at'
  · have HR := hid (show readyV n l at' = false by unfold readyV; rw [decide_eq_false (by omega : ¬ at' < (n : Int))]; simp)
    rw [HR.out]
    clear HR h hs
    rw [hm] at *
    clear hm
    go_enter Tryz.func54, Tryz.ntmps54
    go_wp2_with fail
    go_ret
    exact ⟨rfl, (by repeat (first | with_reducible assumption | with_reducible exact Below.refl _ _ | with_reducible refine bel_alloc ?_ _ | with_reducible refine bel_drew ?_ | with_reducible refine bel_set ?_ (by dsimp only; omega) _))⟩
  by_cases h3 : m = 32
  · subst h3
    obtain ⟨x, hx⟩ : ∃ x, l[0]? = some x := ⟨_, List.getElem?_eq_getElem (by omega)⟩
    obtain ⟨p0, p1⟩ := (h.below B).cells hx
    have i0 : ∀ c w', (Instr.indexAt 40 (.slice a 32 c) (.int .i64 0)).run Tryz.prog w' = .ok (.pointer (some ⟨bk a, fo a, none⟩)) w' := by
      have := h.idx 0 (by omega)
      rw [hm] at this; exact this
    have p0 : (w.alloc (.cells #[.slice a 32 c, .int .i64 at'] 42)).cell? ⟨bk a, fo a, none⟩ = some (.string (tx x.loc)) := p0
    have p1 : (w.alloc (.cells #[.slice a 32 c, .int .i64 at'] 42)).cell? ⟨bk a, fo a + 1, none⟩ = some (.int .i64 x.n) := p1
    have q0 : w.cell? ⟨bk a, fo a, none⟩ = some (.string (tx x.loc)) := (h.cells hx).1
    have q1 : w.cell? ⟨bk a, fo a + 1, none⟩ = some (.int .i64 x.n) := (h.cells hx).2
    have hNE : ∀ w, (binOp .neq 50 (.agg #[.string (tx x.loc), .int .i64 x.n]) (.agg #[.string ⟨#[]⟩, .int .i64 0])).run Tryz.prog w = .ok (.bool (!decide (x = vl0))) w := fun w => neqV x vl0 w
    by_cases hx0 : x = vl0
    · have HR := hid (show readyV n l at' = !(!(l.all mayB)) by unfold readyV; rw [decide_eq_true (by omega : 0 ≤ at'), decide_eq_true (by omega : at' < (n : Int)), decide_eq_true hm, hx, decide_eq_true (show some x = some vl0 by rw [hx0])]; simp)
      rw [HR.out]
      have hd : (!decide (x = vl0)) = false := by rw [decide_eq_true hx0]; rfl
      have C := hid (progContainsV l a c _ (h.below B) hs)
      rw [hm] at C
      rw [hd] at hNE
      clear HR hd hx0 hx hs h
      rw [hm] at *
      clear hm
      go_enter Tryz.func54, Tryz.ntmps54
      go_wp2_with fail
      refine C.out.mono ?_
      rintro e w1 ⟨rfl, E⟩
      have B := B.trans (E.mono B.size)
      go_wp2_with fail
      go_ret
      exact ⟨ret_bool (by simp), B⟩
    · have HR := hid (show readyV n l at' = false by unfold readyV; rw [hx, decide_eq_false (show ¬ some x = some vl0 by intro e; exact hx0 (Option.some.inj e))]; simp)
      rw [HR.out]
      have hd : (!decide (x = vl0)) = true := by rw [decide_eq_false hx0]; rfl
      rw [hd] at hNE
      clear HR hd hx0 hx hs h
      rw [hm] at *
      clear hm
      go_enter Tryz.func54, Tryz.ntmps54
      go_wp2_with fail
      go_ret
      exact ⟨rfl, (by repeat (first | with_reducible assumption | with_reducible exact Below.refl _ _ | with_reducible refine bel_alloc ?_ _ | with_reducible refine bel_drew ?_ | with_reducible refine bel_set ?_ (by dsimp only; omega) _))⟩
  · have HR := hid (show readyV n l at' = false by unfold readyV; rw [decide_eq_false (by omega : ¬ l.length = 32)]; simp)
    rw [HR.out]
    have z : ((m : Int) != 32) = true := by simp; omega
    clear HR h hs
    rw [hm] at *
    clear hm h3
    go_enter Tryz.func54, Tryz.ntmps54
    go_wp2_with fail
    go_ret
    exact ⟨rfl, (by repeat (first | with_reducible assumption | with_reducible exact Below.refl _ _ | with_reducible refine bel_alloc ?_ _ | with_reducible refine bel_drew ?_ | with_reducible refine bel_set ?_ (by dsimp only; omega) _))⟩
end Go.Proofs.YtigimkgmghjgoaaGreatDoor
namespace Go.Proofs.YtigimkgmghjgoaaGreatDoor
open Go.ChangeShapes Go.WideShapes Go.Deep Go.RowKit Go.Joins
set_option linter.unusedVariables false

section
variable {H : Type} {enc : TypeId × Value → H} {P : Program} {w : World} {base : Nat} {spare : Nat → Bool} {held : Bool}
/-- a struct's one-cell fields, each read by itself, and the datum -/
theorem open_fieldsD {r : Reach} {b0 : Nat} {t : TypeId} {fs : Array Field} {v : Value} {d : DataW H} {p : List MemPlace} (hs : P.underlying t = some (.struct fs)) (hone : oneCellFields P fs = true) (hC : P.cellsOf t = fs.size)
    (hv : Value.okWide P w r b0 t v) (h : DataW.Trod enc P w base spare held t v d p) :
    ∃ (cs : Array Value) (xs : List (DataW H × List MemPlace)), v = .agg cs ∧ cs.size = fs.size ∧ d = .agg (xs.map (·.1)) ∧ xs.length = fs.size ∧ ∀ (j : Nat) (f : Field), fs[j]? = some f → ∃ (u : Value) (y : DataW H × List MemPlace) (n : Nat), cs[j]? = some u ∧ xs[j]? = some y ∧ DataW.trod enc P w base spare held n f.type [u] = some y := by
  obtain ⟨cs, rfl, hsz⟩ := okWide_struct hs hv
  obtain ⟨fuel, hf⟩ := h
  obtain ⟨xs, n, _, hx, _, hlen, hg⟩ := DataW.trod_struct hs hf
  simp only [Prod.mk.injEq] at hx
  refine ⟨cs, xs, rfl, hsz.trans hC, hx.1, hlen, fun j f hj => ?_⟩
  obtain ⟨o0, k0⟩ := hone_of hone j f hj
  have hjl : j < fs.size := (Array.getElem?_eq_some_iff.1 hj).1
  have hjc : j < cs.size := by rw [hsz, hC]; exact hjl
  have h1 := hg j f hj
  rw [o0, k0] at h1
  have hys : xs[j]? = some (xs[j]'(by omega)) := List.getElem?_eq_getElem (by omega)
  refine ⟨cs[j], xs[j]'(by omega), n, Array.getElem?_eq_getElem hjc, hys, ?_⟩
  have e : (Value.agg cs).cells.toList = cs.toList := rfl
  rw [e] at h1
  have : (cs.toList.drop j).take 1 = [cs[j]] := by
    rw [List.drop_eq_getElem_cons (by simpa using hjc)]
    simp
  rw [this] at h1
  exact h1.trans hys
end

set_option maxRecDepth 100000 in
theorem open_Vs_raw {H : Type} {enc : TypeId × Value → H} {W : World} {fuel : Nat} {u : Value} {x : DataW H × List MemPlace}
    (h : DataW.trod enc Tryz.prog W 0 (fun _ => true) true fuel 40 [u] = some x) :
    ∃ (a : Option Addr) (l : List Vl) (cap : Nat), u = .slice a l.length cap ∧ Row W a (valsC l) ∧ l.length ≤ cap ∧ SmV l ∧ (l = [] ∨ ∃ E S, x.1 = .slice E S ∧ l.length ≤ E.length + S.length) := by
  rcases open_slice_fields (P := Tryz.prog) Tryz.underlying40 Tryz.underlying50 (by kernel_rfl) (by kernel_rfl) h with ⟨hcs, _⟩ | ⟨x0, len', cap', m, D, Pl, hcs, _, hl, hm, hmm, hx, hi⟩
  · simp at hcs
    subst hcs
    exact ⟨none, [], 0, rfl, Row.nil _ _, by simp, fun v hv => by simp at hv, .inl rfl⟩
  · simp at hcs
    subst hcs
    simp only [if_true] at hmm
    subst hmm
    have key : ∀ i, i < len' → ∃ e : Vl, e.loc.length ≤ 9223372036854775807 ∧ ∀ j, j < 2 → W.cell? (x0.add (i * 2 + j)) = (vC e)[j]? := by
      intro i hil
      obtain ⟨ys, n, -, -, -, hf⟩ := hi i (by omega)
      obtain ⟨v0, y0, g0, -, r0⟩ := hf 0 _ rfl
      obtain ⟨v1, y1, g1, -, r1⟩ := hf 1 _ rfl
      obtain ⟨s0, h0, -, l0⟩ := DataW.trod_string Tryz.underlying9 r0
      obtain ⟨k1, h1, -⟩ := DataW.trod_int Tryz.underlying3 r1
      cases h0; cases h1
      obtain ⟨t0, rfl⟩ := tx_of s0
      refine ⟨⟨t0, k1⟩, by rw [tx_size] at l0; unfold maxLen at l0; exact l0, fun j hj => ?_⟩
      match j, hj with
      | 0, _ => exact g0
      | 1, _ => exact g1
    obtain ⟨f, hf0⟩ : ∃ f : Nat → Vl, ∀ i, i < len' → (f i).loc.length ≤ 9223372036854775807 ∧ ∀ j, j < 2 → W.cell? (x0.add (i * 2 + j)) = (vC (f i))[j]? :=
      ⟨fun i => if h : i < len' then Classical.choose (key i h) else vl0, fun i hil => by simp only [hil, dite_true]; exact Classical.choose_spec (key i hil)⟩
    have hf := fun i hi => (hf0 i hi).2
    refine ⟨some x0, (List.range len').map f, m, by simp, ⟨?_, ?_⟩, by simpa using hl, ?_, .inr ⟨_, _, by rw [hx], by simp⟩⟩
    · intro hne
      have h0 : 0 < len' := by
        rcases Nat.eq_zero_or_pos len' with h0 | h0
        · subst h0; exact absurd rfl hne
        · exact h0
      obtain ⟨b, off, spot⟩ := x0
      have h1 := hf 0 h0 0 (by omega)
      have hspot : spot = none := by simpa [Addr.add] using World.cell?_spot h1
      subst hspot; rfl
    · intro i hil
      rw [valsC_length] at hil
      simp only [List.length_map, List.length_range] at hil
      have hx0 := hf 0 (by omega) 0 (by omega)
      obtain ⟨b, off, spot⟩ := x0
      have hspot : spot = none := by simpa [Addr.add] using World.cell?_spot hx0
      subst hspot
      have h1 := hf (i / 2) (by omega) (i % 2) (Nat.mod_lt _ (by omega))
      have e1 : i / 2 * 2 + i % 2 = i := by omega
      have h2 := valsC_get ((List.range len').map f) (i / 2) (i % 2) (f (i / 2)) (by simp [(by omega : i / 2 < len')]) (Nat.mod_lt _ (by omega))
      rw [e1] at h1 h2
      rw [Addr.add_lit] at h1
      simp only [bk_some, fo_some]
      rw [h1, h2]
    · intro v hv
      obtain ⟨k, hk, rfl⟩ := List.mem_map.1 hv
      exact (hf0 k (by simpa using hk)).1
theorem bytesV : Tryz.prog.bytesOf 50 = 24 := by kernel_rfl
set_option maxRecDepth 100000 in
/-- a slice of values -/
theorem open_Vs {H : Type} {enc : TypeId × Value → H} {W : World} {a : Option Addr} {len cap : Nat} {d : DataW H} {p : List MemPlace}
    (h : DataW.Trod enc Tryz.prog W 0 (fun _ => true) true 40 (.slice a len cap) d p)
    {ts : List TypeId} {ds : List (DataW H)} (hsz : (DataW.weightsEach Tryz.prog ts ds).all (· ≤ reachBytes) = true) (j : Nat) (htj : ts[j]? = some 40) (hdj : ds[j]? = some d) :
    ∃ l : List Vl, len = l.length ∧ Vs W a l ∧ l.length ≤ cap ∧ l.length * 24 ≤ 140737488351232 ∧ SmV l := by
  obtain ⟨fuel, hf⟩ := h
  obtain ⟨a', l, cap', he, hr, hc, hs, hx⟩ := open_Vs_raw (u := .slice a len cap) hf
  cases he
  have hb : l.length * 24 ≤ 140737488351232 := by
    rcases hx with rfl | ⟨E, S, he, hl⟩
    · simp
    · dsimp only at he
      subst he
      have := sized_slice hsz htj hdj Tryz.underlying40
      rw [bytesV] at this
      simp only [reachBytes] at this
      have h2 := Nat.mul_le_mul_right 24 hl
      omega
  exact ⟨l, rfl, ⟨hr, by omega⟩, hc, hb, hs⟩
set_option maxRecDepth 100000 in
/-- a thread -/
theorem open_T {H : Type} {enc : TypeId × Value → H} {W : World} {r : Reach} {b0 : Nat} {v : Value} {d : DataW H} {p : List MemPlace} (hv : Value.okWide Tryz.prog W r b0 42 v)
    (h : DataW.Trod enc Tryz.prog W 0 (fun _ => true) true 42 v d p)
    {ts : List TypeId} {ds : List (DataW H)} (hsz : (DataW.weightsEach Tryz.prog ts ds).all (· ≤ reachBytes) = true) (j : Nat) (htj : ts[j]? = some 42) (hdj : ds[j]? = some d) :
    ∃ (a : Option Addr) (l : List Vl) (cap : Nat) (q : Int), v = .agg #[.slice a l.length cap, .int .i64 q] ∧ Vs W a l ∧ l.length * 24 ≤ 140737488351232 ∧ SmV l := by
  obtain ⟨cs, xs, rfl, hsz', hd, hxl, hf⟩ := open_fieldsD Tryz.underlying42 (by kernel_rfl) (by kernel_rfl) hv h
  obtain ⟨u0, y0, n0, g0, e0, r0⟩ := hf 0 _ rfl
  obtain ⟨u1, y1, n1, g1, e1, r1⟩ := hf 1 _ rfl
  obtain ⟨a', l, cap', rfl, hr, hc, hs, hx⟩ := open_Vs_raw r0
  obtain ⟨k1, h1, -⟩ := DataW.trod_int Tryz.underlying3 r1
  cases h1
  have hz : cs.size = 2 := by rw [hsz']; rfl
  have hb : l.length * 24 ≤ 140737488351232 := by
    rcases hx with rfl | ⟨E, S, he, hl⟩
    · simp
    · subst hd
      have hw := List.all_eq_true.1 hsz ((E.length + S.length) * 24) (DataW.weights_mem_each htj hdj _ (by
        obtain ⟨z0, zr, rfl⟩ : ∃ z0 zr, xs = z0 :: zr := by
          cases xs with
          | nil => simp at e0
          | cons z0 zr => exact ⟨z0, zr, rfl⟩
        simp at e0
        subst e0
        simp [DataW.weights, DataW.weightsEach, Tryz.underlying42, Tryz.underlying40, he, bytesV]))
      have hw : (E.length + S.length) * 24 ≤ reachBytes := of_decide_eq_true hw
      simp only [reachBytes] at hw
      have h2 := Nat.mul_le_mul_right 24 hl
      omega
  refine ⟨a', l, cap', k1, ?_, ⟨hr, by omega⟩, hb, hs⟩
  congr 1
  apply Array.ext_getElem?
  intro j
  match j with
  | 0 => exact g0
  | 1 => exact g1
  | j + 2 => rw [Array.getElem?_eq_none (by omega), Array.getElem?_eq_none (by simp)]
set_option maxRecDepth 100000 in
/-- a value -/
theorem open_V {H : Type} {enc : TypeId × Value → H} {W : World} {r : Reach} {b0 : Nat} {v : Value} {d : DataW H} {p : List MemPlace} (hv : Value.okWide Tryz.prog W r b0 50 v)
    (h : DataW.Trod enc Tryz.prog W 0 (fun _ => true) true 50 v d p) : ∃ x : Vl, v = vV x ∧ x.loc.length ≤ 9223372036854775807 := by
  obtain ⟨cs, rfl, hsz, hf⟩ := open_fields Tryz.underlying50 (by kernel_rfl) (by kernel_rfl) hv h
  obtain ⟨u0, y0, n0, g0, r0⟩ := hf 0 _ rfl
  obtain ⟨u1, y1, n1, g1, r1⟩ := hf 1 _ rfl
  obtain ⟨s0, h0, -, l0⟩ := DataW.trod_string Tryz.underlying9 r0
  obtain ⟨k1, h1, -⟩ := DataW.trod_int Tryz.underlying3 r1
  cases h0; cases h1
  obtain ⟨t0, rfl⟩ := tx_of s0
  have hz : cs.size = 2 := by rw [hsz]; rfl
  refine ⟨⟨t0, k1⟩, ?_, by rw [tx_size] at l0; unfold maxLen at l0; exact l0⟩
  show Value.agg cs = .agg #[.string (tx t0), .int .i64 k1]
  congr 1
  apply Array.ext_getElem?
  intro j
  match j with
  | 0 => exact g0
  | 1 => exact g1
  | j + 2 => rw [Array.getElem?_eq_none (by omega), Array.getElem?_eq_none (by simp)]
end Go.Proofs.YtigimkgmghjgoaaGreatDoor
namespace Go.Proofs.YtigimkgmghjgoaaGreatDoor
open Go.RowKit
set_option linter.unusedVariables false

attribute [local go_sem high] eqV neqV
theorem ready_bad {n : Nat} {l : List Vl} {at' : Int} {k : Nat} {x : Vl} (hx : l[k]? = some x) (h : mayB x = false) : readyV n l at' = false := by
  unfold readyV
  rw [show l.all mayB = false from List.all_eq_false.2 ⟨x, List.mem_of_getElem? hx, by rw [h]; simp⟩]
  simp
set_option maxRecDepth 100000 in
set_option maxHeartbeats 3200000 in
theorem refIsThread (n : Nat) (l : List Vl) (a : Option Addr) (c : Nat) (at' : Int) (w : World) (h : Vs w a l) (hs : SmV l) :
    Calls Tryz.prog 57 #[.int .i64 n, .agg #[.slice a l.length c, .int .i64 at']] w (Ret w (.bool (readyV n l at'))) := by
  obtain ⟨m, hm⟩ : ∃ m, l.length = m := ⟨_, rfl⟩
  have B := al w (.cells #[.slice a m c, .int .i64 at'] 42)
  by_cases h1 : at' < 0
  · have HR := hid (show readyV n l at' = false by unfold readyV; rw [decide_eq_false (by omega : ¬ 0 ≤ at')]; simp)
    rw [HR.out]
    clear HR h hs
    rw [hm]
    clear hm
    go_enter Tryz.func57, Tryz.ntmps57
    go_wp2_with fail
    go_ret
    exact ⟨rfl, (by repeat (first | with_reducible assumption | with_reducible exact Below.refl _ _ | with_reducible refine bel_alloc ?_ _ | with_reducible refine bel_drew ?_ | with_reducible refine bel_set ?_ (by dsimp only; omega) _))⟩
  by_cases h2 : (n : Int) ≤ at'
  · have HR := hid (show readyV n l at' = false by unfold readyV; rw [decide_eq_false (by omega : ¬ at' < (n : Int))]; simp)
    rw [HR.out]
    clear HR h hs
    rw [hm]
    clear hm
    go_enter Tryz.func57, Tryz.ntmps57
    go_wp2_with fail
    go_ret
    exact ⟨rfl, (by repeat (first | with_reducible assumption | with_reducible exact Below.refl _ _ | with_reducible refine bel_alloc ?_ _ | with_reducible refine bel_drew ?_ | with_reducible refine bel_set ?_ (by dsimp only; omega) _))⟩
  by_cases h3 : m = 32
  · subst h3
    have HG := hid (fun (k : Nat) (hk : k < 32) => show ∃ i, l[k]? = some i from ⟨_, List.getElem?_eq_getElem (by omega)⟩)
    have hix := h.idx
    rw [hm] at hix
    have HX := hid hix
    have HS := hid hs
    have HV := hid (h.below B)
    have HBAD := hid (fun (k : Nat) (x : Vl) (hx : l[k]? = some x) (hb : mayB x = false) => ready_bad (n := n) (at' := at') hx hb)
    have HGO := hid (fun (h0 : ∀ (j : Nat) y, j < 32 → l[j]? = some y → mayB y = true) (x : Vl) (hx : l[0]? = some x) => show readyV n l at' = decide (x = vl0) by
      have hall : l.all mayB = true := List.all_eq_true.2 (fun x hx => by
        obtain ⟨j, hj, rfl⟩ := List.mem_iff_getElem.1 hx
        exact h0 j _ (by omega) (List.getElem?_eq_getElem hj))
      unfold readyV
      rw [decide_eq_true (by omega : 0 ≤ at'), decide_eq_true (by omega : at' < (n : Int)), decide_eq_true hm, hall, hx]
      simp)
    rw [hm]
    generalize readyV n l at' = r at *
    clear hix hs h hm
    go_enter Tryz.func57, Tryz.ntmps57
    go_wp2_with fail
    go_loopw [5] (fun i wr => ∃ k : Nat, k ≤ 32 ∧ i = .int .i64 k ∧ Hid (∀ (j : Nat) y, j < k → l[j]? = some y → mayB y = true) ∧ Below (w.alloc (.cells #[.slice a 32 c, .int .i64 at'] 42)).heap.size (w.alloc (.cells #[.slice a 32 c, .int .i64 at'] 42)) wr) (fun i _ => 32 - (intOf i).toNat)
    case atStart => exact ⟨0, by omega, rfl, hid (fun j y hj => absurd hj (Nat.not_lt_zero j)), Below.refl _ _⟩
    case round =>
      obtain ⟨k, hk, rfl, HK, E⟩ := hrel
      have b0 : wr.cell? ⟨w.heap.size, 0, none⟩ = some (.slice a 32 c) := by
        rw [E.cell (p := ⟨w.heap.size, 0, none⟩) (by simp)]
        have hh := heap_alloc_new w (.cells #[.slice a 32 c, .int .i64 at'] 42)
        simp only [World.cell?, hh]; simp
      have hsz : w.heap.size < wr.heap.size := by have := E.size; simp at this; omega
      have hv := HV.out.below E
      have BB := B.trans (E.mono B.size)
      by_cases hlt : k < 32
      · obtain ⟨x, hx⟩ := HG.out k hlt
        obtain ⟨p0, p1⟩ := hv.cells hx
        have ix := HX.out k hlt
        have IV := hid (fun w => refIsVal x (HS.out.at hx) w)
        have HXX := hid hx
        clear hx
        cases hb : mayB x
        · have HR := hid (HBAD.out k x HXX.out hb)
          rw [hb] at IV
          clear hb
          go_wp2_with fail
          refine (IV.out _).mono ?_
          rintro e w2 ⟨rfl, E2⟩
          go_wp2_with fail
          go_ret
          exact ⟨ret_bool HR.out.symm, BB.trans (E2.mono BB.size)⟩
        · rw [hb] at IV
          have HK2 := hid (show ∀ (j : Nat) y, j < k + 1 → l[j]? = some y → mayB y = true from fun j y hj hy => by
            rcases Nat.lt_succ_iff_lt_or_eq.1 hj with h | h
            · exact HK.out j y h hy
            · subst h; rw [HXX.out] at hy; cases hy; exact hb)
          clear hb
          go_wp2_with fail
          refine (IV.out _).mono ?_
          rintro e w2 ⟨rfl, E2⟩
          have E := E.trans (E2.mono E.size)
          clear p0 p1 ix b0
          go_wp2_with fail
          go_roundw
          case rel => exact ⟨k + 1, by omega, by go_num, HK2, E⟩
          case measure => simp [intOf]; omega
      · obtain rfl : k = 32 := by omega
        obtain ⟨x, hx⟩ := HG.out 0 (by omega)
        have HR := hid (HGO.out HK.out x hx)
        obtain ⟨q0, q1⟩ := hv.cells hx
        have p0 : wr.cell? ⟨bk a, fo a, none⟩ = some (.string (tx x.loc)) := q0
        have p1 : wr.cell? ⟨bk a, fo a + 1, none⟩ = some (.int .i64 x.n) := by simpa using q1
        have i0 : ∀ c w', (Instr.indexAt 40 (.slice a 32 c) (.int .i64 0)).run Tryz.prog w' = .ok (.pointer (some ⟨bk a, fo a, none⟩)) w' := HX.out 0 (by omega)
        clear q0 q1 hx hlt
        obtain ⟨xl, xn⟩ := x
        by_cases hl : xl = []
        · subst hl
          have z0 : ((tx ([] : Tx)).toList == []) = true := by rw [tx_toList]; rfl
          have z1 : (xn == 0) = decide ((⟨[], xn⟩ : Vl) = vl0) := by rw [Bool.eq_iff_iff]; simp [vl0]
          rw [← z1] at HR
          clear z1
          go_wp2_with fail
          go_ret
          exact ⟨ret_bool HR.out.symm, BB⟩
        · have z0 : ((tx xl).toList == []) = false := tx_ne xl [] hl
          have z1 : decide ((⟨xl, xn⟩ : Vl) = vl0) = false := by simp [vl0, hl]
          rw [z1] at HR
          clear z1 hl
          go_wp2_with fail
          go_ret
          exact ⟨ret_bool HR.out.symm, BB⟩
  · have HR := hid (show readyV n l at' = false by unfold readyV; rw [decide_eq_false (by omega : ¬ l.length = 32)]; simp)
    rw [HR.out]
    have z : ((m : Int) != 32) = true := by simp; omega
    clear HR h hs
    rw [hm]
    clear hm h3
    go_enter Tryz.func57, Tryz.ntmps57
    go_wp2_with fail
    go_ret
    exact ⟨rfl, (by repeat (first | with_reducible assumption | with_reducible exact Below.refl _ _ | with_reducible refine bel_alloc ?_ _ | with_reducible refine bel_drew ?_ | with_reducible refine bel_set ?_ (by dsimp only; omega) _))⟩
end Go.Proofs.YtigimkgmghjgoaaGreatDoor
namespace Go.Proofs.YtigimkgmghjgoaaGreatDoor
open Go.RowKit
set_option linter.unusedVariables false

attribute [local go_sem high] eqV neqV
theorem lit0V (w : World) : Own (w.alloc (.cells #[] 50)) w.heap.size 50 2 (some ⟨w.heap.size, 0, none⟩) 0 0 [] :=
  World.ownsRow_lit w #[] 0 (Nat.le_refl _) (by unfold maxLen; omega) (by simp)
/-- values in memory of the call's own -/
def RetV (l : List Vl) (w : World) (e : Ending) (w' : World) : Prop := ∃ a c, e = .returned (.slice a l.length c) ∧ OwnV w' w.heap.size a l.length c l ∧ Below w.heap.size w w'
set_option maxRecDepth 100000 in
set_option maxHeartbeats 1600000 in
theorem progCloneV (l : List Vl) (h0 : l ≠ []) (hl : l.length ≤ 1000) (a : Option Addr) (c : Nat) (w : World) (h : Vs w a l) :
    Calls Tryz.prog 55 #[.slice a l.length c] w (RetV l w) := by
  obtain ⟨n, hn⟩ : ∃ n, l.length = n := ⟨_, rfl⟩
  have ha : a = some ⟨bk a, fo a, none⟩ := h.row.head (by
    intro e
    have h1 := valsC_length l
    rw [e] at h1
    have := List.length_pos_iff.2 h0
    simp at h1; omega)
  have o0 := lit0V w
  have A0 := al w (.cells #[] 50)
  have hI0 := h.below A0
  have hrow : (valsC l).length = n * 2 := by rw [valsC_length, hn]
  obtain ⟨b, o, hb⟩ : ∃ b o, a = some ⟨b, o, none⟩ := ⟨_, _, ha⟩
  have hrw := hI0.row
  unfold RetV
  rw [hn] at hl ⊢
  clear ha hn h hI0 h0
  subst hb
  have hEQ : ∀ w, (binOp .eql 40 (.slice (some ⟨b, o, none⟩) n c) (.slice none 0 0)).run Tryz.prog w = .ok (.bool false) w := fun w => by
    first | rfl | (simp [binOp, Op.equal, Op.equalIn, go_sem]; done) | kernel_rfl
  go_enter Tryz.func55, Tryz.ntmps55
  go_wp2_with (at_builtin; go_loud (refine wpList_app vsl (.tmp 5) (.tmp 6) rfl rfl rfl o0 rfl hrw hrow (valsC_oneCell _) A0 A0.size (by omega) (by unfold maxLen; omega) ?_))
  intro a1 c1 w1 o1 g1 E1
  have T : OwnV w1 w.heap.size a1 n c1 l := by simpa [OwnV] using o1
  clear o0 A0 o1 g1 hrw
  go_wp2_with fail
  go_ret
  exact ⟨a1, c1, by simp, T, E1⟩
def MixP (r : Option Vl) (w : World) (e : Ending) (w' : World) : Prop := e = .returned (.tuple #[vV (r.getD vl0), .bool r.isSome]) ∧ Below w.heap.size w w'
theorem MixP.yes {r : Option Vl} {w w' : World} {e : Ending} {t : Tx} {n : Int} (h : r = some ⟨t, n⟩) (he : e = .returned (.tuple #[.agg #[.string (tx t), .int .i64 n], .bool true])) (hb : Below w.heap.size w w') : MixP r w e w' := by
  subst h he; exact ⟨rfl, hb⟩
theorem MixP.yes0 {r : Option Vl} {w w' : World} {e : Ending} {n : Int} (h : r = some ⟨[], n⟩) (he : e = .returned (.tuple #[.agg #[.string ⟨#[]⟩, .int .i64 n], .bool true])) (hb : Below w.heap.size w w') : MixP r w e w' := by
  subst h he; exact ⟨rfl, hb⟩
theorem MixP.no {r : Option Vl} {w w' : World} {e : Ending} (h : r = none) (he : e = .returned (.tuple #[.agg #[.string ⟨#[]⟩, .int .i64 0], .bool false])) (hb : Below w.heap.size w w') : MixP r w e w' := by
  subst h he; exact ⟨rfl, hb⟩
set_option maxRecDepth 100000 in
set_option maxHeartbeats 1600000 in
theorem refMix_num (op : Int) (ho : op = 8 ∨ op = 9 ∨ op = 10) (x y : Int) (hx : -2147483648 ≤ x ∧ x ≤ 2147483647) (hy : -2147483648 ≤ y ∧ y ≤ 2147483647) (w : World) :
    Calls Tryz.prog 58 #[.int .i64 op, vV ⟨[], x⟩, vV ⟨[], y⟩] w (MixP (some ⟨[], f32 op x y⟩) w) := by
  have z0 : ((tx ([] : Tx)).toList == []) = true := by rw [tx_toList]; rfl
  have hw : IntKind.i64.wrap (x + y) = x + y := IntWalk.i64_in _ (by omega)
  have r1 := round_or x y; have r2 := round_xor x y; have r3 := round_add x y
  rcases ho with rfl | rfl | rfl
  · obtain ⟨m, hm⟩ : ∃ m, bits .or .i64 x y = m := ⟨_, rfl⟩
    rw [hm] at r1
    have RR := hid (fun w => refRound m w)
    rw [r1] at RR
    have HF := hid (show (some (⟨[], f32 8 x y⟩ : Vl)) = some ⟨[], or32 x y⟩ from rfl)
    generalize or32 x y = z at *
    generalize some (⟨[], f32 8 x y⟩ : Vl) = r at *
    clear r1 r2 r3
    go_enter Tryz.func58, Tryz.ntmps58
    go_wp2_with (go_at_call 91; refine (RR.out _).mono ?_; rintro e w' ⟨rfl, rfl⟩)
    exact bodyPost_ret (by simp [results, Tryz.results58, go_sem]) rfl (MixP.yes0 HF.out rfl (by repeat (first | with_reducible assumption | with_reducible exact Below.refl _ _ | with_reducible refine bel_alloc ?_ _ | with_reducible refine bel_drew ?_ | with_reducible refine bel_set ?_ (by dsimp only; omega) _)))
  · obtain ⟨m, hm⟩ : ∃ m, bits .xor .i64 x y = m := ⟨_, rfl⟩
    rw [hm] at r2
    have RR := hid (fun w => refRound m w)
    rw [r2] at RR
    have HF := hid (show (some (⟨[], f32 9 x y⟩ : Vl)) = some ⟨[], xor32 x y⟩ from rfl)
    generalize xor32 x y = z at *
    generalize some (⟨[], f32 9 x y⟩ : Vl) = r at *
    clear r1 r2 r3
    go_enter Tryz.func58, Tryz.ntmps58
    go_wp2_with (go_at_call 91; refine (RR.out _).mono ?_; rintro e w' ⟨rfl, rfl⟩)
    exact bodyPost_ret (by simp [results, Tryz.results58, go_sem]) rfl (MixP.yes0 HF.out rfl (by repeat (first | with_reducible assumption | with_reducible exact Below.refl _ _ | with_reducible refine bel_alloc ?_ _ | with_reducible refine bel_drew ?_ | with_reducible refine bel_set ?_ (by dsimp only; omega) _)))
  · have RR := hid (fun w => refRound (x + y) w)
    rw [r3] at RR
    have HF := hid (show (some (⟨[], f32 10 x y⟩ : Vl)) = some ⟨[], add32 x y⟩ from rfl)
    generalize add32 x y = z at *
    generalize some (⟨[], f32 10 x y⟩ : Vl) = r at *
    clear r1 r2 r3
    go_enter Tryz.func58, Tryz.ntmps58
    go_wp2_with (go_at_call 91; refine (RR.out _).mono ?_; rintro e w' ⟨rfl, rfl⟩)
    exact bodyPost_ret (by simp [results, Tryz.results58, go_sem]) rfl (MixP.yes0 HF.out rfl (by repeat (first | with_reducible assumption | with_reducible exact Below.refl _ _ | with_reducible refine bel_alloc ?_ _ | with_reducible refine bel_drew ?_ | with_reducible refine bel_set ?_ (by dsimp only; omega) _)))
set_option maxRecDepth 100000 in
set_option maxHeartbeats 1600000 in
theorem refMix_loc (op : Int) (a b : Vl) (h : ¬ (a.loc = [] ∧ b.loc = [])) (w : World) :
    Calls Tryz.prog 58 #[.int .i64 op, vV a, vV b] w (MixP (mixV op a b) w) := by
  have HM := hid (show mixV op a b = if a.loc ≠ [] ∧ b.loc = [] ∧ b.n = 0 then some a else if b.loc ≠ [] ∧ a.loc = [] ∧ a.n = 0 then some b else none by unfold mixV; rw [if_neg h])
  generalize mixV op a b = r at *
  obtain ⟨al', an⟩ := a
  obtain ⟨bl', bn⟩ := b
  simp only at h HM
  by_cases ha : al' = []
  · subst ha
    have hb : bl' ≠ [] := fun e => h ⟨rfl, e⟩
    have z0 : ((tx ([] : Tx)).toList == []) = true := by rw [tx_toList]; rfl
    have z1 : ((tx ([] : Tx)).toList != []) = false := by rw [tx_toList]; rfl
    have y0 : ((tx bl').toList == []) = false := tx_ne bl' [] hb
    have y1 : ((tx bl').toList != []) = true := by rw [bne, y0]; rfl
    by_cases hn : an = 0
    · subst hn
      have HF := hid (show r = some ⟨bl', bn⟩ by rw [HM.out, if_neg (by simp), if_pos ⟨hb, rfl, rfl⟩])
      clear h hb HM
      go_enter Tryz.func58, Tryz.ntmps58
      go_wp2_with fail
      exact bodyPost_ret (by simp [results, Tryz.results58, go_sem]) rfl (MixP.yes HF.out rfl (by repeat (first | with_reducible assumption | with_reducible exact Below.refl _ _ | with_reducible refine bel_alloc ?_ _ | with_reducible refine bel_drew ?_ | with_reducible refine bel_set ?_ (by dsimp only; omega) _)))
    · have HF := hid (show r = none by rw [HM.out, if_neg (by simp), if_neg (fun h => hn h.2.2)])
      have zn : (an == 0) = false := by simpa using hn
      clear h hb HM hn
      go_enter Tryz.func58, Tryz.ntmps58
      go_wp2_with fail
      exact bodyPost_ret (by simp [results, Tryz.results58, go_sem]) rfl (MixP.no HF.out rfl (by repeat (first | with_reducible assumption | with_reducible exact Below.refl _ _ | with_reducible refine bel_alloc ?_ _ | with_reducible refine bel_drew ?_ | with_reducible refine bel_set ?_ (by dsimp only; omega) _)))
  · have z0 : ((tx al').toList == []) = false := tx_ne al' [] ha
    have z1 : ((tx al').toList != []) = true := by rw [bne, z0]; rfl
    by_cases hb : bl' = []
    · subst hb
      have y0 : ((tx ([] : Tx)).toList == []) = true := by rw [tx_toList]; rfl
      have y1 : ((tx ([] : Tx)).toList != []) = false := by rw [tx_toList]; rfl
      by_cases hn : bn = 0
      · subst hn
        have HF := hid (show r = some ⟨al', an⟩ by rw [HM.out, if_pos ⟨ha, rfl, rfl⟩])
        clear h ha HM
        go_enter Tryz.func58, Tryz.ntmps58
        go_wp2_with fail
        exact bodyPost_ret (by simp [results, Tryz.results58, go_sem]) rfl (MixP.yes HF.out rfl (by repeat (first | with_reducible assumption | with_reducible exact Below.refl _ _ | with_reducible refine bel_alloc ?_ _ | with_reducible refine bel_drew ?_ | with_reducible refine bel_set ?_ (by dsimp only; omega) _)))
      · have HF := hid (show r = none by rw [HM.out, if_neg (fun h => hn h.2.2), if_neg (by simp)])
        have zn : (bn == 0) = false := by simpa using hn
        clear h ha HM hn
        go_enter Tryz.func58, Tryz.ntmps58
        go_wp2_with fail
        exact bodyPost_ret (by simp [results, Tryz.results58, go_sem]) rfl (MixP.no HF.out rfl (by repeat (first | with_reducible assumption | with_reducible exact Below.refl _ _ | with_reducible refine bel_alloc ?_ _ | with_reducible refine bel_drew ?_ | with_reducible refine bel_set ?_ (by dsimp only; omega) _)))
    · have y0 : ((tx bl').toList == []) = false := tx_ne bl' [] hb
      have y1 : ((tx bl').toList != []) = true := by rw [bne, y0]; rfl
      have HF := hid (show r = none by rw [HM.out, if_neg (fun h => hb h.2.1), if_neg (fun h => ha h.2.1)])
      clear h ha hb HM
      go_enter Tryz.func58, Tryz.ntmps58
      go_wp2_with fail
      exact bodyPost_ret (by simp [results, Tryz.results58, go_sem]) rfl (MixP.no HF.out rfl (by repeat (first | with_reducible assumption | with_reducible exact Below.refl _ _ | with_reducible refine bel_alloc ?_ _ | with_reducible refine bel_drew ?_ | with_reducible refine bel_set ?_ (by dsimp only; omega) _)))
theorem refMix (op : Int) (ho : op = 8 ∨ op = 9 ∨ op = 10) (a b : Vl) (ha : -2147483648 ≤ a.n ∧ a.n ≤ 2147483647) (hb : -2147483648 ≤ b.n ∧ b.n ≤ 2147483647) (w : World) :
    Calls Tryz.prog 58 #[.int .i64 op, vV a, vV b] w (MixP (mixV op a b) w) := by
  by_cases h : a.loc = [] ∧ b.loc = []
  · obtain ⟨al', an⟩ := a
    obtain ⟨bl', bn⟩ := b
    obtain ⟨h1, h2⟩ := h
    simp only at h1 h2
    subst h1 h2
    exact refMix_num op ho an bn ha hb w
  · exact refMix_loc op a b h w
end Go.Proofs.YtigimkgmghjgoaaGreatDoor

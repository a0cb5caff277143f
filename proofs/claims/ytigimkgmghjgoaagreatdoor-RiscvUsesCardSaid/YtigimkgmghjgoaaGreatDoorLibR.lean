/- Texts and instructions as values; equality. Lemmas of this claim's own; no condition. -/
import Derived.Test.YtigimkgmghjgoaaGreatDoorRows
import Derived.Test.YtigimkgmghjgoaaGreatDoorMathR2
import Derived.Test.YtigimkgmghjgoaaGreatDoorLib
import Derived.Test.YtigimkgmghjgoaaGreatDoorFr
import Derived.Laws.StructEq
import Derived.Shelf.SlicesQ.Load
namespace Go.Proofs.YtigimkgmghjgoaaGreatDoor
open Go.RowKit
set_option linter.unusedVariables false

/-- a text as a value -/
def tx (l : Tx) : ByteArray := ⟨l.toArray⟩
theorem tx_toList (l : Tx) : (tx l).toList = l := by rw [ByteArray.toList_eq]; simp [tx]
theorem tx_data (l : Tx) : (tx l).data.toList = l := by simp [tx]
theorem tx_size (l : Tx) : (tx l).size = l.length := by simp [tx, ByteArray.size]
theorem tx_of (s : ByteArray) : ∃ l, s = tx l := ⟨s.data.toList, by simp [tx]⟩
theorem tx_app (a b : Tx) : tx a ++ tx b = tx (a ++ b) := by
  apply ByteArray.ext; simp [tx]
theorem tx_inj {a b : Tx} : tx a = tx b ↔ a = b := ⟨fun h => by have := congrArg (fun s : ByteArray => s.data.toList) h; simpa [tx] using this, fun h => by rw [h]⟩
theorem tx_beq (a b : Tx) : ((tx a).toList == (tx b).toList) = (a == b) := by rw [tx_toList, tx_toList]
theorem tx_eq_false {a b : Tx} (h : a ≠ b) : ((tx a).toList == (tx b).toList) = false := by rw [tx_beq]; simpa using h

@[reducible] def iC (i : Ins) : List Value := [.int .i64 i.op, .int .i64 i.d, .int .i64 i.a, .int .i64 i.b, .int .i64 i.imm, .string (tx i.loc), .string (tx i.label), .int .i64 i.fence]
@[reducible] def vI (i : Ins) : Value := .agg #[.int .i64 i.op, .int .i64 i.d, .int .i64 i.a, .int .i64 i.b, .int .i64 i.imm, .string (tx i.loc), .string (tx i.label), .int .i64 i.fence]
theorem ins_ext (x y : Ins) : (x = y) ↔ (x.op = y.op ∧ x.d = y.d ∧ x.a = y.a ∧ x.b = y.b ∧ x.imm = y.imm ∧ x.loc = y.loc ∧ x.label = y.label ∧ x.fence = y.fence) := by
  cases x; cases y; simp
theorem eqI (x y : Ins) (w : World) : (binOp .eql 23 (vI x) (vI y)).run Tryz.prog w = .ok (.bool (decide (x = y))) w := by
  have hS : Tryz.prog.underlying 23 = some (.struct (Tryz.prog.fieldsOf 23)) := by kernel_rfl
  have hp : Tryz.prog.stoodInHeld 23 = false := by kernel_rfl
  have a3 := Tryz.isAgg3; have z3 := Tryz.sizeOf3; have u3 := Tryz.underlying3
  have a4 := Tryz.isAgg9; have z4 := Tryz.sizeOf9; have u4 := Tryz.underlying9
  rw [run_eql_struct, show (10000 : Nat) = 9999 + 1 from rfl, run_equalIn_agg w 9999 23 _ _ hS hp]
  simp only [Program.fieldsOf, Tryz.underlying23]
  go_simp
  rw [show decide (x = y) = decide (x.op = y.op ∧ x.d = y.d ∧ x.a = y.a ∧ x.b = y.b ∧ x.imm = y.imm ∧ x.loc = y.loc ∧ x.label = y.label ∧ x.fence = y.fence) from decide_eq_decide.2 (ins_ext x y)]
  simp only [tx_toList]
  by_cases h1 : x.op = y.op <;> by_cases h2 : x.d = y.d <;> by_cases h3 : x.a = y.a <;> by_cases h4 : x.b = y.b <;> by_cases h5 : x.imm = y.imm <;> by_cases h6 : x.loc = y.loc <;> by_cases h7 : x.label = y.label <;> by_cases h8 : x.fence = y.fence <;> simp [h1, h2, h3, h4, h5, h6, h7, h8]
theorem neqI (x y : Ins) (w : World) : (binOp .neq 23 (vI x) (vI y)).run Tryz.prog w = .ok (.bool (!decide (x = y))) w := by
  have h := eqI x y w
  rw [run_eql_struct] at h
  rw [run_neq_struct]
  generalize (Op.equalIn 10000 23 (.agg #[.int .i64 x.op, .int .i64 x.d, .int .i64 x.a, .int .i64 x.b, .int .i64 x.imm, .string (tx x.loc), .string (tx x.label), .int .i64 x.fence]) (.agg #[.int .i64 y.op, .int .i64 y.d, .int .i64 y.a, .int .i64 y.b, .int .i64 y.imm, .string (tx y.loc), .string (tx y.label), .int .i64 y.fence])).run Tryz.prog w = r at *
  cases r with
  | ok b w' => simp [Result.andThen] at h ⊢; obtain ⟨rfl, rfl⟩ := h; exact ⟨rfl, rfl⟩
  | halt x w' => simp [Result.andThen] at h

/-- an instruction that lies in a block by itself -/
def BxI (w : World) (b : Nat) (i : Ins) : Prop := b < w.heap.size ∧ ∀ k, k < 8 → w.cell? ⟨b, k, none⟩ = (iC i)[k]?
abbrev mkI (i : Ins) : Obj := .cells #[.int .i64 i.op, .int .i64 i.d, .int .i64 i.a, .int .i64 i.b, .int .i64 i.imm, .string (tx i.loc), .string (tx i.label), .int .i64 i.fence] 23
theorem BxI.below {w w' : World} {b : Nat} {i : Ins} (h : BxI w b i) (hb : Below w.heap.size w w') : BxI w' b i :=
  ⟨Nat.lt_of_lt_of_le h.1 hb.size, fun k hk => by rw [hb.cell (p := ⟨b, k, none⟩) h.1]; exact h.2 k hk⟩
theorem BxI.belowB {w w' : World} {b B : Nat} {i : Ins} (h : BxI w b i) (hb : b < B) (hB : Below B w w') : BxI w' b i :=
  ⟨Nat.lt_of_lt_of_le h.1 hB.size, fun k hk => by rw [hB.cell (p := ⟨b, k, none⟩) hb]; exact h.2 k hk⟩
theorem BxI.new (w : World) (i : Ins) : BxI (w.alloc (mkI i)) w.heap.size i :=
  ⟨by simp, fun k hk => by
    have hh := heap_alloc_new w (mkI i)
    simp only [World.cell?, hh]
    simp [iC]⟩
theorem BxI.cells {w : World} {b : Nat} {i : Ins} (h : BxI w b i) : w.cell? ⟨b, 0, none⟩ = some (.int .i64 i.op) ∧ w.cell? ⟨b, 1, none⟩ = some (.int .i64 i.d) ∧ w.cell? ⟨b, 2, none⟩ = some (.int .i64 i.a) ∧ w.cell? ⟨b, 3, none⟩ = some (.int .i64 i.b) ∧ w.cell? ⟨b, 4, none⟩ = some (.int .i64 i.imm) ∧ w.cell? ⟨b, 5, none⟩ = some (.string (tx i.loc)) ∧ w.cell? ⟨b, 6, none⟩ = some (.string (tx i.label)) ∧ w.cell? ⟨b, 7, none⟩ = some (.int .i64 i.fence) :=
  ⟨h.2 0 (by omega), h.2 1 (by omega), h.2 2 (by omega), h.2 3 (by omega), h.2 4 (by omega), h.2 5 (by omega), h.2 6 (by omega), h.2 7 (by omega)⟩
theorem al (w : World) (o : Obj) : Below w.heap.size w (w.alloc o) := (Below.refl _ _).alloc (Nat.le_refl _) _
theorem bel_alloc {w w' : World} (h : Below w.heap.size w w') (o : Obj) : Below w.heap.size w (w'.alloc o) := h.alloc h.size o
theorem bel_drew {w w' : World} (h : Below w.heap.size w w') : Below w.heap.size w w'.drew := h.trans ((below_drewN w' 1).mono h.size)
theorem bel_set {w w' : World} {p : Addr} (h : Below w.heap.size w w') (hp : w.heap.size ≤ p.block) (v : Value) : Below w.heap.size w (w'.setCell p v) := h.setCell hp v
theorem ret_pair {k k' : IntKind} {a b c d : Int} (h : a = c) (h' : b = d) : Ending.returned (.tuple #[.int k a, .int k' b]) = .returned (.tuple #[.int k c, .int k' d]) := by rw [h, h']
theorem ret_str {a b : ByteArray} (h : a = b) : Ending.returned (.string a) = .returned (.string b) := by rw [h]
theorem ret_spair {k' : IntKind} {a c : ByteArray} {b d : Int} (h : a = c) (h' : b = d) : Ending.returned (.tuple #[.string a, .int k' b]) = .returned (.tuple #[.string c, .int k' d]) := by rw [h, h']
end Go.Proofs.YtigimkgmghjgoaaGreatDoor

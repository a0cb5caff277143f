/- Edges in memory: rows of them, loads, equality. Lemmas of this claim's own; no condition. -/
import Derived.Test.YteijgmaggmhggaaRows
import Derived.Test.YteijgmaggmhggaaMathE
import Derived.Laws.StructEq
import Derived.Shelf.SlicesQ.Load
namespace Go.Proofs.Yteijgmaggmhggaa
open Go.RowKit
set_option linter.unusedVariables false

/-- an edge's cells, and the edge as a value -/
@[reducible] def eC (e : Edge) : List Value := [.int .i64 e.kind, .bool e.ext, .bool e.same, .int .i64 e.src, .int .i64 e.dst, .int .i64 e.fence]
@[reducible] def vE (e : Edge) : Value := .agg #[.int .i64 e.kind, .bool e.ext, .bool e.same, .int .i64 e.src, .int .i64 e.dst, .int .i64 e.fence]

theorem ret_pair {k k' : IntKind} {a b c d : Int} (h : a = c) (h' : b = d) : Ending.returned (.tuple #[.int k a, .int k' b]) = .returned (.tuple #[.int k c, .int k' d]) := by rw [h, h']
theorem ret_bpair {k' : IntKind} {a c : Bool} {b d : Int} (h : a = c) (h' : b = d) : Ending.returned (.tuple #[.bool a, .int k' b]) = .returned (.tuple #[.bool c, .int k' d]) := by rw [h, h']
theorem edge_ext (x y : Edge) : (x = y) ↔ (x.kind = y.kind ∧ x.ext = y.ext ∧ x.same = y.same ∧ x.src = y.src ∧ x.dst = y.dst ∧ x.fence = y.fence) := by
  cases x; cases y; simp
theorem eqE (x y : Edge) (w : World) : (binOp .eql 23 (vE x) (vE y)).run Try.prog w = .ok (.bool (decide (x = y))) w := by
  have hS : Try.prog.underlying 23 = some (.struct (Try.prog.fieldsOf 23)) := by kernel_rfl
  have hp : Try.prog.stoodInHeld 23 = false := by kernel_rfl
  have a3 := Try.isAgg3; have z3 := Try.sizeOf3; have u3 := Try.underlying3
  have a4 := Try.isAgg4; have z4 := Try.sizeOf4; have u4 := Try.underlying4
  rw [run_eql_struct, show (10000 : Nat) = 9999 + 1 from rfl, run_equalIn_agg w 9999 23 _ _ hS hp]
  simp only [Program.fieldsOf, Try.underlying23]
  go_simp
  rw [show decide (x = y) = decide (x.kind = y.kind ∧ x.ext = y.ext ∧ x.same = y.same ∧ x.src = y.src ∧ x.dst = y.dst ∧ x.fence = y.fence) from decide_eq_decide.2 (edge_ext x y)]
  by_cases h1 : x.kind = y.kind <;> by_cases h2 : x.ext = y.ext <;> by_cases h3 : x.same = y.same <;> by_cases h4 : x.src = y.src <;> by_cases h5 : x.dst = y.dst <;> by_cases h6 : x.fence = y.fence <;> simp [h1, h2, h3, h4, h5, h6]
theorem neqE (x y : Edge) (w : World) : (binOp .neq 23 (vE x) (vE y)).run Try.prog w = .ok (.bool (!decide (x = y))) w := by
  have h := eqE x y w
  rw [run_eql_struct] at h
  rw [run_neq_struct]
  generalize (Op.equalIn 10000 23 (.agg #[.int .i64 x.kind, .bool x.ext, .bool x.same, .int .i64 x.src, .int .i64 x.dst, .int .i64 x.fence]) (.agg #[.int .i64 y.kind, .bool y.ext, .bool y.same, .int .i64 y.src, .int .i64 y.dst, .int .i64 y.fence])).run Try.prog w = r at *
  cases r with
  | ok b w' => simp [Result.andThen] at h ⊢; obtain ⟨rfl, rfl⟩ := h; exact ⟨rfl, rfl⟩
  | halt x w' => simp [Result.andThen] at h

/-- one edge in a block of the call's own, or where it lies in a row: its cells' load -/
theorem loadE {w : World} {b o : Nat} {e : Edge} (h : ∀ i, i < 6 → w.cell? ⟨b, o + i, none⟩ = (eC e)[i]?) :
    Sem.run Try.prog (loadCellsFrom ⟨b, o, none⟩ 0 6 #[]) w = .ok #[.int .i64 e.kind, .bool e.ext, .bool e.same, .int .i64 e.src, .int .i64 e.dst, .int .i64 e.fence] w :=
  run_loadCellsFrom_list Try.prog w ⟨b, o, none⟩ (eC e) 6 rfl fun j v hv => by
    have hj : j < 6 := by
      rcases Nat.lt_or_ge j 6 with h' | h'
      · exact h'
      · rw [List.getElem?_eq_none (by simpa [eC] using h')] at hv; cases hv
    rw [Addr.add_lit, h j hj]; exact hv
/-- an edge that lies in a block by itself -/
def Bx (w : World) (b : Nat) (e : Edge) : Prop := b < w.heap.size ∧ ∀ i, i < 6 → w.cell? ⟨b, i, none⟩ = (eC e)[i]?
theorem Bx.below {w w' : World} {b : Nat} {e : Edge} (h : Bx w b e) (hb : Below w.heap.size w w') : Bx w' b e :=
  ⟨Nat.lt_of_lt_of_le h.1 hb.size, fun i hi => by rw [hb.cell (p := ⟨b, i, none⟩) h.1]; exact h.2 i hi⟩
theorem Bx.new (w : World) (e : Edge) (t : TypeId) : Bx (w.alloc (.cells #[.int .i64 e.kind, .bool e.ext, .bool e.same, .int .i64 e.src, .int .i64 e.dst, .int .i64 e.fence] t)) w.heap.size e :=
  ⟨by simp, fun i hi => by
    have hh := heap_alloc_new w (.cells #[.int .i64 e.kind, .bool e.ext, .bool e.same, .int .i64 e.src, .int .i64 e.dst, .int .i64 e.fence] t)
    simp only [World.cell?, hh]
    simp [eC]⟩
theorem Bx.cells {w : World} {b : Nat} {e : Edge} (h : Bx w b e) : w.cell? ⟨b, 0, none⟩ = some (.int .i64 e.kind) ∧ w.cell? ⟨b, 1, none⟩ = some (.bool e.ext) ∧ w.cell? ⟨b, 2, none⟩ = some (.bool e.same) ∧ w.cell? ⟨b, 3, none⟩ = some (.int .i64 e.src) ∧ w.cell? ⟨b, 4, none⟩ = some (.int .i64 e.dst) ∧ w.cell? ⟨b, 5, none⟩ = some (.int .i64 e.fence) :=
  ⟨h.2 0 (by omega), h.2 1 (by omega), h.2 2 (by omega), h.2 3 (by omega), h.2 4 (by omega), h.2 5 (by omega)⟩
theorem Bx.load {w : World} {b : Nat} {e : Edge} (h : Bx w b e) : Sem.run Try.prog (loadCellsFrom ⟨b, 0, none⟩ 0 6 #[]) w = .ok #[.int .i64 e.kind, .bool e.ext, .bool e.same, .int .i64 e.src, .int .i64 e.dst, .int .i64 e.fence] w :=
  loadE (o := 0) (by simpa using h.2)
end Go.Proofs.Yteijgmaggmhggaa

/- Slices of instructions: read. Lemmas of this claim's own; no condition. -/
import Derived.Test.YtigimkgmghjgoaaGreatDoorR14
namespace Go.Proofs.YtigimkgmghjgoaaGreatDoor
open Go.RowKit
set_option linter.unusedVariables false

def insC (l : List Ins) : List Value := l.flatMap iC
theorem insC_length (l : List Ins) : (insC l).length = l.length * 8 := by
  induction l with
  | nil => rfl
  | cons x r ih => unfold insC at *; simp [List.flatMap_cons, ih, iC]; omega
theorem insC_app (l r : List Ins) : insC (l ++ r) = insC l ++ insC r := by unfold insC; rw [List.flatMap_append]
theorem insC_cons (x : Ins) (r : List Ins) : insC (x :: r) = iC x ++ insC r := by unfold insC; rw [List.flatMap_cons]
theorem insC_one (x : Ins) : insC [x] = iC x := by rw [insC_cons]; simp [insC]
theorem insC_get : ∀ (l : List Ins) (k i : Nat) (x : Ins), l[k]? = some x → i < 8 → (insC l)[k * 8 + i]? = (iC x)[i]?
  | [], k, i, x, h, _ => by simp at h
  | y :: r, 0, i, x, h, hi => by
    simp at h; subst h
    rw [insC_cons, Nat.zero_mul, Nat.zero_add, List.getElem?_append_left (by simpa [iC] using hi)]
  | y :: r, k + 1, i, x, h, hi => by
    rw [insC_cons, List.getElem?_append_right (by simp [iC]; omega)]
    have : (k + 1) * 8 + i - (iC y).length = k * 8 + i := by simp [iC]; omega
    rw [this, insC_get r k i x (by simpa using h) hi]
theorem insC_oneCell (l : List Ins) : ∀ u ∈ insC l, u.oneCell' = true := by
  intro u hu
  unfold insC at hu
  obtain ⟨x, -, hx⟩ := List.mem_flatMap.1 hu
  simp [iC] at hx
  rcases hx with rfl | rfl | rfl | rfl | rfl | rfl | rfl | rfl <;> rfl
theorem insC_take (l : List Ins) (k : Nat) : (insC l).take (k * 8) = insC (l.take k) := by
  by_cases hk : k ≤ l.length
  · have h1 : insC l = insC (l.take k) ++ insC (l.drop k) := by rw [← insC_app, List.take_append_drop]
    rw [h1, List.take_left' (by rw [insC_length, List.length_take, Nat.min_eq_left hk])]
  · rw [List.take_of_length_le (by rw [insC_length]; omega), List.take_of_length_le (by omega)]
theorem insC_drop (l : List Ins) (k : Nat) : (insC l).drop (k * 8) = insC (l.drop k) := by
  by_cases hk : k ≤ l.length
  · have h1 : insC l = insC (l.take k) ++ insC (l.drop k) := by rw [← insC_app, List.take_append_drop]
    rw [h1, List.drop_left' (by rw [insC_length, List.length_take, Nat.min_eq_left hk])]
  · rw [List.drop_of_length_le (by rw [insC_length]; omega), List.drop_of_length_le (by omega)]; rfl
/-- instructions that are read -/
structure Is (w : World) (a : Option Addr) (l : List Ins) : Prop where
  row : Row w a (insC l)
  len : l.length ≤ 1000000000000000000
theorem Is.nil (w : World) (a : Option Addr) : Is w a [] := ⟨Row.nil _ _, by simp⟩
theorem Is.below {w w' : World} {a : Option Addr} {l : List Ins} (h : Is w a l) (hb : Below w.heap.size w w') : Is w' a l := ⟨h.row.below hb, h.len⟩
theorem Is.cells {w : World} {a : Option Addr} {l : List Ins} (h : Is w a l) {k : Nat} {i : Ins} (hk : l[k]? = some i) :
    w.cell? ⟨bk a, fo a + k * 8, none⟩ = some (.int .i64 i.op) ∧ w.cell? ⟨bk a, fo a + k * 8 + 1, none⟩ = some (.int .i64 i.d) ∧ w.cell? ⟨bk a, fo a + k * 8 + 2, none⟩ = some (.int .i64 i.a) ∧ w.cell? ⟨bk a, fo a + k * 8 + 3, none⟩ = some (.int .i64 i.b) ∧ w.cell? ⟨bk a, fo a + k * 8 + 4, none⟩ = some (.int .i64 i.imm) ∧ w.cell? ⟨bk a, fo a + k * 8 + 5, none⟩ = some (.string (tx i.loc)) ∧ w.cell? ⟨bk a, fo a + k * 8 + 6, none⟩ = some (.string (tx i.label)) ∧ w.cell? ⟨bk a, fo a + k * 8 + 7, none⟩ = some (.int .i64 i.fence) := by
  have hlt := (List.getElem?_eq_some_iff.1 hk).1
  have g : ∀ j, j < 8 → w.cell? ⟨bk a, fo a + k * 8 + j, none⟩ = (iC i)[j]? := fun j hj => by
    have h1 := h.row.cell (k * 8 + j) (by rw [insC_length]; omega)
    rw [insC_get l k j i hk hj] at h1
    rw [Nat.add_assoc]; exact h1
  exact ⟨g 0 (by omega), g 1 (by omega), g 2 (by omega), g 3 (by omega), g 4 (by omega), g 5 (by omega), g 6 (by omega), g 7 (by omega)⟩
theorem Is.lt {w : World} {a : Option Addr} {l : List Ins} (h : Is w a l) {k : Nat} (hk : k < l.length) : bk a < w.heap.size :=
  cell?_lt (p := ⟨bk a, fo a + k * 8, none⟩) (h.cells (List.getElem?_eq_getElem hk)).1
theorem inl : ElT Tryz.prog 32 23 (.agg #[.int .i64 0, .int .i64 0, .int .i64 0, .int .i64 0, .int .i64 0, .string ByteArray.empty, .string ByteArray.empty, .int .i64 0]) 8 80 := ⟨Tryz.underlying32, by kernel_rfl, rfl, by decide⟩
theorem Is.idx {w : World} {a : Option Addr} {l : List Ins} (h : Is w a l) (k : Nat) (hk : k < l.length) :
    ∀ c w', (Instr.indexAt 32 (.slice a l.length c) (.int .i64 k)).run Tryz.prog w' = .ok (.pointer (some ⟨bk a, fo a + k * 8, none⟩)) w' := by
  intro c
  exact run_idx (c := c) (n := l.length) (m := 8) h.row inl.und inl.cells inl.isSome (insC_length l) (by omega) k hk .i64
theorem Is.take {w : World} {a : Option Addr} {l : List Ins} (h : Is w a l) (k : Nat) : Is w a (l.take k) := by
  refine ⟨?_, by have := h.len; simp; omega⟩
  have := h.row.take (k * 8)
  rwa [insC_take] at this
theorem Is.drop {w : World} {a : Option Addr} {l : List Ins} (h : Is w a l) (k : Nat) (stay : Prop) [Decidable stay] (hs : stay → l.length ≤ k ∨ k = 0) : Is w (cutA a stay (k * 8)) (l.drop k) := by
  refine ⟨?_, by have := h.len; simp; omega⟩
  have := h.row.drop (k * 8) stay (fun h' => by have := hs h'; rw [insC_length]; omega)
  rwa [insC_drop] at this
abbrev OwnN (w : World) (B : Nat) (a : Option Addr) (n c : Nat) (l : List Ins) : Prop := Own w B 23 8 a n c (insC l)
theorem OwnN.len {w : World} {B n c : Nat} {a : Option Addr} {l : List Ins} (h : OwnN w B a n c l) : n = l.length := by
  have := h.cap.2.2; rw [insC_length] at this; omega
theorem OwnN.is {w : World} {B n c : Nat} {a : Option Addr} {l : List Ins} (h : OwnN w B a n c l) (hl : l.length ≤ 1000000000000000000) : Is w a l := ⟨h.row, hl⟩
theorem isl : ElT Tryz.prog 33 3 (.int .i64 0) 1 8 := ⟨Tryz.underlying33, by kernel_rfl, rfl, by decide⟩
end Go.Proofs.YtigimkgmghjgoaaGreatDoor

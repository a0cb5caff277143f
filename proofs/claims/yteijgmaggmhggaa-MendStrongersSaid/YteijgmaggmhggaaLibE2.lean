/- Slices of edges: read, of the call's own, come in. Lemmas of this claim's own; no condition. -/
import Derived.Test.YteijgmaggmhggaaLibE
import Derived.Test.YteijgmaggmhggaaFr
import Derived.Deep.Slices
import Derived.Deep.Fields
namespace Go.Proofs.Yteijgmaggmhggaa
open Go.RowKit
set_option linter.unusedVariables false

theorem al (w : World) (o : Obj) : Below w.heap.size w (w.alloc o) := (Below.refl _ _).alloc (Nat.le_refl _) _
def edges (l : List Edge) : List Value := l.flatMap eC
theorem edges_length (l : List Edge) : (edges l).length = l.length * 6 := by
  induction l with
  | nil => rfl
  | cons x r ih => unfold edges at *; simp [List.flatMap_cons, ih, eC]; omega
theorem edges_app (l r : List Edge) : edges (l ++ r) = edges l ++ edges r := by unfold edges; rw [List.flatMap_append]
theorem edges_cons (x : Edge) (r : List Edge) : edges (x :: r) = eC x ++ edges r := by unfold edges; rw [List.flatMap_cons]
theorem edges_one (x : Edge) : edges [x] = eC x := by rw [edges_cons]; simp [edges]
theorem edges_get : ∀ (l : List Edge) (k i : Nat), k < l.length → i < 6 → (edges l)[k * 6 + i]? = (eC (l.getD k ⟨0, false, false, 0, 0, 0⟩))[i]?
  | [], k, i, h, _ => by simp at h
  | x :: r, 0, i, h, hi => by
    rw [edges_cons, Nat.zero_mul, Nat.zero_add, List.getElem?_append_left (by simpa [eC] using hi)]; rfl
  | x :: r, k + 1, i, h, hi => by
    rw [edges_cons, List.getElem?_append_right (by simp [eC]; omega)]
    have : (k + 1) * 6 + i - (eC x).length = k * 6 + i := by simp [eC]; omega
    rw [this, edges_get r k i (by simpa using h) hi]; rfl
theorem edges_oneCell (l : List Edge) : ∀ u ∈ edges l, u.oneCell' = true := by
  intro u hu
  unfold edges at hu
  obtain ⟨x, -, hx⟩ := List.mem_flatMap.1 hu
  simp [eC] at hx
  rcases hx with rfl | rfl | rfl | rfl | rfl | rfl <;> rfl

theorem eC_one (e : Edge) : ∀ u ∈ eC e, u.oneCell' = true := by
  have := edges_oneCell [e]; rwa [edges_one] at this
theorem edges_snoc (l : List Edge) (e : Edge) : edges (l ++ [e]) = edges l ++ eC e := by rw [edges_app, edges_one]

/-- edges that are read -/
structure Es (w : World) (a : Option Addr) (l : List Edge) : Prop where
  row : Row w a (edges l)
  len : l.length ≤ 1000000000000000000
theorem Es.nil (w : World) (a : Option Addr) : Es w a [] := ⟨Row.nil _ _, by simp⟩
theorem Es.below {w w' : World} {a : Option Addr} {l : List Edge} (h : Es w a l) (hb : Below w.heap.size w w') : Es w' a l := ⟨h.row.below hb, h.len⟩
theorem Es.get {w : World} {a : Option Addr} {l : List Edge} (h : Es w a l) (k : Nat) (hk : k < l.length) : ∀ i, i < 6 → w.cell? ⟨bk a, fo a + k * 6 + i, none⟩ = (eC l[k])[i]? := by
  intro i hi
  have h1 := h.row.cell (k * 6 + i) (by rw [edges_length]; omega)
  rw [edges_get l k i hk hi] at h1
  rw [Nat.add_assoc, h1]
  simp [List.getD_eq_getElem?_getD, hk]
theorem Es.cells {w : World} {a : Option Addr} {l : List Edge} (h : Es w a l) (k : Nat) (hk : k < l.length) (e : Edge) (he : l[k] = e) :
    w.cell? ⟨bk a, fo a + k * 6, none⟩ = some (.int .i64 e.kind) ∧ w.cell? ⟨bk a, fo a + k * 6 + 1, none⟩ = some (.bool e.ext) ∧ w.cell? ⟨bk a, fo a + k * 6 + 2, none⟩ = some (.bool e.same) ∧ w.cell? ⟨bk a, fo a + k * 6 + 3, none⟩ = some (.int .i64 e.src) ∧ w.cell? ⟨bk a, fo a + k * 6 + 4, none⟩ = some (.int .i64 e.dst) ∧ w.cell? ⟨bk a, fo a + k * 6 + 5, none⟩ = some (.int .i64 e.fence) := by
  subst he
  have g := h.get k hk
  exact ⟨g 0 (by omega), g 1 (by omega), g 2 (by omega), g 3 (by omega), g 4 (by omega), g 5 (by omega)⟩
theorem esl : ElT Try.prog 24 23 (vE ⟨0, false, false, 0, 0, 0⟩) 6 40 := ⟨Try.underlying24, by kernel_rfl, rfl, by decide⟩
theorem Es.idx {w : World} {a : Option Addr} {l : List Edge} (h : Es w a l) (k : Nat) (hk : k < l.length) :
    ∀ c w', (Instr.indexAt 24 (.slice a l.length c) (.int .i64 k)).run Try.prog w' = .ok (.pointer (some ⟨bk a, fo a + k * 6, none⟩)) w' := by
  intro c
  exact run_idx (c := c) (n := l.length) (m := 6) h.row esl.und esl.cells esl.isSome (edges_length l) (by omega) k hk .i64
theorem Es.idxz {w : World} {a : Option Addr} {l : List Edge} (h : Es w a l) (k : Nat) (hk : k < l.length) (x : Int) (hx : x = k) :
    ∀ c w', (Instr.indexAt 24 (.slice a l.length c) (.int .i64 x)).run Try.prog w' = .ok (.pointer (some ⟨bk a, fo a + k * 6, none⟩)) w' := by
  subst hx; exact h.idx k hk
theorem edges_take (l : List Edge) (k : Nat) : (edges l).take (k * 6) = edges (l.take k) := by
  by_cases hk : k ≤ l.length
  · have h1 : edges l = edges (l.take k) ++ edges (l.drop k) := by rw [← edges_app, List.take_append_drop]
    rw [h1, List.take_left' (by rw [edges_length, List.length_take, Nat.min_eq_left hk])]
  · rw [List.take_of_length_le (by rw [edges_length]; omega), List.take_of_length_le (by omega)]
theorem edges_drop (l : List Edge) (k : Nat) : (edges l).drop (k * 6) = edges (l.drop k) := by
  by_cases hk : k ≤ l.length
  · have h1 : edges l = edges (l.take k) ++ edges (l.drop k) := by rw [← edges_app, List.take_append_drop]
    rw [h1, List.drop_left' (by rw [edges_length, List.length_take, Nat.min_eq_left hk])]
  · rw [List.drop_of_length_le (by rw [edges_length]; omega), List.drop_of_length_le (by omega)]; rfl
theorem Es.take {w : World} {a : Option Addr} {l : List Edge} (h : Es w a l) (k : Nat) : Es w a (l.take k) := by
  refine ⟨?_, by have := h.len; simp; omega⟩
  have := h.row.take (k * 6)
  rwa [edges_take] at this
theorem Es.app_left {w : World} {a : Option Addr} {l r : List Edge} (h : Es w a (l ++ r)) : Es w a l := by
  have := h.take l.length; simpa using this
theorem Es.drop {w : World} {a : Option Addr} {l : List Edge} (h : Es w a l) (k : Nat) (stay : Prop) [Decidable stay] (hs : stay → l.length ≤ k ∨ k = 0) : Es w (cutA a stay (k * 6)) (l.drop k) := by
  refine ⟨?_, by have := h.len; simp; omega⟩
  have := h.row.drop (k * 6) stay (fun h' => by have := hs h'; rw [edges_length]; omega)
  rwa [edges_drop] at this

/-- edges in memory of the call's own -/
abbrev OwnE (w : World) (B : Nat) (a : Option Addr) (n c : Nat) (l : List Edge) : Prop := Own w B 23 6 a n c (edges l)
theorem OwnE.len {w : World} {B n c : Nat} {a : Option Addr} {l : List Edge} (h : OwnE w B a n c l) : n = l.length := by
  have := h.cap.2.2; rw [edges_length] at this; omega
theorem OwnE.es {w : World} {B n c : Nat} {a : Option Addr} {l : List Edge} (h : OwnE w B a n c l) (hl : l.length ≤ 1000000000000000000) : Es w a l := ⟨h.row, hl⟩
/-- the call hands back these edges in memory of its own -/
def RetEs (w : World) (l : List Edge) (e : Ending) (w' : World) : Prop := ∃ a c, e = .returned (.slice a l.length c) ∧ OwnE w' w.heap.size a l.length c l ∧ Below w.heap.size w w'
end Go.Proofs.Yteijgmaggmhggaa

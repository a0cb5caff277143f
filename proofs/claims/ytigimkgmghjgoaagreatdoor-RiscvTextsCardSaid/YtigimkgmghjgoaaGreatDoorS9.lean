/- What the document's operands is made of: the registers' rows. No condition. -/
import Derived.Test.YtigimkgmghjgoaaGreatDoorS8
import Derived.Test.YtigimkgmghjgoaaGreatDoorS8f
namespace Go.Proofs.YtigimkgmghjgoaaGreatDoor
open Go.RowKit
set_option linter.unusedVariables false

abbrev zeroA : Obj := .cells #[.int .i64 0, .int .i64 0, .int .i64 0] 102
abbrev zeroB : Obj := .cells #[.bool false, .bool false, .bool false] 103
/-- the registers of the first k parts -/
def gR (l : List Tx) (k j : Nat) : Int := if j < k then regN (l.getD j []) else 0
def gS (l : List Tx) (k j : Nat) : Bool := if j < k then regE (l.getD j []) == 0 else false
/-- what lies in memory behind k rounds -/
structure OpsW (w wr : World) (l : List Tx) (k : Nat) : Prop where
  i0 : ∀ j, j < 8 → wr.cell? ⟨w.heap.size, j, none⟩ = (iC ins0)[j]?
  i1 : ∀ j, j < 8 → wr.cell? ⟨w.heap.size + 1, j, none⟩ = (iC ins0)[j]?
  r : ∀ j, j < 3 → wr.cell? ⟨w.heap.size + 2, j, none⟩ = some (.int .i64 (gR l k j))
  s : ∀ j, j < 3 → wr.cell? ⟨w.heap.size + 3, j, none⟩ = some (.bool (gS l k j))
  f : ∀ b j, w.heap.size ≤ b → b ≤ w.heap.size + 3 → wr.frozen? ⟨b, j, none⟩ = false
  size : w.heap.size + 4 ≤ wr.heap.size
  bel : Below w.heap.size w wr
theorem OpsW.below {w wr w' : World} {l : List Tx} {k : Nat} (h : OpsW w wr l k) (hb : Below wr.heap.size wr w') : OpsW w w' l k := by
  have hz := h.size
  refine ⟨fun j hj => ?_, fun j hj => ?_, fun j hj => ?_, fun j hj => ?_, fun b j h1 h2 => ?_, Nat.le_trans hz hb.size, h.bel.trans (hb.mono h.bel.size)⟩
  · rw [hb.cell (p := ⟨w.heap.size, j, none⟩) (by dsimp only; omega)]; exact h.i0 j hj
  · rw [hb.cell (p := ⟨w.heap.size + 1, j, none⟩) (by dsimp only; omega)]; exact h.i1 j hj
  · rw [hb.cell (p := ⟨w.heap.size + 2, j, none⟩) (by dsimp only; omega)]; exact h.r j hj
  · rw [hb.cell (p := ⟨w.heap.size + 3, j, none⟩) (by dsimp only; omega)]; exact h.s j hj
  · rw [hb.frozen (p := ⟨b, j, none⟩) (by dsimp only; omega)]; exact h.f b j h1 h2
theorem OpsW.start (w : World) (l : List Tx) : OpsW w ((((w.alloc zeroI).alloc zeroI).alloc zeroA).alloc zeroB) l 0 := by
  have s1 : (w.alloc zeroI).heap.size = w.heap.size + 1 := by simp
  have s2 : ((w.alloc zeroI).alloc zeroI).heap.size = w.heap.size + 2 := by simp
  have s3 : (((w.alloc zeroI).alloc zeroI).alloc zeroA).heap.size = w.heap.size + 3 := by simp
  have s4 : ((((w.alloc zeroI).alloc zeroI).alloc zeroA).alloc zeroB).heap.size = w.heap.size + 4 := by simp
  have B1 := al w zeroI
  have B2 := al (w.alloc zeroI) zeroI
  have B3 := al ((w.alloc zeroI).alloc zeroI) zeroA
  have B4 := al (((w.alloc zeroI).alloc zeroI).alloc zeroA) zeroB
  have h1 := heap_alloc_new w zeroI
  have h2 := heap_alloc_new (w.alloc zeroI) zeroI
  have h3 := heap_alloc_new ((w.alloc zeroI).alloc zeroI) zeroA
  have h4 := heap_alloc_new (((w.alloc zeroI).alloc zeroI).alloc zeroA) zeroB
  have C1 : ∀ j, (w.alloc zeroI).cell? ⟨w.heap.size, j, none⟩ = (iC ins0)[j]? := fun j => by
    simp only [World.cell?, h1]; simp [iC, ins0]; rfl
  have C2 : ∀ j, ((w.alloc zeroI).alloc zeroI).cell? ⟨w.heap.size + 1, j, none⟩ = (iC ins0)[j]? := fun j => by
    rw [← s1]; simp only [World.cell?, h2]; simp [iC, ins0]; rfl
  have C3 : ∀ j, (((w.alloc zeroI).alloc zeroI).alloc zeroA).cell? ⟨w.heap.size + 2, j, none⟩ = ([.int .i64 0, .int .i64 0, .int .i64 0] : List Value)[j]? := fun j => by
    rw [← s2]; simp only [World.cell?, h3]; simp
  have C4 : ∀ j, ((((w.alloc zeroI).alloc zeroI).alloc zeroA).alloc zeroB).cell? ⟨w.heap.size + 3, j, none⟩ = ([.bool false, .bool false, .bool false] : List Value)[j]? := fun j => by
    rw [← s3]; simp only [World.cell?, h4]; simp
  have F1 : ∀ j, (w.alloc zeroI).frozen? ⟨w.heap.size, j, none⟩ = false := fun j => by simp only [World.frozen?, h1]; simp
  have F2 : ∀ j, ((w.alloc zeroI).alloc zeroI).frozen? ⟨w.heap.size + 1, j, none⟩ = false := fun j => by rw [← s1]; simp only [World.frozen?, h2]; simp
  have F3 : ∀ j, (((w.alloc zeroI).alloc zeroI).alloc zeroA).frozen? ⟨w.heap.size + 2, j, none⟩ = false := fun j => by rw [← s2]; simp only [World.frozen?, h3]; simp
  have F4 : ∀ j, ((((w.alloc zeroI).alloc zeroI).alloc zeroA).alloc zeroB).frozen? ⟨w.heap.size + 3, j, none⟩ = false := fun j => by rw [← s3]; simp only [World.frozen?, h4]; simp
  refine ⟨fun j hj => ?_, fun j hj => ?_, fun j hj => ?_, fun j hj => ?_, fun b j hb hb2 => ?_, by rw [s4]; exact Nat.le_refl _, bel_alloc (bel_alloc (bel_alloc B1 _) _) _⟩
  · rw [B4.cell (p := ⟨w.heap.size, j, none⟩) (by dsimp only; omega), B3.cell (p := ⟨w.heap.size, j, none⟩) (by dsimp only; omega), B2.cell (p := ⟨w.heap.size, j, none⟩) (by dsimp only; omega)]; exact C1 j
  · rw [B4.cell (p := ⟨w.heap.size + 1, j, none⟩) (by dsimp only; omega), B3.cell (p := ⟨w.heap.size + 1, j, none⟩) (by dsimp only; omega)]; exact C2 j
  · rw [B4.cell (p := ⟨w.heap.size + 2, j, none⟩) (by dsimp only; omega), C3 j]
    have hj : j = 0 ∨ j = 1 ∨ j = 2 := by omega
    rcases hj with rfl | rfl | rfl <;> rfl
  · rw [C4 j]
    have hj : j = 0 ∨ j = 1 ∨ j = 2 := by omega
    rcases hj with rfl | rfl | rfl <;> rfl
  · have hb : b = w.heap.size ∨ b = w.heap.size + 1 ∨ b = w.heap.size + 2 ∨ b = w.heap.size + 3 := by omega
    rcases hb with rfl | rfl | rfl | rfl
    · rw [B4.frozen (p := ⟨w.heap.size, j, none⟩) (by dsimp only; omega), B3.frozen (p := ⟨w.heap.size, j, none⟩) (by dsimp only; omega), B2.frozen (p := ⟨w.heap.size, j, none⟩) (by dsimp only; omega)]; exact F1 j
    · rw [B4.frozen (p := ⟨w.heap.size + 1, j, none⟩) (by dsimp only; omega), B3.frozen (p := ⟨w.heap.size + 1, j, none⟩) (by dsimp only; omega)]; exact F2 j
    · rw [B4.frozen (p := ⟨w.heap.size + 2, j, none⟩) (by dsimp only; omega)]; exact F3 j
    · exact F4 j
theorem adne {b b' i j : Nat} (h : b ≠ b') : (⟨b, i, none⟩ : Addr) ≠ ⟨b', j, none⟩ := by intro e; injection e with e1; exact h e1
theorem adnf {b b' i j : Nat} (h : i ≠ j) : (⟨b, i, none⟩ : Addr) ≠ ⟨b', j, none⟩ := by intro e; injection e with e1 e2; exact h e2
theorem cso {w : World} {a b : Addr} {v : Value} (h : a ≠ b) : (w.setCell a v).cell? b = w.cell? b := World.cell?_setCell_other _ _ _ _ h
theorem css {w : World} {a : Addr} {v u : Value} (h : w.cell? a = some u) : (w.setCell a v).cell? a = some v := World.cell?_setCell_same _ _ _ h
theorem OpsW.step {w wr : World} {l : List Tx} {k : Nat} {t : Tx} (h : OpsW w wr l k) (hk : k < 3) (ht : l[k]? = some t) : OpsW w ((wr.setCell ⟨w.heap.size + 2, k, none⟩ (.int .i64 (regN t))).setCell ⟨w.heap.size + 3, k, none⟩ (.bool (regE t == 0))) l (k + 1) := by
  have hg : l.getD k [] = t := by rw [List.getD_eq_getElem?_getD, ht]; rfl
  refine ⟨fun j hj => ?_, fun j hj => ?_, fun j hj => ?_, fun j hj => ?_, fun b j h1 h2 => ?_, by simpa using h.size, bel_set (bel_set h.bel (by dsimp only; omega) _) (by dsimp only; omega) _⟩
  · rw [cso (adne (by omega)), cso (adne (by omega))]; exact h.i0 j hj
  · rw [cso (adne (by omega)), cso (adne (by omega))]; exact h.i1 j hj
  · rw [cso (adne (by omega))]
    by_cases hjk : j = k
    · subst hjk
      rw [css (h.r j hj)]
      unfold gR; rw [if_pos (by omega), hg]
    · rw [cso (adnf (fun e => hjk e.symm)), h.r j hj]
      unfold gR
      by_cases hlt : j < k
      · rw [if_pos hlt, if_pos (by omega)]
      · rw [if_neg hlt, if_neg (by omega)]
  · by_cases hjk : j = k
    · subst hjk
      rw [css (u := .bool (gS l j j)) (by rw [cso (adne (by omega))]; exact h.s j hj)]
      unfold gS; rw [if_pos (by omega), hg]
    · rw [cso (adnf (fun e => hjk e.symm)), cso (adne (by omega)), h.s j hj]
      unfold gS
      by_cases hlt : j < k
      · rw [if_pos hlt, if_pos (by omega)]
      · rw [if_neg hlt, if_neg (by omega)]
  · rw [World.frozen?_setCell, World.frozen?_setCell]; exact h.f b j h1 h2
theorem keep_fenceR (x y : Tx) : keepI ⟨13, 0, 0, 0, 0, [], [], fenceV x y⟩ true = readI [102, 101, 110, 99, 101] [x, y] := by
  rw [read_fence2]
  unfold fenceV
  cases hx : fpartOf x with
  | none => rfl
  | some a =>
    cases hy : fpartOf y with
    | none => rfl
    | some b =>
      obtain ⟨i, hi, rfl, -⟩ := fpartOf_some hx
      obtain ⟨j, hj, rfl, -⟩ := fpartOf_some hy
      exact keep_true (by rw [check_fence]; simp; omega)
theorem read_none3 {op : Tx} (h1 : op ≠ [108, 119]) (h2 : op ≠ [115, 119]) (h3 : op ≠ [111, 114, 105]) (h4 : op ≠ [120, 111, 114]) (h5 : op ≠ [97, 100, 100]) (h6 : op ≠ [98, 110, 101]) (h7 : op ≠ [102, 101, 110, 99, 101]) (l : List Tx) : readI op l = none := by
  by_cases hl : l.length = 3
  · obtain ⟨x, y, z, rfl⟩ := len3 hl
    rw [read_3 _ _ _ h1 h2 h7]
    cases regOf x with
    | none => rfl
    | some a => cases regOf y with
      | none => rfl
      | some b =>
        simp only
        rw [if_neg h6, if_neg h3]
        cases regOf z with
        | none => rfl
        | some c => simp only; rw [if_neg h4, if_neg h5]
  · exact read_3no h1 h2 h7 hl
end Go.Proofs.YtigimkgmghjgoaaGreatDoor

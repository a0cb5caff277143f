/- Rows written over in place: several cells at once, an edge, clear. Lemmas of this claim's own; no condition. -/
import Derived.Test.YteijgmaggmhggaaLibE2
import Derived.Laws.IdiomCopy
namespace Go.Proofs.Yteijgmaggmhggaa
open Go.RowKit
set_option linter.unusedVariables false

/-- 'append(s, u)' behind more than one new block -/
theorem wpList_app1n {P : Program} {w : World} {ops : Array Oper} {rest : List Oper} {o : Oper} {a : Act} {Q : Exit → Act → World → Prop} {t e : TypeId} {z : Value} {size bytes : Nat} (T : ElT P t e z size bytes) (s x : Operand) (hgd : o.guard = none) (ho : o.op = .call { callee := .builtin .append, args := #[s, x], argTypes := #[t, t] })
    {B n c N : Nat} {sa : Option Addr} {xs : List Value} (hN : w.heap.size = N) (hs : a.eval s = .slice sa n c) (hown : Own w B e size sa n c xs)
    {us : Array Value} (hx : a.eval x = .slice (some ⟨N, 0, none⟩) 1 1) (hl : us.size = size) (h1c : ∀ u ∈ us.toList, u.oneCell' = true)
    {w0 : World} (hB : Below B w0 w) (hB0 : B ≤ w.heap.size) (hbytes : (n + 1) * bytes ≤ 140737488355328) (hm : n + 1 ≤ maxLen)
    (h : ∀ a' c' w', Own w' B e size a' (n + 1) c' (xs ++ us.toList) → Grew w w' sa c a' c' → Below B w0 w' → wpList P ops Q rest (a.put o.dst (.slice a' (n + 1) c')) w') : wpList P ops Q (o :: rest) a (w.alloc (.cells us e)) := by
  subst hN
  exact wpList_app1 T s x hgd ho hs hown hx hl h1c hB hB0 hbytes hm h
/-- a list with others laid over it from place j on -/
def layL (xs : List Value) (j : Nat) (vs : List Value) : List Value := xs.take j ++ vs ++ xs.drop (j + vs.length)
theorem layL_nil (xs : List Value) (j : Nat) : layL xs j [] = xs := by simp [layL]
theorem layL_cons (xs : List Value) (j : Nat) (v : Value) (vs : List Value) (h : j < xs.length) : layL xs j (v :: vs) = layL (xs.set j v) (j + 1) vs := by
  have h1 : xs.set j v = (xs.take j ++ [v]) ++ xs.drop (j + 1) := by rw [List.set_eq_take_append_cons_drop, if_pos h]; simp
  have hl : (xs.take j ++ [v]).length = j + 1 := by simp; omega
  unfold layL
  rw [h1, List.take_left' hl, List.drop_append, List.drop_of_length_le (by omega : (xs.take j ++ [v]).length ≤ j + 1 + vs.length), List.nil_append, List.drop_drop, hl]
  simp only [List.append_assoc, List.cons_append, List.nil_append, List.length_cons]
  congr 3
  congr 1
  omega
theorem layL_length (xs : List Value) (j : Nat) (vs : List Value) (h : j + vs.length ≤ xs.length) : (layL xs j vs).length = xs.length := by simp [layL]; omega
theorem Own.sets {B E size n c : Nat} {a : Option Addr} (ha : a ≠ none) : ∀ (vs : List Value) (j : Nat) (w : World) (xs : List Value), Own w B E size a n c xs → j + vs.length ≤ xs.length →
    Own (w.setCells (bk a) (fo a + j) vs) B E size a n c (layL xs j vs) ∧ Step w (w.setCells (bk a) (fo a + j) vs) a a
  | [], j, w, xs, h, _ => by rw [layL_nil]; exact ⟨h, ⟨World.grownBy.refl _ _, .inl rfl⟩⟩
  | v :: vs, j, w, xs, h, hj => by
    simp only [List.length_cons] at hj
    obtain ⟨h1, s1⟩ := Own.set h ha j v
    obtain ⟨h2, s2⟩ := Own.sets ha vs (j + 1) (w.setCell ⟨bk a, fo a + j, none⟩ v) (xs.set j v) h1 (by simp; omega)
    rw [layL_cons _ _ _ _ (by omega)]
    refine ⟨h2, ⟨grownBy_trans s1.grown s2.grown, .inl rfl⟩⟩
theorem edges_lay (l : List Edge) (k : Nat) (e : Edge) (h : k < l.length) : layL (edges l) (k * 6) (eC e) = edges (l.set k e) := by
  have h1 : l.set k e = l.take k ++ e :: l.drop (k + 1) := by rw [List.set_eq_take_append_cons_drop, if_pos h]
  rw [h1, edges_app, edges_cons, ← edges_take, ← edges_drop]
  unfold layL
  rw [List.append_assoc]
  congr 3
  simp [eC]; omega
/-- an edge is stored in its place -/
theorem OwnE.store {w : World} {B n c : Nat} {a : Option Addr} {l : List Edge} (h : OwnE w B a n c l) (k : Nat) (hk : k < l.length) (e : Edge) :
    OwnE (w.setCells (bk a) (fo a + k * 6) (eC e)) B a n c (l.set k e) ∧ Step w (w.setCells (bk a) (fo a + k * 6) (eC e)) a a := by
  have hn := h.len
  have := Own.sets (Own.some h (by omega)) (eC e) (k * 6) w (edges l) h (by rw [edges_length]; simp [eC]; omega)
  rwa [edges_lay l k e hk] at this
theorem OwnE.frz {w : World} {B n c : Nat} {a : Option Addr} {l : List Edge} (h : OwnE w B a n c l) (hn : 0 < n) (k : Nat) :
    w.frozen? ⟨bk a, fo a + k * 6, none⟩ = false ∧ w.frozen? ⟨bk a, fo a + k * 6 + 1, none⟩ = false ∧ w.frozen? ⟨bk a, fo a + k * 6 + 2, none⟩ = false ∧ w.frozen? ⟨bk a, fo a + k * 6 + 3, none⟩ = false ∧ w.frozen? ⟨bk a, fo a + k * 6 + 4, none⟩ = false ∧ w.frozen? ⟨bk a, fo a + k * 6 + 5, none⟩ = false := by
  have f := fun j => Own.frozen h (Own.some h hn) j
  exact ⟨f (k * 6), by have := f (k * 6 + 1); rwa [← Nat.add_assoc] at this, by have := f (k * 6 + 2); rwa [← Nat.add_assoc] at this, by have := f (k * 6 + 3); rwa [← Nat.add_assoc] at this, by have := f (k * 6 + 4); rwa [← Nat.add_assoc] at this, by have := f (k * 6 + 5); rwa [← Nat.add_assoc] at this⟩
theorem setCells6 (w : World) (b o : Nat) (e : Edge) : w.setCells b o (eC e) = (((((w.setCell ⟨b, o, none⟩ (.int .i64 e.kind)).setCell ⟨b, o + 1, none⟩ (.bool e.ext)).setCell ⟨b, o + 2, none⟩ (.bool e.same)).setCell ⟨b, o + 3, none⟩ (.int .i64 e.src)).setCell ⟨b, o + 4, none⟩ (.int .i64 e.dst)).setCell ⟨b, o + 5, none⟩ (.int .i64 e.fence) := rfl
theorem Own.drewD {w : World} {B E size n c : Nat} {a : Option Addr} {xs : List Value} (h : Own w B E size a n c xs) : Own w.drew B E size a n c xs := h.below (below_drewN w 1)
theorem Bx.drewD {w : World} {b : Nat} {e : Edge} (h : Bx w b e) : Bx w.drew b e := h.below (below_drewN w 1)
theorem Bx.belowB {w w' : World} {b B : Nat} {e : Edge} (h : Bx w b e) (hb : b < B) (hB : Below B w w') : Bx w' b e :=
  ⟨Nat.lt_of_lt_of_le h.1 hB.size, fun i hi => by rw [hB.cell (p := ⟨b, i, none⟩) hb]; exact h.2 i hi⟩
theorem zeroCells_toList (z : Value) (n : Nat) : (Builtin.zeroCells z.cells n).toList.length = n * z.cells.size := by simp [Builtin.zeroCells]
/-- clear of a row's end -/
theorem run_clear_end {P : Program} {w : World} {t e : TypeId} {z : Value} {size bytes : Nat} (T : ElT P t e z size bytes) (hv : ∀ w, (zeroValue e).run P w = .ok z w) (h1c : ∀ u ∈ z.cells.toList, u.oneCell' = true)
    {B n c : Nat} {a : Option Addr} {xs : List Value} (h : Own w B e size a n c xs) (k : Nat) (hk : k < n) :
    ∃ w', (∀ ty, (Builtin.clear_ #[t] ty #[.slice (cutA a (c = k) (k * size)) (n - k) (c - k)]).run P w = .ok (.tuple #[]) w') ∧ Own w' B e size a n c (layL xs (k * size) (Builtin.zeroCells z.cells (n - k)).toList) ∧ Step w w' a a := by
  have hcap := h.cap
  have ha := Own.some h (by omega)
  have hne : xs ≠ [] := by
    intro e0
    have hp : 0 < n * size := Nat.mul_pos (by omega) T.pos
    rw [e0] at hcap; simp at hcap; omega
  have hhd := h.row.head hne
  have hck : ¬ c = k := by omega
  have hcut : cutA a (c = k) (k * size) = some ⟨bk a, fo a + k * size, none⟩ := by
    unfold cutA; rw [if_neg hck]
    conv => lhs; rw [hhd]
    by_cases h0 : k * size = 0
    · simp [h0, Addr.add]
    · simp [h0, Addr.add]
  rw [hcut]
  have hzl := zeroCells_toList z (n - k)
  rw [T.zs] at hzl
  have hlen : k * size + (n - k) * size = xs.length := by rw [hcap.2.2, ← Nat.add_mul]; congr 1; omega
  obtain ⟨h2, s2⟩ := Own.sets ha (Builtin.zeroCells z.cells (n - k)).toList (k * size) w xs h (by rw [hzl]; omega)
  refine ⟨_, fun ty => ?_, h2, s2⟩
  have hst := run_storeCells_cells (P := P) (bk a) (fo a + k * size) (Builtin.zeroCells z.cells (n - k)).toList 0 w
    (by
      intro j hj
      rw [hzl] at hj
      have hjl : k * size + j < xs.length := by omega
      have := h.row.cell (k * size + j) hjl
      rw [Nat.add_zero, Nat.add_assoc, this, List.getElem?_eq_getElem hjl]; rfl)
    (by intro j hj; rw [Nat.add_zero, Nat.add_assoc]; exact Own.frozen h ha _)
    (by
      intro v hv'
      simp [Builtin.zeroCells] at hv'
      obtain ⟨i, hi, rfl⟩ := hv'
      have hzs := T.zs
      have hpos := T.pos
      have hm : i % z.cells.size < z.cells.size := Nat.mod_lt _ (by omega)
      rw [getElem!_pos z.cells _ hm]
      exact h1c _ (by simp))
  obtain ⟨m, hm⟩ : ∃ m, n - k = m + 1 := ⟨n - k - 1, by omega⟩
  rw [hm] at hst ⊢
  simp only [Nat.add_zero] at hst
  simp [Builtin.clear_, run_underlying T.und, hv, hst]
theorem OwnE.front {w : World} {B n c k : Nat} {a : Option Addr} {L : List Edge} {vs : List Value} (h : Own w B 23 6 a n c (layL (edges L) (k * 6) vs)) (hn : n = L.length) (hk : k ≤ n) : OwnE w B a k c (L.take k) := by
  unfold layL at h
  rw [List.append_assoc, edges_take] at h
  obtain ⟨m, rfl⟩ : ∃ m, n = k + m := ⟨n - k, by omega⟩
  exact Own.front h (by rw [edges_length, List.length_take]; omega)
end Go.Proofs.Yteijgmaggmhggaa

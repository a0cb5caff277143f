/- Slices of slices of ints: read, and of the call's own. Lemmas of this claim's own; no condition. -/
import Derived.Test.YtdafpafoioejaaaLib
import Derived.Test.YtdafpafoioejaaaMath
import Derived.Test.YtdafpafoioejaaaFr
namespace Go.Proofs.Ytdafpafoioejaaa
open Go.RowKit
set_option linter.unusedVariables false

/-- 'append(s, u)' behind more than one new block -/
theorem wpList_app1' {P : Program} {w : World} {ops : Array Oper} {rest : List Oper} {o : Oper} {a : Act} {Q : Exit → Act → World → Prop} {t e : TypeId} {z : Value} {size bytes : Nat} (T : ElT P t e z size bytes) (s x : Operand) (hgd : o.guard = none) (ho : o.op = .call { callee := .builtin .append, args := #[s, x], argTypes := #[t, t] })
    {B n c N : Nat} {sa : Option Addr} {xs : List Value} (hN : w.heap.size = N) (hs : a.eval s = .slice sa n c) (hown : Own w B e size sa n c xs)
    {us : Array Value} (hx : a.eval x = .slice (some ⟨N, 0, none⟩) 1 1) (hl : us.size = size) (h1c : ∀ u ∈ us.toList, u.oneCell' = true)
    {w0 : World} (hB : Below B w0 w) (hB0 : B ≤ w.heap.size) (hbytes : (n + 1) * bytes ≤ 140737488355328) (hm : n + 1 ≤ maxLen)
    (h : ∀ a' c' w', Own w' B e size a' (n + 1) c' (xs ++ us.toList) → Grew w w' sa c a' c' → Below B w0 w' → wpList P ops Q rest (a.put o.dst (.slice a' (n + 1) c')) w') : wpList P ops Q (o :: rest) a (w.alloc (.cells us e)) := by
  subst hN
  exact wpList_app1 T s x hgd ho hs hown hx hl h1c hB hB0 hbytes hm h

/-- the header of an inner slice -/
abbrev Hd := Option Addr × Nat
def hv (h : Hd) (x : List Int) : Value := .slice h.1 x.length h.2
def hdrs (hs : List Hd) (xs : List (List Int)) : List Value := List.zipWith hv hs xs
def hd (hs : List Hd) (i : Nat) : Hd := hs.getD i (none, 0)

theorem hdrs_length {hs : List Hd} {xs : List (List Int)} (h : hs.length = xs.length) : (hdrs hs xs).length = xs.length := by simp [hdrs, h]
theorem hdrs_get {hs : List Hd} {xs : List (List Int)} (h : hs.length = xs.length) {i : Nat} (hi : i < xs.length) : (hdrs hs xs)[i]? = some (.slice (hd hs i).1 (ln xs i).length (hd hs i).2) := by
  have h1 : i < hs.length := by omega
  simp [hdrs, List.getElem?_zipWith, hv, hd, ln, List.getD_eq_getElem?_getD, hi, h1]
theorem hdrs_snoc {hs : List Hd} {xs : List (List Int)} (h : hs.length = xs.length) (a : Hd) (x : List Int) : hdrs (hs ++ [a]) (xs ++ [x]) = hdrs hs xs ++ [hv a x] := by
  unfold hdrs; rw [List.zipWith_append h]; rfl
theorem hdrs_set {hs : List Hd} {xs : List (List Int)} (h : hs.length = xs.length) (k : Nat) (a : Hd) (x : List Int) : hdrs (hs.set k a) (xs.set k x) = (hdrs hs xs).set k (hv a x) := by
  apply List.ext_getElem?
  intro i
  unfold hdrs
  by_cases hik : i = k
  · subst hik
    by_cases hi : i < xs.length
    · have h1 : i < hs.length := by omega
      rw [List.getElem?_set_self (by simp; omega)]
      simp [List.getElem?_zipWith, hi, h1]
    · rw [List.getElem?_eq_none (by simp; omega), List.getElem?_eq_none (by simp; omega)]
  · simp [List.getElem?_zipWith, List.getElem?_set_ne (Ne.symm hik)]
theorem oneCell_hdrs (hs : List Hd) (xs : List (List Int)) : ∀ u ∈ hdrs hs xs, u.oneCell' = true := by
  intro u hu
  unfold hdrs at hu
  obtain ⟨i, hi, rfl⟩ := List.mem_iff_getElem.1 hu
  simp [List.getElem_zipWith, hv, Value.oneCell']
theorem getD_set_self {α : Type} {l : List α} {k : Nat} {x d : α} (h : k < l.length) : (l.set k x).getD k d = x := by
  rw [List.getD_eq_getElem?_getD, List.getElem?_set_self h]; rfl
theorem getD_set_ne' {α : Type} {l : List α} {k i : Nat} {x d : α} (h : i ≠ k) : (l.set k x).getD i d = l.getD i d := by
  rw [List.getD_eq_getElem?_getD, List.getElem?_set_ne (Ne.symm h), List.getD_eq_getElem?_getD]
theorem getD_snoc_lt {α : Type} {l : List α} {i : Nat} {x d : α} (h : i < l.length) : (l ++ [x]).getD i d = l.getD i d := by
  rw [List.getD_eq_getElem?_getD, List.getElem?_append_left h, List.getD_eq_getElem?_getD]
theorem getD_snoc_eq {α : Type} {l : List α} {i : Nat} {x d : α} (h : i = l.length) : (l ++ [x]).getD i d = x := by
  subst h; rw [List.getD_eq_getElem?_getD]; simp
theorem getD_ge {α : Type} {l : List α} {i : Nat} {d : α} (h : l.length ≤ i) : l.getD i d = d := by
  rw [List.getD_eq_getElem?_getD, List.getElem?_eq_none h]; rfl

/-- a slice of slices that is read -/
structure Lists (w : World) (a : Option Addr) (hs : List Hd) (xs : List (List Int)) : Prop where
  len : hs.length = xs.length
  row : Row w a (hdrs hs xs)
  most : xs.length ≤ 9223372036854775807
  each : ∀ i, Ints w (hd hs i).1 (ln xs i)
  cap : ∀ i, (ln xs i).length ≤ (hd hs i).2
theorem Lists.below {w w' : World} {a : Option Addr} {hs : List Hd} {xs : List (List Int)} (h : Lists w a hs xs) (hb : Below w.heap.size w w') : Lists w' a hs xs :=
  ⟨h.len, h.row.below hb, h.most, fun i => (h.each i).below hb, h.cap⟩
theorem Lists.drewN {w : World} {a : Option Addr} {hs : List Hd} {xs : List (List Int)} (h : Lists w a hs xs) (n : Nat) : Lists (w.drewN n) a hs xs := h.below (below_drewN _ _)
theorem Lists.cell {w : World} {a : Option Addr} {hs : List Hd} {xs : List (List Int)} (h : Lists w a hs xs) (k : Nat) (hk : k < xs.length) :
    w.cell? ⟨bk a, fo a + k, none⟩ = some (.slice (hd hs k).1 (ln xs k).length (hd hs k).2) := by
  rw [h.row.cell k (by rw [hdrs_length h.len]; exact hk), hdrs_get h.len hk]
theorem Lists.idx {P : Program} {w : World} {a : Option Addr} {hs : List Hd} {xs : List (List Int)} {t e bytes : Nat} {z : Value} (h : Lists w a hs xs) (T : ElT P t e z 1 bytes) (k : Nat) (hk : k < xs.length) :
    ∀ c w', (Instr.indexAt t (.slice a xs.length c) (.int .i64 k)).run P w' = .ok (.pointer (some ⟨bk a, fo a + k, none⟩)) w' := by
  intro c
  have := run_idx (c := c) (n := xs.length) (m := 1) h.row T.und T.cells T.isSome (by rw [hdrs_length h.len]; simp) (by omega) k hk .i64
  simpa using this
theorem Lists.idxz {P : Program} {w : World} {a : Option Addr} {hs : List Hd} {xs : List (List Int)} {t e bytes : Nat} {z : Value} (h : Lists w a hs xs) (T : ElT P t e z 1 bytes) (k : Nat) (hk : k < xs.length) (x : Int) (hx : x = k) :
    ∀ c w', (Instr.indexAt t (.slice a xs.length c) (.int .i64 x)).run P w' = .ok (.pointer (some ⟨bk a, fo a + k, none⟩)) w' := by
  subst hx; exact h.idx T k hk

/-- a slice of slices of the call's own: outer row, inner rows, no two in one block -/
structure OwnM (w : World) (B : Nat) (a : Option Addr) (c : Nat) (hs : List Hd) (xs : List (List Int)) : Prop where
  len : hs.length = xs.length
  outer : Own w B 22 1 a xs.length c (hdrs hs xs)
  inner : ∀ i, OwnI w B (hd hs i).1 (ln xs i).length (hd hs i).2 (ln xs i)
  apart : ∀ i j, i ≠ j → Apart (hd hs i).1 (hd hs j).1
  out : ∀ i, Apart a (hd hs i).1
theorem OwnM.nil (w : World) (B : Nat) : OwnM w B none 0 [] [] :=
  ⟨rfl, Own.nil _ _ _ _, fun i => by simpa [hd, ln, OwnI] using Own.nil w B 3 1, fun i j _ => .inl (by simp [hd]), fun i => .inl rfl⟩
theorem OwnM.lists {w : World} {B : Nat} {a : Option Addr} {c : Nat} {hs : List Hd} {xs : List (List Int)} (h : OwnM w B a c hs xs) : Lists w a hs xs :=
  ⟨h.len, h.outer.row, by have := h.outer.cap; have h2 := this.2.1; unfold maxLen at h2; omega, fun i => (h.inner i).ints.1, fun i => (h.inner i).cap.1⟩
theorem OwnM.below {w w' : World} {B : Nat} {a : Option Addr} {c : Nat} {hs : List Hd} {xs : List (List Int)} (h : OwnM w B a c hs xs) (hb : Below w.heap.size w w') : OwnM w' B a c hs xs :=
  ⟨h.len, h.outer.below hb, fun i => (h.inner i).below hb, h.apart, h.out⟩
theorem OwnM.mono {w : World} {B B' : Nat} {a : Option Addr} {c : Nat} {hs : List Hd} {xs : List (List Int)} (h : OwnM w B a c hs xs) (hB : B' ≤ B) : OwnM w B' a c hs xs :=
  ⟨h.len, h.outer.mono hB, fun i => (h.inner i).mono hB, h.apart, h.out⟩
/-- a header and its row go in at the end -/
theorem OwnM.push {w w' : World} {B : Nat} {a a' : Option Addr} {c c' : Nat} {hs : List Hd} {xs : List (List Int)} (h : OwnM w B a c hs xs) (k : Hd) (x : List Int)
    (ho : Own w' B 22 1 a' (xs.length + 1) c' (hdrs hs xs ++ [hv k x])) (hs' : Step w w' a a') (hk : OwnI w B k.1 x.length k.2 x) (hk1 : ∀ i, Apart (hd hs i).1 k.1) (hk2 : Apart a k.1) :
    OwnM w' B a' c' (hs ++ [k]) (xs ++ [x]) := by
  have hl : (hs ++ [k]).length = (xs ++ [x]).length := by simp [h.len]
  have each : ∀ i, (i < xs.length ∧ hd (hs ++ [k]) i = hd hs i ∧ ln (xs ++ [x]) i = ln xs i) ∨ (i = xs.length ∧ hd (hs ++ [k]) i = k ∧ ln (xs ++ [x]) i = x) ∨ (hd (hs ++ [k]) i = (none, 0) ∧ ln (xs ++ [x]) i = []) := by
    intro i
    rcases Nat.lt_trichotomy i xs.length with h1 | h1 | h1
    · exact .inl ⟨h1, getD_snoc_lt (by rw [h.len]; exact h1), getD_snoc_lt h1⟩
    · exact .inr (.inl ⟨h1, getD_snoc_eq (by rw [h.len]; exact h1), getD_snoc_eq h1⟩)
    · exact .inr (.inr ⟨getD_ge (by simp [h.len]; omega), getD_ge (by simp; omega)⟩)
  have st1 : ∀ i, OwnI w' B (hd hs i).1 (ln xs i).length (hd hs i).2 (ln xs i) ∧ Apart (hd hs i).1 a' := fun i => (h.inner i).step hs' (h.out i).symm
  have st2 : OwnI w' B k.1 x.length k.2 x ∧ Apart k.1 a' := hk.step hs' hk2.symm
  refine ⟨hl, ?_, fun i => ?_, fun i j hij => ?_, fun i => ?_⟩
  · rw [hdrs_snoc h.len, List.length_append]; exact ho
  · rcases each i with ⟨_, e1, e2⟩ | ⟨_, e1, e2⟩ | ⟨e1, e2⟩
    · rw [e1, e2]; exact (st1 i).1
    · rw [e1, e2]; exact st2.1
    · rw [e1, e2]; exact Own.nil _ _ _ _
  · rcases each i with ⟨hi, e1, _⟩ | ⟨hi, e1, _⟩ | ⟨e1, _⟩
    · rcases each j with ⟨hj, f1, _⟩ | ⟨hj, f1, _⟩ | ⟨f1, _⟩
      · rw [e1, f1]; exact h.apart i j hij
      · rw [e1, f1]; exact hk1 i
      · rw [f1]; exact .inr (.inl rfl)
    · rcases each j with ⟨hj, f1, _⟩ | ⟨hj, f1, _⟩ | ⟨f1, _⟩
      · rw [e1, f1]; exact (hk1 j).symm
      · omega
      · rw [f1]; exact .inr (.inl rfl)
    · rw [e1]; exact .inl rfl
  · rcases each i with ⟨_, e1, _⟩ | ⟨_, e1, _⟩ | ⟨e1, _⟩
    · rw [e1]; exact (st1 i).2.symm
    · rw [e1]; exact st2.2.symm
    · rw [e1]; exact .inr (.inl rfl)
/-- an inner row is written, nothing else: the others stand -/
theorem OwnM.others {w w' : World} {B : Nat} {a : Option Addr} {c : Nat} {hs : List Hd} {xs : List (List Int)} (h : OwnM w B a c hs xs) (k : Nat) {a2 : Option Addr} (hs' : Step w w' (hd hs k).1 a2) :
    Own w' B 22 1 a xs.length c (hdrs hs xs) ∧ Apart a a2 ∧ ∀ i, i ≠ k → OwnI w' B (hd hs i).1 (ln xs i).length (hd hs i).2 (ln xs i) ∧ Apart (hd hs i).1 a2 :=
  ⟨(h.outer.step hs' (h.out k)).1, (h.outer.step hs' (h.out k)).2, fun i hi => (h.inner i).step hs' (h.apart i k hi)⟩
/-- an inner row is written over in its place -/
theorem OwnM.over {w w' : World} {B : Nat} {a : Option Addr} {c : Nat} {hs : List Hd} {xs : List (List Int)} (h : OwnM w B a c hs xs) (k : Nat) (hk : k < xs.length) (x : List Int) (hx : x.length = (ln xs k).length)
    (hs' : Step w w' (hd hs k).1 (hd hs k).1) (ho : OwnI w' B (hd hs k).1 (ln xs k).length (hd hs k).2 x) : OwnM w' B a c hs (xs.set k x) := by
  obtain ⟨o1, -, o3⟩ := h.others k hs'
  have e : hdrs hs (xs.set k x) = hdrs hs xs := by
    apply List.ext_getElem?
    intro i
    by_cases hi : i < xs.length
    · rw [hdrs_get (by simpa using h.len) (by simpa using hi), hdrs_get h.len hi]
      by_cases hik : i = k
      · subst hik; rw [show ln (xs.set i x) i = x from getD_set_self hk, hx]
      · rw [show ln (xs.set k x) i = ln xs i from getD_set_ne' hik]
    · rw [List.getElem?_eq_none (by rw [hdrs_length (by simpa using h.len)]; simp; omega), List.getElem?_eq_none (by rw [hdrs_length h.len]; omega)]
  refine ⟨by simpa using h.len, ?_, fun i => ?_, h.apart, h.out⟩
  · rw [e, List.length_set]; exact o1
  · by_cases hik : i = k
    · subst hik
      show OwnI w' B (hd hs i).1 ((xs.set i x).getD i []).length (hd hs i).2 ((xs.set i x).getD i [])
      rw [getD_set_self hk, hx]; exact ho
    · show OwnI w' B (hd hs i).1 ((xs.set k x).getD i []).length (hd hs i).2 ((xs.set k x).getD i [])
      rw [getD_set_ne' hik]; exact (o3 i hik).1
/-- an inner row has grown, and its new header is stored -/
theorem OwnM.put {w w' : World} {B : Nat} {a : Option Addr} {c : Nat} {hs : List Hd} {xs : List (List Int)} (h : OwnM w B a c hs xs) (k : Nat) (hk : k < xs.length) (x : List Int) {a2 : Option Addr} {c2 : Nat}
    (hs' : Step w w' (hd hs k).1 a2) (ho : OwnI w' B a2 x.length c2 x) :
    OwnM (w'.setCell ⟨bk a, fo a + k, none⟩ (.slice a2 x.length c2)) B a c (hs.set k (a2, c2)) (xs.set k x) ∧ Step w' (w'.setCell ⟨bk a, fo a + k, none⟩ (.slice a2 x.length c2)) a a := by
  obtain ⟨o1, o2, o3⟩ := h.others k hs'
  have hne : a ≠ none := Own.some o1 (by omega)
  obtain ⟨s1, s2⟩ := Own.set o1 hne k (.slice a2 x.length c2)
  have hkh : k < hs.length := by rw [h.len]; exact hk
  refine ⟨⟨by simp [h.len], ?_, fun i => ?_, fun i j hij => ?_, fun i => ?_⟩, s2⟩
  · rw [hdrs_set h.len, List.length_set]; exact s1
  · by_cases hik : i = k
    · subst hik
      show OwnI _ B ((hs.set i (a2, c2)).getD i (none, 0)).1 ((xs.set i x).getD i []).length ((hs.set i (a2, c2)).getD i (none, 0)).2 ((xs.set i x).getD i [])
      rw [getD_set_self hk, getD_set_self hkh]
      exact (Own.step ho s2 o2.symm).1
    · show OwnI _ B ((hs.set k (a2, c2)).getD i (none, 0)).1 ((xs.set k x).getD i []).length ((hs.set k (a2, c2)).getD i (none, 0)).2 ((xs.set k x).getD i [])
      rw [getD_set_ne' hik, getD_set_ne' hik]
      exact (Own.step (o3 i hik).1 s2 (h.out i).symm).1
  · show Apart ((hs.set k (a2, c2)).getD i (none, 0)).1 ((hs.set k (a2, c2)).getD j (none, 0)).1
    by_cases hik : i = k
    · subst hik
      rw [getD_set_self hkh, getD_set_ne' (Ne.symm hij)]
      exact (o3 j (Ne.symm hij)).2.symm
    · by_cases hjk : j = k
      · subst hjk
        rw [getD_set_self hkh, getD_set_ne' hik]
        exact (o3 i hik).2
      · rw [getD_set_ne' hik, getD_set_ne' hjk]; exact h.apart i j hij
  · show Apart a ((hs.set k (a2, c2)).getD i (none, 0)).1
    by_cases hik : i = k
    · subst hik; rw [getD_set_self hkh]; exact o2
    · rw [getD_set_ne' hik]; exact h.out i
/-- writes elsewhere -/
theorem OwnM.step {w w' : World} {B : Nat} {a sa a' : Option Addr} {c : Nat} {hs : List Hd} {xs : List (List Int)} (h : OwnM w B a c hs xs) (hs' : Step w w' sa a') (h1 : Apart a sa) (h2 : ∀ i, Apart (hd hs i).1 sa) :
    OwnM w' B a c hs xs ∧ Apart a a' ∧ ∀ i, Apart (hd hs i).1 a' :=
  ⟨⟨h.len, (h.outer.step hs' h1).1, fun i => ((h.inner i).step hs' (h2 i)).1, h.apart, h.out⟩, (h.outer.step hs' h1).2, fun i => ((h.inner i).step hs' (h2 i)).2⟩

/-- the call hands back these lists, in memory of its own -/
def RetM (w : World) (xs : List (List Int)) (e : Ending) (w' : World) : Prop :=
  ∃ a c hs, e = .returned (.slice a xs.length c) ∧ OwnM w' w.heap.size a c hs xs ∧ Below w.heap.size w w'

end Go.Proofs.Ytdafpafoioejaaa

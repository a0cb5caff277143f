/- A slice of slices of ints that comes in to a statement, as the walks take it. Lemmas of this claim's own; no condition. -/
import Derived.Test.YtdafpafoioejaaaLibM
import Derived.Deep.Matrix
namespace Go.Proofs.Ytdafpafoioejaaa
open Go.ChangeShapes Go.WideShapes Go.ChangeAt Go.RowKit Go.Deep
set_option linter.unusedVariables false

theorem weightsAll_mem {H : Type} {P : Program} {e : TypeId} : ∀ {ds : List (DataW H)} {d : DataW H}, d ∈ ds → ∀ n ∈ d.weights P e, n ∈ DataW.weightsAll P e ds
  | x :: r, d, h, n, hn => by
    simp only [DataW.weightsAll, List.mem_append]
    rcases List.mem_cons.1 h with rfl | h
    · exact .inl hn
    · exact .inr (weightsAll_mem h n hn)
theorem row_of_cells {W : World} {x : Addr} {zs : List Int} (h : ∀ c, c < zs.length → W.cell? (x.add c) = some (.int .i64 (zs.getD c 0))) : Row W (some x) (ints zs) := by
  by_cases h0 : zs = []
  · subst h0; exact Row.nil _ _
  · have hp := List.length_pos_iff.2 h0
    obtain ⟨b, off, spot⟩ := x
    have hspot : spot = none := by simpa [Addr.add] using World.cell?_spot (h 0 hp)
    subst hspot
    refine ⟨fun _ => rfl, fun i hi => ?_⟩
    have hi' : i < zs.length := by simpa using hi
    have := h i hi'
    rw [Addr.add_lit] at this
    simp only [bk_some, fo_some]
    rw [this]
    simp [ints, hi', List.getD_eq_getElem?_getD]

theorem open_Lists {H : Type} {enc : TypeId × Value → H} {P : Program} {W : World} {t e q : TypeId} {a : Option Addr} {len cap : Nat} {d : DataW H} {p : List MemPlace}
    (ht : P.underlying t = some (.slice e)) (he : P.underlying e = some (.slice q)) (hq : P.underlying q = some (.int .i64)) (ce : P.cellsOf e = 1) (cq : P.cellsOf q = 1) (be : P.bytesOf e = 24) (bq : P.bytesOf q = 8)
    (h : DataW.Trod enc P W 0 (fun _ => true) true t (.slice a len cap) d p)
    {ts : List TypeId} {ds : List (DataW H)} (hsz : (DataW.weightsEach P ts ds).all (· ≤ reachBytes) = true) (j : Nat) (htj : ts[j]? = some t) (hdj : ds[j]? = some d) :
    ∃ (xs : List (List Int)) (hs : List Hd), len = xs.length ∧ Lists W a hs xs ∧ xs.length ≤ cap ∧ xs.length * 24 ≤ 140737488351232 ∧ ∀ i, (ln xs i).length * 8 ≤ 140737488351232 := by
  obtain ⟨fuel, hf⟩ := h
  rcases open_int_rows ht he hq ce cq hf with ⟨hcs, _⟩ | ⟨x, l, c, A, L, C, Z, hcs, _, hl, hm, hx, hr⟩
  · simp [Value.cells] at hcs
    obtain ⟨rfl, rfl, rfl⟩ := hcs
    exact ⟨[], [], rfl, ⟨rfl, Row.nil _ _, by simp, fun i => by simpa [hd, ln] using Ints.nil W none, by simp [hd, ln]⟩, by simp, by simp, by simp [ln]⟩
  · simp [Value.cells] at hcs
    obtain ⟨rfl, rfl, rfl⟩ := hcs
    simp only [Prod.mk.injEq] at hx
    obtain ⟨rfl, _⟩ := hx
    have hw := sized_slice hsz htj hdj ht
    rw [be] at hw
    simp only [List.length_map, List.length_range, reachBytes] at hw
    have hcap : cap ≤ 9223372036854775807 := by simpa [maxLen] using hm
    have hlen : ((List.range len).map fun r => (Z r).take (L r)).length = len := by simp
    have hh : ∀ i, i < len → hd ((List.range len).map fun r => (A r, C r)) i = (A i, C i) := fun i hi => by
      unfold hd; rw [List.getD_eq_getElem?_getD]; simp [hi]
    have hz : ∀ i, i < len → ln ((List.range len).map fun r => (Z r).take (L r)) i = (Z i).take (L i) := fun i hi => by
      unfold ln; rw [List.getD_eq_getElem?_getD]; simp [hi]
    have hzl : ∀ i, i < len → ((Z i).take (L i)).length = L i := fun i hi => by
      have := hr i (by omega); rw [List.length_take]; omega
    have hbig : ∀ i, ¬ i < len → ln ((List.range len).map fun r => (Z r).take (L r)) i = [] := fun i hi => getD_ge (by rw [hlen]; omega)
    have hbigh : ∀ i, ¬ i < len → hd ((List.range len).map fun r => (A r, C r)) i = (none, 0) := fun i hi => getD_ge (by simp; omega)
    refine ⟨(List.range len).map fun r => (Z r).take (L r), (List.range len).map fun r => (A r, C r), hlen.symm, ⟨by simp, ?_, by rw [hlen]; omega, fun i => ?_, fun i => ?_⟩, by rw [hlen]; exact hl, by rw [hlen]; omega, fun i => ?_⟩
    · have hhl : ((List.range len).map fun r => (A r, C r)).length = ((List.range len).map fun r => (Z r).take (L r)).length := by simp
      by_cases h0 : len = 0
      · subst h0; exact Row.nil _ _
      · obtain ⟨b, off, spot⟩ := x
        have hspot : spot = none := by
          have := (hr 0 (by omega)).1
          simpa [Addr.add] using World.cell?_spot this
        subst hspot
        refine ⟨fun _ => rfl, fun i hi => ?_⟩
        rw [hdrs_length hhl, hlen] at hi
        have := (hr i (by omega)).1
        rw [Addr.add_lit] at this
        simp only [bk_some, fo_some]
        rw [this, hdrs_get hhl (by rw [hlen]; exact hi), hh i hi, hz i hi, hzl i hi]
    · by_cases hi : i < len
      · rw [hh i hi, hz i hi]
        obtain ⟨h1, h2, h3, h4, h5, h6, h7⟩ := hr i (by omega)
        have key : Row W (A i) (ints (Z i)) := by
          cases hA : A i with
          | none => have : (Z i) = [] := List.eq_nil_of_length_eq_zero (by rw [h4]; exact h6 hA)
                    rw [this]; exact Row.nil _ _
          | some a' => exact row_of_cells fun c hc => (h7 a' hA).2 c (by omega)
        refine ⟨?_, by rw [hzl i hi]; unfold maxLen at h3; omega⟩
        have := key.take (L i)
        simpa [ints, List.map_take] using this
      · rw [hbig i hi]; exact Ints.nil _ _
    · by_cases hi : i < len
      · rw [hh i hi, hz i hi, hzl i hi]; exact (hr i (by omega)).2.1
      · rw [hbig i hi]; simp
    · by_cases hi : i < len
      · rw [hz i hi, hzl i hi]
        obtain ⟨h1, h2, h3, h4, h5, h6, h7⟩ := hr i (by omega)
        cases hA : A i with
        | none => have := h6 hA; omega
        | some a' =>
          have hmem : intRow (H := H) .i64 (A i) (L i) (Z i) ∈ (List.range len).map fun r => intRow (H := H) .i64 (A r) (L r) (Z r) := List.mem_map.2 ⟨i, List.mem_range.2 hi, rfl⟩
          have hwt : (((Z i).take (L i)).length + ((Z i).drop (L i)).length) * 8 ∈ (intRow (H := H) .i64 (A i) (L i) (Z i)).weights P e := by
            rw [hA]; simp [intRow, DataW.weights, he, lits, bq]
          have h8 := weightsAll_mem (P := P) (e := e) hmem _ hwt
          have h9 := List.all_eq_true.1 hsz _ (DataW.weights_mem_each htj hdj _ (by simp only [DataW.weights, ht]; exact List.mem_cons_of_mem _ (List.mem_append.2 (.inl h8))))
          simp only [List.length_take, List.length_drop, reachBytes] at h9
          have := of_decide_eq_true h9
          omega
      · rw [hbig i hi]; simp
end Go.Proofs.Ytdafpafoioejaaa

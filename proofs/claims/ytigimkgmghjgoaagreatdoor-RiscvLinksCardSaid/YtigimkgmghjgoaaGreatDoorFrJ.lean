/- Slices of instructions that come in to a statement, as the walks take them. Lemmas of this claim's own; no condition. -/
import Derived.Test.YtigimkgmghjgoaaGreatDoorFrI
import Derived.Test.YtigimkgmghjgoaaGreatDoorLibI
namespace Go.Proofs.YtigimkgmghjgoaaGreatDoor
open Go.ChangeShapes Go.WideShapes Go.Deep Go.RowKit Go.Joins
set_option linter.unusedVariables false

section
variable {H : Type} {enc : TypeId × Value → H} {P : Program} {w : World} {base : Nat} {spare : Nat → Bool} {held : Bool}
theorem open_slice_fields {t e : TypeId} {fs : Array Field} {fuel : Nat} {cs : List Value} {x : DataW H × List MemPlace} (ht : P.underlying t = some (.slice e)) (he : P.underlying e = some (.struct fs))
    (hone : oneCellFields P fs = true) (hC : P.cellsOf e = fs.size) (h : DataW.trod enc P w base spare held fuel t cs = some x) :
    (cs = [.slice none 0 0] ∧ x = (.nil, [])) ∨
    ∃ (a : Addr) (len cap m : Nat) (D : Nat → DataW H) (Pl : Nat → List MemPlace), cs = [.slice (some a) len cap] ∧ base ≤ a.block ∧ len ≤ cap ∧ cap ≤ maxLen ∧ m = (if spare a.block then cap else len) ∧
      x = (.slice ((List.range len).map D) ((List.range (m - len)).map fun j => D (len + j)), MemPlace.row a (m * fs.size) ++ (List.range m).flatMap Pl) ∧
      ∀ i, i < m → ∃ (ys : List (DataW H × List MemPlace)) (n : Nat), D i = .agg (ys.map (·.1)) ∧ Pl i = ys.flatMap (·.2) ∧ ys.length = fs.size ∧
        ∀ (j : Nat) (f : Field), fs[j]? = some f → ∃ (v : Value) (y : DataW H × List MemPlace), w.cell? (a.add (i * fs.size + j)) = some v ∧ ys[j]? = some y ∧ DataW.trod enc P w base spare held n f.type [v] = some y := by
  rcases open_slice ht h with h0 | ⟨a, len, cap, m, n, D, Pl, hcs, hb, hl, hm, hmm, hx, hi⟩
  · exact .inl h0
  · refine .inr ⟨a, len, cap, m, D, Pl, hcs, hb, hl, hm, hmm, by rw [hC] at hx; exact hx, fun i him => ?_⟩
    obtain ⟨cs', hc, ht'⟩ := hi i him
    rw [hC] at hc
    obtain ⟨ys, n', hn', hy, hlen, hyl, hf⟩ := DataW.trod_struct he ht'
    obtain ⟨_, hcl, hat⟩ := World.cells?_some hc
    simp only [Prod.mk.injEq] at hy
    refine ⟨ys, n', hy.1, hy.2, hyl, fun j f hj => ?_⟩
    obtain ⟨ho, hk⟩ := hone_of hone j f hj
    have hjl : j < fs.size := (Array.getElem?_eq_some_iff.1 hj).1
    have hcell := hat j hjl
    have hv : cs'[j]? = some (cs'[j]'(by omega)) := List.getElem?_eq_getElem (by omega)
    have h1 := hf j f hj
    rw [ho, hk] at h1
    have hone' : (cs'.drop j).take 1 = [cs'[j]'(by omega)] := by
      rw [List.drop_eq_getElem_cons (by omega)]
      rfl
    rw [hone'] at h1
    have hys : ys[j]? = some (ys[j]'(by omega)) := List.getElem?_eq_getElem (by omega)
    refine ⟨_, _, ?_, hys, h1.trans hys⟩
    rw [← Go.Deep.add_add, hcell, hv]
end

set_option maxRecDepth 100000 in
theorem open_Is {H : Type} {enc : TypeId × Value → H} {W : World} {a : Option Addr} {len cap : Nat} {d : DataW H} {p : List MemPlace}
    (h : DataW.Trod enc Tryz.prog W 0 (fun _ => true) true 32 (.slice a len cap) d p)
    {ts : List TypeId} {ds : List (DataW H)} (hsz : (DataW.weightsEach Tryz.prog ts ds).all (· ≤ reachBytes) = true) (j : Nat) (htj : ts[j]? = some 32) (hdj : ds[j]? = some d) :
    ∃ l : List Ins, len = l.length ∧ Is W a l ∧ l.length ≤ cap ∧ l.length * 80 ≤ 140737488351232 ∧ ∀ i ∈ l, i.label.length ≤ 9223372036854775807 := by
  obtain ⟨fuel, hf⟩ := h
  rcases open_slice_fields (P := Tryz.prog) Tryz.underlying32 Tryz.underlying23 (by kernel_rfl) (by kernel_rfl) hf with ⟨hcs, _⟩ | ⟨x, len', cap', m, D, Pl, hcs, _, hl, hm, hmm, hx, hi⟩
  · simp [Value.cells] at hcs
    obtain ⟨rfl, rfl, rfl⟩ := hcs
    exact ⟨[], rfl, Is.nil _ _, by simp, by simp, by simp⟩
  · simp [Value.cells] at hcs
    obtain ⟨rfl, rfl, rfl⟩ := hcs
    simp only [if_true] at hmm
    subst hmm
    have hreach : m * 80 ≤ 140737488351232 := by
      simp only [Prod.mk.injEq] at hx
      obtain ⟨rfl, _⟩ := hx
      have h5 : Tryz.prog.bytesOf 23 = 80 := by kernel_rfl
      have := sized_slice hsz htj hdj Tryz.underlying32
      rw [h5] at this
      simp only [List.length_map, List.length_range, reachBytes] at this
      omega
    have key : ∀ i, i < len → ∃ e : Ins, e.label.length ≤ 9223372036854775807 ∧ ∀ j, j < 8 → W.cell? (x.add (i * 8 + j)) = (iC e)[j]? := by
      intro i hil
      obtain ⟨ys, n, -, -, -, hf⟩ := hi i (by omega)
      obtain ⟨v0, y0, g0, -, r0⟩ := hf 0 _ rfl
      obtain ⟨v1, y1, g1, -, r1⟩ := hf 1 _ rfl
      obtain ⟨v2, y2, g2, -, r2⟩ := hf 2 _ rfl
      obtain ⟨v3, y3, g3, -, r3⟩ := hf 3 _ rfl
      obtain ⟨v4, y4, g4, -, r4⟩ := hf 4 _ rfl
      obtain ⟨v5, y5, g5, -, r5⟩ := hf 5 _ rfl
      obtain ⟨v6, y6, g6, -, r6⟩ := hf 6 _ rfl
      obtain ⟨v7, y7, g7, -, r7⟩ := hf 7 _ rfl
      obtain ⟨k0, h0, -⟩ := DataW.trod_int Tryz.underlying3 r0
      obtain ⟨k1, h1, -⟩ := DataW.trod_int Tryz.underlying3 r1
      obtain ⟨k2, h2, -⟩ := DataW.trod_int Tryz.underlying3 r2
      obtain ⟨k3, h3, -⟩ := DataW.trod_int Tryz.underlying3 r3
      obtain ⟨k4, h4, -⟩ := DataW.trod_int Tryz.underlying3 r4
      obtain ⟨s5, h5, -, l5⟩ := DataW.trod_string Tryz.underlying9 r5
      obtain ⟨s6, h6, -, l6⟩ := DataW.trod_string Tryz.underlying9 r6
      obtain ⟨k7, h7, -⟩ := DataW.trod_int Tryz.underlying3 r7
      cases h0; cases h1; cases h2; cases h3; cases h4; cases h5; cases h6; cases h7
      obtain ⟨x5, rfl⟩ := tx_of s5
      obtain ⟨x6, rfl⟩ := tx_of s6
      refine ⟨⟨k0, k1, k2, k3, k4, x5, x6, k7⟩, by rw [tx_size] at l6; unfold maxLen at l6; exact l6, fun j hj => ?_⟩
      match j, hj with
      | 0, _ => exact g0
      | 1, _ => exact g1
      | 2, _ => exact g2
      | 3, _ => exact g3
      | 4, _ => exact g4
      | 5, _ => exact g5
      | 6, _ => exact g6
      | 7, _ => exact g7
    obtain ⟨f, hf0⟩ : ∃ f : Nat → Ins, ∀ i, i < len → (f i).label.length ≤ 9223372036854775807 ∧ ∀ j, j < 8 → W.cell? (x.add (i * 8 + j)) = (iC (f i))[j]? :=
      ⟨fun i => if h : i < len then Classical.choose (key i h) else ins0, fun i hil => by simp only [hil, dite_true]; exact Classical.choose_spec (key i hil)⟩
    have hf := fun i hi => (hf0 i hi).2
    refine ⟨(List.range len).map f, by simp, ⟨⟨?_, ?_⟩, by simp; omega⟩, by simp; omega, by simp; omega, ?_⟩
    · intro hne
      have h0 : 0 < len := by
        rcases Nat.eq_zero_or_pos len with h0 | h0
        · subst h0; exact absurd rfl hne
        · exact h0
      obtain ⟨b, off, spot⟩ := x
      have h1 := hf 0 h0 0 (by omega)
      have hspot : spot = none := by simpa [Addr.add] using World.cell?_spot h1
      subst hspot; rfl
    · intro i hil
      rw [insC_length] at hil
      simp only [List.length_map, List.length_range] at hil
      have hx0 := hf 0 (by omega) 0 (by omega)
      obtain ⟨b, off, spot⟩ := x
      have hspot : spot = none := by simpa [Addr.add] using World.cell?_spot hx0
      subst hspot
      have h1 := hf (i / 8) (by omega) (i % 8) (Nat.mod_lt _ (by omega))
      have e1 : i / 8 * 8 + i % 8 = i := by omega
      have h2 := insC_get ((List.range len).map f) (i / 8) (i % 8) (f (i / 8)) (by simp [(by omega : i / 8 < len)]) (Nat.mod_lt _ (by omega))
      rw [e1] at h1 h2
      rw [Addr.add_lit] at h1
      simp only [bk_some, fo_some]
      rw [h1, h2]
    · intro i hi
      obtain ⟨k, hk, rfl⟩ := List.mem_map.1 hi
      exact (hf0 k (by simpa using hk)).1
end Go.Proofs.YtigimkgmghjgoaaGreatDoor

/- Edges that come in to a statement: slices of them, and one by value, as the walks take them. Lemmas of this claim's own; no condition. -/
import Derived.Test.YteijgmaggmhggaaLibE2
import Derived.Deep.Slices
import Derived.Deep.Fields
import Derived.ChangeSame
import Derived.ChangeArms
import Derived.Lib.SmallJoins
namespace Go.Proofs.Yteijgmaggmhggaa
open Go.ChangeShapes Go.WideShapes Go.Deep Go.RowKit Go.Joins
set_option linter.unusedVariables false

section
variable {H : Type} {enc : TypeId × Value → H} {P : Program} {w : World} {base : Nat} {spare : Nat → Bool} {held : Bool}
theorem open_slice_fields {t e : TypeId} {fs : Array Field} {fuel : Nat} {cs : List Value} {x : DataW H × List MemPlace} (ht : P.underlying t = some (.slice e)) (he : P.underlying e = some (.struct fs))
    (hone : oneCellFields P fs = true) (hC : P.cellsOf e = fs.size) (h : DataW.trod enc P w base spare held fuel t cs = some x) :
    (cs = [.slice none 0 0] ∧ x = (.nil, [])) ∨
    ∃ (a : Addr) (len cap m : Nat) (D : Nat → DataW H) (Pl : Nat → List MemPlace), cs = [.slice (some a) len cap] ∧ base ≤ a.block ∧ len ≤ cap ∧ cap ≤ maxLen ∧ m = (if spare a.block then cap else len) ∧
      x = (.slice ((List.range len).map D) ((List.range (m - len)).map fun j => D (len + j)), MemPlace.row a (m * fs.size) ++ (List.range m).flatMap Pl) ∧
      ∀ i, i < m → ∃ (ys : List (DataW H × List MemPlace)) (n : Nat), D i = .agg (ys.map (·.1)) ∧ Pl i = ys.flatMap (·.2) ∧ ys.length = fs.size ∧
        ∀ (j : Nat) (f : Field), fs[j]? = some f → ∃ (v : Value) (y : DataW H × List MemPlace), w.cell? (a.add (i * fs.size + j)) = some v ∧ ys[j]? = some y ∧ DataW.trod enc P w base spare held n f.type [v] = some y := by
  rcases open_slice ht h with h0 | ⟨a, len, cap, m, n, D, Pl, hcs, hb, hl, hm, hmm, hx, hi⟩
  · exact .inl h0
  · refine .inr ⟨a, len, cap, m, D, Pl, hcs, hb, hl, hm, hmm, by rw [hC] at hx; exact hx, fun i him => ?_⟩
    obtain ⟨cs', hc, ht'⟩ := hi i him
    rw [hC] at hc
    obtain ⟨ys, n', hn', hy, hlen, hyl, hf⟩ := DataW.trod_struct he ht'
    obtain ⟨_, hcl, hat⟩ := World.cells?_some hc
    simp only [Prod.mk.injEq] at hy
    refine ⟨ys, n', hy.1, hy.2, hyl, fun j f hj => ?_⟩
    obtain ⟨ho, hk⟩ := hone_of hone j f hj
    have hjl : j < fs.size := (Array.getElem?_eq_some_iff.1 hj).1
    have hcell := hat j hjl
    have hv : cs'[j]? = some (cs'[j]'(by omega)) := List.getElem?_eq_getElem (by omega)
    have h1 := hf j f hj
    rw [ho, hk] at h1
    have hone' : (cs'.drop j).take 1 = [cs'[j]'(by omega)] := by
      rw [List.drop_eq_getElem_cons (by omega)]
      rfl
    rw [hone'] at h1
    have hys : ys[j]? = some (ys[j]'(by omega)) := List.getElem?_eq_getElem (by omega)
    refine ⟨_, _, ?_, hys, h1.trans hys⟩
    rw [← Go.Deep.add_add, hcell, hv]
theorem open_agg6 {r : Reach} {b0 : Nat} {t : TypeId} {f0 f1 f2 f3 f4 f5 : Field} {v : Value} {d : DataW H} {p : List MemPlace} (hs : P.underlying t = some (.struct #[f0, f1, f2, f3, f4, f5])) (hone : oneCellFields P #[f0, f1, f2, f3, f4, f5] = true) (hC : P.cellsOf t = 6)
    (hv : Value.okWide P w r b0 t v) (h : DataW.Trod enc P w base spare held t v d p) :
    ∃ (v0 v1 v2 v3 v4 v5 : Value) (y0 y1 y2 y3 y4 y5 : DataW H × List MemPlace) (n : Nat), v = .agg #[v0, v1, v2, v3, v4, v5] ∧ d = .agg [y0.1, y1.1, y2.1, y3.1, y4.1, y5.1] ∧ p = y0.2 ++ (y1.2 ++ (y2.2 ++ (y3.2 ++ (y4.2 ++ y5.2)))) ∧
      DataW.trod enc P w base spare held n f0.type [v0] = some y0 ∧ DataW.trod enc P w base spare held n f1.type [v1] = some y1 ∧ DataW.trod enc P w base spare held n f2.type [v2] = some y2 ∧ DataW.trod enc P w base spare held n f3.type [v3] = some y3 ∧ DataW.trod enc P w base spare held n f4.type [v4] = some y4 ∧ DataW.trod enc P w base spare held n f5.type [v5] = some y5 := by
  obtain ⟨cs, rfl, hsz⟩ := okWide_struct hs hv
  obtain ⟨l⟩ := cs
  match l, hsz.trans hC with
  | [c0, c1, c2, c3, c4, c5], _ =>
    obtain ⟨fuel, hf⟩ := h
    obtain ⟨xs, n, _, hx, _, hlen, hg⟩ := DataW.trod_struct hs hf
    obtain ⟨o0, k0⟩ := hone_of hone 0 f0 rfl
    obtain ⟨o1, k1⟩ := hone_of hone 1 f1 rfl
    obtain ⟨o2, k2⟩ := hone_of hone 2 f2 rfl
    obtain ⟨o3, k3⟩ := hone_of hone 3 f3 rfl
    obtain ⟨o4, k4⟩ := hone_of hone 4 f4 rfl
    obtain ⟨o5, k5⟩ := hone_of hone 5 f5 rfl
    match xs, hlen with
    | [y0, y1, y2, y3, y4, y5], _ =>
      simp only [Prod.mk.injEq] at hx
      exact ⟨c0, c1, c2, c3, c4, c5, y0, y1, y2, y3, y4, y5, n, rfl, by simpa using hx.1, by simpa using hx.2, by simpa [Value.cells, o0, k0] using hg 0 f0 rfl, by simpa [Value.cells, o1, k1] using hg 1 f1 rfl, by simpa [Value.cells, o2, k2] using hg 2 f2 rfl, by simpa [Value.cells, o3, k3] using hg 3 f3 rfl, by simpa [Value.cells, o4, k4] using hg 4 f4 rfl, by simpa [Value.cells, o5, k5] using hg 5 f5 rfl⟩
end

theorem open_Es {H : Type} {enc : TypeId × Value → H} {W : World} {a : Option Addr} {len cap : Nat} {d : DataW H} {p : List MemPlace}
    (h : DataW.Trod enc Try.prog W 0 (fun _ => true) true 24 (.slice a len cap) d p)
    {ts : List TypeId} {ds : List (DataW H)} (hsz : (DataW.weightsEach Try.prog ts ds).all (· ≤ reachBytes) = true) (j : Nat) (htj : ts[j]? = some 24) (hdj : ds[j]? = some d) :
    ∃ l : List Edge, len = l.length ∧ Es W a l ∧ l.length ≤ cap ∧ l.length * 40 ≤ 140737488351232 := by
  obtain ⟨fuel, hf⟩ := h
  rcases open_slice_fields (P := Try.prog) Try.underlying24 Try.underlying23 (by kernel_rfl) (by kernel_rfl) hf with ⟨hcs, _⟩ | ⟨x, len', cap', m, D, Pl, hcs, _, hl, hm, hmm, hx, hi⟩
  · simp [Value.cells] at hcs
    obtain ⟨rfl, rfl, rfl⟩ := hcs
    exact ⟨[], rfl, Es.nil _ _, by simp, by simp⟩
  · simp [Value.cells] at hcs
    obtain ⟨rfl, rfl, rfl⟩ := hcs
    simp only [if_true] at hmm
    subst hmm
    have hreach : m * 40 ≤ 140737488351232 := by
      simp only [Prod.mk.injEq] at hx
      obtain ⟨rfl, _⟩ := hx
      have h5 : Try.prog.bytesOf 23 = 40 := by kernel_rfl
      have := sized_slice hsz htj hdj Try.underlying24
      rw [h5] at this
      simp only [List.length_map, List.length_range, reachBytes] at this
      omega
    have key : ∀ i, i < len → ∃ e : Edge, ∀ j, j < 6 → W.cell? (x.add (i * 6 + j)) = (eC e)[j]? := by
      intro i hil
      obtain ⟨ys, n, -, -, -, hf⟩ := hi i (by omega)
      obtain ⟨v0, y0, g0, -, r0⟩ := hf 0 _ rfl
      obtain ⟨v1, y1, g1, -, r1⟩ := hf 1 _ rfl
      obtain ⟨v2, y2, g2, -, r2⟩ := hf 2 _ rfl
      obtain ⟨v3, y3, g3, -, r3⟩ := hf 3 _ rfl
      obtain ⟨v4, y4, g4, -, r4⟩ := hf 4 _ rfl
      obtain ⟨v5, y5, g5, -, r5⟩ := hf 5 _ rfl
      obtain ⟨k, h0, -⟩ := DataW.trod_int Try.underlying3 r0
      obtain ⟨b, h1, -⟩ := DataW.trod_bool Try.underlying4 r1
      obtain ⟨s, h2, -⟩ := DataW.trod_bool Try.underlying4 r2
      obtain ⟨q, h3, -⟩ := DataW.trod_int Try.underlying3 r3
      obtain ⟨u, h4, -⟩ := DataW.trod_int Try.underlying3 r4
      obtain ⟨f, h5, -⟩ := DataW.trod_int Try.underlying3 r5
      cases h0; cases h1; cases h2; cases h3; cases h4; cases h5
      refine ⟨⟨k, b, s, q, u, f⟩, fun j hj => ?_⟩
      match j, hj with
      | 0, _ => exact g0
      | 1, _ => exact g1
      | 2, _ => exact g2
      | 3, _ => exact g3
      | 4, _ => exact g4
      | 5, _ => exact g5
    obtain ⟨f, hf⟩ : ∃ f : Nat → Edge, ∀ i, i < len → ∀ j, j < 6 → W.cell? (x.add (i * 6 + j)) = (eC (f i))[j]? :=
      ⟨fun i => if h : i < len then Classical.choose (key i h) else ⟨0, false, false, 0, 0, 0⟩, fun i hil => by simp only [hil, dite_true]; exact Classical.choose_spec (key i hil)⟩
    refine ⟨(List.range len).map f, by simp, ⟨⟨?_, ?_⟩, by simp; omega⟩, by simp; omega, by simp; omega⟩
    · intro hne
      have h0 : 0 < len := by
        rcases Nat.eq_zero_or_pos len with h0 | h0
        · subst h0; exact absurd rfl hne
        · exact h0
      obtain ⟨b, off, spot⟩ := x
      have h1 := hf 0 h0 0 (by omega)
      have hspot : spot = none := by simpa [Addr.add] using World.cell?_spot h1
      subst hspot; rfl
    · intro i hil
      rw [edges_length] at hil
      simp only [List.length_map, List.length_range] at hil
      have hx0 := hf 0 (by omega) 0 (by omega)
      obtain ⟨b, off, spot⟩ := x
      have hspot : spot = none := by simpa [Addr.add] using World.cell?_spot hx0
      subst hspot
      have h1 := hf (i / 6) (by omega) (i % 6) (Nat.mod_lt _ (by omega))
      have e1 : i / 6 * 6 + i % 6 = i := by omega
      have h2 := edges_get ((List.range len).map f) (i / 6) (i % 6) (by simp; omega) (Nat.mod_lt _ (by omega))
      rw [e1] at h1 h2
      rw [Addr.add_lit] at h1
      simp only [bk_some, fo_some]
      rw [h1, h2]
      congr 2
      simp [List.getD_eq_getElem?_getD, (by omega : i / 6 < len)]
theorem open_E {H : Type} {enc : TypeId × Value → H} {W : World} {r : Reach} {b0 : Nat} {v : Value} {d : DataW H} {p : List MemPlace} (hv : Value.okWide Try.prog W r b0 23 v)
    (h : DataW.Trod enc Try.prog W 0 (fun _ => true) true 23 v d p) : ∃ e : Edge, v = vE e := by
  obtain ⟨v0, v1, v2, v3, v4, v5, y0, y1, y2, y3, y4, y5, n, rfl, -, -, r0, r1, r2, r3, r4, r5⟩ := open_agg6 Try.underlying23 (by kernel_rfl) (by kernel_rfl) hv h
  obtain ⟨k, h0, -⟩ := DataW.trod_int Try.underlying3 r0
  obtain ⟨b, h1, -⟩ := DataW.trod_bool Try.underlying4 r1
  obtain ⟨s, h2, -⟩ := DataW.trod_bool Try.underlying4 r2
  obtain ⟨q, h3, -⟩ := DataW.trod_int Try.underlying3 r3
  obtain ⟨u, h4, -⟩ := DataW.trod_int Try.underlying3 r4
  obtain ⟨f, h5, -⟩ := DataW.trod_int Try.underlying3 r5
  cases h0; cases h1; cases h2; cases h3; cases h4; cases h5
  exact ⟨⟨k, b, s, q, u, f⟩, rfl⟩
end Go.Proofs.Yteijgmaggmhggaa

/- An instruction that comes in to a statement by value, as the walks take it. Lemmas of this claim's own; no condition. -/
import Derived.Test.YtigimkgmghjgoaaGreatDoorLibR
import Derived.Deep.Slices
import Derived.Deep.Fields
import Derived.ChangeSame
import Derived.ChangeArms
import Derived.Lib.SmallJoins
namespace Go.Proofs.YtigimkgmghjgoaaGreatDoor
open Go.ChangeShapes Go.WideShapes Go.Deep Go.RowKit Go.Joins
set_option linter.unusedVariables false

section
variable {H : Type} {enc : TypeId × Value → H} {P : Program} {w : World} {base : Nat} {spare : Nat → Bool} {held : Bool}
/-- a struct's one-cell fields, each read by itself -/
theorem open_fields {r : Reach} {b0 : Nat} {t : TypeId} {fs : Array Field} {v : Value} {d : DataW H} {p : List MemPlace} (hs : P.underlying t = some (.struct fs)) (hone : oneCellFields P fs = true) (hC : P.cellsOf t = fs.size)
    (hv : Value.okWide P w r b0 t v) (h : DataW.Trod enc P w base spare held t v d p) :
    ∃ (cs : Array Value), v = .agg cs ∧ cs.size = fs.size ∧ ∀ (j : Nat) (f : Field), fs[j]? = some f → ∃ (u : Value) (y : DataW H × List MemPlace) (n : Nat), cs[j]? = some u ∧ DataW.trod enc P w base spare held n f.type [u] = some y := by
  obtain ⟨cs, rfl, hsz⟩ := okWide_struct hs hv
  refine ⟨cs, rfl, hsz.trans hC, fun j f hj => ?_⟩
  obtain ⟨fuel, hf⟩ := h
  obtain ⟨xs, n, _, hx, _, hlen, hg⟩ := DataW.trod_struct hs hf
  obtain ⟨o0, k0⟩ := hone_of hone j f hj
  have hjl : j < fs.size := (Array.getElem?_eq_some_iff.1 hj).1
  have hjc : j < cs.size := by rw [hsz, hC]; exact hjl
  have h1 := hg j f hj
  rw [o0, k0] at h1
  have hys : xs[j]? = some (xs[j]'(by omega)) := List.getElem?_eq_getElem (by omega)
  refine ⟨cs[j], xs[j]'(by omega), n, Array.getElem?_eq_getElem hjc, ?_⟩
  · have e : (Value.agg cs).cells.toList = cs.toList := rfl
    rw [e] at h1
    have : (cs.toList.drop j).take 1 = [cs[j]] := by
      rw [List.drop_eq_getElem_cons (by simpa using hjc)]
      simp
    rw [this] at h1
    exact h1.trans hys
end
set_option maxRecDepth 100000 in
theorem open_I {H : Type} {enc : TypeId × Value → H} {W : World} {r : Reach} {b0 : Nat} {v : Value} {d : DataW H} {p : List MemPlace} (hv : Value.okWide Tryz.prog W r b0 23 v)
    (h : DataW.Trod enc Tryz.prog W 0 (fun _ => true) true 23 v d p) : ∃ i : Ins, v = vI i ∧ i.label.length ≤ 9223372036854775807 ∧ i.loc.length ≤ 9223372036854775807 := by
  obtain ⟨cs, rfl, hsz, hf⟩ := open_fields Tryz.underlying23 (by kernel_rfl) (by kernel_rfl) hv h
  obtain ⟨u0, y0, n0, g0, r0⟩ := hf 0 _ rfl
  obtain ⟨u1, y1, n1, g1, r1⟩ := hf 1 _ rfl
  obtain ⟨u2, y2, n2, g2, r2⟩ := hf 2 _ rfl
  obtain ⟨u3, y3, n3, g3, r3⟩ := hf 3 _ rfl
  obtain ⟨u4, y4, n4, g4, r4⟩ := hf 4 _ rfl
  obtain ⟨u5, y5, n5, g5, r5⟩ := hf 5 _ rfl
  obtain ⟨u6, y6, n6, g6, r6⟩ := hf 6 _ rfl
  obtain ⟨u7, y7, n7, g7, r7⟩ := hf 7 _ rfl
  obtain ⟨k0, h0, -⟩ := DataW.trod_int Tryz.underlying3 r0
  obtain ⟨k1, h1, -⟩ := DataW.trod_int Tryz.underlying3 r1
  obtain ⟨k2, h2, -⟩ := DataW.trod_int Tryz.underlying3 r2
  obtain ⟨k3, h3, -⟩ := DataW.trod_int Tryz.underlying3 r3
  obtain ⟨k4, h4, -⟩ := DataW.trod_int Tryz.underlying3 r4
  obtain ⟨s5, h5, -, l5⟩ := DataW.trod_string Tryz.underlying9 r5
  obtain ⟨s6, h6, -, l6⟩ := DataW.trod_string Tryz.underlying9 r6
  obtain ⟨k7, h7, -⟩ := DataW.trod_int Tryz.underlying3 r7
  cases h0; cases h1; cases h2; cases h3; cases h4; cases h5; cases h6; cases h7
  obtain ⟨x5, rfl⟩ := tx_of s5
  obtain ⟨x6, rfl⟩ := tx_of s6
  have hz : cs.size = 8 := by rw [hsz]; rfl
  refine ⟨⟨k0, k1, k2, k3, k4, x5, x6, k7⟩, ?_, by rw [tx_size] at l6; unfold maxLen at l6; exact l6, by rw [tx_size] at l5; unfold maxLen at l5; exact l5⟩
  show Value.agg cs = .agg #[.int .i64 k0, .int .i64 k1, .int .i64 k2, .int .i64 k3, .int .i64 k4, .string (tx x5), .string (tx x6), .int .i64 k7]
  congr 1
  apply Array.ext_getElem?
  intro j
  match j with
  | 0 => exact g0
  | 1 => exact g1
  | 2 => exact g2
  | 3 => exact g3
  | 4 => exact g4
  | 5 => exact g5
  | 6 => exact g6
  | 7 => exact g7
  | j + 8 => rw [Array.getElem?_eq_none (by omega), Array.getElem?_eq_none (by simp)]
end Go.Proofs.YtigimkgmghjgoaaGreatDoor

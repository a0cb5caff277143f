/- The walks of Compare of ints, of the closure that holds costs against one another. Conditions: the captured edge lies in a block by itself. -/
import Derived.Test.YteijgmaggmhggaaE11
import Derived.Test.YteijgmaggmhggaaLibE3
import Derived.Test.YteijgmaggmhggaaMathS
import Derived.Deep.RegionHeld3
namespace Go.Proofs.Yteijgmaggmhggaa
open Go.RowKit
set_option linter.unusedVariables false

attribute [local go_sem high] eqE neqE

def cmpI (x y : Int) : Int := if x < y then -1 else if y < x then 1 else 0
theorem cmpI_neg (x y : Int) : cmpI x y < 0 ↔ x < y := by unfold cmpI; split; · omega
                                                          · split <;> omega
theorem progCmp (x y : Int) (w : World) : Calls Try.prog 38 #[.int .i64 x, .int .i64 y] w fun e w' => e = .returned (.int .i64 (cmpI x y)) ∧ w = w' := by
  by_cases h1 : x < y
  · have e : cmpI x y = -1 := by unfold cmpI; rw [if_pos h1]
    rw [e]; clear e
    go_enter Try.func38, Try.ntmps38
    go_wp2
    go_ret
    exact ⟨rfl, rfl⟩
  · by_cases h2 : y < x
    · have e : cmpI x y = 1 := by unfold cmpI; rw [if_neg h1, if_pos h2]
      rw [e]; clear e
      go_enter Try.func38, Try.ntmps38
      go_wp2
      go_ret
      exact ⟨rfl, rfl⟩
    · have e : cmpI x y = 0 := by unfold cmpI; rw [if_neg h1, if_neg h2]
      rw [e]; clear e
      go_enter Try.func38, Try.ntmps38
      go_wp2
      go_ret
      exact ⟨rfl, rfl⟩
set_option maxRecDepth 100000 in
set_option maxHeartbeats 6400000 in
theorem clos2 (e x y : Edge) (b : Nat) (w : World) (hb : Bx w b e) : Calls Try.prog 37 #[vE x, vE y, .pointer (some ⟨b, 0, none⟩)] w (Ret w (.int .i64 (cmpI (costP e x) (costP e y)))) := by
  have E1 := (al w (.cells #[.int .i64 x.kind, .bool x.ext, .bool x.same, .int .i64 x.src, .int .i64 x.dst, .int .i64 x.fence] 23)).alloc (by simp) (.cells #[.int .i64 y.kind, .bool y.ext, .bool y.same, .int .i64 y.src, .int .i64 y.dst, .int .i64 y.fence] 23)
  have be := (hb.below (al w (.cells #[.int .i64 x.kind, .bool x.ext, .bool x.same, .int .i64 x.src, .int .i64 x.dst, .int .i64 x.fence] 23))).below (al _ (.cells #[.int .i64 y.kind, .bool y.ext, .bool y.same, .int .i64 y.src, .int .i64 y.dst, .int .i64 y.fence] 23))
  have bx := (Bx.new w x 23).below (al _ (.cells #[.int .i64 y.kind, .bool y.ext, .bool y.same, .int .i64 y.src, .int .i64 y.dst, .int .i64 y.fence] 23))
  have by1 : Bx ((w.alloc (.cells #[.int .i64 x.kind, .bool x.ext, .bool x.same, .int .i64 x.src, .int .i64 x.dst, .int .i64 x.fence] 23)).alloc (.cells #[.int .i64 y.kind, .bool y.ext, .bool y.same, .int .i64 y.src, .int .i64 y.dst, .int .i64 y.fence] 23)) (w.heap.size + 1) y := by simpa using Bx.new (w.alloc (.cells #[.int .i64 x.kind, .bool x.ext, .bool x.same, .int .i64 x.src, .int .i64 x.dst, .int .i64 x.fence] 23)) y 23
  go_enter Try.func37, Try.ntmps37
  go_wp2_with fail
  generalize (w.alloc (.cells #[.int .i64 x.kind, .bool x.ext, .bool x.same, .int .i64 x.src, .int .i64 x.dst, .int .i64 x.fence] 23)).alloc (.cells #[.int .i64 y.kind, .bool y.ext, .bool y.same, .int .i64 y.src, .int .i64 y.dst, .int .i64 y.fence] 23) = W at *
  have be : Bx W.drew b e := be.below (below_drewN W 1)
  have bx : Bx W.drew w.heap.size x := bx.below (below_drewN W 1)
  have by1 : Bx W.drew (w.heap.size + 1) y := by1.below (below_drewN W 1)
  have E1 : Below w.heap.size w W.drew := E1.trans ((below_drewN W 1).mono E1.size)
  obtain ⟨c0, c1, c2, c3, c4, c5⟩ := be.cells; obtain ⟨d0, d1, d2, d3, d4, d5⟩ := bx.cells; obtain ⟨g0, g1, g2, g3, g4, g5⟩ := by1.cells
  go_region_held3 (fun w' => w'.cell? ⟨b, 0, none⟩ = some (.int .i64 e.kind) ∧ w'.cell? ⟨b, 1, none⟩ = some (.bool e.ext) ∧ w'.cell? ⟨b, 2, none⟩ = some (.bool e.same) ∧ w'.cell? ⟨b, 3, none⟩ = some (.int .i64 e.src) ∧ w'.cell? ⟨b, 4, none⟩ = some (.int .i64 e.dst) ∧ w'.cell? ⟨b, 5, none⟩ = some (.int .i64 e.fence) ∧ w'.cell? ⟨w.heap.size, 0, none⟩ = some (.int .i64 x.kind) ∧ w'.cell? ⟨w.heap.size, 1, none⟩ = some (.bool x.ext) ∧ w'.cell? ⟨w.heap.size, 2, none⟩ = some (.bool x.same) ∧ w'.cell? ⟨w.heap.size, 3, none⟩ = some (.int .i64 x.src) ∧ w'.cell? ⟨w.heap.size, 4, none⟩ = some (.int .i64 x.dst) ∧ w'.cell? ⟨w.heap.size, 5, none⟩ = some (.int .i64 x.fence) ∧ w'.cell? ⟨w.heap.size + 1, 0, none⟩ = some (.int .i64 y.kind) ∧ w'.cell? ⟨w.heap.size + 1, 1, none⟩ = some (.bool y.ext) ∧ w'.cell? ⟨w.heap.size + 1, 2, none⟩ = some (.bool y.same) ∧ w'.cell? ⟨w.heap.size + 1, 3, none⟩ = some (.int .i64 y.src) ∧ w'.cell? ⟨w.heap.size + 1, 4, none⟩ = some (.int .i64 y.dst) ∧ w'.cell? ⟨w.heap.size + 1, 5, none⟩ = some (.int .i64 y.fence)) (first | exact ⟨by assumption, by assumption, by assumption, by assumption, by assumption, by assumption, by assumption, by assumption, by assumption, by assumption, by assumption, by assumption, by assumption, by assumption, by assumption, by assumption, by assumption, by assumption⟩)
    (first
      | (go_at_call 22; refine (progCosts e _ _).mono ?_; rintro e' w7 ⟨rfl, E7⟩; have be := be.below E7; have bx := bx.below E7; have by1 := by1.below E7; have E1 := E1.trans (E7.mono E1.size); obtain ⟨c0, c1, c2, c3, c4, c5⟩ := be.cells; obtain ⟨d0, d1, d2, d3, d4, d5⟩ := bx.cells; obtain ⟨g0, g1, g2, g3, g4, g5⟩ := by1.cells)
      | (go_at_call 38; refine (progCmp _ _ _).mono ?_; rintro e' w7 ⟨rfl, rfl⟩))
  all_goals
    go_wp2_with fail
    go_ret
    exact ⟨rfl, E1⟩
end Go.Proofs.Yteijgmaggmhggaa

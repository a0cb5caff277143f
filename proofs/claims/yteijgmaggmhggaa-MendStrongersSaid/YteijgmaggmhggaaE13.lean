/- The walk of May (the document's answer). Conditions: none. -/
import Derived.Test.YteijgmaggmhggaaE11
import Derived.Test.YteijgmaggmhggaaE12
namespace Go.Proofs.Yteijgmaggmhggaa
open Go.RowKit
set_option linter.unusedVariables false

attribute [local go_sem high] eqE neqE

def okE (e f : Edge) (a b : Int) : Prop := ordersE e a b = true → ordersE f a b = true
def withinE (e f : Edge) : Bool := (!ordersE e 1 1 || ordersE f 1 1) && (!ordersE e 1 2 || ordersE f 1 2) && (!ordersE e 2 1 || ordersE f 2 1) && (!ordersE e 2 2 || ordersE f 2 2)
theorem withinE_iff (e f : Edge) : withinE e f = true ↔ (okE e f 1 1 ∧ okE e f 1 2) ∧ (okE e f 2 1 ∧ okE e f 2 2) := by
  unfold withinE okE
  cases ordersE e 1 1 <;> cases ordersE f 1 1 <;> cases ordersE e 1 2 <;> cases ordersE f 1 2 <;> cases ordersE e 2 1 <;> cases ordersE f 2 1 <;> cases ordersE e 2 2 <;> cases ordersE f 2 2 <;> simp

set_option maxRecDepth 100000 in
set_option maxHeartbeats 6400000 in
theorem refMay (e f : Edge) (w : World) : Calls Try.prog 31 #[vE e, vE f] w (Ret w (.bool (mayR e f))) := by
  have E1 := al w (.cells #[.int .i64 e.kind, .bool e.ext, .bool e.same, .int .i64 e.src, .int .i64 e.dst, .int .i64 e.fence] 23)
  have be := (Bx.new w e 23).below (al (w.alloc (.cells #[.int .i64 e.kind, .bool e.ext, .bool e.same, .int .i64 e.src, .int .i64 e.dst, .int .i64 e.fence] 23)) (.cells #[.int .i64 f.kind, .bool f.ext, .bool f.same, .int .i64 f.src, .int .i64 f.dst, .int .i64 f.fence] 23))
  have bf : Bx ((w.alloc (.cells #[.int .i64 e.kind, .bool e.ext, .bool e.same, .int .i64 e.src, .int .i64 e.dst, .int .i64 e.fence] 23)).alloc (.cells #[.int .i64 f.kind, .bool f.ext, .bool f.same, .int .i64 f.src, .int .i64 f.dst, .int .i64 f.fence] 23)) (w.heap.size + 1) f := by simpa using Bx.new (w.alloc (.cells #[.int .i64 e.kind, .bool e.ext, .bool e.same, .int .i64 e.src, .int .i64 e.dst, .int .i64 e.fence] 23)) f 23
  have B : Below w.heap.size w ((w.alloc (.cells #[.int .i64 e.kind, .bool e.ext, .bool e.same, .int .i64 e.src, .int .i64 e.dst, .int .i64 e.fence] 23)).alloc (.cells #[.int .i64 f.kind, .bool f.ext, .bool f.same, .int .i64 f.src, .int .i64 f.dst, .int .i64 f.fence] 23)) := E1.alloc (by simp) _
  by_cases h0 : e = f
  · have z : decide (e = f) = true := decide_eq_true h0
    have hv : mayR e f = true := by unfold mayR; rw [if_pos h0]
    rw [hv]; clear hv h0
    go_enter Try.func31, Try.ntmps31
    go_wp2_with fail
    go_ret
    exact ⟨rfl, (by repeat (first | with_reducible assumption | with_reducible exact Below.refl _ _ | with_reducible refine Below.setCell ?_ (Nat.le_refl _) _ | with_reducible refine Below.setCell ?_ (by simp) _ | with_reducible refine Below.alloc ?_ (Nat.le_refl _) _ | with_reducible refine Below.alloc ?_ (by simp) _ | with_reducible refine Below.alloc ?_ (by simp <;> omega) _ | with_reducible refine Below.drew ?_))⟩
  · have z : decide (e = f) = false := decide_eq_false h0
    by_cases hc : commE e = true ∨ commE f = true ∨ e.src ≠ f.src ∨ e.dst ≠ f.dst ∨ e.same ≠ f.same
    · have hv : mayR e f = false := by unfold mayR; rw [if_neg h0, if_pos hc]
      rw [hv]; clear hv h0
      by_cases c1 : commE e = true
      · have HC1 := hid c1
        clear hc c1
        go_enter Try.func31, Try.ntmps31
        go_wp2_with fail
        refine (refComm26 e _).mono ?_; rintro e1 w7 ⟨rfl, E7⟩; have be := be.below E7; have bf := bf.below E7; have B := B.trans (E7.mono B.size); obtain ⟨c0, c1, c2, c3, c4, c5⟩ := be.cells; obtain ⟨d0, d1, d2, d3, d4, d5⟩ := bf.cells; have hl1 := be.1; have hl2 := bf.1; rw [HC1.out]
        go_wp2_with fail
        go_ret
        exact ⟨rfl, B⟩
      · have HC1 := hid ((by simpa using c1) : commE e = false)
        by_cases c2 : commE f = true
        · have HC2 := hid c2
          clear hc c1 c2
          go_enter Try.func31, Try.ntmps31
          go_wp2_with fail
          refine (refComm26 e _).mono ?_; rintro e1 w7 ⟨rfl, E7⟩; have be := be.below E7; have bf := bf.below E7; have B := B.trans (E7.mono B.size); obtain ⟨c0, c1, c2, c3, c4, c5⟩ := be.cells; obtain ⟨d0, d1, d2, d3, d4, d5⟩ := bf.cells; have hl1 := be.1; have hl2 := bf.1; rw [HC1.out]
          go_wp2_with fail
          refine (refComm26 f _).mono ?_; rintro e1 w7 ⟨rfl, E7⟩; have be := be.below E7; have bf := bf.below E7; have B := B.trans (E7.mono B.size); obtain ⟨c0, c1, c2, c3, c4, c5⟩ := be.cells; obtain ⟨d0, d1, d2, d3, d4, d5⟩ := bf.cells; have hl1 := be.1; have hl2 := bf.1; rw [HC2.out]
          go_wp2_with fail
          go_ret
          exact ⟨rfl, B⟩
        · have HC2 := hid ((by simpa using c2) : commE f = false)
          by_cases q0 : e.src ≠ f.src
          · have z0 : (e.src != f.src) = true := by simpa using q0
            clear hc c1 c2 q0
            go_enter Try.func31, Try.ntmps31
            go_wp2_with fail
            refine (refComm26 e _).mono ?_; rintro e1 w7 ⟨rfl, E7⟩; have be := be.below E7; have bf := bf.below E7; have B := B.trans (E7.mono B.size); obtain ⟨c0, c1, c2, c3, c4, c5⟩ := be.cells; obtain ⟨d0, d1, d2, d3, d4, d5⟩ := bf.cells; have hl1 := be.1; have hl2 := bf.1; rw [HC1.out]
            go_wp2_with fail
            refine (refComm26 f _).mono ?_; rintro e1 w7 ⟨rfl, E7⟩; have be := be.below E7; have bf := bf.below E7; have B := B.trans (E7.mono B.size); obtain ⟨c0, c1, c2, c3, c4, c5⟩ := be.cells; obtain ⟨d0, d1, d2, d3, d4, d5⟩ := bf.cells; have hl1 := be.1; have hl2 := bf.1; rw [HC2.out]
            go_wp2_with fail
            go_ret
            exact ⟨rfl, B⟩
          · have z0 : (e.src != f.src) = false := by simpa using q0
            by_cases q1 : e.dst ≠ f.dst
            · have z1 : (e.dst != f.dst) = true := by simpa using q1
              clear hc c1 c2 q0 q1
              go_enter Try.func31, Try.ntmps31
              go_wp2_with fail
              refine (refComm26 e _).mono ?_; rintro e1 w7 ⟨rfl, E7⟩; have be := be.below E7; have bf := bf.below E7; have B := B.trans (E7.mono B.size); obtain ⟨c0, c1, c2, c3, c4, c5⟩ := be.cells; obtain ⟨d0, d1, d2, d3, d4, d5⟩ := bf.cells; have hl1 := be.1; have hl2 := bf.1; rw [HC1.out]
              go_wp2_with fail
              refine (refComm26 f _).mono ?_; rintro e1 w7 ⟨rfl, E7⟩; have be := be.below E7; have bf := bf.below E7; have B := B.trans (E7.mono B.size); obtain ⟨c0, c1, c2, c3, c4, c5⟩ := be.cells; obtain ⟨d0, d1, d2, d3, d4, d5⟩ := bf.cells; have hl1 := be.1; have hl2 := bf.1; rw [HC2.out]
              go_wp2_with fail
              go_ret
              exact ⟨rfl, B⟩
            · have z1 : (e.dst != f.dst) = false := by simpa using q1
              by_cases q2 : e.same ≠ f.same
              · have z2 : (e.same != f.same) = true := by simpa using q2
                have z5 : (!(e.same == f.same)) = true := by simpa using q2
                clear hc c1 c2 q0 q1 q2
                go_enter Try.func31, Try.ntmps31
                go_wp2_with fail
                refine (refComm26 e _).mono ?_; rintro e1 w7 ⟨rfl, E7⟩; have be := be.below E7; have bf := bf.below E7; have B := B.trans (E7.mono B.size); obtain ⟨c0, c1, c2, c3, c4, c5⟩ := be.cells; obtain ⟨d0, d1, d2, d3, d4, d5⟩ := bf.cells; have hl1 := be.1; have hl2 := bf.1; rw [HC1.out]
                go_wp2_with fail
                refine (refComm26 f _).mono ?_; rintro e1 w7 ⟨rfl, E7⟩; have be := be.below E7; have bf := bf.below E7; have B := B.trans (E7.mono B.size); obtain ⟨c0, c1, c2, c3, c4, c5⟩ := be.cells; obtain ⟨d0, d1, d2, d3, d4, d5⟩ := bf.cells; have hl1 := be.1; have hl2 := bf.1; rw [HC2.out]
                go_wp2_with fail
                go_ret
                exact ⟨rfl, B⟩
              · have z2 : (e.same != f.same) = false := by simpa using q2
                exact absurd hc (by simp only [not_or]; exact ⟨c1, c2, q0, q1, q2⟩)
    · have hv0 : mayR e f = (if e.kind = 4 then true else if e.kind = 8 then ordersE f 1 2 else if e.kind = 7 then f.kind == 6 || (ordersE f 1 1 && ordersE f 1 2) else if e.kind = 6 then ordersE f 1 1 && ordersE f 1 2 else if f.kind ≠ 5 then false else withinE e f) := by unfold mayR withinE; rw [if_neg h0, if_neg hc]
      rw [hv0]
      simp only [not_or, ne_eq, Decidable.not_not] at hc
      obtain ⟨c0, c1, c2, c3, c4⟩ := hc
      have HC1 := hid ((by simpa using c0) : commE e = false)
      have HC2 := hid ((by simpa using c1) : commE f = false)
      have z2 : (e.src != f.src) = false := by simp [c2]
      have z3 : (e.dst != f.dst) = false := by simp [c3]
      have z4 : (e.same != f.same) = false := by simp [c4]
      have z5 : (!(e.same == f.same)) = false := by simp [c4]
      obtain ⟨p, hp⟩ : ∃ p, ordersE f 1 1 = p := ⟨_, rfl⟩
      obtain ⟨q, hq⟩ : ∃ q, ordersE f 1 2 = q := ⟨_, rfl⟩
      have HP := hid hp; have HQ := hid hq
      rw [hp, hq]
      clear h0 hv0 c0 c1 c2 c3 c4 hp hq
      cases p
      all_goals
        by_cases k4 : e.kind = 4
        · have y4 : (e.kind == 4) = true := by simp [k4]
          rw [if_pos k4]; clear k4
          go_enter Try.func31, Try.ntmps31
          go_wp2_with fail
          refine (refComm26 e _).mono ?_; rintro e1 w7 ⟨rfl, E7⟩; have be := be.below E7; have bf := bf.below E7; have B := B.trans (E7.mono B.size); obtain ⟨c0, c1, c2, c3, c4, c5⟩ := be.cells; obtain ⟨d0, d1, d2, d3, d4, d5⟩ := bf.cells; have hl1 := be.1; have hl2 := bf.1; rw [HC1.out]
          go_wp2_with fail
          refine (refComm26 f _).mono ?_; rintro e1 w7 ⟨rfl, E7⟩; have be := be.below E7; have bf := bf.below E7; have B := B.trans (E7.mono B.size); obtain ⟨c0, c1, c2, c3, c4, c5⟩ := be.cells; obtain ⟨d0, d1, d2, d3, d4, d5⟩ := bf.cells; have hl1 := be.1; have hl2 := bf.1; rw [HC2.out]
          go_wp2_with fail
          refine (refOrders26 f 1 1 (by omega) (by omega) _).mono ?_; rintro e1 w7 ⟨rfl, E7⟩; have be := be.below E7; have bf := bf.below E7; have B := B.trans (E7.mono B.size); obtain ⟨c0, c1, c2, c3, c4, c5⟩ := be.cells; obtain ⟨d0, d1, d2, d3, d4, d5⟩ := bf.cells; have hl1 := be.1; have hl2 := bf.1; rw [HP.out]
          go_wp2_with fail
          try (refine (refOrders26 f 1 2 (by omega) (by omega) _).mono ?_; rintro e1 w7 ⟨rfl, E7⟩; have be := be.below E7; have bf := bf.below E7; have B := B.trans (E7.mono B.size); obtain ⟨c0, c1, c2, c3, c4, c5⟩ := be.cells; obtain ⟨d0, d1, d2, d3, d4, d5⟩ := bf.cells; have hl1 := be.1; have hl2 := bf.1; rw [HQ.out]; go_wp2_with fail)
          go_ret
          exact ⟨ret_bool (by simp), B⟩
        · have y4 : (e.kind == 4) = false := by simp [k4]
          rw [if_neg k4]; clear k4
          by_cases k8 : e.kind = 8
          · have y8 : (e.kind == 8) = true := by simp [k8]
            rw [if_pos k8]; clear k8
            go_enter Try.func31, Try.ntmps31
            go_wp2_with fail
            refine (refComm26 e _).mono ?_; rintro e1 w7 ⟨rfl, E7⟩; have be := be.below E7; have bf := bf.below E7; have B := B.trans (E7.mono B.size); obtain ⟨c0, c1, c2, c3, c4, c5⟩ := be.cells; obtain ⟨d0, d1, d2, d3, d4, d5⟩ := bf.cells; have hl1 := be.1; have hl2 := bf.1; rw [HC1.out]
            go_wp2_with fail
            refine (refComm26 f _).mono ?_; rintro e1 w7 ⟨rfl, E7⟩; have be := be.below E7; have bf := bf.below E7; have B := B.trans (E7.mono B.size); obtain ⟨c0, c1, c2, c3, c4, c5⟩ := be.cells; obtain ⟨d0, d1, d2, d3, d4, d5⟩ := bf.cells; have hl1 := be.1; have hl2 := bf.1; rw [HC2.out]
            go_wp2_with fail
            refine (refOrders26 f 1 1 (by omega) (by omega) _).mono ?_; rintro e1 w7 ⟨rfl, E7⟩; have be := be.below E7; have bf := bf.below E7; have B := B.trans (E7.mono B.size); obtain ⟨c0, c1, c2, c3, c4, c5⟩ := be.cells; obtain ⟨d0, d1, d2, d3, d4, d5⟩ := bf.cells; have hl1 := be.1; have hl2 := bf.1; rw [HP.out]
            go_wp2_with fail
            try (refine (refOrders26 f 1 2 (by omega) (by omega) _).mono ?_; rintro e1 w7 ⟨rfl, E7⟩; have be := be.below E7; have bf := bf.below E7; have B := B.trans (E7.mono B.size); obtain ⟨c0, c1, c2, c3, c4, c5⟩ := be.cells; obtain ⟨d0, d1, d2, d3, d4, d5⟩ := bf.cells; have hl1 := be.1; have hl2 := bf.1; rw [HQ.out]; go_wp2_with fail)
            try (refine (refOrders26 f 1 2 (by omega) (by omega) _).mono ?_; rintro e1 w7 ⟨rfl, E7⟩; have be := be.below E7; have bf := bf.below E7; have B := B.trans (E7.mono B.size); obtain ⟨c0, c1, c2, c3, c4, c5⟩ := be.cells; obtain ⟨d0, d1, d2, d3, d4, d5⟩ := bf.cells; have hl1 := be.1; have hl2 := bf.1; rw [HQ.out]; go_wp2_with fail)
            go_ret
            exact ⟨ret_bool (by simp), B⟩
          · have y8 : (e.kind == 8) = false := by simp [k8]
            rw [if_neg k8]; clear k8
            by_cases k7 : e.kind = 7
            · have y7 : (e.kind == 7) = true := by simp [k7]
              rw [if_pos k7]; clear k7
              by_cases f6 : f.kind = 6
              · have x6 : (f.kind == 6) = true := by simp [f6]
                rw [x6, Bool.true_or]; clear f6
                go_enter Try.func31, Try.ntmps31
                go_wp2_with fail
                refine (refComm26 e _).mono ?_; rintro e1 w7 ⟨rfl, E7⟩; have be := be.below E7; have bf := bf.below E7; have B := B.trans (E7.mono B.size); obtain ⟨c0, c1, c2, c3, c4, c5⟩ := be.cells; obtain ⟨d0, d1, d2, d3, d4, d5⟩ := bf.cells; have hl1 := be.1; have hl2 := bf.1; rw [HC1.out]
                go_wp2_with fail
                refine (refComm26 f _).mono ?_; rintro e1 w7 ⟨rfl, E7⟩; have be := be.below E7; have bf := bf.below E7; have B := B.trans (E7.mono B.size); obtain ⟨c0, c1, c2, c3, c4, c5⟩ := be.cells; obtain ⟨d0, d1, d2, d3, d4, d5⟩ := bf.cells; have hl1 := be.1; have hl2 := bf.1; rw [HC2.out]
                go_wp2_with fail
                refine (refOrders26 f 1 1 (by omega) (by omega) _).mono ?_; rintro e1 w7 ⟨rfl, E7⟩; have be := be.below E7; have bf := bf.below E7; have B := B.trans (E7.mono B.size); obtain ⟨c0, c1, c2, c3, c4, c5⟩ := be.cells; obtain ⟨d0, d1, d2, d3, d4, d5⟩ := bf.cells; have hl1 := be.1; have hl2 := bf.1; rw [HP.out]
                go_wp2_with fail
                try (refine (refOrders26 f 1 2 (by omega) (by omega) _).mono ?_; rintro e1 w7 ⟨rfl, E7⟩; have be := be.below E7; have bf := bf.below E7; have B := B.trans (E7.mono B.size); obtain ⟨c0, c1, c2, c3, c4, c5⟩ := be.cells; obtain ⟨d0, d1, d2, d3, d4, d5⟩ := bf.cells; have hl1 := be.1; have hl2 := bf.1; rw [HQ.out]; go_wp2_with fail)
                go_ret
                exact ⟨ret_bool (by simp), B⟩
              · have x6 : (f.kind == 6) = false := by simp [f6]
                rw [x6, Bool.false_or]; clear f6
                go_enter Try.func31, Try.ntmps31
                go_wp2_with fail
                refine (refComm26 e _).mono ?_; rintro e1 w7 ⟨rfl, E7⟩; have be := be.below E7; have bf := bf.below E7; have B := B.trans (E7.mono B.size); obtain ⟨c0, c1, c2, c3, c4, c5⟩ := be.cells; obtain ⟨d0, d1, d2, d3, d4, d5⟩ := bf.cells; have hl1 := be.1; have hl2 := bf.1; rw [HC1.out]
                go_wp2_with fail
                refine (refComm26 f _).mono ?_; rintro e1 w7 ⟨rfl, E7⟩; have be := be.below E7; have bf := bf.below E7; have B := B.trans (E7.mono B.size); obtain ⟨c0, c1, c2, c3, c4, c5⟩ := be.cells; obtain ⟨d0, d1, d2, d3, d4, d5⟩ := bf.cells; have hl1 := be.1; have hl2 := bf.1; rw [HC2.out]
                go_wp2_with fail
                refine (refOrders26 f 1 1 (by omega) (by omega) _).mono ?_; rintro e1 w7 ⟨rfl, E7⟩; have be := be.below E7; have bf := bf.below E7; have B := B.trans (E7.mono B.size); obtain ⟨c0, c1, c2, c3, c4, c5⟩ := be.cells; obtain ⟨d0, d1, d2, d3, d4, d5⟩ := bf.cells; have hl1 := be.1; have hl2 := bf.1; rw [HP.out]
                go_wp2_with fail
                try (refine (refOrders26 f 1 2 (by omega) (by omega) _).mono ?_; rintro e1 w7 ⟨rfl, E7⟩; have be := be.below E7; have bf := bf.below E7; have B := B.trans (E7.mono B.size); obtain ⟨c0, c1, c2, c3, c4, c5⟩ := be.cells; obtain ⟨d0, d1, d2, d3, d4, d5⟩ := bf.cells; have hl1 := be.1; have hl2 := bf.1; rw [HQ.out]; go_wp2_with fail)
                go_ret
                exact ⟨ret_bool (by simp), B⟩
            · have y7 : (e.kind == 7) = false := by simp [k7]
              rw [if_neg k7]; clear k7
              by_cases k6 : e.kind = 6
              · have y6 : (e.kind == 6) = true := by simp [k6]
                rw [if_pos k6]; clear k6
                go_enter Try.func31, Try.ntmps31
                go_wp2_with fail
                refine (refComm26 e _).mono ?_; rintro e1 w7 ⟨rfl, E7⟩; have be := be.below E7; have bf := bf.below E7; have B := B.trans (E7.mono B.size); obtain ⟨c0, c1, c2, c3, c4, c5⟩ := be.cells; obtain ⟨d0, d1, d2, d3, d4, d5⟩ := bf.cells; have hl1 := be.1; have hl2 := bf.1; rw [HC1.out]
                go_wp2_with fail
                refine (refComm26 f _).mono ?_; rintro e1 w7 ⟨rfl, E7⟩; have be := be.below E7; have bf := bf.below E7; have B := B.trans (E7.mono B.size); obtain ⟨c0, c1, c2, c3, c4, c5⟩ := be.cells; obtain ⟨d0, d1, d2, d3, d4, d5⟩ := bf.cells; have hl1 := be.1; have hl2 := bf.1; rw [HC2.out]
                go_wp2_with fail
                refine (refOrders26 f 1 1 (by omega) (by omega) _).mono ?_; rintro e1 w7 ⟨rfl, E7⟩; have be := be.below E7; have bf := bf.below E7; have B := B.trans (E7.mono B.size); obtain ⟨c0, c1, c2, c3, c4, c5⟩ := be.cells; obtain ⟨d0, d1, d2, d3, d4, d5⟩ := bf.cells; have hl1 := be.1; have hl2 := bf.1; rw [HP.out]
                go_wp2_with fail
                try (refine (refOrders26 f 1 2 (by omega) (by omega) _).mono ?_; rintro e1 w7 ⟨rfl, E7⟩; have be := be.below E7; have bf := bf.below E7; have B := B.trans (E7.mono B.size); obtain ⟨c0, c1, c2, c3, c4, c5⟩ := be.cells; obtain ⟨d0, d1, d2, d3, d4, d5⟩ := bf.cells; have hl1 := be.1; have hl2 := bf.1; rw [HQ.out]; go_wp2_with fail)
                go_ret
                exact ⟨ret_bool (by simp), B⟩
              · have y6 : (e.kind == 6) = false := by simp [k6]
                rw [if_neg k6]; clear k6
                by_cases k5 : f.kind = 5
                · have x5 : (f.kind != 5) = false := by simp [k5]
                  have x6 : (f.kind == 5) = true := by simp [k5]
                  rw [if_neg (by omega : ¬ f.kind ≠ 5)]; clear k5
                  go_enter Try.func31, Try.ntmps31
                  go_wp2_with fail
                  refine (refComm26 e _).mono ?_; rintro e1 w7 ⟨rfl, E7⟩; have be := be.below E7; have bf := bf.below E7; have B := B.trans (E7.mono B.size); obtain ⟨c0, c1, c2, c3, c4, c5⟩ := be.cells; obtain ⟨d0, d1, d2, d3, d4, d5⟩ := bf.cells; have hl1 := be.1; have hl2 := bf.1; rw [HC1.out]
                  go_wp2_with fail
                  refine (refComm26 f _).mono ?_; rintro e1 w7 ⟨rfl, E7⟩; have be := be.below E7; have bf := bf.below E7; have B := B.trans (E7.mono B.size); obtain ⟨c0, c1, c2, c3, c4, c5⟩ := be.cells; obtain ⟨d0, d1, d2, d3, d4, d5⟩ := bf.cells; have hl1 := be.1; have hl2 := bf.1; rw [HC2.out]
                  go_wp2_with fail
                  refine (refOrders26 f 1 1 (by omega) (by omega) _).mono ?_; rintro e1 w7 ⟨rfl, E7⟩; have be := be.below E7; have bf := bf.below E7; have B := B.trans (E7.mono B.size); obtain ⟨c0, c1, c2, c3, c4, c5⟩ := be.cells; obtain ⟨d0, d1, d2, d3, d4, d5⟩ := bf.cells; have hl1 := be.1; have hl2 := bf.1; rw [HP.out]
                  go_wp2_with fail
                  try (refine (refOrders26 f 1 2 (by omega) (by omega) _).mono ?_; rintro e1 w7 ⟨rfl, E7⟩; have be := be.below E7; have bf := bf.below E7; have B := B.trans (E7.mono B.size); obtain ⟨c0, c1, c2, c3, c4, c5⟩ := be.cells; obtain ⟨d0, d1, d2, d3, d4, d5⟩ := bf.cells; have hl1 := be.1; have hl2 := bf.1; rw [HQ.out]; go_wp2_with fail)
                  go_loopw [6] (fun i wr => ∃ a : Int, 1 ≤ a ∧ a ≤ 3 ∧ i = .int .i64 a ∧ Hid (∀ x, 1 ≤ x → x < a → okE e f x 1 ∧ okE e f x 2) ∧ Bx wr w.heap.size e ∧ Bx wr (w.heap.size + 1) f ∧ Below w.heap.size w wr) (fun i _ => (3 - intOf i).toNat)
                  case atStart => exact ⟨1, by omega, by omega, rfl, hid (fun x h1 h2 => by omega), be, bf, B⟩
                  case round =>
                    clear be bf B c0 c1 c2 c3 c4 c5 d0 d1 d2 d3 d4 d5 hl1 hl2
                    obtain ⟨a, ha1, ha3, rfl, HA, be, bf, B⟩ := hrel
                    by_cases hlt : a ≤ 2
                    · go_wp2_with fail
                      go_loopw [7] (fun j wr => ∃ b : Int, 1 ≤ b ∧ b ≤ 3 ∧ j = .int .i64 b ∧ Hid (∀ x, 1 ≤ x → x < b → okE e f a x) ∧ Bx wr w.heap.size e ∧ Bx wr (w.heap.size + 1) f ∧ Below w.heap.size w wr) (fun j _ => (3 - intOf j).toNat)
                      case atStart => exact ⟨1, by omega, by omega, rfl, hid (fun x h1 h2 => by omega), be, bf, B⟩
                      case round =>
                        clear be bf B
                        obtain ⟨b, hb1, hb3, rfl, HB, be, bf, B⟩ := hrel
                        by_cases hlb : b ≤ 2
                        · obtain ⟨c0, c1, c2, c3, c4, c5⟩ := be.cells
                          obtain ⟨d0, d1, d2, d3, d4, d5⟩ := bf.cells
                          cases h1 : ordersE e a b
                          · have H1 := hid h1
                            clear h1
                            go_wp2_with fail
                            refine (refOrders26 e a b (by omega) (by omega) _).mono ?_; rintro e1 w7 ⟨rfl, E7⟩; have be := be.below E7; have bf := bf.below E7; have B := B.trans (E7.mono B.size); obtain ⟨c0, c1, c2, c3, c4, c5⟩ := be.cells; obtain ⟨d0, d1, d2, d3, d4, d5⟩ := bf.cells; have hl1 := be.1; have hl2 := bf.1; rw [H1.out]
                            go_wp2_with fail
                            go_roundw
                            case rel => exact ⟨b + 1, by omega, by omega, rfl, hid (fun x h1 h2 => by
                              by_cases h : x = b
                              · subst h; intro h3; rw [H1.out] at h3; cases h3
                              · exact HB.out x h1 (by omega)), be, bf, B⟩
                            case measure => simp [intOf]; omega
                          · have H1 := hid h1
                            clear h1
                            cases h2 : ordersE f a b
                            · have H2 := hid h2
                              clear h2
                              go_wp2_with fail
                              refine (refOrders26 e a b (by omega) (by omega) _).mono ?_; rintro e1 w7 ⟨rfl, E7⟩; have be := be.below E7; have bf := bf.below E7; have B := B.trans (E7.mono B.size); obtain ⟨c0, c1, c2, c3, c4, c5⟩ := be.cells; obtain ⟨d0, d1, d2, d3, d4, d5⟩ := bf.cells; have hl1 := be.1; have hl2 := bf.1; rw [H1.out]
                              go_wp2_with fail
                              refine (refOrders26 f a b (by omega) (by omega) _).mono ?_; rintro e1 w7 ⟨rfl, E7⟩; have be := be.below E7; have bf := bf.below E7; have B := B.trans (E7.mono B.size); obtain ⟨c0, c1, c2, c3, c4, c5⟩ := be.cells; obtain ⟨d0, d1, d2, d3, d4, d5⟩ := bf.cells; have hl1 := be.1; have hl2 := bf.1; rw [H2.out]
                              go_wp2_with fail
                              go_ret
                              refine ⟨ret_bool ?_, B⟩
                              cases hw : withinE e f
                              · rfl
                              · obtain ⟨⟨q1, q2⟩, ⟨q3, q4⟩⟩ := (withinE_iff e f).1 hw
                                have ea : a = 1 ∨ a = 2 := by omega
                                have eb : b = 1 ∨ b = 2 := by omega
                                have : okE e f a b := by rcases ea with rfl | rfl <;> rcases eb with rfl | rfl <;> assumption
                                have := this H1.out
                                rw [H2.out] at this; cases this
                            · have H2 := hid h2
                              clear h2
                              go_wp2_with fail
                              refine (refOrders26 e a b (by omega) (by omega) _).mono ?_; rintro e1 w7 ⟨rfl, E7⟩; have be := be.below E7; have bf := bf.below E7; have B := B.trans (E7.mono B.size); obtain ⟨c0, c1, c2, c3, c4, c5⟩ := be.cells; obtain ⟨d0, d1, d2, d3, d4, d5⟩ := bf.cells; have hl1 := be.1; have hl2 := bf.1; rw [H1.out]
                              go_wp2_with fail
                              refine (refOrders26 f a b (by omega) (by omega) _).mono ?_; rintro e1 w7 ⟨rfl, E7⟩; have be := be.below E7; have bf := bf.below E7; have B := B.trans (E7.mono B.size); obtain ⟨c0, c1, c2, c3, c4, c5⟩ := be.cells; obtain ⟨d0, d1, d2, d3, d4, d5⟩ := bf.cells; have hl1 := be.1; have hl2 := bf.1; rw [H2.out]
                              go_wp2_with fail
                              go_roundw
                              case rel => exact ⟨b + 1, by omega, by omega, rfl, hid (fun x h1 h2 => by
                                by_cases h : x = b
                                · subst h; exact fun _ => H2.out
                                · exact HB.out x h1 (by omega)), be, bf, B⟩
                              case measure => simp [intOf]; omega
                        · go_wp2_with fail
                          go_roundw
                          case rel => exact ⟨a + 1, by omega, by omega, rfl, hid (fun x h1 h2 => by
                            by_cases h : x = a
                            · subst h; exact ⟨HB.out 1 (by omega) (by omega), HB.out 2 (by omega) (by omega)⟩
                            · exact HA.out x h1 (by omega)), be, bf, B⟩
                          case measure => simp [intOf]; omega
                    · go_wp2_with fail
                      go_ret
                      exact ⟨ret_bool ((withinE_iff e f).2 ⟨HA.out 1 (by omega) (by omega), HA.out 2 (by omega) (by omega)⟩).symm, B⟩
                · have x5 : (f.kind != 5) = true := by simp [k5]
                  have x6 : (f.kind == 5) = false := by simp [k5]
                  rw [if_pos (by omega : f.kind ≠ 5)]; clear k5
                  go_enter Try.func31, Try.ntmps31
                  go_wp2_with fail
                  refine (refComm26 e _).mono ?_; rintro e1 w7 ⟨rfl, E7⟩; have be := be.below E7; have bf := bf.below E7; have B := B.trans (E7.mono B.size); obtain ⟨c0, c1, c2, c3, c4, c5⟩ := be.cells; obtain ⟨d0, d1, d2, d3, d4, d5⟩ := bf.cells; have hl1 := be.1; have hl2 := bf.1; rw [HC1.out]
                  go_wp2_with fail
                  refine (refComm26 f _).mono ?_; rintro e1 w7 ⟨rfl, E7⟩; have be := be.below E7; have bf := bf.below E7; have B := B.trans (E7.mono B.size); obtain ⟨c0, c1, c2, c3, c4, c5⟩ := be.cells; obtain ⟨d0, d1, d2, d3, d4, d5⟩ := bf.cells; have hl1 := be.1; have hl2 := bf.1; rw [HC2.out]
                  go_wp2_with fail
                  refine (refOrders26 f 1 1 (by omega) (by omega) _).mono ?_; rintro e1 w7 ⟨rfl, E7⟩; have be := be.below E7; have bf := bf.below E7; have B := B.trans (E7.mono B.size); obtain ⟨c0, c1, c2, c3, c4, c5⟩ := be.cells; obtain ⟨d0, d1, d2, d3, d4, d5⟩ := bf.cells; have hl1 := be.1; have hl2 := bf.1; rw [HP.out]
                  go_wp2_with fail
                  try (refine (refOrders26 f 1 2 (by omega) (by omega) _).mono ?_; rintro e1 w7 ⟨rfl, E7⟩; have be := be.below E7; have bf := bf.below E7; have B := B.trans (E7.mono B.size); obtain ⟨c0, c1, c2, c3, c4, c5⟩ := be.cells; obtain ⟨d0, d1, d2, d3, d4, d5⟩ := bf.cells; have hl1 := be.1; have hl2 := bf.1; rw [HQ.out]; go_wp2_with fail)
                  go_ret
                  exact ⟨rfl, B⟩
end Go.Proofs.Yteijgmaggmhggaa

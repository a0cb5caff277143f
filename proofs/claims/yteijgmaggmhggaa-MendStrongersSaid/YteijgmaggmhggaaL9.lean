/- The walk of the statement MendWeakers. Conditions: what came in lies in memory as read; each slice takes fewer than 2^47 bytes. -/
import Derived.Test.YteijgmaggmhggaaE30
import Derived.Test.YteijgmaggmhggaaE26
import Derived.Test.YteijgmaggmhggaaE16
namespace Go.Proofs.Yteijgmaggmhggaa
open Go.RowKit
set_option linter.unusedVariables false

attribute [local go_sem high] eqE neqE

/-- the statement's call: true, and memory of its own alone was written -/
def Tru (w : World) (e : Ending) (w' : World) : Prop := e = .returned (.bool true) ∧ Below w.heap.size w w'
set_option maxRecDepth 100000 in
set_option maxHeartbeats 6400000 in
theorem lawMendWeakers (arch : Int) (a : List Edge) (a1 : Option Addr) (c1 : Nat) (b : List Edge) (a2 : Option Addr) (c2 : Nat) (w : World)
    (h1 : Es w a1 a) (hc1 : a.length ≤ c1) (hb1 : a.length * 40 ≤ 140737488351232) (h2 : Es w a2 b) (hc2 : b.length ≤ c2) (hb2 : b.length * 40 ≤ 140737488351232) :
    Calls Try.prog 4 #[.int .i64 arch, .slice a1 a.length c1, .slice a2 b.length c2] w (Tru w) := by
  clear hc1 hc2
  have hl1 := h1.len; have hl2 := h2.len
  go_enter Try.func4, Try.ntmps4
  go_wp2_with fail
  refine (refLentE a a1 c1 _ h1 hb1).mono ?_
  rintro x w1 ⟨a3, c3, rfl, o3, E1⟩
  have h1 := h1.below E1; have h2 := h2.below E1; have B := E1
  go_wp2_with fail
  refine (refLentE b a2 c2 _ h2 hb2).mono ?_
  rintro x w2 ⟨a4, c4, rfl, o4, E2⟩
  have h1 := h1.below E2; have h2 := h2.below E2; have B := ext_trans B E2
  have m3 : Es w2 a3 (a ++ marksE 40) := (OwnE.es o3 (by rw [List.length_append, marksE_length]; omega)).below E2
  have m4 : Es w2 a4 (b ++ marksE 40) := OwnE.es o4 (by rw [List.length_append, marksE_length]; omega)
  have k3 := o3.cap.1; have k4 := o4.cap.1
  clear o3 o4 E1 E2
  go_wp2_with fail
  refine (progWeaker arch a b a3 a4 c3 c4 _ m3.app_left m4.app_left).mono ?_
  rintro x w3 ⟨rfl, E3⟩
  have h1 := h1.below E3; have h2 := h2.below E3; have B := ext_trans B E3; have m3 := m3.below E3; have m4 := m4.below E3
  go_wp2_with fail
  refine (refWeaker arch a b a1 a2 c1 c2 _ h1 h2).mono ?_
  rintro x w4 ⟨rfl, E4⟩
  have h1 := h1.below E4; have h2 := h2.below E4; have B := ext_trans B E4; have m3 := m3.below E4; have m4 := m4.below E4
  generalize weakB arch a b = p at *
  generalize weakN arch a b = n at *
  have zp : (p == p) = true := by simp
  have zn : (n == n) = true := by simp
  go_wp2_with fail
  refine (refKeptE a a a3 a1 c3 c1 _ m3 h1 rfl k3).mono ?_
  rintro x w5 ⟨rfl, E5⟩
  rw [decide_eq_true rfl]
  have h2 := h2.below E5; have B := ext_trans B E5; have m4 := m4.below E5
  go_wp2_with fail
  refine (refKeptE b b a4 a2 c4 c2 _ m4 h2 rfl k4).mono ?_
  rintro x w6 ⟨rfl, E6⟩
  rw [decide_eq_true rfl]
  have B := ext_trans B E6
  go_wp2_with fail
  refine (awake26 _).mono ?_
  rintro x w7 ⟨rfl, E7⟩
  have B := ext_trans B E7
  go_wp2_with fail
  go_ret
  exact ⟨rfl, B⟩
end Go.Proofs.Yteijgmaggmhggaa

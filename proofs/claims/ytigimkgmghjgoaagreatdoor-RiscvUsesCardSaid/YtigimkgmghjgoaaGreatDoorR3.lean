/- The walk of fields (the program's). Condition: lengths that an int holds. -/
import Derived.Test.YtigimkgmghjgoaaGreatDoorR2
import Derived.BigRegion
import Derived.StillTailTactics
namespace Go.Proofs.YtigimkgmghjgoaaGreatDoor
open Go.RowKit
set_option linter.unusedVariables false

/-- an instruction and a bool -/
def RetF (w : World) (op d a b imm : Int) (loc label : ByteArray) (fence : Int) (ok : Bool) (x : Ending) (w' : World) : Prop :=
  x = .returned (.tuple #[.agg #[.int .i64 op, .int .i64 d, .int .i64 a, .int .i64 b, .int .i64 imm, .string loc, .string label, .int .i64 fence], .bool ok]) ∧ Below w.heap.size w w'
set_option maxRecDepth 100000 in
set_option maxHeartbeats 1600000 in
theorem progFields_lw (d a b imm : Int) (loc label : Tx) (fence : Int) (w : World) : Calls Tryz.prog 46 #[vI ⟨6, d, a, b, imm, loc, label, fence⟩] w (RetF w 6 d a 0 0 ⟨#[]⟩ ⟨#[]⟩ 0 true) := by
  go_enter Tryz.func46, Tryz.ntmps46
  go_wp2_with fail
  go_big_region
  go_wp2_with fail
  exact bodyPost_ret (by simp [results, Tryz.results46, go_sem]) rfl ⟨rfl, (by repeat (first | with_reducible assumption | with_reducible exact Below.refl _ _ | with_reducible refine bel_alloc ?_ _ | with_reducible refine bel_drew ?_ | with_reducible refine bel_set ?_ (by dsimp only; omega) _))⟩
set_option maxRecDepth 100000 in
set_option maxHeartbeats 1600000 in
theorem progFields_sw (d a b imm : Int) (loc label : Tx) (fence : Int) (w : World) : Calls Tryz.prog 46 #[vI ⟨7, d, a, b, imm, loc, label, fence⟩] w (RetF w 7 0 a b 0 ⟨#[]⟩ ⟨#[]⟩ 0 true) := by
  go_enter Tryz.func46, Tryz.ntmps46
  go_wp2_with fail
  go_big_region
  go_wp2_with fail
  exact bodyPost_ret (by simp [results, Tryz.results46, go_sem]) rfl ⟨rfl, (by repeat (first | with_reducible assumption | with_reducible exact Below.refl _ _ | with_reducible refine bel_alloc ?_ _ | with_reducible refine bel_drew ?_ | with_reducible refine bel_set ?_ (by dsimp only; omega) _))⟩
set_option maxRecDepth 100000 in
set_option maxHeartbeats 1600000 in
theorem progFields_ori_lo (d a b imm : Int) (loc label : Tx) (fence : Int) (h : imm < -2048) (w : World) : Calls Tryz.prog 46 #[vI ⟨8, d, a, b, imm, loc, label, fence⟩] w (RetF w 8 d a 0 imm ⟨#[]⟩ ⟨#[]⟩ 0 false) := by
  have z1 : decide (-2048 ≤ imm) = false := by simp; omega
  go_enter Tryz.func46, Tryz.ntmps46
  go_wp2_with fail
  go_big_region
  go_wp2_with fail
  go_big_region
  go_wp2_with fail
  exact bodyPost_ret (by simp [results, Tryz.results46, go_sem]) rfl ⟨rfl, (by repeat (first | with_reducible assumption | with_reducible exact Below.refl _ _ | with_reducible refine bel_alloc ?_ _ | with_reducible refine bel_drew ?_ | with_reducible refine bel_set ?_ (by dsimp only; omega) _))⟩
set_option maxRecDepth 100000 in
set_option maxHeartbeats 1600000 in
theorem progFields_ori_in (d a b imm : Int) (loc label : Tx) (fence : Int) (h1 : -2048 ≤ imm) (h2 : imm ≤ 2047) (w : World) : Calls Tryz.prog 46 #[vI ⟨8, d, a, b, imm, loc, label, fence⟩] w (RetF w 8 d a 0 imm ⟨#[]⟩ ⟨#[]⟩ 0 true) := by
  have z1 : decide (-2048 ≤ imm) = true := by simp; omega
  have z2 : decide (imm ≤ 2047) = true := by simp; omega
  go_enter Tryz.func46, Tryz.ntmps46
  go_wp2_with fail
  go_big_region
  go_wp2_with fail
  go_big_region
  go_wp2_with fail
  exact bodyPost_ret (by simp [results, Tryz.results46, go_sem]) rfl ⟨rfl, (by repeat (first | with_reducible assumption | with_reducible exact Below.refl _ _ | with_reducible refine bel_alloc ?_ _ | with_reducible refine bel_drew ?_ | with_reducible refine bel_set ?_ (by dsimp only; omega) _))⟩
set_option maxRecDepth 100000 in
set_option maxHeartbeats 1600000 in
theorem progFields_ori_hi (d a b imm : Int) (loc label : Tx) (fence : Int) (h : 2047 < imm) (w : World) : Calls Tryz.prog 46 #[vI ⟨8, d, a, b, imm, loc, label, fence⟩] w (RetF w 8 d a 0 imm ⟨#[]⟩ ⟨#[]⟩ 0 false) := by
  have z1 : decide (-2048 ≤ imm) = true := by simp; omega
  have z2 : decide (imm ≤ 2047) = false := by simp; omega
  go_enter Tryz.func46, Tryz.ntmps46
  go_wp2_with fail
  go_big_region
  go_wp2_with fail
  go_big_region
  go_wp2_with fail
  exact bodyPost_ret (by simp [results, Tryz.results46, go_sem]) rfl ⟨rfl, (by repeat (first | with_reducible assumption | with_reducible exact Below.refl _ _ | with_reducible refine bel_alloc ?_ _ | with_reducible refine bel_drew ?_ | with_reducible refine bel_set ?_ (by dsimp only; omega) _))⟩
set_option maxRecDepth 100000 in
set_option maxHeartbeats 1600000 in
theorem progFields_xor (d a b imm : Int) (loc label : Tx) (fence : Int) (w : World) : Calls Tryz.prog 46 #[vI ⟨9, d, a, b, imm, loc, label, fence⟩] w (RetF w 9 d a b 0 ⟨#[]⟩ ⟨#[]⟩ 0 true) := by
  go_enter Tryz.func46, Tryz.ntmps46
  go_wp2_with fail
  go_big_region
  go_wp2_with fail
  exact bodyPost_ret (by simp [results, Tryz.results46, go_sem]) rfl ⟨rfl, (by repeat (first | with_reducible assumption | with_reducible exact Below.refl _ _ | with_reducible refine bel_alloc ?_ _ | with_reducible refine bel_drew ?_ | with_reducible refine bel_set ?_ (by dsimp only; omega) _))⟩
set_option maxRecDepth 100000 in
set_option maxHeartbeats 1600000 in
theorem progFields_add (d a b imm : Int) (loc label : Tx) (fence : Int) (w : World) : Calls Tryz.prog 46 #[vI ⟨10, d, a, b, imm, loc, label, fence⟩] w (RetF w 10 d a b 0 ⟨#[]⟩ ⟨#[]⟩ 0 true) := by
  go_enter Tryz.func46, Tryz.ntmps46
  go_wp2_with fail
  go_big_region
  go_wp2_with fail
  exact bodyPost_ret (by simp [results, Tryz.results46, go_sem]) rfl ⟨rfl, (by repeat (first | with_reducible assumption | with_reducible exact Below.refl _ _ | with_reducible refine bel_alloc ?_ _ | with_reducible refine bel_drew ?_ | with_reducible refine bel_set ?_ (by dsimp only; omega) _))⟩
set_option maxRecDepth 100000 in
set_option maxHeartbeats 1600000 in
theorem progFields_fence_lo (d a b imm : Int) (loc label : Tx) (fence : Int) (h : fence < 2) (w : World) : Calls Tryz.prog 46 #[vI ⟨13, d, a, b, imm, loc, label, fence⟩] w (RetF w 13 0 0 0 0 ⟨#[]⟩ ⟨#[]⟩ fence false) := by
  have z1 : decide (2 ≤ fence) = false := by simp; omega
  go_enter Tryz.func46, Tryz.ntmps46
  go_wp2_with fail
  go_big_region
  go_wp2_with fail
  exact bodyPost_ret (by simp [results, Tryz.results46, go_sem]) rfl ⟨rfl, (by repeat (first | with_reducible assumption | with_reducible exact Below.refl _ _ | with_reducible refine bel_alloc ?_ _ | with_reducible refine bel_drew ?_ | with_reducible refine bel_set ?_ (by dsimp only; omega) _))⟩
set_option maxRecDepth 100000 in
set_option maxHeartbeats 1600000 in
theorem progFields_fence_in (d a b imm : Int) (loc label : Tx) (fence : Int) (h1 : 2 ≤ fence) (h2 : fence ≤ 11) (w : World) : Calls Tryz.prog 46 #[vI ⟨13, d, a, b, imm, loc, label, fence⟩] w (RetF w 13 0 0 0 0 ⟨#[]⟩ ⟨#[]⟩ fence true) := by
  have z1 : decide (2 ≤ fence) = true := by simp; omega
  have z2 : decide (fence ≤ 11) = true := by simp; omega
  go_enter Tryz.func46, Tryz.ntmps46
  go_wp2_with fail
  go_big_region
  go_wp2_with fail
  exact bodyPost_ret (by simp [results, Tryz.results46, go_sem]) rfl ⟨rfl, (by repeat (first | with_reducible assumption | with_reducible exact Below.refl _ _ | with_reducible refine bel_alloc ?_ _ | with_reducible refine bel_drew ?_ | with_reducible refine bel_set ?_ (by dsimp only; omega) _))⟩
set_option maxRecDepth 100000 in
set_option maxHeartbeats 1600000 in
theorem progFields_fence_hi (d a b imm : Int) (loc label : Tx) (fence : Int) (h : 11 < fence) (w : World) : Calls Tryz.prog 46 #[vI ⟨13, d, a, b, imm, loc, label, fence⟩] w (RetF w 13 0 0 0 0 ⟨#[]⟩ ⟨#[]⟩ fence false) := by
  have z1 : decide (2 ≤ fence) = true := by simp; omega
  have z2 : decide (fence ≤ 11) = false := by simp; omega
  go_enter Tryz.func46, Tryz.ntmps46
  go_wp2_with fail
  go_big_region
  go_wp2_with fail
  exact bodyPost_ret (by simp [results, Tryz.results46, go_sem]) rfl ⟨rfl, (by repeat (first | with_reducible assumption | with_reducible exact Below.refl _ _ | with_reducible refine bel_alloc ?_ _ | with_reducible refine bel_drew ?_ | with_reducible refine bel_set ?_ (by dsimp only; omega) _))⟩
set_option maxRecDepth 100000 in
set_option maxHeartbeats 1600000 in
theorem progFields_no (op d a b imm : Int) (loc label : Tx) (fence : Int) (h : op < 6 ∨ 13 < op) (w : World) : Calls Tryz.prog 46 #[vI ⟨op, d, a, b, imm, loc, label, fence⟩] w (RetF w op 0 0 0 0 ⟨#[]⟩ ⟨#[]⟩ 0 false) := by
  have z6 : (op == 6) = false := by simp; omega
  have z7 : (op == 7) = false := by simp; omega
  have z8 : (op == 8) = false := by simp; omega
  have z9 : (op == 9) = false := by simp; omega
  have z10 : (op == 10) = false := by simp; omega
  have z11 : (op == 11) = false := by simp; omega
  have z12 : (op == 12) = false := by simp; omega
  have z13 : (op == 13) = false := by simp; omega
  go_enter Tryz.func46, Tryz.ntmps46
  go_wp2_with fail
  exact bodyPost_ret (by simp [results, Tryz.results46, go_sem]) rfl ⟨rfl, (by repeat (first | with_reducible assumption | with_reducible exact Below.refl _ _ | with_reducible refine bel_alloc ?_ _ | with_reducible refine bel_drew ?_ | with_reducible refine bel_set ?_ (by dsimp only; omega) _))⟩
end Go.Proofs.YtigimkgmghjgoaaGreatDoor

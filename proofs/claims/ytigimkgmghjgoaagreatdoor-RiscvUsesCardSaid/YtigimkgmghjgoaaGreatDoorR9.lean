/- The walks of three, moved (the program's). Conditions: texts in memory as read, of lengths that an int holds. -/
import Derived.Test.YtigimkgmghjgoaaGreatDoorR8
import Derived.Test.YtigimkgmghjgoaaGreatDoorR4
namespace Go.Proofs.YtigimkgmghjgoaaGreatDoor
open Go.RowKit
set_option linter.unusedVariables false

theorem Txs.lt {w : World} {a : Option Addr} {l : List Tx} (h : Txs w a l) {k : Nat} (hk : k < l.length) : bk a < w.heap.size := cell?_lt (p := ⟨bk a, fo a + k, none⟩) (h.cell k hk)
/-- texts of lengths that an int holds -/
def Sm (l : List Tx) : Prop := ∀ x ∈ l, x.length ≤ 1000000
theorem Sm.at {l : List Tx} (h : Sm l) (x : Tx) (hx : x ∈ l) : x.length ≤ 9223372036854775807 := by have := h x hx; omega
set_option maxHeartbeats 1600000 in
theorem progThree3 (x y z : Tx) (a : Option Addr) (c : Nat) (w : World) (h : Txs w a [x, y, z]) (hs : Sm [x, y, z]) :
    Calls Tryz.prog 68 #[.slice a 3 c] w (Ret w (.tuple #[.int .i64 (optN (regOf (trimT x))), .int .i64 (optN (regOf (trimT y))), .string (tx (trimT z)), .bool ((regOf (trimT x)).isSome && (regOf (trimT y)).isSome)])) := by
  have X := hid (progRegister x (hs.at x (by simp)))
  have Y := hid (progRegister y (hs.at y (by simp)))
  have Z := hid (progTrimmed z (hs.at z (by simp)))
  have i0 : ∀ c w', (Instr.indexAt 67 (.slice a 3 c) (.int .i64 0)).run Tryz.prog w' = .ok (.pointer (some ⟨bk a, fo a, none⟩)) w' := fun c w' => h.idx 0 (by simp) c w'
  have i1 : ∀ c w', (Instr.indexAt 67 (.slice a 3 c) (.int .i64 1)).run Tryz.prog w' = .ok (.pointer (some ⟨bk a, fo a + 1, none⟩)) w' := fun c w' => h.idx 1 (by simp) c w'
  have i2 : ∀ c w', (Instr.indexAt 67 (.slice a 3 c) (.int .i64 2)).run Tryz.prog w' = .ok (.pointer (some ⟨bk a, fo a + 2, none⟩)) w' := fun c w' => h.idx 2 (by simp) c w'
  have c0 : w.cell? ⟨bk a, fo a, none⟩ = some (.string (tx x)) := h.cell 0 (by simp)
  generalize regOf (trimT x) = rx at *
  generalize regOf (trimT y) = ry at *
  generalize trimT z = tz at *
  go_enter Tryz.func68, Tryz.ntmps68
  go_wp2_with fail
  refine (X.out _).mono ?_
  rintro e w1 ⟨rfl, E1⟩
  have h1 := h.below E1
  have c1 : w1.cell? ⟨bk a, fo a + 1, none⟩ = some (.string (tx y)) := h1.cell 1 (by simp)
  clear c0
  go_wp2_with fail
  refine (Y.out _).mono ?_
  rintro e w2 ⟨rfl, E2⟩
  have h2 := h1.below E2
  have E := ext_trans E1 E2
  have c2 : w2.cell? ⟨bk a, fo a + 2, none⟩ = some (.string (tx z)) := h2.cell 2 (by simp)
  clear c1 E1 E2
  go_wp2_with fail
  refine (Z.out _).mono ?_
  rintro e w3 ⟨rfl, E3⟩
  have E := ext_trans E E3
  clear c2 E3
  cases rx <;> cases ry <;> (go_wp2_with fail; exact bodyPost_ret (by simp [results, Tryz.results68, go_sem]) rfl ⟨rfl, E⟩)
theorem progThree_no (n c : Nat) (a : Option Addr) (hn : n ≠ 3) (w : World) :
    Calls Tryz.prog 68 #[.slice a n c] w (Ret w (.tuple #[.int .i64 0, .int .i64 0, .string ⟨#[]⟩, .bool false])) := by
  have z : ((n : Int) != 3) = true := by simp; omega
  clear hn
  go_enter Tryz.func68, Tryz.ntmps68
  go_wp2_with fail
  exact bodyPost_ret (by simp [results, Tryz.results68, go_sem]) rfl ⟨rfl, Below.refl _ _⟩
set_option maxRecDepth 100000 in
set_option maxHeartbeats 1600000 in
theorem progMoved_no (op : Tx) (n c : Nat) (a : Option Addr) (hn : n ≠ 2) (w : World) : Calls Tryz.prog 66 #[.string (tx op), .slice a n c] w (RetF w 0 0 0 0 0 ⟨#[]⟩ ⟨#[]⟩ 0 false) := by
  have z : ((n : Int) != 2) = true := by simp; omega
  clear hn
  go_enter Tryz.func66, Tryz.ntmps66
  go_wp2_with fail
  exact bodyPost_ret (by simp [results, Tryz.results66, go_sem]) rfl ⟨rfl, (by repeat (first | with_reducible assumption | with_reducible exact Below.refl _ _ | with_reducible refine bel_alloc ?_ _ | with_reducible refine bel_drew ?_ | with_reducible refine bel_set ?_ (by dsimp only; omega) _))⟩
abbrev zeroI : Obj := .cells #[.int .i64 0, .int .i64 0, .int .i64 0, .int .i64 0, .int .i64 0, .string ⟨#[]⟩, .string ⟨#[]⟩, .int .i64 0] 23
/-- behind a call: the call's own instruction is as it was, all else too -/
theorem fresh8 {w w' : World} (h : Below (w.alloc zeroI).heap.size (w.alloc zeroI) w') :
    (w'.cell? ⟨w.heap.size, 0, none⟩ = some (.int .i64 0) ∧ w'.cell? ⟨w.heap.size, 1, none⟩ = some (.int .i64 0) ∧ w'.cell? ⟨w.heap.size, 2, none⟩ = some (.int .i64 0) ∧ w'.cell? ⟨w.heap.size, 3, none⟩ = some (.int .i64 0) ∧ w'.cell? ⟨w.heap.size, 4, none⟩ = some (.int .i64 0) ∧ w'.cell? ⟨w.heap.size, 5, none⟩ = some (.string ⟨#[]⟩) ∧ w'.cell? ⟨w.heap.size, 6, none⟩ = some (.string ⟨#[]⟩) ∧ w'.cell? ⟨w.heap.size, 7, none⟩ = some (.int .i64 0)) ∧
    (∀ k, w'.frozen? ⟨w.heap.size, k, none⟩ = false) ∧ w.heap.size < w'.heap.size ∧ Below w.heap.size w w' := by
  have hs := h.size
  simp at hs
  have hc : ∀ k, w'.cell? ⟨w.heap.size, k, none⟩ = (#[.int .i64 0, .int .i64 0, .int .i64 0, .int .i64 0, .int .i64 0, .string ⟨#[]⟩, .string ⟨#[]⟩, .int .i64 0] : Array Value)[k]? := fun k => by
    rw [h.cell (p := ⟨w.heap.size, k, none⟩) (by simp)]
    have hh := heap_alloc_new w zeroI
    simp only [World.cell?, hh]
    simp
  refine ⟨⟨hc 0, hc 1, hc 2, hc 3, hc 4, hc 5, hc 6, hc 7⟩, fun k => ?_, by omega, (al w zeroI).trans (h.mono (al w zeroI).size)⟩
  rw [h.frozen (p := ⟨w.heap.size, k, none⟩) (by simp)]
  have hh := heap_alloc_new w zeroI
  simp only [World.frozen?, hh]
  simp
set_option maxRecDepth 100000 in
set_option maxHeartbeats 1600000 in
theorem progMoved_lw (op x y : Tx) (hop : op = [108, 119]) (a : Option Addr) (c : Nat) (w : World) (h : Txs w a [x, y]) (hs : Sm [x, y]) :
    Calls Tryz.prog 66 #[.string (tx op), .slice a 2 c] w (RetF w 6 (optN (regOf (trimT x))) (optN (addrT y)) 0 0 ⟨#[]⟩ ⟨#[]⟩ 0 ((regOf (trimT x)).isSome && (addrT y).isSome)) := by
  have X := hid (progRegister x (hs.at x (by simp)))
  have Y := hid (progAddress y (hs.at y (by simp)))
  have i0 : ∀ c w', (Instr.indexAt 67 (.slice a 2 c) (.int .i64 0)).run Tryz.prog w' = .ok (.pointer (some ⟨bk a, fo a, none⟩)) w' := fun c w' => h.idx 0 (by simp) c w'
  have i1 : ∀ c w', (Instr.indexAt 67 (.slice a 2 c) (.int .i64 1)).run Tryz.prog w' = .ok (.pointer (some ⟨bk a, fo a + 1, none⟩)) w' := fun c w' => h.idx 1 (by simp) c w'
  have c0 : w.cell? ⟨bk a, fo a, none⟩ = some (.string (tx x)) := h.cell 0 (by simp)
  have hl := h.lt (k := 0) (by simp)
  generalize regOf (trimT x) = rx at *
  generalize addrT y = ry at *
  have z : ((tx op).toList == [108, 119]) = true := by rw [tx_toList]; simpa using hop
  clear hop
  go_enter Tryz.func66, Tryz.ntmps66
  go_wp2_with fail
  refine (X.out _).mono ?_
  rintro e w1 ⟨rfl, E1⟩
  have h1 := (h.below (al _ _)).below E1
  have c1 : w1.cell? ⟨bk a, fo a + 1, none⟩ = some (.string (tx y)) := h1.cell 1 (by simp)
  clear c0
  go_wp2_with fail
  refine (Y.out _).mono ?_
  rintro e w2 ⟨rfl, E2⟩
  have E := ext_trans E1 E2
  obtain ⟨⟨d0, d1, d2, d3, d4, d5, d6, d7⟩, hf, hlt, B⟩ := fresh8 E
  clear c1 E1 E2 h1 E hl
  cases rx <;> cases ry <;> (go_wp2_with fail; exact bodyPost_ret (by simp [results, Tryz.results66, go_sem, d0, d1, d2, d3, d4, d5, d6, d7]) rfl ⟨rfl, (by repeat (first | with_reducible assumption | with_reducible exact Below.refl _ _ | with_reducible refine bel_alloc ?_ _ | with_reducible refine bel_drew ?_ | with_reducible refine bel_set ?_ (by dsimp only; omega) _))⟩)
set_option maxRecDepth 100000 in
set_option maxHeartbeats 1600000 in
theorem progMoved_sw (op x y : Tx) (hop : op ≠ [108, 119]) (a : Option Addr) (c : Nat) (w : World) (h : Txs w a [x, y]) (hs : Sm [x, y]) :
    Calls Tryz.prog 66 #[.string (tx op), .slice a 2 c] w (RetF w 7 0 (optN (addrT y)) (optN (regOf (trimT x))) 0 ⟨#[]⟩ ⟨#[]⟩ 0 ((regOf (trimT x)).isSome && (addrT y).isSome)) := by
  have X := hid (progRegister x (hs.at x (by simp)))
  have Y := hid (progAddress y (hs.at y (by simp)))
  have i0 : ∀ c w', (Instr.indexAt 67 (.slice a 2 c) (.int .i64 0)).run Tryz.prog w' = .ok (.pointer (some ⟨bk a, fo a, none⟩)) w' := fun c w' => h.idx 0 (by simp) c w'
  have i1 : ∀ c w', (Instr.indexAt 67 (.slice a 2 c) (.int .i64 1)).run Tryz.prog w' = .ok (.pointer (some ⟨bk a, fo a + 1, none⟩)) w' := fun c w' => h.idx 1 (by simp) c w'
  have c0 : w.cell? ⟨bk a, fo a, none⟩ = some (.string (tx x)) := h.cell 0 (by simp)
  have hl := h.lt (k := 0) (by simp)
  generalize regOf (trimT x) = rx at *
  generalize addrT y = ry at *
  have z : ((tx op).toList == [108, 119]) = false := by rw [tx_toList]; simpa using hop
  clear hop
  go_enter Tryz.func66, Tryz.ntmps66
  go_wp2_with fail
  refine (X.out _).mono ?_
  rintro e w1 ⟨rfl, E1⟩
  have h1 := (h.below (al _ _)).below E1
  have c1 : w1.cell? ⟨bk a, fo a + 1, none⟩ = some (.string (tx y)) := h1.cell 1 (by simp)
  clear c0
  go_wp2_with fail
  refine (Y.out _).mono ?_
  rintro e w2 ⟨rfl, E2⟩
  have E := ext_trans E1 E2
  obtain ⟨⟨d0, d1, d2, d3, d4, d5, d6, d7⟩, hf, hlt, B⟩ := fresh8 E
  clear c1 E1 E2 h1 E hl
  cases rx <;> cases ry <;> (go_wp2_with fail; exact bodyPost_ret (by simp [results, Tryz.results66, go_sem, d0, d1, d2, d3, d4, d5, d6, d7]) rfl ⟨rfl, (by repeat (first | with_reducible assumption | with_reducible exact Below.refl _ _ | with_reducible refine bel_alloc ?_ _ | with_reducible refine bel_drew ?_ | with_reducible refine bel_set ?_ (by dsimp only; omega) _))⟩)
end Go.Proofs.YtigimkgmghjgoaaGreatDoor

/- The walk of Do (the document's answer). Conditions: code and registers lie in memory as read; lengths that an int holds. -/
import Derived.Test.YtigimkgmghjgoaaGreatDoorQV12
import Derived.Test.YtigimkgmghjgoaaGreatDoorQS14
namespace Go.Proofs.YtigimkgmghjgoaaGreatDoor
open Go.RowKit Go.MapKept Go.Maps
set_option linter.unusedVariables false

attribute [local go_sem high] eqI neqI eqV neqV
abbrev W5 (w : World) (a : Option Addr) (n c : Nat) (at' : Int) : World := ((W3 w a n c at').alloc zT).alloc zAc
/-- what lies in the two blocks behind them -/
structure Bx5 (w w' : World) : Prop where
  l : w'.cell? ⟨w.heap.size + 3, 0, none⟩ = some (.slice none 0 0) ∧ w'.cell? ⟨w.heap.size + 3, 1, none⟩ = some (.int .i64 0)
  a : w'.cell? ⟨w.heap.size + 4, 0, none⟩ = some (.int .i64 0) ∧ w'.cell? ⟨w.heap.size + 4, 1, none⟩ = some (.string ⟨#[]⟩) ∧ w'.cell? ⟨w.heap.size + 4, 2, none⟩ = some (.int .i64 0) ∧ w'.cell? ⟨w.heap.size + 4, 3, none⟩ = some (.int .i64 0) ∧ w'.cell? ⟨w.heap.size + 4, 4, none⟩ = some (.int .i64 0)
  size : w.heap.size + 5 ≤ w'.heap.size
theorem W5.three (w : World) (a : Option Addr) (n c : Nat) (at' : Int) : Below (W3 w a n c at').heap.size (W3 w a n c at') (W5 w a n c at') := bel_alloc (al _ _) _
theorem Bx5.of {w w' : World} {a : Option Addr} {n c : Nat} {at' : Int} (h : Below (W5 w a n c at').heap.size (W5 w a n c at') w') : Bx5 w w' := by
  have s3 : (W3 w a n c at').heap.size = w.heap.size + 3 := by simp
  have s4 : ((W3 w a n c at').alloc zT).heap.size = w.heap.size + 4 := by simp
  have s5 : (W5 w a n c at').heap.size = w.heap.size + 5 := by simp
  have b2 := al ((W3 w a n c at').alloc zT) zAc
  have h2 := heap_alloc_new (W3 w a n c at') zT
  have h3 := heap_alloc_new ((W3 w a n c at').alloc zT) zAc
  rw [s3] at h2; rw [s4] at h3
  have C2 : ∀ j, w'.cell? ⟨w.heap.size + 3, j, none⟩ = ((W3 w a n c at').alloc zT).cell? ⟨w.heap.size + 3, j, none⟩ := fun j => by
    rw [h.cell (p := ⟨w.heap.size + 3, j, none⟩) (by rw [s5]; dsimp only; omega), b2.cell (p := ⟨w.heap.size + 3, j, none⟩) (by rw [s4]; dsimp only; omega)]
  have C3 : ∀ j, w'.cell? ⟨w.heap.size + 4, j, none⟩ = (W5 w a n c at').cell? ⟨w.heap.size + 4, j, none⟩ := fun j => by
    rw [h.cell (p := ⟨w.heap.size + 4, j, none⟩) (by rw [s5]; dsimp only; omega)]
  refine ⟨⟨?_, ?_⟩, ⟨?_, ?_, ?_, ?_, ?_⟩, by have := h.size; rw [s5] at this; exact this⟩
  · rw [C2]; simp only [World.cell?, h2]; simp
  · rw [C2]; simp only [World.cell?, h2]; simp
  · rw [C3]; simp only [World.cell?, h3]; simp
  · rw [C3]; simp only [World.cell?, h3]; simp
  · rw [C3]; simp only [World.cell?, h3]; simp
  · rw [C3]; simp only [World.cell?, h3]; simp
  · rw [C3]; simp only [World.cell?, h3]; simp
set_option maxRecDepth 100000 in
set_option maxHeartbeats 3200000 in
theorem refDo_links (code : List Ins) (a : Option Addr) (c : Nat) (l : List Vl) (b : Option Addr) (cb : Nat) (at' : Int) (hL : ∀ i ∈ code, i.label.length ≤ 9223372036854775807) (he : (linksV code).2.1 ≠ 0) (w : World) (hI : Is w a code) :
    Calls Tryz.prog 26 #[.slice a code.length c, .agg #[.slice b l.length cb, .int .i64 at']] w (RetDo (doV code l at') w) := by
  have HD := hid (show doV code l at' = doE (linksV code).2.1 by unfold doV; rw [if_pos he])
  generalize doV code l at' = r at *
  have PL := fun (w : World) (hI : Is w a code) => refLinks code a c hL w hI
  have E0 := Below.refl (W5 w b l.length cb at').heap.size (W5 w b l.length cb at')
  have I3 := hI.below (Bx3.of ((W5.three w b l.length cb at').trans (E0.mono (W5.three w b l.length cb at').size))).bel
  obtain ⟨⟨L, x, y⟩, hr⟩ : ∃ r, linksV code = r := ⟨_, rfl⟩
  rw [hr] at PL he HD
  have PL := hid (show ∀ (w : World), Is w a code → Calls Tryz.prog 18 #[.slice a code.length c] w (RetL4 L x y w) from PL)
  have z1 : (x != 0) = true := by simpa using he
  have HD := hid (show r = doE x from HD.out)
  clear he hr hI hL
  generalize code.length = n at *
  generalize l.length = m at *
  have E3 := W5.three w b m cb at'
  go_enter Tryz.func26, Tryz.ntmps26
  go_wp2_with fail
  refine (PL.out _ I3).mono ?_
  rintro e w1 ⟨aA, cA, rfl, oA, E⟩
  obtain ⟨⟨g0, g1⟩, ⟨h0, h1, h2, h3, h4⟩, hsz5⟩ := Bx5.of E
  obtain ⟨⟨t0, t1⟩, ⟨l0, l1⟩, ⟨a0, a1, a2, a3, a4⟩, fl, fa, hsz, B⟩ := Bx3.of (E3.trans (E.mono E3.size))
  clear E oA I3 E3 E0
  go_wp2_with fail
  go_region
  all_goals
    go_wp2_with fail
    exact bodyPost_ret (by simp [results, Tryz.results26, go_sem, l0, l1, a0, a1, a2, a3, a4]) rfl (RetDo.err HD.out rfl (by repeat (first | with_reducible assumption | with_reducible exact Below.refl _ _ | with_reducible refine bel_alloc ?_ _ | with_reducible refine bel_drew ?_ | with_reducible refine bel_set ?_ (by dsimp only; omega) _)))
set_option maxRecDepth 100000 in
set_option maxHeartbeats 3200000 in
theorem refDo_unready (code : List Ins) (a : Option Addr) (c : Nat) (l : List Vl) (b : Option Addr) (cb : Nat) (at' : Int) (hL : ∀ i ∈ code, i.label.length ≤ 9223372036854775807) (hs : SmV l) (he : (linksV code).2.1 = 0) (hr : readyV code.length l at' = false) (w : World) (hI : Is w a code) (hV : Vs w b l) :
    Calls Tryz.prog 26 #[.slice a code.length c, .agg #[.slice b l.length cb, .int .i64 at']] w (RetDo (doV code l at') w) := by
  have HD := hid (show doV code l at' = doE 1 by unfold doV; rw [if_neg (by rw [he]; simp), if_pos hr])
  generalize doV code l at' = r at *
  have PL := fun (w : World) (hI : Is w a code) => refLinks code a c hL w hI
  have E0 := Below.refl (W5 w b l.length cb at').heap.size (W5 w b l.length cb at')
  have I3 := hI.below (Bx3.of ((W5.three w b l.length cb at').trans (E0.mono (W5.three w b l.length cb at').size))).bel
  have RD := fun (w : World) (hV : Vs w b l) => refIsThread code.length l b cb at' w hV hs
  rw [hr] at RD
  have RD := hid RD
  have HV := hid hV
  obtain ⟨⟨L, x, y⟩, hrr⟩ : ∃ r, linksV code = r := ⟨_, rfl⟩
  rw [hrr] at PL he
  have hx0 : x = 0 := he
  subst hx0
  have PL := hid (show ∀ (w : World), Is w a code → Calls Tryz.prog 18 #[.slice a code.length c] w (RetL4 L 0 y w) from PL)
  clear hrr hI hL hr hs hV he
  generalize code.length = n at *
  generalize l.length = m at *
  have E3 := W5.three w b m cb at'
  go_enter Tryz.func26, Tryz.ntmps26
  go_wp2_with fail
  refine (PL.out _ I3).mono ?_
  rintro e w1 ⟨aA, cA, rfl, oA, E⟩
  obtain ⟨⟨t0, t1⟩, -, -, -, -, hsz, B⟩ := Bx3.of (E3.trans (E.mono E3.size))
  have V1 := HV.out.below B
  clear oA I3 E0
  go_wp2_with fail
  refine (RD.out _ V1).mono ?_
  rintro e w2 ⟨rfl, E2⟩
  have E := E.trans (E2.mono E.size)
  clear t0 t1 hsz B
  obtain ⟨⟨g0, g1⟩, ⟨h0, h1, h2, h3, h4⟩, hsz5⟩ := Bx5.of E
  obtain ⟨⟨t0, t1⟩, ⟨l0, l1⟩, ⟨a0, a1, a2, a3, a4⟩, fl, fa, hsz, B⟩ := Bx3.of (E3.trans (E.mono E3.size))
  clear E E2 E3 V1
  go_wp2_with fail
  go_region
  all_goals
    go_wp2_with fail
    exact bodyPost_ret (by simp [results, Tryz.results26, go_sem, l0, l1, a0, a1, a2, a3, a4]) rfl (RetDo.err HD.out rfl (by repeat (first | with_reducible assumption | with_reducible exact Below.refl _ _ | with_reducible refine bel_alloc ?_ _ | with_reducible refine bel_drew ?_ | with_reducible refine bel_set ?_ (by dsimp only; omega) _)))
end Go.Proofs.YtigimkgmghjgoaaGreatDoor

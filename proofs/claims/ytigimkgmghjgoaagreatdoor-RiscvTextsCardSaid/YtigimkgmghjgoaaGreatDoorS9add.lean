/- The walk of operands (the document's answer) at add. Conditions: texts in memory as read, of lengths that an int holds. -/
import Derived.Test.YtigimkgmghjgoaaGreatDoorS9
import Derived.BigRegion
import Derived.StillTailTactics
namespace Go.Proofs.YtigimkgmghjgoaaGreatDoor
open Go.RowKit
set_option linter.unusedVariables false

set_option maxRecDepth 100000 in
set_option maxHeartbeats 12800000 in
theorem refOperands_add (l : List Tx) (a : Option Addr) (c : Nat) (w : World) (h : Txs w a l) (hs : Sm l) : Calls Tryz.prog 44 #[.string (tx [97, 100, 100]), .slice a l.length c] w (Rd (readI [97, 100, 100] l) w) := by
  have z0 : ((tx [97, 100, 100]).toList == [108, 119]) = false := by rw [tx_toList]; rfl
  have z1 : ((tx [97, 100, 100]).toList == [115, 119]) = false := by rw [tx_toList]; rfl
  have z2 : ((tx [97, 100, 100]).toList == [111, 114, 105]) = false := by rw [tx_toList]; rfl
  have z3 : ((tx [97, 100, 100]).toList == [120, 111, 114]) = false := by rw [tx_toList]; rfl
  have z4 : ((tx [97, 100, 100]).toList == [97, 100, 100]) = true := by rw [tx_toList]; rfl
  obtain ⟨r, hr⟩ : ∃ r, readI [97, 100, 100] l = r := ⟨_, rfl⟩
  rw [hr]
  have HR := hid hr
  obtain ⟨n, hn⟩ : ∃ n, l.length = n := ⟨_, rfl⟩
  have HN := hid hn
  have HS := hid hs
  have HT := hid h
  rw [hn]
  have O0 := OpsW.start w l
  have HX := hid (fun (k : Nat) (hk : k < n) => show ∃ t, l[k]? = some t from ⟨_, List.getElem?_eq_getElem (by omega)⟩)
  have hix := h.idx
  rw [hn] at hix
  have HI := hid hix
  have HB := hid (by have := h.len; omega : n ≤ 1000000000000000000)
  clear hr hn hs hix h
  go_enter Tryz.func44, Tryz.ntmps44
  go_wp2_with fail
  go_loopw [10] (fun i wr => ∃ k : Nat, k ≤ 3 ∧ k ≤ n ∧ i = .int .i64 k ∧ OpsW w wr l k) (fun i _ => 3 - (intOf i).toNat)
  case atStart => exact ⟨0, by omega, by omega, rfl, O0⟩
  case round =>
    clear O0
    obtain ⟨k, hk, hkn, rfl, O⟩ := hrel
    by_cases hlt : k < n ∧ k < 3
    · obtain ⟨hlt1, hlt2⟩ := hlt
      obtain ⟨t, ht⟩ := HX.out k hlt1
      have ix := HI.out k hlt1
      have ck := (HT.out.below O.bel).cellq ht
      have O2 := O.step hlt2 ht
      have hf2 := fun j => O.f (w.heap.size + 2) j (by omega) (by omega)
      have hf3 := fun j => O.f (w.heap.size + 3) j (by omega) (by omega)
      have hr0 := O.r 0 (by omega); have hr1 := O.r 1 (by omega); have hr2 := O.r 2 (by omega)
      have hs0 := O.s 0 (by omega); have hs1 := O.s 1 (by omega); have hs2 := O.s 2 (by omega)
      have hsz := O.size
      clear ht O
      have hk3 : k = 0 ∨ k = 1 ∨ k = 2 := by omega
      rcases hk3 with rfl | rfl | rfl
      · have ix0 : ∀ c w', (Instr.indexAt 67 (.slice a n c) (.int .i64 0)).run Tryz.prog w' = .ok (.pointer (some ⟨bk a, fo a, none⟩)) w' := ix
        have ck0 : wr.cell? ⟨bk a, fo a, none⟩ = some (.string (tx t)) := ck
        clear ix ck
        go_wp2_with (go_at_call 72; refine (refRegOf t _).mono ?_; rintro e w' ⟨rfl, rfl⟩)
        go_roundw
        case rel => exact ⟨_, by omega, by omega, by go_num, O2⟩
        case measure => simp [intOf] <;> omega
      · have ix0 : ∀ c w', (Instr.indexAt 67 (.slice a n c) (.int .i64 1)).run Tryz.prog w' = .ok (.pointer (some ⟨bk a, fo a + 1, none⟩)) w' := ix
        have ck0 : wr.cell? ⟨bk a, fo a + 1, none⟩ = some (.string (tx t)) := ck
        clear ix ck
        go_wp2_with (go_at_call 72; refine (refRegOf t _).mono ?_; rintro e w' ⟨rfl, rfl⟩)
        go_roundw
        case rel => exact ⟨_, by omega, by omega, by go_num, O2⟩
        case measure => simp [intOf] <;> omega
      · have ix0 : ∀ c w', (Instr.indexAt 67 (.slice a n c) (.int .i64 2)).run Tryz.prog w' = .ok (.pointer (some ⟨bk a, fo a + 2, none⟩)) w' := ix
        have ck0 : wr.cell? ⟨bk a, fo a + 2, none⟩ = some (.string (tx t)) := ck
        clear ix ck
        go_wp2_with (go_at_call 72; refine (refRegOf t _).mono ?_; rintro e w' ⟨rfl, rfl⟩)
        go_roundw
        case rel => exact ⟨_, by omega, by omega, by go_num, O2⟩
        case measure => simp [intOf] <;> omega
    · have hend : n ≤ k ∨ (k = 3 ∧ 3 < n) := by omega
      have B := O.bel
      have hsz := O.size
      have hf0 := fun j => O.f w.heap.size j (by omega) (by omega)
      clear hlt
      rcases hend with hge | ⟨rfl, h3n⟩
      · have hkn2 : k = n := by omega
        by_cases h2 : n = 3
        · obtain ⟨x, y, u, rfl⟩ := len3 (HN.out.trans h2)
          subst h2
          obtain rfl : k = 3 := hkn2
          have r0 : wr.cell? ⟨w.heap.size + 2, 0, none⟩ = some (.int .i64 (regN x)) := O.r 0 (by omega)
          have s0 : wr.cell? ⟨w.heap.size + 3, 0, none⟩ = some (.bool (regE x == 0)) := O.s 0 (by omega)
          rw [regN_opt x] at r0; rw [regE_opt x] at s0
          have r1 : wr.cell? ⟨w.heap.size + 2, 1, none⟩ = some (.int .i64 (regN y)) := O.r 1 (by omega)
          have s1 : wr.cell? ⟨w.heap.size + 3, 1, none⟩ = some (.bool (regE y == 0)) := O.s 1 (by omega)
          rw [regN_opt y] at r1; rw [regE_opt y] at s1
          have r2 : wr.cell? ⟨w.heap.size + 2, 2, none⟩ = some (.int .i64 (regN u)) := O.r 2 (by omega)
          have s2 : wr.cell? ⟨w.heap.size + 3, 2, none⟩ = some (.bool (regE u == 0)) := O.s 2 (by omega)
          rw [regN_opt u] at r2; rw [regE_opt u] at s2
          have hq := HR.out
          rw [read_3 _ _ _ (by decide) (by decide) (by decide)] at hq
          cases hx : regOf x with
          | none =>
            rw [hx] at r0 s0 hq
            have HQ := hid (show ∀ i, keepI i false = r from fun i => hq)
            clear hx hq
            generalize regOf y = o2 at *
            generalize regOf u = o3 at *
            have d0 : wr.cell? ⟨w.heap.size, 0, none⟩ = some (.int .i64 0) := O.i0 0 (by omega)
            have d1 : wr.cell? ⟨w.heap.size, 1, none⟩ = some (.int .i64 0) := O.i0 1 (by omega)
            have d2 : wr.cell? ⟨w.heap.size, 2, none⟩ = some (.int .i64 0) := O.i0 2 (by omega)
            have d3 : wr.cell? ⟨w.heap.size, 3, none⟩ = some (.int .i64 0) := O.i0 3 (by omega)
            have d4 : wr.cell? ⟨w.heap.size, 4, none⟩ = some (.int .i64 0) := O.i0 4 (by omega)
            have d5 : wr.cell? ⟨w.heap.size, 5, none⟩ = some (.string ⟨#[]⟩) := O.i0 5 (by omega)
            have d6 : wr.cell? ⟨w.heap.size, 6, none⟩ = some (.string ⟨#[]⟩) := O.i0 6 (by omega)
            have d7 : wr.cell? ⟨w.heap.size, 7, none⟩ = some (.int .i64 0) := O.i0 7 (by omega)
            clear O
            go_wp2_with fail
            go_big_region
            go_wp2_with fail
            exact bodyPost_ret (by simp [results, Tryz.results44, go_sem, d0, d1, d2, d3, d4, d5, d6, d7]) rfl (Rd.of ⟨rfl, (by repeat (first | with_reducible assumption | with_reducible exact Below.refl _ _ | with_reducible refine bel_alloc ?_ _ | with_reducible refine bel_drew ?_ | with_reducible refine bel_set ?_ (by dsimp only; omega) _))⟩ (HQ.out ⟨10, optN none, optN o2, optN o3, 0, [], [], 0⟩))
          | some d =>
            rw [hx] at r0 s0 hq
            cases hy : regOf y with
            | none =>
              rw [hy] at r1 s1 hq
              have HQ := hid (show ∀ i, keepI i false = r from fun i => hq)
              clear hx hy hq
              generalize regOf u = o3 at *
              have d0 : wr.cell? ⟨w.heap.size, 0, none⟩ = some (.int .i64 0) := O.i0 0 (by omega)
              have d1 : wr.cell? ⟨w.heap.size, 1, none⟩ = some (.int .i64 0) := O.i0 1 (by omega)
              have d2 : wr.cell? ⟨w.heap.size, 2, none⟩ = some (.int .i64 0) := O.i0 2 (by omega)
              have d3 : wr.cell? ⟨w.heap.size, 3, none⟩ = some (.int .i64 0) := O.i0 3 (by omega)
              have d4 : wr.cell? ⟨w.heap.size, 4, none⟩ = some (.int .i64 0) := O.i0 4 (by omega)
              have d5 : wr.cell? ⟨w.heap.size, 5, none⟩ = some (.string ⟨#[]⟩) := O.i0 5 (by omega)
              have d6 : wr.cell? ⟨w.heap.size, 6, none⟩ = some (.string ⟨#[]⟩) := O.i0 6 (by omega)
              have d7 : wr.cell? ⟨w.heap.size, 7, none⟩ = some (.int .i64 0) := O.i0 7 (by omega)
              clear O
              go_wp2_with fail
              go_big_region
              go_wp2_with fail
              exact bodyPost_ret (by simp [results, Tryz.results44, go_sem, d0, d1, d2, d3, d4, d5, d6, d7]) rfl (Rd.of ⟨rfl, (by repeat (first | with_reducible assumption | with_reducible exact Below.refl _ _ | with_reducible refine bel_alloc ?_ _ | with_reducible refine bel_drew ?_ | with_reducible refine bel_set ?_ (by dsimp only; omega) _))⟩ (HQ.out ⟨10, optN (some d), optN none, optN o3, 0, [], [], 0⟩))
            | some q2 =>
              rw [hy] at r1 s1 hq
              replace r0 : wr.cell? ⟨w.heap.size + 2, 0, none⟩ = some (.int .i64 (d : Int)) := r0
              replace r1 : wr.cell? ⟨w.heap.size + 2, 1, none⟩ = some (.int .i64 (q2 : Int)) := r1
              have HK := hid ((keep_three (op := 10) (by decide) (regOf_lt _ hx) (regOf_lt _ hy) (o := regOf u) regOf_lt).trans (show _ = r by rw [← hq]; cases regOf u <;> rfl))
              clear hx hy hq
              generalize regOf u = o3 at *
              have d0 : wr.cell? ⟨w.heap.size, 0, none⟩ = some (.int .i64 0) := O.i0 0 (by omega)
              have d1 : wr.cell? ⟨w.heap.size, 1, none⟩ = some (.int .i64 0) := O.i0 1 (by omega)
              have d2 : wr.cell? ⟨w.heap.size, 2, none⟩ = some (.int .i64 0) := O.i0 2 (by omega)
              have d3 : wr.cell? ⟨w.heap.size, 3, none⟩ = some (.int .i64 0) := O.i0 3 (by omega)
              have d4 : wr.cell? ⟨w.heap.size, 4, none⟩ = some (.int .i64 0) := O.i0 4 (by omega)
              have d5 : wr.cell? ⟨w.heap.size, 5, none⟩ = some (.string ⟨#[]⟩) := O.i0 5 (by omega)
              have d6 : wr.cell? ⟨w.heap.size, 6, none⟩ = some (.string ⟨#[]⟩) := O.i0 6 (by omega)
              have d7 : wr.cell? ⟨w.heap.size, 7, none⟩ = some (.int .i64 0) := O.i0 7 (by omega)
              clear O
              go_wp2_with fail
              go_big_region
              go_wp2_with fail
              exact bodyPost_ret (by simp [results, Tryz.results44, go_sem, d0, d1, d2, d3, d4, d5, d6, d7]) rfl (Rd.of ⟨rfl, (by repeat (first | with_reducible assumption | with_reducible exact Below.refl _ _ | with_reducible refine bel_alloc ?_ _ | with_reducible refine bel_drew ?_ | with_reducible refine bel_set ?_ (by dsimp only; omega) _))⟩ HK.out)
        · have z : ((n : Int) == 3) = false := by simp; omega
          have HL := hid (show l.length ≠ 3 by have := HN.out; omega)
          have HQ := hid (show ∀ i, keepI i false = r from fun i => ((HR.out.symm.trans (read_3no (by decide) (by decide) (by decide) HL.out)).symm))
          clear h2
          have r0 := O.r 0 (by omega)
          have s0 := O.s 0 (by omega)
          generalize gR l k 0 = g0 at r0
          generalize gS l k 0 = b0 at s0
          have r1 := O.r 1 (by omega)
          have s1 := O.s 1 (by omega)
          generalize gR l k 1 = g1 at r1
          generalize gS l k 1 = b1 at s1
          have r2 := O.r 2 (by omega)
          have s2 := O.s 2 (by omega)
          generalize gR l k 2 = g2 at r2
          generalize gS l k 2 = b2 at s2
          have d0 : wr.cell? ⟨w.heap.size, 0, none⟩ = some (.int .i64 0) := O.i0 0 (by omega)
          have d1 : wr.cell? ⟨w.heap.size, 1, none⟩ = some (.int .i64 0) := O.i0 1 (by omega)
          have d2 : wr.cell? ⟨w.heap.size, 2, none⟩ = some (.int .i64 0) := O.i0 2 (by omega)
          have d3 : wr.cell? ⟨w.heap.size, 3, none⟩ = some (.int .i64 0) := O.i0 3 (by omega)
          have d4 : wr.cell? ⟨w.heap.size, 4, none⟩ = some (.int .i64 0) := O.i0 4 (by omega)
          have d5 : wr.cell? ⟨w.heap.size, 5, none⟩ = some (.string ⟨#[]⟩) := O.i0 5 (by omega)
          have d6 : wr.cell? ⟨w.heap.size, 6, none⟩ = some (.string ⟨#[]⟩) := O.i0 6 (by omega)
          have d7 : wr.cell? ⟨w.heap.size, 7, none⟩ = some (.int .i64 0) := O.i0 7 (by omega)
          clear O
          go_wp2_with fail
          go_big_region
          go_wp2_with fail
          exact bodyPost_ret (by simp [results, Tryz.results44, go_sem, d0, d1, d2, d3, d4, d5, d6, d7]) rfl (Rd.of ⟨rfl, (by repeat (first | with_reducible assumption | with_reducible exact Below.refl _ _ | with_reducible refine bel_alloc ?_ _ | with_reducible refine bel_drew ?_ | with_reducible refine bel_set ?_ (by dsimp only; omega) _))⟩ (HQ.out ⟨10, g0, g1, g2, 0, [], [], 0⟩))
      · have z : ((n : Int) == 3) = false := by simp; omega
        have HL := hid (show l.length ≠ 3 by have := HN.out; omega)
        have HQ := hid (show ∀ i, keepI i false = r from fun i => ((HR.out.symm.trans (read_3no (by decide) (by decide) (by decide) HL.out)).symm))
        have r0 := O.r 0 (by omega)
        have s0 := O.s 0 (by omega)
        generalize gR l 3 0 = g0 at r0
        generalize gS l 3 0 = b0 at s0
        have r1 := O.r 1 (by omega)
        have s1 := O.s 1 (by omega)
        generalize gR l 3 1 = g1 at r1
        generalize gS l 3 1 = b1 at s1
        have r2 := O.r 2 (by omega)
        have s2 := O.s 2 (by omega)
        generalize gR l 3 2 = g2 at r2
        generalize gS l 3 2 = b2 at s2
        have d0 : wr.cell? ⟨w.heap.size, 0, none⟩ = some (.int .i64 0) := O.i0 0 (by omega)
        have d1 : wr.cell? ⟨w.heap.size, 1, none⟩ = some (.int .i64 0) := O.i0 1 (by omega)
        have d2 : wr.cell? ⟨w.heap.size, 2, none⟩ = some (.int .i64 0) := O.i0 2 (by omega)
        have d3 : wr.cell? ⟨w.heap.size, 3, none⟩ = some (.int .i64 0) := O.i0 3 (by omega)
        have d4 : wr.cell? ⟨w.heap.size, 4, none⟩ = some (.int .i64 0) := O.i0 4 (by omega)
        have d5 : wr.cell? ⟨w.heap.size, 5, none⟩ = some (.string ⟨#[]⟩) := O.i0 5 (by omega)
        have d6 : wr.cell? ⟨w.heap.size, 6, none⟩ = some (.string ⟨#[]⟩) := O.i0 6 (by omega)
        have d7 : wr.cell? ⟨w.heap.size, 7, none⟩ = some (.int .i64 0) := O.i0 7 (by omega)
        clear O
        go_wp2_with fail
        go_big_region
        go_wp2_with fail
        exact bodyPost_ret (by simp [results, Tryz.results44, go_sem, d0, d1, d2, d3, d4, d5, d6, d7]) rfl (Rd.of ⟨rfl, (by repeat (first | with_reducible assumption | with_reducible exact Below.refl _ _ | with_reducible refine bel_alloc ?_ _ | with_reducible refine bel_drew ?_ | with_reducible refine bel_set ?_ (by dsimp only; omega) _))⟩ (HQ.out ⟨10, g0, g1, g2, 0, [], [], 0⟩))
end Go.Proofs.YtigimkgmghjgoaaGreatDoor

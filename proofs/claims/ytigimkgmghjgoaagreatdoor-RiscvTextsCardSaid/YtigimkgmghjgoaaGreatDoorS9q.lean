/- The walk of operands (the document's answer) at lw, sw, ori, fence and all others. Conditions: texts in memory as read, of lengths that an int holds. -/
import Derived.Test.YtigimkgmghjgoaaGreatDoorS9
import Derived.BigRegion
import Derived.StillTailTactics
namespace Go.Proofs.YtigimkgmghjgoaaGreatDoor
open Go.RowKit
set_option linter.unusedVariables false

set_option maxRecDepth 100000 in
set_option maxHeartbeats 12800000 in
theorem refOperands_lw (l : List Tx) (a : Option Addr) (c : Nat) (w : World) (h : Txs w a l) (hs : Sm l) : Calls Tryz.prog 44 #[.string (tx [108, 119]), .slice a l.length c] w (Rd (readI [108, 119] l) w) := by
  have z0 : ((tx [108, 119]).toList == [108, 119]) = true := by rw [tx_toList]; rfl
  obtain ⟨r, hr⟩ : ∃ r, readI [108, 119] l = r := ⟨_, rfl⟩
  rw [hr]
  have HR := hid hr
  obtain ⟨n, hn⟩ : ∃ n, l.length = n := ⟨_, rfl⟩
  have HN := hid hn
  have HS := hid hs
  have HT := hid h
  rw [hn]
  have O0 := OpsW.start w l
  have HX := hid (fun (k : Nat) (hk : k < n) => show ∃ t, l[k]? = some t from ⟨_, List.getElem?_eq_getElem (by omega)⟩)
  have hix := h.idx
  rw [hn] at hix
  have HI := hid hix
  have HB := hid (by have := h.len; omega : n ≤ 1000000000000000000)
  clear hr hn hs hix h
  go_enter Tryz.func44, Tryz.ntmps44
  go_wp2_with fail
  go_loopw [10] (fun i wr => ∃ k : Nat, k ≤ 3 ∧ k ≤ n ∧ i = .int .i64 k ∧ OpsW w wr l k) (fun i _ => 3 - (intOf i).toNat)
  case atStart => exact ⟨0, by omega, by omega, rfl, O0⟩
  case round =>
    clear O0
    obtain ⟨k, hk, hkn, rfl, O⟩ := hrel
    by_cases hlt : k < n ∧ k < 3
    · obtain ⟨hlt1, hlt2⟩ := hlt
      obtain ⟨t, ht⟩ := HX.out k hlt1
      have ix := HI.out k hlt1
      have ck := (HT.out.below O.bel).cellq ht
      have O2 := O.step hlt2 ht
      have hf2 := fun j => O.f (w.heap.size + 2) j (by omega) (by omega)
      have hf3 := fun j => O.f (w.heap.size + 3) j (by omega) (by omega)
      have hr0 := O.r 0 (by omega); have hr1 := O.r 1 (by omega); have hr2 := O.r 2 (by omega)
      have hs0 := O.s 0 (by omega); have hs1 := O.s 1 (by omega); have hs2 := O.s 2 (by omega)
      have hsz := O.size
      clear ht O
      have hk3 : k = 0 ∨ k = 1 ∨ k = 2 := by omega
      rcases hk3 with rfl | rfl | rfl
      · have ix0 : ∀ c w', (Instr.indexAt 67 (.slice a n c) (.int .i64 0)).run Tryz.prog w' = .ok (.pointer (some ⟨bk a, fo a, none⟩)) w' := ix
        have ck0 : wr.cell? ⟨bk a, fo a, none⟩ = some (.string (tx t)) := ck
        clear ix ck
        go_wp2_with (go_at_call 72; refine (refRegOf t _).mono ?_; rintro e w' ⟨rfl, rfl⟩)
        go_roundw
        case rel => exact ⟨_, by omega, by omega, by go_num, O2⟩
        case measure => simp [intOf] <;> omega
      · have ix0 : ∀ c w', (Instr.indexAt 67 (.slice a n c) (.int .i64 1)).run Tryz.prog w' = .ok (.pointer (some ⟨bk a, fo a + 1, none⟩)) w' := ix
        have ck0 : wr.cell? ⟨bk a, fo a + 1, none⟩ = some (.string (tx t)) := ck
        clear ix ck
        go_wp2_with (go_at_call 72; refine (refRegOf t _).mono ?_; rintro e w' ⟨rfl, rfl⟩)
        go_roundw
        case rel => exact ⟨_, by omega, by omega, by go_num, O2⟩
        case measure => simp [intOf] <;> omega
      · have ix0 : ∀ c w', (Instr.indexAt 67 (.slice a n c) (.int .i64 2)).run Tryz.prog w' = .ok (.pointer (some ⟨bk a, fo a + 2, none⟩)) w' := ix
        have ck0 : wr.cell? ⟨bk a, fo a + 2, none⟩ = some (.string (tx t)) := ck
        clear ix ck
        go_wp2_with (go_at_call 72; refine (refRegOf t _).mono ?_; rintro e w' ⟨rfl, rfl⟩)
        go_roundw
        case rel => exact ⟨_, by omega, by omega, by go_num, O2⟩
        case measure => simp [intOf] <;> omega
    · have hend : n ≤ k ∨ (k = 3 ∧ 3 < n) := by omega
      have B := O.bel
      have hsz := O.size
      have hf0 := fun j => O.f w.heap.size j (by omega) (by omega)
      clear hlt
      rcases hend with hge | ⟨rfl, h3n⟩
      · have hkn2 : k = n := by omega
        by_cases h2 : n = 2
        · obtain ⟨x, y, rfl⟩ := len2 (HN.out.trans h2)
          subst h2
          obtain rfl : k = 2 := hkn2
          have r0 : wr.cell? ⟨w.heap.size + 2, 0, none⟩ = some (.int .i64 (regN x)) := O.r 0 (by omega)
          have s0 : wr.cell? ⟨w.heap.size + 3, 0, none⟩ = some (.bool (regE x == 0)) := O.s 0 (by omega)
          rw [regN_opt x] at r0; rw [regE_opt x] at s0
          have hq := HR.out
          rw [read_lw2] at hq
          cases hx : regOf x with
          | none =>
            rw [hx] at r0 s0 hq
            have hq2 := hid hq
            clear hx hq
            have d0 : wr.cell? ⟨w.heap.size, 0, none⟩ = some (.int .i64 0) := O.i0 0 (by omega)
            have d1 : wr.cell? ⟨w.heap.size, 1, none⟩ = some (.int .i64 0) := O.i0 1 (by omega)
            have d2 : wr.cell? ⟨w.heap.size, 2, none⟩ = some (.int .i64 0) := O.i0 2 (by omega)
            have d3 : wr.cell? ⟨w.heap.size, 3, none⟩ = some (.int .i64 0) := O.i0 3 (by omega)
            have d4 : wr.cell? ⟨w.heap.size, 4, none⟩ = some (.int .i64 0) := O.i0 4 (by omega)
            have d5 : wr.cell? ⟨w.heap.size, 5, none⟩ = some (.string ⟨#[]⟩) := O.i0 5 (by omega)
            have d6 : wr.cell? ⟨w.heap.size, 6, none⟩ = some (.string ⟨#[]⟩) := O.i0 6 (by omega)
            have d7 : wr.cell? ⟨w.heap.size, 7, none⟩ = some (.int .i64 0) := O.i0 7 (by omega)
            have e0 : wr.cell? ⟨w.heap.size + 1, 0, none⟩ = some (.int .i64 0) := O.i1 0 (by omega)
            have e1 : wr.cell? ⟨w.heap.size + 1, 1, none⟩ = some (.int .i64 0) := O.i1 1 (by omega)
            have e2 : wr.cell? ⟨w.heap.size + 1, 2, none⟩ = some (.int .i64 0) := O.i1 2 (by omega)
            have e3 : wr.cell? ⟨w.heap.size + 1, 3, none⟩ = some (.int .i64 0) := O.i1 3 (by omega)
            have e4 : wr.cell? ⟨w.heap.size + 1, 4, none⟩ = some (.int .i64 0) := O.i1 4 (by omega)
            have e5 : wr.cell? ⟨w.heap.size + 1, 5, none⟩ = some (.string ⟨#[]⟩) := O.i1 5 (by omega)
            have e6 : wr.cell? ⟨w.heap.size + 1, 6, none⟩ = some (.string ⟨#[]⟩) := O.i1 6 (by omega)
            have e7 : wr.cell? ⟨w.heap.size + 1, 7, none⟩ = some (.int .i64 0) := O.i1 7 (by omega)
            have HQ := hid (show r = none from hq2.out.symm)
            have HK := hid (show keepI ⟨0, 0, 0, 0, 0, [], [], 0⟩ false = r from HQ.out.symm)
            clear O HQ
            go_wp2_with fail
            exact bodyPost_ret (by simp [results, Tryz.results44, go_sem, d0, d1, d2, d3, d4, d5, d6, d7]) rfl (Rd.of ⟨rfl, (by repeat (first | with_reducible assumption | with_reducible exact Below.refl _ _ | with_reducible refine bel_alloc ?_ _ | with_reducible refine bel_drew ?_ | with_reducible refine bel_set ?_ (by dsimp only; omega) _))⟩ HK.out)
          | some d =>
            rw [hx] at r0 s0 hq
            have HK := hid ((keep_lw (o1 := some d) (o2 := addrT y) (fun n hn => regOf_lt n (hx.trans hn)) addrT_lt').trans hq)
            have c1 : wr.cell? ⟨bk a, fo a + 1, none⟩ = some (.string (tx y)) := (HT.out.below O.bel).cell 1 (by simp)
            have j1 : ∀ c w', (Instr.indexAt 67 (.slice a 2 c) (.int .i64 1)).run Tryz.prog w' = .ok (.pointer (some ⟨bk a, fo a + 1, none⟩)) w' := HI.out 1 (by omega)
            have PL := hid (fun w => refPlace y (HS.out y (by simp)) w)
            clear hx hq
            generalize addrT y = o2 at *
            go_wp2_with fail
            refine (PL.out _).mono ?_
            rintro e w2 ⟨rfl, E2⟩
            have r0 := (E2.cell (p := ⟨w.heap.size + 2, 0, none⟩) (by dsimp only; omega)).trans r0
            have O := O.below E2
            have B := O.bel
            have hsz := O.size
            have hf0 := fun j => O.f w.heap.size j (by omega) (by omega)
            have d0 : w2.cell? ⟨w.heap.size, 0, none⟩ = some (.int .i64 0) := O.i0 0 (by omega)
            have d1 : w2.cell? ⟨w.heap.size, 1, none⟩ = some (.int .i64 0) := O.i0 1 (by omega)
            have d2 : w2.cell? ⟨w.heap.size, 2, none⟩ = some (.int .i64 0) := O.i0 2 (by omega)
            have d3 : w2.cell? ⟨w.heap.size, 3, none⟩ = some (.int .i64 0) := O.i0 3 (by omega)
            have d4 : w2.cell? ⟨w.heap.size, 4, none⟩ = some (.int .i64 0) := O.i0 4 (by omega)
            have d5 : w2.cell? ⟨w.heap.size, 5, none⟩ = some (.string ⟨#[]⟩) := O.i0 5 (by omega)
            have d6 : w2.cell? ⟨w.heap.size, 6, none⟩ = some (.string ⟨#[]⟩) := O.i0 6 (by omega)
            have d7 : w2.cell? ⟨w.heap.size, 7, none⟩ = some (.int .i64 0) := O.i0 7 (by omega)
            clear O E2 c1
            go_wp2_with fail
            exact bodyPost_ret (by simp [results, Tryz.results44, go_sem, d0, d1, d2, d3, d4, d5, d6, d7]) rfl (Rd.of ⟨rfl, (by repeat (first | with_reducible assumption | with_reducible exact Below.refl _ _ | with_reducible refine bel_alloc ?_ _ | with_reducible refine bel_drew ?_ | with_reducible refine bel_set ?_ (by dsimp only; omega) _))⟩ HK.out)
        · have z : ((n : Int) != 2) = true := by simp; omega
          have HL := hid (show l.length ≠ 2 by have := HN.out; omega)
          clear h2
          have d0 : wr.cell? ⟨w.heap.size, 0, none⟩ = some (.int .i64 0) := O.i0 0 (by omega)
          have d1 : wr.cell? ⟨w.heap.size, 1, none⟩ = some (.int .i64 0) := O.i0 1 (by omega)
          have d2 : wr.cell? ⟨w.heap.size, 2, none⟩ = some (.int .i64 0) := O.i0 2 (by omega)
          have d3 : wr.cell? ⟨w.heap.size, 3, none⟩ = some (.int .i64 0) := O.i0 3 (by omega)
          have d4 : wr.cell? ⟨w.heap.size, 4, none⟩ = some (.int .i64 0) := O.i0 4 (by omega)
          have d5 : wr.cell? ⟨w.heap.size, 5, none⟩ = some (.string ⟨#[]⟩) := O.i0 5 (by omega)
          have d6 : wr.cell? ⟨w.heap.size, 6, none⟩ = some (.string ⟨#[]⟩) := O.i0 6 (by omega)
          have d7 : wr.cell? ⟨w.heap.size, 7, none⟩ = some (.int .i64 0) := O.i0 7 (by omega)
          have e0 : wr.cell? ⟨w.heap.size + 1, 0, none⟩ = some (.int .i64 0) := O.i1 0 (by omega)
          have e1 : wr.cell? ⟨w.heap.size + 1, 1, none⟩ = some (.int .i64 0) := O.i1 1 (by omega)
          have e2 : wr.cell? ⟨w.heap.size + 1, 2, none⟩ = some (.int .i64 0) := O.i1 2 (by omega)
          have e3 : wr.cell? ⟨w.heap.size + 1, 3, none⟩ = some (.int .i64 0) := O.i1 3 (by omega)
          have e4 : wr.cell? ⟨w.heap.size + 1, 4, none⟩ = some (.int .i64 0) := O.i1 4 (by omega)
          have e5 : wr.cell? ⟨w.heap.size + 1, 5, none⟩ = some (.string ⟨#[]⟩) := O.i1 5 (by omega)
          have e6 : wr.cell? ⟨w.heap.size + 1, 6, none⟩ = some (.string ⟨#[]⟩) := O.i1 6 (by omega)
          have e7 : wr.cell? ⟨w.heap.size + 1, 7, none⟩ = some (.int .i64 0) := O.i1 7 (by omega)
          have HQ := hid (show r = none from HR.out.symm.trans (read_lw_no HL.out))
          have HK := hid (show keepI ⟨0, 0, 0, 0, 0, [], [], 0⟩ false = r from HQ.out.symm)
          clear O HQ
          go_wp2_with fail
          exact bodyPost_ret (by simp [results, Tryz.results44, go_sem, d0, d1, d2, d3, d4, d5, d6, d7]) rfl (Rd.of ⟨rfl, (by repeat (first | with_reducible assumption | with_reducible exact Below.refl _ _ | with_reducible refine bel_alloc ?_ _ | with_reducible refine bel_drew ?_ | with_reducible refine bel_set ?_ (by dsimp only; omega) _))⟩ HK.out)
      · have z : ((n : Int) != 2) = true := by simp; omega
        have HL := hid (show l.length ≠ 2 by have := HN.out; omega)
        have d0 : wr.cell? ⟨w.heap.size, 0, none⟩ = some (.int .i64 0) := O.i0 0 (by omega)
        have d1 : wr.cell? ⟨w.heap.size, 1, none⟩ = some (.int .i64 0) := O.i0 1 (by omega)
        have d2 : wr.cell? ⟨w.heap.size, 2, none⟩ = some (.int .i64 0) := O.i0 2 (by omega)
        have d3 : wr.cell? ⟨w.heap.size, 3, none⟩ = some (.int .i64 0) := O.i0 3 (by omega)
        have d4 : wr.cell? ⟨w.heap.size, 4, none⟩ = some (.int .i64 0) := O.i0 4 (by omega)
        have d5 : wr.cell? ⟨w.heap.size, 5, none⟩ = some (.string ⟨#[]⟩) := O.i0 5 (by omega)
        have d6 : wr.cell? ⟨w.heap.size, 6, none⟩ = some (.string ⟨#[]⟩) := O.i0 6 (by omega)
        have d7 : wr.cell? ⟨w.heap.size, 7, none⟩ = some (.int .i64 0) := O.i0 7 (by omega)
        have e0 : wr.cell? ⟨w.heap.size + 1, 0, none⟩ = some (.int .i64 0) := O.i1 0 (by omega)
        have e1 : wr.cell? ⟨w.heap.size + 1, 1, none⟩ = some (.int .i64 0) := O.i1 1 (by omega)
        have e2 : wr.cell? ⟨w.heap.size + 1, 2, none⟩ = some (.int .i64 0) := O.i1 2 (by omega)
        have e3 : wr.cell? ⟨w.heap.size + 1, 3, none⟩ = some (.int .i64 0) := O.i1 3 (by omega)
        have e4 : wr.cell? ⟨w.heap.size + 1, 4, none⟩ = some (.int .i64 0) := O.i1 4 (by omega)
        have e5 : wr.cell? ⟨w.heap.size + 1, 5, none⟩ = some (.string ⟨#[]⟩) := O.i1 5 (by omega)
        have e6 : wr.cell? ⟨w.heap.size + 1, 6, none⟩ = some (.string ⟨#[]⟩) := O.i1 6 (by omega)
        have e7 : wr.cell? ⟨w.heap.size + 1, 7, none⟩ = some (.int .i64 0) := O.i1 7 (by omega)
        have HQ := hid (show r = none from HR.out.symm.trans (read_lw_no HL.out))
        have HK := hid (show keepI ⟨0, 0, 0, 0, 0, [], [], 0⟩ false = r from HQ.out.symm)
        clear O HQ
        go_wp2_with fail
        exact bodyPost_ret (by simp [results, Tryz.results44, go_sem, d0, d1, d2, d3, d4, d5, d6, d7]) rfl (Rd.of ⟨rfl, (by repeat (first | with_reducible assumption | with_reducible exact Below.refl _ _ | with_reducible refine bel_alloc ?_ _ | with_reducible refine bel_drew ?_ | with_reducible refine bel_set ?_ (by dsimp only; omega) _))⟩ HK.out)

set_option maxRecDepth 100000 in
set_option maxHeartbeats 12800000 in
theorem refOperands_sw (l : List Tx) (a : Option Addr) (c : Nat) (w : World) (h : Txs w a l) (hs : Sm l) : Calls Tryz.prog 44 #[.string (tx [115, 119]), .slice a l.length c] w (Rd (readI [115, 119] l) w) := by
  have z0 : ((tx [115, 119]).toList == [108, 119]) = false := by rw [tx_toList]; rfl
  have z1 : ((tx [115, 119]).toList == [115, 119]) = true := by rw [tx_toList]; rfl
  obtain ⟨r, hr⟩ : ∃ r, readI [115, 119] l = r := ⟨_, rfl⟩
  rw [hr]
  have HR := hid hr
  obtain ⟨n, hn⟩ : ∃ n, l.length = n := ⟨_, rfl⟩
  have HN := hid hn
  have HS := hid hs
  have HT := hid h
  rw [hn]
  have O0 := OpsW.start w l
  have HX := hid (fun (k : Nat) (hk : k < n) => show ∃ t, l[k]? = some t from ⟨_, List.getElem?_eq_getElem (by omega)⟩)
  have hix := h.idx
  rw [hn] at hix
  have HI := hid hix
  have HB := hid (by have := h.len; omega : n ≤ 1000000000000000000)
  clear hr hn hs hix h
  go_enter Tryz.func44, Tryz.ntmps44
  go_wp2_with fail
  go_loopw [10] (fun i wr => ∃ k : Nat, k ≤ 3 ∧ k ≤ n ∧ i = .int .i64 k ∧ OpsW w wr l k) (fun i _ => 3 - (intOf i).toNat)
  case atStart => exact ⟨0, by omega, by omega, rfl, O0⟩
  case round =>
    clear O0
    obtain ⟨k, hk, hkn, rfl, O⟩ := hrel
    by_cases hlt : k < n ∧ k < 3
    · obtain ⟨hlt1, hlt2⟩ := hlt
      obtain ⟨t, ht⟩ := HX.out k hlt1
      have ix := HI.out k hlt1
      have ck := (HT.out.below O.bel).cellq ht
      have O2 := O.step hlt2 ht
      have hf2 := fun j => O.f (w.heap.size + 2) j (by omega) (by omega)
      have hf3 := fun j => O.f (w.heap.size + 3) j (by omega) (by omega)
      have hr0 := O.r 0 (by omega); have hr1 := O.r 1 (by omega); have hr2 := O.r 2 (by omega)
      have hs0 := O.s 0 (by omega); have hs1 := O.s 1 (by omega); have hs2 := O.s 2 (by omega)
      have hsz := O.size
      clear ht O
      have hk3 : k = 0 ∨ k = 1 ∨ k = 2 := by omega
      rcases hk3 with rfl | rfl | rfl
      · have ix0 : ∀ c w', (Instr.indexAt 67 (.slice a n c) (.int .i64 0)).run Tryz.prog w' = .ok (.pointer (some ⟨bk a, fo a, none⟩)) w' := ix
        have ck0 : wr.cell? ⟨bk a, fo a, none⟩ = some (.string (tx t)) := ck
        clear ix ck
        go_wp2_with (go_at_call 72; refine (refRegOf t _).mono ?_; rintro e w' ⟨rfl, rfl⟩)
        go_roundw
        case rel => exact ⟨_, by omega, by omega, by go_num, O2⟩
        case measure => simp [intOf] <;> omega
      · have ix0 : ∀ c w', (Instr.indexAt 67 (.slice a n c) (.int .i64 1)).run Tryz.prog w' = .ok (.pointer (some ⟨bk a, fo a + 1, none⟩)) w' := ix
        have ck0 : wr.cell? ⟨bk a, fo a + 1, none⟩ = some (.string (tx t)) := ck
        clear ix ck
        go_wp2_with (go_at_call 72; refine (refRegOf t _).mono ?_; rintro e w' ⟨rfl, rfl⟩)
        go_roundw
        case rel => exact ⟨_, by omega, by omega, by go_num, O2⟩
        case measure => simp [intOf] <;> omega
      · have ix0 : ∀ c w', (Instr.indexAt 67 (.slice a n c) (.int .i64 2)).run Tryz.prog w' = .ok (.pointer (some ⟨bk a, fo a + 2, none⟩)) w' := ix
        have ck0 : wr.cell? ⟨bk a, fo a + 2, none⟩ = some (.string (tx t)) := ck
        clear ix ck
        go_wp2_with (go_at_call 72; refine (refRegOf t _).mono ?_; rintro e w' ⟨rfl, rfl⟩)
        go_roundw
        case rel => exact ⟨_, by omega, by omega, by go_num, O2⟩
        case measure => simp [intOf] <;> omega
    · have hend : n ≤ k ∨ (k = 3 ∧ 3 < n) := by omega
      have B := O.bel
      have hsz := O.size
      have hf0 := fun j => O.f w.heap.size j (by omega) (by omega)
      clear hlt
      rcases hend with hge | ⟨rfl, h3n⟩
      · have hkn2 : k = n := by omega
        by_cases h2 : n = 2
        · obtain ⟨x, y, rfl⟩ := len2 (HN.out.trans h2)
          subst h2
          obtain rfl : k = 2 := hkn2
          have r0 : wr.cell? ⟨w.heap.size + 2, 0, none⟩ = some (.int .i64 (regN x)) := O.r 0 (by omega)
          have s0 : wr.cell? ⟨w.heap.size + 3, 0, none⟩ = some (.bool (regE x == 0)) := O.s 0 (by omega)
          rw [regN_opt x] at r0; rw [regE_opt x] at s0
          have hq := HR.out
          rw [read_sw2] at hq
          cases hx : regOf x with
          | none =>
            rw [hx] at r0 s0 hq
            have hq2 := hid hq
            clear hx hq
            have d0 : wr.cell? ⟨w.heap.size, 0, none⟩ = some (.int .i64 0) := O.i0 0 (by omega)
            have d1 : wr.cell? ⟨w.heap.size, 1, none⟩ = some (.int .i64 0) := O.i0 1 (by omega)
            have d2 : wr.cell? ⟨w.heap.size, 2, none⟩ = some (.int .i64 0) := O.i0 2 (by omega)
            have d3 : wr.cell? ⟨w.heap.size, 3, none⟩ = some (.int .i64 0) := O.i0 3 (by omega)
            have d4 : wr.cell? ⟨w.heap.size, 4, none⟩ = some (.int .i64 0) := O.i0 4 (by omega)
            have d5 : wr.cell? ⟨w.heap.size, 5, none⟩ = some (.string ⟨#[]⟩) := O.i0 5 (by omega)
            have d6 : wr.cell? ⟨w.heap.size, 6, none⟩ = some (.string ⟨#[]⟩) := O.i0 6 (by omega)
            have d7 : wr.cell? ⟨w.heap.size, 7, none⟩ = some (.int .i64 0) := O.i0 7 (by omega)
            have e0 : wr.cell? ⟨w.heap.size + 1, 0, none⟩ = some (.int .i64 0) := O.i1 0 (by omega)
            have e1 : wr.cell? ⟨w.heap.size + 1, 1, none⟩ = some (.int .i64 0) := O.i1 1 (by omega)
            have e2 : wr.cell? ⟨w.heap.size + 1, 2, none⟩ = some (.int .i64 0) := O.i1 2 (by omega)
            have e3 : wr.cell? ⟨w.heap.size + 1, 3, none⟩ = some (.int .i64 0) := O.i1 3 (by omega)
            have e4 : wr.cell? ⟨w.heap.size + 1, 4, none⟩ = some (.int .i64 0) := O.i1 4 (by omega)
            have e5 : wr.cell? ⟨w.heap.size + 1, 5, none⟩ = some (.string ⟨#[]⟩) := O.i1 5 (by omega)
            have e6 : wr.cell? ⟨w.heap.size + 1, 6, none⟩ = some (.string ⟨#[]⟩) := O.i1 6 (by omega)
            have e7 : wr.cell? ⟨w.heap.size + 1, 7, none⟩ = some (.int .i64 0) := O.i1 7 (by omega)
            have HQ := hid (show r = none from hq2.out.symm)
            have HK := hid (show keepI ⟨0, 0, 0, 0, 0, [], [], 0⟩ false = r from HQ.out.symm)
            clear O HQ
            go_wp2_with fail
            exact bodyPost_ret (by simp [results, Tryz.results44, go_sem, d0, d1, d2, d3, d4, d5, d6, d7]) rfl (Rd.of ⟨rfl, (by repeat (first | with_reducible assumption | with_reducible exact Below.refl _ _ | with_reducible refine bel_alloc ?_ _ | with_reducible refine bel_drew ?_ | with_reducible refine bel_set ?_ (by dsimp only; omega) _))⟩ HK.out)
          | some d =>
            rw [hx] at r0 s0 hq
            have HK := hid ((keep_sw (o1 := some d) (o2 := addrT y) (fun n hn => regOf_lt n (hx.trans hn)) addrT_lt').trans hq)
            have c1 : wr.cell? ⟨bk a, fo a + 1, none⟩ = some (.string (tx y)) := (HT.out.below O.bel).cell 1 (by simp)
            have j1 : ∀ c w', (Instr.indexAt 67 (.slice a 2 c) (.int .i64 1)).run Tryz.prog w' = .ok (.pointer (some ⟨bk a, fo a + 1, none⟩)) w' := HI.out 1 (by omega)
            have PL := hid (fun w => refPlace y (HS.out y (by simp)) w)
            clear hx hq
            generalize addrT y = o2 at *
            go_wp2_with fail
            refine (PL.out _).mono ?_
            rintro e w2 ⟨rfl, E2⟩
            have r0 := (E2.cell (p := ⟨w.heap.size + 2, 0, none⟩) (by dsimp only; omega)).trans r0
            have O := O.below E2
            have B := O.bel
            have hsz := O.size
            have hf0 := fun j => O.f w.heap.size j (by omega) (by omega)
            have d0 : w2.cell? ⟨w.heap.size, 0, none⟩ = some (.int .i64 0) := O.i0 0 (by omega)
            have d1 : w2.cell? ⟨w.heap.size, 1, none⟩ = some (.int .i64 0) := O.i0 1 (by omega)
            have d2 : w2.cell? ⟨w.heap.size, 2, none⟩ = some (.int .i64 0) := O.i0 2 (by omega)
            have d3 : w2.cell? ⟨w.heap.size, 3, none⟩ = some (.int .i64 0) := O.i0 3 (by omega)
            have d4 : w2.cell? ⟨w.heap.size, 4, none⟩ = some (.int .i64 0) := O.i0 4 (by omega)
            have d5 : w2.cell? ⟨w.heap.size, 5, none⟩ = some (.string ⟨#[]⟩) := O.i0 5 (by omega)
            have d6 : w2.cell? ⟨w.heap.size, 6, none⟩ = some (.string ⟨#[]⟩) := O.i0 6 (by omega)
            have d7 : w2.cell? ⟨w.heap.size, 7, none⟩ = some (.int .i64 0) := O.i0 7 (by omega)
            clear O E2 c1
            go_wp2_with fail
            exact bodyPost_ret (by simp [results, Tryz.results44, go_sem, d0, d1, d2, d3, d4, d5, d6, d7]) rfl (Rd.of ⟨rfl, (by repeat (first | with_reducible assumption | with_reducible exact Below.refl _ _ | with_reducible refine bel_alloc ?_ _ | with_reducible refine bel_drew ?_ | with_reducible refine bel_set ?_ (by dsimp only; omega) _))⟩ HK.out)
        · have z : ((n : Int) != 2) = true := by simp; omega
          have HL := hid (show l.length ≠ 2 by have := HN.out; omega)
          clear h2
          have d0 : wr.cell? ⟨w.heap.size, 0, none⟩ = some (.int .i64 0) := O.i0 0 (by omega)
          have d1 : wr.cell? ⟨w.heap.size, 1, none⟩ = some (.int .i64 0) := O.i0 1 (by omega)
          have d2 : wr.cell? ⟨w.heap.size, 2, none⟩ = some (.int .i64 0) := O.i0 2 (by omega)
          have d3 : wr.cell? ⟨w.heap.size, 3, none⟩ = some (.int .i64 0) := O.i0 3 (by omega)
          have d4 : wr.cell? ⟨w.heap.size, 4, none⟩ = some (.int .i64 0) := O.i0 4 (by omega)
          have d5 : wr.cell? ⟨w.heap.size, 5, none⟩ = some (.string ⟨#[]⟩) := O.i0 5 (by omega)
          have d6 : wr.cell? ⟨w.heap.size, 6, none⟩ = some (.string ⟨#[]⟩) := O.i0 6 (by omega)
          have d7 : wr.cell? ⟨w.heap.size, 7, none⟩ = some (.int .i64 0) := O.i0 7 (by omega)
          have e0 : wr.cell? ⟨w.heap.size + 1, 0, none⟩ = some (.int .i64 0) := O.i1 0 (by omega)
          have e1 : wr.cell? ⟨w.heap.size + 1, 1, none⟩ = some (.int .i64 0) := O.i1 1 (by omega)
          have e2 : wr.cell? ⟨w.heap.size + 1, 2, none⟩ = some (.int .i64 0) := O.i1 2 (by omega)
          have e3 : wr.cell? ⟨w.heap.size + 1, 3, none⟩ = some (.int .i64 0) := O.i1 3 (by omega)
          have e4 : wr.cell? ⟨w.heap.size + 1, 4, none⟩ = some (.int .i64 0) := O.i1 4 (by omega)
          have e5 : wr.cell? ⟨w.heap.size + 1, 5, none⟩ = some (.string ⟨#[]⟩) := O.i1 5 (by omega)
          have e6 : wr.cell? ⟨w.heap.size + 1, 6, none⟩ = some (.string ⟨#[]⟩) := O.i1 6 (by omega)
          have e7 : wr.cell? ⟨w.heap.size + 1, 7, none⟩ = some (.int .i64 0) := O.i1 7 (by omega)
          have HQ := hid (show r = none from HR.out.symm.trans (read_sw_no HL.out))
          have HK := hid (show keepI ⟨0, 0, 0, 0, 0, [], [], 0⟩ false = r from HQ.out.symm)
          clear O HQ
          go_wp2_with fail
          exact bodyPost_ret (by simp [results, Tryz.results44, go_sem, d0, d1, d2, d3, d4, d5, d6, d7]) rfl (Rd.of ⟨rfl, (by repeat (first | with_reducible assumption | with_reducible exact Below.refl _ _ | with_reducible refine bel_alloc ?_ _ | with_reducible refine bel_drew ?_ | with_reducible refine bel_set ?_ (by dsimp only; omega) _))⟩ HK.out)
      · have z : ((n : Int) != 2) = true := by simp; omega
        have HL := hid (show l.length ≠ 2 by have := HN.out; omega)
        have d0 : wr.cell? ⟨w.heap.size, 0, none⟩ = some (.int .i64 0) := O.i0 0 (by omega)
        have d1 : wr.cell? ⟨w.heap.size, 1, none⟩ = some (.int .i64 0) := O.i0 1 (by omega)
        have d2 : wr.cell? ⟨w.heap.size, 2, none⟩ = some (.int .i64 0) := O.i0 2 (by omega)
        have d3 : wr.cell? ⟨w.heap.size, 3, none⟩ = some (.int .i64 0) := O.i0 3 (by omega)
        have d4 : wr.cell? ⟨w.heap.size, 4, none⟩ = some (.int .i64 0) := O.i0 4 (by omega)
        have d5 : wr.cell? ⟨w.heap.size, 5, none⟩ = some (.string ⟨#[]⟩) := O.i0 5 (by omega)
        have d6 : wr.cell? ⟨w.heap.size, 6, none⟩ = some (.string ⟨#[]⟩) := O.i0 6 (by omega)
        have d7 : wr.cell? ⟨w.heap.size, 7, none⟩ = some (.int .i64 0) := O.i0 7 (by omega)
        have e0 : wr.cell? ⟨w.heap.size + 1, 0, none⟩ = some (.int .i64 0) := O.i1 0 (by omega)
        have e1 : wr.cell? ⟨w.heap.size + 1, 1, none⟩ = some (.int .i64 0) := O.i1 1 (by omega)
        have e2 : wr.cell? ⟨w.heap.size + 1, 2, none⟩ = some (.int .i64 0) := O.i1 2 (by omega)
        have e3 : wr.cell? ⟨w.heap.size + 1, 3, none⟩ = some (.int .i64 0) := O.i1 3 (by omega)
        have e4 : wr.cell? ⟨w.heap.size + 1, 4, none⟩ = some (.int .i64 0) := O.i1 4 (by omega)
        have e5 : wr.cell? ⟨w.heap.size + 1, 5, none⟩ = some (.string ⟨#[]⟩) := O.i1 5 (by omega)
        have e6 : wr.cell? ⟨w.heap.size + 1, 6, none⟩ = some (.string ⟨#[]⟩) := O.i1 6 (by omega)
        have e7 : wr.cell? ⟨w.heap.size + 1, 7, none⟩ = some (.int .i64 0) := O.i1 7 (by omega)
        have HQ := hid (show r = none from HR.out.symm.trans (read_sw_no HL.out))
        have HK := hid (show keepI ⟨0, 0, 0, 0, 0, [], [], 0⟩ false = r from HQ.out.symm)
        clear O HQ
        go_wp2_with fail
        exact bodyPost_ret (by simp [results, Tryz.results44, go_sem, d0, d1, d2, d3, d4, d5, d6, d7]) rfl (Rd.of ⟨rfl, (by repeat (first | with_reducible assumption | with_reducible exact Below.refl _ _ | with_reducible refine bel_alloc ?_ _ | with_reducible refine bel_drew ?_ | with_reducible refine bel_set ?_ (by dsimp only; omega) _))⟩ HK.out)

set_option maxRecDepth 100000 in
set_option maxHeartbeats 12800000 in
theorem refOperands_ori (l : List Tx) (a : Option Addr) (c : Nat) (w : World) (h : Txs w a l) (hs : Sm l) : Calls Tryz.prog 44 #[.string (tx [111, 114, 105]), .slice a l.length c] w (Rd (readI [111, 114, 105] l) w) := by
  have z0 : ((tx [111, 114, 105]).toList == [108, 119]) = false := by rw [tx_toList]; rfl
  have z1 : ((tx [111, 114, 105]).toList == [115, 119]) = false := by rw [tx_toList]; rfl
  have z2 : ((tx [111, 114, 105]).toList == [111, 114, 105]) = true := by rw [tx_toList]; rfl
  obtain ⟨r, hr⟩ : ∃ r, readI [111, 114, 105] l = r := ⟨_, rfl⟩
  rw [hr]
  have HR := hid hr
  obtain ⟨n, hn⟩ : ∃ n, l.length = n := ⟨_, rfl⟩
  have HN := hid hn
  have HS := hid hs
  have HT := hid h
  rw [hn]
  have O0 := OpsW.start w l
  have HX := hid (fun (k : Nat) (hk : k < n) => show ∃ t, l[k]? = some t from ⟨_, List.getElem?_eq_getElem (by omega)⟩)
  have hix := h.idx
  rw [hn] at hix
  have HI := hid hix
  have HB := hid (by have := h.len; omega : n ≤ 1000000000000000000)
  clear hr hn hs hix h
  go_enter Tryz.func44, Tryz.ntmps44
  go_wp2_with fail
  go_loopw [10] (fun i wr => ∃ k : Nat, k ≤ 3 ∧ k ≤ n ∧ i = .int .i64 k ∧ OpsW w wr l k) (fun i _ => 3 - (intOf i).toNat)
  case atStart => exact ⟨0, by omega, by omega, rfl, O0⟩
  case round =>
    clear O0
    obtain ⟨k, hk, hkn, rfl, O⟩ := hrel
    by_cases hlt : k < n ∧ k < 3
    · obtain ⟨hlt1, hlt2⟩ := hlt
      obtain ⟨t, ht⟩ := HX.out k hlt1
      have ix := HI.out k hlt1
      have ck := (HT.out.below O.bel).cellq ht
      have O2 := O.step hlt2 ht
      have hf2 := fun j => O.f (w.heap.size + 2) j (by omega) (by omega)
      have hf3 := fun j => O.f (w.heap.size + 3) j (by omega) (by omega)
      have hr0 := O.r 0 (by omega); have hr1 := O.r 1 (by omega); have hr2 := O.r 2 (by omega)
      have hs0 := O.s 0 (by omega); have hs1 := O.s 1 (by omega); have hs2 := O.s 2 (by omega)
      have hsz := O.size
      clear ht O
      have hk3 : k = 0 ∨ k = 1 ∨ k = 2 := by omega
      rcases hk3 with rfl | rfl | rfl
      · have ix0 : ∀ c w', (Instr.indexAt 67 (.slice a n c) (.int .i64 0)).run Tryz.prog w' = .ok (.pointer (some ⟨bk a, fo a, none⟩)) w' := ix
        have ck0 : wr.cell? ⟨bk a, fo a, none⟩ = some (.string (tx t)) := ck
        clear ix ck
        go_wp2_with (go_at_call 72; refine (refRegOf t _).mono ?_; rintro e w' ⟨rfl, rfl⟩)
        go_roundw
        case rel => exact ⟨_, by omega, by omega, by go_num, O2⟩
        case measure => simp [intOf] <;> omega
      · have ix0 : ∀ c w', (Instr.indexAt 67 (.slice a n c) (.int .i64 1)).run Tryz.prog w' = .ok (.pointer (some ⟨bk a, fo a + 1, none⟩)) w' := ix
        have ck0 : wr.cell? ⟨bk a, fo a + 1, none⟩ = some (.string (tx t)) := ck
        clear ix ck
        go_wp2_with (go_at_call 72; refine (refRegOf t _).mono ?_; rintro e w' ⟨rfl, rfl⟩)
        go_roundw
        case rel => exact ⟨_, by omega, by omega, by go_num, O2⟩
        case measure => simp [intOf] <;> omega
      · have ix0 : ∀ c w', (Instr.indexAt 67 (.slice a n c) (.int .i64 2)).run Tryz.prog w' = .ok (.pointer (some ⟨bk a, fo a + 2, none⟩)) w' := ix
        have ck0 : wr.cell? ⟨bk a, fo a + 2, none⟩ = some (.string (tx t)) := ck
        clear ix ck
        go_wp2_with (go_at_call 72; refine (refRegOf t _).mono ?_; rintro e w' ⟨rfl, rfl⟩)
        go_roundw
        case rel => exact ⟨_, by omega, by omega, by go_num, O2⟩
        case measure => simp [intOf] <;> omega
    · have hend : n ≤ k ∨ (k = 3 ∧ 3 < n) := by omega
      have B := O.bel
      have hsz := O.size
      have hf0 := fun j => O.f w.heap.size j (by omega) (by omega)
      clear hlt
      rcases hend with hge | ⟨rfl, h3n⟩
      · have hkn2 : k = n := by omega
        by_cases h2 : n = 3
        · obtain ⟨x, y, u, rfl⟩ := len3 (HN.out.trans h2)
          subst h2
          obtain rfl : k = 3 := hkn2
          have r0 : wr.cell? ⟨w.heap.size + 2, 0, none⟩ = some (.int .i64 (regN x)) := O.r 0 (by omega)
          have s0 : wr.cell? ⟨w.heap.size + 3, 0, none⟩ = some (.bool (regE x == 0)) := O.s 0 (by omega)
          rw [regN_opt x] at r0; rw [regE_opt x] at s0
          have r1 : wr.cell? ⟨w.heap.size + 2, 1, none⟩ = some (.int .i64 (regN y)) := O.r 1 (by omega)
          have s1 : wr.cell? ⟨w.heap.size + 3, 1, none⟩ = some (.bool (regE y == 0)) := O.s 1 (by omega)
          rw [regN_opt y] at r1; rw [regE_opt y] at s1
          have hq := HR.out
          rw [read_3 _ _ _ (by decide) (by decide) (by decide)] at hq
          cases hx : regOf x with
          | none =>
            rw [hx] at r0 s0 hq
            have hq2 := hid hq
            clear hx hq
            have d0 : wr.cell? ⟨w.heap.size, 0, none⟩ = some (.int .i64 0) := O.i0 0 (by omega)
            have d1 : wr.cell? ⟨w.heap.size, 1, none⟩ = some (.int .i64 0) := O.i0 1 (by omega)
            have d2 : wr.cell? ⟨w.heap.size, 2, none⟩ = some (.int .i64 0) := O.i0 2 (by omega)
            have d3 : wr.cell? ⟨w.heap.size, 3, none⟩ = some (.int .i64 0) := O.i0 3 (by omega)
            have d4 : wr.cell? ⟨w.heap.size, 4, none⟩ = some (.int .i64 0) := O.i0 4 (by omega)
            have d5 : wr.cell? ⟨w.heap.size, 5, none⟩ = some (.string ⟨#[]⟩) := O.i0 5 (by omega)
            have d6 : wr.cell? ⟨w.heap.size, 6, none⟩ = some (.string ⟨#[]⟩) := O.i0 6 (by omega)
            have d7 : wr.cell? ⟨w.heap.size, 7, none⟩ = some (.int .i64 0) := O.i0 7 (by omega)
            have e0 : wr.cell? ⟨w.heap.size + 1, 0, none⟩ = some (.int .i64 0) := O.i1 0 (by omega)
            have e1 : wr.cell? ⟨w.heap.size + 1, 1, none⟩ = some (.int .i64 0) := O.i1 1 (by omega)
            have e2 : wr.cell? ⟨w.heap.size + 1, 2, none⟩ = some (.int .i64 0) := O.i1 2 (by omega)
            have e3 : wr.cell? ⟨w.heap.size + 1, 3, none⟩ = some (.int .i64 0) := O.i1 3 (by omega)
            have e4 : wr.cell? ⟨w.heap.size + 1, 4, none⟩ = some (.int .i64 0) := O.i1 4 (by omega)
            have e5 : wr.cell? ⟨w.heap.size + 1, 5, none⟩ = some (.string ⟨#[]⟩) := O.i1 5 (by omega)
            have e6 : wr.cell? ⟨w.heap.size + 1, 6, none⟩ = some (.string ⟨#[]⟩) := O.i1 6 (by omega)
            have e7 : wr.cell? ⟨w.heap.size + 1, 7, none⟩ = some (.int .i64 0) := O.i1 7 (by omega)
            have HQ := hid (show r = none from hq2.out.symm)
            have HK := hid (show keepI ⟨0, 0, 0, 0, 0, [], [], 0⟩ false = r from HQ.out.symm)
            clear O HQ
            go_wp2_with fail
            exact bodyPost_ret (by simp [results, Tryz.results44, go_sem, d0, d1, d2, d3, d4, d5, d6, d7]) rfl (Rd.of ⟨rfl, (by repeat (first | with_reducible assumption | with_reducible exact Below.refl _ _ | with_reducible refine bel_alloc ?_ _ | with_reducible refine bel_drew ?_ | with_reducible refine bel_set ?_ (by dsimp only; omega) _))⟩ HK.out)
          | some d =>
            rw [hx] at r0 s0 hq
            cases hy : regOf y with
            | none =>
              rw [hy] at r1 s1 hq
              have hq2 := hid hq
              clear hx hy hq
              have d0 : wr.cell? ⟨w.heap.size, 0, none⟩ = some (.int .i64 0) := O.i0 0 (by omega)
              have d1 : wr.cell? ⟨w.heap.size, 1, none⟩ = some (.int .i64 0) := O.i0 1 (by omega)
              have d2 : wr.cell? ⟨w.heap.size, 2, none⟩ = some (.int .i64 0) := O.i0 2 (by omega)
              have d3 : wr.cell? ⟨w.heap.size, 3, none⟩ = some (.int .i64 0) := O.i0 3 (by omega)
              have d4 : wr.cell? ⟨w.heap.size, 4, none⟩ = some (.int .i64 0) := O.i0 4 (by omega)
              have d5 : wr.cell? ⟨w.heap.size, 5, none⟩ = some (.string ⟨#[]⟩) := O.i0 5 (by omega)
              have d6 : wr.cell? ⟨w.heap.size, 6, none⟩ = some (.string ⟨#[]⟩) := O.i0 6 (by omega)
              have d7 : wr.cell? ⟨w.heap.size, 7, none⟩ = some (.int .i64 0) := O.i0 7 (by omega)
              have e0 : wr.cell? ⟨w.heap.size + 1, 0, none⟩ = some (.int .i64 0) := O.i1 0 (by omega)
              have e1 : wr.cell? ⟨w.heap.size + 1, 1, none⟩ = some (.int .i64 0) := O.i1 1 (by omega)
              have e2 : wr.cell? ⟨w.heap.size + 1, 2, none⟩ = some (.int .i64 0) := O.i1 2 (by omega)
              have e3 : wr.cell? ⟨w.heap.size + 1, 3, none⟩ = some (.int .i64 0) := O.i1 3 (by omega)
              have e4 : wr.cell? ⟨w.heap.size + 1, 4, none⟩ = some (.int .i64 0) := O.i1 4 (by omega)
              have e5 : wr.cell? ⟨w.heap.size + 1, 5, none⟩ = some (.string ⟨#[]⟩) := O.i1 5 (by omega)
              have e6 : wr.cell? ⟨w.heap.size + 1, 6, none⟩ = some (.string ⟨#[]⟩) := O.i1 6 (by omega)
              have e7 : wr.cell? ⟨w.heap.size + 1, 7, none⟩ = some (.int .i64 0) := O.i1 7 (by omega)
              have HQ := hid (show r = none from hq2.out.symm)
              have HK := hid (show keepI ⟨0, 0, 0, 0, 0, [], [], 0⟩ false = r from HQ.out.symm)
              clear O HQ
              go_wp2_with fail
              exact bodyPost_ret (by simp [results, Tryz.results44, go_sem, d0, d1, d2, d3, d4, d5, d6, d7]) rfl (Rd.of ⟨rfl, (by repeat (first | with_reducible assumption | with_reducible exact Below.refl _ _ | with_reducible refine bel_alloc ?_ _ | with_reducible refine bel_drew ?_ | with_reducible refine bel_set ?_ (by dsimp only; omega) _))⟩ HK.out)
            | some q2 =>
              rw [hy] at r1 s1 hq
              have c2 : wr.cell? ⟨bk a, fo a + 2, none⟩ = some (.string (tx u)) := (HT.out.below O.bel).cell 2 (by simp)
              have j2 : ∀ c w', (Instr.indexAt 67 (.slice a 3 c) (.int .i64 2)).run Tryz.prog w' = .ok (.pointer (some ⟨bk a, fo a + 2, none⟩)) w' := HI.out 2 (by omega)
              replace r0 : wr.cell? ⟨w.heap.size + 2, 0, none⟩ = some (.int .i64 (d : Int)) := r0
              replace r1 : wr.cell? ⟨w.heap.size + 2, 1, none⟩ = some (.int .i64 (q2 : Int)) := r1
              have HQ := hid hq
              have HX2 := hid hx; have HY2 := hid hy
              clear hx hy hq
              go_wp2_with fail
              refine (refNumber u _).mono ?_
              rintro e w2 ⟨⟨v, ok, rfl, hv⟩, rfl⟩
              have HK := hid ((keep_oriR (regOf_lt _ HX2.out) (regOf_lt _ HY2.out) hv).trans HQ.out)
              clear hv
              have d0 : wr.cell? ⟨w.heap.size, 0, none⟩ = some (.int .i64 0) := O.i0 0 (by omega)
              have d1 : wr.cell? ⟨w.heap.size, 1, none⟩ = some (.int .i64 0) := O.i0 1 (by omega)
              have d2 : wr.cell? ⟨w.heap.size, 2, none⟩ = some (.int .i64 0) := O.i0 2 (by omega)
              have d3 : wr.cell? ⟨w.heap.size, 3, none⟩ = some (.int .i64 0) := O.i0 3 (by omega)
              have d4 : wr.cell? ⟨w.heap.size, 4, none⟩ = some (.int .i64 0) := O.i0 4 (by omega)
              have d5 : wr.cell? ⟨w.heap.size, 5, none⟩ = some (.string ⟨#[]⟩) := O.i0 5 (by omega)
              have d6 : wr.cell? ⟨w.heap.size, 6, none⟩ = some (.string ⟨#[]⟩) := O.i0 6 (by omega)
              have d7 : wr.cell? ⟨w.heap.size, 7, none⟩ = some (.int .i64 0) := O.i0 7 (by omega)
              clear O c2
              go_wp2_with fail
              exact bodyPost_ret (by simp [results, Tryz.results44, go_sem, d0, d1, d2, d3, d4, d5, d6, d7]) rfl (Rd.of ⟨rfl, (by repeat (first | with_reducible assumption | with_reducible exact Below.refl _ _ | with_reducible refine bel_alloc ?_ _ | with_reducible refine bel_drew ?_ | with_reducible refine bel_set ?_ (by dsimp only; omega) _))⟩ HK.out)
        · have z : ((n : Int) != 3) = true := by simp; omega
          have HL := hid (show l.length ≠ 3 by have := HN.out; omega)
          clear h2
          have d0 : wr.cell? ⟨w.heap.size, 0, none⟩ = some (.int .i64 0) := O.i0 0 (by omega)
          have d1 : wr.cell? ⟨w.heap.size, 1, none⟩ = some (.int .i64 0) := O.i0 1 (by omega)
          have d2 : wr.cell? ⟨w.heap.size, 2, none⟩ = some (.int .i64 0) := O.i0 2 (by omega)
          have d3 : wr.cell? ⟨w.heap.size, 3, none⟩ = some (.int .i64 0) := O.i0 3 (by omega)
          have d4 : wr.cell? ⟨w.heap.size, 4, none⟩ = some (.int .i64 0) := O.i0 4 (by omega)
          have d5 : wr.cell? ⟨w.heap.size, 5, none⟩ = some (.string ⟨#[]⟩) := O.i0 5 (by omega)
          have d6 : wr.cell? ⟨w.heap.size, 6, none⟩ = some (.string ⟨#[]⟩) := O.i0 6 (by omega)
          have d7 : wr.cell? ⟨w.heap.size, 7, none⟩ = some (.int .i64 0) := O.i0 7 (by omega)
          have e0 : wr.cell? ⟨w.heap.size + 1, 0, none⟩ = some (.int .i64 0) := O.i1 0 (by omega)
          have e1 : wr.cell? ⟨w.heap.size + 1, 1, none⟩ = some (.int .i64 0) := O.i1 1 (by omega)
          have e2 : wr.cell? ⟨w.heap.size + 1, 2, none⟩ = some (.int .i64 0) := O.i1 2 (by omega)
          have e3 : wr.cell? ⟨w.heap.size + 1, 3, none⟩ = some (.int .i64 0) := O.i1 3 (by omega)
          have e4 : wr.cell? ⟨w.heap.size + 1, 4, none⟩ = some (.int .i64 0) := O.i1 4 (by omega)
          have e5 : wr.cell? ⟨w.heap.size + 1, 5, none⟩ = some (.string ⟨#[]⟩) := O.i1 5 (by omega)
          have e6 : wr.cell? ⟨w.heap.size + 1, 6, none⟩ = some (.string ⟨#[]⟩) := O.i1 6 (by omega)
          have e7 : wr.cell? ⟨w.heap.size + 1, 7, none⟩ = some (.int .i64 0) := O.i1 7 (by omega)
          have HQ := hid (show r = none from HR.out.symm.trans (read_3no (by decide) (by decide) (by decide) HL.out))
          have HK := hid (show keepI ⟨0, 0, 0, 0, 0, [], [], 0⟩ false = r from HQ.out.symm)
          clear O HQ
          go_wp2_with fail
          exact bodyPost_ret (by simp [results, Tryz.results44, go_sem, d0, d1, d2, d3, d4, d5, d6, d7]) rfl (Rd.of ⟨rfl, (by repeat (first | with_reducible assumption | with_reducible exact Below.refl _ _ | with_reducible refine bel_alloc ?_ _ | with_reducible refine bel_drew ?_ | with_reducible refine bel_set ?_ (by dsimp only; omega) _))⟩ HK.out)
      · have z : ((n : Int) != 3) = true := by simp; omega
        have HL := hid (show l.length ≠ 3 by have := HN.out; omega)
        have d0 : wr.cell? ⟨w.heap.size, 0, none⟩ = some (.int .i64 0) := O.i0 0 (by omega)
        have d1 : wr.cell? ⟨w.heap.size, 1, none⟩ = some (.int .i64 0) := O.i0 1 (by omega)
        have d2 : wr.cell? ⟨w.heap.size, 2, none⟩ = some (.int .i64 0) := O.i0 2 (by omega)
        have d3 : wr.cell? ⟨w.heap.size, 3, none⟩ = some (.int .i64 0) := O.i0 3 (by omega)
        have d4 : wr.cell? ⟨w.heap.size, 4, none⟩ = some (.int .i64 0) := O.i0 4 (by omega)
        have d5 : wr.cell? ⟨w.heap.size, 5, none⟩ = some (.string ⟨#[]⟩) := O.i0 5 (by omega)
        have d6 : wr.cell? ⟨w.heap.size, 6, none⟩ = some (.string ⟨#[]⟩) := O.i0 6 (by omega)
        have d7 : wr.cell? ⟨w.heap.size, 7, none⟩ = some (.int .i64 0) := O.i0 7 (by omega)
        have e0 : wr.cell? ⟨w.heap.size + 1, 0, none⟩ = some (.int .i64 0) := O.i1 0 (by omega)
        have e1 : wr.cell? ⟨w.heap.size + 1, 1, none⟩ = some (.int .i64 0) := O.i1 1 (by omega)
        have e2 : wr.cell? ⟨w.heap.size + 1, 2, none⟩ = some (.int .i64 0) := O.i1 2 (by omega)
        have e3 : wr.cell? ⟨w.heap.size + 1, 3, none⟩ = some (.int .i64 0) := O.i1 3 (by omega)
        have e4 : wr.cell? ⟨w.heap.size + 1, 4, none⟩ = some (.int .i64 0) := O.i1 4 (by omega)
        have e5 : wr.cell? ⟨w.heap.size + 1, 5, none⟩ = some (.string ⟨#[]⟩) := O.i1 5 (by omega)
        have e6 : wr.cell? ⟨w.heap.size + 1, 6, none⟩ = some (.string ⟨#[]⟩) := O.i1 6 (by omega)
        have e7 : wr.cell? ⟨w.heap.size + 1, 7, none⟩ = some (.int .i64 0) := O.i1 7 (by omega)
        have HQ := hid (show r = none from HR.out.symm.trans (read_3no (by decide) (by decide) (by decide) HL.out))
        have HK := hid (show keepI ⟨0, 0, 0, 0, 0, [], [], 0⟩ false = r from HQ.out.symm)
        clear O HQ
        go_wp2_with fail
        exact bodyPost_ret (by simp [results, Tryz.results44, go_sem, d0, d1, d2, d3, d4, d5, d6, d7]) rfl (Rd.of ⟨rfl, (by repeat (first | with_reducible assumption | with_reducible exact Below.refl _ _ | with_reducible refine bel_alloc ?_ _ | with_reducible refine bel_drew ?_ | with_reducible refine bel_set ?_ (by dsimp only; omega) _))⟩ HK.out)

set_option maxRecDepth 100000 in
set_option maxHeartbeats 12800000 in
theorem refOperands_fence (l : List Tx) (a : Option Addr) (c : Nat) (w : World) (h : Txs w a l) (hs : Sm l) : Calls Tryz.prog 44 #[.string (tx [102, 101, 110, 99, 101]), .slice a l.length c] w (Rd (readI [102, 101, 110, 99, 101] l) w) := by
  have z0 : ((tx [102, 101, 110, 99, 101]).toList == [108, 119]) = false := by rw [tx_toList]; rfl
  have z1 : ((tx [102, 101, 110, 99, 101]).toList == [115, 119]) = false := by rw [tx_toList]; rfl
  have z2 : ((tx [102, 101, 110, 99, 101]).toList == [111, 114, 105]) = false := by rw [tx_toList]; rfl
  have z3 : ((tx [102, 101, 110, 99, 101]).toList == [120, 111, 114]) = false := by rw [tx_toList]; rfl
  have z4 : ((tx [102, 101, 110, 99, 101]).toList == [97, 100, 100]) = false := by rw [tx_toList]; rfl
  have z5 : ((tx [102, 101, 110, 99, 101]).toList == [98, 110, 101]) = false := by rw [tx_toList]; rfl
  have z6 : ((tx [102, 101, 110, 99, 101]).toList == [102, 101, 110, 99, 101]) = true := by rw [tx_toList]; rfl
  obtain ⟨r, hr⟩ : ∃ r, readI [102, 101, 110, 99, 101] l = r := ⟨_, rfl⟩
  rw [hr]
  have HR := hid hr
  obtain ⟨n, hn⟩ : ∃ n, l.length = n := ⟨_, rfl⟩
  have HN := hid hn
  have HS := hid hs
  have HT := hid h
  rw [hn]
  have O0 := OpsW.start w l
  have HX := hid (fun (k : Nat) (hk : k < n) => show ∃ t, l[k]? = some t from ⟨_, List.getElem?_eq_getElem (by omega)⟩)
  have hix := h.idx
  rw [hn] at hix
  have HI := hid hix
  have HB := hid (by have := h.len; omega : n ≤ 1000000000000000000)
  clear hr hn hs hix h
  go_enter Tryz.func44, Tryz.ntmps44
  go_wp2_with fail
  go_loopw [10] (fun i wr => ∃ k : Nat, k ≤ 3 ∧ k ≤ n ∧ i = .int .i64 k ∧ OpsW w wr l k) (fun i _ => 3 - (intOf i).toNat)
  case atStart => exact ⟨0, by omega, by omega, rfl, O0⟩
  case round =>
    clear O0
    obtain ⟨k, hk, hkn, rfl, O⟩ := hrel
    by_cases hlt : k < n ∧ k < 3
    · obtain ⟨hlt1, hlt2⟩ := hlt
      obtain ⟨t, ht⟩ := HX.out k hlt1
      have ix := HI.out k hlt1
      have ck := (HT.out.below O.bel).cellq ht
      have O2 := O.step hlt2 ht
      have hf2 := fun j => O.f (w.heap.size + 2) j (by omega) (by omega)
      have hf3 := fun j => O.f (w.heap.size + 3) j (by omega) (by omega)
      have hr0 := O.r 0 (by omega); have hr1 := O.r 1 (by omega); have hr2 := O.r 2 (by omega)
      have hs0 := O.s 0 (by omega); have hs1 := O.s 1 (by omega); have hs2 := O.s 2 (by omega)
      have hsz := O.size
      clear ht O
      have hk3 : k = 0 ∨ k = 1 ∨ k = 2 := by omega
      rcases hk3 with rfl | rfl | rfl
      · have ix0 : ∀ c w', (Instr.indexAt 67 (.slice a n c) (.int .i64 0)).run Tryz.prog w' = .ok (.pointer (some ⟨bk a, fo a, none⟩)) w' := ix
        have ck0 : wr.cell? ⟨bk a, fo a, none⟩ = some (.string (tx t)) := ck
        clear ix ck
        go_wp2_with (go_at_call 72; refine (refRegOf t _).mono ?_; rintro e w' ⟨rfl, rfl⟩)
        go_roundw
        case rel => exact ⟨_, by omega, by omega, by go_num, O2⟩
        case measure => simp [intOf] <;> omega
      · have ix0 : ∀ c w', (Instr.indexAt 67 (.slice a n c) (.int .i64 1)).run Tryz.prog w' = .ok (.pointer (some ⟨bk a, fo a + 1, none⟩)) w' := ix
        have ck0 : wr.cell? ⟨bk a, fo a + 1, none⟩ = some (.string (tx t)) := ck
        clear ix ck
        go_wp2_with (go_at_call 72; refine (refRegOf t _).mono ?_; rintro e w' ⟨rfl, rfl⟩)
        go_roundw
        case rel => exact ⟨_, by omega, by omega, by go_num, O2⟩
        case measure => simp [intOf] <;> omega
      · have ix0 : ∀ c w', (Instr.indexAt 67 (.slice a n c) (.int .i64 2)).run Tryz.prog w' = .ok (.pointer (some ⟨bk a, fo a + 2, none⟩)) w' := ix
        have ck0 : wr.cell? ⟨bk a, fo a + 2, none⟩ = some (.string (tx t)) := ck
        clear ix ck
        go_wp2_with (go_at_call 72; refine (refRegOf t _).mono ?_; rintro e w' ⟨rfl, rfl⟩)
        go_roundw
        case rel => exact ⟨_, by omega, by omega, by go_num, O2⟩
        case measure => simp [intOf] <;> omega
    · have hend : n ≤ k ∨ (k = 3 ∧ 3 < n) := by omega
      have B := O.bel
      have hsz := O.size
      have hf0 := fun j => O.f w.heap.size j (by omega) (by omega)
      clear hlt
      rcases hend with hge | ⟨rfl, h3n⟩
      · have hkn2 : k = n := by omega
        by_cases h2 : n = 2
        · obtain ⟨x, y, rfl⟩ := len2 (HN.out.trans h2)
          subst h2
          obtain rfl : k = 2 := hkn2
          have c0 : wr.cell? ⟨bk a, fo a, none⟩ = some (.string (tx x)) := (HT.out.below O.bel).cell 0 (by simp)
          have j0 : ∀ c w', (Instr.indexAt 67 (.slice a 2 c) (.int .i64 0)).run Tryz.prog w' = .ok (.pointer (some ⟨bk a, fo a, none⟩)) w' := HI.out 0 (by omega)
          have c1 : wr.cell? ⟨bk a, fo a + 1, none⟩ = some (.string (tx y)) := (HT.out.below O.bel).cell 1 (by simp)
          have j1 : ∀ c w', (Instr.indexAt 67 (.slice a 2 c) (.int .i64 1)).run Tryz.prog w' = .ok (.pointer (some ⟨bk a, fo a + 1, none⟩)) w' := HI.out 1 (by omega)
          have HK := hid ((keep_fenceR x y).trans HR.out)
          have FN := hid (fun w => refFence x y w)
          generalize fenceV x y = fv at *
          have d0 : wr.cell? ⟨w.heap.size, 0, none⟩ = some (.int .i64 0) := O.i0 0 (by omega)
          have d1 : wr.cell? ⟨w.heap.size, 1, none⟩ = some (.int .i64 0) := O.i0 1 (by omega)
          have d2 : wr.cell? ⟨w.heap.size, 2, none⟩ = some (.int .i64 0) := O.i0 2 (by omega)
          have d3 : wr.cell? ⟨w.heap.size, 3, none⟩ = some (.int .i64 0) := O.i0 3 (by omega)
          have d4 : wr.cell? ⟨w.heap.size, 4, none⟩ = some (.int .i64 0) := O.i0 4 (by omega)
          have d5 : wr.cell? ⟨w.heap.size, 5, none⟩ = some (.string ⟨#[]⟩) := O.i0 5 (by omega)
          have d6 : wr.cell? ⟨w.heap.size, 6, none⟩ = some (.string ⟨#[]⟩) := O.i0 6 (by omega)
          have d7 : wr.cell? ⟨w.heap.size, 7, none⟩ = some (.int .i64 0) := O.i0 7 (by omega)
          clear O
          go_wp2_with fail
          go_region_with (go_at_call 75; refine (FN.out _).mono ?_; rintro e' w' ⟨rfl, rfl⟩)
          all_goals
            go_wp2_with fail
            exact bodyPost_ret (by simp [results, Tryz.results44, go_sem, d0, d1, d2, d3, d4, d5, d6, d7]) rfl (Rd.of ⟨rfl, (by repeat (first | with_reducible assumption | with_reducible exact Below.refl _ _ | with_reducible refine bel_alloc ?_ _ | with_reducible refine bel_drew ?_ | with_reducible refine bel_set ?_ (by dsimp only; omega) _))⟩ HK.out)
        · have z : ((n : Int) != 2) = true := by simp; omega
          have HL := hid (show l.length ≠ 2 by have := HN.out; omega)
          clear h2
          have d0 : wr.cell? ⟨w.heap.size, 0, none⟩ = some (.int .i64 0) := O.i0 0 (by omega)
          have d1 : wr.cell? ⟨w.heap.size, 1, none⟩ = some (.int .i64 0) := O.i0 1 (by omega)
          have d2 : wr.cell? ⟨w.heap.size, 2, none⟩ = some (.int .i64 0) := O.i0 2 (by omega)
          have d3 : wr.cell? ⟨w.heap.size, 3, none⟩ = some (.int .i64 0) := O.i0 3 (by omega)
          have d4 : wr.cell? ⟨w.heap.size, 4, none⟩ = some (.int .i64 0) := O.i0 4 (by omega)
          have d5 : wr.cell? ⟨w.heap.size, 5, none⟩ = some (.string ⟨#[]⟩) := O.i0 5 (by omega)
          have d6 : wr.cell? ⟨w.heap.size, 6, none⟩ = some (.string ⟨#[]⟩) := O.i0 6 (by omega)
          have d7 : wr.cell? ⟨w.heap.size, 7, none⟩ = some (.int .i64 0) := O.i0 7 (by omega)
          have e0 : wr.cell? ⟨w.heap.size + 1, 0, none⟩ = some (.int .i64 0) := O.i1 0 (by omega)
          have e1 : wr.cell? ⟨w.heap.size + 1, 1, none⟩ = some (.int .i64 0) := O.i1 1 (by omega)
          have e2 : wr.cell? ⟨w.heap.size + 1, 2, none⟩ = some (.int .i64 0) := O.i1 2 (by omega)
          have e3 : wr.cell? ⟨w.heap.size + 1, 3, none⟩ = some (.int .i64 0) := O.i1 3 (by omega)
          have e4 : wr.cell? ⟨w.heap.size + 1, 4, none⟩ = some (.int .i64 0) := O.i1 4 (by omega)
          have e5 : wr.cell? ⟨w.heap.size + 1, 5, none⟩ = some (.string ⟨#[]⟩) := O.i1 5 (by omega)
          have e6 : wr.cell? ⟨w.heap.size + 1, 6, none⟩ = some (.string ⟨#[]⟩) := O.i1 6 (by omega)
          have e7 : wr.cell? ⟨w.heap.size + 1, 7, none⟩ = some (.int .i64 0) := O.i1 7 (by omega)
          have HQ := hid (show r = none from HR.out.symm.trans (read_fence_no HL.out))
          have HK := hid (show keepI ⟨0, 0, 0, 0, 0, [], [], 0⟩ false = r from HQ.out.symm)
          clear O HQ
          go_wp2_with fail
          exact bodyPost_ret (by simp [results, Tryz.results44, go_sem, d0, d1, d2, d3, d4, d5, d6, d7]) rfl (Rd.of ⟨rfl, (by repeat (first | with_reducible assumption | with_reducible exact Below.refl _ _ | with_reducible refine bel_alloc ?_ _ | with_reducible refine bel_drew ?_ | with_reducible refine bel_set ?_ (by dsimp only; omega) _))⟩ HK.out)
      · have z : ((n : Int) != 2) = true := by simp; omega
        have HL := hid (show l.length ≠ 2 by have := HN.out; omega)
        have d0 : wr.cell? ⟨w.heap.size, 0, none⟩ = some (.int .i64 0) := O.i0 0 (by omega)
        have d1 : wr.cell? ⟨w.heap.size, 1, none⟩ = some (.int .i64 0) := O.i0 1 (by omega)
        have d2 : wr.cell? ⟨w.heap.size, 2, none⟩ = some (.int .i64 0) := O.i0 2 (by omega)
        have d3 : wr.cell? ⟨w.heap.size, 3, none⟩ = some (.int .i64 0) := O.i0 3 (by omega)
        have d4 : wr.cell? ⟨w.heap.size, 4, none⟩ = some (.int .i64 0) := O.i0 4 (by omega)
        have d5 : wr.cell? ⟨w.heap.size, 5, none⟩ = some (.string ⟨#[]⟩) := O.i0 5 (by omega)
        have d6 : wr.cell? ⟨w.heap.size, 6, none⟩ = some (.string ⟨#[]⟩) := O.i0 6 (by omega)
        have d7 : wr.cell? ⟨w.heap.size, 7, none⟩ = some (.int .i64 0) := O.i0 7 (by omega)
        have e0 : wr.cell? ⟨w.heap.size + 1, 0, none⟩ = some (.int .i64 0) := O.i1 0 (by omega)
        have e1 : wr.cell? ⟨w.heap.size + 1, 1, none⟩ = some (.int .i64 0) := O.i1 1 (by omega)
        have e2 : wr.cell? ⟨w.heap.size + 1, 2, none⟩ = some (.int .i64 0) := O.i1 2 (by omega)
        have e3 : wr.cell? ⟨w.heap.size + 1, 3, none⟩ = some (.int .i64 0) := O.i1 3 (by omega)
        have e4 : wr.cell? ⟨w.heap.size + 1, 4, none⟩ = some (.int .i64 0) := O.i1 4 (by omega)
        have e5 : wr.cell? ⟨w.heap.size + 1, 5, none⟩ = some (.string ⟨#[]⟩) := O.i1 5 (by omega)
        have e6 : wr.cell? ⟨w.heap.size + 1, 6, none⟩ = some (.string ⟨#[]⟩) := O.i1 6 (by omega)
        have e7 : wr.cell? ⟨w.heap.size + 1, 7, none⟩ = some (.int .i64 0) := O.i1 7 (by omega)
        have HQ := hid (show r = none from HR.out.symm.trans (read_fence_no HL.out))
        have HK := hid (show keepI ⟨0, 0, 0, 0, 0, [], [], 0⟩ false = r from HQ.out.symm)
        clear O HQ
        go_wp2_with fail
        exact bodyPost_ret (by simp [results, Tryz.results44, go_sem, d0, d1, d2, d3, d4, d5, d6, d7]) rfl (Rd.of ⟨rfl, (by repeat (first | with_reducible assumption | with_reducible exact Below.refl _ _ | with_reducible refine bel_alloc ?_ _ | with_reducible refine bel_drew ?_ | with_reducible refine bel_set ?_ (by dsimp only; omega) _))⟩ HK.out)

set_option maxRecDepth 100000 in
set_option maxHeartbeats 12800000 in
theorem refOperands_other (op : Tx) (n0 : op ≠ [108, 119]) (n1 : op ≠ [115, 119]) (n2 : op ≠ [111, 114, 105]) (n3 : op ≠ [120, 111, 114]) (n4 : op ≠ [97, 100, 100]) (n5 : op ≠ [98, 110, 101]) (n6 : op ≠ [102, 101, 110, 99, 101]) (l : List Tx) (a : Option Addr) (c : Nat) (w : World) (h : Txs w a l) (hs : Sm l) : Calls Tryz.prog 44 #[.string (tx op), .slice a l.length c] w (Rd (readI op l) w) := by
  have z0 := tx_ne _ _ n0
  have z1 := tx_ne _ _ n1
  have z2 := tx_ne _ _ n2
  have z3 := tx_ne _ _ n3
  have z4 := tx_ne _ _ n4
  have z5 := tx_ne _ _ n5
  have z6 := tx_ne _ _ n6
  have HO := hid (fun l => read_none3 n0 n1 n2 n3 n4 n5 n6 l)
  obtain ⟨r, hr⟩ : ∃ r, readI op l = r := ⟨_, rfl⟩
  rw [hr]
  have HR := hid hr
  obtain ⟨n, hn⟩ : ∃ n, l.length = n := ⟨_, rfl⟩
  have HN := hid hn
  have HS := hid hs
  have HT := hid h
  rw [hn]
  have O0 := OpsW.start w l
  have HX := hid (fun (k : Nat) (hk : k < n) => show ∃ t, l[k]? = some t from ⟨_, List.getElem?_eq_getElem (by omega)⟩)
  have hix := h.idx
  rw [hn] at hix
  have HI := hid hix
  have HB := hid (by have := h.len; omega : n ≤ 1000000000000000000)
  clear hr hn hs hix h n0 n1 n2 n3 n4 n5 n6
  go_enter Tryz.func44, Tryz.ntmps44
  go_wp2_with fail
  go_loopw [10] (fun i wr => ∃ k : Nat, k ≤ 3 ∧ k ≤ n ∧ i = .int .i64 k ∧ OpsW w wr l k) (fun i _ => 3 - (intOf i).toNat)
  case atStart => exact ⟨0, by omega, by omega, rfl, O0⟩
  case round =>
    clear O0
    obtain ⟨k, hk, hkn, rfl, O⟩ := hrel
    by_cases hlt : k < n ∧ k < 3
    · obtain ⟨hlt1, hlt2⟩ := hlt
      obtain ⟨t, ht⟩ := HX.out k hlt1
      have ix := HI.out k hlt1
      have ck := (HT.out.below O.bel).cellq ht
      have O2 := O.step hlt2 ht
      have hf2 := fun j => O.f (w.heap.size + 2) j (by omega) (by omega)
      have hf3 := fun j => O.f (w.heap.size + 3) j (by omega) (by omega)
      have hr0 := O.r 0 (by omega); have hr1 := O.r 1 (by omega); have hr2 := O.r 2 (by omega)
      have hs0 := O.s 0 (by omega); have hs1 := O.s 1 (by omega); have hs2 := O.s 2 (by omega)
      have hsz := O.size
      clear ht O
      have hk3 : k = 0 ∨ k = 1 ∨ k = 2 := by omega
      rcases hk3 with rfl | rfl | rfl
      · have ix0 : ∀ c w', (Instr.indexAt 67 (.slice a n c) (.int .i64 0)).run Tryz.prog w' = .ok (.pointer (some ⟨bk a, fo a, none⟩)) w' := ix
        have ck0 : wr.cell? ⟨bk a, fo a, none⟩ = some (.string (tx t)) := ck
        clear ix ck
        go_wp2_with (go_at_call 72; refine (refRegOf t _).mono ?_; rintro e w' ⟨rfl, rfl⟩)
        go_roundw
        case rel => exact ⟨_, by omega, by omega, by go_num, O2⟩
        case measure => simp [intOf] <;> omega
      · have ix0 : ∀ c w', (Instr.indexAt 67 (.slice a n c) (.int .i64 1)).run Tryz.prog w' = .ok (.pointer (some ⟨bk a, fo a + 1, none⟩)) w' := ix
        have ck0 : wr.cell? ⟨bk a, fo a + 1, none⟩ = some (.string (tx t)) := ck
        clear ix ck
        go_wp2_with (go_at_call 72; refine (refRegOf t _).mono ?_; rintro e w' ⟨rfl, rfl⟩)
        go_roundw
        case rel => exact ⟨_, by omega, by omega, by go_num, O2⟩
        case measure => simp [intOf] <;> omega
      · have ix0 : ∀ c w', (Instr.indexAt 67 (.slice a n c) (.int .i64 2)).run Tryz.prog w' = .ok (.pointer (some ⟨bk a, fo a + 2, none⟩)) w' := ix
        have ck0 : wr.cell? ⟨bk a, fo a + 2, none⟩ = some (.string (tx t)) := ck
        clear ix ck
        go_wp2_with (go_at_call 72; refine (refRegOf t _).mono ?_; rintro e w' ⟨rfl, rfl⟩)
        go_roundw
        case rel => exact ⟨_, by omega, by omega, by go_num, O2⟩
        case measure => simp [intOf] <;> omega
    · have hend : n ≤ k ∨ (k = 3 ∧ 3 < n) := by omega
      have B := O.bel
      have hsz := O.size
      have hf0 := fun j => O.f w.heap.size j (by omega) (by omega)
      clear hlt
      rcases hend with hge | ⟨rfl, h3n⟩
      · have hkn2 : k = n := by omega
        have d0 : wr.cell? ⟨w.heap.size, 0, none⟩ = some (.int .i64 0) := O.i0 0 (by omega)
        have d1 : wr.cell? ⟨w.heap.size, 1, none⟩ = some (.int .i64 0) := O.i0 1 (by omega)
        have d2 : wr.cell? ⟨w.heap.size, 2, none⟩ = some (.int .i64 0) := O.i0 2 (by omega)
        have d3 : wr.cell? ⟨w.heap.size, 3, none⟩ = some (.int .i64 0) := O.i0 3 (by omega)
        have d4 : wr.cell? ⟨w.heap.size, 4, none⟩ = some (.int .i64 0) := O.i0 4 (by omega)
        have d5 : wr.cell? ⟨w.heap.size, 5, none⟩ = some (.string ⟨#[]⟩) := O.i0 5 (by omega)
        have d6 : wr.cell? ⟨w.heap.size, 6, none⟩ = some (.string ⟨#[]⟩) := O.i0 6 (by omega)
        have d7 : wr.cell? ⟨w.heap.size, 7, none⟩ = some (.int .i64 0) := O.i0 7 (by omega)
        have e0 : wr.cell? ⟨w.heap.size + 1, 0, none⟩ = some (.int .i64 0) := O.i1 0 (by omega)
        have e1 : wr.cell? ⟨w.heap.size + 1, 1, none⟩ = some (.int .i64 0) := O.i1 1 (by omega)
        have e2 : wr.cell? ⟨w.heap.size + 1, 2, none⟩ = some (.int .i64 0) := O.i1 2 (by omega)
        have e3 : wr.cell? ⟨w.heap.size + 1, 3, none⟩ = some (.int .i64 0) := O.i1 3 (by omega)
        have e4 : wr.cell? ⟨w.heap.size + 1, 4, none⟩ = some (.int .i64 0) := O.i1 4 (by omega)
        have e5 : wr.cell? ⟨w.heap.size + 1, 5, none⟩ = some (.string ⟨#[]⟩) := O.i1 5 (by omega)
        have e6 : wr.cell? ⟨w.heap.size + 1, 6, none⟩ = some (.string ⟨#[]⟩) := O.i1 6 (by omega)
        have e7 : wr.cell? ⟨w.heap.size + 1, 7, none⟩ = some (.int .i64 0) := O.i1 7 (by omega)
        have HQ := hid (show r = none from HR.out.symm.trans (HO.out l))
        have HK := hid (show keepI ⟨0, 0, 0, 0, 0, [], [], 0⟩ false = r from HQ.out.symm)
        clear O HQ
        go_wp2_with fail
        exact bodyPost_ret (by simp [results, Tryz.results44, go_sem, d0, d1, d2, d3, d4, d5, d6, d7]) rfl (Rd.of ⟨rfl, (by repeat (first | with_reducible assumption | with_reducible exact Below.refl _ _ | with_reducible refine bel_alloc ?_ _ | with_reducible refine bel_drew ?_ | with_reducible refine bel_set ?_ (by dsimp only; omega) _))⟩ HK.out)
      · have d0 : wr.cell? ⟨w.heap.size, 0, none⟩ = some (.int .i64 0) := O.i0 0 (by omega)
        have d1 : wr.cell? ⟨w.heap.size, 1, none⟩ = some (.int .i64 0) := O.i0 1 (by omega)
        have d2 : wr.cell? ⟨w.heap.size, 2, none⟩ = some (.int .i64 0) := O.i0 2 (by omega)
        have d3 : wr.cell? ⟨w.heap.size, 3, none⟩ = some (.int .i64 0) := O.i0 3 (by omega)
        have d4 : wr.cell? ⟨w.heap.size, 4, none⟩ = some (.int .i64 0) := O.i0 4 (by omega)
        have d5 : wr.cell? ⟨w.heap.size, 5, none⟩ = some (.string ⟨#[]⟩) := O.i0 5 (by omega)
        have d6 : wr.cell? ⟨w.heap.size, 6, none⟩ = some (.string ⟨#[]⟩) := O.i0 6 (by omega)
        have d7 : wr.cell? ⟨w.heap.size, 7, none⟩ = some (.int .i64 0) := O.i0 7 (by omega)
        have e0 : wr.cell? ⟨w.heap.size + 1, 0, none⟩ = some (.int .i64 0) := O.i1 0 (by omega)
        have e1 : wr.cell? ⟨w.heap.size + 1, 1, none⟩ = some (.int .i64 0) := O.i1 1 (by omega)
        have e2 : wr.cell? ⟨w.heap.size + 1, 2, none⟩ = some (.int .i64 0) := O.i1 2 (by omega)
        have e3 : wr.cell? ⟨w.heap.size + 1, 3, none⟩ = some (.int .i64 0) := O.i1 3 (by omega)
        have e4 : wr.cell? ⟨w.heap.size + 1, 4, none⟩ = some (.int .i64 0) := O.i1 4 (by omega)
        have e5 : wr.cell? ⟨w.heap.size + 1, 5, none⟩ = some (.string ⟨#[]⟩) := O.i1 5 (by omega)
        have e6 : wr.cell? ⟨w.heap.size + 1, 6, none⟩ = some (.string ⟨#[]⟩) := O.i1 6 (by omega)
        have e7 : wr.cell? ⟨w.heap.size + 1, 7, none⟩ = some (.int .i64 0) := O.i1 7 (by omega)
        have HQ := hid (show r = none from HR.out.symm.trans (HO.out l))
        have HK := hid (show keepI ⟨0, 0, 0, 0, 0, [], [], 0⟩ false = r from HQ.out.symm)
        clear O HQ
        go_wp2_with fail
        exact bodyPost_ret (by simp [results, Tryz.results44, go_sem, d0, d1, d2, d3, d4, d5, d6, d7]) rfl (Rd.of ⟨rfl, (by repeat (first | with_reducible assumption | with_reducible exact Below.refl _ _ | with_reducible refine bel_alloc ?_ _ | with_reducible refine bel_drew ?_ | with_reducible refine bel_set ?_ (by dsimp only; omega) _))⟩ HK.out)
end Go.Proofs.YtigimkgmghjgoaaGreatDoor

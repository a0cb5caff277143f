/- The walks of operands (of any operation) and Parse (the document's answer). Conditions: texts in memory as read, of lengths that an int holds. -/
import Derived.Test.YtigimkgmghjgoaaGreatDoorS9q
import Derived.Test.YtigimkgmghjgoaaGreatDoorS9xor
import Derived.Test.YtigimkgmghjgoaaGreatDoorS9add
import Derived.Test.YtigimkgmghjgoaaGreatDoorS9bne
import Derived.Test.YtigimkgmghjgoaaGreatDoorS5
import Derived.Test.YtigimkgmghjgoaaGreatDoorR14
namespace Go.Proofs.YtigimkgmghjgoaaGreatDoor
open Go.RowKit
set_option linter.unusedVariables false

theorem refOperands (op : Tx) (l : List Tx) (a : Option Addr) (c : Nat) (w : World) (h : Txs w a l) (hs : Sm l) : Calls Tryz.prog 44 #[.string (tx op), .slice a l.length c] w (Rd (readI op l) w) := by
  by_cases h1 : op = [108, 119]
  · subst h1; exact refOperands_lw l a c w h hs
  by_cases h2 : op = [115, 119]
  · subst h2; exact refOperands_sw l a c w h hs
  by_cases h3 : op = [111, 114, 105]
  · subst h3; exact refOperands_ori l a c w h hs
  by_cases h4 : op = [120, 111, 114]
  · subst h4; exact refOperands_xor l a c w h hs
  by_cases h5 : op = [97, 100, 100]
  · subst h5; exact refOperands_add l a c w h hs
  by_cases h6 : op = [98, 110, 101]
  · subst h6; exact refOperands_bne l a c w h hs
  by_cases h7 : op = [102, 101, 110, 99, 101]
  · subst h7; exact refOperands_fence l a c w h hs
  exact refOperands_other op h1 h2 h3 h4 h5 h6 h7 l a c w h hs

attribute [local go_sem high] eqI neqI

abbrev W2 (w : World) : World := (w.alloc zeroI).alloc zeroI
theorem fresh16 {w w' : World} (h : Below (W2 w).heap.size (W2 w) w') :
    (w'.cell? ⟨w.heap.size, 0, none⟩ = some (.int .i64 0) ∧ w'.cell? ⟨w.heap.size, 1, none⟩ = some (.int .i64 0) ∧ w'.cell? ⟨w.heap.size, 2, none⟩ = some (.int .i64 0) ∧ w'.cell? ⟨w.heap.size, 3, none⟩ = some (.int .i64 0) ∧ w'.cell? ⟨w.heap.size, 4, none⟩ = some (.int .i64 0) ∧ w'.cell? ⟨w.heap.size, 5, none⟩ = some (.string ⟨#[]⟩) ∧ w'.cell? ⟨w.heap.size, 6, none⟩ = some (.string ⟨#[]⟩) ∧ w'.cell? ⟨w.heap.size, 7, none⟩ = some (.int .i64 0)) ∧
    (w'.cell? ⟨w.heap.size + 1, 0, none⟩ = some (.int .i64 0) ∧ w'.cell? ⟨w.heap.size + 1, 1, none⟩ = some (.int .i64 0) ∧ w'.cell? ⟨w.heap.size + 1, 2, none⟩ = some (.int .i64 0) ∧ w'.cell? ⟨w.heap.size + 1, 3, none⟩ = some (.int .i64 0) ∧ w'.cell? ⟨w.heap.size + 1, 4, none⟩ = some (.int .i64 0) ∧ w'.cell? ⟨w.heap.size + 1, 5, none⟩ = some (.string ⟨#[]⟩) ∧ w'.cell? ⟨w.heap.size + 1, 6, none⟩ = some (.string ⟨#[]⟩) ∧ w'.cell? ⟨w.heap.size + 1, 7, none⟩ = some (.int .i64 0)) ∧
    (∀ k, w'.frozen? ⟨w.heap.size, k, none⟩ = false) ∧ w.heap.size + 1 < w'.heap.size ∧ Below w.heap.size w w' := by
  obtain ⟨d, f, -, B⟩ := fresh8 (ext_trans (al (w.alloc zeroI) zeroI) h)
  obtain ⟨e, -, hlt, -⟩ := fresh8 (w := w.alloc zeroI) h
  have hs : (w.alloc zeroI).heap.size = w.heap.size + 1 := by simp
  rw [hs] at e hlt
  exact ⟨d, e, f, hlt, B⟩
theorem refTrim' (s : Tx) (hs : s.length ≤ 9223372036854775807) (w : World) : Calls Tryz.prog 42 #[.string (tx s)] w (Ret w (.string (tx (trimT s)))) :=
  (refTrim s hs w).mono fun e w' hh => ⟨hh.1, by rw [← hh.2]; exact Below.refl _ _⟩
set_option maxRecDepth 100000 in
set_option maxHeartbeats 3200000 in
theorem refParse_long (s : Tx) (hl : 262144 < s.length) (w : World) : Calls Tryz.prog 13 #[.string (tx s)] w (RetP (parseI s) w) := by
  obtain ⟨r, hr⟩ : ∃ r, parseI s = r := ⟨_, rfl⟩
  rw [hr]
  have HK := hid (show r = none by rw [← hr]; unfold parseI; rw [if_pos hl])
  obtain ⟨n, hn⟩ : ∃ n, (tx s).size = n := ⟨_, rfl⟩
  have hz : decide (262144 < (n : Int)) = true := by rw [← hn, tx_size]; simp; omega
  clear hr hl
  go_enter Tryz.func13, Tryz.ntmps13
  go_wp2_with fail
  exact bodyPost_ret (by simp [results, Tryz.results13, go_sem]) rfl (RetP.no HK.out rfl (by repeat (first | with_reducible assumption | with_reducible exact Below.refl _ _ | with_reducible refine bel_alloc ?_ _ | with_reducible refine bel_drew ?_ | with_reducible refine bel_set ?_ (by dsimp only; omega) _)))
set_option maxRecDepth 100000 in
set_option maxHeartbeats 3200000 in
theorem refParse_tso (s : Tx) (hl : s.length ≤ 262144) (ht : trimT s = [102, 101, 110, 99, 101, 46, 116, 115, 111]) (w : World) : Calls Tryz.prog 13 #[.string (tx s)] w (RetP (parseI s) w) := by
  obtain ⟨r, hr⟩ : ∃ r, parseI s = r := ⟨_, rfl⟩
  rw [hr]
  have HK := hid (show r = some ⟨13, 0, 0, 0, 0, [], [], 2⟩ by rw [← hr]; unfold parseI; rw [if_neg (by omega)]; simp only [ht]; rw [if_pos trivial])
  obtain ⟨n, hn⟩ : ∃ n, (tx s).size = n := ⟨_, rfl⟩
  have hnl : n = s.length := by rw [← hn, tx_size]
  have hz : decide (262144 < (n : Int)) = false := by simp; omega
  have TR := hid (fun (w : World) => refTrim' s (by omega) w)
  rw [ht] at TR
  have z : ((tx [102, 101, 110, 99, 101, 46, 116, 115, 111]).toList == [102, 101, 110, 99, 101, 46, 116, 115, 111]) = true := by rw [tx_toList]; rfl
  clear hr hl hnl ht
  go_enter Tryz.func13, Tryz.ntmps13
  go_wp2_with fail
  refine (TR.out _).mono ?_
  rintro e w1 ⟨rfl, E⟩
  obtain ⟨⟨d0, d1, d2, d3, d4, d5, d6, d7⟩, ⟨e0, e1, e2, e3, e4, e5, e6, e7⟩, hf, hlt, B⟩ := fresh16 E
  clear E
  go_wp2_with fail
  exact bodyPost_ret (by simp [results, Tryz.results13, go_sem, d0, d1, d2, d3, d4, d5, d6, d7]) rfl (RetP.yes0 HK.out rfl (by repeat (first | with_reducible assumption | with_reducible exact Below.refl _ _ | with_reducible refine bel_alloc ?_ _ | with_reducible refine bel_drew ?_ | with_reducible refine bel_set ?_ (by dsimp only; omega) _)))
set_option maxRecDepth 100000 in
set_option maxHeartbeats 6400000 in
theorem refParse_label (s t : Tx) (hl : s.length ≤ 262144) (ht : trimT s = t) (h1 : t ≠ [102, 101, 110, 99, 101, 46, 116, 115, 111]) (h2 : t.getLast? = some 58) (w : World) : Calls Tryz.prog 13 #[.string (tx s)] w (RetP (parseI s) w) := by
  obtain ⟨r, hr⟩ : ∃ r, parseI s = r := ⟨_, rfl⟩
  rw [hr]
  have HK := hid (show r = if nameB (trimT t.dropLast) then some ⟨12, 0, 0, 0, 0, [], trimT t.dropLast, 0⟩ else none by rw [← hr]; unfold parseI; rw [if_neg (by omega)]; simp only [ht]; rw [if_neg h1, if_pos h2])
  obtain ⟨n, hn⟩ : ∃ n, (tx s).size = n := ⟨_, rfl⟩
  have hnl : n = s.length := by rw [← hn, tx_size]
  have hz : decide (262144 < (n : Int)) = false := by simp; omega
  have TR := hid (fun (w : World) => refTrim' s (by omega) w)
  rw [ht] at TR
  have htl := trimT_length s
  rw [ht] at htl
  have z : ((tx t).toList == [102, 101, 110, 99, 101, 46, 116, 115, 111]) = false := tx_ne _ _ h1
  obtain ⟨m, hm⟩ : ∃ m, t.length = m := ⟨_, rfl⟩
  have htm : (tx t).size = m := by rw [tx_size, hm]
  have hm1 : 1 ≤ m := by
    rcases Nat.eq_zero_or_pos m with h0 | h0
    · rw [h0] at hm; have := List.eq_nil_of_length_eq_zero hm; rw [this] at h2; cases h2
    · exact h0
  have ix : ∀ w, (Instr.index 9 (.string (tx t)) (.int .i64 ((m : Int) - 1))).run Tryz.prog w = .ok (.int .u8 (58 : UInt8).toNat) w := by
    have := run_ix t (m - 1) 58 (by rw [← h2, List.getLast?_eq_getElem?, hm])
    rwa [show ((m - 1 : Nat) : Int) = (m : Int) - 1 by omega] at this
  have z58 : (((58 : UInt8).toNat : Int) == 58) = true := by decide
  have sl : ∀ w, (Instr.sliceAt 9 (.string (tx t)) none (some (.int .i64 ((m : Int) - 1))) none).run Tryz.prog w = .ok (.string (tx t.dropLast)) w := by
    have := run_strto t (m - 1) (by omega)
    rwa [show ((m - 1 : Nat) : Int) = (m : Int) - 1 by omega, show t.take (m - 1) = t.dropLast by rw [List.dropLast_eq_take, hm]] at this
  have T2 := hid (fun (w : World) => refTrim' t.dropLast (by simp; omega) w)
  have hll := trimT_length t.dropLast
  have hmb : m ≤ 262144 := by omega
  rw [List.length_dropLast, hm] at hll
  generalize t.dropLast = u at *
  generalize trimT u = lb at *
  have CK := hid (fun (w : World) => refCheck ⟨12, 0, 0, 0, 0, [], lb, 0⟩ (by simp; omega) w)
  clear hr hl hnl ht h2 h1 hm htl
  by_cases hnm : nameB lb = true
  · skip
    have hE := errI_yes (i := ⟨12, 0, 0, 0, 0, [], lb, 0⟩) (by rw [check_label]; exact hnm)
    rw [if_pos hnm] at HK
    rw [hE] at CK
    clear hE hnm
    go_enter Tryz.func13, Tryz.ntmps13
    go_wp2_with fail
    refine (TR.out _).mono ?_
    rintro e w1 ⟨rfl, E⟩
    go_wp2_with fail
    refine (T2.out _).mono ?_
    rintro e w3 ⟨rfl, E3⟩
    have E := ext_trans E E3
    go_wp2_with fail
    refine (CK.out _).mono ?_
    rintro e w4 ⟨rfl, E4⟩
    obtain ⟨⟨f0, f1, f2, f3, f4, f5, f6, f7⟩, hf2, hlt2, B2⟩ := freshV E4
    have E := ext_trans E B2
    obtain ⟨⟨d0, d1, d2, d3, d4, d5, d6, d7⟩, ⟨e0, e1, e2, e3, e4, e5, e6, e7⟩, hf, hlt, B⟩ := fresh16 E
    clear E E3 E4 B2
    go_wp2_with fail
    exact bodyPost_ret (by simp [results, Tryz.results13, go_sem, d0, d1, d2, d3, d4, d5, d6, d7]) rfl (RetP.yes HK.out rfl (by repeat (first | with_reducible assumption | with_reducible exact Below.refl _ _ | with_reducible refine bel_alloc ?_ _ | with_reducible refine bel_drew ?_ | with_reducible refine bel_set ?_ (by dsimp only; omega) _)))
  · skip
    have hE := errI_no (i := ⟨12, 0, 0, 0, 0, [], lb, 0⟩) (by rw [check_label]; simpa using hnm)
    rw [if_neg hnm] at HK
    rw [hE] at CK
    clear hE hnm
    go_enter Tryz.func13, Tryz.ntmps13
    go_wp2_with fail
    refine (TR.out _).mono ?_
    rintro e w1 ⟨rfl, E⟩
    go_wp2_with fail
    refine (T2.out _).mono ?_
    rintro e w3 ⟨rfl, E3⟩
    have E := ext_trans E E3
    go_wp2_with fail
    refine (CK.out _).mono ?_
    rintro e w4 ⟨rfl, E4⟩
    obtain ⟨⟨f0, f1, f2, f3, f4, f5, f6, f7⟩, hf2, hlt2, B2⟩ := freshV E4
    have E := ext_trans E B2
    obtain ⟨⟨d0, d1, d2, d3, d4, d5, d6, d7⟩, ⟨e0, e1, e2, e3, e4, e5, e6, e7⟩, hf, hlt, B⟩ := fresh16 E
    clear E E3 E4 B2
    go_wp2_with fail
    exact bodyPost_ret (by simp [results, Tryz.results13, go_sem, d0, d1, d2, d3, d4, d5, d6, d7]) rfl (RetP.no HK.out rfl (by repeat (first | with_reducible assumption | with_reducible exact Below.refl _ _ | with_reducible refine bel_alloc ?_ _ | with_reducible refine bel_drew ?_ | with_reducible refine bel_set ?_ (by dsimp only; omega) _)))
set_option maxRecDepth 100000 in
set_option maxHeartbeats 12800000 in
theorem refParse_op (s t : Tx) (hl : s.length ≤ 262144) (ht : trimT s = t) (h1 : t ≠ [102, 101, 110, 99, 101, 46, 116, 115, 111]) (h2 : ¬ t.getLast? = some 58) (w : World) : Calls Tryz.prog 13 #[.string (tx s)] w (RetP (parseI s) w) := by
  obtain ⟨r, hr⟩ : ∃ r, parseI s = r := ⟨_, rfl⟩
  rw [hr]
  have HK := hid (show readI (t.takeWhile fun c => !blankC c) ((splitC 44 (t.dropWhile fun c => !blankC c)).map trimT) = r by rw [← hr]; unfold parseI; rw [if_neg (by omega)]; simp only [ht]; rw [if_neg h1, if_neg h2])
  obtain ⟨n, hn⟩ : ∃ n, (tx s).size = n := ⟨_, rfl⟩
  have hnl : n = s.length := by rw [← hn, tx_size]
  have hz : decide (262144 < (n : Int)) = false := by simp; omega
  have TR := hid (fun (w : World) => refTrim' s (by omega) w)
  rw [ht] at TR
  have htl := trimT_length s
  rw [ht] at htl
  have z : ((tx t).toList == [102, 101, 110, 99, 101, 46, 116, 115, 111]) = false := tx_ne _ _ h1
  obtain ⟨m, hm⟩ : ∃ m, t.length = m := ⟨_, rfl⟩
  have htm : (tx t).size = m := by rw [tx_size, hm]
  have hmb : m ≤ 262144 := by omega
  have HM := hid hm
  have HG : Hid (0 < m → ∃ x : UInt8, (∀ w, (Instr.index 9 (.string (tx t)) (.int .i64 ((m : Int) - 1))).run Tryz.prog w = .ok (.int .u8 x.toNat) w) ∧ ((x.toNat : Int) == 58) = false) := hid (fun h0 => by
    obtain ⟨x, hx⟩ : ∃ x, t[m - 1]? = some x := ⟨_, List.getElem?_eq_getElem (by omega)⟩
    refine ⟨x, ?_, u8_neq x 58 (fun e => h2 (by rw [List.getLast?_eq_getElem?, hm, hx, e]))⟩
    have := run_ix t (m - 1) x hx
    rwa [show ((m - 1 : Nat) : Int) = (m : Int) - 1 by omega] at this)
  clear hr hl hnl ht h2 h1 hm htl
  have HGC : m = 0 ∨ (0 < m ∧ ∃ x : UInt8, (∀ w, (Instr.index 9 (.string (tx t)) (.int .i64 ((m : Int) - 1))).run Tryz.prog w = .ok (.int .u8 x.toNat) w) ∧ ((x.toNat : Int) == 58) = false) := by
    rcases Nat.eq_zero_or_pos m with h | h
    · exact .inl h
    · exact .inr ⟨h, HG.out h⟩
  clear HG
  have LOOPPART := hid HGC
  clear HGC
  rcases LOOPPART.out with rfl | ⟨h0, x, hix, z58⟩
  · skip
    go_enter Tryz.func13, Tryz.ntmps13
    go_wp2_with fail
    refine (TR.out _).mono ?_
    rintro e w1 ⟨rfl, E⟩
    go_wp2_with fail
    go_loop [6] (fun i => ∃ k : Nat, k ≤ 0 ∧ i = .int .i64 k ∧ Hid (∀ (j : Nat) (c : UInt8), j < k → t[j]? = some c → blankC c = false)) (fun i => 0 - (intOf i).toNat)
    case atStart => exact ⟨0, by omega, rfl, fun j c hj => absurd hj (Nat.not_lt_zero j)⟩
    case round =>
      obtain ⟨k, hk, rfl, HB⟩ := hrel
      by_cases hend : k < 0 ∧ ∃ c, t[k]? = some c ∧ blankC c = false
      · obtain ⟨hlt, c, hc, hbc⟩ := hend
        omega
      · have hlen := takeWhile_len (fun c => !blankC c) t k (fun j c hj hc => by rw [HB.out j c hj hc]; rfl) (fun c hc => by
          have hlt := (List.getElem?_eq_some_iff.1 hc).1
          cases hb : blankC c with
          | true => rfl
          | false => exact absurd ⟨by have := HM.out; omega, c, hc, hb⟩ hend) (by have := HM.out; omega)
        have HK2 := HK.out
        rw [takeWhile_take, dropWhile_drop', hlen] at HK2
        have sl1 := run_strto t k (by have := HM.out; omega)
        have sl2 := run_strfrom t k (by have := HM.out; omega)
        have hsm : Sm ((splitC 44 (t.drop k)).map trimT) := splitC_sm 44 _ (by have := HM.out; simp; omega)
        have SP := hid (fun (w : World) => refSplit (t.drop k) 44 (by have := HM.out; simp; omega) w)
        have RD := hid (fun (a : Option Addr) (c : Nat) (w : World) (h : Txs w a ((splitC 44 (t.drop k)).map trimT)) => refOperands (t.take k) _ a c w h hsm)
        rw [HK2] at RD
        clear hsm HK2 HK hlen
        generalize (splitC 44 (t.drop k)).map trimT = ps at *
        generalize t.drop k = t2 at *
        generalize t.take k = t1 at *
        have hex : (k < 0 ∧ ∃ c, t[k]? = some c ∧ blankC c = true) ∨ k = 0 := by
          by_cases hkm : k < 0
          · left
            obtain ⟨c, hc⟩ : ∃ c, t[k]? = some c := ⟨_, List.getElem?_eq_getElem (by have := HM.out; omega)⟩
            refine ⟨hkm, c, hc, ?_⟩
            cases hb : blankC c with
            | true => rfl
            | false => exact absurd ⟨hkm, c, hc, hb⟩ hend
          · right; omega
        clear hend
        obtain rfl : k = 0 := by omega
        clear hex
        have sl3 : ∀ w, (Instr.sliceAt 9 (.string (tx t)) none (some (.int .i64 0)) none).run Tryz.prog w = .ok (.string (tx t1)) w := sl1
        have sl4 : ∀ w, (Instr.sliceAt 9 (.string (tx t)) (some (.int .i64 0)) none none).run Tryz.prog w = .ok (.string (tx t2)) w := sl2
        clear sl1 sl2
        · go_wp2_with fail
          go_cut [7, 8] (fun x y wx => ∃ (bb : Nat) (op d a1 b1 imm : Int) (label : Tx) (fence : Int) (ok : Bool), x = .pointer (some ⟨bb, 0, none⟩) ∧ y = .bool ok ∧ Hid (keepI ⟨op, d, a1, b1, imm, [], label, fence⟩ ok = r) ∧ label.length ≤ 1000000 ∧ BxI wx bb ⟨op, d, a1, b1, imm, [], label, fence⟩ ∧ Below (W2 w).heap.size (W2 w) wx)
          case first =>
            go_region_with (first | (go_at_call 45; refine (SP.out _).mono ?_; rintro e' w' ⟨a2, c2, rfl, tx2, E2⟩; have E5 := ext_trans (a := w1) (by repeat (first | with_reducible assumption | with_reducible exact Below.refl _ _ | with_reducible refine bel_alloc ?_ _ | with_reducible refine bel_drew ?_ | with_reducible refine bel_set ?_ (by dsimp only; omega) _)) E2; have s5 := E5.size) | (go_at_call 44; refine (RD.out _ _ _ (by first | exact tx2 | exact tx2.below (al _ _))).mono ?_; rintro e' w' ⟨op, d, a1, b, imm, label, fence, ok, rfl, hk, hl, E3⟩; have E6 := ext_trans (a := w1) (by first | exact E5 | exact bel_alloc E5 _) E3; have s6 := E6.size; first | (revert E3; with_reducible refine freshV_arrow ?_; intro E3 f0 f1 f2 f3 f4 f5 f6 f7 hf2 hlt2) | (have E23 := ext_trans E2 E3; revert E23; with_reducible refine freshV_drew ?_; intro E23 f0 f1 f2 f3 f4 f5 f6 f7 hf2 hlt2) | skip))
            all_goals
              go_wp2_with fail
              go_meet
              refine ⟨_, op, d, a1, b, imm, label, fence, ok, rfl, rfl, hk, hl, BxI.of8 rfl ?_ ?_ ?_ ?_ ?_ ?_ ?_ ?_ ?_, ext_trans E (by repeat (first | with_reducible assumption | with_reducible exact Below.refl _ _ | with_reducible refine bel_alloc ?_ _ | with_reducible refine bel_drew ?_ | with_reducible refine bel_set ?_ (by dsimp only; omega) _))⟩
              all_goals go_simp
          case rest =>
            clear E
            obtain ⟨bb, op, d, a1, b1, imm, label, fence, ok, rfl, rfl, hkk, hl, bx, E⟩ := hcut
            have CK := hid (fun (w : World) => refCheck ⟨op, d, a1, b1, imm, [], label, fence⟩ (by simp; omega) w)
            obtain ⟨q0, q1, q2, q3, q4, q5, q6, q7⟩ := bx.cells
            cases ok
            · obtain ⟨⟨d0, d1, d2, d3, d4, d5, d6, d7⟩, ⟨e0, e1, e2, e3, e4, e5, e6, e7⟩, hf, hlt, B⟩ := fresh16 E
              have HN := hid (show r = none from hkk.out.symm)
              clear E q0 q1 q2 q3 q4 q5 q6 q7 bx
              go_wp2_with fail
              exact bodyPost_ret (by simp [results, Tryz.results13, go_sem, d0, d1, d2, d3, d4, d5, d6, d7]) rfl (RetP.no HN.out rfl (by repeat (first | with_reducible assumption | with_reducible exact Below.refl _ _ | with_reducible refine bel_alloc ?_ _ | with_reducible refine bel_drew ?_ | with_reducible refine bel_set ?_ (by dsimp only; omega) _)))
            · cases hck : checkI ⟨op, d, a1, b1, imm, [], label, fence⟩
              · have hE := errI_no hck
                have HN := hid (show r = none by rw [← hkk.out]; unfold keepI; rw [hck]; rfl)
                rw [hE] at CK
                clear hE hck
                go_wp2_with fail
                refine (CK.out _).mono ?_
                rintro e w9 ⟨rfl, E4⟩
                have E := E.trans (E4.mono E.size)
                obtain ⟨⟨d0, d1, d2, d3, d4, d5, d6, d7⟩, ⟨e0, e1, e2, e3, e4, e5, e6, e7⟩, hf, hlt, B⟩ := fresh16 E
                clear E E4 q0 q1 q2 q3 q4 q5 q6 q7 bx
                go_wp2_with fail
                exact bodyPost_ret (by simp [results, Tryz.results13, go_sem, d0, d1, d2, d3, d4, d5, d6, d7]) rfl (RetP.no HN.out rfl (by repeat (first | with_reducible assumption | with_reducible exact Below.refl _ _ | with_reducible refine bel_alloc ?_ _ | with_reducible refine bel_drew ?_ | with_reducible refine bel_set ?_ (by dsimp only; omega) _)))
              · have hE := errI_yes hck
                have HN := hid (show r = some ⟨op, d, a1, b1, imm, [], label, fence⟩ by rw [← hkk.out]; unfold keepI; rw [hck]; rfl)
                rw [hE] at CK
                clear hE hck
                go_wp2_with fail
                refine (CK.out _).mono ?_
                rintro e w9 ⟨rfl, E4⟩
                have E := E.trans (E4.mono E.size)
                have bx := bx.below E4
                clear q0 q1 q2 q3 q4 q5 q6 q7
                obtain ⟨q0, q1, q2, q3, q4, q5', q6, q7⟩ := bx.cells
                have q5 : w9.cell? ⟨bb, 5, none⟩ = some (.string ⟨#[]⟩) := q5'
                clear q5'
                obtain ⟨⟨d0, d1, d2, d3, d4, d5, d6, d7⟩, ⟨e0, e1, e2, e3, e4, e5, e6, e7⟩, hf, hlt, B⟩ := fresh16 E
                clear E E4 bx
                go_wp2_with fail
                exact bodyPost_ret (by simp [results, Tryz.results13, go_sem, d0, d1, d2, d3, d4, d5, d6, d7]) rfl (RetP.yes HN.out rfl (by repeat (first | with_reducible assumption | with_reducible exact Below.refl _ _ | with_reducible refine bel_alloc ?_ _ | with_reducible refine bel_drew ?_ | with_reducible refine bel_set ?_ (by dsimp only; omega) _)))
  · skip
    go_enter Tryz.func13, Tryz.ntmps13
    go_wp2_with fail
    refine (TR.out _).mono ?_
    rintro e w1 ⟨rfl, E⟩
    go_wp2_with fail
    go_loop [6] (fun i => ∃ k : Nat, k ≤ m ∧ i = .int .i64 k ∧ Hid (∀ (j : Nat) (c : UInt8), j < k → t[j]? = some c → blankC c = false)) (fun i => m - (intOf i).toNat)
    case atStart => exact ⟨0, by omega, rfl, fun j c hj => absurd hj (Nat.not_lt_zero j)⟩
    case round =>
      obtain ⟨k, hk, rfl, HB⟩ := hrel
      by_cases hend : k < m ∧ ∃ c, t[k]? = some c ∧ blankC c = false
      · obtain ⟨hlt, c, hc, hbc⟩ := hend
        have ix := run_ix t k c hc
        have HB2 := hid (show ∀ (j : Nat) (c : UInt8), j < k + 1 → t[j]? = some c → blankC c = false from fun j c' hj hc' => by
          rcases Nat.lt_succ_iff_lt_or_eq.1 hj with h | h
          · exact HB.out j c' h hc'
          · subst h; rw [hc] at hc'; cases hc'; exact hbc)
        have HC := hid hbc
        clear hc hbc
        go_wp2_with (go_at_call 43; refine (refBlank c _).mono ?_; rintro e w' ⟨rfl, rfl⟩; rw [HC.out])
        go_round
        case rel => exact ⟨k + 1, by omega, by go_num, HB2⟩
        case measure => simp [intOf]; omega
      · have hlen := takeWhile_len (fun c => !blankC c) t k (fun j c hj hc => by rw [HB.out j c hj hc]; rfl) (fun c hc => by
          have hlt := (List.getElem?_eq_some_iff.1 hc).1
          cases hb : blankC c with
          | true => rfl
          | false => exact absurd ⟨by have := HM.out; omega, c, hc, hb⟩ hend) (by have := HM.out; omega)
        have HK2 := HK.out
        rw [takeWhile_take, dropWhile_drop', hlen] at HK2
        have sl1 := run_strto t k (by have := HM.out; omega)
        have sl2 := run_strfrom t k (by have := HM.out; omega)
        have hsm : Sm ((splitC 44 (t.drop k)).map trimT) := splitC_sm 44 _ (by have := HM.out; simp; omega)
        have SP := hid (fun (w : World) => refSplit (t.drop k) 44 (by have := HM.out; simp; omega) w)
        have RD := hid (fun (a : Option Addr) (c : Nat) (w : World) (h : Txs w a ((splitC 44 (t.drop k)).map trimT)) => refOperands (t.take k) _ a c w h hsm)
        rw [HK2] at RD
        clear hsm HK2 HK hlen
        generalize (splitC 44 (t.drop k)).map trimT = ps at *
        generalize t.drop k = t2 at *
        generalize t.take k = t1 at *
        have hex : (k < m ∧ ∃ c, t[k]? = some c ∧ blankC c = true) ∨ k = m := by
          by_cases hkm : k < m
          · left
            obtain ⟨c, hc⟩ : ∃ c, t[k]? = some c := ⟨_, List.getElem?_eq_getElem (by have := HM.out; omega)⟩
            refine ⟨hkm, c, hc, ?_⟩
            cases hb : blankC c with
            | true => rfl
            | false => exact absurd ⟨hkm, c, hc, hb⟩ hend
          · right; omega
        clear hend
        rcases hex with ⟨hlt, c, hc, hbc⟩ | rfl
        · have ix := run_ix t k c hc
          have HC := hid hbc
          clear hc hbc
          go_wp2_with (go_at_call 43; refine (refBlank c _).mono ?_; rintro e w' ⟨rfl, rfl⟩; rw [HC.out])
          go_cut [7, 8] (fun x y wx => ∃ (bb : Nat) (op d a1 b1 imm : Int) (label : Tx) (fence : Int) (ok : Bool), x = .pointer (some ⟨bb, 0, none⟩) ∧ y = .bool ok ∧ Hid (keepI ⟨op, d, a1, b1, imm, [], label, fence⟩ ok = r) ∧ label.length ≤ 1000000 ∧ BxI wx bb ⟨op, d, a1, b1, imm, [], label, fence⟩ ∧ Below (W2 w).heap.size (W2 w) wx)
          case first =>
            go_region_with (first | (go_at_call 45; refine (SP.out _).mono ?_; rintro e' w' ⟨a2, c2, rfl, tx2, E2⟩; have E5 := ext_trans (a := w1) (by repeat (first | with_reducible assumption | with_reducible exact Below.refl _ _ | with_reducible refine bel_alloc ?_ _ | with_reducible refine bel_drew ?_ | with_reducible refine bel_set ?_ (by dsimp only; omega) _)) E2; have s5 := E5.size) | (go_at_call 44; refine (RD.out _ _ _ (by first | exact tx2 | exact tx2.below (al _ _))).mono ?_; rintro e' w' ⟨op, d, a1, b, imm, label, fence, ok, rfl, hk, hl, E3⟩; have E6 := ext_trans (a := w1) (by first | exact E5 | exact bel_alloc E5 _) E3; have s6 := E6.size; first | (revert E3; with_reducible refine freshV_arrow ?_; intro E3 f0 f1 f2 f3 f4 f5 f6 f7 hf2 hlt2) | (have E23 := ext_trans E2 E3; revert E23; with_reducible refine freshV_drew ?_; intro E23 f0 f1 f2 f3 f4 f5 f6 f7 hf2 hlt2) | skip))
            all_goals
              go_wp2_with fail
              go_meet
              refine ⟨_, op, d, a1, b, imm, label, fence, ok, rfl, rfl, hk, hl, BxI.of8 rfl ?_ ?_ ?_ ?_ ?_ ?_ ?_ ?_ ?_, ext_trans E (by repeat (first | with_reducible assumption | with_reducible exact Below.refl _ _ | with_reducible refine bel_alloc ?_ _ | with_reducible refine bel_drew ?_ | with_reducible refine bel_set ?_ (by dsimp only; omega) _))⟩
              all_goals go_simp
          case rest =>
            clear E
            obtain ⟨bb, op, d, a1, b1, imm, label, fence, ok, rfl, rfl, hkk, hl, bx, E⟩ := hcut
            have CK := hid (fun (w : World) => refCheck ⟨op, d, a1, b1, imm, [], label, fence⟩ (by simp; omega) w)
            obtain ⟨q0, q1, q2, q3, q4, q5, q6, q7⟩ := bx.cells
            cases ok
            · obtain ⟨⟨d0, d1, d2, d3, d4, d5, d6, d7⟩, ⟨e0, e1, e2, e3, e4, e5, e6, e7⟩, hf, hlt, B⟩ := fresh16 E
              have HN := hid (show r = none from hkk.out.symm)
              clear E q0 q1 q2 q3 q4 q5 q6 q7 bx
              go_wp2_with fail
              exact bodyPost_ret (by simp [results, Tryz.results13, go_sem, d0, d1, d2, d3, d4, d5, d6, d7]) rfl (RetP.no HN.out rfl (by repeat (first | with_reducible assumption | with_reducible exact Below.refl _ _ | with_reducible refine bel_alloc ?_ _ | with_reducible refine bel_drew ?_ | with_reducible refine bel_set ?_ (by dsimp only; omega) _)))
            · cases hck : checkI ⟨op, d, a1, b1, imm, [], label, fence⟩
              · have hE := errI_no hck
                have HN := hid (show r = none by rw [← hkk.out]; unfold keepI; rw [hck]; rfl)
                rw [hE] at CK
                clear hE hck
                go_wp2_with fail
                refine (CK.out _).mono ?_
                rintro e w9 ⟨rfl, E4⟩
                have E := E.trans (E4.mono E.size)
                obtain ⟨⟨d0, d1, d2, d3, d4, d5, d6, d7⟩, ⟨e0, e1, e2, e3, e4, e5, e6, e7⟩, hf, hlt, B⟩ := fresh16 E
                clear E E4 q0 q1 q2 q3 q4 q5 q6 q7 bx
                go_wp2_with fail
                exact bodyPost_ret (by simp [results, Tryz.results13, go_sem, d0, d1, d2, d3, d4, d5, d6, d7]) rfl (RetP.no HN.out rfl (by repeat (first | with_reducible assumption | with_reducible exact Below.refl _ _ | with_reducible refine bel_alloc ?_ _ | with_reducible refine bel_drew ?_ | with_reducible refine bel_set ?_ (by dsimp only; omega) _)))
              · have hE := errI_yes hck
                have HN := hid (show r = some ⟨op, d, a1, b1, imm, [], label, fence⟩ by rw [← hkk.out]; unfold keepI; rw [hck]; rfl)
                rw [hE] at CK
                clear hE hck
                go_wp2_with fail
                refine (CK.out _).mono ?_
                rintro e w9 ⟨rfl, E4⟩
                have E := E.trans (E4.mono E.size)
                have bx := bx.below E4
                clear q0 q1 q2 q3 q4 q5 q6 q7
                obtain ⟨q0, q1, q2, q3, q4, q5', q6, q7⟩ := bx.cells
                have q5 : w9.cell? ⟨bb, 5, none⟩ = some (.string ⟨#[]⟩) := q5'
                clear q5'
                obtain ⟨⟨d0, d1, d2, d3, d4, d5, d6, d7⟩, ⟨e0, e1, e2, e3, e4, e5, e6, e7⟩, hf, hlt, B⟩ := fresh16 E
                clear E E4 bx
                go_wp2_with fail
                exact bodyPost_ret (by simp [results, Tryz.results13, go_sem, d0, d1, d2, d3, d4, d5, d6, d7]) rfl (RetP.yes HN.out rfl (by repeat (first | with_reducible assumption | with_reducible exact Below.refl _ _ | with_reducible refine bel_alloc ?_ _ | with_reducible refine bel_drew ?_ | with_reducible refine bel_set ?_ (by dsimp only; omega) _)))
        · go_wp2_with fail
          go_cut [7, 8] (fun x y wx => ∃ (bb : Nat) (op d a1 b1 imm : Int) (label : Tx) (fence : Int) (ok : Bool), x = .pointer (some ⟨bb, 0, none⟩) ∧ y = .bool ok ∧ Hid (keepI ⟨op, d, a1, b1, imm, [], label, fence⟩ ok = r) ∧ label.length ≤ 1000000 ∧ BxI wx bb ⟨op, d, a1, b1, imm, [], label, fence⟩ ∧ Below (W2 w).heap.size (W2 w) wx)
          case first =>
            go_region_with (first | (go_at_call 45; refine (SP.out _).mono ?_; rintro e' w' ⟨a2, c2, rfl, tx2, E2⟩; have E5 := ext_trans (a := w1) (by repeat (first | with_reducible assumption | with_reducible exact Below.refl _ _ | with_reducible refine bel_alloc ?_ _ | with_reducible refine bel_drew ?_ | with_reducible refine bel_set ?_ (by dsimp only; omega) _)) E2; have s5 := E5.size) | (go_at_call 44; refine (RD.out _ _ _ (by first | exact tx2 | exact tx2.below (al _ _))).mono ?_; rintro e' w' ⟨op, d, a1, b, imm, label, fence, ok, rfl, hk, hl, E3⟩; have E6 := ext_trans (a := w1) (by first | exact E5 | exact bel_alloc E5 _) E3; have s6 := E6.size; first | (revert E3; with_reducible refine freshV_arrow ?_; intro E3 f0 f1 f2 f3 f4 f5 f6 f7 hf2 hlt2) | (have E23 := ext_trans E2 E3; revert E23; with_reducible refine freshV_drew ?_; intro E23 f0 f1 f2 f3 f4 f5 f6 f7 hf2 hlt2) | skip))
            all_goals
              go_wp2_with fail
              go_meet
              refine ⟨_, op, d, a1, b, imm, label, fence, ok, rfl, rfl, hk, hl, BxI.of8 rfl ?_ ?_ ?_ ?_ ?_ ?_ ?_ ?_ ?_, ext_trans E (by repeat (first | with_reducible assumption | with_reducible exact Below.refl _ _ | with_reducible refine bel_alloc ?_ _ | with_reducible refine bel_drew ?_ | with_reducible refine bel_set ?_ (by dsimp only; omega) _))⟩
              all_goals go_simp
          case rest =>
            clear E
            obtain ⟨bb, op, d, a1, b1, imm, label, fence, ok, rfl, rfl, hkk, hl, bx, E⟩ := hcut
            have CK := hid (fun (w : World) => refCheck ⟨op, d, a1, b1, imm, [], label, fence⟩ (by simp; omega) w)
            obtain ⟨q0, q1, q2, q3, q4, q5, q6, q7⟩ := bx.cells
            cases ok
            · obtain ⟨⟨d0, d1, d2, d3, d4, d5, d6, d7⟩, ⟨e0, e1, e2, e3, e4, e5, e6, e7⟩, hf, hlt, B⟩ := fresh16 E
              have HN := hid (show r = none from hkk.out.symm)
              clear E q0 q1 q2 q3 q4 q5 q6 q7 bx
              go_wp2_with fail
              exact bodyPost_ret (by simp [results, Tryz.results13, go_sem, d0, d1, d2, d3, d4, d5, d6, d7]) rfl (RetP.no HN.out rfl (by repeat (first | with_reducible assumption | with_reducible exact Below.refl _ _ | with_reducible refine bel_alloc ?_ _ | with_reducible refine bel_drew ?_ | with_reducible refine bel_set ?_ (by dsimp only; omega) _)))
            · cases hck : checkI ⟨op, d, a1, b1, imm, [], label, fence⟩
              · have hE := errI_no hck
                have HN := hid (show r = none by rw [← hkk.out]; unfold keepI; rw [hck]; rfl)
                rw [hE] at CK
                clear hE hck
                go_wp2_with fail
                refine (CK.out _).mono ?_
                rintro e w9 ⟨rfl, E4⟩
                have E := E.trans (E4.mono E.size)
                obtain ⟨⟨d0, d1, d2, d3, d4, d5, d6, d7⟩, ⟨e0, e1, e2, e3, e4, e5, e6, e7⟩, hf, hlt, B⟩ := fresh16 E
                clear E E4 q0 q1 q2 q3 q4 q5 q6 q7 bx
                go_wp2_with fail
                exact bodyPost_ret (by simp [results, Tryz.results13, go_sem, d0, d1, d2, d3, d4, d5, d6, d7]) rfl (RetP.no HN.out rfl (by repeat (first | with_reducible assumption | with_reducible exact Below.refl _ _ | with_reducible refine bel_alloc ?_ _ | with_reducible refine bel_drew ?_ | with_reducible refine bel_set ?_ (by dsimp only; omega) _)))
              · have hE := errI_yes hck
                have HN := hid (show r = some ⟨op, d, a1, b1, imm, [], label, fence⟩ by rw [← hkk.out]; unfold keepI; rw [hck]; rfl)
                rw [hE] at CK
                clear hE hck
                go_wp2_with fail
                refine (CK.out _).mono ?_
                rintro e w9 ⟨rfl, E4⟩
                have E := E.trans (E4.mono E.size)
                have bx := bx.below E4
                clear q0 q1 q2 q3 q4 q5 q6 q7
                obtain ⟨q0, q1, q2, q3, q4, q5', q6, q7⟩ := bx.cells
                have q5 : w9.cell? ⟨bb, 5, none⟩ = some (.string ⟨#[]⟩) := q5'
                clear q5'
                obtain ⟨⟨d0, d1, d2, d3, d4, d5, d6, d7⟩, ⟨e0, e1, e2, e3, e4, e5, e6, e7⟩, hf, hlt, B⟩ := fresh16 E
                clear E E4 bx
                go_wp2_with fail
                exact bodyPost_ret (by simp [results, Tryz.results13, go_sem, d0, d1, d2, d3, d4, d5, d6, d7]) rfl (RetP.yes HN.out rfl (by repeat (first | with_reducible assumption | with_reducible exact Below.refl _ _ | with_reducible refine bel_alloc ?_ _ | with_reducible refine bel_drew ?_ | with_reducible refine bel_set ?_ (by dsimp only; omega) _)))
theorem refParse (s : Tx) (w : World) : Calls Tryz.prog 13 #[.string (tx s)] w (RetP (parseI s) w) := by
  by_cases hl : s.length ≤ 262144
  · by_cases h1 : trimT s = [102, 101, 110, 99, 101, 46, 116, 115, 111]
    · exact refParse_tso s hl h1 w
    · by_cases h2 : (trimT s).getLast? = some 58
      · exact refParse_label s _ hl rfl h1 h2 w
      · exact refParse_op s _ hl rfl h1 h2 w
  · exact refParse_long s (by omega) w
end Go.Proofs.YtigimkgmghjgoaaGreatDoor

/- The walk of Parse (the program's), where an operation's name stands ahead. Conditions: lengths that an int holds; the library's variables as the program's text lays them. -/
import Derived.Test.YtigimkgmghjgoaaGreatDoorR13
import Derived.Deep.RegionWith
import Derived.Deep.DeepCutAuto
namespace Go.Proofs.YtigimkgmghjgoaaGreatDoor
open Go.RowKit
set_option linter.unusedVariables false

attribute [local go_sem high] eqI neqI

theorem freshV_arrow {w w' : World} {v0 v1 v2 v3 v4 v5 v6 v7 : Value} {t : TypeId} {P : Prop}
    (k : Below (w.alloc (.cells #[v0, v1, v2, v3, v4, v5, v6, v7] t)).heap.size (w.alloc (.cells #[v0, v1, v2, v3, v4, v5, v6, v7] t)) w' →
      w'.cell? ⟨w.heap.size, 0, none⟩ = some v0 → w'.cell? ⟨w.heap.size, 1, none⟩ = some v1 → w'.cell? ⟨w.heap.size, 2, none⟩ = some v2 → w'.cell? ⟨w.heap.size, 3, none⟩ = some v3 → w'.cell? ⟨w.heap.size, 4, none⟩ = some v4 → w'.cell? ⟨w.heap.size, 5, none⟩ = some v5 → w'.cell? ⟨w.heap.size, 6, none⟩ = some v6 → w'.cell? ⟨w.heap.size, 7, none⟩ = some v7 →
      (∀ k, w'.frozen? ⟨w.heap.size, k, none⟩ = false) → w.heap.size < w'.heap.size → P) :
    Below (w.alloc (.cells #[v0, v1, v2, v3, v4, v5, v6, v7] t)).heap.size (w.alloc (.cells #[v0, v1, v2, v3, v4, v5, v6, v7] t)) w' → P := fun h => by
  obtain ⟨⟨c0, c1, c2, c3, c4, c5, c6, c7⟩, hf, hlt, -⟩ := freshV h
  exact k h c0 c1 c2 c3 c4 c5 c6 c7 hf hlt
theorem freshV_drew {w w' : World} {v0 v1 v2 v3 v4 v5 v6 v7 : Value} {t : TypeId} {P : Prop}
    (k : Below (w.alloc (.cells #[v0, v1, v2, v3, v4, v5, v6, v7] t)).heap.size (w.alloc (.cells #[v0, v1, v2, v3, v4, v5, v6, v7] t)) w' →
      w'.cell? ⟨w.heap.size, 0, none⟩ = some v0 → w'.cell? ⟨w.heap.size, 1, none⟩ = some v1 → w'.cell? ⟨w.heap.size, 2, none⟩ = some v2 → w'.cell? ⟨w.heap.size, 3, none⟩ = some v3 → w'.cell? ⟨w.heap.size, 4, none⟩ = some v4 → w'.cell? ⟨w.heap.size, 5, none⟩ = some v5 → w'.cell? ⟨w.heap.size, 6, none⟩ = some v6 → w'.cell? ⟨w.heap.size, 7, none⟩ = some v7 →
      (∀ k, w'.frozen? ⟨w.heap.size, k, none⟩ = false) → w.heap.size < w'.heap.size → P) :
    Below (w.alloc (.cells #[v0, v1, v2, v3, v4, v5, v6, v7] t)).drew.heap.size (w.alloc (.cells #[v0, v1, v2, v3, v4, v5, v6, v7] t)).drew w' → P := fun h =>
  freshV_arrow k (ext_trans (below_drewN _ 1) h)
theorem BxI.of8 {w : World} {b : Nat} {i : Ins} (hi : i.loc = []) (hlt : b < w.heap.size) (h0 : w.cell? ⟨b, 0, none⟩ = some (.int .i64 i.op)) (h1 : w.cell? ⟨b, 1, none⟩ = some (.int .i64 i.d)) (h2 : w.cell? ⟨b, 2, none⟩ = some (.int .i64 i.a)) (h3 : w.cell? ⟨b, 3, none⟩ = some (.int .i64 i.b)) (h4 : w.cell? ⟨b, 4, none⟩ = some (.int .i64 i.imm)) (h5 : w.cell? ⟨b, 5, none⟩ = some (.string ⟨#[]⟩)) (h6 : w.cell? ⟨b, 6, none⟩ = some (.string (tx i.label))) (h7 : w.cell? ⟨b, 7, none⟩ = some (.int .i64 i.fence)) : BxI w b i := by
  refine ⟨hlt, fun k hk => ?_⟩
  match k, hk with
  | 0, _ => exact h0
  | 1, _ => exact h1
  | 2, _ => exact h2
  | 3, _ => exact h3
  | 4, _ => exact h4
  | 5, _ => rw [h5]; show _ = some (Value.string (tx i.loc)); rw [hi]; rfl
  | 6, _ => exact h6
  | 7, _ => exact h7
set_option maxRecDepth 100000 in
set_option maxHeartbeats 6400000 in
theorem progParse_op (s t : Tx) (hl : s.length ≤ 262144) (ht : trimT s = t) (h1 : t ≠ [102, 101, 110, 99, 101, 46, 116, 115, 111]) (h2 : ¬ t.getLast? = some 58) (w : World) (g : Gl w) : Calls Tryz.prog 12 #[.string (tx s)] w (RetP (parseI s) w) := by
  obtain ⟨r, hr⟩ : ∃ r, parseI s = r := ⟨_, rfl⟩
  rw [hr]
  have HK := hid (show readI (t.takeWhile fun c => !blankC c) ((splitC 44 (t.dropWhile fun c => !blankC c)).map trimT) = r by rw [← hr]; unfold parseI; rw [if_neg (by omega)]; simp only [ht]; rw [if_neg h1, if_neg h2])
  obtain ⟨n, hn⟩ : ∃ n, (tx s).size = n := ⟨_, rfl⟩
  have hnl : n = s.length := by rw [← hn, tx_size]
  have hz : decide (262144 < (n : Int)) = false := by simp; omega
  have TR := hid (fun (w : World) => progTrimmed s (by omega) w)
  rw [ht] at TR
  have htl := trimT_length s
  rw [ht] at htl
  have z : ((tx t).toList == [102, 101, 110, 99, 101, 46, 116, 115, 111]) = false := tx_ne _ _ h1
  have hs2 := suffix_any t 58 (by omega)
  rw [show (t.getLast? == some 58) = false by simpa using h2] at hs2
  have SF := hid hs2
  obtain ⟨m, hm⟩ : ∃ m, t.length = m := ⟨_, rfl⟩
  have htm : (tx t).size = m := by rw [tx_size, hm]
  have hmb : m ≤ 262144 := by omega
  have HM := hid hm
  have g0 := g.below (al w zeroI)
  clear hr hl hnl ht hs2 h2 h1 hm htl
  go_enter Tryz.func12, Tryz.ntmps12
  go_wp2_with fail
  refine (TR.out _).mono ?_
  rintro e w1 ⟨rfl, E⟩
  have g1 := g0.below E
  clear g0
  go_wp2_with fail
  refine (SF.out _).mono ?_
  rintro e w2 ⟨rfl, rfl⟩
  go_wp2_with fail
  go_loop [5] (fun i => ∃ k : Nat, k ≤ m ∧ i = .int .i64 k ∧ Hid (∀ (j : Nat) (c : UInt8), j < k → t[j]? = some c → blankC c = false)) (fun i => m - (intOf i).toNat)
  case atStart => exact ⟨0, by omega, rfl, fun j c hj => absurd hj (Nat.not_lt_zero j)⟩
  case round =>
    obtain ⟨k, hk, rfl, HB⟩ := hrel
    by_cases hend : k < m ∧ ∃ c, t[k]? = some c ∧ blankC c = false
    · obtain ⟨hlt, c, hc, hbc⟩ := hend
      have ix := run_ix t k c hc
      have HB2 := hid (show ∀ (j : Nat) (c : UInt8), j < k + 1 → t[j]? = some c → blankC c = false from fun j c' hj hc' => by
        rcases Nat.lt_succ_iff_lt_or_eq.1 hj with h | h
        · exact HB.out j c' h hc'
        · subst h; rw [hc] at hc'; cases hc'; exact hbc)
      have HC := hid hbc
      clear hc hbc
      go_wp2_with (go_at_call 39; refine (progBlank c _).mono ?_; rintro e w' ⟨rfl, rfl⟩; rw [HC.out])
      go_round
      case rel => exact ⟨k + 1, by omega, by go_num, HB2⟩
      case measure => simp [intOf]; omega
    · have hlen := takeWhile_len (fun c => !blankC c) t k (fun j c hj hc => by rw [HB.out j c hj hc]; rfl) (fun c hc => by
        have hlt := (List.getElem?_eq_some_iff.1 hc).1
        cases hb : blankC c with
        | true => rfl
        | false => exact absurd ⟨by have := HM.out; omega, c, hc, hb⟩ hend) (by have := HM.out; omega)
      have HK2 := HK.out
      rw [takeWhile_take, dropWhile_drop', hlen] at HK2
      have sl1 := run_strto t k (by have := HM.out; omega)
      have sl2 := run_strfrom t k (by have := HM.out; omega)
      have hsm : Sm (splitC 44 (t.drop k)) := fun x hx => by
        have := splitC_le 44 _ x hx
        have := HM.out
        simp at *; omega
      have SP := hid (fun (w : World) (g : Gl w) => split_any (t.drop k) (by have := HM.out; simp; omega) w g)
      have RD := hid (fun (a : Option Addr) (c : Nat) (w : World) (h : Txs w a (splitC 44 (t.drop k))) (g : Gl w) => progRead (t.take k) (splitC 44 (t.drop k)) a c w h hsm g)
      rw [HK2] at RD
      clear hsm HK2 HK hlen
      generalize splitC 44 (t.drop k) = ps at *
      generalize t.drop k = t2 at *
      generalize t.take k = t1 at *
      have hex : (k < m ∧ ∃ c, t[k]? = some c ∧ blankC c = true) ∨ k = m := by
        by_cases hkm : k < m
        · left
          obtain ⟨c, hc⟩ : ∃ c, t[k]? = some c := ⟨_, List.getElem?_eq_getElem (by have := HM.out; omega)⟩
          refine ⟨hkm, c, hc, ?_⟩
          cases hb : blankC c with
          | true => rfl
          | false => exact absurd ⟨hkm, c, hc, hb⟩ hend
        · right; omega
      clear hend
      rcases hex with ⟨hlt, c, hc, hbc⟩ | rfl
      · have ix := run_ix t k c hc
        have HC := hid hbc
        clear hc hbc
        go_wp2_with (go_at_call 39; refine (progBlank c _).mono ?_; rintro e w' ⟨rfl, rfl⟩; rw [HC.out])
        go_cut [6, 7] (fun x y wx => ∃ (bb : Nat) (op d a1 b1 imm : Int) (label : Tx) (fence : Int) (ok : Bool), x = .pointer (some ⟨bb, 0, none⟩) ∧ y = .bool ok ∧ Hid (keepI ⟨op, d, a1, b1, imm, [], label, fence⟩ ok = r) ∧ label.length ≤ 1000000 ∧ BxI wx bb ⟨op, d, a1, b1, imm, [], label, fence⟩ ∧ Below (w.alloc zeroI).heap.size (w.alloc zeroI) wx)
        case first =>
          go_region_with (first | (go_at_call 41; refine (SP.out _ (g1.below (by repeat (first | with_reducible assumption | with_reducible exact Below.refl _ _ | with_reducible refine bel_alloc ?_ _ | with_reducible refine bel_drew ?_ | with_reducible refine bel_set ?_ (by dsimp only; omega) _)))).mono ?_; rintro e' w' ⟨a2, rfl, tx2, E2⟩; have g2 := Gl.below (Gl.below g1 (by repeat (first | with_reducible assumption | with_reducible exact Below.refl _ _ | with_reducible refine bel_alloc ?_ _ | with_reducible refine bel_drew ?_ | with_reducible refine bel_set ?_ (by dsimp only; omega) _))) E2; have E5 := ext_trans (a := w1) (by repeat (first | with_reducible assumption | with_reducible exact Below.refl _ _ | with_reducible refine bel_alloc ?_ _ | with_reducible refine bel_drew ?_ | with_reducible refine bel_set ?_ (by dsimp only; omega) _)) E2; have s5 := E5.size) | (go_at_call 40; refine (RD.out _ _ _ (by first | exact tx2 | exact tx2.below (al _ _)) (by first | exact g2 | exact g2.below (al _ _))).mono ?_; rintro e' w' ⟨op, d, a1, b, imm, label, fence, ok, rfl, hk, hl, E3⟩; have E6 := ext_trans (a := w1) (by first | exact E5 | exact bel_alloc E5 _) E3; have s6 := E6.size; first | (revert E3; with_reducible refine freshV_arrow ?_; intro E3 f0 f1 f2 f3 f4 f5 f6 f7 hf2 hlt2) | (have E23 := ext_trans E2 E3; revert E23; with_reducible refine freshV_drew ?_; intro E23 f0 f1 f2 f3 f4 f5 f6 f7 hf2 hlt2) | skip))
          all_goals
            go_wp2_with fail
            go_meet
            refine ⟨_, op, d, a1, b, imm, label, fence, ok, rfl, rfl, hk, hl, BxI.of8 rfl ?_ ?_ ?_ ?_ ?_ ?_ ?_ ?_ ?_, ext_trans E (by repeat (first | with_reducible assumption | with_reducible exact Below.refl _ _ | with_reducible refine bel_alloc ?_ _ | with_reducible refine bel_drew ?_ | with_reducible refine bel_set ?_ (by dsimp only; omega) _))⟩
            all_goals go_simp
        case rest =>
          clear E
          obtain ⟨bb, op, d, a1, b1, imm, label, fence, ok, rfl, rfl, hkk, hl, bx, E⟩ := hcut
          have CK := hid (fun (w : World) => progCheck ⟨op, d, a1, b1, imm, [], label, fence⟩ (by simp; omega) w)
          obtain ⟨q0, q1, q2, q3, q4, q5, q6, q7⟩ := bx.cells
          cases ok
          · obtain ⟨⟨d0, d1, d2, d3, d4, d5, d6, d7⟩, hf, hlt, B⟩ := fresh8 E
            have HN := hid (show r = none from hkk.out.symm)
            clear E q0 q1 q2 q3 q4 q5 q6 q7 bx
            go_wp2_with fail
            exact bodyPost_ret (by simp [results, Tryz.results12, go_sem, d0, d1, d2, d3, d4, d5, d6, d7]) rfl (RetP.no HN.out rfl (by repeat (first | with_reducible assumption | with_reducible exact Below.refl _ _ | with_reducible refine bel_alloc ?_ _ | with_reducible refine bel_drew ?_ | with_reducible refine bel_set ?_ (by dsimp only; omega) _)))
          · cases hck : checkI ⟨op, d, a1, b1, imm, [], label, fence⟩
            · have hE := errI_no hck
              have HN := hid (show r = none by rw [← hkk.out]; unfold keepI; rw [hck]; rfl)
              rw [hE] at CK
              clear hE hck
              go_wp2_with fail
              refine (CK.out _).mono ?_
              rintro e w9 ⟨rfl, E4⟩
              have E := E.trans (E4.mono E.size)
              obtain ⟨⟨d0, d1, d2, d3, d4, d5, d6, d7⟩, hf, hlt, B⟩ := fresh8 E
              clear E E4 q0 q1 q2 q3 q4 q5 q6 q7 bx
              go_wp2_with fail
              exact bodyPost_ret (by simp [results, Tryz.results12, go_sem, d0, d1, d2, d3, d4, d5, d6, d7]) rfl (RetP.no HN.out rfl (by repeat (first | with_reducible assumption | with_reducible exact Below.refl _ _ | with_reducible refine bel_alloc ?_ _ | with_reducible refine bel_drew ?_ | with_reducible refine bel_set ?_ (by dsimp only; omega) _)))
            · have hE := errI_yes hck
              have HN := hid (show r = some ⟨op, d, a1, b1, imm, [], label, fence⟩ by rw [← hkk.out]; unfold keepI; rw [hck]; rfl)
              rw [hE] at CK
              clear hE hck
              go_wp2_with fail
              refine (CK.out _).mono ?_
              rintro e w9 ⟨rfl, E4⟩
              have E := E.trans (E4.mono E.size)
              have bx := bx.below E4
              clear q0 q1 q2 q3 q4 q5 q6 q7
              obtain ⟨q0, q1, q2, q3, q4, q5', q6, q7⟩ := bx.cells
              have q5 : w9.cell? ⟨bb, 5, none⟩ = some (.string ⟨#[]⟩) := q5'
              clear q5'
              obtain ⟨⟨d0, d1, d2, d3, d4, d5, d6, d7⟩, hf, hlt, B⟩ := fresh8 E
              clear E E4 bx
              go_wp2_with fail
              exact bodyPost_ret (by simp [results, Tryz.results12, go_sem, d0, d1, d2, d3, d4, d5, d6, d7]) rfl (RetP.yes HN.out rfl (by repeat (first | with_reducible assumption | with_reducible exact Below.refl _ _ | with_reducible refine bel_alloc ?_ _ | with_reducible refine bel_drew ?_ | with_reducible refine bel_set ?_ (by dsimp only; omega) _)))
      · go_wp2_with fail
        go_cut [6, 7] (fun x y wx => ∃ (bb : Nat) (op d a1 b1 imm : Int) (label : Tx) (fence : Int) (ok : Bool), x = .pointer (some ⟨bb, 0, none⟩) ∧ y = .bool ok ∧ Hid (keepI ⟨op, d, a1, b1, imm, [], label, fence⟩ ok = r) ∧ label.length ≤ 1000000 ∧ BxI wx bb ⟨op, d, a1, b1, imm, [], label, fence⟩ ∧ Below (w.alloc zeroI).heap.size (w.alloc zeroI) wx)
        case first =>
          go_region_with (first | (go_at_call 41; refine (SP.out _ (g1.below (by repeat (first | with_reducible assumption | with_reducible exact Below.refl _ _ | with_reducible refine bel_alloc ?_ _ | with_reducible refine bel_drew ?_ | with_reducible refine bel_set ?_ (by dsimp only; omega) _)))).mono ?_; rintro e' w' ⟨a2, rfl, tx2, E2⟩; have g2 := Gl.below (Gl.below g1 (by repeat (first | with_reducible assumption | with_reducible exact Below.refl _ _ | with_reducible refine bel_alloc ?_ _ | with_reducible refine bel_drew ?_ | with_reducible refine bel_set ?_ (by dsimp only; omega) _))) E2; have E5 := ext_trans (a := w1) (by repeat (first | with_reducible assumption | with_reducible exact Below.refl _ _ | with_reducible refine bel_alloc ?_ _ | with_reducible refine bel_drew ?_ | with_reducible refine bel_set ?_ (by dsimp only; omega) _)) E2; have s5 := E5.size) | (go_at_call 40; refine (RD.out _ _ _ (by first | exact tx2 | exact tx2.below (al _ _)) (by first | exact g2 | exact g2.below (al _ _))).mono ?_; rintro e' w' ⟨op, d, a1, b, imm, label, fence, ok, rfl, hk, hl, E3⟩; have E6 := ext_trans (a := w1) (by first | exact E5 | exact bel_alloc E5 _) E3; have s6 := E6.size; first | (revert E3; with_reducible refine freshV_arrow ?_; intro E3 f0 f1 f2 f3 f4 f5 f6 f7 hf2 hlt2) | (have E23 := ext_trans E2 E3; revert E23; with_reducible refine freshV_drew ?_; intro E23 f0 f1 f2 f3 f4 f5 f6 f7 hf2 hlt2) | skip))
          all_goals
            go_wp2_with fail
            go_meet
            refine ⟨_, op, d, a1, b, imm, label, fence, ok, rfl, rfl, hk, hl, BxI.of8 rfl ?_ ?_ ?_ ?_ ?_ ?_ ?_ ?_ ?_, ext_trans E (by repeat (first | with_reducible assumption | with_reducible exact Below.refl _ _ | with_reducible refine bel_alloc ?_ _ | with_reducible refine bel_drew ?_ | with_reducible refine bel_set ?_ (by dsimp only; omega) _))⟩
            all_goals go_simp
        case rest =>
          clear E
          obtain ⟨bb, op, d, a1, b1, imm, label, fence, ok, rfl, rfl, hkk, hl, bx, E⟩ := hcut
          have CK := hid (fun (w : World) => progCheck ⟨op, d, a1, b1, imm, [], label, fence⟩ (by simp; omega) w)
          obtain ⟨q0, q1, q2, q3, q4, q5, q6, q7⟩ := bx.cells
          cases ok
          · obtain ⟨⟨d0, d1, d2, d3, d4, d5, d6, d7⟩, hf, hlt, B⟩ := fresh8 E
            have HN := hid (show r = none from hkk.out.symm)
            clear E q0 q1 q2 q3 q4 q5 q6 q7 bx
            go_wp2_with fail
            exact bodyPost_ret (by simp [results, Tryz.results12, go_sem, d0, d1, d2, d3, d4, d5, d6, d7]) rfl (RetP.no HN.out rfl (by repeat (first | with_reducible assumption | with_reducible exact Below.refl _ _ | with_reducible refine bel_alloc ?_ _ | with_reducible refine bel_drew ?_ | with_reducible refine bel_set ?_ (by dsimp only; omega) _)))
          · cases hck : checkI ⟨op, d, a1, b1, imm, [], label, fence⟩
            · have hE := errI_no hck
              have HN := hid (show r = none by rw [← hkk.out]; unfold keepI; rw [hck]; rfl)
              rw [hE] at CK
              clear hE hck
              go_wp2_with fail
              refine (CK.out _).mono ?_
              rintro e w9 ⟨rfl, E4⟩
              have E := E.trans (E4.mono E.size)
              obtain ⟨⟨d0, d1, d2, d3, d4, d5, d6, d7⟩, hf, hlt, B⟩ := fresh8 E
              clear E E4 q0 q1 q2 q3 q4 q5 q6 q7 bx
              go_wp2_with fail
              exact bodyPost_ret (by simp [results, Tryz.results12, go_sem, d0, d1, d2, d3, d4, d5, d6, d7]) rfl (RetP.no HN.out rfl (by repeat (first | with_reducible assumption | with_reducible exact Below.refl _ _ | with_reducible refine bel_alloc ?_ _ | with_reducible refine bel_drew ?_ | with_reducible refine bel_set ?_ (by dsimp only; omega) _)))
            · have hE := errI_yes hck
              have HN := hid (show r = some ⟨op, d, a1, b1, imm, [], label, fence⟩ by rw [← hkk.out]; unfold keepI; rw [hck]; rfl)
              rw [hE] at CK
              clear hE hck
              go_wp2_with fail
              refine (CK.out _).mono ?_
              rintro e w9 ⟨rfl, E4⟩
              have E := E.trans (E4.mono E.size)
              have bx := bx.below E4
              clear q0 q1 q2 q3 q4 q5 q6 q7
              obtain ⟨q0, q1, q2, q3, q4, q5', q6, q7⟩ := bx.cells
              have q5 : w9.cell? ⟨bb, 5, none⟩ = some (.string ⟨#[]⟩) := q5'
              clear q5'
              obtain ⟨⟨d0, d1, d2, d3, d4, d5, d6, d7⟩, hf, hlt, B⟩ := fresh8 E
              clear E E4 bx
              go_wp2_with fail
              exact bodyPost_ret (by simp [results, Tryz.results12, go_sem, d0, d1, d2, d3, d4, d5, d6, d7]) rfl (RetP.yes HN.out rfl (by repeat (first | with_reducible assumption | with_reducible exact Below.refl _ _ | with_reducible refine bel_alloc ?_ _ | with_reducible refine bel_drew ?_ | with_reducible refine bel_set ?_ (by dsimp only; omega) _)))
theorem progParse (s : Tx) (w : World) (g : Gl w) : Calls Tryz.prog 12 #[.string (tx s)] w (RetP (parseI s) w) := by
  by_cases hl : s.length ≤ 262144
  · by_cases h1 : trimT s = [102, 101, 110, 99, 101, 46, 116, 115, 111]
    · exact progParse_tso s hl h1 w
    · by_cases h2 : (trimT s).getLast? = some 58
      · exact progParse_label s _ hl rfl h1 h2 w
      · exact progParse_op s _ hl rfl h1 h2 w g
  · exact progParse_long s (by omega) w
end Go.Proofs.YtigimkgmghjgoaaGreatDoor

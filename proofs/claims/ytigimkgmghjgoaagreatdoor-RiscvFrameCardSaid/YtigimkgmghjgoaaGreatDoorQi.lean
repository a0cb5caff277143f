/- The walk of Parse (the program's), where an operation's name stands ahead. Conditions: lengths that an int holds; the library's variables as the program's text lays them. · Slices of instructions: read. Lemmas of this claim's own; no condition. · Slices of instructions that come in to a statement, as the walks take them. Lemmas of this claim's own; no condition. -/
import Derived.Test.YtigimkgmghjgoaaGreatDoorQh
import Derived.Deep.RegionWith
import Derived.Deep.DeepCutAuto
import Derived.Test.YtigimkgmghjgoaaGreatDoorQb
namespace Go.Proofs.YtigimkgmghjgoaaGreatDoor
open Go.RowKit
set_option linter.unusedVariables false

attribute [local go_sem high] eqI neqI

theorem freshV_arrow {w w' : World} {v0 v1 v2 v3 v4 v5 v6 v7 : Value} {t : TypeId} {P : Prop}
    (k : Below (w.alloc (.cells #[v0, v1, v2, v3, v4, v5, v6, v7] t)).heap.size (w.alloc (.cells #[v0, v1, v2, v3, v4, v5, v6, v7] t)) w' →
      w'.cell? ⟨w.heap.size, 0, none⟩ = some v0 → w'.cell? ⟨w.heap.size, 1, none⟩ = some v1 → w'.cell? ⟨w.heap.size, 2, none⟩ = some v2 → w'.cell? ⟨w.heap.size, 3, none⟩ = some v3 → w'.cell? ⟨w.heap.size, 4, none⟩ = some v4 → w'.cell? ⟨w.heap.size, 5, none⟩ = some v5 → w'.cell? ⟨w.heap.size, 6, none⟩ = some v6 → w'.cell? ⟨w.heap.size, 7, none⟩ = some v7 →
      (∀ k, w'.frozen? ⟨w.heap.size, k, none⟩ = false) → w.heap.size < w'.heap.size → P) :
    Below (w.alloc (.cells #[v0, v1, v2, v3, v4, v5, v6, v7] t)).heap.size (w.alloc (.cells #[v0, v1, v2, v3, v4, v5, v6, v7] t)) w' → P := fun h => by
  obtain ⟨⟨c0, c1, c2, c3, c4, c5, c6, c7⟩, hf, hlt, -⟩ := freshV h
  exact k h c0 c1 c2 c3 c4 c5 c6 c7 hf hlt
theorem freshV_drew {w w' : World} {v0 v1 v2 v3 v4 v5 v6 v7 : Value} {t : TypeId} {P : Prop}
    (k : Below (w.alloc (.cells #[v0, v1, v2, v3, v4, v5, v6, v7] t)).heap.size (w.alloc (.cells #[v0, v1, v2, v3, v4, v5, v6, v7] t)) w' →
      w'.cell? ⟨w.heap.size, 0, none⟩ = some v0 → w'.cell? ⟨w.heap.size, 1, none⟩ = some v1 → w'.cell? ⟨w.heap.size, 2, none⟩ = some v2 → w'.cell? ⟨w.heap.size, 3, none⟩ = some v3 → w'.cell? ⟨w.heap.size, 4, none⟩ = some v4 → w'.cell? ⟨w.heap.size, 5, none⟩ = some v5 → w'.cell? ⟨w.heap.size, 6, none⟩ = some v6 → w'.cell? ⟨w.heap.size, 7, none⟩ = some v7 →
      (∀ k, w'.frozen? ⟨w.heap.size, k, none⟩ = false) → w.heap.size < w'.heap.size → P) :
    Below (w.alloc (.cells #[v0, v1, v2, v3, v4, v5, v6, v7] t)).drew.heap.size (w.alloc (.cells #[v0, v1, v2, v3, v4, v5, v6, v7] t)).drew w' → P := fun h =>
  freshV_arrow k (ext_trans (below_drewN _ 1) h)
theorem BxI.of8 {w : World} {b : Nat} {i : Ins} (hi : i.loc = []) (hlt : b < w.heap.size) (h0 : w.cell? ⟨b, 0, none⟩ = some (.int .i64 i.op)) (h1 : w.cell? ⟨b, 1, none⟩ = some (.int .i64 i.d)) (h2 : w.cell? ⟨b, 2, none⟩ = some (.int .i64 i.a)) (h3 : w.cell? ⟨b, 3, none⟩ = some (.int .i64 i.b)) (h4 : w.cell? ⟨b, 4, none⟩ = some (.int .i64 i.imm)) (h5 : w.cell? ⟨b, 5, none⟩ = some (.string ⟨#[]⟩)) (h6 : w.cell? ⟨b, 6, none⟩ = some (.string (tx i.label))) (h7 : w.cell? ⟨b, 7, none⟩ = some (.int .i64 i.fence)) : BxI w b i := by
  refine ⟨hlt, fun k hk => ?_⟩
  match k, hk with
  | 0, _ => exact h0
  | 1, _ => exact h1
  | 2, _ => exact h2
  | 3, _ => exact h3
  | 4, _ => exact h4
  | 5, _ => rw [h5]; show _ = some (Value.string (tx i.loc)); rw [hi]; rfl
  | 6, _ => exact h6
  | 7, _ => exact h7
set_option maxRecDepth 100000 in
set_option maxHeartbeats 6400000 in
theorem progParse_op (s t : Tx) (hl : s.length ≤ 262144) (ht : trimT s = t) (h1 : t ≠ [102, 101, 110, 99, 101, 46, 116, 115, 111]) (h2 : ¬ t.getLast? = some 58) (w : World) (g : Gl w) : Calls Tryz.prog 12 #[.string (tx s)] w (RetP (parseI s) w) := by
  obtain ⟨r, hr⟩ : ∃ r, parseI s = r := ⟨_, rfl⟩
  rw [hr]
  have HK := hid (show readI (t.takeWhile fun c => !blankC c) ((splitC 44 (t.dropWhile fun c => !blankC c)).map trimT) = r by rw [← hr]; unfold parseI; rw [if_neg (by omega)]; simp only [ht]; rw [if_neg h1, if_neg h2])
  obtain ⟨n, hn⟩ : ∃ n, (tx s).size = n := ⟨_, rfl⟩
  have hnl : n = s.length := by rw [← hn, tx_size]
  have hz : decide (262144 < (n : Int)) = false := by simp; omega
  have TR := hid (fun (w : World) => progTrimmed s (by omega) w)
  rw [ht] at TR
  have htl := trimT_length s
  rw [ht] at htl
  have z : ((tx t).toList == [102, 101, 110, 99, 101, 46, 116, 115, 111]) = false := tx_ne _ _ h1
  have hs2 := suffix_any t 58 (by omega)
  rw [show (t.getLast? == some 58) = false by simpa using h2] at hs2
  have SF := hid hs2
  obtain ⟨m, hm⟩ : ∃ m, t.length = m := ⟨_, rfl⟩
  have htm : (tx t).size = m := by rw [tx_size, hm]
  have hmb : m ≤ 262144 := by omega
  have HM := hid hm
  have g0 := g.below (al w zeroI)
  clear hr hl hnl ht hs2 h2 h1 hm htl
  go_enter Tryz.func12, Tryz.ntmps12
  go_wp2_with fail
  refine (TR.out _).mono ?_
  rintro e w1 ⟨rfl, E⟩
  have g1 := g0.below E
  clear g0
  go_wp2_with fail
  refine (SF.out _).mono ?_
  rintro e w2 ⟨rfl, rfl⟩
  go_wp2_with fail
  go_loop [5] (fun i => ∃ k : Nat, k ≤ m ∧ i = .int .i64 k ∧ Hid (∀ (j : Nat) (c : UInt8), j < k → t[j]? = some c → blankC c = false)) (fun i => m - (intOf i).toNat)
  case atStart => exact ⟨0, by omega, rfl, fun j c hj => absurd hj (Nat.not_lt_zero j)⟩
  case round =>
    obtain ⟨k, hk, rfl, HB⟩ := hrel
    by_cases hend : k < m ∧ ∃ c, t[k]? = some c ∧ blankC c = false
    · obtain ⟨hlt, c, hc, hbc⟩ := hend
      have ix := run_ix t k c hc
      have HB2 := hid (show ∀ (j : Nat) (c : UInt8), j < k + 1 → t[j]? = some c → blankC c = false from fun j c' hj hc' => by
        rcases Nat.lt_succ_iff_lt_or_eq.1 hj with h | h
        · exact HB.out j c' h hc'
        · subst h; rw [hc] at hc'; cases hc'; exact hbc)
      have HC := hid hbc
      clear hc hbc
      go_wp2_with (go_at_call 39; refine (progBlank c _).mono ?_; rintro e w' ⟨rfl, rfl⟩; rw [HC.out])
      go_round
      case rel => exact ⟨k + 1, by omega, by go_num, HB2⟩
      case measure => simp [intOf]; omega
    · have hlen := takeWhile_len (fun c => !blankC c) t k (fun j c hj hc => by rw [HB.out j c hj hc]; rfl) (fun c hc => by
        have hlt := (List.getElem?_eq_some_iff.1 hc).1
        cases hb : blankC c with
        | true => rfl
        | false => exact absurd ⟨by have := HM.out; omega, c, hc, hb⟩ hend) (by have := HM.out; omega)
      have HK2 := HK.out
      rw [takeWhile_take, dropWhile_drop', hlen] at HK2
      have sl1 := run_strto t k (by have := HM.out; omega)
      have sl2 := run_strfrom t k (by have := HM.out; omega)
      have hsm : Sm (splitC 44 (t.drop k)) := fun x hx => by
        have := splitC_le 44 _ x hx
        have := HM.out
        simp at *; omega
      have SP := hid (fun (w : World) (g : Gl w) => split_any (t.drop k) (by have := HM.out; simp; omega) w g)
      have RD := hid (fun (a : Option Addr) (c : Nat) (w : World) (h : Txs w a (splitC 44 (t.drop k))) (g : Gl w) => progRead (t.take k) (splitC 44 (t.drop k)) a c w h hsm g)
      rw [HK2] at RD
      clear hsm HK2 HK hlen
      generalize splitC 44 (t.drop k) = ps at *
      generalize t.drop k = t2 at *
      generalize t.take k = t1 at *
      have hex : (k < m ∧ ∃ c, t[k]? = some c ∧ blankC c = true) ∨ k = m := by
        by_cases hkm : k < m
        · left
          obtain ⟨c, hc⟩ : ∃ c, t[k]? = some c := ⟨_, List.getElem?_eq_getElem (by have := HM.out; omega)⟩
          refine ⟨hkm, c, hc, ?_⟩
          cases hb : blankC c with
          | true => rfl
          | false => exact absurd ⟨hkm, c, hc, hb⟩ hend
        · right; omega
      clear hend
      rcases hex with ⟨hlt, c, hc, hbc⟩ | rfl
      · have ix := run_ix t k c hc
        have HC := hid hbc
        clear hc hbc
        go_wp2_with (go_at_call 39; refine (progBlank c _).mono ?_; rintro e w' ⟨rfl, rfl⟩; rw [HC.out])
        go_cut [6, 7] (fun x y wx => ∃ (bb : Nat) (op d a1 b1 imm : Int) (label : Tx) (fence : Int) (ok : Bool), x = .pointer (some ⟨bb, 0, none⟩) ∧ y = .bool ok ∧ Hid (keepI ⟨op, d, a1, b1, imm, [], label, fence⟩ ok = r) ∧ label.length ≤ 1000000 ∧ BxI wx bb ⟨op, d, a1, b1, imm, [], label, fence⟩ ∧ Below (w.alloc zeroI).heap.size (w.alloc zeroI) wx)
        case first =>
          go_region_with (first | (go_at_call 41; refine (SP.out _ (g1.below (by repeat (first | with_reducible assumption | with_reducible exact Below.refl _ _ | with_reducible refine bel_alloc ?_ _ | with_reducible refine bel_drew ?_ | with_reducible refine bel_set ?_ (by dsimp only; omega) _)))).mono ?_; rintro e' w' ⟨a2, rfl, tx2, E2⟩; have g2 := Gl.below (Gl.below g1 (by repeat (first | with_reducible assumption | with_reducible exact Below.refl _ _ | with_reducible refine bel_alloc ?_ _ | with_reducible refine bel_drew ?_ | with_reducible refine bel_set ?_ (by dsimp only; omega) _))) E2; have E5 := ext_trans (a := w1) (by repeat (first | with_reducible assumption | with_reducible exact Below.refl _ _ | with_reducible refine bel_alloc ?_ _ | with_reducible refine bel_drew ?_ | with_reducible refine bel_set ?_ (by dsimp only; omega) _)) E2; have s5 := E5.size) | (go_at_call 40; refine (RD.out _ _ _ (by first | exact tx2 | exact tx2.below (al _ _)) (by first | exact g2 | exact g2.below (al _ _))).mono ?_; rintro e' w' ⟨op, d, a1, b, imm, label, fence, ok, rfl, hk, hl, E3⟩; have E6 := ext_trans (a := w1) (by first | exact E5 | exact bel_alloc E5 _) E3; have s6 := E6.size; first | (revert E3; with_reducible refine freshV_arrow ?_; intro E3 f0 f1 f2 f3 f4 f5 f6 f7 hf2 hlt2) | (have E23 := ext_trans E2 E3; revert E23; with_reducible refine freshV_drew ?_; intro E23 f0 f1 f2 f3 f4 f5 f6 f7 hf2 hlt2) | skip))
          all_goals
            go_wp2_with fail
            go_meet
            refine ⟨_, op, d, a1, b, imm, label, fence, ok, rfl, rfl, hk, hl, BxI.of8 rfl ?_ ?_ ?_ ?_ ?_ ?_ ?_ ?_ ?_, ext_trans E (by repeat (first | with_reducible assumption | with_reducible exact Below.refl _ _ | with_reducible refine bel_alloc ?_ _ | with_reducible refine bel_drew ?_ | with_reducible refine bel_set ?_ (by dsimp only; omega) _))⟩
            all_goals go_simp
        case rest =>
          clear E
          obtain ⟨bb, op, d, a1, b1, imm, label, fence, ok, rfl, rfl, hkk, hl, bx, E⟩ := hcut
          have CK := hid (fun (w : World) => progCheck ⟨op, d, a1, b1, imm, [], label, fence⟩ (by simp; omega) w)
          obtain ⟨q0, q1, q2, q3, q4, q5, q6, q7⟩ := bx.cells
          cases ok
          · obtain ⟨⟨d0, d1, d2, d3, d4, d5, d6, d7⟩, hf, hlt, B⟩ := fresh8 E
            have HN := hid (show r = none from hkk.out.symm)
            clear E q0 q1 q2 q3 q4 q5 q6 q7 bx
            go_wp2_with fail
            exact bodyPost_ret (by simp [results, Tryz.results12, go_sem, d0, d1, d2, d3, d4, d5, d6, d7]) rfl (RetP.no HN.out rfl (by repeat (first | with_reducible assumption | with_reducible exact Below.refl _ _ | with_reducible refine bel_alloc ?_ _ | with_reducible refine bel_drew ?_ | with_reducible refine bel_set ?_ (by dsimp only; omega) _)))
          · cases hck : checkI ⟨op, d, a1, b1, imm, [], label, fence⟩
            · have hE := errI_no hck
              have HN := hid (show r = none by rw [← hkk.out]; unfold keepI; rw [hck]; rfl)
              rw [hE] at CK
              clear hE hck
              go_wp2_with fail
              refine (CK.out _).mono ?_
              rintro e w9 ⟨rfl, E4⟩
              have E := E.trans (E4.mono E.size)
              obtain ⟨⟨d0, d1, d2, d3, d4, d5, d6, d7⟩, hf, hlt, B⟩ := fresh8 E
              clear E E4 q0 q1 q2 q3 q4 q5 q6 q7 bx
              go_wp2_with fail
              exact bodyPost_ret (by simp [results, Tryz.results12, go_sem, d0, d1, d2, d3, d4, d5, d6, d7]) rfl (RetP.no HN.out rfl (by repeat (first | with_reducible assumption | with_reducible exact Below.refl _ _ | with_reducible refine bel_alloc ?_ _ | with_reducible refine bel_drew ?_ | with_reducible refine bel_set ?_ (by dsimp only; omega) _)))
            · have hE := errI_yes hck
              have HN := hid (show r = some ⟨op, d, a1, b1, imm, [], label, fence⟩ by rw [← hkk.out]; unfold keepI; rw [hck]; rfl)
              rw [hE] at CK
              clear hE hck
              go_wp2_with fail
              refine (CK.out _).mono ?_
              rintro e w9 ⟨rfl, E4⟩
              have E := E.trans (E4.mono E.size)
              have bx := bx.below E4
              clear q0 q1 q2 q3 q4 q5 q6 q7
              obtain ⟨q0, q1, q2, q3, q4, q5', q6, q7⟩ := bx.cells
              have q5 : w9.cell? ⟨bb, 5, none⟩ = some (.string ⟨#[]⟩) := q5'
              clear q5'
              obtain ⟨⟨d0, d1, d2, d3, d4, d5, d6, d7⟩, hf, hlt, B⟩ := fresh8 E
              clear E E4 bx
              go_wp2_with fail
              exact bodyPost_ret (by simp [results, Tryz.results12, go_sem, d0, d1, d2, d3, d4, d5, d6, d7]) rfl (RetP.yes HN.out rfl (by repeat (first | with_reducible assumption | with_reducible exact Below.refl _ _ | with_reducible refine bel_alloc ?_ _ | with_reducible refine bel_drew ?_ | with_reducible refine bel_set ?_ (by dsimp only; omega) _)))
      · go_wp2_with fail
        go_cut [6, 7] (fun x y wx => ∃ (bb : Nat) (op d a1 b1 imm : Int) (label : Tx) (fence : Int) (ok : Bool), x = .pointer (some ⟨bb, 0, none⟩) ∧ y = .bool ok ∧ Hid (keepI ⟨op, d, a1, b1, imm, [], label, fence⟩ ok = r) ∧ label.length ≤ 1000000 ∧ BxI wx bb ⟨op, d, a1, b1, imm, [], label, fence⟩ ∧ Below (w.alloc zeroI).heap.size (w.alloc zeroI) wx)
        case first =>
          go_region_with (first | (go_at_call 41; refine (SP.out _ (g1.below (by repeat (first | with_reducible assumption | with_reducible exact Below.refl _ _ | with_reducible refine bel_alloc ?_ _ | with_reducible refine bel_drew ?_ | with_reducible refine bel_set ?_ (by dsimp only; omega) _)))).mono ?_; rintro e' w' ⟨a2, rfl, tx2, E2⟩; have g2 := Gl.below (Gl.below g1 (by repeat (first | with_reducible assumption | with_reducible exact Below.refl _ _ | with_reducible refine bel_alloc ?_ _ | with_reducible refine bel_drew ?_ | with_reducible refine bel_set ?_ (by dsimp only; omega) _))) E2; have E5 := ext_trans (a := w1) (by repeat (first | with_reducible assumption | with_reducible exact Below.refl _ _ | with_reducible refine bel_alloc ?_ _ | with_reducible refine bel_drew ?_ | with_reducible refine bel_set ?_ (by dsimp only; omega) _)) E2; have s5 := E5.size) | (go_at_call 40; refine (RD.out _ _ _ (by first | exact tx2 | exact tx2.below (al _ _)) (by first | exact g2 | exact g2.below (al _ _))).mono ?_; rintro e' w' ⟨op, d, a1, b, imm, label, fence, ok, rfl, hk, hl, E3⟩; have E6 := ext_trans (a := w1) (by first | exact E5 | exact bel_alloc E5 _) E3; have s6 := E6.size; first | (revert E3; with_reducible refine freshV_arrow ?_; intro E3 f0 f1 f2 f3 f4 f5 f6 f7 hf2 hlt2) | (have E23 := ext_trans E2 E3; revert E23; with_reducible refine freshV_drew ?_; intro E23 f0 f1 f2 f3 f4 f5 f6 f7 hf2 hlt2) | skip))
          all_goals
            go_wp2_with fail
            go_meet
            refine ⟨_, op, d, a1, b, imm, label, fence, ok, rfl, rfl, hk, hl, BxI.of8 rfl ?_ ?_ ?_ ?_ ?_ ?_ ?_ ?_ ?_, ext_trans E (by repeat (first | with_reducible assumption | with_reducible exact Below.refl _ _ | with_reducible refine bel_alloc ?_ _ | with_reducible refine bel_drew ?_ | with_reducible refine bel_set ?_ (by dsimp only; omega) _))⟩
            all_goals go_simp
        case rest =>
          clear E
          obtain ⟨bb, op, d, a1, b1, imm, label, fence, ok, rfl, rfl, hkk, hl, bx, E⟩ := hcut
          have CK := hid (fun (w : World) => progCheck ⟨op, d, a1, b1, imm, [], label, fence⟩ (by simp; omega) w)
          obtain ⟨q0, q1, q2, q3, q4, q5, q6, q7⟩ := bx.cells
          cases ok
          · obtain ⟨⟨d0, d1, d2, d3, d4, d5, d6, d7⟩, hf, hlt, B⟩ := fresh8 E
            have HN := hid (show r = none from hkk.out.symm)
            clear E q0 q1 q2 q3 q4 q5 q6 q7 bx
            go_wp2_with fail
            exact bodyPost_ret (by simp [results, Tryz.results12, go_sem, d0, d1, d2, d3, d4, d5, d6, d7]) rfl (RetP.no HN.out rfl (by repeat (first | with_reducible assumption | with_reducible exact Below.refl _ _ | with_reducible refine bel_alloc ?_ _ | with_reducible refine bel_drew ?_ | with_reducible refine bel_set ?_ (by dsimp only; omega) _)))
          · cases hck : checkI ⟨op, d, a1, b1, imm, [], label, fence⟩
            · have hE := errI_no hck
              have HN := hid (show r = none by rw [← hkk.out]; unfold keepI; rw [hck]; rfl)
              rw [hE] at CK
              clear hE hck
              go_wp2_with fail
              refine (CK.out _).mono ?_
              rintro e w9 ⟨rfl, E4⟩
              have E := E.trans (E4.mono E.size)
              obtain ⟨⟨d0, d1, d2, d3, d4, d5, d6, d7⟩, hf, hlt, B⟩ := fresh8 E
              clear E E4 q0 q1 q2 q3 q4 q5 q6 q7 bx
              go_wp2_with fail
              exact bodyPost_ret (by simp [results, Tryz.results12, go_sem, d0, d1, d2, d3, d4, d5, d6, d7]) rfl (RetP.no HN.out rfl (by repeat (first | with_reducible assumption | with_reducible exact Below.refl _ _ | with_reducible refine bel_alloc ?_ _ | with_reducible refine bel_drew ?_ | with_reducible refine bel_set ?_ (by dsimp only; omega) _)))
            · have hE := errI_yes hck
              have HN := hid (show r = some ⟨op, d, a1, b1, imm, [], label, fence⟩ by rw [← hkk.out]; unfold keepI; rw [hck]; rfl)
              rw [hE] at CK
              clear hE hck
              go_wp2_with fail
              refine (CK.out _).mono ?_
              rintro e w9 ⟨rfl, E4⟩
              have E := E.trans (E4.mono E.size)
              have bx := bx.below E4
              clear q0 q1 q2 q3 q4 q5 q6 q7
              obtain ⟨q0, q1, q2, q3, q4, q5', q6, q7⟩ := bx.cells
              have q5 : w9.cell? ⟨bb, 5, none⟩ = some (.string ⟨#[]⟩) := q5'
              clear q5'
              obtain ⟨⟨d0, d1, d2, d3, d4, d5, d6, d7⟩, hf, hlt, B⟩ := fresh8 E
              clear E E4 bx
              go_wp2_with fail
              exact bodyPost_ret (by simp [results, Tryz.results12, go_sem, d0, d1, d2, d3, d4, d5, d6, d7]) rfl (RetP.yes HN.out rfl (by repeat (first | with_reducible assumption | with_reducible exact Below.refl _ _ | with_reducible refine bel_alloc ?_ _ | with_reducible refine bel_drew ?_ | with_reducible refine bel_set ?_ (by dsimp only; omega) _)))
theorem progParse (s : Tx) (w : World) (g : Gl w) : Calls Tryz.prog 12 #[.string (tx s)] w (RetP (parseI s) w) := by
  by_cases hl : s.length ≤ 262144
  · by_cases h1 : trimT s = [102, 101, 110, 99, 101, 46, 116, 115, 111]
    · exact progParse_tso s hl h1 w
    · by_cases h2 : (trimT s).getLast? = some 58
      · exact progParse_label s _ hl rfl h1 h2 w
      · exact progParse_op s _ hl rfl h1 h2 w g
  · exact progParse_long s (by omega) w
end Go.Proofs.YtigimkgmghjgoaaGreatDoor
namespace Go.Proofs.YtigimkgmghjgoaaGreatDoor
open Go.RowKit
set_option linter.unusedVariables false

def insC (l : List Ins) : List Value := l.flatMap iC
theorem insC_length (l : List Ins) : (insC l).length = l.length * 8 := by
  induction l with
  | nil => rfl
  | cons x r ih => unfold insC at *; simp [List.flatMap_cons, ih, iC]; omega
theorem insC_app (l r : List Ins) : insC (l ++ r) = insC l ++ insC r := by unfold insC; rw [List.flatMap_append]
theorem insC_cons (x : Ins) (r : List Ins) : insC (x :: r) = iC x ++ insC r := by unfold insC; rw [List.flatMap_cons]
theorem insC_one (x : Ins) : insC [x] = iC x := by rw [insC_cons]; simp [insC]
theorem insC_get : ∀ (l : List Ins) (k i : Nat) (x : Ins), l[k]? = some x → i < 8 → (insC l)[k * 8 + i]? = (iC x)[i]?
  | [], k, i, x, h, _ => by simp at h
  | y :: r, 0, i, x, h, hi => by
    simp at h; subst h
    rw [insC_cons, Nat.zero_mul, Nat.zero_add, List.getElem?_append_left (by simpa [iC] using hi)]
  | y :: r, k + 1, i, x, h, hi => by
    rw [insC_cons, List.getElem?_append_right (by simp [iC]; omega)]
    have : (k + 1) * 8 + i - (iC y).length = k * 8 + i := by simp [iC]; omega
    rw [this, insC_get r k i x (by simpa using h) hi]
theorem insC_oneCell (l : List Ins) : ∀ u ∈ insC l, u.oneCell' = true := by
  intro u hu
  unfold insC at hu
  obtain ⟨x, -, hx⟩ := List.mem_flatMap.1 hu
  simp [iC] at hx
  rcases hx with rfl | rfl | rfl | rfl | rfl | rfl | rfl | rfl <;> rfl
theorem insC_take (l : List Ins) (k : Nat) : (insC l).take (k * 8) = insC (l.take k) := by
  by_cases hk : k ≤ l.length
  · have h1 : insC l = insC (l.take k) ++ insC (l.drop k) := by rw [← insC_app, List.take_append_drop]
    rw [h1, List.take_left' (by rw [insC_length, List.length_take, Nat.min_eq_left hk])]
  · rw [List.take_of_length_le (by rw [insC_length]; omega), List.take_of_length_le (by omega)]
theorem insC_drop (l : List Ins) (k : Nat) : (insC l).drop (k * 8) = insC (l.drop k) := by
  by_cases hk : k ≤ l.length
  · have h1 : insC l = insC (l.take k) ++ insC (l.drop k) := by rw [← insC_app, List.take_append_drop]
    rw [h1, List.drop_left' (by rw [insC_length, List.length_take, Nat.min_eq_left hk])]
  · rw [List.drop_of_length_le (by rw [insC_length]; omega), List.drop_of_length_le (by omega)]; rfl
/-- instructions that are read -/
structure Is (w : World) (a : Option Addr) (l : List Ins) : Prop where
  row : Row w a (insC l)
  len : l.length ≤ 1000000000000000000
theorem Is.nil (w : World) (a : Option Addr) : Is w a [] := ⟨Row.nil _ _, by simp⟩
theorem Is.below {w w' : World} {a : Option Addr} {l : List Ins} (h : Is w a l) (hb : Below w.heap.size w w') : Is w' a l := ⟨h.row.below hb, h.len⟩
theorem Is.cells {w : World} {a : Option Addr} {l : List Ins} (h : Is w a l) {k : Nat} {i : Ins} (hk : l[k]? = some i) :
    w.cell? ⟨bk a, fo a + k * 8, none⟩ = some (.int .i64 i.op) ∧ w.cell? ⟨bk a, fo a + k * 8 + 1, none⟩ = some (.int .i64 i.d) ∧ w.cell? ⟨bk a, fo a + k * 8 + 2, none⟩ = some (.int .i64 i.a) ∧ w.cell? ⟨bk a, fo a + k * 8 + 3, none⟩ = some (.int .i64 i.b) ∧ w.cell? ⟨bk a, fo a + k * 8 + 4, none⟩ = some (.int .i64 i.imm) ∧ w.cell? ⟨bk a, fo a + k * 8 + 5, none⟩ = some (.string (tx i.loc)) ∧ w.cell? ⟨bk a, fo a + k * 8 + 6, none⟩ = some (.string (tx i.label)) ∧ w.cell? ⟨bk a, fo a + k * 8 + 7, none⟩ = some (.int .i64 i.fence) := by
  have hlt := (List.getElem?_eq_some_iff.1 hk).1
  have g : ∀ j, j < 8 → w.cell? ⟨bk a, fo a + k * 8 + j, none⟩ = (iC i)[j]? := fun j hj => by
    have h1 := h.row.cell (k * 8 + j) (by rw [insC_length]; omega)
    rw [insC_get l k j i hk hj] at h1
    rw [Nat.add_assoc]; exact h1
  exact ⟨g 0 (by omega), g 1 (by omega), g 2 (by omega), g 3 (by omega), g 4 (by omega), g 5 (by omega), g 6 (by omega), g 7 (by omega)⟩
theorem Is.lt {w : World} {a : Option Addr} {l : List Ins} (h : Is w a l) {k : Nat} (hk : k < l.length) : bk a < w.heap.size :=
  cell?_lt (p := ⟨bk a, fo a + k * 8, none⟩) (h.cells (List.getElem?_eq_getElem hk)).1
theorem inl : ElT Tryz.prog 32 23 (.agg #[.int .i64 0, .int .i64 0, .int .i64 0, .int .i64 0, .int .i64 0, .string ByteArray.empty, .string ByteArray.empty, .int .i64 0]) 8 80 := ⟨Tryz.underlying32, by kernel_rfl, rfl, by decide⟩
theorem Is.idx {w : World} {a : Option Addr} {l : List Ins} (h : Is w a l) (k : Nat) (hk : k < l.length) :
    ∀ c w', (Instr.indexAt 32 (.slice a l.length c) (.int .i64 k)).run Tryz.prog w' = .ok (.pointer (some ⟨bk a, fo a + k * 8, none⟩)) w' := by
  intro c
  exact run_idx (c := c) (n := l.length) (m := 8) h.row inl.und inl.cells inl.isSome (insC_length l) (by omega) k hk .i64
theorem Is.take {w : World} {a : Option Addr} {l : List Ins} (h : Is w a l) (k : Nat) : Is w a (l.take k) := by
  refine ⟨?_, by have := h.len; simp; omega⟩
  have := h.row.take (k * 8)
  rwa [insC_take] at this
theorem Is.drop {w : World} {a : Option Addr} {l : List Ins} (h : Is w a l) (k : Nat) (stay : Prop) [Decidable stay] (hs : stay → l.length ≤ k ∨ k = 0) : Is w (cutA a stay (k * 8)) (l.drop k) := by
  refine ⟨?_, by have := h.len; simp; omega⟩
  have := h.row.drop (k * 8) stay (fun h' => by have := hs h'; rw [insC_length]; omega)
  rwa [insC_drop] at this
abbrev OwnN (w : World) (B : Nat) (a : Option Addr) (n c : Nat) (l : List Ins) : Prop := Own w B 23 8 a n c (insC l)
theorem OwnN.len {w : World} {B n c : Nat} {a : Option Addr} {l : List Ins} (h : OwnN w B a n c l) : n = l.length := by
  have := h.cap.2.2; rw [insC_length] at this; omega
theorem OwnN.is {w : World} {B n c : Nat} {a : Option Addr} {l : List Ins} (h : OwnN w B a n c l) (hl : l.length ≤ 1000000000000000000) : Is w a l := ⟨h.row, hl⟩
theorem isl : ElT Tryz.prog 33 3 (.int .i64 0) 1 8 := ⟨Tryz.underlying33, by kernel_rfl, rfl, by decide⟩
end Go.Proofs.YtigimkgmghjgoaaGreatDoor
namespace Go.Proofs.YtigimkgmghjgoaaGreatDoor
open Go.ChangeShapes Go.WideShapes Go.Deep Go.RowKit Go.Joins
set_option linter.unusedVariables false

section
variable {H : Type} {enc : TypeId × Value → H} {P : Program} {w : World} {base : Nat} {spare : Nat → Bool} {held : Bool}
theorem open_slice_fields {t e : TypeId} {fs : Array Field} {fuel : Nat} {cs : List Value} {x : DataW H × List MemPlace} (ht : P.underlying t = some (.slice e)) (he : P.underlying e = some (.struct fs))
    (hone : oneCellFields P fs = true) (hC : P.cellsOf e = fs.size) (h : DataW.trod enc P w base spare held fuel t cs = some x) :
    (cs = [.slice none 0 0] ∧ x = (.nil, [])) ∨
    ∃ (a : Addr) (len cap m : Nat) (D : Nat → DataW H) (Pl : Nat → List MemPlace), cs = [.slice (some a) len cap] ∧ base ≤ a.block ∧ len ≤ cap ∧ cap ≤ maxLen ∧ m = (if spare a.block then cap else len) ∧
      x = (.slice ((List.range len).map D) ((List.range (m - len)).map fun j => D (len + j)), MemPlace.row a (m * fs.size) ++ (List.range m).flatMap Pl) ∧
      ∀ i, i < m → ∃ (ys : List (DataW H × List MemPlace)) (n : Nat), D i = .agg (ys.map (·.1)) ∧ Pl i = ys.flatMap (·.2) ∧ ys.length = fs.size ∧
        ∀ (j : Nat) (f : Field), fs[j]? = some f → ∃ (v : Value) (y : DataW H × List MemPlace), w.cell? (a.add (i * fs.size + j)) = some v ∧ ys[j]? = some y ∧ DataW.trod enc P w base spare held n f.type [v] = some y := by
  rcases open_slice ht h with h0 | ⟨a, len, cap, m, n, D, Pl, hcs, hb, hl, hm, hmm, hx, hi⟩
  · exact .inl h0
  · refine .inr ⟨a, len, cap, m, D, Pl, hcs, hb, hl, hm, hmm, by rw [hC] at hx; exact hx, fun i him => ?_⟩
    obtain ⟨cs', hc, ht'⟩ := hi i him
    rw [hC] at hc
    obtain ⟨ys, n', hn', hy, hlen, hyl, hf⟩ := DataW.trod_struct he ht'
    obtain ⟨_, hcl, hat⟩ := World.cells?_some hc
    simp only [Prod.mk.injEq] at hy
    refine ⟨ys, n', hy.1, hy.2, hyl, fun j f hj => ?_⟩
    obtain ⟨ho, hk⟩ := hone_of hone j f hj
    have hjl : j < fs.size := (Array.getElem?_eq_some_iff.1 hj).1
    have hcell := hat j hjl
    have hv : cs'[j]? = some (cs'[j]'(by omega)) := List.getElem?_eq_getElem (by omega)
    have h1 := hf j f hj
    rw [ho, hk] at h1
    have hone' : (cs'.drop j).take 1 = [cs'[j]'(by omega)] := by
      rw [List.drop_eq_getElem_cons (by omega)]
      rfl
    rw [hone'] at h1
    have hys : ys[j]? = some (ys[j]'(by omega)) := List.getElem?_eq_getElem (by omega)
    refine ⟨_, _, ?_, hys, h1.trans hys⟩
    rw [← Go.Deep.add_add, hcell, hv]
end

set_option maxRecDepth 100000 in
theorem open_Is {H : Type} {enc : TypeId × Value → H} {W : World} {a : Option Addr} {len cap : Nat} {d : DataW H} {p : List MemPlace}
    (h : DataW.Trod enc Tryz.prog W 0 (fun _ => true) true 32 (.slice a len cap) d p)
    {ts : List TypeId} {ds : List (DataW H)} (hsz : (DataW.weightsEach Tryz.prog ts ds).all (· ≤ reachBytes) = true) (j : Nat) (htj : ts[j]? = some 32) (hdj : ds[j]? = some d) :
    ∃ l : List Ins, len = l.length ∧ Is W a l ∧ l.length ≤ cap ∧ l.length * 80 ≤ 140737488351232 ∧ ∀ i ∈ l, i.label.length ≤ 9223372036854775807 := by
  obtain ⟨fuel, hf⟩ := h
  rcases open_slice_fields (P := Tryz.prog) Tryz.underlying32 Tryz.underlying23 (by kernel_rfl) (by kernel_rfl) hf with ⟨hcs, _⟩ | ⟨x, len', cap', m, D, Pl, hcs, _, hl, hm, hmm, hx, hi⟩
  · simp [Value.cells] at hcs
    obtain ⟨rfl, rfl, rfl⟩ := hcs
    exact ⟨[], rfl, Is.nil _ _, by simp, by simp, by simp⟩
  · simp [Value.cells] at hcs
    obtain ⟨rfl, rfl, rfl⟩ := hcs
    simp only [if_true] at hmm
    subst hmm
    have hreach : m * 80 ≤ 140737488351232 := by
      simp only [Prod.mk.injEq] at hx
      obtain ⟨rfl, _⟩ := hx
      have h5 : Tryz.prog.bytesOf 23 = 80 := by kernel_rfl
      have := sized_slice hsz htj hdj Tryz.underlying32
      rw [h5] at this
      simp only [List.length_map, List.length_range, reachBytes] at this
      omega
    have key : ∀ i, i < len → ∃ e : Ins, e.label.length ≤ 9223372036854775807 ∧ ∀ j, j < 8 → W.cell? (x.add (i * 8 + j)) = (iC e)[j]? := by
      intro i hil
      obtain ⟨ys, n, -, -, -, hf⟩ := hi i (by omega)
      obtain ⟨v0, y0, g0, -, r0⟩ := hf 0 _ rfl
      obtain ⟨v1, y1, g1, -, r1⟩ := hf 1 _ rfl
      obtain ⟨v2, y2, g2, -, r2⟩ := hf 2 _ rfl
      obtain ⟨v3, y3, g3, -, r3⟩ := hf 3 _ rfl
      obtain ⟨v4, y4, g4, -, r4⟩ := hf 4 _ rfl
      obtain ⟨v5, y5, g5, -, r5⟩ := hf 5 _ rfl
      obtain ⟨v6, y6, g6, -, r6⟩ := hf 6 _ rfl
      obtain ⟨v7, y7, g7, -, r7⟩ := hf 7 _ rfl
      obtain ⟨k0, h0, -⟩ := DataW.trod_int Tryz.underlying3 r0
      obtain ⟨k1, h1, -⟩ := DataW.trod_int Tryz.underlying3 r1
      obtain ⟨k2, h2, -⟩ := DataW.trod_int Tryz.underlying3 r2
      obtain ⟨k3, h3, -⟩ := DataW.trod_int Tryz.underlying3 r3
      obtain ⟨k4, h4, -⟩ := DataW.trod_int Tryz.underlying3 r4
      obtain ⟨s5, h5, -, l5⟩ := DataW.trod_string Tryz.underlying9 r5
      obtain ⟨s6, h6, -, l6⟩ := DataW.trod_string Tryz.underlying9 r6
      obtain ⟨k7, h7, -⟩ := DataW.trod_int Tryz.underlying3 r7
      cases h0; cases h1; cases h2; cases h3; cases h4; cases h5; cases h6; cases h7
      obtain ⟨x5, rfl⟩ := tx_of s5
      obtain ⟨x6, rfl⟩ := tx_of s6
      refine ⟨⟨k0, k1, k2, k3, k4, x5, x6, k7⟩, by rw [tx_size] at l6; unfold maxLen at l6; exact l6, fun j hj => ?_⟩
      match j, hj with
      | 0, _ => exact g0
      | 1, _ => exact g1
      | 2, _ => exact g2
      | 3, _ => exact g3
      | 4, _ => exact g4
      | 5, _ => exact g5
      | 6, _ => exact g6
      | 7, _ => exact g7
    obtain ⟨f, hf0⟩ : ∃ f : Nat → Ins, ∀ i, i < len → (f i).label.length ≤ 9223372036854775807 ∧ ∀ j, j < 8 → W.cell? (x.add (i * 8 + j)) = (iC (f i))[j]? :=
      ⟨fun i => if h : i < len then Classical.choose (key i h) else ins0, fun i hil => by simp only [hil, dite_true]; exact Classical.choose_spec (key i hil)⟩
    have hf := fun i hi => (hf0 i hi).2
    refine ⟨(List.range len).map f, by simp, ⟨⟨?_, ?_⟩, by simp; omega⟩, by simp; omega, by simp; omega, ?_⟩
    · intro hne
      have h0 : 0 < len := by
        rcases Nat.eq_zero_or_pos len with h0 | h0
        · subst h0; exact absurd rfl hne
        · exact h0
      obtain ⟨b, off, spot⟩ := x
      have h1 := hf 0 h0 0 (by omega)
      have hspot : spot = none := by simpa [Addr.add] using World.cell?_spot h1
      subst hspot; rfl
    · intro i hil
      rw [insC_length] at hil
      simp only [List.length_map, List.length_range] at hil
      have hx0 := hf 0 (by omega) 0 (by omega)
      obtain ⟨b, off, spot⟩ := x
      have hspot : spot = none := by simpa [Addr.add] using World.cell?_spot hx0
      subst hspot
      have h1 := hf (i / 8) (by omega) (i % 8) (Nat.mod_lt _ (by omega))
      have e1 : i / 8 * 8 + i % 8 = i := by omega
      have h2 := insC_get ((List.range len).map f) (i / 8) (i % 8) (f (i / 8)) (by simp [(by omega : i / 8 < len)]) (Nat.mod_lt _ (by omega))
      rw [e1] at h1 h2
      rw [Addr.add_lit] at h1
      simp only [bk_some, fo_some]
      rw [h1, h2]
    · intro i hi
      obtain ⟨k, hk, rfl⟩ := List.mem_map.1 hi
      exact (hf0 k (by simpa using hk)).1
end Go.Proofs.YtigimkgmghjgoaaGreatDoor

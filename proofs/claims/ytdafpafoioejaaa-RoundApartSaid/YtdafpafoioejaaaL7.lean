/- The walk of the statement RoundMemory. Conditions: what came in lies in memory as read; each slice takes fewer than 2^47 bytes. -/
import Derived.Test.YtdafpafoioejaaaL6
namespace Go.Proofs.Ytdafpafoioejaaa
open Go.RowKit
set_option linter.unusedVariables false

/-- two headers and their rows go in at the end -/
theorem OwnM.push2 {w w' : World} {B : Nat} {a a' : Option Addr} {c c' : Nat} {hs : List Hd} {xs : List (List Int)} (h : OwnM w B a c hs xs) (k1 k2 : Hd) (x1 x2 : List Int)
    (ho : Own w' B 22 1 a' (xs.length + 2) c' (hdrs hs xs ++ [hv k1 x1, hv k2 x2])) (hs' : Step w w' a a') (h1 : OwnI w B k1.1 x1.length k1.2 x1) (h2 : OwnI w B k2.1 x2.length k2.2 x2)
    (f1 : FarM a hs k1.1) (f2 : FarM a hs k2.1) (f3 : Apart k1.1 k2.1) :
    OwnM w' B a' c' (hs ++ [k1] ++ [k2]) (xs ++ [x1] ++ [x2]) := by
  have hl : (hs ++ [k1]).length = (xs ++ [x1]).length := by simp [h.len]
  have each : ∀ i, (i < xs.length ∧ hd (hs ++ [k1] ++ [k2]) i = hd hs i ∧ ln (xs ++ [x1] ++ [x2]) i = ln xs i) ∨ (i = xs.length ∧ hd (hs ++ [k1] ++ [k2]) i = k1 ∧ ln (xs ++ [x1] ++ [x2]) i = x1) ∨ (i = xs.length + 1 ∧ hd (hs ++ [k1] ++ [k2]) i = k2 ∧ ln (xs ++ [x1] ++ [x2]) i = x2) ∨ (hd (hs ++ [k1] ++ [k2]) i = (none, 0) ∧ ln (xs ++ [x1] ++ [x2]) i = []) := by
    intro i
    have l1 : (xs ++ [x1]).length = xs.length + 1 := by simp
    have l2 : (hs ++ [k1]).length = xs.length + 1 := by simp [h.len]
    rcases Nat.lt_trichotomy i xs.length with q | q | q
    · exact .inl ⟨q, (getD_snoc_lt (by omega)).trans (getD_snoc_lt (by rw [h.len]; exact q)), (getD_snoc_lt (by omega)).trans (getD_snoc_lt q)⟩
    · exact .inr (.inl ⟨q, (getD_snoc_lt (by omega)).trans (getD_snoc_eq (by rw [h.len]; exact q)), (getD_snoc_lt (by omega)).trans (getD_snoc_eq q)⟩)
    · by_cases e : i = xs.length + 1
      · exact .inr (.inr (.inl ⟨e, getD_snoc_eq (by omega), getD_snoc_eq (by omega)⟩))
      · exact .inr (.inr (.inr ⟨getD_ge (by simp [h.len]; omega), getD_ge (by simp; omega)⟩))
  have st : ∀ i, OwnI w' B (hd hs i).1 (ln xs i).length (hd hs i).2 (ln xs i) ∧ Apart (hd hs i).1 a' := fun i => (h.inner i).step hs' (h.out i).symm
  have s1 : OwnI w' B k1.1 x1.length k1.2 x1 ∧ Apart k1.1 a' := h1.step hs' f1.1.symm
  have s2 : OwnI w' B k2.1 x2.length k2.2 x2 ∧ Apart k2.1 a' := h2.step hs' f2.1.symm
  have ap : ∀ i, Apart a' (hd (hs ++ [k1] ++ [k2]) i).1 := by
    intro i
    rcases each i with ⟨_, e, _⟩ | ⟨_, e, _⟩ | ⟨_, e, _⟩ | ⟨e, _⟩ <;> rw [e]
    · exact (st i).2.symm
    · exact s1.2.symm
    · exact s2.2.symm
    · exact .inr (.inl rfl)
  refine ⟨by simp [h.len], ?_, fun i => ?_, fun i j hij => ?_, ap⟩
  · rw [hdrs_snoc hl, hdrs_snoc h.len, List.append_assoc]
    simpa using ho
  · rcases each i with ⟨_, e1, e2⟩ | ⟨_, e1, e2⟩ | ⟨_, e1, e2⟩ | ⟨e1, e2⟩ <;> rw [e1, e2]
    · exact (st i).1
    · exact s1.1
    · exact s2.1
    · exact Own.nil _ _ _ _
  · rcases each i with ⟨p, e1, _⟩ | ⟨p, e1, _⟩ | ⟨p, e1, _⟩ | ⟨e1, _⟩
    · rcases each j with ⟨q, g1, _⟩ | ⟨q, g1, _⟩ | ⟨q, g1, _⟩ | ⟨g1, _⟩ <;> rw [e1, g1]
      · exact h.apart i j hij
      · exact f1.2 i
      · exact f2.2 i
      · exact .inr (.inl rfl)
    · rcases each j with ⟨q, g1, _⟩ | ⟨q, g1, _⟩ | ⟨q, g1, _⟩ | ⟨g1, _⟩ <;> rw [e1, g1]
      · exact (f1.2 j).symm
      · omega
      · exact f3
      · exact .inr (.inl rfl)
    · rcases each j with ⟨q, g1, _⟩ | ⟨q, g1, _⟩ | ⟨q, g1, _⟩ | ⟨g1, _⟩ <;> rw [e1, g1]
      · exact (f2.2 j).symm
      · exact f3.symm
      · omega
      · exact .inr (.inl rfl)
    · rw [e1]; exact .inl rfl

/-- what was just written out -/
theorem row_lit (w : World) (us : Array Value) (e : TypeId) : Row (w.alloc (.cells us e)) (some ⟨w.heap.size, 0, none⟩) us.toList := by
  refine ⟨fun _ => rfl, fun i hi => ?_⟩
  simp at hi
  have hh := heap_alloc_new w (.cells us e)
  simp only [World.cell?, bk_some, fo_some, hh]
  simp

/-- T and V, again and again -/
def alt (T V : List Int) : Nat → List (List Int)
  | 0 => []
  | i + 1 => alt T V i ++ [T] ++ [V]
theorem alt_length (T V : List Int) : ∀ i, (alt T V i).length = 2 * i
  | 0 => rfl
  | i + 1 => by simp [alt, alt_length T V i]; omega
theorem alt_get (T V : List Int) : ∀ i k, k < 2 * i → ln (alt T V i) k = if k % 2 = 0 then T else V
  | 0, k, h => by omega
  | i + 1, k, h => by
    have l0 := alt_length T V i
    by_cases h1 : k < 2 * i
    · rw [show ln (alt T V (i + 1)) k = ln (alt T V i) k from (getD_snoc_lt (by simp; omega)).trans (getD_snoc_lt (by omega))]
      exact alt_get T V i k h1
    · by_cases h2 : k = 2 * i
      · rw [show ln (alt T V (i + 1)) k = T from (getD_snoc_lt (by simp; omega)).trans (getD_snoc_eq (by omega)), if_pos (by omega)]
      · rw [show ln (alt T V (i + 1)) k = V from getD_snoc_eq (by simp; omega), if_neg (by omega)]

/-- the front of m over the front of l -/
def mix (m l : List Int) (i : Nat) : List Int := m.take i ++ l.drop i
theorem mix_length {m l : List Int} {i : Nat} (h : i ≤ m.length) (h' : i ≤ l.length) : (mix m l i).length = l.length := by simp [mix]; omega
theorem mix_set {m l : List Int} {i : Nat} (h : i < m.length) (h' : i < l.length) : (mix m l i).set i m[i] = mix m l (i + 1) := by
  unfold mix
  rw [List.set_append_right _ _ (by simp; omega), List.length_take, Nat.min_eq_left (by omega), Nat.sub_self, List.drop_eq_getElem_cons h', List.set_cons_zero, List.take_add_one, List.getElem?_eq_getElem h, List.append_assoc]; rfl
theorem mix_set_app {m l r : List Int} {i : Nat} (h : i < m.length) (h' : i < l.length) : (mix m l i ++ r).set i m[i] = mix m l (i + 1) ++ r := by
  rw [List.set_append_left _ _ (by rw [mix_length] <;> omega), mix_set h h']

set_option maxRecDepth 100000 in
set_option maxHeartbeats 4000000 in
theorem lawRoundMemory (l : List Int) (a : Option Addr) (ca : Nat) (m : List Int) (b : Option Addr) (cb : Nat) (x : Int) (w : World)
    (ia : Ints w a l) (hca : l.length ≤ ca) (hba : l.length * 8 ≤ 140737488351232) (hwa : ∀ x ∈ l, -9223372036854775808 ≤ x ∧ x ≤ 9223372036854775807)
    (ib : Ints w b m) (hcb : m.length ≤ cb) (hbb : m.length * 8 ≤ 140737488351232) (hwb : ∀ x ∈ m, -9223372036854775808 ≤ x ∧ x ≤ 9223372036854775807)
    (hx : -9223372036854775808 ≤ x ∧ x ≤ 9223372036854775807) :
    Calls Try.prog 6 #[.slice a l.length ca, .slice b m.length cb, .int .i64 x] w (Tru w) := by
  clear hwa hwb hx
  have ib0 := hid ib
  have hT := turn_length l x
  have HT := hid hT
  have hV : (words l).length ≤ l.length := endsFrom_length l 0
  clear hT
  go_enter Try.func6, Try.ntmps6
  go_wp2_with fail
  refine (refLent l a ca _ ia hca hba).mono ?_
  rintro e w1 ⟨ac, cc, rfl, oc, E1⟩
  have ia := ia.below E1; have ib := ib.below E1; have B := E1
  have hcc := oc.cap.1
  go_wp2_with fail
  refine (refTurn l x _ _ _ ia (by omega)).mono ?_
  rintro e w2 ⟨at2, n2, c2, rfl, o2, E2⟩
  obtain ⟨r2, rfl⟩ := o2.ints
  have ia := ia.below E2; have ib := ib.below E2; have oc := oc.below E2; have B := B.trans (E2.mono B.size)
  clear o2
  go_wp2_with fail
  refine (refWords l _ _ _ ia (by omega)).mono ?_
  rintro e w3 ⟨av, n3, c3, rfl, o3, E3⟩
  obtain ⟨r3, rfl⟩ := o3.ints
  have ia := ia.below E3; have ib := ib.below E3; have oc := oc.below E3; have r2 := r2.below E3; have B := B.trans (E3.mono B.size)
  clear o3
  have hTl : (turn l x).length ≤ l.length := by rw [HT.out]; exact Nat.le_refl _
  generalize hTT : turn l x = T at *
  generalize hVV : words l = V at *
  have HTT := hid hTT; have HVV := hid hVV
  clear hTT hVV
  have rc := oc.ints.1
  go_wp2_with fail
  go_loopw [10, 11] (fun s i wr => ∃ (i' : Nat) (ak : Option Addr) (ck : Nat) (hk : List Hd), i' ≤ 3 ∧ i = .int .i64 i' ∧ s = .slice ak (alt T V i').length ck ∧ OwnM wr w3.heap.size ak ck hk (alt T V i') ∧ Below w3.heap.size w3 wr) (fun _ i _ => 3 - (intOf i).toNat)
  case atStart => exact ⟨0, none, 0, [], by omega, rfl, rfl, OwnM.nil _ _, Below.refl _ _⟩
  case round =>
    obtain ⟨i, ak, ck, hk, hi, rfl, rfl, ok, F⟩ := hrel
    have rc1 := rc.below F
    by_cases hlt : i < 3
    · obtain ⟨X, hX⟩ : ∃ X, alt T V i = X := ⟨_, rfl⟩
      have hXl : X.length ≤ 4 := by rw [← hX, alt_length]; omega
      rw [hX] at ok ⊢
      have HX := hid hX
      clear hX
      go_wp2_with fail
      refine (progTurn l x _ _ _ rc1.app_left (by omega) (by omega)).mono ?_
      rintro e4 w4 ⟨a4, n4, c4, rfl, o4, E4⟩
      rw [HTT.out] at o4
      obtain ⟨r4, rfl⟩ := o4.ints
      have f4 := ok.far_new o4
      have ok4 := ok.below E4
      have F4 := F.trans (E4.mono F.size)
      have o4B := Own.mono o4 F.size
      have rc2 := rc1.below E4
      go_wp2_with fail
      refine (progWords l _ _ _ rc2.app_left (by omega)).mono ?_
      rintro e5 w5 ⟨a5, n5, c5, rfl, o5, E5⟩
      rw [HVV.out] at o5
      obtain ⟨r5, rfl⟩ := o5.ints
      have f5 := ok4.far_new o5
      have f45 : Apart a4 a5 := by
        by_cases h1 : a4 = none
        · exact .inl h1
        · by_cases h2 : a5 = none
          · exact .inr (.inl h2)
          · have := (o4B.lt h1).2; have := (o5.lt h2).1
            exact .inr (.inr (by omega))
      have ok5 := ok4.below E5
      have F5 := F4.trans (E5.mono F4.size)
      have o5B := Own.mono o5 F4.size
      have o45 := o4B.below E5
      clear o4 o5 r4 r5 ok ok4 rc1 rc2
      have A := al w5 (.cells #[hv (a4, c4) T, hv (a5, c5) V] 22)
      have FA := F5.trans (A.mono F5.size)
      have ok6 := ok5.below A
      have o46 := o45.below A
      have o56 := o5B.below A
      have RW := row_lit w5 #[hv (a4, c4) T, hv (a5, c5) V] 22
      clear A ok5 o45 o5B F F4 F5 ia ib
      go_wp2_with (at_builtin; go_loud (refine wpList_app msl (.tmp 30) (.tmp 36) rfl rfl rfl ok6.outer (ys := [hv (a4, c4) T, hv (a5, c5) V]) rfl RW rfl (by intro u hu; simp at hu; rcases hu with rfl | rfl <;> rfl) FA FA.size (by omega) (by unfold maxLen; omega) ?_))
      intro a6 c6 w6 o6 g6 B6
      have n1 := ok6.push2 (a4, c4) (a5, c5) T V o6 g6.step o46 o56 f4 f5 f45
      have hal : alt T V (i + 1) = X ++ [T] ++ [V] := by rw [← HX.out]; rfl
      clear o6 g6 ok6 o46 o56 RW
      have hlen : X.length + 2 = (alt T V (i + 1)).length := by rw [hal]; simp
      rw [← hal] at n1
      rw [hlen]
      clear hal hlen
      go_wp2_with fail
      go_roundw
      case rel => exact ⟨i + 1, a6, c6, _, by omega, by go_num, rfl, n1, B6⟩
      case measure => simp [intOf]; omega
    · have hi3 : i = 3 := by omega
      obtain ⟨wc, rfl⟩ : ∃ wc : World, wc = wr := ⟨_, rfl⟩
      have hXl : (alt T V i).length = 6 := by rw [hi3]; exact alt_length T V 3
      have HAG : Hid (∀ k, k < 6 → ln (alt T V i) k = if k % 2 = 0 then T else V) := hid (by rw [hi3]; exact alt_get T V 3)
      generalize hXX : alt T V i = X at *
      clear hXX hi3
      rw [hXl]
      have r2c := r2.below F; have r3c := r3.below F
      have hAll : ∀ k, (ln X k).length ≤ l.length := by
        intro k
        by_cases hk : k < 6
        · rw [HAG.out k hk]; split
          · exact hTl
          · exact hV
        · rw [show ln X k = [] from getD_ge (by omega)]; simp
      have HAll := hid hAll
      clear hAll
      go_wp2_with fail
      go_loopw [12] (fun i w8 => ∃ (i' : Nat), i' ≤ 6 ∧ i = .int .i64 i' ∧ QW wc w8) (fun i _ => 6 - (intOf i).toNat)
      case atStart => exact ⟨0, Nat.zero_le _, rfl, QW.refl _⟩
      case round =>
        obtain ⟨i, hi, rfl, q⟩ := hrel
        have ok1 := ok.below q.below
        have t1 := r2c.below q.below
        have v1 := r3c.below q.below
        have F1 := below_q F F.size q
        by_cases hlt : i < 6
        · have hxi : i < X.length := by omega
          have i1 := ok1.lists.idx msl i hxi
          have k1 := ok1.lists.cell i hxi
          rw [hXl] at i1
          have hag := HAG.out i hlt
          by_cases hev : i % 2 = 0
          · rw [if_pos hev] at hag
            have ti := ok1.lists.each i
            rw [hag] at k1 ti
            have hm : (i : Int).tmod 2 = 0 := by rw [show (2 : Int) = ((2 : Nat) : Int) from rfl, int_tmod, hev]; rfl
            clear hag hev
            go_wp2_with fail
            refine (refAlike T T _ _ _ _ _ ti t1).mono ?_
            rintro e9 w9 ⟨rfl, q9⟩
            rw [decide_eq_true rfl]
            have q8 := q.trans q9
            go_wp2_with fail
            go_roundw
            case rel => exact ⟨i + 1, by omega, by go_num, q8⟩
            case measure => simp [intOf]; omega
          · rw [if_neg hev] at hag
            have ti := ok1.lists.each i
            rw [hag] at k1 ti
            have hm : (i : Int).tmod 2 = 1 := by rw [show (2 : Int) = ((2 : Nat) : Int) from rfl, int_tmod, show i % 2 = 1 by omega]; rfl
            clear hag hev
            go_wp2_with fail
            refine (refAlike V V _ _ _ _ _ ti v1).mono ?_
            rintro e9 w9 ⟨rfl, q9⟩
            rw [decide_eq_true rfl]
            have q8 := q.trans q9
            go_wp2_with fail
            go_roundw
            case rel => exact ⟨i + 1, by omega, by go_num, q8⟩
            case measure => simp [intOf]; omega
        · clear r2c r3c t1 v1 rc1 ok F q
          have S0 : Hid (Shape X X l.length) := hid ⟨rfl, HAll.out⟩
          clear HAG HAll
          obtain ⟨wd, rfl⟩ : ∃ wd : World, wd = wr := ⟨_, rfl⟩
          go_wp2_with fail
          go_loopw [13] (fun i w8 => ∃ (i' : Nat) (xs : List (List Int)), i' ≤ 6 ∧ i = .int .i64 i' ∧ OwnM w8 w3.heap.size ak ck hk xs ∧ Below w3.heap.size w3 w8 ∧ Hid (Shape xs X l.length) ∧ Hid (Marked xs i')) (fun i _ => 6 - (intOf i).toNat)
          case atStart => exact ⟨0, X, Nat.zero_le _, rfl, ok1, F1, S0, hid (fun j h => absurd h (Nat.not_lt_zero j))⟩
          case round =>
            obtain ⟨i, xs, hi, rfl, T1, G1, S, M⟩ := hrel
            have hxl : xs.length = 6 := by rw [S.out.1]; exact hXl
            by_cases hlt : i < 6
            · have hxi : i < xs.length := by omega
              have i1 := T1.lists.idx msl i hxi
              have k1 := T1.lists.cell i hxi
              rw [hxl] at i1
              go_wp2_with fail
              refine (refMarked (ln xs i) (i : Int) w3.heap.size _ _ _ _ (T1.inner i) (by omega) (by omega)).mono ?_
              rintro e9 w9 ⟨rfl, o9, st9⟩
              have T9 := T1.over i hxi _ (by simp) st9 o9
              have G9 := st9.below (T1.inner i) G1 G1.size
              have S9 := hid (S.out.set hxi (-1000000 - (i : Int)))
              have M9 := hid (M.out.more hxi)
              clear T1 G1 o9 st9 k1
              go_wp2_with fail
              go_roundw
              case rel => exact ⟨i + 1, _, by omega, by go_num, T9, G9, S9, M9⟩
              case measure => simp [intOf]; omega
            · have M1 : Hid (Marked xs 6) := hid (by rw [show 6 = i by omega]; exact M.out)
              clear M
              go_wp2_with fail
              go_loopw [14] (fun i w8 => ∃ (i' : Nat), i' ≤ 6 ∧ i = .int .i64 i' ∧ OwnM w8 w3.heap.size ak ck hk xs ∧ Below w3.heap.size w3 w8) (fun i _ => 6 - (intOf i).toNat)
              case atStart => exact ⟨0, Nat.zero_le _, rfl, T1, G1⟩
              case round =>
                obtain ⟨i2, hi2, rfl, T2, G2⟩ := hrel
                by_cases hlt2 : i2 < 6
                · have hxi : i2 < xs.length := by omega
                  have hln := S.out.2 i2
                  have i1 := T2.lists.idx msl i2 hxi
                  have k1 := T2.lists.cell i2 hxi
                  rw [hxl] at i1
                  go_wp2_with fail
                  refine (refGrown (ln xs i2) (i2 : Int) w3.heap.size _ _ _ _ (T2.inner i2) G2.size (by omega) (by omega) (by omega)).mono ?_
                  rintro e9 w9 ⟨rfl, o9, st9⟩
                  have T9 := T2.over i2 hxi _ rfl st9 o9
                  have G9 := st9.below (T2.inner i2) G2 G2.size
                  rw [set_ln_self hxi] at T9
                  clear T2 G2 o9 st9 k1
                  go_wp2_with fail
                  go_roundw
                  case rel => exact ⟨i2 + 1, by omega, by go_num, T9, G9⟩
                  case measure => simp [intOf]; omega
                · go_wp2_with fail
                  go_loopw [15] (fun i w8 => ∃ (i' : Nat), i' ≤ 6 ∧ i = .int .i64 i' ∧ OwnM w8 w3.heap.size ak ck hk xs ∧ Below w3.heap.size w3 w8) (fun i _ => 6 - (intOf i).toNat)
                  case atStart => exact ⟨0, Nat.zero_le _, rfl, T2, G2⟩
                  case round =>
                    obtain ⟨i3, hi3, rfl, T3, G3⟩ := hrel
                    by_cases hlt3 : i3 < 6
                    · have hxi : i3 < xs.length := by omega
                      have hln := S.out.2 i3
                      have i1 := T3.lists.idx msl i3 hxi
                      have k1 := T3.lists.cell i3 hxi
                      rw [hxl] at i1
                      go_wp2_with fail
                      refine (refHeaped (ln xs i3) (i3 : Int) w3.heap.size _ _ _ _ (T3.inner i3) G3.size (by omega) (by omega) (by omega)).mono ?_
                      rintro e9 w9 ⟨rfl, o9, st9⟩
                      have T9 := T3.over i3 hxi _ rfl st9 o9
                      have G9 := st9.below (T3.inner i3) G3 G3.size
                      rw [set_ln_self hxi] at T9
                      clear T3 G3 o9 st9 k1
                      go_wp2_with fail
                      go_roundw
                      case rel => exact ⟨i3 + 1, by omega, by go_num, T9, G9⟩
                      case measure => simp [intOf]; omega
                    · go_wp2_with fail
                      go_loopw [16] (fun i w8 => ∃ (i' : Nat), i' ≤ 6 ∧ i = .int .i64 i' ∧ OwnM w8 w3.heap.size ak ck hk xs ∧ Below w3.heap.size w3 w8) (fun i _ => 6 - (intOf i).toNat)
                      case atStart => exact ⟨0, Nat.zero_le _, rfl, T3, G3⟩
                      case round =>
                        obtain ⟨i4, hi4, rfl, T4, G4⟩ := hrel
                        by_cases hlt4 : i4 < 6
                        · have hxi : i4 < xs.length := by omega
                          have i1 := T4.lists.idx msl i4 hxi
                          have k1 := T4.lists.cell i4 hxi
                          rw [hxl] at i1
                          go_wp2_with fail
                          refine (refBears (ln xs i4) (i4 : Int) _ _ _ (T4.lists.each i4) (by omega) (by omega)).mono ?_
                          rintro e9 w9 ⟨rfl, q9⟩
                          rw [decide_eq_true (M1.out i4 hlt4)]
                          have T9 := T4.below q9.below
                          have G9 := below_q G4 G4.size q9
                          clear T4 G4 k1
                          go_wp2_with fail
                          go_roundw
                          case rel => exact ⟨i4 + 1, by omega, by go_num, T9, G9⟩
                          case measure => simp [intOf]; omega
                        · clear T4 M1 S
                          have ia := ia.below G4; have ib := ib.below G4; have oc := oc.below G4; have r2 := r2.below G4; have r3 := r3.below G4; have B := B.trans (G4.mono B.size)
                          go_wp2_with fail
                          refine (refKept l l _ _ _ _ _ oc.ints.1 ia rfl (by omega) (by omega)).mono ?_
                          rintro e10 w10 ⟨rfl, q10⟩
                          rw [decide_eq_true rfl]
                          have ia := ia.below q10.below; have ib := ib.below q10.below; have oc := oc.below q10.below; have r2 := r2.below q10.below; have r3 := r3.below q10.below; have B := below_q B B.size q10
                          go_wp2_with fail
                          refine (progTurn l x _ _ _ oc.ints.1.app_left (by omega) (by omega)).mono ?_
                          rintro e11 w11 ⟨a11, n11, c11, rfl, o11, E11⟩
                          rw [HTT.out] at o11
                          obtain ⟨r11, rfl⟩ := o11.ints
                          have ia := ia.below E11; have ib := ib.below E11; have oc := oc.below E11; have r2 := r2.below E11; have r3 := r3.below E11; have B := B.trans (E11.mono B.size)
                          clear o11
                          go_wp2_with fail
                          refine (refAlike T T _ _ _ _ _ r11 r2).mono ?_
                          rintro e12 w12 ⟨rfl, q12⟩
                          rw [decide_eq_true rfl]
                          clear r11 r2
                          have ia := ia.below q12.below; have ib := ib.below q12.below; have oc := oc.below q12.below; have r3 := r3.below q12.below; have B := below_q B B.size q12
                          go_wp2_with fail
                          refine (progWords l _ _ _ oc.ints.1.app_left (by omega)).mono ?_
                          rintro e13 w13 ⟨a13, n13, c13, rfl, o13, E13⟩
                          rw [HVV.out] at o13
                          obtain ⟨r13, rfl⟩ := o13.ints
                          have ia := ia.below E13; have ib := ib.below E13; have oc := oc.below E13; have r3 := r3.below E13; have B := B.trans (E13.mono B.size)
                          clear o13
                          go_wp2_with fail
                          refine (refAlike V V _ _ _ _ _ r13 r3).mono ?_
                          rintro e14 w14 ⟨rfl, q14⟩
                          rw [decide_eq_true rfl]
                          clear r13 r3
                          have ia := ia.below q14.below; have ib := ib.below q14.below; have oc := oc.below q14.below; have B14 := below_q B B.size q14
                          have ol := World.ownsRow_lit (base := w14.heap.size) (e := 3) (size := 1) w14 #[] 0 (Nat.le_refl _) (by decide) rfl
                          have ia2 := ia.below (al w14 (.cells #[] 3))
                          have A14 := al w14 (.cells #[] 3)
                          go_wp2_with (at_builtin; go_loud (refine wpList_app isl (.tmp 138) (.tmp 139) rfl rfl rfl ol rfl ia2.row (by simp) (ints_one _) A14 A14.size (by omega) (by unfold maxLen; omega) ?_))
                          intro a15 c15 w15 o15 g15 E15
                          try rw [Nat.zero_add]
                          have ot0 : OwnI w15 w14.heap.size a15 l.length c15 (mix m l 0) := by simpa [OwnI, mix] using o15
                          have fct : Apart ac a15 := by
                            by_cases h1 : ac = none
                            · exact .inl h1
                            · by_cases h2 : a15 = none
                              · exact .inr (.inl h2)
                              · have := (oc.lt h1).2; have := (ot0.lt h2).1
                                exact .inr (.inr (by omega))
                          have oc0 : OwnI w15 w.heap.size ac (l.length + 70) cc (mix m l 0 ++ marks 70) := oc.below E15
                          have B0 := B14.trans (E15.mono B14.size)
                          clear o15 g15 ol ia2 A14 oc ia ib
                          go_wp2_with fail
                          go_loopw [18] (fun i w8 => ∃ i' : Nat, i' ≤ l.length ∧ i' ≤ m.length ∧ i = .int .i64 i' ∧ OwnI w8 w.heap.size ac (l.length + 70) cc (mix m l i' ++ marks 70) ∧ OwnI w8 w14.heap.size a15 l.length c15 (mix m l i') ∧ Below w.heap.size w w8) (fun i _ => l.length - (intOf i).toNat)
                          case atStart => exact ⟨0, Nat.zero_le _, Nat.zero_le _, rfl, oc0, ot0, B0⟩
                          case round =>
                            obtain ⟨i, hil, him, rfl, oc, ot, B⟩ := hrel
                            have hml := mix_length him hil
                            have ib := ib0.out.below B
                            by_cases hl1 : i < l.length
                            · by_cases hl2 : i < m.length
                              · have im := ib.idx isl i hl2
                                have km := ib.cell i hl2
                                have hma : (mix m l i ++ marks 70).length = l.length + 70 := by rw [List.length_append, hml, marks_length]
                                have ic := oc.ints.1.app_left.idx isl i (by omega)
                                have kc := oc.ints.1.cell i (by omega)
                                obtain ⟨v, hv⟩ : ∃ v, (mix m l i ++ marks 70)[i]'(by omega) = v := ⟨_, rfl⟩
                                rw [hv] at kc
                                have fc := Own.frozen oc (Own.some oc (by omega)) i
                                obtain ⟨oc1, sc1⟩ := Own.set oc (Own.some oc (by omega)) i (.int .i64 m[i])
                                have oc2 : OwnI (wr.setCell ⟨bk ac, fo ac + i, none⟩ (.int .i64 m[i])) w.heap.size ac (l.length + 70) cc (mix m l (i + 1) ++ marks 70) := by
                                  rw [← mix_set_app hl2 hl1]; simpa only [OwnI, ints, List.map_set] using oc1
                                have B1 := sc1.below oc B B.size
                                have km1 := (ib0.out.below B1).cell i hl2
                                have ot1 := (Own.step ot sc1 fct.symm).1
                                have it := ot1.ints.1.idx isl i (by omega)
                                have kt := ot1.ints.1.cell i (by omega)
                                obtain ⟨u, hu⟩ : ∃ u, (mix m l i)[i]'(by omega) = u := ⟨_, rfl⟩
                                rw [hu] at kt
                                have ft := Own.frozen ot1 (Own.some ot1 (by omega)) i
                                obtain ⟨ot2, st2⟩ := Own.set ot1 (Own.some ot1 (by omega)) i (.int .i64 m[i])
                                have ot3 : OwnI ((wr.setCell ⟨bk ac, fo ac + i, none⟩ (.int .i64 m[i])).setCell ⟨bk a15, fo a15 + i, none⟩ (.int .i64 m[i])) w14.heap.size a15 l.length c15 (mix m l (i + 1)) := by
                                  rw [← mix_set hl2 hl1]; simpa only [OwnI, ints, List.map_set] using ot2
                                have oc3 := (Own.step oc2 st2 fct).1
                                have B2 := st2.below (Own.mono ot1 B14.size) B1 B1.size
                                rw [hml] at ic it
                                clear hv hu oc1 sc1 oc2 ot1 ot2 st2 oc ot hml hma ib B B1
                                go_wp2_with fail
                                go_roundw
                                case rel => exact ⟨i + 1, by omega, by omega, by go_num, oc3, ot3, B2⟩
                                case measure => simp [intOf]; omega
                              · have him2 : i = m.length := by omega
                                clear him2
                                have hY : Hid ((mix m l i).length = l.length) := hid hml
                                obtain ⟨Y, hYe⟩ : ∃ Y, mix m l i = Y := ⟨_, rfl⟩
                                rw [hYe] at oc ot hY
                                have PT : Hid (∀ w', Ints w' ac Y → Calls Try.prog 21 #[.slice ac l.length cc, .int .i64 x] w' (RetInts w' (turn Y x))) := hid fun w' h' => by
                                  have := progTurn Y x ac cc w' h' (by have := hY.out; omega) (by have := hY.out; omega)
                                  rwa [hY.out] at this
                                have QT : Hid (∀ w', Ints w' a15 Y → Calls Try.prog 23 #[.slice a15 l.length c15, .int .i64 x] w' (RetInts w' (turn Y x))) := hid fun w' h' => by
                                  have := refTurn Y x a15 c15 w' h' (by have := hY.out; omega)
                                  rwa [hY.out] at this
                                have PW : Hid (∀ w', Ints w' ac Y → Calls Try.prog 14 #[.slice ac l.length cc] w' (RetInts w' (words Y))) := hid fun w' h' => by
                                  have := progWords Y ac cc w' h' (by have := hY.out; omega)
                                  rwa [hY.out] at this
                                have QW' : Hid (∀ w', Ints w' a15 Y → Calls Try.prog 18 #[.slice a15 l.length c15] w' (RetInts w' (words Y))) := hid fun w' h' => by
                                  have := refWords Y a15 c15 w' h' (by have := hY.out; omega)
                                  rwa [hY.out] at this
                                have PL : Hid (∀ w', Ints w' ac Y → Calls Try.prog 12 #[.slice ac l.length cc] w' (RetQ w' (.int .i64 (least Y)))) := hid fun w' h' => by
                                  have := progLeast Y ac cc w' h' (by have := hY.out; omega)
                                  rwa [hY.out] at this
                                have QL : Hid (∀ w', Ints w' a15 Y → Calls Try.prog 15 #[.slice a15 l.length c15] w' (RetQ w' (.int .i64 (least Y)))) := hid fun w' h' => by
                                  have := refLeast Y a15 c15 w' h' (by have := hY.out; omega)
                                  rwa [hY.out] at this
                                have PP : Hid (∀ w', Ints w' ac Y → Calls Try.prog 13 #[.slice ac l.length cc] w' (Ret w' (.int .i64 (period Y)))) := hid fun w' h' => by
                                  have := progPeriod Y ac cc w' h' (by have := hY.out; omega)
                                  rwa [hY.out] at this
                                have QP : Hid (∀ w', Ints w' a15 Y → Calls Try.prog 16 #[.slice a15 l.length c15] w' (RetQ w' (.int .i64 (period Y)))) := hid fun w' h' => by
                                  have := refPeriod Y a15 c15 w' h' (by have := hY.out; omega)
                                  rwa [hY.out] at this
                                have rc := oc.ints.1.app_left
                                have rt := ot.ints.1
                                clear hYe hml hY oc ot oc0 ot0
                                generalize turn Y x = T2 at *
                                generalize words Y = V2 at *
                                generalize least Y = n2 at *
                                generalize period Y = p2 at *
                                go_wp2_with fail
                                refine (PT.out _ rc).mono ?_
                                rintro e20 w20 ⟨a20, n20, c20, rfl, o20, E20⟩
                                obtain ⟨r20, rfl⟩ := o20.ints
                                have rc := rc.below E20; have rt := rt.below E20; have B := B.trans (E20.mono B.size)
                                clear o20
                                go_wp2_with fail
                                refine (QT.out _ rt).mono ?_
                                rintro e21 w21 ⟨a21, n21, c21, rfl, o21, E21⟩
                                obtain ⟨r21, rfl⟩ := o21.ints
                                have rc := rc.below E21; have rt := rt.below E21; have r20 := r20.below E21; have B := B.trans (E21.mono B.size)
                                clear o21
                                go_wp2_with fail
                                refine (refAlike T2 T2 _ _ _ _ _ r20 r21).mono ?_
                                rintro e22 w22 ⟨rfl, q22⟩
                                rw [decide_eq_true rfl]
                                have rc := rc.below q22.below; have rt := rt.below q22.below; have B := below_q B B.size q22
                                clear r20 r21
                                go_wp2_with fail
                                refine (PW.out _ rc).mono ?_
                                rintro e23 w23 ⟨a23, n23, c23, rfl, o23, E23⟩
                                obtain ⟨r23, rfl⟩ := o23.ints
                                have rc := rc.below E23; have rt := rt.below E23; have B := B.trans (E23.mono B.size)
                                clear o23
                                go_wp2_with fail
                                refine (QW'.out _ rt).mono ?_
                                rintro e24 w24 ⟨a24, n24, c24, rfl, o24, E24⟩
                                obtain ⟨r24, rfl⟩ := o24.ints
                                have rc := rc.below E24; have rt := rt.below E24; have r23 := r23.below E24; have B := B.trans (E24.mono B.size)
                                clear o24
                                go_wp2_with fail
                                refine (refAlike V2 V2 _ _ _ _ _ r23 r24).mono ?_
                                rintro e25 w25 ⟨rfl, q25⟩
                                rw [decide_eq_true rfl]
                                have rc := rc.below q25.below; have rt := rt.below q25.below; have B := below_q B B.size q25
                                clear r23 r24
                                go_wp2_with fail
                                refine (PL.out _ rc).mono ?_
                                rintro e26 w26 ⟨rfl, q26⟩
                                have rc := rc.below q26.below; have rt := rt.below q26.below; have B := below_q B B.size q26
                                go_wp2_with fail
                                refine (QL.out _ rt).mono ?_
                                rintro e27 w27 ⟨rfl, q27⟩
                                have rc := rc.below q27.below; have rt := rt.below q27.below; have B := below_q B B.size q27
                                go_wp2_with fail
                                refine (PP.out _ rc).mono ?_
                                rintro e28 w28 ⟨rfl, E28⟩
                                have rt := rt.below E28; have B := B.trans (E28.mono B.size)
                                go_wp2_with fail
                                refine (QP.out _ rt).mono ?_
                                rintro e29 w29 ⟨rfl, q29⟩
                                have B := below_q B B.size q29
                                go_wp2_with fail
                                refine (awake_any _).mono ?_
                                rintro e30 w30 ⟨rfl, E30⟩
                                have B := B.trans (E30.mono B.size)
                                go_wp2_with fail
                                go_ret
                                exact ⟨rfl, B⟩
                            · have hY : Hid ((mix m l i).length = l.length) := hid hml
                              obtain ⟨Y, hYe⟩ : ∃ Y, mix m l i = Y := ⟨_, rfl⟩
                              rw [hYe] at oc ot hY
                              have PT : Hid (∀ w', Ints w' ac Y → Calls Try.prog 21 #[.slice ac l.length cc, .int .i64 x] w' (RetInts w' (turn Y x))) := hid fun w' h' => by
                                have := progTurn Y x ac cc w' h' (by have := hY.out; omega) (by have := hY.out; omega)
                                rwa [hY.out] at this
                              have QT : Hid (∀ w', Ints w' a15 Y → Calls Try.prog 23 #[.slice a15 l.length c15, .int .i64 x] w' (RetInts w' (turn Y x))) := hid fun w' h' => by
                                have := refTurn Y x a15 c15 w' h' (by have := hY.out; omega)
                                rwa [hY.out] at this
                              have PW : Hid (∀ w', Ints w' ac Y → Calls Try.prog 14 #[.slice ac l.length cc] w' (RetInts w' (words Y))) := hid fun w' h' => by
                                have := progWords Y ac cc w' h' (by have := hY.out; omega)
                                rwa [hY.out] at this
                              have QW' : Hid (∀ w', Ints w' a15 Y → Calls Try.prog 18 #[.slice a15 l.length c15] w' (RetInts w' (words Y))) := hid fun w' h' => by
                                have := refWords Y a15 c15 w' h' (by have := hY.out; omega)
                                rwa [hY.out] at this
                              have PL : Hid (∀ w', Ints w' ac Y → Calls Try.prog 12 #[.slice ac l.length cc] w' (RetQ w' (.int .i64 (least Y)))) := hid fun w' h' => by
                                have := progLeast Y ac cc w' h' (by have := hY.out; omega)
                                rwa [hY.out] at this
                              have QL : Hid (∀ w', Ints w' a15 Y → Calls Try.prog 15 #[.slice a15 l.length c15] w' (RetQ w' (.int .i64 (least Y)))) := hid fun w' h' => by
                                have := refLeast Y a15 c15 w' h' (by have := hY.out; omega)
                                rwa [hY.out] at this
                              have PP : Hid (∀ w', Ints w' ac Y → Calls Try.prog 13 #[.slice ac l.length cc] w' (Ret w' (.int .i64 (period Y)))) := hid fun w' h' => by
                                have := progPeriod Y ac cc w' h' (by have := hY.out; omega)
                                rwa [hY.out] at this
                              have QP : Hid (∀ w', Ints w' a15 Y → Calls Try.prog 16 #[.slice a15 l.length c15] w' (RetQ w' (.int .i64 (period Y)))) := hid fun w' h' => by
                                have := refPeriod Y a15 c15 w' h' (by have := hY.out; omega)
                                rwa [hY.out] at this
                              have rc := oc.ints.1.app_left
                              have rt := ot.ints.1
                              clear hYe hml hY oc ot oc0 ot0
                              generalize turn Y x = T2 at *
                              generalize words Y = V2 at *
                              generalize least Y = n2 at *
                              generalize period Y = p2 at *
                              go_wp2_with fail
                              refine (PT.out _ rc).mono ?_
                              rintro e20 w20 ⟨a20, n20, c20, rfl, o20, E20⟩
                              obtain ⟨r20, rfl⟩ := o20.ints
                              have rc := rc.below E20; have rt := rt.below E20; have B := B.trans (E20.mono B.size)
                              clear o20
                              go_wp2_with fail
                              refine (QT.out _ rt).mono ?_
                              rintro e21 w21 ⟨a21, n21, c21, rfl, o21, E21⟩
                              obtain ⟨r21, rfl⟩ := o21.ints
                              have rc := rc.below E21; have rt := rt.below E21; have r20 := r20.below E21; have B := B.trans (E21.mono B.size)
                              clear o21
                              go_wp2_with fail
                              refine (refAlike T2 T2 _ _ _ _ _ r20 r21).mono ?_
                              rintro e22 w22 ⟨rfl, q22⟩
                              rw [decide_eq_true rfl]
                              have rc := rc.below q22.below; have rt := rt.below q22.below; have B := below_q B B.size q22
                              clear r20 r21
                              go_wp2_with fail
                              refine (PW.out _ rc).mono ?_
                              rintro e23 w23 ⟨a23, n23, c23, rfl, o23, E23⟩
                              obtain ⟨r23, rfl⟩ := o23.ints
                              have rc := rc.below E23; have rt := rt.below E23; have B := B.trans (E23.mono B.size)
                              clear o23
                              go_wp2_with fail
                              refine (QW'.out _ rt).mono ?_
                              rintro e24 w24 ⟨a24, n24, c24, rfl, o24, E24⟩
                              obtain ⟨r24, rfl⟩ := o24.ints
                              have rc := rc.below E24; have rt := rt.below E24; have r23 := r23.below E24; have B := B.trans (E24.mono B.size)
                              clear o24
                              go_wp2_with fail
                              refine (refAlike V2 V2 _ _ _ _ _ r23 r24).mono ?_
                              rintro e25 w25 ⟨rfl, q25⟩
                              rw [decide_eq_true rfl]
                              have rc := rc.below q25.below; have rt := rt.below q25.below; have B := below_q B B.size q25
                              clear r23 r24
                              go_wp2_with fail
                              refine (PL.out _ rc).mono ?_
                              rintro e26 w26 ⟨rfl, q26⟩
                              have rc := rc.below q26.below; have rt := rt.below q26.below; have B := below_q B B.size q26
                              go_wp2_with fail
                              refine (QL.out _ rt).mono ?_
                              rintro e27 w27 ⟨rfl, q27⟩
                              have rc := rc.below q27.below; have rt := rt.below q27.below; have B := below_q B B.size q27
                              go_wp2_with fail
                              refine (PP.out _ rc).mono ?_
                              rintro e28 w28 ⟨rfl, E28⟩
                              have rt := rt.below E28; have B := B.trans (E28.mono B.size)
                              go_wp2_with fail
                              refine (QP.out _ rt).mono ?_
                              rintro e29 w29 ⟨rfl, q29⟩
                              have B := below_q B B.size q29
                              go_wp2_with fail
                              refine (awake_any _).mono ?_
                              rintro e30 w30 ⟨rfl, E30⟩
                              have B := B.trans (E30.mono B.size)
                              go_wp2_with fail
                              go_ret
                              exact ⟨rfl, B⟩
end Go.Proofs.Ytdafpafoioejaaa

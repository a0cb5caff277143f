/- The walk of the statement RoundClasses. Conditions: what came in lies in memory as read; each slice takes fewer than 2^47 bytes. -/
import Derived.Test.YtdafpafoioejaaaW13
namespace Go.Proofs.Ytdafpafoioejaaa
open Go.RowKit
set_option linter.unusedVariables false

/-- copies of the first i lists, with marks in the room behind each -/
structure LentM (w : World) (B : Nat) (a : Option Addr) (c : Nat) (hs : List Hd) (ls : List (List Int)) (i : Nat) : Prop where
  len : hs.length = i
  outer : Own w B 22 1 a i c (hdrs hs (ls.take i))
  inner : ∀ j, j < i → OwnI w B (hd hs j).1 ((ln ls j).length + 70) (hd hs j).2 (ln ls j ++ marks 70)
  out : ∀ j, j < i → Apart a (hd hs j).1
theorem LentM.nil (w : World) (B : Nat) (ls : List (List Int)) : LentM w B none 0 [] ls 0 := ⟨rfl, Own.nil _ _ _ _, fun j h => absurd h (Nat.not_lt_zero j), fun j h => absurd h (Nat.not_lt_zero j)⟩
theorem LentM.below {w w' : World} {B : Nat} {a : Option Addr} {c : Nat} {hs : List Hd} {ls : List (List Int)} {i : Nat} (h : LentM w B a c hs ls i) (hb : Below w.heap.size w w') : LentM w' B a c hs ls i :=
  ⟨h.len, h.outer.below hb, fun j hj => (h.inner j hj).below hb, h.out⟩
theorem take_snoc_ln {ls : List (List Int)} {i : Nat} (h : i < ls.length) : ls.take (i + 1) = ls.take i ++ [ln ls i] := by
  rw [List.take_add_one]
  congr 1
  unfold ln
  rw [List.getD_eq_getElem?_getD, List.getElem?_eq_getElem h]; rfl
theorem LentM.push {w w' : World} {B : Nat} {a a' : Option Addr} {c c' : Nat} {hs : List Hd} {ls : List (List Int)} {i : Nat} (h : LentM w B a c hs ls i) (hi : i < ls.length) (k : Hd)
    (ho : Own w' B 22 1 a' (i + 1) c' (hdrs hs (ls.take i) ++ [hv k (ln ls i)])) (hs' : Step w w' a a') (hk : OwnI w B k.1 ((ln ls i).length + 70) k.2 (ln ls i ++ marks 70)) (hk2 : Apart a k.1) :
    LentM w' B a' c' (hs ++ [k]) ls (i + 1) := by
  have e : hdrs (hs ++ [k]) (ls.take (i + 1)) = hdrs hs (ls.take i) ++ [hv k (ln ls i)] := by
    rw [take_snoc_ln hi]; exact hdrs_snoc (by rw [h.len, List.length_take]; omega) k _
  have hd1 : ∀ j, j < i → hd (hs ++ [k]) j = hd hs j := fun j hj => getD_snoc_lt (by rw [h.len]; exact hj)
  have hd2 : hd (hs ++ [k]) i = k := getD_snoc_eq h.len.symm
  refine ⟨by simp [h.len], by rw [e]; exact ho, fun j hj => ?_, fun j hj => ?_⟩
  · by_cases e1 : j = i
    · subst e1; rw [hd2]; exact (Own.step hk hs' hk2.symm).1
    · rw [hd1 j (by omega)]; exact (Own.step (h.inner j (by omega)) hs' (h.out j (by omega)).symm).1
  · by_cases e1 : j = i
    · subst e1; rw [hd2]; exact (Own.step hk hs' hk2.symm).2.symm
    · rw [hd1 j (by omega)]; exact (Own.step (h.inner j (by omega)) hs' (h.out j (by omega)).symm).2.symm
theorem LentM.lists {w : World} {B : Nat} {a : Option Addr} {c : Nat} {hs : List Hd} {ls : List (List Int)} (h : LentM w B a c hs ls ls.length) (hm : ls.length ≤ 9223372036854775807) : Lists w a hs ls := by
  have h1 := h.outer.row
  rw [List.take_length] at h1
  have big : ∀ j, ¬ j < ls.length → hd hs j = (none, 0) ∧ ln ls j = [] := fun j hj => ⟨getD_ge (by rw [h.len]; omega), getD_ge (by omega)⟩
  refine ⟨h.len, h1, hm, fun j => ?_, fun j => ?_⟩
  · by_cases hj : j < ls.length
    · exact (h.inner j hj).ints.1.app_left
    · rw [(big j hj).1, (big j hj).2]; exact Ints.nil _ _
  · by_cases hj : j < ls.length
    · have := (h.inner j hj).cap.1; omega
    · rw [(big j hj).1, (big j hj).2]; simp
theorem set_ln_self {xs : List (List Int)} {i : Nat} (h : i < xs.length) : xs.set i (ln xs i) = xs := by
  unfold ln
  rw [List.getD_eq_getElem?_getD, List.getElem?_eq_getElem h]
  exact List.set_getElem_self h
theorem classes_length_le (ls : List (List Int)) : (classes ls).length ≤ ls.length := classesTo_length_le ls _
theorem classes_ln_le (ls : List (List Int)) (k : Nat) : (ln (classes ls) k).length ≤ ls.length := ln_length_le ls _ k
theorem OwnM.sep {w w' : World} {B : Nat} {a a' : Option Addr} {c c' : Nat} {hs hs' : List Hd} {xs xs' : List (List Int)} (h : OwnM w B a c hs xs) (h' : OwnM w' w.heap.size a' c' hs' xs') : Sep a hs a' hs' :=
  ⟨h.far_new h'.outer, fun j => h.far_new (h'.inner j)⟩

/-- three answers side by side, of which the first one is written over -/
structure Tri (w0 w : World) (ax : Option Addr) (cx : Nat) (hsx : List Hd) (xs : List (List Int)) (By : Nat) (ay : Option Addr) (cy : Nat) (hsy : List Hd) (Bz : Nat) (az : Option Addr) (cz : Nat) (hsz : List Hd) (X : List (List Int)) : Prop where
  x : OwnM w w0.heap.size ax cx hsx xs
  y : OwnM w By ay cy hsy X
  z : OwnM w Bz az cz hsz X
  below : Below w0.heap.size w0 w
  sxy : Sep ax hsx ay hsy
  sxz : Sep ax hsx az hsz
theorem Tri.q {w0 w w' : World} {ax : Option Addr} {cx : Nat} {hsx : List Hd} {xs : List (List Int)} {By : Nat} {ay : Option Addr} {cy : Nat} {hsy : List Hd} {Bz : Nat} {az : Option Addr} {cz : Nat} {hsz : List Hd} {X : List (List Int)}
    (h : Tri w0 w ax cx hsx xs By ay cy hsy Bz az cz hsz X) (q : QW w w') : Tri w0 w' ax cx hsx xs By ay cy hsy Bz az cz hsz X :=
  ⟨h.x.below q.below, h.y.below q.below, h.z.below q.below, below_q h.below h.below.size q, h.sxy, h.sxz⟩
theorem Tri.over {w0 w w' : World} {ax : Option Addr} {cx : Nat} {hsx : List Hd} {xs : List (List Int)} {By : Nat} {ay : Option Addr} {cy : Nat} {hsy : List Hd} {Bz : Nat} {az : Option Addr} {cz : Nat} {hsz : List Hd} {X : List (List Int)}
    (h : Tri w0 w ax cx hsx xs By ay cy hsy Bz az cz hsz X) (i : Nat) (hi : i < xs.length) (x' : List Int) (hx : x'.length = (ln xs i).length) (st : Step w w' (hd hsx i).1 (hd hsx i).1)
    (ho : OwnI w' w0.heap.size (hd hsx i).1 (ln xs i).length (hd hsx i).2 x') : Tri w0 w' ax cx hsx (xs.set i x') By ay cy hsy Bz az cz hsz X :=
  ⟨h.x.over i hi x' hx st ho, (h.y.stepF st (h.sxy.symm.2 i)).1, (h.z.stepF st (h.sxz.symm.2 i)).1, st.below (h.x.inner i) h.below h.below.size, h.sxy, h.sxz⟩
/-- the first i rows bear their marks -/
def Marked (xs : List (List Int)) (i : Nat) : Prop := ∀ j, j < i → ∀ v ∈ ln xs j, v = -1000000 - (j : Int)
theorem Marked.more {xs : List (List Int)} {i : Nat} (h : Marked xs i) (hi : i < xs.length) : Marked (xs.set i (List.replicate (ln xs i).length (-1000000 - (i : Int)))) (i + 1) := by
  intro j hj v hv
  by_cases e : j = i
  · subst e
    rw [show ln (xs.set j _) j = _ from getD_set_self hi] at hv
    exact List.eq_of_mem_replicate hv
  · rw [show ln (xs.set i _) j = ln xs j from getD_set_ne' e] at hv
    exact h j (by omega) v hv
/-- as many rows, none of them longer than n -/
def Shape (xs X : List (List Int)) (n : Nat) : Prop := xs.length = X.length ∧ ∀ k, (ln xs k).length ≤ n
theorem Shape.set {xs X : List (List Int)} {n i : Nat} (h : Shape xs X n) (hi : i < xs.length) (m : Int) : Shape (xs.set i (List.replicate (ln xs i).length m)) X n := by
  refine ⟨by rw [List.length_set]; exact h.1, fun k => ?_⟩
  by_cases e : k = i
  · subst e; rw [show ln (xs.set k _) k = _ from getD_set_self hi]; simp; exact h.2 k
  · rw [show ln (xs.set i _) k = ln xs k from getD_set_ne' e]; exact h.2 k

set_option maxRecDepth 100000 in
set_option maxHeartbeats 4000000 in
theorem lawRoundClasses (ls : List (List Int)) (hs : List Hd) (a : Option Addr) (ca : Nat) (w : World)
    (h : Lists w a hs ls) (hc : ls.length ≤ ca) (hb : ls.length * 24 ≤ 140737488351232) (hbi : ∀ i, (ln ls i).length * 8 ≤ 140737488351232) :
    Calls Try.prog 9 #[.slice a ls.length ca] w (Tru w) := by
  have hm := h.most
  have HBI := hid hbi
  have HBI' := hbi
  clear hbi
  go_enter Try.func9, Try.ntmps9
  go_wp2_with fail
  go_loopw [3, 4] (fun s i wr => ∃ (i' : Nat) (ac : Option Addr) (cc : Nat) (hsc : List Hd), i' ≤ ls.length ∧ i = .int .i64 i' ∧ s = .slice ac i' cc ∧ LentM wr w.heap.size ac cc hsc ls i' ∧ Below w.heap.size w wr) (fun _ i _ => ls.length - (intOf i).toNat)
  case atStart => exact ⟨0, none, 0, [], Nat.zero_le _, rfl, rfl, LentM.nil _ _ _, Below.refl _ _⟩
  case round =>
    obtain ⟨i, ac, cc, hsc, hi, rfl, rfl, o1, B⟩ := hrel
    have L := h.below B
    by_cases hlt : i < ls.length
    · have ix := L.idx msl i hlt
      have cx := L.cell i hlt
      have hbx := HBI.out i
      go_wp2_with fail
      refine (refLent (ln ls i) _ _ _ (L.each i) (L.cap i) hbx).mono ?_
      rintro e1 w1 ⟨at1, ct, rfl, ot, E1⟩
      have f1 : Apart ac at1 := by
        by_cases h1 : ac = none
        · exact .inl h1
        · by_cases h2 : at1 = none
          · exact .inr (.inl h2)
          · have := (o1.outer.lt h1).2; have := (ot.lt h2).1
            exact .inr (.inr (by omega))
      have o2 := o1.below E1
      have B1 := B.trans (E1.mono B.size)
      have otB := Own.mono ot B.size
      clear ot cx
      go_wp2_with (at_builtin; go_loud (refine wpList_app1 msl (.tmp 19) (.tmp 25) rfl rfl rfl o2.outer rfl rfl (by intro u hu; simp at hu; subst hu; rfl) B1 B1.size (by omega) (by unfold maxLen; omega) ?_))
      intro a6 c6 w6 o6 g6 B6
      have n1 := o2.push hlt (at1, ct) o6 g6.step otB f1
      clear o6 g6 o2 otB
      go_wp2_with fail
      go_roundw
      case rel => exact ⟨i + 1, a6, c6, _, by omega, by go_num, rfl, n1, B6⟩
      case measure => simp [intOf]; omega
    · obtain rfl : i = ls.length := by omega
      obtain ⟨wc, rfl⟩ : ∃ wc : World, wc = wr := ⟨_, rfl⟩
      have Lc := o1.lists hm
      have Kc : ∀ j, j < ls.length → Ints wc (hd hsc j).1 (ln ls j ++ marks 70) ∧ (ln ls j).length + 70 ≤ (hd hsc j).2 := fun j hj => ⟨(o1.inner j hj).ints.1, (o1.inner j hj).cap.1⟩
      have KC := hid Kc
      clear Kc o1
      go_wp2_with fail
      refine (progClasses ls ac cc hsc _ Lc hb HBI').mono ?_
      rintro e2 w2 ⟨ax, cx, hsx, rfl, ox, E2⟩
      have L2 := L.below E2; have Lc2 := Lc.below E2; have B2 := B.trans (E2.mono B.size)
      go_wp2_with fail
      refine (progClasses ls ac cc hsc _ Lc2 hb HBI').mono ?_
      rintro e3 w3 ⟨ay, cy, hsy, rfl, oy, E3⟩
      have L3 := L2.below E3; have B3 := B2.trans (E3.mono B2.size); have F3 := E2.trans (E3.mono E2.size)
      have sxy := ox.sep oy
      have ox3 := ox.below E3
      clear ox Lc2 L2
      go_wp2_with fail
      refine (refClasses ls a ca hs _ L3 hb HBI').mono ?_
      rintro e4 w4 ⟨az, cz, hsz, rfl, oz, E4⟩
      have L4 := L3.below E4; have B4 := B3.trans (E4.mono B3.size); have F4 := F3.trans (E4.mono F3.size)
      have sxz := ox3.sep oz
      have ox4 := ox3.below E4; have oy4 := oy.below E4
      have hXl := classes_length_le ls
      have hXi := classes_ln_le ls
      have HCL : Hid (classes ls = classes ls) := hid rfl
      clear ox3 oy L3
      go_wp2_with fail
      refine (refAllAlike (classes ls) (classes ls) _ _ _ _ _ _ _ ox4.lists oz.lists).mono ?_
      rintro e5 w5 ⟨rfl, q5⟩
      rw [decide_eq_true rfl]
      have L5 := L4.below q5.below; have B5 := below_q B4 B4.size q5; have F5 := below_q F4 F4.size q5
      have ox5 := ox4.below q5.below; have oy5 := oy4.below q5.below; have oz5 := oz.below q5.below
      clear ox4 oy4 oz L4
      go_wp2_with fail
      refine (refAllAlike (classes ls) (classes ls) _ _ _ _ _ _ _ oy5.lists oz5.lists).mono ?_
      rintro e6 w6 ⟨rfl, q6⟩
      rw [decide_eq_true rfl]
      have L6 := L5.below q6.below; have B6 := below_q B5 B5.size q6; have F6 := below_q F5 F5.size q6
      have ox6 := ox5.below q6.below; have oy6 := oy5.below q6.below; have oz6 := oz5.below q6.below
      clear ox5 oy5 oz5 L5
      have PC : Hid (∀ w', Lists w' ac hsc ls → Calls Try.prog 31 #[.slice ac ls.length cc] w' (RetM w' (classes ls))) := hid fun w' h' => progClasses ls ac cc hsc w' h' hb HBI'
      generalize classes ls = X at *
      clear HCL
      have HXI := hid hXi
      clear hXi
      have hXb : X.length ≤ 1000000000000000 := by omega
      go_wp2_with fail
      -- what was lent is as it was
      go_loopw [8] (fun i w7 => ∃ i' : Nat, i' ≤ ls.length ∧ i = .int .i64 i' ∧ QW w6 w7) (fun i _ => ls.length - (intOf i).toNat)
      case atStart => exact ⟨0, Nat.zero_le _, rfl, QW.refl _⟩
      case round =>
        obtain ⟨i, hi, rfl, q7⟩ := hrel
        have L7 := L6.below q7.below
        have F7 := below_q F6 F6.size q7
        have Lc7 := Lc.below F7
        by_cases hlt : i < ls.length
        · have i1 := Lc7.idx msl i hlt
          have k1 := Lc7.cell i hlt
          have i2 := L7.idx msl i hlt
          have k2 := L7.cell i hlt
          obtain ⟨z1, z2⟩ := KC.out i hlt
          have z3 := z1.below F7
          have hbx := HBI.out i
          have C := hid (fun n => refKept (ln ls i) (ln ls i) (hd hsc i).1 (hd hs i).1 (hd hsc i).2 (hd hs i).2 _ (z3.drewN n) ((L7.each i).drewN n) rfl (by omega) (by omega))
          have D : decide (ln ls i = ln ls i) = true := decide_eq_true rfl
          rw [D] at C
          clear D z1 z3
          go_wp2_with fail
          go_quiet (((go_at_call 19; exact RetQ.quiet (C.out _))))
          go_wp2_with fail
          go_roundw
          case rel => exact ⟨i + 1, by omega, by go_num, q7.trans (by repeat (first | exact QW.refl _ | refine QW.d ?_ _))⟩
          case measure => simp [intOf]; omega
        · have T0 : Tri wc _ ax cx hsx X w2.heap.size ay cy hsy w3.heap.size az cz hsz X := ⟨ox6.below q7.below, oy6.below q7.below, oz6.below q7.below, F7, sxy, sxz⟩
          have S0 : Hid (Shape X X ls.length) := hid ⟨rfl, HXI.out⟩
          clear q7 L7 F7 Lc7
          go_wp2_with fail
          go_loopw [9] (fun i w8 => ∃ (i' : Nat) (xs : List (List Int)), i' ≤ X.length ∧ i = .int .i64 i' ∧ Tri wc w8 ax cx hsx xs w2.heap.size ay cy hsy w3.heap.size az cz hsz X ∧ Hid (Shape xs X ls.length) ∧ Hid (Marked xs i')) (fun i _ => X.length - (intOf i).toNat)
          case atStart => exact ⟨0, X, Nat.zero_le _, rfl, T0, S0, hid (fun j h => absurd h (Nat.not_lt_zero j))⟩
          case round =>
            obtain ⟨i, xs, hi, rfl, T, S, M⟩ := hrel
            by_cases hlt : i < X.length
            · have hxi : i < xs.length := by rw [S.out.1]; exact hlt
              have i1 := T.x.lists.idx msl i hxi
              have k1 := T.x.lists.cell i hxi
              rw [S.out.1] at i1
              go_wp2_with fail
              refine (refMarked (ln xs i) (i : Int) wc.heap.size _ _ _ _ (T.x.inner i) (by omega) (by omega)).mono ?_
              rintro e9 w9 ⟨rfl, o9, st9⟩
              have T9 := T.over i hxi _ (by simp) st9 o9
              have S9 := hid (S.out.set hxi (-1000000 - (i : Int)))
              have M9 := hid (M.out.more hxi)
              clear T o9 st9 k1
              go_wp2_with fail
              go_roundw
              case rel => exact ⟨i + 1, _, by omega, by go_num, T9, S9, M9⟩
              case measure => simp [intOf]; omega
            · have M1 : Hid (Marked xs X.length) := hid (by rw [show X.length = i by omega]; exact M.out)
              clear M
              go_wp2_with fail
              go_loopw [10] (fun i w8 => ∃ (i' : Nat), i' ≤ X.length ∧ i = .int .i64 i' ∧ Tri wc w8 ax cx hsx xs w2.heap.size ay cy hsy w3.heap.size az cz hsz X) (fun i _ => X.length - (intOf i).toNat)
              case atStart => exact ⟨0, Nat.zero_le _, rfl, T⟩
              case round =>
                obtain ⟨i2, hi2, rfl, T2⟩ := hrel
                by_cases hlt2 : i2 < X.length
                · have hxi : i2 < xs.length := by rw [S.out.1]; exact hlt2
                  have hln := S.out.2 i2
                  have i1 := T2.x.lists.idx msl i2 hxi
                  have k1 := T2.x.lists.cell i2 hxi
                  rw [S.out.1] at i1
                  go_wp2_with fail
                  refine (refGrown (ln xs i2) (i2 : Int) wc.heap.size _ _ _ _ (T2.x.inner i2) T2.below.size (by omega) (by omega) (by omega)).mono ?_
                  rintro e9 w9 ⟨rfl, o9, st9⟩
                  have T9 := T2.over i2 hxi _ rfl st9 o9
                  rw [set_ln_self hxi] at T9
                  clear T2 o9 st9 k1
                  go_wp2_with fail
                  go_roundw
                  case rel => exact ⟨i2 + 1, by omega, by go_num, T9⟩
                  case measure => simp [intOf]; omega
                · go_wp2_with fail
                  go_loopw [11] (fun i w8 => ∃ (i' : Nat), i' ≤ X.length ∧ i = .int .i64 i' ∧ Tri wc w8 ax cx hsx xs w2.heap.size ay cy hsy w3.heap.size az cz hsz X) (fun i _ => X.length - (intOf i).toNat)
                  case atStart => exact ⟨0, Nat.zero_le _, rfl, T2⟩
                  case round =>
                    obtain ⟨i3, hi3, rfl, T3⟩ := hrel
                    by_cases hlt3 : i3 < X.length
                    · have hxi : i3 < xs.length := by rw [S.out.1]; exact hlt3
                      have hln := S.out.2 i3
                      have i1 := T3.x.lists.idx msl i3 hxi
                      have k1 := T3.x.lists.cell i3 hxi
                      rw [S.out.1] at i1
                      go_wp2_with fail
                      refine (refHeaped (ln xs i3) (i3 : Int) wc.heap.size _ _ _ _ (T3.x.inner i3) T3.below.size (by omega) (by omega) (by omega)).mono ?_
                      rintro e9 w9 ⟨rfl, o9, st9⟩
                      have T9 := T3.over i3 hxi _ rfl st9 o9
                      rw [set_ln_self hxi] at T9
                      clear T3 o9 st9 k1
                      go_wp2_with fail
                      go_roundw
                      case rel => exact ⟨i3 + 1, by omega, by go_num, T9⟩
                      case measure => simp [intOf]; omega
                    · go_wp2_with fail
                      go_loopw [12] (fun i w8 => ∃ (i' : Nat), i' ≤ X.length ∧ i = .int .i64 i' ∧ Tri wc w8 ax cx hsx xs w2.heap.size ay cy hsy w3.heap.size az cz hsz X) (fun i _ => X.length - (intOf i).toNat)
                      case atStart => exact ⟨0, Nat.zero_le _, rfl, T3⟩
                      case round =>
                        obtain ⟨i4, hi4, rfl, T4⟩ := hrel
                        by_cases hlt4 : i4 < X.length
                        · have hxi : i4 < xs.length := by rw [S.out.1]; exact hlt4
                          have i1 := T4.x.lists.idx msl i4 hxi
                          have k1 := T4.x.lists.cell i4 hxi
                          rw [S.out.1] at i1
                          go_wp2_with fail
                          refine (refBears (ln xs i4) (i4 : Int) _ _ _ (T4.x.lists.each i4) (by omega) (by omega)).mono ?_
                          rintro e9 w9 ⟨rfl, q9⟩
                          rw [decide_eq_true (M1.out i4 hlt4)]
                          have T9 := T4.q q9
                          clear T4 k1
                          go_wp2_with fail
                          go_roundw
                          case rel => exact ⟨i4 + 1, by omega, by go_num, T9⟩
                          case measure => simp [intOf]; omega
                        · go_wp2_with fail
                          refine (refAllAlike X X _ _ _ _ _ _ _ T4.y.lists T4.z.lists).mono ?_
                          rintro e10 w10 ⟨rfl, q10⟩
                          rw [decide_eq_true rfl]
                          have T10 := T4.q q10
                          go_wp2_with fail
                          refine (PC.out _ (Lc.below T10.below)).mono ?_
                          rintro e11 w11 ⟨a11, c11, hs11, rfl, o11, E11⟩
                          have F11 := T10.below.trans (E11.mono T10.below.size)
                          have z11 := T10.z.below E11
                          go_wp2_with fail
                          refine (refAllAlike X X _ _ _ _ _ _ _ o11.lists z11.lists).mono ?_
                          rintro e12 w12 ⟨rfl, q12⟩
                          rw [decide_eq_true rfl]
                          have F12 := below_q F11 F11.size q12
                          go_wp2_with fail
                          refine (awake_any _).mono ?_
                          rintro e13 w13 ⟨rfl, E13⟩
                          have F13 := F12.trans (E13.mono F12.size)
                          go_wp2_with fail
                          go_ret
                          exact ⟨rfl, B.trans (F13.mono B.size)⟩
end Go.Proofs.Ytdafpafoioejaaa

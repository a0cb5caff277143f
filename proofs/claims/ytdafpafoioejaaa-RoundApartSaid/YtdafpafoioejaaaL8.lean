/- The walk of the statement RoundApart. Conditions: what came in lies in memory as read; each slice takes fewer than 2^47 bytes. -/
import Derived.Test.YtdafpafoioejaaaL7
import Derived.Test.YtdafpafoioejaaaMath8
import Derived.Deep.RegionHeld3
import Derived.Deep.DeepCutAuto
namespace Go.Proofs.Ytdafpafoioejaaa
open Go.RowKit
set_option linter.unusedVariables false

/-- how the groups' places are counted -/
structure Cnt (X : List (List Int)) (n : Nat) (T : Nat → Nat) : Prop where
  zero : T 0 = 0
  next : ∀ i, i < X.length → T (i + 1) = T i + (ln X i).length
  all : T X.length = n
  le : ∀ i, T i ≤ n
theorem cnt_of {ls X : List (List Int)} {n : Nat} (h : Cls ls X n) : Cnt X n (fun i => tot (X.take i)) :=
  ⟨by simp [tot], fun i hi => tot_take X i hi, by simp only [List.take_length]; exact h.count, fun i => by rw [← h.count]; exact tot_take_le X i⟩

set_option maxRecDepth 100000 in
set_option maxHeartbeats 4000000 in
theorem lawRoundApart (ls : List (List Int)) (hs : List Hd) (a : Option Addr) (ca : Nat) (w : World)
    (h : Lists w a hs ls) (hc : ls.length ≤ ca) (hb : ls.length * 24 ≤ 140737488351232) (hbi : ∀ i, (ln ls i).length * 8 ≤ 140737488351232) :
    Calls Try.prog 10 #[.slice a ls.length ca] w (Tru w) := by
  have hm := h.most
  have HBI := hid hbi
  have hXl := classes_length_le ls
  have hXi := classes_ln_le ls
  have HC := hid (cls_classes ls)
  obtain ⟨T, HT⟩ : ∃ T, Hid (Cnt (classes ls) ls.length T) := ⟨_, hid (cnt_of HC.out)⟩
  go_enter Try.func10, Try.ntmps10
  go_wp2_with fail
  refine (progClasses ls a ca hs _ h hb hbi).mono ?_
  rintro e w1 ⟨ac, cc, hsc, rfl, oc, E1⟩
  have L1 := h.below E1
  have X1 := oc.lists
  have B1 := E1
  generalize classes ls = X at *
  have HXI := hid hXi
  clear hXi hbi h oc
  go_wp2_with (at_make; go_loud (refine wpList_mk isl _ _ rfl rfl ls.length rfl rfl rfl rfl (by omega) (by unfold maxLen; omega) (Below.refl w1.heap.size w1) (Nat.le_refl _) ?_))
  intro ag w2 og st2 E2
  have og0 : OwnI w2 w1.heap.size ag ls.length ls.length (List.replicate ls.length 0) := by simpa [OwnI, madeI] using og
  have M0 := hid (Mk.start X ls.length)
  have t0 : ((T 0 : Nat) : Int) = 0 := by rw [HT.out.zero]; rfl
  clear og st2
  go_wp2_with fail
  go_loopw [5, 6] (fun n i wr => ∃ (i' : Nat) (g : List Int), i' ≤ X.length ∧ i = .int .i64 i' ∧ n = .int .i64 (T i') ∧ OwnI wr w1.heap.size ag ls.length ls.length g ∧ Below w1.heap.size w1 wr ∧ Hid (Mk X g ls.length i' 0)) (fun _ i _ => X.length - (intOf i).toNat)
  case atStart => exact ⟨0, _, Nat.zero_le _, rfl, by rw [t0], og0, E2, M0⟩
  case round =>
    obtain ⟨i, g, hi, rfl, rfl, o, F, M⟩ := hrel
    by_cases hlt : i < X.length
    · have LX := X1.below F
      have i1 := LX.idx msl i hlt
      have k1 := LX.cell i hlt
      have hTi : T i + (ln X i).length ≤ ls.length := by rw [← HT.out.next i hlt]; exact HT.out.le _
      go_wp2_with fail
      go_loopw [5, 7] (fun n k wr => ∃ (k' t : Nat) (g : List Int), k' ≤ (ln X i).length ∧ k = .int .i64 k' ∧ n = .int .i64 t ∧ Hid (t = T i + k') ∧ OwnI wr w1.heap.size ag ls.length ls.length g ∧ Below w1.heap.size w1 wr ∧ Hid (Mk X g ls.length i k')) (fun _ k _ => (ln X i).length - (intOf k).toNat)
      case atStart => exact ⟨0, T i, g, Nat.zero_le _, rfl, rfl, hid rfl, o, F, M⟩
      case round =>
        obtain ⟨k, t, g, hk, rfl, rfl, ht, o, F, M⟩ := hrel
        have LX := X1.below F
        have k1 := LX.cell i hlt
        by_cases hlk : k < (ln X i).length
        · obtain ⟨j, hj⟩ : ∃ j : Nat, (ln X i)[k] = (j : Int) := by
            have := (HC.out.good i hlt).2 _ (List.getElem_mem hlk)
            exact ⟨(ln X i)[k].toNat, by omega⟩
          have hj' : (ln X i).getD k 0 = (j : Int) := by rw [getD_get hlk]; exact hj
          obtain ⟨hjn, hz⟩ := M.out.zero HC.out hlt hlk hj'
          have M2 := hid (M.out.next HC.out hlt hlk hj')
          have hgl : g.length = ls.length := M.out.1
          have ik := (LX.each i).idx isl k hlk
          have ck := (LX.each i).cell k hlk
          rw [hj] at ck
          have ij := o.ints.1.idx isl j (by omega)
          have cj := o.ints.1.cell j (by omega)
          rw [← getD_get (by omega : j < g.length), hz] at cj
          rw [hgl] at ij
          have fj := Own.frozen o (Own.some o (by omega)) j
          obtain ⟨oj1, oj2⟩ := Own.set o (Own.some o (by omega)) j (.int .i64 ((i : Int) + 1))
          have oj3 : OwnI (wr.setCell ⟨bk ag, fo ag + j, none⟩ (.int .i64 ((i : Int) + 1))) w1.heap.size ag ls.length ls.length (g.set j ((i : Int) + 1)) := by
            simpa only [OwnI, ints, List.map_set] using oj1
          have F2 := oj2.below o F F.size
          have ht2 : t < ls.length := by have := ht.out; omega
          have ht3 : Hid (t + 1 = T i + (k + 1)) := hid (by have := ht.out; omega)
          by_cases hk0 : k = 0
          · have hd0 : decide (0 < k) = false := by simp [hk0]
            clear hj hj' hz oj1 oj2 M o hgl ht hk0
            go_wp2_with fail
            go_roundw
            case rel => exact ⟨k + 1, t + 1, _, by omega, by go_num, by go_num, ht3, oj3, F2, M2⟩
            case measure => simp [intOf]; omega
          · have ik2 := (LX.each i).idxz isl (k - 1) (by omega) ((k : Int) - 1) (by omega)
            have ck2 := (LX.each i).cell (k - 1) (by omega)
            have hv := HC.out.asc i hlt (k - 1) k (by omega) hlk
            rw [hj', getD_get (by omega)] at hv
            generalize (ln X i)[k - 1]'(by omega) = v at *
            clear hj hj' hz oj1 oj2 M o hgl ht
            go_wp2_with fail
            go_roundw
            case rel => exact ⟨k + 1, t + 1, _, by omega, by go_num, by go_num, ht3, oj3, F2, M2⟩
            case measure => simp [intOf]; omega
        · have hke : k = (ln X i).length := by omega
          have M3 := hid (Mk.group (by rw [← hke]; exact M.out) : Mk X g ls.length (i + 1) 0)
          have ht4 : t = T (i + 1) := by rw [HT.out.next i hlt, ← hke]; exact ht.out
          have hne : 0 < (ln X i).length := List.length_pos_iff.2 (HC.out.good i hlt).1
          have iz := (LX.each i).idxz isl 0 hne 0 rfl
          have cz := (LX.each i).cell 0 hne
          simp only [Nat.add_zero] at iz cz
          have hl0 : ((ln X i).length == 0) = false := beq_false_of_ne (by omega)
          have hl1 : (((ln X i).length : Int) == 0) = false := beq_false_of_ne (by omega)
          have hl2 : (((0 : Int) : Int) == ((ln X i).length : Int)) = false := beq_false_of_ne (by omega)
          clear hke M ht
          by_cases hi0 : i = 0
          · have hd0 : decide (0 < i) = false := by simp [hi0]
            clear hi0
            subst ht4
            go_wp2_with fail
            go_quiet (fail)
            go_wp2_with fail
            go_roundw
            case rel => exact ⟨i + 1, g, by omega, by go_num, rfl, o, F.trans ((below_drewN _ _).mono F.size), M3⟩
            case measure => simp [intOf]; omega
          · have hne2 : 0 < (ln X (i - 1)).length := List.length_pos_iff.2 (HC.out.good (i - 1) (by omega)).1
            have j1 := LX.idxz msl (i - 1) (by omega) ((i : Int) - 1) (by omega)
            have j2 := LX.cell (i - 1) (by omega)
            have iz2 := (LX.each (i - 1)).idxz isl 0 hne2 0 rfl
            have cz2 := (LX.each (i - 1)).cell 0 hne2
            simp only [Nat.add_zero] at iz2 cz2
            have hv := HC.out.heads (i - 1) i (by omega) hlt
            rw [getD_get hne2, getD_get hne] at hv
            generalize (ln X (i - 1))[0]'(by omega) = u at *
            generalize (ln X i)[0]'(by omega) = v at *
            have hd0 : decide (0 < i) = true := by simp; omega
            have hd1 : decide (v ≤ u) = false := by simp; omega
            subst ht4
            go_wp2_with fail
            have hw : IntKind.i64.wrap ((i : Int) - 1) = (i : Int) - 1 := IntWalk.i64_in _ (by omega)
            go_quiet (fail)
            clear hw
            go_wp2_with fail
            go_roundw
            case rel => exact ⟨i + 1, g, by omega, by go_num, rfl, o, F.trans ((below_drewN _ _).mono F.size), M3⟩
            case measure => simp [intOf]; omega
    · have hie : i = X.length := by omega
      subst hie
      have hn : T X.length = ls.length := HT.out.all
      have MF := hid (Mk.final HC.out M.out)
      have L2 := L1.below F
      have B2 := ext_trans B1 F
      have hgl : g.length = ls.length := M.out.1
      rw [hn]
      have hz : (((ls.length : Nat) : Int) != (ls.length : Int)) = false := by simp
      have HGL := hid hgl
      clear hn hgl M X1 L1 E2 t0 M0
      go_wp2_with fail
      go_loopw [9] (fun i w2 => ∃ i' : Nat, i' ≤ ls.length ∧ i = .int .i64 i' ∧ Lists w2 a hs ls ∧ OwnI w2 w1.heap.size ag ls.length ls.length g ∧ Below w.heap.size w w2) (fun i _ => ls.length - (intOf i).toNat)
      case atStart => exact ⟨0, Nat.zero_le _, rfl, L2, o, B2⟩
      case round =>
        obtain ⟨i, hi, rfl, L3, o3, B3⟩ := hrel
        by_cases hil : i < ls.length
        · go_wp2_with fail
          go_loopw [10] (fun j w2 => ∃ j' : Nat, j' ≤ i ∧ j = .int .i64 j' ∧ Lists w2 a hs ls ∧ OwnI w2 w1.heap.size ag ls.length ls.length g ∧ Below w.heap.size w w2) (fun j _ => i - (intOf j).toNat)
          case atStart => exact ⟨0, Nat.zero_le _, rfl, L3, o3, B3⟩
          case round =>
            obtain ⟨k, hk, rfl, L4, o4, B4⟩ := hrel
            by_cases hki : k < i
            · go_wp2_with fail
              have hkl : k < ls.length := by omega
              have ii := L4.idx msl i hil
              have ik := L4.idx msl k hkl
              have hbi := HBI.out i; have hbk := HBI.out k
              have h0i : (0 : Int) ≤ (i : Int) := by omega
              have h1i : (i : Int) < (ls.length : Int) := by omega
              have h0k : (0 : Int) ≤ (k : Int) := by omega
              have h1k : (k : Int) < (ls.length : Int) := by omega
              go_cut [11, 12] (fun x y wx => ∃ a1 c1 a2 c2, x = .slice a1 (canon (ln ls i)).length c1 ∧ y = .slice a2 (canon (ln ls k)).length c2 ∧ Ints wx a1 (canon (ln ls i)) ∧ Ints wx a2 (canon (ln ls k)) ∧ Lists wx a hs ls ∧ OwnI wx w1.heap.size ag ls.length ls.length g ∧ Below w.heap.size w wx)
              case first =>
                have L4 : Lists (World.drew _) a hs ls := L4.below (below_drewN _ 1)
                have o4 : OwnI (World.drew _) w1.heap.size ag ls.length ls.length g := o4.below (below_drewN _ 1)
                have B4 : Below w.heap.size w (World.drew _) := ext_trans B4 (below_drewN _ 1)
                have hci := L4.cell i hil
                have hck := L4.cell k hkl
                go_region_held3 (fun w' => Lists w' a hs ls ∧ OwnI w' w1.heap.size ag ls.length ls.length g ∧ Below w.heap.size w w' ∧ w'.cell? ⟨bk a, fo a + i, none⟩ = some (.slice (hd hs i).1 (ln ls i).length (hd hs i).2) ∧ w'.cell? ⟨bk a, fo a + k, none⟩ = some (.slice (hd hs k).1 (ln ls k).length (hd hs k).2)) (first | exact ⟨by assumption, by assumption, by assumption, by assumption, by assumption⟩)
                  (first
                    | (go_at_call_of 12 (Value.slice (hd hs i).1 (ln ls i).length (hd hs i).2); refine (progLeast (ln ls i) _ _ _ (L4.each i) (by omega)).mono ?_; rintro e w7 ⟨rfl, q7⟩; have E7 := q7.below; have L4 := L4.below E7; have o4 := o4.below E7; have B4 := ext_trans B4 E7; have hci := L4.cell i hil; have hck := L4.cell k hkl; try have r2 := r2.below E7)
                    | (go_at_call_of 12 (Value.slice (hd hs k).1 (ln ls k).length (hd hs k).2); refine (progLeast (ln ls k) _ _ _ (L4.each k) (by omega)).mono ?_; rintro e w7 ⟨rfl, q7⟩; have E7 := q7.below; have L4 := L4.below E7; have o4 := o4.below E7; have B4 := ext_trans B4 E7; have hci := L4.cell i hil; have hck := L4.cell k hkl; try have r1 := r1.below E7)
                    | (go_at_call_of 21 (Value.slice (hd hs i).1 (ln ls i).length (hd hs i).2); refine (progTurn (ln ls i) (least (ln ls i)) _ _ _ (L4.each i) (L4.cap i) (by omega)).mono ?_; rintro e w7 ⟨a7, n7, c7, rfl, o7, E7⟩; rw [turn_least] at o7; obtain ⟨r1, rfl⟩ := o7.ints; clear o7; have L4 := L4.below E7; have o4 := o4.below E7; have B4 := ext_trans B4 E7; have hci := L4.cell i hil; have hck := L4.cell k hkl; try have r2 := r2.below E7)
                    | (go_at_call_of 21 (Value.slice (hd hs k).1 (ln ls k).length (hd hs k).2); refine (progTurn (ln ls k) (least (ln ls k)) _ _ _ (L4.each k) (L4.cap k) (by omega)).mono ?_; rintro e w7 ⟨a8, n8, c8, rfl, o8, E7⟩; rw [turn_least] at o8; obtain ⟨r2, rfl⟩ := o8.ints; clear o8; have L4 := L4.below E7; have o4 := o4.below E7; have B4 := ext_trans B4 E7; have hci := L4.cell i hil; have hck := L4.cell k hkl; try have r1 := r1.below E7))
                all_goals (go_wp2_with fail; go_meet; exact ⟨_, _, _, _, rfl, rfl, by assumption, by assumption, by assumption, by assumption, by assumption⟩)
              case rest =>
                clear L4 o4 B4
                obtain ⟨a1, c1, a2, c2, rfl, rfl, r1, r2, L4, o4, B4⟩ := hcut
                have hs := MF.out i k hil hkl
                obtain ⟨u, hu⟩ : ∃ u, g.getD i 0 = u := ⟨_, rfl⟩
                obtain ⟨v, hv⟩ : ∃ v, g.getD k 0 = v := ⟨_, rfl⟩
                rw [hu, hv] at hs
                obtain ⟨b, hbb⟩ : ∃ b, b = decide (canon (ln ls i) = canon (ln ls k)) := ⟨_, rfl⟩
                have hb1 : (u == v) = b := by rw [hbb, Bool.eq_iff_iff, beq_iff_eq, decide_eq_true_iff]; exact hs
                have hb2 : (cmp (canon (ln ls i)) (canon (ln ls k)) == 0) = b := by rw [hbb, Bool.eq_iff_iff, beq_iff_eq, decide_eq_true_iff]; exact cmp_eq_zero
                have HBB := hid hbb
                have HB1 := hid hb1
                have HB2 := hid hb2
                have HU := hid hu
                have HV := hid hv
                clear hs hbb hb1 hb2 hu hv
                go_wp2_with fail
                have L5 : Lists (World.drew _) a hs ls := L4.below (below_drewN _ 1)
                have hci := L5.cell i hil
                have hck := L5.cell k hkl
                go_region_held3 (fun w' => Lists w' a hs ls ∧ w'.cell? ⟨bk a, fo a + i, none⟩ = some (.slice (hd hs i).1 (ln ls i).length (hd hs i).2) ∧ w'.cell? ⟨bk a, fo a + k, none⟩ = some (.slice (hd hs k).1 (ln ls k).length (hd hs k).2)) (first | exact ⟨by assumption, by assumption, by assumption⟩)
                  (((go_at_call 28; refine (progSame (ln ls i) (ln ls k) _ _ _ _ _ (L5.each i) (L5.each k) (L5.cap i) (L5.cap k) (by omega)).mono ?_; rintro e w7 ⟨rfl, E7⟩; rw [← HBB.out]; have E8 : Below wc.heap.size wc w7 := ext_trans (below_drewN wc 1) E7; have L5 := L5.below E7; have hci := L5.cell i hil; have hck := L5.cell k hkl)))
                have o5 := o4.below E8
                have B5 := ext_trans B4 E8
                have r1 := r1.below E8
                have r2 := r2.below E8
                have ji := o5.ints.1.idx isl i (by have := HGL.out; omega)
                have jk := o5.ints.1.idx isl k (by have := HGL.out; omega)
                have gi := o5.ints.1.cell i (by have := HGL.out; omega)
                have gk := o5.ints.1.cell k (by have := HGL.out; omega)
                rw [← getD_get, HU.out] at gi
                rw [← getD_get, HV.out] at gk
                rw [HGL.out] at ji jk
                clear E8
                go_wp2_with fail
                have hb1 := HB1.out
                have hb2 := HB2.out
                have hb0 : (b != b) = false := by simp
                go_quiet ((go_at_call 22; exact RetQ.quiet (progCompare _ _ _ _ _ _ _ (r1.drewN _) (r2.drewN _))))
                clear hb1 hb2
                go_wp2_with fail
                go_roundw
                case rel => exact ⟨k + 1, by omega, by go_num, L5.below (below_drewN _ _), o5.below (below_drewN _ _), ext_trans B5 (below_drewN _ _)⟩
                case measure => simp [intOf]; omega
            · go_wp2_with fail
              go_roundw
              case rel => exact ⟨i + 1, by omega, by go_num, L4, o4, B4⟩
              case measure => simp [intOf]; omega
        · go_wp2_with fail
          refine (awake_any _).mono ?_
          rintro e w12 ⟨rfl, E12⟩
          have B5 := ext_trans B3 E12
          go_wp2_with fail
          go_ret
          exact ⟨rfl, B5⟩
end Go.Proofs.Ytdafpafoioejaaa

/- The walk of the statement RoundCuts. Conditions: what came in lies in memory as read; each slice takes fewer than 2^47 bytes. -/
import Derived.Test.YtdafpafoioejaaaL4
import Derived.Test.YtdafpafoioejaaaMath6
namespace Go.Proofs.Ytdafpafoioejaaa
open Go.RowKit
set_option linter.unusedVariables false

/-- the word that comes next -/
theorem next_word {l : List Int} {i at0 : Nat} (h : (words l).drop i = endsFrom at0 (l.drop at0)) (hi : i < (words l).length) :
    ∃ m, IsLongest (l.drop at0) m ∧ at0 + m ≤ l.length ∧ (words l)[i] = ((at0 + m : Nat) : Int) ∧ (words l).drop (i + 1) = endsFrom (at0 + m) (l.drop (at0 + m)) := by
  have hne : l.drop at0 ≠ [] := by
    intro e; rw [e, endsFrom_nil, List.drop_eq_getElem_cons hi] at h; cases h
  have hL := longest_spec _ hne
  generalize longest (l.drop at0) = m at *
  rw [endsFrom_step at0 _ m hL, List.drop_drop, List.drop_eq_getElem_cons hi] at h
  have h1 := hL.1
  rw [List.length_drop] at h1
  have h2 := List.length_pos_iff.2 hne
  rw [List.length_drop] at h2
  exact ⟨m, hL, by omega, (List.cons.inj h).1, (List.cons.inj h).2⟩
theorem no_word {l : List Int} {i at0 : Nat} (h : (words l).drop i = endsFrom at0 (l.drop at0)) (hi : (words l).length ≤ i) (ha : at0 ≤ l.length) : at0 = l.length := by
  refine Classical.byContradiction fun hc => ?_
  have hne : l.drop at0 ≠ [] := by intro e; have := congrArg List.length e; simp at this; omega
  rw [List.drop_eq_nil_of_le hi, endsFrom_step at0 _ _ (longest_spec _ hne)] at h
  cases h

set_option maxRecDepth 100000 in
set_option maxHeartbeats 4000000 in
theorem lawRoundCuts (l : List Int) (a : Option Addr) (ca : Nat) (w : World)
    (ia : Ints w a l) (hca : l.length ≤ ca) (hba : l.length * 8 ≤ 140737488351232) (hwa : ∀ x ∈ l, -9223372036854775808 ≤ x ∧ x ≤ 9223372036854775807) :
    Calls Try.prog 5 #[.slice a l.length ca] w (Tru w) := by
  clear hwa
  have hlen := ia.len
  have hwl := endsFrom_length l 0
  have hW0 : (words l).drop 0 = endsFrom 0 (l.drop 0) := rfl
  have HW0 := hid hW0
  have nw := fun i at0 => @next_word l i at0
  have nn := fun i at0 => @no_word l i at0
  have NW := hid nw; have NN := hid nn
  clear hW0 nw nn
  have hwl : (words l).length ≤ l.length := hwl
  have hwd : Hid (words l = words l) := hid rfl
  go_enter Try.func5, Try.ntmps5
  go_wp2_with fail
  refine (progWords l _ _ _ ia (by omega)).mono ?_
  rintro e w1 ⟨aw, nw, cw, rfl, ow, E1⟩
  obtain ⟨rw1, rfl⟩ := ow.ints
  have ia := ia.below E1
  have B := E1
  clear ow
  generalize hWW : words l = W at *
  have HWW := hid hWW
  clear hWW
  go_wp2_with fail
  go_loopw [4, 5] (fun at0 i wr => ∃ (p i' : Nat), i' ≤ W.length ∧ p ≤ l.length ∧ at0 = .int .i64 p ∧ i = .int .i64 i' ∧ Ints wr a l ∧ Ints wr aw W ∧ Below w.heap.size w wr ∧ Hid (W.drop i' = endsFrom p (l.drop p))) (fun _ i _ => W.length - (intOf i).toNat)
  case atStart => exact ⟨0, 0, Nat.zero_le _, Nat.zero_le _, rfl, rfl, ia, rw1, B, HW0⟩
  case round =>
    obtain ⟨p, i, hi, hp, rfl, rfl, ia2, rw2, B2, hE⟩ := hrel
    by_cases hiw : i < W.length
    · obtain ⟨m, hL, hm, hwi, hE2⟩ := NW.out i p hE.out hiw
      obtain ⟨e, he⟩ : ∃ e, p + m = e := ⟨_, rfl⟩
      rw [he] at hwi hE2 hm
      have hm1 := hL.pos
      have iw := rw2.idx isl i hiw
      have cw1 := rw2.cell i hiw
      rw [hwi] at cw1
      have hpe : p < e := by omega
      have cut1 := run_cut isl a l.length ca p e (by omega) (by omega) .i64 .i64
      -- the word
      have hxl : (cut l p m).length = e - p := by rw [cut_length (by omega)]; omega
      have hxw : IsWord (cut l p m) := hL.2.1
      have hxI : ∀ w', Ints w' a l → Ints w' (cutA a (ca = p) (p * 1)) (cut l p m) := fun w' h => by
        rw [Nat.mul_one]; exact (h.drop p _ (by omega)).take m
      have hnext : ∀ m2, IsLongest (l.drop e) m2 → cmp (cut l p m) (cut l e m2) ≠ -1 := by
        intro m2 h2
        have := words_fall hL (by rw [List.drop_drop, he]; exact h2)
        rw [List.drop_drop, he] at this
        exact this
      generalize cut l p m = x at *
      obtain ⟨ax, hax⟩ : ∃ ax, cutA a (ca = p) (p * 1) = ax := ⟨_, rfl⟩
      rw [hax] at cut1 hxI
      have T : Hid (∀ (k : Int) (w' : World), Ints w' ax x → Calls Try.prog 21 #[.slice ax (e - p) (ca - p), .int .i64 k] w' (RetInts w' (turn x k))) := hid fun k w' h => by
        have := progTurn x k ax (ca - p) w' h (by omega) (by omega)
        rwa [hxl] at this
      have C1 : Hid (∀ (k : Nat) (a3 : Option Addr) (c3 : Nat) (w' : World), Ints w' ax x → Ints w' a3 (turn x k) → Calls Try.prog 22 #[.slice ax (e - p) (ca - p), .slice a3 (turn x k).length c3] w' (RetQ w' (.int .i64 (cmp x (turn x k))))) := hid fun k a3 c3 w' h h' => by
        have := progCompare x (turn x k) ax a3 (ca - p) c3 w' h h'
        rwa [hxl] at this
      have C2 : Hid (∀ (y : List Int) (n3 : Nat) (a3 : Option Addr) (c3 : Nat) (w' : World), y.length = n3 → Ints w' ax x → Ints w' a3 y → Calls Try.prog 22 #[.slice ax (e - p) (ca - p), .slice a3 n3 c3] w' (RetQ w' (.int .i64 (cmp x y)))) := hid fun y n3 a3 c3 w' hy h h' => by
        subst hy
        have := progCompare x y ax a3 (ca - p) c3 w' h h'
        rwa [hxl] at this
      have L1 : Hid (∀ k : Nat, 1 ≤ k → k < e - p → cmp x (turn x k) = -1) := hid fun k h1 h2 => by
        rw [turn_nat (by omega)]; exact hxw.2 k h1 (by omega)
      have HN := hid hnext; have HXI := hid hxI; have HE2 := hid hE2; have HX := hid hxl
      have he1 : p + m ≤ e := by omega
      have d01 : decide (e ≤ p) = false := decide_eq_false (by omega)
      have d02 : decide (l.length < e) = false := decide_eq_false (by omega)
      have hep : e - p ≤ l.length := by omega
      clear hnext hxI hE2 hxl hxw hL hwi hax he hE
      go_wp2_with fail
      go_loopw [7] (fun k w2 => ∃ k' : Nat, 1 ≤ k' ∧ k' ≤ e - p ∧ k = .int .i64 k' ∧ Ints w2 a l ∧ Ints w2 aw W ∧ Below w.heap.size w w2) (fun k _ => e - p - (intOf k).toNat)
      case atStart => exact ⟨1, Nat.le_refl _, by omega, rfl, ia2, rw2, B2⟩
      case round =>
        obtain ⟨k, hk1, hk2, rfl, ia3, rw3, B3⟩ := hrel
        by_cases hke : k < e - p
        · go_wp2_with fail
          refine (T.out k _ (HXI.out _ ia3)).mono ?_
          rintro e5 w5 ⟨a5, n5, c5, rfl, o5, E5⟩
          obtain ⟨r5, rfl⟩ := o5.ints
          have ia4 := ia3.below E5; have rw4 := rw3.below E5; have B4 := ext_trans B3 E5
          clear o5
          go_wp2_with fail
          refine (C1.out k _ _ _ (HXI.out _ ia4) r5).mono ?_
          rintro e6 w6 ⟨rfl, q6⟩
          rw [L1.out k hk1 hke]
          have ia5 := ia4.below q6.below; have rw5 := rw4.below q6.below; have B5 := ext_trans B4 q6.below
          clear r5
          go_wp2_with fail
          go_roundw
          case rel => exact ⟨k + 1, by omega, by omega, by go_num, ia5, rw5, B5⟩
          case measure => simp [intOf]; omega
        · by_cases hi1 : i + 1 < W.length
          · obtain ⟨m2, hL2, hm2, hwi2, hE3⟩ := NW.out (i + 1) e HE2.out hi1
            obtain ⟨e2, he2⟩ : ∃ e2, e + m2 = e2 := ⟨_, rfl⟩
            rw [he2] at hwi2 hm2
            have hm21 := hL2.pos
            have hee : e < e2 := by omega
            have iw3 := rw3.idx isl i hiw
            have cw3 := rw3.cell i hiw
            have iw4 := rw3.idxz isl (i + 1) hi1 ((i : Int) + 1) (by omega)
            have cw4 := rw3.cell (i + 1) hi1
            rw [hwi2] at cw4
            have cw5 := rw2.cell i hiw
            rw [cw1] at cw5
            have hwi3 : W[i] = (e : Int) := by simpa using cw5.symm
            rw [hwi3] at cw3
            have cut2 := run_cut isl a l.length ca e e2 (by omega) (by omega) .i64 .i64
            have hy : (cut l e m2).length = e2 - e := by rw [cut_length (by omega)]; omega
            have hyI : ∀ w', Ints w' a l → Ints w' (cutA a (ca = e) (e * 1)) (cut l e m2) := fun w' h => by
              rw [Nat.mul_one]; exact (h.drop e _ (by omega)).take m2
            have hcm := HN.out m2 hL2
            have hrg := cmp_range x (cut l e m2)
            generalize cut l e m2 = y at *
            have C3 := hid (fun w' hx1 hy1 => C2.out y (e2 - e) (cutA a (ca = e) (e * 1)) (ca - e) w' hy hx1 hy1)
            generalize cmp x y = cc at *
            have hc0 : ¬ cc < 0 := by omega
            have hc1 : decide (cc < 0) = false := decide_eq_false hc0
            have wr1 : IntKind.i64.wrap ((i : Int) + 1) = (i : Int) + 1 := IntWalk.i64_in _ (by omega)
            have d1 : decide ((e2 : Int) ≤ (e : Int)) = false := decide_eq_false (by omega)
            have d1' : decide (e2 ≤ e) = false := decide_eq_false (by omega)
            have d2 : decide ((l.length : Int) < (e2 : Int)) = false := decide_eq_false (by omega)
            have d2' : decide (l.length < e2) = false := decide_eq_false (by omega)
            have HY := hid hyI
            clear hyI hy hwi2 hwi3 hE3 hL2 he2 hcm hrg cw5
            generalize cutA a (ca = e) (e * 1) = ay at *
            clear cw1 iw
            go_wp2_with fail
            go_quiet (((go_at_call 22; exact RetQ.quiet (C3.out _ ((HXI.out _ ia3).drewN _) ((HY.out _ ia3).drewN _)))))
            go_wp2_with fail
            go_roundw
            case rel => exact ⟨e, i + 1, by omega, hm, rfl, by go_num, ia3.below (QW.below (by repeat (first | exact QW.refl _ | refine QW.d ?_ _))), rw3.below (QW.below (by repeat (first | exact QW.refl _ | refine QW.d ?_ _))), below_q B3 B3.size (by repeat (first | exact QW.refl _ | refine QW.d ?_ _)), HE2⟩
            case measure => simp [intOf]; omega
          · have iw3 := rw3.idx isl i hiw
            have cw3 := rw3.cell i hiw
            have cw5 := rw2.cell i hiw
            rw [cw1] at cw5
            have hwi3 : W[i] = (e : Int) := by simpa using cw5.symm
            rw [hwi3] at cw3
            clear cw1 iw cw5 hwi3
            go_wp2_with fail
            go_roundw
            case rel => exact ⟨e, i + 1, by omega, hm, rfl, by go_num, ia3, rw3, B3, HE2⟩
            case measure => simp [intOf]; omega
    · have hpl := NN.out i p hE.out (by omega) hp
      have z1 : ((p : Int) != (l.length : Int)) = false := by rw [hpl]; simp
      have HPL := hid hpl
      clear hpl hE
      -- the words of the least turned list
      have htk := turn_least l
      have hcl := canon_length l
      have hV : ∀ i, i < (words (canon l)).length → (words (canon l)).getD i 0 = (((i + 1) * period l : Nat) : Int) ∧ (i + 1) * period l ≤ l.length := by
        intro i hi
        by_cases h0 : l = []
        · subst h0; simp [canon_nil, words, endsFrom_nil] at hi
        · rw [words_canon l h0] at hi ⊢
          simp at hi
          refine ⟨by simp [List.getD_eq_getElem?_getD, hi], ?_⟩
          have h1 := Nat.mul_le_mul_right (period l) (show i + 1 ≤ l.length / period l by omega)
          exact Nat.le_trans h1 (Nat.div_mul_le_self _ _)
      have hVl : (words (canon l)).length * period l = l.length := by
        by_cases h0 : l = []
        · subst h0; simp [canon_nil, words, endsFrom_nil]
        · have hp := period_spec l h0
          have hd := hp.dvd (cycPer_len l)
          rw [words_canon l h0]
          have := Nat.div_add_mod l.length (period l)
          rw [hd, Nat.mul_comm] at this
          simpa using this
      have hpn : period l ≤ l.length := by
        by_cases h0 : l = []
        · subst h0; simp [period_nil]
        · exact (period_spec l h0).2.1
      have hVn := endsFrom_length (canon l) 0
      rw [hcl] at hVn
      have hVn : (words (canon l)).length ≤ l.length := hVn
      have HTK := hid htk; have HCL := hid hcl; have HV := hid hV; have HVL := hid hVl
      clear htk hcl hV hVl
      go_wp2_with fail
      refine (progLeast l _ _ _ ia2 (by omega)).mono ?_
      rintro e3 w3 ⟨rfl, q3⟩
      have ia3 := ia2.below q3.below
      have B3 := ext_trans B2 q3.below
      go_wp2_with fail
      refine (progTurn l (least l) _ _ _ ia3 hca (by omega)).mono ?_
      rintro e4 w4 ⟨a4, n4, c4, rfl, o4, E4⟩
      rw [HTK.out] at o4
      obtain ⟨r4, rfl⟩ := o4.ints
      have ia4 := ia3.below E4
      have B4 := ext_trans B3 E4
      clear o4
      go_wp2_with fail
      refine (progWords (canon l) _ _ _ r4 (by have := HCL.out; omega)).mono ?_
      rintro e5 w5 ⟨a5, n5, c5, rfl, o5, E5⟩
      obtain ⟨r5, rfl⟩ := o5.ints
      have ia5 := ia4.below E5
      have B5 := ext_trans B4 E5
      clear o5 r4
      generalize words (canon l) = V at *
      go_wp2_with fail
      refine (progPeriod l _ _ _ ia5 (by omega)).mono ?_
      rintro e6 w6 ⟨rfl, E6⟩
      have r6 := r5.below E6
      have B6 := ext_trans B5 E6
      generalize period l = P at *
      clear r5 ia5
      go_wp2_with fail
      go_loopw [11] (fun i wr => ∃ i' : Nat, i' ≤ V.length ∧ i = .int .i64 i' ∧ Ints wr a5 V ∧ Below w.heap.size w wr) (fun i _ => V.length - (intOf i).toNat)
      case atStart => exact ⟨0, Nat.zero_le _, rfl, r6, B6⟩
      case round =>
        obtain ⟨j, hj, rfl, r7, B7⟩ := hrel
        by_cases hjv : j < V.length
        · obtain ⟨v1, v2⟩ := HV.out j hjv
          have iv := r7.idx isl j hjv
          have cv := r7.cell j hjv
          rw [← getD_get, v1] at cv
          have hmul : ((j : Int) + 1) * (P : Int) = (((j + 1) * P : Nat) : Int) := by simp
          generalize hq : (j + 1) * P = q at *
          clear v1 hq
          go_wp2_with fail
          go_roundw
          case rel => exact ⟨j + 1, by omega, by go_num, r7, B7⟩
          case measure => simp [intOf]; omega
        · have hmul : (V.length : Int) * (P : Int) = (l.length : Int) := by rw [← HVL.out]; simp
          go_wp2_with fail
          refine (awake_any _).mono ?_
          rintro e12 w12 ⟨rfl, E12⟩
          have B8 := ext_trans B7 E12
          go_wp2_with fail
          go_ret
          exact ⟨rfl, B8⟩
end Go.Proofs.Ytdafpafoioejaaa

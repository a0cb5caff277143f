/- The walk of Classes (the reference's). Conditions: the lists lie in memory as read; sizes below the reach. -/
import Derived.Test.YtdafpafoioejaaaW12
namespace Go.Proofs.Ytdafpafoioejaaa
open Go.RowKit
set_option linter.unusedVariables false

/-- how far the search for a group has come -/
def Seek (ls out : List (List Int)) (i k : Nat) (z : Int) : Prop :=
  (z = -1 ∧ ∀ j, j < k → ln (keys ls out) j ≠ canon (ln ls i)) ∨ (∃ f : Nat, z = (f : Int) ∧ f < out.length ∧ (∀ j, j < f → ln (keys ls out) j ≠ canon (ln ls i)) ∧ ln (keys ls out) f = canon (ln ls i))
theorem head_of {out : List (List Int)} {i k : Nat} (h : Good out i) (hk : k < out.length) (hl : 0 < (ln out k).length) : (ln out k)[0] = ((headAt (ln out k) : Nat) : Int) ∧ headAt (ln out k) < i := by
  have hx := (h k hk).2
  generalize ln out k = g at *
  cases g with
  | nil => simp at hl
  | cons x r =>
    have := hx x (by simp)
    simp [headAt]; omega

set_option maxHeartbeats 1600000 in
theorem refClasses (ls : List (List Int)) (a : Option Addr) (c : Nat) (hs : List Hd) (w : World) (h : Lists w a hs ls) (hb : ls.length * 24 ≤ 140737488351232) (hbi : ∀ i, (ln ls i).length * 8 ≤ 140737488351232) :
    Calls Try.prog 32 #[.slice a ls.length c] w (RetM w (classes ls)) := by
  have H := hid h; have hm := h.most; clear h
  have HBI := hid hbi
  clear hbi
  go_enter Try.func32, Try.ntmps32
  go_wp2_with fail
  go_loopw [3, 4] (fun o k wr => ∃ (i : Nat) (out : List (List Int)) (a1 : Option Addr) (c1 : Nat) (hs1 : List Hd), i ≤ ls.length ∧ k = .int .i64 i ∧ o = .slice a1 out.length c1 ∧
      OwnM wr w.heap.size a1 c1 hs1 out ∧ Below w.heap.size w wr ∧ Hid (out = classesTo ls i)) (fun _ k _ => ls.length - (intOf k).toNat)
  case atStart => exact ⟨0, [], none, 0, [], Nat.zero_le _, rfl, rfl, OwnM.nil _ _, Below.refl _ _, hid rfl⟩
  case round =>
    obtain ⟨i, out, a1, c1, hs1, hi, rfl, rfl, o1, B, he⟩ := hrel
    by_cases hlt : i < ls.length
    · have hl1 : out.length ≤ i := by rw [he.out]; exact classesTo_length_le ls i
      have HG : Hid (Good out i) := hid (by rw [he.out]; exact good_classesTo ls i)
      have HLN : Hid (∀ k, (ln out k).length ≤ i) := hid (by rw [he.out]; exact ln_length_le ls i)
      go_wp2_with fail
      go_loopw [5, 6] (fun z k w2 => ∃ (x : Int) (q : Nat), q ≤ out.length ∧ -1 ≤ x ∧ x ≤ (out.length : Int) ∧ z = .int .i64 x ∧ k = .int .i64 q ∧ QW wr w2 ∧ Hid (Seek ls out i q x)) (fun _ k _ => out.length - (intOf k).toNat)
      case atStart => exact ⟨-1, 0, Nat.zero_le _, by omega, by omega, rfl, rfl, QW.refl _, hid (.inl ⟨rfl, fun j h => absurd h (Nat.not_lt_zero j)⟩)⟩
      case round =>
        obtain ⟨x, q, hq, hx1, hx2, rfl, rfl, q5, hsk⟩ := hrel
        have M := o1.lists.below q5.below
        have L := (H.out.below B).below q5.below
        by_cases hgo : q < out.length ∧ x < 0
        · obtain ⟨hqk, hx0⟩ := hgo
          obtain rfl : x = -1 := by omega
          have hno : ∀ j, j < q → ln (keys ls out) j ≠ canon (ln ls i) := by
            rcases hsk.out with h | ⟨f, h, _⟩
            · exact h.2
            · omega
          have hgl : 0 < (ln out q).length := List.length_pos_iff.2 (HG.out q hqk).1
          obtain ⟨hh1, hh2⟩ := head_of HG.out hqk hgl
          have hkey := keys_get ls out q hqk
          have i1 := M.idx msl q hqk
          have k1 := M.cell q hqk
          have i2 := (M.each q).idxz isl 0 hgl 0 rfl
          have k2 := (M.each q).cell 0 hgl
          rw [hh1] at k2
          simp only [Nat.add_zero] at i2 k2
          have i3 := L.idx msl (headAt (ln out q)) (by omega)
          have k3 := L.cell (headAt (ln out q)) (by omega)
          have i4 := L.idx msl i hlt
          have k4 := L.cell i hlt
          generalize headAt (ln out q) = hq0 at *
          have hb1 := HBI.out hq0
          have C := hid (fun w' h1 h2 => refSame (ln ls hq0) (ln ls i) (hd hs hq0).1 (hd hs i).1 (hd hs hq0).2 (hd hs i).2 w' h1 h2 (by omega))
          have e1 := hid (fun n => (L.each hq0).drewN n)
          have e2 := hid (fun n => (L.each i).drewN n)
          by_cases heq : canon (ln ls hq0) = canon (ln ls i)
          · have D := decide_eq_true heq
            rw [D] at C
            have HS : Hid (Seek ls out i (q + 1) (q : Int)) := hid (.inr ⟨q, rfl, hqk, hno, by rw [hkey]; exact heq⟩)
            clear heq D hno hkey hh1
            go_wp2_with fail
            go_quiet (((go_at_call 30; exact RetQ.quiet (C.out _ (e1.out _) (e2.out _)))))
            go_wp2_with fail
            go_roundw
            case rel => exact ⟨q, q + 1, by omega, by omega, by omega, rfl, by go_num, q5.trans (by repeat (first | exact QW.refl _ | refine QW.d ?_ _)), HS⟩
            case measure => simp [intOf]; omega
          · have D := decide_eq_false heq
            rw [D] at C
            have HS : Hid (Seek ls out i (q + 1) (-1)) := hid (.inl ⟨rfl, fun j hj => by
              by_cases e : j = q
              · subst e; rw [hkey]; exact heq
              · exact hno j (by omega)⟩)
            clear heq D hno hkey hh1
            go_wp2_with fail
            go_quiet (((go_at_call 30; exact RetQ.quiet (C.out _ (e1.out _) (e2.out _)))))
            go_wp2_with fail
            go_roundw
            case rel => exact ⟨-1, q + 1, by omega, by omega, by omega, rfl, by go_num, q5.trans (by repeat (first | exact QW.refl _ | refine QW.d ?_ _)), HS⟩
            case measure => simp [intOf]; omega
        · have o15 := o1.below q5.below
          have B5 := below_q B B.size q5
          have hgd : (q < out.length) → ¬ x < 0 := fun h1 h2 => hgo ⟨h1, h2⟩
          by_cases hx0 : x < 0
          · -- a new group
            have hqe : ¬ q < out.length := fun h => hgd h hx0
            have hpl : place ls out i = out ++ [[(i : Int)]] := by
              rcases hsk.out with h | ⟨f, h, _⟩
              · exact place_new (fun j hj => h.2 j (by omega))
              · omega
            have HF : Hid (out ++ [[(i : Int)]] = classesTo ls (i + 1)) := hid (by
              have e1 : classesTo ls (i + 1) = place ls out i := by rw [he.out]; rfl
              rw [e1, hpl])
            clear hpl hgo hgd hsk M
            go_wp2_with (at_builtin; go_loud (refine wpList_app1' msl (.tmp 41) (.tmp 44) rfl rfl (by simp) rfl (o15.outer.below (al _ _)) rfl rfl (by intro u hu; simp at hu; subst hu; rfl) (B5.trans ((al _ _).mono B5.size)) (by simp; have := B5.size; omega) (by omega) (by unfold maxLen; omega) ?_))
            intro a6 c6 w6 o6 g6 B6
            have t1 := o15.far_new (World.ownsRow_lit (base := (World.heap _).size) (e := 3) (size := 1) _ #[Value.int .i64 (i : Int)] 1 (Nat.le_refl _) (by unfold maxLen; omega) rfl)
            have t2 : OwnI _ w.heap.size _ 1 1 [(i : Int)] := World.ownsRow_lit (base := w.heap.size) (e := 3) (size := 1) _ #[Value.int .i64 (i : Int)] 1 B5.size (by unfold maxLen; omega) rfl
            have n1 := (o15.below (al _ _)).push (_, 1) [(i : Int)] o6 g6.step t2 t1.2 t1.1
            have hl7 : out.length + 1 = (out ++ [[(i : Int)]]).length := by simp
            clear o6 g6 t1 t2
            go_wp2_with fail
            go_roundw
            case rel => exact ⟨i + 1, out ++ [[(i : Int)]], a6, c6, _, by omega, by go_num, by rw [hl7], n1, B6, HF⟩
            case measure => simp [intOf]; omega
          · obtain ⟨f, rfl, hfo, hno, hky⟩ : ∃ f : Nat, x = (f : Int) ∧ f < out.length ∧ (∀ j, j < f → ln (keys ls out) j ≠ canon (ln ls i)) ∧ ln (keys ls out) f = canon (ln ls i) := by
              rcases hsk.out with h | h
              · omega
              · exact h
            have hpl : place ls out i = out.set f (ln out f ++ [(i : Int)]) := place_old (by rw [keys_length]; omega) hno hfo hky
            have HF : Hid (out.set f (ln out f ++ [(i : Int)]) = classesTo ls (i + 1)) := hid (by
              have e1 : classesTo ls (i + 1) = place ls out i := by rw [he.out]; rfl
              rw [e1, hpl])
            have i1 := o15.lists.idx msl f hfo
            have k1 := o15.lists.cell f hfo
            have hlq := HLN.out f
            have dq : decide (q < out.length) = decide (q < out.length) := rfl
            have hx3 : ¬ ((f : Int) < 0) := by omega
            have hx4 : decide ((f : Int) < 0) = false := decide_eq_false hx3
            clear hpl hgo hgd hsk M hno hky
            by_cases hqo : q < out.length
            all_goals
              go_wp2_with (at_builtin; go_loud (refine wpList_app1 isl (.tmp 50) (.tmp 52) rfl rfl rfl (o15.inner f) rfl rfl (by intro u hu; simp at hu; subst hu; rfl) B5 B5.size (by omega) (by unfold maxLen; omega) ?_))
              intro a8 c8 w8 o8 g8 B8
              have hl8 : (ln out f ++ [(i : Int)]).length = (ln out f).length + 1 := by simp
              have o9 : OwnI w8 w.heap.size a8 (ln out f ++ [(i : Int)]).length c8 (ln out f ++ [(i : Int)]) := by rw [hl8]; simpa [OwnI, ints] using o8
              obtain ⟨p1, p2⟩ := o15.put f hfo (ln out f ++ [(i : Int)]) g8.step o9
              rw [hl8] at p1 p2
              have oo := (o15.others f g8.step).1
              have cq8 := oo.row.cell f (by rw [hdrs_length o15.len]; exact hfo)
              rw [hdrs_get o15.len hfo] at cq8
              have fz := Own.frozen oo (Own.some oo (by omega)) f
              have B9 := p2.below oo B8 B8.size
              clear o8 o9 g8 hl8 oo p2 hlq
              go_wp2_with fail
              go_roundw
              case rel => exact ⟨i + 1, out.set f (ln out f ++ [(i : Int)]), a1, c1, hs1.set f (a8, c8), by omega, by go_num, by rw [List.length_set], p1, B9, HF⟩
              case measure => simp [intOf]; omega
    · have e := he.out
      have ei : i = ls.length := by omega
      have e2 : out = classes ls := by rw [e, ei]; rfl
      have E := hid e2
      clear e ei e2 he
      go_wp2_with fail
      go_ret
      refine ⟨a1, c1, hs1, ?_, ?_, B⟩
      · rw [← E.out]; rfl
      · rw [← E.out]; exact o1
end Go.Proofs.Ytdafpafoioejaaa

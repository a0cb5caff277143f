/- The walks of Period, word and Words (the reference's). Conditions: the lists lie in memory as read; sizes below the reach. -/
import Derived.Test.YtdafpafoioejaaaW6
import Derived.Test.YtdafpafoioejaaaMath5
namespace Go.Proofs.Ytdafpafoioejaaa
open Go.RowKit
set_option linter.unusedVariables false

/-- the call tells whether P, and has only read -/
def RetB (w : World) (p : Prop) (e : Ending) (w' : World) : Prop := ∃ b : Bool, e = .returned (.bool b) ∧ (b = true ↔ p) ∧ QW w w'

set_option maxHeartbeats 400000 in
theorem refPeriod (l : List Int) (a : Option Addr) (c : Nat) (w : World) (h : Ints w a l) (hb : l.length * 8 ≤ 140737488355328) :
    Calls Try.prog 16 #[.slice a l.length c] w (RetQ w (.int .i64 (period l))) := by
  have H := hid h; have hl := h.len; clear h
  by_cases h0 : l = []
  · subst h0
    go_enter Try.func16, Try.ntmps16
    go_wp2_with fail
    go_loopw [3] (fun p wr => p = .int .i64 1 ∧ QW w wr) (fun _ _ => 0)
    case atStart => exact ⟨rfl, QW.refl _⟩
    case round =>
      obtain ⟨rfl, n, rfl⟩ := hrel
      go_wp2_with fail
      go_ret
      exact ⟨rfl, (by repeat (first | exact QW.refl _ | refine QW.d ?_ _))⟩
  · have hpos : 0 < l.length := List.length_pos_iff.2 h0
    have hp := hid (period_spec l h0)
    have hone := hp.out.1
    have hle := hp.out.2.1
    go_enter Try.func16, Try.ntmps16
    go_wp2_with fail
    go_loopw [3] (fun p wr => ∃ p' : Nat, 1 ≤ p' ∧ p' ≤ period l ∧ p = .int .i64 p' ∧ QW w wr) (fun p _ => l.length + 1 - (intOf p).toNat)
    case atStart => exact ⟨1, Nat.le_refl _, hone, rfl, QW.refl _⟩
    case round =>
      obtain ⟨p, hp1, hp2, rfl, n, rfl⟩ := hrel
      have hm : p % l.length < l.length := Nat.mod_lt _ hpos
      have hx : ((p : Int) % (l.length : Int)) = ((p % l.length : Nat) : Int) := by simp
      generalize hq : p % l.length = q at *
      have hQ := hid hq
      have hX := hid hx
      clear hq hx
      have hpl : p ≤ l.length := by omega
      go_wp2_with fail
      rw [hX.out]
      refine (refSame1 l l q _ _ _ _ _ (H.out.drewN n) (H.out.drewN n) hm rfl hb).mono ?_
      rintro e w' ⟨rfl, n2, rfl⟩
      by_cases he : p = period l
      · have hr : decide (rot l q = l) = true := by
          rw [decide_eq_true_iff, ← hQ.out, rot_eq_iff h0, he]; exact hp.out.2.2.1
        rw [hr]
        have HE := hid he
        clear he hr
        go_wp2_with fail
        go_ret
        exact ⟨ret_int (by rw [HE.out]), (by repeat (first | exact QW.refl _ | refine QW.d ?_ _))⟩
      · have hr : decide (rot l q = l) = false := by
          rw [decide_eq_false_iff_not, ← hQ.out, rot_eq_iff h0]; exact hp.out.2.2.2 p hp1 (by omega)
        rw [hr]
        clear hr
        go_wp2_with fail
        go_roundw
        case rel => exact ⟨p + 1, by omega, by omega, by go_num, (by repeat (first | exact QW.refl _ | refine QW.d ?_ _))⟩
        case measure => simp [intOf]; omega

/-- the first numbers of what begins at f -/
def cut (l : List Int) (f n : Nat) : List Int := (l.drop f).take n
theorem cut_length {l : List Int} {f n : Nat} (h : f + n ≤ l.length) : (cut l f n).length = n := by simp [cut]; omega
theorem cut_getD {l : List Int} {f n t : Nat} (h : t < n) : (cut l f n).getD t 0 = l.getD (f + t) 0 := by rw [cut, getD_take _ _ _ h, getD_drop]
theorem wrapped (a b q : Nat) (h : a + b = q) (hq : q ≤ 9223372036854775807) : IntKind.i64.wrap ((a : Int) + (b : Int)) = (q : Int) := by
  rw [IntWalk.i64_in _ (by omega)]; omega
theorem wrapped' (x y : Int) (q : Nat) (h : x + y = q) (hq : q ≤ 9223372036854775807) : IntKind.i64.wrap (x + y) = (q : Int) := by
  rw [IntWalk.i64_in _ (by omega)]; omega

/-- how far two words are alike -/
def Sofar (x : List Int) (k i : Nat) (c : Int) : Prop := (c = 0 ∧ ∀ t, t < i → x.getD t 0 = cyc x (k + t)) ∨ (c ≠ 0 ∧ c = cmp x (rot x k))
theorem Sofar.end {x : List Int} {k : Nat} {c : Int} (hk : k < x.length) (h : Sofar x k x.length c) : c = cmp x (rot x k) := by
  rcases h with ⟨rfl, h⟩ | h
  · have e : x = rot x k := by
      apply List.ext_getElem
      · exact (rot_length _ _).symm
      · intro t h1 h2
        have := h t h1
        rw [rot_getElem x k t hk h1, at_cyc, ← this, List.getD_eq_getElem?_getD, List.getElem?_eq_getElem h1]; rfl
    rw [← e, cmp_self]
  · exact h.2
theorem Sofar.lt {x : List Int} {k i : Nat} (hk : k < x.length) (hi : i < x.length) (h : ∀ t, t < i → x.getD t 0 = cyc x (k + t)) (hlt : x.getD i 0 < cyc x (k + i)) : cmp x (rot x k) = -1 := by
  refine (lt_iff_at (rot_length x k).symm).2 ⟨i, hi, fun t ht => ?_, ?_⟩
  · rw [rot_getD x k t hk (by omega)]; exact h t ht
  · rw [rot_getD x k i hk hi]; exact hlt
theorem Sofar.gt {x : List Int} {k i : Nat} (hk : k < x.length) (hi : i < x.length) (h : ∀ t, t < i → x.getD t 0 = cyc x (k + t)) (hlt : cyc x (k + i) < x.getD i 0) : cmp x (rot x k) = 1 := by
  have : cmp (rot x k) x = -1 := by
    refine (lt_iff_at (rot_length x k)).2 ⟨i, by rw [rot_length]; exact hi, fun t ht => ?_, ?_⟩
    · rw [rot_getD x k t hk (by omega)]; exact (h t ht).symm
    · rw [rot_getD x k i hk hi]; exact hlt
  rw [cmp_swap, this]; rfl

set_option maxHeartbeats 800000 in
theorem refWord (l : List Int) (f t n : Nat) (a : Option Addr) (c : Nat) (w : World) (h : Ints w a l) (ht : t = f + n) (htl : t ≤ l.length) (hn : 1 ≤ n) (hb : l.length * 8 ≤ 140737488355328) :
    Calls Try.prog 36 #[.slice a l.length c, .int .i64 f, .int .i64 t] w (RetB w (IsWord (cut l f n))) := by
  have H := hid h; have hl := h.len; clear h
  have hfn : f + n ≤ l.length := by omega
  have ht1 : t ≤ f + n := by omega
  have ht2 : f + n ≤ t := by omega
  have hx := cut_length hfn
  have HX := hid hx
  have hlen : (t : Int) - (f : Int) = (n : Int) := by omega
  have hget : ∀ j, j < n → (cut l f n).getD j 0 = l.getD (f + j) 0 := fun j hj => cut_getD hj
  generalize cut l f n = x at *
  have HG := hid hget
  clear ht hx hget
  go_enter Try.func36, Try.ntmps36
  go_wp2_with fail
  go_loopw [8] (fun k wr => ∃ k' : Nat, 1 ≤ k' ∧ k' ≤ n ∧ k = .int .i64 k' ∧ QW w wr ∧ Hid (∀ q, 1 ≤ q → q < k' → cmp x (rot x q) = -1)) (fun k _ => n - (intOf k).toNat)
  case atStart => exact ⟨1, Nat.le_refl _, hn, rfl, QW.refl _, hid (fun q h1 h2 => by omega)⟩
  case round =>
    obtain ⟨k, hk1, hk2, rfl, ⟨n1, rfl⟩, hall⟩ := hrel
    by_cases hlt : k < n
    · go_wp2_with fail
      go_loopw [9, 10] (fun c i wr => ∃ (c' : Int) (i' : Nat), i' ≤ n ∧ -1 ≤ c' ∧ c' ≤ 1 ∧ c = .int .i64 c' ∧ i = .int .i64 i' ∧ QW w wr ∧ Hid (Sofar x k i' c')) (fun _ i _ => n - (intOf i).toNat)
      case atStart => exact ⟨0, 0, Nat.zero_le _, by omega, by omega, rfl, rfl, (by repeat (first | exact QW.refl _ | refine QW.d ?_ _)), hid (.inl ⟨rfl, fun t h => absurd h (Nat.not_lt_zero t)⟩)⟩
      case round =>
        obtain ⟨c', i, hi, hc1, hc2, rfl, rfl, ⟨n2, rfl⟩, hs⟩ := hrel
        by_cases hgo : i < n ∧ c' = 0
        · obtain ⟨hi2, rfl⟩ := hgo
          -- the two elements
          obtain ⟨q1, hq1⟩ : ∃ q, f + i = q := ⟨_, rfl⟩
          obtain ⟨q0, hq0⟩ : ∃ q, k + i = q := ⟨_, rfl⟩
          obtain ⟨r, hr⟩ : ∃ r, q0 % n = r := ⟨_, rfl⟩
          have hrn : r < n := by rw [← hr]; exact Nat.mod_lt _ (by omega)
          obtain ⟨q2, hq2⟩ : ∃ q, f + r = q := ⟨_, rfl⟩
          have w1 := wrapped f i q1 hq1 (by omega)
          have w0 := wrapped k i q0 hq0 (by omega)
          have w3 : (q0 : Int).tmod (n : Int) = (r : Int) := by rw [Int.tmod_eq_emod_of_nonneg (by omega), ← hr]; simp
          have w2 := wrapped f r q2 hq2 (by omega)
          have i1 := H.out.idx isl q1 (by omega)
          have c1 := H.out.cell q1 (by omega)
          have i2 := H.out.idx isl q2 (by omega)
          have c2 := H.out.cell q2 (by omega)
          have u1 : x.getD i 0 = l[q1]'(by omega) := by
            rw [HG.out i hi2, hq1, List.getD_eq_getElem?_getD, List.getElem?_eq_getElem (by omega)]; rfl
          have u2 : cyc x (k + i) = l[q2]'(by omega) := by
            rw [hq0]; unfold cyc; rw [HX.out, hr, HG.out r hrn, hq2, List.getD_eq_getElem?_getD, List.getElem?_eq_getElem (by omega)]; rfl
          have hs' : ∀ t, t < i → x.getD t 0 = cyc x (k + t) := by
            rcases hs.out with h | h
            · exact h.2
            · exact absurd rfl h.1
          have hxk : k < x.length := by have := HX.out; omega
          have hxi : i < x.length := by have := HX.out; omega
          generalize l[q1]'(by omega) = u at *
          generalize l[q2]'(by omega) = v at *
          have s1 : u < v → cmp x (rot x k) = -1 := fun h => Sofar.lt hxk hxi hs' (by omega)
          have s2 : v < u → cmp x (rot x k) = 1 := fun h => Sofar.gt hxk hxi hs' (by omega)
          have s3 : u = v → Sofar x k (i + 1) 0 := fun h => .inl ⟨rfl, fun t ht => by
            by_cases e : t = i
            · subst e; omega
            · exact hs' t (by omega)⟩
          have SS := hid (And.intro s1 (And.intro s2 s3))
          clear s1 s2 s3 hs hs' u1 u2 hq1 hq0 hr hq2 hxk hxi
          by_cases h1 : u < v
          · have h2 : ¬ v < u := by omega
            have E := hid (SS.out.1 h1)
            go_wp2_with fail
            go_quiet (fail)
            go_wp2_with fail
            go_quiet (fail)
            go_wp2_with fail
            go_roundw
            case rel => exact ⟨-1, i + 1, by omega, by omega, by omega, rfl, by go_num, (by repeat (first | exact QW.refl _ | refine QW.d ?_ _)), hid (.inr ⟨by omega, E.out.symm⟩)⟩
            case measure => simp [intOf]; omega
          · by_cases h2 : v < u
            · have h3 : v ≤ u := by omega
              have E := hid (SS.out.2.1 h2)
              go_wp2_with fail
              go_quiet (fail)
              go_wp2_with fail
              go_quiet (fail)
              go_wp2_with fail
              go_roundw
              case rel => exact ⟨1, i + 1, by omega, by omega, by omega, rfl, by go_num, (by repeat (first | exact QW.refl _ | refine QW.d ?_ _)), hid (.inr ⟨by omega, E.out.symm⟩)⟩
              case measure => simp [intOf]; omega
            · have h3 : v ≤ u := by omega
              have h4 : u ≤ v := by omega
              have E := hid (SS.out.2.2 (by omega))
              go_wp2_with fail
              go_quiet (fail)
              go_wp2_with fail
              go_quiet (fail)
              go_wp2_with fail
              go_roundw
              case rel => exact ⟨0, i + 1, by omega, by omega, by omega, rfl, by go_num, (by repeat (first | exact QW.refl _ | refine QW.d ?_ _)), E⟩
              case measure => simp [intOf]; omega
        · have e : c' = cmp x (rot x k) := by
            rcases hs.out with ⟨h0, h⟩ | h
            · have hin : i = n := by omega
              exact Sofar.end (by have := HX.out; omega) (.inl ⟨h0, by have := HX.out; rw [this, ← hin]; exact h⟩)
            · exact h.2
          have E := hid e
          clear e hs
          by_cases hc : 0 ≤ c'
          · have hno : Hid (¬ IsWord x) := hid (fun hw => by
              have h1 := hw.2 k hk1 (by have := HX.out; omega)
              have h2 := E.out
              omega)
            by_cases hi2 : i < n
            · have hz : (c' == 0) = false := by simp; omega
              clear hgo
              go_wp2_with fail
              go_ret
              exact ⟨false, rfl, by simp; exact hno.out, (by repeat (first | exact QW.refl _ | refine QW.d ?_ _))⟩
            · clear hgo
              go_wp2_with fail
              go_ret
              exact ⟨false, rfl, by simp; exact hno.out, (by repeat (first | exact QW.refl _ | refine QW.d ?_ _))⟩
          · have hall' : Hid (∀ q, 1 ≤ q → q < k + 1 → cmp x (rot x q) = -1) := hid (fun q h1 h2 => by
              by_cases e : q = k
              · subst e; rw [← E.out]; omega
              · exact hall.out q h1 (by omega))
            by_cases hi2 : i < n
            · have hz : (c' == 0) = false := by simp; omega
              clear hgo
              go_wp2_with fail
              go_roundw
              case rel => exact ⟨k + 1, by omega, by omega, by go_num, (by repeat (first | exact QW.refl _ | refine QW.d ?_ _)), hall'⟩
              case measure => simp [intOf]; omega
            · clear hgo
              go_wp2_with fail
              go_roundw
              case rel => exact ⟨k + 1, by omega, by omega, by go_num, (by repeat (first | exact QW.refl _ | refine QW.d ?_ _)), hall'⟩
              case measure => simp [intOf]; omega
    · have hw : Hid (IsWord x) := hid ⟨by have := HX.out; omega, fun q h1 h2 => hall.out q h1 (by have := HX.out; omega)⟩
      go_wp2_with fail
      go_ret
      exact ⟨true, rfl, by simp; exact hw.out, (by repeat (first | exact QW.refl _ | refine QW.d ?_ _))⟩

set_option maxHeartbeats 800000 in
theorem refWords (l : List Int) (a : Option Addr) (c : Nat) (w : World) (h : Ints w a l) (hb : l.length * 8 ≤ 140737488355328) :
    Calls Try.prog 18 #[.slice a l.length c] w (RetInts w (words l)) := by
  have H := hid h; have hl := h.len; clear h
  go_enter Try.func18, Try.ntmps18
  go_wp2_with fail
  go_loopw [3, 4] (fun s i wr => ∃ (i' : Nat) (a' : Option Addr) (c' : Nat) (xs : List Int), i' ≤ l.length ∧ i = .int .i64 i' ∧ s = .slice a' xs.length c' ∧ xs.length ≤ i' ∧ OwnI wr w.heap.size a' xs.length c' xs ∧ Below w.heap.size w wr ∧ Hid (xs ++ endsFrom i' (l.drop i') = words l)) (fun _ i _ => l.length - (intOf i).toNat)
  case atStart => exact ⟨0, none, 0, [], Nat.zero_le _, rfl, rfl, Nat.zero_le _, Own.nil _ _ _ _, Below.refl _ _, hid rfl⟩
  case round =>
    obtain ⟨i, a1, c1, xs, hi, rfl, rfl, hxi, o1, B1, he⟩ := hrel
    by_cases hlt : i < l.length
    · go_wp2_with fail
      go_loopw [5, 6] (fun e k w2 => ∃ (k' m : Nat), i + 1 ≤ k' ∧ k' ≤ l.length + 1 ∧ k = .int .i64 k' ∧ e = .int .i64 ((i + m : Nat) : Int) ∧ 1 ≤ m ∧ i + m < k' + (if k' = i + 1 then 1 else 0) ∧ QW wr w2 ∧ Hid (IsWord (cut l i m) ∧ ∀ q, i + q < k' → IsWord (cut l i q) → q ≤ m)) (fun _ k _ => l.length + 1 - (intOf k).toNat)
      case atStart => exact ⟨i + 1, 1, Nat.le_refl _, by omega, by go_num, by go_num, Nat.le_refl _, by simp, QW.refl _, hid ⟨(isWord_take _ 1 (by simp; omega)).2 ⟨Nat.le_refl _, lyn_one _⟩, fun q hq hw => by omega⟩⟩
      case round =>
        obtain ⟨k, m, hk1, hk2, rfl, rfl, hm1, hm2, ⟨n2, rfl⟩, hw⟩ := hrel
        have hm3 : i + m ≤ l.length := by split at hm2 <;> omega
        have hm4 : i + m ≤ k := by split at hm2 <;> omega
        clear hm2
        by_cases hkl : k ≤ l.length
        · obtain ⟨n, hn⟩ : ∃ n, k = i + n := ⟨k - i, by omega⟩
          have HN := hid hn
          have hn1 : 1 ≤ n := by omega
          have hmn : m ≤ n := by omega
          clear hn
          go_wp2_with fail
          refine (refWord l i k n _ _ _ ((H.out.below B1).drewN n2) HN.out hkl hn1 hb).mono ?_
          rintro e w' ⟨b, rfl, hbw, n3, rfl⟩
          have HB := hid hbw
          clear hbw
          cases b
          · have hw' : Hid (IsWord (cut l i m) ∧ ∀ q, i + q < k + 1 → IsWord (cut l i q) → q ≤ m) := hid ⟨hw.out.1, fun q hq hw1 => by
              by_cases e : q = n
              · subst e; exact absurd (HB.out.2 hw1) (by simp)
              · exact hw.out.2 q (by have := HN.out; omega) hw1⟩
            clear hw HB
            go_wp2_with fail
            go_roundw
            case rel => exact ⟨k + 1, m, by omega, by omega, by go_num, rfl, hm1, by omega, (by repeat (first | exact QW.refl _ | refine QW.d ?_ _)), hw'⟩
            case measure => simp [intOf]; omega
          · have hw' : Hid (IsWord (cut l i n) ∧ ∀ q, i + q < k + 1 → IsWord (cut l i q) → q ≤ n) := hid ⟨HB.out.1 rfl, fun q hq hw1 => by have := HN.out; omega⟩
            have e : (k : Int) = ((i + n : Nat) : Int) := by have := HN.out; omega
            have E := hid e
            have hnk : i + n < k + 1 := by have := HN.out; omega
            clear hw HB e
            go_wp2_with fail
            go_roundw
            case rel => exact ⟨k + 1, n, by omega, by omega, by go_num, by rw [E.out], hn1, by omega, (by repeat (first | exact QW.refl _ | refine QW.d ?_ _)), hw'⟩
            case measure => simp [intOf]; omega
        · have hL : IsLongest (l.drop i) m := ⟨by simp; omega, hw.out.1, fun q hq hw1 => hw.out.2 q (by simp at hq; omega) hw1⟩
          have e := he.out
          rw [endsFrom_step i _ m hL, List.drop_drop] at e
          have E := hid e
          clear e he hL hw
          go_wp2_with (at_builtin; go_loud (refine wpList_app1 isl (.tmp 26) (.tmp 28) rfl rfl rfl (o1.below (below_drewN _ _)) rfl rfl (by intro u hu; simp at hu; subst hu; rfl) (B1.trans ((below_drewN _ _).mono B1.size)) B1.size (by omega) (by unfold maxLen; omega) ?_))
          intro a2 c2 w2 o2 st2 B2
          have o3 : OwnI w2 w.heap.size a2 (xs ++ [((i + m : Nat) : Int)]).length c2 (xs ++ [((i + m : Nat) : Int)]) := by simpa [OwnI, ints] using o2
          clear o2
          go_wp2_with fail
          go_roundw
          case rel => exact ⟨i + m, a2, c2, xs ++ [((i + m : Nat) : Int)], hm3, rfl, by simp, by simp; omega, o3, B2, hid (by rw [List.append_assoc]; exact E.out)⟩
          case measure => simp [intOf]; omega
    · have e := he.out
      rw [List.drop_eq_nil_of_le (by omega), endsFrom_nil, List.append_nil] at e
      have o2 : OwnI wr w.heap.size a1 xs.length c1 (words l) := by rw [← e]; exact o1
      clear e
      go_wp2_with fail
      go_ret
      exact ⟨_, _, _, rfl, o2, B1⟩

end Go.Proofs.Ytdafpafoioejaaa

/- The walk of Words (package round's). Conditions: the lists lie in memory as read; sizes below the reach. -/
import Derived.Test.YtdafpafoioejaaaW8
namespace Go.Proofs.Ytdafpafoioejaaa
open Go.RowKit
set_option linter.unusedVariables false

/-- what is left from i on, number by number -/
def from_ (l : List Int) (i : Nat) : Nat → Int := fun t => (l.drop i).getD t 0
theorem from_get (l : List Int) (i t : Nat) (h : i + t < l.length) : from_ l i t = l[i + t] := by
  unfold from_; rw [getD_drop, getD_get h]
theorem from_at (l : List Int) (i j : Nat) (h : j < l.length) (hij : i ≤ j) : from_ l i (j - i) = l[j] := by
  unfold from_; rw [getD_drop, show i + (j - i) = j by omega, getD_get h]
theorem from_add (l : List Int) (i p : Nat) : from_ l (i + p) = fun t => from_ l i (p + t) := by
  funext t; unfold from_; rw [getD_drop, getD_drop, Nat.add_assoc]
/-- what holds while the words are told: the next one has p numbers, as long as they lie before j -/
def Tell (l : List Int) (i j p : Nat) : Prop := i + p ≤ j → Duv (from_ l i) (j - i) p ∧ Ends (from_ l i) (l.length - i) (j - i) p
theorem Tell.longest {l : List Int} {i j p : Nat} (h : Tell l i j p) (hj : i + p ≤ j) : IsLongest (l.drop i) p := by
  obtain ⟨h1, h2⟩ := h hj
  have : (l.drop i).length = l.length - i := by simp
  exact h1.longest (by rw [this]; exact h2)
theorem Tell.next {l : List Int} {i j p : Nat} (h : Tell l i j p) (hj : i + p ≤ j) : Tell l (i + p) j p := by
  intro h3
  obtain ⟨h1, h2⟩ := h hj
  rw [from_add, show l.length - (i + p) = l.length - i - p by omega, show j - (i + p) = j - i - p by omega]
  exact ⟨h1.drop (by omega), h2.drop (by omega) h1.pos⟩

set_option maxHeartbeats 1600000 in
theorem progWords (l : List Int) (a : Option Addr) (c : Nat) (w : World) (h : Ints w a l) (hb : l.length * 8 ≤ 140737488355328) :
    Calls Try.prog 14 #[.slice a l.length c] w (RetInts w (words l)) := by
  have H := hid h; have hl := h.len; clear h
  go_enter Try.func14, Try.ntmps14
  go_wp2_with fail
  go_loopw [3, 4] (fun s i wr => ∃ (i' : Nat) (a' : Option Addr) (c' : Nat) (xs : List Int), i' ≤ l.length ∧ i = .int .i64 i' ∧ s = .slice a' xs.length c' ∧ xs.length ≤ i' ∧ OwnI wr w.heap.size a' xs.length c' xs ∧ Below w.heap.size w wr ∧ Hid (xs ++ endsFrom i' (l.drop i') = words l)) (fun _ i _ => l.length - (intOf i).toNat)
  case atStart => exact ⟨0, none, 0, [], Nat.zero_le _, rfl, rfl, Nat.zero_le _, Own.nil _ _ _ _, Below.refl _ _, hid rfl⟩
  case round =>
    obtain ⟨i, a1, c1, xs, hi, rfl, rfl, hxi, o1, B1, he⟩ := hrel
    by_cases hlt : i < l.length
    · go_wp2_with fail
      go_loopw [5, 6] (fun j k w2 => ∃ (j' k' : Nat), i + 1 ≤ j' ∧ j' ≤ l.length ∧ i ≤ k' ∧ k' < j' ∧ j = .int .i64 j' ∧ k = .int .i64 k' ∧ QW wr w2 ∧ Hid (Duv (from_ l i) (j' - i) (j' - k'))) (fun j _ _ => l.length - (intOf j).toNat)
      case atStart => exact ⟨i + 1, i, Nat.le_refl _, by omega, Nat.le_refl _, by omega, by go_num, rfl, QW.refl _, hid (by rw [show i + 1 - i = 1 by omega]; exact Duv.start _)⟩
      case round =>
        obtain ⟨j, k, hj1, hj2, hk1, hk2, rfl, rfl, ⟨n2, rfl⟩, hd⟩ := hrel
        have fin : ∀ (w2 : World), w2 = wr.drewN n2 → True := fun _ _ => trivial
        by_cases hjl : j < l.length
        · have ij := H.out.idx isl j hjl
          have cj := (H.out.below B1).cell j hjl
          have ik := H.out.idx isl k (by omega)
          have ck := (H.out.below B1).cell k (by omega)
          have ej := from_at l i j hjl (by omega)
          have ek : from_ l i (j - i - (j - k)) = l[k]'(by omega) := by
            rw [show j - i - (j - k) = k - i by omega]; exact from_at l i k (by omega) hk1
          generalize l[j] = u at *
          generalize l[k]'(by omega) = v at *
          have s1 : v < u → Duv (from_ l i) (j + 1 - i) (j + 1 - i) := fun h => by
            have := hd.out.more (by rw [ej, ek]; exact h)
            rwa [show j - i + 1 = j + 1 - i by omega] at this
          have s2 : v = u → Duv (from_ l i) (j + 1 - i) (j - k) := fun h => by
            have := hd.out.same (by rw [ej, ek]; exact h)
            rwa [show j - i + 1 = j + 1 - i by omega] at this
          have s3 : u < v → Ends (from_ l i) (l.length - i) (j - i) (j - k) := fun h => ⟨by omega, .inr ⟨by omega, by rw [ej, ek]; exact h⟩⟩
          have SS := hid (And.intro s1 (And.intro s2 s3))
          clear s1 s2 s3 ej ek fin
          by_cases h1 : v < u
          · have h2 : v ≤ u := by omega
            have HD := hid (SS.out.1 h1)
            go_wp2_with fail
            go_quiet (fail)
            go_wp2_with fail
            go_quiet (fail)
            go_wp2_with fail
            go_roundw
            case rel => exact ⟨j + 1, i, by omega, by omega, Nat.le_refl _, by omega, by go_num, rfl, (by repeat (first | exact QW.refl _ | refine QW.d ?_ _)), HD⟩
            case measure => simp [intOf]; omega
          · by_cases h2 : v ≤ u
            · have h3 : u ≤ v := by omega
              have HD := hid (SS.out.2.1 (by omega))
              have HD2 : Hid (Duv (from_ l i) (j + 1 - i) (j + 1 - (k + 1))) := by rw [show j + 1 - (k + 1) = j - k by omega]; exact HD
              go_wp2_with fail
              go_quiet (fail)
              go_wp2_with fail
              go_quiet (fail)
              go_wp2_with fail
              go_roundw
              case rel => exact ⟨j + 1, k + 1, by omega, by omega, by omega, by omega, by go_num, by go_num, (by repeat (first | exact QW.refl _ | refine QW.d ?_ _)), HD2⟩
              case measure => simp [intOf]; omega
            · have h3 : u < v := by omega
              have HT : Hid (Tell l i j (j - k)) := hid (fun _ => ⟨hd.out, SS.out.2.2 h3⟩)
              clear SS hd
              go_wp2_with fail
              go_quiet (fail)
              go_wp2_with fail
              go_loopw [3, 4] (fun s i3 w2 => ∃ (m : Nat) (a' : Option Addr) (c' : Nat) (ys : List Int), i ≤ m ∧ (i < m ∨ m ≤ k) ∧ m ≤ j ∧ i3 = .int .i64 m ∧ s = .slice a' ys.length c' ∧ ys.length ≤ m ∧ OwnI w2 w.heap.size a' ys.length c' ys ∧ Below w.heap.size w w2 ∧ Hid (ys ++ endsFrom m (l.drop m) = words l) ∧ Hid (Tell l m j (j - k))) (fun _ i3 _ => j - (intOf i3).toNat)
              case atStart => exact ⟨i, a1, c1, xs, Nat.le_refl _, .inr (by omega), by omega, rfl, rfl, hxi, o1.below (QW.below (by repeat (first | exact QW.refl _ | refine QW.d ?_ _))), below_q B1 B1.size (by repeat (first | exact QW.refl _ | refine QW.d ?_ _)), he, HT⟩
              case round =>
                obtain ⟨m, a2, c2, ys, hm1, hm2, hm3, rfl, rfl, hym, o2, B2, he2, HT2⟩ := hrel
                by_cases hmk : m ≤ k
                · obtain ⟨p, hp⟩ : ∃ p, j - k = p := ⟨_, rfl⟩
                  rw [hp] at HT2
                  have hL := HT2.out.longest (by omega)
                  have e := he2.out
                  rw [endsFrom_step m _ p hL, List.drop_drop] at e
                  have E := hid e
                  have HN : Hid (Tell l (m + p) j (j - k)) := hid (by rw [hp]; exact HT2.out.next (by omega))
                  have hz : (m : Int) + ((j : Int) - (k : Int)) = ((m + p : Nat) : Int) := by omega
                  have HZ := hid hz
                  have hmp : m + p ≤ j := by omega
                  have hp1 : 1 ≤ p := by omega
                  clear e he2 hL hz HT2 hp
                  go_wp2_with (at_builtin; go_loud (refine wpList_app1 isl (.tmp 51) (.tmp 53) rfl rfl rfl o2 rfl rfl (by intro u hu; simp at hu; subst hu; rfl) B2 B2.size (by omega) (by unfold maxLen; omega) ?_))
                  intro a3 c3 w3 o3 st3 B3
                  have o4 : OwnI w3 w.heap.size a3 (ys ++ [((m + p : Nat) : Int)]).length c3 (ys ++ [((m + p : Nat) : Int)]) := by
                    have h := o3
                    rw [HZ.out] at h
                    simpa [OwnI, ints] using h
                  clear o3
                  go_wp2_with fail
                  go_roundw
                  case rel => exact ⟨m + p, a3, c3, ys ++ [((m + p : Nat) : Int)], by omega, .inl (by omega), hmp, by rw [HZ.out], by simp, by simp; omega, o4, B3, hid (by rw [List.append_assoc]; exact E.out), HN⟩
                  case measure => rw [HZ.out]; simp [intOf]; omega
                · go_wp2_with fail
                  go_roundw
                  case rel => exact ⟨m, a2, c2, ys, by omega, rfl, rfl, hym, o2, B2, he2⟩
                  case measure => simp [intOf]; omega
        · have HT : Hid (Tell l i j (j - k)) := hid (fun _ => ⟨hd.out, by omega, .inl (by omega)⟩)
          have d1 : decide ((j : Int) < (l.length : Int)) = false := by simp; omega
          have d2 : decide (j < l.length) = false := by simp; omega
          go_wp2_with fail
          go_quiet (fail)
          go_wp2_with fail
          go_loopw [3, 4] (fun s i3 w2 => ∃ (m : Nat) (a' : Option Addr) (c' : Nat) (ys : List Int), i ≤ m ∧ (i < m ∨ m ≤ k) ∧ m ≤ j ∧ i3 = .int .i64 m ∧ s = .slice a' ys.length c' ∧ ys.length ≤ m ∧ OwnI w2 w.heap.size a' ys.length c' ys ∧ Below w.heap.size w w2 ∧ Hid (ys ++ endsFrom m (l.drop m) = words l) ∧ Hid (Tell l m j (j - k))) (fun _ i3 _ => j - (intOf i3).toNat)
          case atStart => exact ⟨i, a1, c1, xs, Nat.le_refl _, .inr (by omega), by omega, rfl, rfl, hxi, o1.below (QW.below (by repeat (first | exact QW.refl _ | refine QW.d ?_ _))), below_q B1 B1.size (by repeat (first | exact QW.refl _ | refine QW.d ?_ _)), he, HT⟩
          case round =>
            obtain ⟨m, a2, c2, ys, hm1, hm2, hm3, rfl, rfl, hym, o2, B2, he2, HT2⟩ := hrel
            by_cases hmk : m ≤ k
            · obtain ⟨p, hp⟩ : ∃ p, j - k = p := ⟨_, rfl⟩
              rw [hp] at HT2
              have hL := HT2.out.longest (by omega)
              have e := he2.out
              rw [endsFrom_step m _ p hL, List.drop_drop] at e
              have E := hid e
              have HN : Hid (Tell l (m + p) j (j - k)) := hid (by rw [hp]; exact HT2.out.next (by omega))
              have hz : (m : Int) + ((j : Int) - (k : Int)) = ((m + p : Nat) : Int) := by omega
              have HZ := hid hz
              have hmp : m + p ≤ j := by omega
              have hp1 : 1 ≤ p := by omega
              clear e he2 hL hz HT2 hp
              go_wp2_with (at_builtin; go_loud (refine wpList_app1 isl (.tmp 51) (.tmp 53) rfl rfl rfl o2 rfl rfl (by intro u hu; simp at hu; subst hu; rfl) B2 B2.size (by omega) (by unfold maxLen; omega) ?_))
              intro a3 c3 w3 o3 st3 B3
              have o4 : OwnI w3 w.heap.size a3 (ys ++ [((m + p : Nat) : Int)]).length c3 (ys ++ [((m + p : Nat) : Int)]) := by
                have h := o3
                rw [HZ.out] at h
                simpa [OwnI, ints] using h
              clear o3
              go_wp2_with fail
              go_roundw
              case rel => exact ⟨m + p, a3, c3, ys ++ [((m + p : Nat) : Int)], by omega, .inl (by omega), hmp, by rw [HZ.out], by simp, by simp; omega, o4, B3, hid (by rw [List.append_assoc]; exact E.out), HN⟩
              case measure => rw [HZ.out]; simp [intOf]; omega
            · go_wp2_with fail
              go_roundw
              case rel => exact ⟨m, a2, c2, ys, by omega, rfl, rfl, hym, o2, B2, he2⟩
              case measure => simp [intOf]; omega
    · have e := he.out
      rw [List.drop_eq_nil_of_le (by omega), endsFrom_nil, List.append_nil] at e
      have o2 : OwnI wr w.heap.size a1 xs.length c1 (words l) := by rw [← e]; exact o1
      clear e
      go_wp2_with fail
      go_ret
      exact ⟨_, _, _, rfl, o2, B1⟩
end Go.Proofs.Ytdafpafoioejaaa

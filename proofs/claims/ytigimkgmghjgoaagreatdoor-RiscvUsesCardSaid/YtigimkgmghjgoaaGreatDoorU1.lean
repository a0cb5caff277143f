/- The library's Sort and Compact of ints, at a row of the call's own. Condition: the row is the call's own. -/
import Derived.Test.YtigimkgmghjgoaaGreatDoorS12
import Derived.Test.YtigimkgmghjgoaaGreatDoorSh2
import Derived.Shelf.Sort.Plain
import Derived.Shelf.Slices.In.SortNone
import Derived.Shelf.Slices.CompactI
import Derived.Sort.OwnSortedInts
namespace Go.Proofs.YtigimkgmghjgoaaGreatDoor
open Go.RowKit Go.Sort
set_option linter.unusedVariables false

abbrev sortI (l : List Int) : List Int := l.mergeSort fun x y => decide (x ≤ y)
theorem sort_own (zs : List Int) (hz9 : zs.length ≤ 1000) (w : World) (B : Nat) (a : Option Addr) (c : Nat) (h : OwnI w B a zs.length c zs) :
    Calls Tryz.prog 60 #[.slice a zs.length c] w (Wrote B w a zs.length c (sortI zs)) := by
  have hl := h.cap.1; have hm := h.cap.2.1
  have hlen : (sortI zs).length = zs.length := List.length_mergeSort zs
  rcases h.2 with ⟨h2, h0⟩ | ⟨g, cap, cur, hv, hg, hh, hn, hc, hs, hx⟩
  · simp only [Value.slice.injEq] at h2
    obtain ⟨rfl, -, rfl⟩ := h2
    have hz : zs = [] := List.eq_nil_of_length_eq_zero h0
    subst hz
    refine (Any.slices_Sort_int_none Tryz.l189 none 0 w).mono fun e w' ⟨he, hw⟩ => ?_
    subst hw
    refine ⟨he, ?_, Step.refl _ _⟩
    have : sortI [] = [] := List.eq_nil_of_length_eq_zero hlen
    rw [this]; exact h
  · cases hv
    have hx' : cur.toList.take zs.length = zs.map (Value.int .i64) := by rw [← Nat.mul_one zs.length]; exact hx
    refine (Any.slices_Sort_int Tryz.l189 g 0 c zs w (holds_of_blockI hh hx') (Array.getElem?_eq_some_iff.1 hh).1 (by omega)).mono fun e w' ⟨he, n, os, hw⟩ => ?_
    subst hw
    refine ⟨he, ?_, ⟨grownBy_sortedI _, .inl rfl⟩⟩
    exact ownsRow_sortedI hlen hg hh hn hc hs
theorem compact_own (zs : List Int) (w : World) (B : Nat) (a : Option Addr) (c : Nat) (h : OwnI w B a zs.length c zs) :
    Calls Tryz.prog 61 #[.slice a zs.length c] w fun e w' => e = .returned (.slice a (Lib.compact zs).length c) ∧ OwnI w' B a (Lib.compact zs).length c (Lib.compact zs) ∧ Step w w' a a := by
  have hl := h.cap.1; have hm := h.cap.2.1
  rcases h.2 with ⟨h2, h0⟩ | ⟨g, cap, cur, hv, hg, hh, hn, hc, hs, hx⟩
  · simp only [Value.slice.injEq] at h2
    obtain ⟨rfl, -, rfl⟩ := h2
    have hz : zs = [] := List.eq_nil_of_length_eq_zero h0
    subst hz
    refine (Any.slices_Compact_int_empty Tryz.l220 none 0 w).mono fun e w' ⟨he, hw⟩ => ?_
    subst hw
    exact ⟨he, h, Step.refl _ _⟩
  · cases hv
    have hx' : cur.toList.take zs.length = zs.map (Value.int .i64) := by rw [← Nat.mul_one zs.length]; exact hx
    refine (Any.slices_Compact_int Tryz.l220 g 0 c zs w (holds_of_blockI hh hx') (by unfold maxLen at hm; omega) hl).mono fun e w' ⟨he, q, hw⟩ => ?_
    have hle : (Lib.compact zs).length ≤ zs.length := by
      unfold Lib.compact Lib.compactUpTo
      rw [List.length_map]
      exact Nat.le_trans (List.length_filter_le _ _) (by simp)
    have hlen : (Lib.compact zs ++ List.replicate (zs.length - (Lib.compact zs).length) (0 : Int)).length = zs.length := by simp; omega
    have hg0 : grow (putRow (Value.int .i64) (Sort.ahead w q) g 0 (Lib.compact zs ++ List.replicate (zs.length - (Lib.compact zs).length) (0 : Int)).toArray) #[] = w' := by rw [hw, grow_empty]
    have ho : OwnI w' B (some ⟨g, 0, none⟩) zs.length c (Lib.compact zs ++ List.replicate (zs.length - (Lib.compact zs).length) (0 : Int)) := by
      rw [← hg0]; exact ownsRow_sortedI hlen hg hh hn hc hs
    refine ⟨he, ?_, ⟨by rw [← hg0]; exact grownBy_sortedI _, .inl rfl⟩⟩
    have h5 : OwnI w' B (some ⟨g, 0, none⟩) ((Lib.compact zs).length + (zs.length - (Lib.compact zs).length)) c (Lib.compact zs ++ List.replicate (zs.length - (Lib.compact zs).length) (0 : Int)) := by
      rw [show (Lib.compact zs).length + (zs.length - (Lib.compact zs).length) = zs.length by omega]; exact ho
    unfold OwnI ints at h5
    rw [List.map_append] at h5
    exact Own.front h5 (by simp)
theorem compact0 : Lib.compact ([] : List Int) = [] := by simp [Lib.compact, Lib.compactUpTo]
theorem compact1 (x : Int) : Lib.compact [x] = [x] := by
  refine Lib.compact_all _ fun j hj => ?_
  obtain rfl : j = 0 := by simp at hj; omega
  rfl
theorem compact2 (x y : Int) (h : x ≠ y) : Lib.compact [x, y] = [x, y] := by
  refine Lib.compact_all _ fun j hj => ?_
  have hj : j = 0 ∨ j = 1 := by simp at hj; omega
  rcases hj with rfl | rfl
  · rfl
  · simp [Lib.keeps]; exact fun e => h e.symm
theorem compact22 (x : Int) : Lib.compact [x, x] = [x] := by
  simp [Lib.compact, Lib.compactUpTo, List.range, List.range.loop, Lib.keeps]
theorem sort1 (x : Int) : sortI [x] = [x] := by simp [sortI]
theorem sort2 (x y : Int) : sortI [x, y] = if x ≤ y then [x, y] else [y, x] := by
  by_cases h : x ≤ y
  · rw [if_pos h]
    exact List.mergeSort_of_pairwise (by simpa using h)
  · rw [if_neg h]
    have hp := List.mergeSort_perm [x, y] (fun a b => decide (a ≤ b))
    have hs := List.pairwise_mergeSort (le := fun a b => decide (a ≤ b)) (by intro a b c h1 h2; simp at *; omega) (by intro a b; simp; omega) [x, y]
    have hl : (sortI [x, y]).length = 2 := List.length_mergeSort _
    match hm : sortI [x, y], hl with
    | [p, q], _ =>
      rw [show [x, y].mergeSort (fun a b => decide (a ≤ b)) = [p, q] from hm] at hp hs
      have hpq : p ≤ q := by simpa using hs
      have h1 := hp.subset (a := p) (by simp)
      have h2 := hp.symm.subset (a := x) (by simp)
      have h3 := hp.symm.subset (a := y) (by simp)
      simp at h1 h2 h3
      simp; omega
/-- what Uses answers -/
def usesL (i : Ins) : List Int :=
  if i.op = 12 ∨ i.op = 13 then [] else if i.op = 6 ∨ i.op = 8 then [i.a] else if i.b < i.a then [i.b, i.a] else if i.a < i.b then [i.a, i.b] else [i.a]
def usesW (i : Ins) : Int := if i.op = 6 ∨ i.op = 8 ∨ i.op = 9 ∨ i.op = 10 then i.d else -1
def usesV (i : Ins) : List Int × Int × Int := if checkI i then (usesL i, usesW i, 0) else ([], 0, 91)
theorem both (a b : Int) : Lib.compact (sortI [a, b]) = if b < a then [b, a] else if a < b then [a, b] else [a] := by
  rw [sort2]
  by_cases h1 : b < a
  · rw [if_neg (by omega), if_pos h1, compact2 _ _ (by omega)]
  · rw [if_pos (by omega), if_neg h1]
    by_cases h2 : a < b
    · rw [if_pos h2, compact2 _ _ (by omega)]
    · obtain rfl : a = b := by omega
      rw [if_neg h2, compact22]
end Go.Proofs.YtigimkgmghjgoaaGreatDoor

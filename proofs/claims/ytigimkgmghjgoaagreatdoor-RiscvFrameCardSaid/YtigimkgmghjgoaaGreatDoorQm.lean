/- Lists that are turned, as plain Lean: what the functions of packages round and alembicref02 compute. No program in sight; no condition. · The walks of Compare, Alike, Marked, Grown and Heaped of ints (the document's answer). Conditions: the lists lie in memory as read, or in memory of the call's own. · The library's contracts of slices of ints at this program's numbers: layings, written by the shelf's own command. · The library's Sort and Compact of ints, at a row of the call's own. Condition: the row is the call's own. -/
import Derived.Test.YtigimkgmghjgoaaGreatDoorQi
import Derived.Shelf.Lays
import Derived.Shelf.Lays2
import Derived.Test.YtigimkgmghjgoaaGreatDoorProg
import Derived.Shelf.Sort.Plain
import Derived.Shelf.Slices.In.SortNone
import Derived.Shelf.Slices.CompactI
import Derived.Sort.OwnSortedInts
namespace Go.Proofs.YtigimkgmghjgoaaGreatDoor

/-- list number i of some lists -/
def ln (xs : List (List Int)) (i : Nat) : List Int := xs.getD i []
/-- which list stands ahead -/
def cmp : List Int → List Int → Int
  | [], [] => 0
  | [], _ :: _ => -1
  | _ :: _, [] => 1
  | a :: r, b :: s => if a < b then -1 else if b < a then 1 else cmp r s

/-- a list turned by k places, k at most its length -/
def rot (l : List Int) (k : Nat) : List Int := l.drop k ++ l.take k
def turn (l : List Int) (z : Int) : List Int := rot l (z % l.length).toNat

theorem rot_length (l : List Int) (k : Nat) : (rot l k).length = l.length := by
  simp [rot]; omega
theorem turn_length (l : List Int) (z : Int) : (turn l z).length = l.length := rot_length _ _
theorem turn_nil (z : Int) : turn [] z = [] := by simp [turn, rot]
theorem rot_zero (l : List Int) : rot l 0 = l := by simp [rot]
theorem rot_get (l : List Int) (k i : Nat) (hk : k < l.length) (hi : i < l.length) : (rot l k)[i]? = l[(k + i) % l.length]? := by
  unfold rot
  by_cases h : k + i < l.length
  · rw [List.getElem?_append_left (by simp; omega), List.getElem?_drop, Nat.mod_eq_of_lt h]
  · rw [List.getElem?_append_right (by simp; omega), List.getElem?_take_of_lt (by simp; omega)]
    congr 1
    rw [List.length_drop, Nat.mod_eq_sub_mod (by omega), Nat.mod_eq_of_lt (by omega)]
    omega

theorem cmp_self (l : List Int) : cmp l l = 0 := by
  induction l with
  | nil => rfl
  | cons a r ih => simp [cmp, ih]
theorem cmp_eq_zero {a b : List Int} : cmp a b = 0 ↔ a = b := by
  constructor
  · induction a generalizing b with
    | nil => cases b <;> simp [cmp]
    | cons x r ih =>
      cases b with
      | nil => simp [cmp]
      | cons y s =>
        simp only [cmp]
        split
        · simp
        · split
          · simp
          · intro h; rw [ih h]; simp; omega
  · intro h; subst h; exact cmp_self _
theorem cmp_range (a b : List Int) : cmp a b = -1 ∨ cmp a b = 0 ∨ cmp a b = 1 := by
  induction a generalizing b with
  | nil => cases b <;> simp [cmp]
  | cons x r ih =>
    cases b with
    | nil => simp [cmp]
    | cons y s => simp only [cmp]; split <;> try split
                  all_goals first | exact ih s | simp

/-- what the two say at position k is what they say from there on, if they are alike up to there -/
theorem cmp_drop_lt {a b : List Int} {k : Nat} (ha : k < a.length) (hb : k < b.length) (h : a[k] < b[k]) : cmp (a.drop k) (b.drop k) = -1 := by
  rw [List.drop_eq_getElem_cons ha, List.drop_eq_getElem_cons hb]; simp [cmp, h]
theorem cmp_drop_gt {a b : List Int} {k : Nat} (ha : k < a.length) (hb : k < b.length) (h : b[k] < a[k]) : cmp (a.drop k) (b.drop k) = 1 := by
  rw [List.drop_eq_getElem_cons ha, List.drop_eq_getElem_cons hb]; simp [cmp, h]; omega
theorem cmp_drop_eq {a b : List Int} {k : Nat} (ha : k < a.length) (hb : k < b.length) (h : a[k] = b[k]) : cmp (a.drop k) (b.drop k) = cmp (a.drop (k + 1)) (b.drop (k + 1)) := by
  rw [List.drop_eq_getElem_cons ha, List.drop_eq_getElem_cons hb]; simp [cmp, h]
theorem cmp_drop_end {a b : List Int} {k : Nat} (ha : k ≤ a.length) (hb : k ≤ b.length) (h : k = a.length ∨ k = b.length) :
    cmp (a.drop k) (b.drop k) = if a.length < b.length then -1 else if b.length < a.length then 1 else 0 := by
  by_cases h1 : k = a.length
  · subst h1
    rw [List.drop_length]
    by_cases h2 : a.length < b.length
    · rw [List.drop_eq_getElem_cons h2]; simp [cmp, h2]
    · have : b.drop a.length = [] := List.drop_eq_nil_of_le (by omega)
      rw [this]; simp [cmp, h2]; omega
  · have h2 : k = b.length := by rcases h with h | h; exact absurd h h1; exact h
    subst h2
    rw [List.drop_length, List.drop_eq_getElem_cons (by omega)]
    have h3 : ¬ a.length < b.length := by omega
    have h4 : b.length < a.length := by omega
    simp [cmp, h3, h4]

/-- the first i elements of a turned list -/
theorem rot_take_succ (l : List Int) (k i : Nat) (hk : k < l.length) (hi : i < l.length) : (rot l k).take (i + 1) = (rot l k).take i ++ [(l[(k + i) % l.length]?).getD 0] := by
  rw [List.take_add_one, rot_get l k i hk hi]
  have : (k + i) % l.length < l.length := Nat.mod_lt _ (by omega)
  simp [this]

/-- the marks behind a list that is lent -/
def marks (k : Nat) : List Int := (List.range k).map fun (i : Nat) => (-770000 : Int) - i
theorem marks_length (k : Nat) : (marks k).length = k := by simp [marks]
theorem marks_succ (k : Nat) : marks (k + 1) = marks k ++ [(-770000 : Int) - k] := by simp [marks, List.range_succ]
theorem marks_get (k i : Nat) (h : i < k) : (marks k)[i]? = some ((-770000 : Int) - i) := by simp [marks, h]

end Go.Proofs.YtigimkgmghjgoaaGreatDoor
namespace Go.Proofs.YtigimkgmghjgoaaGreatDoor
open Go.RowKit
set_option linter.unusedVariables false

set_option maxHeartbeats 400000 in
theorem refCompare (a b : List Int) (a1 a2 : Option Addr) (c1 c2 : Nat) (w : World) (h1 : Ints w a1 a) (h2 : Ints w a2 b) :
    Calls Tryz.prog 53 #[.slice a1 a.length c1, .slice a2 b.length c2] w (RetQ w (.int .i64 (cmp a b))) := by
  have H1 := hid h1; have H2 := hid h2
  have hl1 := h1.len; have hl2 := h2.len; clear h1 h2
  go_enter Tryz.func53, Tryz.ntmps53
  go_wp2
  go_loopw [5] (fun i wr => ∃ k : Nat, k ≤ a.length ∧ k ≤ b.length ∧ i = .int .i64 k ∧ QW w wr ∧ Hid (cmp (a.drop k) (b.drop k) = cmp a b)) (fun i _ => a.length - (intOf i).toNat)
  case atStart => exact ⟨0, Nat.zero_le _, Nat.zero_le _, rfl, QW.refl _, hid rfl⟩
  case round =>
    obtain ⟨k, hk1, hk2, rfl, ⟨n, rfl⟩, hcmp⟩ := hrel
    by_cases hlt : k < a.length ∧ k < b.length
    · obtain ⟨hl1, hl2⟩ := hlt
      have c1' := H1.out.cell k hl1
      have c2' := H2.out.cell k hl2
      have i1 := H1.out.idx isl k hl1
      have i2 := H2.out.idx isl k hl2
      go_wp2_with fail
      go_quiet (fail)
      go_wp2_with fail
      · have h : a[k] < b[k] := by assumption
        go_ret
        exact ⟨ret_int (by rw [← hcmp.out, cmp_drop_lt hl1 hl2 h]), (by repeat (first | exact QW.refl _ | refine QW.d ?_ _))⟩
      · have h : b[k] ≤ a[k] := by assumption
        go_quiet (fail)
        go_wp2_with fail
        · have h' : b[k] < a[k] := by assumption
          go_ret
          exact ⟨ret_int (by rw [← hcmp.out, cmp_drop_gt hl1 hl2 h']), (by repeat (first | exact QW.refl _ | refine QW.d ?_ _))⟩
        · have h' : ¬ b[k] < a[k] := by omega
          have e := cmp_drop_eq hl1 hl2 (by omega)
          have E := hid (e.symm.trans hcmp.out)
          clear e
          go_roundw
          case rel => exact ⟨k + 1, by omega, by omega, by go_num, (by repeat (first | exact QW.refl _ | refine QW.d ?_ _)), E⟩
          case measure => simp [intOf]; omega
    · have e := cmp_drop_end (a := a) (b := b) hk1 hk2 (by omega)
      have E := hid (hcmp.out.symm.trans e)
      clear e
      by_cases hl1 : k < a.length
      · have hl2 : ¬ k < b.length := fun h => hlt ⟨hl1, h⟩
        clear hlt
        go_wp2_with fail
        all_goals
          have E' := E.out
          clear E
          go_ret
          exact ⟨ret_int (by rw [E']; simp [*]), (by repeat (first | exact QW.refl _ | refine QW.d ?_ _))⟩
      · clear hlt
        go_wp2_with fail
        all_goals
          have E' := E.out
          clear E
          go_ret
          exact ⟨ret_int (by rw [E']; simp [*]), (by repeat (first | exact QW.refl _ | refine QW.d ?_ _))⟩

set_option maxHeartbeats 400000 in
theorem refAlike (a b : List Int) (a1 a2 : Option Addr) (c1 c2 : Nat) (w : World) (h1 : Ints w a1 a) (h2 : Ints w a2 b) :
    Calls Tryz.prog 19 #[.slice a1 a.length c1, .slice a2 b.length c2] w (RetQ w (.bool (decide (a = b)))) := by
  have H1 := hid h1; have H2 := hid h2; clear h1 h2
  have e : (cmp a b == 0) = decide (a = b) := by rw [Bool.eq_iff_iff]; simp [cmp_eq_zero]
  have E := hid e
  clear e
  go_enter Tryz.func19, Tryz.ntmps19
  go_wp2_with (go_at_call 53; refine (refCompare a b _ _ _ _ _ H1.out H2.out).mono ?_; rintro e w' ⟨rfl, n, rfl⟩)
  go_ret
  exact ⟨ret_bool E.out, (by repeat (first | exact QW.refl _ | refine QW.d ?_ _))⟩


/-- a row of the call's own was written over, nothing else of what was there -/
def Wrote (B : Nat) (w : World) (a : Option Addr) (n c : Nat) (l : List Int) (e : Ending) (w' : World) : Prop :=
  e = .returned (.tuple #[]) ∧ OwnI w' B a n c l ∧ Step w w' a a

set_option maxHeartbeats 400000 in
theorem refMarked (l : List Int) (m : Int) (B : Nat) (a : Option Addr) (n c : Nat) (w : World) (h : OwnI w B a n c l) (hm0 : 0 ≤ m) (hm : m ≤ 1000000000000000000) :
    Calls Tryz.prog 21 #[.slice a n c, .int .i64 m] w (Wrote B w a n c (List.replicate l.length (-1000000 - m))) := by
  have hl := h.ints.1.len
  obtain rfl := h.ints.2
  have H := hid h; clear h
  go_enter Tryz.func21, Tryz.ntmps21
  go_wp2_with fail
  go_loopw [4] (fun i wr => ∃ (j : Nat), j ≤ l.length ∧ i = .int .i64 j ∧ OwnI wr B a l.length c (List.replicate j (-1000000 - m) ++ l.drop j) ∧ Step w wr a a) (fun i _ => l.length - (intOf i).toNat)
  case atStart => exact ⟨0, Nat.zero_le _, rfl, by simpa using H.out, Step.refl _ _⟩
  case round =>
    obtain ⟨j, hj, rfl, o1, st1⟩ := hrel
    by_cases hlt : j < l.length
    · have hlen : (List.replicate j (-1000000 - m) ++ l.drop j).length = l.length := by simp; omega
      have ij := (o1.ints.1).idx isl j (by rw [hlen]; exact hlt)
      have cj := (o1.ints.1).cell j (by rw [hlen]; exact hlt)
      obtain ⟨v, hv⟩ : ∃ v, (List.replicate j (-1000000 - m) ++ l.drop j)[j]'(by rw [hlen]; exact hlt) = v := ⟨_, rfl⟩
      rw [hv] at cj
      clear hv
      have fj := Own.frozen o1 (Own.some o1 (by omega)) j
      have oj := Own.set o1 (Own.some o1 (by omega)) j (.int .i64 (-1000000 - m))
      have e : (List.replicate j (-1000000 - m) ++ l.drop j).set j (-1000000 - m) = List.replicate (j + 1) (-1000000 - m) ++ l.drop (j + 1) := by
        rw [List.set_append_right _ _ (by simp)]
        simp only [List.length_replicate, Nat.sub_self]
        rw [List.drop_eq_getElem_cons hlt, List.set_cons_zero, List.replicate_succ', List.append_assoc]; rfl
      obtain ⟨oj1, oj2⟩ := oj
      have oj3 : OwnI (wr.setCell ⟨bk a, fo a + j, none⟩ (.int .i64 (-1000000 - m))) B a l.length c (List.replicate (j + 1) (-1000000 - m) ++ l.drop (j + 1)) := by
        rw [← e]; simpa only [OwnI, ints, List.map_set] using oj1
      have st3 := st1.trans oj2
      rw [hlen] at ij
      clear e oj1 oj2 hlen
      go_wp2_with fail
      go_roundw
      case rel => exact ⟨j + 1, by omega, by go_num, oj3, st3⟩
      case measure => simp [intOf]; omega
    · obtain rfl : j = l.length := by omega
      go_wp2_with fail
      go_end0
      exact ⟨rfl, by simpa using o1, st1⟩

set_option maxHeartbeats 400000 in
theorem refGrown (l : List Int) (m : Int) (B : Nat) (a : Option Addr) (n c : Nat) (w : World) (h : OwnI w B a n c l) (hB : B ≤ w.heap.size) (hb : l.length * 8 ≤ 140737488355000) (hm0 : 0 ≤ m) (hm : m ≤ 1000000000000000000) :
    Calls Tryz.prog 22 #[.slice a n c, .int .i64 m] w (Wrote B w a n c l) := by
  obtain rfl := h.ints.2
  have H := hid h; clear h
  go_enter Tryz.func22, Tryz.ntmps22
  go_wp2_with fail
  go_loopw [0, 4] (fun s i wr => ∃ (j : Nat) (a' : Option Addr) (c' : Nat), j ≤ 20 ∧ i = .int .i64 j ∧ s = .slice a' (l.length + j) c' ∧ OwnI wr B a' (l.length + j) c' (l ++ List.replicate j (-2000000 - m)) ∧ OwnI wr B a l.length c l ∧ Step w wr a a ∧ Tail w a c a' c') (fun _ i _ => 20 - (intOf i).toNat)
  case atStart => exact ⟨0, a, c, Nat.zero_le _, rfl, by simp, by simpa [OwnI] using H.out, H.out, Step.refl _ _, .inl ⟨rfl, rfl⟩⟩
  case round =>
    obtain ⟨j, a', c', hj, rfl, rfl, o1, o2, st1, tl⟩ := hrel
    by_cases hlt : j < 20
    · have hBr : B ≤ wr.heap.size := Nat.le_trans hB st1.grown.size
      go_wp2_with (at_builtin; go_loud (refine wpList_app1 isl (.tmp 9) (.tmp 12) rfl rfl rfl o1 rfl rfl (by intro u hu; simp at hu; subst hu; rfl) (Below.refl B wr) hBr (by omega) (by unfold maxLen; omega) ?_))
      intro a3 c3 w3 o3 g3 B3
      have hlt' : a ≠ none → bk a < w.heap.size := fun h => (Own.lt H.out h).2
      have e : ints (l ++ List.replicate j (-2000000 - m)) = ints l ++ ints (List.replicate j (-2000000 - m)) := by simp [ints]
      obtain ⟨q1, q2, q3⟩ := Tail.grew (m := 1) (zs := [.int .i64 (-2000000 - m)]) (ys := ints (List.replicate j (-2000000 - m))) o2 (by rw [← e]; exact o1) st1 hlt' tl g3 (by simpa [ints] using o3)
      have o4 : OwnI w3 B a3 (l.length + (j + 1)) c3 (l ++ List.replicate (j + 1) (-2000000 - m)) := by
        rw [List.replicate_succ', ← List.append_assoc]; simpa [OwnI, ints, Nat.add_assoc] using o3
      clear o1 o2 o3 g3 tl e st1
      go_wp2_with fail
      go_roundw
      case rel => exact ⟨j + 1, a3, c3, by omega, by go_num, by simp [Nat.add_assoc], o4, q1, q2, q3⟩
      case measure => simp [intOf]; omega
    · go_wp2_with fail
      go_end0
      exact ⟨rfl, o2, st1⟩


set_option maxHeartbeats 400000 in
theorem refHeaped (l : List Int) (m : Int) (B : Nat) (a : Option Addr) (n c : Nat) (w : World) (h : OwnI w B a n c l) (hB : B ≤ w.heap.size) (hb : l.length * 8 ≤ 140737488354000) (hm0 : 0 ≤ m) (hm : m ≤ 1000000000000000000) :
    Calls Tryz.prog 23 #[.slice a n c, .int .i64 m] w (Wrote B w a n c l) := by
  obtain rfl := h.ints.2
  have H := hid h; clear h
  go_enter Tryz.func23, Tryz.ntmps23
  go_wp2_with (at_make; go_loud (refine wpList_mk isl _ _ rfl rfl 80 rfl rfl (by omega) (by omega) (by omega) (by unfold maxLen; omega) (Below.refl w.heap.size w) (Nat.le_refl _) ?_))
  intro a1 w1 o1 st1 B1
  have S1 : Step w w1 a a := ⟨grownBy_none st1.grown, .inl rfl⟩
  go_wp2_with fail
  go_loopw [5] (fun i wr => ∃ (j : Nat) (x : List Int), j ≤ 80 ∧ i = .int .i64 j ∧ x.length = 80 ∧ OwnI wr w.heap.size a1 80 80 x ∧ Below w.heap.size w wr) (fun i _ => 80 - (intOf i).toNat)
  case atStart => exact ⟨0, List.replicate 80 0, Nat.zero_le _, rfl, by simp, (by have h := o1; rw [madeI 80] at h; exact h), B1⟩
  case round =>
    obtain ⟨j, x, hj, rfl, hx, o2, B2⟩ := hrel
    by_cases hlt : j < 80
    · have ij := (o2.ints.1).idx isl j (by omega)
      have cj := (o2.ints.1).cell j (by omega)
      rw [hx] at ij
      have fj := Own.frozen o2 (Own.some o2 (by omega)) j
      obtain ⟨q1, q2⟩ := Own.set o2 (Own.some o2 (by omega)) j (.int .i64 (-3000000 - m))
      have q3 : OwnI (wr.setCell ⟨bk a1, fo a1 + j, none⟩ (.int .i64 (-3000000 - m))) w.heap.size a1 80 80 (x.set j (-3000000 - m)) := by
        simpa only [OwnI, ints, List.map_set] using q1
      have B3 := q2.below o2 B2 B2.size
      clear q1 q2
      obtain ⟨v, hv⟩ : ∃ v, x[j]'(by omega) = v := ⟨_, rfl⟩
      rw [hv] at cj
      have HX := hid hx
      clear hv hx
      go_wp2_with fail
      go_roundw
      case rel => exact ⟨j + 1, _, by omega, by go_num, by simpa using HX.out, q3, B3⟩
      case measure => simp [intOf]; omega
    · have hw : Own wr B 3 1 a l.length c (ints l) := H.out.below B2
      have HX := hid hx
      clear hx
      go_wp2_with (at_builtin; go_loud (refine wpList_app isl (.tmp 16) (.tmp 17) rfl rfl rfl hw rfl o2.row (by have := HX.out; simp; omega) (ints_one _) (Below.refl B wr) (by have := B2.size; omega) (by omega) (by unfold maxLen; omega) ?_))
      intro a3 c3 w3 o3 g3 B3
      have q := hw.grew g3 o3
      go_wp2_with fail
      go_end0
      refine ⟨rfl, q, ⟨⟨g3.step.grown.os.trans B2.os, g3.step.grown.tape.trans B2.tape, g3.step.grown.output.trans B2.output, Nat.le_trans B2.size g3.step.grown.size, fun k hk hkn => ?_⟩, .inl rfl⟩⟩
      rw [g3.step.grown.block k (by have := B2.size; omega) hkn]
      exact B2.block k hk

end Go.Proofs.YtigimkgmghjgoaaGreatDoor
namespace Go.Proofs.YtigimkgmghjgoaaGreatDoor
open Go.Shelf
def Tryz.l189_ren : Go.Shelf.Ren := ⟨fun | 189 => 60 | 125 => 93 | 257 => 92 | 128 => 125 | 129 => 126 | 294 => 116 | 295 => 117 | 296 => 118 | 297 => 119 | 298 => 120 | 299 => 121 | 216 => 122 | 300 => 123 | 301 => 124 | 328 => 145 | 329 => 146 | 330 => 147 | 331 => 148 | 332 => 149 | 215 => 150 | 343 => 165 | n => n, fun | 28 => 33 | 3 => 3 | 46 => 58 | 0 => 0 | 51 => 123 | 53 => 124 | 4 => 4 | 183 => 127 | 182 => 126 | 131 => 76 | 5 => 5 | 9 => 9 | 218 => 152 | 222 => 156 | 228 => 167 | 229 => 168 | n => n, fun | n => n⟩
theorem Tryz.l189 : Go.Proofs.Lays.n189 Tryz.prog Tryz.l189_ren := {
  mixed := by kernel_rfl
  f125 := Tryz.func93.trans (congrArg some (by kernel_rfl))
  f128 := Tryz.func125.trans (congrArg some (by kernel_rfl))
  f129 := Tryz.func126.trans (congrArg some (by kernel_rfl))
  f189 := Tryz.func60.trans (congrArg some (by kernel_rfl))
  f215 := Tryz.func150.trans (congrArg some (by kernel_rfl))
  f216 := Tryz.func122.trans (congrArg some (by kernel_rfl))
  f257 := Tryz.func92.trans (congrArg some (by kernel_rfl))
  f294 := Tryz.func116.trans (congrArg some (by kernel_rfl))
  f295 := Tryz.func117.trans (congrArg some (by kernel_rfl))
  f296 := Tryz.func118.trans (congrArg some (by kernel_rfl))
  f297 := Tryz.func119.trans (congrArg some (by kernel_rfl))
  f298 := Tryz.func120.trans (congrArg some (by kernel_rfl))
  f299 := Tryz.func121.trans (congrArg some (by kernel_rfl))
  f300 := Tryz.func123.trans (congrArg some (by kernel_rfl))
  f301 := Tryz.func124.trans (congrArg some (by kernel_rfl))
  f328 := Tryz.func145.trans (congrArg some (by kernel_rfl))
  f329 := Tryz.func146.trans (congrArg some (by kernel_rfl))
  f330 := Tryz.func147.trans (congrArg some (by kernel_rfl))
  f331 := Tryz.func148.trans (congrArg some (by kernel_rfl))
  f332 := Tryz.func149.trans (congrArg some (by kernel_rfl))
  f343 := Tryz.func165.trans (congrArg some (by kernel_rfl))
  t0 := Tryz.underlying0
  a0 := Tryz.isAgg0
  z0 := Tryz.sizeOf0
  v0 := Tryz.zeroValue0
  t3 := Tryz.underlying3
  a3 := Tryz.isAgg3
  z3 := Tryz.sizeOf3
  v3 := Tryz.zeroValue3
  t4 := Tryz.underlying4
  a4 := Tryz.isAgg4
  z4 := Tryz.sizeOf4
  v4 := Tryz.zeroValue4
  t5 := Tryz.underlying5
  a5 := Tryz.isAgg5
  z5 := Tryz.sizeOf5
  v5 := Tryz.zeroValue5
  t9 := Tryz.underlying9
  a9 := Tryz.isAgg9
  z9 := Tryz.sizeOf9
  v9 := Tryz.zeroValue9
  t28 := Tryz.underlying33
  a28 := Tryz.isAgg33
  z28 := Tryz.sizeOf33
  v28 := Tryz.zeroValue33
  t46 := Tryz.underlying58
  a46 := Tryz.isAgg58
  z46 := Tryz.sizeOf58
  v46 := Tryz.zeroValue58
  t51 := Tryz.underlying123
  a51 := Tryz.isAgg123
  z51 := Tryz.sizeOf123
  v51 := Tryz.zeroValue123
  t53 := Tryz.underlying124
  a53 := Tryz.isAgg124
  z53 := Tryz.sizeOf124
  v53 := Tryz.zeroValue124
  t131 := Tryz.underlying76
  a131 := Tryz.isAgg76
  z131 := Tryz.sizeOf76
  v131 := Tryz.zeroValue76
  t182 := Tryz.underlying126
  a182 := Tryz.isAgg126
  z182 := Tryz.sizeOf126
  v182 := Tryz.zeroValue126
  t183 := Tryz.underlying127
  a183 := Tryz.isAgg127
  z183 := Tryz.sizeOf127
  v183 := Tryz.zeroValue127
  t218 := Tryz.underlying152
  a218 := Tryz.isAgg152
  z218 := Tryz.sizeOf152
  v218 := Tryz.zeroValue152
  t222 := Tryz.underlying156
  a222 := Tryz.isAgg156
  z222 := Tryz.sizeOf156
  v222 := Tryz.zeroValue156
  t228 := Tryz.underlying167
  a228 := Tryz.isAgg167
  z228 := Tryz.sizeOf167
  v228 := Tryz.zeroValue167
  t229 := Tryz.underlying168
  a229 := Tryz.isAgg168
  z229 := Tryz.sizeOf168
  v229 := Tryz.zeroValue168 }
def Tryz.l220_ren : Go.Shelf.Ren := ⟨fun | 20 => 61 | n => n, fun | 22 => 33 | 3 => 3 | 4 => 4 | 0 => 0 | n => n, fun | n => n⟩
theorem Tryz.l220 : Go.Proofs.Lays2.n20 Tryz.prog Tryz.l220_ren := {
  mixed := by kernel_rfl
  f20 := Tryz.func61.trans (congrArg some (by kernel_rfl))
  t0 := Tryz.underlying0
  a0 := Tryz.isAgg0
  z0 := Tryz.sizeOf0
  v0 := Tryz.zeroValue0
  t3 := Tryz.underlying3
  a3 := Tryz.isAgg3
  z3 := Tryz.sizeOf3
  v3 := Tryz.zeroValue3
  t4 := Tryz.underlying4
  a4 := Tryz.isAgg4
  z4 := Tryz.sizeOf4
  v4 := Tryz.zeroValue4
  t22 := Tryz.underlying33
  a22 := Tryz.isAgg33
  z22 := Tryz.sizeOf33
  v22 := Tryz.zeroValue33
  i3 := by kernel_rfl }

end Go.Proofs.YtigimkgmghjgoaaGreatDoor
namespace Go.Proofs.YtigimkgmghjgoaaGreatDoor
open Go.RowKit Go.Sort
set_option linter.unusedVariables false

abbrev sortI (l : List Int) : List Int := l.mergeSort fun x y => decide (x ≤ y)
theorem sort_own (zs : List Int) (hz9 : zs.length ≤ 1000) (w : World) (B : Nat) (a : Option Addr) (c : Nat) (h : OwnI w B a zs.length c zs) :
    Calls Tryz.prog 60 #[.slice a zs.length c] w (Wrote B w a zs.length c (sortI zs)) := by
  have hl := h.cap.1; have hm := h.cap.2.1
  have hlen : (sortI zs).length = zs.length := List.length_mergeSort zs
  rcases h.2 with ⟨h2, h0⟩ | ⟨g, cap, cur, hv, hg, hh, hn, hc, hs, hx⟩
  · simp only [Value.slice.injEq] at h2
    obtain ⟨rfl, -, rfl⟩ := h2
    have hz : zs = [] := List.eq_nil_of_length_eq_zero h0
    subst hz
    refine (Any.slices_Sort_int_none Tryz.l189 none 0 w).mono fun e w' ⟨he, hw⟩ => ?_
    subst hw
    refine ⟨he, ?_, Step.refl _ _⟩
    have : sortI [] = [] := List.eq_nil_of_length_eq_zero hlen
    rw [this]; exact h
  · cases hv
    have hx' : cur.toList.take zs.length = zs.map (Value.int .i64) := by rw [← Nat.mul_one zs.length]; exact hx
    refine (Any.slices_Sort_int Tryz.l189 g 0 c zs w (holds_of_blockI hh hx') (Array.getElem?_eq_some_iff.1 hh).1 (by omega)).mono fun e w' ⟨he, n, os, hw⟩ => ?_
    subst hw
    refine ⟨he, ?_, ⟨grownBy_sortedI _, .inl rfl⟩⟩
    exact ownsRow_sortedI hlen hg hh hn hc hs
theorem compact_own (zs : List Int) (w : World) (B : Nat) (a : Option Addr) (c : Nat) (h : OwnI w B a zs.length c zs) :
    Calls Tryz.prog 61 #[.slice a zs.length c] w fun e w' => e = .returned (.slice a (Lib.compact zs).length c) ∧ OwnI w' B a (Lib.compact zs).length c (Lib.compact zs) ∧ Step w w' a a := by
  have hl := h.cap.1; have hm := h.cap.2.1
  rcases h.2 with ⟨h2, h0⟩ | ⟨g, cap, cur, hv, hg, hh, hn, hc, hs, hx⟩
  · simp only [Value.slice.injEq] at h2
    obtain ⟨rfl, -, rfl⟩ := h2
    have hz : zs = [] := List.eq_nil_of_length_eq_zero h0
    subst hz
    refine (Any.slices_Compact_int_empty Tryz.l220 none 0 w).mono fun e w' ⟨he, hw⟩ => ?_
    subst hw
    exact ⟨he, h, Step.refl _ _⟩
  · cases hv
    have hx' : cur.toList.take zs.length = zs.map (Value.int .i64) := by rw [← Nat.mul_one zs.length]; exact hx
    refine (Any.slices_Compact_int Tryz.l220 g 0 c zs w (holds_of_blockI hh hx') (by unfold maxLen at hm; omega) hl).mono fun e w' ⟨he, q, hw⟩ => ?_
    have hle : (Lib.compact zs).length ≤ zs.length := by
      unfold Lib.compact Lib.compactUpTo
      rw [List.length_map]
      exact Nat.le_trans (List.length_filter_le _ _) (by simp)
    have hlen : (Lib.compact zs ++ List.replicate (zs.length - (Lib.compact zs).length) (0 : Int)).length = zs.length := by simp; omega
    have hg0 : grow (putRow (Value.int .i64) (Sort.ahead w q) g 0 (Lib.compact zs ++ List.replicate (zs.length - (Lib.compact zs).length) (0 : Int)).toArray) #[] = w' := by rw [hw, grow_empty]
    have ho : OwnI w' B (some ⟨g, 0, none⟩) zs.length c (Lib.compact zs ++ List.replicate (zs.length - (Lib.compact zs).length) (0 : Int)) := by
      rw [← hg0]; exact ownsRow_sortedI hlen hg hh hn hc hs
    refine ⟨he, ?_, ⟨by rw [← hg0]; exact grownBy_sortedI _, .inl rfl⟩⟩
    have h5 : OwnI w' B (some ⟨g, 0, none⟩) ((Lib.compact zs).length + (zs.length - (Lib.compact zs).length)) c (Lib.compact zs ++ List.replicate (zs.length - (Lib.compact zs).length) (0 : Int)) := by
      rw [show (Lib.compact zs).length + (zs.length - (Lib.compact zs).length) = zs.length by omega]; exact ho
    unfold OwnI ints at h5
    rw [List.map_append] at h5
    exact Own.front h5 (by simp)
theorem compact0 : Lib.compact ([] : List Int) = [] := by simp [Lib.compact, Lib.compactUpTo]
theorem compact1 (x : Int) : Lib.compact [x] = [x] := by
  refine Lib.compact_all _ fun j hj => ?_
  obtain rfl : j = 0 := by simp at hj; omega
  rfl
theorem compact2 (x y : Int) (h : x ≠ y) : Lib.compact [x, y] = [x, y] := by
  refine Lib.compact_all _ fun j hj => ?_
  have hj : j = 0 ∨ j = 1 := by simp at hj; omega
  rcases hj with rfl | rfl
  · rfl
  · simp [Lib.keeps]; exact fun e => h e.symm
theorem compact22 (x : Int) : Lib.compact [x, x] = [x] := by
  simp [Lib.compact, Lib.compactUpTo, List.range, List.range.loop, Lib.keeps]
theorem sort1 (x : Int) : sortI [x] = [x] := by simp [sortI]
theorem sort2 (x y : Int) : sortI [x, y] = if x ≤ y then [x, y] else [y, x] := by
  by_cases h : x ≤ y
  · rw [if_pos h]
    exact List.mergeSort_of_pairwise (by simpa using h)
  · rw [if_neg h]
    have hp := List.mergeSort_perm [x, y] (fun a b => decide (a ≤ b))
    have hs := List.pairwise_mergeSort (le := fun a b => decide (a ≤ b)) (by intro a b c h1 h2; simp at *; omega) (by intro a b; simp; omega) [x, y]
    have hl : (sortI [x, y]).length = 2 := List.length_mergeSort _
    match hm : sortI [x, y], hl with
    | [p, q], _ =>
      rw [show [x, y].mergeSort (fun a b => decide (a ≤ b)) = [p, q] from hm] at hp hs
      have hpq : p ≤ q := by simpa using hs
      have h1 := hp.subset (a := p) (by simp)
      have h2 := hp.symm.subset (a := x) (by simp)
      have h3 := hp.symm.subset (a := y) (by simp)
      simp at h1 h2 h3
      simp; omega
/-- what Uses answers -/
def usesL (i : Ins) : List Int :=
  if i.op = 12 ∨ i.op = 13 then [] else if i.op = 6 ∨ i.op = 8 then [i.a] else if i.b < i.a then [i.b, i.a] else if i.a < i.b then [i.a, i.b] else [i.a]
def usesW (i : Ins) : Int := if i.op = 6 ∨ i.op = 8 ∨ i.op = 9 ∨ i.op = 10 then i.d else -1
def usesV (i : Ins) : List Int × Int × Int := if checkI i then (usesL i, usesW i, 0) else ([], 0, 91)
theorem both (a b : Int) : Lib.compact (sortI [a, b]) = if b < a then [b, a] else if a < b then [a, b] else [a] := by
  rw [sort2]
  by_cases h1 : b < a
  · rw [if_neg (by omega), if_pos h1, compact2 _ _ (by omega)]
  · rw [if_pos (by omega), if_neg h1]
    by_cases h2 : a < b
    · rw [if_pos h2, compact2 _ _ (by omega)]
    · obtain rfl : a = b := by omega
      rw [if_neg h2, compact22]
end Go.Proofs.YtigimkgmghjgoaaGreatDoor

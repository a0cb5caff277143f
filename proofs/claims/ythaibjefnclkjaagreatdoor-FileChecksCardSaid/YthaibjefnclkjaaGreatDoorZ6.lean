/- Rows written over in place: several cells at once, clear. Lemmas of this claim's own; no condition. Rows of elements of several cells that are the call's own: written over in place, an end cleared. Lemmas of this claim's own; no condition. The walks of letters, digits and names of locations. Conditions: lengths that an int holds. -/
import Derived.Test.YthaibjefnclkjaaGreatDoorZ1
import Derived.Laws.IdiomCopy
import Derived.Test.YthaibjefnclkjaaGreatDoorZ3
import Derived.Test.YthaibjefnclkjaaGreatDoorZ2
namespace Go.Proofs.YthaibjefnclkjaaGreatDoor
open Go.RowKit
set_option linter.unusedVariables false

/-- 'append(s, u)' behind more than one new block -/
theorem wpList_app1n {P : Program} {w : World} {ops : Array Oper} {rest : List Oper} {o : Oper} {a : Act} {Q : Exit → Act → World → Prop} {t e : TypeId} {z : Value} {size bytes : Nat} (T : ElT P t e z size bytes) (s x : Operand) (hgd : o.guard = none) (ho : o.op = .call { callee := .builtin .append, args := #[s, x], argTypes := #[t, t] })
    {B n c N : Nat} {sa : Option Addr} {xs : List Value} (hN : w.heap.size = N) (hs : a.eval s = .slice sa n c) (hown : Own w B e size sa n c xs)
    {us : Array Value} (hx : a.eval x = .slice (some ⟨N, 0, none⟩) 1 1) (hl : us.size = size) (h1c : ∀ u ∈ us.toList, u.oneCell' = true)
    {w0 : World} (hB : Below B w0 w) (hB0 : B ≤ w.heap.size) (hbytes : (n + 1) * bytes ≤ 140737488355328) (hm : n + 1 ≤ maxLen)
    (h : ∀ a' c' w', Own w' B e size a' (n + 1) c' (xs ++ us.toList) → Grew w w' sa c a' c' → Below B w0 w' → wpList P ops Q rest (a.put o.dst (.slice a' (n + 1) c')) w') : wpList P ops Q (o :: rest) a (w.alloc (.cells us e)) := by
  subst hN
  exact wpList_app1 T s x hgd ho hs hown hx hl h1c hB hB0 hbytes hm h
/-- a list with others laid over it from place j on -/
def layL (xs : List Value) (j : Nat) (vs : List Value) : List Value := xs.take j ++ vs ++ xs.drop (j + vs.length)
theorem layL_nil (xs : List Value) (j : Nat) : layL xs j [] = xs := by simp [layL]
theorem layL_cons (xs : List Value) (j : Nat) (v : Value) (vs : List Value) (h : j < xs.length) : layL xs j (v :: vs) = layL (xs.set j v) (j + 1) vs := by
  have h1 : xs.set j v = (xs.take j ++ [v]) ++ xs.drop (j + 1) := by rw [List.set_eq_take_append_cons_drop, if_pos h]; simp
  have hl : (xs.take j ++ [v]).length = j + 1 := by simp; omega
  unfold layL
  rw [h1, List.take_left' hl, List.drop_append, List.drop_of_length_le (by omega : (xs.take j ++ [v]).length ≤ j + 1 + vs.length), List.nil_append, List.drop_drop, hl]
  simp only [List.append_assoc, List.cons_append, List.nil_append, List.length_cons]
  congr 3
  congr 1
  omega
theorem Own.sets {B E size n c : Nat} {a : Option Addr} (ha : a ≠ none) : ∀ (vs : List Value) (j : Nat) (w : World) (xs : List Value), Own w B E size a n c xs → j + vs.length ≤ xs.length →
    Own (w.setCells (bk a) (fo a + j) vs) B E size a n c (layL xs j vs) ∧ Step w (w.setCells (bk a) (fo a + j) vs) a a
  | [], j, w, xs, h, _ => by rw [layL_nil]; exact ⟨h, ⟨World.grownBy.refl _ _, .inl rfl⟩⟩
  | v :: vs, j, w, xs, h, hj => by
    simp only [List.length_cons] at hj
    obtain ⟨h1, s1⟩ := Own.set h ha j v
    obtain ⟨h2, s2⟩ := Own.sets ha vs (j + 1) (w.setCell ⟨bk a, fo a + j, none⟩ v) (xs.set j v) h1 (by simp; omega)
    rw [layL_cons _ _ _ _ (by omega)]
    refine ⟨h2, ⟨grownBy_trans s1.grown s2.grown, .inl rfl⟩⟩
theorem zeroCells_toList (z : Value) (n : Nat) : (Builtin.zeroCells z.cells n).toList.length = n * z.cells.size := by simp [Builtin.zeroCells]
/-- clear of a row's end -/
theorem run_clear_end {P : Program} {w : World} {t e : TypeId} {z : Value} {size bytes : Nat} (T : ElT P t e z size bytes) (hv : ∀ w, (zeroValue e).run P w = .ok z w) (h1c : ∀ u ∈ z.cells.toList, u.oneCell' = true)
    {B n c : Nat} {a : Option Addr} {xs : List Value} (h : Own w B e size a n c xs) (k : Nat) (hk : k < n) :
    ∃ w', (∀ ty, (Builtin.clear_ #[t] ty #[.slice (cutA a (c = k) (k * size)) (n - k) (c - k)]).run P w = .ok (.tuple #[]) w') ∧ Own w' B e size a n c (layL xs (k * size) (Builtin.zeroCells z.cells (n - k)).toList) ∧ Step w w' a a := by
  have hcap := h.cap
  have ha := Own.some h (by omega)
  have hne : xs ≠ [] := by
    intro e0
    have hp : 0 < n * size := Nat.mul_pos (by omega) T.pos
    rw [e0] at hcap; simp at hcap; omega
  have hhd := h.row.head hne
  have hck : ¬ c = k := by omega
  have hcut : cutA a (c = k) (k * size) = some ⟨bk a, fo a + k * size, none⟩ := by
    unfold cutA; rw [if_neg hck]
    conv => lhs; rw [hhd]
    by_cases h0 : k * size = 0
    · simp [h0, Addr.add]
    · simp [h0, Addr.add]
  rw [hcut]
  have hzl := zeroCells_toList z (n - k)
  rw [T.zs] at hzl
  have hlen : k * size + (n - k) * size = xs.length := by rw [hcap.2.2, ← Nat.add_mul]; congr 1; omega
  obtain ⟨h2, s2⟩ := Own.sets ha (Builtin.zeroCells z.cells (n - k)).toList (k * size) w xs h (by rw [hzl]; omega)
  refine ⟨_, fun ty => ?_, h2, s2⟩
  have hst := run_storeCells_cells (P := P) (bk a) (fo a + k * size) (Builtin.zeroCells z.cells (n - k)).toList 0 w
    (by
      intro j hj
      rw [hzl] at hj
      have hjl : k * size + j < xs.length := by omega
      have := h.row.cell (k * size + j) hjl
      rw [Nat.add_zero, Nat.add_assoc, this, List.getElem?_eq_getElem hjl]; rfl)
    (by intro j hj; rw [Nat.add_zero, Nat.add_assoc]; exact Own.frozen h ha _)
    (by
      intro v hv'
      simp [Builtin.zeroCells] at hv'
      obtain ⟨i, hi, rfl⟩ := hv'
      have hzs := T.zs
      have hpos := T.pos
      have hm : i % z.cells.size < z.cells.size := Nat.mod_lt _ (by omega)
      rw [getElem!_pos z.cells _ hm]
      exact h1c _ (by simp))
  obtain ⟨m, hm⟩ : ∃ m, n - k = m + 1 := ⟨n - k - 1, by omega⟩
  rw [hm] at hst ⊢
  simp only [Nat.add_zero] at hst
  simp [Builtin.clear_, run_underlying T.und, hv, hst]
end Go.Proofs.YthaibjefnclkjaaGreatDoor
namespace Go.Proofs.YthaibjefnclkjaaGreatDoor
open Go.RowKit
set_option linter.unusedVariables false
set_option linter.unusedSectionVars false

section
variable {α : Type} {enc : α → List Value} {m : Nat} (hm : ∀ x, (enc x).length = m)
include hm
theorem flat_lay (l : List α) (k : Nat) (e : α) (h : k < l.length) : layL (flat enc l) (k * m) (enc e) = flat enc (l.set k e) := by
  have h1 : l.set k e = l.take k ++ e :: l.drop (k + 1) := by rw [List.set_eq_take_append_cons_drop, if_pos h]
  rw [h1, flat_app, flat_cons, ← flat_take hm, ← flat_drop hm]
  unfold layL
  rw [List.append_assoc, hm, show (k + 1) * m = k * m + m from Nat.succ_mul k m]
theorem Own.storeE {w : World} {B E n c : Nat} {a : Option Addr} {l : List α} (h : Own w B E m a n c (flat enc l)) (hpos : 0 < m) (k : Nat) (hk : k < l.length) (e : α) :
    Own (w.setCells (bk a) (fo a + k * m) (enc e)) B E m a n c (flat enc (l.set k e)) ∧ Step w (w.setCells (bk a) (fo a + k * m) (enc e)) a a := by
  have h1 := h.cap.2.2
  rw [flat_length hm] at h1
  have hn : n = l.length := Nat.eq_of_mul_eq_mul_right hpos h1.symm
  have hle : k * m + m ≤ l.length * m := by rw [← Nat.succ_mul]; exact Nat.mul_le_mul_right _ hk
  have := Own.sets (Own.some h (by omega)) (enc e) (k * m) w (flat enc l) h (by rw [flat_length hm, hm]; exact hle)
  rwa [flat_lay hm l k e hk] at this
theorem Own.frontE {w : World} {B E n c k : Nat} {a : Option Addr} {L : List α} {vs : List Value} (h : Own w B E m a n c (layL (flat enc L) (k * m) vs)) (hn : n = L.length) (hk : k ≤ n) : Own w B E m a k c (flat enc (L.take k)) := by
  unfold layL at h
  rw [List.append_assoc, flat_take hm] at h
  obtain ⟨m', rfl⟩ : ∃ m', n = k + m' := ⟨n - k, by omega⟩
  exact Own.front h (by rw [flat_length hm, List.length_take]; congr 1; omega)
end
end Go.Proofs.YthaibjefnclkjaaGreatDoor
namespace Go.Proofs.YthaibjefnclkjaaGreatDoor
open Go.RowKit
set_option linter.unusedVariables false

theorem letterX_nat (c : UInt8) : letterC c = ((decide (97 ≤ c.toNat) && decide (c.toNat ≤ 122)) || (decide (65 ≤ c.toNat) && decide (c.toNat ≤ 90))) := by
  unfold letterC; simp only [UInt8.le_iff_toNat_le]; rfl
theorem digitX_nat (c : UInt8) : digitC c = (decide (48 ≤ c.toNat) && decide (c.toNat ≤ 57)) := by
  unfold digitC; simp only [UInt8.le_iff_toNat_le]; rfl
theorem nameX_nat (c : UInt8) : nameC c = (letterC c || digitC c || decide (c.toNat = 95)) := by
  unfold nameC; congr 1
  rw [Bool.eq_iff_iff]; simp only [beq_iff_eq, decide_eq_true_eq]
  exact ⟨fun h => by rw [h]; rfl, fun h => UInt8.toNat_inj.1 h⟩

theorem condLetter (c : UInt8) (w : World) : Calls Tryz.prog 202 #[.int .u8 c.toNat] w fun e w' => e = .returned (.bool (letterC c)) ∧ w = w' := by
  have hlt : c.toNat < 256 := c.toNat_lt
  rw [letterX_nat]
  generalize c.toNat = n at *
  have hp : n < 65 ∨ (65 ≤ n ∧ n ≤ 90) ∨ (91 ≤ n ∧ n ≤ 96) ∨ (97 ≤ n ∧ n ≤ 122) ∨ 123 ≤ n := by omega
  rcases hp with h | ⟨h, h'⟩ | ⟨h, h'⟩ | ⟨h, h'⟩ | h
  all_goals
    go_enter Tryz.func202, Tryz.ntmps202
    go_wp2
    go_ret
    exact ⟨ret_bool (by first | (rw [Bool.eq_iff_iff]; simp <;> omega) | (simp <;> omega)), rfl⟩
theorem condDigit (c : UInt8) (w : World) : Calls Tryz.prog 203 #[.int .u8 c.toNat] w fun e w' => e = .returned (.bool (digitC c)) ∧ w = w' := by
  have hlt : c.toNat < 256 := c.toNat_lt
  rw [digitX_nat]
  generalize c.toNat = n at *
  have hp : n < 48 ∨ (48 ≤ n ∧ n ≤ 57) ∨ 58 ≤ n := by omega
  rcases hp with h | ⟨h, h'⟩ | h
  all_goals
    go_enter Tryz.func203, Tryz.ntmps203
    go_wp2
    go_ret
    exact ⟨ret_bool (by first | (rw [Bool.eq_iff_iff]; simp <;> omega) | (simp <;> omega)), rfl⟩
theorem r09Letter (c : UInt8) (w : World) : Calls Tryz.prog 132 #[.int .u8 c.toNat] w fun e w' => e = .returned (.bool (letterC c)) ∧ w = w' := by
  have hlt : c.toNat < 256 := c.toNat_lt
  rw [letterX_nat]
  generalize c.toNat = n at *
  have hp : n < 65 ∨ (65 ≤ n ∧ n ≤ 90) ∨ (91 ≤ n ∧ n ≤ 96) ∨ (97 ≤ n ∧ n ≤ 122) ∨ 123 ≤ n := by omega
  rcases hp with h | ⟨h, h'⟩ | ⟨h, h'⟩ | ⟨h, h'⟩ | h
  all_goals
    go_enter Tryz.func132, Tryz.ntmps132
    go_wp2
    go_ret
    exact ⟨ret_bool (by first | (rw [Bool.eq_iff_iff]; simp <;> omega) | (simp <;> omega)), rfl⟩
theorem r09Digit (c : UInt8) (w : World) : Calls Tryz.prog 133 #[.int .u8 c.toNat] w fun e w' => e = .returned (.bool (digitC c)) ∧ w = w' := by
  have hlt : c.toNat < 256 := c.toNat_lt
  rw [digitX_nat]
  generalize c.toNat = n at *
  have hp : n < 48 ∨ (48 ≤ n ∧ n ≤ 57) ∨ 58 ≤ n := by omega
  rcases hp with h | ⟨h, h'⟩ | h
  all_goals
    go_enter Tryz.func133, Tryz.ntmps133
    go_wp2
    go_ret
    exact ⟨ret_bool (by first | (rw [Bool.eq_iff_iff]; simp <;> omega) | (simp <;> omega)), rfl⟩
set_option maxHeartbeats 800000 in
theorem condNamed (l : Tx) (hl : l.length ≤ 9223372036854775807) (w : World) : Calls Tryz.prog 191 #[.string (tx l)] w fun e w' => e = .returned (.bool (nameB l)) ∧ w = w' := by
  have hs := tx_size l
  cases l with
  | nil =>
    have hs : (tx []).size = 0 := rfl
    go_enter Tryz.func191, Tryz.ntmps191
    go_wp2_with fail
    go_ret
    exact ⟨rfl, rfl⟩
  | cons c r =>
    obtain ⟨n, hn⟩ : ∃ n, (tx (c :: r)).size = n := ⟨_, rfl⟩
    have hn1 : 1 ≤ n := by rw [← hn, hs]; simp
    have hnr : n = r.length + 1 := by rw [← hn, hs]; simp
    have hz : ((n : Int) == 0) = false := by simp; omega
    clear hs hl
    by_cases h32 : n ≤ 32
    · have i0 := run_ixz (c :: r) c rfl
      by_cases hc : letterC c = true
      · have HC := hid hc
        have HR := hid hnr
        clear hc hnr
        go_enter Tryz.func191, Tryz.ntmps191
        go_wp2_with (go_at_call 202; refine (condLetter c _).mono ?_; rintro e w' ⟨rfl, rfl⟩; rw [HC.out])
        go_loop [21] (fun i => ∃ k : Nat, k ≤ n ∧ i = .int .i64 k ∧ Hid (∀ (i : Nat) (x : UInt8), i < k → (c :: r)[i]? = some x → nameC x = true)) (fun i => n - (intOf i).toNat)
        case atStart => exact ⟨0, by omega, rfl, fun i x hi => absurd hi (Nat.not_lt_zero i)⟩
        case round =>
          obtain ⟨k, hk, rfl, HM⟩ := hrel
          by_cases hlt : k < n
          · obtain ⟨x, hx⟩ : ∃ x, (c :: r)[k]? = some x := ⟨_, List.getElem?_eq_getElem (by have := HR.out; simp; omega)⟩
            have ix := run_ix (c :: r) k x hx
            have HX := hid hx
            clear hx
            have HM2 : nameC x = true → Hid (∀ (i : Nat) (y : UInt8), i < k + 1 → (c :: r)[i]? = some y → nameC y = true) := fun hx' i y hi hy => by
              rcases Nat.lt_succ_iff_lt_or_eq.1 hi with h | h
              · exact HM.out i y h hy
              · subst h; rw [HX.out] at hy; cases hy; exact hx'
            have HM2 := hid HM2
            by_cases h1 : letterC x = true
            · have H1 := hid h1
              have HN := hid (HM2.out (by unfold nameC; rw [h1]; rfl))
              clear h1
              go_wp2_with (go_at_call 202; refine (condLetter x _).mono ?_; rintro e w' ⟨rfl, rfl⟩; rw [H1.out])
              go_round
              case rel => exact ⟨k + 1, by omega, by go_num, HN.out⟩
              case measure => simp [intOf]; omega
            · have H1 := hid (Bool.eq_false_iff.2 h1)
              clear h1
              by_cases h2 : digitC x = true
              · have H2 := hid h2
                have HN := hid (HM2.out (by unfold nameC; rw [h2]; simp))
                clear h2
                go_wp2_with (first | (go_at_call 202; refine (condLetter x _).mono ?_; rintro e w' ⟨rfl, rfl⟩; rw [H1.out]) | (go_at_call 203; refine (condDigit x _).mono ?_; rintro e w' ⟨rfl, rfl⟩; rw [H2.out]))
                go_round
                case rel => exact ⟨k + 1, by omega, by go_num, HN.out⟩
                case measure => simp [intOf]; omega
              · have H2 := hid (Bool.eq_false_iff.2 h2)
                clear h2
                by_cases h3 : x = 95
                · subst h3
                  have HN := hid (HM2.out (by decide))
                  have z3 : (((95 : UInt8).toNat : Int) != 95) = false := by decide
                  go_wp2_with (first | (go_at_call 202; refine (condLetter 95 _).mono ?_; rintro e w' ⟨rfl, rfl⟩; rw [H1.out]) | (go_at_call 203; refine (condDigit 95 _).mono ?_; rintro e w' ⟨rfl, rfl⟩; rw [H2.out]))
                  go_round
                  case rel => exact ⟨k + 1, by omega, by go_num, HN.out⟩
                  case measure => simp [intOf]; omega
                · have z3 : ((x.toNat : Int) != 95) = true := u8_ne x 95 h3
                  have HF := hid (nameB_step HX.out (by unfold nameC; rw [H1.out, H2.out]; simpa using h3))
                  clear h3
                  go_wp2_with (first | (go_at_call 202; refine (condLetter x _).mono ?_; rintro e w' ⟨rfl, rfl⟩; rw [H1.out]) | (go_at_call 203; refine (condDigit x _).mono ?_; rintro e w' ⟨rfl, rfl⟩; rw [H2.out]))
                  go_ret
                  exact ⟨ret_bool HF.out.symm, rfl⟩
          · have HF := hid (nameB_done (c := c) (r := r) (by have := HR.out; omega) HC.out (fun i x hi => HM.out i x (by
              have h1 := (List.getElem?_eq_some_iff.1 hi).1
              have := HR.out
              simp at h1; omega) hi))
            go_wp2_with fail
            go_ret
            exact ⟨ret_bool HF.out.symm, rfl⟩
      · have HC := hid (Bool.eq_false_iff.2 hc)
        have HF := hid (show nameB (c :: r) = false by rw [nameB_cons, HC.out]; simp)
        clear hc hnr
        go_enter Tryz.func191, Tryz.ntmps191
        go_wp2_with (go_at_call 202; refine (condLetter c _).mono ?_; rintro e w' ⟨rfl, rfl⟩; rw [HC.out])
        go_ret
        exact ⟨ret_bool HF.out.symm, rfl⟩
    · have HF := hid (show nameB (c :: r) = false by rw [nameB_cons, decide_eq_false (by omega)]; simp)
      clear hnr
      go_enter Tryz.func191, Tryz.ntmps191
      go_wp2_with fail
      go_ret
      exact ⟨ret_bool HF.out.symm, rfl⟩
set_option maxHeartbeats 800000 in
theorem r09Named (l : Tx) (hl : l.length ≤ 9223372036854775807) (w : World) : Calls Tryz.prog 99 #[.string (tx l)] w fun e w' => e = .returned (.bool (nameB l)) ∧ w = w' := by
  have hs := tx_size l
  cases l with
  | nil =>
    have hs : (tx []).size = 0 := rfl
    go_enter Tryz.func99, Tryz.ntmps99
    go_wp2_with fail
    go_ret
    exact ⟨rfl, rfl⟩
  | cons c r =>
    obtain ⟨n, hn⟩ : ∃ n, (tx (c :: r)).size = n := ⟨_, rfl⟩
    have hn1 : 1 ≤ n := by rw [← hn, hs]; simp
    have hnr : n = r.length + 1 := by rw [← hn, hs]; simp
    have hz : ((n : Int) == 0) = false := by simp; omega
    clear hs hl
    by_cases h32 : n ≤ 32
    · have i0 := run_ixz (c :: r) c rfl
      by_cases hc : letterC c = true
      · have HC := hid hc
        have HR := hid hnr
        clear hc hnr
        go_enter Tryz.func99, Tryz.ntmps99
        go_wp2_with (go_at_call 132; refine (r09Letter c _).mono ?_; rintro e w' ⟨rfl, rfl⟩; rw [HC.out])
        go_loop [3] (fun i => ∃ k : Nat, k ≤ n ∧ i = .int .i64 k ∧ Hid (∀ (i : Nat) (x : UInt8), i < k → (c :: r)[i]? = some x → nameC x = true)) (fun i => n - (intOf i).toNat)
        case atStart => exact ⟨0, by omega, rfl, fun i x hi => absurd hi (Nat.not_lt_zero i)⟩
        case round =>
          obtain ⟨k, hk, rfl, HM⟩ := hrel
          by_cases hlt : k < n
          · obtain ⟨x, hx⟩ : ∃ x, (c :: r)[k]? = some x := ⟨_, List.getElem?_eq_getElem (by have := HR.out; simp; omega)⟩
            have ix := run_ix (c :: r) k x hx
            have HX := hid hx
            clear hx
            have HM2 : nameC x = true → Hid (∀ (i : Nat) (y : UInt8), i < k + 1 → (c :: r)[i]? = some y → nameC y = true) := fun hx' i y hi hy => by
              rcases Nat.lt_succ_iff_lt_or_eq.1 hi with h | h
              · exact HM.out i y h hy
              · subst h; rw [HX.out] at hy; cases hy; exact hx'
            have HM2 := hid HM2
            by_cases h1 : letterC x = true
            · have H1 := hid h1
              have HN := hid (HM2.out (by unfold nameC; rw [h1]; rfl))
              clear h1
              go_wp2_with (go_at_call 132; refine (r09Letter x _).mono ?_; rintro e w' ⟨rfl, rfl⟩; rw [H1.out])
              go_round
              case rel => exact ⟨k + 1, by omega, by go_num, HN.out⟩
              case measure => simp [intOf]; omega
            · have H1 := hid (Bool.eq_false_iff.2 h1)
              clear h1
              by_cases h2 : digitC x = true
              · have H2 := hid h2
                have HN := hid (HM2.out (by unfold nameC; rw [h2]; simp))
                clear h2
                go_wp2_with (first | (go_at_call 132; refine (r09Letter x _).mono ?_; rintro e w' ⟨rfl, rfl⟩; rw [H1.out]) | (go_at_call 133; refine (r09Digit x _).mono ?_; rintro e w' ⟨rfl, rfl⟩; rw [H2.out]))
                go_round
                case rel => exact ⟨k + 1, by omega, by go_num, HN.out⟩
                case measure => simp [intOf]; omega
              · have H2 := hid (Bool.eq_false_iff.2 h2)
                clear h2
                by_cases h3 : x = 95
                · subst h3
                  have HN := hid (HM2.out (by decide))
                  have z3 : (((95 : UInt8).toNat : Int) != 95) = false := by decide
                  go_wp2_with (first | (go_at_call 132; refine (r09Letter 95 _).mono ?_; rintro e w' ⟨rfl, rfl⟩; rw [H1.out]) | (go_at_call 133; refine (r09Digit 95 _).mono ?_; rintro e w' ⟨rfl, rfl⟩; rw [H2.out]))
                  go_round
                  case rel => exact ⟨k + 1, by omega, by go_num, HN.out⟩
                  case measure => simp [intOf]; omega
                · have z3 : ((x.toNat : Int) != 95) = true := u8_ne x 95 h3
                  have HF := hid (nameB_step HX.out (by unfold nameC; rw [H1.out, H2.out]; simpa using h3))
                  clear h3
                  go_wp2_with (first | (go_at_call 132; refine (r09Letter x _).mono ?_; rintro e w' ⟨rfl, rfl⟩; rw [H1.out]) | (go_at_call 133; refine (r09Digit x _).mono ?_; rintro e w' ⟨rfl, rfl⟩; rw [H2.out]))
                  go_ret
                  exact ⟨ret_bool HF.out.symm, rfl⟩
          · have HF := hid (nameB_done (c := c) (r := r) (by have := HR.out; omega) HC.out (fun i x hi => HM.out i x (by
              have h1 := (List.getElem?_eq_some_iff.1 hi).1
              have := HR.out
              simp at h1; omega) hi))
            go_wp2_with fail
            go_ret
            exact ⟨ret_bool HF.out.symm, rfl⟩
      · have HC := hid (Bool.eq_false_iff.2 hc)
        have HF := hid (show nameB (c :: r) = false by rw [nameB_cons, HC.out]; simp)
        clear hc hnr
        go_enter Tryz.func99, Tryz.ntmps99
        go_wp2_with (go_at_call 132; refine (r09Letter c _).mono ?_; rintro e w' ⟨rfl, rfl⟩; rw [HC.out])
        go_ret
        exact ⟨ret_bool HF.out.symm, rfl⟩
    · have HF := hid (show nameB (c :: r) = false by rw [nameB_cons, decide_eq_false (by omega)]; simp)
      clear hnr
      go_enter Tryz.func99, Tryz.ntmps99
      go_wp2_with fail
      go_ret
      exact ⟨ret_bool HF.out.symm, rfl⟩
set_option maxHeartbeats 1600000 in
theorem intelNamed (l : Tx) (hl : l.length ≤ 9223372036854775807) (w : World) : Calls Tryz.prog 93 #[.string (tx l)] w fun e w' => e = .returned (.bool (nameB l)) ∧ w = w' := by
  have hs := tx_size l
  cases l with
  | nil =>
    have hs : (tx []).size = 0 := rfl
    go_enter Tryz.func93, Tryz.ntmps93
    go_wp2_with fail
    go_ret
    exact ⟨rfl, rfl⟩
  | cons c r =>
    obtain ⟨n, hn⟩ : ∃ n, (tx (c :: r)).size = n := ⟨_, rfl⟩
    have hn1 : 1 ≤ n := by rw [← hn, hs]; simp
    have hnr : n = r.length + 1 := by rw [← hn, hs]; simp
    clear hs hl
    by_cases h32 : n ≤ 32
    · have i0 := run_ixz (c :: r) c rfl
      have HR := hid hnr
      clear hnr
      go_enter Tryz.func93, Tryz.ntmps93
      go_wp2_with fail
      go_loop [3] (fun i => ∃ k : Nat, k ≤ n ∧ i = .int .i64 k ∧ Hid (∀ (i : Nat) (x : UInt8), i < k → (c :: r)[i]? = some x → nameC x = true) ∧ Hid (0 < k → letterC c = true)) (fun i => n - (intOf i).toNat)
      case atStart => exact ⟨0, by omega, rfl, fun i x hi => absurd hi (Nat.not_lt_zero i), fun h => absurd h (Nat.lt_irrefl 0)⟩
      case round =>
        obtain ⟨k, hk, rfl, HM, HK⟩ := hrel
        by_cases hlt : k < n
        · by_cases hk0 : k = 0
          · subst hk0
            have hlt' : c.toNat < 256 := c.toNat_lt
            obtain ⟨m, hm⟩ : ∃ m, c.toNat = m := ⟨_, rfl⟩
            have HC := hid (letterX_nat c)
            rw [hm] at i0 hlt' HC
            have HY := hid (show letterC c = true → Hid (∀ (i : Nat) (x : UInt8), i < 1 → (c :: r)[i]? = some x → nameC x = true) from fun h i x hi hx => by
              obtain rfl : i = 0 := by omega
              cases hx; unfold nameC; rw [h]; rfl)
            have HF := hid (show letterC c = false → nameB (c :: r) = false from fun h => by rw [nameB_cons, h]; simp)
            have hlt0 : 0 < n := by omega
            clear hm HM HK hk hlt
            have hp : m < 65 ∨ (65 ≤ m ∧ m ≤ 90) ∨ (91 ≤ m ∧ m ≤ 96) ∨ (97 ≤ m ∧ m ≤ 122) ∨ 123 ≤ m := by omega
            rcases hp with h | ⟨h, h'⟩ | ⟨h, h'⟩ | ⟨h, h'⟩ | h
            all_goals
              (try (have z122 : (!decide ((m : Int) ≤ 122)) = true := by simp; omega))
              (try (have z90 : (!decide ((m : Int) ≤ 90)) = true := by simp; omega))
              go_wp2_with fail
              first
              | (go_round
                 case rel => exact ⟨1, by omega, by go_num, HY.out (by rw [HC.out]; simp <;> omega), hid fun _ => by rw [HC.out]; simp <;> omega⟩
                 case measure => simp [intOf]; omega)
              | (go_ret
                 exact ⟨ret_bool (HF.out (by rw [HC.out]; simp <;> omega)).symm, rfl⟩)
          · have hk1 : 0 < k := by omega
            obtain ⟨x, hx⟩ : ∃ x, (c :: r)[k]? = some x := ⟨_, List.getElem?_eq_getElem (by have := HR.out; simp; omega)⟩
            have ix := run_ix (c :: r) k x hx
            have hlt' : x.toNat < 256 := x.toNat_lt
            obtain ⟨m, hm⟩ : ∃ m, x.toNat = m := ⟨_, rfl⟩
            have HC := hid (show nameC x = (((decide (97 ≤ m) && decide (m ≤ 122)) || (decide (65 ≤ m) && decide (m ≤ 90))) || (decide (48 ≤ m) && decide (m ≤ 57)) || decide (m = 95)) by rw [nameX_nat, letterX_nat, digitX_nat, hm])
            rw [hm] at ix hlt'
            have HF := hid (fun h => nameB_step (l := c :: r) (k := k) (c := x) hx h)
            have HM2 : nameC x = true → Hid (∀ (i : Nat) (y : UInt8), i < k + 1 → (c :: r)[i]? = some y → nameC y = true) := fun hx' i y hi hy => by
              rcases Nat.lt_succ_iff_lt_or_eq.1 hi with h | h
              · exact HM.out i y h hy
              · subst h; rw [hx] at hy; cases hy; exact hx'
            have HM2 := hid HM2
            have HL := hid (HK.out hk1)
            clear hm hx HM HK hk0 i0
            have hp : m < 48 ∨ (48 ≤ m ∧ m ≤ 57) ∨ (58 ≤ m ∧ m ≤ 64) ∨ (65 ≤ m ∧ m ≤ 90) ∨ (91 ≤ m ∧ m ≤ 94) ∨ m = 95 ∨ m = 96 ∨ (97 ≤ m ∧ m ≤ 122) ∨ 123 ≤ m := by omega
            rcases hp with h | ⟨h, h'⟩ | ⟨h, h'⟩ | ⟨h, h'⟩ | ⟨h, h'⟩ | h | h | ⟨h, h'⟩ | h
            all_goals
              (try (have z122 : (!decide ((m : Int) ≤ 122)) = true := by simp; omega))
              (try (have z90 : (!decide ((m : Int) ≤ 90)) = true := by simp; omega))
              (try (have z57 : (!decide ((m : Int) ≤ 57)) = true := by simp; omega))
              (try (have z95 : ((m : Int) == 95) = false := by simp; omega))
              (try subst h)
              go_wp2_with fail
              first
              | (go_round
                 case rel => exact ⟨k + 1, by omega, by go_num, HM2.out (by rw [HC.out]; simp <;> omega), fun _ => HL.out⟩
                 case measure => simp [intOf]; omega)
              | (go_ret
                 exact ⟨ret_bool (HF.out (by rw [HC.out]; simp <;> omega)).symm, rfl⟩)
        · have HF := hid (nameB_done (c := c) (r := r) (by have := HR.out; omega) (HK.out (by omega)) (fun i x hi => HM.out i x (by
            have h1 := (List.getElem?_eq_some_iff.1 hi).1
            have := HR.out
            simp at h1; omega) hi))
          go_wp2_with fail
          go_ret
          exact ⟨ret_bool HF.out.symm, rfl⟩
    · have HF := hid (show nameB (c :: r) = false by rw [nameB_cons, decide_eq_false (by omega)]; simp)
      clear hnr
      go_enter Tryz.func93, Tryz.ntmps93
      go_wp2_with fail
      go_ret
      exact ⟨ret_bool HF.out.symm, rfl⟩
set_option maxHeartbeats 1600000 in
theorem fileNamed (l : Tx) (hl : l.length ≤ 9223372036854775807) (w : World) : Calls Tryz.prog 125 #[.string (tx l)] w fun e w' => e = .returned (.bool (nameB l)) ∧ w = w' := by
  have hs := tx_size l
  cases l with
  | nil =>
    have hs : (tx []).size = 0 := rfl
    go_enter Tryz.func125, Tryz.ntmps125
    go_wp2_with fail
    go_ret
    exact ⟨rfl, rfl⟩
  | cons c r =>
    obtain ⟨n, hn⟩ : ∃ n, (tx (c :: r)).size = n := ⟨_, rfl⟩
    have hn1 : 1 ≤ n := by rw [← hn, hs]; simp
    have hnr : n = r.length + 1 := by rw [← hn, hs]; simp
    clear hs hl
    by_cases h32 : n ≤ 32
    · have i0 := run_ixz (c :: r) c rfl
      have HR := hid hnr
      clear hnr
      go_enter Tryz.func125, Tryz.ntmps125
      go_wp2_with fail
      go_loop [3] (fun i => ∃ k : Nat, k ≤ n ∧ i = .int .i64 k ∧ Hid (∀ (i : Nat) (x : UInt8), i < k → (c :: r)[i]? = some x → nameC x = true) ∧ Hid (0 < k → letterC c = true)) (fun i => n - (intOf i).toNat)
      case atStart => exact ⟨0, by omega, rfl, fun i x hi => absurd hi (Nat.not_lt_zero i), fun h => absurd h (Nat.lt_irrefl 0)⟩
      case round =>
        obtain ⟨k, hk, rfl, HM, HK⟩ := hrel
        by_cases hlt : k < n
        · by_cases hk0 : k = 0
          · subst hk0
            have hlt' : c.toNat < 256 := c.toNat_lt
            obtain ⟨m, hm⟩ : ∃ m, c.toNat = m := ⟨_, rfl⟩
            have HC := hid (letterX_nat c)
            rw [hm] at i0 hlt' HC
            have HY := hid (show letterC c = true → Hid (∀ (i : Nat) (x : UInt8), i < 1 → (c :: r)[i]? = some x → nameC x = true) from fun h i x hi hx => by
              obtain rfl : i = 0 := by omega
              cases hx; unfold nameC; rw [h]; rfl)
            have HF := hid (show letterC c = false → nameB (c :: r) = false from fun h => by rw [nameB_cons, h]; simp)
            have hlt0 : 0 < n := by omega
            clear hm HM HK hk hlt
            have hp : m < 65 ∨ (65 ≤ m ∧ m ≤ 90) ∨ (91 ≤ m ∧ m ≤ 96) ∨ (97 ≤ m ∧ m ≤ 122) ∨ 123 ≤ m := by omega
            rcases hp with h | ⟨h, h'⟩ | ⟨h, h'⟩ | ⟨h, h'⟩ | h
            all_goals
              (try (have z122 : (!decide ((m : Int) ≤ 122)) = true := by simp; omega))
              (try (have z90 : (!decide ((m : Int) ≤ 90)) = true := by simp; omega))
              go_wp2_with fail
              first
              | (go_round
                 case rel => exact ⟨1, by omega, by go_num, HY.out (by rw [HC.out]; simp <;> omega), hid fun _ => by rw [HC.out]; simp <;> omega⟩
                 case measure => simp [intOf]; omega)
              | (go_ret
                 exact ⟨ret_bool (HF.out (by rw [HC.out]; simp <;> omega)).symm, rfl⟩)
          · have hk1 : 0 < k := by omega
            obtain ⟨x, hx⟩ : ∃ x, (c :: r)[k]? = some x := ⟨_, List.getElem?_eq_getElem (by have := HR.out; simp; omega)⟩
            have ix := run_ix (c :: r) k x hx
            have hlt' : x.toNat < 256 := x.toNat_lt
            obtain ⟨m, hm⟩ : ∃ m, x.toNat = m := ⟨_, rfl⟩
            have HC := hid (show nameC x = (((decide (97 ≤ m) && decide (m ≤ 122)) || (decide (65 ≤ m) && decide (m ≤ 90))) || (decide (48 ≤ m) && decide (m ≤ 57)) || decide (m = 95)) by rw [nameX_nat, letterX_nat, digitX_nat, hm])
            rw [hm] at ix hlt'
            have HF := hid (fun h => nameB_step (l := c :: r) (k := k) (c := x) hx h)
            have HM2 : nameC x = true → Hid (∀ (i : Nat) (y : UInt8), i < k + 1 → (c :: r)[i]? = some y → nameC y = true) := fun hx' i y hi hy => by
              rcases Nat.lt_succ_iff_lt_or_eq.1 hi with h | h
              · exact HM.out i y h hy
              · subst h; rw [hx] at hy; cases hy; exact hx'
            have HM2 := hid HM2
            have HL := hid (HK.out hk1)
            clear hm hx HM HK hk0 i0
            have hp : m < 48 ∨ (48 ≤ m ∧ m ≤ 57) ∨ (58 ≤ m ∧ m ≤ 64) ∨ (65 ≤ m ∧ m ≤ 90) ∨ (91 ≤ m ∧ m ≤ 94) ∨ m = 95 ∨ m = 96 ∨ (97 ≤ m ∧ m ≤ 122) ∨ 123 ≤ m := by omega
            rcases hp with h | ⟨h, h'⟩ | ⟨h, h'⟩ | ⟨h, h'⟩ | ⟨h, h'⟩ | h | h | ⟨h, h'⟩ | h
            all_goals
              (try (have z122 : (!decide ((m : Int) ≤ 122)) = true := by simp; omega))
              (try (have z90 : (!decide ((m : Int) ≤ 90)) = true := by simp; omega))
              (try (have z57 : (!decide ((m : Int) ≤ 57)) = true := by simp; omega))
              (try (have z95 : ((m : Int) == 95) = false := by simp; omega))
              (try subst h)
              go_wp2_with fail
              first
              | (go_round
                 case rel => exact ⟨k + 1, by omega, by go_num, HM2.out (by rw [HC.out]; simp <;> omega), fun _ => HL.out⟩
                 case measure => simp [intOf]; omega)
              | (go_ret
                 exact ⟨ret_bool (HF.out (by rw [HC.out]; simp <;> omega)).symm, rfl⟩)
        · have HF := hid (nameB_done (c := c) (r := r) (by have := HR.out; omega) (HK.out (by omega)) (fun i x hi => HM.out i x (by
            have h1 := (List.getElem?_eq_some_iff.1 hi).1
            have := HR.out
            simp at h1; omega) hi))
          go_wp2_with fail
          go_ret
          exact ⟨ret_bool HF.out.symm, rfl⟩
    · have HF := hid (show nameB (c :: r) = false by rw [nameB_cons, decide_eq_false (by omega)]; simp)
      clear hnr
      go_enter Tryz.func125, Tryz.ntmps125
      go_wp2_with fail
      go_ret
      exact ⟨ret_bool HF.out.symm, rfl⟩
theorem intelNumber (n : Int) (w : World) : Calls Tryz.prog 94 #[.int .i64 n] w fun e w' => e = .returned (.bool (n32B n)) ∧ w = w' := by
  have hp : n < -2147483648 ∨ (-2147483648 ≤ n ∧ n ≤ 2147483647) ∨ 2147483647 < n := by omega
  rcases hp with h | ⟨h, h'⟩ | h
  all_goals
    go_enter Tryz.func94, Tryz.ntmps94
    go_wp2
    go_ret
    exact ⟨ret_bool (by unfold n32B; rw [Bool.eq_iff_iff]; simp <;> omega), rfl⟩
theorem fileNumber (n : Int) (w : World) : Calls Tryz.prog 126 #[.int .i64 n] w fun e w' => e = .returned (.bool (n32B n)) ∧ w = w' := by
  have hp : n < -2147483648 ∨ (-2147483648 ≤ n ∧ n ≤ 2147483647) ∨ 2147483647 < n := by omega
  rcases hp with h | ⟨h, h'⟩ | h
  all_goals
    go_enter Tryz.func126, Tryz.ntmps126
    go_wp2
    go_ret
    exact ⟨ret_bool (by unfold n32B; rw [Bool.eq_iff_iff]; simp <;> omega), rfl⟩
theorem condNumber (n : Int) (w : World) : Calls Tryz.prog 163 #[.int .i64 n] w fun e w' => e = .returned (.bool (n32B n)) ∧ w = w' := by
  have hp : n < -2147483648 ∨ (-2147483648 ≤ n ∧ n ≤ 2147483647) ∨ 2147483647 < n := by omega
  rcases hp with h | ⟨h, h'⟩ | h
  all_goals
    go_enter Tryz.func163, Tryz.ntmps163
    go_wp2
    go_ret
    exact ⟨ret_bool (by unfold n32B; rw [Bool.eq_iff_iff]; simp <;> omega), rfl⟩
theorem r09Number (n : Int) (w : World) : Calls Tryz.prog 100 #[.int .i64 n] w fun e w' => e = .returned (.bool (n32B n)) ∧ w = w' := by
  have hp : n < -2147483648 ∨ (-2147483648 ≤ n ∧ n ≤ 2147483647) ∨ 2147483647 < n := by omega
  rcases hp with h | ⟨h, h'⟩ | h
  all_goals
    go_enter Tryz.func100, Tryz.ntmps100
    go_wp2
    go_ret
    exact ⟨ret_bool (by unfold n32B; rw [Bool.eq_iff_iff]; simp <;> omega), rfl⟩
theorem intelReg0 (n : Int) (w : World) : Calls Tryz.prog 95 #[.int .i64 n] w fun e w' => e = .returned (.bool (regXB n)) ∧ w = w' := by
  have hp : n < 0 ∨ (0 ≤ n ∧ n < 15) ∨ 15 ≤ n := by omega
  rcases hp with h | ⟨h, h'⟩ | h
  all_goals
    go_enter Tryz.func95, Tryz.ntmps95
    go_wp2
    go_ret
    exact ⟨ret_bool (by unfold regXB; rw [Bool.eq_iff_iff]; simp <;> omega), rfl⟩
theorem r09Reg0 (n : Int) (w : World) : Calls Tryz.prog 101 #[.int .i64 n] w fun e w' => e = .returned (.bool (regXB n)) ∧ w = w' := by
  have hp : n < 0 ∨ (0 ≤ n ∧ n < 15) ∨ 15 ≤ n := by omega
  rcases hp with h | ⟨h, h'⟩ | h
  all_goals
    go_enter Tryz.func101, Tryz.ntmps101
    go_wp2
    go_ret
    exact ⟨ret_bool (by unfold regXB; rw [Bool.eq_iff_iff]; simp <;> omega), rfl⟩
end Go.Proofs.YthaibjefnclkjaaGreatDoor

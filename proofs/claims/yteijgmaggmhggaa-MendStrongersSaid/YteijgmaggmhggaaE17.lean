/- The walks of IndexFunc and DeleteFunc over the program's closure 'not may'. Conditions: the edges lie in memory of the call's own. -/
import Derived.Test.YteijgmaggmhggaaE15
import Derived.Test.YteijgmaggmhggaaLibE3
namespace Go.Proofs.Yteijgmaggmhggaa
open Go.RowKit
set_option linter.unusedVariables false

attribute [local go_sem high] eqE neqE

set_option maxRecDepth 100000 in
set_option maxHeartbeats 1600000 in
theorem clos1 (e f : Edge) (b : Nat) (w : World) (hb : Bx w b e) : Calls Try.prog 35 #[vE f, .pointer (some ⟨b, 0, none⟩)] w (Ret w (.bool (!mayP e f))) := by
  obtain ⟨c0, c1, c2, c3, c4, c5⟩ := hb.cells
  have hlt := hb.1
  have B := al w (mkE f)
  go_enter Try.func35, Try.ntmps35
  go_wp2_with fail
  refine (progMay e f _).mono ?_
  rintro e' w7 ⟨rfl, E7⟩
  go_wp2_with fail
  go_ret
  exact ⟨rfl, B.trans (E7.mono B.size)⟩

/-- the first that may not stand there, if any -/
def Found (e : Edge) (l : List Edge) (w : World) (x : Ending) (w' : World) : Prop :=
  Below w.heap.size w w' ∧ ((x = .returned (.int .i64 (-1)) ∧ ∀ j (h : j < l.length), mayP e l[j] = true) ∨ ∃ k, ∃ h : k < l.length, x = .returned (.int .i64 (k : Int)) ∧ mayP e l[k] = false ∧ ∀ j (hj : j < l.length), j < k → mayP e l[j] = true)
set_option maxRecDepth 100000 in
set_option maxHeartbeats 1600000 in
theorem progIndex (e : Edge) (b : Nat) (l : List Edge) (a : Option Addr) (c : Nat) (w : World) (h : Es w a l) (hb : Bx w b e) :
    Calls Try.prog 53 #[.slice a l.length c, .func (.func 35) #[] #[.pointer (some ⟨b, 0, none⟩)]] w (Found e l w) := by
  have hl := h.len
  have B := Below.refl w.heap.size w
  go_enter Try.func53, Try.ntmps53
  go_wp2_with fail
  go_loopw [8] (fun i wr => ∃ k : Nat, k ≤ l.length ∧ i = .int .i64 k ∧ Hid (∀ j (hj : j < l.length), j < k → mayP e l[j] = true) ∧ Es wr a l ∧ Bx wr b e ∧ Below w.heap.size w wr) (fun i _ => l.length - (intOf i).toNat)
  case atStart => exact ⟨0, by omega, rfl, hid (fun j hj h' => absurd h' (Nat.not_lt_zero j)), h, hb, B⟩
  case round =>
    clear h hb B
    obtain ⟨k, hk, rfl, HK, h, hb, B⟩ := hrel
    by_cases hlt : k < l.length
    · obtain ⟨f, hf⟩ : ∃ f, l[k] = f := ⟨_, rfl⟩
      obtain ⟨p0, p1, p2, p3, p4, p5⟩ := h.cells k hlt f hf
      have ix := h.idx k hlt
      have HF := hid hf
      clear hf
      cases hm : mayP e f
      all_goals
        have HM := hid hm
        clear hm
        go_wp2_with fail
        refine (clos1 e f b _ hb).mono ?_
        rintro e' w7 ⟨rfl, E7⟩
        rw [HM.out]
        have h := h.below E7; have hb := hb.below E7; have B := B.trans (E7.mono B.size)
        clear p0 p1 p2 p3 p4 p5 ix
        go_wp2_with fail
      · go_ret
        exact ⟨B, .inr ⟨k, hlt, rfl, by rw [HF.out]; exact HM.out, HK.out⟩⟩
      · go_roundw
        case rel => exact ⟨k + 1, by omega, by go_num, hid (fun j hj hjk => by
          by_cases hh : j = k
          · subst hh; rw [HF.out]; exact HM.out
          · exact HK.out j hj (by omega)), h, hb, B⟩
        case measure => simp [intOf]; omega
    · go_wp2_with fail
      go_ret
      exact ⟨B, .inl ⟨rfl, fun j hj => HK.out j hj (by omega)⟩⟩

/-- so far: the first i are what stays of the first j -/
structure Sofar (e : Edge) (l L : List Edge) (i j : Nat) : Prop where
  len : L.length = l.length
  lt : i < j
  le : j ≤ l.length
  front : L.take i = (l.take j).filter (mayP e)
  back : L.drop j = l.drop j
theorem Sofar.get {e : Edge} {l L : List Edge} {i j : Nat} (h : Sofar e l L i j) (hj : j < l.length) : L[j]'(by rw [h.len]; exact hj) = l[j] := by
  have := congrArg (fun x => x[0]?) h.back
  simp only [List.getElem?_drop, Nat.add_zero] at this
  rw [List.getElem?_eq_getElem (by rw [h.len]; exact hj), List.getElem?_eq_getElem hj] at this
  exact Option.some.inj this
theorem take_snocE (l : List Edge) (j : Nat) (hj : j < l.length) : l.take (j + 1) = l.take j ++ [l[j]] := by
  rw [List.take_add_one, List.getElem?_eq_getElem hj]; rfl
theorem Sofar.skip {e : Edge} {l L : List Edge} {i j : Nat} (h : Sofar e l L i j) (hj : j < l.length) (hm : mayP e l[j] = false) : Sofar e l L i (j + 1) := by
  refine ⟨h.len, by have := h.lt; omega, hj, ?_, ?_⟩
  · rw [take_snocE l j hj, List.filter_append, h.front]; simp [hm]
  · rw [← List.drop_drop, h.back, List.drop_drop]
theorem Sofar.keep {e : Edge} {l L : List Edge} {i j : Nat} (h : Sofar e l L i j) (hj : j < l.length) (hm : mayP e l[j] = true) : Sofar e l (L.set i l[j]) (i + 1) (j + 1) := by
  have hlt := h.lt
  have hil : i < L.length := by rw [h.len]; omega
  refine ⟨by rw [List.length_set]; exact h.len, by omega, hj, ?_, ?_⟩
  · rw [take_snocE _ i (by rw [List.length_set]; exact hil), take_snocE l j hj, List.filter_append, List.take_set_of_le (Nat.le_refl i), h.front]; simp [hm]
  · rw [List.drop_set_of_lt (by omega), ← List.drop_drop, h.back, List.drop_drop]
theorem Sofar.start {e : Edge} {l : List Edge} {k : Nat} (hk : k < l.length) (hm : mayP e l[k] = false) (hz : ∀ j (hj : j < l.length), j < k → mayP e l[j] = true) : Sofar e l l k (k + 1) := by
  refine ⟨rfl, by omega, hk, ?_, rfl⟩
  rw [take_snocE l k hk, List.filter_append]
  have : (l.take k).filter (mayP e) = l.take k := by
    rw [List.filter_eq_self]
    intro x hx
    obtain ⟨i, hi, rfl⟩ := List.mem_iff_getElem.1 hx
    simp at hi
    rw [List.getElem_take]; exact hz i (by omega) (by omega)
  rw [this]; simp [hm]
end Go.Proofs.Yteijgmaggmhggaa

/- The walks of Links' closure, of IndexFunc and ContainsFunc over it (the program's). Conditions: the instructions lie in memory as read. -/
import Derived.Test.YtigimkgmghjgoaaGreatDoorLibI
namespace Go.Proofs.YtigimkgmghjgoaaGreatDoor
open Go.RowKit
set_option linter.unusedVariables false

attribute [local go_sem high] eqI neqI

/-- a label of this name -/
def isLab (nm : Tx) (j : Ins) : Bool := decide (j.op = 12) && decide (j.label = nm)
set_option maxRecDepth 100000 in
set_option maxHeartbeats 1600000 in
theorem clos1 (i j : Ins) (b : Nat) (w : World) (hb : BxI w b i) : Calls Tryz.prog 52 #[vI j, .pointer (some ⟨b, 0, none⟩)] w (Ret w (.bool (isLab i.label j))) := by
  obtain ⟨c0, c1, c2, c3, c4, c5, c6, c7⟩ := hb.cells
  have hlt := hb.1
  have B := al w (mkI j)
  by_cases h : j.op = 12
  · have z : (j.op == 12) = true := by simpa using h
    have e : isLab i.label j = (j.label == i.label) := by unfold isLab; rw [Bool.eq_iff_iff]; simp [h]
    have z2 : ((tx j.label).toList == (tx i.label).toList) = (j.label == i.label) := tx_beq _ _
    have HE := hid e
    generalize (j.label == i.label) = bb at *
    clear h e
    go_enter Tryz.func52, Tryz.ntmps52
    go_wp2_with fail
    go_ret
    exact ⟨ret_bool HE.out.symm, (by repeat (first | with_reducible assumption | with_reducible exact Below.refl _ _ | with_reducible refine bel_alloc ?_ _ | with_reducible refine bel_drew ?_ | with_reducible refine bel_set ?_ (by dsimp only; omega) _))⟩
  · have z : (j.op == 12) = false := by simpa using h
    have HE := hid (show isLab i.label j = false by unfold isLab; rw [decide_eq_false h]; rfl)
    clear h
    go_enter Tryz.func52, Tryz.ntmps52
    go_wp2_with fail
    go_ret
    exact ⟨ret_bool HE.out.symm, (by repeat (first | with_reducible assumption | with_reducible exact Below.refl _ _ | with_reducible refine bel_alloc ?_ _ | with_reducible refine bel_drew ?_ | with_reducible refine bel_set ?_ (by dsimp only; omega) _))⟩
/-- the first that is a label of this name, if any -/
def idxN (o : Option Nat) : Int := match o with
  | some n => n
  | none => -1
theorem findIdx_none {p : Ins → Bool} {l : List Ins} (h : ∀ j (hj : j < l.length), p l[j] = false) : l.findIdx? p = none := by
  rw [List.findIdx?_eq_none_iff]
  intro x hx
  obtain ⟨i, hi, rfl⟩ := List.mem_iff_getElem.1 hx
  exact h i hi
theorem findIdx_some {p : Ins → Bool} {l : List Ins} {k : Nat} (hk : k < l.length) (h1 : p l[k] = true) (h2 : ∀ j (hj : j < l.length), j < k → p l[j] = false) : l.findIdx? p = some k := by
  rw [List.findIdx?_eq_some_iff_getElem]
  exact ⟨hk, h1, fun j hj => by rw [h2 j (by omega) hj]; simp⟩
set_option maxRecDepth 100000 in
set_option maxHeartbeats 1600000 in
theorem progIndexFunc (i : Ins) (b : Nat) (l : List Ins) (a : Option Addr) (c : Nat) (w : World) (h : Is w a l) (hb : BxI w b i) :
    Calls Tryz.prog 79 #[.slice a l.length c, .func (.func 52) #[] #[.pointer (some ⟨b, 0, none⟩)]] w (Ret w (.int .i64 (idxN (l.findIdx? (isLab i.label))))) := by
  have hl := h.len
  have B := Below.refl w.heap.size w
  go_enter Tryz.func79, Tryz.ntmps79
  go_wp2_with fail
  go_loopw [8] (fun i' wr => ∃ k : Nat, k ≤ l.length ∧ i' = .int .i64 k ∧ Hid (∀ j (hj : j < l.length), j < k → isLab i.label l[j] = false) ∧ Is wr a l ∧ BxI wr b i ∧ Below w.heap.size w wr) (fun i' _ => l.length - (intOf i').toNat)
  case atStart => exact ⟨0, by omega, rfl, hid (fun j hj h' => absurd h' (Nat.not_lt_zero j)), h, hb, B⟩
  case round =>
    clear h hb B
    obtain ⟨k, hk, rfl, HK, h, hb, B⟩ := hrel
    by_cases hlt : k < l.length
    · obtain ⟨f, hf⟩ : ∃ f, l[k]? = some f := ⟨_, List.getElem?_eq_getElem hlt⟩
      have hfk : l[k] = f := Option.some.inj ((List.getElem?_eq_getElem hlt).symm.trans hf)
      obtain ⟨p0, p1, p2, p3, p4, p5, p6, p7⟩ := h.cells hf
      have ix := h.idx k hlt
      have HF := hid hfk
      clear hf hfk
      cases hm : isLab i.label f
      all_goals
        have HM := hid hm
        clear hm
        go_wp2_with fail
        refine (clos1 i f b _ hb).mono ?_
        rintro e' w7 ⟨rfl, E7⟩
        rw [HM.out]
        have h := h.below E7; have hb := hb.below E7; have B := B.trans (E7.mono B.size)
        clear p0 p1 p2 p3 p4 p5 p6 p7 ix
        go_wp2_with fail
      · go_roundw
        case rel => exact ⟨k + 1, by omega, by go_num, hid (fun j hj hjk => by
          by_cases hh : j = k
          · subst hh; rw [HF.out]; exact HM.out
          · exact HK.out j hj (by omega)), h, hb, B⟩
        case measure => simp [intOf]; omega
      · have HR := hid (findIdx_some hlt (by rw [HF.out]; exact HM.out) HK.out)
        go_ret
        exact ⟨ret_int (by rw [HR.out]; rfl), B⟩
    · have HR := hid (findIdx_none (fun j hj => HK.out j hj (by omega)))
      go_wp2_with fail
      go_ret
      exact ⟨ret_int (by rw [HR.out]; rfl), B⟩
theorem progContains (i : Ins) (b : Nat) (l : List Ins) (a : Option Addr) (c : Nat) (w : World) (h : Is w a l) (hb : BxI w b i) :
    Calls Tryz.prog 51 #[.slice a l.length c, .func (.func 52) #[] #[.pointer (some ⟨b, 0, none⟩)]] w (Ret w (.bool (l.findIdx? (isLab i.label)).isSome)) := by
  have C := hid (progIndexFunc i b l a c w h hb)
  generalize l.findIdx? (isLab i.label) = r at *
  generalize l.length = n at *
  clear h hb
  cases r with
  | none =>
    go_enter Tryz.func51, Tryz.ntmps51
    go_wp2_with fail
    refine C.out.mono ?_
    rintro e w1 ⟨rfl, E⟩
    have z : idxN none = -1 := rfl
    go_wp2_with fail
    go_ret
    exact ⟨rfl, E⟩
  | some k =>
    have z : idxN (some k) = (k : Int) := rfl
    have hk : (0 : Int) ≤ (k : Int) := by omega
    rw [z] at C
    clear z
    go_enter Tryz.func51, Tryz.ntmps51
    go_wp2_with fail
    refine C.out.mono ?_
    rintro e w1 ⟨rfl, E⟩
    go_wp2_with fail
    go_ret
    exact ⟨ret_bool (by simp), E⟩
end Go.Proofs.YtigimkgmghjgoaaGreatDoor

/- The walk of Stronger (the program's). Conditions: none but those that each theorem names. -/
import Derived.Test.YteijgmaggmhggaaE21
import Derived.Test.YteijgmaggmhggaaE24
import Derived.Test.YteijgmaggmhggaaR2
namespace Go.Proofs.Yteijgmaggmhggaa
open Go.RowKit
set_option linter.unusedVariables false

attribute [local go_sem high] eqE neqE

/-- why there are no edges that may stand in an edge's place -/
def strN (arch : Int) (e : Edge) : Int := if isArch arch then errA arch e else 1
theorem givenN_one (arch : Int) (e : Edge) : givenN arch [e] = strN arch e := by
  unfold givenN strN firstErr firstErr
  split
  · split
    · rfl
    · rename_i h; simp at h; exact h.symm
  · rfl
theorem Es.one (w : World) (e : Edge) (n : Nat) (hn : w.heap.size = n) : Es (w.alloc (mkE e)) (some ⟨n, 0, none⟩) [e] := by
  subst hn
  refine ⟨⟨fun _ => rfl, fun i hi => ?_⟩, by simp⟩
  rw [edges_one] at hi ⊢
  have hh := heap_alloc_new w (mkE e)
  simp only [World.cell?, bk_some, fo_some, hh]
  simp
def costsE (e : Edge) (l : List Edge) : List Int := l.map (costP e)
/-- the edges and what they cost, each in memory of its own -/
def RetStrong (w : World) (e : Edge) (L : List Edge) (x : Ending) (w' : World) : Prop :=
  ∃ a c a2 c2, x = .returned (.tuple #[.slice a L.length c, .slice a2 L.length c2, .int .i64 0]) ∧ OwnE w' w.heap.size a L.length c L ∧ OwnI w' w.heap.size a2 L.length c2 (costsE e L) ∧ Apart a a2 ∧ Below w.heap.size w w'
set_option maxRecDepth 100000 in
set_option maxHeartbeats 3200000 in
theorem progStronger_no (arch : Int) (e : Edge) (hn : strN arch e ≠ 0) (w : World) :
    Calls Try.prog 6 #[.int .i64 arch, vE e] w (Ret w (.tuple #[.slice none 0 0, .slice none 0 0, .int .i64 (strN arch e)])) := by
  have z : (strN arch e != 0) = true := by simpa using hn
  have E1 := al w (mkE e)
  have E2 := E1.alloc (by simp) (mkE e)
  have es := Es.one (w.alloc (mkE e)) e (w.heap.size + 1) (by simp)
  have hg := givenN_one arch e
  generalize strN arch e = n at *
  have HG := hid hg
  clear hg hn
  go_enter Try.func6, Try.ntmps6
  go_wp2_with fail
  refine (progGiven arch [e] _ 1 _ es).mono ?_
  rintro x w7 ⟨rfl, E7⟩
  rw [HG.out]
  go_wp2_with fail
  go_ret3
  exact ⟨rfl, E2.trans (E7.mono (by simp <;> omega))⟩
set_option maxRecDepth 100000 in
set_option maxHeartbeats 3200000 in
theorem progStronger_ok (arch : Int) (ha : isArch arch) (e : Edge) (hz : errA arch e = 0) (w : World) :
    Calls Try.prog 6 #[.int .i64 arch, vE e] w (RetStrong w e (strongE arch e)) := by
  have E1 := al w (mkE e)
  have E2 := E1.alloc (by simp) (mkE e)
  have b0 := (Bx.new w e 23).below (al (w.alloc (mkE e)) (mkE e))
  have es := Es.one (w.alloc (mkE e)) e (w.heap.size + 1) (by simp)
  have hg : givenN arch [e] = 0 := by rw [givenN_one]; unfold strN; rw [if_pos ha]; exact hz
  have hv := (errA_zero hz).1
  have hll := strongE_length ha hv
  have CS := hid (progStrong arch ha e hv)
  have HG := hid hg
  clear hg ha hz hv
  go_enter Try.func6, Try.ntmps6
  go_wp2_with fail
  refine (progGiven arch [e] _ 1 _ es).mono ?_
  rintro x w7 ⟨rfl, E7⟩
  rw [HG.out]
  have b7 := b0.below E7
  have B7 := E2.trans (E7.mono E2.size)
  obtain ⟨c0, c1, c2, c3, c4, c5⟩ := b7.cells
  clear es b0 E1 E2 E7
  go_wp2_with fail
  refine (CS.out _).mono ?_
  rintro x w8 ⟨a, c, rfl, o8, E8⟩
  have b8 := b7.below E8
  have B8 := B7.trans (E8.mono B7.size)
  have o8 : OwnE w8 w.heap.size a (strongE arch e).length c (strongE arch e) := Own.mono o8 B7.size
  clear b7 B7 E8 CS c0 c1 c2 c3 c4 c5
  generalize strongE arch e = L at *
  have i0 : OwnI w8 (w.heap.size + 1) none 0 0 (costsE e (L.take 0)) := Own.nil _ _ _ _
  have ap0 : Apart a none := .inr (.inl rfl)
  go_wp2_with fail
  go_loopw [9, 24] (fun s i wr => ∃ (k c2 : Nat) (a2 : Option Addr), k ≤ L.length ∧ i = .int .i64 k ∧ s = .slice a2 k c2 ∧ OwnI wr (w.heap.size + 1) a2 k c2 (costsE e (L.take k)) ∧ Apart a a2 ∧ OwnE wr w.heap.size a L.length c L ∧ Bx wr w.heap.size e ∧ Below w.heap.size w wr) (fun _ i _ => L.length - (intOf i).toNat)
  case atStart => exact ⟨0, 0, none, by omega, rfl, rfl, i0, ap0, o8, b8, B8⟩
  case round =>
    clear i0 ap0 o8 b8 B8
    obtain ⟨k, c2, a2, hk, rfl, rfl, oi, ap, o, b, B⟩ := hrel
    by_cases hlt : k < L.length
    · obtain ⟨f, hf⟩ : ∃ f, L[k] = f := ⟨_, rfl⟩
      have es := OwnE.es o (by omega : L.length ≤ 1000000000000000000)
      obtain ⟨p0, p1, p2, p3, p4, p5⟩ := es.cells k hlt f hf
      have ix := es.idx k hlt
      have hba := es.lt hlt
      obtain ⟨q0, q1, q2, q3, q4, q5⟩ := b.cells
      have hbw := b.1
      have HC := hid (show costsE e (L.take (k + 1)) = costsE e (L.take k) ++ [costP e f] by unfold costsE; rw [List.take_add_one, List.getElem?_eq_getElem hlt, hf, List.map_append]; rfl)
      clear hf es
      go_wp2_with fail
      refine (progCosts e f _).mono ?_
      rintro x w9 ⟨rfl, E9⟩
      have E := (al wr (mkE f)).trans (E9.mono (by simp))
      have oi : OwnI w9 (w.heap.size + 1) a2 k c2 (costsE e (L.take k)) := oi.below E
      have hbs : w.heap.size + 1 ≤ w9.heap.size := b.below E |>.1
      have o : OwnE w9 w.heap.size a L.length c L := o.below E
      have b := b.below E
      have B := B.trans (E.mono B.size)
      clear p0 p1 p2 p3 p4 p5 q0 q1 q2 q3 q4 q5 ix E9 E hba hbw
      go_wp2_with (at_builtin; go_loud (refine wpList_app1 isl (.tmp 28) (.tmp 32) rfl rfl rfl oi rfl rfl (by intro u hu; simp at hu; subst hu; rfl) (Below.refl (w.heap.size + 1) w9) hbs (by omega) (by unfold maxLen; omega) ?_))
      intro a3 c3 w10 o10 g10 B10
      obtain ⟨o11, ap11⟩ := Own.step o g10.step ap
      have b10 := b.belowB (Nat.lt_succ_self _) B10
      have B10 := B.trans (B10.mono (Nat.le_succ _))
      have oi10 : OwnI w10 (w.heap.size + 1) a3 (k + 1) c3 (costsE e (L.take (k + 1))) := by rw [HC.out]; simpa [OwnI, ints] using o10
      clear o10 g10 oi o b ap
      go_wp2_with fail
      go_roundw
      case rel => exact ⟨k + 1, c3, a3, by omega, by go_num, rfl, oi10, ap11, o11, b10, B10⟩
      case measure => simp [intOf]; omega
    · obtain rfl : k = L.length := by omega
      rw [List.take_length] at oi
      go_wp2_with fail
      go_ret3
      exact ⟨a, c, a2, c2, rfl, o, Own.mono oi (Nat.le_succ _), ap, B⟩
end Go.Proofs.Yteijgmaggmhggaa

/- The walk of DeleteFunc over the program's closure 'not may'. Conditions: the edges lie in memory of the call's own. -/
import Derived.Test.YteijgmaggmhggaaE17
namespace Go.Proofs.Yteijgmaggmhggaa
open Go.RowKit
set_option linter.unusedVariables false

attribute [local go_sem high] eqE neqE

theorem Sofar.done {e : Edge} {l L : List Edge} {i : Nat} (h : Sofar e l L i l.length) : L.take i = l.filter (mayP e) := by
  have := h.front; rwa [List.take_length] at this
/-- the call hands back what stays, in the same memory -/
def Stays (e : Edge) (l : List Edge) (B : Nat) (a : Option Addr) (c : Nat) (w : World) (x : Ending) (w' : World) : Prop :=
  x = .returned (.slice a (l.filter (mayP e)).length c) ∧ OwnE w' B a (l.filter (mayP e)).length c (l.filter (mayP e)) ∧ Below B w w'
set_option maxRecDepth 100000 in
set_option maxHeartbeats 3200000 in
theorem progDelete (e : Edge) (b : Nat) (l : List Edge) (B : Nat) (a : Option Addr) (c : Nat) (w : World) (o : OwnE w B a l.length c l) (hb : Bx w b e) (hbB : b < B) (hB : B ≤ w.heap.size) (hl : l.length ≤ 1000) :
    Calls Try.prog 34 #[.slice a l.length c, .func (.func 35) #[] #[.pointer (some ⟨b, 0, none⟩)]] w (Stays e l B a c w) := by
  have hc := o.cap.1
  go_enter Try.func34, Try.ntmps34
  go_wp2_with fail
  refine (progIndex e b l a c _ (o.es (by omega)) hb).mono ?_
  rintro x w7 ⟨E7, (⟨rfl, hz⟩ | ⟨k, hk, rfl, hm, hz⟩)⟩
  · have hf := hid (by
      rw [List.filter_eq_self]
      intro x hx
      obtain ⟨i, hi, rfl⟩ := List.mem_iff_getElem.1 hx
      exact hz i hi : l.filter (mayP e) = l)
    clear hz
    go_wp2_with fail
    go_ret
    unfold Stays
    rw [hf.out]
    exact ⟨rfl, o.below E7, E7.mono hB⟩
  · have S0 := hid (Sofar.start hk hm hz)
    have B0 : Below B w w7 := E7.mono hB
    have o7 := o.below E7
    have b7 := hb.below E7
    have z0 : ((k : Int) == -1) = false := beq_false_of_ne (by omega)
    clear hm hz o hb
    go_wp2_with fail
    go_loopw [5, 6] (fun s t wr => ∃ (i j : Nat) (L : List Edge), s = .int .i64 i ∧ t = .int .i64 j ∧ i < j ∧ j ≤ l.length ∧ L.length = l.length ∧ Hid (Sofar e l L i j) ∧ OwnE wr B a l.length c L ∧ Bx wr b e ∧ Below B w wr) (fun _ t _ => l.length - (intOf t).toNat)
    case atStart => exact ⟨k, k + 1, l, rfl, by go_num, by omega, by omega, rfl, S0, o7, b7, B0⟩
    case round =>
      clear S0 B0 o7 b7
      obtain ⟨i, j, L, rfl, rfl, hij, hj, hL, S, o, hb, B1⟩ := hrel
      have hBw : B ≤ wr.heap.size := by have := B1.size; omega
      by_cases hlt : j < l.length
      · obtain ⟨f, hf⟩ : ∃ f, L[j]'(by omega) = f := ⟨_, rfl⟩
        have hf2 := hid ((S.out.get hlt).symm.trans hf)
        have es := OwnE.es o (by omega : L.length ≤ 1000000000000000000)
        obtain ⟨p0, p1, p2, p3, p4, p5⟩ := es.cells j (by omega) f hf
        have ix := es.idx j (by omega)
        rw [hL] at ix
        have hba := es.lt (by omega : j < L.length)
        clear hf es
        cases hm : mayP e f
        · have HM := hid hm
          clear hm
          go_wp2_with fail
          have E8 := al wr (mkE f)
          refine (clos1 e f b _ (hb.below E8)).mono ?_
          rintro e' w8 ⟨rfl, E9⟩
          rw [HM.out]
          have E := E8.trans (E9.mono E8.size)
          have o := o.below E; have hb := hb.below E; have B1 := B1.trans (E.mono hBw)
          have S2 := hid (S.out.skip hlt (by rw [hf2.out]; exact HM.out))
          clear p0 p1 p2 p3 p4 p5 ix E8 E9 E hba
          go_wp2_with fail
          go_roundw
          case rel => exact ⟨i, j + 1, L, rfl, by go_num, by omega, by omega, hL, S2, o, hb, B1⟩
          case measure => simp [intOf]; omega
        · have HM := hid hm
          clear hm
          go_wp2_with fail
          have E8 := al wr (mkE f)
          have bx := Bx.new wr f 23
          refine (clos1 e f b _ (hb.below E8)).mono ?_
          rintro e' w8 ⟨rfl, E9⟩
          rw [HM.out]
          have E := E8.trans (E9.mono E8.size)
          have o := o.below E; have hb := hb.below E; have B1 := B1.trans (E.mono hBw)
          have bx := bx.below E9
          obtain ⟨c0, c1, c2, c3, c4, c5⟩ := bx.cells
          have S2 := hid (S.out.keep hlt (by rw [hf2.out]; exact HM.out))
          rw [hf2.out] at S2
          have hba8 : bk a < w8.heap.size := Nat.lt_of_lt_of_le hba E.size
          have hba9 : wr.heap.size < w8.heap.size := bx.1
          clear p0 p1 p2 p3 p4 p5 ix E8 E9 E bx hba
          have es := OwnE.es o (by omega : L.length ≤ 1000000000000000000)
          obtain ⟨q0, q1, q2, q3, q4, q5⟩ := es.cells i (by omega) _ rfl
          generalize L[i]'(by omega) = g at *
          have iy := es.idx i (by omega)
          rw [hL] at iy
          obtain ⟨f0, f1, f2, f3, f4, f5⟩ := OwnE.frz o (by omega) i
          obtain ⟨o2, s2⟩ := OwnE.store o i (by omega) f
          have B2 := s2.below o B1 (by have := B1.size; omega)
          have hb2 := hb.belowB hbB (s2.below o (Below.refl _ _) (by have := B1.size; omega))
          rw [setCells6] at o2 B2 hb2
          clear es o s2 B1 hb
          go_wp2_with fail
          go_roundw
          case rel => exact ⟨i + 1, j + 1, L.set i f, by go_num, by go_num, by omega, by omega, by rw [List.length_set]; exact hL, S2, o2, hb2, B2⟩
          case measure => simp [intOf]; omega
      · obtain rfl : j = l.length := by omega
        have hd := S.out.done
        have hi : i = (l.filter (mayP e)).length := by rw [← hd, List.length_take]; omega
        have sc := run_cut_from esl a l.length c i (by omega) .i64
        have st := run_cut_to esl a l.length c i (by omega) .i64
        obtain ⟨w9, hrun, o9, s9⟩ := run_clear_end esl Try.zeroValue23 (eC_one ⟨0, false, false, 0, 0, 0⟩) o i hij
        have B2 := s9.below o B1 hBw
        have o10 := OwnE.front o9 hL.symm (by omega)
        rw [hd] at o10
        have HD := hid hi
        clear hd hi o o9 s9 S hb
        go_wp2_with fail
        go_ret
        unfold Stays
        rw [← HD.out]
        exact ⟨rfl, o10, B2⟩
end Go.Proofs.Yteijgmaggmhggaa

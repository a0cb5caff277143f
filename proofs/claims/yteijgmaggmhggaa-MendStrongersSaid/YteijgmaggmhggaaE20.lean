/- The walk of the insertion sort over the closure that holds costs against one another. Conditions: the edges lie in memory of the call's own. -/
import Derived.Test.YteijgmaggmhggaaE19
import Derived.Test.YteijgmaggmhggaaMathI
import Derived.Test.YteijgmaggmhggaaE17
import Derived.BigRegion
namespace Go.Proofs.Yteijgmaggmhggaa
open Go.RowKit
set_option linter.unusedVariables false

attribute [local go_sem high] eqE neqE

/-- by cost in an edge's place, equals as they stood -/
def byCost (e : Edge) (l : List Edge) : List Edge := byKey (costP e) 7 l
theorem byCost_length (e : Edge) (l : List Edge) : (byCost e l).length = l.length := byKey_all (costP e) (fun x => (costP_range e x).1) 7 (fun x => by have := (costP_range e x).2; omega) l
/-- nothing comes back; the edges lie there so -/
def Lies (B : Nat) (a : Option Addr) (c : Nat) (l : List Edge) (w : World) (x : Ending) (w' : World) : Prop :=
  x = .returned (.tuple #[]) ∧ OwnE w' B a l.length c l ∧ Below B w w'
set_option maxRecDepth 100000 in
set_option maxHeartbeats 6400000 in
theorem progIns (e : Edge) (b : Nat) (l : List Edge) (B : Nat) (a : Option Addr) (c : Nat) (w : World) (o : OwnE w B a l.length c l) (hb : Bx w b e) (hbB : b < B) (hB : B ≤ w.heap.size) (hl : l.length ≤ 1000) :
    Calls Try.prog 63 #[.slice a l.length c, .int .i64 0, .int .i64 l.length, .func (.func 37) #[] #[.pointer (some ⟨b, 0, none⟩)]] w (Lies B a c (byCost e l) w) := by
  have hc := o.cap.1
  have B0 := Below.refl B w
  have S0 : Hid (l = byKey (costP e) 7 (l.take 1) ++ l.drop 1) := hid (by
    cases l with
    | nil => rfl
    | cons x r =>
      have h := byKey_place (costP e) (n := 7) (l := []) (L1 := []) (L2 := []) (x := x) (costP_range e x).1 (by have := (costP_range e x).2; omega) (byKey_nil _ _) (by simp) (by simp)
      simp at h
      simp [h])
  go_enter Try.func63, Try.ntmps63
  go_wp2_with fail
  go_loopw [8] (fun s wr => ∃ (i : Nat) (L : List Edge), s = .int .i64 i ∧ 1 ≤ i ∧ i ≤ l.length + 1 ∧ L.length = l.length ∧ Hid (L = byKey (costP e) 7 (l.take i) ++ l.drop i) ∧ OwnE wr B a l.length c L ∧ Bx wr b e ∧ Below B w wr) (fun s _ => l.length + 1 - (intOf s).toNat)
  case atStart => exact ⟨1, l, by go_num, by omega, by omega, rfl, S0, o, hb, B0⟩
  case round =>
    clear S0 B0 o hb
    obtain ⟨i, L0, rfl, hi1, hi, hL0, S, o, hb, B1⟩ := hrel
    have hBw : B ≤ wr.heap.size := by have := B1.size; omega
    by_cases hlt : i < l.length
    · obtain ⟨x, hx⟩ : ∃ x, l[i] = x := ⟨_, rfl⟩
      have hPl : (byKey (costP e) 7 (l.take i)).length = i := by have := byCost_length e (l.take i); unfold byCost at this; rw [this, List.length_take]; omega
      have IS := hid (InsAt.start hlt hx hPl S.out)
      have HX := hid hx
      have HPL := hid hPl
      obtain ⟨P, hP⟩ : ∃ P, P = byKey (costP e) 7 (l.take i) := ⟨_, rfl⟩
      rw [← hP] at IS HPL
      have HP := hid hP
      clear hx hPl S hP
      go_wp2_with fail
      go_loopw [9] (fun s wr => ∃ (j : Nat) (L : List Edge), s = .int .i64 j ∧ j ≤ i ∧ L.length = l.length ∧ Hid (InsAt (costP e) P (l.drop (i + 1)) x L j) ∧ OwnE wr B a l.length c L ∧ Bx wr b e ∧ Below B w wr) (fun s _ => (intOf s).toNat)
      case atStart => exact ⟨i, L0, rfl, Nat.le_refl _, hL0, IS, o, hb, B1⟩
      case round =>
        clear IS o hb B1 hBw hL0
        obtain ⟨j, L, rfl, hj, hL, I, o, hb, B1⟩ := hrel
        have hBw : B ≤ wr.heap.size := by have := B1.size; omega
        by_cases hj0 : 0 < j
        · obtain ⟨g1, hg1⟩ := I.out.get
          obtain ⟨g2, g3, hg2⟩ := I.out.prev hj0
          obtain ⟨y, hy⟩ : ∃ y, P[j - 1]'g3 = y := ⟨_, rfl⟩
          rw [hy] at hg2
          have HY := hid hy
          have hd0 : decide (0 < j) = true := by simp [hj0]
          have hd1 : decide ((0 : Int) < (j : Int)) = true := by simp; omega
          have o : OwnE wr.drew B a l.length c L := o.below (below_drewN wr 1)
          have hb : Bx wr.drew b e := hb.below (below_drewN wr 1)
          have B1 : Below B w wr.drew := B1.trans ((below_drewN wr 1).mono hBw)
          have es := OwnE.es o (by omega : L.length ≤ 1000000000000000000)
          obtain ⟨p0, p1, p2, p3, p4, p5⟩ := es.cells j (by omega) x hg1
          obtain ⟨q0, q1, q2, q3, q4, q5⟩ := es.cells (j - 1) (by omega) y hg2
          have ix := es.idx j (by omega)
          have iy := es.idxz (j - 1) (by omega) ((j : Int) - 1) (by omega)
          rw [hL] at ix iy
          have hw : IntKind.i64.wrap ((j : Int) - 1) = (j : Int) - 1 := IntWalk.i64_in _ (by omega)
          have h0j : (0 : Int) ≤ (j : Int) - 1 := by omega
          have HG1 := hid hg1; have HG2 := hid hg2
          clear hy hg1 hg2 es
          obtain ⟨m, hm⟩ : ∃ m, cmpI (costP e x) (costP e y) = m := ⟨_, rfl⟩
          by_cases hlc : costP e x < costP e y
          all_goals
            have HLC := hid hlc
            have hm0 := cmpI_neg (costP e x) (costP e y)
            rw [hm] at hm0
            have HM := hid hm
            first
              | have hmd : decide (m < 0) = true := by simp; exact hm0.2 hlc
              | have hmd : decide (m < 0) = false := by simp; exact Int.not_lt.1 (fun h => hlc (hm0.1 h))
            clear hlc hm0 hm
            go_wp2_with fail
            go_region_held3 (fun w' => w'.cell? ⟨bk a, fo a + j * 6, none⟩ = some (.int .i64 x.kind) ∧ w'.cell? ⟨bk a, fo a + j * 6 + 1, none⟩ = some (.bool x.ext) ∧ w'.cell? ⟨bk a, fo a + j * 6 + 2, none⟩ = some (.bool x.same) ∧ w'.cell? ⟨bk a, fo a + j * 6 + 3, none⟩ = some (.int .i64 x.src) ∧ w'.cell? ⟨bk a, fo a + j * 6 + 4, none⟩ = some (.int .i64 x.dst) ∧ w'.cell? ⟨bk a, fo a + j * 6 + 5, none⟩ = some (.int .i64 x.fence) ∧ w'.cell? ⟨bk a, fo a + (j - 1) * 6, none⟩ = some (.int .i64 y.kind) ∧ w'.cell? ⟨bk a, fo a + (j - 1) * 6 + 1, none⟩ = some (.bool y.ext) ∧ w'.cell? ⟨bk a, fo a + (j - 1) * 6 + 2, none⟩ = some (.bool y.same) ∧ w'.cell? ⟨bk a, fo a + (j - 1) * 6 + 3, none⟩ = some (.int .i64 y.src) ∧ w'.cell? ⟨bk a, fo a + (j - 1) * 6 + 4, none⟩ = some (.int .i64 y.dst) ∧ w'.cell? ⟨bk a, fo a + (j - 1) * 6 + 5, none⟩ = some (.int .i64 y.fence)) (first | exact ⟨by assumption, by assumption, by assumption, by assumption, by assumption, by assumption, by assumption, by assumption, by assumption, by assumption, by assumption, by assumption⟩)
              (((go_at_call 37; refine (clos2 e x y b _ hb).mono ?_; rintro e' w7 ⟨rfl, E7⟩; rw [HM.out]; have o := o.below E7; have hb := hb.below E7; have B1 := B1.trans (E7.mono (by have := B1.size; omega)); have es := OwnE.es o (by omega : L.length ≤ 1000000000000000000); obtain ⟨p0, p1, p2, p3, p4, p5⟩ := es.cells j (by omega) x HG1.out; obtain ⟨q0, q1, q2, q3, q4, q5⟩ := es.cells (j - 1) (by omega) y HG2.out)))
            go_wp2_with fail
          · have I2 := hid (InsAt.next I.out hj0 g3 (by rw [HY.out]; exact HLC.out))
            rw [HY.out] at I2
            clear p0 p1 p2 p3 p4 p5 q0 q1 q2 q3 q4 q5 ix iy es
            have es := OwnE.es o (by omega : L.length ≤ 1000000000000000000)
            have p := es.cells j (by omega) x HG1.out
            have q := es.cells (j - 1) (by omega) y HG2.out
            have fx := OwnE.frz o (by omega) j
            have fy := OwnE.frz o (by omega) (j - 1)
            have hB7 : B ≤ w7.heap.size := by have := B1.size; omega
            have ix := es.idx j (by omega)
            have iy := es.idxz (j - 1) (by omega) ((j : Int) - 1) (by omega)
            rw [hL] at ix iy
            obtain ⟨o1, s1⟩ := OwnE.store o j (by omega) y
            have hb1 := hb.belowB hbB (s1.below o (Below.refl _ _) hB7)
            have B2 := s1.below o B1 hB7
            obtain ⟨o2, s2⟩ := OwnE.store o1 (j - 1) (by rw [List.length_set]; omega) x
            have hb2 := hb1.belowB hbB (s2.below o1 (Below.refl _ _) (by have := B2.size; omega))
            have B3 := s2.below o1 B2 (by have := B2.size; omega)
            obtain ⟨C, hC⟩ : ∃ C, fo a + (j - 1) * 6 = C := ⟨_, rfl⟩
            have hC6 : fo a + j * 6 = C + 6 := by omega
            rw [hC6] at p ix fx o2 hb2 B3
            rw [hC] at q iy fy o2 hb2 B3
            simp only [Nat.add_assoc, Nat.reduceAdd] at p fx
            obtain ⟨p0, p1, p2, p3, p4, p5⟩ := p
            obtain ⟨q0, q1, q2, q3, q4, q5⟩ := q
            obtain ⟨f0, f1, f2, f3, f4, f5⟩ := fx
            obtain ⟨g0, g1', g2', g3', g4, g5⟩ := fy
            rw [setCells6, setCells6] at o2 hb2 B3
            clear es o1 s1 s2 hb1 B2 hC hC6 o hb B1
            go_big_region
            all_goals go_wp2_with fail
            go_roundw
            case rel => exact ⟨j - 1, _, by congr 1; omega, by omega, by rw [List.length_set, List.length_set]; exact hL, I2, Own.drewD o2, Bx.drewD hb2, Below.drew B3⟩
            case measure => simp [intOf]; omega
          · have S2 := hid (InsAt.stop hlt HX.out (HP.out ▸ I.out) (costP_range e x).1 (by have := (costP_range e x).2; omega) (.inr (by rw [← HP.out]; exact ⟨g3, by rw [HY.out]; have := HLC.out; omega⟩)))
            go_roundw
            case rel => exact ⟨i + 1, L, by go_num, by omega, by omega, hL, S2, o, hb, B1⟩
            case measure => simp [intOf]; omega
        · obtain rfl : j = 0 := by omega
          have hd1 : decide ((0 : Int) < ((0 : Nat) : Int)) = false := by simp
          have S2 := hid (InsAt.stop hlt HX.out (HP.out ▸ I.out) (costP_range e x).1 (by have := (costP_range e x).2; omega) (.inl rfl))
          go_wp2_with fail
          go_quiet (fail)
          go_wp2_with fail
          go_roundw
          case rel => exact ⟨i + 1, L, by go_num, by omega, by omega, hL, S2, o.below (below_drewN _ _), hb.below (below_drewN _ _), B1.trans ((below_drewN _ _).mono hBw)⟩
          case measure => simp [intOf]; omega
    · have hil : l.length ≤ i := by omega
      have e1 := hid (by have := S.out; rw [List.take_of_length_le hil, List.drop_of_length_le hil, List.append_nil] at this; exact this : L0 = byCost e l)
      go_wp2_with fail
      go_end0
      rw [← e1.out]
      have hb9 := byCost_length e l
      rw [← e1.out] at hb9
      unfold Lies
      rw [hb9]
      exact ⟨rfl, o, B1⟩
end Go.Proofs.Yteijgmaggmhggaa

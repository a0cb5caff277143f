/- The walks of IsArch, refused, Weaker (the document's answer). Conditions: the edges lie in memory as read. -/
import Derived.Test.YteijgmaggmhggaaE15
namespace Go.Proofs.Yteijgmaggmhggaa
open Go.RowKit
set_option linter.unusedVariables false

attribute [local go_sem high] eqE neqE

theorem refIsArch (arch : Int) (w : World) : Calls Try.prog 23 #[.int .i64 arch] w fun e w' => e = .returned (.bool (decide (isArch arch))) ∧ w = w' := by
  by_cases h1 : arch = 1
  · subst h1
    go_enter Try.func23, Try.ntmps23
    go_wp2
    go_ret
    exact ⟨rfl, rfl⟩
  · by_cases h2 : arch = 2
    · subst h2
      go_enter Try.func23, Try.ntmps23
      go_wp2
      go_ret
      exact ⟨rfl, rfl⟩
    · have h3 : decide (isArch arch) = false := by unfold isArch; simp [h1, h2]
      rw [h3]; clear h3
      have h4 : (arch == 1) = false := by simp [h1]
      have h5 : (arch == 2) = false := by simp [h2]
      clear h1 h2
      go_enter Try.func23, Try.ntmps23
      go_wp2
      go_ret
      exact ⟨rfl, rfl⟩
set_option maxRecDepth 100000 in
set_option maxHeartbeats 3200000 in
theorem refRefused (arch : Int) (ha : isArch arch) (e : Edge) (w : World) : Calls Try.prog 24 #[.int .i64 arch, vE e] w (Ret w (.int .i64 (errA arch e))) := by
  have b0 := Bx.new w e 23
  have B := al w (mkE e)
  have HA := hid ha
  clear ha
  by_cases hc : codeOf e = 112
  · have h1 : errA arch e = 30 := by unfold errA; rw [if_pos hc]
    have h2 : errE e = 30 := by unfold errE; rw [if_pos hc]
    rw [h1]
    have H2 := hid h2
    clear h1 h2 hc
    go_enter Try.func24, Try.ntmps24
    go_wp2_with fail
    refine (refCheck e _).mono ?_
    rintro e' w7 ⟨rfl, E7⟩
    rw [H2.out]
    go_wp2_with fail
    go_ret
    exact ⟨rfl, B.trans (E7.mono B.size)⟩
  · have h2 : errE e = 0 := by unfold errE; rw [if_neg hc]
    have h3 : legalB arch e = legalC arch (codeOf e) := by unfold legalB; rw [if_pos HA.out, if_neg hc]
    have h1 : errA arch e = if legalC arch (codeOf e) then 0 else 5 := by unfold errA; rw [if_neg hc]
    have H2 := hid h2
    rw [h1]
    cases hl : legalC arch (codeOf e)
    all_goals
      rw [hl] at h3
      have H3 := hid h3
      simp only [if_true, if_false, Bool.false_eq_true]
      clear h1 h2 h3 hc hl
      go_enter Try.func24, Try.ntmps24
      go_wp2_with fail
      refine (refCheck e _).mono ?_
      rintro e' w7 ⟨rfl, E7⟩
      rw [H2.out]
      have b1 := b0.below E7
      have B1 := B.trans (E7.mono B.size)
      obtain ⟨c0, c1, c2, c3, c4, c5⟩ := b1.cells
      go_wp2_with fail
      refine (refLegal arch e _).mono ?_
      rintro e' w8 ⟨rfl, E8⟩
      rw [H3.out]
      go_wp2_with fail
      go_ret
      exact ⟨rfl, B1.trans (E8.mono B1.size)⟩

set_option maxRecDepth 100000 in
set_option maxHeartbeats 6400000 in
theorem refWeaker (arch : Int) (a b : List Edge) (a1 a2 : Option Addr) (c1 c2 : Nat) (w : World) (h1 : Es w a1 a) (h2 : Es w a2 b) :
    Calls Try.prog 17 #[.int .i64 arch, .slice a1 a.length c1, .slice a2 b.length c2] w (Ret w (.tuple #[.bool (weakB arch a b), .int .i64 (weakN arch a b)])) := by
  have hl1 := h1.len; have hl2 := h2.len
  have B := Below.refl w.heap.size w
  by_cases ha : isArch arch
  · have hd : decide (isArch arch) = true := decide_eq_true ha
    have g1 : givenN arch a = firstErr arch a := by unfold givenN; rw [if_pos ha]
    have g2 : givenN arch b = firstErr arch b := by unfold givenN; rw [if_pos ha]
    have HA := hid ha; have G1 := hid g1; have G2 := hid g2
    clear ha g1 g2
    go_enter Try.func17, Try.ntmps17
    go_wp2_with (go_at_call 23; refine (refIsArch arch _).mono ?_; rintro e' w7 ⟨rfl, rfl⟩)
    go_loopw [8] (fun i wr => ∃ k : Nat, k ≤ a.length ∧ i = .int .i64 k ∧ Hid (∀ j (hj : j < a.length), j < k → errA arch a[j] = 0) ∧ Es wr a1 a ∧ Es wr a2 b ∧ Below w.heap.size w wr) (fun i _ => a.length - (intOf i).toNat)
    case atStart => exact ⟨0, by omega, rfl, hid (fun j hj h' => absurd h' (Nat.not_lt_zero j)), h1, h2, B⟩
    case round =>
      clear h1 h2 B
      obtain ⟨k, hk, rfl, HK, h1, h2, B⟩ := hrel
      by_cases hlt : k < a.length
      · obtain ⟨e, he⟩ : ∃ e, a[k] = e := ⟨_, rfl⟩
        obtain ⟨p0, p1, p2, p3, p4, p5⟩ := h1.cells k hlt e he
        have ix := h1.idx k hlt
        have HE := hid he
        clear he
        by_cases hz : errA arch e = 0
        · have HZ := hid hz
          clear hz
          go_wp2_with fail
          refine (refRefused arch HA.out e _).mono ?_
          rintro e' w7 ⟨rfl, E7⟩
          rw [HZ.out]
          have h1 := h1.below E7; have h2 := h2.below E7; have B := B.trans (E7.mono B.size)
          clear p0 p1 p2 p3 p4 p5 ix
          go_wp2_with fail
          go_roundw
          case rel => exact ⟨k + 1, by omega, by go_num, hid (fun j hj hjk => by
            by_cases hh : j = k
            · subst hh; rw [HE.out]; exact HZ.out
            · exact HK.out j hj (by omega)), h1, h2, B⟩
          case measure => simp [intOf]; omega
        · have e1 : firstErr arch a = errA arch e := by rw [firstErr_at hlt HK.out (by rw [HE.out]; exact hz), HE.out]
          have w1 : weakB arch a b = false := by unfold weakB; rw [if_pos (by rw [G1.out, e1]; exact hz)]
          have w2 : weakN arch a b = errA arch e := by unfold weakN; rw [if_pos (by rw [G1.out, e1]; exact hz), G1.out, e1]
          have W1 := hid w1; have W2 := hid w2
          have z : (errA arch e != 0) = true := by simpa using hz
          clear hz e1 w1 w2
          generalize hn : errA arch e = n at *
          have HN := hid hn
          clear hn
          go_wp2_with fail
          refine (refRefused arch HA.out e _).mono ?_
          rintro e' w7 ⟨rfl, E7⟩
          rw [HN.out]
          go_wp2_with fail
          go_ret2
          exact ⟨ret_bpair W1.out.symm W2.out.symm, B.trans (E7.mono B.size)⟩
      · have e1 := hid (firstErr_none (arch := arch) (l := a) (fun j hj => HK.out j hj (by omega)))
        clear HK
        go_wp2_with fail
        go_loopw [10] (fun i wr => ∃ k : Nat, k ≤ b.length ∧ i = .int .i64 k ∧ Hid (∀ j (hj : j < b.length), j < k → errA arch b[j] = 0) ∧ Es wr a1 a ∧ Es wr a2 b ∧ Below w.heap.size w wr) (fun i _ => b.length - (intOf i).toNat)
        case atStart => exact ⟨0, by omega, rfl, hid (fun j hj h' => absurd h' (Nat.not_lt_zero j)), h1, h2, B⟩
        case round =>
          clear h1 h2 B
          obtain ⟨k, hk, rfl, HK, h1, h2, B⟩ := hrel
          by_cases hlt : k < b.length
          · obtain ⟨e, he⟩ : ∃ e, b[k] = e := ⟨_, rfl⟩
            obtain ⟨p0, p1, p2, p3, p4, p5⟩ := h2.cells k hlt e he
            have ix := h2.idx k hlt
            have HE := hid he
            clear he
            by_cases hz : errA arch e = 0
            · have HZ := hid hz
              clear hz
              go_wp2_with fail
              refine (refRefused arch HA.out e _).mono ?_
              rintro e' w7 ⟨rfl, E7⟩
              rw [HZ.out]
              have h1 := h1.below E7; have h2 := h2.below E7; have B := B.trans (E7.mono B.size)
              clear p0 p1 p2 p3 p4 p5 ix
              go_wp2_with fail
              go_roundw
              case rel => exact ⟨k + 1, by omega, by go_num, hid (fun j hj hjk => by
                by_cases hh : j = k
                · subst hh; rw [HE.out]; exact HZ.out
                · exact HK.out j hj (by omega)), h1, h2, B⟩
              case measure => simp [intOf]; omega
            · have e2 : firstErr arch b = errA arch e := by rw [firstErr_at hlt HK.out (by rw [HE.out]; exact hz), HE.out]
              have w1 : weakB arch a b = false := by unfold weakB; rw [if_neg (by rw [G1.out, e1.out]; omega), if_pos (by rw [G2.out, e2]; exact hz)]
              have w2 : weakN arch a b = errA arch e := by unfold weakN; rw [if_neg (by rw [G1.out, e1.out]; omega), G2.out, e2]
              have W1 := hid w1; have W2 := hid w2
              have z : (errA arch e != 0) = true := by simpa using hz
              clear hz e2 w1 w2
              generalize hn : errA arch e = n at *
              have HN := hid hn
              clear hn
              go_wp2_with fail
              refine (refRefused arch HA.out e _).mono ?_
              rintro e' w7 ⟨rfl, E7⟩
              rw [HN.out]
              go_wp2_with fail
              go_ret2
              exact ⟨ret_bpair W1.out.symm W2.out.symm, B.trans (E7.mono B.size)⟩
          · have e2 := hid (firstErr_none (arch := arch) (l := b) (fun j hj => HK.out j hj (by omega)))
            have W1 := hid (by unfold weakB; rw [if_neg (by rw [G1.out, e1.out]; omega), if_neg (by rw [G2.out, e2.out]; omega)] : weakB arch a b = allMay a b)
            have W2 := hid (by unfold weakN; rw [if_neg (by rw [G1.out, e1.out]; omega), G2.out, e2.out] : weakN arch a b = 0)
            clear HK
            by_cases hlen : a.length = b.length
            · have z : ((a.length : Int) != (b.length : Int)) = false := by simp; omega
              have HL := hid hlen
              have hle : a.length ≤ b.length := by omega
              clear hlen
              go_wp2_with fail
              go_loopw [12] (fun i wr => ∃ k : Nat, k ≤ a.length ∧ i = .int .i64 k ∧ Hid (∀ j (hj : j < a.length) (hj' : j < b.length), j < k → mayP a[j] b[j] = true) ∧ Es wr a1 a ∧ Es wr a2 b ∧ Below w.heap.size w wr) (fun i _ => a.length - (intOf i).toNat)
              case atStart => exact ⟨0, by omega, rfl, hid (fun j hj _ h' => absurd h' (Nat.not_lt_zero j)), h1, h2, B⟩
              case round =>
                clear h1 h2 B
                obtain ⟨k, hk, rfl, HK, h1, h2, B⟩ := hrel
                by_cases hlt : k < a.length
                · obtain ⟨e, he⟩ : ∃ e, a[k] = e := ⟨_, rfl⟩
                  obtain ⟨f, hf⟩ : ∃ f, b[k]'(by omega) = f := ⟨_, rfl⟩
                  have v1 := (errA_zero (firstErr_zero e1.out e (by rw [← he]; exact List.getElem_mem _))).1
                  have v2 := (errA_zero (firstErr_zero e2.out f (by rw [← hf]; exact List.getElem_mem _))).1
                  have HM := hid (mayP_eq v1 v2)
                  clear v1 v2
                  have HE := hid he; have HF := hid hf
                  go_wp2_with fail
                  have h1 : Es wr.drew a1 a := h1.below (below_drewN wr 1)
                  have h2 : Es wr.drew a2 b := h2.below (below_drewN wr 1)
                  have B : Below w.heap.size w wr.drew := B.trans ((below_drewN wr 1).mono B.size)
                  obtain ⟨p0, p1, p2, p3, p4, p5⟩ := h1.cells k hlt e HE.out
                  obtain ⟨q0, q1, q2, q3, q4, q5⟩ := h2.cells k (by omega) f HF.out
                  have ix := h1.idx k hlt
                  have iy := h2.idx k (by omega)
                  have h0k : (0 : Int) ≤ (k : Int) := by omega
                  have h1k : (k : Int) < (a.length : Int) := by omega
                  have h2k : (k : Int) < (b.length : Int) := by omega
                  clear he hf
                  cases hm : mayP e f
                  all_goals
                    have HMM := hid hm
                    clear hm
                    go_region_held3 (fun w' => w'.cell? ⟨bk a1, fo a1 + k * 6, none⟩ = some (.int .i64 e.kind) ∧ w'.cell? ⟨bk a1, fo a1 + k * 6 + 1, none⟩ = some (.bool e.ext) ∧ w'.cell? ⟨bk a1, fo a1 + k * 6 + 2, none⟩ = some (.bool e.same) ∧ w'.cell? ⟨bk a1, fo a1 + k * 6 + 3, none⟩ = some (.int .i64 e.src) ∧ w'.cell? ⟨bk a1, fo a1 + k * 6 + 4, none⟩ = some (.int .i64 e.dst) ∧ w'.cell? ⟨bk a1, fo a1 + k * 6 + 5, none⟩ = some (.int .i64 e.fence) ∧ w'.cell? ⟨bk a2, fo a2 + k * 6, none⟩ = some (.int .i64 f.kind) ∧ w'.cell? ⟨bk a2, fo a2 + k * 6 + 1, none⟩ = some (.bool f.ext) ∧ w'.cell? ⟨bk a2, fo a2 + k * 6 + 2, none⟩ = some (.bool f.same) ∧ w'.cell? ⟨bk a2, fo a2 + k * 6 + 3, none⟩ = some (.int .i64 f.src) ∧ w'.cell? ⟨bk a2, fo a2 + k * 6 + 4, none⟩ = some (.int .i64 f.dst) ∧ w'.cell? ⟨bk a2, fo a2 + k * 6 + 5, none⟩ = some (.int .i64 f.fence)) (first | exact ⟨by assumption, by assumption, by assumption, by assumption, by assumption, by assumption, by assumption, by assumption, by assumption, by assumption, by assumption, by assumption⟩)
                      (((go_at_call 31; refine (refMay e f _).mono ?_; rintro e' w7 ⟨rfl, E7⟩; rw [← HM.out, HMM.out]; have h1 := h1.below E7; have h2 := h2.below E7; have B := B.trans (E7.mono B.size); obtain ⟨p0, p1, p2, p3, p4, p5⟩ := h1.cells k hlt e HE.out; obtain ⟨q0, q1, q2, q3, q4, q5⟩ := h2.cells k (by omega) f HF.out)))
                    go_wp2_with fail
                  · go_ret2
                    exact ⟨ret_bpair (by rw [W1.out]; exact (allMay_at hlt (by omega) (by rw [HE.out, HF.out]; exact HMM.out)).symm) W2.out.symm, B⟩
                  · go_roundw
                    case rel => exact ⟨k + 1, by omega, by go_num, hid (fun j hj hj' hjk => by
                      by_cases hh : j = k
                      · subst hh; rw [HE.out, HF.out]; exact HMM.out
                      · exact HK.out j hj hj' (by omega)), h1, h2, B⟩
                    case measure => simp [intOf]; omega
                · go_wp2_with fail
                  go_ret2
                  exact ⟨ret_bpair (by rw [W1.out]; exact (allMay_all HL.out (fun j hj hj' => HK.out j hj hj' (by omega))).symm) W2.out.symm, B⟩
            · have z : ((a.length : Int) != (b.length : Int)) = true := by simp; omega
              have W3 := hid (allMay_len hlen)
              clear hlen
              go_wp2_with fail
              go_ret2
              exact ⟨ret_bpair (by rw [W1.out, W3.out]) W2.out.symm, B⟩
  · have hd : decide (isArch arch) = false := decide_eq_false ha
    have g1 : givenN arch a = 1 := by unfold givenN; rw [if_neg ha]
    have w1 := hid (by unfold weakB; rw [if_pos (by rw [g1]; omega)] : weakB arch a b = false)
    have w2 := hid (by unfold weakN; rw [if_pos (by rw [g1]; omega), g1] : weakN arch a b = 1)
    clear g1 ha
    go_enter Try.func17, Try.ntmps17
    go_wp2_with (go_at_call 23; refine (refIsArch arch _).mono ?_; rintro e' w7 ⟨rfl, rfl⟩)
    go_ret2
    exact ⟨ret_bpair w1.out.symm w2.out.symm, B⟩
end Go.Proofs.Yteijgmaggmhggaa

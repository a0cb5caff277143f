/- The walks of Period and Words (package round's). Conditions: the lists lie in memory as read; sizes below the reach. -/
import Derived.Test.YtdafpafoioejaaaW7
namespace Go.Proofs.Ytdafpafoioejaaa
open Go.RowKit
set_option linter.unusedVariables false

theorem getD_get {l : List Int} {i : Nat} (h : i < l.length) : l.getD i 0 = l[i] := by
  rw [List.getD_eq_getElem?_getD, List.getElem?_eq_getElem h]; rfl
theorem int_tmod (a b : Nat) : (a : Int).tmod (b : Int) = ((a % b : Nat) : Int) := by
  rw [Int.tmod_eq_emod_of_nonneg (by omega)]; simp

/-- the first i failures are known -/
def Fails (l : List Int) (fs : List Int) (i : Nat) : Prop := ∀ m, 1 ≤ m → m ≤ i → ∃ b : Nat, fs.getD (m - 1) 0 = (b : Int) ∧ IsFail l m b

set_option maxHeartbeats 1600000 in
theorem progPeriod (l : List Int) (a : Option Addr) (c : Nat) (w : World) (h : Ints w a l) (hb : l.length * 8 ≤ 140737488355328) :
    Calls Try.prog 13 #[.slice a l.length c] w (Ret w (.int .i64 (period l))) := by
  have H := hid h; have hl := h.len; clear h
  by_cases h0 : l = []
  · subst h0
    go_enter Try.func13, Try.ntmps13
    go_wp2_with fail
    go_ret
    exact ⟨rfl, Below.refl _ _⟩
  · have hpos : 0 < l.length := List.length_pos_iff.2 h0
    have hz : ((l.length : Int) == 0) = false := by simp; omega
    go_enter Try.func13, Try.ntmps13
    go_wp2_with (at_make; go_loud (refine wpList_mk isl _ _ rfl rfl l.length rfl rfl rfl rfl (by omega) (by unfold maxLen; omega) (Below.refl w.heap.size w) (Nat.le_refl _) ?_))
    intro a1 w1 o1 st1 B1
    rw [madeI] at o1
    go_wp2_with fail
    go_loopw [5] (fun i wr => ∃ (i' : Nat) (fs : List Int), 1 ≤ i' ∧ i' ≤ l.length ∧ i = .int .i64 i' ∧ fs.length = l.length ∧ OwnI wr w.heap.size a1 l.length l.length fs ∧ Below w.heap.size w wr ∧ Hid (Fails l fs i')) (fun i _ => l.length - (intOf i).toNat)
    case atStart => exact ⟨1, List.replicate l.length 0, Nat.le_refl _, hpos, rfl, by simp, o1, B1, hid (fun m h1 h2 => by
      obtain rfl : m = 1 := by omega
      exact ⟨0, by simp [List.getD_eq_getElem?_getD, hpos], isFail_one l⟩)⟩
    case round =>
      obtain ⟨i, fs, hi1, hi2, rfl, hfs, o2, B2, hF⟩ := hrel
      have r2 := o2.ints.1
      have HFS := hid hfs
      by_cases hlt : i < l.length
      · obtain ⟨k0, hk0, hf0⟩ := hF.out i hi1 (Nat.le_refl _)
        have ix := r2.idxz isl (i - 1) (by omega) ((i : Int) - 1) (by omega)
        have cx := r2.cell (i - 1) (by omega)
        rw [← getD_get, hk0] at cx
        rw [hfs] at ix
        have HK := hid (And.intro hk0 hf0)
        have hk0i := hf0.border.1
        clear hk0 hf0
        clear hfs
        go_wp2_with fail
        go_loopw [6] (fun k w2 => ∃ (k' : Nat), k' < i ∧ k = .int .i64 k' ∧ QW wr w2 ∧ Hid (Look l i k')) (fun k _ => (intOf k).toNat)
        case atStart => exact ⟨k0, hk0i, rfl, QW.refl _, hid (Look.start HK.out.2)⟩
        case round =>
          obtain ⟨k, hki, rfl, ⟨n2, rfl⟩, hlk⟩ := hrel
          have ji := H.out.idx isl i hlt
          have ci := (H.out.below B2).cell i hlt
          have jk := H.out.idx isl k (by omega)
          have ck := (H.out.below B2).cell k (by omega)
          have ei := getD_get hlt
          have ek := getD_get (l := l) (i := k) (by omega)
          generalize l[i] = u at *
          generalize l[k]'(by omega) = v at *
          have EI := hid ei; have EK := hid ek
          clear ei ek
          by_cases hgo : 0 < k ∧ u ≠ v
          · obtain ⟨hk, huv⟩ := hgo
            have e1 : (u != v) = true := by simpa using huv
            obtain ⟨k2, hk2, hf2⟩ := hF.out k (by omega) (by omega)
            have hk2k := hf2.border.1
            have HL : Hid (Look l i k2) := hid (hlk.out.next (by rw [EI.out, EK.out]; exact huv) hf2)
            have ix2 := r2.idxz isl (k - 1) (by have := HFS.out; omega) ((k : Int) - 1) (by omega)
            have cx2 := r2.cell (k - 1) (by have := HFS.out; omega)
            rw [← getD_get, hk2] at cx2
            rw [HFS.out] at ix2
            clear hk2 hf2 huv
            go_wp2_with fail
            go_quiet (fail)
            go_wp2_with fail
            go_roundw
            case rel => exact ⟨k2, by omega, rfl, (by repeat (first | exact QW.refl _ | refine QW.d ?_ _)), HL⟩
            case measure => simp [intOf]; omega
          · -- the search has ended
            have store : ∀ (k2 : Nat), IsFail l (i + 1) k2 → Fails l (fs.set i (k2 : Int)) (i + 1) := by
              intro k2 hk2 m hm1 hm2
              by_cases e : m = i + 1
              · subst e
                refine ⟨k2, ?_, hk2⟩
                rw [Nat.add_sub_cancel, List.getD_eq_getElem?_getD, List.getElem?_set_self (by have := HFS.out; omega)]; rfl
              · obtain ⟨b, h1, h2⟩ := hF.out m hm1 (by omega)
                refine ⟨b, ?_, h2⟩
                rw [← h1, List.getD_eq_getElem?_getD, List.getElem?_set_ne (by omega), List.getD_eq_getElem?_getD]
            have SH := hid store
            clear store
            have xi := r2.idx isl i (by have := HFS.out; omega)
            have yi := r2.cell i (by have := HFS.out; omega)
            rw [HFS.out] at xi
            obtain ⟨v0, hv0⟩ : ∃ v0, fs[i]'(by have := HFS.out; omega) = v0 := ⟨_, rfl⟩
            rw [hv0] at yi
            clear hv0
            have fi := Own.frozen o2 (Own.some o2 hpos) i
            have oset : ∀ (n : Nat) (z : Int), OwnI ((wr.drewN n).setCell ⟨bk a1, fo a1 + i, none⟩ (.int .i64 z)) w.heap.size a1 l.length l.length (fs.set i z) ∧ Below w.heap.size w ((wr.drewN n).setCell ⟨bk a1, fo a1 + i, none⟩ (.int .i64 z)) := by
              intro n z
              have od := o2.below (below_drewN wr n)
              have q := Own.set od (Own.some od hpos) i (.int .i64 z)
              exact ⟨by simpa only [OwnI, ints, List.map_set] using q.1, q.2.below od (B2.trans ((below_drewN _ _).mono B2.size)) B2.size⟩
            have OS := hid oset
            clear oset
            by_cases huv : u = v
            · have e1 : (u != v) = false := by simpa using huv
              have e2 : (u == v) = true := by simpa using huv
              have HL := hid (SH.out (k + 1) (hlk.out.yes (by rw [EI.out, EK.out]; exact huv)))
              by_cases hk : 0 < k
              · have hd : decide ((0 : Int) < (k : Int)) = true := by simp; omega
                clear hgo huv
                go_wp2_with fail
                go_quiet (fail)
                go_wp2_with fail
                go_quiet (fail)
                go_wp2_with fail
                go_roundw
                case rel => exact ⟨i + 1, fs.set i ((k + 1 : Nat) : Int), by omega, by omega, by go_num, by simpa using HFS.out, (OS.out _ _).1, (OS.out _ _).2, HL⟩
                case measure => simp [intOf]; omega
              · have hd : decide ((0 : Int) < (k : Int)) = false := by simp; omega
                have hd2 : decide (0 < k) = false := by simp; omega
                clear hgo huv
                go_wp2_with fail
                go_quiet (fail)
                go_wp2_with fail
                go_quiet (fail)
                go_wp2_with fail
                go_roundw
                case rel => exact ⟨i + 1, fs.set i ((k + 1 : Nat) : Int), by omega, by omega, by go_num, by simpa using HFS.out, (OS.out _ _).1, (OS.out _ _).2, HL⟩
                case measure => simp [intOf]; omega
            · have hk : k = 0 := by omega
              have hd : decide ((0 : Int) < (k : Int)) = false := by simp; omega
              have hd2 : decide (0 < k) = false := by simp; omega
              have e2 : (u == v) = false := by simpa using huv
              have HL : Hid (Fails l (fs.set i (k : Int)) (i + 1)) := by
                subst hk
                exact hid (SH.out 0 (hlk.out.no (by rw [EI.out, EK.out]; exact huv)))
              clear hgo huv hk
              go_wp2_with fail
              go_quiet (fail)
              go_wp2_with fail
              go_quiet (fail)
              go_wp2_with fail
              go_roundw
              case rel => exact ⟨i + 1, fs.set i ((k : Nat) : Int), by omega, by omega, by go_num, by simpa using HFS.out, (OS.out _ _).1, (OS.out _ _).2, HL⟩
              case measure => simp [intOf]; omega
      · -- the last failure tells
        obtain ⟨b, hb1, hb2⟩ := hF.out l.length (by omega) (by omega)
        have hp := period_of_fail hb2
        have hbl := hb2.border.1
        have hpd := period_spec l h0
        have xi := r2.idxz isl (l.length - 1) (by omega) ((l.length : Int) - 1) (by omega)
        have yi := r2.cell (l.length - 1) (by omega)
        rw [← getD_get, hb1] at yi
        rw [hfs] at xi
        have hmod : ((l.length : Int) % ((l.length : Int) - (b : Int))) = ((l.length % (l.length - b) : Nat) : Int) := by
          rw [show ((l.length : Int) - (b : Int)) = ((l.length - b : Nat) : Int) by omega]; simp
        by_cases hd : l.length % (l.length - b) = 0
        · rw [if_pos hd] at hp
          have e1 : (((l.length : Int) % ((l.length : Int) - (b : Int))) == 0) = true := by rw [hmod, hd]; rfl
          have HP := hid hp
          clear hp hmod hd hb1 hb2 hfs hpd
          go_wp2_with fail
          go_ret
          exact ⟨ret_int (by rw [HP.out]; omega), B2⟩
        · rw [if_neg hd] at hp
          have e1 : (((l.length : Int) % ((l.length : Int) - (b : Int))) == 0) = false := by rw [hmod]; simp; omega
          have HP := hid hp
          clear hp hmod hd hb1 hb2 hfs hpd
          go_wp2_with fail
          go_ret
          exact ⟨ret_int (by rw [HP.out]), B2⟩
end Go.Proofs.Ytdafpafoioejaaa

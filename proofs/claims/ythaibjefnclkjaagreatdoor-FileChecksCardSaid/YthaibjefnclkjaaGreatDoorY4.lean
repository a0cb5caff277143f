/- The walks of Trim of blanks, cycled (document), May (document). Conditions: texts of a machine's length. The walk of Links (the document's answer). Conditions: the instructions lie in memory as read; lengths that an int holds. -/
import Derived.Test.YthaibjefnclkjaaGreatDoorZ19
import Derived.Test.YthaibjefnclkjaaGreatDoorY3
import Derived.Test.YthaibjefnclkjaaGreatDoorZ18
import Derived.Test.YthaibjefnclkjaaGreatDoorY1
import Derived.Test.YthaibjefnclkjaaGreatDoorZ5
import Derived.Test.YthaibjefnclkjaaGreatDoorZ4
import Derived.Test.YthaibjefnclkjaaGreatDoorZ3
import Derived.Test.YthaibjefnclkjaaGreatDoorZ2
import Derived.Test.YthaibjefnclkjaaGreatDoorZ1
import Derived.Test.YthaibjefnclkjaaGreatDoorRows
import Derived.Lib.SlTrimSet
import Derived.Lib.ItoaNum
import Derived.WalkKit
import Derived.WalkSpells
import Derived.WalkLawsBesides
import Derived.Deep.QuietTactic
import Derived.BigQuiet
import Derived.ProofKit
import Derived.OpenShut
import Derived.ShutString
import Derived.ChangeOld
import Derived.Carry
import Derived.SizedLaws
import Derived.Laws.StructEq
import Derived.Shelf.SlicesQ.Load
import Derived.Lib.SplitLaws
import Derived.Lib.Strings
import Derived.Lib.ItoaMem
import Derived.Shelf.Strings.SlTrimAscii
import Derived.Shelf.Small.Strs
import Derived.Shelf.Strconv.Itoa3
import Derived.Shelf.LaysM
import Derived.Shelf.Strings.Prefix
import Derived.Test.YthaibjefnclkjaaGreatDoorProg
import Derived.Lib.ItoaLen
import Derived.WalkSmall
import Derived.Laws.Concat
import Derived.BigRegion
import Derived.StillTailTactics
import Derived.Deep.RegionWith
import Derived.Lib.AtoiAll
import Derived.Deep.DeepCutAuto
import Derived.Maps.OwnSet
import Derived.Maps.Views
import Derived.Lib.Bytealg
import Derived.Test.YthaibjefnclkjaaGreatDoorZ9
import Derived.Test.YthaibjefnclkjaaGreatDoorZ6
import Derived.Test.YthaibjefnclkjaaGreatDoorZ13
import Derived.Test.YthaibjefnclkjaaGreatDoorZ11
import Derived.Test.YthaibjefnclkjaaGreatDoorZ10
import Derived.Lib.QuietBelow
import Derived.Test.YthaibjefnclkjaaGreatDoorZ14
import Derived.Deep.RegionHeld3
import Derived.Test.YthaibjefnclkjaaGreatDoorZ17
import Derived.Test.YthaibjefnclkjaaGreatDoorZ15
import Derived.Test.YthaibjefnclkjaaGreatDoorZ16
import Derived.Test.YthaibjefnclkjaaGreatDoorZ7
import Derived.Maps.OwnOps
import Derived.StringKeys
namespace Go.Proofs.YthaibjefnclkjaaGreatDoor
open Go.RowKit Go.Sort
set_option linter.unusedVariables false

set_option maxRecDepth 100000 in
set_option maxHeartbeats 1600000 in
theorem r13Cycled (l : Tx) (hl : l.length ≤ 9223372036854775807) (w : World) : Calls Tryz.prog 51 #[.string (tx l)] w fun e w' => e = .returned (.bool (cycleB l)) ∧ w = w' := by
  obtain ⟨n, hn⟩ : ∃ n, (tx l).size = n := ⟨_, rfl⟩
  have hln : l.length = n := by rw [← hn, tx_size]
  have HN := hid hln
  rw [hln] at hl
  clear hln
  by_cases hb : 262144 < n
  · have HF := hid (show cycleB l = false by unfold cycleB; rw [HN.out, decide_eq_false (by omega)]; rfl)
    go_enter Tryz.func51, Tryz.ntmps51
    go_wp2_with fail
    go_ret
    exact ⟨ret_bool HF.out.symm, rfl⟩
  have HT := hid (show cycleB l = (showB 32 l && flushB l) by unfold cycleB; rw [HN.out, decide_eq_true (by omega)]; rfl)
  go_enter Tryz.func51, Tryz.ntmps51
  go_wp2_with fail
  go_loop [3] (fun i => ∃ k : Nat, k ≤ n ∧ i = .int .i64 k ∧ Hid (∀ (i : Nat) (x : UInt8), i < k → l[i]? = some x → showC 32 x = true)) (fun i => n - (intOf i).toNat)
  case atStart => exact ⟨0, by omega, rfl, fun i x hi => absurd hi (Nat.not_lt_zero i)⟩
  case round =>
    obtain ⟨k, hk, rfl, HM⟩ := hrel
    by_cases hlt : k < n
    · obtain ⟨x, hx⟩ : ∃ x, l[k]? = some x := ⟨_, List.getElem?_eq_getElem (by rw [HN.out]; exact hlt)⟩
      have ix := run_ix l k x hx
      have hlt' : x.toNat < 256 := x.toNat_lt
      obtain ⟨m, hm⟩ : ∃ m, x.toNat = m := ⟨_, rfl⟩
      have HC := hid (show showC 32 x = (decide (32 ≤ m) && (decide (m ≤ 126) && decide (m ≠ 34))) by rw [showC_nat, hm])
      rw [hm] at ix hlt'
      have HF := hid (fun h => showB_step (lo := 32) (l := l) (k := k) (c := x) hx h)
      have HM2 : showC 32 x = true → Hid (∀ (i : Nat) (y : UInt8), i < k + 1 → l[i]? = some y → showC 32 y = true) := fun hx' i y hi hy => by
        rcases Nat.lt_succ_iff_lt_or_eq.1 hi with h | h
        · exact HM.out i y h hy
        · subst h; rw [hx] at hy; cases hy; exact hx'
      have HM2 := hid HM2
      clear hm hx HM
      have hp : m < 32 ∨ (32 ≤ m ∧ m = 34) ∨ (32 ≤ m ∧ m ≤ 126 ∧ m ≠ 34) ∨ 126 < m := by omega
      rcases hp with h | ⟨h, h'⟩ | ⟨h, h', h''⟩ | h
      all_goals
        (try (have z34 : ((m : Int) == 34) = false := by simp; omega))
        (try subst h')
        go_wp2_with fail
        first
        | (go_round
           case rel => exact ⟨k + 1, by omega, by go_num, HM2.out (by rw [HC.out]; simp <;> omega)⟩
           case measure => simp [intOf]; omega)
        | (go_ret
           exact ⟨ret_bool ((fun h => (HT.out.trans (by rw [h, Bool.false_and])).symm) (HF.out (by rw [HC.out]; simp <;> omega))), rfl⟩)
    · have HS := hid (showB_done (lo := 32) (l := l) (fun i x hi => HM.out i x (by
            have h1 := (List.getElem?_eq_some_iff.1 hi).1
            have := HN.out
            omega) hi))
      by_cases hz : n = 0
      · have HF := hid (show flushB l = true by have := List.eq_nil_of_length_eq_zero (HN.out.trans hz); rw [this]; rfl)
        have HT := hid (HT.out.trans (show (showB 32 l && flushB l) = true by rw [HS.out, HF.out, Bool.and_self]))
        subst hz
        clear HM HS HF
        go_wp2_with fail
        go_ret
        exact ⟨ret_bool HT.out.symm, rfl⟩
      · obtain ⟨m, hm⟩ : ∃ m, n = m + 1 := ⟨n - 1, by omega⟩
        obtain ⟨x, hx⟩ : ∃ x, l[0]? = some x := ⟨_, List.getElem?_eq_getElem (by rw [HN.out]; omega)⟩
        obtain ⟨y, hy⟩ : ∃ y, l[m]? = some y := ⟨_, List.getElem?_eq_getElem (by rw [HN.out]; omega)⟩
        have ix := run_ixz l x hx
        have iy := run_ix l m y hy
        rw [show (m : Int) = (n : Int) - 1 by omega] at iy
        have hl1 : l.head? = some x := by rw [List.head?_eq_getElem?]; exact hx
        have hl2 : l.getLast? = some y := by rw [List.getLast?_eq_getElem?, HN.out, hm]; exact hy
        have hne : l.isEmpty = false := by cases l with
          | nil => have := HN.out; simp at this; omega
          | cons _ _ => rfl
        obtain ⟨p, hp⟩ : ∃ p, x.toNat = p := ⟨_, rfl⟩
        obtain ⟨q, hq⟩ : ∃ q, y.toNat = q := ⟨_, rfl⟩
        have hx32 : (some x != some (32 : UInt8)) = decide (p ≠ 32) := by
          rw [Bool.eq_iff_iff]; simp [← hp, ← UInt8.toNat_inj]
        have hy32 : (some y != some (32 : UInt8)) = decide (q ≠ 32) := by
          rw [Bool.eq_iff_iff]; simp [← hq, ← UInt8.toNat_inj]
        have HT := hid (show cycleB l = (decide (p ≠ 32) && decide (q ≠ 32)) by rw [HT.out, HS.out]; unfold flushB; rw [hl1, hl2, hx32, hy32, hne]; rfl)
        rw [hp] at ix
        rw [hq] at iy
        clear hx hy hl1 hl2 hne hp hq hx32 hy32 HM HS hm
        have h1n : (1 : Int) ≤ n := by omega
        have z0 : ((n : Int) == 0) = false := by simp; omega
        clear hz
        by_cases hp : p = 32
        · subst hp
          go_wp2_with fail
          go_ret
          exact ⟨ret_bool (by rw [HT.out]; first | rfl | simp [h1n, z0] | (simp; omega)), rfl⟩
        · have zp : ((p : Int) != 32) = true := by simp; omega
          by_cases hq : q = 32
          · subst hq
            go_wp2_with fail
            go_ret
            exact ⟨ret_bool (by rw [HT.out]; first | rfl | (simp <;> omega)), rfl⟩
          · have zq : ((q : Int) != 32) = true := by simp; omega
            go_wp2_with fail
            go_ret
            exact ⟨ret_bool (by rw [HT.out]; first | rfl | (simp [hp, hq] <;> omega)), rfl⟩
end Go.Proofs.YthaibjefnclkjaaGreatDoor
namespace Go.Proofs.YthaibjefnclkjaaGreatDoor
open Go.RowKit Go.Maps
set_option linter.unusedVariables false

attribute [local go_sem high] eqI neqI

theorem outsR_length (code : List Ins) (k : Nat) : (outsR code k).length = k := by simp [outsR]
theorem outsR_succ (code : List Ins) (k : Nat) : outsR code (k + 1) = outsR code k ++ [(stepR code k).getD (-1)] := by simp [outsR, List.range_succ]
theorem linksR_label {code : List Ins} (h : code.length ≤ 256) (hc : ∀ j (hj : j < code.length), checkI code[j] = true) {k : Nat} (hk : k < code.length) (h1 : stepR code k = none) (h2 : ∀ j, j < k → stepR code j ≠ none) : linksV code = ([], 93, (k : Int)) :=
  linksV_label h hc hk ((step_none code k).2 h1) (fun j hj e => h2 j hj ((step_none code j).1 e))
theorem linksR_ok {code : List Ins} (h : code.length ≤ 256) (hc : ∀ j (hj : j < code.length), checkI code[j] = true) (h2 : ∀ j, j < code.length → stepR code j ≠ none) : linksV code = (outsR code code.length, 0, 0) := by
  have h3 : ∀ j, j < code.length → stepP code j ≠ none := fun j hj e => h2 j hj ((step_none code j).1 e)
  rw [linksV_ok h hc h3, outs_same code h3]
theorem stepR_other {code : List Ins} {k : Nat} {i : Ins} (hi : code[k]? = some i) (h1 : i.op ≠ 12) (h2 : i.op ≠ 11) : stepR code k = some (-1) := by
  unfold stepR; rw [hi]; simp only; rw [if_neg h1, if_neg h2]
theorem stepR_lab {code : List Ins} {k : Nat} {i : Ins} (hi : code[k]? = some i) (h1 : i.op = 12) (h : ∀ j x, j < k → code[j]? = some x → isLab i.label x = false) : stepR code k = some (-1) := by
  unfold stepR; rw [hi]; simp only; rw [if_pos h1, if_neg]
  intro ha
  rw [List.any_eq_true] at ha
  obtain ⟨x, hx, hp⟩ := ha
  obtain ⟨j, hj, he⟩ := List.mem_iff_getElem.1 hx
  simp at hj
  rw [List.getElem_take] at he
  rw [h j x (by omega) (by rw [List.getElem?_eq_getElem (by omega), he])] at hp
  cases hp
theorem stepR_twice {code : List Ins} {k j : Nat} {i x : Ins} (hi : code[k]? = some i) (h1 : i.op = 12) (hj : j < k) (hx : code[j]? = some x) (hp : isLab i.label x = true) : stepR code k = none := by
  unfold stepR; rw [hi]; simp only; rw [if_pos h1, if_pos]
  obtain ⟨hlt, he⟩ := List.getElem?_eq_some_iff.1 hx
  refine List.any_eq_true.2 ⟨x, ?_, hp⟩
  rw [List.mem_take_iff_getElem]
  exact ⟨j, by omega, he⟩
theorem stepR_to {code : List Ins} {k j : Nat} {i x : Ins} (hi : code[k]? = some i) (h1 : i.op = 11) (hj : k < j) (hx : code[j]? = some x) (hp : isLab i.label x = true) (h : ∀ m y, k < m → m < j → code[m]? = some y → isLab i.label y = false) : stepR code k = some (j : Int) := by
  unfold stepR; rw [hi]; simp only; rw [if_neg (by omega), if_pos h1]
  obtain ⟨hlt, he⟩ := List.getElem?_eq_some_iff.1 hx
  have : (code.drop (k + 1)).findIdx? (isLab i.label) = some (j - (k + 1)) := by
    rw [List.findIdx?_eq_some_iff_getElem]
    refine ⟨by simp; omega, ?_, fun m hm => ?_⟩
    · rw [List.getElem_drop]
      have : code[k + 1 + (j - (k + 1))]'(by omega) = x := by
        have e : k + 1 + (j - (k + 1)) = j := by omega
        simp only [e]; exact he
      rw [this]; exact hp
    · rw [List.getElem_drop]
      rw [h (k + 1 + m) _ (by omega) (by omega) (List.getElem?_eq_getElem (by omega))]; simp
  rw [this]
  simp only [Option.map_some]
  congr 2; omega
theorem stepR_nowhere {code : List Ins} {k : Nat} {i : Ins} (hi : code[k]? = some i) (h1 : i.op = 11) (h : ∀ m y, k < m → code[m]? = some y → isLab i.label y = false) : stepR code k = none := by
  unfold stepR; rw [hi]; simp only; rw [if_neg (by omega), if_pos h1]
  have : (code.drop (k + 1)).findIdx? (isLab i.label) = none := by
    rw [List.findIdx?_eq_none_iff]
    intro x hx
    obtain ⟨j, hj, rfl⟩ := List.mem_iff_getElem.1 hx
    rw [List.getElem_drop]
    simp at hj
    exact h (k + 1 + j) _ (by omega) (List.getElem?_eq_getElem (by omega))
  rw [this]; rfl
theorem isLab_no1 {nm : Tx} {x : Ins} (h : x.op ≠ 12) : isLab nm x = false := by
  cases hb : isLab nm x with
  | false => rfl
  | true => exact absurd (isLab_iff.1 hb).1 h
theorem isLab_no2 {nm : Tx} {x : Ins} (h : x.label ≠ nm) : isLab nm x = false := by
  cases hb : isLab nm x with
  | false => rfl
  | true => exact absurd (isLab_iff.1 hb).2 h
set_option maxHeartbeats 1600000 in
theorem refLinks_long (code : List Ins) (a : Option Addr) (c : Nat) (hl : 256 < code.length) (w : World) : Calls Tryz.prog 91 #[.slice a code.length c] w (RetL (linksV code) w) := by
  obtain ⟨r, hr⟩ : ∃ r, linksV code = r := ⟨_, rfl⟩
  rw [hr]
  have HK := hid (show r = ([], 2, 0) by rw [← hr, linksV_full hl])
  have hz : decide (256 < (code.length : Int)) = true := by simp; omega
  generalize code.length = n at *
  clear hr hl
  go_enter Tryz.func91, Tryz.ntmps91
  go_wp2_with fail
  go_ret3
  exact RetL.nil HK.out rfl (Below.refl _ _)
set_option maxRecDepth 100000 in
set_option maxHeartbeats 12800000 in
theorem refLinks_short (code : List Ins) (a : Option Addr) (c : Nat) (hl : code.length ≤ 256) (hL : ∀ i ∈ code, i.label.length ≤ 9223372036854775807) (w : World) (hI : Is w a code) :
    Calls Tryz.prog 91 #[.slice a code.length c] w (RetL (linksV code) w) := by
  obtain ⟨r, hr⟩ : ∃ r, linksV code = r := ⟨_, rfl⟩
  rw [hr]
  have HR := hid hr
  obtain ⟨n, hn⟩ : ∃ n, code.length = n := ⟨_, rfl⟩
  have HN := hid hn
  have HL := hid hL
  have hz : decide (256 < (n : Int)) = false := by simp; omega
  have HIs := hid hI
  have HG := hid (fun (k : Nat) (hk : k < n) => show ∃ i, code[k]? = some i from ⟨_, List.getElem?_eq_getElem (by omega)⟩)
  have hix := hI.idx
  rw [hn] at hix
  have HX := hid hix
  rw [hn] at hl ⊢
  clear hr hL hn hI hix
  go_enter Tryz.func91, Tryz.ntmps91
  go_wp2_with fail
  go_loopw [6] (fun i wr => ∃ k : Nat, k ≤ n ∧ i = .int .i64 k ∧ Hid (∀ j (hj : j < code.length), j < k → checkI code[j] = true) ∧ Below w.heap.size w wr) (fun i _ => n - (intOf i).toNat)
  case atStart => exact ⟨0, by omega, rfl, hid (fun j hj h' => absurd h' (Nat.not_lt_zero j)), Below.refl _ _⟩
  case round =>
    obtain ⟨k, hk, rfl, HC, E⟩ := hrel
    have hI := HIs.out.below E
    by_cases hlt : k < n
    · obtain ⟨i, hi⟩ := HG.out k hlt
      have hik : code[k]'(by have := HN.out; omega) = i := Option.some.inj ((List.getElem?_eq_getElem (by have := HN.out; omega)).symm.trans hi)
      obtain ⟨p0, p1, p2, p3, p4, p5, p6, p7⟩ := hI.cells hi
      have ix := HX.out k hlt
      have CK := hid (fun (w : World) => refCheck i (HL.out i (by rw [← hik]; exact List.getElem_mem _)) w)
      have HI := hid hik
      clear hi hik hI
      cases hck : checkI i
      · have hE := errI_no hck
        rw [hE] at CK
        have HF := hid (show r = ([], 91, (k : Int)) by
          rw [← HR.out]; exact linksV_bad (by have := HN.out; omega) (by have := HN.out; omega) (by rw [HI.out]; exact hck) HC.out)
        clear hE hck
        go_wp2_with fail
        refine (CK.out _).mono ?_
        rintro e w2 ⟨rfl, E2⟩
        have E := E.trans (E2.mono E.size)
        clear p0 p1 p2 p3 p4 p5 p6 p7 ix E2
        go_wp2_with fail
        go_ret3
        exact RetL.nil HF.out rfl E
      · have hE := errI_yes hck
        rw [hE] at CK
        have HC2 := hid (show ∀ j (hj : j < code.length), j < k + 1 → checkI code[j] = true from fun j hj hjk => by
          by_cases hh : j = k
          · subst hh; rw [HI.out]; exact hck
          · exact HC.out j hj (by omega))
        clear hE hck
        go_wp2_with fail
        refine (CK.out _).mono ?_
        rintro e w2 ⟨rfl, E2⟩
        have E := E.trans (E2.mono E.size)
        clear p0 p1 p2 p3 p4 p5 p6 p7 ix E2
        go_wp2_with fail
        go_roundw
        case rel => exact ⟨k + 1, by omega, by go_num, HC2, E⟩
        case measure => simp [intOf]; omega
    · obtain rfl : k = n := by omega
      have HCA := hid (show ∀ j (hj : j < code.length), checkI code[j] = true from fun j hj => HC.out j hj (by have := HN.out; omega))
      clear HC hI hlt hk
      generalize k = n at *
      go_wp2_with fail
      go_loopw [7, 8] (fun o i wr => ∃ (k : Nat) (a' : Option Addr) (c' : Nat), k ≤ n ∧ i = .int .i64 k ∧ o = .slice a' k c' ∧ OwnI wr w.heap.size a' k c' (outsR code k) ∧ Hid (∀ j, j < k → stepR code j ≠ none) ∧ Below w.heap.size w wr) (fun _ i _ => n - (intOf i).toNat)
      case atStart => exact ⟨0, none, 0, by omega, rfl, rfl, Own.nil _ _ _ _, hid (fun j h' => absurd h' (Nat.not_lt_zero j)), E⟩
      case round =>
        clear E
        obtain ⟨k, a', c', hk, rfl, rfl, o, HS, E⟩ := hrel
        have hI := HIs.out.below E
        by_cases hlt : k < n
        · obtain ⟨i, hi⟩ := HG.out k hlt
          obtain ⟨p0, p1, p2, p3, p4, p5, p6, p7⟩ := hI.cells hi
          have ix := HX.out k hlt
          have hcl : k < code.length := by have := HN.out; omega
          have HBAD := hid (fun (h : stepR code k = none) => show r = ([], 93, (k : Int)) from HR.out.symm.trans (linksR_label (by have := HN.out; omega) HCA.out hcl h HS.out))
          have HGO := hid (fun (t : Int) (h : stepR code k = some t) => show (∀ j, j < k + 1 → stepR code j ≠ none) ∧ outsR code (k + 1) = outsR code k ++ [t] from ⟨fun j hj e => by
            by_cases hh : j = k
            · subst hh; rw [h] at e; cases e
            · exact HS.out j (by omega) e, by rw [outsR_succ, h]; rfl⟩)
          have HHI := hid hi
          clear hcl
          by_cases h12 : i.op = 12
          · have H12 := hid h12
            rw [h12] at p0
            have z12 : (i.op == 12) = true := by simpa using h12
            clear h12 hi
            go_wp2_with fail
            go_loopw [10] (fun jv wq => ∃ m : Nat, m ≤ k ∧ jv = .int .i64 m ∧ QW wr wq ∧ Hid (∀ j x, j < m → code[j]? = some x → isLab i.label x = false)) (fun jv _ => k - (intOf jv).toNat)
            case atStart => exact ⟨0, by omega, rfl, QW.refl _, hid (fun j x h => absurd h (Nat.not_lt_zero j))⟩
            case round =>
              obtain ⟨m, hm, rfl, ⟨q, rfl⟩, HM⟩ := hrel
              by_cases hmk : m < k
              · obtain ⟨x, hx⟩ := HG.out m (by omega)
                obtain ⟨x0, x1, x2, x3, x4, x5, x6, x7⟩ := hI.cells hx
                have jx := HX.out m (by omega)
                by_cases hx12 : x.op = 12
                · rw [hx12] at x0
                  by_cases hxl : x.label = i.label
                  · have HB := hid (HBAD.out (stepR_twice HHI.out H12.out hmk hx (isLab_iff.2 ⟨hx12, hxl⟩)))
                    have zl : ((tx x.label).toList == (tx i.label).toList) = true := by rw [tx_beq]; simpa using hxl
                    have zl' : (x.label == i.label) = true := by simpa using hxl
                    clear hx hx12 hxl
                    go_wp2_with fail
                    go_quiet (fail)
                    go_wp2_with fail
                    go_ret3
                    exact RetL.nil HB.out rfl (E.trans ((QW.below ⟨_, by first | rfl | exact World.drewN_drewN _ _ _⟩).mono E.size))
                  · have HM2 := hid (show ∀ j y, j < m + 1 → code[j]? = some y → isLab i.label y = false from fun j y hj hy => by
                      rcases Nat.lt_succ_iff_lt_or_eq.1 hj with h | h
                      · exact HM.out j y h hy
                      · subst h; rw [hx] at hy; cases hy; exact isLab_no2 hxl)
                    have zl : ((tx x.label).toList == (tx i.label).toList) = false := tx_eq_false hxl
                    clear hx hx12 hxl
                    go_wp2_with fail
                    go_quiet (fail)
                    go_wp2_with fail
                    go_roundw
                    case rel => exact ⟨m + 1, by omega, by go_num, (by repeat (first | exact QW.refl _ | refine QW.d ?_ _)), HM2⟩
                    case measure => simp [intOf]; omega
                · have HM2 := hid (show ∀ j y, j < m + 1 → code[j]? = some y → isLab i.label y = false from fun j y hj hy => by
                    rcases Nat.lt_succ_iff_lt_or_eq.1 hj with h | h
                    · exact HM.out j y h hy
                    · subst h; rw [hx] at hy; cases hy; exact isLab_no1 hx12)
                  have zx : (x.op == 12) = false := by simpa using hx12
                  clear hx hx12
                  go_wp2_with fail
                  go_quiet (fail)
                  go_wp2_with fail
                  go_roundw
                  case rel => exact ⟨m + 1, by omega, by go_num, (by repeat (first | exact QW.refl _ | refine QW.d ?_ _)), HM2⟩
                  case measure => simp [intOf]; omega
              · obtain rfl : m = k := by omega
                have HST := hid (stepR_lab HHI.out H12.out HM.out)
                obtain ⟨hs1, hs2⟩ := HGO.out _ HST.out
                have HS1 := hid hs1; have HS2 := hid hs2
                have QB := QW.below (w := wr) ⟨q, rfl⟩
                have E := E.trans (QB.mono E.size)
                have o := Own.below o QB
                clear hs1 hs2 QB
                go_wp2_with (at_builtin; go_loud (refine wpList_app1 isl (.tmp 110) (.tmp 112) rfl rfl rfl o rfl rfl (by intro u hu; simp at hu; subst hu; rfl) E E.size (by omega) (by unfold maxLen; omega) ?_))
                intro a3 c3 w3 o3 g3 B3
                have o4 : OwnI w3 w.heap.size a3 (m + 1) c3 (outsR code (m + 1)) := by rw [HS2.out]; simpa [OwnI, ints] using o3
                clear o o3 g3 E HS2
                go_wp2_with fail
                go_roundw
                case rel => exact ⟨m + 1, a3, c3, by omega, by go_num, rfl, o4, HS1, B3⟩
                case measure => simp [intOf]; omega
          · have z12 : (i.op == 12) = false := by simpa using h12
            have H12 := hid h12
            clear h12
            by_cases h11 : i.op = 11
            · have H11 := hid h11
              rw [h11] at p0
              clear h11 hi z12
              go_wp2_with fail
              go_loopw [9, 11] (fun tv jv wq => ∃ m : Nat, k < m ∧ m ≤ n ∧ jv = .int .i64 m ∧ QW wr wq ∧ ((tv = .int .i64 (-1) ∧ Hid (∀ j y, k < j → j < m → code[j]? = some y → isLab i.label y = false)) ∨ (∃ t : Nat, tv = .int .i64 t ∧ Hid (stepR code k = some (t : Int))))) (fun tv jv _ => n - (intOf jv).toNat)
              case atStart => exact ⟨k + 1, by omega, by omega, by go_num, QW.refl _, .inl ⟨rfl, hid (fun j y h1 h2 => by omega)⟩⟩
              case round =>
                obtain ⟨m, hkm, hm, rfl, ⟨q, rfl⟩, ⟨rfl, HM⟩ | ⟨t, rfl, HT⟩⟩ := hrel
                · by_cases hmn : m < n
                  · obtain ⟨x, hx⟩ := HG.out m hmn
                    obtain ⟨x0, x1, x2, x3, x4, x5, x6, x7⟩ := hI.cells hx
                    have jx := HX.out m hmn
                    by_cases hx12 : x.op = 12
                    · rw [hx12] at x0
                      by_cases hxl : x.label = i.label
                      · have HB := hid (stepR_to HHI.out H11.out hkm hx (isLab_iff.2 ⟨hx12, hxl⟩) HM.out)
                        have zl : ((tx x.label).toList == (tx i.label).toList) = true := by rw [tx_beq]; simpa using hxl
                        clear hx hx12 hxl
                        go_wp2_with fail
                        go_quiet (fail)
                        go_wp2_with fail
                        go_roundw
                        case rel => exact ⟨m + 1, by omega, by omega, by go_num, (by repeat (first | exact QW.refl _ | refine QW.d ?_ _)), .inr ⟨m, rfl, HB⟩⟩
                        case measure => simp [intOf]; omega
                      · have HM2 := hid (show ∀ j y, k < j → j < m + 1 → code[j]? = some y → isLab i.label y = false from fun j y hkj hj hy => by
                          rcases Nat.lt_succ_iff_lt_or_eq.1 hj with h | h
                          · exact HM.out j y hkj h hy
                          · subst h; rw [hx] at hy; cases hy; exact isLab_no2 hxl)
                        have zl : ((tx x.label).toList == (tx i.label).toList) = false := tx_eq_false hxl
                        clear hx hx12 hxl
                        go_wp2_with fail
                        go_quiet (fail)
                        go_wp2_with fail
                        go_roundw
                        case rel => exact ⟨m + 1, by omega, by omega, by go_num, (by repeat (first | exact QW.refl _ | refine QW.d ?_ _)), .inl ⟨rfl, HM2⟩⟩
                        case measure => simp [intOf]; omega
                    · have HM2 := hid (show ∀ j y, k < j → j < m + 1 → code[j]? = some y → isLab i.label y = false from fun j y hkj hj hy => by
                        rcases Nat.lt_succ_iff_lt_or_eq.1 hj with h | h
                        · exact HM.out j y hkj h hy
                        · subst h; rw [hx] at hy; cases hy; exact isLab_no1 hx12)
                      have zx : (x.op == 12) = false := by simpa using hx12
                      clear hx hx12
                      go_wp2_with fail
                      go_quiet (fail)
                      go_wp2_with fail
                      go_roundw
                      case rel => exact ⟨m + 1, by omega, by omega, by go_num, (by repeat (first | exact QW.refl _ | refine QW.d ?_ _)), .inl ⟨rfl, HM2⟩⟩
                      case measure => simp [intOf]; omega
                  · have HB := hid (HBAD.out (stepR_nowhere HHI.out H11.out (fun j y hkj hy => HM.out j y hkj (by have := (List.getElem?_eq_some_iff.1 hy).1; have := HN.out; omega) hy)))
                    have QB := QW.below (w := wr) ⟨q, rfl⟩
                    have E := E.trans (QB.mono E.size)
                    clear QB
                    go_wp2_with fail
                    go_ret3
                    exact RetL.nil HB.out rfl E
                · obtain ⟨hs1, hs2⟩ := HGO.out _ HT.out
                  have HS1 := hid hs1; have HS2 := hid hs2
                  have QB := QW.below (w := wr) ⟨q, rfl⟩
                  have E := E.trans (QB.mono E.size)
                  have o := Own.below o QB
                  have ht0 : ¬ ((t : Int) < 0) := by omega
                  have ht1 : decide ((t : Int) < 0) = false := by simp
                  clear hs1 hs2 QB
                  rcases Nat.lt_or_ge m n with hmn2 | hmn2
                  · skip
                    go_wp2_with (at_builtin; go_loud (refine wpList_app1 isl (.tmp 110) (.tmp 112) rfl rfl rfl o rfl rfl (by intro u hu; simp at hu; subst hu; rfl) E E.size (by omega) (by unfold maxLen; omega) ?_))
                    intro a3 c3 w3 o3 g3 B3
                    have o4 : OwnI w3 w.heap.size a3 (k + 1) c3 (outsR code (k + 1)) := by rw [HS2.out]; simpa [OwnI, ints] using o3
                    clear o o3 g3 E HS2
                    go_wp2_with fail
                    go_roundw
                    case rel => exact ⟨k + 1, a3, c3, by omega, by go_num, rfl, o4, HS1, B3⟩
                    case measure => simp [intOf]; omega
                  · skip
                    go_wp2_with (at_builtin; go_loud (refine wpList_app1 isl (.tmp 110) (.tmp 112) rfl rfl rfl o rfl rfl (by intro u hu; simp at hu; subst hu; rfl) E E.size (by omega) (by unfold maxLen; omega) ?_))
                    intro a3 c3 w3 o3 g3 B3
                    have o4 : OwnI w3 w.heap.size a3 (k + 1) c3 (outsR code (k + 1)) := by rw [HS2.out]; simpa [OwnI, ints] using o3
                    clear o o3 g3 E HS2
                    go_wp2_with fail
                    go_roundw
                    case rel => exact ⟨k + 1, a3, c3, by omega, by go_num, rfl, o4, HS1, B3⟩
                    case measure => simp [intOf]; omega
            · have HST := hid (stepR_other hi H12.out h11)
              have z11 : (i.op == 11) = false := by simpa using h11
              obtain ⟨hs1, hs2⟩ := HGO.out _ HST.out
              have HS1 := hid hs1; have HS2 := hid hs2
              clear hs1 hs2 h11 hi
              go_wp2_with (at_builtin; go_loud (refine wpList_app1 isl (.tmp 110) (.tmp 112) rfl rfl rfl o rfl rfl (by intro u hu; simp at hu; subst hu; rfl) E E.size (by omega) (by unfold maxLen; omega) ?_))
              intro a3 c3 w3 o3 g3 B3
              have o4 : OwnI w3 w.heap.size a3 (k + 1) c3 (outsR code (k + 1)) := by rw [HS2.out]; simpa [OwnI, ints] using o3
              clear o o3 g3 E HS2
              go_wp2_with fail
              go_roundw
              case rel => exact ⟨k + 1, a3, c3, by omega, by go_num, rfl, o4, HS1, B3⟩
              case measure => simp [intOf]; omega
        · obtain rfl : k = n := by omega
          have HF := hid (show r = (outsR code k, 0, 0) by rw [← HR.out, linksR_ok (by have := HN.out; omega) HCA.out (fun j hj => HS.out j (by have := HN.out; omega)), HN.out])
          go_wp2_with fail
          go_ret3
          exact RetL.of HF.out rfl (outsR_length _ _) o E
theorem refLinks (code : List Ins) (a : Option Addr) (c : Nat) (hL : ∀ i ∈ code, i.label.length ≤ 9223372036854775807) (w : World) (hI : Is w a code) :
    Calls Tryz.prog 91 #[.slice a code.length c] w (RetL (linksV code) w) := by
  by_cases hl : code.length ≤ 256
  · exact refLinks_short code a c hl hL w hI
  · exact refLinks_long code a c (by omega) w
end Go.Proofs.YthaibjefnclkjaaGreatDoor

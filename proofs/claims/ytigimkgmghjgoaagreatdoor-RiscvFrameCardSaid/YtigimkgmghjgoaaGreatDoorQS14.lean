/- The walk of Links (the document's answer). Conditions: the instructions lie in memory as read; lengths that an int holds. -/
import Derived.Test.YtigimkgmghjgoaaGreatDoorQn
import Derived.Test.YtigimkgmghjgoaaGreatDoorQq
namespace Go.Proofs.YtigimkgmghjgoaaGreatDoor
open Go.RowKit Go.Maps
set_option linter.unusedVariables false

attribute [local go_sem high] eqI neqI

theorem outsR_length (code : List Ins) (k : Nat) : (outsR code k).length = k := by simp [outsR]
theorem outsR_succ (code : List Ins) (k : Nat) : outsR code (k + 1) = outsR code k ++ [(stepR code k).getD (-1)] := by simp [outsR, List.range_succ]
theorem linksR_label {code : List Ins} (h : code.length ≤ 256) (hc : ∀ j (hj : j < code.length), checkI code[j] = true) {k : Nat} (hk : k < code.length) (h1 : stepR code k = none) (h2 : ∀ j, j < k → stepR code j ≠ none) : linksV code = ([], 93, (k : Int)) :=
  linksV_label h hc hk ((step_none code k).2 h1) (fun j hj e => h2 j hj ((step_none code j).1 e))
theorem linksR_ok {code : List Ins} (h : code.length ≤ 256) (hc : ∀ j (hj : j < code.length), checkI code[j] = true) (h2 : ∀ j, j < code.length → stepR code j ≠ none) : linksV code = (outsR code code.length, 0, 0) := by
  have h3 : ∀ j, j < code.length → stepP code j ≠ none := fun j hj e => h2 j hj ((step_none code j).1 e)
  rw [linksV_ok h hc h3, outs_same code h3]
theorem stepR_other {code : List Ins} {k : Nat} {i : Ins} (hi : code[k]? = some i) (h1 : i.op ≠ 12) (h2 : i.op ≠ 11) : stepR code k = some (-1) := by
  unfold stepR; rw [hi]; simp only; rw [if_neg h1, if_neg h2]
theorem stepR_lab {code : List Ins} {k : Nat} {i : Ins} (hi : code[k]? = some i) (h1 : i.op = 12) (h : ∀ j x, j < k → code[j]? = some x → isLab i.label x = false) : stepR code k = some (-1) := by
  unfold stepR; rw [hi]; simp only; rw [if_pos h1, if_neg]
  intro ha
  rw [List.any_eq_true] at ha
  obtain ⟨x, hx, hp⟩ := ha
  obtain ⟨j, hj, he⟩ := List.mem_iff_getElem.1 hx
  simp at hj
  rw [List.getElem_take] at he
  rw [h j x (by omega) (by rw [List.getElem?_eq_getElem (by omega), he])] at hp
  cases hp
theorem stepR_twice {code : List Ins} {k j : Nat} {i x : Ins} (hi : code[k]? = some i) (h1 : i.op = 12) (hj : j < k) (hx : code[j]? = some x) (hp : isLab i.label x = true) : stepR code k = none := by
  unfold stepR; rw [hi]; simp only; rw [if_pos h1, if_pos]
  obtain ⟨hlt, he⟩ := List.getElem?_eq_some_iff.1 hx
  refine List.any_eq_true.2 ⟨x, ?_, hp⟩
  rw [List.mem_take_iff_getElem]
  exact ⟨j, by omega, he⟩
theorem stepR_to {code : List Ins} {k j : Nat} {i x : Ins} (hi : code[k]? = some i) (h1 : i.op = 11) (hj : k < j) (hx : code[j]? = some x) (hp : isLab i.label x = true) (h : ∀ m y, k < m → m < j → code[m]? = some y → isLab i.label y = false) : stepR code k = some (j : Int) := by
  unfold stepR; rw [hi]; simp only; rw [if_neg (by omega), if_pos h1]
  obtain ⟨hlt, he⟩ := List.getElem?_eq_some_iff.1 hx
  have : (code.drop (k + 1)).findIdx? (isLab i.label) = some (j - (k + 1)) := by
    rw [List.findIdx?_eq_some_iff_getElem]
    refine ⟨by simp; omega, ?_, fun m hm => ?_⟩
    · rw [List.getElem_drop]
      have : code[k + 1 + (j - (k + 1))]'(by omega) = x := by
        have e : k + 1 + (j - (k + 1)) = j := by omega
        simp only [e]; exact he
      rw [this]; exact hp
    · rw [List.getElem_drop]
      rw [h (k + 1 + m) _ (by omega) (by omega) (List.getElem?_eq_getElem (by omega))]; simp
  rw [this]
  simp only [Option.map_some]
  congr 2; omega
theorem stepR_nowhere {code : List Ins} {k : Nat} {i : Ins} (hi : code[k]? = some i) (h1 : i.op = 11) (h : ∀ m y, k < m → code[m]? = some y → isLab i.label y = false) : stepR code k = none := by
  unfold stepR; rw [hi]; simp only; rw [if_neg (by omega), if_pos h1]
  have : (code.drop (k + 1)).findIdx? (isLab i.label) = none := by
    rw [List.findIdx?_eq_none_iff]
    intro x hx
    obtain ⟨j, hj, rfl⟩ := List.mem_iff_getElem.1 hx
    rw [List.getElem_drop]
    simp at hj
    exact h (k + 1 + j) _ (by omega) (List.getElem?_eq_getElem (by omega))
  rw [this]; rfl
theorem isLab_no1 {nm : Tx} {x : Ins} (h : x.op ≠ 12) : isLab nm x = false := by
  cases hb : isLab nm x with
  | false => rfl
  | true => exact absurd (isLab_iff.1 hb).1 h
theorem isLab_no2 {nm : Tx} {x : Ins} (h : x.label ≠ nm) : isLab nm x = false := by
  cases hb : isLab nm x with
  | false => rfl
  | true => exact absurd (isLab_iff.1 hb).2 h
set_option maxHeartbeats 1600000 in
theorem refLinks_long (code : List Ins) (a : Option Addr) (c : Nat) (hl : 256 < code.length) (w : World) : Calls Tryz.prog 18 #[.slice a code.length c] w (RetL (linksV code) w) := by
  obtain ⟨r, hr⟩ : ∃ r, linksV code = r := ⟨_, rfl⟩
  rw [hr]
  have HK := hid (show r = ([], 2, 0) by rw [← hr, linksV_full hl])
  have hz : decide (256 < (code.length : Int)) = true := by simp; omega
  generalize code.length = n at *
  clear hr hl
  go_enter Tryz.func18, Tryz.ntmps18
  go_wp2_with fail
  go_ret3
  exact RetL.nil HK.out rfl (Below.refl _ _)
set_option maxRecDepth 100000 in
set_option maxHeartbeats 12800000 in
theorem refLinks_short (code : List Ins) (a : Option Addr) (c : Nat) (hl : code.length ≤ 256) (hL : ∀ i ∈ code, i.label.length ≤ 9223372036854775807) (w : World) (hI : Is w a code) :
    Calls Tryz.prog 18 #[.slice a code.length c] w (RetL (linksV code) w) := by
  obtain ⟨r, hr⟩ : ∃ r, linksV code = r := ⟨_, rfl⟩
  rw [hr]
  have HR := hid hr
  obtain ⟨n, hn⟩ : ∃ n, code.length = n := ⟨_, rfl⟩
  have HN := hid hn
  have HL := hid hL
  have hz : decide (256 < (n : Int)) = false := by simp; omega
  have HIs := hid hI
  have HG := hid (fun (k : Nat) (hk : k < n) => show ∃ i, code[k]? = some i from ⟨_, List.getElem?_eq_getElem (by omega)⟩)
  have hix := hI.idx
  rw [hn] at hix
  have HX := hid hix
  rw [hn] at hl ⊢
  clear hr hL hn hI hix
  go_enter Tryz.func18, Tryz.ntmps18
  go_wp2_with fail
  go_loopw [6] (fun i wr => ∃ k : Nat, k ≤ n ∧ i = .int .i64 k ∧ Hid (∀ j (hj : j < code.length), j < k → checkI code[j] = true) ∧ Below w.heap.size w wr) (fun i _ => n - (intOf i).toNat)
  case atStart => exact ⟨0, by omega, rfl, hid (fun j hj h' => absurd h' (Nat.not_lt_zero j)), Below.refl _ _⟩
  case round =>
    obtain ⟨k, hk, rfl, HC, E⟩ := hrel
    have hI := HIs.out.below E
    by_cases hlt : k < n
    · obtain ⟨i, hi⟩ := HG.out k hlt
      have hik : code[k]'(by have := HN.out; omega) = i := Option.some.inj ((List.getElem?_eq_getElem (by have := HN.out; omega)).symm.trans hi)
      obtain ⟨p0, p1, p2, p3, p4, p5, p6, p7⟩ := hI.cells hi
      have ix := HX.out k hlt
      have CK := hid (fun (w : World) => refCheck i (HL.out i (by rw [← hik]; exact List.getElem_mem _)) w)
      have HI := hid hik
      clear hi hik hI
      cases hck : checkI i
      · have hE := errI_no hck
        rw [hE] at CK
        have HF := hid (show r = ([], 91, (k : Int)) by
          rw [← HR.out]; exact linksV_bad (by have := HN.out; omega) (by have := HN.out; omega) (by rw [HI.out]; exact hck) HC.out)
        clear hE hck
        go_wp2_with fail
        refine (CK.out _).mono ?_
        rintro e w2 ⟨rfl, E2⟩
        have E := E.trans (E2.mono E.size)
        clear p0 p1 p2 p3 p4 p5 p6 p7 ix E2
        go_wp2_with fail
        go_ret3
        exact RetL.nil HF.out rfl E
      · have hE := errI_yes hck
        rw [hE] at CK
        have HC2 := hid (show ∀ j (hj : j < code.length), j < k + 1 → checkI code[j] = true from fun j hj hjk => by
          by_cases hh : j = k
          · subst hh; rw [HI.out]; exact hck
          · exact HC.out j hj (by omega))
        clear hE hck
        go_wp2_with fail
        refine (CK.out _).mono ?_
        rintro e w2 ⟨rfl, E2⟩
        have E := E.trans (E2.mono E.size)
        clear p0 p1 p2 p3 p4 p5 p6 p7 ix E2
        go_wp2_with fail
        go_roundw
        case rel => exact ⟨k + 1, by omega, by go_num, HC2, E⟩
        case measure => simp [intOf]; omega
    · obtain rfl : k = n := by omega
      have HCA := hid (show ∀ j (hj : j < code.length), checkI code[j] = true from fun j hj => HC.out j hj (by have := HN.out; omega))
      clear HC hI hlt hk
      generalize k = n at *
      go_wp2_with fail
      go_loopw [7, 8] (fun o i wr => ∃ (k : Nat) (a' : Option Addr) (c' : Nat), k ≤ n ∧ i = .int .i64 k ∧ o = .slice a' k c' ∧ OwnI wr w.heap.size a' k c' (outsR code k) ∧ Hid (∀ j, j < k → stepR code j ≠ none) ∧ Below w.heap.size w wr) (fun _ i _ => n - (intOf i).toNat)
      case atStart => exact ⟨0, none, 0, by omega, rfl, rfl, Own.nil _ _ _ _, hid (fun j h' => absurd h' (Nat.not_lt_zero j)), E⟩
      case round =>
        clear E
        obtain ⟨k, a', c', hk, rfl, rfl, o, HS, E⟩ := hrel
        have hI := HIs.out.below E
        by_cases hlt : k < n
        · obtain ⟨i, hi⟩ := HG.out k hlt
          obtain ⟨p0, p1, p2, p3, p4, p5, p6, p7⟩ := hI.cells hi
          have ix := HX.out k hlt
          have hcl : k < code.length := by have := HN.out; omega
          have HBAD := hid (fun (h : stepR code k = none) => show r = ([], 93, (k : Int)) from HR.out.symm.trans (linksR_label (by have := HN.out; omega) HCA.out hcl h HS.out))
          have HGO := hid (fun (t : Int) (h : stepR code k = some t) => show (∀ j, j < k + 1 → stepR code j ≠ none) ∧ outsR code (k + 1) = outsR code k ++ [t] from ⟨fun j hj e => by
            by_cases hh : j = k
            · subst hh; rw [h] at e; cases e
            · exact HS.out j (by omega) e, by rw [outsR_succ, h]; rfl⟩)
          have HHI := hid hi
          clear hcl
          by_cases h12 : i.op = 12
          · have H12 := hid h12
            rw [h12] at p0
            have z12 : (i.op == 12) = true := by simpa using h12
            clear h12 hi
            go_wp2_with fail
            go_loopw [10] (fun jv wq => ∃ m : Nat, m ≤ k ∧ jv = .int .i64 m ∧ QW wr wq ∧ Hid (∀ j x, j < m → code[j]? = some x → isLab i.label x = false)) (fun jv _ => k - (intOf jv).toNat)
            case atStart => exact ⟨0, by omega, rfl, QW.refl _, hid (fun j x h => absurd h (Nat.not_lt_zero j))⟩
            case round =>
              obtain ⟨m, hm, rfl, ⟨q, rfl⟩, HM⟩ := hrel
              by_cases hmk : m < k
              · obtain ⟨x, hx⟩ := HG.out m (by omega)
                obtain ⟨x0, x1, x2, x3, x4, x5, x6, x7⟩ := hI.cells hx
                have jx := HX.out m (by omega)
                by_cases hx12 : x.op = 12
                · rw [hx12] at x0
                  by_cases hxl : x.label = i.label
                  · have HB := hid (HBAD.out (stepR_twice HHI.out H12.out hmk hx (isLab_iff.2 ⟨hx12, hxl⟩)))
                    have zl : ((tx x.label).toList == (tx i.label).toList) = true := by rw [tx_beq]; simpa using hxl
                    have zl' : (x.label == i.label) = true := by simpa using hxl
                    clear hx hx12 hxl
                    go_wp2_with fail
                    go_quiet (fail)
                    go_wp2_with fail
                    go_ret3
                    exact RetL.nil HB.out rfl (E.trans ((QW.below ⟨_, by first | rfl | exact World.drewN_drewN _ _ _⟩).mono E.size))
                  · have HM2 := hid (show ∀ j y, j < m + 1 → code[j]? = some y → isLab i.label y = false from fun j y hj hy => by
                      rcases Nat.lt_succ_iff_lt_or_eq.1 hj with h | h
                      · exact HM.out j y h hy
                      · subst h; rw [hx] at hy; cases hy; exact isLab_no2 hxl)
                    have zl : ((tx x.label).toList == (tx i.label).toList) = false := tx_eq_false hxl
                    clear hx hx12 hxl
                    go_wp2_with fail
                    go_quiet (fail)
                    go_wp2_with fail
                    go_roundw
                    case rel => exact ⟨m + 1, by omega, by go_num, (by repeat (first | exact QW.refl _ | refine QW.d ?_ _)), HM2⟩
                    case measure => simp [intOf]; omega
                · have HM2 := hid (show ∀ j y, j < m + 1 → code[j]? = some y → isLab i.label y = false from fun j y hj hy => by
                    rcases Nat.lt_succ_iff_lt_or_eq.1 hj with h | h
                    · exact HM.out j y h hy
                    · subst h; rw [hx] at hy; cases hy; exact isLab_no1 hx12)
                  have zx : (x.op == 12) = false := by simpa using hx12
                  clear hx hx12
                  go_wp2_with fail
                  go_quiet (fail)
                  go_wp2_with fail
                  go_roundw
                  case rel => exact ⟨m + 1, by omega, by go_num, (by repeat (first | exact QW.refl _ | refine QW.d ?_ _)), HM2⟩
                  case measure => simp [intOf]; omega
              · obtain rfl : m = k := by omega
                have HST := hid (stepR_lab HHI.out H12.out HM.out)
                obtain ⟨hs1, hs2⟩ := HGO.out _ HST.out
                have HS1 := hid hs1; have HS2 := hid hs2
                have QB := QW.below (w := wr) ⟨q, rfl⟩
                have E := E.trans (QB.mono E.size)
                have o := Own.below o QB
                clear hs1 hs2 QB
                go_wp2_with (at_builtin; go_loud (refine wpList_app1 isl (.tmp 110) (.tmp 112) rfl rfl rfl o rfl rfl (by intro u hu; simp at hu; subst hu; rfl) E E.size (by omega) (by unfold maxLen; omega) ?_))
                intro a3 c3 w3 o3 g3 B3
                have o4 : OwnI w3 w.heap.size a3 (m + 1) c3 (outsR code (m + 1)) := by rw [HS2.out]; simpa [OwnI, ints] using o3
                clear o o3 g3 E HS2
                go_wp2_with fail
                go_roundw
                case rel => exact ⟨m + 1, a3, c3, by omega, by go_num, rfl, o4, HS1, B3⟩
                case measure => simp [intOf]; omega
          · have z12 : (i.op == 12) = false := by simpa using h12
            have H12 := hid h12
            clear h12
            by_cases h11 : i.op = 11
            · have H11 := hid h11
              rw [h11] at p0
              clear h11 hi z12
              go_wp2_with fail
              go_loopw [9, 11] (fun tv jv wq => ∃ m : Nat, k < m ∧ m ≤ n ∧ jv = .int .i64 m ∧ QW wr wq ∧ ((tv = .int .i64 (-1) ∧ Hid (∀ j y, k < j → j < m → code[j]? = some y → isLab i.label y = false)) ∨ (∃ t : Nat, tv = .int .i64 t ∧ Hid (stepR code k = some (t : Int))))) (fun tv jv _ => n - (intOf jv).toNat)
              case atStart => exact ⟨k + 1, by omega, by omega, by go_num, QW.refl _, .inl ⟨rfl, hid (fun j y h1 h2 => by omega)⟩⟩
              case round =>
                obtain ⟨m, hkm, hm, rfl, ⟨q, rfl⟩, ⟨rfl, HM⟩ | ⟨t, rfl, HT⟩⟩ := hrel
                · by_cases hmn : m < n
                  · obtain ⟨x, hx⟩ := HG.out m hmn
                    obtain ⟨x0, x1, x2, x3, x4, x5, x6, x7⟩ := hI.cells hx
                    have jx := HX.out m hmn
                    by_cases hx12 : x.op = 12
                    · rw [hx12] at x0
                      by_cases hxl : x.label = i.label
                      · have HB := hid (stepR_to HHI.out H11.out hkm hx (isLab_iff.2 ⟨hx12, hxl⟩) HM.out)
                        have zl : ((tx x.label).toList == (tx i.label).toList) = true := by rw [tx_beq]; simpa using hxl
                        clear hx hx12 hxl
                        go_wp2_with fail
                        go_quiet (fail)
                        go_wp2_with fail
                        go_roundw
                        case rel => exact ⟨m + 1, by omega, by omega, by go_num, (by repeat (first | exact QW.refl _ | refine QW.d ?_ _)), .inr ⟨m, rfl, HB⟩⟩
                        case measure => simp [intOf]; omega
                      · have HM2 := hid (show ∀ j y, k < j → j < m + 1 → code[j]? = some y → isLab i.label y = false from fun j y hkj hj hy => by
                          rcases Nat.lt_succ_iff_lt_or_eq.1 hj with h | h
                          · exact HM.out j y hkj h hy
                          · subst h; rw [hx] at hy; cases hy; exact isLab_no2 hxl)
                        have zl : ((tx x.label).toList == (tx i.label).toList) = false := tx_eq_false hxl
                        clear hx hx12 hxl
                        go_wp2_with fail
                        go_quiet (fail)
                        go_wp2_with fail
                        go_roundw
                        case rel => exact ⟨m + 1, by omega, by omega, by go_num, (by repeat (first | exact QW.refl _ | refine QW.d ?_ _)), .inl ⟨rfl, HM2⟩⟩
                        case measure => simp [intOf]; omega
                    · have HM2 := hid (show ∀ j y, k < j → j < m + 1 → code[j]? = some y → isLab i.label y = false from fun j y hkj hj hy => by
                        rcases Nat.lt_succ_iff_lt_or_eq.1 hj with h | h
                        · exact HM.out j y hkj h hy
                        · subst h; rw [hx] at hy; cases hy; exact isLab_no1 hx12)
                      have zx : (x.op == 12) = false := by simpa using hx12
                      clear hx hx12
                      go_wp2_with fail
                      go_quiet (fail)
                      go_wp2_with fail
                      go_roundw
                      case rel => exact ⟨m + 1, by omega, by omega, by go_num, (by repeat (first | exact QW.refl _ | refine QW.d ?_ _)), .inl ⟨rfl, HM2⟩⟩
                      case measure => simp [intOf]; omega
                  · have HB := hid (HBAD.out (stepR_nowhere HHI.out H11.out (fun j y hkj hy => HM.out j y hkj (by have := (List.getElem?_eq_some_iff.1 hy).1; have := HN.out; omega) hy)))
                    have QB := QW.below (w := wr) ⟨q, rfl⟩
                    have E := E.trans (QB.mono E.size)
                    clear QB
                    go_wp2_with fail
                    go_ret3
                    exact RetL.nil HB.out rfl E
                · obtain ⟨hs1, hs2⟩ := HGO.out _ HT.out
                  have HS1 := hid hs1; have HS2 := hid hs2
                  have QB := QW.below (w := wr) ⟨q, rfl⟩
                  have E := E.trans (QB.mono E.size)
                  have o := Own.below o QB
                  have ht0 : ¬ ((t : Int) < 0) := by omega
                  have ht1 : decide ((t : Int) < 0) = false := by simp
                  clear hs1 hs2 QB
                  rcases Nat.lt_or_ge m n with hmn2 | hmn2
                  · skip
                    go_wp2_with (at_builtin; go_loud (refine wpList_app1 isl (.tmp 110) (.tmp 112) rfl rfl rfl o rfl rfl (by intro u hu; simp at hu; subst hu; rfl) E E.size (by omega) (by unfold maxLen; omega) ?_))
                    intro a3 c3 w3 o3 g3 B3
                    have o4 : OwnI w3 w.heap.size a3 (k + 1) c3 (outsR code (k + 1)) := by rw [HS2.out]; simpa [OwnI, ints] using o3
                    clear o o3 g3 E HS2
                    go_wp2_with fail
                    go_roundw
                    case rel => exact ⟨k + 1, a3, c3, by omega, by go_num, rfl, o4, HS1, B3⟩
                    case measure => simp [intOf]; omega
                  · skip
                    go_wp2_with (at_builtin; go_loud (refine wpList_app1 isl (.tmp 110) (.tmp 112) rfl rfl rfl o rfl rfl (by intro u hu; simp at hu; subst hu; rfl) E E.size (by omega) (by unfold maxLen; omega) ?_))
                    intro a3 c3 w3 o3 g3 B3
                    have o4 : OwnI w3 w.heap.size a3 (k + 1) c3 (outsR code (k + 1)) := by rw [HS2.out]; simpa [OwnI, ints] using o3
                    clear o o3 g3 E HS2
                    go_wp2_with fail
                    go_roundw
                    case rel => exact ⟨k + 1, a3, c3, by omega, by go_num, rfl, o4, HS1, B3⟩
                    case measure => simp [intOf]; omega
            · have HST := hid (stepR_other hi H12.out h11)
              have z11 : (i.op == 11) = false := by simpa using h11
              obtain ⟨hs1, hs2⟩ := HGO.out _ HST.out
              have HS1 := hid hs1; have HS2 := hid hs2
              clear hs1 hs2 h11 hi
              go_wp2_with (at_builtin; go_loud (refine wpList_app1 isl (.tmp 110) (.tmp 112) rfl rfl rfl o rfl rfl (by intro u hu; simp at hu; subst hu; rfl) E E.size (by omega) (by unfold maxLen; omega) ?_))
              intro a3 c3 w3 o3 g3 B3
              have o4 : OwnI w3 w.heap.size a3 (k + 1) c3 (outsR code (k + 1)) := by rw [HS2.out]; simpa [OwnI, ints] using o3
              clear o o3 g3 E HS2
              go_wp2_with fail
              go_roundw
              case rel => exact ⟨k + 1, a3, c3, by omega, by go_num, rfl, o4, HS1, B3⟩
              case measure => simp [intOf]; omega
        · obtain rfl : k = n := by omega
          have HF := hid (show r = (outsR code k, 0, 0) by rw [← HR.out, linksR_ok (by have := HN.out; omega) HCA.out (fun j hj => HS.out j (by have := HN.out; omega)), HN.out])
          go_wp2_with fail
          go_ret3
          exact RetL.of HF.out rfl (outsR_length _ _) o E
theorem refLinks (code : List Ins) (a : Option Addr) (c : Nat) (hL : ∀ i ∈ code, i.label.length ≤ 9223372036854775807) (w : World) (hI : Is w a code) :
    Calls Tryz.prog 18 #[.slice a code.length c] w (RetL (linksV code) w) := by
  by_cases hl : code.length ≤ 256
  · exact refLinks_short code a c hl hL w hI
  · exact refLinks_long code a c (by omega) w
end Go.Proofs.YtigimkgmghjgoaaGreatDoor

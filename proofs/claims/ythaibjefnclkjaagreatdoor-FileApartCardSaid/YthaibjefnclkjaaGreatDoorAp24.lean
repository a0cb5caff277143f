/- The walk of Links (the document's answer). Conditions: the instructions lie in memory as read; lengths that an int holds. The walks of instr and coded (document). Conditions: the test lies in memory as read. -/
import Derived.Test.YthaibjefnclkjaaGreatDoorAp23
set_option linter.unusedVariables false
set_option maxRecDepth 100000
set_option maxHeartbeats 12800000
namespace Go.Proofs.YthaibjefnclkjaaGreatDoor
open Go.RowKit Go.Maps
attribute [local go_sem high] eqI neqI
theorem outsR_length (code:List Ins) (k:Nat):(outsR code k).length=k:=by simp [outsR]
theorem outsR_succ (code:List Ins) (k:Nat):outsR code (k+1)=outsR code k++[(stepR code k).getD (-1)]:=by simp [outsR,List.range_succ]
theorem linksR_label {code:List Ins} (h:code.length≤256) (hc : ∀ j (hj:j<code.length),checkI code[j]=true) {k:Nat} (hk:k<code.length) (h1:stepR code k=none) (h2 : ∀ j,j<k→stepR code j≠none):linksV code=([],93,(k:Int)) :=
 linksV_label h hc hk ((step_none code k).2 h1) (fun j hj e=>h2 j hj ((step_none code j).1 e))
theorem linksR_ok {code:List Ins} (h:code.length≤256) (hc : ∀ j (hj:j<code.length),checkI code[j]=true) (h2 : ∀ j,j<code.length→stepR code j≠none):linksV code=(outsR code code.length,0,0):=by
 have h3 : ∀ j,j<code.length→stepP code j≠none:=fun j hj e=>h2 j hj ((step_none code j).1 e)
 rw [linksV_ok h hc h3,outs_same code h3]
theorem stepR_other {code:List Ins} {k:Nat} {i:Ins} (hi:code[k]? = some i) (h1:i.op≠12) (h2:i.op≠11):stepR code k=some (-1):=by
 unfold stepR;rw [hi];simp only;rw [if_neg h1,if_neg h2]
theorem stepR_lab {code:List Ins} {k:Nat} {i:Ins} (hi:code[k]? = some i) (h1:i.op=12) (h : ∀ j x,j<k→code[j]? = some x→isLab i.label x=false):stepR code k=some (-1):=by
 unfold stepR;rw [hi];simp only;rw [if_pos h1,if_neg]
 intro ha
 rw [List.any_eq_true] at ha
 obtain ⟨x,hx,hp⟩:=ha
 obtain ⟨j,hj,he⟩:=List.mem_iff_getElem.1 hx
 simp at hj
 rw [List.getElem_take] at he
 rw [h j x (by omega) (by rw [List.getElem?_eq_getElem (by omega),he])] at hp
 cases hp
theorem stepR_twice {code:List Ins} {k j:Nat} {i x:Ins} (hi:code[k]? = some i) (h1:i.op=12) (hj:j<k) (hx:code[j]? = some x) (hp:isLab i.label x=true):stepR code k=none:=by
 unfold stepR;rw [hi];simp only;rw [if_pos h1,if_pos]
 obtain ⟨hlt,he⟩:=List.getElem?_eq_some_iff.1 hx
 refine List.any_eq_true.2 ⟨x,?_,hp⟩
 rw [List.mem_take_iff_getElem]
 exact ⟨j,by omega,he⟩
theorem stepR_to {code:List Ins} {k j:Nat} {i x:Ins} (hi:code[k]? = some i) (h1:i.op=11) (hj:k<j) (hx:code[j]? = some x) (hp:isLab i.label x=true) (h : ∀ m y,k<m→m<j→code[m]? = some y→isLab i.label y=false):stepR code k=some (j:Int):=by
 unfold stepR;rw [hi];simp only;rw [if_neg (by omega),if_pos h1]
 obtain ⟨hlt,he⟩:=List.getElem?_eq_some_iff.1 hx
 have:(code.drop (k+1)).findIdx? (isLab i.label)=some (j-(k+1)):=by
  rw [List.findIdx?_eq_some_iff_getElem]
  refine ⟨by simp;omega,?_,fun m hm=>?_⟩
  ·rw [List.getElem_drop]
   have:code[k+1+(j-(k+1))]'(by omega)=x:=by
    have e:k+1+(j-(k+1))=j:=by omega
    simp only [e];exact he
   rw [this];exact hp
  ·rw [List.getElem_drop]
   rw [h (k+1+m) _ (by omega) (by omega) (List.getElem?_eq_getElem (by omega))];simp
 rw [this]
 simp only [Option.map_some]
 congr 2;omega
theorem stepR_nowhere {code:List Ins} {k:Nat} {i:Ins} (hi:code[k]? = some i) (h1:i.op=11) (h : ∀ m y,k<m→code[m]? = some y→isLab i.label y=false):stepR code k=none:=by
 unfold stepR;rw [hi];simp only;rw [if_neg (by omega),if_pos h1]
 have:(code.drop (k+1)).findIdx? (isLab i.label)=none:=by
  rw [List.findIdx?_eq_none_iff]
  intro x hx
  obtain ⟨j,hj,rfl⟩:=List.mem_iff_getElem.1 hx
  rw [List.getElem_drop]
  simp at hj
  exact h (k+1+j) _ (by omega) (List.getElem?_eq_getElem (by omega))
 rw [this];rfl
theorem isLab_no1 {nm:Tx} {x:Ins} (h:x.op≠12):isLab nm x=false:=by
 cases hb:isLab nm x with
 | false=>rfl
 | true=>exact absurd (isLab_iff.1 hb).1 h
theorem isLab_no2 {nm:Tx} {x:Ins} (h:x.label≠nm):isLab nm x=false:=by
 cases hb:isLab nm x with
 | false=>rfl
 | true=>exact absurd (isLab_iff.1 hb).2 h
theorem refLinks_long (code:List Ins) (a:Option Addr) (c:Nat) (hl:256<code.length) (w:World):Calls Tryz.prog 91 #[.slice a code.length c] w (RetL (linksV code) w):=by
 obtain ⟨r,hr⟩ : ∃ r,linksV code=r:=⟨_,rfl⟩
 rw [hr]
 have HK:=hid (show r=([],2,0) by rw [← hr,linksV_full hl])
 have hz:decide (256<(code.length:Int))=true:=by simp;omega
 generalize code.length=n at *
 clear hr hl
 go_enter Tryz.func91,Tryz.ntmps91
 go_wp2_with fail
 go_ret3
 exact RetL.nil HK.out rfl (Below.refl _ _)
theorem refLinks_short (code : List Ins) (a : Option Addr) (c : Nat) (hl : code.length ≤ 256) (hL : ∀ i ∈ code, i.label.length ≤ 9223372036854775807) (w : World) (hI : Is w a code) :
    Calls Tryz.prog 91 #[.slice a code.length c] w (RetL (linksV code) w) := by
  obtain ⟨r, hr⟩ : ∃ r, linksV code = r := ⟨_, rfl⟩
  rw [hr]
  have HR := hid hr
  obtain ⟨n, hn⟩ : ∃ n, code.length = n := ⟨_, rfl⟩
  have HN := hid hn
  have HL := hid hL
  have hz : decide (256 < (n : Int)) = false := by simp; omega
  have HIs := hid hI
  have HG := hid (fun (k : Nat) (hk : k < n) => show ∃ i, code[k]? = some i from ⟨_, List.getElem?_eq_getElem (by omega)⟩)
  have hix := hI.idx
  rw [hn] at hix
  have HX := hid hix
  rw [hn] at hl ⊢
  clear hr hL hn hI hix
  go_enter Tryz.func91, Tryz.ntmps91
  go_wp2_with fail
  go_loopw [6] (fun i wr => ∃ k : Nat, k ≤ n ∧ i = .int .i64 k ∧ Hid (∀ j (hj : j < code.length), j < k → checkI code[j] = true) ∧ Below w.heap.size w wr) (fun i _ => n - (intOf i).toNat)
  case atStart => exact ⟨0, by omega, rfl, hid (fun j hj h' => absurd h' (Nat.not_lt_zero j)), Below.refl _ _⟩
  case round =>
    obtain ⟨k, hk, rfl, HC, E⟩ := hrel
    have hI := HIs.out.below E
    by_cases hlt : k < n
    · obtain ⟨i, hi⟩ := HG.out k hlt
      have hik : code[k]'(by have := HN.out; omega) = i := Option.some.inj ((List.getElem?_eq_getElem (by have := HN.out; omega)).symm.trans hi)
      obtain ⟨p0, p1, p2, p3, p4, p5, p6, p7⟩ := hI.cells hi
      have ix := HX.out k hlt
      have CK := hid (fun (w : World) => refCheck i (HL.out i (by rw [← hik]; exact List.getElem_mem _)) w)
      have HI := hid hik
      clear hi hik hI
      cases hck : checkI i
      · have hE := errI_no hck
        rw [hE] at CK
        have HF := hid (show r = ([], 91, (k : Int)) by
          rw [← HR.out]; exact linksV_bad (by have := HN.out; omega) (by have := HN.out; omega) (by rw [HI.out]; exact hck) HC.out)
        clear hE hck
        go_wp2_with fail
        refine (CK.out _).mono ?_
        rintro e w2 ⟨rfl, E2⟩
        have E := E.trans (E2.mono E.size)
        clear p0 p1 p2 p3 p4 p5 p6 p7 ix E2
        go_wp2_with fail
        go_ret3
        exact RetL.nil HF.out rfl E
      · have hE := errI_yes hck
        rw [hE] at CK
        have HC2 := hid (show ∀ j (hj : j < code.length), j < k + 1 → checkI code[j] = true from fun j hj hjk => by
          by_cases hh : j = k
          · subst hh; rw [HI.out]; exact hck
          · exact HC.out j hj (by omega))
        clear hE hck
        go_wp2_with fail
        refine (CK.out _).mono ?_
        rintro e w2 ⟨rfl, E2⟩
        have E := E.trans (E2.mono E.size)
        clear p0 p1 p2 p3 p4 p5 p6 p7 ix E2
        go_wp2_with fail
        go_roundw
        case rel => exact ⟨k + 1, by omega, by go_num, HC2, E⟩
        case measure => simp [intOf]; omega
    · obtain rfl : k = n := by omega
      have HCA := hid (show ∀ j (hj : j < code.length), checkI code[j] = true from fun j hj => HC.out j hj (by have := HN.out; omega))
      clear HC hI hlt hk
      generalize k = n at *
      go_wp2_with fail
      go_loopw [7, 8] (fun o i wr => ∃ (k : Nat) (a' : Option Addr) (c' : Nat), k ≤ n ∧ i = .int .i64 k ∧ o = .slice a' k c' ∧ OwnI wr w.heap.size a' k c' (outsR code k) ∧ Hid (∀ j, j < k → stepR code j ≠ none) ∧ Below w.heap.size w wr) (fun _ i _ => n - (intOf i).toNat)
      case atStart => exact ⟨0, none, 0, by omega, rfl, rfl, Own.nil _ _ _ _, hid (fun j h' => absurd h' (Nat.not_lt_zero j)), E⟩
      case round =>
        clear E
        obtain ⟨k, a', c', hk, rfl, rfl, o, HS, E⟩ := hrel
        have hI := HIs.out.below E
        by_cases hlt : k < n
        · obtain ⟨i, hi⟩ := HG.out k hlt
          obtain ⟨p0, p1, p2, p3, p4, p5, p6, p7⟩ := hI.cells hi
          have ix := HX.out k hlt
          have hcl : k < code.length := by have := HN.out; omega
          have HBAD := hid (fun (h : stepR code k = none) => show r = ([], 93, (k : Int)) from HR.out.symm.trans (linksR_label (by have := HN.out; omega) HCA.out hcl h HS.out))
          have HGO := hid (fun (t : Int) (h : stepR code k = some t) => show (∀ j, j < k + 1 → stepR code j ≠ none) ∧ outsR code (k + 1) = outsR code k ++ [t] from ⟨fun j hj e => by
            by_cases hh : j = k
            · subst hh; rw [h] at e; cases e
            · exact HS.out j (by omega) e, by rw [outsR_succ, h]; rfl⟩)
          have HHI := hid hi
          clear hcl
          by_cases h12 : i.op = 12
          · have H12 := hid h12
            rw [h12] at p0
            have z12 : (i.op == 12) = true := by simpa using h12
            clear h12 hi
            go_wp2_with fail
            go_loopw [10] (fun jv wq => ∃ m : Nat, m ≤ k ∧ jv = .int .i64 m ∧ QW wr wq ∧ Hid (∀ j x, j < m → code[j]? = some x → isLab i.label x = false)) (fun jv _ => k - (intOf jv).toNat)
            case atStart => exact ⟨0, by omega, rfl, QW.refl _, hid (fun j x h => absurd h (Nat.not_lt_zero j))⟩
            case round =>
              obtain ⟨m, hm, rfl, ⟨q, rfl⟩, HM⟩ := hrel
              by_cases hmk : m < k
              · obtain ⟨x, hx⟩ := HG.out m (by omega)
                obtain ⟨x0, x1, x2, x3, x4, x5, x6, x7⟩ := hI.cells hx
                have jx := HX.out m (by omega)
                by_cases hx12 : x.op = 12
                · rw [hx12] at x0
                  by_cases hxl : x.label = i.label
                  · have HB := hid (HBAD.out (stepR_twice HHI.out H12.out hmk hx (isLab_iff.2 ⟨hx12, hxl⟩)))
                    have zl : ((tx x.label).toList == (tx i.label).toList) = true := by rw [tx_beq]; simpa using hxl
                    have zl' : (x.label == i.label) = true := by simpa using hxl
                    clear hx hx12 hxl
                    go_wp2_with fail
                    go_quiet (fail)
                    go_wp2_with fail
                    go_ret3
                    exact RetL.nil HB.out rfl (E.trans ((QW.below ⟨_, by first | rfl | exact World.drewN_drewN _ _ _⟩).mono E.size))
                  · have HM2 := hid (show ∀ j y, j < m + 1 → code[j]? = some y → isLab i.label y = false from fun j y hj hy => by
                      rcases Nat.lt_succ_iff_lt_or_eq.1 hj with h | h
                      · exact HM.out j y h hy
                      · subst h; rw [hx] at hy; cases hy; exact isLab_no2 hxl)
                    have zl : ((tx x.label).toList == (tx i.label).toList) = false := tx_eq_false hxl
                    clear hx hx12 hxl
                    go_wp2_with fail
                    go_quiet (fail)
                    go_wp2_with fail
                    go_roundw
                    case rel => exact ⟨m + 1, by omega, by go_num, (by repeat (first | exact QW.refl _ | refine QW.d ?_ _)), HM2⟩
                    case measure => simp [intOf]; omega
                · have HM2 := hid (show ∀ j y, j < m + 1 → code[j]? = some y → isLab i.label y = false from fun j y hj hy => by
                    rcases Nat.lt_succ_iff_lt_or_eq.1 hj with h | h
                    · exact HM.out j y h hy
                    · subst h; rw [hx] at hy; cases hy; exact isLab_no1 hx12)
                  have zx : (x.op == 12) = false := by simpa using hx12
                  clear hx hx12
                  go_wp2_with fail
                  go_quiet (fail)
                  go_wp2_with fail
                  go_roundw
                  case rel => exact ⟨m + 1, by omega, by go_num, (by repeat (first | exact QW.refl _ | refine QW.d ?_ _)), HM2⟩
                  case measure => simp [intOf]; omega
              · obtain rfl : m = k := by omega
                have HST := hid (stepR_lab HHI.out H12.out HM.out)
                obtain ⟨hs1, hs2⟩ := HGO.out _ HST.out
                have HS1 := hid hs1; have HS2 := hid hs2
                have QB := QW.below (w := wr) ⟨q, rfl⟩
                have E := E.trans (QB.mono E.size)
                have o := Own.below o QB
                clear hs1 hs2 QB
                go_wp2_with (at_builtin; go_loud (refine wpList_app1 isl (.tmp 110) (.tmp 112) rfl rfl rfl o rfl rfl (by intro u hu; simp at hu; subst hu; rfl) E E.size (by omega) (by unfold maxLen; omega) ?_))
                intro a3 c3 w3 o3 g3 B3
                have o4 : OwnI w3 w.heap.size a3 (m + 1) c3 (outsR code (m + 1)) := by rw [HS2.out]; simpa [OwnI, ints] using o3
                clear o o3 g3 E HS2
                go_wp2_with fail
                go_roundw
                case rel => exact ⟨m + 1, a3, c3, by omega, by go_num, rfl, o4, HS1, B3⟩
                case measure => simp [intOf]; omega
          · have z12 : (i.op == 12) = false := by simpa using h12
            have H12 := hid h12
            clear h12
            by_cases h11 : i.op = 11
            · have H11 := hid h11
              rw [h11] at p0
              clear h11 hi z12
              go_wp2_with fail
              go_loopw [9, 11] (fun tv jv wq => ∃ m : Nat, k < m ∧ m ≤ n ∧ jv = .int .i64 m ∧ QW wr wq ∧ ((tv = .int .i64 (-1) ∧ Hid (∀ j y, k < j → j < m → code[j]? = some y → isLab i.label y = false)) ∨ (∃ t : Nat, tv = .int .i64 t ∧ Hid (stepR code k = some (t : Int))))) (fun tv jv _ => n - (intOf jv).toNat)
              case atStart => exact ⟨k + 1, by omega, by omega, by go_num, QW.refl _, .inl ⟨rfl, hid (fun j y h1 h2 => by omega)⟩⟩
              case round =>
                obtain ⟨m, hkm, hm, rfl, ⟨q, rfl⟩, ⟨rfl, HM⟩ | ⟨t, rfl, HT⟩⟩ := hrel
                · by_cases hmn : m < n
                  · obtain ⟨x, hx⟩ := HG.out m hmn
                    obtain ⟨x0, x1, x2, x3, x4, x5, x6, x7⟩ := hI.cells hx
                    have jx := HX.out m hmn
                    by_cases hx12 : x.op = 12
                    · rw [hx12] at x0
                      by_cases hxl : x.label = i.label
                      · have HB := hid (stepR_to HHI.out H11.out hkm hx (isLab_iff.2 ⟨hx12, hxl⟩) HM.out)
                        have zl : ((tx x.label).toList == (tx i.label).toList) = true := by rw [tx_beq]; simpa using hxl
                        clear hx hx12 hxl
                        go_wp2_with fail
                        go_quiet (fail)
                        go_wp2_with fail
                        go_roundw
                        case rel => exact ⟨m + 1, by omega, by omega, by go_num, (by repeat (first | exact QW.refl _ | refine QW.d ?_ _)), .inr ⟨m, rfl, HB⟩⟩
                        case measure => simp [intOf]; omega
                      · have HM2 := hid (show ∀ j y, k < j → j < m + 1 → code[j]? = some y → isLab i.label y = false from fun j y hkj hj hy => by
                          rcases Nat.lt_succ_iff_lt_or_eq.1 hj with h | h
                          · exact HM.out j y hkj h hy
                          · subst h; rw [hx] at hy; cases hy; exact isLab_no2 hxl)
                        have zl : ((tx x.label).toList == (tx i.label).toList) = false := tx_eq_false hxl
                        clear hx hx12 hxl
                        go_wp2_with fail
                        go_quiet (fail)
                        go_wp2_with fail
                        go_roundw
                        case rel => exact ⟨m + 1, by omega, by omega, by go_num, (by repeat (first | exact QW.refl _ | refine QW.d ?_ _)), .inl ⟨rfl, HM2⟩⟩
                        case measure => simp [intOf]; omega
                    · have HM2 := hid (show ∀ j y, k < j → j < m + 1 → code[j]? = some y → isLab i.label y = false from fun j y hkj hj hy => by
                        rcases Nat.lt_succ_iff_lt_or_eq.1 hj with h | h
                        · exact HM.out j y hkj h hy
                        · subst h; rw [hx] at hy; cases hy; exact isLab_no1 hx12)
                      have zx : (x.op == 12) = false := by simpa using hx12
                      clear hx hx12
                      go_wp2_with fail
                      go_quiet (fail)
                      go_wp2_with fail
                      go_roundw
                      case rel => exact ⟨m + 1, by omega, by omega, by go_num, (by repeat (first | exact QW.refl _ | refine QW.d ?_ _)), .inl ⟨rfl, HM2⟩⟩
                      case measure => simp [intOf]; omega
                  · have HB := hid (HBAD.out (stepR_nowhere HHI.out H11.out (fun j y hkj hy => HM.out j y hkj (by have := (List.getElem?_eq_some_iff.1 hy).1; have := HN.out; omega) hy)))
                    have QB := QW.below (w := wr) ⟨q, rfl⟩
                    have E := E.trans (QB.mono E.size)
                    clear QB
                    go_wp2_with fail
                    go_ret3
                    exact RetL.nil HB.out rfl E
                · obtain ⟨hs1, hs2⟩ := HGO.out _ HT.out
                  have HS1 := hid hs1; have HS2 := hid hs2
                  have QB := QW.below (w := wr) ⟨q, rfl⟩
                  have E := E.trans (QB.mono E.size)
                  have o := Own.below o QB
                  have ht0 : ¬ ((t : Int) < 0) := by omega
                  have ht1 : decide ((t : Int) < 0) = false := by simp
                  clear hs1 hs2 QB
                  rcases Nat.lt_or_ge m n with hmn2 | hmn2
                  · skip
                    go_wp2_with (at_builtin; go_loud (refine wpList_app1 isl (.tmp 110) (.tmp 112) rfl rfl rfl o rfl rfl (by intro u hu; simp at hu; subst hu; rfl) E E.size (by omega) (by unfold maxLen; omega) ?_))
                    intro a3 c3 w3 o3 g3 B3
                    have o4 : OwnI w3 w.heap.size a3 (k + 1) c3 (outsR code (k + 1)) := by rw [HS2.out]; simpa [OwnI, ints] using o3
                    clear o o3 g3 E HS2
                    go_wp2_with fail
                    go_roundw
                    case rel => exact ⟨k + 1, a3, c3, by omega, by go_num, rfl, o4, HS1, B3⟩
                    case measure => simp [intOf]; omega
                  · skip
                    go_wp2_with (at_builtin; go_loud (refine wpList_app1 isl (.tmp 110) (.tmp 112) rfl rfl rfl o rfl rfl (by intro u hu; simp at hu; subst hu; rfl) E E.size (by omega) (by unfold maxLen; omega) ?_))
                    intro a3 c3 w3 o3 g3 B3
                    have o4 : OwnI w3 w.heap.size a3 (k + 1) c3 (outsR code (k + 1)) := by rw [HS2.out]; simpa [OwnI, ints] using o3
                    clear o o3 g3 E HS2
                    go_wp2_with fail
                    go_roundw
                    case rel => exact ⟨k + 1, a3, c3, by omega, by go_num, rfl, o4, HS1, B3⟩
                    case measure => simp [intOf]; omega
            · have HST := hid (stepR_other hi H12.out h11)
              have z11 : (i.op == 11) = false := by simpa using h11
              obtain ⟨hs1, hs2⟩ := HGO.out _ HST.out
              have HS1 := hid hs1; have HS2 := hid hs2
              clear hs1 hs2 h11 hi
              go_wp2_with (at_builtin; go_loud (refine wpList_app1 isl (.tmp 110) (.tmp 112) rfl rfl rfl o rfl rfl (by intro u hu; simp at hu; subst hu; rfl) E E.size (by omega) (by unfold maxLen; omega) ?_))
              intro a3 c3 w3 o3 g3 B3
              have o4 : OwnI w3 w.heap.size a3 (k + 1) c3 (outsR code (k + 1)) := by rw [HS2.out]; simpa [OwnI, ints] using o3
              clear o o3 g3 E HS2
              go_wp2_with fail
              go_roundw
              case rel => exact ⟨k + 1, a3, c3, by omega, by go_num, rfl, o4, HS1, B3⟩
              case measure => simp [intOf]; omega
        · obtain rfl : k = n := by omega
          have HF := hid (show r = (outsR code k, 0, 0) by rw [← HR.out, linksR_ok (by have := HN.out; omega) HCA.out (fun j hj => HS.out j (by have := HN.out; omega)), HN.out])
          go_wp2_with fail
          go_ret3
          exact RetL.of HF.out rfl (outsR_length _ _) o E
theorem refLinks (code:List Ins) (a:Option Addr) (c:Nat) (hL : ∀ i∈code,i.label.length≤9223372036854775807) (w:World) (hI:Is w a code) :
  Calls Tryz.prog 91 #[.slice a code.length c] w (RetL (linksV code) w):=by
 by_cases hl:code.length≤256
 ·exact refLinks_short code a c hl hL w hI
 ·exact refLinks_long code a c (by omega) w
end Go.Proofs.YthaibjefnclkjaaGreatDoor
namespace Go.Proofs.YthaibjefnclkjaaGreatDoor
open Go.RowKit Go.Sort
theorem r13Instr_1 (i:Ins) (h1:i.loc.length≤9223372036854775807) (h2:i.label.length≤9223372036854775807) (w:World):Calls Tryz.prog 90 #[.int .i64 1,vI i] w (Ret w (.int .i64 (errX i))):=by
 have A:=al w (mkI i)
 obtain ⟨c0,c1,c2,c3,c4,c5,c6,c7⟩:=(BxI.new w i).cells
 have CK:=hid (fun w=>r9Check i h1 w)
 generalize errX i=e at *
 go_enter Tryz.func90,Tryz.ntmps90
 go_wp2_with fail
 refine (CK.out _).mono ?_
 rintro ee w1 ⟨rfl,E⟩
 have B:=A.trans (E.mono A.size)
 go_wp2_with fail
 go_ret
 exact ⟨rfl,B⟩
theorem r13Coded_1 (t:Tst) (ha:t.arch=1) (w:World) (h:TsIn w t):Calls Tryz.prog 52 #[vT t] w (Ret w (.int .i64 (codedE t))):=by
 have A:=al w (mkT t)
 have b0:=BxT.new w t
 have HI:=hid (h.keep A)
 have HA:=hid A
 have HAr:=hid ha
 have hcl:=h.code.len
 clear ha
 by_cases hn:t.code.length<1∨16<t.code.length
 ·rw [codedE_n hn]
  obtain ⟨c0,c1,c2,c3,c4,c5,c6,c7,c8,c9,c10,c11⟩:=b0.cells
  clear h A
  rcases hn with hn|hn
  all_goals
   go_enter Tryz.func52,Tryz.ntmps52
   go_wp2_with fail
   go_ret
   exact ⟨rfl,HA.out⟩
 ·have h1:1≤t.code.length:=by omega
  have h16:t.code.length≤16:=by omega
  have HNN:=hid hn
  clear hn h A
  go_enter Tryz.func52,Tryz.ntmps52
  go_upto_region 1 with (fail)
  generalize w.alloc (mkT t)=W1 at *
  obtain ⟨c0,c1,c2,c3,c4,c5,c6,c7,c8,c9,c10,c11⟩:=b0.cells
  go_wp2_with fail
  clear c0 c1 c2 c3 c4 c5 c6 c7 c8 c9 c10 c11
  go_loopw [3] (fun i wr=>∃ k:Nat,k≤t.code.length∧i = .int .i64 k∧Below W1.heap.size W1 wr∧Hid (∀ (j:Nat) (x:Cd),j<k→t.code[j]? = some x→x.l.length≤256)) (fun i _=>t.code.length-(intOf i).toNat)
  case atStart=>exact ⟨0,by omega,rfl,Below.refl _ _,fun j x hj=>absurd hj (Nat.not_lt_zero j)⟩
  case round =>
   obtain ⟨k,hk,rfl,E,HK⟩:=hrel
   obtain ⟨c0,c1,c2,c3,c4,c5,c6,c7,c8,c9,c10,c11⟩:=(b0.below E).cells
   by_cases hlt:k<t.code.length
   ·obtain ⟨x,hx⟩ : ∃ x,t.code[k]? = some x:=⟨_,List.getElem?_eq_getElem hlt⟩
    have p0:=(HI.out.code.below E).cd hx
    have ix:=HI.out.code.cdx k hlt t.cc
    have hxl:=(HI.out.rows x (List.mem_of_getElem? hx)).is.len
    have HX:=hid hx
    clear hx
    by_cases hl:256<x.l.length
    ·have HZ:=hid (codedE_long HNN.out HX.out hl)
     go_wp2_with fail
     go_ret
     rw [HZ.out]
     exact ⟨rfl,HA.out.trans (E.mono HA.out.size)⟩
    ·have hl':x.l.length≤256:=by omega
     have HK2 : ∀ (j:Nat) (y:Cd),j<k+1→t.code[j]? = some y→y.l.length≤256:=fun j y hj hy=>by
      rcases Nat.lt_succ_iff_lt_or_eq.1 hj with h|h
      ·exact HK.out j y h hy
      ·subst h;rw [HX.out] at hy;cases hy;exact hl'
     have HK2:=hid HK2
     clear HK hl
     go_wp2_with fail
     go_roundw
     case rel=>exact ⟨k+1,by omega,by go_num,E,HK2⟩
     case measure=>simp [intOf];omega
   ·obtain rfl:k=t.code.length:=by omega
    have HR:=hid (codedE_rows HNN.out (fun k x hx=>HK.out k x (List.getElem?_eq_some_iff.1 hx).1 hx))
    have HL:=hid (fun (k:Nat) (x:Cd) (hx:t.code[k]? = some x)=>HK.out k x (List.getElem?_eq_some_iff.1 hx).1 hx)
    clear HK hk hlt
    go_wp2_with fail
    clear c0 c1 c2 c3 c4 c5 c6 c7 c8 c9 c10 c11
    go_loopw [4] (fun i wr2=>∃ k:Nat,k≤t.code.length∧i = .int .i64 k∧Below W1.heap.size W1 wr2∧Hid (rowsE 1 (t.code.drop k)=codedE t)) (fun i _=>t.code.length-(intOf i).toNat)
    case atStart=>exact ⟨0,by omega,rfl,E,by rw [List.drop_zero];exact (HR.out.trans (by rw [HAr.out])).symm⟩
    case round =>
     clear E
     obtain ⟨k,hk,rfl,E,HD⟩:=hrel
     obtain ⟨c0,c1,c2,c3,c4,c5,c6,c7,c8,c9,c10,c11⟩:=(b0.below E).cells
     by_cases hlt:k<t.code.length
     ·obtain ⟨x,hx⟩ : ∃ x,t.code[k]? = some x:=⟨_,List.getElem?_eq_getElem hlt⟩
      have ix:=HI.out.code.cdx k hlt t.cc
      have hxI:=HI.out.rows x (List.mem_of_getElem? hx)
      have hxl:=hxI.is.len
      have HXI:=hid hxI
      have HXG:=hid hx
      have hl6:=HL.out k x hx
      have HD:=hid (show (if rowE 1 x.l=0 then rowsE 1 (t.code.drop (k+1)) else rowE 1 x.l)=codedE t by rw [← rowsE_drop hx];exact HD.out)
      clear hx hxI
      go_wp2_with fail
      clear c0 c1 c2 c3 c4 c5 c6 c7 c8 c9 c10 c11
      go_loopw [5] (fun i wr3=>∃ j:Nat,j≤x.l.length∧i = .int .i64 j∧Below W1.heap.size W1 wr3∧Hid (∀ (m:Nat) (i:Ins),m<j→x.l[m]? = some i→insA 1 i=true)) (fun i _=>x.l.length-(intOf i).toNat)
      case atStart=>exact ⟨0,by omega,rfl,E,fun j x hj=>absurd hj (Nat.not_lt_zero j)⟩
      case round =>
       clear E
       obtain ⟨j,hj,rfl,E,HJ⟩:=hrel
       obtain ⟨c0,c1,c2,c3,c4,c5,c6,c7,c8,c9,c10,c11⟩:=(b0.below E).cells
       rw [HAr.out] at c0
       have p0:=(HI.out.code.below E).cd HXG.out
       by_cases hjt:j<x.l.length
       ·obtain ⟨i,hi⟩ : ∃ i,x.l[j]? = some i:=⟨_,List.getElem?_eq_getElem hjt⟩
        obtain ⟨q0,q1,q2,q3,q4,q5,q6,q7⟩:=(HXI.out.is.below E).cells hi
        have ix2:=(HXI.out.is.below E).idx j hjt x.c
        have hb:=HXI.out.locs i (List.mem_of_getElem? hi)
        have CK:=hid (fun w=>r13Instr_1 i hb.1 hb.2 w)
        have HIJ:=hid hi
        clear hi hb
        obtain ⟨e,he⟩ : ∃ e,errX i=e:=⟨_,rfl⟩
        rw [he] at CK
        have HE:=hid he
        clear he
        go_wp2_with fail
        have cA:=fun (d:Nat) (os:Array Obj)=>Calls.regrown_of (retc' (CK.out (grow (redrawn wr d) os)))
        have q0:=cell_regrown q0;have q1:=cell_regrown q1;have q2:=cell_regrown q2;have q3:=cell_regrown q3;have q4:=cell_regrown q4;have q5:=cell_regrown q5;have q6:=cell_regrown q6;have q7:=cell_regrown q7;have c0:=cell_regrown c0;have c4:=cell_regrown c4;have p0:=cell_regrown p0
        refine wp_region_quiet_below (by kernel_rfl) (by kernel_rfl) ?_
        repeat (go_big_quiet_step (exact cA _ _))
        refine wpQuiet_nil ?_
        intro _ hw'
        obtain ⟨⟨dq,osq⟩,hw''⟩:=hw'
        subst hw''
        have EQ:=below_regrown wr dq osq
        generalize grow (redrawn wr dq) osq=W5 at *
        have E:=E.trans (EQ.mono E.size)
        clear q0 q1 q2 q3 q4 q5 q6 q7 EQ CK c0 c1 c2 c3 c4 c5 c6 c7 c8 c9 c10 c11 p0 ix2 cA
        by_cases hck:checkX i=true
        ·have e0:e=0:=by rw [← HE.out];unfold errX;rw [hck];rfl
         subst e0
         have HJ2 : ∀ (m:Nat) (y:Ins),m<j+1→x.l[m]? = some y→insA 1 y=true:=fun m y hm hy=>by
          rcases Nat.lt_succ_iff_lt_or_eq.1 hm with h|h
          ·exact HJ.out m y h hy
          ·subst h;rw [HIJ.out] at hy;cases hy;exact hck
         have HJ2:=hid HJ2
         clear hck HJ HIJ HE
         go_wp2_with fail
         go_roundw
         case rel=>exact ⟨j+1,by omega,by go_num,E,HJ2⟩
         case measure=>simp [intOf];omega
        ·have e0:e=91:=by rw [← HE.out];unfold errX;rw [if_neg hck]
         subst e0
         have HZ:=hid (show codedE t=91 by rw [← HD.out,rowE_bad HIJ.out (by show checkX i=false;simpa using hck),if_neg (by omega)])
         clear hck HJ HIJ HE
         go_wp2_with fail
         go_ret
         rw [HZ.out]
         exact ⟨rfl,HA.out.trans (E.mono HA.out.size)⟩
       ·obtain rfl:j=x.l.length:=by omega
        have HRA:=hid (rowE_all (fun m i hi=>HJ.out m i (List.getElem?_eq_some_iff.1 hi).1 hi))
        have HD:=hid (show rowsE 1 (t.code.drop (k+1))=codedE t by rw [← HD.out,if_pos (by rw [HRA.out];rfl)])
        clear HJ
        go_wp2_with fail
        go_roundw
        case rel=>exact ⟨k+1,by omega,by go_num,E,HD⟩
        case measure=>simp [intOf];omega
     ·obtain rfl:k=t.code.length:=by omega
      have HZ:=hid (show codedE t=0 by rw [← HD.out];exact rowsE_end)
      go_wp2_with fail
      go_ret
      rw [HZ.out]
      exact ⟨rfl,HA.out.trans (E.mono HA.out.size)⟩
theorem r13Instr_2 (i:Ins) (h1:i.loc.length≤9223372036854775807) (h2:i.label.length≤9223372036854775807) (w:World):Calls Tryz.prog 90 #[.int .i64 2,vI i] w (Ret w (.int .i64 (errI i))):=by
 have A:=al w (mkI i)
 obtain ⟨c0,c1,c2,c3,c4,c5,c6,c7⟩:=(BxI.new w i).cells
 have CK:=hid (fun w=>refCheck i h2 w)
 generalize errI i=e at *
 go_enter Tryz.func90,Tryz.ntmps90
 go_wp2_with fail
 refine (CK.out _).mono ?_
 rintro ee w1 ⟨rfl,E⟩
 have B:=A.trans (E.mono A.size)
 go_wp2_with fail
 go_ret
 exact ⟨rfl,B⟩
theorem r13Coded_2 (t:Tst) (ha:t.arch=2) (w:World) (h:TsIn w t):Calls Tryz.prog 52 #[vT t] w (Ret w (.int .i64 (codedE t))):=by
 have A:=al w (mkT t)
 have b0:=BxT.new w t
 have HI:=hid (h.keep A)
 have HA:=hid A
 have HAr:=hid ha
 have hcl:=h.code.len
 clear ha
 by_cases hn:t.code.length<1∨16<t.code.length
 ·rw [codedE_n hn]
  obtain ⟨c0,c1,c2,c3,c4,c5,c6,c7,c8,c9,c10,c11⟩:=b0.cells
  clear h A
  rcases hn with hn|hn
  all_goals
   go_enter Tryz.func52,Tryz.ntmps52
   go_wp2_with fail
   go_ret
   exact ⟨rfl,HA.out⟩
 ·have h1:1≤t.code.length:=by omega
  have h16:t.code.length≤16:=by omega
  have HNN:=hid hn
  clear hn h A
  go_enter Tryz.func52,Tryz.ntmps52
  go_upto_region 1 with (fail)
  generalize w.alloc (mkT t)=W1 at *
  obtain ⟨c0,c1,c2,c3,c4,c5,c6,c7,c8,c9,c10,c11⟩:=b0.cells
  go_wp2_with fail
  clear c0 c1 c2 c3 c4 c5 c6 c7 c8 c9 c10 c11
  go_loopw [3] (fun i wr=>∃ k:Nat,k≤t.code.length∧i = .int .i64 k∧Below W1.heap.size W1 wr∧Hid (∀ (j:Nat) (x:Cd),j<k→t.code[j]? = some x→x.l.length≤256)) (fun i _=>t.code.length-(intOf i).toNat)
  case atStart=>exact ⟨0,by omega,rfl,Below.refl _ _,fun j x hj=>absurd hj (Nat.not_lt_zero j)⟩
  case round =>
   obtain ⟨k,hk,rfl,E,HK⟩:=hrel
   obtain ⟨c0,c1,c2,c3,c4,c5,c6,c7,c8,c9,c10,c11⟩:=(b0.below E).cells
   by_cases hlt:k<t.code.length
   ·obtain ⟨x,hx⟩ : ∃ x,t.code[k]? = some x:=⟨_,List.getElem?_eq_getElem hlt⟩
    have p0:=(HI.out.code.below E).cd hx
    have ix:=HI.out.code.cdx k hlt t.cc
    have hxl:=(HI.out.rows x (List.mem_of_getElem? hx)).is.len
    have HX:=hid hx
    clear hx
    by_cases hl:256<x.l.length
    ·have HZ:=hid (codedE_long HNN.out HX.out hl)
     go_wp2_with fail
     go_ret
     rw [HZ.out]
     exact ⟨rfl,HA.out.trans (E.mono HA.out.size)⟩
    ·have hl':x.l.length≤256:=by omega
     have HK2 : ∀ (j:Nat) (y:Cd),j<k+1→t.code[j]? = some y→y.l.length≤256:=fun j y hj hy=>by
      rcases Nat.lt_succ_iff_lt_or_eq.1 hj with h|h
      ·exact HK.out j y h hy
      ·subst h;rw [HX.out] at hy;cases hy;exact hl'
     have HK2:=hid HK2
     clear HK hl
     go_wp2_with fail
     go_roundw
     case rel=>exact ⟨k+1,by omega,by go_num,E,HK2⟩
     case measure=>simp [intOf];omega
   ·obtain rfl:k=t.code.length:=by omega
    have HR:=hid (codedE_rows HNN.out (fun k x hx=>HK.out k x (List.getElem?_eq_some_iff.1 hx).1 hx))
    have HL:=hid (fun (k:Nat) (x:Cd) (hx:t.code[k]? = some x)=>HK.out k x (List.getElem?_eq_some_iff.1 hx).1 hx)
    clear HK hk hlt
    go_wp2_with fail
    clear c0 c1 c2 c3 c4 c5 c6 c7 c8 c9 c10 c11
    go_loopw [4] (fun i wr2=>∃ k:Nat,k≤t.code.length∧i = .int .i64 k∧Below W1.heap.size W1 wr2∧Hid (rowsE 2 (t.code.drop k)=codedE t)) (fun i _=>t.code.length-(intOf i).toNat)
    case atStart=>exact ⟨0,by omega,rfl,E,by rw [List.drop_zero];exact (HR.out.trans (by rw [HAr.out])).symm⟩
    case round =>
     clear E
     obtain ⟨k,hk,rfl,E,HD⟩:=hrel
     obtain ⟨c0,c1,c2,c3,c4,c5,c6,c7,c8,c9,c10,c11⟩:=(b0.below E).cells
     by_cases hlt:k<t.code.length
     ·obtain ⟨x,hx⟩ : ∃ x,t.code[k]? = some x:=⟨_,List.getElem?_eq_getElem hlt⟩
      have ix:=HI.out.code.cdx k hlt t.cc
      have hxI:=HI.out.rows x (List.mem_of_getElem? hx)
      have hxl:=hxI.is.len
      have HXI:=hid hxI
      have HXG:=hid hx
      have hl6:=HL.out k x hx
      have HD:=hid (show (if rowE 2 x.l=0 then rowsE 2 (t.code.drop (k+1)) else rowE 2 x.l)=codedE t by rw [← rowsE_drop hx];exact HD.out)
      clear hx hxI
      go_wp2_with fail
      clear c0 c1 c2 c3 c4 c5 c6 c7 c8 c9 c10 c11
      go_loopw [5] (fun i wr3=>∃ j:Nat,j≤x.l.length∧i = .int .i64 j∧Below W1.heap.size W1 wr3∧Hid (∀ (m:Nat) (i:Ins),m<j→x.l[m]? = some i→insA 2 i=true)) (fun i _=>x.l.length-(intOf i).toNat)
      case atStart=>exact ⟨0,by omega,rfl,E,fun j x hj=>absurd hj (Nat.not_lt_zero j)⟩
      case round =>
       clear E
       obtain ⟨j,hj,rfl,E,HJ⟩:=hrel
       obtain ⟨c0,c1,c2,c3,c4,c5,c6,c7,c8,c9,c10,c11⟩:=(b0.below E).cells
       rw [HAr.out] at c0
       have p0:=(HI.out.code.below E).cd HXG.out
       by_cases hjt:j<x.l.length
       ·obtain ⟨i,hi⟩ : ∃ i,x.l[j]? = some i:=⟨_,List.getElem?_eq_getElem hjt⟩
        obtain ⟨q0,q1,q2,q3,q4,q5,q6,q7⟩:=(HXI.out.is.below E).cells hi
        have ix2:=(HXI.out.is.below E).idx j hjt x.c
        have hb:=HXI.out.locs i (List.mem_of_getElem? hi)
        have CK:=hid (fun w=>r13Instr_2 i hb.1 hb.2 w)
        have HIJ:=hid hi
        clear hi hb
        obtain ⟨e,he⟩ : ∃ e,errI i=e:=⟨_,rfl⟩
        rw [he] at CK
        have HE:=hid he
        clear he
        go_wp2_with fail
        have cA:=fun (d:Nat) (os:Array Obj)=>Calls.regrown_of (retc' (CK.out (grow (redrawn wr d) os)))
        have q0:=cell_regrown q0;have q1:=cell_regrown q1;have q2:=cell_regrown q2;have q3:=cell_regrown q3;have q4:=cell_regrown q4;have q5:=cell_regrown q5;have q6:=cell_regrown q6;have q7:=cell_regrown q7;have c0:=cell_regrown c0;have c4:=cell_regrown c4;have p0:=cell_regrown p0
        refine wp_region_quiet_below (by kernel_rfl) (by kernel_rfl) ?_
        repeat (go_big_quiet_step (exact cA _ _))
        refine wpQuiet_nil ?_
        intro _ hw'
        obtain ⟨⟨dq,osq⟩,hw''⟩:=hw'
        subst hw''
        have EQ:=below_regrown wr dq osq
        generalize grow (redrawn wr dq) osq=W5 at *
        have E:=E.trans (EQ.mono E.size)
        clear q0 q1 q2 q3 q4 q5 q6 q7 EQ CK c0 c1 c2 c3 c4 c5 c6 c7 c8 c9 c10 c11 p0 ix2 cA
        by_cases hck:checkI i=true
        ·have e0:e=0:=by rw [← HE.out];unfold errI;rw [hck];rfl
         subst e0
         have HJ2 : ∀ (m:Nat) (y:Ins),m<j+1→x.l[m]? = some y→insA 2 y=true:=fun m y hm hy=>by
          rcases Nat.lt_succ_iff_lt_or_eq.1 hm with h|h
          ·exact HJ.out m y h hy
          ·subst h;rw [HIJ.out] at hy;cases hy;exact hck
         have HJ2:=hid HJ2
         clear hck HJ HIJ HE
         go_wp2_with fail
         go_roundw
         case rel=>exact ⟨j+1,by omega,by go_num,E,HJ2⟩
         case measure=>simp [intOf];omega
        ·have e0:e=91:=by rw [← HE.out];unfold errI;rw [if_neg hck]
         subst e0
         have HZ:=hid (show codedE t=91 by rw [← HD.out,rowE_bad HIJ.out (by show checkI i=false;simpa using hck),if_neg (by omega)])
         clear hck HJ HIJ HE
         go_wp2_with fail
         go_ret
         rw [HZ.out]
         exact ⟨rfl,HA.out.trans (E.mono HA.out.size)⟩
       ·obtain rfl:j=x.l.length:=by omega
        have HRA:=hid (rowE_all (fun m i hi=>HJ.out m i (List.getElem?_eq_some_iff.1 hi).1 hi))
        have hLab : ∀ i∈x.l,i.label.length≤9223372036854775807:=fun i hi=>(HXI.out.locs i hi).2
        have LK:=refLinks x.l x.a x.c hLab wr (HXI.out.is.below E)
        obtain ⟨e,he⟩ : ∃ e,(linksV x.l).2.1=e:=⟨_,rfl⟩
        have HD:=hid (show (if e=0 then rowsE 2 (t.code.drop (k+1)) else e)=codedE t by
         rw [← HD.out,show rowE 2 x.l=e from by rw [HRA.out,if_pos rfl,he]])
        have HLE:=hid he
        have LK:=hid LK
        clear HJ he hLab HRA
        go_wp2_with fail
        refine LK.out.mono ?_
        rintro ee w5 ⟨a5,c5',rfl,o5,E5⟩
        rw [HLE.out]
        have E:=E.trans (E5.mono E.size)
        clear o5 E5 LK c0 c1 c2 c3 c4 c5 c6 c7 c8 c9 c10 c11 p0 ix
        by_cases h0:e=0
        ·subst h0
         have HD:=hid (show rowsE 2 (t.code.drop (k+1))=codedE t from HD.out)
         go_wp2_with fail
         go_roundw
         case rel=>exact ⟨k+1,by omega,by go_num,E,HD⟩
         case measure=>simp [intOf];omega
        ·have z0:(e != 0)=true:=by simpa using h0
         have HZ:=hid (show codedE t=e by rw [← HD.out,if_neg h0])
         clear h0
         go_wp2_with fail
         go_ret
         rw [HZ.out]
         exact ⟨rfl,HA.out.trans (E.mono HA.out.size)⟩
     ·obtain rfl:k=t.code.length:=by omega
      have HZ:=hid (show codedE t=0 by rw [← HD.out];exact rowsE_end)
      go_wp2_with fail
      go_ret
      rw [HZ.out]
      exact ⟨rfl,HA.out.trans (E.mono HA.out.size)⟩
end Go.Proofs.YthaibjefnclkjaaGreatDoor

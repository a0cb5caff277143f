/- The walks of Classes (both). Conditions: the lists lie in memory as read; sizes below the reach. -/
import Derived.Test.YtdafpafoioejaaaW11
import Derived.Test.YtdafpafoioejaaaL4
import Derived.Deep.RegionHeld3
namespace Go.Proofs.Ytdafpafoioejaaa
open Go.RowKit
set_option linter.unusedVariables false

/-- no row of a slice of slices lies where x lies -/
def FarM (a : Option Addr) (hs : List Hd) (x : Option Addr) : Prop := Apart a x ∧ ∀ i, Apart (hd hs i).1 x
theorem OwnM.far_new {w w' : World} {B : Nat} {a : Option Addr} {c : Nat} {hs : List Hd} {xs : List (List Int)} (h : OwnM w B a c hs xs) {E size n k : Nat} {t : Option Addr} {ys : List Value} (ht : Own w' w.heap.size E size t n k ys) : FarM a hs t := by
  have key : ∀ {B E size n c : Nat} {r : Option Addr} {zs : List Value}, Own w B E size r n c zs → Apart r t := by
    intro B E size n c r zs hr
    by_cases h1 : r = none
    · exact .inl h1
    · by_cases h2 : t = none
      · exact .inr (.inl h2)
      · have := (hr.lt h1).2; have := (ht.lt h2).1
        exact .inr (.inr (by omega))
  exact ⟨key h.outer, fun i => key (h.inner i)⟩
theorem OwnM.stepF {w w' : World} {B : Nat} {a sa a' : Option Addr} {c : Nat} {hs : List Hd} {xs : List (List Int)} (h : OwnM w B a c hs xs) (hs' : Step w w' sa a') (hf : FarM a hs sa) : OwnM w' B a c hs xs ∧ FarM a hs a' :=
  let ⟨h1, h2, h3⟩ := h.step hs' hf.1 hf.2
  ⟨h1, h2, h3⟩
/-- two slices of slices share no row -/
def Sep (a : Option Addr) (hs : List Hd) (a' : Option Addr) (hs' : List Hd) : Prop := FarM a hs a' ∧ ∀ j, FarM a hs (hd hs' j).1
theorem Sep.symm {a a' : Option Addr} {hs hs' : List Hd} (h : Sep a hs a' hs') : Sep a' hs' a hs :=
  ⟨⟨h.1.1.symm, fun j => (h.2 j).1.symm⟩, fun i => ⟨(h.1.2 i).symm, fun j => ((h.2 j).2 i).symm⟩⟩
theorem Sep.nil (a : Option Addr) (hs : List Hd) : Sep a hs none [] := ⟨⟨.inr (.inl rfl), fun i => .inr (.inl rfl)⟩, fun j => ⟨.inr (.inl (by simp [hd])), fun i => .inr (.inl (by simp [hd]))⟩⟩
theorem Sep.push {a a' a2 : Option Addr} {hs hs' : List Hd} {k : Hd} (h : Sep a hs a' hs') (h2 : FarM a hs a2) (hk : FarM a hs k.1) : Sep a hs a2 (hs' ++ [k]) := by
  refine ⟨h2, fun j => ?_⟩
  rcases Nat.lt_trichotomy j hs'.length with h1 | h1 | h1
  · show FarM a hs ((hs' ++ [k]).getD j (none, 0)).1
    rw [getD_snoc_lt h1]; exact h.2 j
  · show FarM a hs ((hs' ++ [k]).getD j (none, 0)).1
    rw [getD_snoc_eq h1]; exact hk
  · show FarM a hs ((hs' ++ [k]).getD j (none, 0)).1
    rw [getD_ge (by simp; omega)]; exact ⟨.inr (.inl rfl), fun i => .inr (.inl rfl)⟩
theorem Sep.set {a a' : Option Addr} {hs hs' : List Hd} {k : Hd} {q : Nat} (h : Sep a hs a' hs') (hk : FarM a hs k.1) : Sep a hs a' (hs'.set q k) := by
  refine ⟨h.1, fun j => ?_⟩
  show FarM a hs ((hs'.set q k).getD j (none, 0)).1
  by_cases e : j = q
  · subst e
    by_cases hl : j < hs'.length
    · rw [getD_set_self hl]; exact hk
    · rw [getD_ge (by simp; omega)]; exact ⟨.inr (.inl rfl), fun i => .inr (.inl rfl)⟩
  · rw [getD_set_ne' e]; exact h.2 j
theorem far_none (a : Option Addr) (hs : List Hd) : FarM a hs none := ⟨.inr (.inl rfl), fun i => .inr (.inl rfl)⟩

theorem place_old {ls out : List (List Int)} {i q : Nat} (hq : q ≤ (keys ls out).length) (h1 : ∀ j, j < q → ln (keys ls out) j ≠ canon (ln ls i)) (h2 : q < out.length) (h3 : ln (keys ls out) q = canon (ln ls i)) :
    place ls out i = out.set q (ln out q ++ [(i : Int)]) := by
  have e := firstOf_eq (ks := keys ls out) (c := canon (ln ls i)) hq h1 (.inr h3)
  unfold place
  rw [e, if_pos h2]
theorem place_new {ls out : List (List Int)} {i : Nat} (h1 : ∀ j, j < out.length → ln (keys ls out) j ≠ canon (ln ls i)) : place ls out i = out ++ [[(i : Int)]] := by
  have e := firstOf_eq (ks := keys ls out) (c := canon (ln ls i)) (k := out.length) (by rw [keys_length]; exact Nat.le_refl _) h1 (.inl (keys_length _ _).symm)
  unfold place
  rw [e, if_neg (Nat.lt_irrefl _)]
theorem keys_old {ls out : List (List Int)} {i q : Nat} (hg : Good out i) (h2 : q < out.length) : keys ls (out.set q (ln out q ++ [(i : Int)])) = keys ls out := keys_set hg h2 _

set_option maxHeartbeats 1600000 in
theorem progClasses (ls : List (List Int)) (a : Option Addr) (c : Nat) (hs : List Hd) (w : World) (h : Lists w a hs ls) (hb : ls.length * 24 ≤ 140737488351232) (hbi : ∀ i, (ln ls i).length * 8 ≤ 140737488351232) :
    Calls Try.prog 31 #[.slice a ls.length c] w (RetM w (classes ls)) := by
  have H := hid h; have hm := h.most; clear h
  have HBI := hid hbi
  clear hbi
  go_enter Try.func31, Try.ntmps31
  go_wp2_with fail
  go_loopw [3, 4, 11] (fun o l k wr => ∃ (i : Nat) (out : List (List Int)) (a1 : Option Addr) (c1 : Nat) (hs1 : List Hd) (ks : List (List Int)) (a2 : Option Addr) (c2 : Nat) (hs2 : List Hd), i ≤ ls.length ∧ k = .int .i64 i ∧ o = .slice a1 out.length c1 ∧ l = .slice a2 ks.length c2 ∧
      OwnM wr w.heap.size a1 c1 hs1 out ∧ OwnM wr w.heap.size a2 c2 hs2 ks ∧ Sep a1 hs1 a2 hs2 ∧ Below w.heap.size w wr ∧ Hid (out = classesTo ls i ∧ ks = keys ls (classesTo ls i))) (fun _ _ k _ => ls.length - (intOf k).toNat)
  case atStart => exact ⟨0, [], none, 0, [], [], none, 0, [], Nat.zero_le _, rfl, rfl, rfl, OwnM.nil _ _, OwnM.nil _ _, Sep.nil _ _, Below.refl _ _, hid ⟨rfl, rfl⟩⟩
  case round =>
    obtain ⟨i, out, a1, c1, hs1, ks, a2, c2, hs2, hi, rfl, rfl, rfl, o1, o2, sp, B, he⟩ := hrel
    by_cases hlt : i < ls.length
    · have L := H.out.below B
      have ix := L.idx msl i hlt
      have cx := L.cell i hlt
      have hbx := HBI.out i
      have hlen : out.length ≤ i ∧ ks.length = out.length := by
        obtain ⟨e1, e2⟩ := he.out
        rw [e1, e2, keys_length]; exact ⟨classesTo_length_le ls i, rfl⟩
      obtain ⟨hl1, hl2⟩ := hlen
      have HG : Hid (Good out i) := hid (by rw [he.out.1]; exact good_classesTo ls i)
      have HL2 := hid hl2
      have hl3 : ks.length ≤ out.length := by omega
      have hl4 : out.length ≤ ks.length := by omega
      have hcapx := L.cap i
      have tl := turn_least (ln ls i)
      have TL := hid tl
      clear hl2 tl
      go_wp2_with fail
      refine (progLeast (ln ls i) _ _ _ (L.each i) (by omega)).mono ?_
      rintro e3 w3 ⟨rfl, q3⟩
      have L3 := L.below q3.below
      have o13 := o1.below q3.below; have o23 := o2.below q3.below
      have B3 := below_q B B.size q3
      clear cx o1 o2 L
      go_wp2_with fail
      refine (progTurn (ln ls i) (least (ln ls i)) _ _ _ (L3.each i) hcapx (by omega)).mono ?_
      rintro e4 w4 ⟨at4, nt, ct, rfl, ot, E4⟩
      rw [TL.out] at ot
      obtain ⟨rt, rfl⟩ := ot.ints
      have L4 := L3.below E4
      have f1 := o13.far_new ot
      have f2 := o23.far_new ot
      have o14 := o13.below E4; have o24 := o23.below E4
      have B4 := B3.trans (E4.mono B3.size)
      have otB := Own.mono ot B3.size
      clear ot o13 o23 L3
      have hcl := canon_length (ln ls i)
      have HCL := hid hcl
      clear hcl
      go_wp2_with fail
      go_loopw [8] (fun k w2 => ∃ q : Nat, q ≤ ks.length ∧ k = .int .i64 q ∧ QW w4 w2 ∧ Hid (∀ j, j < q → ln ks j ≠ canon (ln ls i))) (fun k _ => ks.length - (intOf k).toNat)
      case atStart => exact ⟨0, Nat.zero_le _, rfl, QW.refl _, hid (fun j h => absurd h (Nat.not_lt_zero j))⟩
      case round =>
        obtain ⟨q, hq, rfl, q5, hno⟩ := hrel
        have M2 := o24.lists.below q5.below
        have rt5 := rt.below q5.below
        by_cases hgo : q < ks.length ∧ ln ks q ≠ canon (ln ls i)
        · obtain ⟨hqk, hne⟩ := hgo
          have i2 := M2.idx msl q hqk
          have cq := M2.cell q hqk
          have hno2 : Hid (∀ j, j < q + 1 → ln ks j ≠ canon (ln ls i)) := hid (fun j hj => by
            by_cases e : j = q
            · subst e; exact hne
            · exact hno.out j (by omega))
          have hc0 : (cmp (ln ks q) (canon (ln ls i)) != 0) = true := by simpa [cmp_eq_zero] using hne
          have HC0 := hid hc0
          clear hne hc0 hno
          go_wp2_with fail
          refine (progCompare (ln ks q) (canon (ln ls i)) _ _ _ _ _ (M2.each q) rt5).mono ?_
          rintro e6 w6 ⟨rfl, q6⟩
          have hc1 := HC0.out
          generalize cmp (ln ks q) (canon (ln ls i)) = cc at *
          go_wp2_with fail
          go_roundw
          case rel => exact ⟨q + 1, by omega, by go_num, q5.trans q6, hno2⟩
          case measure => simp [intOf]; omega
        · -- the search has ended
          by_cases hqk : q < ks.length
          · have heq : ln ks q = canon (ln ls i) := Classical.byContradiction fun h => hgo ⟨hqk, h⟩
            have hqo : q < out.length := by omega
            have i2 := M2.idx msl q hqk
            have cq2 := M2.cell q hqk
            have hc0 : (cmp (ln ks q) (canon (ln ls i)) != 0) = false := by rw [heq, cmp_self]; rfl
            have HC0 := hid hc0
            have hpl : place ls out i = out.set q (ln out q ++ [(i : Int)]) := by
              have e2 : ks = keys ls out := by rw [he.out.2, he.out.1]
              refine place_old (by rw [← e2]; exact hq) (by rw [← e2]; exact hno.out) hqo (by rw [← e2]; exact heq)
            have HPL := hid hpl
            have hzq : ((q : Int) == (ks.length : Int)) = false := by simp; omega
            clear hc0 heq hpl hgo
            go_wp2_with fail
            refine (progCompare (ln ks q) (canon (ln ls i)) _ _ _ _ _ (M2.each q) rt5).mono ?_
            rintro e6 w6 ⟨rfl, q6⟩
            have hc1 := HC0.out
            have q56 := q5.trans q6
            have o15 := o14.below q56.below
            have o25 := o24.below q56.below
            have B5 := below_q B4 B4.size q56
            generalize cmp (ln ks q) (canon (ln ls i)) = cc at *
            clear M2 rt5 cq2 i2
            have i1 := o15.lists.idx msl q hqo
            have cq := o15.lists.cell q hqo
            have hlq := (show (ln out q).length ≤ i by rw [he.out.1]; exact ln_length_le ls i q)
            go_wp2_with (at_builtin; go_loud (refine wpList_app1 isl (.tmp 51) (.tmp 53) rfl rfl rfl (o15.inner q) rfl rfl (by intro u hu; simp at hu; subst hu; rfl) B5 B5.size (by omega) (by unfold maxLen; omega) ?_))
            intro a8 c8 w8 o8 g8 B8
            have hl8 : (ln out q ++ [(i : Int)]).length = (ln out q).length + 1 := by simp
            have o9 : OwnI w8 w.heap.size a8 (ln out q ++ [(i : Int)]).length c8 (ln out q ++ [(i : Int)]) := by rw [hl8]; simpa [OwnI, ints] using o8
            obtain ⟨p1, p2⟩ := o15.put q hqo (ln out q ++ [(i : Int)]) g8.step o9
            rw [hl8] at p1 p2
            obtain ⟨m2, f3⟩ := o25.stepF g8.step (sp.symm.2 q)
            obtain ⟨m3, f4⟩ := m2.stepF p2 sp.symm.1
            have oo := (o15.others q g8.step).1
            have cq8 := oo.row.cell q (by rw [hdrs_length o15.len]; exact hqo)
            rw [hdrs_get o15.len hqo] at cq8
            have fz := Own.frozen oo (Own.some oo (by omega)) q
            have B9 := p2.below oo B8 B8.size
            have sp9 := (sp.symm.set (q := q) (k := (a8, c8)) f3).symm
            have hfin : out.set q (ln out q ++ [(i : Int)]) = classesTo ls (i + 1) ∧ ks = keys ls (classesTo ls (i + 1)) := by
              have e1 : classesTo ls (i + 1) = place ls out i := by rw [he.out.1]; rfl
              rw [e1, HPL.out, keys_old HG.out hqo]
              exact ⟨rfl, by rw [he.out.2, he.out.1]⟩
            have HF := hid hfin
            clear hfin
            clear o8 o9 g8 hl8 m2 f4 oo p2 hlq
            go_wp2_with fail
            go_roundw
            case rel => exact ⟨i + 1, out.set q (ln out q ++ [(i : Int)]), a1, c1, hs1.set q (a8, c8), ks, a2, c2, hs2, by omega, by go_num, by rw [List.length_set], rfl, p1, m3, sp9, B9, HF⟩
            case measure => simp [intOf]; omega
          · have hqe : q = ks.length := by omega
            have hpl : place ls out i = out ++ [[(i : Int)]] := by
              have e2 : ks = keys ls out := by rw [he.out.2, he.out.1]
              refine place_new (fun j hj => by rw [← e2]; exact hno.out j (by omega))
            have HPL := hid hpl
            have hzq : ((q : Int) == (ks.length : Int)) = true := by simp [hqe]
            have HQE := hid hqe
            have hqo : q ≤ out.length ∧ out.length ≤ q := by omega
            have o15 := o14.below q5.below
            have o25 := o24.below q5.below
            have B5 := below_q B4 B4.size q5
            have ot5 := otB.below q5.below
            clear hpl hgo hqe M2 rt5
            go_wp2_with (at_builtin; go_loud (refine wpList_app1 msl (.tmp 39) (.tmp 41) rfl rfl rfl o25.outer rfl rfl (by intro u hu; simp at hu; subst hu; rfl) B5 B5.size (by omega) (by unfold maxLen; omega) ?_))
            intro a6 c6 w6 o6 g6 B6
            have n2 := o25.push (at4, ct) (canon (ln ls i)) o6 g6.step ot5 f2.2 f2.1
            obtain ⟨n1, f5⟩ := o15.stepF g6.step sp.1
            have sp6 : Sep a1 hs1 a6 (hs2 ++ [(at4, ct)]) := sp.push f5 f1
            clear o6 g6 o25 o15 ot5
            go_wp2_with (at_builtin; go_loud (refine wpList_app1 msl (.tmp 43) (.tmp 44) rfl rfl rfl n1.outer rfl rfl (by intro u hu; simp at hu; subst hu; rfl) B6 B6.size (by omega) (by unfold maxLen; omega) ?_))
            intro a7 c7 w7 o7 g7 B7
            have r1 := n1.push (none, 0) [] o7 g7.step (Own.nil _ _ _ _) (fun _ => .inr (.inl rfl)) (.inr (.inl rfl))
            obtain ⟨r2, f6⟩ := n2.stepF g7.step sp6.symm.1
            have sp7 : Sep a7 (hs1 ++ [(none, 0)]) a6 (hs2 ++ [(at4, ct)]) := (sp6.symm.push f6 (far_none _ _)).symm
            obtain ⟨out2, ho2⟩ : ∃ o, o = out ++ [[]] := ⟨_, rfl⟩
            obtain ⟨ks2, hk2⟩ : ∃ o, o = ks ++ [canon (ln ls i)] := ⟨_, rfl⟩
            rw [← ho2] at r1
            rw [← hk2] at r2
            have hl7 : out.length + 1 = out2.length := by rw [ho2]; simp
            have hk7 : ks.length + 1 = ks2.length := by rw [hk2]; simp
            have hqq : q < out2.length := by omega
            have HO2 := hid ho2
            have HK2 := hid hk2
            rw [hl7, hk7]
            clear hl7 hk7 ho2 hk2
            have i1 := r1.lists.idx msl q hqq
            have cq := r1.lists.cell q hqq
            have hlq := (show (ln out2 q).length ≤ i by rw [HO2.out, show q = out.length by omega, show ln (out ++ [[]]) out.length = [] from getD_snoc_eq rfl]; simp)
            go_wp2_with (at_builtin; go_loud (refine wpList_app1 isl (.tmp 51) (.tmp 53) rfl rfl rfl (r1.inner q) rfl rfl (by intro u hu; simp at hu; subst hu; rfl) B7 B7.size (by omega) (by unfold maxLen; omega) ?_))
            intro a8 c8 w8 o8 g8 B8
            have hl8 : (ln out2 q ++ [(i : Int)]).length = (ln out2 q).length + 1 := by simp
            have o9 : OwnI w8 w.heap.size a8 (ln out2 q ++ [(i : Int)]).length c8 (ln out2 q ++ [(i : Int)]) := by rw [hl8]; simpa [OwnI, ints] using o8
            obtain ⟨p1, p2⟩ := r1.put q hqq (ln out2 q ++ [(i : Int)]) g8.step o9
            rw [hl8] at p1 p2
            obtain ⟨m2, f3⟩ := r2.stepF g8.step (sp7.symm.2 q)
            obtain ⟨m3, f4⟩ := m2.stepF p2 sp7.symm.1
            have oo := (r1.others q g8.step).1
            have cq8 := oo.row.cell q (by rw [hdrs_length r1.len]; exact hqq)
            rw [hdrs_get r1.len hqq] at cq8
            have fz := Own.frozen oo (Own.some oo (by omega)) q
            have B9 := p2.below oo B8 B8.size
            have sp9 := (sp7.symm.set (q := q) (k := (a8, c8)) f3).symm
            have hfin : out2.set q (ln out2 q ++ [(i : Int)]) = classesTo ls (i + 1) ∧ ks2 = keys ls (classesTo ls (i + 1)) := by
              have e1 : classesTo ls (i + 1) = place ls out i := by rw [he.out.1]; rfl
              rw [e1, HPL.out, keys_snoc, HO2.out, HK2.out, show q = out.length by omega, show ln (out ++ [[]]) out.length = [] from getD_snoc_eq rfl]
              refine ⟨?_, by rw [he.out.2, he.out.1]⟩
              rw [List.set_append_right _ _ (Nat.le_refl _)]
              simp
            have HF := hid hfin
            clear hfin
            clear o8 o9 g8 hl8 m2 f4 oo p2 hlq
            go_wp2_with fail
            go_roundw
            case rel => exact ⟨i + 1, out2.set q (ln out2 q ++ [(i : Int)]), a7, c7, (hs1 ++ [(none, 0)]).set q (a8, c8), ks2, a6, c6, (hs2 ++ [(at4, ct)]), by omega, by go_num, by rw [List.length_set], rfl, p1, m3, sp9, B9, HF⟩
            case measure => simp [intOf]; omega
    · have e := he.out.1
      have ei : i = ls.length := by omega
      have e2 : out = classes ls := by rw [e, ei]; rfl
      have E := hid e2
      clear e ei e2 he
      go_wp2_with fail
      go_ret
      refine ⟨a1, c1, hs1, ?_, ?_, B⟩
      · rw [← E.out]; rfl
      · rw [← E.out]; exact o1
end Go.Proofs.Ytdafpafoioejaaa

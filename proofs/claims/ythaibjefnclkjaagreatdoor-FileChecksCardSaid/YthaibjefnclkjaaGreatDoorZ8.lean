/- The walk of Compact of things, at a row of the call's own. Condition: the row is the call's own. The walks of walk and Check of a condition (the document's answer 08). Conditions: the nodes lie in memory as read. -/
import Derived.Test.YthaibjefnclkjaaGreatDoorZ5
import Derived.Test.YthaibjefnclkjaaGreatDoorZ6
import Derived.Test.YthaibjefnclkjaaGreatDoorZ7
namespace Go.Proofs.YthaibjefnclkjaaGreatDoor
open Go.RowKit Go.Sort
set_option linter.unusedVariables false

attribute [local go_sem high] eqTh neqTh
theorem cmpct_take {α : Type} [DecidableEq α] {l : List α} {k : Nat} (hk : k + 1 < l.length) : cmpct (l.take (k + 2)) = if l[k + 1] = l[k] then cmpct (l.take (k + 1)) else cmpct (l.take (k + 1)) ++ [l[k + 1]] := by
  have h1 : l.take (k + 2) = l.take k ++ [l[k]] ++ [l[k + 1]] := by
    rw [List.take_succ_eq_append_getElem (show k + 1 < l.length from hk), List.take_succ_eq_append_getElem (show k < l.length by omega)]
  have h2 : l.take (k + 1) = l.take k ++ [l[k]] := List.take_succ_eq_append_getElem (by omega)
  rw [h1, h2, cmpct_snoc]
/-- no neighbours are equal so far -/
def Apa (l : List Th) (k : Nat) : Prop := ∀ i (h : i + 1 < l.length), i + 1 < k → l[i + 1] ≠ l[i]
theorem Apa.all {l : List Th} (h : Apa l l.length) : cmpct l = l := cmpct_self fun i h1 => h i h1 h1
theorem Apa.take {l : List Th} {k : Nat} (h : Apa l (k + 1)) (hk : k + 1 < l.length) (e : l[k + 1] = l[k]) : cmpct (l.take (k + 2)) = l.take (k + 1) := by
  rw [cmpct_take hk, if_pos e]
  refine cmpct_self fun i h1 => ?_
  simp only [List.length_take] at h1
  rw [List.getElem_take, List.getElem_take]
  exact h i (by omega) (by omega)
/-- how far the list has been pressed together -/
structure Prs (l L : List Th) (i q : Nat) : Prop where
  len : L.length = l.length
  lt : i < q
  le : q ≤ l.length
  front : L.take i = cmpct (l.take q)
  rest : ∀ j, q - 1 ≤ j → L[j]? = l[j]?
theorem Prs.start {l : List Th} {k : Nat} (h : Apa l (k + 1)) (hk : k + 1 < l.length) (e : l[k + 1] = l[k]) : Prs l l (k + 1) (k + 2) :=
  ⟨rfl, by omega, by omega, (h.take hk e).symm, fun _ _ => rfl⟩
theorem Prs.skip {l L : List Th} {i q : Nat} (h : Prs l L i (q + 1)) (hq : q + 1 < l.length) (e : l[q + 1] = l[q]) : Prs l L i (q + 2) :=
  ⟨h.len, by have := h.lt; omega, by omega, by rw [h.front, cmpct_take hq, if_pos e], fun j hj => h.rest j (by omega)⟩
theorem Prs.keep {l L : List Th} {i q : Nat} (h : Prs l L i (q + 1)) (hq : q + 1 < l.length) (e : l[q + 1] ≠ l[q]) : Prs l (L.set i l[q + 1]) (i + 1) (q + 2) := by
  have hl := h.len; have hlt := h.lt
  refine ⟨by rw [List.length_set]; exact hl, by omega, by omega, ?_, fun j hj => ?_⟩
  · rw [cmpct_take hq, if_neg e, ← h.front]
    have hi : i < L.length := by omega
    rw [List.take_succ_eq_append_getElem (by rw [List.length_set]; exact hi), List.getElem_set_self, List.take_set_of_le (Nat.le_refl i)]
  · rw [List.getElem?_set_ne (by omega)]; exact h.rest j (by omega)
theorem Prs.done {l L : List Th} {i : Nat} (h : Prs l L i l.length) : L.take i = cmpct l ∧ (cmpct l).length = i := by
  have h1 := h.front
  rw [List.take_length] at h1
  have h2 := congrArg List.length h1
  rw [List.length_take] at h2
  have := h.len; have := h.lt; have := h.le
  exact ⟨h1, by omega⟩
theorem setCells3 (w : World) (b o : Nat) (e : Th) : w.setCells b o (cTh e) = ((w.setCell ⟨b, o, none⟩ (.int .i64 e.thread)).setCell ⟨b, o + 1, none⟩ (.int .i64 e.reg)).setCell ⟨b, o + 2, none⟩ (.string (tx e.loc)) := rfl
abbrev OwnT (w : World) (B : Nat) (a : Option Addr) (n c : Nat) (l : List Th) : Prop := Own w B 32 3 a n c (flat cTh l)
theorem OwnT.frz {w : World} {B n c : Nat} {a : Option Addr} {l : List Th} (h : OwnT w B a n c l) (hn : 0 < n) (k : Nat) :
    w.frozen? ⟨bk a, fo a + k * 3, none⟩ = false ∧ w.frozen? ⟨bk a, fo a + k * 3 + 1, none⟩ = false ∧ w.frozen? ⟨bk a, fo a + k * 3 + 2, none⟩ = false := by
  have f := fun j => Own.frozen h (Own.some h hn) j
  exact ⟨f (k * 3), by have := f (k * 3 + 1); rwa [← Nat.add_assoc] at this, by have := f (k * 3 + 2); rwa [← Nat.add_assoc] at this⟩
theorem OwnT.idx {w : World} {B c : Nat} {a : Option Addr} {l : List Th} {n : Nat} (h : OwnT w B a n c l) (hl : l.length ≤ 1000000) (k : Nat) (hk : k < n) :
    ∀ w', (Instr.indexAt 78 (.slice a n c) (.int .i64 k)).run Tryz.prog w' = .ok (.pointer (some ⟨bk a, fo a + k * 3, none⟩)) w' := by
  obtain ⟨h1, rfl⟩ := Own.els h cTh_len (by omega) (by omega)
  exact h1.idx thl cTh_len k hk c
theorem step_drewN (w : World) (k : Nat) (a : Option Addr) : Step w (w.drewN k) a a := ⟨⟨rfl, rfl, rfl, Nat.le_refl _, fun _ _ _ => rfl⟩, .inl rfl⟩
set_option maxRecDepth 100000 in
set_option maxHeartbeats 6400000 in
theorem compactTh (l : List Th) (w : World) (B : Nat) (a : Option Addr) (c : Nat) (h : OwnT w B a l.length c l) (hB : B ≤ w.heap.size) (hl : l.length ≤ 1000000) :
    Calls Tryz.prog 168 #[.slice a l.length c] w fun e w' => e = .returned (.slice a (cmpct l).length c) ∧ OwnT w' B a (cmpct l).length c (cmpct l) ∧ Step w w' a a := by
  obtain ⟨n, hn⟩ : ∃ n, l.length = n := ⟨_, rfl⟩
  have HN := hid hn
  have hcap := h.cap.1
  rw [hn] at h hl hcap ⊢
  have H := hid h
  by_cases h2 : n < 2
  · have E := hid (show cmpct l = l by
      have := HN.out
      match l, this with
      | [], _ => rfl
      | [x], _ => rfl
      | x :: y :: r, h => simp at h; omega)
    clear h hn
    go_enter Tryz.func168, Tryz.ntmps168
    go_wp2_with fail
    go_ret
    rw [E.out, HN.out]
    exact ⟨rfl, H.out, Step.refl _ _⟩
  · clear h hn
    go_enter Tryz.func168, Tryz.ntmps168
    go_wp2_with fail
    go_loopw [3] (fun i wr => ∃ k : Nat, k + 1 ≤ n ∧ i = .int .i64 ((k : Int) + 1) ∧ QW w wr ∧ Hid (Apa l (k + 1))) (fun i _ => n - (intOf i).toNat)
    case atStart => exact ⟨0, by omega, by go_num, QW.refl _, fun i h1 h2 => by omega⟩
    case round =>
      obtain ⟨k, hk, rfl, ⟨nd, rfl⟩, HA⟩ := hrel
      have o1 : OwnT (w.drewN nd) B a n c l := Own.below H.out (below_drewN w nd)
      by_cases hlt : k + 1 < n
      · have hlt' : k + 1 < l.length := by rw [HN.out]; exact hlt
        obtain ⟨x, hx⟩ : ∃ x, l[k]'(by omega) = x := ⟨_, rfl⟩
        obtain ⟨y, hy⟩ : ∃ y, l[k + 1] = y := ⟨_, rfl⟩
        have hxo : l[k]? = some x := by rw [← hx]; exact List.getElem?_eq_getElem _
        have hyo : l[k + 1]? = some y := by rw [← hy]; exact List.getElem?_eq_getElem _
        have els := (Own.els H.out cTh_len (by omega) (by have := HN.out; omega)).1
        obtain ⟨p0, p1, p2⟩ := els.th hxo
        obtain ⟨q0, q1, q2⟩ := els.th hyo
        have i1 := OwnT.idx o1 (by rw [HN.out]; exact hl) k (by omega)
        have i2 := OwnT.idx o1 (by rw [HN.out]; exact hl) (k + 1) hlt
        rw [show ((k + 1 : Nat) : Int) = (k : Int) + 1 by omega] at i2
        have hlen : (1 : Int) ≤ (k : Int) + 1 := by omega
        clear els hxo hyo
        by_cases e : y = x
        · have hd : decide (y = x) = true := decide_eq_true e
          have PS := hid (Prs.start HA.out hlt' (by rw [hy, hx]; exact e))
          clear hx hy HA e
          go_wp2_with fail
          go_quiet (fail)
          go_wp2_with fail
          have oA : OwnT (w.drewN (nd + nq)) B a n c l := Own.below H.out (below_drewN w (nd + nq))
          have sA : Step w (w.drewN (nd + nq)) a a := ⟨⟨rfl, rfl, rfl, Nat.le_refl _, fun _ _ _ => rfl⟩, .inl rfl⟩
          clear o1
          generalize w.drewN (nd + nq) = W at *
          have hsome : a = some ⟨bk a, fo a, none⟩ := by
            refine oA.row.head ?_
            intro e0
            have := congrArg List.length e0
            rw [flat_length cTh_len] at this; simp only [List.length_nil] at this; have := HN.out; omega
          have hcutA : Option.map (fun x : Addr => x.add ((k + 1) * 3)) a = some ⟨bk a, fo a + (k + 1) * 3, none⟩ := by
            conv => lhs; rw [hsome]
            rw [Option.map_some, Addr.add_lit]
          simp only [hcutA]
          clear hcutA hsome p0 p1 p2 q0 q1 q2 i1 i2 hd nd nq
          obtain ⟨i0, hi0⟩ : ∃ i0, k + 1 = i0 := ⟨_, rfl⟩
          have hi0' : (k : Int) + 1 = (i0 : Int) := by omega
          rw [show k + 2 = i0 + 1 by omega] at PS
          simp only [hi0, hi0'] at *
          have h1i : 1 ≤ i0 := by omega
          clear hi0 hi0' hlt' hlen hk
          go_loopw [3, 5] (fun s t wr => ∃ (i j : Nat) (L : List Th), s = .int .i64 i ∧ t = .int .i64 ((j : Int) + 1) ∧ i0 + j + 1 ≤ n ∧ Hid (Prs l L i (i0 + j + 1)) ∧ OwnT wr B a n c L ∧ Step w wr a a) (fun _ t _ => n - (intOf t).toNat)
          case atStart => exact ⟨i0, 0, l, rfl, by go_num, by omega, PS, oA, sA⟩
          case round =>
            clear oA sA PS
            obtain ⟨i, j, L, rfl, rfl, hj, PS, oR, sR⟩ := hrel
            have hPl := PS.out.len; have hPi := PS.out.lt
            have hLn : L.length = n := by rw [hPl, HN.out]
            clear hPl
            by_cases hq : i0 + j + 1 < n
            · have hql : i0 + j + 1 < l.length := by rw [HN.out]; exact hq
              obtain ⟨u, hu⟩ : ∃ u, l[i0 + j]'(by omega) = u := ⟨_, rfl⟩
              obtain ⟨v, hv⟩ : ∃ v, l[i0 + j + 1] = v := ⟨_, rfl⟩
              have hLu : (L.drop i0)[j]? = some u := by rw [List.getElem?_drop, PS.out.rest _ (by omega), ← hu]; exact List.getElem?_eq_getElem _
              have hLv : (L.drop i0)[j + 1]? = some v := by rw [List.getElem?_drop, show i0 + (j + 1) = i0 + j + 1 by omega, PS.out.rest _ (by omega), ← hv]; exact List.getElem?_eq_getElem _
              have els := (Own.els oR cTh_len (by omega) (by omega)).1
              have hsomeR : a = some ⟨bk a, fo a, none⟩ := by
                refine oR.row.head ?_
                intro e0
                have := congrArg List.length e0
                rw [flat_length cTh_len] at this; simp only [List.length_nil] at this; omega
              have els2 : Els cTh wr (some ⟨bk a, fo a + i0 * 3, none⟩) (L.drop i0) := by
                have h9 := els.drop cTh_len (by omega) i0 (c = i0) (fun hc => by omega)
                have h8 : cutA a (c = i0) (i0 * 3) = some ⟨bk a, fo a + i0 * 3, none⟩ := by
                  unfold cutA; rw [if_neg (by omega)]; conv => lhs; rw [hsomeR]
                  rw [Option.map_some, Addr.add_lit]
                rwa [h8] at h9
              obtain ⟨p0, p1, p2⟩ := els2.th hLu
              obtain ⟨q0, q1, q2⟩ := els2.th hLv
              have hdl : (L.drop i0).length = n - i0 := by rw [List.length_drop, hLn]
              have i1 := els2.idx thl cTh_len j (by omega) (c - i0)
              have i2 := els2.idx thl cTh_len (j + 1) (by omega) (c - i0)
              rw [hdl] at i1 i2
              rw [show ((j + 1 : Nat) : Int) = (j : Int) + 1 by omega] at i2
              simp only [bk_some, fo_some] at p0 p1 p2 q0 q1 q2 i1 i2
              have hM : (j : Int) + 1 < ((n - i0 : Nat) : Int) := by omega
              have hj1 : (1 : Int) ≤ (j : Int) + 1 := by omega
              by_cases e : v = u
              · have hd : decide (v = u) = true := decide_eq_true e
                have hd2 : (!decide (v = u)) = false := by rw [hd]; rfl
                have PS2 := hid (PS.out.skip hql (by rw [hv, hu]; exact e))
                have HO2 := hid (And.intro oR sR)
                clear hu hv e hLu hLv els els2 hsomeR PS
                go_wp2_with fail
                go_quiet (fail)
                obtain ⟨oR, sR⟩ := HO2.out
                have dB := below_drewN wr nq
                have oR := Own.below oR dB
                have sR := sR.trans (step_drewN wr nq a)
                go_wp2_with fail
                go_roundw
                case rel => exact ⟨i, j + 1, L, rfl, by go_num, by omega, PS2, oR, sR⟩
                case measure => simp [intOf]; omega
              · have hd : decide (v = u) = false := decide_eq_false e
                have hd2 : (!decide (v = u)) = true := by rw [hd]; rfl
                have PS2 := PS.out.keep hql (by rw [hv, hu]; exact e)
                rw [hv] at PS2
                have PS2 := hid PS2
                have HO2 := hid (And.intro oR sR)
                have HLn := hid hLn
                clear hu hv e hLu hLv els els2 hsomeR PS hLn
                go_wp2_with fail
                go_quiet (fail)
                obtain ⟨oR, sR⟩ := HO2.out
                have dB := below_drewN wr nq
                have oR := Own.below oR dB
                have sR := sR.trans (step_drewN wr nq a)
                have q0 : (wr.drewN nq).cell? ⟨bk a, fo a + i0 * 3 + (j + 1) * 3, none⟩ = some (.int .i64 v.thread) := by rw [cell?_drewN]; exact q0
                have q1 : (wr.drewN nq).cell? ⟨bk a, fo a + i0 * 3 + (j + 1) * 3 + 1, none⟩ = some (.int .i64 v.reg) := by rw [cell?_drewN]; exact q1
                have q2 : (wr.drewN nq).cell? ⟨bk a, fo a + i0 * 3 + (j + 1) * 3 + 2, none⟩ = some (.string (tx v.loc)) := by rw [cell?_drewN]; exact q2
                clear p0 p1 p2
                generalize wr.drewN nq = wq at *
                have ii := OwnT.idx oR (by rw [HLn.out]; exact hl) i (by omega)
                have els := (Own.els oR cTh_len (by omega) (by have := HLn.out; omega)).1
                obtain ⟨z, hz⟩ : ∃ z, L[i]? = some z := ⟨_, List.getElem?_eq_getElem (by have := HLn.out; omega)⟩
                obtain ⟨r0, r1, r2⟩ := els.th hz
                obtain ⟨f0, f1, f2⟩ := OwnT.frz oR (by omega) i
                obtain ⟨o2, s2⟩ := Own.storeE cTh_len oR (by omega) i (by have := HLn.out; omega) v
                have s3 := sR.trans s2
                rw [setCells3] at o2 s3
                have HO3 := hid (And.intro o2 s3)
                clear hz els oR sR o2 s2 s3 HO2
                go_wp2_with fail
                obtain ⟨o2, s3⟩ := HO3.out
                go_roundw
                case rel => exact ⟨i + 1, j + 1, L.set i v, by go_num, by go_num, by omega, PS2, o2, s3⟩
                case measure => simp [intOf]; omega
            · have hqn : i0 + j + 1 = n := by omega
              have hq2 : i0 + j + 1 = l.length := by rw [HN.out]; exact hqn
              have PSn := PS.out
              rw [hq2] at PSn
              obtain ⟨hd1, hd2⟩ := PSn.done
              have hi : i < n := by omega
              have hM : ((n - i0 : Nat) : Int) ≤ (j : Int) + 1 := by omega
              have sc := run_cut_from thl a n c i (by omega) .i64
              have st := run_cut_to thl a n c i (by omega) .i64
              obtain ⟨w9, hrun, o9, s9⟩ := run_clear_end thl Tryz.zeroValue32 (cTh_one ⟨0, 0, []⟩) oR i hi
              have o10 := Own.frontE cTh_len o9 hLn.symm (by omega)
              rw [hd1] at o10
              have s10 := sR.trans s9
              have HD := hid hd2
              have HO3 := hid (And.intro o10 s10)
              clear hd1 hd2 PSn PS o9 s9 o10 s10 oR sR hq2 hqn hLn
              go_wp2_with fail
              go_ret
              rw [HD.out]
              exact ⟨rfl, HO3.out.1, HO3.out.2⟩
        · have hd : decide (y = x) = false := decide_eq_false e
          have HA2 := hid (show Apa l (k + 2) from fun i h1 h2 => by
            by_cases hik : i = k
            · subst hik; rw [hy, hx]; exact e
            · exact HA.out i h1 (by omega))
          clear hx hy HA e o1
          go_wp2_with fail
          go_quiet (fail)
          go_wp2_with fail
          go_roundw
          case rel => exact ⟨k + 1, by omega, by go_num, ⟨nd + nq, rfl⟩, HA2⟩
          case measure => simp [intOf]; omega
      · have hkn : k + 1 = n := by omega
        have E := hid (show cmpct l = l from Apa.all (by rw [HN.out, ← hkn]; exact HA.out))
        clear HA hkn
        go_wp2_with fail
        go_ret
        rw [E.out, HN.out]
        exact ⟨rfl, o1, step_drewN w nd a⟩
end Go.Proofs.YthaibjefnclkjaaGreatDoor
namespace Go.Proofs.YthaibjefnclkjaaGreatDoor
open Go.RowKit
set_option linter.unusedVariables false

/-- the rest of the kids told as the whole -/
def RestN (arch : Int) (l : List Nd) (met deep : Nat) (R : Nat × Int) : Prop := walkL arch l met deep = R
@[reducible] def vC (q : Int) (x : Nd) : Value := .agg #[.int .i64 q, .int .i64 x.kind, .int .i64 x.th.thread, .int .i64 x.th.reg, .string (tx x.th.loc), .int .i64 x.val, .slice x.a x.kids.length x.c]
abbrev mkC (q : Int) (x : Nd) : Obj := .cells #[.int .i64 q, .int .i64 x.kind, .int .i64 x.th.thread, .int .i64 x.th.reg, .string (tx x.th.loc), .int .i64 x.val, .slice x.a x.kids.length x.c] 37
theorem condE_q {arch q : Int} {x : Nd} (ha : archB arch = true) (h1 : 1 ≤ q) (h2 : q ≤ 3) : condE arch q x = (walkN arch x 0 0).2 := by
  unfold condE; rw [if_neg (by rw [ha]; simp), if_neg (by omega)]
theorem condE_bad {arch q : Int} {x : Nd} (ha : archB arch = true) (h : q < 1 ∨ 3 < q) : condE arch q x = 80 := by
  unfold condE; rw [if_neg (by rw [ha]; simp), if_pos h]
theorem condE_arch {arch q : Int} {x : Nd} (ha : archB arch = false) : condE arch q x = 5 := by
  unfold condE; rw [if_pos ha]
end Go.Proofs.YthaibjefnclkjaaGreatDoor

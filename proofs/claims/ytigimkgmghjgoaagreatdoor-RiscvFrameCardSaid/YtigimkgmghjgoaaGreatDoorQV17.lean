/- Do (the document's answer): what it computes. Conditions: code and registers lie in memory as read; lengths that an int holds. -/
import Derived.Test.YtigimkgmghjgoaaGreatDoorQV15
import Derived.Test.YtigimkgmghjgoaaGreatDoorQV16a
import Derived.Test.YtigimkgmghjgoaaGreatDoorQV16b
import Derived.Test.YtigimkgmghjgoaaGreatDoorQV16c
import Derived.Test.YtigimkgmghjgoaaGreatDoorQV16d
namespace Go.Proofs.YtigimkgmghjgoaaGreatDoor
open Go.RowKit
set_option linter.unusedVariables false

theorem refDo_main (code : List Ins) (a : Option Addr) (c : Nat) (l : List Vl) (b : Option Addr) (cb : Nat) (hL : ∀ i ∈ code, i.label.length ≤ 9223372036854775807) (hs : SmV l) (he : (linksV code).2.1 = 0) (w : World) (hI : Is w a code) (hV : Vs w b l) (k : Nat) (hr : readyV code.length l k = true) (i : Ins) (va vb : Vl) (lab : Int)
    (hi : code[k]? = some i) (hci : checkI i = true) (hva : l[i.a.toNat]? = some va) (hvb : l[i.b.toNat]? = some vb) (hlab : (linksV code).1[k]? = some lab) (hma : n32 va.n) (hmb : n32 vb.n) (hl32 : l.length = 32) (hk1 : k < 1000) :
    Calls Tryz.prog 26 #[.slice a code.length c, .agg #[.slice b l.length cb, .int .i64 k]] w (RetDo (stepV i va vb lab ((k : Int) + 1) l) w) := by
  rcases opOf hci with h | h | h | h | h | h | h | h
  · by_cases hl : va.loc = []
    · exact refDo_lw_no code a c l b cb hL hs he w hI hV k hr i va vb lab hi hci hva hvb hlab hma hmb hl32 hk1 _ h hl (by unfold stepV; rw [if_pos h, if_pos hl])
    · exact refDo_lw code a c l b cb hL hs he w hI hV k hr i va vb lab hi hci hva hvb hlab hma hmb hl32 hk1 _ h hl (by unfold stepV; rw [if_pos h, if_neg hl])
  · by_cases hl : va.loc = []
    · exact refDo_sw_no code a c l b cb hL hs he w hI hV k hr i va vb lab hi hci hva hvb hlab hma hmb hl32 hk1 _ h hl (by unfold stepV; rw [if_neg (by omega), if_pos h, if_pos (.inl hl)])
    · by_cases hm : vb.loc = []
      · exact refDo_sw code a c l b cb hL hs he w hI hV k hr i va vb lab hi hci hva hvb hlab hma hmb hl32 hk1 _ h hl hm (by unfold stepV; rw [if_neg (by omega), if_pos h, if_neg (by simp [hl, hm])])
      · exact refDo_sw_no2 code a c l b cb hL hs he w hI hV k hr i va vb lab hi hci hva hvb hlab hma hmb hl32 hk1 _ h hl hm (by unfold stepV; rw [if_neg (by omega), if_pos h, if_pos (.inr hm)])
  · have hvr : valR i va vb = mixV 8 va ⟨[], i.imm⟩ := by unfold valR; rw [if_pos h]
    cases hm : mixV 8 va ⟨[], i.imm⟩ with
    | none => exact refDo_m8no code a c l b cb hL hs he w hI hV k hr i va vb lab hi hci hva hvb hlab hma hmb hl32 hk1 _ h hm (by unfold stepV; rw [if_neg (by omega), if_neg (by omega), if_pos (by omega), hvr, hm, if_neg (by simp)])
    | some v =>
      by_cases hd0 : i.d = 0
      · exact refDo_m8d0 code a c l b cb hL hs he w hI hV k hr i va vb lab hi hci hva hvb hlab hma hmb hl32 hk1 _ h v hm hd0 (by unfold stepV; rw [if_neg (by omega), if_neg (by omega), if_pos (by omega), hvr, hm, if_pos (by simp)]; simp [outM, setR, hd0])
      · exact refDo_m8dn code a c l b cb hL hs he w hI hV k hr i va vb lab hi hci hva hvb hlab hma hmb hl32 hk1 _ h v hm hd0 (by unfold stepV; rw [if_neg (by omega), if_neg (by omega), if_pos (by omega), hvr, hm, if_pos (by simp)]; simp [outM, setR, hd0])
  · have hvr : valR i va vb = xorV i va vb := by unfold valR; rw [if_neg (by omega), if_pos h]
    by_cases hab : i.a = i.b
    · have hx : xorV i va vb = some vl0 := by unfold xorV; rw [if_pos hab]
      by_cases hd0 : i.d = 0
      · exact refDo_m9s0 code a c l b cb hL hs he w hI hV k hr i va vb lab hi hci hva hvb hlab hma hmb hl32 hk1 _ h hab vl0 rfl (mixV 9 va vb) rfl hd0 (by unfold stepV; rw [if_neg (by omega), if_neg (by omega), if_pos (by omega), hvr, hx, if_pos (by simp)]; simp [outM, setR, hd0])
      · exact refDo_m9sn code a c l b cb hL hs he w hI hV k hr i va vb lab hi hci hva hvb hlab hma hmb hl32 hk1 _ h hab vl0 rfl (mixV 9 va vb) rfl hd0 (by unfold stepV; rw [if_neg (by omega), if_neg (by omega), if_pos (by omega), hvr, hx, if_pos (by simp)]; simp [outM, setR, hd0])
    · have hx : xorV i va vb = mixV 9 va vb := by unfold xorV; rw [if_neg hab]
      cases hm : mixV 9 va vb with
      | none => exact refDo_m9no code a c l b cb hL hs he w hI hV k hr i va vb lab hi hci hva hvb hlab hma hmb hl32 hk1 _ h hab hm (by unfold stepV; rw [if_neg (by omega), if_neg (by omega), if_pos (by omega), hvr, hx, hm, if_neg (by simp)])
      | some v =>
        by_cases hd0 : i.d = 0
        · exact refDo_m9d0 code a c l b cb hL hs he w hI hV k hr i va vb lab hi hci hva hvb hlab hma hmb hl32 hk1 _ h hab v hm hd0 (by unfold stepV; rw [if_neg (by omega), if_neg (by omega), if_pos (by omega), hvr, hx, hm, if_pos (by simp)]; simp [outM, setR, hd0])
        · exact refDo_m9dn code a c l b cb hL hs he w hI hV k hr i va vb lab hi hci hva hvb hlab hma hmb hl32 hk1 _ h hab v hm hd0 (by unfold stepV; rw [if_neg (by omega), if_neg (by omega), if_pos (by omega), hvr, hx, hm, if_pos (by simp)]; simp [outM, setR, hd0])
  · have hvr : valR i va vb = mixV 10 va vb := by unfold valR; rw [if_neg (by omega), if_neg (by omega)]
    cases hm : mixV 10 va vb with
    | none => exact refDo_m10no code a c l b cb hL hs he w hI hV k hr i va vb lab hi hci hva hvb hlab hma hmb hl32 hk1 _ h hm (by unfold stepV; rw [if_neg (by omega), if_neg (by omega), if_pos (by omega), hvr, hm, if_neg (by simp)])
    | some v =>
      by_cases hd0 : i.d = 0
      · exact refDo_m10d0 code a c l b cb hL hs he w hI hV k hr i va vb lab hi hci hva hvb hlab hma hmb hl32 hk1 _ h v hm hd0 (by unfold stepV; rw [if_neg (by omega), if_neg (by omega), if_pos (by omega), hvr, hm, if_pos (by simp)]; simp [outM, setR, hd0])
      · exact refDo_m10dn code a c l b cb hL hs he w hI hV k hr i va vb lab hi hci hva hvb hlab hma hmb hl32 hk1 _ h v hm hd0 (by unfold stepV; rw [if_neg (by omega), if_neg (by omega), if_pos (by omega), hvr, hm, if_pos (by simp)]; simp [outM, setR, hd0])
  · by_cases hab : va = vb
    · exact refDo_bne_same code a c l b cb hL hs he w hI hV k hr i va vb lab hi hci hva hvb hlab hma hmb hl32 hk1 _ h hab (by unfold stepV; rw [if_neg (by omega), if_neg (by omega), if_neg (by omega), if_pos h, if_pos hab])
    · exact refDo_bne_on code a c l b cb hL hs he w hI hV k hr i va vb lab hi hci hva hvb hlab hma hmb hl32 hk1 _ h hab (by unfold stepV; rw [if_neg (by omega), if_neg (by omega), if_neg (by omega), if_pos h, if_neg hab])
  · exact refDo_label code a c l b cb hL hs he w hI hV k hr i va vb lab hi hci hva hvb hlab hma hmb hl32 hk1 _ h (by unfold stepV; rw [if_neg (by omega), if_neg (by omega), if_neg (by omega), if_neg (by omega), if_neg (by omega)])
  · exact refDo_fence code a c l b cb hL hs he w hI hV k hr i va vb lab hi hci hva hvb hlab hma hmb hl32 hk1 _ h (by unfold stepV; rw [if_neg (by omega), if_neg (by omega), if_neg (by omega), if_neg (by omega), if_pos h])
theorem refDo (code : List Ins) (a : Option Addr) (c : Nat) (l : List Vl) (b : Option Addr) (cb : Nat) (at' : Int) (hL : ∀ i ∈ code, i.label.length ≤ 9223372036854775807) (hs : SmV l) (w : World) (hI : Is w a code) (hV : Vs w b l) :
    Calls Tryz.prog 26 #[.slice a code.length c, .agg #[.slice b l.length cb, .int .i64 at']] w (RetDo (doV code l at') w) := by
  by_cases he : (linksV code).2.1 = 0
  · cases hr : readyV code.length l at'
    · exact refDo_unready code a c l b cb at' hL hs he hr w hI hV
    · obtain ⟨k, i, va, vb, lab, hk, hi, hci, hva, hvb, hlab, hma, hmb, hl32, hk1, hd⟩ := doV_main he hr
      rw [hd]
      subst hk
      exact refDo_main code a c l b cb hL hs he w hI hV k hr i va vb lab hi hci hva hvb hlab hma hmb hl32 hk1
  · exact refDo_links code a c l b cb at' hL he w hI
end Go.Proofs.YtigimkgmghjgoaaGreatDoor

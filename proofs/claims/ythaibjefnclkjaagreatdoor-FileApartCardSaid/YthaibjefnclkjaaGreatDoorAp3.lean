/- The walks of reg, letter, digit, Reg, RegOf (the program's), Reg, RegOf (the document's answer). No condition. The walks of named and fields (the program's), and of Check. Conditions: lengths that an int holds. The walk of fields (the program's). Condition: lengths that an int holds. The walks of fields at a branch and a label, and of Check (the program's). Condition: lengths that an int holds. The walk of Check (the program's). Condition: lengths that an int holds. What read answers, as plain functions of the parts. No condition. The walks of three, moved (the program's). Conditions: texts in memory as read, of lengths that an int holds. The walks of parts, fenced (the program's). Conditions: none but those that each theorem names. The walk of fenced at three fences (the program's). No condition. The walk of fenced at three fences (the program's). No condition. The walk of fenced at three fences (the program's). No condition. The walk of fenced (the program's). Conditions: none but those that the theorem names. The walk of read (the program's). Conditions: texts in memory as read, of lengths that an int holds; the library's variables as the program's text lays them. The walk of read (the program's), continued. Conditions: texts in memory as read, of lengths that an int holds; the library's variables as the program's text lays them. The walks of blank, Parse (the program's). Conditions: lengths that an int holds; the library's variables as the program's text lays them. Slices of instructions: read. Lemmas of this claim's own; no condition. -/
import Derived.Test.YthaibjefnclkjaaGreatDoorAp2
import Derived.BigRegion
import Derived.StillTailTactics
import Derived.Deep.RegionWith
import Derived.Lib.AtoiAll
import Derived.Deep.DeepCutAuto
set_option linter.unusedVariables false
set_option maxRecDepth 100000
set_option maxHeartbeats 6400000
namespace Go.Proofs.YthaibjefnclkjaaGreatDoor
open Go.RowKit
theorem progReg0 (n:Int) (w:World):Calls Tryz.prog 97 #[.int .i64 n] w fun e w'=>e = .returned (.bool (regB n))∧w=w':=by
 have hp:n<0∨(0≤n∧n≤31)∨32≤n:=by omega
 rcases hp with h|⟨h,h'⟩|h
 all_goals
  go_enter Tryz.func97,Tryz.ntmps97
  go_wp2
  go_ret
  exact ⟨ret_bool (by unfold regB;rw [Bool.eq_iff_iff];simp <;> omega),rfl⟩
theorem progLetter (c:UInt8) (w:World):Calls Tryz.prog 169 #[.int .u8 c.toNat] w fun e w'=>e = .returned (.bool (letterC c))∧w=w':=by
 have hlt:c.toNat<256:=c.toNat_lt
 have hl:letterC c=((decide (97≤c.toNat)&&decide (c.toNat≤122)) || (decide (65≤c.toNat)&&decide (c.toNat≤90))):=by
  unfold letterC;simp only [UInt8.le_iff_toNat_le];rfl
 rw [hl];clear hl
 generalize c.toNat=n at *
 have hp:n<65∨(65≤n∧n≤90)∨(91≤n∧n≤96)∨(97≤n∧n≤122)∨123≤n:=by omega
 rcases hp with h|⟨h,h'⟩|⟨h,h'⟩|⟨h,h'⟩|h
 all_goals
  go_enter Tryz.func169,Tryz.ntmps169
  go_wp2
  go_ret
  exact ⟨ret_bool (by first|(rw [Bool.eq_iff_iff];simp <;> omega)|(simp <;> omega)),rfl⟩
theorem progDigit (c:UInt8) (w:World):Calls Tryz.prog 170 #[.int .u8 c.toNat] w fun e w'=>e = .returned (.bool (digitC c))∧w=w':=by
 have hlt:c.toNat<256:=c.toNat_lt
 have hl:digitC c=(decide (48≤c.toNat)&&decide (c.toNat≤57)):=by
  unfold digitC;simp only [UInt8.le_iff_toNat_le];rfl
 rw [hl];clear hl
 generalize c.toNat=n at *
 have hp:n<48∨(48≤n∧n≤57)∨58≤n:=by omega
 rcases hp with h|⟨h,h'⟩|h
 all_goals
  go_enter Tryz.func170,Tryz.ntmps170
  go_wp2
  go_ret
  exact ⟨ret_bool (by first|(rw [Bool.eq_iff_iff];simp <;> omega)|(simp <;> omega)),rfl⟩
theorem decN_len (n:Nat):(decN n).length≤4:=by unfold decN;split <;> (try split) <;> (try split) <;> simp
theorem cat_x (n:Nat) : ∀ w,(Op.stringOp .add ⟨#[120]⟩ (tx (decN n))).run Tryz.prog w = .ok (.string (tx (regT n))) w:=run_cat [120] (decN n) (by have:=decN_len n;simp;omega)
theorem progReg (n:Nat) (h:n<32) (w:World):Calls Tryz.prog 59 #[.int .i64 n] w fun e w'=>e = .returned (.tuple #[.string (tx (regT n)),.int .i64 0])∧w=w':=by
 have hr:=regB_of h
 have cx:=cat_x n
 go_enter Tryz.func59,Tryz.ntmps59
 go_wp2_with (go_at_call 97;refine (progReg0 _ _).mono ?_;rintro e w' ⟨rfl,rfl⟩;rw [hr])
 refine (itoa_small n (by omega) _).mono ?_
 rintro e w' ⟨rfl,rfl⟩
 go_wp2_with fail
 go_ret2
 exact ⟨rfl,rfl⟩
theorem refReg (n:Nat) (h:n<32) (w:World):Calls Tryz.prog 64 #[.int .i64 n] w fun e w'=>e = .returned (.tuple #[.string (tx (regT n)),.int .i64 0])∧w=w':=by
 have cx:=cat_x n
 go_enter Tryz.func64,Tryz.ntmps64
 go_wp2_with fail
 refine (itoa_small n (by omega) _).mono ?_
 rintro e w' ⟨rfl,rfl⟩
 go_wp2_with fail
 go_ret2
 exact ⟨rfl,rfl⟩
theorem run_ix (l:Tx) (k:Nat) (c:UInt8) (hk:l[k]? = some c) : ∀ w,(Instr.index 9 (.string (tx l)) (.int .i64 k)).run Tryz.prog w = .ok (.int .u8 c.toNat) w:=by
 intro w
 obtain ⟨hlt,rfl⟩:=List.getElem?_eq_some_iff.1 hk
 have h1:=Tryz.underlying9
 have hs:=tx_size l
 simp [Instr.index,asIntOf,run_underlying h1,hs,hlt]
 rfl
theorem run_ixz (l:Tx) (c:UInt8) (hk:l[0]? = some c) : ∀ w,(Instr.index 9 (.string (tx l)) (.int .i64 0)).run Tryz.prog w = .ok (.int .u8 c.toNat) w:=run_ix l 0 c hk
theorem u8_ne (c d:UInt8) (h:c≠d):((c.toNat:Int)!=(d.toNat:Int))=true:=by
 simp only [bne_iff_ne,ne_eq]
 intro e
 exact h (UInt8.toNat_inj.1 (by omega))
theorem nameB_cons (c:UInt8) (r:Tx):nameB (c::r)=(decide (r.length<32)&&letterC c&&r.all nameC):=rfl
theorem nameB_step {l:Tx} {k:Nat} {c:UInt8} (h:l[k]? = some c) (hn:nameC c=false):nameB l=false:=by
 have hm:c∈l:=List.mem_of_getElem? h
 cases l with
 | nil=>rfl
 | cons d r =>
  rw [nameB_cons]
  rcases List.mem_cons.1 hm with rfl|hm
  ·have:letterC c=false:=by unfold nameC at hn;simp at hn;exact hn.1.1
   rw [this];simp
  ·have:r.all nameC=false:=by simp only [List.all_eq_false];exact ⟨c,hm,by rw [hn];simp⟩
   rw [this];simp
theorem nameB_done {c:UInt8} {r:Tx} (hl:r.length<32) (hc:letterC c=true) (h : ∀ (i:Nat) (x:UInt8),(c::r)[i]? = some x→nameC x=true):nameB (c::r)=true:=by
 rw [nameB_cons,hc,decide_eq_true hl]
 simp only [Bool.and_self,Bool.true_and,List.all_eq_true]
 intro x hx
 obtain ⟨i,hi,rfl⟩:=List.mem_iff_getElem.1 hx
 exact h (i+1) _ (by simp [hi])
theorem progNamed (l : Tx) (hl : l.length ≤ 9223372036854775807) (w : World) : Calls Tryz.prog 131 #[.string (tx l)] w fun e w' => e = .returned (.bool (nameB l)) ∧ w = w' := by
  have hs := tx_size l
  cases l with
  | nil =>
    have hs : (tx []).size = 0 := rfl
    go_enter Tryz.func131, Tryz.ntmps131
    go_wp2_with fail
    go_ret
    exact ⟨rfl, rfl⟩
  | cons c r =>
    obtain ⟨n, hn⟩ : ∃ n, (tx (c :: r)).size = n := ⟨_, rfl⟩
    have hn1 : 1 ≤ n := by rw [← hn, hs]; simp
    have hnr : n = r.length + 1 := by rw [← hn, hs]; simp
    have hz : ((n : Int) == 0) = false := by simp; omega
    clear hs hl
    by_cases h32 : n ≤ 32
    · have i0 := run_ixz (c :: r) c rfl
      by_cases hc : letterC c = true
      · have HC := hid hc
        have HR := hid hnr
        clear hc hnr
        go_enter Tryz.func131, Tryz.ntmps131
        go_wp2_with (go_at_call 169; refine (progLetter c _).mono ?_; rintro e w' ⟨rfl, rfl⟩; rw [HC.out])
        go_loop [21] (fun i => ∃ k : Nat, k ≤ n ∧ i = .int .i64 k ∧ Hid (∀ (i : Nat) (x : UInt8), i < k → (c :: r)[i]? = some x → nameC x = true)) (fun i => n - (intOf i).toNat)
        case atStart => exact ⟨0, by omega, rfl, fun i x hi => absurd hi (Nat.not_lt_zero i)⟩
        case round =>
          obtain ⟨k, hk, rfl, HM⟩ := hrel
          by_cases hlt : k < n
          · obtain ⟨x, hx⟩ : ∃ x, (c :: r)[k]? = some x := ⟨_, List.getElem?_eq_getElem (by have := HR.out; simp; omega)⟩
            have ix := run_ix (c :: r) k x hx
            have HX := hid hx
            clear hx
            have HM2 : nameC x = true → Hid (∀ (i : Nat) (y : UInt8), i < k + 1 → (c :: r)[i]? = some y → nameC y = true) := fun hx' i y hi hy => by
              rcases Nat.lt_succ_iff_lt_or_eq.1 hi with h | h
              · exact HM.out i y h hy
              · subst h; rw [HX.out] at hy; cases hy; exact hx'
            have HM2 := hid HM2
            by_cases h1 : letterC x = true
            · have H1 := hid h1
              have HN := hid (HM2.out (by unfold nameC; rw [h1]; rfl))
              clear h1
              go_wp2_with (go_at_call 169; refine (progLetter x _).mono ?_; rintro e w' ⟨rfl, rfl⟩; rw [H1.out])
              go_round
              case rel => exact ⟨k + 1, by omega, by go_num, HN.out⟩
              case measure => simp [intOf]; omega
            · have H1 := hid (Bool.eq_false_iff.2 h1)
              clear h1
              by_cases h2 : digitC x = true
              · have H2 := hid h2
                have HN := hid (HM2.out (by unfold nameC; rw [h2]; simp))
                clear h2
                go_wp2_with (first | (go_at_call 169; refine (progLetter x _).mono ?_; rintro e w' ⟨rfl, rfl⟩; rw [H1.out]) | (go_at_call 170; refine (progDigit x _).mono ?_; rintro e w' ⟨rfl, rfl⟩; rw [H2.out]))
                go_round
                case rel => exact ⟨k + 1, by omega, by go_num, HN.out⟩
                case measure => simp [intOf]; omega
              · have H2 := hid (Bool.eq_false_iff.2 h2)
                clear h2
                by_cases h3 : x = 95
                · subst h3
                  have HN := hid (HM2.out (by decide))
                  have z3 : (((95 : UInt8).toNat : Int) != 95) = false := by decide
                  go_wp2_with (first | (go_at_call 169; refine (progLetter 95 _).mono ?_; rintro e w' ⟨rfl, rfl⟩; rw [H1.out]) | (go_at_call 170; refine (progDigit 95 _).mono ?_; rintro e w' ⟨rfl, rfl⟩; rw [H2.out]))
                  go_round
                  case rel => exact ⟨k + 1, by omega, by go_num, HN.out⟩
                  case measure => simp [intOf]; omega
                · have z3 : ((x.toNat : Int) != 95) = true := u8_ne x 95 h3
                  have HF := hid (nameB_step HX.out (by unfold nameC; rw [H1.out, H2.out]; simpa using h3))
                  clear h3
                  go_wp2_with (first | (go_at_call 169; refine (progLetter x _).mono ?_; rintro e w' ⟨rfl, rfl⟩; rw [H1.out]) | (go_at_call 170; refine (progDigit x _).mono ?_; rintro e w' ⟨rfl, rfl⟩; rw [H2.out]))
                  go_ret
                  exact ⟨ret_bool HF.out.symm, rfl⟩
          · have HF := hid (nameB_done (c := c) (r := r) (by have := HR.out; omega) HC.out (fun i x hi => HM.out i x (by
              have h1 := (List.getElem?_eq_some_iff.1 hi).1
              have := HR.out
              simp at h1; omega) hi))
            go_wp2_with fail
            go_ret
            exact ⟨ret_bool HF.out.symm, rfl⟩
      · have HC := hid (Bool.eq_false_iff.2 hc)
        have HF := hid (show nameB (c :: r) = false by rw [nameB_cons, HC.out]; simp)
        clear hc hnr
        go_enter Tryz.func131, Tryz.ntmps131
        go_wp2_with (go_at_call 169; refine (progLetter c _).mono ?_; rintro e w' ⟨rfl, rfl⟩; rw [HC.out])
        go_ret
        exact ⟨ret_bool HF.out.symm, rfl⟩
    · have HF := hid (show nameB (c :: r) = false by rw [nameB_cons, decide_eq_false (by omega)]; simp)
      clear hnr
      go_enter Tryz.func131, Tryz.ntmps131
      go_wp2_with fail
      go_ret
      exact ⟨ret_bool HF.out.symm, rfl⟩
def RetF (w:World) (op d a b imm:Int) (loc label:ByteArray) (fence:Int) (ok:Bool) (x:Ending) (w':World):Prop :=
 x = .returned (.tuple #[.agg #[.int .i64 op,.int .i64 d,.int .i64 a,.int .i64 b,.int .i64 imm,.string loc,.string label,.int .i64 fence],.bool ok])∧Below w.heap.size w w'
theorem progFields_lw (d a b imm:Int) (loc label:Tx) (fence:Int) (w:World):Calls Tryz.prog 96 #[vI ⟨6,d,a,b,imm,loc,label,fence⟩] w (RetF w 6 d a 0 0 ⟨#[]⟩ ⟨#[]⟩ 0 true):=by
 go_enter Tryz.func96,Tryz.ntmps96
 go_wp2_with fail
 go_big_region
 go_wp2_with fail
 exact bodyPost_ret (by simp [results,Tryz.results96,go_sem]) rfl ⟨rfl,blA⟩
theorem progFields_sw (d a b imm:Int) (loc label:Tx) (fence:Int) (w:World):Calls Tryz.prog 96 #[vI ⟨7,d,a,b,imm,loc,label,fence⟩] w (RetF w 7 0 a b 0 ⟨#[]⟩ ⟨#[]⟩ 0 true):=by
 go_enter Tryz.func96,Tryz.ntmps96
 go_wp2_with fail
 go_big_region
 go_wp2_with fail
 exact bodyPost_ret (by simp [results,Tryz.results96,go_sem]) rfl ⟨rfl,blA⟩
theorem progFields_ori_lo (d a b imm:Int) (loc label:Tx) (fence:Int) (h:imm < -2048) (w:World):Calls Tryz.prog 96 #[vI ⟨8,d,a,b,imm,loc,label,fence⟩] w (RetF w 8 d a 0 imm ⟨#[]⟩ ⟨#[]⟩ 0 false):=by
 have z1:decide (-2048≤imm)=false:=by simp;omega
 go_enter Tryz.func96,Tryz.ntmps96
 go_wp2_with fail
 go_big_region
 go_wp2_with fail
 go_big_region
 go_wp2_with fail
 exact bodyPost_ret (by simp [results,Tryz.results96,go_sem]) rfl ⟨rfl,blA⟩
theorem progFields_ori_in (d a b imm:Int) (loc label:Tx) (fence:Int) (h1 : -2048≤imm) (h2:imm≤2047) (w:World):Calls Tryz.prog 96 #[vI ⟨8,d,a,b,imm,loc,label,fence⟩] w (RetF w 8 d a 0 imm ⟨#[]⟩ ⟨#[]⟩ 0 true):=by
 have z1:decide (-2048≤imm)=true:=by simp;omega
 have z2:decide (imm≤2047)=true:=by simp;omega
 go_enter Tryz.func96,Tryz.ntmps96
 go_wp2_with fail
 go_big_region
 go_wp2_with fail
 go_big_region
 go_wp2_with fail
 exact bodyPost_ret (by simp [results,Tryz.results96,go_sem]) rfl ⟨rfl,blA⟩
theorem progFields_ori_hi (d a b imm:Int) (loc label:Tx) (fence:Int) (h:2047<imm) (w:World):Calls Tryz.prog 96 #[vI ⟨8,d,a,b,imm,loc,label,fence⟩] w (RetF w 8 d a 0 imm ⟨#[]⟩ ⟨#[]⟩ 0 false):=by
 have z1:decide (-2048≤imm)=true:=by simp;omega
 have z2:decide (imm≤2047)=false:=by simp;omega
 go_enter Tryz.func96,Tryz.ntmps96
 go_wp2_with fail
 go_big_region
 go_wp2_with fail
 go_big_region
 go_wp2_with fail
 exact bodyPost_ret (by simp [results,Tryz.results96,go_sem]) rfl ⟨rfl,blA⟩
theorem progFields_xor (d a b imm:Int) (loc label:Tx) (fence:Int) (w:World):Calls Tryz.prog 96 #[vI ⟨9,d,a,b,imm,loc,label,fence⟩] w (RetF w 9 d a b 0 ⟨#[]⟩ ⟨#[]⟩ 0 true):=by
 go_enter Tryz.func96,Tryz.ntmps96
 go_wp2_with fail
 go_big_region
 go_wp2_with fail
 exact bodyPost_ret (by simp [results,Tryz.results96,go_sem]) rfl ⟨rfl,blA⟩
theorem progFields_add (d a b imm:Int) (loc label:Tx) (fence:Int) (w:World):Calls Tryz.prog 96 #[vI ⟨10,d,a,b,imm,loc,label,fence⟩] w (RetF w 10 d a b 0 ⟨#[]⟩ ⟨#[]⟩ 0 true):=by
 go_enter Tryz.func96,Tryz.ntmps96
 go_wp2_with fail
 go_big_region
 go_wp2_with fail
 exact bodyPost_ret (by simp [results,Tryz.results96,go_sem]) rfl ⟨rfl,blA⟩
theorem progFields_fence_lo (d a b imm:Int) (loc label:Tx) (fence:Int) (h:fence<2) (w:World):Calls Tryz.prog 96 #[vI ⟨13,d,a,b,imm,loc,label,fence⟩] w (RetF w 13 0 0 0 0 ⟨#[]⟩ ⟨#[]⟩ fence false):=by
 have z1:decide (2≤fence)=false:=by simp;omega
 go_enter Tryz.func96,Tryz.ntmps96
 go_wp2_with fail
 go_big_region
 go_wp2_with fail
 exact bodyPost_ret (by simp [results,Tryz.results96,go_sem]) rfl ⟨rfl,blA⟩
theorem progFields_fence_in (d a b imm:Int) (loc label:Tx) (fence:Int) (h1:2≤fence) (h2:fence≤11) (w:World):Calls Tryz.prog 96 #[vI ⟨13,d,a,b,imm,loc,label,fence⟩] w (RetF w 13 0 0 0 0 ⟨#[]⟩ ⟨#[]⟩ fence true):=by
 have z1:decide (2≤fence)=true:=by simp;omega
 have z2:decide (fence≤11)=true:=by simp;omega
 go_enter Tryz.func96,Tryz.ntmps96
 go_wp2_with fail
 go_big_region
 go_wp2_with fail
 exact bodyPost_ret (by simp [results,Tryz.results96,go_sem]) rfl ⟨rfl,blA⟩
theorem progFields_fence_hi (d a b imm:Int) (loc label:Tx) (fence:Int) (h:11<fence) (w:World):Calls Tryz.prog 96 #[vI ⟨13,d,a,b,imm,loc,label,fence⟩] w (RetF w 13 0 0 0 0 ⟨#[]⟩ ⟨#[]⟩ fence false):=by
 have z1:decide (2≤fence)=true:=by simp;omega
 have z2:decide (fence≤11)=false:=by simp;omega
 go_enter Tryz.func96,Tryz.ntmps96
 go_wp2_with fail
 go_big_region
 go_wp2_with fail
 exact bodyPost_ret (by simp [results,Tryz.results96,go_sem]) rfl ⟨rfl,blA⟩
theorem progFields_no (op d a b imm:Int) (loc label:Tx) (fence:Int) (h:op<6∨13<op) (w:World):Calls Tryz.prog 96 #[vI ⟨op,d,a,b,imm,loc,label,fence⟩] w (RetF w op 0 0 0 0 ⟨#[]⟩ ⟨#[]⟩ 0 false):=by
 have z6:(op==6)=false:=by simp;omega
 have z7:(op==7)=false:=by simp;omega
 have z8:(op==8)=false:=by simp;omega
 have z9:(op==9)=false:=by simp;omega
 have z10:(op==10)=false:=by simp;omega
 have z11:(op==11)=false:=by simp;omega
 have z12:(op==12)=false:=by simp;omega
 have z13:(op==13)=false:=by simp;omega
 go_enter Tryz.func96,Tryz.ntmps96
 go_wp2_with fail
 exact bodyPost_ret (by simp [results,Tryz.results96,go_sem]) rfl ⟨rfl,blA⟩
theorem progFields_bne (d a b imm:Int) (loc label:Tx) (fence:Int) (hl:label.length≤9223372036854775807) (w:World):Calls Tryz.prog 96 #[vI ⟨11,d,a,b,imm,loc,label,fence⟩] w (RetF w 11 0 a b 0 ⟨#[]⟩ (tx label) 0 (nameB label)):=by
 go_enter Tryz.func96,Tryz.ntmps96
 go_wp2_with fail
 go_big_region
 go_wp2_with fail
 go_region_with (go_at_call 131;refine (progNamed label hl _).mono ?_;rintro e' w' ⟨rfl,rfl⟩)
 all_goals
  go_wp2_with fail
  exact bodyPost_ret (by simp [results,Tryz.results96,go_sem]) rfl ⟨rfl,blA⟩
theorem progFields_label (d a b imm:Int) (loc label:Tx) (fence:Int) (hl:label.length≤9223372036854775807) (w:World):Calls Tryz.prog 96 #[vI ⟨12,d,a,b,imm,loc,label,fence⟩] w (RetF w 12 0 0 0 0 ⟨#[]⟩ (tx label) 0 (nameB label)):=by
 go_enter Tryz.func96,Tryz.ntmps96
 go_wp2_with fail
 go_region_with (go_at_call 131;refine (progNamed label hl _).mono ?_;rintro e' w' ⟨rfl,rfl⟩)
 all_goals
  go_wp2_with fail
  exact bodyPost_ret (by simp [results,Tryz.results96,go_sem]) rfl ⟨rfl,blA⟩
theorem progFields (i:Ins) (hl:i.label.length≤9223372036854775807) (w:World):Calls Tryz.prog 96 #[vI i] w fun x w'=>x = .returned (.tuple #[vI (wantI i),.bool (okI i)])∧Below w.heap.size w w':=by
 obtain ⟨op,d,a,b,imm,loc,label,fence⟩:=i
 by_cases h6:op=6
 ·subst h6;exact progFields_lw d a b imm loc label fence w
 by_cases h7:op=7
 ·subst h7;exact progFields_sw d a b imm loc label fence w
 by_cases h8:op=8
 ·subst h8
  have ho:okI ⟨8,d,a,b,imm,loc,label,fence⟩=(decide (-2048≤imm)&&decide (imm≤2047)):=rfl
  rw [ho]
  by_cases h1:imm < -2048
  ·rw [show (decide (-2048≤imm)&&decide (imm≤2047))=false by simp;omega];exact progFields_ori_lo d a b imm loc label fence h1 w
  ·by_cases h2:imm≤2047
   ·rw [show (decide (-2048≤imm)&&decide (imm≤2047))=true by simp;omega];exact progFields_ori_in d a b imm loc label fence (by omega) h2 w
   ·rw [show (decide (-2048≤imm)&&decide (imm≤2047))=false by simp;omega];exact progFields_ori_hi d a b imm loc label fence (by omega) w
 by_cases h9:op=9
 ·subst h9;exact progFields_xor d a b imm loc label fence w
 by_cases h10:op=10
 ·subst h10;exact progFields_add d a b imm loc label fence w
 by_cases h11:op=11
 ·subst h11;exact progFields_bne d a b imm loc label fence hl w
 by_cases h12:op=12
 ·subst h12;exact progFields_label d a b imm loc label fence hl w
 by_cases h13:op=13
 ·subst h13
  have ho:okI ⟨13,d,a,b,imm,loc,label,fence⟩=(decide (2≤fence)&&decide (fence≤11)):=rfl
  rw [ho]
  by_cases h1:fence<2
  ·rw [show (decide (2≤fence)&&decide (fence≤11))=false by simp;omega];exact progFields_fence_lo d a b imm loc label fence h1 w
  ·by_cases h2:fence≤11
   ·rw [show (decide (2≤fence)&&decide (fence≤11))=true by simp;omega];exact progFields_fence_in d a b imm loc label fence (by omega) h2 w
   ·rw [show (decide (2≤fence)&&decide (fence≤11))=false by simp;omega];exact progFields_fence_hi d a b imm loc label fence (by omega) w
 have hw:wantI ⟨op,d,a,b,imm,loc,label,fence⟩=⟨op,0,0,0,0,[],[],0⟩:=by
  unfold wantI;simp only;rw [if_neg h6,if_neg h7,if_neg h8,if_neg h9,if_neg h10,if_neg h11,if_neg h12,if_neg h13]
 have ho:okI ⟨op,d,a,b,imm,loc,label,fence⟩=false:=by
  unfold okI;simp only;rw [if_neg h8,if_neg (by omega),if_neg h13];simp;omega
 rw [hw,ho]
 exact progFields_no op d a b imm loc label fence (by omega) w
attribute [local go_sem high] eqI neqI
theorem errI_no {i:Ins} (h:checkI i=false):errI i=91:=by unfold errI;rw [h];rfl
theorem errI_yes {i:Ins} (h:checkI i=true):errI i=0:=by unfold errI;rw [h];rfl
theorem progCheck (i:Ins) (hl:i.label.length≤9223372036854775807) (w:World):Calls Tryz.prog 58 #[vI i] w (Ret w (.int .i64 (errI i))):=by
 have E1:=al w (mkI i)
 have b0:=BxI.new w i
 obtain ⟨wi,hwi⟩ : ∃ wi,wantI i=wi:=⟨_,rfl⟩
 obtain ⟨ok,hok⟩ : ∃ ok,okI i=ok:=⟨_,rfl⟩
 have hc:checkI i=(ok&&decide (i=wi)&&regB i.d&&regB i.a&&regB i.b):=by unfold checkI;rw [hwi,hok]
 have PF:=hid (progFields i hl)
 have HF:=hid (show ∀ w,Calls Tryz.prog 96 #[vI i] w fun x w'=>x = .returned (.tuple #[vI wi,.bool ok])∧Below w.heap.size w w' from by rw [← hwi,← hok];exact PF.out)
 clear hwi hok hl PF
 cases ok
 ·have HE:=hid (errI_no (by rw [hc];rfl))
  clear hc
  go_enter Tryz.func58,Tryz.ntmps58
  go_wp2_with fail
  refine (HF.out _).mono ?_
  rintro x w1 ⟨rfl,E⟩
  have B:=E1.trans (E.mono E1.size)
  go_wp2_with fail
  go_ret
  exact ⟨ret_int HE.out.symm,blA⟩
 by_cases he:i=wi
 ·have hd:decide (wi=i)=true:=decide_eq_true he.symm
  have hd2:(!decide (wi=i))=false:=by rw [hd];rfl
  have hd3:decide (¬ wi=i)=false:=by simpa using he.symm
  by_cases h1:regB i.d=true
  ·by_cases h2:regB i.a=true
   ·by_cases h3:regB i.b=true
    ·have HE:=hid (errI_yes (by rw [hc,h1,h2,h3,decide_eq_true he];rfl))
     have H1:=hid h1;have H2:=hid h2;have H3:=hid h3
     clear hc he h1 h2 h3
     go_enter Tryz.func58,Tryz.ntmps58
     go_wp2_with fail
     refine (HF.out _).mono ?_
     rintro x w1 ⟨rfl,E⟩
     have B:=E1.trans (E.mono E1.size)
     have b:=b0.below E
     have hlt:=b.1
     obtain ⟨q0,q1,q2,q3,q4,q5,q6,q7⟩:=b.cells
     clear b
     go_wp2_with (go_at_call 97;refine (progReg0 _ _).mono ?_;rintro e w' ⟨rfl,rfl⟩;(try rw [H1.out]);(try rw [H2.out]);(try rw [H3.out]))
     go_ret
     exact ⟨ret_int HE.out.symm,blA⟩
    ·have H1:=hid h1;have H2:=hid h2;have H3:=hid (Bool.eq_false_iff.2 h3)
     have HE:=hid (errI_no (by rw [hc,H3.out];simp))
     clear hc he h1 h2 h3
     go_enter Tryz.func58,Tryz.ntmps58
     go_wp2_with fail
     refine (HF.out _).mono ?_
     rintro x w1 ⟨rfl,E⟩
     have B:=E1.trans (E.mono E1.size)
     have b:=b0.below E
     have hlt:=b.1
     obtain ⟨q0,q1,q2,q3,q4,q5,q6,q7⟩:=b.cells
     clear b
     go_wp2_with (go_at_call 97;refine (progReg0 _ _).mono ?_;rintro e w' ⟨rfl,rfl⟩;(try rw [H1.out]);(try rw [H2.out]);(try rw [H3.out]))
     go_ret
     exact ⟨ret_int HE.out.symm,blA⟩
   ·have H1:=hid h1;have H2:=hid (Bool.eq_false_iff.2 h2)
    have HE:=hid (errI_no (by rw [hc,H2.out];simp))
    clear hc he h1 h2
    go_enter Tryz.func58,Tryz.ntmps58
    go_wp2_with fail
    refine (HF.out _).mono ?_
    rintro x w1 ⟨rfl,E⟩
    have B:=E1.trans (E.mono E1.size)
    have b:=b0.below E
    have hlt:=b.1
    obtain ⟨q0,q1,q2,q3,q4,q5,q6,q7⟩:=b.cells
    clear b
    go_wp2_with (go_at_call 97;refine (progReg0 _ _).mono ?_;rintro e w' ⟨rfl,rfl⟩;(try rw [H1.out]);(try rw [H2.out]))
    go_ret
    exact ⟨ret_int HE.out.symm,blA⟩
  ·have H1:=hid (Bool.eq_false_iff.2 h1)
   have HE:=hid (errI_no (by rw [hc,H1.out];simp))
   clear hc he h1
   go_enter Tryz.func58,Tryz.ntmps58
   go_wp2_with fail
   refine (HF.out _).mono ?_
   rintro x w1 ⟨rfl,E⟩
   have B:=E1.trans (E.mono E1.size)
   have b:=b0.below E
   have hlt:=b.1
   obtain ⟨q0,q1,q2,q3,q4,q5,q6,q7⟩:=b.cells
   clear b
   go_wp2_with (go_at_call 97;refine (progReg0 _ _).mono ?_;rintro e w' ⟨rfl,rfl⟩;(try rw [H1.out]))
   go_ret
   exact ⟨ret_int HE.out.symm,blA⟩
 ·have hd:decide (wi=i)=false:=decide_eq_false (fun e=>he e.symm)
  have hd2:(!decide (wi=i))=true:=by rw [hd];rfl
  have hd3:decide (¬ wi=i)=true:=by simpa using (fun e=>he (Eq.symm e))
  have HE:=hid (errI_no (by rw [hc,decide_eq_false he];simp))
  clear hc he
  go_enter Tryz.func58,Tryz.ntmps58
  go_wp2_with fail
  refine (HF.out _).mono ?_
  rintro x w1 ⟨rfl,E⟩
  have B:=E1.trans (E.mono E1.size)
  have b:=b0.below E
  have hlt:=b.1
  obtain ⟨q0,q1,q2,q3,q4,q5,q6,q7⟩:=b.cells
  clear b
  go_wp2_with (go_at_call 97;refine (progReg0 _ _).mono ?_;rintro e w' ⟨rfl,rfl⟩)
  go_ret
  exact ⟨ret_int HE.out.symm,blA⟩
end Go.Proofs.YthaibjefnclkjaaGreatDoor
namespace Go.Proofs.YthaibjefnclkjaaGreatDoor
def keepI (i:Ins) (ok:Bool):Option Ins:=if ok&&checkI i then some i else none
end Go.Proofs.YthaibjefnclkjaaGreatDoor
namespace Go.Proofs.YthaibjefnclkjaaGreatDoor
open Go.RowKit
theorem Txs.lt {w:World} {a:Option Addr} {l:List Tx} (h:Txs w a l) {k:Nat} (hk:k<l.length):bk a<w.heap.size:=cell?_lt (p:=⟨bk a,fo a+k,none⟩) (h.cell k hk)
def Sm (l:List Tx):Prop:=∀ x∈l,x.length≤1000000
theorem Sm.at {l:List Tx} (h:Sm l) (x:Tx) (hx:x∈l):x.length≤9223372036854775807:=by have:=h x hx;omega
theorem progParts (w:World):Calls Tryz.prog 98 #[] w fun e w'=>e = .returned (.slice (some ⟨w.heap.size,0,none⟩) 3 3)∧w'=w.alloc (.cells #[.string ⟨#[114]⟩,.string ⟨#[119]⟩,.string ⟨#[114,119]⟩] 9):=by
 go_enter Tryz.func98,Tryz.ntmps98
 go_wp2
 go_ret
 exact ⟨rfl,rfl⟩
def fenceT (f:Int):Tx:=if f=2 then [102,101,110,99,101,46,116,115,111]
 else [102,101,110,99,101,32]++fpart ((f-3) / 3)++[44]++fpart ((f-3) % 3)
theorem progFenced_a (f:Int) (hf:f=3∨f=4∨f=5) (w:World):Calls Tryz.prog 60 #[.int .i64 f] w (Ret w (.string (tx (fenceT f)))):=by
 rcases hf with rfl|rfl|rfl
 all_goals
  go_enter Tryz.func60,Tryz.ntmps60
  go_wp2_with fail
  go_region_with (go_at_call 98;refine (progParts _).mono ?_;rintro e' w' ⟨rfl,rfl⟩)
  all_goals
   go_wp2_with fail
   go_ret
   exact ⟨ret_str (by kernel_rfl),blA⟩
theorem progFenced_b (f:Int) (hf:f=6∨f=7∨f=8) (w:World):Calls Tryz.prog 60 #[.int .i64 f] w (Ret w (.string (tx (fenceT f)))):=by
 rcases hf with rfl|rfl|rfl
 all_goals
  go_enter Tryz.func60,Tryz.ntmps60
  go_wp2_with fail
  go_region_with (go_at_call 98;refine (progParts _).mono ?_;rintro e' w' ⟨rfl,rfl⟩)
  all_goals
   go_wp2_with fail
   go_ret
   exact ⟨ret_str (by kernel_rfl),blA⟩
theorem progFenced_c (f:Int) (hf:f=9∨f=10∨f=11) (w:World):Calls Tryz.prog 60 #[.int .i64 f] w (Ret w (.string (tx (fenceT f)))):=by
 rcases hf with rfl|rfl|rfl
 all_goals
  go_enter Tryz.func60,Tryz.ntmps60
  go_wp2_with fail
  go_region_with (go_at_call 98;refine (progParts _).mono ?_;rintro e' w' ⟨rfl,rfl⟩)
  all_goals
   go_wp2_with fail
   go_ret
   exact ⟨ret_str (by kernel_rfl),blA⟩
theorem progFenced (f:Int) (h1:2≤f) (h2:f≤11) (w:World):Calls Tryz.prog 60 #[.int .i64 f] w (Ret w (.string (tx (fenceT f)))):=by
 by_cases h3:f=2
 ·subst h3
  clear h1 h2
  go_enter Tryz.func60,Tryz.ntmps60
  go_wp2_with fail
  go_ret
  exact ⟨rfl,Below.refl _ _⟩
 by_cases h4:f≤5
 ·exact progFenced_a f (by omega) w
 by_cases h5:f≤8
 ·exact progFenced_b f (by omega) w
 ·exact progFenced_c f (by omega) w
def Rd (r:Option Ins) (w:World) (e:Ending) (w':World):Prop :=
 ∃ (op d a b imm:Int) (label:Tx) (fence:Int) (ok:Bool),e = .returned (.tuple #[.agg #[.int .i64 op,.int .i64 d,.int .i64 a,.int .i64 b,.int .i64 imm,.string ⟨#[]⟩,.string (tx label),.int .i64 fence],.bool ok])∧keepI ⟨op,d,a,b,imm,[],label,fence⟩ ok=r∧label.length≤1000000∧Below w.heap.size w w'
theorem Rd.of {r:Option Ins} {w w':World} {e:Ending} {op d a b imm fence:Int} {ok:Bool} (h:RetF w op d a b imm ⟨#[]⟩ ⟨#[]⟩ fence ok e w') (hk:keepI ⟨op,d,a,b,imm,[],[],fence⟩ ok=r):Rd r w e w' :=
 ⟨op,d,a,b,imm,[],fence,ok,h.1,hk,by simp,h.2⟩
theorem read_lw2 (x y : Tx) : readI [108, 119] [x, y] = match regOf x, addrT y with
      | some d, some a => some ⟨6, d, a, 0, 0, [], [], 0⟩
      | _, _ => none := by unfold readI; rw [if_pos rfl]; rfl
theorem read_sw2 (x y : Tx) : readI [115, 119] [x, y] = match regOf x, addrT y with
      | some d, some a => some ⟨7, 0, a, d, 0, [], [], 0⟩
      | _, _ => none := by unfold readI; rw [if_neg (by decide), if_pos rfl]; rfl
theorem Rd.map {r r':Option Ins} {w w':World} {e:Ending} (h:Rd r w e w') (hr:r=r'):Rd r' w e w':=hr▸h
theorem read_3 {op : Tx} (x y z : Tx) (h1 : op ≠ [108, 119]) (h2 : op ≠ [115, 119]) (h3 : op ≠ [102, 101, 110, 99, 101]) : readI op [x, y, z] = match regOf x, regOf y with
      | some a, some b =>
        if op = [98, 110, 101] then (if nameB z then some ⟨11, 0, a, b, 0, [], z, 0⟩ else none)
        else if op = [111, 114, 105] then (match numT z with
          | some n => some ⟨8, a, b, 0, n, [], [], 0⟩
          | none => none)
        else match regOf z with
          | some c => if op = [120, 111, 114] then some ⟨9, a, b, c, 0, [], [], 0⟩ else if op = [97, 100, 100] then some ⟨10, a, b, c, 0, [], [], 0⟩ else none
          | none => none
      | _, _ => none := by
  unfold readI; rw [if_neg h1, if_neg h2, if_neg h3]; rfl
attribute [local go_sem high] eqI neqI
def insO (r:Option Ins):Ins:=match r with
 | some i=>i
 | none=>ins0
def errO (r:Option Ins):Int:=match r with
 | some _=>0
 | none=>91
def RetP (r:Option Ins) (w:World) (e:Ending) (w':World):Prop:=e = .returned (.tuple #[vI (insO r),.int .i64 (errO r)])∧Below w.heap.size w w'
theorem RetP.no {w w':World} {e:Ending} {r:Option Ins} (hr:r=none) (h:e = .returned (.tuple #[.agg #[.int .i64 0,.int .i64 0,.int .i64 0,.int .i64 0,.int .i64 0,.string ⟨#[]⟩,.string ⟨#[]⟩,.int .i64 0],.int .i64 91])) (hb:Below w.heap.size w w'):RetP r w e w':=by
 subst hr h;exact ⟨rfl,hb⟩
theorem RetP.yes {w w':World} {e:Ending} {r:Option Ins} {op d a b imm fence:Int} {label:Tx} (hr:r=some ⟨op,d,a,b,imm,[],label,fence⟩) (h:e = .returned (.tuple #[.agg #[.int .i64 op,.int .i64 d,.int .i64 a,.int .i64 b,.int .i64 imm,.string ⟨#[]⟩,.string (tx label),.int .i64 fence],.int .i64 0])) (hb:Below w.heap.size w w'):RetP r w e w':=by
 subst hr h;exact ⟨rfl,hb⟩
def insC (l:List Ins):List Value:=l.flatMap iC
theorem insC_length (l:List Ins):(insC l).length=l.length * 8:=by
 induction l with
 | nil=>rfl
 | cons x r ih=>unfold insC at *;simp [List.flatMap_cons,ih,iC];omega
theorem insC_app (l r:List Ins):insC (l++r)=insC l++insC r:=by unfold insC;rw [List.flatMap_append]
theorem insC_cons (x:Ins) (r:List Ins):insC (x::r)=iC x++insC r:=by unfold insC;rw [List.flatMap_cons]
theorem insC_get : ∀ (l:List Ins) (k i:Nat) (x:Ins),l[k]? = some x→i<8→(insC l)[k * 8+i]? = (iC x)[i]?
 | [],k,i,x,h,_=>by simp at h
 | y::r,0,i,x,h,hi=>by
  simp at h;subst h
  rw [insC_cons,Nat.zero_mul,Nat.zero_add,List.getElem?_append_left (by simpa [iC] using hi)]
 | y::r,k+1,i,x,h,hi=>by
  rw [insC_cons,List.getElem?_append_right (by simp [iC];omega)]
  have:(k+1) * 8+i-(iC y).length=k * 8+i:=by simp [iC];omega
  rw [this,insC_get r k i x (by simpa using h) hi]
theorem insC_take (l:List Ins) (k:Nat):(insC l).take (k * 8)=insC (l.take k):=by
 by_cases hk:k≤l.length
 ·have h1:insC l=insC (l.take k)++insC (l.drop k):=by rw [← insC_app,List.take_append_drop]
  rw [h1,List.take_left' (by rw [insC_length,List.length_take,Nat.min_eq_left hk])]
 ·rw [List.take_of_length_le (by rw [insC_length];omega),List.take_of_length_le (by omega)]
theorem insC_drop (l:List Ins) (k:Nat):(insC l).drop (k * 8)=insC (l.drop k):=by
 by_cases hk:k≤l.length
 ·have h1:insC l=insC (l.take k)++insC (l.drop k):=by rw [← insC_app,List.take_append_drop]
  rw [h1,List.drop_left' (by rw [insC_length,List.length_take,Nat.min_eq_left hk])]
 ·rw [List.drop_of_length_le (by rw [insC_length];omega),List.drop_of_length_le (by omega)];rfl
structure Is (w:World) (a:Option Addr) (l:List Ins):Prop where
 row:Row w a (insC l)
 len:l.length≤1000000000000000000
theorem Is.nil (w:World) (a:Option Addr):Is w a []:=⟨Row.nil _ _,by simp⟩
theorem Is.below {w w':World} {a:Option Addr} {l:List Ins} (h:Is w a l) (hb:Below w.heap.size w w'):Is w' a l:=⟨h.row.below hb,h.len⟩
theorem Is.cells {w:World} {a:Option Addr} {l:List Ins} (h:Is w a l) {k:Nat} {i:Ins} (hk:l[k]? = some i) :
  w.cell? ⟨bk a,fo a+k * 8,none⟩=some (.int .i64 i.op)∧w.cell? ⟨bk a,fo a+k * 8+1,none⟩=some (.int .i64 i.d)∧w.cell? ⟨bk a,fo a+k * 8+2,none⟩=some (.int .i64 i.a)∧w.cell? ⟨bk a,fo a+k * 8+3,none⟩=some (.int .i64 i.b)∧w.cell? ⟨bk a,fo a+k * 8+4,none⟩=some (.int .i64 i.imm)∧w.cell? ⟨bk a,fo a+k * 8+5,none⟩=some (.string (tx i.loc))∧w.cell? ⟨bk a,fo a+k * 8+6,none⟩=some (.string (tx i.label))∧w.cell? ⟨bk a,fo a+k * 8+7,none⟩=some (.int .i64 i.fence):=by
 have hlt:=(List.getElem?_eq_some_iff.1 hk).1
 have g : ∀ j,j<8→w.cell? ⟨bk a,fo a+k * 8+j,none⟩=(iC i)[j]?:=fun j hj=>by
  have h1:=h.row.cell (k * 8+j) (by rw [insC_length];omega)
  rw [insC_get l k j i hk hj] at h1
  rw [Nat.add_assoc];exact h1
 exact ⟨g 0 (by omega),g 1 (by omega),g 2 (by omega),g 3 (by omega),g 4 (by omega),g 5 (by omega),g 6 (by omega),g 7 (by omega)⟩
theorem Is.lt {w:World} {a:Option Addr} {l:List Ins} (h:Is w a l) {k:Nat} (hk:k<l.length):bk a<w.heap.size :=
 cell?_lt (p:=⟨bk a,fo a+k * 8,none⟩) (h.cells (List.getElem?_eq_getElem hk)).1
theorem inl:ElT Tryz.prog 49 23 (.agg #[.int .i64 0,.int .i64 0,.int .i64 0,.int .i64 0,.int .i64 0,.string ByteArray.empty,.string ByteArray.empty,.int .i64 0]) 8 80:=⟨Tryz.underlying49,by kernel_rfl,rfl,by decide⟩
theorem Is.idx {w:World} {a:Option Addr} {l:List Ins} (h:Is w a l) (k:Nat) (hk:k<l.length) :
  ∀ c w',(Instr.indexAt 49 (.slice a l.length c) (.int .i64 k)).run Tryz.prog w' = .ok (.pointer (some ⟨bk a,fo a+k * 8,none⟩)) w':=by
 intro c
 exact run_idx (c:=c) (n:=l.length) (m:=8) h.row inl.und inl.cells inl.isSome (insC_length l) (by omega) k hk .i64
theorem Is.take {w:World} {a:Option Addr} {l:List Ins} (h:Is w a l) (k:Nat):Is w a (l.take k):=by
 refine ⟨?_,by have:=h.len;simp;omega⟩
 have:=h.row.take (k * 8)
 rwa [insC_take] at this
theorem Is.drop {w:World} {a:Option Addr} {l:List Ins} (h:Is w a l) (k:Nat) (stay:Prop) [Decidable stay] (hs:stay→l.length≤k∨k=0):Is w (cutA a stay (k * 8)) (l.drop k):=by
 refine ⟨?_,by have:=h.len;simp;omega⟩
 have:=h.row.drop (k * 8) stay (fun h'=>by have:=hs h';rw [insC_length];omega)
 rwa [insC_drop] at this
abbrev OwnN (w:World) (B:Nat) (a:Option Addr) (n c:Nat) (l:List Ins):Prop:=Own w B 23 8 a n c (insC l)
theorem OwnN.len {w:World} {B n c:Nat} {a:Option Addr} {l:List Ins} (h:OwnN w B a n c l):n=l.length:=by
 have:=h.cap.2.2;rw [insC_length] at this;omega
theorem OwnN.is {w:World} {B n c:Nat} {a:Option Addr} {l:List Ins} (h:OwnN w B a n c l) (hl:l.length≤1000000000000000000):Is w a l:=⟨h.row,hl⟩
theorem isl:ElT Tryz.prog 81 3 (.int .i64 0) 1 8:=⟨Tryz.underlying81,by kernel_rfl,rfl,by decide⟩
end Go.Proofs.YthaibjefnclkjaaGreatDoor

/- Why a test's initial state may not be: line by line. Plain lists; no program, no condition. The walks of first (program), May and lined (document). Conditions: texts of a machine's length. The walks of May and lined (document). Conditions: texts of a machine's length. The walk of inits (document). Conditions: the test lies in memory as read. -/
import Derived.Test.YthaibjefnclkjaaGreatDoorAp6
import Derived.Test.YthaibjefnclkjaaGreatDoorAp8
set_option linter.unusedVariables false
set_option maxRecDepth 100000
set_option maxHeartbeats 6400000
namespace Go.Proofs.YthaibjefnclkjaaGreatDoor
def FirstK (t:Tst) (k:Nat):Prop:=∀ (i:Nat) (x:Ini),i<k→t.init[i]? = some x→firstB t.arch t.code.length x=true
def ApartK (t:Tst) (k:Nat):Prop:=∀ (i j:Nat) (x y:Ini),i<j→j<k→t.init[i]? = some x→t.init[j]? = some y→keyI x≠keyI y
theorem begunE_long {t:Tst} (h:1024<t.init.length):begunE t=2:=by unfold begunE;rw [if_pos h]
theorem begunE_first {t:Tst} {k:Nat} {x:Ini} (h : ¬ 1024<t.init.length) (hx:t.init[k]? = some x) (hf:firstB t.arch t.code.length x=false):begunE t=130:=by
 unfold begunE;rw [if_neg h,if_neg]
 intro h2
 rw [Bool.and_eq_true,List.all_eq_true] at h2
 rw [h2.1 x (List.mem_of_getElem? hx)] at hf;cases hf
theorem begunE_twice {t:Tst} {j k:Nat} {x y:Ini} (h : ¬ 1024<t.init.length) (hjk:j<k) (hy:t.init[j]? = some y) (hx:t.init[k]? = some x) (he:keyI y=keyI x):begunE t=130:=by
 unfold begunE;rw [if_neg h,if_neg]
 intro h2
 rw [Bool.and_eq_true,decide_eq_true_eq] at h2
 have h3:=List.pairwise_iff_getElem.1 h2.2
 obtain ⟨h4,rfl⟩:=List.getElem?_eq_some_iff.1 hx
 obtain ⟨h5,rfl⟩:=List.getElem?_eq_some_iff.1 hy
 refine h3 j k (by rw [List.length_map];exact h5) (by rw [List.length_map];exact h4) hjk ?_
 rw [List.getElem_map,List.getElem_map];exact he
theorem begunE_ok {t:Tst} (h : ¬ 1024<t.init.length) (hf:FirstK t t.init.length) (ha:ApartK t t.init.length):begunE t=0:=by
 unfold begunE;rw [if_neg h,if_pos]
 rw [Bool.and_eq_true,decide_eq_true_eq,List.all_eq_true]
 refine ⟨fun x hx=>?_,List.pairwise_iff_getElem.2 fun i j hi hj hij=>?_⟩
 ·obtain ⟨k,hk⟩:=List.mem_iff_getElem?.1 hx
  exact hf k x (List.getElem?_eq_some_iff.1 hk).1 hk
 ·rw [List.length_map] at hj
  rw [List.getElem_map,List.getElem_map]
  exact ha i j _ _ hij hj (List.getElem?_eq_getElem _) (List.getElem?_eq_getElem _)
theorem FirstK.snoc {t:Tst} {k:Nat} {x:Ini} (h:FirstK t k) (hx:t.init[k]? = some x) (hf:firstB t.arch t.code.length x=true):FirstK t (k+1):=fun i y hi hy=>by
 rcases Nat.lt_succ_iff_lt_or_eq.1 hi with h1|h1
 ·exact h i y h1 hy
 ·subst h1;rw [hx] at hy;cases hy;exact hf
theorem ApartK.snoc {t:Tst} {k:Nat} {x:Ini} (h:ApartK t k) (hx:t.init[k]? = some x) (hf : ∀ (i:Nat) (y:Ini),i<k→t.init[i]? = some y→keyI y≠keyI x):ApartK t (k+1):=fun i j y z hij hj hy hz=>by
 rcases Nat.lt_succ_iff_lt_or_eq.1 hj with h1|h1
 ·exact h i j y z hij h1 hy hz
 ·subst h1;rw [hx] at hz;cases hz;exact hf i y hij hy
theorem keyI_eq (x y:Ini):keyI y=keyI x↔(x.thread=y.thread∧x.reg=y.reg∧x.loc=y.loc):=by
 unfold keyI
 simp only [Th.mk.injEq]
 constructor
 ·rintro ⟨a,b,c⟩;exact ⟨a.symm,b.symm,c.symm⟩
 ·rintro ⟨a,b,c⟩;exact ⟨a.symm,b.symm,c.symm⟩
end Go.Proofs.YthaibjefnclkjaaGreatDoor
namespace Go.Proofs.YthaibjefnclkjaaGreatDoor
open Go.RowKit Go.Sort
theorem txE {l:Tx} {b:Bool} (h:decide (l = [])=b):((tx l).toList==([]:List UInt8))=b∧(tx l).toList.isEmpty=b:=by
 rw [tx_toList,← h]
 cases l <;> simp
theorem firstB_loc {arch:Int} {n:Nat} {x:Ini} (h:x.thread = -1):firstB arch n x=(nameB x.loc&&(decide (x.reg=0)&&(decide (x.vloc = [])&&n32B x.n))):=by unfold firstB;rw [if_pos h]
theorem firstB_out {arch:Int} {n:Nat} {x:Ini} (h:x.thread≠-1) (h2:x.thread<0∨(n:Int)≤x.thread∨x.loc≠[]):firstB arch n x=false:=by unfold firstB;rw [if_neg h,if_pos h2]
theorem firstB_reg {arch:Int} {n:Nat} {x:Ini} (h:x.thread≠-1) (h2 : ¬ (x.thread<0∨(n:Int)≤x.thread∨x.loc≠[])) (h3:if arch=2 then x.reg<1∨31<x.reg else x.reg<0∨14<x.reg):firstB arch n x=false:=by unfold firstB;rw [if_neg h,if_neg h2,if_pos h3]
theorem firstB_in {arch:Int} {n:Nat} {x:Ini} (h:x.thread≠-1) (h2 : ¬ (x.thread<0∨(n:Int)≤x.thread∨x.loc≠[])) (h3 : ¬ (if arch=2 then x.reg<1∨31<x.reg else x.reg<0∨14<x.reg)):firstB arch n x=if x.vloc≠[] then nameB x.vloc&&decide (x.n=0) else n32B x.n:=by unfold firstB;rw [if_neg h,if_neg h2,if_neg h3]
theorem fileFirst (t:Tst) (x:Ini) (h1:x.loc.length≤9223372036854775807) (h2:x.vloc.length≤9223372036854775807) (hn:t.code.length≤1000) (w:World) :
  Calls Tryz.prog 86 #[vT t,vIni x] w (Ret w (.bool (firstB t.arch t.code.length x))):=by
 have B:=bel_alloc (al w (mkT t)) (mkIni x)
 obtain ⟨thread,reg,loc,vloc,n⟩:=x
 simp only at h1 h2
 obtain ⟨b1,hb1⟩ : ∃ b,nameB loc=b:=⟨_,rfl⟩
 obtain ⟨b2,hb2⟩ : ∃ b,nameB vloc=b:=⟨_,rfl⟩
 obtain ⟨b3,hb3⟩ : ∃ b,n32B n=b:=⟨_,rfl⟩
 obtain ⟨b4,hb4⟩ : ∃ b,decide (loc = [])=b:=⟨_,rfl⟩
 obtain ⟨b5,hb5⟩ : ∃ b,decide (vloc = [])=b:=⟨_,rfl⟩
 have NL:=hid (show ∀ w,Calls Tryz.prog 125 #[.string (tx loc)] w fun e w'=>e = .returned (.bool b1)∧w=w' from fun w=>hb1▸fileNamed loc h1 w)
 have NV:=hid (show ∀ w,Calls Tryz.prog 125 #[.string (tx vloc)] w fun e w'=>e = .returned (.bool b2)∧w=w' from fun w=>hb2▸fileNamed vloc h2 w)
 have NN:=hid (show ∀ w,Calls Tryz.prog 126 #[.int .i64 n] w fun e w'=>e = .returned (.bool b3)∧w=w' from fun w=>hb3▸fileNumber n w)
 obtain ⟨zl,zl'⟩:=txE hb4
 obtain ⟨zv,zv'⟩:=txE hb5
 have HL:=hid hb4
 have HV:=hid hb5
 have HB:=hid (And.intro hb1 (And.intro hb2 hb3))
 obtain ⟨N,hN⟩ : ∃ N,t.code.length=N:=⟨_,rfl⟩
 obtain ⟨ar,har⟩ : ∃ ar,t.arch=ar:=⟨_,rfl⟩
 rw [hN] at hn
 have HN:=hid hN
 clear hb1 hb2 hb3 hb4 hb5 h1 h2
 by_cases ht:thread = -1
 ·subst ht
  have E:=hid (firstB_loc (arch:=t.arch) (n:=t.code.length) (x:=⟨-1,reg,loc,vloc,n⟩) rfl)
  by_cases hr:reg=0
  ·subst hr
   have E2:=hid (E.out.trans (show _=(b1&&(b5&&b3)) by simp only [HB.out.1,HB.out.2.2,HV.out,decide_true,Bool.true_and]))
   clear hN har
   cases b1 <;> cases b5 <;> cases b3
   all_goals
    go_enter Tryz.func86,Tryz.ntmps86
    go_wp2_with (first|(go_at_call 125;refine (NL.out _).mono ?_;rintro e w1 ⟨rfl,rfl⟩)|(go_at_call 126;refine (NN.out _).mono ?_;rintro e w1 ⟨rfl,rfl⟩))
    go_ret
    exact ⟨ret_bool ((show _=_ from by first|rfl|simp).trans E2.out.symm),blN⟩
  ·have zr:(reg==0)=false:=by simpa using hr
   have E2:=hid (E.out.trans (show _=false by simp only [decide_eq_false hr,Bool.false_and,Bool.and_false]))
   clear hN har hr
   cases b1
   all_goals
    go_enter Tryz.func86,Tryz.ntmps86
    go_wp2_with (first|(go_at_call 125;refine (NL.out _).mono ?_;rintro e w1 ⟨rfl,rfl⟩)|(go_at_call 126;refine (NN.out _).mono ?_;rintro e w1 ⟨rfl,rfl⟩))
    go_ret
    exact ⟨ret_bool ((show _=_ from by first|rfl|simp).trans E2.out.symm),blN⟩
 ·have zt:(thread==-1)=false:=by simpa using ht
  by_cases h0:thread<0
  ·have E:=hid (firstB_out (arch:=t.arch) (n:=t.code.length) (x:=⟨thread,reg,loc,vloc,n⟩) ht (.inl h0))
   clear hN har ht
   go_enter Tryz.func86,Tryz.ntmps86
   go_wp2_with (first|(go_at_call 125;refine (NL.out _).mono ?_;rintro e w1 ⟨rfl,rfl⟩)|(go_at_call 126;refine (NN.out _).mono ?_;rintro e w1 ⟨rfl,rfl⟩))
   go_ret
   exact ⟨ret_bool (E.out.symm),blN⟩
  have h0':0≤thread:=by omega
  by_cases hc:(N:Int)≤thread
  ·have E:=hid (firstB_out (arch:=t.arch) (n:=t.code.length) (x:=⟨thread,reg,loc,vloc,n⟩) ht (.inr (.inl (by rw [hN];exact hc))))
   rw [← hN] at hc
   clear hN har ht
   go_enter Tryz.func86,Tryz.ntmps86
   go_wp2_with (first|(go_at_call 125;refine (NL.out _).mono ?_;rintro e w1 ⟨rfl,rfl⟩)|(go_at_call 126;refine (NN.out _).mono ?_;rintro e w1 ⟨rfl,rfl⟩))
   go_ret
   exact ⟨ret_bool (E.out.symm),blN⟩
  have hc':thread<t.code.length:=by omega
  cases b4 with
  | false =>
   have E:=hid (firstB_out (arch:=t.arch) (n:=t.code.length) (x:=⟨thread,reg,loc,vloc,n⟩) ht (.inr (.inr (by simpa using HL.out))))
   clear hN har ht hc
   go_enter Tryz.func86,Tryz.ntmps86
   go_wp2_with (first|(go_at_call 125;refine (NL.out _).mono ?_;rintro e w1 ⟨rfl,rfl⟩)|(go_at_call 126;refine (NN.out _).mono ?_;rintro e w1 ⟨rfl,rfl⟩))
   go_ret
   exact ⟨ret_bool (E.out.symm),blN⟩
  | true =>
   have hnot : ¬ (thread<0∨(t.code.length:Int)≤thread∨loc≠[]):=by
    have:=HL.out;simp at this;subst this;simp;omega
   have HA:=hid har
   by_cases ha:ar=2
   ·have za:(t.arch==2)=true:=by rw [har,ha];rfl
    by_cases hr:reg<1∨31<reg
    ·have E:=hid (firstB_reg (arch:=t.arch) (n:=t.code.length) (x:=⟨thread,reg,loc,vloc,n⟩) ht hnot (by rw [if_pos (har.trans ha)];exact hr))
     clear hN har ht hc hnot ha
     rcases hr with hr|hr
     all_goals
      go_enter Tryz.func86,Tryz.ntmps86
      go_wp2_with (first|(go_at_call 125;refine (NV.out _).mono ?_;rintro e w1 ⟨rfl,rfl⟩)|(go_at_call 126;refine (NN.out _).mono ?_;rintro e w1 ⟨rfl,rfl⟩))
      go_ret
      exact ⟨ret_bool (E.out.symm),blN⟩
    ·have r1:1≤reg:=by omega
     have r2:reg≤31:=by omega
     have E:=hid (firstB_in (arch:=t.arch) (n:=t.code.length) (x:=⟨thread,reg,loc,vloc,n⟩) ht hnot (by rw [if_pos (har.trans ha)];exact hr))
     clear hN har ht hc hnot ha hr
     cases b5 with
     | true =>
      have E2:=hid (E.out.trans (show _=b3 by rw [if_neg (by simpa using HV.out)];exact HB.out.2.2))
      go_enter Tryz.func86,Tryz.ntmps86
      go_wp2_with (first|(go_at_call 125;refine (NV.out _).mono ?_;rintro e w1 ⟨rfl,rfl⟩)|(go_at_call 126;refine (NN.out _).mono ?_;rintro e w1 ⟨rfl,rfl⟩))
      go_ret
      exact ⟨ret_bool ((show _=_ from by first|rfl|simp).trans E2.out.symm),blN⟩
     | false =>
      by_cases hn0:n=0
      ·subst hn0
       have E2:=hid (E.out.trans (show _=b2 by rw [if_pos (by simpa using HV.out)];simp only [HB.out.2.1,decide_true,Bool.and_true]))
       cases b2
       all_goals
        go_enter Tryz.func86,Tryz.ntmps86
        go_wp2_with (first|(go_at_call 125;refine (NV.out _).mono ?_;rintro e w1 ⟨rfl,rfl⟩)|(go_at_call 126;refine (NN.out _).mono ?_;rintro e w1 ⟨rfl,rfl⟩))
        go_ret
        exact ⟨ret_bool ((show _=_ from by first|rfl|simp).trans E2.out.symm),blN⟩
      ·have zn:(n==0)=false:=by simpa using hn0
       have E2:=hid (E.out.trans (show _=false by rw [if_pos (by simpa using HV.out)];simp only [decide_eq_false hn0,Bool.and_false]))
       clear hn0
       cases b2
       all_goals
        go_enter Tryz.func86,Tryz.ntmps86
        go_wp2_with (first|(go_at_call 125;refine (NV.out _).mono ?_;rintro e w1 ⟨rfl,rfl⟩)|(go_at_call 126;refine (NN.out _).mono ?_;rintro e w1 ⟨rfl,rfl⟩))
        go_ret
        exact ⟨ret_bool ((show _=_ from by first|rfl|simp).trans E2.out.symm),blN⟩
   ·have za:(t.arch==2)=false:=by rw [har];simpa using ha
    by_cases hr:reg<0∨14<reg
    ·have E:=hid (firstB_reg (arch:=t.arch) (n:=t.code.length) (x:=⟨thread,reg,loc,vloc,n⟩) ht hnot (by rw [if_neg (by rw [har];exact ha)];exact hr))
     clear hN har ht hc hnot ha
     rcases hr with hr|hr
     all_goals
      go_enter Tryz.func86,Tryz.ntmps86
      go_wp2_with (first|(go_at_call 125;refine (NV.out _).mono ?_;rintro e w1 ⟨rfl,rfl⟩)|(go_at_call 126;refine (NN.out _).mono ?_;rintro e w1 ⟨rfl,rfl⟩))
      go_ret
      exact ⟨ret_bool (E.out.symm),blN⟩
    ·have r1:0≤reg:=by omega
     have r2:reg≤14:=by omega
     have E:=hid (firstB_in (arch:=t.arch) (n:=t.code.length) (x:=⟨thread,reg,loc,vloc,n⟩) ht hnot (by rw [if_neg (by rw [har];exact ha)];exact hr))
     clear hN har ht hc hnot ha hr
     cases b5 with
     | true =>
      have E2:=hid (E.out.trans (show _=b3 by rw [if_neg (by simpa using HV.out)];exact HB.out.2.2))
      go_enter Tryz.func86,Tryz.ntmps86
      go_wp2_with (first|(go_at_call 125;refine (NV.out _).mono ?_;rintro e w1 ⟨rfl,rfl⟩)|(go_at_call 126;refine (NN.out _).mono ?_;rintro e w1 ⟨rfl,rfl⟩))
      go_ret
      exact ⟨ret_bool ((show _=_ from by first|rfl|simp).trans E2.out.symm),blN⟩
     | false =>
      by_cases hn0:n=0
      ·subst hn0
       have E2:=hid (E.out.trans (show _=b2 by rw [if_pos (by simpa using HV.out)];simp only [HB.out.2.1,decide_true,Bool.and_true]))
       cases b2
       all_goals
        go_enter Tryz.func86,Tryz.ntmps86
        go_wp2_with (first|(go_at_call 125;refine (NV.out _).mono ?_;rintro e w1 ⟨rfl,rfl⟩)|(go_at_call 126;refine (NN.out _).mono ?_;rintro e w1 ⟨rfl,rfl⟩))
        go_ret
        exact ⟨ret_bool ((show _=_ from by first|rfl|simp).trans E2.out.symm),blN⟩
      ·have zn:(n==0)=false:=by simpa using hn0
       have E2:=hid (E.out.trans (show _=false by rw [if_pos (by simpa using HV.out)];simp only [decide_eq_false hn0,Bool.and_false]))
       clear hn0
       cases b2
       all_goals
        go_enter Tryz.func86,Tryz.ntmps86
        go_wp2_with (first|(go_at_call 125;refine (NV.out _).mono ?_;rintro e w1 ⟨rfl,rfl⟩)|(go_at_call 126;refine (NN.out _).mono ?_;rintro e w1 ⟨rfl,rfl⟩))
        go_ret
        exact ⟨ret_bool ((show _=_ from by first|rfl|simp).trans E2.out.symm),blN⟩
def mayL (vloc:Tx) (n:Int):Bool:=if vloc = [] then n32B n else nameB vloc&&decide (n=0)
def placeB (arch:Int) (n:Nat) (x:Ini):Bool :=
 if x.thread = -1 then nameB x.loc&&(decide (x.reg=0)&&decide (x.vloc = []))
 else if x.thread<0∨(n:Int)≤x.thread∨x.loc≠[] then false
 else if arch=2 then decide (1≤x.reg)&&decide (x.reg<32) else decide (0≤x.reg)&&decide (x.reg<15)
theorem firstB_eq (arch:Int) (n:Nat) (x:Ini):firstB arch n x=(mayL x.vloc x.n&&placeB arch n x):=by
 unfold firstB mayL placeB
 by_cases h1:x.thread = -1
 ·rw [if_pos h1,if_pos h1]
  by_cases h2:x.vloc = []
  ·rw [if_pos h2,decide_eq_true h2];cases nameB x.loc <;> cases n32B x.n <;> simp
  ·rw [if_neg h2,decide_eq_false h2];simp
 ·rw [if_neg h1,if_neg h1]
  by_cases h2:x.thread<0∨(n:Int)≤x.thread∨x.loc≠[]
  ·rw [if_pos h2,if_pos h2,Bool.and_false]
  ·rw [if_neg h2,if_neg h2]
   have hv:(if x.vloc≠[] then nameB x.vloc&&decide (x.n=0) else n32B x.n)=(if x.vloc = [] then n32B x.n else nameB x.vloc&&decide (x.n=0)):=by
    by_cases h:x.vloc = [] <;> simp [h]
   by_cases h3:arch=2
   ·by_cases h4:x.reg<1∨31<x.reg
    ·rw [if_pos (by rw [if_pos h3];exact h4),if_pos h3]
     have:(decide (1≤x.reg)&&decide (x.reg<32))=false:=by simp;omega
     rw [this,Bool.and_false]
    ·rw [if_neg (by rw [if_pos h3];exact h4),if_pos h3,hv]
     have:(decide (1≤x.reg)&&decide (x.reg<32))=true:=by simp;omega
     rw [this,Bool.and_true]
   ·by_cases h4:x.reg<0∨14<x.reg
    ·rw [if_pos (by rw [if_neg h3];exact h4),if_neg h3]
     have:(decide (0≤x.reg)&&decide (x.reg<15))=false:=by simp;omega
     rw [this,Bool.and_false]
    ·rw [if_neg (by rw [if_neg h3];exact h4),if_neg h3,hv]
     have:(decide (0≤x.reg)&&decide (x.reg<15))=true:=by simp;omega
     rw [this,Bool.and_true]
theorem r09May (vloc:Tx) (n:Int) (h2:vloc.length≤9223372036854775807) (w:World):Calls Tryz.prog 130 #[.agg #[.string (tx vloc),.int .i64 n]] w (Ret w (.bool (mayL vloc n))):=by
 have B:=al w (.cells #[.string (tx vloc),.int .i64 n] 62)
 obtain ⟨b2,hb2⟩ : ∃ b,nameB vloc=b:=⟨_,rfl⟩
 obtain ⟨b3,hb3⟩ : ∃ b,n32B n=b:=⟨_,rfl⟩
 obtain ⟨b5,hb5⟩ : ∃ b,decide (vloc = [])=b:=⟨_,rfl⟩
 have NV:=hid (show ∀ w,Calls Tryz.prog 99 #[.string (tx vloc)] w fun e w'=>e = .returned (.bool b2)∧w=w' from fun w=>hb2▸r09Named vloc h2 w)
 have NN:=hid (show ∀ w,Calls Tryz.prog 100 #[.int .i64 n] w fun e w'=>e = .returned (.bool b3)∧w=w' from fun w=>hb3▸r09Number n w)
 obtain ⟨zv,zv'⟩:=txE hb5
 cases b5 with
 | true =>
  have E:=hid (show mayL vloc n=b3 by unfold mayL;rw [if_pos (by simpa using hb5)];exact hb3)
  clear hb2 hb3 hb5
  go_enter Tryz.func130,Tryz.ntmps130
  go_wp2_with (go_at_call 100;refine (NN.out _).mono ?_;rintro e w1 ⟨rfl,rfl⟩)
  go_ret
  exact ⟨ret_bool E.out.symm,blN⟩
 | false =>
  have hv:vloc≠[]:=by simpa using hb5
  by_cases hn0:n=0
  ·subst hn0
   have E:=hid (show mayL vloc 0=b2 by unfold mayL;rw [if_neg hv,hb2];simp)
   clear hb2 hb3 hb5 hv
   cases b2
   all_goals
    go_enter Tryz.func130,Tryz.ntmps130
    go_wp2_with (go_at_call 99;refine (NV.out _).mono ?_;rintro e w1 ⟨rfl,rfl⟩)
    go_ret
    exact ⟨ret_bool E.out.symm,blN⟩
  ·have zn:(n==0)=false:=by simpa using hn0
   have E:=hid (show mayL vloc n=false by unfold mayL;rw [if_neg hv,decide_eq_false hn0,Bool.and_false])
   clear hb2 hb3 hb5 hv hn0
   cases b2
   all_goals
    go_enter Tryz.func130,Tryz.ntmps130
    go_wp2_with (go_at_call 99;refine (NV.out _).mono ?_;rintro e w1 ⟨rfl,rfl⟩)
    go_ret
    exact ⟨ret_bool E.out.symm,blN⟩
theorem r13Lined (t : Tst) (ha : archB t.arch = true) (x : Ini) (h1 : x.loc.length ≤ 9223372036854775807) (h2 : x.vloc.length ≤ 9223372036854775807) (hn : t.code.length ≤ 1000) (w : World) :
    Calls Tryz.prog 92 #[vT t, vIni x] w (Ret w (.bool (firstB t.arch t.code.length x))) := by
  have B := bel_alloc (al w (mkT t)) (mkIni x)
  have b0 := (BxT.new w t).below (al (w.alloc (mkT t)) (mkIni x))
  have x0 : BxL ((w.alloc (mkT t)).alloc (mkIni x)) (w.alloc (mkT t)).heap.size (cIni x) := BxL.new _ _ _
  rw [show (w.alloc (mkT t)).heap.size = w.heap.size + 1 by simp] at x0
  obtain ⟨thread, reg, loc, vloc, n⟩ := x
  simp only at h1 h2
  have EQ := firstB_eq t.arch t.code.length ⟨thread, reg, loc, vloc, n⟩
  obtain ⟨b1, hb1⟩ : ∃ b, nameB loc = b := ⟨_, rfl⟩
  obtain ⟨b6, hb6⟩ : ∃ b, mayL vloc n = b := ⟨_, rfl⟩
  obtain ⟨b4, hb4⟩ : ∃ b, decide (loc = []) = b := ⟨_, rfl⟩
  obtain ⟨b5, hb5⟩ : ∃ b, decide (vloc = []) = b := ⟨_, rfl⟩
  have NL := hid (show ∀ w, Calls Tryz.prog 99 #[.string (tx loc)] w fun e w' => e = .returned (.bool b1) ∧ w = w' from fun w => hb1 ▸ r09Named loc h1 w)
  have NM := hid (show ∀ w, Calls Tryz.prog 130 #[.agg #[.string (tx vloc), .int .i64 n]] w (Ret w (.bool b6)) from fun w => hb6 ▸ r09May vloc n h2 w)
  obtain ⟨zl, zl'⟩ := txE hb4
  obtain ⟨zv, zv'⟩ := txE hb5
  have HL := hid hb4
  have HV := hid hb5
  have HB1 := hid hb1
  have HA0 := hid ha
  simp only at EQ
  rw [hb6] at EQ
  have HEQ := hid EQ
  clear EQ hb1 hb4 hb5 hb6 h1 h2 ha
  cases b6 with
  | false =>
    have E2 := hid (HEQ.out.trans (Bool.false_and _))
    go_enter Tryz.func92, Tryz.ntmps92
    go_wp2_with fail
    refine (NM.out _).mono ?_
    rintro e w1 ⟨rfl, E1⟩
    have q0 := (b0.below E1).cells.1
    have q4 := (b0.below E1).cells.2.2.2.2.1
    have i0 := (x0.below E1).get 0 _ rfl; have i1 := (x0.below E1).get 1 _ rfl; have i2 := (x0.below E1).get 2 _ rfl; have i3 := (x0.below E1).get 3 _ rfl
    have B := B.trans (E1.mono B.size)
    clear E1
    go_wp2_with (first | (go_at_call 99; refine (NL.out _).mono ?_; rintro e w1 ⟨rfl, rfl⟩))
    go_ret
    exact ⟨ret_bool (E2.out.symm), blN⟩
  | true =>
  have PL := hid (HEQ.out.trans (Bool.true_and _))
  clear HEQ
  by_cases ht : thread = -1
  · subst ht
    have P2 := hid (PL.out.trans (show _ = (b1 && (decide (reg = 0) && b5)) by unfold placeB; rw [if_pos rfl]; simp only [HB1.out, HV.out]))
    clear PL
    by_cases hr : reg = 0
    · subst hr
      cases b1 <;> cases b5
      all_goals
        go_enter Tryz.func92, Tryz.ntmps92
        go_wp2_with fail
        refine (NM.out _).mono ?_
        rintro e w1 ⟨rfl, E1⟩
        have q0 := (b0.below E1).cells.1
        have q4 := (b0.below E1).cells.2.2.2.2.1
        have i0 := (x0.below E1).get 0 _ rfl; have i1 := (x0.below E1).get 1 _ rfl; have i2 := (x0.below E1).get 2 _ rfl; have i3 := (x0.below E1).get 3 _ rfl
        have B := B.trans (E1.mono B.size)
        clear E1
        go_wp2_with (first | (go_at_call 99; refine (NL.out _).mono ?_; rintro e w1 ⟨rfl, rfl⟩))
        go_ret
        exact ⟨ret_bool ((show _ = _ from by first | rfl | simp).trans P2.out.symm), blN⟩
    · have zr : (reg == 0) = false := by simpa using hr
      have P3 := hid (P2.out.trans (show _ = false by rw [decide_eq_false hr, Bool.false_and, Bool.and_false]))
      clear hr P2
      cases b1
      all_goals
        go_enter Tryz.func92, Tryz.ntmps92
        go_wp2_with fail
        refine (NM.out _).mono ?_
        rintro e w1 ⟨rfl, E1⟩
        have q0 := (b0.below E1).cells.1
        have q4 := (b0.below E1).cells.2.2.2.2.1
        have i0 := (x0.below E1).get 0 _ rfl; have i1 := (x0.below E1).get 1 _ rfl; have i2 := (x0.below E1).get 2 _ rfl; have i3 := (x0.below E1).get 3 _ rfl
        have B := B.trans (E1.mono B.size)
        clear E1
        go_wp2_with (first | (go_at_call 99; refine (NL.out _).mono ?_; rintro e w1 ⟨rfl, rfl⟩))
        go_ret
        exact ⟨ret_bool (P3.out.symm), blN⟩
  · have zt : (thread == -1) = false := by simpa using ht
    have P2 := hid (PL.out.trans (show _ = (if thread < 0 ∨ (t.code.length : Int) ≤ thread ∨ loc ≠ [] then false else if t.arch = 2 then decide (1 ≤ reg) && decide (reg < 32) else decide (0 ≤ reg) && decide (reg < 15)) by unfold placeB; rw [if_neg ht]))
    clear PL
    by_cases h0 : thread < 0
    · have P3 := hid (P2.out.trans (if_pos (.inl h0)))
      clear ht P2
      go_enter Tryz.func92, Tryz.ntmps92
      go_wp2_with fail
      refine (NM.out _).mono ?_
      rintro e w1 ⟨rfl, E1⟩
      have q0 := (b0.below E1).cells.1
      have q4 := (b0.below E1).cells.2.2.2.2.1
      have i0 := (x0.below E1).get 0 _ rfl; have i1 := (x0.below E1).get 1 _ rfl; have i2 := (x0.below E1).get 2 _ rfl; have i3 := (x0.below E1).get 3 _ rfl
      have B := B.trans (E1.mono B.size)
      clear E1
      go_wp2_with (first | (go_at_call 99; refine (NL.out _).mono ?_; rintro e w1 ⟨rfl, rfl⟩))
      go_ret
      exact ⟨ret_bool (P3.out.symm), blN⟩
    have h0' : 0 ≤ thread := by omega
    by_cases hc : (t.code.length : Int) ≤ thread
    · have P3 := hid (P2.out.trans (if_pos (.inr (.inl hc))))
      clear ht P2
      go_enter Tryz.func92, Tryz.ntmps92
      go_wp2_with fail
      refine (NM.out _).mono ?_
      rintro e w1 ⟨rfl, E1⟩
      have q0 := (b0.below E1).cells.1
      have q4 := (b0.below E1).cells.2.2.2.2.1
      have i0 := (x0.below E1).get 0 _ rfl; have i1 := (x0.below E1).get 1 _ rfl; have i2 := (x0.below E1).get 2 _ rfl; have i3 := (x0.below E1).get 3 _ rfl
      have B := B.trans (E1.mono B.size)
      clear E1
      go_wp2_with (first | (go_at_call 99; refine (NL.out _).mono ?_; rintro e w1 ⟨rfl, rfl⟩))
      go_ret
      exact ⟨ret_bool (P3.out.symm), blN⟩
    have hc' : thread < t.code.length := by omega
    cases b4 with
    | false =>
      have P3 := hid (P2.out.trans (if_pos (.inr (.inr (by simpa using HL.out)))))
      clear ht hc P2
      go_enter Tryz.func92, Tryz.ntmps92
      go_wp2_with fail
      refine (NM.out _).mono ?_
      rintro e w1 ⟨rfl, E1⟩
      have q0 := (b0.below E1).cells.1
      have q4 := (b0.below E1).cells.2.2.2.2.1
      have i0 := (x0.below E1).get 0 _ rfl; have i1 := (x0.below E1).get 1 _ rfl; have i2 := (x0.below E1).get 2 _ rfl; have i3 := (x0.below E1).get 3 _ rfl
      have B := B.trans (E1.mono B.size)
      clear E1
      go_wp2_with (first | (go_at_call 99; refine (NL.out _).mono ?_; rintro e w1 ⟨rfl, rfl⟩))
      go_ret
      exact ⟨ret_bool (P3.out.symm), blN⟩
    | true =>
      have hnot : ¬ (thread < 0 ∨ (t.code.length : Int) ≤ thread ∨ loc ≠ []) := by
        have := HL.out; simp at this; subst this; simp; omega
      have P3 := hid (P2.out.trans (if_neg hnot))
      clear P2 hnot ht hc
      by_cases ha : t.arch = 2
      · have za : (t.arch == 1) = false := by rw [ha]; rfl
        have P4 := hid (P3.out.trans (if_pos ha))
        clear P3 ha
        have hp : reg < 1 ∨ (1 ≤ reg ∧ reg < 32) ∨ 32 ≤ reg := by omega
        rcases hp with hr | ⟨hr, hr'⟩ | hr
        all_goals
          go_enter Tryz.func92, Tryz.ntmps92
          go_wp2_with fail
          refine (NM.out _).mono ?_
          rintro e w1 ⟨rfl, E1⟩
          have q0 := (b0.below E1).cells.1
          have q4 := (b0.below E1).cells.2.2.2.2.1
          have i0 := (x0.below E1).get 0 _ rfl; have i1 := (x0.below E1).get 1 _ rfl; have i2 := (x0.below E1).get 2 _ rfl; have i3 := (x0.below E1).get 3 _ rfl
          have B := B.trans (E1.mono B.size)
          clear E1
          go_wp2_with (first | (go_at_call 99; refine (NL.out _).mono ?_; rintro e w1 ⟨rfl, rfl⟩))
          go_ret
          exact ⟨ret_bool (by rw [P4.out]; first | rfl | (simp <;> omega)), blN⟩
      · have h1 : t.arch = 1 := by
          have := HA0.out; unfold archB at this; simp at this; omega
        have za : (t.arch == 1) = true := by rw [h1]; rfl
        have P4 := hid (P3.out.trans (if_neg ha))
        clear P3 ha h1
        have hp : reg < 0 ∨ (0 ≤ reg ∧ reg < 15) ∨ 15 ≤ reg := by omega
        rcases hp with hr | ⟨hr, hr'⟩ | hr
        all_goals
          go_enter Tryz.func92, Tryz.ntmps92
          go_wp2_with fail
          refine (NM.out _).mono ?_
          rintro e w1 ⟨rfl, E1⟩
          have q0 := (b0.below E1).cells.1
          have q4 := (b0.below E1).cells.2.2.2.2.1
          have i0 := (x0.below E1).get 0 _ rfl; have i1 := (x0.below E1).get 1 _ rfl; have i2 := (x0.below E1).get 2 _ rfl; have i3 := (x0.below E1).get 3 _ rfl
          have B := B.trans (E1.mono B.size)
          clear E1
          go_wp2_with (first | (go_at_call 99; refine (NL.out _).mono ?_; rintro e w1 ⟨rfl, rfl⟩))
          go_ret
          exact ⟨ret_bool (by rw [P4.out]; first | rfl | (simp <;> omega)), blN⟩
theorem r13Inits (t:Tst) (ha:archB t.arch=true) (hcn:t.code.length≤1000) (w:World) (h:TsIn w t):Calls Tryz.prog 53 #[vT t] w (Ret w (.int .i64 (begunE t))):=by
 have A:=al w (mkT t)
 have b0:=BxT.new w t
 have HI:=hid (h.keep A)
 have HA:=hid A
 have HAr:=hid ha
 have hil:=h.init.len
 clear ha
 by_cases hn:1024<t.init.length
 ·rw [begunE_long hn]
  obtain ⟨c0,c1,c2,c3,c4,c5,c6,c7,c8,c9,c10,c11⟩:=b0.cells
  clear h A
  go_enter Tryz.func53,Tryz.ntmps53
  go_wp2_with fail
  go_ret
  exact ⟨rfl,HA.out⟩
 ·have h1024:t.init.length≤1024:=by omega
  have HNN:=hid hn
  clear hn h A
  go_enter Tryz.func53,Tryz.ntmps53
  go_upto_region 1 with (fail)
  generalize w.alloc (mkT t)=W1 at *
  obtain ⟨c0,c1,c2,c3,c4,c5,c6,c7,c8,c9,c10,c11⟩:=b0.cells
  go_wp2_with fail
  clear c0 c1 c2 c3 c4 c5 c6 c7 c8 c9 c10 c11
  go_loopw [3] (fun i wr=>∃ k:Nat,k≤t.init.length∧i = .int .i64 k∧Below W1.heap.size W1 wr∧Hid (FirstK t k∧ApartK t k)) (fun i _=>t.init.length-(intOf i).toNat)
  case atStart=>exact ⟨0,by omega,rfl,Below.refl _ _,fun j x hj=>absurd hj (Nat.not_lt_zero j),fun i j x y _ hj=>absurd hj (Nat.not_lt_zero j)⟩
  case round =>
   obtain ⟨k,hk,rfl,E,HK⟩:=hrel
   obtain ⟨c0,c1,c2,c3,c4,c5,c6,c7,c8,c9,c10,c11⟩:=(b0.below E).cells
   by_cases hlt:k<t.init.length
   ·obtain ⟨x,hx⟩ : ∃ x,t.init[k]? = some x:=⟨_,List.getElem?_eq_getElem hlt⟩
    obtain ⟨p0,p1,p2,p3,p4⟩:=(HI.out.init.below E).ini hx
    have ix:=HI.out.init.idx inil cIni_len k hlt t.ic
    have hxl:=HI.out.locs x (List.mem_of_getElem? hx)
    have HX:=hid hx
    have LN:=hid (fun w=>r13Lined t HAr.out x hxl.1 hxl.2 hcn w)
    obtain ⟨f,hf⟩ : ∃ f,firstB t.arch t.code.length x=f:=⟨_,rfl⟩
    rw [hf] at LN
    have HF:=hid hf
    clear hx hf hxl
    go_upto_region 7 with (fail)
    have A3:=al wr (mkIni x)
    have x0:BxL (wr.alloc (mkIni x)) wr.heap.size (cIni x):=BxL.new _ _ _
    generalize wr.alloc (mkIni x)=W3 at *
    have E:=E.trans (A3.mono E.size)
    clear c0 c1 c2 c3 c4 c5 c6 c7 c8 c9 c10 c11 p0 p1 p2 p3 p4 ix A3
    obtain ⟨c0,c1,c2,c3,c4,c5,c6,c7,c8,c9,c10,c11⟩:=(b0.below E).cells
    have i0:=x0.get 0 _ rfl;have i1:=x0.get 1 _ rfl;have i2:=x0.get 2 _ rfl;have i3:=x0.get 3 _ rfl;have i4:=x0.get 4 _ rfl
    go_wp2_with fail
    refine (LN.out _).mono ?_
    rintro e w4 ⟨rfl,E4⟩
    have x0:=x0.below E4
    have E:=E.trans (E4.mono E.size)
    clear c0 c1 c2 c3 c4 c5 c6 c7 c8 c9 c10 c11 i0 i1 i2 i3 i4 E4 LN
    cases f with
    | false =>
     have HZ:=hid (begunE_first HNN.out HX.out HF.out)
     go_wp2_with fail
     go_ret
     rw [HZ.out]
     exact ⟨rfl,HA.out.trans (E.mono HA.out.size)⟩
    | true =>
     go_wp2_with fail
     obtain ⟨xb,hxb⟩ : ∃ xb,wr.heap.size=xb:=⟨_,rfl⟩
     rw [hxb] at x0 ⊢
     clear hxb
     go_loopw [5] (fun i wr2=>∃ j:Nat,j≤k∧i = .int .i64 j∧Below W1.heap.size W1 wr2∧BxL wr2 xb (cIni x)∧Hid (∀ (i:Nat) (y:Ini),i<j→t.init[i]? = some y→keyI y≠keyI x)) (fun i _=>k-(intOf i).toNat)
     case atStart=>exact ⟨0,by omega,rfl,E,x0,fun j x hj=>absurd hj (Nat.not_lt_zero j)⟩
     case round =>
      clear E x0
      obtain ⟨j,hj,rfl,E,x0,HJ⟩:=hrel
      by_cases hjt:j<k
      ·obtain ⟨y,hy⟩ : ∃ y,t.init[j]? = some y:=⟨_,List.getElem?_eq_getElem (by omega)⟩
       obtain ⟨c0,c1,c2,c3,c4,c5,c6,c7,c8,c9,c10,c11⟩:=(b0.below E).cells
       obtain ⟨p0,p1,p2,p3,p4⟩:=(HI.out.init.below E).ini hy
       have ix:=HI.out.init.idx inil cIni_len j (by omega) t.ic
       have HY:=hid hy
       clear hy
       have hne : ∀ (p:Prop),(keyI y=keyI x↔(x.thread=y.thread∧x.reg=y.reg∧x.loc=y.loc)):=fun _=>keyI_eq x y
       have HKE:=hid (keyI_eq x y)
       clear hne
       have i0:=x0.get 0 _ rfl;have i1:=x0.get 1 _ rfl;have i2:=x0.get 2 _ rfl
       have x0l:=x0.1
       go_upto_region 13 with (fail)
       have A3:=al wr (mkIni y)
       have y0:BxL (wr.alloc (mkIni y)) wr.heap.size (cIni y):=BxL.new _ _ _
       have x1:=x0.below A3
       generalize wr.alloc (mkIni y)=W5 at *
       have E:=E.trans (A3.mono E.size)
       clear c0 c1 c2 c3 c4 c5 c6 c7 c8 c9 c10 c11 p0 p1 p2 p3 p4 ix i0 i1 i2 A3 x0 x0l
       have i0:=x1.get 0 _ rfl;have i1:=x1.get 1 _ rfl;have i2:=x1.get 2 _ rfl
       have j0:=y0.get 0 _ rfl;have j1:=y0.get 1 _ rfl;have j2:=y0.get 2 _ rfl
       obtain ⟨d1,hd1⟩ : ∃ d,(x.thread==y.thread)=d:=⟨_,rfl⟩
       obtain ⟨d2,hd2⟩ : ∃ d,(x.reg==y.reg)=d:=⟨_,rfl⟩
       obtain ⟨d3,hd3⟩ : ∃ d,((tx x.loc).toList==(tx y.loc).toList)=d:=⟨_,rfl⟩
       have HQ:=hid (show decide (keyI y=keyI x)=(d1&&(d2&&d3)) by
        rw [← hd1,← hd2,← hd3,tx_beq,Bool.eq_iff_iff,decide_eq_true_eq,HKE.out];simp)
       clear HKE
       have HJ2:(d1&&(d2&&d3))=false→Hid (∀ (i:Nat) (z:Ini),i<j+1→t.init[i]? = some z→keyI z≠keyI x):=fun hd i z hi hz=>by
        rcases Nat.lt_succ_iff_lt_or_eq.1 hi with h1|h1
        ·exact HJ.out i z h1 hz
        ·subst h1;rw [HY.out] at hz;cases hz
         have:=HQ.out;rw [hd] at this;exact of_decide_eq_false this
       have HJ2:=hid HJ2
       have HZ:=hid (fun hd:(d1&&(d2&&d3))=true=>begunE_twice HNN.out hjt HY.out HX.out (of_decide_eq_true (HQ.out.trans hd)))
       clear HJ
       cases d1
       rotate_left
       ·cases d2
        rotate_left
        ·cases d3
         rotate_left
         ·go_wp2_with fail
          go_ret
          rw [HZ.out rfl]
          exact ⟨rfl,HA.out.trans (E.mono HA.out.size)⟩
         ·go_wp2_with fail
          go_roundw
          case rel=>exact ⟨j+1,by omega,by go_num,E,x1,HJ2.out rfl⟩
          case measure=>simp [intOf];omega
        ·go_wp2_with fail
         go_roundw
         case rel=>exact ⟨j+1,by omega,by go_num,E,x1,HJ2.out rfl⟩
         case measure=>simp [intOf];omega
       ·go_wp2_with fail
        go_roundw
        case rel=>exact ⟨j+1,by omega,by go_num,E,x1,HJ2.out rfl⟩
        case measure=>simp [intOf];omega
      ·obtain rfl:j=k:=by omega
       have HK2:=hid (And.intro (HK.out.1.snoc HX.out HF.out) (HK.out.2.snoc HX.out HJ.out))
       go_wp2_with fail
       go_roundw
       case rel=>exact ⟨j+1,by omega,by go_num,E,HK2⟩
       case measure=>simp [intOf];omega
   ·obtain rfl:k=t.init.length:=by omega
    have HZ:=hid (begunE_ok HNN.out HK.out.1 HK.out.2)
    go_wp2_with fail
    go_ret
    rw [HZ.out]
    exact ⟨rfl,HA.out.trans (E.mono HA.out.size)⟩
end Go.Proofs.YthaibjefnclkjaaGreatDoor

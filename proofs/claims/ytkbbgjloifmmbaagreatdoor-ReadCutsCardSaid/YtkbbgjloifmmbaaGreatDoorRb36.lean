/- What ReadBackP leans on, part 36. -/
import Derived.Test.YtkbbgjloifmmbaaGreatDoorRb35
import Derived.Test.YtkbbgjloifmmbaaGreatDoorRb32
import Derived.Lib.SlicesCompact
import Derived.Sort.OwnSorted
set_option linter.unusedVariables false
set_option maxRecDepth 100000
set_option maxHeartbeats 6400000
namespace Go.Proofs.YtkbbgjloifmmbaaGreatDoor
open _root_.Go.Proofs.Tryz
open _root_.List renaming eq_nil_of_length_eq_zero->amN,pairwise_cons->aqd,mem_cons->amY,take_succ_eq_append_getElem->ao5,getElem?_eq_getElem->amK,replicate->ao8
open _root_.Bool renaming and_false->aqb,not_eq_true'->aqe,and_eq_true->am6,eq_iff_iff->anW
open _root_.Nat renaming not_lt_zero->aoe
open _root_.Go.Value.slice renaming injEq->aqf
open Go.RowKit Go.Sort
def qo(aE:Tx)(n:Int):Bool:=if aE=[]then aY n else az aE&&decide (n=0)
def EJ(af:Int)(n:Nat)(x:aF):Bool:=
 if x.thread= -1 then az x.loc&&(decide (x.au=0)&&decide (x.aE=[]))
 else if x.thread<0\/(n:Int)<=x.thread\/x.loc≠[]then false
 else if af=2 then decide (1<=x.au)&&decide (x.au<32)else decide (0<=x.au)&&decide (x.au<15)
theorem abt(af:Int)(n:Nat)(x:aF):eT af n x=(qo x.aE x.n&&EJ af n x):=by
 unfold eT qo EJ
 by_cases h1:x.thread= -1
 ·rw[if_pos h1,if_pos h1]
  by_cases h2:x.aE=[]
  ·rw[if_pos h2,decide_eq_true h2];cases az x.loc<;>cases aY x.n<;>simp
  ·rw[if_neg h2,decide_eq_false h2];simp
 ·rw[if_neg h1,if_neg h1]
  by_cases h2:x.thread<0\/(n:Int)<=x.thread\/x.loc≠[]
  ·rw[if_pos h2,if_pos h2,aqb]
  ·rw[if_neg h2,if_neg h2]
   have hv:(if x.aE≠[]then az x.aE&&decide (x.n=0)else aY x.n)=(if x.aE=[]then aY x.n else az x.aE&&decide (x.n=0)):=by
    by_cases h:x.aE=[]<;>simp[h]
   by_cases h3:af=2
   ·by_cases h4:x.au<1\/31<x.au
    ·rw[if_pos (by rw[if_pos h3];exact h4),if_pos h3]
     have:(decide (1<=x.au)&&decide (x.au<32))=false:=by simp;omega
     rw[this,aqb]
    ·rw[if_neg (by rw[if_pos h3];exact h4),if_pos h3,hv]
     have:(decide (1<=x.au)&&decide (x.au<32))=true:=by simp;omega
     rw[this,Bool.and_true]
   ·by_cases h4:x.au<0\/14<x.au
    ·rw[if_pos (by rw[if_neg h3];exact h4),if_neg h3]
     have:(decide (0<=x.au)&&decide (x.au<15))=false:=by simp;omega
     rw[this,aqb]
    ·rw[if_neg (by rw[if_neg h3];exact h4),if_neg h3,hv]
     have:(decide (0<=x.au)&&decide (x.au<15))=true:=by simp;omega
     rw[this,Bool.and_true]
theorem ahg(aE:Tx)(n:Int)(h2:aE.length<=9223372036854775807)(w:World):Calls prog 303 #[.agg #[.string (tx aE),.int .i64 n]] w (ax w (.bool (qo aE n))):=by
 have B:=al w (.cells #[.string (tx aE),.int .i64 n] 54);obtain⟨b2,dH⟩: ∃b,az aE=b:=⟨_,rfl⟩;obtain⟨b3,gi⟩: ∃b,aY n=b:=⟨_,rfl⟩;obtain⟨b5,jU⟩: ∃b,decide (aE=[])=b:=⟨_,rfl⟩;have NV:=hid (show ∀w,Calls prog 252 #[.string (tx aE)] w fun e w'=>e= .returned (.bool b2)/\w=w' from fun w=>dH▸Ks aE h2 w);have NN:=hid (show ∀w,Calls prog 309 #[.int .i64 n] w fun e w'=>e= .returned (.bool b3)/\w=w' from fun w=>gi▸UJ n w);obtain⟨zv,WU⟩:=BS jU;cases b5 with
 | true=>
   have E:=hid (show qo aE n=b3 by unfold qo;rw[if_pos (by simpa using jU)];exact gi);clear dH gi jU;go_in
   go_wp2_with (go_at_call 309;refine(NN.out _).mono ?_;rintro e w1 ⟨rfl,rfl⟩)
   go_ret;exact⟨aJ E.out.symm,aN⟩
 | false=>
   have hv:aE≠[]:=by simpa using jU
   by_cases hn0:n=0
   ·subst hn0
    have E:=hid (show qo aE 0=b2 by unfold qo;rw[if_neg hv,dH];simp);clear dH gi jU hv;cases b2
    all_goals
     go_in
     go_wp2_with (go_at_call 252;refine(NV.out _).mono ?_;rintro e w1 ⟨rfl,rfl⟩)
     go_ret;exact⟨aJ E.out.symm,aN⟩
   ·have zn:(n==0)=false:=by simpa using hn0
    have E:=hid (show qo aE n=false by unfold qo;rw[if_neg hv,decide_eq_false hn0,aqb]);clear dH gi jU hv hn0;cases b2
    all_goals
     go_in
     go_wp2_with (go_at_call 252;refine(NV.out _).mono ?_;rintro e w1 ⟨rfl,rfl⟩)
     go_ret;exact⟨aJ E.out.symm,aN⟩
theorem ahA(t:ak)(ha:aH t.af=true)(x:aF)(h1:x.loc.length<=9223372036854775807)(h2:x.aE.length<=9223372036854775807)(hn:t.code.length<=1000)(w:World):
 Calls prog 243 #[vT t,k8 x] w (ax w (.bool (eT t.af t.code.length x))):=by
 have B:=dD (al w (bC t)) (eK x);have b0:=(eG.new w t).below (al (w.alloc (bC t)) (eK x));have x0:aG ((w.alloc (bC t)).alloc (eK x)) (w.alloc (bC t)).heap.size (fV x):=aG.new _ _ _;rw[show(w.alloc (bC t)).heap.size=w.heap.size+1 by simp]at x0;obtain⟨thread,au,loc,aE,n⟩:=x;simp only at h1 h2;have EQ:=abt t.af t.code.length ⟨thread,au,loc,aE,n⟩;obtain⟨b1,dM⟩: ∃b,az loc=b:=⟨_,rfl⟩;obtain⟨b6,IF⟩: ∃b,qo aE n=b:=⟨_,rfl⟩;obtain⟨b4,jT⟩: ∃b,decide (loc=[])=b:=⟨_,rfl⟩;obtain⟨b5,jU⟩: ∃b,decide (aE=[])=b:=⟨_,rfl⟩;have NL:=hid (show ∀w,Calls prog 252 #[.string (tx loc)] w fun e w'=>e= .returned (.bool b1)/\w=w' from fun w=>dM▸Ks loc h1 w);have NM:=hid (show ∀w,Calls prog 303 #[.agg #[.string (tx aE),.int .i64 n]] w (ax w (.bool b6))from fun w=>IF▸ahg aE n h2 w);obtain⟨zl,WT⟩:=BS jT;obtain⟨zv,WU⟩:=BS jU;have HL:=hid jT;have HV:=hid jU;have L5:=hid dM;have Xb:=hid ha;simp only at EQ;rw[IF]at EQ;have Ga:=hid EQ;clear EQ dM jT jU IF h1 h2 ha;cases b6 with
 | false=>
   have E2:=hid (Ga.out.trans (Bool.false_and _));go_in;go_wp2_with fail;refine(NM.out _).mono ?_;rintro e w1 ⟨rfl,E1⟩;have q0:=(b0.below E1).cells.1;have q4:=(b0.below E1).cells.2.2.2.2.1;have i0:=(x0.below E1).get 0 _ rfl;have i1:=(x0.below E1).get 1 _ rfl;have i2:=(x0.below E1).get 2 _ rfl;have i3:=(x0.below E1).get 3 _ rfl;have B:=B.trans (E1.mono B.size);clear E1
   go_wp2_with (first|(go_at_call 252;refine(NL.out _).mono ?_;rintro e w1 ⟨rfl,rfl⟩))
   go_ret;exact⟨aJ (E2.out.symm),aN⟩
 |true=>
 have PL:=hid (Ga.out.trans (Bool.true_and _));clear Ga
 by_cases ht:thread= -1
 ·subst ht
  have P2:=hid (PL.out.trans (show _=(b1&&(decide (au=0)&&b5)) by unfold EJ;rw[if_pos rfl];simp only[L5.out,HV.out]));clear PL
  by_cases hr:au=0
  ·subst hr
   cases b1<;>cases b5
   all_goals
    go_in;go_wp2_with fail;refine(NM.out _).mono ?_;rintro e w1 ⟨rfl,E1⟩;have q0:=(b0.below E1).cells.1;have q4:=(b0.below E1).cells.2.2.2.2.1;have i0:=(x0.below E1).get 0 _ rfl;have i1:=(x0.below E1).get 1 _ rfl;have i2:=(x0.below E1).get 2 _ rfl;have i3:=(x0.below E1).get 3 _ rfl;have B:=B.trans (E1.mono B.size);clear E1
    go_wp2_with (first|(go_at_call 252;refine(NL.out _).mono ?_;rintro e w1 ⟨rfl,rfl⟩))
    go_ret;exact⟨aJ ((show _=_ from by first|rfl|simp).trans P2.out.symm),aN⟩
  ·have zr:(au==0)=false:=by simpa using hr
   have P3:=hid (P2.out.trans (show _=false by rw[decide_eq_false hr,Bool.false_and,aqb]));clear hr P2;cases b1
   all_goals
    go_in;go_wp2_with fail;refine(NM.out _).mono ?_;rintro e w1 ⟨rfl,E1⟩;have q0:=(b0.below E1).cells.1;have q4:=(b0.below E1).cells.2.2.2.2.1;have i0:=(x0.below E1).get 0 _ rfl;have i1:=(x0.below E1).get 1 _ rfl;have i2:=(x0.below E1).get 2 _ rfl;have i3:=(x0.below E1).get 3 _ rfl;have B:=B.trans (E1.mono B.size);clear E1
    go_wp2_with (first|(go_at_call 252;refine(NL.out _).mono ?_;rintro e w1 ⟨rfl,rfl⟩))
    go_ret;exact⟨aJ (P3.out.symm),aN⟩
 ·have zt:(thread== -1)=false:=by simpa using ht
  have P2:=hid (PL.out.trans (show _=(if thread<0\/(t.code.length:Int)<=thread\/loc≠[]then false else if t.af=2 then decide (1<=au)&&decide (au<32)else decide (0<=au)&&decide (au<15)) by unfold EJ;rw[if_neg ht]));clear PL
  by_cases h0:thread<0
  ·have P3:=hid (P2.out.trans (if_pos (.inl h0)))
   clear ht P2;go_in;go_wp2_with fail;refine(NM.out _).mono ?_;rintro e w1 ⟨rfl,E1⟩;have q0:=(b0.below E1).cells.1;have q4:=(b0.below E1).cells.2.2.2.2.1;have i0:=(x0.below E1).get 0 _ rfl;have i1:=(x0.below E1).get 1 _ rfl;have i2:=(x0.below E1).get 2 _ rfl;have i3:=(x0.below E1).get 3 _ rfl;have B:=B.trans (E1.mono B.size);clear E1
   go_wp2_with (first|(go_at_call 252;refine(NL.out _).mono ?_;rintro e w1 ⟨rfl,rfl⟩))
   go_ret;exact⟨aJ (P3.out.symm),aN⟩
  have h0':0<=thread:=by omega
  by_cases hc:(t.code.length:Int)<=thread
  ·have P3:=hid (P2.out.trans (if_pos (.inr (.inl hc))))
   clear ht P2;go_in;go_wp2_with fail;refine(NM.out _).mono ?_;rintro e w1 ⟨rfl,E1⟩;have q0:=(b0.below E1).cells.1;have q4:=(b0.below E1).cells.2.2.2.2.1;have i0:=(x0.below E1).get 0 _ rfl;have i1:=(x0.below E1).get 1 _ rfl;have i2:=(x0.below E1).get 2 _ rfl;have i3:=(x0.below E1).get 3 _ rfl;have B:=B.trans (E1.mono B.size);clear E1
   go_wp2_with (first|(go_at_call 252;refine(NL.out _).mono ?_;rintro e w1 ⟨rfl,rfl⟩))
   go_ret;exact⟨aJ (P3.out.symm),aN⟩
  have hc':thread<t.code.length:=by omega
  cases b4 with
  | false=>
    have P3:=hid (P2.out.trans (if_pos (.inr (.inr (by simpa using HL.out)))));clear ht hc P2;go_in;go_wp2_with fail;refine(NM.out _).mono ?_;rintro e w1 ⟨rfl,E1⟩;have q0:=(b0.below E1).cells.1;have q4:=(b0.below E1).cells.2.2.2.2.1;have i0:=(x0.below E1).get 0 _ rfl;have i1:=(x0.below E1).get 1 _ rfl;have i2:=(x0.below E1).get 2 _ rfl;have i3:=(x0.below E1).get 3 _ rfl;have B:=B.trans (E1.mono B.size);clear E1
    go_wp2_with (first|(go_at_call 252;refine(NL.out _).mono ?_;rintro e w1 ⟨rfl,rfl⟩))
    go_ret;exact⟨aJ (P3.out.symm),aN⟩
  | true=>
    have hnot: ¬(thread<0\/(t.code.length:Int)<=thread\/loc≠[]):=by
     have:=HL.out;simp at this;subst this;simp;omega
    have P3:=hid (P2.out.trans (if_neg hnot));clear P2 hnot ht hc
    by_cases ha:t.af=2
    ·have za:(t.af==1)=false:=by rw[ha];rfl
     have P4:=hid (P3.out.trans (if_pos ha));clear P3 ha;have hp:au<1\/(1<=au/\au<32)\/32<=au:=by omega
     rcases hp with hr|⟨hr,hr'⟩|hr
     all_goals
      go_in;go_wp2_with fail;refine(NM.out _).mono ?_;rintro e w1 ⟨rfl,E1⟩;have q0:=(b0.below E1).cells.1;have q4:=(b0.below E1).cells.2.2.2.2.1;have i0:=(x0.below E1).get 0 _ rfl;have i1:=(x0.below E1).get 1 _ rfl;have i2:=(x0.below E1).get 2 _ rfl;have i3:=(x0.below E1).get 3 _ rfl;have B:=B.trans (E1.mono B.size);clear E1
      go_wp2_with (first|(go_at_call 252;refine(NL.out _).mono ?_;rintro e w1 ⟨rfl,rfl⟩))
      go_ret;exact⟨aJ (by rw[P4.out];first|rfl|(simp<;>omega)),aN⟩
    ·have h1:t.af=1:=by
      have:=Xb.out;unfold aH at this;simp at this;omega
     have za:(t.af==1)=true:=by rw[h1];rfl
     have P4:=hid (P3.out.trans (if_neg ha));clear P3 ha h1;have hp:au<0\/(0<=au/\au<15)\/15<=au:=by omega
     rcases hp with hr|⟨hr,hr'⟩|hr
     all_goals
      go_in;go_wp2_with fail;refine(NM.out _).mono ?_;rintro e w1 ⟨rfl,E1⟩;have q0:=(b0.below E1).cells.1;have q4:=(b0.below E1).cells.2.2.2.2.1;have i0:=(x0.below E1).get 0 _ rfl;have i1:=(x0.below E1).get 1 _ rfl;have i2:=(x0.below E1).get 2 _ rfl;have i3:=(x0.below E1).get 3 _ rfl;have B:=B.trans (E1.mono B.size);clear E1
      go_wp2_with (first|(go_at_call 252;refine(NL.out _).mono ?_;rintro e w1 ⟨rfl,rfl⟩))
      go_ret;exact⟨aJ (by rw[P4.out];first|rfl|(simp<;>omega)),aN⟩
theorem ahy(t:ak)(ha:aH t.af=true)(hcn:t.code.length<=1000)(w:World)(h:dw w t):Calls prog 168 #[vT t] w (ax w (.int .i64 (dW t))):=by
 have A:=al w (bC t);have b0:=eG.new w t;have HI:=hid (h.keep A);have HA:=hid A;have uF:=hid ha;have hil:=h.init.len;clear ha
 by_cases hn:1024<t.init.length
 ·rw[Nl hn]
  obtain⟨c0,c1,c2,c3,c4,c5,c6,c7,c8,c9,c10,c11⟩:=b0.cells;clear h A;go_in;go_wp2_with fail;go_ret;exact⟨rfl,HA.out⟩
 ·have abO:t.init.length<=1024:=by omega
  have mO:=hid hn;clear hn h A;go_in
  go_upto_region 1 with(fail)
  generalize w.alloc (bC t)=W1 at*;obtain⟨c0,c1,c2,c3,c4,c5,c6,c7,c8,c9,c10,c11⟩:=b0.cells;go_wp2_with fail;clear c0 c1 c2 c3 c4 c5 c6 c7 c8 c9 c10 c11
  go_loopw [3] (fun i wr=> ∃k:Nat,k<=t.init.length/\i= .int .i64 k/\Below W1.heap.size W1 wr/\Hid (wS t k/\wQ t k)) (fun i _=>t.init.length-(intOf i).toNat)
  case atStart=>exact⟨0,by omega,rfl,Below.refl _ _,fun j x hj=>absurd hj (aoe j),fun i j x y _ hj=>absurd hj (aoe j)⟩
  case round=>
   obtain⟨k,hk,rfl,E,HK⟩:=hrel;obtain⟨c0,c1,c2,c3,c4,c5,c6,c7,c8,c9,c10,c11⟩:=(b0.below E).cells
   by_cases hlt:k<t.init.length
   ·obtain⟨x,hx⟩: ∃x,t.init[k]? =some x:=⟨_,amK hlt⟩
    obtain⟨p0,p1,p2,p3,p4⟩:=(HI.out.init.below E).qi hx;have ix:=HI.out.init.idx qj lB k hlt t.ic;have hxl:=HI.out.nY x (List.mem_of_getElem? hx);have HX:=hid hx;have LN:=hid (fun w=>ahA t uF.out x hxl.1 hxl.2 hcn w);obtain⟨f,hf⟩: ∃f,eT t.af t.code.length x=f:=⟨_,rfl⟩;rw[hf]at LN;have HF:=hid hf;clear hx hf hxl
    go_upto_region 7 with(fail)
    have A3:=al wr (eK x);have x0:aG (wr.alloc (eK x)) wr.heap.size (fV x):=aG.new _ _ _;generalize wr.alloc (eK x)=W3 at*;have E:=E.trans (A3.mono E.size);clear c0 c1 c2 c3 c4 c5 c6 c7 c8 c9 c10 c11 p0 p1 p2 p3 p4 ix A3;obtain⟨c0,c1,c2,c3,c4,c5,c6,c7,c8,c9,c10,c11⟩:=(b0.below E).cells;have i0:=x0.get 0 _ rfl;have i1:=x0.get 1 _ rfl;have i2:=x0.get 2 _ rfl;have i3:=x0.get 3 _ rfl;have i4:=x0.get 4 _ rfl;go_wp2_with fail;refine(LN.out _).mono ?_;rintro e w4 ⟨rfl,E4⟩;have x0:=x0.below E4;have E:=E.trans (E4.mono E.size);clear c0 c1 c2 c3 c4 c5 c6 c7 c8 c9 c10 c11 i0 i1 i2 i3 i4 E4 LN;cases f with
    | false=>
      have HZ:=hid (Nk mO.out HX.out HF.out);go_wp2_with fail;go_ret;rw[HZ.out];exact⟨rfl,HA.out.trans (E.mono HA.out.size)⟩
    | true=>
      go_wp2_with fail;obtain⟨xb,QY⟩: ∃xb,wr.heap.size=xb:=⟨_,rfl⟩;rw[QY]at x0⊢;clear QY
      go_loopw [5] (fun i wr2=> ∃j:Nat,j<=k/\i= .int .i64 j/\Below W1.heap.size W1 wr2/\aG wr2 xb (fV x)/\Hid (∀(i:Nat) (y:aF),i<j->t.init[i]? =some y->eZ y≠eZ x)) (fun i _=>k-(intOf i).toNat)
      case atStart=>exact⟨0,by omega,rfl,E,x0,fun j x hj=>absurd hj (aoe j)⟩
      case round=>
       clear E x0;obtain⟨j,hj,rfl,E,x0,HJ⟩:=hrel
       by_cases hjt:j<k
       ·obtain⟨y,hy⟩: ∃y,t.init[j]? =some y:=⟨_,amK (by omega)⟩
        obtain⟨c0,c1,c2,c3,c4,c5,c6,c7,c8,c9,c10,c11⟩:=(b0.below E).cells;obtain⟨p0,p1,p2,p3,p4⟩:=(HI.out.init.below E).qi hy;have ix:=HI.out.init.idx qj lB j (by omega) t.ic;have HY:=hid hy;clear hy;have hne: ∀(p:Prop),(eZ y=eZ x<->(x.thread=y.thread/\x.au=y.au/\x.loc=y.loc)):=fun _=>RL x y
        have Mf:=hid (RL x y);clear hne;have i0:=x0.get 0 _ rfl;have i1:=x0.get 1 _ rfl;have i2:=x0.get 2 _ rfl;have x0l:=x0.1
        go_upto_region 13 with(fail)
        have A3:=al wr (eK y);have y0:aG (wr.alloc (eK y)) wr.heap.size (fV y):=aG.new _ _ _;have x1:=x0.below A3;generalize wr.alloc (eK y)=W5 at*;have E:=E.trans (A3.mono E.size);clear c0 c1 c2 c3 c4 c5 c6 c7 c8 c9 c10 c11 p0 p1 p2 p3 p4 ix i0 i1 i2 A3 x0 x0l;have i0:=x1.get 0 _ rfl;have i1:=x1.get 1 _ rfl;have i2:=x1.get 2 _ rfl;have j0:=y0.get 0 _ rfl;have j1:=y0.get 1 _ rfl;have j2:=y0.get 2 _ rfl;obtain⟨d1,hd1⟩: ∃d,(x.thread==y.thread)=d:=⟨_,rfl⟩;obtain⟨d2,mq⟩: ∃d,(x.au==y.au)=d:=⟨_,rfl⟩;obtain⟨d3,DY⟩: ∃d,((tx x.loc).toList==(tx y.loc).toList)=d:=⟨_,rfl⟩
        have HQ:=hid (show decide (eZ y=eZ x)=(d1&&(d2&&d3)) by
         rw[<-hd1,<-mq,<-DY,jG,anW,decide_eq_true_eq,Mf.out];simp)
        clear Mf
        have fc:(d1&&(d2&&d3))=false->Hid (∀(i:Nat) (z:aF),i<j+1->t.init[i]? =some z->eZ z≠eZ x):=fun hd i z hi hz=>by
         rcases Nat.lt_succ_iff_lt_or_eq.1 hi with h1|h1
         ·exact HJ.out i z h1 hz
         ·subst h1;rw[HY.out]at hz;cases hz
          have:=HQ.out;rw[hd]at this;exact of_decide_eq_false this
        have fc:=hid fc;have HZ:=hid (fun hd:(d1&&(d2&&d3))=true=>Np mO.out hjt HY.out HX.out (of_decide_eq_true (HQ.out.trans hd)));clear HJ;cases d1
        rotate_left
        ·cases d2
         rotate_left
         ·cases d3
          rotate_left
          ·go_wp2_with fail
           go_ret;rw[HZ.out rfl];exact⟨rfl,HA.out.trans (E.mono HA.out.size)⟩
          ·go_wp2_with fail
           go_roundw
           case rel=>exact⟨j+1,by omega,by go_num,E,x1,fc.out rfl⟩
           case measure=>simp[intOf];omega
         ·go_wp2_with fail
          go_roundw
          case rel=>exact⟨j+1,by omega,by go_num,E,x1,fc.out rfl⟩
          case measure=>simp[intOf];omega
        ·go_wp2_with fail
         go_roundw
         case rel=>exact⟨j+1,by omega,by go_num,E,x1,fc.out rfl⟩
         case measure=>simp[intOf];omega
       ·obtain rfl:j=k:=by omega
        have fJ:=hid (And.intro (HK.out.1.snoc HX.out HF.out) (HK.out.2.snoc HX.out HJ.out));go_wp2_with fail
        go_roundw
        case rel=>exact⟨j+1,by omega,by go_num,E,fJ⟩
        case measure=>simp[intOf];omega
   ·obtain rfl:k=t.init.length:=by omega
    have HZ:=hid (Nn mO.out HK.out.1 HK.out.2);go_wp2_with fail;go_ret;rw[HZ.out];exact⟨rfl,HA.out.trans (E.mono HA.out.size)⟩
theorem Dr{t:ak}(h:cg t=0):1<=t.code.length/\t.code.length<=16/\ ∀x∈t.code,x.l.length<=256:=by
 unfold cg at h
 by_cases h1:t.code.length<1\/16<t.code.length
 ·rw[if_pos h1]at h;cases h
 ·rw[if_neg h1]at h
  by_cases h2:(t.code.any fun x=>decide (256<x.l.length))=true
  ·rw[if_pos h2]at h;cases h
  ·refine⟨by omega,by omega,fun x hx=>?_⟩
   by_cases h3:x.l.length<=256
   ·exact h3
   ·exact absurd (List.any_eq_true.2 ⟨x,hx,by simp;omega⟩) h2
theorem GI{t:ak}(h:dW t=0):t.init.length<=1024:=by
 unfold dW at h
 by_cases h1:1024<t.init.length
 ·rw[if_pos h1]at h;cases h
 ·omega
theorem ahq(t:ak)(ha:aH t.af=true)(w:World)(h:dw w t):Calls prog 167 #[vT t] w (ax w (.int .i64 (cg t))):=by
 have:t.af=1\/t.af=2:=by unfold aH at ha;simpa using ha
 rcases this with h1|h1
 ·exact ahr t h1 w h
 ·exact ahs t h1 w h
theorem Lo{t:ak}(h:aH t.af=false):bI t=5:=by unfold bI;rw[if_pos h]
theorem yZ{t:ak}(h:aH t.af=true)(h2:(eW t.name&&eY t.aC)=false):bI t=130:=by
 unfold bI;rw[if_neg (by rw[h];simp),if_pos (by cases h3:eW t.name<;>simp_all)]
theorem Lu{t:ak}(h:aH t.af=true)(h2:(eW t.name&&eY t.aC)=true)(h3:cg t≠0):bI t=cg t:=by
 rw[am6]at h2;unfold bI;rw[if_neg (by rw[h];simp),if_neg (by rw[h2.1,h2.2];simp),if_pos h3]
theorem Lr{t:ak}(h:aH t.af=true)(h2:(eW t.name&&eY t.aC)=true)(h3:cg t=0)(h4:dW t≠0):bI t=dW t:=by
 rw[am6]at h2;unfold bI;rw[if_neg (by rw[h];simp),if_neg (by rw[h2.1,h2.2];simp),if_neg (by rw[h3];simp),if_pos h4]
theorem Lp{t:ak}(h:aH t.af=true)(h2:(eW t.name&&eY t.aC)=true)(h3:cg t=0)(h4:dW t=0):bI t=if iA t≠0 then iA t else if 64<(gH t).length then 2 else 0:=by
 rw[am6]at h2;unfold bI;rw[if_neg (by rw[h];simp),if_neg (by rw[h2.1,h2.2];simp),if_neg (by rw[h3];simp),if_neg (by rw[h4];simp)];unfold iA
 by_cases h5:bF t.af t.q t.node=0
 ·rw[if_neg (c:=bF t.af t.q t.node≠0) (by simpa using h5),if_neg (c:=bF t.af t.q t.node≠0) (by simpa using h5)]
  by_cases h6:((jM t).any fun x=>decide ((t.code.length:Int)<=x.thread))=true
  ·rw[if_pos h6];simp[h6]
  ·rw[if_neg h6];simp[h6]
 ·rw[if_pos h5,if_pos h5,if_pos h5]
theorem ahp(t:ak)(w:World)(h:dw w t):Calls prog 91 #[vT t] w (ax w (.int .i64 (bI t))):=by
 have A:=al w (bC t);have b0:=eG.new w t;have HI:=hid (h.keep A);have HA:=hid A;obtain⟨ab,hab⟩: ∃ab,aH t.af=ab:=⟨_,rfl⟩;have CA:=hid (show ∀w,Calls prog 164 #[.int .i64 t.af] w fun e w'=>e= .returned (.bool ab)/\w=w' from fun w=>hab▸ES t.af w);obtain⟨tb,htb⟩: ∃tb,eW t.name=tb:=⟨_,rfl⟩;have CT:=hid (show ∀w,Calls prog 165 #[.string (tx t.name)] w fun e w'=>e= .returned (.bool tb)/\w=w' from fun w=>htb▸ahj t.name h.name w);obtain⟨cb,hcb⟩: ∃cb,eY t.aC=cb:=⟨_,rfl⟩;have CC:=hid (show ∀w,Calls prog 166 #[.string (tx t.aC)] w fun e w'=>e= .returned (.bool cb)/\w=w' from fun w=>hcb▸aht t.aC h.aC w);have HB:=hid hab;have XK:=hid (show(eW t.name&&eY t.aC)=(tb&&cb) by rw[htb,hcb]);clear h A hab htb hcb;cases ab with
 | false=>
   have HZ:=hid (Lo HB.out);go_in
   go_upto_region 1 with(fail)
   generalize w.alloc (bC t)=W1 at*;obtain⟨c0,c1,c2,c3,c4,c5,c6,c7,c8,c9,c10,c11⟩:=b0.cells
   go_wp2_with (go_at_call 164;refine(CA.out _).mono ?_;rintro e w' ⟨rfl,rfl⟩)
   go_ret;rw[HZ.out];exact⟨rfl,HA.out⟩
 | true=>
   obtain⟨ok,hok⟩: ∃ok,(tb&&cb)=ok:=⟨_,rfl⟩;have oD:=hid (XK.out.trans hok);cases ok with
   | false=>
     have HZ:=hid (yZ HB.out oD.out);go_in
     go_upto_region 1 with(fail)
     generalize w.alloc (bC t)=W1 at*;obtain⟨c0,c1,c2,c3,c4,c5,c6,c7,c8,c9,c10,c11⟩:=b0.cells;cases tb<;>cases cb
     all_goals(try(exfalso;simp at hok;done))
     all_goals
      clear hok
      go_wp2_with (first|(go_at_call 164;refine(CA.out _).mono ?_;rintro e w' ⟨rfl,rfl⟩)|(go_at_call 165;refine(CT.out _).mono ?_;rintro e w' ⟨rfl,rfl⟩)|(go_at_call 166;refine(CC.out _).mono ?_;rintro e w' ⟨rfl,rfl⟩))
      go_ret;rw[HZ.out];exact⟨rfl,HA.out⟩
   | true=>
     obtain⟨rfl,rfl⟩:tb=true/\cb=true:=by simpa using hok
     have CO:=ahq t HB.out _ HI.out;obtain⟨e1,vz⟩: ∃e1,cg t=e1:=⟨_,rfl⟩;rw[vz]at CO;have CO:=hid CO;have ox:=hid vz;clear hok vz;go_in
     go_upto_region 1 with(fail)
     generalize w.alloc (bC t)=W1 at*;obtain⟨c0,c1,c2,c3,c4,c5,c6,c7,c8,c9,c10,c11⟩:=b0.cells
     go_wp2_with (first|(go_at_call 164;refine(CA.out _).mono ?_;rintro e w' ⟨rfl,rfl⟩)|(go_at_call 165;refine(CT.out _).mono ?_;rintro e w' ⟨rfl,rfl⟩)|(go_at_call 166;refine(CC.out _).mono ?_;rintro e w' ⟨rfl,rfl⟩))
     refine CO.out.mono ?_;rintro e w2 ⟨rfl,E⟩;clear c0 c1 c2 c3 c4 c5 c6 c7 c8 c9 c10 c11 CO
     by_cases h1:e1=0
     rotate_left
     ·have z:(e1 != 0)=true:=by simpa using h1
      have HZ:=hid (show bI t=e1 by rw[Lu HB.out oD.out (by rw[ox.out];exact h1),ox.out]);clear h1;go_wp2_with fail;go_ret;rw[HZ.out];exact⟨rfl,HA.out.trans (E.mono HA.out.size)⟩
     subst h1;obtain⟨k1,k2,k3⟩:=Dr ox.out;have Ge:=hid k3;obtain⟨c0,c1,c2,c3,c4,c5,c6,c7,c8,c9,c10,c11⟩:=(b0.below E).cells;have CO:=ahy t HB.out (by omega) w2 (HI.out.keep E);obtain⟨e2,kj⟩: ∃e2,dW t=e2:=⟨_,rfl⟩;rw[kj]at CO;have CO:=hid CO;have jq:=hid kj;clear kj k3;go_wp2_with fail;refine CO.out.mono ?_;rintro e w3 ⟨rfl,E3⟩;have E:=E.trans (E3.mono E.size);clear c0 c1 c2 c3 c4 c5 c6 c7 c8 c9 c10 c11 CO E3
     by_cases h2:e2=0
     rotate_left
     ·have z:(e2 != 0)=true:=by simpa using h2
      have HZ:=hid (show bI t=e2 by rw[Lr HB.out oD.out ox.out (by rw[jq.out];exact h2),jq.out]);clear h2;go_wp2_with fail;go_ret;rw[HZ.out];exact⟨rfl,HA.out.trans (E.mono HA.out.size)⟩
     subst h2;have k4:=GI jq.out;have HT:=hid (Lp HB.out oD.out ox.out jq.out);obtain⟨c0,c1,c2,c3,c4,c5,c6,c7,c8,c9,c10,c11⟩:=(b0.below E).cells;have CO:=ahn t (by omega) w3 (HI.out.keep E);obtain⟨e3,vA⟩: ∃e3,iA t=e3:=⟨_,rfl⟩;rw[vA]at CO;have CO:=hid CO;have zw:=hid vA;clear vA;go_wp2_with fail;refine CO.out.mono ?_;rintro e w4 ⟨rfl,E4⟩;have E:=E.trans (E4.mono E.size);clear c0 c1 c2 c3 c4 c5 c6 c7 c8 c9 c10 c11 CO E4
     by_cases h3:e3=0
     rotate_left
     ·have z:(e3 != 0)=true:=by simpa using h3
      have HZ:=hid (show bI t=e3 by rw[HT.out,zw.out,if_pos h3]);clear h3;go_wp2_with fail;go_ret;rw[HZ.out];exact⟨rfl,HA.out.trans (E.mono HA.out.size)⟩
     subst h3;obtain⟨c0,c1,c2,c3,c4,c5,c6,c7,c8,c9,c10,c11⟩:=(b0.below E).cells;have LO:=hid (ahB t k4 k2 Ge.out w4 (HI.out.keep E));go_wp2_with fail;refine LO.out.mono ?_;rintro e w5 ⟨a5,Za,rfl,o5,E5⟩;have E:=E.trans (E5.mono E.size);have en:=hid (show bI t=if 64<(gH t).length then 2 else 0 by rw[HT.out,zw.out,if_neg (by omega)]);have hcap:=o5.cap.2.1;unfold Go.maxLen at hcap;have hcap2:=o5.cap.1;clear c0 c1 c2 c3 c4 c5 c6 c7 c8 c9 c10 c11 LO E5 o5
     by_cases Av:64<(gH t).length
     ·have HZ:=hid (show bI t=2 by rw[en.out,if_pos Av])
      go_wp2_with fail;go_ret;rw[HZ.out];exact⟨rfl,HA.out.trans (E.mono HA.out.size)⟩
     ·have HZ:=hid (show bI t=0 by rw[en.out,if_neg Av])
      go_wp2_with fail;go_ret;rw[HZ.out];exact⟨rfl,HA.out.trans (E.mono HA.out.size)⟩
end Go.Proofs.YtkbbgjloifmmbaaGreatDoor
namespace Go.Proofs.YtkbbgjloifmmbaaGreatDoor
open _root_.Go.Proofs.Tryz
open _root_.List renaming eq_nil_of_length_eq_zero->amN,pairwise_cons->aqd,mem_cons->amY,take_succ_eq_append_getElem->ao5,getElem?_eq_getElem->amK,replicate->ao8
open _root_.Bool renaming and_false->aqb,not_eq_true'->aqe,and_eq_true->am6,eq_iff_iff->anW
open _root_.Nat renaming not_lt_zero->aoe
open _root_.Go.Value.slice renaming injEq->aqf
theorem SD: ∀a b:Tx,a<b<->bB a b=true
 |[],[]=>by simp[bB]
 |[],y::s=>by simp[bB]
 |x::r,[]=>by simp[bB]
 | x::r,y::s=>by
   rw[List.cons_lt_cons_iff,SD r s,bB]
   by_cases h:x<y
   ·simp[h]
   ·by_cases h2:y<x
    ·simp only[h,false_or,if_false,h2,if_true,Bool.false_eq_true,iff_false,not_and]
     intro e;subst e;exact absurd h2 (LF x)
    ·have:=BU h h2;subst this
     simp[h]
theorem JF(a b:Tx):decide (a<=b)= !bB b a:=by
 rw[anW,decide_eq_true_eq,aqe,<-Bool.not_eq_true,<-SD];exact List.not_lt.symm
def mL(l:List Tx):List Tx:=l.mergeSort fun x y=>decide (x<=y)
def nG(l:List Tx):Prop:=l.Pairwise fun a b=>bB a b=true
theorem Jw{t:Tx}{z:Tx}: ∀{l:List Tx},z∈iS t l<->z=t\/z∈l
 |[]=>by simp[iS]
 | y::r=>by
   unfold iS;split
   ·simp
   ·simp only[amY,Jw (l:=r)]
    constructor
    ·rintro(h|h|h)
     ·exact .inr (.inl h)
     ·exact .inl h
     ·exact .inr (.inr h)
    ·rintro(h|h|h)
     ·exact .inr (.inl h)
     ·exact .inl h
     ·exact .inr (.inr h)
theorem agU{t:Tx}{z:Tx}{l:List Tx}:z∈fF l t<->(z=t/\t≠[])\/z∈l:=by
 unfold fF
 by_cases h0:t=[]
 ·rw[if_pos h0];simp[h0]
 ·rw[if_neg h0]
  split
  ·rename_i h
   constructor
   ·exact .inr
   ·rintro(⟨rfl, -⟩|h')
    ·exact h
    ·exact h'
  ·rw[Jw];simp[h0]
theorem Rp{t:Tx}: ∀{l:List Tx},t∉l->nG l->nG (iS t l)
 |[],_,_=>by unfold iS nG;simp
 | y::r,hn,h=>by
   obtain⟨a1,b1⟩:=aqd.1 h;unfold iS
   by_cases hb:bB t y=true
   ·rw[if_pos hb]
    unfold nG;rw[aqd];refine⟨fun z hz=>?_,h⟩;rcases amY.1 hz with rfl|hz
    ·exact hb
    ·exact Bj hb (a1 z hz)
   ·rw[if_neg hb]
    unfold nG;rw[aqd];refine⟨fun z hz=>?_,Rp (fun h=>hn (by simp[h])) b1⟩;rcases Jw.1 hz with rfl|hz
    ·by_cases h2:bB y z=true
     ·exact h2
     ·have:=Bk (by simpa using hb) (by simpa using h2)
      exact absurd (by rw[this];simp) hn
    ·exact a1 z hz
theorem agV{t:Tx}{l:List Tx}(h:nG l):nG (fF l t):=by
 unfold fF;split
 ·exact h
 ·split
  ·exact h
  ·rename_i hn;exact Rp hn h
theorem Pt: ∀(l acc:List Tx),nG acc->nG (eu acc l)/\ ∀z,z∈eu acc l<->(z∈l/\z≠[])\/z∈acc
 |[],acc,h=>⟨h,fun z=>by unfold eu;simp⟩
 | s::r,acc,h=>by
   obtain⟨h1,h2⟩:=Pt r (fF acc s) (agV h);refine⟨h1,fun z=>?_⟩;show z∈eu (fF acc s) r<->_;rw[h2,agU]
   constructor
   ·rintro(⟨a,b⟩|⟨rfl,b⟩|a)
    ·exact .inl ⟨by simp[a],b⟩
    ·exact .inl ⟨by simp,b⟩
    ·exact .inr a
   ·rintro(⟨a,b⟩|a)
    ·rcases amY.1 a with rfl|a
     ·exact .inr (.inl ⟨rfl,b⟩)
     ·exact .inl ⟨a,b⟩
    ·exact .inr (.inr a)
def xH(l:List Tx):List Tx:=if l.head?=some []then l.drop 1 else l
theorem aew(b:Tx):bB b []=false:=by cases b<;>simp[bB]
theorem aaM{l:List Tx}(h:nG l):nG (xH l)/\ ∀z,z∈xH l<->z∈l/\z≠[]:=by
 unfold xH;cases l with
 |nil=>exact⟨h,fun z=>by simp⟩
 | cons y r=>
   obtain⟨a1,b1⟩:=aqd.1 h
   have hr: ∀z∈r,z≠[]:=fun z hz e=>by
    have:=a1 z hz;rw[e,aew]at this;cases this
   by_cases hy:y=[]
   ·subst hy
    rw[if_pos (show([]::r).head?=some []from rfl)];refine⟨b1,fun z=>?_⟩;simp only[List.drop_one,List.tail_cons,amY];exact⟨fun hz=>⟨.inr hz,hr z hz⟩,fun⟨hz,hn⟩=>hz.resolve_left hn⟩
   ·rw[if_neg (by simpa using hy)]
    refine⟨h,fun z=>⟨fun hz=>⟨hz,?_⟩,fun hz=>hz.1⟩⟩;rcases amY.1 hz with rfl|hz
    ·exact hy
    ·exact hr z hz
theorem ajR(l:List Tx):xH (cF (mL l))=eu [] l:=by
 have hs:=List.pairwise_mergeSort (le:=fun x y:Tx=>decide (x<=y)) (fun a b c hab hbc=>by
  simp only[JF,aqe]at*;cases hca:bB c a with
  |false=>rfl
  | true=>
    cases hcb:bB c b with
    |true=>rw[hcb]at hbc;cases hbc
    | false=>
      cases AG:bB b c with
      |true=>have:=Bj AG hca;rw[this]at hab;cases hab
      |false=>have:=Bk AG hcb;subst this;rw[hca]at hab;cases hab)
  (fun a b=>by
   simp only[JF];cases h1:bB b a with
   |true=>rw[JZ h1];rfl
   |false=>rfl) l
 have hr:nG (cF (mL l)):=He (lt:=fun a b=>bB a b=true) (fun _ _ _=>Bj) (hs.imp (fun {a b} hab=>by
  simp only[JF,aqe]at hab;cases h1:bB a b with
  |true=>exact .inr rfl
  |false=>exact .inl (Bk h1 hab)))
 obtain⟨c1,c2⟩:=aaM hr;obtain⟨f1,f2⟩:=Pt l [] List.Pairwise.nil;refine KM (lt:=fun a b=>bB a b=true) (fun a h=>by rw[J0]at h;cases h) (fun a b h h'=>by rw[JZ h]at h';cases h') c1 f1 fun z=>?_
 rw[c2,f2,G9];unfold mL;rw[List.mem_mergeSort];simp
theorem ZI(l:List Tx):Lib.compact l=cF l:=by
 have key: ∀m,m<=l.length->Lib.compactUpTo l.toArray m=cF (l.take m):=by
  intro m
  induction m with
  |zero=>intro _;rfl
  | succ m ih=>
    intro hm;rw[Lib.compactUpTo_succ,ih (by omega)];have e1:l.take (m+1)=l.take m++[l[m]'(by omega)]:=ao5 (by omega);have g:l.toArray[m]! =l[m]'(by omega):=by rw[getElem!_pos l.toArray m (by simp;omega)];rfl
    cases m with
    | zero=>
      rw[e1,show Lib.keeps l.toArray 0=true from rfl,if_pos rfl,g];rfl
    | succ k=>
      have e0:l.take (k+1)=l.take k++[l[k]'(by omega)]:=ao5 (by omega);have g0:l.toArray[k]! =l[k]'(by omega):=by rw[getElem!_pos l.toArray k (by simp;omega)];rfl
      rw[e1,e0,Hf];unfold Lib.keeps;rw[show k+1-1=k from rfl,g,g0]
      by_cases h:l[k+1]=l[k]'(by omega)
      ·rw[if_pos h];simp[h]
      ·rw[if_neg h];simp[h]
 unfold Lib.compact;rw[key _ (Nat.le_refl _),List.take_length]
end Go.Proofs.YtkbbgjloifmmbaaGreatDoor
namespace Go.Proofs.YtkbbgjloifmmbaaGreatDoor
open _root_.Go.Proofs.Tryz
open _root_.List renaming eq_nil_of_length_eq_zero->amN,pairwise_cons->aqd,mem_cons->amY,take_succ_eq_append_getElem->ao5,getElem?_eq_getElem->amK,replicate->ao8
open _root_.Bool renaming and_false->aqb,not_eq_true'->aqe,and_eq_true->am6,eq_iff_iff->anW
open _root_.Nat renaming not_lt_zero->aoe
open _root_.Go.Value.slice renaming injEq->aqf
open Go.RowKit Go.Sort
theorem VV{w:World}{g n:Nat}{os:Array Obj}(d:Array (List UInt8)):Step w (grow (putRow encStr (Sort.ahead w n) g 0 d) os) (some ⟨g,0,none⟩) (some ⟨g,0,none⟩):=
 ⟨grownBy_sorted d,.inl rfl⟩
theorem ajO(l:List Tx)(w:World)(B:Nat)(a:Option Addr)(c:Nat)(h:bh w B a l.length c l)(hl:l.length<=1000000):
 Calls prog 145 #[.slice a l.length c] w fun e w'=>e= .returned (.tuple #[])/\bh w' B a (mL l).length c (mL l)/\Step w w' a a:=by
 have hlen:(mL l).length=l.length:=List.length_mergeSort l;rcases h.2 with⟨h2,h0⟩|⟨g,cap,cur,hv,hg,hh,hn,hc,hs,hx⟩
 ·simp only[aqf]at h2
  obtain⟨rfl,-, rfl⟩:=h2;have hz:l=[]:=amN h0;subst hz;refine(Any.slices_Sort_string_none Tryz.adY none 0 w).mono fun e w' ⟨he,hw⟩=>?_
  subst hw;exact⟨he,by rw[show mL []=[]from amN hlen];exact h,Step.refl _ _⟩
 ·cases hv
  have hH:Holds encStr w g 0 l.toArray:=holds_of_block hh (by rw[Nat.mul_one]at hx;exact hx);refine(Any.slices_Sort_string Tryz.adY g 0 c l w hH (Array.getElem?_eq_some_iff.1 hh).1 (by omega)).mono fun e w' ⟨he,n,os,hw⟩=>?_
  subst hw;refine⟨he,?_,VV _⟩;have:=ownsRow_sorted (n:=n) (os:=os) (ss:=l) (ts:=mL l) hlen hg hh hn hc hs;rw[hlen];exact this
theorem ZG(l:List Tx)(w:World)(B:Nat)(a:Option Addr)(c:Nat)(h:bh w B a l.length c l)(hl:l.length<=1000000):
 Calls prog 146 #[.slice a l.length c] w fun e w'=>e= .returned (.slice a (cF l).length c)/\bh w' B a (cF l).length c (cF l)/\Step w w' a a:=by
 rcases h.2 with⟨h2,h0⟩|⟨g,cap,cur,hv,hg,hh,hn,hc,hs,hx⟩
 ·simp only[aqf]at h2
  obtain⟨rfl,-, rfl⟩:=h2;have hz:l=[]:=amN h0;subst hz;refine(Any.slices_Compact_string_empty Tryz.adZ none 0 w).mono fun e w' ⟨he,hw⟩=>?_
  subst hw;exact⟨he,h,Step.refl _ _⟩
 ·cases hv
  have hH:Holds encStr w g 0 l.toArray:=holds_of_block hh (by rw[Nat.mul_one]at hx;exact hx);refine(Any.slices_Compact_string Tryz.adZ g 0 c l w hH (by omega) hn).mono fun e w' ⟨he,n,hw⟩=>?_
  rw[ZI]at he hw;have hle:=Od l;have e1:(cF l++ao8 (l.length-(cF l).length) []).length=l.length:=by simp;omega
  have o:=ownsRow_sorted (n:=n) (os:=#[]) (ss:=l) (ts:=cF l++ao8 (l.length-(cF l).length) []) e1 hg hh hn hc hs;have st:=VV (w:=w) (g:=g) (n:=n) (os:=#[]) (cF l++ao8 (l.length-(cF l).length) []).toArray;rw[grow_empty]at o st;rw[<-hw]at o st;refine⟨he,?_,st⟩;rw[List.map_append]at o;obtain⟨m,hm⟩: ∃m,l.length=(cF l).length+m:=⟨l.length-(cF l).length,by omega⟩;rw[hm]at o;exact Own.front o (by simp)
theorem Pf(t:ak)(w:World)(h:cH w t.node):Calls prog 72 #[vT t] w (Df w (jM t)):=by
 have A:=al w (bC t);have b0:=eG.new w t;obtain⟨c0,c1,c2,c3,c4,c5,c6,c7,c8,c9,c10,c11⟩:=b0.cells;have TH:=hid (aaE t.q t.node _ (h.keep A));have HA:=hid A;clear A h;go_in;go_wp2_with fail;refine TH.out.mono ?_;rintro e w1 ⟨a,c,rfl,o,E⟩;have HO:=hid (And.intro o E);clear o E TH c0 c1 c2 c3 c4 c5 c6 c7 c8 c9 c10 c11;go_wp2_with fail
 (try go_simp)
 go_ret;exact⟨a,c,rfl,Own.mono HO.out.1 HA.out.size,HA.out.trans (HO.out.2.mono HA.out.size)⟩
end Go.Proofs.YtkbbgjloifmmbaaGreatDoor

/- What ReadBlanksP leans on, part 2. -/
import Derived.Lib.SlTrimSet
import Derived.Lib.ItoaNum
import Derived.Lib.SplitLaws
import Derived.Lib.Strings
import Derived.Lib.ItoaMem
import Derived.Lib.ItoaLen
set_option linter.unusedVariables false
open _root_.List renaming mem_cons->anE,getLast?_eq_some_getLast->aol,mem_of_find?_eq_some->apN,dropWhile_cons->anV,range->apO,find?_some->apP,isPrefixOf->apQ
open _root_.Go.Lib renaming index->apI,decDigits->aoc,indexByte->apt
open _root_.Nat renaming div_div_eq_div_mul->apM
open _root_.Bool renaming and_eq_true->anS
namespace Go.Proofs.YtkbbgjloifmmbaaGreatDoor
variable{k n:Nat}
abbrev Tx:=List UInt8
def aq(c:UInt8):Bool:=c==32||c==9||c==10||c==13
def ak(l:Tx):Tx:=Lib.trimS l [32,9,10,13]
def lE(n:Nat):UInt8:=UInt8.ofNat (48+n%10)
def lD(n:Nat):Tx:=if n<10 then[lE n]else if n<100 then[lE (n/10),lE n]else if n<1000 then[lE (n/100),lE (n/10),lE n]else[lE (n/1000),lE (n/100),lE (n/10),lE n]
def mE(n:Int):Tx:=if n<0 then 45::lD n.natAbs else lD n.toNat
def iu(n:Nat):Tx:=120::lD n
def bf(s:Tx):Option Nat:=(apO 32).find? fun n=>iu n==s
def aH(c:UInt8):Tx->List Tx
 |[]=>[[]]
 | b::r=>if b==c then[]::aH c r else match aH c r with
   |[]=>[[b]]
   |x::t=>(b::x)::t
def cg(c:UInt8):Bool:=(97<=c&&c<=122)||(65<=c&&c<=90)
def aD(c:UInt8):Bool:=48<=c&&c<=57
def cP(c:UInt8):Bool:=cg c||aD c||c==95
def aC:Tx->Bool
 |[]=>false
 |c::r=>decide (r.length<32)&&cg c&&r.all cP
structure ay where
 op:Int
 d:Int
 a:Int
 b:Int
 ag:Int
 loc:Tx
 label:Tx
 ai:Int
 deriving DecidableEq
def wv:ay:=⟨0,0,0,0,0,[],[],0⟩
def nh(i:ay):ay:=
 if i.op=6 then⟨6,i.d,i.a,0,0,[],[],0⟩
 else if i.op=7 then⟨7,0,i.a,i.b,0,[],[],0⟩
 else if i.op=8 then⟨8,i.d,i.a,0,i.ag,[],[],0⟩
 else if i.op=9 then⟨9,i.d,i.a,i.b,0,[],[],0⟩
 else if i.op=10 then⟨10,i.d,i.a,i.b,0,[],[],0⟩
 else if i.op=11 then⟨11,0,i.a,i.b,0,[],i.label,0⟩
 else if i.op=12 then⟨12,0,0,0,0,[],i.label,0⟩
 else if i.op=13 then⟨13,0,0,0,0,[],[],i.ai⟩
 else⟨i.op,0,0,0,0,[],[],0⟩
def fE(i:ay):Bool:=
 if i.op=8 then decide (-2048<=i.ag)&&decide (i.ag<=2047)
 else if i.op=11\/i.op=12 then aC i.label
 else if i.op=13 then decide (2<=i.ai)&&decide (i.ai<=11)
 else decide (6<=i.op)&&decide (i.op<=13)
def dy(n:Int):Bool:=decide (0<=n)&&decide (n<=31)
def bX(i:ay):Bool:=fE i&&decide (i=nh i)&&dy i.d&&dy i.a&&dy i.b
def gA(i:ay):Int:=if bX i then 0 else 91
def kP(n:Int):Tx:=if n=0 then[114]else if n=1 then[119]else[114,119]
def ez(s:Tx):Option Nat:=
 let t:=ak s
 if t.contains 40&&t.getLast?==some 41&&ak (t.takeWhile (· != 40))==[48]then bf (ak ((t.dropWhile (· != 40)).drop 1).dropLast)else none
def lM(s:Tx):Option Int:=((apO 4096).find? fun(n:Nat)=>mE ((n:Int)-2048)==s).map fun(n:Nat)=>(n:Int)-2048
def lH(s:Tx):Option Int:=if s=[114]then some 0 else if s=[119]then some 1 else if s=[114,119]then some 2 else none
def dZ(op:Tx)(l:List Tx):Option ay:=
 if op=[108,119]then match l with
  | [x,y]=>match bf x,ez y with
    |some d,some a=>some ⟨6,d,a,0,0,[],[],0⟩
    |_,_=>none
  |_=>none
 else if op=[115,119]then match l with
  | [x,y]=>match bf x,ez y with
    |some d,some a=>some ⟨7,0,a,d,0,[],[],0⟩
    |_,_=>none
  |_=>none
 else if op=[102,101,110,99,101]then match l with
  | [x,y]=>match lH x,lH y with
    |some k,some j=>some ⟨13,0,0,0,0,[],[],3+3*k+j⟩
    |_,_=>none
  |_=>none
 else match l with
  | [x,y,z]=>match bf x,bf y with
    | some a,some b=>
      if op=[98,110,101]then(if aC z then some ⟨11,0,a,b,0,[],z,0⟩else none)
      else if op=[111,114,105]then(match lM z with
       |some n=>some ⟨8,a,b,0,n,[],[],0⟩
       |none=>none)
      else match bf z with
       |some c=>if op=[120,111,114]then some ⟨9,a,b,c,0,[],[],0⟩else if op=[97,100,100]then some ⟨10,a,b,c,0,[],[],0⟩else none
       |none=>none
    |_,_=>none
  |_=>none
def fT(s:Tx):Option ay:=
 if 262144<s.length then none
 else
  let t:=ak s
  if t=[102,101,110,99,101,46,116,115,111]then some ⟨13,0,0,0,0,[],[],2⟩
  else if t.getLast?=some 58 then(if aC (ak t.dropLast)then some ⟨12,0,0,0,0,[],ak t.dropLast,0⟩else none)
  else dZ (t.takeWhile fun c=> !aq c) ((aH 44 (t.dropWhile fun c=> !aq c)).map ak)
theorem Q2(c:UInt8):([32,9,10,13]:Tx).contains c=aq c:=by
 unfold aq;simp[List.contains,List.elem,Bool.or_assoc];cases h1:c==32<;>cases h2:c==9<;>cases h3:c==10<;>cases h4:c==13<;>simp_all
theorem alC(l:Tx):Lib.trimLeftS l [32,9,10,13]=l.dropWhile aq:=by
 unfold Lib.trimLeftS;congr 1;funext c;exact Q2 c
theorem alE(l:Tx):Lib.trimRightS l [32,9,10,13]=(l.reverse.dropWhile aq).reverse:=by
 unfold Lib.trimRightS;congr 2;funext c;exact Q2 c
theorem uW(l:Tx):ak l=((l.reverse.dropWhile aq).reverse).dropWhile aq:=by
 unfold ak Lib.trimS;rw[alE,alC]
theorem Fl{α:Type}{p:α->Bool}: ∀{l:List α},(∀c,l.head?=some c->p c=false)->l.dropWhile p=l
 |[],_=>rfl
 |c::r,h=>by rw[anV];rw[if_neg (by rw[h c rfl];simp)]
theorem je{α:Type}{p:α->Bool}: ∀{l:List α} {c:α},(l.dropWhile p).head?=some c->p c=false
 |[],c,h=>by simp at h
 | b::r,c,h=>by
   rw[anV]at h
   by_cases hb:p b=true
   ·rw[if_pos hb]at h;exact je h
   rw[if_neg hb]at h;simp at h;subst h;simpa using hb
theorem ZH{l:Tx}(h1: ∀c,l.head?=some c->aq c=false)(h2: ∀c,l.getLast?=some c->aq c=false):ak l=l:=by
 rw[uW,Fl (l:=l.reverse) (by intro c hc;rw[List.head?_reverse]at hc;exact h2 c hc),List.reverse_reverse,Fl h1]
theorem zh(c:UInt8): ∀(l:Tx),c∉l->aH c l=[l]
 |[],_=>rfl
 | b::r,h=>by
   simp only[anE,not_or]at h;unfold aH;rw[zh c r h.2,if_neg (by simpa using Ne.symm h.1)]
theorem G8(c:UInt8): ∀(l r:Tx),c∉l->aH c (l++c::r)=l::aH c r
 |[],r,_=>by simp[aH]
 | b::l,r,h=>by
   simp only[anE,not_or]at h;rw[List.cons_append]
   conv=>lhs;unfold aH
   rw[G8 c l r h.2,if_neg (by simpa using Ne.symm h.1)]
theorem aj3: ∀n:Fin 32,bf (iu n.val)=some n.val:=by decide+kernel
theorem aj2(h:n<32):bf (iu n)=some n:=aj3 ⟨n,h⟩
theorem GO{s:Tx}(h:bf s=some n):n<32/\s=iu n:=by
 unfold bf at h;have h1:=apP h;have h2:=apN h;simp at h1 h2;exact⟨h2,h1.symm⟩
def Cl(x:Tx):Prop:=x≠[]/\ ∀c∈x,aq c=false/\c≠44/\c≠58
instance (x:Tx):Decidable (Cl x):=by unfold Cl;infer_instance
theorem Cl.head{x:Tx}(h:Cl x): ∀c,x.head?=some c->aq c=false:=fun c hc=>(h.2 c (List.mem_of_head? hc)).1
theorem Cl.last{x:Tx}(h:Cl x): ∀c,x.getLast?=some c->aq c=false:=fun c hc=>(h.2 c (List.mem_of_getLast? hc)).1
theorem Cl.trim{x:Tx}(h:Cl x):ak x=x:=ZH h.head h.last
theorem Cl.app{x y:Tx}(h:Cl x)(h':Cl y):Cl (x++y):=⟨by simp[h.1],fun c hc=>by rcases List.mem_append.1 hc with h1|h1;exact h.2 c h1;exact h'.2 c h1⟩
def eN:Nat->Tx->Nat
 |a,[]=>a
 |a,c::r=>eN (10*a+(c.toNat-48)) r
def wX:Tx->Int
 |[]=>0
 |c::r=>if c=45 then -(eN 0 r:Int)else eN 0 (c::r)
theorem alV: ∀a:Fin 64,∀b:Fin 64,wX (mE ((64*a.val+b.val:Nat)-2048))=(64*a.val+b.val:Nat)-2048:=by decide+kernel
theorem ZV{n:Int}(h1: -2048<=n)(h2:n<=2047):wX (mE n)=n:=by
 have:=alV ⟨(n+2048).toNat/64,by omega⟩ ⟨(n+2048).toNat%64,by omega⟩;simp only at this
 rwa[show((64*((n+2048).toNat/64)+(n+2048).toNat%64:Nat):Int)-2048=n by omega]at this
theorem yI{s:Tx}{v:Int}(h:lM s=some v):s=mE v/\ -2048<=v/\v<=2047:=by
 unfold lM at h;cases hf:(apO 4096).find? fun(n:Nat)=>mE ((n:Int)-2048)==s with
 |none=>rw[hf]at h;simp at h
 | some k=>
   rw[hf]at h;have h1:=apP hf;have h2:=apN hf;simp at h h1 h2;subst h;exact⟨h1.symm,by omega,by omega⟩
theorem WH{n:Int}(h1: -2048<=n)(h2:n<=2047):lM (mE n)=some n:=by
 cases hn:lM (mE n)with
 | none=>
   unfold lM at hn;simp only[Option.map_eq_none_iff,List.find?_eq_none,List.mem_range,beq_iff_eq]at hn;have:=hn (n+2048).toNat (by omega);rw[show(((n+2048).toNat:Nat):Int)-2048=n by omega]at this;exact absurd rfl this
 | some v=>
   obtain⟨e,b1,b2⟩:=yI hn;have:=congrArg wX e;rw[ZV h1 h2,ZV b1 b2]at this;rw[this]
theorem af3{x:Tx}(h:aC x=true):Cl x/\x.length<=32:=by
 cases x with
 |nil=>simp[aC]at h
 | cons c r=>
   simp only[aC,anS,decide_eq_true_eq,List.all_eq_true]at h;obtain⟨⟨h1,h2⟩,h3⟩:=h
   have key: ∀y:UInt8,cP y=true->aq y=false/\y≠44/\y≠58:=by
    intro y hy;unfold cP cg aD at hy;simp only[Bool.or_eq_true,anS,decide_eq_true_eq,beq_iff_eq,UInt8.le_iff_toNat_le]at hy;unfold aq;refine⟨?_,?_,?_⟩
    ·simp only[Bool.or_eq_false_iff,beq_eq_false_iff_ne]
     refine⟨⟨⟨?_,?_⟩,?_⟩,?_⟩<;>rintro rfl<;>revert hy<;>decide
    ·rintro rfl;revert hy;decide
    rintro rfl;revert hy;decide
   refine⟨⟨by simp,fun y hy=>?_⟩,by simp;omega⟩;rcases anE.1 hy with rfl|hy
   ·exact key y (by unfold cP;rw[h2];rfl)
   exact key y (h3 y hy)
theorem pJ(h:k<32):dy (k:Int)=true:=by unfold dy;simp;omega
theorem ae8{x y:Tx}(hy:y≠[]):(x++y).getLast?=y.getLast?:=by
 rw[List.getLast?_append,aol hy];rfl
theorem Bf(h:n<10000):aoc n=lD n:=by
 have step: ∀n,¬n<10->aoc n=aoc (n/10)++[lE n]:=fun n hn=>by rw[aoc,dif_neg hn];rfl
 have one: ∀n,n<10->aoc n=[lE n]:=fun n hn=>by rw[aoc,dif_pos hn];unfold lE;rw[Nat.mod_eq_of_lt hn]
 unfold lD;split
 ·rename_i h1;exact one n h1
 rename_i h1
 split
 ·rename_i h2;rw[step n h1,one _ (by omega)];rfl
 rename_i h2
 split
 ·rename_i h3;rw[step n h1,step _ (by omega),one _ (by omega),apM];rfl
 rename_i h3;rw[step n h1,step _ (by omega),step _ (by omega),one _ (by omega),apM n 10 10,apM];rfl
theorem Vr{n:Int}(h1: -10000<n)(h2:n<10000):Lib.itoa n=mE n:=by
 unfold Lib.itoa mE;split
 ·rw[Bf (by omega)]
 rw[Bf (by omega)]
theorem ado(l:Tx)(c:UInt8):Lib.hasSuffix l [c]=(l.getLast?==some c):=by
 unfold Lib.hasSuffix;rw[Bool.eq_iff_iff];simp only[List.isSuffixOf_iff_suffix,beq_iff_eq]
 constructor
 ·rintro⟨t,rfl⟩;simp
 intro h
 have hne:l≠[]:=by intro e;subst e;simp at h
 refine⟨l.dropLast,?_⟩;rw[aol hne]at h;simp at h;rw[<-h];exact List.dropLast_concat_getLast hne
theorem Ge(c:UInt8): ∀l:Tx,c∉l->apt l c= -1
 |[],_=>rfl
 | b::l,h=>by
   simp only[anE,not_or]at h;unfold apt;rw[Ge c l h.2,if_neg (by simpa using Ne.symm h.1)];rfl
theorem LR(c:UInt8): ∀l:Tx,c∈l->apt l c=(l.takeWhile (· != c)).length/\(l.takeWhile (· != c)).length<l.length
 |[],h=>by simp at h
 | b::l,h=>by
   unfold apt
   by_cases hb:b=c
   ·subst hb;simp
   have hm:c∈l:=by rcases anE.1 h with e|e;exact absurd e.symm hb;exact e
   obtain⟨h1,h2⟩:=LR c l hm;rw[h1,if_neg (by simpa using hb),if_neg (by simp),List.takeWhile_cons,if_pos (by simpa using hb)];simp;exact h2
theorem U2{b c:UInt8}(l:Tx)(h:b≠c):apI (b::l) [c]=if apI l [c]== -1 then -1 else apI l [c]+1:=by
 have hp:([c]:Tx).isPrefixOf (b::l)=false:=by simp[apQ,Ne.symm h]
 rw[apI,hp];simp
theorem Of(c:UInt8): ∀l:Tx,Lib.splitK [c] 0 (Lib.count l [c]) l=aH c l
 |[]=>by rw[Lib.count_miss (by simp[apI])];rfl
 | b::l=>by
   have ih:=Of c l;unfold aH
   by_cases hb:b=c
   ·subst hb
    have rF:apI (b::l) [b]=((0:Nat):Int):=by rw[apI];simp[apQ]
    rw[Lib.count_cons_eq,Nat.add_comm,Lib.splitK,rF,if_neg (by simp),if_pos (by simp)];simp[ih]
   rw[Lib.count_cons_ne b c l hb,if_neg (by simpa using hb),<-ih]
   by_cases hm:apI l [c]= -1
   ·rw[Lib.count_miss hm];rfl
   have hge:=Lib.index_ge l [c]
   obtain⟨j,hj⟩: ∃j:Nat,apI l [c]=j:=⟨(apI l [c]).toNat,by omega⟩;rw[Lib.count_hit (by simp) hj,Nat.add_comm,Lib.splitK,Lib.splitK,U2 l hb,hj];rw[if_neg (show ¬(((j:Nat):Int)== -1)=true by simp),if_neg (show ¬(((j:Nat):Int)+1== -1)=true by simp;omega),if_neg (show ¬(((j:Nat):Int)== -1)=true by simp)];simp[show((j:Int)+1).toNat=j+1 by omega]
theorem mW(c:UInt8): ∀l:Tx,aH c l≠[]
 |[]=>by simp[aH]
 | b::l=>by
   unfold aH;split
   ·simp
   split<;>simp
theorem wQ(c:UInt8): ∀(l:Tx),∀x∈aH c l,x.length<=l.length
 |[],x,h=>by simp[aH]at h;subst h;simp
 | b::l,x,h=>by
   have ih:=wQ c l;unfold aH at h
   split at h
   ·rcases anE.1 h with rfl|h
    ·simp
    have:=ih x h;simp;omega
   split at h
   ·simp at h;subst h;simp
   rename_i y t hy
   rcases anE.1 h with rfl|h
   ·have:=ih y (by rw[hy];simp);simp;omega
   have:=ih x (by rw[hy];simp[h]);simp;omega
theorem qG(c:UInt8): ∀l:Tx,(aH c l).length<=l.length+1
 |[]=>by simp[aH]
 | b::l=>by
   have ih:=qG c l;unfold aH;split
   ·simp;omega
   split
   ·simp
   rename_i x t h;rw[h]at ih;simp at ih ⊢; omega
def uM:List Tx:=[[69,65,88],[69,66,88],[69,67,88],[69,68,88],[69,83,73],[69,68,73],[69,66,80],[82,56,68],[82,57,68],[82,49,48,68],[82,49,49,68],[82,49,50,68],[82,49,51,68],[82,49,52,68],[82,49,53,68]]
def cI(n:Nat):Tx:=uM.getD n []
def fB(n:Int):Bool:=decide (0<=n)&&decide (n<15)
def bO(n:Int):Bool:=decide (-2147483648<=n)&&decide (n<=2147483647)
def zM(i:ay):ay:=
 if i.op=1 then⟨1,0,0,0,i.ag,i.loc,[],0⟩
 else if i.op=2 then⟨2,0,i.a,0,0,i.loc,[],0⟩
 else if i.op=3 then⟨3,i.d,0,0,0,i.loc,[],0⟩
 else if i.op=4 then⟨4,i.d,0,0,i.ag,[],[],0⟩
 else⟨i.op,0,0,0,0,[],[],0⟩
def eD(i:ay):Bool:=
 if i.op=1 then aC i.loc&&bO i.ag
 else if i.op=2 then aC i.loc&&fB i.a
 else if i.op=3 then aC i.loc&&fB i.d
 else if i.op=4 then fB i.d&&bO i.ag
 else decide (i.op=5)
def iF(i:ay):Bool:=eD i&&decide (i=zM i)
def dP(i:ay):Int:=if iF i then 0 else 91
theorem aj4(h:k<15):fB (k:Int)=true:=by unfold fB;simp;omega
theorem Yy: ∀n:Fin 15,(cI n.val).length<=4/\cI n.val≠[]:=by decide+kernel
theorem SJ{i:ay}(h:iF i=false):dP i=91:=by unfold dP;rw[h];rfl
theorem acE{i:ay}(h:iF i=true):dP i=0:=by unfold dP;rw[h];rfl
end Go.Proofs.YtkbbgjloifmmbaaGreatDoor

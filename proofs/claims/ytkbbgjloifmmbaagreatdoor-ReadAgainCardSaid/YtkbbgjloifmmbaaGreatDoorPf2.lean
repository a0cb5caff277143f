/- What ReadAgainP leans on, part 2. -/
import Derived.Test.YtkbbgjloifmmbaaGreatDoorPf0
import Derived.Lib.SlTrimSet
import Derived.Lib.ItoaNum
import Derived.Lib.SplitLaws
import Derived.Lib.Strings
import Derived.Lib.ItoaMem
import Derived.Lib.ItoaLen
set_option linter.unusedVariables false
open _root_.Go.Lib renaming index->aBJ,decDigits->aA8,indexByte->aBy,itoa->aA9
open _root_.List renaming range->aBM,isPrefixOf->aBN
namespace Go.Proofs.YtkbbgjloifmmbaaGreatDoor
variable{k n:Nat}{c:UInt8}
abbrev Tx:=List UInt8
def aH(c:UInt8):Bool:=c==32||c==9||c==10||c==13
def aG(l:Tx):Tx:=Lib.trimS l [32,9,10,13]
def mL(n:Nat):UInt8:=UInt8.ofNat (48+n%10)
def gf(n:Nat):Tx:=if n<10 then[mL n]else if n<100 then[mL (n/10),mL n]else if n<1000 then[mL (n/100),mL (n/10),mL n]else[mL (n/1000),mL (n/100),mL (n/10),mL n]
def jI(n:Int):Tx:=if n<0 then 45::gf n.natAbs else gf n.toNat
def cZ(n:Nat):Tx:=120::gf n
def bR(s:Tx):Option Nat:=(aBM 32).find? fun n=>cZ n==s
def bh(c:UInt8):Tx->List Tx
 |[]=>[[]]
 | b::r=>if b==c then[]::bh c r else match bh c r with
   |[]=>[[b]]
   |x::t=>(b::x)::t
def cL(c:UInt8):Bool:=(97<=c&&c<=122)||(65<=c&&c<=90)
def bf(c:UInt8):Bool:=48<=c&&c<=57
def dO(c:UInt8):Bool:=cL c||bf c||c==95
def aU:Tx->Bool
 |[]=>false
 |c::r=>decide (r.length<32)&&cL c&&r.all dO
structure aL where
 op:Int
 d:Int
 a:Int
 b:Int
 ax:Int
 aj:Tx
 av:Tx
 az:Int
 deriving DecidableEq
def Di:aL:=⟨0,0,0,0,0,[],[],0⟩
def rH(i:aL):aL:=
 if i.op=6 then⟨6,i.d,i.a,0,0,[],[],0⟩
 else if i.op=7 then⟨7,0,i.a,i.b,0,[],[],0⟩
 else if i.op=8 then⟨8,i.d,i.a,0,i.ax,[],[],0⟩
 else if i.op=9 then⟨9,i.d,i.a,i.b,0,[],[],0⟩
 else if i.op=10 then⟨10,i.d,i.a,i.b,0,[],[],0⟩
 else if i.op=11 then⟨11,0,i.a,i.b,0,[],i.av,0⟩
 else if i.op=12 then⟨12,0,0,0,0,[],i.av,0⟩
 else if i.op=13 then⟨13,0,0,0,0,[],[],i.az⟩
 else⟨i.op,0,0,0,0,[],[],0⟩
def gm(i:aL):Bool:=
 if i.op=8 then decide (-2048<=i.ax)&&decide (i.ax<=2047)
 else if i.op=11\/i.op=12 then aU i.av
 else if i.op=13 then decide (2<=i.az)&&decide (i.az<=11)
 else decide (6<=i.op)&&decide (i.op<=13)
def ek(n:Int):Bool:=decide (0<=n)&&decide (n<=31)
def cD(i:aL):Bool:=gm i&&decide (i=rH i)&&ek i.d&&ek i.a&&ek i.b
def iX(i:aL):Int:=if cD i then 0 else 91
def rT(n:Int):Tx:=cZ n.toNat
def iY(n:Int):Tx:=if n=0 then[114]else if n=1 then[119]else[114,119]
def fH(i:aL):Tx:=
 if i.op=6 then[108,119,32]++rT i.d++[44,48,40]++rT i.a++[41]
 else if i.op=7 then[115,119,32]++rT i.b++[44,48,40]++rT i.a++[41]
 else if i.op=8 then[111,114,105,32]++rT i.d++[44]++rT i.a++[44]++jI i.ax
 else if i.op=9 then[120,111,114,32]++rT i.d++[44]++rT i.a++[44]++rT i.b
 else if i.op=10 then[97,100,100,32]++rT i.d++[44]++rT i.a++[44]++rT i.b
 else if i.op=11 then[98,110,101,32]++rT i.a++[44]++rT i.b++[44]++i.av
 else if i.op=12 then i.av++[58]
 else if i.az=2 then[102,101,110,99,101,46,116,115,111]
 else[102,101,110,99,101,32]++iY ((i.az-3)/3)++[44]++iY ((i.az-3)%3)
def fK(s:Tx):Option Nat:=
 let t:=aG s
 if t.contains 40&&t.getLast?==some 41&&aG (t.takeWhile (· != 40))==[48]then bR (aG ((t.dropWhile (· != 40)).drop 1).dropLast)else none
def nT(s:Tx):Option Int:=((aBM 4096).find? fun(n:Nat)=>jI ((n:Int)-2048)==s).map fun(n:Nat)=>(n:Int)-2048
def nP(s:Tx):Option Int:=if s=[114]then some 0 else if s=[119]then some 1 else if s=[114,119]then some 2 else none
def fq(op:Tx)(l:List Tx):Option aL:=
 if op=[108,119]then match l with
  | [x,y]=>match bR x,fK y with
    |some d,some a=>some ⟨6,d,a,0,0,[],[],0⟩
    |_,_=>none
  |_=>none
 else if op=[115,119]then match l with
  | [x,y]=>match bR x,fK y with
    |some d,some a=>some ⟨7,0,a,d,0,[],[],0⟩
    |_,_=>none
  |_=>none
 else if op=[102,101,110,99,101]then match l with
  | [x,y]=>match nP x,nP y with
    |some k,some j=>some ⟨13,0,0,0,0,[],[],3+3*k+j⟩
    |_,_=>none
  |_=>none
 else match l with
  | [x,y,z]=>match bR x,bR y with
    | some a,some b=>
      if op=[98,110,101]then(if aU z then some ⟨11,0,a,b,0,[],z,0⟩else none)
      else if op=[111,114,105]then(match nT z with
       |some n=>some ⟨8,a,b,0,n,[],[],0⟩
       |none=>none)
      else match bR z with
       |some c=>if op=[120,111,114]then some ⟨9,a,b,c,0,[],[],0⟩else if op=[97,100,100]then some ⟨10,a,b,c,0,[],[],0⟩else none
       |none=>none
    |_,_=>none
  |_=>none
def eN(s:Tx):Option aL:=
 if 262144<s.length then none
 else
  let t:=aG s
  if t=[102,101,110,99,101,46,116,115,111]then some ⟨13,0,0,0,0,[],[],2⟩
  else if t.getLast?=some 58 then(if aU (aG t.dropLast)then some ⟨12,0,0,0,0,[],aG t.dropLast,0⟩else none)
  else fq (t.takeWhile fun c=> !aH c) ((bh 44 (t.dropWhile fun c=> !aH c)).map aG)
theorem aaW(c:UInt8):([32,9,10,13]:Tx).contains c=aH c:=by
 unfold aH;simp[List.contains,List.elem,Bool.or_assoc];cases h1:c==32<;>cases h2:c==9<;>cases h3:c==10<;>cases h4:c==13<;>simp_all
theorem ayL(l:Tx):Lib.trimLeftS l [32,9,10,13]=l.dropWhile aH:=by
 unfold Lib.trimLeftS;congr 1;funext c;exact aaW c
theorem ayN(l:Tx):Lib.trimRightS l [32,9,10,13]=(l.reverse.dropWhile aH).reverse:=by
 unfold Lib.trimRightS;congr 2;funext c;exact aaW c
theorem zw(l:Tx):aG l=((l.reverse.dropWhile aH).reverse).dropWhile aH:=by
 unfold aG Lib.trimS;rw[ayN,ayL]
theorem Fl{α:Type}{p:α->Bool}: ∀{l:List α},(∀c,l.head?=some c->p c=false)->l.dropWhile p=l
 |[],_=>rfl
 |c::r,h=>by rw[k7];rw[ai (by rw[h c rfl];simp)]
theorem lQ{α:Type}{p:α->Bool}: ∀{l:List α} {c:α},(l.dropWhile p).head?=some c->p c=false
 |[],c,h=>by simp at h
 | b::r,c,h=>by
   rw[k7]at h
   by_cases hb:p b=true
   ·rw[ak hb]at h;exact lQ h
   rw[ai hb]at h;simp at h;subst h;simpa using hb
theorem Lu{l:Tx}(h1: ∀c,l.head?=some c->aH c=false)(h2: ∀c,l.getLast?=some c->aH c=false):aG l=l:=by
 rw[zw,Fl (l:=l.reverse) (by intro c hc;rw[I9]at hc;exact h2 c hc),BQ,Fl h1]
theorem ayO(l:Tx)(b:UInt8)(hb:aH b=true)(h0:l≠[])(h1: ∀c,l.head?=some c->aH c=false)(h2: ∀c,l.getLast?=some c->aH c=false):aG (b::l)=l:=by
 rw[zw,Fl (l:=(b::l).reverse),BQ,k7,ak hb,Fl h1];intro c hc;rw[I9,Ez]at hc;obtain⟨x,hx⟩: ∃x,l.getLast?=some x:=⟨l.getLast h0,pz h0⟩;rw[hx]at hc;simp at hc;subst hc;exact h2 x hx
theorem DI(c:UInt8): ∀(l:Tx),c∉l->bh c l=[l]
 |[],_=>rfl
 | b::r,h=>by
   simp only[cq,tf]at h;unfold bh;rw[DI c r h.2,ai (by simpa using wu h.1)]
theorem y7(c:UInt8): ∀(l r:Tx),c∉l->bh c (l++c::r)=l::bh c r
 |[],r,_=>by simp[bh]
 | b::l,r,h=>by
   simp only[cq,tf]at h;rw[cY]
   conv=>lhs;unfold bh
   rw[y7 c l r h.2,ai (by simpa using wu h.1)]
theorem awD: ∀n:Fin 32,bR (cZ n.val)=some n.val:=by decide+kernel
theorem sI(h:n<32):bR (cZ n)=some n:=awD ⟨n,h⟩
theorem Qs{s:Tx}(h:bR s=some n):n<32/\s=cZ n:=by
 unfold bR at h;have h1:=M9 h;have h2:=MN h;simp at h1 h2;exact⟨h2,h1.symm⟩
def Cl(x:Tx):Prop:=x≠[]/\ ∀c∈x,aH c=false/\c≠44/\c≠58
instance (x:Tx):Decidable (Cl x):=by unfold Cl;infer_instance
theorem Cl.head{x:Tx}(h:Cl x): ∀c,x.head?=some c->aH c=false:=fun c hc=>(h.2 c (Ja hc)).1
theorem Cl.last{x:Tx}(h:Cl x): ∀c,x.getLast?=some c->aH c=false:=fun c hc=>(h.2 c (ym hc)).1
theorem Cl.comma{x:Tx}(h:Cl x):(44:UInt8)∉x:=fun hm=>(h.2 _ hm).2.1 rfl
theorem Cl.trim{x:Tx}(h:Cl x):aG x=x:=Lu h.head h.last
theorem Cl.ajT{x:Tx}(h:Cl x):aG (32::x)=x:=ayO x 32 (by decide) h.1 h.head h.last
theorem Cl.app{x y:Tx}(h:Cl x)(h':Cl y):Cl (x++y):=⟨by simp[h.1],fun c hc=>by rcases fc.1 hc with h1|h1;exact h.2 c h1;exact h'.2 c h1⟩
theorem al6: ∀n:Fin 32,Cl (cZ n.val):=by decide+kernel
theorem tK(h:n<32):Cl (cZ n):=al6 ⟨n,h⟩
theorem akU: ∀n:Fin 32,fK ([48,40]++cZ n.val++[41])=some n.val:=by decide+kernel
theorem aam(h:n<32):fK ([48,40]++cZ n++[41])=some n:=akU ⟨n,h⟩
def ie:Nat->Tx->Nat
 |a,[]=>a
 |a,c::r=>ie (10*a+(c.toNat-48)) r
def DU:Tx->Int
 |[]=>0
 |c::r=>if c=45 then -(ie 0 r:Int)else ie 0 (c::r)
theorem azg: ∀a:Fin 64,∀b:Fin 64,DU (jI ((64*a.val+b.val:Nat)-2048))=(64*a.val+b.val:Nat)-2048:=by decide+kernel
theorem aj5{n:Int}(h1: -2048<=n)(h2:n<=2047):DU (jI n)=n:=by
 have:=azg ⟨(n+2048).toNat/64,by omega⟩ ⟨(n+2048).toNat%64,by omega⟩;simp only at this
 rwa[show((64*((n+2048).toNat/64)+(n+2048).toNat%64:Nat):Int)-2048=n by omega]at this
theorem al5: ∀a:Fin 64,∀b:Fin 64,Cl (jI ((64*a.val+b.val:Nat)-2048)):=by decide+kernel
theorem al4{n:Int}(h1: -2048<=n)(h2:n<=2047):Cl (jI n):=by
 have:=al5 ⟨(n+2048).toNat/64,by omega⟩ ⟨(n+2048).toNat%64,by omega⟩;simp only at this
 rwa[show((64*((n+2048).toNat/64)+(n+2048).toNat%64:Nat):Int)-2048=n by omega]at this
theorem GA{s:Tx}{v:Int}(h:nT s=some v):s=jI v/\ -2048<=v/\v<=2047:=by
 unfold nT at h;cases hf:(aBM 4096).find? fun(n:Nat)=>jI ((n:Int)-2048)==s with
 |none=>rw[hf]at h;simp at h
 | some k=>
   rw[hf]at h;have h1:=M9 hf;have h2:=MN hf;simp at h h1 h2;subst h;exact⟨h1.symm,by omega,by omega⟩
theorem XO{n:Int}(h1: -2048<=n)(h2:n<=2047):nT (jI n)=some n:=by
 cases hn:nT (jI n)with
 | none=>
   unfold nT at hn;simp only[Option.map_eq_none_iff,I7,Cg,pW]at hn;have:=hn (n+2048).toNat (by omega);rw[show(((n+2048).toNat:Nat):Int)-2048=n by omega]at this;exact absurd rfl this
 | some v=>
   obtain⟨e,b1,b2⟩:=GA hn;have:=congrArg DU e;rw[aj5 h1 h2,aj5 b1 b2]at this;rw[this]
theorem pM{x:Tx}(h:aU x=true):Cl x/\x.length<=32:=by
 cases x with
 |nil=>simp[aU]at h
 | cons c r=>
   simp only[aU,bV,dw,fP]at h;obtain⟨⟨h1,h2⟩,h3⟩:=h
   have key: ∀y:UInt8,dO y=true->aH y=false/\y≠44/\y≠58:=by
    intro y hy;unfold dO cL bf at hy;simp only[uD,bV,dw,pW,Ai]at hy;unfold aH;refine⟨?_,?_,?_⟩
    ·simp only[SZ,Ah]
     refine⟨⟨⟨?_,?_⟩,?_⟩,?_⟩<;>rintro rfl<;>revert hy<;>decide
    ·rintro rfl;revert hy;decide
    rintro rfl;revert hy;decide
   refine⟨⟨by simp,fun y hy=>?_⟩,by simp;omega⟩;rcases cq.1 hy with rfl|hy
   ·exact key y (by unfold dO;rw[h2];rfl)
   exact key y (h3 y hy)
theorem Le{n:Int}(h:ek n=true): ∃k:Nat,k<32/\n=k:=by
 unfold ek at h;simp at h;exact⟨n.toNat,by omega,by omega⟩
theorem Bb(h:k<32):ek (k:Int)=true:=by unfold ek;simp;omega
theorem ahS(O body:Tx)(hO:O≠[]/\ ∀c∈O,aH c=false)(hb:body≠[])(hl: ∀c,body.getLast?=some c->aH c=false/\c≠58)(hlen:O.length+body.length<=1000)(hf:O++32::body≠[102,101,110,99,101,46,116,115,111]):
 eN (O++32::body)=fq O ((bh 44 (32::body)).map aG):=by
 obtain⟨o,O',rfl⟩: ∃o O',O=o::O':=by cases O with
  |nil=>exact absurd rfl hO.1
  |cons o O'=>exact⟨o,O',rfl⟩
 have ho:aH o=false:=hO.2 o (by simp);obtain⟨z,hz⟩: ∃z,body.getLast?=some z:=⟨body.getLast hb,pz hb⟩
 have FT:((o::O')++32::body).getLast?=some z:=by
  rw[Ew,Ez,hz];rfl
 have ht:aG ((o::O')++32::body)=(o::O')++32::body:=by
  refine Lu (fun c hc=>?_) (fun c hc=>?_)
  ·simp at hc;subst hc;exact ho
  rw[FT]at hc;cases hc;exact(hl z hz).1
 unfold eN;rw[ai (by simp at hlen ⊢; omega)];simp only[ht];rw[ai hf,ai (by rw[FT];simpa using(hl z hz).2)]
 have AO:((o::O')++32::body).takeWhile (fun c=> !aH c)=o::O':=by
  rw[EU (by intro c hc;rw[hO.2 c hc];rfl)];simp[show aH 32=true by decide]
 have hdw:((o::O')++32::body).dropWhile (fun c=> !aH c)=32::body:=by
  rw[pX (by intro c hc;rw[hO.2 c hc];rfl)];simp[show aH 32=true by decide]
 rw[AO,hdw]
theorem axA{x y:Tx}(hx:Cl x)(hy:(44:UInt8)∉y):(bh 44 (32::(x++44::y))).map aG=[x,aG y]:=by
 rw[show(32::(x++44::y):Tx)=(32::x)++44::y from rfl,y7 44 (32::x) y (by simp[hx.comma]),DI 44 y hy];simp[hx.ajT]
theorem axB{x y z:Tx}(hx:Cl x)(hy:Cl y)(hz:Cl z):(bh 44 (32::(x++44::(y++44::z)))).map aG=[x,y,z]:=by
 rw[show(32::(x++44::(y++44::z)):Tx)=(32::x)++44::(y++44::z)from rfl,y7 44 (32::x) _ (by simp[hx.comma]),y7 44 y z hy.comma,DI 44 z hz.comma];simp[hx.ajT,hy.trim,hz.trim]
theorem Pp{x y:Tx}(hy:y≠[]):(x++y).getLast?=y.getLast?:=by
 rw[Ew,pz hy];rfl
theorem pO(h:n<32):(cZ n).length<=5:=by unfold cZ gf;split<;>(try split)<;>(try split)<;>simp
theorem UA(n:Int):(jI n).length<=5:=by unfold jI gf;split<;>split<;>(try split)<;>(try split)<;>simp
theorem Cl.aqP{x:Tx}(h:Cl x)(hc:x.getLast?=some c):aH c=false/\c≠58:=⟨h.last c hc,(h.2 c (ym hc)).2.2⟩
theorem P5(O x y z:Tx)(hO:O≠[]/\ ∀c∈O,aH c=false)(hx:Cl x)(hy:Cl y)(hz:Cl z)(hlen:O.length+x.length+y.length+z.length<=900)(hf: ∀t,O++32::t≠[102,101,110,99,101,46,116,115,111]):
 eN (O++32::(x++44::(y++44::z)))=fq O [x,y,z]:=by
 rw[ahS O _ hO (by simp) (by
  intro c hc;rw[Pp (by simp),Ez,Pp (by simp),Ez]at hc;rw[show((z.getLast?.getD 44)=(some ((z.getLast?.getD 44))).getD 44)from rfl]at hc;obtain⟨w,hw⟩: ∃w,z.getLast?=some w:=⟨z.getLast hz.1,pz hz.1⟩;simp[hw]at hc;subst hc;exact hz.aqP hw) (by simp;omega) (hf _),axB hx hy hz]
theorem JF(h:n<10000):aA8 n=gf n:=by
 have step: ∀n,¬n<10->aA8 n=aA8 (n/10)++[mL n]:=fun n hn=>by rw[aA8,ET hn];rfl
 have one: ∀n,n<10->aA8 n=[mL n]:=fun n hn=>by rw[aA8,yg hn];unfold mL;rw[Tm hn]
 unfold gf;split
 ·rename_i h1;exact one n h1
 rename_i h1
 split
 ·rename_i h2;rw[step n h1,one _ (by omega)];rfl
 rename_i h2
 split
 ·rename_i h3;rw[step n h1,step _ (by omega),one _ (by omega),SL];rfl
 rename_i h3;rw[step n h1,step _ (by omega),step _ (by omega),one _ (by omega),SL n 10 10,SL];rfl
theorem Po{n:Int}(h1: -10000<n)(h2:n<10000):aA9 n=jI n:=by
 unfold aA9 jI;split
 ·rw[JF (by omega)]
 rw[JF (by omega)]
theorem aoJ(l:Tx)(c:UInt8):Lib.hasSuffix l [c]=(l.getLast?==some c):=by
 unfold Lib.hasSuffix;rw[jE];simp only[List.isSuffixOf_iff_suffix,pW];constructor
 ·rintro⟨t,rfl⟩;simp
 intro h
 have aN:l≠[]:=by intro e;subst e;simp at h
 refine⟨l.dropLast,?_⟩;rw[pz aN]at h;simp at h;rw[<-h];exact MK aN
theorem Pj(c:UInt8): ∀l:Tx,c∉l->aBy l c= -1
 |[],_=>rfl
 | b::l,h=>by
   simp only[cq,tf]at h;unfold aBy;rw[Pj c l h.2,ai (by simpa using wu h.1)];rfl
theorem WC(c:UInt8): ∀l:Tx,c∈l->aBy l c=(l.takeWhile (· != c)).length/\(l.takeWhile (· != c)).length<l.length
 |[],h=>by simp at h
 | b::l,h=>by
   unfold aBy
   by_cases hb:b=c
   ·subst hb;simp
   have hm:c∈l:=by rcases cq.1 h with e|e;exact absurd e.symm hb;exact e
   obtain⟨h1,h2⟩:=WC c l hm;rw[h1,ai (by simpa using hb),ai (by simp),mU,ak (by simpa using hb)];simp;exact h2
theorem afH{b:UInt8}(l:Tx)(h:b≠c):aBJ (b::l) [c]=if aBJ l [c]== -1 then -1 else aBJ l [c]+1:=by
 have hp:([c]:Tx).isPrefixOf (b::l)=false:=by simp[aBN,wu h]
 rw[aBJ,hp];simp
theorem YL(c:UInt8): ∀l:Tx,Lib.splitK [c] 0 (Lib.count l [c]) l=bh c l
 |[]=>by rw[Lib.count_miss (by simp[aBJ])];rfl
 | b::l=>by
   have ih:=YL c l;unfold bh
   by_cases hb:b=c
   ·subst hb
    have yH:aBJ (b::l) [b]=((0:Nat):Int):=by rw[aBJ];simp[aBN]
    rw[Lib.count_cons_eq,Ck,Lib.splitK,yH,ai (by simp),ak (by simp)];simp[ih]
   rw[Lib.count_cons_ne b c l hb,ai (by simpa using hb),<-ih]
   by_cases hm:aBJ l [c]= -1
   ·rw[Lib.count_miss hm];rfl
   have hge:=Lib.index_ge l [c]
   obtain⟨j,hj⟩: ∃j:Nat,aBJ l [c]=j:=⟨(aBJ l [c]).toNat,by omega⟩;rw[Lib.count_hit (by simp) hj,Ck,Lib.splitK,Lib.splitK,afH l hb,hj];rw[ai (show ¬(((j:Nat):Int)== -1)=true by simp),ai (show ¬(((j:Nat):Int)+1== -1)=true by simp;omega),ai (show ¬(((j:Nat):Int)== -1)=true by simp)];simp[show((j:Int)+1).toNat=j+1 by omega]
theorem uc(c:UInt8): ∀l:Tx,bh c l≠[]
 |[]=>by simp[bh]
 | b::l=>by
   unfold bh;split
   ·simp
   split<;>simp
theorem He(c:UInt8): ∀(l:Tx),∀x∈bh c l,x.length<=l.length
 |[],x,h=>by simp[bh]at h;subst h;simp
 | b::l,x,h=>by
   have ih:=He c l;unfold bh at h
   split at h
   ·rcases cq.1 h with rfl|h
    ·simp
    have:=ih x h;simp;omega
   split at h
   ·simp at h;subst h;simp
   rename_i y t hy
   rcases cq.1 h with rfl|h
   ·have:=ih y (by rw[hy];simp);simp;omega
   have:=ih x (by rw[hy];simp[h]);simp;omega
theorem vE(c:UInt8): ∀l:Tx,(bh c l).length<=l.length+1
 |[]=>by simp[bh]
 | b::l=>by
   have ih:=vE c l;unfold bh;split
   ·simp;omega
   split
   ·simp
   rename_i x t h;rw[h]at ih;simp at ih ⊢; omega
def yT:List Tx:=[[69,65,88],[69,66,88],[69,67,88],[69,68,88],[69,83,73],[69,68,73],[69,66,80],[82,56,68],[82,57,68],[82,49,48,68],[82,49,49,68],[82,49,50,68],[82,49,51,68],[82,49,52,68],[82,49,53,68]]
def cg(n:Nat):Tx:=yT.getD n []
def rX(n:Int):Tx:=cg n.toNat
def gu(n:Int):Bool:=decide (0<=n)&&decide (n<15)
def bJ(n:Int):Bool:=decide (-2147483648<=n)&&decide (n<=2147483647)
def zG(i:aL):aL:=
 if i.op=1 then⟨1,0,0,0,i.ax,i.aj,[],0⟩
 else if i.op=2 then⟨2,0,i.a,0,0,i.aj,[],0⟩
 else if i.op=3 then⟨3,i.d,0,0,0,i.aj,[],0⟩
 else if i.op=4 then⟨4,i.d,0,0,i.ax,[],[],0⟩
 else⟨i.op,0,0,0,0,[],[],0⟩
def eM(i:aL):Bool:=
 if i.op=1 then aU i.aj&&bJ i.ax
 else if i.op=2 then aU i.aj&&gu i.a
 else if i.op=3 then aU i.aj&&gu i.d
 else if i.op=4 then gu i.d&&bJ i.ax
 else decide (i.op=5)
def fh(i:aL):Bool:=eM i&&decide (i=zG i)
def fI(i:aL):Int:=if fh i then 0 else 91
def jP(i:aL):Tx:=
 if i.op=1 then[77,79,86,32,91]++i.aj++[93,44,36]++aA9 i.ax
 else if i.op=2 then[77,79,86,32,91]++i.aj++[93,44]++rX i.a
 else if i.op=3 then[77,79,86,32]++rX i.d++[44,91]++i.aj++[93]
 else if i.op=4 then[77,79,86,32]++rX i.d++[44,36]++aA9 i.ax
 else[77,70,69,78,67,69]
theorem xx{n:Int}(h:gu n=true): ∃k:Nat,k<15/\n=k:=by
 unfold gu at h;simp at h;exact⟨n.toNat,by omega,by omega⟩
theorem awH(h:k<15):gu (k:Int)=true:=by unfold gu;simp;omega
theorem Qt: ∀n:Fin 15,(cg n.val).length<=4/\cg n.val≠[]:=by decide+kernel
theorem Bd(h:n<15):(cg n).length<=4:=(Qt ⟨n,h⟩).1
theorem Vg{i:aL}(h:fh i=false):fI i=91:=by unfold fI;rw[h];rfl
theorem aeF{i:aL}(h:fh i=true):fI i=0:=by unfold fI;rw[h];rfl
end Go.Proofs.YtkbbgjloifmmbaaGreatDoor

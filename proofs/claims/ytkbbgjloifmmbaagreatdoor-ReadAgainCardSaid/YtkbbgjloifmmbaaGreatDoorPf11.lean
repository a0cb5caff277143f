/- What ReadAgainP leans on, part 11. -/
import Derived.Test.YtkbbgjloifmmbaaGreatDoorPf10
import Derived.Test.YtkbbgjloifmmbaaGreatDoorPf9
import Derived.Test.YtkbbgjloifmmbaaGreatDoorPf8
import Derived.Lib.FieldsP
import Derived.Lib.SpaceUEq
import Derived.RegionDies
import Derived.Laws.Runes
import Derived.Laws.RangeString
import Derived.Deep.LoopGhost
import Derived.Scope
import Derived.Shelf.Strings.FieldsFuncGrows
set_option linter.unusedVariables false
set_option maxRecDepth 1000000
set_option maxHeartbeats 12800000
open _root_.Go.Proofs.Tryz
open _root_.Go renaming World->aAX,Calls->aA7,Ending->aBp,Value->aAY
open _root_.Go.Lib renaming hasPrefix->aBo,itoa->aA9,atoiAll->aBh,closeSpans->aBr,spansFromP->aBs,atoiAll_bounds->aBu,decDigits->aA8,indexByte->aBy
open _root_.Option renaming some->aBf
open _root_.Go.RowKit renaming Below->aAW
open _root_.Go.Utf8 renaming decode->aBq,valid->aBv
open _root_.UInt8 renaming ofNat->aBt
open _root_.Go.Ending renaming returned->aBw
open _root_.List renaming length->aBd
open _root_.Go.Instr renaming index->aBx
namespace Go.Proofs.YtkbbgjloifmmbaaGreatDoor
variable{ok:Bool}{i:aL}{ag b q v:Int}{L l:List Tok}{one:List Tok->PR Nd}{B N d j k n rb:Nat}{a:Option Addr}{t:Tok}{S fr m r r1 s sign u x0:Tx}{c x:UInt8}{p:UInt8->Bool}{w w1:aAX}
def qw(c:UInt8):Bool:=c==91||c==93||c==44
def gA(c:UInt8):Bool:= !aH c&& !qw c
def gW(u:Tx):List Tx:=if u=[]then[]else[u]
def kY:Tx->Tx->List Tx
 |u,[]=>gW u
 |u,c::r=>if aH c then gW u++kY [] r else if qw c then gW u++[c]::kY [] r else kY (u++[c]) r
def bI(s:Tx):List Tx:=kY [] s
theorem vG(u:Tx):kY u []=gW u:=rfl
theorem ug(u:Tx)(r:Tx)(h:aH c=true):kY u (c::r)=gW u++bI r:=by rw[kY,ak h];rfl
theorem axk(h:qw c=true):aH c=false:=by
 have:=qB (p:=fun c=> !qw c|| !aH c) dD c;rw[h]at this;simpa using this
theorem vH(u:Tx)(r:Tx)(h:qw c=true):kY u (c::r)=gW u++[c]::bI r:=by
 rw[kY,ai (by rw[axk h];decide),ak h];rfl
theorem xH(u:Tx)(r:Tx)(h:gA c=true):kY u (c::r)=kY (u++[c]) r:=by
 unfold gA at h;simp only[bV,BV]at h;rw[kY,ai (by rw[h.1];decide),ai (by rw[h.2];decide)]
theorem zF(c:UInt8):aH c=true\/qw c=true\/gA c=true:=by
 unfold gA;cases aH c<;>cases qw c<;>simp
theorem yD(h:u≠[]):gW u=[u]:=by unfold gW;rw[ai h]
theorem DV: ∀(a u b:Tx) {c:UInt8},qw c=true->kY u (a++c::b)=kY u a++[c]::bI b
 |[],u,b,c,h=>by rw[eE,vH _ _ h,vG]
 | x::a,u,b,c,h=>by
   rw[cY];rcases zF x with k|k|k
   ·rw[ug _ _ k,ug _ _ k,bI,DV a [] b h,dA];rfl
   ·rw[vH _ _ k,vH _ _ k,bI,DV a [] b h,dA];rfl
   rw[xH _ _ k,xH _ _ k,DV a _ b h]
theorem LR: ∀(a u b:Tx),(∀c∈b,aH c=true)->kY u (a++b)=kY u a
 |[],u,[],_=>rfl
 | [],u,c::b,h=>by
   have:=LR [] [] b (fun d hd=>h d (by simp[hd]));rw[eE,ug _ _ (h c aq),vG];rw[eE,vG]at this;rw[bI,this];simp[gW]
 | x::a,u,b,h=>by
   rw[cY];rcases zF x with k|k|k
   ·rw[ug _ _ k,ug _ _ k,bI,LR a [] b h];rfl
   ·rw[vH _ _ k,vH _ _ k,bI,LR a [] b h];rfl
   rw[xH _ _ k,xH _ _ k,LR a _ b h]
theorem akq: ∀l:Tx,bI (l.dropWhile aH)=bI l
 |[]=>rfl
 | c::r=>by
   rw[k7];split
   ·rename_i h;rw[akq r];show _=kY [] (c::r);rw[ug _ _ h];rfl
   rfl
theorem sH(l:Tx): ∃b,l=cR l++b/\ ∀c∈b,aH c=true:=by
 refine⟨(l.reverse.takeWhile aH).reverse,?_,fun c hc=>?_⟩
 ·unfold cR
  rw[<-zY,kH,BQ]
 rw[EI]at hc
 exact fP.1 (wA) c hc
theorem LV(l:Tx):bI (aG l)=bI l:=by
 obtain⟨b,h1,h2⟩:=sH l;rw[rF,akq]
 conv=>rhs;rw[h1]
 exact(LR _ _ _ h2).symm
theorem LQ: ∀(s u:Tx),∀w∈kY u s,∀c∈w,c∈u\/c∈s
 | [],u,w,hw,c,hc=>by
   rw[vG]at hw;unfold gW at hw
   split at hw
   ·cases hw
   rcases kJ.1 hw with rfl;exact .inl hc
 | x::s,u,w,hw,c,hc=>by
   have fl:w∈gW u->c∈u:=fun h=>by
    unfold gW at h;split at h
    ·cases h
    rcases kJ.1 h with rfl;exact hc
   rcases zF x with k|k|k
   ·rw[ug _ _ k]at hw
    rcases fc.1 hw with h|h
    ·exact .inl (fl h)
    rcases LQ s [] w h c hc with h|h
    ·cases h
    exact .inr (by simp[h])
   ·rw[vH _ _ k]at hw
    rcases fc.1 hw with h|h
    ·exact .inl (fl h)
    rcases cq.1 h with rfl|h
    ·exact .inr (by simp at hc;simp[hc])
    rcases LQ s [] w h c hc with h|h
    ·cases h
    exact .inr (by simp[h])
   rw[xH _ _ k]at hw
   rcases LQ s _ w hw c hc with h|h
   ·rcases fc.1 h with h|h
    ·exact .inl h
    exact .inr (by simp at h;simp[h])
   exact .inr (by simp[h])
theorem akp: ∀(r u:Tx),u≠[]->kY u r=(u++r.takeWhile gA)::bI (r.dropWhile gA)
 |[],u,h=>by rw[vG,yD h];simp[bI,vG,gW]
 | c::r,u,h=>by
   have nb:gA c=false->kY u (c::r)=u::bI (c::r):=fun hc=>by
    rcases zF c with k|k|k
    ·rw[ug _ _ k,yD h,show bI (c::r)=bI r from ug [] r k];rfl
    ·rw[vH _ _ k,yD h,show bI (c::r)=[c]::bI r from vH [] r k];rfl
    rw[hc]at k;cases k
   cases hc:gA c with
   |false=>rw[nb hc,mU,k7,hc];simp
   |true=>rw[xH _ _ hc,akp r _ aq,mU,k7,hc];simp
theorem Ht(r:Tx)(h:gA c=true):bI (c::r)=(c::r.takeWhile gA)::bI (r.dropWhile gA):=by
 rw[bI,xH _ _ h,akp _ _ aq];rfl
theorem zJ(r:Tx)(h:qw c=true):bI (c::r)=[c]::bI r:=by rw[bI,vH _ _ h];rfl
theorem Zf(r:Tx)(h:aH c=true):bI (c::r)=bI r:=by rw[bI,ug _ _ h];rfl
theorem Hu(h0:s≠[])(h: ∀c∈s,gA c=true):bI s=[s]:=by
 cases s with
 |nil=>exact absurd rfl h0
 | cons c r=>
   have h1:r.takeWhile gA=r:=(Ho fun d hd=>h d (by simp[hd])).1;have h2:r.dropWhile gA=[]:=(Ho fun d hd=>h d (by simp[hd])).2;rw[Ht r (h c aq),h1,h2];rfl
theorem Zi: ∀{s:Tx},bI s=[]-> ∀c∈s,aH c=true
 |[],_,c,hc=>by cases hc
 | x::s,h,c,hc=>by
   rcases zF x with k|k|k
   ·rw[Zf _ k]at h
    rcases cq.1 hc with rfl|hc
    ·exact k
    exact Zi h c hc
   ·rw[zJ _ k]at h;cases h
   rw[Ht _ k]at h;cases h
def Tr(s:Tx):Prop:=(∀c,s.head?=some c->aH c=false)/\ ∀c,s.getLast?=some c->aH c=false
theorem Tr.trim(l:Tx):Tr (aG l):=⟨YY,ajW⟩
theorem Tr.none(h:Tr s)(hw:bI s=[]):s=[]:=by
 cases s with
 |nil=>rfl
 | cons c r=>
   have:=Zi hw c aq;rw[h.1 c rfl]at this;cases this
theorem Zg{w:Tx}{L:List Tx}(h: ∀c,s.head?=some c->aH c=false)(hw:bI s=w::L): ∃r,s=w++r/\bI r=L/\w≠[]:=by
 cases s with
 |nil=>simp[bI,vG,gW]at hw
 | cons c r=>
   rcases zF c with k|k|k
   ·rw[h c rfl]at k;cases k
   ·rw[zJ _ k,Ac]at hw
    exact⟨r,by rw[<-hw.1];rfl,hw.2,by rw[<-hw.1];simp⟩
   rw[Ht _ k,Ac]at hw
   exact⟨r.dropWhile gA,by rw[<-hw.1,cY,kH],hw.2,by rw[<-hw.1];simp⟩
theorem Gj{a:Tx}(h:r≠[]):(a++r).getLast?=r.getLast?:=Pp h
theorem aaY{a:Tx}(h: ∀c,(a++r).getLast?=some c->aH c=false)(hr: ∀c∈r,aH c=true):r=[]:=by
 cases hn:r with
 |nil=>rfl
 | cons x t=>
   have aN:r≠[]:=by rw[hn];simp
   obtain⟨y,hy⟩: ∃y,r.getLast?=some y:=⟨r.getLast aN,pz aN⟩;have h1:=h y (by rw[Gj aN];exact hy);rw[hr y (ym hy)]at h1;cases h1
theorem Q3{a:Tx}(h:Tr s)(hw:bI s=[a]):s=a:=by
 obtain⟨r,rfl,hr, -⟩:=Zg h.1 hw;rw[aaY h.2 (Zi hr),jD]
theorem Q2: ∀(m u:Tx) {z:UInt8},gA z=true-> ∃L w,kY u (m++[z])=L++[w++[z]]
 |[],u,z,h=>⟨[],u,by rw[eE,xH _ _ h,vG,yD aq];rfl⟩
 | x::m,u,z,h=>by
   rw[cY];rcases zF x with k|k|k
   ·obtain⟨L,w,e⟩:=Q2 m [] h
    exact⟨gW u++L,w,by rw[ug _ _ k,bI,e,dA]⟩
   ·obtain⟨L,w,e⟩:=Q2 m [] h
    exact⟨gW u++[x]::L,w,by rw[vH _ _ k,bI,e];simp⟩
   obtain⟨L,w,e⟩:=Q2 m (u++[x]) h
   exact⟨L,w,by rw[xH _ _ k,e]⟩
def dK(s:Tx):Option Nat:=(List.range 15).find? fun n=>cg n==s
theorem Qr(h:dK s=some n):n<15/\s=cg n:=by
 unfold dK at h;have h1:=M9 h;have h2:=MN h;exact⟨Cg.1 h2,(by simpa using h1:cg n=s).symm⟩
theorem Qq(h:n<15):dK (cg n)=some n:=by
 have k: ∀n:Fin 15,dK (cg n.val)=some n.val:=dD;exact k ⟨n,h⟩
def j7(s:Tx):Option Tx:=if 2<=s.length/\s.head?=some 91/\s.getLast?=some 93/\aU (aG (s.drop 1).dropLast)=true then some (aG (s.drop 1).dropLast)else none
def gX(s:Tx):Option Int:=if s.head?=some 36 then bN (s.drop 1)else none
def PJ:aL:=⟨5,0,0,0,0,[],[],0⟩
def lU(x0 fr:Tx):Option aL:=
 match j7 x0 with
 |some x=>if fr.head?=some 36 then(bN (fr.drop 1)).map fun n=>⟨1,0,0,0,n,x,[],0⟩else(dK fr).map fun a=>⟨2,0,a,0,0,x,[],0⟩
 | none=>match dK x0 with
   |none=>none
   |some d=>if fr.head?=some 36 then(bN (fr.drop 1)).map fun n=>⟨4,d,0,0,n,[],[],0⟩else(j7 fr).map fun x=>⟨3,d,0,0,0,x,[],0⟩
def fG(s:Tx):Option aL:=
 if 262144<s.length then none
 else if aG s=[77,70,69,78,67,69]then some PJ
 else if ¬((aG s).take 3=[77,79,86]/\((aG s).drop 3).head?.any aH=true)then none
 else if(44:UInt8)∈(aG s).drop 3 then lU (aG (((aG s).drop 3).takeWhile (· != 44))) (aG ((((aG s).drop 3).dropWhile (· != 44)).drop 1))
 else none
def gp(a b c:Tx):Option Tx:=if a=[91]/\c=[93]/\aU b=true then some b else none
def eY:List Tx->Option aL
 | [a,b,c,d,e]=>
   if d=[44]then(match gX e with
    |some n=>(gp a b c).map fun x=>⟨1,0,0,0,n,x,[],0⟩
    | none=>match gp a b c,dK e with
      |some x,some r=>some ⟨2,0,r,0,0,x,[],0⟩
      |_,_=>none)
   else if b=[44]then(match dK a,gp c d e with
    |some r,some x=>some ⟨3,r,0,0,0,x,[],0⟩
    |_,_=>none)
   else none
 |[a,b,c]=>if b=[44]then(match dK a,gX c with
  |some r,some n=>some ⟨4,r,0,0,n,[],[],0⟩
  |_,_=>none)else none
 |_=>none
def rQ(s:Tx):Bool:=((s.dropWhile aH).drop 3).head?.any aH
def GF(s:Tx):Option aL:=
 if 262144<s.length then none
 else if bI s=[[77,70,69,78,67,69]]then some PJ
 else if(bI s).length<4\/(bI s).head?≠some [77,79,86]\/rQ s=false then none
 else eY ((bI s).drop 1)
theorem Wz(hp: ∀n:Fin 256,(!p (aBt n.val)||gA (aBt n.val))=true)(h: ∀b∈s,p b=true): ∀b∈s,gA b=true:=fun b hb=>by
 have:=hp ⟨b.toNat,b.toNat_lt⟩;simp only[UInt8.ofNat_toNat,h b hb]at this;simpa using this
theorem agZ(h:aU s=true): ∀b∈s,gA b=true:=Wz (p:=dO) dD (Gw h)
theorem ahj(n:Int): ∀b∈aA9 n,gA b=true:=Wz (p:=xh) dD (yO n)
theorem aiP(h:n<15): ∀b∈cg n,gA b=true:=Wz (p:=pP) dD (aiR h)
theorem aiS(h:Tr s):dK s=match bI s with
 |[a]=>dK a
 |_=>none:=by
 cases hr:dK s with
 | some n=>
   obtain⟨hn,rfl⟩:=Qr hr;rw[Hu (by have:=(Qt ⟨n,hn⟩).2;exact this) (aiP hn)];exact hr.symm
 | none=>
   split
   ·rename_i a e;rw[<-Q3 h e];exact hr.symm
   rfl
theorem aoz(h:Tr s):gX s=match bI s with
 |[a]=>gX a
 |_=>none:=by
 cases hr:gX s with
 | some n=>
   unfold gX at hr
   split at hr
   ·rename_i lO
    cases s with
    |nil=>cases lO
    | cons c r=>
      simp only[ya,qM]at lO;subst lO;obtain⟨e, -⟩:=nt.1 hr;simp only[qR,qP]at e hr;subst e
      rw[Hu aq (fun b hb=>by
       rcases cq.1 hb with rfl|hb
       ·decide
       exact ahj n b hb)]
      show _=gX (36::aA9 n);unfold gX;rw[ak (by rfl)];exact hr.symm
   cases hr
 | none=>
   split
   ·rename_i a e;rw[<-Q3 h e];exact hr.symm
   rfl
theorem agV(h:aU s=true):s≠[]:=fun e=>by subst e;cases h
theorem agR(h:2<=s.length)(h1:s.head?=some 91)(h2:s.getLast?=some 93):s=91::((s.drop 1).dropLast++[93]):=by
 cases s with
 |nil=>cases h1
 | cons c r=>
   simp only[ya,qM]at h1;subst h1;have aN:r≠[]:=by intro e;subst e;simp at h
   obtain⟨X,hX⟩:=vh.1 h2
   have:r.getLast?=some 93:=by
    rw[<-h2];cases r with
    |nil=>exact absurd rfl aN
    |cons a b=>rw[aaA]
   obtain⟨Y,rfl⟩:=vh.1 this;simp
theorem ah8(h:Tr s):j7 s=match bI s with
 |[a,b,c]=>gp a b c
 |_=>none:=by
 cases hr:j7 s with
 | some n=>
   unfold j7 at hr
   split at hr
   ·rename_i hh
    obtain⟨h1,h2,h3,h4⟩:=hh;cases hr;have e:=agR h1 h2 h3;generalize (s.drop 1).dropLast=m at*;subst e
    have e2:bI (91::(m++[93]))=[[91],aG m,[93]]:=by
     rw[zJ _ ay,bI,DV _ _ _ ay];show[91]::(bI m++[93]::bI [])=_;rw[<-LV m,Hu (agV h4) (agZ h4)];rfl
    rw[e2];show _=gp _ _ _;unfold gp;rw[ak ⟨rfl,rfl,h4⟩]
   cases hr
 | none=>
   split
   ·rename_i a b c e
    unfold gp;split
    ·rename_i hh
     obtain⟨rfl,rfl,hb⟩:=hh;obtain⟨r,hs,hr2, -⟩:=Zg h.1 e;have aN:r≠[]:=by intro e;subst e;cases hr2
     obtain⟨z,hz⟩: ∃z,r.getLast?=some z:=⟨r.getLast aN,pz aN⟩;obtain⟨m,rfl⟩:=vh.1 hz;have hzb:aH z=false:=h.2 z (by rw[hs,Gj aN];exact hz)
     have apy:z=93/\bI m=[b]:=by
      rcases zF z with k|k|k
      ·rw[hzb]at k;cases k
      ·rw[bI,DV _ _ _ k]at hr2
       have e3:bI m++[[z]]=[b]++[[93]]:=hr2;have:=EJ e3 rfl;exact⟨by simpa using this.2,this.1⟩
      obtain⟨L,w,e3⟩:=Q2 m [] k
      rw[bI,e3]at hr2;have:=EJ (show L++[w++[z]]=[b]++[[93]]from hr2) rfl;have e4:w++[z]=[]++[93]:=aS this.2;have e5:=(EJ e4 rfl).2;simp only[Ac,and_true]at e5;subst e5;cases k
     obtain⟨rfl,hm⟩:=apy;have ht:aG m=b:=Q3 (Tr.trim m) (by rw[LV];exact hm)
     have hp:j7 s=some b:=by
      unfold j7;have e6:(s.drop 1).dropLast=m:=by rw[hs];simp
      rw[e6,ht,ak ⟨by rw[hs];simp,by rw[hs];rfl,by rw[hs,Gj aq];simp,hb⟩]
     rw[hp]at hr;cases hr
    rfl
   rfl
theorem aoy(h:s.head?=some 36):dK s=none/\j7 s=none:=by
 constructor
 ·cases hr:dK s with
  |none=>rfl
  | some n=>
    obtain⟨hn,rfl⟩:=Qr hr;obtain⟨c,t,e,-, h2⟩:=Yw hn;rw[e]at h;simp at h;exact absurd h h2
 unfold j7;rw[ai];rintro⟨-, h2, -⟩;rw[h]at h2;cases h2
theorem arL(x0 fr:Tx):lU x0 fr=match j7 x0 with
 | some x=>(match gX fr with
   |some n=>some ⟨1,0,0,0,n,x,[],0⟩
   |none=>(dK fr).map fun a=>⟨2,0,a,0,0,x,[],0⟩)
 | none=>match dK x0 with
   |none=>none
   | some d=>match gX fr with
     |some n=>some ⟨4,d,0,0,n,[],[],0⟩
     |none=>(j7 fr).map fun x=>⟨3,d,0,0,0,x,[],0⟩:=by
 unfold lU gX
 by_cases h:fr.head?=some 36
 ·obtain⟨h1,h2⟩:=aoy h
  simp only[h,lG,h1,h2];cases j7 x0<;>cases dK x0<;>cases bN (fr.drop 1)<;>rfl
 simp only[h,kn]
theorem ag4:dK [44]=none:=dD
theorem arM{X Y:Tx}(hX:Tr X)(hY:Tr Y)(rZ:(44:UInt8)∉X):lU X Y=eY (bI X++[44]::bI Y):=by
 rw[arL,ah8 hX,aiS hX,aoz hY,aiS hY,ah8 hY]
 have hn:([44]:Tx)∉bI X:=fun h=>rZ (by
  rcases LQ X [] _ h 44 aq with h|h
  ·cases h
  exact h)
 generalize bI X=P at*;generalize bI Y=Q at*;have p3: ∀a c:Tx,gp a [44] c=none:=fun a c=>by unfold gp;rw[ai (by rintro⟨-, -, h⟩;cases h)]
 have p3a: ∀b c:Tx,gp [44] b c=none:=fun b c=>by unfold gp;rw[ai (by rintro⟨h, -⟩;cases h)]
 have p3c: ∀a b:Tx,gp a b [44]=none:=fun a b=>by unfold gp;rw[ai (by rintro⟨-, h, -⟩;cases h)]
 match P,Q,hn with
 |[],[],_=>rfl
 |[],[b],_=>rfl
 |[],[b,c],_=>simp only[eE,eY,ag4];split<;>rfl
 |[],[b,c,d],_=>rfl
 | [],[b,c,d,e],_=>
   simp only[eE,eY,ag4,p3a];split
   ·cases gX e<;>rfl
   split<;>rfl
 |[],_::_::_::_::_::_,_=>rfl
 |[a],[],_=>simp only[cY,eE,eY];cases dK a<;>rfl
 | [a],[c],_=>
   simp only[cY,eE,eY,lG];cases dK a<;>cases gX c<;>rfl
 |[a],[c,d],_=>simp only[cY,eE,eY];cases dK a<;>rfl
 | [a],[c,d,e],_=>
   simp only[cY,eE,eY,lG,p3]
   by_cases hd:d=[44]
   ·subst hd
    simp only[lG,p3];cases dK a<;>cases gX e<;>rfl
   simp only[hd,kn]
   cases dK a<;>cases gp c d e<;>rfl
 |[a],_::_::_::_::_,_=>simp only[cY,eE,eY];cases dK a<;>rfl
 | [a,b],[],hn=>
   have h2:b≠[44]:=fun e=>hn (by simp[e])
   simp only[cY,eE,eY,h2,kn]
 |[a,b],[c],_=>rfl
 | [a,b],[c,d],hn=>
   have h2:b≠[44]:=fun e=>hn (by simp[e])
   simp only[cY,eE,eY,h2,kn,p3c];split
   ·cases gX d<;>rfl
   rfl
 |[a,b],_::_::_::_,_=>rfl
 |[a,b,c],[],_=>simp only[cY,eE,eY];cases gp a b c<;>rfl
 | [a,b,c],[e],_=>
   simp only[cY,eE,eY,lG];cases gp a b c<;>cases gX e<;>cases dK e<;>rfl
 |[a,b,c],_::_::_,_=>simp only[cY,eE,eY];cases gp a b c<;>rfl
 | [a,b,c,d],[],hn=>
   have h2:b≠[44]:=fun e=>hn (by simp[e])
   have h4:d≠[44]:=fun e=>hn (by simp[e])
   simp only[cY,eE,eY,h2,h4,kn]
 |[a,b,c,d],_::_,_=>rfl
 |_::_::_::_::_::t,Q,_=>cases t<;>cases Q<;>rfl
theorem arI{L:List Tx}(h:([44]:Tx)∉L):eY L=none:=by
 match L,h with
 |[],_=>rfl
 |[_],_=>rfl
 |[_,_],_=>rfl
 |[a,b,c],h=>simp only[eY];rw[ai (fun e=>h (by simp[e]))]
 |[_,_,_,_],_=>rfl
 |[a,b,c,d,e],h=>simp only[eY];rw[ai (fun e=>h (by simp[e])),ai (fun e=>h (by simp[e]))]
 |_::_::_::_::_::_::_,_=>rfl
theorem arK{L:List Tx}(h:L.length<3):eY L=none:=by
 match L,h with
 |[],_=>rfl
 |[_],_=>rfl
 |[_,_],_=>rfl
 |_::_::_::_,h=>simp at h;omega
theorem ayV(s:Tx): ∃b,s.dropWhile aH=aG s++b/\ ∀c∈b,aH c=true:=by
 obtain⟨b,h1,h2⟩:=sH (s.dropWhile aH);refine⟨b,?_,h2⟩
 have e:aG s=cR (s.dropWhile aH):=by
  rw[<-YX s,rF];apply Fl;intro c hc;cases hr:cR (s.dropWhile aH)with
  |nil=>rw[hr]at hc;cases hc
  | cons x t=>
    rw[hr]at hc;simp only[ya,qM]at hc;subst hc;exact lQ (l:=s) (by rw[h1,hr];rfl)
 rw[e];exact h1
theorem P7(s:Tx):GF s=fG s:=by
 unfold GF fG
 by_cases hl:262144<s.length
 ·rw[ak hl,ak hl]
 rw[ai hl,ai hl];have hT:=Tr.trim s;have hw:=LV s;obtain⟨bl,eW,eG⟩:=ayV s;have hap:rQ s=(((aG s)++bl).drop 3).head?.any aH:=by unfold rQ;rw[eW]
 rw[hap,<-hw];generalize aG s=t at*
 by_cases hm:t=[77,70,69,78,67,69]
 ·subst hm;rw[ak dD,ak rfl]
 rw[ai (fun e=>hm (Q3 hT e)),ai hm]
 by_cases hc:t.take 3=[77,79,86]/\(t.drop 3).head?.any aH=true
 ·rw[ai (show ¬ ¬_ from fun h=>h hc)]
  obtain⟨h1,h2⟩:=hc;obtain⟨u,hu⟩:=aF (t.drop 3);have ht:t=[77,79,86]++u:=by rw[<-h1,<-hu,qL]
  rw[hu]at h2⊢
  obtain⟨b,r,rfl,iP⟩: ∃b r,u=b::r/\aH b=true:=by
   cases u with
   |nil=>cases h2
   |cons b r=>exact⟨b,r,rfl,h2⟩
  have hwt:bI t=[77,79,86]::bI (b::r):=by
   rw[ht];have hnb:gA b=false:=by unfold gA;rw[iP];rfl
   show bI (77::(79::86::b::r))=_;rw[Ht _ ay];simp[hnb,show gA 79=true by decide,show gA 86=true by decide]
  have hap:((t++bl).drop 3).head?.any aH=true:=by rw[ht];simpa using iP
  have e1:(if(bI t).length<4\/(bI t).head?≠some [77,79,86]\/((t++bl).drop 3).head?.any aH=false then none else eY ((bI t).drop 1))=eY (bI (b::r)):=by
   rw[hwt];split
   ·rename_i h
    rcases h with h|h|h
    ·exact(arK (by simp at h;omega)).symm
    ·exact absurd rfl h
    rw[hap]at h;cases h
   rfl
  rw[e1]
  by_cases rZ:(44:UInt8)∈b::r
  ·rw[ak rZ]
   obtain⟨A,B,e,hA⟩:=FA 44 _ rZ;rw[e];obtain⟨k1,k2⟩:=DO 44 B A hA;rw[k1,k2];show _=lU (aG A) (aG B);rw[arM (Tr.trim A) (Tr.trim B) (fun h=>hA (Lv h)),LV,LV,bI,DV _ _ _ ay];rfl
  rw[ai rZ]
  exact arI (fun h=>rZ (by
   rcases LQ _ [] _ h 44 aq with h|h
   ·cases h
   exact h))
 rw[ak hc]
 split
 ·rfl
 rename_i h
 exfalso;simp only[tf]at h;obtain⟨n1,n2,n3⟩:=h;have n2:(bI t).head?=some [77,79,86]:=Classical.not_not.1 n2;have n3:((t++bl).drop 3).head?.any aH=true:=aS n3
 obtain⟨L,hL⟩: ∃L,bI t=[77,79,86]::L:=by
  generalize bI t=W at*;cases W with
  |nil=>cases n2
  |cons a b=>simp only[ya,qM]at n2;exact⟨b,by rw[n2]⟩
 obtain⟨r,hr,hr2, -⟩:=Zg hT.1 hL;cases r with
 | nil=>
   rw[<-hr2]at hL;rw[hL]at n1;simp[bI,vG,gW]at n1
 | cons x r=>
   refine hc ⟨by rw[hr];rfl,?_⟩;rw[hr]at n3⊢;simpa using n3
theorem ah7{n:Tx}(h:j7 s=some n):aU n=true:=by
 unfold j7 at h;split at h
 ·rename_i hh;cases h;exact hh.2.2.2
 cases h
theorem agS{a b:Tx}(h:lU a b=some i):fh i=true:=by
 have Yh: ∀{s:Tx} {n:Nat},dK s=some n->gu (n:Int)=true:=fun h=>awH (Qr h).1
 have n32: ∀{s:Tx} {n:Int},bN s=some n->bJ n=true:=fun h=>(nt.1 h).2
 unfold lU at h
 split at h
 ·rename_i x hx
  have hx:=ah7 hx
  split at h
  ·cases hn:bN (b.drop 1)with
   |none=>rw[hn]at h;cases h
   |some n=>rw[hn]at h;cases h;simp[fh,eM,zG,hx,n32 hn]
  cases hn:dK b with
  |none=>rw[hn]at h;cases h
  |some n=>rw[hn]at h;cases h;simp[fh,eM,zG,hx,Yh hn]
 split at h
 ·cases h
 rename_i d hd
 split at h
 ·cases hn:bN (b.drop 1)with
  |none=>rw[hn]at h;cases h
  |some n=>rw[hn]at h;cases h;simp[fh,eM,zG,Yh hd,n32 hn]
 cases hn:j7 b with
 |none=>rw[hn]at h;cases h
 |some n=>rw[hn]at h;cases h;simp[fh,eM,zG,Yh hd,ah7 hn]
theorem asR(h:fG s=some i):fh i=true:=by
 unfold fG at h
 split at h
 ·cases h
 split at h
 ·cases h;decide
 split at h
 ·cases h
 split at h
 ·exact agS h
 cases h
def aM(r:Tx):Tx:=r.dropWhile aH
def bB(u:Tx):Tx:=cR (u.takeWhile (· != 10))
def cP(u:Tx):Tx:=(u.dropWhile (· != 10)).drop 1
def nb(c:UInt8):Bool:= !aH c
def sN(l:Tx):Option (Tx × Tx):=
 let m:=(l.dropWhile nb).dropWhile aH
 if m=[]\/m.any aH=true then none else some (l.takeWhile nb,m)
def Cp(w:Tx):Option Int:=if w=[88,56,54]then some 1 else if w=[82,73,83,67,86]then some 2 else none
abbrev EP(α:Type):=Except (Int × Nat) α
def cE(N:Nat)(u:Tx):Nat:=N-u.length
def iF(N:Nat)(r:Tx):EP (Int × Tx × Tx):=
 let u:=aM r
 match sN (bB u)with
 |none=>.error (140,cE N u)
 | some (w,n)=>match Cp w with
   |none=>.error (5,cE N u)
   |some a=>.ok (a,n,cP u)
def fV(N:Nat)(r:Tx):EP (Tx × Tx):=
 let u:=aM r
 let l:=bB u
 if l.head?≠some 34 then .ok ([],r)
 else if l.length<2\/l.getLast?≠some 34\/l.count 34≠2 then .error (140,cE N u)
 else .ok (aG (l.drop 1).dropLast,cP u)
def mQ(ag:Int)(h:Tx):Option bF:=
 if h.head?=some 91/\h.getLast?=some 93/\2<=h.length then
  (if aU (aG (h.drop 1).dropLast)=true then some ⟨-1,0,aG (h.drop 1).dropLast,[],0⟩else none)
 else if(58:UInt8)∈h then
  match bN (aG (h.takeWhile (· != 58))),dX ag (aG ((h.dropWhile (· != 58)).drop 1))with
  |some n,some r=>if 0<=n/\n<16 then some ⟨n,r,[],[],0⟩else none
  |_,_=>none
 else if aU h=true then some ⟨-1,0,h,[],0⟩else none
def fA(v:Tx):Option (Tx × Int):=match bN v with
 |some n=>some ([],n)
 |none=>if aU v=true then some (v,0)else none
def qj(o:Option bF)(v:Option (Tx × Int)):Option bF:=match o,v with
 |some x,some (l,n)=>some ⟨x.aO,x.aR,x.aj,l,n⟩
 |_,_=>none
theorem AR(o:Option bF):qj o none=none:=by cases o<;>rfl
theorem ql(v:Option (Tx × Int)):qj none v=none:=rfl
def jr(ag:Int)(s:Tx):Option bF:=
 if 262144<s.length\/(61:UInt8)∉s then none
 else qj (mQ ag (aG (s.takeWhile (· != 61)))) (fA (aG ((s.dropWhile (· != 61)).drop 1)))
def iS(ag:Int)(N:Nat):List Tx->Tx->List bF->EP (List bF)
 |[],_,aD=>.ok aD
 | p::L,v,aD=>
   if aG p=[]then iS ag N L (v.drop (p.length+1)) aD
   else match jr ag p with
    |none=>.error (140,cE N (aM v))
    |some x=>iS ag N L (v.drop (p.length+1)) (aD++[x])
def gj(ag:Int)(N:Nat)(r:Tx):EP (List bF × Tx):=
 let u:=aM r
 if u.head?≠some 123\/(125:UInt8)∉u then .error (140,cE N u)
 else match iS ag N (bh 59 ((u.takeWhile (· != 125)).drop 1)) (u.drop 1) []with
  | .error e=>.error e
  | .ok l=>.ok (l,(u.dropWhile (· != 125)).drop 1)
def gv(u:Tx):Bool:=(bB u).getLast?==some 59
def gV(u:Tx):List Tx:=bh 124 (bB u).dropLast
def oI(ag:Int)(s:Tx):Option aL:=if ag=1 then fG s else eN s
def fD(ag:Int)(N:Nat):List Tx->Tx->List (List aL)->EP (List (List aL))
 |[],_,aD=>.ok aD
 |c::L,v,[]=>.ok []
 | c::L,v,x::aD=>
   if aG c=[]then match fD ag N L (v.drop (c.length+1)) aD with
    | .error e=>.error e
    | .ok r=>.ok (x::r)
   else match oI ag (aG c)with
    |none=>.error (91,cE N (aM v))
    | some i=>match fD ag N L (v.drop (c.length+1)) aD with
      | .error e=>.error e
      | .ok r=>.ok ((x++[i])::r)
def lD(ag:Int)(N:Nat):Nat->Tx->List (List aL)->EP (List (List aL) × Tx)
 |0,r,aD=>.ok (aD,r)
 | n+1,r,aD=>
   let u:=aM r
   if gv u=false then .ok (aD,r)
   else if(gV u).length≠aD.length then .error (140,cE N u)
   else match fD ag N (gV u) u aD with
    | .error e=>.error e
    | .ok l=>lD ag N n (cP u) l
def tQ(l:List Tx):Bool:=l.mapIdx (fun i c=>decide (aG c=80::aA9 (i:Int))) |>.all id
def gB(ag:Int)(N:Nat)(r:Tx):EP (List (List aL) × Tx):=
 let u:=aM r
 if gv u=false\/tQ (gV u)=false then .error (140,cE N u)
 else lD ag N (r.length+1) (cP u) (List.replicate (gV u).length [])
def jX(ag:Int)(N:Nat)(r:Tx):EP (Int × Nd):=
 let u:=aM r
 match dI ag u with
 | .ok c=>.ok c
 | .error (e,k)=>.error (e,if e=2 then 0 else cE N u+k)
def tW(ag:Int)(name bG:Tx)(init:List bF)(code:List (List aL))(q:Int)(x:Nd):aT:=⟨ag,name,bG,none,0,init,none,0,code.map fun l=>⟨none,0,l⟩,q,x⟩
def mX(N:Nat)(s:Tx):EP aT:=do
 let (a,n,r) <-iF N s
 let (c,r) <-fV N r
 let (i,r) <-gj a N r
 let (l,r) <-gB a N r
 let (q,x) <-jX a N r
 .ok (tW a n c i l q x)
def gH(s:Tx):EP aT:=
 if 262144<s.length then .error (2,0)
 else match mX s.length s with
  | .error e=>.error e
  | .ok t=>if cM t=0 then .ok t else .error (cM t,0)
def aY(s:Tx):List Tx:=(lex 0 s).map (·.1)
theorem Xg: ∀(n p q:Nat) (s:Tx),(lu n p s).map (·.1)=(lu n q s).map (·.1)
 |0,_,_,_=>rfl
 |n+1,_,_,[]=>rfl
 | n+1,p,q,c::r=>by
   show(if aH c then lu n (p+1) r else _::lu n _ _).map (·.1)=(if aH c then lu n (q+1) r else _::lu n _ _).map (·.1);split
   ·exact Xg n _ _ r
   simp only[ox];rw[Xg n (p+cW (c::r)) (q+cW (c::r))]
theorem Pv(p:Nat)(s:Tx):(lex p s).map (·.1)=aY s:=Xg _ _ _ _
theorem Dq:aY []=[]:=rfl
theorem qm(r:Tx)(h:aH c=true):aY (c::r)=aY r:=by rw[aY,Gs 0 r h,Pv]
theorem qn(r:Tx)(h:aH c=false):aY (c::r)=(c::r).take (cW (c::r))::aY ((c::r).drop (cW (c::r))):=by
 rw[aY,KC 0 r h,ox,Pv]
def CS(c:UInt8):Bool:=c==61||c==58||c==91||c==93
theorem VP(h:CS c=true):aH c=false/\dO c=false/\bf c=false/\cL c=false/\c≠45/\c≠47/\c≠92:=by
 have k:=qB (p:=fun c=> !CS c||(!aH c&& !dO c&& !bf c&& !cL c&&c != 45&&c != 47&&c != 92)) dD c;rw[h]at k;simpa[and_assoc]using k
theorem ari(r:Tx)(h:CS c=true):cW (c::r)=1:=by
 obtain⟨h1,h2,h3,h4,h5,h6,h7⟩:=VP h;rw[lz];simp[h3,h4,h5,h6,h7]
theorem DR{p:UInt8->Bool}{c:UInt8}(h:p c=false)(B:Tx): ∀A:Tx,(A++c::B).takeWhile p=A.takeWhile p
 |[]=>by simp[h]
 | x::A=>by
   rw[cY,mU,mU,DR h B A]
theorem arj(A B:Tx)(h:CS c=true):cW (x::A++c::B)=cW (x::A):=by
 obtain⟨h1,h2,h3,h4,h5,h6,h7⟩:=VP h;rw[cY];rw[lz,lz];rw[DR h2,DR h3];cases A with
 |nil=>simp[h3,h6,h7]
 |cons y A=>simp
theorem tV: ∀(n:Nat) (A B:Tx) {c:UInt8},A.length<=n->CS c=true->aY (A++c::B)=aY A++[c]::aY B
 | _,[],B,c,_,h=>by
   rw[eE,qn _ (VP h).1,ari _ h];rfl
 |0,_::_,_,_,hn,_=>absurd hn aq
 | n+1,x::A,B,c,hn,h=>by
   simp only[cy]at hn;cases hb:aH x with
   |true=>rw[cY,qm _ hb,qm _ hb,tV n A B ah h]
   | false=>
     have hp:=ri x A;have hle:=yR x A;have e:=arj (x:=x) A B h;rw[cY]at e⊢;rw[qn _ hb,qn _ hb,e,<-cY,SD aC,tg aC,tV n _ B aC h,cY]
theorem Gr: ∀(n:Nat) (A B:Tx),A.length<=n->(∀c∈B,aH c=true)->aY (A++B)=aY A
 |_,[],[],_,_=>rfl
 |n,[],c::B,hn,h=>by rw[eE,qm _ (h c aq)];exact Gr n [] B hn (fun d hd=>h d (by simp[hd]))
 |0,_::_,_,hn,_=>absurd hn aq
 |n+1,x::A,[],hn,h=>by rw[jD]
 | n+1,x::A,c::B,hn,h=>by
   simp only[cy]at hn;have hc:=h c aq
   have hno:dO c=false/\bf c=false/\c≠47/\c≠92:=by
    have k:=qB (p:=fun c=> !aH c||(!dO c&& !bf c&&c != 47&&c != 92)) dD c;rw[hc]at k;simpa[and_assoc]using k
   cases hb:aH x with
   |true=>rw[cY,qm _ hb,qm _ hb,Gr n A _ ah h]
   | false=>
     have hp:=ri x A;have hle:=yR x A
     have e:cW (x::(A++c::B))=cW (x::A):=by
      rw[lz,lz];rw[DR hno.1,DR hno.2.1];cases A with
      |nil=>simp[hno.2.1,hno.2.2.1,hno.2.2.2]
      |cons y A=>simp
     rw[cY,qn _ hb,qn _ hb,e,<-cY,SD aC,tg aC,Gr n _ _ aC h]
theorem Xi: ∀l:Tx,aY (l.dropWhile aH)=aY l
 |[]=>rfl
 | c::r=>by
   rw[k7];split
   ·rename_i h;rw[Xi r,qm _ h]
   rfl
theorem AX(l:Tx):aY (aG l)=aY l:=by
 obtain⟨b,h1,h2⟩:=sH l;rw[rF,Xi]
 conv=>rhs;rw[h1]
 exact(Gr _ _ _ (aX _) h2).symm
theorem Pt: ∀{s:Tx},aY s=[]-> ∀c∈s,aH c=true
 |[],_,c,hc=>by cases hc
 | x::s,h,c,hc=>by
   cases hb:aH x with
   | true=>
     rw[qm _ hb]at h;rcases cq.1 hc with rfl|hc
     ·exact hb
     exact Pt h c hc
   |false=>rw[qn _ hb]at h;cases h
theorem agq{w:Tx}{L:List Tx}(h: ∀c,s.head?=some c->aH c=false)(hw:aY s=w::L): ∃r,s=w++r/\aY r=L/\w≠[]:=by
 cases s with
 |nil=>cases hw
 | cons c r=>
   rw[qn _ (h c rfl),Ac]at hw;refine⟨_,by rw[<-hw.1];exact(qL _ _).symm,hw.2,?_⟩;rw[<-hw.1];have:=ri c r;cases hk:cW (c::r)with
   |zero=>omega
   |succ k=>simp
theorem Ky{a:Tx}(h:Tr s)(hw:aY s=[a]):s=a:=by
 obtain⟨r,rfl,hr, -⟩:=agq h.1 hw;rw[aaY h.2 (Pt hr),jD]
theorem Xj: ∀(n:Nat) (s:Tx),s.length<=n-> ∀w∈aY s,∀c∈w,c∈s
 |_,[],_,w,hw,_,_=>by cases hw
 |0,_::_,hn,_,_,_,_=>absurd hn aq
 | n+1,x::s,hn,w,hw,c,hc=>by
   simp only[cy]at hn;cases hb:aH x with
   |true=>rw[qm _ hb]at hw;exact zW _ (Xj n s ah w hw c hc)
   | false=>
     have hp:=ri x s;rw[qn _ hb]at hw;rcases cq.1 hw with rfl|hw
     ·exact Eu hc
     exact SY (Xj n _ aC w hw c hc)
theorem Pu{w:Tx}(hw:w∈aY s)(hc:c∈w):c∈s:=Xj _ s (aX _) w hw c hc
theorem Xl(h0:s≠[])(hb: ∀c,s.head?=some c->aH c=false)(h:cW s=s.length):aY s=[s]:=by
 cases s with
 |nil=>exact absurd rfl h0
 | cons c r=>
   rw[qn _ (hb c rfl),h];simp[Dq]
theorem aqU(h:cL c=true):aH c=false:=by
 have k:=qB (p:=fun c=> !cL c|| !aH c) dD c;rw[h]at k;simpa using k
theorem azB(h: ∃c r,s=c::r/\cL c=true)(h2: ∀b∈s,dO b=true):aY s=[s]:=by
 obtain⟨c,r,rfl,hc⟩:=h;refine Xl aq (fun d hd=>by simp at hd;subst hd;exact aqU hc) ?_;rw[lz];rw[ak hc,(Ho (fun b hb=>h2 b (by simp[hb]))).1,cy];omega
theorem Gx(h:aU s=true):aY s=[s]:=azB (Dt h) (Gw h)
theorem UD(h:bf c=true):aH c=false/\cL c=false/\c≠45:=by
 have k:=qB (p:=fun c=> !bf c||(!aH c&& !cL c&&c != 45)) dD c;rw[h]at k;simpa[and_assoc]using k
theorem Dk(n:Int):aY (aA9 n)=[aA9 n]:=by
 unfold aA9;split
 ·have h1:=Aq n.natAbs
  have h2:=NR (rY n.natAbs);generalize aA8 n.natAbs=d at*;refine Xl aq (fun c hc=>by simp at hc;subst hc;rfl) ?_;cases d with
  |nil=>exact absurd rfl h1
  | cons c r=>
    rw[fP]at h2;have h3:(c::r).takeWhile bf=c::r:=(Ho h2).1;have h4:=h2 c aq;rw[lz];rw[ai ay,ak (by simp[h4]),h3];simp;omega
 have h1:=Aq n.toNat
 have h2:=NR (rY n.toNat);generalize aA8 n.toNat=d at*;cases d with
 |nil=>exact absurd rfl h1
 | cons c r=>
   rw[fP]at h2;have h4:=h2 c aq;obtain⟨b1,b2,b3⟩:=UD h4;refine Xl aq (fun d hd=>by simp at hd;subst hd;exact b1) ?_;have h3:r.takeWhile bf=r:=(Ho (fun b hb=>h2 b (by simp[hb]))).1;rw[lz];rw[ai (by simp[b2]),ak (by simp[h4]),h3];simp;omega
theorem GX(h:dX ag s=some n):(n:Int)<dU ag/\s=dy ag n:=by
 unfold dX at h;have h1:=M9 h;have h2:=Cg.1 (MN h);exact⟨ ah,(by simpa using h1:dy ag n=s).symm⟩
theorem Qp(h:(n:Int)<dU ag):aY (dy ag n)=[dy ag n]:=by
 have h1: ∀n:Fin 15,aY (cg n.val)=[cg n.val]:=dD;have h2: ∀n:Fin 32,aY (cZ n.val)=[cZ n.val]:=dD;unfold dy dU at*;split
 ·rename_i e;rw[ak e]at h;exact h1 ⟨n,ah⟩
 rename_i e;rw[ai e]at h;exact h2 ⟨n,ah⟩
def n9(ag:Int):List Tx->Option bF
 |[a]=>if aU a=true then some ⟨-1,0,a,[],0⟩else none
 | [a,b,c]=>if a=[91]/\c=[93]/\aU b=true then some ⟨-1,0,b,[],0⟩
   else if b=[58]then(match bN a,dX ag c with
    |some n,some r=>if 0<=n/\n<16 then some ⟨n,r,[],[],0⟩else none
    |_,_=>none)
   else none
 |_=>none
theorem Hh(ag:Int)(a b c:Tx):n9 ag [a,b,c]=if a=[91]/\c=[93]/\aU b=true then some ⟨-1,0,b,[],0⟩
 else if b=[58]then(match bN a,dX ag c with
  |some n,some r=>if 0<=n/\n<16 then some ⟨n,r,[],[],0⟩else none
  |_,_=>none)
 else none:=rfl
theorem ar8:bN [58]=none:=dD
theorem ar9:bN [61]=none:=dD
theorem ahd:bN [91]=none:=dD
theorem azs(h:Tr s):fA s=match aY s with
 |[a]=>fA a
 |_=>none:=by
 cases hr:fA s with
 | some n=>
   have e:aY s=[s]:=by
    unfold fA at hr;cases hn:bN s with
    |some v=>obtain⟨rfl, -⟩:=nt.1 hn;exact Dk v
    | none=>
      rw[hn]at hr;simp only at hr
      split at hr
      ·rename_i hh;exact Gx hh
      cases hr
   rw[e];exact hr.symm
 | none=>
   split
   ·rename_i a e;rw[<-Ky h e];exact hr.symm
   rfl
theorem aqX{z:UInt8}(hz:aH z=false){L:List Tx}(hc:CS c=true)(h:aY (m++[z])=L++[[c]]):z=c/\aY m=L:=by
 have key: ∀(n:Nat) (m:Tx),m.length<=n-> ∃K w,aY (m++[z])=K++[w++[z]]:=by
  intro n
  induction n with
  | zero=>
    intro m hm;obtain rfl:=rP.1 (by omega:m.length=0);refine⟨[],[],?_⟩;rw[eE,qn _ hz];have h1:=ri z [];have h2:=yR z [];rw[show cW [z]=1 by simp at h2;omega];rfl
  | succ n ih=>
    intro m hm;cases m with
    |nil=>exact ih [] aq
    | cons x m=>
      simp only[cy]at hm;rw[cY];cases hb:aH x with
      |true=>rw[qm _ hb];exact ih m ah
      | false=>
        have hp:=ri x (m++[z]);have hle:=yR x (m++[z]);rw[qn _ hb];obtain⟨k,hk⟩:=aF (cW (x::(m++[z])));rw[hk]at hp hle⊢;rw[<-cY];rcases iA (x::m).length k with h1|h1
        ·have:k=(x::m++[z]).length:=by simp at hle h1 ⊢; omega
         refine⟨[],x::m,?_⟩;rw[this,jC,wD];rfl
        obtain⟨K,w,e⟩:=ih ((x::m).drop k) aC
        refine⟨(x::m++[z]).take k::K,w,?_⟩;rw[tg h1,e];rfl
 cases hh:CS z with
 | true=>
   have e:=tV _ m [] (aX _) hh;rw[show m++z::[]=m++[z]from rfl,h]at e;have:=EJ (show L++[[c]]=aY m++[[z]]from e) rfl;exact⟨by simpa using this.2.symm,this.1.symm⟩
 | false=>
   obtain⟨K,w,e⟩:=key _ m (aX _);rw[h]at e;have:=(EJ e rfl).2;have e4:[]++[c]=w++[z]:=aS this;have e5:=(EJ e4 rfl).2;simp only[Ac,and_true]at e5;rw[e5]at hc;rw[hc]at hh;cases hh
theorem ayD(ag:Int)(h:Tr s):mQ ag s=n9 ag (aY s):=by
 unfold mQ
 by_cases tO:s.head?=some 91/\s.getLast?=some 93/\2<=s.length
 ·rw[ak tO]
  obtain⟨h1,h2,h3⟩:=tO;have e:=agR h3 h1 h2;generalize (s.drop 1).dropLast=m at*;subst e
  have e2:aY (91::(m++[93]))=[91]::(aY m++[[93]]):=by
   have:=tV 0 [] (m++[93]) (c:=91) aq ay;rw[eE]at this;rw[this,show m++[93]=m++93::[]from rfl,tV _ m [] (aX _) ay];rfl
  rw[e2];split
  ·rename_i hn
   rw[<-AX m,Gx hn];show _=if _ then _ else _
   rw[ak ⟨rfl,rfl,hn⟩]
  rename_i hn
  have hl:=AX m;generalize aY m=M at*
  match M with
  |[]=>rfl
  | [b]=>
    have ht:aG m=b:=Ky (Tr.trim m) hl;show none=if _ then _ else _
    rw[ai (by rintro⟨-, -, hb⟩;rw[ht]at hn;exact hn hb)];split
    ·rw[ahd]
    rfl
  |_::_::t=>cases t<;>rfl
 rw[ai tO]
 by_cases uL:(58:UInt8)∈s
 ·rw[ak uL]
  obtain⟨A,B,e,hA⟩:=FA 58 _ uL;obtain⟨k1,k2⟩:=DO 58 B A hA;rw[<-e]at k1 k2;have e2:aY s=aY (aG A)++[58]::aY (aG B):=by rw[e,tV _ A B (aX _) ay,AX,AX]
  rw[k1,k2,e2];simp only[qR,qP];have hno:([58]:Tx)∉aY (aG A):=fun hm=>hA (Lv (Pu hm aq))
  cases hn:bN (aG A)with
  | none=>
    have t1:=fun a (e:aY (aG A)=[a])=>Ky (Tr.trim A) e
    generalize aY (aG A)=P at*;generalize aY (aG B)=Q at*
    match P,Q with
    |[],[]=>rfl
    |[],[_]=>rfl
    | [],[b,c]=>
      show none=n9 ag [[58],b,c];rw[Hh,ai (by rintro⟨e, -⟩;cases e),ar8]
      split<;>rfl
    |[],_::_::_::_=>rfl
    |[a],[]=>rfl
    | [a],[c]=>
      show none=if _ then _ else _
      rw[ai (by rintro⟨-, -, e⟩;cases e),ak rfl,<-t1 a rfl,hn]
    |[a],_::_::_=>rfl
    | [a,b],[]=>
      show none=if _ then _ else _
      rw[ai (by rintro⟨-, e, -⟩;cases e),ai (fun e=>hno (by simp[e]))]
    |[a,b],_::_=>rfl
    |_::_::_::t,Q=>cases t<;>cases Q<;>rfl
  | some n=>
    have eA:aY (aG A)=[aG A]:=by obtain⟨e, -⟩:=nt.1 hn;rw[e];exact Dk n
    rw[eA];cases hr:dX ag (aG B)with
    | none=>
      have t1:=fun a (e:aY (aG B)=[a])=>Ky (Tr.trim B) e
      generalize aY (aG B)=Q at*
      match Q with
      |[]=>rfl
      | [c]=>
        show none=if _ then _ else _
        rw[ai (by rintro⟨-, -, e⟩;cases e),ak rfl,<-t1 c rfl,hr];simp only[hn]
      |_::_::_=>rfl
    | some r=>
      obtain⟨e1,e3⟩:=GX hr;have eB:aY (aG B)=[aG B]:=by rw[e3];exact Qp e1
      rw[eB];show _=if _ then _ else _
      rw[ai (by rintro⟨-, -, e⟩;cases e),ak rfl,hn,hr]
 rw[ai uL]
 split
 ·rename_i hn;rw[Gx hn];show _=if _ then _ else _;rw[ak hn]
 rename_i hn
 have hno:([58]:Tx)∉aY s:=fun hm=>uL (Pu hm aq)
 have t1:=fun a (e:aY s=[a])=>Ky h e
 have t3: ∀b,aY s≠[[91],b,[93]]:=fun b e3=>by
  obtain⟨r,hs,hr, -⟩:=agq h.1 e3;have aN:r≠[]:=by intro e;subst e;cases hr
  obtain⟨z,hz⟩: ∃z,r.getLast?=some z:=⟨r.getLast aN,pz aN⟩;obtain⟨m,rfl⟩:=vh.1 hz;have hzb:aH z=false:=h.2 z (by rw[hs,Gj aN];exact hz);obtain⟨rfl, -⟩:=aqX hzb (L:=[b]) (c:=93) ay hr;exact tO ⟨by rw[hs];rfl,by rw[hs,Gj aN];exact hz,by rw[hs];simp⟩
 generalize aY s=P at*
 match P with
 |[]=>rfl
 |[a]=>show none=if _ then _ else _;rw[ai (by rw[<-t1 a rfl];exact hn)]
 |[_,_]=>rfl
 | [a,b,c]=>
   show none=if _ then _ else _
   rw[ai (by rintro⟨rfl,rfl, -⟩;exact t3 b rfl),ai (fun e=>hno (by simp[e]))]
 |_::_::_::_::_=>rfl
def jo(ag:Int):List Tx->Option bF
 |[a,e,v]=>if e=[61]then qj (n9 ag [a]) (fA v)else none
 |[a,b,c,e,v]=>if e=[61]then qj (n9 ag [a,b,c]) (fA v)else none
 |_=>none
theorem AU(ag:Int)(a e v:Tx):jo ag [a,e,v]=if e=[61]then qj (n9 ag [a]) (fA v)else none:=rfl
theorem wZ(ag:Int)(a b c e v:Tx):jo ag [a,b,c,e,v]=if e=[61]then qj (n9 ag [a,b,c]) (fA v)else none:=rfl
theorem Gh(hl:s.length<=262144):jr ag s=jo ag (aY s):=by
 unfold jr
 by_cases AD:(61:UInt8)∈s
 ·rw[ai (by rintro(h|h);omega;exact h AD)]
  obtain⟨A,B,e,hA⟩:=FA 61 _ AD;obtain⟨k1,k2⟩:=DO 61 B A hA;rw[<-e]at k1 k2;have e2:aY s=aY (aG A)++[61]::aY (aG B):=by rw[e,tV _ A B (aX _) ay,AX,AX]
  rw[k1,k2,e2];simp only[qR,qP];rw[ayD ag (Tr.trim A),azs (Tr.trim B)];have hno:([61]:Tx)∉aY (aG A):=fun hm=>hA (Lv (Pu hm aq))
  have c1:n9 ag [[61]]=none:=rfl
  have c2: ∀b c:Tx,n9 ag [[61],b,c]=none:=fun b c=>by
   rw[Hh,ai (by rintro⟨e, -⟩;cases e),ar9]
   split<;>rfl
  have r61:dX ag [61]=none:=by
   cases hr:dX ag [61]with
   |none=>rfl
   | some n=>
     obtain⟨h1,h2⟩:=GX hr;have h3:=Qp h1;have k1: ∀n:Fin 15,cg n.val≠[61]:=dD;have k2: ∀n:Fin 32,cZ n.val≠[61]:=dD;unfold dy dU at*
     split at h2
     ·rename_i e;rw[ak e]at h1;exact absurd h2.symm (k1 ⟨n,ah⟩)
     rename_i e;rw[ai e]at h1;exact absurd h2.symm (k2 ⟨n,ah⟩)
  have c3: ∀a b:Tx,n9 ag [a,b,[61]]=none:=fun a b=>by
   show(if _ then _ else _)=_;rw[ai (by rintro⟨-, e, -⟩;cases e)];split
   ·rw[r61];cases bN a<;>rfl
   rfl
  have c4: ∀a c:Tx,n9 ag [a,[61],c]=none:=fun a c=>by
   show(if _ then _ else _)=_;rw[ai (by rintro⟨-, -, e⟩;cases e),ai ay]
  generalize aY (aG A)=P at*;generalize aY (aG B)=Q at*;have n1: ∀a:Tx,n9 ag [a]=n9 ag [a]:=fun _=>rfl
  match P,Q with
  |[],[]=>rfl
  |[],[_]=>rfl
  |[],[b,c]=>show none=jo ag [[61],b,c];rw[AU,c1,ql];split<;>rfl
  |[],[_,_,_]=>rfl
  |[],[b,c,d,e]=>show none=jo ag [[61],b,c,d,e];rw[wZ,c2,ql];split<;>rfl
  |[],_::_::_::_::_::_=>rfl
  |[a],[]=>exact AR _
  |[a],[v]=>show qj (n9 ag [a]) (fA v)=jo ag [a,[61],v];rw[AU,ak rfl]
  |[a],[_,_]=>exact AR _
  |[a],[c,d,e]=>show qj (n9 ag [a]) none=jo ag [a,[61],c,d,e];rw[wZ,c4,AR,ql];split<;>rfl
  |[a],_::_::_::_::_=>exact AR _
  | [a,b],[]=>
    have hb:b≠[61]:=fun e=>hno (by simp[e])
    show none=jo ag [a,b,[61]];rw[AU,ai hb]
  |[a,b],[_]=>rfl
  |[a,b],[d,e]=>show none=jo ag [a,b,[61],d,e];rw[wZ,c3,ql];split<;>rfl
  |[a,b],_::_::_::_=>rfl
  |[a,b,c],[]=>exact AR _
  |[a,b,c],[v]=>show qj (n9 ag [a,b,c]) (fA v)=jo ag [a,b,c,[61],v];rw[wZ,ak rfl]
  |[a,b,c],_::_::_=>exact AR _
  | [a,b,c,d],[]=>
    have hd:d≠[61]:=fun e=>hno (by simp[e])
    show none=jo ag [a,b,c,d,[61]];rw[wZ,ai hd]
  |[a,b,c,d],_::_=>rfl
  |_::_::_::_::_::t,Q=>cases t<;>cases Q<;>rfl
 rw[ak (.inr AD)]
 have hno:([61]:Tx)∉aY s:=fun hm=>AD (Pu hm aq)
 generalize aY s=P at*
 match P with
 |[]=>rfl
 |[_]=>rfl
 |[_,_]=>rfl
 |[a,e,v]=>rw[AU,ai (fun h=>hno (by simp[h]))]
 |[_,_,_,_]=>rfl
 |[a,b,c,e,v]=>rw[wZ,ai (fun h=>hno (by simp[h]))]
 |_::_::_::_::_::_::_=>rfl
theorem xE(s:Tx)(t:Tok)(l:List Tok):bQ s (t::l)=if t.1=s then .ok l else .error (t::l):=rfl
theorem sw(a b:Int)(t:Tok)(l:List Tok):lq a b (t::l)=match bN t.1 with
 |some n=>if a<=n/\n<=b then .ok (n,l)else .error (t::l)
 |none=>.error (t::l):=rfl
theorem vm(t:Tok)(l:List Tok):jN (t::l)=if aU t.1 then .ok (t.1,l)else .error (t::l):=rfl
theorem QK{r:List Tok}(h:bQ s l= .ok r): ∃t,l=t::r/\t.1=s:=by
 cases l with
 |nil=>cases h
 | cons t l=>
   rw[xE]at h
   split at h
   ·rename_i e;cases h;exact⟨t,rfl,e⟩
   cases h
theorem af2{a:Int}{r:List Tok}{n:Int}(h:lq a b l= .ok (n,r)): ∃t,l=t::r/\bN t.1=some n/\a<=n/\n<=b:=by
 cases l with
 |nil=>cases h
 | cons t l=>
   rw[sw]at h
   split at h
   ·rename_i e
    split at h
    ·rename_i hh;cases h;exact⟨t,rfl,e,hh.1,hh.2⟩
    cases h
   cases h
theorem agE{r:List Tok}(h:jN l= .ok (s,r)): ∃t,l=t::r/\t.1=s/\aU s=true:=by
 cases l with
 |nil=>cases h
 | cons t l=>
   rw[vm]at h
   split at h
   ·rename_i e;cases h;exact⟨t,rfl,rfl,e⟩
   cases h
theorem ayx{r:List Tok}{t:Th}(h:fQ ag l= .ok (t,r)):dF ag t=true/\r.length<l.length:=by
 unfold fQ at h
 split at h
 ·split at h
  ·cases h
  rename_i x r1 e1
  split at h
  ·cases h
  rename_i r2 e2
  cases h;obtain⟨t1,f1,f2,f3⟩:=agE e1;obtain⟨t2,rfl,g2⟩:=QK e2;refine⟨by unfold dF;simp[f3],?_⟩;have:=congrArg aBd f1;simp only[Cb,cy]at this;omega
 split at h
 ·split at h
  ·cases h
  rename_i n r1 e1
  split at h
  ·cases h
  rename_i r2 e2
  split at h
  ·cases h
  rename_i k hk
  cases h;obtain⟨t1,rfl,f2,f3,f4⟩:=af2 e1;obtain⟨t2,rfl,g2⟩:=QK e2;obtain⟨k1,k2⟩:=GX hk;refine⟨?_,aC⟩;unfold dF;rw[ai (by simp only;omega)];simp;omega
 split at h
 ·cases h
 rename_i x r1 e1
 cases h;obtain⟨t1,rfl,rfl,f3⟩:=agE e1;exact⟨by unfold dF;simp[f3],aq⟩
def vQ(ag:Int)(l:List Tok)(p:PR Nd):Prop:= ∀x r,p= .ok (x,r)->eo ag x/\r.length<l.length
theorem ale(ag:Int)(l:List Tok):vQ ag l (jU ag l):=by
 intro x r h;unfold jU at h
 split at h
 ·cases h
 rename_i t r1 e1
 split at h
 ·cases h
 rename_i r2 e2
 split at h
 ·cases h
 rename_i v r3 e3
 cases h;obtain⟨a1,a2⟩:=ayx e1;obtain⟨t2,rfl,g2⟩:=QK e2;obtain⟨t3,rfl,g3,g4,g5⟩:=af2 e3;refine⟨⟨_,?_,fun y hy=>absurd hy (by simp[Nd.aP])⟩,by simp only[cy]at a2;omega⟩;unfold iJ;simp only[Nd.kind,Nd.th,Nd.val,Nd.aP,lG,a1,(nt.1 g3).2];rfl
theorem XA{k:Int}{l:List Nd}(h:iJ ag k dQ 0 l.length=true)(hk: ∀y∈l,eo ag y):eo ag (A0 k l):=⟨_,h,hk⟩
theorem ahq{k:Int}{l:List Nd}(h4:k=4\/k=5)(h0:l≠[])(hk: ∀y∈l,eo ag y):eo ag (vq k l):=by
 match l,h0 with
 |[x],_=>exact hk x aq
 | x::y::r,_=>
   refine XA ?_ hk;unfold iJ;rw[ai ah,ai ah,ai ah,ak h4];simp
theorem ai2{ag k:Int}{sign:Tx}{one:List Tok->PR Nd}(h4:k=4\/k=5)(H: ∀l,vQ ag l (one l)): ∀(n:Nat) (aD:List Nd) (l:List Tok) (x:Nd) (r:List Tok),aD≠[]->(∀y∈aD,eo ag y)->ja k sign one n aD l= .ok (x,r)->eo ag x/\r.length<=l.length
 |0,aD,l,x,r,h0,hk,h=>by cases h;exact⟨ahq h4 h0 hk,aX _⟩
 | n+1,aD,l,x,r,h0,hk,h=>by
   unfold ja at h
   split at h
   ·split at h
    ·cases h
    rename_i y r1 e1
    obtain⟨a1,a2⟩:=H _ y r1 e1
    obtain⟨b1,b2⟩:=ai2 h4 H n _ r1 x r aq (fun z hz=>by
     rcases fc.1 hz with hz|hz
     ·exact hk z hz
     rcases kJ.1 hz with rfl;exact a1) h
    refine⟨b1,?_⟩;rw[Cb]at a2;omega
   cases h;exact⟨ahq h4 h0 hk,aX _⟩
theorem G6{k:Int}(h4:k=4\/k=5)(H: ∀l,vQ ag l (one l))(l:List Tok):vQ ag l (jc k sign one l):=by
 intro x r h;unfold jc at h
 split at h
 ·cases h
 rename_i y r1 e1
 obtain⟨a1,a2⟩:=H _ y r1 e1;obtain⟨b1,b2⟩:=ai2 h4 H _ _ _ x r aq (fun z hz=>by rcases kJ.1 hz with rfl;exact a1) h;exact⟨b1,ah⟩
theorem aht(H: ∀l,vQ ag l (one l))(l:List Tok):vQ ag l (jt one l):=G6 (.inr rfl) (fun l=>G6 (.inl rfl) H l) l
theorem vp(ag:Int): ∀(n:Nat) (l:List Tok),vQ ag l (cz ag n l)
 |0,l=>fun x r h=>by cases h
 | n+1,l=>fun x r h=>by
   unfold cz at h
   split at h
   ·split at h
    ·cases h
    rename_i y r1 e1
    obtain⟨a1,a2⟩:=vp ag n _ y r1 e1;cases h;refine⟨XA (by unfold iJ;rw[ai ay,ai ay,ak rfl];simp) (fun z hz=>by rcases kJ.1 hz with rfl;exact a1),?_⟩;rw[Cb]at a2;omega
   split at h
   ·split at h
    ·cases h
    rename_i y r1 e1
    obtain⟨a1,a2⟩:=aht (vp ag n) _ y r1 e1
    split at h
    ·cases h
    rename_i r2 e2
    cases h;obtain⟨t2,rfl,g2⟩:=QK e2;refine⟨a1,?_⟩;simp only[Cb,cy]at a2;omega
   split at h
   ·rename_i hh
    cases h;refine⟨XA (by unfold iJ;rw[ai ay,ak rfl];simp) (fun z hz=>by cases hz),?_⟩;cases l with
    |nil=>exact absurd hh.1 ay
    |cons a b=>simp
   exact ale ag l x r h
theorem ams{r:List Tok}(h:jk l= .ok (q,r)):1<=q/\q<=3:=by
 unfold jk at h
 split at h
 ·cases h;omega
 split at h
 ·split at h
  ·cases h
  cases h;omega
 split at h
 ·cases h
 cases h;omega
theorem amZ{x:Nd}(h:iB ag l= .ok (q,x)):1<=q/\q<=3/\eo ag x:=by
 unfold iB at h
 split at h
 ·cases h
 rename_i q1 l1 e1
 split at h
 ·cases h
 rename_i l2 e2
 split at h
 ·cases h
 rename_i y l3 e3
 split at h
 ·cases h
 split at h
 ·cases h
  obtain⟨a,b⟩:=ams e1;exact⟨a,b,(aht (vp ag _) _ _ _ e3).1⟩
 cases h
theorem azu: ∀(x:Nd) (met deep:Nat),eo ag x->(fY ag x met deep).2=0\/(fY ag x met deep).2=2:=by
 intro x
 induction x using Nd.ind with
 | h x ih=>
   intro met deep h;rw[LM];split
   ·exact .inr rfl
   rw[ai (by rw[h.may];decide)]
   have key: ∀(l:List Nd),(∀k∈l,k∈x.aP)-> ∀met deep,(kX ag l met deep).2=0\/(kX ag l met deep).2=2:=by
    intro l
    induction l with
    |nil=>intro _ met deep;rw[LL];exact .inl rfl
    | cons y r ihl=>
      intro hin met deep;rw[Q0];split
      ·exact ihl (fun k hk=>hin k (by simp[hk])) _ _
      exact ih y (hin y aq) met deep (h.gZ y (hin y aq))
   exact key _ (fun k hk=>hk) _ _
theorem anj{x:Nd}(ha:bD ag=true)(h1:1<=q)(h3:q<=3)(h:eo ag x):dh ag q x=0\/dh ag q x=2:=by
 unfold dh;rw[ai (by rw[ha];decide),ai ah];exact azu x 0 0 h
def eI(N:Nat)(e:List Tok):Nat:=(e.head?.map (·.2)).getD N
theorem ahL(ha:bD ag=true)(hl:s.length<=262144):(∃q x,iB ag (lex 0 s)= .ok (q,x)/\eo ag x/\1<=q/\q<=3/\((dh ag q x=0/\dI ag s= .ok (q,x))\/(dh ag q x=2/\dI ag s= .error (2,0))))\/ ∃e,iB ag (lex 0 s)= .error e/\dI ag s= .error (80,eI s.length e):=by
 unfold dI;rw[ai (by rw[ha];decide),ai ah];cases h:iB ag (lex 0 s)with
 |error e=>exact .inr ⟨e,rfl,rfl⟩
 | ok p=>
   obtain⟨q,x⟩:=p;obtain⟨a,b,c⟩:=amZ h;refine .inl ⟨q,x,rfl,c,a,b,?_⟩;rcases anj ha a b c with e|e
   ·exact .inl ⟨e,by simp only[e];rfl⟩
   exact .inr ⟨e,by simp only[e];rfl⟩
def iL(d:Nat)(L:List Tok):List Tok:=L.map fun t=>(t.1,t.2+d)
def nj{α:Type}(d:Nat):PR α->PR α
 | .ok (x,r)=>.ok (x,iL d r)
 | .error e=>.error (iL d e)
theorem YG(d:Nat)(t:Tok)(l:List Tok):iL d (t::l)=(t.1,t.2+d)::iL d l:=rfl
theorem Lj(d:Nat)(l:List Tok):(iL d l).tail=iL d l.tail:=by cases l<;>rfl
theorem Li(d:Nat)(l:List Tok):aJ (iL d l)=aJ l:=by cases l<;>rfl
theorem ajw(d:Nat)(l:List Tok):(iL d l).length=l.length:=by simp[iL]
theorem Xh(d:Nat): ∀(n p:Nat) (s:Tx),lu n (p+d) s=iL d (lu n p s)
 |0,_,_=>rfl
 |n+1,_,[]=>rfl
 | n+1,p,c::r=>by
   show(if aH c then lu n (p+d+1) r else _::lu n _ _)=iL d (if aH c then lu n (p+1) r else _::lu n _ _);split
   ·rw[show p+d+1=(p+1)+d by omega,Xh d n _ r]
   rw[show p+d+cW (c::r)=(p+cW (c::r))+d by omega,Xh d n _ _];rfl
theorem aq0(d p:Nat)(s:Tx):lex (p+d) s=iL d (lex p s):=Xh d _ _ _
theorem agv: ∀(b:Tx) (p:Nat) (s:Tx),(∀c∈b,aH c=true)->lex p (b++s)=lex (p+b.length) s
 |[],p,s,_=>rfl
 | c::b,p,s,h=>by
   rw[cY,Gs p _ (h c aq),agv b (p+1) s (fun d hd=>h d (by simp[hd]))]
   congr 1;simp;omega
theorem Bh(d:Nat)(s:Tx)(l:List Tok):bQ s (iL d l)=match bQ s l with
 | .ok r=>.ok (iL d r)
 | .error e=>.error (iL d e):=by
 cases l with
 |nil=>rfl
 |cons t l=>rw[YG];rw[xE,xE];split<;>rfl
theorem af3(d:Nat)(a b:Int)(l:List Tok):lq a b (iL d l)=nj d (lq a b l):=by
 cases l with
 |nil=>rfl
 | cons t l=>
   rw[YG,sw,sw];simp only;cases bN t.1 with
   |none=>rfl
   |some n=>simp only;split<;>rfl
theorem agF(d:Nat)(l:List Tok):jN (iL d l)=nj d (jN l):=by
 cases l with
 |nil=>rfl
 |cons t l=>rw[YG];rw[vm,vm];split<;>rfl
theorem ayy(ag:Int)(d:Nat)(l:List Tok):fQ ag (iL d l)=nj d (fQ ag l):=by
 unfold fQ;rw[Li,Lj];split
 ·rw[agF]
  cases jN l.tail with
  |error e=>rfl
  | ok p=>
    obtain⟨x,r⟩:=p;simp only[nj];rw[Bh];cases bQ [93] r<;>rfl
 split
 ·rw[af3]
  cases lq 0 15 l with
  |error e=>rfl
  | ok p=>
    obtain⟨x,r⟩:=p;simp only[nj];rw[Bh];cases bQ [58] r with
    |error e=>rfl
    | ok r=>
      simp only;rw[Li];cases dX ag (aJ r)with
      |none=>rfl
      |some k=>simp only[Lj]
 rw[agF]
 cases jN l with
 |error e=>rfl
 |ok p=>rfl
theorem alf(ag:Int)(d:Nat)(l:List Tok):jU ag (iL d l)=nj d (jU ag l):=by
 unfold jU;rw[ayy];cases fQ ag l with
 |error e=>rfl
 | ok p=>
   obtain⟨x,r⟩:=p;simp only[nj];rw[Bh];cases bQ [61] r with
   |error e=>rfl
   | ok r=>
     simp only;rw[af3];cases lq (-2147483648) 2147483647 r<;>rfl
theorem ai3{k:Int}{sign:Tx}{one:List Tok->PR Nd}(d:Nat)(H: ∀l,one (iL d l)=nj d (one l)): ∀(n:Nat) (aD:List Nd) (l:List Tok),ja k sign one n aD (iL d l)=nj d (ja k sign one n aD l)
 |0,_,_=>rfl
 | n+1,aD,l=>by
   unfold ja;rw[Li,Lj];split
   ·rw[H]
    cases one l.tail with
    |error e=>rfl
    |ok p=>exact ai3 d H n _ _
   rfl
theorem ai5{k:Int}(d:Nat)(H: ∀l,one (iL d l)=nj d (one l))(l:List Tok):jc k sign one (iL d l)=nj d (jc k sign one l):=by
 unfold jc;rw[H];cases one l with
 |error e=>rfl
 | ok p=>
   obtain⟨x,r⟩:=p;simp only[nj];rw[ajw];exact ai3 d H _ _ _
theorem ahu(d:Nat)(H: ∀l,one (iL d l)=nj d (one l))(l:List Tok):jt one (iL d l)=nj d (jt one l):=ai5 d (ai5 d H) l
theorem XG(ag:Int)(d:Nat): ∀(n:Nat) (l:List Tok),cz ag n (iL d l)=nj d (cz ag n l)
 |0,_=>rfl
 | n+1,l=>by
   unfold cz;simp only[Li,Lj];split
   ·rw[XG ag d n]
    cases cz ag n l.tail<;>rfl
   split
   ·rw[ahu d (XG ag d n)]
    cases jt (cz ag n) l.tail with
    |error e=>rfl
    | ok p=>
      obtain⟨x,r⟩:=p;simp only[nj];rw[Bh];cases bQ [41] r<;>rfl
   split
   ·rfl
   exact alf ag d l
theorem amt(d:Nat)(l:List Tok):jk (iL d l)=nj d (jk l):=by
 unfold jk;rw[Li,Lj,Bh,Bh];split
 ·rfl
 split
 ·cases bQ [101,120,105,115,116,115] l.tail<;>rfl
 cases bQ [101,120,105,115,116,115] l<;>rfl
theorem am0(ag:Int)(d:Nat)(l:List Tok):iB ag (iL d l)=match iB ag l with
 | .ok p=>.ok p
 | .error e=>.error (iL d e):=by
 unfold iB;rw[amt];cases jk l with
 |error e=>rfl
 | ok p=>
   obtain⟨q,l⟩:=p;simp only[nj];rw[Bh];cases bQ [40] l with
   |error e=>rfl
   | ok l=>
     simp only;rw[ajw,ahu d (XG ag d _)];cases jt (cz ag (l.length+1)) l with
     |error e=>rfl
     | ok p=>
       obtain⟨x,l⟩:=p;simp only[nj];rw[Bh];cases bQ [41] l with
       |error e=>rfl
       | ok l=>
         cases l with
         |nil=>rfl
         |cons t l=>rfl
theorem axP(d N:Nat)(e:List Tok):eI (d+N) (iL d e)=d+eI N e:=by
 cases e with
 |nil=>rfl
 |cons t l=>show t.2+d=d+t.2;omega
theorem asL{b:Tx}(ha:bD ag=true)(hb: ∀c∈b,aH c=true)(hl:b.length+s.length<=262144):
 dI ag (b++s)=match dI ag s with
  | .ok c=>.ok c
  | .error (e,k)=>.error (e,if e=2 then 0 else b.length+k):=by
 have e1:iB ag (lex 0 (b++s))=match iB ag (lex 0 s)with
  | .ok p=>.ok p
  | .error e=>.error (iL b.length e):=by
  rw[agv b 0 s hb,aq0,am0]
 rcases ahL (s:=b++s) ha (aS hl)with⟨q,x,h1,-, -, -, h2⟩|⟨e,h1,h2⟩<;>rcases ahL (s:=s) ha ah with⟨q',x',g1,-, -, -, g2⟩|⟨e',g1,g2⟩<;>rw[h1,g1]at e1
 ·cases e1
  rcases h2 with⟨a1,a2⟩|⟨a1,a2⟩<;>rcases g2 with⟨b1,b2⟩|⟨b1,b2⟩
  ·rw[a2,b2]
  ·rw[a1]at b1;cases b1
  ·rw[a1]at b1;cases b1
  rw[a2,b2];rfl
 ·cases e1
 ·cases e1
 cases e1
 rw[h2,g2,bu,axP];rfl
open Go.RowKit
theorem xy(l p:Tx)(w:aAX):aA7 prog 94 #[.string (tx l),.string (tx p)] w fun e w'=>e= .returned (.bool (aBo l p))/\aAW w.heap.size w w':=by
 refine(Any.strings_HasPrefix Tryz.l99 (tx l) (tx p) w).mono ?_;rintro e w' h;obtain⟨h1,h2⟩:=h;rw[kW,kW]at h1;exact⟨h1,by first|(subst h2;exact bS _ _)|(obtain⟨n,rfl⟩:=h2;exact below_drewN _ _)⟩
theorem abI(c:UInt8)(w:aAX):aA7 prog 296 #[.int .u8 c.toNat] w fun e w'=>e= .returned (.bool (dO c))/\w=w':=by
 by_cases h1:cL c=true
 ·have H1:=af h1
  have HN:=af (show dO c=true by unfold dO;rw[h1];rfl);clear h1;go_in
  go_wp2_with (go_at_call 297;refine aK (tL c _) ?_;rw[H1.oo])
  go_ret;exact⟨eC HN.oo.symm,rfl⟩
 have H1:=af (pF.2 h1)
 clear h1
 by_cases h2:bf c=true
 ·have H2:=af h2
  have HN:=af (show dO c=true by unfold dO;rw[h2];simp);clear h2;go_in
  go_wp2_with (first|(go_at_call 297;refine aK (tL c _) ?_;rw[H1.oo])|(go_at_call 298;refine aK (mI c _) ?_;rw[H2.oo]))
  go_ret;exact⟨eC HN.oo.symm,rfl⟩
 have H2:=af (pF.2 h2)
 have HN:=af (show(decide (((c.toNat:Nat):Int)=95))=dO c by
  rw[agY,H1.oo,H2.oo];simp only[pZ,M7]
  omega)
 clear h2;go_in
 go_wp2_with (first|(go_at_call 297;refine aK (tL c _) ?_;rw[H1.oo])|(go_at_call 298;refine aK (mI c _) ?_;rw[H2.oo]))
 go_ret;exact⟨eC (by rw[<-HN.oo];first|rfl|(rw[jE];simp)),rfl⟩
theorem aju(hk:k<=r.length)(h: ∀(i:Nat) (x:UInt8),i<k->r[i]? =some x->p x=true)(hs: ∀x,r[k]? =some x->p x=false):(r.takeWhile p).length=k:=by
 have e:r=r.take k++r.drop k:=(qL _ _).symm
 have h1: ∀x∈r.take k,p x=true:=fun x hx=>by
  obtain⟨i,hi⟩:=pE.1 hx;have aA:i<k:=by have:=(bt.1 hi).1;simp at this;omega
  rw[IJ aA]at hi;exact h i x aA hi
 rw[e,EU h1]
 have h2:(r.drop k).takeWhile p=[]:=by
  cases hd:r.drop k with
  |nil=>rfl
  | cons y t=>
    have:r[k]? =some y:=by
     have:=tA (xs:=r) (i:=k) (j:=0);rw[hd]at this;simpa using this.symm
    rw[mU,ai (by rw[hs y this];decide)]
 rw[h2,jD,lI,wg hk]
theorem arn(h:cL c=true)(e:(r.takeWhile dO).length=k):cW (c::r)=1+k:=by rw[lz];rw[ak h,e]
theorem ark(h:cL c=false)(h2:bf c=true)(e:(r.takeWhile bf).length=k):cW (c::r)=1+k:=by rw[lz];rw[ai (by rw[h];decide),ak (by rw[h2];rfl),e]
theorem aro(h:c=45/\r.head?.any bf=true)(e:(r.takeWhile bf).length=k):cW (c::r)=1+k:=by obtain⟨rfl,h2⟩:=h;rw[lz];rw[ai ay,ak (by rw[h2];rfl),e]
theorem Uv(c:UInt8)(r:Tx)(h:cL c=true\/(cL c=false/\bf c=true)\/(c=45/\ ∃d r',d::r'=r/\bf d=true))(hl:r.length+1<=9223372036854775807)(w:aAX):aA7 prog 235 #[.string (tx (c::r))] w fun e w'=>e= .returned (.int .i64 (cW (c::r)))/\w=w':=by
 have hs:=bC (c::r);obtain⟨n,hn⟩:=aF ((tx (c::r)).size);have Rs:=af (show n=r.length+1 by rw[<-hn,hs];simp);have i0:=oU (c::r) c rfl;clear hs;rcases h with h|⟨h,h2⟩|⟨h45,d,r',hr,hdd⟩
 focus
  have HC:=af h;obtain⟨p,HQ,HL⟩: ∃p:UInt8->Bool,Hid (p=dO)/\Hid (∀k,(r.takeWhile p).length=k->cW (c::r)=1+k):=⟨_,af rfl,af fun k e=>arn h e⟩;clear h;go_in
  go_wp2_with (go_at_call 297;refine aK (tL c _) ?_;rw[HC.oo])
 rotate_left
 focus
  have HC:=af h;have HD:=af h2;obtain⟨p,HQ,HL⟩: ∃p:UInt8->Bool,Hid (p=bf)/\Hid (∀k,(r.takeWhile p).length=k->cW (c::r)=1+k):=⟨_,af rfl,af fun k e=>ark h h2 e⟩;clear h h2;go_in
  go_wp2_with (first|(go_at_call 297;refine aK (tL c _) ?_;rw[HC.oo])|(go_at_call 298;refine aK (mI c _) ?_;rw[HD.oo]))
 rotate_left
 focus
  have HC:=af (show cL c=false by rw[h45];decide);have HD:=af (show bf c=false by rw[h45];decide);have H8:=af hdd;have i1: ∀w,(aBx 9 (.string (tx (c::r))) (.int .i64 1)).run prog w= .ok (.int .u8 d.toNat) w:=cH (c::r) 1 d (by rw[<-hr];rfl);have Zm:((c.toNat:Int)==45)=true:=by rw[h45];decide
  have zg:decide (1<(n:Int))=true:=by have:=Rs.oo;rw[<-hr]at this;simp at this;simp;omega
  obtain⟨p,HQ,HL⟩: ∃p:UInt8->Bool,Hid (p=bf)/\Hid (∀k,(r.takeWhile p).length=k->cW (c::r)=1+k):=⟨_,af rfl,af fun k e=>aro ⟨h45,by rw[<-hr];simpa using hdd⟩ e⟩;clear h45 hr hdd;go_in
  go_wp2_with (first|(go_at_call 297;refine aK (tL c _) ?_;rw[HC.oo])|(go_at_call 298;first|(refine aK (mI d _) ?_;rw[H8.oo])|(refine aK (mI c _) ?_;rw[HD.oo])))
 rotate_left
 all_goals
  go_loop [4] (fun i=> ∃k:Nat,k<=r.length/\i= .int .i64 ((k:Int)+1)/\Hid (∀(i:Nat) (x:UInt8),i<k->r[i]? =some x->p x=true)) (fun i=>r.length+1-(intOf i).toNat)
  ·exact⟨0,ah,by go_num,fun i x hi=>absurd hi (iz i)⟩
  obtain⟨k,hk,rfl,HM⟩:=hrel
  by_cases aA:k<r.length
  ·obtain⟨x,hx⟩: ∃x,r[k]? =some x:=⟨_,aV aA⟩
   have ix:=cH (c::r) (k+1) x (aS hx);rw[show((k+1:Nat):Int)=(k:Int)+1 by omega]at ix;have HX:=af hx;have zl:decide ((k:Int)+1<(n:Int))=true:=by have:=Rs.oo;simp;omega
   clear hx;cases hp:p x with
   | true=>
     have HP:=af hp
     have gJ:=af (show ∀(i:Nat) (y:UInt8),i<k+1->r[i]? =some y->p y=true from fun i y hi hy=>by
      rcases fO.1 hi with h|h
      ·exact Fo
      subst h;rw[HX.oo]at hy;cases hy;exact HP.oo)
     clear hp
     go_wp2_with (first|(go_at_call 296;refine aK (abI x _) ?_;rw[<-HQ.oo,HP.oo])|(go_at_call 298;refine aK (mI x _) ?_;rw[<-HQ.oo,HP.oo]))
     go_round
     case rel=>exact⟨k+1,ah,by go_num,gJ⟩
     case measure=>simp[intOf];omega
   | false=>
     have HP:=af hp;have HF:=af (HL.oo _ (aju hk HM.oo (fun y hy=>by rw[HX.oo]at hy;cases hy;exact HP.oo)));clear hp
     go_wp2_with (first|(go_at_call 296;refine aK (abI x _) ?_;rw[<-HQ.oo,HP.oo])|(go_at_call 298;refine aK (mI x _) ?_;rw[<-HQ.oo,HP.oo]))
     go_ret;exact⟨nA (by rw[HF.oo];omega),rfl⟩
  obtain rfl:k=r.length:=ah
  have HF:=af (HL.oo _ (aju hk HM.oo (fun y hy=>by rw[mg (aX _)]at hy;cases hy)));have zl:decide ((r.length:Int)+1<(n:Int))=false:=by have:=Rs.oo;simp;omega
  go_wp2;go_ret;exact⟨nA (by rw[HF.oo];omega),rfl⟩
theorem Xr(h1:cL c=false)(h2:bf c=false)(h3: ¬(c=45/\r.head?.any bf=true)):cW (c::r)=if aBo (c::r) [47,92]||aBo (c::r) [92,47]then 2 else 1:=by
 have e:((c==47&&r.head?==some 92)||(c==92&&r.head?==some 47))=(aBo (c::r) [47,92]||aBo (c::r) [92,47]):=by
  unfold aBo;cases r with
  |nil=>simp[List.isPrefixOf]
  | cons d r=>
    have hb: ∀a b:UInt8,(a==b)=(b==a):=fun a b=>by rw[jE,pW,pW];exact wo
    show((c==47&&(d==92))||(c==92&&(d==47)))=((47==c&&(92==d&&true))||(92==c&&(47==d&&true)));rw[hb 47 c,hb 92 d,hb 92 c,hb 47 d,yd,yd]
 rw[lz]
 rw[ai (by rw[h1];decide),ai (by
  rw[h2,pZ,bV];rintro⟨a,b⟩;exact h3 ⟨by simpa using a,b⟩),e]
theorem amy(c:UInt8)(h45:c=45)(w:aAX):aA7 prog 235 #[.string (tx [c])] w fun e w'=>e= .returned (.int .i64 (cW [c]))/\aAW w.heap.size w w':=by
 have HC:=af (show cL c=false by rw[h45];decide);have HD:=af (show bf c=false by rw[h45];decide);have i0:=oU [c] c rfl;have zl:decide (1<((tx [c]).size:Int))=false:=by rw[bC];simp
 have ze:((c.toNat:Int)==45)=true:=by rw[h45];decide
 have HF:=af (Xr HC.oo HD.oo (r:=[]) aq);have P1:=af (fun w=>xy [c] [47,92] w);have P2:=af (fun w=>xy [c] [92,47] w);generalize aBo [c] [47,92]=b1 at*;generalize aBo [c] [92,47]=b2 at*;clear h45;go_in;cases b1
 ·go_wp2_with (first|(go_at_call 297;refine aK (tL c _) ?_;rw[HC.oo])|(go_at_call 298;first|(refine aK (mI c _) ?_;rw[HD.oo])))
  refine aQ (P1.oo _) fun w1 E1=>?_
  cases b2
  ·go_wp2_with fail
   refine aQ (P2.oo _) fun w2 E2=>?_
   exact Fp
  go_wp2_with fail
  refine aQ (P2.oo _) fun w2 E2=>?_
  exact Fp
 go_wp2_with (first|(go_at_call 297;refine aK (tL c _) ?_;rw[HC.oo])|(go_at_call 298;first|(refine aK (mI c _) ?_;rw[HD.oo])))
 refine aQ (P1.oo _) fun w1 E1=>?_
 exact U1
theorem amz(c:UInt8)(h45:c=45)(d:UInt8)(r:Tx)(hdd:bf d=false)(hl:r.length+2<=9223372036854775807)(w:aAX):aA7 prog 235 #[.string (tx (c::d::r))] w fun e w'=>e= .returned (.int .i64 (cW (c::d::r)))/\aAW w.heap.size w w':=by
 have HC:=af (show cL c=false by rw[h45];decide);have HD:=af (show bf c=false by rw[h45];decide);have i0:=oU (c::d::r) c rfl;have i1: ∀w,(aBx 9 (.string (tx (c::d::r))) (.int .i64 1)).run prog w= .ok (.int .u8 d.toNat) w:=cH (c::d::r) 1 d rfl;have zl:decide (1<((tx (c::d::r)).size:Int))=true:=by rw[bC];simp;omega
 have ze:((c.toNat:Int)==45)=true:=by rw[h45];decide
 have H8:=af hdd;clear hdd;have HF:=af (Xr HC.oo HD.oo (r:=(d::r)) (by simp[H8.oo]));have P1:=af (fun w=>xy (c::d::r) [47,92] w);have P2:=af (fun w=>xy (c::d::r) [92,47] w);generalize aBo (c::d::r) [47,92]=b1 at*;generalize aBo (c::d::r) [92,47]=b2 at*;clear hl h45;go_in;cases b1
 ·go_wp2_with (first|(go_at_call 297;refine aK (tL c _) ?_;rw[HC.oo])|(go_at_call 298;first|(refine aK (mI c _) ?_;rw[HD.oo])|(refine aK (mI d _) ?_;rw[H8.oo])))
  refine aQ (P1.oo _) fun w1 E1=>?_
  cases b2
  ·go_wp2_with fail
   refine aQ (P2.oo _) fun w2 E2=>?_
   exact Fp
  go_wp2_with fail
  refine aQ (P2.oo _) fun w2 E2=>?_
  exact Fp
 go_wp2_with (first|(go_at_call 297;refine aK (tL c _) ?_;rw[HC.oo])|(go_at_call 298;first|(refine aK (mI c _) ?_;rw[HD.oo])|(refine aK (mI d _) ?_;rw[H8.oo])))
 refine aQ (P1.oo _) fun w1 E1=>?_
 exact U1
theorem amA(c:UInt8)(r:Tx)(hc:cL c=false)(hd:bf c=false)(h45:c≠45)(hl:r.length+1<=9223372036854775807)(w:aAX):aA7 prog 235 #[.string (tx (c::r))] w fun e w'=>e= .returned (.int .i64 (cW (c::r)))/\aAW w.heap.size w w':=by
 have HC:=af (show cL c=false by exact hc);have HD:=af (show bf c=false by exact hd);have i0:=oU (c::r) c rfl;have ze:((c.toNat:Int)==45)=false:=by simpa using rG c 45 h45
 have HF:=af (Xr HC.oo HD.oo (r:=r) (by rintro⟨e, -⟩;exact h45 e));have P1:=af (fun w=>xy (c::r) [47,92] w);have P2:=af (fun w=>xy (c::r) [92,47] w);generalize aBo (c::r) [47,92]=b1 at*;generalize aBo (c::r) [92,47]=b2 at*;clear hl hc hd h45;go_in;cases b1
 ·go_wp2_with (first|(go_at_call 297;refine aK (tL c _) ?_;rw[HC.oo])|(go_at_call 298;first|(refine aK (mI c _) ?_;rw[HD.oo])))
  refine aQ (P1.oo _) fun w1 E1=>?_
  cases b2
  ·go_wp2_with fail
   refine aQ (P2.oo _) fun w2 E2=>?_
   exact Fp
  go_wp2_with fail
  refine aQ (P2.oo _) fun w2 E2=>?_
  exact Fp
 go_wp2_with (first|(go_at_call 297;refine aK (tL c _) ?_;rw[HC.oo])|(go_at_call 298;first|(refine aK (mI c _) ?_;rw[HD.oo])))
 refine aQ (P1.oo _) fun w1 E1=>?_
 exact U1
theorem amx(s:Tx)(hs:s≠[])(hl:s.length<=9223372036854775807)(w:aAX):aA7 prog 235 #[.string (tx s)] w fun e w'=>e= .returned (.int .i64 (cW s))/\aAW w.heap.size w w':=by
 have up: ∀{e:aBp} {v:aAY} {w':aAX},(e= .returned v/\w=w')->(e= .returned v/\aAW w.heap.size w w'):=fun h=>⟨h.1,by rw[<-h.2];exact bS _ _⟩
 cases s with
 |nil=>exact absurd rfl hs
 | cons c r=>
   simp only[cy]at hl;cases hc:cL c with
   |true=>exact(Uv c r (.inl hc) hl w).mono fun e w' h=>up h
   | false=>
     cases hd:bf c with
     |true=>exact(Uv c r (.inr (.inl ⟨hc,hd⟩)) hl w).mono fun e w' h=>up h
     | false=>
       by_cases h45:c=45
       ·cases r with
        |nil=>exact amy c h45 w
        | cons d r=>
          cases hdd:bf d with
          |true=>exact(Uv c (d::r) (.inr (.inr ⟨h45,d,r,rfl,hdd⟩)) (aS hl) w).mono fun e w' h=>up h
          |false=>exact amz c h45 d r hdd (aS hl) w
       exact amA c r hc hd h45 hl w
theorem anw(n b0 b1 b2 b3:Nat)(h: ¬b0<128):128<=(Lib.decodeN n b0 b1 b2 b3).1:=by
 unfold Lib.decodeN;rw[ai h]
 repeat' split
 all_goals(simp only;omega)
theorem axf(l:Tx)(pos:Nat)(c:UInt8)(hc:l[pos]? =some c):(c.toNat<128/\aBq (tx l) pos=(c.toNat,1))\/(128<=c.toNat/\128<=(aBq (tx l) pos).1/\1<=(aBq (tx l) pos).2/\pos+(aBq (tx l) pos).2<=l.length/\ ∀j d,j<(aBq (tx l) pos).2->l[pos+j]? =some d->128<=d.toNat):=by
 have aA:=(bt.1 hc).1;have g: ∀k,l.getD k 0=(l[k]?).getD 0:=fun k=>by simp[List.getD]
 have h:=Lib.decode_N (tx l) pos;rw[kW]at h;have h0:(l.getD pos 0)=c:=by rw[g,hc];rfl
 rw[h0]at h;have hcv:=c.toNat_lt
 by_cases h1:c.toNat<128
 ·left
  refine⟨h1,?_⟩;rw[h,Lib.decodeN_ascii _ _ _ _ _ h1]
 right
 have hh:=anw (l.length-pos) c.toNat (l.getD (pos+1) 0).toNat (l.getD (pos+2) 0).toNat (l.getD (pos+3) 0).toNat h1;have hw:=Lib.decodeN_ge1 (l.length-pos) c.toNat (l.getD (pos+1) 0).toNat (l.getD (pos+2) 0).toNat (l.getD (pos+3) 0).toNat;obtain⟨c2,c3,c4,c5⟩:=Lib.decodeN_conts (l.length-pos) c.toNat (l.getD (pos+1) 0).toNat (l.getD (pos+2) 0).toNat (l.getD (pos+3) 0).toNat;rw[h];generalize Lib.decodeN (l.length-pos) c.toNat (l.getD (pos+1) 0).toNat (l.getD (pos+2) 0).toNat (l.getD (pos+3) 0).toNat=p at*;refine⟨ ah,hh,hw,?_,fun j d hj hd=>?_⟩
 ·have:=p.2
  rcases iA 3 p.2 with k|k
  ·have:=(c4 k).2;omega
  rcases iA 2 p.2 with k|k
  ·have:=(c3 k).2;omega
  rcases iA 1 p.2 with k|k
  ·have:=(c2 k).2;omega
  omega
 have gd: ∀k,l[k]? =some d->l.getD k 0=d:=fun k hk=>by rw[g,hk];rfl
 match j,hj with
 |0,_=>rw[gK,hc]at hd;cases hd;omega
 |1,hj=>have:=(c2 ah).1;rw[gd _ hd]at this;omega
 |2,hj=>have:=(c3 ah).1;rw[gd _ hd]at this;omega
 |3,hj=>have:=(c4 ah).1;rw[gd _ hd]at this;omega
 |k+4,hj=>omega
def dH:Tx->Tx->List Tx
 |u,[]=>gW u
 |u,c::r=>if aH c then gW u++dH [] r else dH (u++[c]) r
theorem yB(u:Tx)(r:Tx)(h:aH c=true):dH u (c::r)=gW u++dH [] r:=by rw[dH,ak h]
theorem Fx(u:Tx)(r:Tx)(h:aH c=false):dH u (c::r)=dH (u++[c]) r:=by rw[dH,ai (by rw[h];decide)]
theorem Ok: ∀(x u r:Tx),(∀c∈x,aH c=false)->dH u (x++r)=dH (u++x) r
 |[],u,r,_=>by simp
 |c::x,u,r,h=>by rw[cY,Fx _ _ (h c aq),Ok x _ r (fun d hd=>h d (by simp[hd]))];simp
def qv(n:Nat):Bool:=decide (n=32)||(decide (n=9)||(decide (n=10)||decide (n=13)))
theorem Qz(c:UInt8):qv c.toNat=aH c:=by
 have:=qB (p:=fun c=>qv c.toNat==aH c) dD c;simpa using this
theorem ao6(h:128<=c.toNat):aH c=false:=by
 rw[<-Qz];unfold qv;simp;omega
def P9(l:Tx)(x:Nat × Nat):Tx:=(l.take x.2).drop x.1
def opn(l:Tx)(st:Option Nat)(pos:Nat):Tx:=match st with
 |some a=>(l.take pos).drop a
 |none=>[]
theorem QM(l:Tx)(a pos k:Nat)(h:a<=pos)(hp:pos+k<=l.length):(l.take (pos+k)).drop a=(l.take pos).drop a++(l.drop pos).take k:=by
 rw[Nc,tg aC]
theorem DG(l:Tx): ∀(f pos:Nat) (st:Option Nat) (aD:List (Nat × Nat)),l.length<=pos+f->pos<=l.length->(∀a,st=some a->a<pos)->
 aD.map (P9 l)++dH (opn l st pos) (l.drop pos)=(aBr (tx l) (aBs qv (tx l) f pos st aD)).map (P9 l)
 | 0,pos,st,aD,h,hp,hst=>by
   obtain rfl:pos=l.length:=ah;rw[wD];cases st with
   |none=>simp[aBs,aBr,opn,dH,gW]
   | some a=>
     have:=hst a rfl;have aN:l.drop a≠[]:=aC;simp only[aBs,aBr,opn,dH,jC,pG,ox,EO,P9,bC];rw[yD aN]
 | f+1,pos,st,aD,h,hp,hst=>by
   by_cases aA:pos<l.length
   ·have hc:l[pos]? =some l[pos]:=aV aA
    obtain⟨c,hcc⟩:=aF (l[pos]);rw[hcc]at hc;have hd:l.drop pos=c::l.drop (pos+1):=by rw[jB aA,hcc]
    unfold aBs;rw[ak (by rw[bC];exact aA)];rcases axf l pos c hc with⟨h1,h2⟩|⟨h1,h2,h3,h4,h5⟩
    ·rw[h2]
     simp only;rw[Qz];have one:(l.drop pos).take 1=[c]:=by rw[hd];rfl
     cases hb:aH c with
     | true=>
       simp only[lG];cases st with
       | none=>
         rw[<-DG l f (pos+1) none aD ah ah (fun a h=>by cases h),hd,yB _ _ hb];rfl
       | some a=>
         have ha:=hst a rfl;rw[<-DG l f (pos+1) none _ ah ah (fun a h=>by cases h),hd,yB _ _ hb]
         have aN:(l.take pos).drop a≠[]:=by
          intro e;have:=congrArg aBd e;rw[dG,lI]at this;simp only[je]at this;omega
         show _++(gW ((l.take pos).drop a)++_)=_;rw[yD aN,pG,dA];rfl
     | false=>
       simp only[ow,kn];cases st with
       | none=>
         rw[<-DG l f (pos+1) (some pos) aD ah ah (fun a h=>by cases h;omega),hd,Fx _ _ hb];show _++dH ([]++[c]) _=_++dH ((l.take (pos+1)).drop pos) _;rw[QM l pos pos 1 (aX _) ah,one];simp
       | some a=>
         have ha:=hst a rfl;rw[<-DG l f (pos+1) (some a) aD ah ah (fun b h=>by cases h;omega),hd,Fx _ _ hb];show _++dH ((l.take pos).drop a++[c]) _=_++dH ((l.take (pos+1)).drop a) _;rw[QM l a pos 1 ah ah,one]
    have hr:qv (aBq (tx l) pos).1=false:=by unfold qv;simp;omega
    generalize aBq (tx l) pos=p at*;obtain⟨r,wd⟩:=p;simp only at hr h3 h4 h5⊢;rw[hr];simp only[ow,kn]
    have hx: ∀c∈(l.drop pos).take wd,aH c=false:=fun d hd=>by
     obtain⟨j,hj⟩:=pE.1 hd
     have hjw:j<wd:=by
      have:=(bt.1 hj).1;exact Cy
     rw[IJ hjw,tA]at hj;exact ao6 (h5 j d hjw hj)
    have hsp:l.drop pos=(l.drop pos).take wd++l.drop (pos+wd):=by rw[<-gC,qL]
    cases st with
    | none=>
      rw[<-DG l f (pos+wd) (some pos) aD ah ah (fun a h=>by cases h;omega)]
      conv=>lhs;rw[hsp]
      rw[Ok _ _ _ hx];show _++dH ([]++_) _=_++dH ((l.take (pos+wd)).drop pos) _;rw[QM l pos pos wd (aX _) h4];simp
    | some a=>
      have ha:=hst a rfl;rw[<-DG l f (pos+wd) (some a) aD ah ah (fun b h=>by cases h;omega)]
      conv=>lhs;rw[hsp]
      rw[Ok _ _ _ hx];show _++dH ((l.take pos).drop a++_) _=_++dH ((l.take (pos+wd)).drop a) _;rw[QM l a pos wd ah h4]
   obtain rfl:pos=l.length:=ah
   rw[Lib.spansFromP_end _ _ _ _ _ _ (by rw[bC];exact aA),wD];cases st with
   |none=>simp[aBr,opn,dH,gW]
   | some a=>
     have:=hst a rfl;have aN:l.drop a≠[]:=aC;simp only[aBr,opn,dH,jC,pG,ox,EO,P9,bC];rw[yD aN]
theorem anU(l:Tx):Lib.goFieldsP qv (tx l)=(dH [] l).map tx:=by
 unfold Lib.goFieldsP Lib.spansOfP;have h:=DG l l.length 0 none [] ah ah (fun a h=>by cases h);rw[bC];rw[EO,eE,jg]at h;show _=(dH (opn l none 0) l).map tx;rw[h,Cj];apply IZ;intro x hx;exact QV l x.1 x.2
theorem Oq: ∀(a u b:Tx),(∀c∈b,aH c=true)->dH u (a++b)=dH u a
 |[],u,[],_=>rfl
 | [],u,c::b,h=>by
   have:=Oq [] [] b (fun d hd=>h d (by simp[hd]));rw[eE]at this;rw[eE,yB _ _ (h c aq),this];simp[dH,gW]
 | x::a,u,b,h=>by
   rw[cY];cases hb:aH x with
   |true=>rw[yB _ _ hb,yB _ _ hb,Oq a [] b h]
   |false=>rw[Fx _ _ hb,Fx _ _ hb,Oq a _ b h]
theorem Oo: ∀l:Tx,dH [] (l.dropWhile aH)=dH [] l
 |[]=>rfl
 | c::r=>by
   rw[k7];split
   ·rename_i h;rw[Oo r,yB _ _ h];rfl
   rfl
theorem aop(l:Tx):dH [] (aG l)=dH [] l:=by
 obtain⟨b,h1,h2⟩:=sH l;rw[rF,Oo]
 conv=>rhs;rw[h1]
 exact(Oq _ _ _ h2).symm
theorem Ot{w:Tx}(h0:w≠[])(h: ∀c∈w,aH c=false)(hr: ∀c,r.head?=some c->aH c=true):dH [] (w++r)=w::dH [] r:=by
 rw[Ok _ _ _ h,eE];cases r with
 |nil=>simp[dH,yD h0];rfl
 |cons c r=>rw[yB _ _ (hr c rfl),yB _ _ (hr c rfl),yD h0];rfl
theorem aoo(h: ∃c∈s,aH c=false):dH [] s≠[]:=by
 obtain⟨c,hc,hb⟩:=h;rw[<-Oo];have hm:=NS aH c hb s hc;cases hd:s.dropWhile aH with
 |nil=>rw[hd]at hm;cases hm
 | cons x t=>
   have hx:aH x=false:=lQ (l:=s) (by rw[hd];rfl);have e:x::t=(x::t.takeWhile nb)++t.dropWhile nb:=aq
   rw[e,Ot aq (fun c hc=>by
    rcases cq.1 hc with rfl|hc
    ·exact hx
    have:=fP.1 wA c hc;unfold nb at this;simpa using this) (fun c hc=>by have:=lQ hc;unfold nb at this;simpa using this)]
   simp
theorem ay8{t:Tx}(h:Tr t):sN t=match dH [] t with
 |[a,b]=>some (a,b)
 |_=>none:=by
 cases t with
 |nil=>rfl
 | cons x t=>
   have hx:=h.1 x rfl;have e:x::t=(x::t).takeWhile nb++(x::t).dropWhile nb:=aq;have mo:nb x=true:=by unfold nb;rw[hx];rfl
   have hw:dH [] (x::t)=(x::t).takeWhile nb::dH [] ((x::t).dropWhile nb):=by
    conv=>lhs;rw[e]
    refine Ot (by rw[mU,ak mo];simp) (fun c hc=>?_) (fun c hc=>?_)
    ·have:=fP.1 wA c hc;unfold nb at this;simpa using this
    have:=lQ hc;unfold nb at this;simpa using this
   have FT: ∀c,((x::t).dropWhile nb).dropWhile aH≠[]->(((x::t).dropWhile nb).dropWhile aH).getLast?=some c->aH c=false:=fun c _ hc=>
    h.2 c (Kw (Kw hc))
   rw[hw,<-Oo];unfold sN;simp only;have ao3: ∀c,(((x::t).dropWhile nb).dropWhile aH).head?=some c->aH c=false:=fun c hc=>lQ hc
   generalize ((x::t).dropWhile nb).dropWhile aH=m at*;cases m with
   |nil=>rfl
   | cons y m=>
     have hy:=ao3 y rfl;cases hb:(y::m).any aH with
     | false=>
       rw[ai aq]
       have hall: ∀c∈y::m,aH c=false:=fun c hc=>by
        have:=List.any_eq_false.1 hb c hc;simpa using this
       have:dH [] ((y::m)++[])=[y::m]:=by
        rw[Ot aq hall (fun c hc=>by cases hc)];rfl
       rw[jD]at this;rw[this]
     | true=>
       rw[ak (.inr rfl)];have e2:y::m=(y::m).takeWhile nb++(y::m).dropWhile nb:=aq;have hny:nb y=true:=by unfold nb;rw[hy];rfl
       have hw2:dH [] (y::m)=(y::m).takeWhile nb::dH [] ((y::m).dropWhile nb):=by
        conv=>lhs;rw[e2]
        refine Ot (by rw[mU,ak hny];simp) (fun c hc=>?_) (fun c hc=>?_)
        ·have:=fP.1 wA c hc;unfold nb at this;simpa using this
        have:=lQ hc;unfold nb at this;simpa using this
       have aN:dH [] ((y::m).dropWhile nb)≠[]:=by
        apply aoo
        have hm:(y::m).dropWhile nb≠[]:=by
         intro e;obtain⟨c,hc,hcb⟩:=qN.1 hb;have:=wJ e c hc;unfold nb at this;rw[hcb]at this;cases this
        obtain⟨z,hz⟩: ∃z,((y::m).dropWhile nb).getLast?=some z:=⟨_,pz hm⟩;exact⟨z,ym hz,FT z aq (Kw hz)⟩
       rw[hw2];cases hf:dH [] ((y::m).dropWhile nb)with
       |nil=>exact absurd hf aN
       |cons a b=>rfl
open Go.Sort
@[reducible] def Ju(t:Tok):List aAY:=[.string (tx t.1),.int .i64 t.2]
theorem mH(t:Tok):(Ju t).length=2:=rfl
theorem QS:kg prog 182 232 (.agg #[.string ByteArray.empty,.int .i64 0]) 2 24:=⟨underlying182,by kernel_rfl,rfl,ay⟩
theorem cQ.tok(h:cQ Ju w a l){x:Tok}(hk:l[k]? =some x):
 w.cell? ⟨bk a,fo a+k*2,none⟩=some (.string (tx x.1))/\w.cell? ⟨bk a,fo a+k*2+1,none⟩=some (.int .i64 x.2):=
 ⟨h.cell0 mH hk ah,h.cell mH hk 1 ah⟩
theorem abA:UF aH 234:=fun c=>Jo c _ ay
abbrev Iy(w:aAX)(B:Nat)(a:Option Addr)(n c:Nat)(l:List Tok):Prop:=au w B 232 2 a n c (flat Ju l)
def aag(s:Tx)(w:aAX)(e:aBp)(w':aAX):Prop:= ∃a c,e= .returned (.slice a (lex 0 s).length c)/\Iy w' w.heap.size a (lex 0 s).length c (lex 0 s)/\aAW w.heap.size w w'
theorem Pw(h:s[k]? =some c):lex k (s.drop k)=if aH c then lex (k+1) (s.drop (k+1))else((s.drop k).take (cW (s.drop k)),k)::lex (k+cW (s.drop k)) (s.drop (k+cW (s.drop k))):=by
 obtain⟨aA,rfl⟩:=bt.1 h;rw[jB aA];split
 ·rename_i hb;rw[Gs _ _ hb]
 rename_i hb
 rw[KC _ _ (aS hb),<-jB aA,gC]
theorem abY(s:Tx)(hl:s.length<=262144)(w:aAX):aA7 prog 157 #[.string (tx s)] w (aag s w):=by
 obtain⟨n,hn⟩:=aF ((tx s).size);have HN:=af (show n=s.length by rw[<-hn,bC]);have HL:=af hl;have hnb:n<=262144:=by rw[HN.oo];exact hl
 obtain⟨T,hT⟩:=aF (lex 0 s);have HT:=af (show lex 0 (s.drop 0)=T by rw[jg];exact hT);have HTL:=af (show T.length<=262144 by rw[<-hT];have:=Kz _ 0 s (aX _);omega);unfold aag;rw[hT];clear hl hT;go_in;go_wp2
 go_loopw [3,4] (fun o i wr=> ∃(k:Nat) (a:Option Addr) (c:Nat) (out:List Tok),k<=n/\i= .int .i64 k/\o= .slice a out.length c/\Iy wr w.heap.size a out.length c out/\Hid (T=out++lex k (s.drop k))/\aAW w.heap.size w wr) (fun o i _=>n-(intOf i).toNat)
 ·exact⟨0,none,0,[],ah,rfl,rfl,au.nil _ _ _ _,HT.oo.symm,gD⟩
 obtain⟨k,a,c,out,hk,rfl,rfl,hO,HO,E⟩:=hrel
 by_cases aA:k<n
 ·obtain⟨x,hx⟩: ∃x,s[k]? =some x:=⟨_,aV (bE HN.oo)⟩
  have ix:=cH s k x hx;have hst:=Pw hx;have HX:=af hx;clear hx;cases hb:aH x with
  | true=>
    have HB:=af hb;have pR:=af (show T=out++lex (k+1) (s.drop (k+1)) by rw[HO.oo,hst,hb];rfl);clear hb hst
    go_wp2_with (go_at_call 234;refine aK (abA x _) ?_;rw[HB.oo])
    go_roundw;exact⟨k+1,a,c,out,ah,by go_num,rfl,hO,pR,E⟩;exact ep
  | false=>
    have HB:=af hb;rw[hb]at hst
    have aN:s.drop k≠[]:=by
     intro e;have:=congrArg aBd e;have h2:=HN.oo;exact Cy
    have qV:(s.drop k).length=n-k:=by rw[dG,HN.oo]
    have CL:=af (fun w=>amx (s.drop k) aN (by have:=HL.oo;simp;omega) w)
    have hlp:1<=cW (s.drop k)/\cW (s.drop k)<=n-k:=by
     rw[<-qV];cases hd:s.drop k with
     |nil=>exact absurd hd aN
     |cons y r=>exact⟨ri y r,yR y r⟩
    have sf:=xz s k (bE HN.oo);obtain⟨m,hm⟩:=aF (cW (s.drop k));rw[hm]at hst hlp CL;have sl:=nB s k (k+m) ah (bE HN.oo);obtain⟨u,hu⟩:=aF ((s.take (k+m)).drop k);have mN:(s.drop k).take m=u:=by rw[<-hu,Nc,tg (by simp;have:=HN.oo;omega)];simp
    rw[hu]at sl;rw[mN]at hst;rw[show((k+m:Nat):Int)=(k:Int)+m by omega]at sl;have pR:=af (show T=(out++[(u,k)])++lex (k+m) (s.drop (k+m)) by rw[HO.oo,hst];simp)
    have hol:out.length<=262143:=by
     have h1:=HTL.oo;have h2:=congrArg aBd pR.oo;simp only[bu,cy,je]at h2;omega
    clear hb hst aN qV hm hu mN
    go_wp2_with (first|(go_at_call 234;refine aK (abA x _) ?_;rw[HB.oo])|fail)
    refine aQ (CL.oo _) fun w1 E1=>?_
    have hO:=au.below hO E1;have E:=aI E E1
    go_wp2_with (at_builtin;go_loud(refine mR QS (.tmp 20) (.tmp 29) rfl rfl rfl hO rfl rfl (by intro u hu;simp at hu;rcases hu with rfl|rfl<;>rfl) E E.size ah dx ?_))
    intro a' c' w2 k9 hG mm
    have jJ:Iy w2 w.heap.size a' (out++[(u,k)]).length c' (out++[(u,k)]):=by
     unfold Iy;rw[qU,uJ];simpa using k9
    go_wp2
    go_roundw;exact⟨k+m,a',c',out++[(u,k)],ah,by go_num,aq,jJ,pR,mm⟩;exact ep
 obtain rfl:k=n:=ah
 have HF:=af (show T=out by
  rw[HO.oo,show s.drop k=[]from iN (bE HN.oo),lex_nil,jD])
 exact ad7
abbrev rdC(ag:Int)(s:Tx)(a:Option Addr)(n c:Nat)(k:Int):List aAY:=[.int .i64 ag,.string (tx s),.slice a n c,.int .i64 k]
structure dV(w:aAX)(B rb:Nat)(ag:Int)(s:Tx)(a:Option Addr)(c:Nat)(L:List Tok)(k:Nat):Prop where
 own:au w B 185 4 (aBf ⟨rb,0,none⟩) 1 1 (rdC ag s a L.length c k)
 toks:cQ Ju w a L
 ne:L≠[]->bk a≠rb
 le:k<=L.length
 sm:L.length<=262144
 sl:s.length<=262144
section
variable {w:aAX} {B rb:Nat} {ag:Int} {s:Tx} {a:Option Addr} {c:Nat} {L:List Tok} {k:Nat}
theorem dV.cells(h:dV w B rb ag s a c L k):w.cell? ⟨rb,0,none⟩=aBf (.int .i64 ag)/\w.cell? ⟨rb,1,none⟩=aBf (.string (tx s))/\w.cell? ⟨rb,2,none⟩=aBf (.slice a L.length c)/\w.cell? ⟨rb,3,none⟩=aBf (.int .i64 k)/\w.frozen? ⟨rb,3,none⟩=false/\rb<w.heap.size:=by
 have f3:=au.frozen h.own aq 3;have c0:=(au.row h.own).cell 0 aq;have c1:=(au.row h.own).cell 1 aq;have c2:=(au.row h.own).cell 2 aq;have c3:=(au.row h.own).cell 3 aq;have lt:=au.lt h.own aq;simp only[jW,kM,jT]at f3 c0 c1 c2 c3 lt;exact⟨c0,c1,c2,c3,f3,lt.2⟩
theorem dV.below{w':aAX}(h:dV w B rb ag s a c L k)(hb:aAW w.heap.size w w'):dV w' B rb ag s a c L k:=
 ⟨au.below h.own hb,h.toks.below hb,h.ne,h.le,h.sm,h.sl⟩
theorem cQ.step{α:Type}{enc:α->List aAY}{m:Nat}{w w':aAX}{a:Option Addr}{l:List α}{rb:Nat}(hm: ∀x,(enc x).length=m)(hpos:0<m)(h:cQ enc w a l)(hs:Step w w' (aBf ⟨rb,0,none⟩) (aBf ⟨rb,0,none⟩))(aN:l≠[]->bk a≠rb):cQ enc w' a l:=by
 refine⟨⟨h.row.head,fun i hi=>?_⟩,h.len⟩;have h1:=h.row.cell i hi;rw[aV hi]at h1⊢;refine hs.grown.cell h1 ?_;have hl:l≠[]:=by intro e;subst e;simp[flat]at hi
 have:=aN hl;simpa using this
theorem dV.next(h:dV w B rb ag s a c L k)(hk:k<L.length):dV (w.setCell ⟨rb,3,none⟩ (.int .i64 ((k:Int)+1))) B rb ag s a c L (k+1)/\Step w (w.setCell ⟨rb,3,none⟩ (.int .i64 ((k:Int)+1))) (aBf ⟨rb,0,none⟩) (aBf ⟨rb,0,none⟩):=by
 obtain⟨o,st⟩:=au.set h.own aq 3 (.int .i64 ((k:Int)+1));simp only[jW,kM,jT]at o st;exact⟨⟨o,cQ.step mH ah h.toks st h.ne,h.ne,ah,h.sm,h.sl⟩,st⟩
end
theorem yG(h:L[k]? =some t):aJ (L.drop k)=t.1:=by
 obtain⟨aA,rfl⟩:=bt.1 h;rw[jB aA];rfl
theorem FK(h:L.length<=k):aJ (L.drop k)=[]:=by rw[iN h];rfl
theorem axL(h:L[k]? =some t):eI N (L.drop k)=t.2:=by
 obtain⟨aA,rfl⟩:=bt.1 h;rw[jB aA];rfl
theorem axO(h:L.length<=k):eI N (L.drop k)=N:=by rw[iN h];rfl
theorem awR{a b:Tx}(h:a=b):aBw (.string (tx a))= .returned (.string (tx b)):=by rw[h]
theorem JD{c:Nat}(R:dV w B rb ag s a c L k)(d:Nat)(hd:d<=1):
 aA7 prog 236 #[.pointer (some ⟨rb,0,none⟩),.int .i64 d] w (zU w (.string (tx (aJ (L.drop (k+d)))))):=by
 obtain⟨c0,c1,c2,c3,f3,lt⟩:=R.cells;have hle:=R.le;have hsm:=R.sm
 by_cases hk:k+d<L.length
 ·obtain⟨t,ht⟩: ∃t,L[k+d]? =some t:=⟨_,aV hk⟩
  obtain⟨d0,d1⟩:=R.toks.tok ht;have ix:=R.toks.idx QS mH (k+d) hk c;rw[show((k+d:Nat):Int)=(k:Int)+d by omega]at ix;have HF:=af (yG ht);clear ht R;obtain⟨u,hu⟩:=aF (aJ (L.drop (k+d)));rw[hu]at HF⊢;generalize L.length=n at*;have z:decide ((k:Int)+d<(n:Int))=true:=aC;clear hu;go_in;go_wp2_with fail
  go_big_region
  all_goals go_wp2_with fail
  all_goals go_big_region
  all_goals go_wp2_with fail
  all_goals go_ret
  all_goals exact⟨awR HF.oo.symm,oJ⟩
 have HF:=af (FK (L:=L) (k:=k+d) ah)
 clear R;obtain⟨u,hu⟩:=aF (aJ (L.drop (k+d)));rw[hu]at HF⊢;generalize L.length=n at*;have z:decide ((k:Int)+d<(n:Int))=false:=aC;clear hu;go_in;go_wp2_with fail
 go_big_region
 all_goals go_wp2_with fail
 all_goals go_ret
 all_goals exact⟨by rw[HF.oo];rfl,oJ⟩
def jw(n:Int):aBp:=.panicked [{ v:=.iface 180 (.agg #[.int .i64 n]),recovered:=false }]
theorem ahF{m n:Int}(h:m=n):jw m=jw n:=by rw[h]
theorem JA{c:Nat}(R:dV w B rb ag s a c L k):
 aA7 prog 239 #[.pointer (some ⟨rb,0,none⟩)] w fun e w'=>e=jw (eI s.length (L.drop k))/\QW w w':=by
 obtain⟨c0,c1,c2,c3,f3,lt⟩:=R.cells;have hle:=R.le;have hsm:=R.sm;have uY:=R.sl
 by_cases hk:k<L.length
 ·obtain⟨t,ht⟩: ∃t,L[k]? =some t:=⟨_,aV hk⟩
  obtain⟨d0,d1⟩:=R.toks.tok ht;have ix:=R.toks.idx QS mH k hk c;have HF:=af (axL (N:=s.length) ht);clear ht R;obtain⟨u,hu⟩:=aF (eI s.length (L.drop k));rw[hu]at HF⊢;generalize L.length=n at*;have z:decide ((k:Int)<(n:Int))=true:=aC;clear hu;go_in;go_wp2_with fail
  go_big_region
  all_goals go_wp2_with fail
  all_goals go_region_dies
  all_goals(try go_wp2_with fail)
  all_goals exact⟨rfl,ahF (by rw[HF.oo]),oJ⟩
 have HF:=af (axO (N:=s.length) (L:=L) (k:=k) ah)
 clear R;obtain⟨u,hu⟩:=aF (eI s.length (L.drop k));rw[hu]at HF⊢;generalize L.length=n at*;have hsz:(tx s).size=s.length:=bC s;have z:decide ((k:Int)<(n:Int))=false:=aC;clear hu;go_in;go_wp2_with fail
 go_big_region
 all_goals go_wp2_with fail
 all_goals exact⟨rfl,ahF (by rw[HF.oo]),oJ⟩
def de{α:Type}(o:Option α)(v:α)(ok:Bool):Prop:=o=if ok=true then some v else none
theorem de.yes{α:Type}{o:Option α}{v:α}(h:de o v true):o=some v:=h
theorem de.no{α:Type}{o:Option α}{v:α}(h:de o v false):o=none:=h
def Mz(o:Option Int)(w:aAX)(e:aBp)(w':aAX):Prop:= ∃v ok,e= .returned (.tuple #[.int .i64 v,.bool ok])/\de o v ok/\aAW w.heap.size w w'
theorem ahk(h:aBh s= .ok v)(hn:bJ v=true):de (bN s) v (aA9 v==s):=by
 unfold de;rw[XK h]
 by_cases hh:aA9 v=s
 ·rw[ak ⟨hh,hn⟩,ak (aS hh)]
 rw[ai (fun h=>hh h.1),ai (aS hh)]
theorem ahi(h:aBh s= .ok v)(hn:bJ v=false)(u:Int):de (bN s) u false:=by
 unfold de;rw[XK h,ai (by rw[hn];rintro⟨-, h⟩;cases h)];rfl
theorem asj(h: ∀v,aBh s≠ .ok v)(u:Int):de (bN s) u false:=ahe h
theorem PN:bJ v=true<-> -2147483648<=v/\v<=2147483647:=by unfold bJ;rw[bV,dw,dw]
theorem ap3(s:Tx)(hl:s.length<=1000000)(w:aAX)(g:Gl w):aA7 prog 175 #[.string (tx s)] w (Mz (bN s) w):=by
 by_cases hv: ∃v,aBh s= .ok v
 ·obtain⟨v,hv⟩:=hv
  obtain⟨b1,b2⟩:=aBu hv;have AT:=af (Nk s hl v hv);have IT:=af (fun(w:aAX) (g:Gl w)=>tU v b1 b2 w g);cases hb:bJ v with
  | true=>
    have HB:=af hb;have HO:=af (ahk hv hb);obtain⟨c1,c2⟩:=PN.1 hb;obtain⟨u,hu⟩:=aF (aA9 v);rw[hu]at HO IT;have hz:((tx u).toList==(tx s).toList)=(u==s):=j9 u s;generalize (u==s)=bb at*;have z1:decide (-2147483648<=v)=true:=aS c1;have z2:decide (v<=2147483647)=true:=aS c2;go_in;go_wp2_with fail;refine aQ (AT.oo _) fun w1 E=>?_
    have g1:=g.below E
    go_wp2_with (first|fail|(go_at_call 178;refine aK (Pn v _) ?_;rw[HB.oo]))
    refine aQ (IT.oo _ g1) fun w2 E2=>?_
    have E:=aI E E2;cases bb<;>
    ·go_wp2
     go_ret2;exact⟨v,_,rfl,HO.oo,E⟩
  | false=>
    have HB:=af hb;have HO:=af (ahi hv hb);go_in;go_wp2_with fail;refine aQ (AT.oo _) fun w1 E=>?_
    go_wp2_with (first|fail|(go_at_call 178;refine aK (Pn v _) ?_;rw[HB.oo]))
    exact U2
 have hv: ∀v,aBh s≠ .ok v:=fun v h=>hv ⟨v,h⟩
 exact ad8
theorem aiB(s:Tx)(hl:s.length<=1000000)(w:aAX)(g:Gl w):aA7 prog 51 #[.string (tx s)] w (Mz (bN s) w):=by
 by_cases hv: ∃v,aBh s= .ok v
 ·obtain⟨v,hv⟩:=hv
  obtain⟨b1,b2⟩:=aBu hv;have AT:=af (Nk s hl v hv);have IT:=af (fun(w:aAX) (g:Gl w)=>tU v b1 b2 w g);cases hb:bJ v with
  | true=>
    have HB:=af hb;have HO:=af (ahk hv hb);obtain⟨c1,c2⟩:=PN.1 hb;obtain⟨u,hu⟩:=aF (aA9 v);rw[hu]at HO IT;have hz:((tx u).toList==(tx s).toList)=(u==s):=j9 u s;generalize (u==s)=bb at*;have z1:decide (-2147483648<=v)=true:=aS c1;have z2:decide (v<=2147483647)=true:=aS c2;go_in;go_wp2_with fail;refine aQ (AT.oo _) fun w1 E=>?_
    have g1:=g.below E
    go_wp2_with (first|fail)
    refine aQ (IT.oo _ g1) fun w2 E2=>?_
    have E:=aI E E2;cases bb<;>
    ·go_wp2
     go_ret2;exact⟨v,_,rfl,HO.oo,E⟩
  | false=>
    have HO:=af (ahi hv hb)
    have c:v< -2147483648\/(-2147483648<=v/\2147483647<v):=by
     rcases Tv v (-2147483648)with h|h
     ·exact .inl h
     refine .inr ⟨h,?_⟩
     rcases Tv 2147483647 v with h'|h'
     ·exact h'
     rw[PN.2 ⟨h,h'⟩]at hb;cases hb
    obtain⟨u,hu⟩:=aF (aA9 v);rw[hu]at IT;have hz:((tx u).toList==(tx s).toList)=(u==s):=j9 u s;generalize (u==s)=bb at*;rcases c with c|⟨c1,c2⟩
    ·have z1:decide (-2147483648<=v)=false:=aC
     go_in;go_wp2_with fail;refine aQ (AT.oo _) fun w1 E=>?_
     have g1:=g.below E;go_wp2_with fail;refine aQ (IT.oo _ g1) fun w2 E2=>?_
     have E:=aI E E2;cases bb<;>
     ·go_wp2
      exact U2
    have z1:decide (-2147483648<=v)=true:=aS c1
    have z2:decide (v<=2147483647)=false:=aC;go_in;go_wp2_with fail;refine aQ (AT.oo _) fun w1 E=>?_
    have g1:=g.below E;go_wp2_with fail;refine aQ (IT.oo _ g1) fun w2 E2=>?_
    have E:=aI E E2;cases bb<;>
    ·go_wp2
     exact U2
 have hv: ∀v,aBh s≠ .ok v:=fun v h=>hv ⟨v,h⟩
 exact ad8
def vr(o:Option Nat):Int × Int:=match o with
 |some n=>(n,0)
 |none=>(0,90)
theorem aiO(h:n<15)(e:cg n=s):vr (dK s)=((n:Int),0):=by subst e;rw[Qq h];rfl
theorem aiQ(h: ∀m,m<15->cg m≠s):vr (dK s)=(0,90):=by
 cases hr:dK s with
 |none=>rfl
 |some n=>obtain⟨h1,h2⟩:=Qr hr;exact absurd h2.symm (h n h1)
theorem aiZ{a c d:Int}(h:a=c)(h':b=d):aBw (.tuple #[.int .i64 a,.int .i64 b])= .returned (.tuple #[.int .i64 c,.int .i64 d]):=by rw[h,h']
abbrev St(w w':aAX)(rb:Nat):Prop:=Step w w' (aBf ⟨rb,0,none⟩) (aBf ⟨rb,0,none⟩)
theorem St.refl(w:aAX)(rb:Nat):St w w rb:=bX (bS _ _)
theorem QW.cm{w':aAX}(h:QW w w'):aAW w.heap.size w w':=by obtain⟨n,rfl⟩:=h;exact below_drewN _ _
def iW{α:Type}(w:aAX)(B rb:Nat)(ag:Int)(s:Tx)(a:Option Addr)(c:Nat)(L:List Tok)(p:PR α)(V:α->aBp->aAX->Prop)(e:aBp)(w':aAX):Prop:=
 St w w' rb/\((∃l,p= .error l/\e=jw (eI s.length l))\/(∃x k,p= .ok (x,L.drop k)/\V x e w'/\dV w' B rb ag s a c L k))
section
variable {α:Type} {w w':aAX} {B rb:Nat} {ag:Int} {s:Tx} {a:Option Addr} {c:Nat} {L:List Tok} {p:PR α} {V:α->aBp->aAX->Prop} {e:aBp}
theorem iW.ez(h:iW w B rb ag s a c L p V e w'){x:α}{r:List Tok}(hp:p= .ok (x,r)): ∃k,r=L.drop k/\V x e w'/\dV w' B rb ag s a c L k/\St w w' rb:=by
 obtain⟨h1,⟨l,h2,h3⟩|⟨y,k,h2,h3,h4⟩⟩:=h
 ·rw[hp]at h2;cases h2
 rw[hp]at h2;cases h2;exact⟨k,rfl,h3,h4,h1⟩
theorem iW.err(h:iW w B rb ag s a c L p V e w'){l:List Tok}(hp:p= .error l):e=jw (eI s.length l)/\St w w' rb:=by
 obtain⟨h1,⟨l,h2,h3⟩|⟨y,k,h2,h3,h4⟩⟩:=h
 ·rw[hp]at h2;cases h2;exact⟨h3,h1⟩
 rw[hp]at h2;cases h2
end
def Hp(p:Except (List Tok) (List Tok)):PR Unit:=match p with
 | .ok r=>.ok ((),r)
 | .error e=>.error e
def VU(x:Unit)(e:aBp)(w:aAX):Prop:=e= .returned (.tuple #[])
theorem drop_at(h:L[k]? =some t):L.drop k=t::L.drop (k+1):=by
 obtain⟨aA,rfl⟩:=bt.1 h;exact jB aA
theorem Ct{c:Nat}(R:dV w B rb ag s a c L k)(u:Tx)(hu:u≠[]):
 aA7 prog 237 #[.pointer (some ⟨rb,0,none⟩),.string (tx u)] w (iW w B rb ag s a c L (Hp (bQ u (L.drop k))) VU):=by
 have PK:=af (JD R 0 ah);rw[gK,show((0:Nat):Int)=0 by rfl]at PK;have FL:=af (fun(w:aAX) (R:dV w B rb ag s a c L k)=>JA R);have HR:=af R
 by_cases hh: ∃t,L[k]? =some t/\t.1=u
 ·obtain⟨t,ht,rfl⟩:=hh
  have hp:Hp (bQ t.1 (L.drop k))= .ok ((),L.drop (k+1)):=by rw[drop_at ht,xE,ak rfl];rfl
  have aA:=(bt.1 ht).1;rw[hp];rw[yG ht]at PK;have z:((tx t.1).toList==(tx t.1).toList)=true:=aq;have HL:=af aA;generalize t.1=u at*;go_in;go_wp2_with fail;refine PK.oo.mono ?_;rintro e w1 ⟨rfl,q⟩;have R1:=HR.oo.below q.cm;obtain⟨c0,c1,c2,c3,f3,lt⟩:=R1.cells;obtain⟨R2,S2⟩:=R1.next HL.oo;have S:=(bX (bw:=rb) q.cm).trans S2;have HS:=af S;have H2:=af R2;have hb:k<=262144:=by have:=R1.le;have:=R1.sm;omega
  go_wp2
  go_end0
  exact⟨HS.oo,.inr ⟨(),k+1,rfl,rfl,H2.oo⟩⟩
 have aN:aJ (L.drop k)≠u:=by
  intro e
  by_cases hk:k<L.length
  ·exact hh ⟨_,aV hk,by rw[<-e,yG (aV hk)]⟩
  rw[FK ah]at e;exact hu e.symm
 have hp:Hp (bQ u (L.drop k))= .error (L.drop k):=by
  by_cases hk:k<L.length
  ·have ht:=aV hk
   rw[drop_at ht,xE,ai (fun e=>hh ⟨_,ht,e⟩)];rfl
  rw[iN ah];rfl
 rw[hp];have z:((tx (aJ (L.drop k))).toList==(tx u).toList)=false:=qA aN;generalize aJ (L.drop k)=v at*;go_in;go_wp2_with fail;refine PK.oo.mono ?_;rintro e w1 ⟨rfl,q⟩;have R1:=HR.oo.below q.cm;have FL:=af (FL.oo _ R1);have Q:=af q;go_wp2_with fail;refine FL.oo.mono ?_;rintro e w2 ⟨rfl,q2⟩;unfold jw;go_wp2;exact⟨rfl,(bX (bw:=rb) Q.oo.cm).trans (bX q2.cm),.inl ⟨_,rfl,rfl⟩⟩
def VI(x:Int)(e:aBp)(w:aAX):Prop:=e= .returned (.int .i64 x)
def VS(x:Tx)(e:aBp)(w:aAX):Prop:=e= .returned (.string (tx x))/\x.length<=262144
theorem ap0{a:Int}{n:Int}(h:bN (aJ (L.drop k))=some n)(h1:a<=n)(h2:n<=b):k<L.length/\lq a b (L.drop k)= .ok (n,L.drop (k+1)):=by
 by_cases hk:k<L.length
 ·have ht:=aV hk
  rw[yG ht]at h;refine⟨hk,?_⟩;rw[drop_at ht,sw,h];exact ak ⟨h1,h2⟩
 rw[FK ah]at h
 rw[show bN []=none by decide+kernel]at h;cases h
theorem ap1{a:Int}(h: ∀n,bN (aJ (L.drop k))=some n-> ¬(a<=n/\n<=b)):lq a b (L.drop k)= .error (L.drop k):=by
 by_cases hk:k<L.length
 ·have ht:=aV hk
  rw[yG ht]at h;rw[drop_at ht,sw];cases hn:bN (L[k]).1 with
  |none=>rfl
  |some n=>exact ai (h n hn)
 rw[iN ah];rfl
theorem afi(hL: ∀t∈L,t.1.length<=s.length)(k:Nat):(aJ (L.drop k)).length<=s.length:=by
 by_cases hk:k<L.length
 ·have ht:=aV hk
  rw[yG ht];exact hL _ (x8 hk)
 rw[FK ah];simp
theorem abE{c:Nat}(R:dV w B rb ag s a c L k)(hsh: ∀t∈L,t.1.length<=s.length)(lo hi:Int)(h1: -2147483648<=lo)(h2:hi<=2147483647)(g:Gl w):
 aA7 prog 351 #[.pointer (some ⟨rb,0,none⟩),.int .i64 lo,.int .i64 hi] w (iW w B rb ag s a c L (lq lo hi (L.drop k)) VI):=by
 have PK:=af (fun(w:aAX) (R:dV w B rb ag s a c L k)=>JD R 0 ah);have FL:=af (fun(w:aAX) (R:dV w B rb ag s a c L k)=>JA R);have HR:=af R;have iH:=afi hsh k;have uY:=R.sl;have IH:=af (fun n=>ap0 (a:=lo) (b:=hi) (L:=L) (k:=k) (n:=n));have IM:=af (ap1 (a:=lo) (b:=hi) (L:=L) (k:=k));rw[gK,show((0:Nat):Int)=0 by rfl]at PK;generalize lq lo hi (L.drop k)=p at*;generalize aJ (L.drop k)=u at*
 by_cases hv: ∃v,aBh u= .ok v
 ·obtain⟨v,hv⟩:=hv
  obtain⟨b1,b2⟩:=aBu hv;have AT:=af (Nk u ah v hv);have IT:=af (fun(w:aAX) (g:Gl w)=>tU v b1 b2 w g);have hn:=XK hv;obtain⟨x,hx⟩:=aF (aA9 v);rw[hx]at hn IT
  by_cases hok:x=u/\lo<=v/\v<=hi
  ·obtain⟨rfl,l1,l2⟩:=hok
   rw[ak ⟨rfl,PN.2 ⟨ ah,ah⟩⟩]at hn;obtain⟨hk,hp⟩:=IH.oo v hn l1 l2;subst hp;have z:((tx x).toList==(tx x).toList)=true:=aq;have z1:decide (v<lo)=false:=aC;have z2:decide (hi<v)=false:=aC;have HK:=af hk;go_in;go_wp2_with fail;refine(PK.oo _ HR.oo).mono ?_;rintro e w1 ⟨rfl,q⟩;have E:=q.cm;go_wp2_with fail;refine aQ (AT.oo _) fun w2 E2=>?_
   have E:=aI E E2;have g2:=g.below E;go_wp2_with fail;refine aQ (IT.oo _ g2) fun w3 E3=>?_
   have E:=aI E E3;go_wp2_with fail;refine(PK.oo _ (HR.oo.below E)).mono ?_;rintro e w4 ⟨rfl,q⟩;have E:=aI E q.cm;have R1:=HR.oo.below E;obtain⟨c0,c1,c2,c3,f3,lt⟩:=R1.cells;obtain⟨R2,S2⟩:=R1.next HK.oo;have HS:=af ((bX (bw:=rb) E).trans S2);have H2:=af R2;have hb:k<=262144:=by have:=R1.le;have:=R1.sm;omega
   go_wp2;go_ret;exact⟨HS.oo,.inr ⟨v,k+1,rfl,rfl,H2.oo⟩⟩
  have hp:=IM.oo (fun n hn' hb=>by
   rw[hn]at hn'
   split at hn'
   ·rename_i hh;cases hn';exact hok ⟨hh.1,hb⟩
   cases hn')
  subst hp
  have hc:((tx x).toList==(tx u).toList)=false\/(((tx x).toList==(tx u).toList)=true/\decide (v<lo)=true)\/(((tx x).toList==(tx u).toList)=true/\decide (v<lo)=false/\decide (hi<v)=true):=by
   by_cases e:x=u
   ·right
    have z:((tx x).toList==(tx u).toList)=true:=by rw[j9];simpa using e
    by_cases l1:lo<=v
    ·right
     refine⟨z,aC,?_⟩;simp only[dw];rcases Tv hi v with h|h
     ·exact h
     exact absurd ⟨e,l1,h⟩ hok
    left;exact⟨z,aC⟩
   exact .inl (qA e)
  rcases hc with z|⟨z,z1⟩|⟨z,z1,z2⟩
  all_goals
   go_in;go_wp2_with fail;refine(PK.oo _ HR.oo).mono ?_;rintro e w1 ⟨rfl,q⟩;have E:=q.cm;go_wp2_with fail;refine aQ (AT.oo _) fun w2 E2=>?_
   have E:=aI E E2;have g2:=g.below E;go_wp2_with fail;refine aQ (IT.oo _ g2) fun w3 E3=>?_
   have E:=aI E E3;go_wp2_with fail;refine(PK.oo _ (HR.oo.below E)).mono ?_;rintro e w4 ⟨rfl,q⟩;have E:=aI E q.cm;exact ad9
 have hv: ∀v,aBh u≠ .ok v:=fun v h=>hv ⟨v,h⟩
 have AT:=af (TF u ah hv);have hp:=IM.oo (fun n hn'=>by rw[ahe hv]at hn';cases hn');subst hp;go_in;go_wp2_with fail;refine(PK.oo _ HR.oo).mono ?_;rintro e w1 ⟨rfl,q⟩;have E:=q.cm;have g1:=g.below E;go_wp2_with fail;refine(AT.oo _ g1).mono ?_;rintro e w2 ⟨n,tp,pp,rfl,E2⟩;have E:=aI E E2;exact ad9
theorem ard(h:aU (aJ (L.drop k))=true):k<L.length/\jN (L.drop k)= .ok (aJ (L.drop k),L.drop (k+1)):=by
 by_cases hk:k<L.length
 ·have ht:=aV hk
  rw[yG ht]at h⊢;exact⟨hk,by rw[drop_at ht,vm,ak h]⟩
 rw[FK ah]at h;cases h
theorem arf(h:aU (aJ (L.drop k))=false):jN (L.drop k)= .error (L.drop k):=by
 by_cases hk:k<L.length
 ·have ht:=aV hk
  rw[yG ht]at h;rw[drop_at ht,vm,ai (by rw[h];decide)]
 rw[iN ah];rfl
theorem abH{c:Nat}(R:dV w B rb ag s a c L k)(hsh: ∀t∈L,t.1.length<=s.length):
 aA7 prog 356 #[.pointer (some ⟨rb,0,none⟩)] w (iW w B rb ag s a c L (jN (L.drop k)) VS):=by
 have PK:=af (fun(w:aAX) (R:dV w B rb ag s a c L k)=>JD R 0 ah);have FL:=af (fun(w:aAX) (R:dV w B rb ag s a c L k)=>JA R);have HR:=af R;have iH:=afi hsh k;have uY:=R.sl;rw[gK,show((0:Nat):Int)=0 by rfl]at PK;have NM:=af (fun w=>abJ (aJ (L.drop k)) ah w);cases hb:aU (aJ (L.drop k))with
 | true=>
   rw[hb]at NM;obtain⟨hk,hp⟩:=ard hb;rw[hp];obtain⟨t,ht⟩: ∃t,L[k]? =some t:=⟨_,aV hk⟩;rw[yG ht]at*;have HT:=af ht;have HK:=af hk;have HU:=af (show t.1.length<=262144 by omega);go_in;go_wp2_with fail;refine(PK.oo _ HR.oo).mono ?_;rintro e w1 ⟨rfl,q⟩;have E:=q.cm;have R1:=HR.oo.below E;obtain⟨c0,c1,c2,c3,f3,lt⟩:=R1.cells;obtain⟨R2,S2⟩:=R1.next HK.oo;have HS:=af ((bX (bw:=rb) E).trans S2);have hb:k<=262144:=by have:=R1.le;have:=R1.sm;omega
   have H2:=af R2;go_upto_region 4 with(first|(go_at_call 322;refine aK (NM.oo _) ?_)|fail);generalize w1.setCell ⟨rb,3,none⟩ (.int .i64 ((k:Int)+1))=w2 at*;obtain⟨c0,c1,c2,c3,f3,lt⟩:=H2.oo.cells;obtain⟨d0,d1⟩:=H2.oo.toks.tok HT.oo;have ix:=H2.oo.toks.idx QS mH k HK.oo c;rw[show((k+1:Nat):Int)=(k:Int)+1 by omega]at c3;have Kt:=ix;rw[show(k:Int)=(k:Int)+1-1 by omega]at Kt
   go_big_region
   all_goals go_wp2_with fail
   all_goals go_ret
   all_goals exact⟨HS.oo.trans (bX gD),.inr ⟨t.1,k+1,rfl,⟨rfl,HU.oo⟩,H2.oo.below gD⟩⟩
 | false=>
   rw[hb]at NM;rw[arf hb];generalize aJ (L.drop k)=u at*;go_in;go_wp2_with fail;refine(PK.oo _ HR.oo).mono ?_;rintro e w1 ⟨rfl,q⟩;have FL:=af (FL.oo _ (HR.oo.below q.cm));have Q:=af q
   go_wp2_with (go_at_call 322;refine aK (NM.oo _) ?_)
   refine FL.oo.mono ?_;rintro e w5 ⟨rfl,q⟩;unfold jw;go_wp2_with fail;exact⟨rfl,(bX (bw:=rb) Q.oo.cm).trans (bX q.cm),.inl ⟨_,rfl,rfl⟩⟩
def KM(o:Option Nat):Int:=match o with
 |some n=>n
 |none=> -1
theorem aiH(h:(n:Int)<dU ag)(hm: ∀m,m<n->dy ag m≠s)(e:dy ag n=s):dX ag s=some n:=by
 unfold dX;have hl:n<(dU ag).toNat:=ah;rw[aaw];exact⟨by simpa using e,Cg.2 hl,fun j hj=>by simpa using hm j hj⟩
theorem aiJ(hn:(n:Int)=dU ag)(hm: ∀m,m<n->dy ag m≠s):dX ag s=none:=by
 unfold dX;rw[I7];intro m OZ;have:=Cg.1 OZ;simpa using hm m ah
theorem am2(ag:Int)(s:Tx)(w:aAX):aA7 prog 357 #[.int .i64 ag,.string (tx s)] w (bg w (.int .i64 (KM (dX ag s)))):=by
 obtain⟨N,hN⟩: ∃N:Nat,dU ag=N:=⟨(dU ag).toNat,by have:=Lg ag;omega⟩;have hb:=Lg ag;have CR:=af (am3 ag);have RG:=af (fun(k:Nat) (hk:(k:Int)<dU ag) (w:aAX)=>abR ag k hk w);have HH:=af (fun(n:Nat) (h:n<N)=>aiH (ag:=ag) (s:=s) (n:=n) ah);have HM:=af (fun(hm: ∀m,m<N->dy ag m≠s)=>aiJ (ag:=ag) (s:=s) (n:=N) hN.symm hm);have HB:=af (show ∀k:Nat,k<N->(k:Int)<dU ag from fun k hk=>by omega);rw[hN]at CR;generalize dX ag s=o at*;have hNb:N<=32:=ah;go_in
 go_wp2_with (go_at_call 323;refine aK (CR.oo _) ?_)
 go_loopw [8] (fun i wr=> ∃k:Nat,k<=N/\i= .int .i64 k/\aAW w.heap.size w wr/\Hid (∀m,m<k->dy ag m≠s)) (fun i _=>N-(intOf i).toNat)
 ·exact aea
 obtain⟨k,hk,rfl,E,HK⟩:=hrel
 by_cases aA:k<N
 ·have RC:=af (RG.oo k (HB.oo k aA))
  by_cases he:dy ag k=s
  ·have hz:((tx (dy ag k)).toList==(tx s).toList)=true:=by rw[j9];simpa using he
   have HO:=af (HH.oo k aA HK.oo he);generalize dy ag k=u at*;go_wp2_with fail;refine aQ (RC.oo _) fun w1 E1=>?_
   have E:=aI E E1;go_wp2;go_ret;exact⟨nA (by rw[HO.oo];rfl),E⟩
  have hz:((tx (dy ag k)).toList==(tx s).toList)=false:=qA he
  have fC:=af (show ∀m,m<k+1->dy ag m≠s from fun m hm=>by
   rcases fO.1 hm with h|h
   ·exact HK.oo m h
   subst h;exact he)
  generalize dy ag k=u at*;go_wp2_with fail;refine aQ (RC.oo _) fun w1 E1=>?_
  have E:=aI E E1;go_wp2
  exact JO
 obtain rfl:k=N:=ah
 have HO:=af (HM.oo HK.oo);go_wp2;go_ret;exact⟨nA (by rw[HO.oo];rfl),E⟩
def VT(t:Th)(e:aBp)(w:aAX):Prop:=e= .returned (mz t)/\t.aj.length<=262144
theorem dV.put{c:Nat}(h:dV w B rb ag s a c L k){b:Nat}(hb:b≠rb)(ha:L≠[]->bk a≠b)(j:Nat)(v:aAY):dV (w.setCell ⟨b,j,none⟩ v) B rb ag s a c L k:=by
 have hs:Step w (w.setCell ⟨b,j,none⟩ v) (aBf ⟨b,0,none⟩) (aBf ⟨b,0,none⟩):=⟨⟨rfl,rfl,rfl,aq,fun k hk aN=>BU _ _ _ _ (fun e=>aN (by simp[e]))⟩,.inl rfl⟩;refine⟨au.kept h.own hs.grown (.inr ?_),cQ.step mH ah h.toks hs ha,h.ne,h.le,h.sm,h.sl⟩;simp;exact fun e=>hb e.symm
theorem St.put(h:St w w1 rb){b:Nat}(hb:w.heap.size<=b)(j:Nat)(v:aAY):St w (w1.setCell ⟨b,j,none⟩ v) rb:=
 ⟨⟨h.grown.os,h.grown.tape,h.grown.output,by simpa using h.grown.size,fun k hk aN=>by rw[BU _ _ _ _ aC];exact h.grown.block k hk aN⟩,.inl rfl⟩
theorem St.new(h:St w w1 rb)(o:Obj):St w (w1.alloc o) rb:=h.trans (bX (al _ _))
abbrev ke:Obj:=.cells #[.int .i64 0,.int .i64 0,.string ⟨#[]⟩] 25
theorem j8{us:Array aAY}{T:TypeId}(hs:St (w.alloc (.cells us T)) w1 rb)(hrb:rb<w.heap.size):aW w1 w.heap.size us.toList:=(aW.new w us T).step hs ah
theorem iE{b:Nat}(hs:St w w1 rb)(hb:b<w.heap.size)(aN:b≠rb)(k:Nat):w1.frozen? ⟨b,k,none⟩=w.frozen? ⟨b,k,none⟩:=by
 unfold World.frozen?;rw[hs.grown.block b hb (aS aN)]
theorem cJ(w:aAX)(us:Array aAY)(T:TypeId)(k:Nat):(w.alloc (.cells us T)).frozen? ⟨w.heap.size,k,none⟩=false:=by
 have hh:=lJ w (.cells us T);unfold World.frozen?;simp only[hh];simp
theorem ayp(h:aJ (L.drop k)=[91]):fQ ag (L.drop k)=match jN (L.drop (k+1))with
 | .error e=>.error e
 | .ok (x,r)=>match bQ [93] r with
   | .error e=>.error e
   | .ok r=>.ok (⟨-1,0,x⟩,r):=by
 unfold fQ;rw[ak h,yb];rfl
theorem ayq(h:aJ (L.drop k)≠[91])(h2:rj (aJ (L.drop k))=true):fQ ag (L.drop k)=match lq 0 15 (L.drop k)with
 | .error e=>.error e
 | .ok (n,r)=>match bQ [58] r with
   | .error e=>.error e
   | .ok r=>match dX ag (aJ r)with
     |none=>.error r
     |some k=>.ok (⟨n,k,[]⟩,r.tail):=by
 unfold fQ;rw[ai h,ak h2];rfl
theorem ayr(h:aJ (L.drop k)≠[91])(h2:rj (aJ (L.drop k))=false):fQ ag (L.drop k)=match jN (L.drop k)with
 | .error e=>.error e
 | .ok (x,r)=>.ok (⟨-1,0,x⟩,r):=by
 unfold fQ;rw[ai h,ai (by rw[h2];decide)];rfl
theorem AF(h:aJ (L.drop k)≠[]):k<L.length:=by
 rcases iA k L.length with h'|h'
 ·exact h'
 exact absurd (FK h') h
def uw(rb:Nat)(w:aAX)(u:Tx):Prop:=aA7 prog 236 #[.pointer (some ⟨rb,0,none⟩),.int .i64 0] w (zU w (.string (tx u)))
theorem xo{c:Nat}(R:dV w B rb ag s a c L k):uw rb w (aJ (L.drop k)):=by
 have:=JD R 0 ah;rw[gK]at this;exact this
theorem am7{c:Nat}(R:dV w B rb ag s a c L k)(hsh: ∀t∈L,t.1.length<=s.length)(kN:aJ (L.drop k)=[91]):
 aA7 prog 350 #[.pointer (some ⟨rb,0,none⟩)] w (iW w B rb ag s a c L (fQ ag (L.drop k)) VT):=by
 obtain⟨-, -, -, -, -, hrb⟩:=R.cells;have hk:=AF (L:=L) (k:=k) (by rw[kN];decide);have htk:L≠[]->bk a<w.heap.size:=fun h=>R.toks.lt mH ah h
 have R0:=R.below (al w ke);have PK:=af (xo R0);rw[kN]at PK;unfold uw at PK;have LC:=af (fun(w:aAX) (R:dV w B rb ag s a c L (k+1))=>abH R hsh);have TK:=af (fun(w:aAX) (k':Nat) (R:dV w B rb ag s a c L k')=>Ct R [93] ay);rw[ayp kN];have HK:=af hk;have HR:=af R0;have z:((tx [91]).toList==[91])=true:=by rw[bU];rfl
 have hb:k<=262144:=by have:=R.le;have:=R.sm;omega
 cases hloc:jN (L.drop (k+1))with
 | error l=>
   rw[hloc]at LC;go_in;go_wp2_with fail;refine PK.oo.mono ?_;rintro e w1 ⟨rfl,q⟩;have R1:=HR.oo.below q.cm;obtain⟨c0,c1,c2,c3,f3,lt⟩:=R1.cells;obtain⟨R2,S2⟩:=R1.next HK.oo;have S:=af ((St.new (St.refl w rb) ke).trans ((bX (bw:=rb) q.cm).trans S2));have LC:=af (LC.oo _ R2);exact aeb
 | ok p=>
   obtain⟨x,r⟩:=p;rw[hloc]at LC;simp only;cases afs:bQ [93] r with
   | error l=>
     go_in;go_wp2_with fail;refine PK.oo.mono ?_;rintro e w1 ⟨rfl,q⟩;have R1:=HR.oo.below q.cm;obtain⟨c0,c1,c2,c3,f3,lt⟩:=R1.cells;obtain⟨R2,S2⟩:=R1.next HK.oo;have S:=af ((St.new (St.refl w rb) ke).trans ((bX (bw:=rb) q.cm).trans S2));have LC:=af (LC.oo _ R2);go_wp2_with fail;refine LC.oo.mono ?_;rintro e w2 h;obtain⟨k2,rfl,⟨rfl,hx⟩,R3,S3⟩:=h.ez rfl;have TC:=af (TK.oo _ k2 (R3.below (al _ (.cells #[.int .i64 (-1),.int .i64 0,.string (tx x)] 25))));have S:=af (St.new (S.oo.trans S3) (.cells #[.int .i64 (-1),.int .i64 0,.string (tx x)] 25));have HT:=af afs;go_wp2_with fail;refine TC.oo.mono ?_;rintro e w3 h;obtain⟨rfl,S4⟩:=h.err (show _=Except.error l by rw[HT.oo];rfl);unfold jw;go_wp2;exact⟨rfl,S.oo.trans S4,.inl ⟨_,rfl,rfl⟩⟩
   | ok r2=>
     go_in;go_wp2_with fail;refine PK.oo.mono ?_;rintro e w1 ⟨rfl,q⟩;have R1:=HR.oo.below q.cm;obtain⟨c0,c1,c2,c3,f3,lt⟩:=R1.cells;obtain⟨R2,S2⟩:=R1.next HK.oo;have S:=af ((bX (bw:=rb) q.cm).trans S2);have LC:=af (LC.oo _ R2);go_wp2_with fail;refine LC.oo.mono ?_;rintro e w2 h;obtain⟨k2,rfl,⟨rfl,hx⟩,R3,S3⟩:=h.ez rfl;have TC:=af (TK.oo _ k2 (R3.below (al _ (.cells #[.int .i64 (-1),.int .i64 0,.string (tx x)] 25))));have S:=af (St.new (S.oo.trans S3) (.cells #[.int .i64 (-1),.int .i64 0,.string (tx x)] 25));have HT:=af afs;have HX:=af hx;have Dc:rb<w2.heap.size:=R3.cells.2.2.2.2.2;have hs2:=S.oo.grown.size;go_wp2_with fail;refine TC.oo.mono ?_;rintro e w3 h;obtain⟨k3,rfl,hv,R5,S4⟩:=h.ez (show _=Except.ok ((),r2) by rw[HT.oo];rfl);unfold VU at hv;subst hv;have b4:=j8 S4 Dc;have b2:=j8 (S.oo.trans S4) hrb;have fz:=fun k=>(iE (S.oo.trans S4) (b:=w.heap.size) aq ah k).trans (cJ w _ _ k)
     obtain⟨q0,q1,q2⟩:=b4.tI;obtain⟨p0,p1,p2⟩:=b2.tI;have HS:=af ((St.new (St.refl w rb) ke).trans (S.oo.trans S4));have RE:=af R5;have aN:w.heap.size≠rb:=ah;have nG:=af (show L≠[]->bk a≠w.heap.size from fun h=>by have:=htk h;omega);go_wp2;exact aZ (by simp[results,results350,go_sem,p0,p1,p2]) rfl ⟨St.put (St.put (St.put HS.oo (aX _) _ _) (aX _) _ _) (aX _) _ _,.inr ⟨⟨-1,0,x⟩,k3,rfl,⟨rfl,HX.oo⟩,((RE.oo.put aN nG.oo _ _).put aN nG.oo _ _).put aN nG.oo _ _⟩⟩
@[reducible] def awN:aAY:=.agg #[.string (tx (cg 0)),.string (tx (cg 1)),.string (tx (cg 2)),.string (tx (cg 3)),.string (tx (cg 4)),.string (tx (cg 5)),.string (tx (cg 6)),.string (tx (cg 7)),.string (tx (cg 8)),.string (tx (cg 9)),.string (tx (cg 10)),.string (tx (cg 11)),.string (tx (cg 12)),.string (tx (cg 13)),.string (tx (cg 14))]
theorem axc(k:Nat)(h:k<15): ∀w,(aBx 208 awN (.int .i64 k)).run prog w= .ok (.string (tx (cg k))) w:=by
 intro w;have u:=underlying208;have a4:=isAgg9;have z4:=sizeOf9;have hk:k=0\/k=1\/k=2\/k=3\/k=4\/k=5\/k=6\/k=7\/k=8\/k=9\/k=10\/k=11\/k=12\/k=13\/k=14:=ah;rcases hk with rfl|rfl|rfl|rfl|rfl|rfl|rfl|rfl|rfl|rfl|rfl|rfl|rfl|rfl|rfl<;>simp[aBx,asIntOf,wj u,part,a4,z4]
theorem WT(s:Tx)(w:aAX)(g:Gl w):aA7 prog 176 #[.string (tx s)] w fun e w'=>e= .returned (.tuple #[.int .i64 (vr (dK s)).1,.int .i64 (vr (dK s)).2])/\w=w':=by
 have c0:=g.regs 0 ah;have c1:=g.regs 1 ah;have c2:=g.regs 2 ah;have c3:=g.regs 3 ah;have c4:=g.regs 4 ah;have c5:=g.regs 5 ah;have c6:=g.regs 6 ah;have c7:=g.regs 7 ah;have c8:=g.regs 8 ah;have c9:=g.regs 9 ah;have c10:=g.regs 10 ah;have c11:=g.regs 11 ah;have c12:=g.regs 12 ah;have c13:=g.regs 13 ah;have c14:=g.regs 14 ah;have IX:=af axc;go_in;go_upto_region 2 with(fail);go_wp2_with fail
 go_loop [7] (fun i=> ∃k:Nat,k<=15/\i= .int .i64 k/\Hid (∀m,m<k->cg m≠s)) (fun i=>15-(intOf i).toNat)
 ·exact U3
 obtain⟨k,hk,rfl,HM⟩:=hrel
 by_cases aA:k<15
 ·have ix:=IX.oo k aA
  by_cases he:cg k=s
  ·have hz:((tx (cg k)).toList==(tx s).toList)=true:=by rw[j9];simpa using he
   have HR:=af (aiO aA he);exact aec
  have hz:((tx (cg k)).toList==(tx s).toList)=false:=qA he
  have gJ:=af (show ∀m,m<k+1->cg m≠s from fun m hm=>by
   rcases fO.1 hm with h|h
   ·exact HM.oo m h
   subst h;exact he)
  go_wp2_with fail
  go_round
  case rel=>exact⟨k+1,ah,by go_num,gJ⟩
  case measure=>simp[intOf];omega
 obtain rfl:k=15:=ah
 have HR:=af (aiQ HM.oo);exact aec
def akQ(o:Option Tx)(w:aAX)(e:aBp)(w':aAX):Prop:= ∃u ok,e= .returned (.tuple #[.string (tx u),.bool ok])/\de o u ok/\u.length<=1000000/\aAW w.heap.size w w'
theorem Pq(a z:UInt8)(m:Tx):(a::(m++[z])).getLast?=some z:=by rw[<-cY,Gj aq];rfl
theorem atc(e:s=91::(m++[93])):de (j7 s) (aG m) (aU (aG m)):=by
 have e2:(s.drop 1).dropLast=m:=by rw[e];simp
 unfold de j7;rw[e2];cases aU (aG m)with
 |true=>rw[ak ⟨by rw[e];simp,by rw[e];rfl,by rw[e];exact Pq _ _ _,rfl⟩];rfl
 |false=>rw[ai (fun h=>by cases h.2.2.2)];rfl
theorem X9(h: ¬(2<=s.length/\s.head?=some 91/\s.getLast?=some 93)):j7 s=none:=by
 unfold j7;rw[ai (fun hh=>h ⟨hh.1,hh.2.1,hh.2.2.1⟩)]
theorem af5(s:Tx)(hl:s.length<=1000000)(w:aAX):aA7 prog 174 #[.string (tx s)] w (akQ (j7 s) w):=by
 have hsz:=bC s
 by_cases h2:2<=s.length
 ·obtain⟨c,r,rfl⟩: ∃c r,s=c::r:=by
   cases s with
   |nil=>simp at h2
   |cons c r=>exact⟨c,r,rfl⟩
  obtain⟨z,m,rfl⟩: ∃z m,r=m++[z]:=by
   have aN:r≠[]:=by intro e;subst e;simp at h2
   obtain⟨z,hz⟩: ∃z,r.getLast?=some z:=⟨_,pz aN⟩;obtain⟨m,hm⟩:=vh.1 hz;exact⟨z,m,hm⟩
  obtain⟨n,hn⟩:=aF ((tx (c::(m++[z]))).size);have gF:n=m.length+2:=by rw[<-hn,hsz];simp
  have zl:decide ((n:Int)<2)=false:=aC;have hn2:2<=n:=ah;have uV:n<=1000000:=by simp at hl;omega
  have i0:=oU (c::(m++[z])) c rfl;have i1:=cH (c::(m++[z])) (m.length+1) z aq;rw[show((m.length+1:Nat):Int)=(n:Int)-1 by omega]at i1;have gl:(c::(m++[z])).getLast?=some z:=Pq _ _ _
  by_cases hc:c=91
  ·by_cases hz:z=93
   ·subst hc;subst hz
    have sl:=nB (91::(m++[93])) 1 (m.length+1) ah aq;have e2:((91::(m++[93])).take (m.length+1)).drop 1=m:=aq;rw[e2,show((m.length+1:Nat):Int)=(n:Int)-1 by omega,show((1:Nat):Int)=1 by rfl]at sl;have HO:=af (atc (s:=91::(m++[93])) rfl);have hml:m.length<=1000000:=by simp at hl;omega
    have TR:=af (fun w=>Bk m ah w);have htl:=lZ m;have NM:=af (fun w=>Pm (aG m) ah w);have y1:(((91:UInt8).toNat:Int) != 91)=false:=ay;have y2:(((93:UInt8).toNat:Int) != 93)=false:=ay;have HT:=af (show(aG m).length<=1000000 by omega);generalize aG m=t at*;generalize aU t=b at*;clear hl h2 hsz gF e2 gl;go_in;go_wp2_with fail;refine aQ (TR.oo _) fun w1 E=>?_
    go_wp2_with (go_at_call 177;refine aK (NM.oo _) ?_)
    go_ret2;exact⟨t,b,rfl,HO.oo,HT.oo,E⟩
   have HO:=af (X9 (s:=c::(m++[z])) (fun h=>hz (by rw[gl]at h;simpa using h.2.2)))
   have y2:((z.toNat:Int) != 93)=true:=rG z 93 hz;subst hc;have y1:(((91:UInt8).toNat:Int) != 91)=false:=ay;clear hl h2 hsz gF gl hz;exact U4
  have HO:=af (X9 (s:=c::(m++[z])) (fun h=>hc (aS h.2.1)))
  have y1:((c.toNat:Int) != 91)=true:=rG c 91 hc;clear hl h2 hsz gF gl hc;exact U4
 have HO:=af (X9 (s:=s) (fun h=>h2 h.1))
 obtain⟨n,hn⟩:=aF ((tx s).size);have zl:decide ((n:Int)<2)=true:=by rw[<-hn,hsz];simp;omega
 clear hl h2 hsz;exact U4
def akL(r:Option aL)(w:aAX)(e:aBp)(w':aAX):Prop:= ∃op d a ax aj ok,e= .returned (.tuple #[.agg #[.int .i64 op,.int .i64 d,.int .i64 a,.int .i64 0,.int .i64 ax,.string (tx aj),.string ⟨#[]⟩,.int .i64 0],.bool ok])/\de r ⟨op,d,a,0,ax,aj,[],0⟩ ok/\aj.length<=1000000/\aAW w.heap.size w w'
theorem dP:tx []=⟨#[]⟩:=rfl
theorem aia(l:Tx)(c:UInt8):aBo l [c]=(l.head?==some c):=by
 unfold aBo;cases l with
 |nil=>rfl
 |cons d r=>show(c==d&&true)=(d==c);rw[yd,jE,pW,pW];exact wo
theorem arP{x:Tx}(sj:fr.drop 1=r1)(hp:j7 x0=some x)(h:fr.head?=some 36)(hn:de (bN r1) v ok):de (lU x0 fr) ⟨1,0,0,0,v,x,[],0⟩ ok:=by
 subst sj;unfold lU;rw[hp];simp only[h,lG];unfold de at *; rw[hn];cases ok<;>rfl
theorem arQ{x:Tx}(hp:j7 x0=some x)(h:fr.head?≠some 36):de (lU x0 fr) ⟨2,0,(vr (dK fr)).1,0,0,x,[],0⟩ ((vr (dK fr)).2==0):=by
 unfold lU;rw[hp];simp only[h,kn];unfold de;cases dK fr<;>rfl
theorem arT(hp:j7 x0=none)(hr:dK x0=none):lU x0 fr=none:=by unfold lU;rw[hp,hr]
theorem arS(sj:fr.drop 1=r1)(hp:j7 x0=none)(hr:dK x0=some d)(h:fr.head?=some 36)(hn:de (bN r1) v ok):de (lU x0 fr) ⟨4,d,0,0,v,[],[],0⟩ ok:=by
 subst sj;unfold lU;rw[hp,hr];simp only[h,lG];unfold de at *; rw[hn];cases ok<;>rfl
theorem arR{x:Tx}(hp:j7 x0=none)(hr:dK x0=some d)(h:fr.head?≠some 36)(hn:de (j7 fr) x ok):de (lU x0 fr) ⟨3,d,0,0,0,x,[],0⟩ ok:=by
 unfold lU;rw[hp,hr];simp only[h,kn];unfold de at *; rw[hn];cases ok<;>rfl
theorem ap2(x0 fr:Tx)(h1:x0.length<=1000000)(h2:fr.length<=1000000)(w:aAX)(g:Gl w):aA7 prog 96 #[.string (tx x0),.string (tx fr)] w (akL (lU x0 fr) w):=by
 have g0:=g.below (al w cK);have PT:=af (fun w=>af5 x0 h1 w);have PF:=af (fun w=>af5 fr h2 w);have RT:=af (fun(w:aAX) (g:Gl w)=>WT x0 w g);have RF:=af (fun(w:aAX) (g:Gl w)=>WT fr w g);have NF:=af (fun(w:aAX) (g:Gl w)=>ap3 (fr.drop 1) aC w g);have PR:=af (fun w=>xy fr [36] w);rw[aia]at PR;have HF:=af h2
 have RL:=af (show fr.head?=some 36-> ∀w,(Instr.sliceAt 9 (.string (tx fr)) (some (.int .i64 1)) none none).run prog w= .ok (.string (tx (fr.drop 1))) w from fun h=>xz fr 1 (by cases fr with
  |nil=>cases h
  |cons a b=>simp))
 obtain⟨r1,sj⟩:=aF (fr.drop 1);have Ii:=af sj;rw[sj]at RL NF;go_in;go_wp2_with fail;refine(PT.oo _).mono ?_;rintro e w1 ⟨u,ok,rfl,ho,iH,E⟩;have HO:=af ho;have g1:=g0.below E;have HU:=af iH;cases ok with
 | true=>
   by_cases lO:fr.head?=some 36
   ·have sf:=RL.oo lO
    have HR:=af (fun v ok=>arP Ii.oo (v:=v) (ok:=ok) HO.oo.yes lO);rw[show(fr.head?==some 36)=true by rw[lO];rfl]at PR;go_wp2_with fail;refine aQ (PR.oo _) fun w2 E2=>?_
    have g2:=g1.below E2;have E:=aI E E2;go_wp2_with fail;refine(NF.oo _ g2).mono ?_;rintro e w3 ⟨v,ok,rfl,hn,E3⟩;have HN:=af hn;have E:=aI E E3;obtain⟨⟨d0,d1,d2,d3,d4,d5,d6,d7⟩,hf,aA,B⟩:=gE E;go_wp2;exact aZ (by simp[results,results96,go_sem,d0,d1,d2,d3,d4,d5,d6,d7]) rfl ⟨1,0,0,v,u,ok,rfl,HR.oo _ _ HN.oo,HU.oo,cG⟩
   have HR:=af (arQ HO.oo.yes lO)
   rw[show(fr.head?==some 36)=false by simpa using lO]at PR;generalize vr (dK fr)=p at*;go_wp2_with fail;refine aQ (PR.oo _) fun w2 E2=>?_
   have g2:=g1.below E2;have E:=aI E E2;go_wp2_with fail;refine(RF.oo _ g2).mono ?_;rintro e w3 ⟨rfl,rfl⟩;obtain⟨⟨d0,d1,d2,d3,d4,d5,d6,d7⟩,hf,aA,B⟩:=gE E;go_wp2;exact aZ (by simp[results,results96,go_sem,d0,d1,d2,d3,d4,d5,d6,d7]) rfl ⟨2,0,p.1,0,u,_,rfl,HR.oo,HU.oo,cG⟩
 | false=>
   go_wp2_with fail;refine(RT.oo _ g1).mono ?_;rintro e w2 ⟨rfl,rfl⟩;cases hr:dK x0 with
   | none=>
     have HR:=af (arT (fr:=fr) HO.oo.no hr);simp only[vr];obtain⟨⟨d0,d1,d2,d3,d4,d5,d6,d7⟩,hf,aA,B⟩:=gE E;go_wp2;exact aZ (by simp[results,results96,go_sem,d0,d1,d2,d3,d4,d5,d6,d7,dP]) rfl ⟨0,0,0,0,[],false,rfl,HR.oo,aq,cG⟩
   | some d=>
     simp only[vr]
     by_cases lO:fr.head?=some 36
     ·have sf:=RL.oo lO
      have HR:=af (fun v ok=>arS Ii.oo (v:=v) (ok:=ok) HO.oo.no hr lO);rw[show(fr.head?==some 36)=true by rw[lO];rfl]at PR;go_wp2_with fail;refine aQ (PR.oo _) fun w2 E2=>?_
      have g2:=g1.below E2;have E:=aI E E2;go_wp2_with fail;refine(NF.oo _ g2).mono ?_;rintro e w3 ⟨v,ok,rfl,hn,E3⟩;have HN:=af hn;have E:=aI E E3;obtain⟨⟨d0,d1,d2,d3,d4,d5,d6,d7⟩,hf,aA,B⟩:=gE E;go_wp2;exact aZ (by simp[results,results96,go_sem,d0,d1,d2,d3,d4,d5,d6,d7,dP]) rfl ⟨4,d,0,v,[],ok,rfl,HR.oo _ _ HN.oo,aq,cG⟩
     have HR:=af (fun x ok=>arR (x:=x) (ok:=ok) HO.oo.no hr lO)
     rw[show(fr.head?==some 36)=false by simpa using lO]at PR;go_wp2_with fail;refine aQ (PR.oo _) fun w2 E2=>?_
     have E:=aI E E2;go_wp2_with fail;refine(PF.oo _).mono ?_;rintro e w3 ⟨x,ok,rfl,hn,hx,E3⟩;have HN:=af hn;have HX:=af hx;have E:=aI E E3;obtain⟨⟨d0,d1,d2,d3,d4,d5,d6,d7⟩,hf,aA,B⟩:=gE E;go_wp2;exact aZ (by simp[results,results96,go_sem,d0,d1,d2,d3,d4,d5,d6,d7]) rfl ⟨3,d,0,0,x,ok,rfl,HR.oo _ _ HN.oo,HX.oo,cG⟩
theorem axe(r:Nat)(h:r<128):decide ((0:Int)<=aBy [32,9,10,13] (r:Int).toNat.toUInt8)=qv r:=by
 have k: ∀n:Fin 128,decide ((0:Int)<=aBy [32,9,10,13] ((n.val:Int)).toNat.toUInt8)=qv n.val:=dD;exact k ⟨r,h⟩
theorem axd(r:Nat)(h:128<=r):qv r=false:=by unfold qv;simp;omega
theorem alE: ∀i:Fin 4,((tx [32,9,10,13])[i.val]'(i.isLt)).toNat<128:=dD
theorem aqb(w:aAX)(s:ByteArray)(p:Nat):aAW w.heap.size w (w.iter s p):=by
 unfold World.iter;exact al _ _
theorem apB(w:aAX):aA7 prog 173 #[.string (tx [32,9,10,13]),.int .i32 65533] w fun e w'=>e= .returned (.int .i64 (-1))/\aAW w.heap.size w w':=by
 obtain⟨s,hs⟩:=aF (tx [32,9,10,13]);have hsz:s.size=4:=by rw[<-hs];rfl
 have HA:=af (show ∀i (h:i<s.size),(s[i]'h).toNat<128 from by
  subst hs;exact fun i h=>alE ⟨i,by rw[hsz]at h;exact h⟩)
 rw[hs];clear hs;go_in;go_wp2_with fail
 go_loopg [5,6] 4 (fun g _ _ wx=> ∃i:Nat,i+g=4/\wx=w.iter s i)
 ·exact⟨0,ah,rfl⟩
 obtain⟨i,hig,rfl⟩:=hrel;cases gk with
 | zero=>
   obtain rfl:i=4:=ah;have mo:=fun ty=>run_next_end (P:=prog) w s 4 ty ah
   go_wp2_with fail;go_ret;exact⟨rfl,aqb w s 4⟩
 | succ g=>
   have hi:i<s.size:=ah;obtain⟨x,hx⟩: ∃x:UInt8,s[i]'hi=x:=⟨_,rfl⟩;have hx128:x.toNat<128:=by rw[<-hx];exact HA.oo i hi
   have mo:=fun ty=>run_next_ascii (P:=prog) w s i ty hi (by rw[hx];exact hx128)
   rw[hx]at mo;have z:((x.toNat:Int)==65533)=false:=aC;clear hx;go_wp2_with fail
   go_roundg g
   case measure=>omega
   case rel=>exact⟨i+1,ah,rfl⟩
theorem QY{r:Nat}{b:Bool}(h:b=decide (((0:Int)<=(r:Int)/\(r:Int)<55296)\/(57343<(r:Int)/\(r:Int)<=1114111))):aBv (r:Int)=b:=by rw[validRune_eq,h];rfl
theorem akb(r:Nat)(w:aAX):aA7 prog 246 #[.int .i32 r] w fun e w'=>e= .returned (.bool (aBv r))/\w=w':=by
 have hp:r<55296\/(55296<=r/\r<=57343)\/(57343<r/\r<=1114111)\/1114111<r:=ah;rcases hp with h|⟨h,h'⟩|⟨h,h'⟩|h
 ·rw[QY (b:=true) aC]
  have z1:decide ((0:Int)<=(r:Int))=true:=aq;have z2:decide ((r:Int)<55296)=true:=aC;clear h;exact wK
 ·rw[QY (b:=false) aC]
  have z1:decide ((0:Int)<=(r:Int))=true:=aq;have z2:decide ((r:Int)<55296)=false:=aC;have z3:decide ((57343:Int)<(r:Int))=false:=aC;clear h h';exact wK
 ·rw[QY (b:=true) aC]
  have z1:decide ((0:Int)<=(r:Int))=true:=aq;have z2:decide ((r:Int)<55296)=false:=aC;have z3:decide ((57343:Int)<(r:Int))=true:=aC;have z4:decide ((r:Int)<=1114111)=true:=aC;clear h h';exact wK
 rw[QY (b:=false) aC]
 have z1:decide ((0:Int)<=(r:Int))=true:=aq;have z2:decide ((r:Int)<55296)=false:=aC;have z3:decide ((57343:Int)<(r:Int))=true:=aC;have z4:decide ((r:Int)<=1114111)=false:=aC;clear h;exact wK
theorem apA(r:Nat)(h:128<=r)(aN:r≠65533)(hv:aBv r=false)(w:aAX):aA7 prog 173 #[.string (tx [32,9,10,13]),.int .i32 r] w fun e w'=>e= .returned (.int .i64 (-1))/\aAW w.heap.size w w':=by
 have z1:decide ((r:Int)<128)=false:=aC;have z2:((r:Int)==65533)=false:=aC;have HV:=af hv;clear hv h aN;go_in
 go_wp2_with (go_at_call 246;refine aK (akb r _) ?_;rw[HV.oo])
 go_wp2;go_ret;exact Fq
theorem WG(l:Tx)(x:UInt8)(w:aAX):aA7 prog 78 #[.string (tx l),.int .u8 x.toNat] w fun e w'=>e= .returned (.int .i64 (aBy l x))/\w=w':=by
 refine(Any.strings_IndexByte Tryz.agj (tx l) x.toNat w).mono fun e w' hh=>⟨?_,hh.2.symm⟩
 have:=hh.1;rw[kW]at this;rw[this];simp
theorem indexByte_none(l:Tx)(x:UInt8)(h:x∉l)(w:aAX):aA7 prog 78 #[.string (tx l),.int .u8 x.toNat] w fun e w'=>e= .returned (.int .i64 (-1))/\w=w':=by
 have:=WG l x w
 rwa[Pj x l h]at this
theorem apz(r:Nat)(k:Nat)(hk:k<4)(h:128<=r)(aN:r≠65533)(hv:aBv r=true)(l:Tx)(x:UInt8)(hl:Utf8.encode (r:Int)=tx l)(eL:l.length=k+1)(hx:l[k]? =some x)(hx2:128<=x.toNat)(w:aAX):aA7 prog 173 #[.string (tx [32,9,10,13]),.int .i32 r] w fun e w'=>e= .returned (.int .i64 (-1))/\aAW w.heap.size w w':=by
 have z1:decide ((r:Int)<128)=false:=aC;have z2:((r:Int)==65533)=false:=aC;have HV:=af hv;have uY:(tx l).size=k+1:=by rw[bC,eL]
 have ix:=cH l k x hx;obtain⟨y,hy⟩: ∃y,([32,9,10,13]:Tx)[k]? =some y:=⟨_,aV (aS hk)⟩;have s1:=cH [32,9,10,13] k y hy;have sf:=xz [32,9,10,13] (k+1) aC;rw[show((k+1:Nat):Int)=(k:Int)+1 by omega]at sf;have Wa: ∀b∈([32,9,10,13]:Tx),b.toNat<128:=ay;have zz:((y.toNat:Int) != (x.toNat:Int))=true:=by have:=Wa y (cV hy);simp;omega
 have IB:=af (fun w=>indexByte_none (([32,9,10,13]:Tx).drop (k+1)) x (fun hm=>by have:=Wa x (SY hm);omega) w);generalize ([32,9,10,13]:Tx).drop (k+1)=rest at*;obtain⟨s,hs⟩:=aF (tx [32,9,10,13]);have h4:s.size=4:=by rw[<-hs];rfl
 rw[hs]at s1 sf⊢
 have sf2: ∀w,(Instr.sliceAt 9 (.string s) (some (.int .i64 (IntKind.i64.wrap ((k:Int)+1)))) none none).run prog w= .ok (.string (tx rest)) w:=by
  rw[wrap_small _ ah ah];exact sf
 have zk:decide ((k:Int)<4)=true:=aC;clear hv h aN hx eL hx2 Wa hy hs;go_in
 go_wp2_with (go_at_call 246;refine aK (akb r _) ?_;rw[HV.oo])
 refine wp_scope_straight ?_;go_wp2_with fail
 go_loop [9] (fun i=>i= .int .i64 k) (fun i=>0)
 ·rfl
 subst hrel;go_wp2_with fail;refine wp_scope_straight ?_;go_wp2_with fail
 go_big_region
 all_goals go_wp2_with fail
 all_goals go_region_with (go_at_call 78;refine aK (IB.oo _) ?_)
 all_goals go_wp2_with fail
 all_goals simp+zetaDelta only[Exit.noGoto,Exit.inBlock,Exit.then]
 all_goals go_ret
 all_goals exact⟨rfl,gD⟩
theorem apC(r:Nat)(h:128<=r)(w:aAX):aA7 prog 173 #[.string (tx [32,9,10,13]),.int .i32 r] w fun e w'=>e= .returned (.int .i64 (-1))/\aAW w.heap.size w w':=by
 by_cases aN:r=65533
 ·subst aN;exact apB w
 cases hv:aBv (r:Int)with
 |false=>exact apA r h aN hv w
 | true=>
   obtain⟨f1,f2,f3⟩:=encode_facts (r:Int) hv ah;obtain⟨l,hl⟩:=aj2 (Utf8.encode (r:Int));have hsz:(Utf8.encode (r:Int)).size=l.length:=by rw[hl,bC]
   have aA:l.length-1<l.length:=ah;refine apz r (l.length-1) ah h aN hv l l[l.length-1] hl ah (aV aA) ?_ w;have:=f3 ah;simp only[hl,bC]at this;exact this
theorem Uy(r:Nat)(h:r<=1114111)(w:aAX):aA7 prog 95 #[.string (tx [32,9,10,13]),.int .i32 r] w fun e w'=>e= .returned (.bool (qv r))/\aAW w.heap.size w w':=by
 by_cases h1:r<128
 ·refine(Any.strings_ContainsRune_ascii Tryz.aqB (tx [32,9,10,13]) (r:Int) w ah ah).mono fun e w' hh=>?_
  obtain⟨rfl,rfl⟩:=hh;rw[kW,axe r h1];exact Fq
 rw[axd r ah]
 have IR:=af (fun w=>apC r ah w);clear h h1;go_in;go_wp2_with fail;refine aQ (IR.oo _) fun w1 E=>?_
 exact JR
theorem avW(r:Nat)(h:r<=1114111)(w:aAX):aA7 prog 148 #[.int .i32 r] w fun e w'=>e= .returned (.bool (qv r))/\aAW w.heap.size w w':=by
 have C:=af (fun w=>Uy r h w);generalize qv r=b at*;clear h;go_in;go_wp2_with fail;refine aQ (C.oo _) fun w1 E=>?_
 exact JR
theorem Vo: ∀(l u:Tx),(dH u l).length<=l.length+1
 |[],u=>by unfold dH gW;split<;>simp
 | c::r,u=>by
   cases hb:aH c with
   | true=>
     have:=Vo r [];rw[yB _ _ hb,bu];have:(gW u).length<=1:=by unfold gW;split<;>simp
     simp;omega
   |false=>have:=Vo r (u++[c]);rw[Fx _ _ hb];simp;omega
theorem aon(l:Tx):(dH [] l).length<=l.length+1:=Vo l []
def bP:Tx->Nat
 |[]=>0
 |c::r=>if cL c then 1 else if bf c||(c==45&&decide (0<r.length))then 2 else 3
def iR(N:Nat):List Tok->Nat
 |[]=>N
 |t::_=>t.2+t.1.length
def Lx(S:Tx)(l:List Tok):Prop:= ∃i,i<=S.length/\lex i (S.drop i)=l
theorem AV(c:UInt8)(r:Tx):bP (c::r)=if cL c then 1 else if bf c||(c==45&&decide (0<r.length))then 2 else 3:=rfl
theorem arl(c:UInt8)(r:Tx):bP ((c::r).take (cW (c::r)))=if cL c then 1 else if bf c||(c==45&&(r.head?.any bf))then 2 else 3:=by
 rw[lz]
 by_cases h1:cL c=true
 ·rw[ak h1,ak h1,Ck,uA,AV,ak h1]
 have h1:cL c=false:=aS h1
 cases h2:bf c with
 |true=>simp only[h1,h2,Bool.true_or,lG,ow,kn,Ck 1,uA,AV]
 | false=>
   by_cases h3:c=45
   ·subst h3
    cases r with
    |nil=>decide+kernel
    | cons d r=>
      cases h4:bf d with
      | true=>
        simp only[h1,h2,h4,ya,Na,pZ,Tk,Tt,lG,ow,kn,Ck 1,uA,AV,mU,cy];simp
      | false=>
        simp only[h1,h4,ya,Na,pZ,wm,ow,kn];rw[ai aq];rw[show(1:Nat)=0+1 by rfl,uA,x9]
        decide
   have e1:(c==45)=false:=aS h3
   have key: ∀u,bP (c::u)=3:=fun u=>by
    rw[AV];simp only[h1,h2,e1,pZ,Cf,ow,kn]
   simp only[h1,e1,pZ,Cf,ow,kn];split
   ·rw[uA];exact key _
   rw[uA];exact key _
theorem Xm(S:Tx): ∀(n i:Nat),S.length-i<=n->i<=S.length-> ∀t r,lex i (S.drop i)=t::r->i<=t.2/\1<=t.1.length/\t.2+t.1.length<=S.length/\t.1=(S.take (t.2+t.1.length)).drop t.2/\lex (t.2+t.1.length) (S.drop (t.2+t.1.length))=r
 | n,i,h,hi,t,r,e=>by
   rcases iA i S.length with aA|hge
   ·have hs:=Pw (aV aA)
    rw[e]at hs;cases hb:aH S[i]with
    | true=>
      rw[hb]at hs;cases n with
      |zero=>omega
      | succ n=>
        have:=Xm S n (i+1) ah ah t r hs.symm;exact⟨ ah,this.2⟩
    | false=>
      rw[hb]at hs;simp only[ow,kn]at hs;injection hs with h1 h2;have hd:S.drop i=S[i]::S.drop (i+1):=jB aA;have l1:1<=cW (S.drop i):=by rw[hd];exact ri _ _
      have l2:cW (S.drop i)<=S.length-i:=by
       have:=yR S[i] (S.drop (i+1));rw[hd];rw[dG]at this;omega
      have hl:t.1.length=cW (S.drop i):=by rw[h1];simp;omega
      have h22:t.2=i:=by rw[h1]
      have h3:t.1=(S.take (t.2+t.1.length)).drop t.2:=by
       rw[h22,hl,h1,Nc,tg aC];simp
      exact⟨ ah,ah,ah,h3,by rw[h22,hl];exact h2.symm⟩
   have:S.drop i=[]:=iN hge
   rw[this,lex_nil]at e;cases e
section
variable {S:Tx} {l:List Tok}
theorem Lx.start(S:Tx):Lx S (lex 0 S):=⟨0,dW _,rfl⟩
theorem Lx.at(S:Tx){i:Nat}(h:i<=S.length):Lx S (lex i (S.drop i)):=⟨i,h,rfl⟩
theorem Lx.head{t:Tok}{r:List Tok}(h:Lx S (t::r)):1<=t.1.length/\t.2+t.1.length<=S.length:=by
 obtain⟨i,hi,e⟩:=h;obtain⟨-, a,b, -⟩:=Xm _ _ i (aX _) hi t r e;exact⟨a,b⟩
theorem Lx.next(h:Lx S l):iR S.length l<=S.length/\lex (iR S.length l) (S.drop (iR S.length l))=l.tail:=by
 cases l with
 |nil=>exact⟨aX _,by show lex S.length (S.drop S.length)=[];rw[wD,lex_nil]⟩
 | cons t r=>
   obtain⟨i,hi,e⟩:=h;obtain⟨-, a,b,-, c⟩:=Xm _ _ i (aX _) hi t r e;exact⟨b,c⟩
theorem Lx.tail(h:Lx S l):Lx S l.tail:=⟨_,h.next.1,h.next.2⟩
theorem Lx.aJ(h:Lx S l):(Go.Proofs.YtkbbgjloifmmbaaGreatDoor.aJ l).length<=S.length:=by
 cases l with
 |nil=>exact dW _
 |cons t r=>have:=h.head;show t.1.length<=_;omega
theorem Lx.len(h:Lx S l):l.length<=S.length:=by
 obtain⟨i,hi,rfl⟩:=h;have:=Kz _ i (S.drop i) (aX _);exact Cy
end
theorem aqn(h:cL c=true):bP (c::r)=1:=by show(if cL c then 1 else _)=1;rw[ak h]
theorem Gi(h:aU u=true):bP u=1:=by
 obtain⟨c,r,rfl,h2⟩:=Dt h;exact aqn h2
theorem Xb(h:dX ag u=some n):bP u=1:=by
 obtain⟨h1,rfl⟩:=GX h;have h3: ∀n:Fin 15,bP (cg n.val)=1:=dD;have h2: ∀n:Fin 32,bP (cZ n.val)=1:=dD;unfold dy dU at*;split
 ·rename_i e;rw[ak e]at h1;exact h3 ⟨n,ah⟩
 rename_i e;rw[ai e]at h1;exact h2 ⟨n,ah⟩
theorem aqm(v:Int):bP (aA9 v)=2:=by
 have hd: ∀n:Nat,∃c r,aA8 n=c::r/\bf c=true:=fun n=>by
  cases h:aA8 n with
  |nil=>have:=Lib.decDigits_length n;have h2:=Lib.nDigits_pos n;rw[h]at this;simp at this;omega
  |cons c r=>exact⟨c,r,rfl,NQ.2 (rY n c (by rw[h];simp))⟩
 by_cases h0:0<=v
 ·obtain⟨u,rfl⟩: ∃u:Nat,v=(u:Int):=⟨v.toNat,ah⟩
  rw[Lib.itoa_nonneg];obtain⟨c,r,e,h⟩:=hd u;rw[e,AV,(UD h).2.1,h];rfl
 obtain⟨u,rfl,hu⟩: ∃u:Nat,v= -(u:Int)/\1<=u:=⟨v.natAbs,ah,ah⟩
 rw[Lib.itoa_neg u hu];obtain⟨c,r,e,h⟩:=hd u;rw[e,AV,ai ay,ak aq]
theorem Kv(h:bN u=some v):bP u=2:=by
 rw[(nt.1 h).1];exact aqm v
theorem aql(h:bP u=2):rj u=true:=by
 cases u with
 |nil=>cases h
 | cons c r=>
   have h:(if cL c then 1 else if bf c||(c==45&&decide (0<r.length))then 2 else 3)=2:=h;show(bf c||c==45)=true
   split at h
   ·cases h
   split at h
   ·rename_i h1;simp only[uD,bV]at h1⊢
    rcases h1 with h1|h1
    ·exact .inl h1
    exact .inr h1.1
   cases h
theorem arZ(h:aU u=true):rj u=false:=by
 obtain⟨c,r,rfl,hl⟩:=Dt h;clear h;show(bf c||c==45)=false
 have h1:bf c=false:=by
  cases hd:bf c with
  |false=>rfl
  |true=>have:=(UD hd).2.1;rw[hl]at this;cases this
 have h2:c≠45:=by rintro rfl;exact absurd hl ay
 simp[h1,h2]
theorem QN(ag:Int)(l:List Tok):fQ ag l=if bP (aJ l)=2 then(match lq 0 15 l with
 | .error e=>.error e
 | .ok (n,r)=>match bQ [58] r with
   | .error e=>.error e
   | .ok r=>match dX ag (aJ r)with
     |none=>.error r
     |some k=>.ok (⟨n,k,[]⟩,r.tail))
 else if aJ l=[91]then(match jN l.tail with
  | .error e=>.error e
  | .ok (x,r)=>match bQ [93] r with
    | .error e=>.error e
    | .ok r=>.ok (⟨-1,0,x⟩,r))
 else match jN l with
  | .error e=>.error e
  | .ok (x,r)=>.ok (⟨-1,0,x⟩,r):=by
 unfold fQ
 by_cases hk:bP (aJ l)=2
 ·have h1:aJ l≠[91]:=fun e=>by rw[e]at hk;exact absurd hk ay
  rw[ai h1,ak (aql hk),ak hk]<;>rfl
 rw[ai hk]
 by_cases h1:aJ l=[91]
 ·rw[ak h1,ak h1]<;>rfl
 rw[ai h1,ai h1]
 by_cases h2:rj (aJ l)=true
 ·rw[ak h2]
  have e1:lq 0 15 l= .error l:=by
   cases l with
   |nil=>rfl
   | cons t r=>
     rw[sw];cases h:bN t.1 with
     |none=>rfl
     |some v=>exact absurd (Kv h) hk
  have e2:jN l= .error l:=by
   cases l with
   |nil=>rfl
   | cons t r=>
     rw[vm,ai];intro h;have:=arZ h;have h2:rj t.1=true:=h2;rw[this]at h2;cases h2
  rw[e1,e2]
 rw[ai h2]<;>rfl
theorem agw(S:Tx): ∀(n i:Nat),S.length-i<=n->i<=S.length-> ∃j,i<=j/\j<=S.length/\(∀k,i<=k->k<j-> ∃x,S[k]? =some x/\aH x=true)/\(∀x,S[j]? =some x->aH x=false)/\lex i (S.drop i)=lex j (S.drop j)
 | n,i,h,hi=>by
   rcases iA i S.length with aA|hge
   ·have hg:=aV aA
    have hs:=Pw hg;cases hb:aH S[i]with
    | true=>
      rw[hb]at hs;cases n with
      |zero=>omega
      | succ n=>
        obtain⟨j,h1,h2,h3,h4,h5⟩:=agw S n (i+1) ah ah;refine⟨j,ah,h2,fun k hk hkj=>?_,h4,by rw[hs];exact h5⟩;rcases iA i k with h|h
        ·exact h3 k ah hkj
        have:k=i:=ah
        subst this;exact⟨_,hg,hb⟩
    |false=>exact⟨i,aX _,hi,fun k h1 h2=>by omega,(fun x hx=>by rw[hg]at hx;cases hx;exact hb),rfl⟩
   exact⟨i,aX _,hi,fun k h1 h2=>by omega,(fun x hx=>by rw[mg hge]at hx;cases hx),rfl⟩
theorem ua(p:UInt8->Bool)(S:Tx): ∀(n a:Nat),S.length-a<=n->a<=S.length-> ∃q,a<=q/\q<=S.length/\(∀k,a<=k->k<q-> ∃x,S[k]? =some x/\p x=true)/\(∀x,S[q]? =some x->p x=false)/\((S.drop a).takeWhile p).length=q-a
 | n,i,h,hi=>by
   rcases iA i S.length with aA|hge
   ·have hg:=aV aA
    have hd:S.drop i=S[i]::S.drop (i+1):=jB aA;cases hb:p S[i]with
    | true=>
      cases n with
      |zero=>omega
      | succ n=>
        obtain⟨j,h1,h2,h3,h4,h5⟩:=ua p S n (i+1) ah ah;refine⟨j,ah,h2,fun k hk hkj=>?_,h4,by rw[hd,mU,ak hb,cy,h5];omega⟩;rcases iA i k with h|h
        ·exact h3 k ah hkj
        have:k=i:=ah
        subst this;exact⟨_,hg,hb⟩
    |false=>exact⟨i,aX _,hi,fun k h1 h2=>by omega,(fun x hx=>by rw[hg]at hx;cases hx;exact hb),by rw[hd,mU,ai (by rw[hb];decide)];simp⟩
   exact⟨i,aX _,hi,fun k h1 h2=>by omega,(fun x hx=>by rw[mg hge]at hx;cases hx),by rw[iN hge];simp⟩
def Su(S:Tx)(l:List Tok)(j k m:Nat):Prop:=eI S.length l=j/\iR S.length l=m/\aJ l=(S.take m).drop j/\bP (aJ l)=k
theorem ayI(h:S.length<=j)(hj:j<=S.length):Su S (lex j (S.drop j)) S.length 0 S.length/\aJ (lex j (S.drop j))=[]:=by
 rw[iN h,lex_nil];exact⟨⟨rfl,rfl,by show[]=_;simp,rfl⟩,rfl⟩
theorem ayJ(h:S[j]? =some c)(hb:aH c=false):Su S (lex j (S.drop j)) j (if cL c then 1 else if bf c||(c==45&&((S[j+1]?).any bf))then 2 else 3) (j+cW (S.drop j)):=by
 have hs:=Pw h;obtain⟨aA,rfl⟩:=bt.1 h;rw[hb]at hs;simp only[ow,kn]at hs;have hd:S.drop j=S[j]::S.drop (j+1):=jB aA
 have l2:cW (S.drop j)<=S.length-j:=by
  have:=yR S[j] (S.drop (j+1));rw[hd];rw[dG]at this;omega
 have e1:(S.drop j).take (cW (S.drop j))=(S.take (j+cW (S.drop j))).drop j:=by
  rw[Nc,tg aC];simp
 have hk:bP ((S.drop j).take (cW (S.drop j)))=if cL S[j]then 1 else if bf S[j]||(S[j]==45&&((S[j+1]?).any bf))then 2 else 3:=by
  have:=arl S[j] (S.drop (j+1));rw[<-hd]at this;rw[this,Ce]
 rw[hs];refine⟨rfl,?_,e1,hk⟩;show j+((S.drop j).take (cW (S.drop j))).length=_;rw[lI,dG,wg l2]
theorem ars{q:Nat}(h:S[j]? =some c)(hl:cL c=true)(hq:((S.drop (j+1)).takeWhile dO).length=q-(j+1))(yI:j+1<=q):j+cW (S.drop j)=q:=by
 obtain⟨aA,rfl⟩:=bt.1 h;rw[jB aA,lz,ak hl,hq];omega
theorem arp{q:Nat}(h:S[j]? =some c)(hl:cL c=false)(hd:(bf c||(c==45&&((S[j+1]?).any bf)))=true)(hq:((S.drop (j+1)).takeWhile bf).length=q-(j+1))(yI:j+1<=q):j+cW (S.drop j)=q:=by
 obtain⟨aA,rfl⟩:=bt.1 h;rw[jB aA,lz,ai (by rw[hl];decide),Ce,ak hd,hq];omega
theorem arq(h:S[j]? =some c)(hl:cL c=false)(hd:(bf c||(c==45&&((S[j+1]?).any bf)))=false):j+cW (S.drop j)=if(c==47&&S[j+1]? ==some 92)||(c==92&&S[j+1]? ==some 47)then j+2 else j+1:=by
 obtain⟨aA,rfl⟩:=bt.1 h;rw[jB aA,lz,ai (by rw[hl];decide),Ce,ai (by rw[hd];decide)]
 split<;>rfl
theorem kr(n:Nat)(hn:n<256):((x.toNat:Int)==(n:Int))=(x==aBt n):=by
 rw[jE];simp only[pW];constructor
 ·intro h;exact tD.1 (by rw[Tf];omega)
 rintro rfl;rw[Tf];omega
theorem alJ(hn:n<256)(h:x=aBt n):((x.toNat:Int)==(n:Int))=true:=by rw[kr n hn];simpa using h
theorem Nu(hn:n<256)(h:x≠aBt n):((x.toNat:Int)==(n:Int))=false:=by rw[kr n hn];simpa using h
theorem alz(h:aH x=true):((x.toNat:Int)==32)=true\/(((x.toNat:Int)==32)=false/\((x.toNat:Int)==9)=true)\/(((x.toNat:Int)==32)=false/\((x.toNat:Int)==9)=false/\((x.toNat:Int)==10)=true)\/(((x.toNat:Int)==32)=false/\((x.toNat:Int)==9)=false/\((x.toNat:Int)==10)=false/\((x.toNat:Int)==13)=true):=by
 unfold aH at h;have a:=kr (x:=x) 32 ay;have b:=kr (x:=x) 9 ay;have c:=kr (x:=x) 10 ay;have d:=kr (x:=x) 13 ay;have a':((x.toNat:Int)==32)=(x==32):=a;have b':((x.toNat:Int)==9)=(x==9):=b;have c':((x.toNat:Int)==10)=(x==10):=c;have d':((x.toNat:Int)==13)=(x==13):=d;rw[a',b',c',d'];revert h;cases(x==32)<;>cases(x==9)<;>cases(x==10)<;>cases(x==13)<;>simp
theorem alA(h:aH x=false):((x.toNat:Int)==32)=false/\((x.toNat:Int)==9)=false/\((x.toNat:Int)==10)=false/\((x.toNat:Int)==13)=false:=by
 unfold aH at h;have a':((x.toNat:Int)==32)=(x==32):=kr (x:=x) 32 ay;have b':((x.toNat:Int)==9)=(x==9):=kr (x:=x) 9 ay;have c':((x.toNat:Int)==10)=(x==10):=kr (x:=x) 10 ay;have d':((x.toNat:Int)==13)=(x==13):=kr (x:=x) 13 ay;rw[a',b',c',d'];revert h;cases(x==32)<;>cases(x==9)<;>cases(x==10)<;>cases(x==13)<;>simp
abbrev Hq(kind:Int)(u:Tx)(at' next:Int):aAY:=.agg #[.int .i64 kind,.string (tx u),.int .i64 at',.int .i64 next]
abbrev LI(N:Nat)(l:List Tok):aAY:=Hq (bP (aJ l)) (aJ l) (eI N l) (iR N l)
def aaj(p:UInt8->Bool)(s:Tx)(a q:Nat):Prop:=a<=q/\q<=s.length/\(∀k,a<=k->k<q-> ∃x,s[k]? =some x/\p x=true)/\ ∀x,s[q]? =some x->p x=false
def akS(s:Tx)(j:Nat)(c:UInt8)(q:Nat)(kd:Nat):Prop:=
 (kd=1/\cL c=true/\aaj dO s (j+1) q)\/
 (kd=2/\cL c=false/\(bf c=true\/bf c=false/\((c.toNat:Int)==45)=true/\j+1<q)/\aaj bf s (j+1) q)\/
 (kd=3/\cL c=false/\bf c=false/\s.length<=j+1/\q=j+1)\/
 ∃d,kd=3/\cL c=false/\bf c=false/\s[j+1]? =some d/\(((c.toNat:Int)==45)=false\/bf d=false)/\q=if(((c.toNat:Int)==47)&&((d.toNat:Int)==92))||(((c.toNat:Int)==92)&&((d.toNat:Int)==47))then j+2 else j+1
theorem ayH(hc:s[j]? =some c)(hcb:aH c=false): ∃q kd,akS s j c q kd/\Su s (lex j (s.drop j)) j kd q:=by
 have aA:=(bt.1 hc).1;have T:=ayJ hc hcb;cases hl:cL c
 ·rw[hl,ai ay]at T
  cases hd:bf c||(c==45&&((s[j+1]?).any bf))
  ·rw[hd,ai ay,arq hc hl hd]at T
   simp only[SZ]at hd;cases hn:s[j+1]? with
   |none=>rw[hn]at T;exact⟨_,_,.inr (.inr (.inl ⟨rfl,hl,hd.1,aat.1 hn,rfl⟩)),by simpa using T⟩
   | some d=>
     rw[hn]at T hd;refine⟨_,_,.inr (.inr (.inr ⟨d,rfl,hl,hd.1,hn,?_,rfl⟩)),?_⟩
     ·have:=hd.2
      rw[show((c.toNat:Int)==45)=(c==45)from kr 45 ay];simp only[Na]at this;revert this;cases(c==45)<;>cases bf d<;>simp
     rw[show((c.toNat:Int)==47)=(c==47)from kr 47 ay,show((d.toNat:Int)==92)=(d==92)from kr 92 ay,show((c.toNat:Int)==92)=(c==92)from kr 92 ay,show((d.toNat:Int)==47)=(d==47)from kr 47 ay]
     exact T
  obtain⟨q,q1,q2,q3,q4,q5⟩:=ua bf s _ (j+1) (aX _) aA
  rw[hd,ak rfl,arp hc hl hd q5 q1]at T;refine⟨q,2,.inr (.inl ⟨rfl,hl,?_,q1,q2,q3,q4⟩),T⟩;cases h:bf c
  ·rw[h,pZ,bV]at hd
   refine .inr ⟨rfl,(kr 45 ay).trans hd.1,?_⟩;rcases iA (j+1) q with h|h
   ·exact h
   obtain rfl:q=j+1:=ah
   cases hx:s[j+1]? with
   |none=>rw[hx]at hd;cases hd.2
   |some d=>rw[hx]at hd;have:=q4 d hx;simp only[Na]at hd;rw[hd.2]at this;cases this
  exact .inl rfl
 obtain⟨q,q1,q2,q3,q4,q5⟩:=ua dO s _ (j+1) (aX _) aA
 rw[hl,ak rfl,ars hc hl q5 q1]at T;exact⟨q,1,.inl ⟨rfl,hl,q1,q2,q3,q4⟩,T⟩
theorem arW{b:Bool}(h:dO x=b):((cL x||bf x)||((x.toNat:Int)==95))=b:=by
 rw[<-h,show((x.toNat:Int)==95)=(x==95)from kr 95 ay];rfl
theorem Qh(hl:s.length<=262144){i:Nat}(hi:i<=s.length)(w:aAX):aA7 prog 119 #[.string (tx s),.int .i64 i] w (bg w (LI s.length (lex i (s.drop i)))):=by
 obtain⟨n,hn⟩:=aF ((tx s).size);have HN:=af (show n=s.length by rw[<-hn,bC]);have hnb:n<=262144:=by rw[HN.oo];exact hl
 obtain⟨j,hij,h2,h3,h4,h5⟩:=agw s _ i (aX _) hi;rw[h5];have hjn:j<=n:=by rw[HN.oo];exact h2
 have HS:=af h3;have HC:=af (fun c (hc:s[j]? =some c)=>And.intro (h4 c hc) (ayH hc (h4 c hc)));have HE:=af (fun h=>ayI (S:=s) (j:=j) h h2);generalize lex j (s.drop j)=l at*;obtain⟨R,hR⟩:=aF (LI s.length l);rw[hR];have HR:=af hR;go_in;go_wp2_with fail
 go_loop [1] (fun x=> ∃k:Nat,i<=k/\k<=j/\x= .int .i64 k) (fun x=>j-(intOf x).toNat)
 ·exact⟨i,aX _,hij,rfl⟩
 obtain⟨k,hik,hkj,rfl⟩:=hrel
 by_cases aA:k<j
 ·obtain⟨x,hx,jK⟩:=HS.oo k hik aA
  have ix:=cH s k x hx;have zk:decide ((k:Int)<(n:Int))=true:=aC;rcases alz jK with z1|⟨z1,z2⟩|⟨z1,z2,z3⟩|⟨z1,z2,z3,z4⟩
  all_goals clear jK
  all_goals go_wp2_with fail
  all_goals go_round
  all_goals first|(case rel=>exact⟨k+1,ah,ah,by go_num⟩)|skip
  all_goals(case measure=>simp[intOf];omega)
 obtain rfl:k=j:=ah
 by_cases hje:n<=k
 ·obtain⟨⟨t1,t2,t3,t4⟩,t5⟩:=HE.oo (by rw[<-HN.oo];exact hje)
  have HZ:=af (show Hq 0 [] n n=R by rw[<-HR.oo];unfold LI;rw[t1,t2,t4,t5,HN.oo];rfl);have zk:decide ((k:Int)<(n:Int))=false:=aC;exact aed
 have hkn:k<n:=ah;obtain⟨c,hc⟩: ∃c,s[k]? =some c:=⟨_,aV (by rw[<-HN.oo];exact hkn)⟩;obtain⟨hcb,q,kd,hcase,t1,t2,t3,t4⟩:=HC.oo c hc;have HZ:=af (show ∀u,(s.take q).drop k=u->Hq kd u k q=R from fun u hu=>by rw[<-HR.oo];unfold LI;rw[t1,t2,t4,t3,hu]);obtain⟨b1,b2,b3,b4⟩:=alA hcb;have ic:=cH s k c hc;have zk:decide ((k:Int)<(n:Int))=true:=aC;have zg:decide ((n:Int)<=(k:Int))=false:=aC;obtain⟨lc,hlc⟩: ∃b,cL c=b:=⟨_,rfl⟩;obtain⟨dc,hdc⟩: ∃b,bf c=b:=⟨_,rfl⟩;have LC:=af (fun w=>aim c w);have DC:=af (fun w=>xq c w);rw[hlc]at LC;rw[hdc]at DC;rcases hcase with⟨rfl,h1,P⟩|⟨rfl,h1,h2,P⟩|⟨rfl,h1,h2,h3,rfl⟩|⟨d,rfl,h1,h2,h3,h4,h5⟩
 rotate_left 2
 ·obtain rfl:false=lc:=h1.symm.trans hlc
  obtain rfl:false=dc:=h2.symm.trans hdc;have zj:decide ((k:Int)+1<(n:Int))=false:=by have:=HN.oo;simp;omega
  have sl:=nB s k (k+1) ah (bE HN.oo);have HZ:=af (HZ.oo _ rfl);generalize (s.take (k+1)).drop k=u at*;rw[show((k+1:Nat):Int)=(k:Int)+1 by omega]at sl HZ
  go_wp2_with (first|(go_at_call 204;refine aK (LC.oo _) ?_)|(go_at_call 200;refine aK (DC.oo _) ?_))
  all_goals exact aZ (by simp[results,results119,go_sem]<;>rfl) rfl ⟨congrArg aBw HZ.oo,Dn⟩
 ·obtain rfl:false=lc:=h1.symm.trans hlc
  obtain rfl:false=dc:=h2.symm.trans hdc;have iG:k+1<n:=by have:=(bt.1 h3).1;have:=HN.oo;omega
  have zj:decide ((k:Int)+1<(n:Int))=true:=aC;have id:=cH s (k+1) d h3;rw[show((k+1:Nat):Int)=(k:Int)+1 by omega]at id;have DD:=af (fun w=>xq d w);obtain⟨dd,hdd⟩: ∃b,bf d=b:=⟨_,rfl⟩;rw[hdd]at DD h4;obtain⟨a1,ha1⟩: ∃b,((c.toNat:Int)==47)=b:=⟨_,rfl⟩;obtain⟨a2,ha2⟩: ∃b,((d.toNat:Int)==92)=b:=⟨_,rfl⟩;obtain⟨a3,VL⟩: ∃b,((c.toNat:Int)==92)=b:=⟨_,rfl⟩;obtain⟨a4,ha4⟩: ∃b,((d.toNat:Int)==47)=b:=⟨_,rfl⟩;obtain⟨a5,ha5⟩: ∃b,((c.toNat:Int)==45)=b:=⟨_,rfl⟩;rw[ha1,ha2,VL,ha4]at h5;rw[ha5]at h4;have YK:=nB s k (k+1) ah (bE HN.oo);have vD:=nB s k (k+2) ah (bE HN.oo);rw[show((k+1:Nat):Int)=(k:Int)+1 by omega]at YK;rw[show((k+2:Nat):Int)=(k:Int)+1+1 by omega]at vD
  have HZ:=af (show ∀u1 u2,(s.take (k+1)).drop k=u1->(s.take (k+2)).drop k=u2->(if(a1&&a2)||(a3&&a4)then Hq 3 u2 k ((k:Int)+1+1)else Hq 3 u1 k ((k:Int)+1))=R from fun u1 u2 e1 e2=>by
   split<;>rename_i hb
   ·rw[ak hb]at h5;rw[<-HZ.oo u2 (by rw[h5];exact e2),h5];congr 1
   rw[ai hb]at h5;rw[<-HZ.oo u1 (by rw[h5];exact e1),h5];congr 1)
  have HZ:=af (HZ.oo _ _ rfl rfl);generalize (s.take (k+1)).drop k=u1 at*;generalize (s.take (k+2)).drop k=u2 at*
  have hx:(a5=true/\a1=false/\a3=false/\dd=false)\/(a5=false/\a1=true/\a3=false/\a2=true)\/(a5=false/\a1=true/\a3=false/\a2=false)\/(a5=false/\a1=false/\a3=true/\a4=true)\/(a5=false/\a1=false/\a3=true/\a4=false)\/(a5=false/\a1=false/\a3=false/\a4=a4):=by
   have e1:a5=true->a1=false/\a3=false:=by rw[<-ha5,<-ha1,<-VL];simp only[pW,Ah];omega
   have e2:a1=true->a3=false:=by rw[<-ha1,<-VL];simp only[pW,Ah];omega
   revert e1 e2 h4;cases a5<;>cases a1<;>cases a3<;>cases a2<;>cases a4<;>cases dd<;>decide
  rcases hx with⟨rfl,rfl,rfl,rfl⟩|⟨rfl,rfl,rfl,rfl⟩|⟨rfl,rfl,rfl,rfl⟩|⟨rfl,rfl,rfl,rfl⟩|⟨rfl,rfl,rfl,rfl⟩|⟨rfl,rfl,rfl, -⟩
  all_goals
   go_wp2_with (first|(go_at_call 204;refine aK (LC.oo _) ?_)|(go_at_call 200;first|(refine aK (DC.oo _) ?_)|(refine aK (DD.oo _) ?_)))
   exact aee
 focus
  obtain rfl:true=lc:=h1.symm.trans hlc
 rotate_left
 obtain rfl:false=lc:=h1.symm.trans hlc;rw[hdc]at h2;rcases h2 with rfl|⟨rfl,Zm,hkq⟩
 rotate_left
 focus
  obtain⟨d,hd,hdd⟩:=P.2.2.1 (k+1) (aX _) hkq;have id:=cH s (k+1) d hd;have zj:decide ((k:Int)+1<(n:Int))=true:=by have:=(bt.1 hd).1;have:=HN.oo;simp;omega
  rw[show((k+1:Nat):Int)=(k:Int)+1 by omega]at id;have DD:=af (fun w=>xq d w);rw[hdd]at DD
 iterate 3
  focus
   obtain⟨p1,p2,p3,p4⟩:=P;have yL:q<=n:=by rw[HN.oo];exact p2
   have HQ:=af p3;have Rz:=af p4;have sl:=nB s k q ah p2;have HZ:=af (HZ.oo _ rfl);generalize (s.take q).drop k=u at*
   go_wp2_with (first|(go_at_call 204;refine aK (LC.oo _) ?_)|(go_at_call 200;first|(refine aK (DC.oo _) ?_)|(refine aK (DD.oo _) ?_)))
   go_loop [5] (fun x=> ∃k2:Nat,k+1<=k2/\k2<=q/\x= .int .i64 k2) (fun x=>q-(intOf x).toNat)
   ·exact⟨k+1,aX _,p1,by go_num⟩
   obtain⟨k2,iG,hk2,rfl⟩:=hrel
   by_cases aAq:n<=k2
   ·obtain rfl:k2=q:=ah
    have vM:decide ((k2:Int)<(n:Int))=false:=aC;exact aed
   obtain⟨x,hx⟩: ∃x,s[k2]? =some x:=⟨_,aV (bE HN.oo)⟩;have ix:=cH s k2 x hx;have vM:decide ((k2:Int)<(n:Int))=true:=aC;have LX:=af (fun w=>aim x w);have DX:=af (fun w=>xq x w);have hQ:=fun(h:k2<q)=>(HQ.oo k2 iG h).elim fun y hy=>(fU (hx.symm.trans hy.1))▸hy.2
   have hN:=fun(h:k2=q)=>Rz.oo x (h▸hx)
   have hB:=arW (x:=x) rfl;obtain⟨b1,e1⟩: ∃b,cL x=b:=⟨_,rfl⟩;obtain⟨b2,e2⟩: ∃b,bf x=b:=⟨_,rfl⟩;obtain⟨b3,z3⟩: ∃b,((x.toNat:Int)==95)=b:=⟨_,rfl⟩;rw[e1]at LX;rw[e2]at DX;rw[e1,e2,z3]at hB
   by_cases dS:k2<q
   ·have hQ:=hQ dS
    first
     |(rw[<-hB]at hQ
       have hw:b1=true\/(b1=false/\b2=true)\/(b1=false/\b2=false/\b3=true):=by revert hQ;cases b1<;>cases b2<;>cases b3<;>decide
       rcases hw with rfl|⟨rfl,rfl⟩|⟨rfl,rfl,rfl⟩)
     |(obtain rfl:true=b2:=hQ.symm.trans e2
       clear hN hB hQ e1 e2)
    all_goals
     go_wp2_with (first|(go_at_call 204;refine aK (LX.oo _) ?_)|(go_at_call 200;refine aK (DX.oo _) ?_))
     go_round
     case rel=>exact⟨k2+1,ah,ah,by go_num⟩
     case measure=>simp[intOf];omega
   obtain rfl:k2=q:=ah
   have hN:=hN rfl
   first
    |(rw[<-hB]at hN
      have hw:b1=false/\b2=false/\b3=false:=by revert hN;cases b1<;>cases b2<;>cases b3<;>decide
      obtain⟨rfl,rfl,rfl⟩:=hw)
    |(obtain rfl:false=b2:=hN.symm.trans e2
      clear hQ hB hN e1 e2)
   go_wp2_with (first|(go_at_call 204;refine aK (LX.oo _) ?_)|(go_at_call 200;refine aK (DX.oo _) ?_))
   exact aee
def MB(w:aAX)(o:Option Nat)(e:aBp)(w':aAX):Prop:=aAW w.heap.size w w'/\match o with
 |some n=>e= .returned (.tuple #[.int .i64 n,.bool true])
 |none=>e= .returned (.tuple #[.int .i64 0,.bool false])
theorem aip(ag:Int)(s:Tx)(w:aAX):aA7 prog 117 #[.int .i64 ag,.string (tx s)] w (MB w (dX ag s)):=by
 obtain⟨N,hN⟩: ∃N:Nat,dU ag=N:=⟨(dU ag).toNat,by have:=Lg ag;omega⟩;have hb:=Lg ag;have CR:=af (auu ag);have RG:=af (fun(k:Nat) (hk:(k:Int)<dU ag) (w:aAX)=>aus ag k hk w);have HH:=af (fun(n:Nat) (h:n<N)=>aiH (ag:=ag) (s:=s) (n:=n) ah);have HM:=af (fun(hm: ∀m,m<N->dy ag m≠s)=>aiJ (ag:=ag) (s:=s) (n:=N) hN.symm hm);have HB:=af (show ∀k:Nat,k<N->(k:Int)<dU ag from fun k hk=>by omega);rw[hN]at CR;generalize dX ag s=o at*;have hNb:N<=32:=ah;go_in;go_wp2
 go_loopw [6] (fun i wr=> ∃k:Nat,k<=N/\i= .int .i64 k/\aAW w.heap.size w wr/\Hid (∀m,m<k->dy ag m≠s)) (fun i _=>N-(intOf i).toNat)
 ·exact aea
 obtain⟨k,hk,rfl,E,HK⟩:=hrel
 by_cases aA:k<N
 ·have RC:=af (RG.oo k (HB.oo k aA))
  by_cases he:dy ag k=s
  ·have hz:((tx (dy ag k)).toList==(tx s).toList)=true:=by rw[j9];simpa using he
   have HO:=af (HH.oo k aA HK.oo he);generalize dy ag k=u at*
   go_wp2_with (go_at_call 202;refine aK (CR.oo _) ?_)
   refine(RC.oo _).mono ?_;rintro e w1 ⟨rfl,q⟩;have E:=aI E q.cm;go_wp2;go_ret2;exact⟨E,by rw[HO.oo];rfl⟩
  have hz:((tx (dy ag k)).toList==(tx s).toList)=false:=qA he
  have fC:=af (show ∀m,m<k+1->dy ag m≠s from fun m hm=>by
   rcases fO.1 hm with h|h
   ·exact HK.oo m h
   subst h;exact he)
  generalize dy ag k=u at*
  go_wp2_with (go_at_call 202;refine aK (CR.oo _) ?_)
  refine(RC.oo _).mono ?_;rintro e w1 ⟨rfl,q⟩;have E:=aI E q.cm;go_wp2
  exact JO
 obtain rfl:k=N:=ah
 have HO:=af (HM.oo HK.oo)
 go_wp2_with (go_at_call 202;refine aK (CR.oo _) ?_)
 go_ret2;exact⟨E,by rw[HO.oo];rfl⟩
end Go.Proofs.YtkbbgjloifmmbaaGreatDoor

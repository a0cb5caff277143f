/- What ReadAgainP leans on, part 20. -/
import Derived.Test.YtkbbgjloifmmbaaGreatDoorPf18
import Derived.Test.YtkbbgjloifmmbaaGreatDoorPf17
import Derived.Deep.RegionLaw
import Derived.Test.YtkbbgjloifmmbaaGreatDoorPf19
import Derived.Laws.IdiomStrings
set_option linter.unusedVariables false
set_option maxRecDepth 100000
set_option maxHeartbeats 12800000
open _root_.Go.Proofs.Tryz
open _root_.Option renaming some->aBf
open _root_.Go renaming World->aAX,Ending->aBp,Calls->aA7,Value->aAY
open _root_.Go.RowKit renaming Below->aAW
open _root_.Go.Lib renaming decDigits->aA8,itoa->aA9
open _root_.List renaming length->aBd,replicate->aBg
open _root_.Go.Instr renaming sliceAt->aA1
open _root_.UInt8 renaming ofNat->aBt
open _root_.Go.World renaming drew->aBn
namespace Go.Proofs.YtkbbgjloifmmbaaGreatDoor
open Go.RowKit Go.Sort
variable{x y:Cd}{ag er:Int}{e:Int × Nat}{C:List Cd}{aD:List bF}{L l:List Tx}{xs ys:List aAY}{B B' E N bad c c' i k kk m n q rb size:Nat}{a:Option Addr}{t:aT}{M b p r r1 r2 r3 s u v:Tx}{d:UInt8}{w w' w1 w5 w6 w7 w8 wi:aAX}
theorem YN{P:Program}{t e:TypeId}{z:aAY}{bytes:Nat}(T:kg P t e z size bytes){ops:Array Oper}{o:Oper}{f:Act}{K:Act->aAX->Prop}{Q:Exit->Act->aAX->Prop}{E:Prop}(s x:Operand)(hgd:o.guard=none)(ho:o.op= .call { callee:=.builtin .append,args:=#[s,x],argTypes:=#[t,t] })
  {sa:Option Addr}  (hs:f.eval s= .slice sa n c) (hown:au w B e size sa n c xs)
 {xa:Option Addr} {xc:Nat}  (hx:f.eval x= .slice xa m xc) (hrow:Row w xa ys) (hl:ys.length=m*size) (h1c: ∀u∈ys,u.oneCell'=true)
 (sg:B<=w.heap.size) (hbytes:(n+m)*bytes<=140737488355328) (hm:n+m<=maxLen)
 (h: ∀a' c' w',au w' B e size a' (n+m) c' (xs++ys)->mS w w' sa c a' c'->K (f.put o.dst (.slice a' (n+m) c')) w'):if Region.wanted o (yielded ops f.tmps)=true then Oper.wp P o f w K Q else E:=by
 have hw:Region.wanted o (yielded ops f.tmps)=true:=by simp[Region.wanted,hgd]
 rw[ak hw];obtain⟨a',c',w',hrun,h1,h2⟩:=ajq T o.type hown (xc:=xc) hrow hl h1c hbytes hm sg;unfold Oper.wp execOp;simp only[ho,resolve,invoke,builtin,Sem.run_bind,Sem.run_pure,Result.andThen_ok,List.map_toArray,ox,EO,hs,hx,hrun];exact h a' c' w' h1 h2
abbrev xT(w:aAX)(B:Nat)(a:Option Addr)(n c:Nat)(l:List bF):Prop:=au w B 56 5 a n c (flat lM l)
def Si(p:EP (List bF × Tx))(w1 w:aAX)(s:Tx)(t:aT)(e:aBp)(w':aAX):Prop:=aAW w1.heap.size w1 w'/\((∃er k,p= .error (er,k)/\e=uv er k)\/(∃l r1 k' a c,p= .ok (l,r1)/\s.drop k'=r1/\e= .returned (.tuple #[])/\St w w' w1.heap.size/\dL w1 w' s k' { t with ia:=a,ic:=c,init:=l }/\xT w' w.heap.size a l.length c l))
theorem afQ(h:(aM r).head?≠some 123\/(125:UInt8)∉aM r):gj ag N r= .error (140,cE N (aM r)):=by
 unfold gj;dsimp only;rw[ak h]
theorem afO(h:aM r=123::v)(h2:(125:UInt8)∈v):gj ag N r=match iS ag N (bh 59 (v.takeWhile (· != 125))) v []with
 | .error e=>.error e
 | .ok l=>.ok (l,(v.dropWhile (· != 125)).drop 1):=by
 unfold gj;dsimp only;rw[h,ai (by rintro(f|f);exact f rfl;exact f (zW _ h2)),tu ay,tn ay];rfl
def nU(W:Tx):List Tx->Tx
 |[]=>W
 |[p]=>p++W
 |p::L=>p++59::nU W L
theorem XY(W:Tx): ∀A:Tx,nU W (bh 59 A)=A++W
 |[]=>rfl
 | c::A=>by
   have ih:=XY W A;cases h:c==59 with
   | true=>
     obtain rfl:c=59:=aS h;rw[bh,ak h];cases e:bh 59 A with
     |nil=>exact absurd e (uc 59 A)
     |cons x t=>rw[e]at ih;show[]++59::nU W (x::t)=_;rw[ih];rfl
   | false=>
     rw[bh,ai (by rw[h];decide)];cases e:bh 59 A with
     |nil=>exact absurd e (uc 59 A)
     | cons x t=>
       rw[e]at ih;cases t with
       |nil=>show(c::x)++W=_;rw[show c::A++W=c::(A++W)from rfl,<-ih];rfl
       |cons y t=>show(c::x)++59::nU W (y::t)=_;rw[show c::A++W=c::(A++W)from rfl,<-ih];rfl
theorem as6(W p:Tx)(L:List Tx)(hW:W≠[]): ∃d r,nU W (p::L)=p++d::r/\(L≠[]->r=nU W L):=by
 cases L with
 | nil=>
   cases W with
   |nil=>exact absurd rfl hW
   |cons d r=>exact⟨d,r,rfl,fun h=>absurd rfl h⟩
 |cons x L=>exact⟨59,nU W (x::L),rfl,fun _=>rfl⟩
theorem ah1(h:aG p=[]):iS ag N (p::L) v aD=iS ag N L (v.drop (p.length+1)) aD:=by rw[iS,ak h]
theorem ahZ(h:aG p≠[])(h2:jr ag p=none):iS ag N (p::L) v aD= .error (140,cE N (aM v)):=by rw[iS,ai h,h2]
theorem ah0{x:bF}(h:aG p≠[])(h2:jr ag p=some x):iS ag N (p::L) v aD=iS ag N L (v.drop (p.length+1)) (aD++[x]):=by rw[iS,ai h,h2]
theorem YE(h:aG p≠[]):aM (p++r)=aM p++r:=by
 have:aM p≠[]:=fun e=>h ((DM p).2 (wJ e))
 unfold aM at this⊢;rw[IP,ai (aS this)]
theorem noInit(h:t.ia=none/\t.ic=0/\t.init=[]):{ t with ia:=none,ic:=0,init:=[] }=t:=by
 exact acJ
theorem aW.gr{w2:aAX}{b:Nat}{l:List aAY}{r:Option Nat}(h:aW w b l)(hb:aAW w.heap.size w w1)(hg:w1.grownBy w2 r)(hr: ∀c,r=some c->c≠b):aW w2 b l:=by
 have h1:=h.below hb;refine⟨ou h1.1 hg.size,fun j hj=>?_⟩;have h2:=h1.2 j hj;rw[aV hj]at h2⊢;refine hg.cell h2 ?_;cases r with
 |none=>simp
 |some c=>have:=hr c rfl;simpa using fun e=>this e.symm
theorem aja(w:aAX)(x:bF)(T:TypeId):Row (w.alloc (.cells #[.int .i64 x.aO,.int .i64 x.aR,.string (tx x.aj),.string (tx x.bH),.int .i64 x.n] T)) (aBf ⟨w.heap.size,0,none⟩) (lM x):=by
 have b:=aW.new w #[.int .i64 x.aO,.int .i64 x.aR,.string (tx x.aj),.string (tx x.bH),.int .i64 x.n] T;refine⟨fun _=>rfl,fun i hi=>?_⟩;simp
theorem ahW(h:aG p≠[])(hN:(p++d::r).length<=N):((N-(p++d::r).length:Nat):Int)+((p.length-(aM p).length:Nat):Int)=(cE N (aM (p++d::r)):Nat):=by
 rw[YE h];unfold cE;have:=(iu (l:=p) aH).length_le;unfold aM;simp only[bu,cy]at hN⊢;omega
theorem asJ{i:Int}(h:i=(k:Int)):Ending.panicked [{ v:=.iface 65 (.agg #[.int .i64 er,.int .i64 i]),recovered:=false }]=uv er k:=by subst h;rfl
theorem St.app{a':Option Addr}(h:St w wi rb)(ho:au wi B E size a n c xs)(hB:w.heap.size<=B)(hg:mS wi w' a c a' c'):St w w' rb:=by
 refine⟨?_,.inl rfl⟩;have g:=hg.step.grown;refine⟨g.os.trans h.grown.os,g.tape.trans h.grown.tape,g.output.trans h.grown.output,dY h.grown.size g.size,fun k hk aN=>?_⟩;rw[g.block k (ou hk h.grown.size) ?_]
 ·exact h.grown.block k hk aN
 cases a with
 |none=>simp
 | some x=>
   have:=(au.lt ho aq).1;simp[bk]at this ⊢; omega
theorem avP(R:dL w1 w s k t)(ha:bD t.ag=true)(h0:t.ia=none/\t.ic=0/\t.init=[]):aA7 prog 29 #[.pointer (some ⟨w1.heap.size,0,none⟩)] w (Si (gj t.ag s.length (s.drop k)) w1 w s t):=by
 obtain⟨c0,c1⟩:=R.bx.qb;have hl:=R.sl;have PK:=af (Ld s w1.heap.size k R.le R.sl w c0 c1);have FL:=af (fun p er k w=>Lb p er k w);have HR:=af R;obtain⟨u,hu⟩:=aF (aM (s.drop k));obtain⟨N,hN⟩:=aF s.length;have P1:=af (fun h=>afQ (ag:=t.ag) (N:=N) (r:=s.drop k) h);have P2:=af (fun v h h2=>afO (ag:=t.ag) (N:=N) (r:=s.drop k) (v:=v) h h2);rw[hu]at P1 P2;rw[hN]at PK⊢;have HN:=af hN;generalize gj t.ag N (s.drop k)=hp at*;clear c0 c1;go_in;go_wp2_with fail;refine PK.oo.mono ?_;rintro e w2 ⟨hv,E2⟩;unfold xU at hv;rw[hu]at hv;rcases hv with⟨pJ,rfl⟩|⟨b,pJ,hb,h10,mM,rfl⟩
 ·have P1:=af (P1.oo (.inl (by rw[pJ];simp)))
  rw[pJ,GH]at P1;have E:=af E2;clear hu pJ E2;exact acK
 obtain⟨c,hc⟩: ∃c,u.head?=some c:=by
  cases u with
  |nil=>exact absurd rfl pJ
  |cons c r=>exact⟨c,rfl⟩
 have hcb:aH c=false:=lQ (l:=s.drop k) (p:=aH) (by rw[show(s.drop k).dropWhile aH=u from hu];exact hc);obtain⟨q1,q2,q3⟩:=KE hc hcb hb;have iH:u.length<=N:=by rw[<-hu,<-hN];have:=(nC (s.drop k)).length_le;have:=dG (i:=k) (l:=s);omega
 have hin:b.length+u.length<=N:=by unfold cE at mM;omega
 have hlen:(b++u.takeWhile (· != 10)).length<=262144:=by have:=ud (· != 10) u;rw[bu];omega
 have TR:=af (fun w=>tZ (b++u.takeWhile (· != 10)) ah w);rw[q1]at TR
 obtain⟨r0,fk⟩: ∃r0,bB u=c::r0:=by
  cases Wb:bB u with
  |nil=>rw[Wb]at q3;cases q3
  |cons d r0=>rw[Wb]at q3;exact⟨r0,by rw[show d=c from fU q3]⟩
 rw[fk]at TR;have i0:=oU (c::r0) c rfl;generalize b++u.takeWhile (· != 10)=ln at*;have E2:=af E2;clear q1 q2 q3 fk hin hlen hb h10 mM;go_wp2_with fail;refine aQ (TR.oo _) fun w3 E3=>?_
 have E:=af (aI E2.oo E3);clear E3
 by_cases OA:c=123
 ·subst OA
  have y0:(((123:UInt8).toNat:Int) != 123)=false:=ay
  obtain⟨v,rfl⟩: ∃v,u=123::v:=by
   cases u with
   |nil=>exact absurd rfl pJ
   |cons d v=>exact⟨v,by rw[show d=123 from fU hc]⟩
  have FW:s.drop (N-(v.length+1))=123::v:=by
   have:=JJ (s:=s) (u:=123::v) (k:=k) (by rw[<-hu];exact nC _);rw[hN]at this;exact this
  have hpl:cE N (123::v)=N-(v.length+1):=rfl;rw[hpl]at*;have hvN:v.length+1<=N:=iH;have R3:=HR.oo.below E.oo;have e0:=R3.bx.get 0 _ rfl;have hrb:=R3.lt;have sl:=Qy s (N-(v.length+1)) ah;rw[FW]at sl;have IB:=af (fun w=>WG (123::v) 125 w);obtain⟨i1,i2⟩:=WE 125 (123::v)
  by_cases CJ:(125:UInt8)∈v
  ·obtain⟨A,hA⟩:=aF (v.takeWhile (· != 125))
   obtain⟨Y,hY⟩: ∃Y,v.dropWhile (· != 125)=125::Y:=by
    cases hd:v.dropWhile (· != 125)with
    |nil=>exact absurd (wJ hd 125 CJ) aq
    | cons d Y=>
      exact acL
   have hv:v=A++125::Y:=by rw[<-hA,<-hY];exact(kH ..).symm
   have e8:=i2 (zW _ CJ);rw[tu (p:=fun x=>x != 125) ay,hA]at e8;obtain⟨q8,Wk⟩:=aF ((123::A).length);rw[Wk]at e8;have hqA:q8=A.length+1:=by rw[<-Wk];rfl
   have IB:=af (fun w=>e8▸IB.oo w);have P2:=af (P2.oo v rfl CJ);rw[hA,hY,qR,qP]at P2;have hvl:v.length=A.length+Y.length+1:=by rw[hv];simp;omega
   generalize eH:N-(v.length+1)=p0 at*;have aAD:p0+v.length+1=N:=ah;have VJ:N<=262144:=by rw[<-hN];exact hl
   have z8:decide ((q8:Int)<0)=false:=aq
   have vD: ∀w,(aA1 9 (.string (tx s)) (some (.int .i64 ((p0:Int)+1))) (some (.int .i64 ((p0:Int)+(q8:Int)))) none).run prog w= .ok (.string (tx A)) w:=by
    have:=nB s (p0+1) (p0+q8) ah ah
    have e:(s.take (p0+q8)).drop (p0+1)=A:=by
     rw[tG,show p0+q8-(p0+1)=A.length by omega,<-gC,FW];show(v.take A.length)=A;rw[hv];simp
    rw[e,show((p0+1:Nat):Int)=(p0:Int)+1 by omega,show((p0+q8:Nat):Int)=(p0:Int)+(q8:Int) by omega]at this;exact this
   have hY2:s.drop (p0+q8+1)=Y:=by
    rw[show p0+q8+1=p0+(q8+1) by omega,<-gC,FW,hqA];show v.drop (A.length+1)=Y;rw[hv,<-gC];simp
   have SP:=af (fun w g=>ajC A 59 ah w g);have hJ:=XY (125::Y) A;rw[<-hv]at hJ;have aN:=uc 59 A;have uW: ∀p∈bh 59 A,p.length<=262144:=fun p hp=>by have:=He 59 A p hp;omega
   have hLn:=vE 59 A;generalize bh 59 A=L at*;obtain⟨n,hn⟩:=aF L.length;rw[hn]at SP hLn;have gF:n<=262145:=ah;have gw:=af hn;have Rx:=af uW;have HJ:=af hJ;have HSD:=af FW;have ZL:=af aN;have g4:=HR.oo.g.below E.oo;have fC:=af hY2;have hk2:p0+q8+1<=N:=ah;have hn0:n≠0:=fun h=>aN (rP.1 (hn.trans h))
   have RM:=af (noInit h0);clear hu i1 i2 e8 CJ FW R3 P1 hc pJ hA hY hv Wk hvl hY2 hJ aN uW hn hLn hpl iH hvN eH h0 hqA
   go_wp2_with (first|(go_at_call 78;refine aK (IB.oo _) ?_)|fail)
   refine(SP.oo _ g4).mono ?_;rintro e w4 ⟨a,rfl,oA,T,E4⟩;have aoG:w3.heap.size<=bk a:=(au.lt oA (au.some oA ah)).1;clear oA;have E:=af (aI E.oo E4)
   have hab:bk a<w4.heap.size:=by
    have:=Row.lt T.row (by intro h;apply hn0;rw[<-gw.oo];simpa using congrArg aBd h);exact this
   have vZ:=af (bX (bw:=w1.heap.size) E.oo);have R4:=af (show dL w1 w4 s k { t with ia:=none,ic:=0,init:=[] } by rw[RM.oo];exact HR.oo.below E.oo);have T:=af T;obtain⟨pp,fX⟩:=aF (iS t.ag N L v []);rw[fX]at P2;have jS:=af fX;have afr:=E.oo.size;clear E4 e0 fX g4 vZ;go_wp2_with fail
   go_loopw [7,55] (fun f i wi=> ∃(m:Nat) (aD:List bF) (ia:Option Addr) (ic:Nat) (x:Tx),i= .int .i64 m/\m<=n/\f= .int .i64 (N-x.length:Nat)/\x.length<=N/\aD.length<=m/\Hid (m<n->x=nU (125::Y) (L.drop m))/\Hid (pp=iS t.ag N (L.drop m) x aD)/\Hid (dL w1 wi s k { t with ia:=ia,ic:=ic,init:=aD })/\Hid (xT wi w4.heap.size ia aD.length ic aD)/\Hid (St w wi w1.heap.size)/\Hid (cO wi a L)/\w4.heap.size<=wi.heap.size) (fun _ i _=>n-(intOf i).toNat)
   case atStart=>
    refine⟨0,[],none,0,v,rfl,dW _,?_,ah,aX _,af fun _=>by rw[jg];exact HJ.oo.symm,af (by rw[jg];exact jS.oo.symm),R4,af (au.nil _ _ _ _),af (bX E.oo),T,aX _⟩
    congr 1;omega
   obtain⟨m,aD,ia,ic,x,rfl,hmn,rfl,Pg,aoH,HX,HP,RR,OO,SS,TT,hB4⟩:=hrel
   by_cases aA:m<n
   ·obtain⟨p,lR⟩: ∃p,L[m]? =some p:=⟨_,aV (by rw[gw.oo];exact aA)⟩
    have hdr:L.drop m=p::L.drop (m+1):=by
     obtain⟨h1,h2⟩:=bt.1 lR;rw[jB h1,h2]
    have ix:=TT.oo.idx m (by rw[gw.oo];exact aA) n;rw[gw.oo]at ix;have cl:=TT.oo.cell m (by rw[gw.oo];exact aA);rw[(bt.1 lR).2]at cl;obtain⟨d,r,ex,er⟩:=as6 (125::Y) p (L.drop (m+1)) aq;have hx:=HX.oo aA;rw[hdr,ex]at hx;have hxl:x.length=p.length+1+r.length:=by rw[hx];simp;omega
    have ng:x.drop (p.length+1)=r:=by rw[hx,<-gC];simp
    have aAH:p.length<=262144:=ah
    have mC:=af (show m+1<n->r=nU (125::Y) (L.drop (m+1))from fun h=>er (fun e=>by
     have:=congrArg aBd e;rw[dG,gw.oo]at this;simp at this;omega))
    have TP:=af (fun w=>tZ p ah w);obtain⟨pl,hpl⟩:=aF ((tx p).size);have uW:pl=p.length:=by rw[<-hpl,bC]
    have apj:pl<=262144:=ah;have hfr:((N-x.length:Nat):Int)+((pl:Int)+1)=((N-r.length:Nat):Int):=ah;have Mg:=af hfr;have HXE:=af hx;have zK:decide ((m:Int)<(n:Int))=true:=aC;have Db:r.length<=N:=ah;have qF:N-x.length<=262144:=ah;rw[hdr]at HP
    by_cases hb:aG p=[]
    ·have fS:=af (show pp=iS t.ag N (L.drop (m+1)) r aD by rw[HP.oo,ah1 hb,ng])
     rw[hb]at TP;have TP:=af (fun w=>(show bg w (.string (tx []))=bg w (.string ⟨#[]⟩)from rfl)▸TP.oo w);clear lR hdr ex er hx hxl ng uW hfr hb HP HX;go_wp2_with fail;refine aQ (TP.oo _) fun w5 E5=>?_
     have RR:=af (RR.oo.below E5);have OO:=af (au.below OO.oo E5);have SS:=af (SS.oo.trans (bX (bw:=w1.heap.size) E5));have TT:=af (TT.oo.below E5);have Vu:=dY hB4 E5.size;clear E5 cl;go_wp2_with fail
     go_roundw;exact⟨m+1,aD,ia,ic,r,by go_num,ah,by rw[Mg.oo],Db,ah,mC,fS,RR,OO,SS,TT,Vu⟩;exact ep
    obtain⟨tp,Df⟩:=aF (aG p)
    have zt:(tx tp).toList.isEmpty=false:=by
     rw[bU,<-Df];cases e:aG p with
     |nil=>exact absurd e hb
     |cons a b=>rfl
    rw[Df]at TP;have RI:=af (fun w g=>avO t.ag ha p ah w g);have LD:=af (fun w=>Lc p ah w);cases hI:jr t.ag p with
    | none=>
      have PE:=af (show hp= .error (140,cE N (aM x)) by rw[P2.oo,HP.oo,ahZ hb hI]);have hpa:=af (show((N-x.length:Nat):Int)+((p.length-(aM p).length:Nat):Int)=(cE N (aM x):Nat) by rw[hx];exact ahW hb (by rw[<-hx];exact Pg));rw[hI]at RI;obtain⟨ld,pL⟩:=aF (p.length-(aM p).length);rw[pL]at LD hpa;have apa:ld<=262144:=ah;clear lR hdr ex er hx hxl ng uW hfr hb Df hI HP HX mC;go_wp2_with fail;refine aQ (TP.oo _) fun w5 E5=>?_
      have xV:=RR.oo.below E5;have q2:=xV.bx.get 2 _ rfl;have g5:=xV.g;have Dd:=xV.lt;have E5:=af E5;clear xV cl;go_wp2_with fail;refine(RI.oo _ g5).mono ?_;rintro e w6 h;obtain⟨E6,rfl⟩:aAW w5.heap.size w5 w6/\e= .returned (.tuple #[od ⟨0,0,[],[],0⟩,.int .i64 140]):=h;have E6:=af (aI E5.oo E6);clear q2 g5 Dd;go_wp2_with fail;refine aQ (LD.oo _) fun w7 E7=>?_
      have E7:=af (aI (aI E6.oo (al w6 _)) E7);go_wp2_with fail;refine(FL.oo _ _ _ _).mono ?_;rintro e w8 ⟨rfl,E8⟩;have E8:=af (aI E7.oo E8);go_wp2_with fail;exact⟨rfl,(RR.oo.below E8.oo).cF,.inl ⟨_,_,PE.oo,asJ hpa.oo⟩⟩
    | some y=>
      have fS:=af (show pp=iS t.ag N (L.drop (m+1)) r (aD++[y]) by rw[HP.oo,ah0 hb hI,ng]);rw[hI]at RI;obtain⟨th,rg,lc,vl,vn⟩:=y;clear lR hdr ex er hx hxl ng uW hfr hb Df hI HP HX LD;go_wp2_with fail;refine aQ (TP.oo _) fun w5 E5=>?_
      have xV:=RR.oo.below E5;have q2:=xV.bx.get 2 _ rfl;have g5:=xV.g;have Dd:=xV.lt;have E5:=af E5;clear xV cl;go_wp2_with fail;refine(RI.oo _ g5).mono ?_;rintro e w6 h;obtain⟨E6,rfl⟩:aAW w5.heap.size w5 w6/\e= .returned (.tuple #[od ⟨th,rg,lc,vl,vn⟩,.int .i64 0]):=h;have E6:=aI E5.oo E6;clear q2 g5 Dd;go_upto_region 14 with(fail);have XB:=aW.new w6 #[.int .i64 th,.int .i64 rg,.string (tx lc),.string (tx vl),.int .i64 vn] 56;have EW:aAW wr.heap.size wr (w6.alloc (.cells #[.int .i64 th,.int .i64 rg,.string (tx lc),.string (tx vl),.int .i64 vn] 56)):=aI E6 (al w6 _);have J8:w6.heap.size≠w1.heap.size:=by have:=RR.oo.lt;have:=E6.size;omega
      have aoL:=J8.symm;have aoM:wr.heap.size<=w6.heap.size:=E6.size;generalize hW:w6.alloc (.cells #[.int .i64 th,.int .i64 rg,.string (tx lc),.string (tx vl),.int .i64 vn] 56)=W at*;generalize az6:w6.heap.size=b9 at*;have RW:=RR.oo.below EW;have OW:=au.below OO.oo EW;have TW:=TT.oo.below EW;have SW:=af (SS.oo.trans (bX (bw:=w1.heap.size) EW));obtain⟨x0,x1,x2,x3,x4⟩:=XB.ji;have q5:=RW.bx.get 5 _ rfl;have hf5:=RW.eK 5;have Wn:=RW.lt;have hbW:=XB.1;have afu:w4.heap.size<=W.heap.size:=dY hB4 EW.size;have VM:aD.length<=262145:=ah;have sU:=af RW;have Ie:=af OW;have ZW:=af TW
      have wW: ∀b,ia.map (·.block)=some b->w1.heap.size<b:=fun b hb=>by
       cases ia with
       |none=>cases hb
       | some z=>
         have:=(au.lt OW aq).1;simp[bk]at hb this;have:=HR.oo.lt;omega
      have OV: ∀b,ia.map (·.block)=some b->b≠b9:=fun b hb=>by
       cases ia with
       |none=>cases hb
       | some z=>
         exact acN
      have MG:=af XB;clear RW OW TW XB E5 EW hW;have Zy:=jV (gU (bS W.heap.size W) (.cells #[.int .i64 th,.int .i64 rg,.string (tx lc),.string (tx vl),.int .i64 vn] 56));have H7:=af Zy;clear Zy
      go_region_law
       ((refine YN wY (.tmp 85) (.tmp 87) (by rfl) (by rfl) (B:=w4.heap.size) (n:=aD.length) (c:=ic) (sa:=ia) (xs:=flat lM aD) (by rfl) (au.below Ie.oo H7.oo) (xa:=some ⟨W.heap.size,0,none⟩) (xc:=1) (m:=1) (ys:=lM ⟨th,rg,lc,vl,vn⟩) (by rfl) ((aja W ⟨th,rg,lc,vl,vn⟩ _).below (below_drewN _ 1)) (by rfl) (aa8 _) (dY afu H7.oo.size) ah dx ?_
         intro a' c' w' ho hg;have wV:=af hg;have C9:=af ho;have R7:=(sU.oo.below H7.oo).kept hg.step.grown wW;have XW:=aW.gr MG.oo H7.oo hg.step.grown OV;have q57:=R7.bx.get 5 _ rfl;have aAh:=R7.eK 5;obtain⟨y0,y1,y2,y3,y4⟩:=XW.ji;have R7:=af R7;clear ho hg XW))
      all_goals
       have R8:=R7.oo.put 5 (.slice a' (aD.length+1) c') (k':=k) (t':={ t with ia:=a',ic:=c',init:=aD++[⟨th,rg,lc,vl,vn⟩] }) (by simp[DA,cT]) (bE R7.oo.le);have Mw:=af (au.below Ie.oo H7.oo);have S7:=af (St.app (SW.oo.trans (bX (bw:=w1.heap.size) H7.oo)) Mw.oo afr wV.oo);have S8:=af (S7.oo.trans R8.2);have hz:=wV.oo.step.grown.size
       have O8:=af (show xT _ w4.heap.size a' (aD++[(⟨th,rg,lc,vl,vn⟩:bF)]).length c' (aD++[(⟨th,rg,lc,vl,vn⟩:bF)])from by
        have:=au.kept C9.oo R8.2.grown (by
         by_cases h:a'=none
         ·exact .inl h
         have:=(au.lt C9.oo h).1;have:=HR.oo.lt;right;simp;omega)
        rw[bu,xT,qU,uJ];exact this)
       have T8:=af (show cO _ a L from⟨Row.step (Row.step (ZW.oo.below H7.oo).row wV.oo.step (by
        by_cases h:ia=none
        ·exact Av
        have:=(au.lt Mw.oo h).1;right;right;omega)) R8.2 (by right;right;have:=HR.oo.lt;simp;omega),ZW.oo.len⟩)
       have Rj:=dY afu (dY H7.oo.size (dY hz R8.2.grown.size));replace R8:=af R8.1;go_wp2_with fail
       go_roundw;exact⟨m+1,aD++[⟨th,rg,lc,vl,vn⟩],a',c',r,by go_num,ah,by rw[Mg.oo],Db,by rw[bu];simp;omega,mC,fS,R8,O8,S8,T8,Rj⟩;exact ep
   obtain rfl:m=n:=ah
   have fS:=af (show pp= .ok aD by rw[HP.oo,iN (by rw[gw.oo];exact aX _)];rfl);have zn:decide ((m:Int)<(m:Int))=false:=aq;have R5:=RR.oo;have q1:=R5.bx.get 1 _ rfl;have AG:=R5.eK 1;have Dd:=R5.lt;have R6:=R5.put 1 (.int .i64 (p0+q8+1:Nat)) (k':=p0+q8+1) (t':={ t with ia:=ia,ic:=ic,init:=aD }) rfl (by rw[HN.oo];exact hk2);have ST:=af (SS.oo.trans R6.2)
   have OK:=af (au.kept (au.mono OO.oo afr) R6.2.grown (by
    by_cases h:ia=none
    ·exact .inl h
    have:=(au.lt OO.oo h).1;have:=HR.oo.lt;right;simp;omega))
   have hcast:(p0:Int)+(q8:Int)+1=((p0+q8+1:Nat):Int):=ah;rw[<-hcast]at R6 ST OK;replace R6:=af R6.1;clear R5 hcast;go_wp2_with fail
   go_end0
   exact⟨R6.oo.cF,.inr ⟨aD,Y,_,ia,ic,by rw[P2.oo,fS.oo],fC.oo,rfl,ST.oo,R6.oo,OK.oo⟩⟩
  have e8:=i1 (by rw[cq];rintro(f|f);(revert f;decide);exact CJ f)
  have IB:=af (fun w=>e8▸IB.oo w);have P1:=af (P1.oo (.inr (by rw[cq];rintro(f|f);(revert f;decide);exact CJ f)));clear hu i1 i2 e8 CJ FW R3 P2 hc pJ
  go_wp2_with (first|(go_at_call 78;refine aK (IB.oo _) ?_)|fail)
  exact anF
 have P1:=af (P1.oo (.inl (by rw[hc];simpa using OA)))
 have y0:((c.toNat:Int) != 123)=true:=rG c 123 OA;clear P2 OA hu hc;exact acK
theorem af8:kg prog 41 3 (.int .i64 0) 1 8:=⟨underlying41,by kernel_rfl,rfl,ay⟩
theorem Y5:kg prog 42 9 (.string ByteArray.empty) 1 16:=⟨underlying42,by kernel_rfl,rfl,ay⟩
def ru(N:Nat):List Tx->Tx->List Int
 |[],_=>[]
 |c::L,x=>((N:Int)-(x.length:Nat)+((c.length-(aM c).length:Nat):Int))::ru N L (x.drop (c.length+1))
theorem ah5(N:Nat): ∀(L:List Tx) (x:Tx),(ru N L x).length=L.length
 |[],_=>rfl
 |c::L,x=>by rw[ru,cy,ah5 N L];rfl
def nO(l:List Tx):List aAY:=l.map fun x=>Value.string (tx x)
def lV(W:Tx):List Tx->Tx
 |[]=>W
 |[p]=>p++W
 |p::L=>p++124::lV W L
theorem XX(W:Tx): ∀A:Tx,lV W (bh 124 A)=A++W
 |[]=>rfl
 | c::A=>by
   have ih:=XX W A;cases h:c==124 with
   | true=>
     obtain rfl:c=124:=aS h;rw[bh,ak h];cases e:bh 124 A with
     |nil=>exact absurd e (uc 124 A)
     |cons x t=>rw[e]at ih;show[]++124::lV W (x::t)=_;rw[ih];rfl
   | false=>
     rw[bh,ai (by rw[h];decide)];cases e:bh 124 A with
     |nil=>exact absurd e (uc 124 A)
     | cons x t=>
       rw[e]at ih;cases t with
       |nil=>show(c::x)++W=_;rw[show c::A++W=c::(A++W)from rfl,<-ih];rfl
       |cons y t=>show(c::x)++124::lV W (y::t)=_;rw[show c::A++W=c::(A++W)from rfl,<-ih];rfl
theorem ahX(W p:Tx)(L:List Tx)(hW:W≠[]): ∃d r,lV W (p::L)=p++d::r/\(L≠[]->r=lV W L):=by
 cases L with
 | nil=>
   cases W with
   |nil=>exact absurd rfl hW
   |cons d r=>exact⟨d,r,rfl,fun h=>absurd rfl h⟩
 |cons x L=>exact⟨124,lV W (x::L),rfl,fun _=>rfl⟩
theorem ab1(f:Tx->Tx): ∀(L:List Tx) (m:Nat) (c:Tx),L[m]? =some c->((L.take m).map f++L.drop m).set m (f c)=(L.take (m+1)).map f++L.drop (m+1)
 |[],m,c,h=>by cases h
 | d::L,0,c,h=>by
   obtain rfl:d=c:=aS h;rfl
 | d::L,m+1,c,h=>by
   have ih:=ab1 f L m c (aS h);show f d::((L.take m).map f++L.drop m).set m (f c)=f d::((L.take (m+1)).map f++L.drop (m+1));rw[ih]
theorem ab0(f:Tx->Tx): ∀(L:List Tx) (m:Nat) (c:Tx),L[m]? =some c->((L.take m).map f++L.drop m)[m]? =some c
 |[],m,c,h=>by cases h
 |d::L,0,c,h=>h
 | d::L,m+1,c,h=>by
   have ih:=ab0 f L m c (aS h);show((L.take m).map f++L.drop m)[m]? =some c;exact ih
theorem avL(A X:Tx)(d:UInt8)(hd:aH d=false):cR (A++d::X)=A++d::cR X:=by
 unfold cR;rw[zY,Ca,dA,IP]
 by_cases h:(X.reverse.dropWhile aH).isEmpty
 ·rw[ak h]
  have h2:X.reverse.dropWhile aH=[]:=aS h;rw[h2];simp[hd]
 rw[ai h];simp
theorem aq5{c:UInt8}(hu:u.head?=some c)(hc:aH c=false):cR (b++u.takeWhile (· != 10))=b++bB u/\bB u≠[]/\ ∃z,u=bB u++z:=by
 cases u with
 |nil=>cases hu
 | cons d r=>
   obtain rfl:d=c:=aS hu
   have h10:(d != 10)=true:=by
    rw[ye];rintro rfl;revert hc;decide
   obtain⟨y,hy,gM⟩:=sH (r.takeWhile (· != 10));have e2: ∀A:Tx,cR (A++d::r.takeWhile (· != 10))=A++d::cR (r.takeWhile (· != 10)):=fun A=>avL A _ d hc
   have e1:bB (d::r)=d::cR (r.takeWhile (· != 10)):=by
    unfold bB;rw[tu (p:=fun x=>x != 10) h10];exact e2 []
   refine⟨?_,by rw[e1];simp,y++r.dropWhile (· != 10),?_⟩
   ·rw[tu (p:=fun x=>x != 10) h10,e2,e1]
   rw[e1,cY,<-dA,<-hy,kH]
theorem abb(L:List Tx)(m:Nat):(nO ((L.take m).map aG++L.drop m)).length=L.length:=by
 unfold nO;simp;omega
theorem abe(h:au w B 9 1 a n c (nO ((L.take m).map aG++L.drop m)))(hp:L[m]? =some p):w.cell? ⟨bk a,fo a+m,none⟩=some (.string (tx p)):=by
 have:=(au.row h).cell m (by rw[abb];exact(bt.1 hp).1);rw[this];unfold nO;rw[jf,ab0 aG L m p hp];rfl
theorem Wx{l:List aAY}(h:au w B 9 1 a n c l)(hm:m<l.length)(hn:n<=1000000000): ∀c w',(Instr.indexAt 42 (.slice a n c) (.int .i64 m)).run prog w'= .ok (.pointer (some ⟨bk a,fo a+m,none⟩)) w':=by
 intro c;have hl:l.length=n:=by have:=h.1;omega
 have:=yZ (c:=c) (n:=n) (m:=1) (au.row h) Y5.oa Y5.cells Y5.isSome ah ah m ah .i64;simpa using this
def Sk(u:Tx)(w1 w:aAX)(s:Tx)(t:aT)(e:aBp)(w':aAX):Prop:=
 (gv u=false/\e= .returned (.tuple #[.slice none 0 0,.slice none 0 0,.int .i64 (cE s.length u),.bool false])/\aAW w.heap.size w w')\/
 ∃b n ca pa pc k',gv u=true/\(∀c∈b,aH c=true)/\b.length+u.length<=s.length/\n=(bh 124 (b++(bB u).dropLast)).length/\e= .returned (.tuple #[.slice ca n n,.slice pa n pc,.int .i64 (cE s.length u),.bool true])/\s.drop k'=cP u/\St w w' w1.heap.size/\dL w1 w' s k' t/\au w' w.heap.size 9 1 ca n n (nO ((bh 124 (b++(bB u).dropLast)).map aG))/\fT w' w.heap.size pa n pc (ru s.length (bh 124 (b++(bB u).dropLast)) (b++u))
theorem aiC(R:dL w1 w s k t):aA7 prog 81 #[.pointer (some ⟨w1.heap.size,0,none⟩)] w (Sk (aM (s.drop k)) w1 w s t):=by
 obtain⟨c0,c1⟩:=R.bx.qb;have hl:=R.sl;have PK:=af (Ld s w1.heap.size k R.le R.sl w c0 c1);have HR:=af R;have HG:=af R.g;obtain⟨u,hu⟩:=aF (aM (s.drop k));rw[hu];obtain⟨N,hN⟩:=aF s.length;have VJ:N<=262144:=ah;have vU:=af hN;clear c0 c1 hl;go_in;go_wp2_with fail;refine PK.oo.mono ?_;rintro e w2 ⟨hv,E2⟩;unfold xU at hv;rw[hu,hN]at hv;rcases hv with⟨h0,rfl⟩|⟨b,h0,hb,h10,mM,rfl⟩
 ·have TR:=af (fun w=>ajU [] aq w)
  have TR:=af (fun w=>(show bg w (.string (tx (cR [])))=bg w (.string ⟨#[]⟩)from rfl)▸TR.oo w);have HZ:=af (show gv u=false/\cE s.length u=N from by rw[h0,hN];exact⟨rfl,rfl⟩);have E2:=af E2;clear hu h0 hN;go_wp2_with fail;refine aQ (TR.oo _) fun w3 E3=>?_
  have E:=af (aI E2.oo E3);clear E3;go_wp2_with fail;refine aZ (v:=.tuple #[.slice none 0 0,.slice none 0 0,.int .i64 (N:Nat),.bool false]) (by simp[results,results81,go_sem]) rfl ?_;refine .inl ⟨HZ.oo.1,by rw[HZ.oo.2],E.oo⟩
 obtain⟨c,hc⟩: ∃c,u.head?=some c:=by
  cases u with
  |nil=>exact absurd rfl h0
  |cons c r=>exact⟨c,rfl⟩
 have hcb:aH c=false:=lQ (l:=s.drop k) (p:=aH) (by rw[show(s.drop k).dropWhile aH=u from hu];exact hc);obtain⟨q1,q2,z,q3⟩:=aq5 (b:=b) hc hcb;have iH:u.length<=N:=by rw[<-hu];have:=(nC (s.drop k)).length_le;have:=dG (i:=k) (l:=s);omega
 have hin:b.length+u.length<=N:=by unfold cE at mM;omega
 have hlen:(b++u.takeWhile (· != 10)).length<=262144:=by have:=ud (· != 10) u;rw[bu];omega
 have TR:=af (fun w=>ajU (b++u.takeWhile (· != 10)) ah w);rw[q1]at TR;have hzl:u.length=(bB u).length+z.length:=by rw[congrArg aBd q3];simp
 have SF:=af (fun w=>Lm (b++bB u) 59 (by rw[bu];omega) w)
 have pL:((b++u.takeWhile (· != 10)).length-(aM (b++u.takeWhile (· != 10))).length:Nat)=b.length:=by
  have:aM (b++u.takeWhile (· != 10))=u.takeWhile (· != 10):=by
   unfold aM;rw[pX hb];cases u with
   |nil=>rfl
   | cons d r=>
     obtain rfl:d=c:=aS hc;rw[tu (p:=fun x=>x != 10) (by rw[ye];rintro rfl;revert hcb;decide),tj (by rw[hcb];decide)]
  rw[this,bu];omega
 have Mt:=af (fun w=>Lc (b++u.takeWhile (· != 10)) ah w);rw[pL]at Mt
 have VZ:(b++bB u).getLast?=(bB u).getLast?:=by
  rw[Ew];cases h:(bB u).getLast? with
  |none=>exact absurd (List.getLast?_eq_none_iff.1 h) q2
  |some z=>rfl
 rw[VZ]at SF;have HB:=af hb;have Bw:=af hin;generalize b++u.takeWhile (· != 10)=ln at*;have E2:=af E2
 by_cases uM:(bB u).getLast?=some 59
 ·have hrow:gv u=true:=by unfold gv;rw[uM];rfl
  rw[uM,show(some (59:UInt8)==some 59)=true from rfl]at SF;obtain⟨M,hM⟩:=vh.1 uM;have uX:s.drop (N-(cP u).length)=cP u:=by rw[<-hN];exact JJ (k:=k) ((GY u).trans (by rw[<-hu];exact nC _))
  have hle:N-(cP u).length<=s.length:=ah;rw[hM]at TR hzl SF;have hap:b++M++[59]=b++(M++[59]):=dA ..;have qV:(bB u).dropLast=M:=by rw[hM];simp
  have hbu:b++u=(b++M)++59::z:=by rw[show b++u=b++(bB u++z)from by rw[<-q3],hM];simp
  have hJ:=XX (59::z) (b++M);rw[<-hbu]at hJ;have hbM:(b++M).length+1+z.length=b.length+u.length:=by rw[hzl,bu,bu];simp;omega
  obtain⟨cn,hcn⟩:=aF ((tx (b++(M++[59]))).size);have aoO:cn=(b++M).length+1:=by rw[<-hcn,bC,<-hap];simp;try omega
  have aAa:cn<=262145:=ah;have sl:=xA (b++M++[59]) (b++M).length aq;rw[tE,hap,show(((b++M).length:Nat):Int)=(cn:Int)-1 by omega]at sl;have SP:=af (fun w g=>ajC (b++M) 124 ah w g);have aN:=uc 124 (b++M);have uW: ∀p∈bh 124 (b++M),p.length<=262144:=fun p hp=>by have:=He 124 (b++M) p hp;omega
  have hLn:=vE 124 (b++M);have HL:=af (show bh 124 (b++(bB u).dropLast)=bh 124 (b++M) by rw[qV]);have Ig:=af (show cE s.length u=cE N u by rw[hN]);have hx0:(b++u).length=b.length+u.length:=bu;generalize bh 124 (b++M)=L at*;obtain⟨x0,hx1⟩:=aF (b++u);have ur:=af hx1;rw[hx1]at hJ hx0;clear hx1;obtain⟨n,hn⟩:=aF L.length;rw[hn]at SP hLn;have gF:n<=262145:=ah;obtain⟨pp,fX⟩:=aF (ru N L x0);have hn0:n≠0:=fun h=>aN (rP.1 (hn.trans h))
  obtain⟨p0,eH⟩:=aF (cE N u);have Vw:(p0:Int)-(b.length:Nat)=((N-x0.length:Nat):Int):=by rw[<-eH];unfold cE;omega
  have apw:x0.length<=N:=ah;rw[eH]at Ig;rw[eH];obtain⟨bl,ae8⟩:=aF b.length;rw[ae8]at Mt Vw;have gw:=af hn;have Rx:=af uW;have HJ:=af hJ;have jS:=af fX;have zO:=af Vw;have Mm:=af hrow;have Ik:=af uX;have ZE:=af hN;clear hu hc hcb q1 q2 q3 iH hin hlen hzl VZ uM hrow hM uX qV hbu hJ hbM aoO aN uW hLn hn fX Vw eH hx0 hb pL hN mM ae8 hap;go_wp2_with fail;refine aQ (TR.oo _) fun w3 E3=>?_
  have E:=af (aI E2.oo E3);clear E3
  go_wp2_with (first|(go_at_call 99;refine aK (SF.oo _) ?_)|fail)
  refine aQ (Mt.oo _) fun w4 E4=>?_
  have E:=af (aI E.oo E4);have g4:=HG.oo.below E.oo;clear E4;go_wp2_with fail;refine(SP.oo _ g4).mono ?_;rintro e w5 ⟨a,rfl,oA,-, E5⟩;have VO:a≠none:=au.some oA ah;have aoG:w.heap.size<=bk a:=dY E.oo.size (au.lt oA VO).1;have hw4:=E.oo.size;have E:=af (aI E.oo E5);have oA:=af (show au w5 w.heap.size 9 1 a n n (nO ((L.take 0).map aG++L.drop 0))from au.mono oA hw4);clear E5 g4;go_wp2_with fail;have P0:=af (show pp=[]++ru N (L.drop 0) x0 by rw[eE,jg,jS.oo]);have HOA:=af (au.nil w5 w.heap.size 3 1)
  go_loopw [11,12,45] (fun f q i wi=> ∃(m:Nat) (pa:Option Addr) (pc:Nat) (x:Tx) (aD:List Int),i= .int .i64 m/\m<=n/\f= .int .i64 (N-x.length:Nat)/\x.length<=N/\q= .slice pa m pc/\aD.length=m/\Hid (m<n->x=lV (59::z) (L.drop m))/\Hid (pp=aD++ru N (L.drop m) x)/\Hid (fT wi w.heap.size pa m pc aD)/\Hid (au wi w.heap.size 9 1 a n n (nO ((L.take m).map aG++L.drop m)))/\Hid (vO a pa)/\Hid (aAW w.heap.size w wi)) (fun _ _ i _=>n-(intOf i).toNat)
  case atStart=>
   refine⟨0,none,0,x0,[],rfl,dW _,?_,apw,rfl,rfl,af fun _=>by rw[jg];exact HJ.oo.symm,P0,af (au.nil _ _ _ _),oA,af (.inr (.inl rfl)),E⟩;rw[zO.oo];congr 1;unfold wrap64;omega
  obtain⟨m,pa,pc,x,aD,rfl,hmn,rfl,Pg,rfl,VM,HX,HP,OP,OC,AP,EE⟩:=hrel
  by_cases aA:m<n
  ·obtain⟨p,lR⟩: ∃p,L[m]? =some p:=⟨_,aV (by rw[gw.oo];exact aA)⟩
   have hdr:L.drop m=p::L.drop (m+1):=by
    obtain⟨h1,h2⟩:=bt.1 lR;rw[jB h1,h2]
   have hcs:=ab1 aG L m p lR;have ix:=Wx OC.oo (m:=m) (by rw[abb,gw.oo];exact aA) ah;have cl:=abe OC.oo lR;have Rl:=af (fun(w2:aAX) (h:au w2 w.heap.size 9 1 a n n (nO ((L.take m).map aG++L.drop m)))=>abe h lR);obtain⟨d,r,ex,er⟩:=ahX (59::z) p (L.drop (m+1)) aq;have hx:=HX.oo aA;rw[hdr,ex]at hx;have hxl:x.length=p.length+1+r.length:=by rw[hx];simp;omega
   have ng:x.drop (p.length+1)=r:=by rw[hx,<-gC];simp
   have mC:=af (show m+1<n->r=lV (59::z) (L.drop (m+1))from fun h=>er (fun e=>by
    have:=congrArg aBd e;rw[dG,gw.oo]at this;simp at this;omega))
   obtain⟨ld,pL⟩:=aF (p.length-(aM p).length);have apb:ld<=p.length:=ah
   have fS:=af (show pp=(aD++[((N-x.length:Nat):Int)+(ld:Int)])++ru N (L.drop (m+1)) r by
    rw[HP.oo,hdr,ru,ng,pL,dA,show((N-x.length:Nat):Int)=(N:Int)-(x.length:Nat) by omega];rfl)
   have hpb:p.length<=262144:=ah;have LD:=af (fun w=>Lc p ah w);rw[pL]at LD;have TP:=af (fun w=>tZ p ah w);obtain⟨pl,hpl⟩:=aF ((tx p).size);have uW:pl=p.length:=by rw[<-hpl,bC]
   have apj:pl<=262144:=ah;have hfr:((N-x.length:Nat):Int)+((pl:Int)+1)=((N-r.length:Nat):Int):=ah;have Mg:=af hfr;have zK:decide ((m:Int)<(n:Int))=true:=aC;have Db:r.length<=N:=ah;have qF:N-x.length<=262144:=ah;have apa:ld<=262144:=ah;have hsz:=EE.oo.size;obtain⟨tp,Df⟩:=aF (aG p);rw[Df]at TP hcs;have HCS:=af hcs;clear lR hdr hcs ex er hx hxl ng pL apb uW hfr Df HX HP hpb;go_wp2_with fail;refine aQ (LD.oo _) fun w6 E6=>?_
   have Rf:=af (aI EE.oo E6);have OC6:=af (au.below OC.oo E6);have OP6:=au.below OP.oo E6;clear cl E6 hsz
   go_wp2_with (at_builtin;go_loud(refine pQ af8 (.tmp 50) (.tmp 55) rfl rfl rfl rfl OP6 rfl rfl kP Rf.oo Rf.oo.size ah dx ?_))
   intro a7 c7 w7 o7 g7 B7;have o7:=af (show fT w7 w.heap.size a7 (m+1) c7 (aD++[((N-x.length:Nat):Int)+(ld:Int)]) by unfold fT;rw[show ints (aD++[((N-x.length:Nat):Int)+(ld:Int)])=ints aD++ints [((N-x.length:Nat):Int)+(ld:Int)]from pG];exact o7);obtain⟨rN,Q9⟩:=au.step OC6.oo g7.step AP.oo;have rN:=af rN;have Q9:=af Q9;have B7:=af B7;clear OP6 Rf OC6 g7;go_wp2_with fail;refine aQ (TP.oo _) fun w8 E8=>?_
   have Ix:=au.below rN.oo E8;have OP8:=au.below o7.oo E8;have Rg:=aI B7.oo E8;obtain⟨s1,s2⟩:=au.set Ix VO m (.string (tx tp));have cl:w8.cell? ⟨bk a,fo a+m,none⟩=some (.string (tx p)):=Rl.oo _ Ix;have fz:=au.frozen Ix VO m;have EE9:=af (s2.below Ix Rg Rg.size);obtain⟨Sa,Rc⟩:=au.step OP8 s2 Q9.oo.symm;have Sa:=af Sa;have Rc:=af Rc.symm
   have xR:=af (show au (w8.setCell ⟨bk a,fo a+m,none⟩ (.string (tx tp))) w.heap.size 9 1 a n n (nO ((L.take (m+1)).map aG++L.drop (m+1))) by
    rw[<-HCS.oo];unfold nO at s1 ⊢; rw[Ad];exact s1)
   clear Ix OP8 Rg s1 s2 E8;go_wp2
   go_roundw;exact⟨m+1,a7,c7,r,aD++[((N-x.length:Nat):Int)+(ld:Int)],by go_num,ah,by rw[Mg.oo],Db,rfl,by rw[bu,VM];rfl,mC,fS,Sa,xR,Rc,EE9⟩;exact ep
  obtain rfl:m=n:=ah
  have fS:=af (show pp=aD by rw[HP.oo,iN (by rw[gw.oo];exact aX _)];exact jD _);have H6:=af (show(L.take m).map aG++L.drop m=L.map aG by rw[iN (by rw[gw.oo];exact aX _),kI (by rw[gw.oo];exact aX _),jD]);have zn:decide ((m:Int)<(m:Int))=false:=aq;have R5:=HR.oo.below EE.oo;have q1:=R5.bx.get 1 _ rfl;have AG:=R5.eK 1;have Dd:=R5.lt;have R6:=R5.put 1 (.int .i64 (N-(cP u).length:Nat)) (k':=N-(cP u).length) (t':=t) rfl hle;have ST:=af ((bX (bw:=w1.heap.size) EE.oo).trans R6.2);have TC:=af (au.kept OC.oo R6.2.grown (by right;have:=HR.oo.lt;simp;omega))
  have TI:=af (au.kept OP.oo R6.2.grown (by
   have h:=(au.lt OP.oo (au.some OP.oo (Nat.pos_of_ne_zero hn0))).1
   right;have:=HR.oo.lt;simp;omega))
  replace R6:=af R6.1;clear R5;go_wp2_with fail;refine aZ (v:=.tuple #[.slice a m m,.slice pa m pc,.int .i64 (p0:Nat),.bool true]) (by simp[results,results81,go_sem]) rfl (.inr ⟨b,m,a,pa,pc,N-(cP u).length,Mm.oo,HB.oo,by rw[ZE.oo];exact Bw.oo,by rw[HL.oo];exact gw.oo.symm,by rw[Ig.oo],Ik.oo,ST.oo,R6.oo,?_,?_⟩)
  ·rw[HL.oo]
   have:=TC.oo;rw[H6.oo]at this;exact this
  rw[HL.oo,ur.oo,ZE.oo,jS.oo,fS.oo]
  exact TI.oo
 have hrow:gv u=false:=by unfold gv;simpa using uM
 rw[show((bB u).getLast?==some 59)=false by simpa using uM]at SF;have Mm:=af (show gv u=false/\cE s.length u=cE N u from⟨hrow,by rw[hN]⟩);generalize b++bB u=cut at*;generalize cE N u=p0 at*;clear hu hc hcb q1 q2 q3 iH hin hlen hzl VZ uM hrow Mt pL hb mM hN;go_wp2_with fail;refine aQ (TR.oo _) fun w3 E3=>?_
 have E:=af (aI E2.oo E3);clear E3
 go_wp2_with (first|(go_at_call 99;refine aK (SF.oo _) ?_)|fail)
 refine aZ (v:=.tuple #[.slice none 0 0,.slice none 0 0,.int .i64 (p0:Nat),.bool false]) (by simp[results,results81,go_sem]) rfl ?_;refine .inl ⟨Mm.oo.1,by rw[Mm.oo.2],E.oo⟩
theorem wO(C:List Cd):flat yp C=C.map fun x=>Value.slice x.a x.l.length x.c:=by
 induction C with
 |nil=>rfl
 |cons x C ih=>rw[FB,ih];rfl
structure eP(w:aAX)(B:Nat)(a:Option Addr)(n:Nat)(C:List Cd):Prop where
 row:au w B 75 1 a n n (flat yp C)
 own: ∀x∈C,au w B 50 8 x.a x.l.length x.c (jM x.l)
 far: ∀x∈C,vO a x.a
 nd: ∀(i j:Nat) (x y:Cd),C[i]? =aBf x->C[j]? =aBf y->i≠j->vO x.a y.a
section
variable {w w':aAX} {B n:Nat} {a:Option Addr} {C:List Cd}
theorem eP.len(h:eP w B a n C):C.length=n:=by
 have:=h.row.1;rw[wO,eT]at this;omega
theorem eP.below(h:eP w B a n C)(hb:aAW w.heap.size w w'):eP w' B a n C:=
 ⟨au.below h.row hb,fun x hx=>au.below (h.own x hx) hb,h.far,h.nd⟩
theorem eP.kept{r:Option Nat}(h:eP w B a n C)(hg:w.grownBy w' r)(hr: ∀b,r=aBf b->b<B):eP w' B a n C:=by
 have key: ∀{E size m c:Nat} {p:Option Addr} {xs:List aAY},au w B E size p m c xs->au w' B E size p m c xs:=fun {E size m c p xs} ho=>by
  refine au.kept ho hg ?_
  by_cases hp:p=none
  ·exact .inl hp
  have:=(au.lt ho hp).1
  right;intro e
  have:=hr _ e.symm;omega
 exact⟨key h.row,fun x hx=>key (h.own x hx),h.far,h.nd⟩
theorem eP.put(h:eP w B a n C){k:Nat}{x:Cd}(hk:C[k]? =aBf x){a':Option Addr}{c':Nat}{i:aL}(ho:au w' B 50 8 a' (x.l.length+1) c' (jM (x.l++[i])))(hg:mS w w' x.a x.c a' c'):
 eP (w'.setCell ⟨bk a,fo a+k,none⟩ (.slice a' (x.l.length+1) c')) B a n (C.set k ⟨a',c',x.l++[i]⟩)/\Step w' (w'.setCell ⟨bk a,fo a+k,none⟩ (.slice a' (x.l.length+1) c')) a a:=by
 have hx:=cV hk;have aA:=(bt.1 hk).1;have hl:=h.len;have ha:a≠none:=au.some h.row ah;obtain⟨r1,ra⟩:=au.step h.row hg.step (h.far x hx);obtain⟨r2,s2⟩:=au.set r1 ha k (.slice a' (x.l.length+1) c')
 have yU: ∀j y,C[j]? =aBf y->j≠k->au (w'.setCell ⟨bk a,fo a+k,none⟩ (.slice a' (x.l.length+1) c')) B 50 8 y.a y.l.length y.c (jM y.l)/\vO y.a a':=fun j y hj aN=>by
  have hy:=cV hj;obtain⟨o1,o2⟩:=au.step (h.own y hy) hg.step (h.nd j k y x hj hk aN);exact⟨(au.step o1 s2 (h.far y hy).symm).1,o2⟩
 have get: ∀j y,(C.set k ⟨a',c',x.l++[i]⟩)[j]? =aBf y->(j=k/\y=⟨a',c',x.l++[i]⟩)\/(j≠k/\C[j]? =aBf y):=fun j y hj=>by
  rw[List.getElem?_set]at hj
  by_cases e:k=j
  ·rw[ak e,ak aA]at hj
   exact .inl ⟨e.symm,(fU hj).symm⟩
  rw[ai e]at hj
  exact .inr ⟨fun f=>e f.symm,hj⟩
 refine⟨⟨?_,fun y hy=>?_,fun y hy=>?_,fun p q y z hp hq aN=>?_⟩,s2⟩
 ·rw[wO,Ad,<-wO]
  simpa using r2
 ·obtain⟨j,hj⟩:=S0 hy
  rcases get j y hj with⟨-, rfl⟩|⟨aN,hj⟩
  ·have:=(au.step ho s2 ra.symm).1
   simpa using this
  exact(yU j y hj aN).1
 ·obtain⟨j,hj⟩:=S0 hy
  rcases get j y hj with⟨-, rfl⟩|⟨aN,hj⟩
  ·exact ra
  exact h.far y (cV hj)
 rcases get p y hp with⟨e1,rfl⟩|⟨h1,hp⟩
 ·rcases get q z hq with⟨e2,rfl⟩|⟨h2,hq⟩
  ·exact absurd (e1.trans e2.symm) aN
  exact(yU q z hq h2).2.symm
 rcases get q z hq with⟨e2,rfl⟩|⟨h2,hq⟩
 ·exact(yU p y hp h1).2
 exact h.nd p q y z hp hq aN
end
theorem ajy(b M:Tx)(hb:(124:UInt8)∉b): ∃c0 R,bh 124 M=c0::R/\bh 124 (b++M)=(b++c0)::R:=by
 induction b with
 | nil=>
   cases e:bh 124 M with
   |nil=>exact absurd e (uc 124 M)
   |cons c0 R=>exact⟨c0,R,rfl,e⟩
 | cons d b ih=>
   obtain⟨c0,R,h1,h2⟩:=ih (fun h=>hb (zW _ h));refine⟨c0,R,h1,?_⟩
   have hd:(d==(124:UInt8))=false:=by
    cases h:d==(124:UInt8)with
    |false=>rfl
    |true=>exact absurd (aS h) (fun e=>hb (by rw[e];exact I8))
   rw[cY,bh,ai (by rw[hd];decide),h2];rfl
theorem aaZ(hb: ∀c∈b,aH c=true):(124:UInt8)∉b:=fun h=>absurd (hb _ h) ay
theorem ajX(hb: ∀c∈b,aH c=true)(x:Tx):aG (b++x)=aG x:=by
 cases e:aM x with
 | nil=>
   have h1:=wJ e
   rw[(DM x).2 h1,(DM (b++x)).2 (fun c hc=>by
    rcases fc.1 hc with h|h
    ·exact hb c h
    exact h1 c h)]
 | cons c B=>
   have hc:aH c=false:=lQ (l:=x) (p:=aH) (by rw[show x.dropWhile aH=c::B from e];rfl);have hx:x=x.takeWhile aH++c::B:=by rw[<-e];exact(kH ..).symm
   have ht: ∀d∈x.takeWhile aH,aH d=true:=fun d hd=>fP.1 (wA) d hd
   have h1:=Hi (x.takeWhile aH) B c hc;have h2:=Hi (b++x.takeWhile aH) B c hc;rw[<-hx]at h1;rw[dA,<-hx]at h2;rw[h1,h2,pX hb]
theorem axq(hb: ∀c∈b,aH c=true)(x:Tx):aM (b++x)=aM x:=pX hb
theorem abj(hb: ∀c∈b,aH c=true):(bh 124 (b++M)).map aG=(bh 124 M).map aG:=by
 obtain⟨c0,R,h1,h2⟩:=ajy b M (aaZ hb);rw[h1,h2,ox,ox,ajX hb]
theorem abh(hb: ∀c∈b,aH c=true):(bh 124 (b++M)).length=(bh 124 M).length:=by
 have:=congrArg aBd (abj (b:=b) (M:=M) hb);simpa using this
theorem alY(hb: ∀c∈b,aH c=true)(aD:List (List aL)):fD ag N (bh 124 (b++M)) (b++u) aD=fD ag N (bh 124 M) u aD:=by
 obtain⟨c0,R,h1,h2⟩:=ajy b M (aaZ hb);rw[h1,h2];cases aD with
 |nil=>rfl
 | cons x aD=>
   have hd:(b++u).drop ((b++c0).length+1)=u.drop (c0.length+1):=by
    rw[bu,uz,<-gC,EM]
   rw[fD,fD,ajX hb,axq hb,hd]
def KQ(D:List (List aL)):EP (List (List aL))->EP (List (List aL))
 | .error e=>.error e
 | .ok r=>.ok (D++r)
section
variable {ag:Int} {N:Nat} {c v:Tx} {L:List Tx} {x:List aL} {aD D:List (List aL)}
theorem Z7(h:aG c=[]):KQ D (fD ag N (c::L) v (x::aD))=KQ (D++[x]) (fD ag N L (v.drop (c.length+1)) aD):=by
 rw[fD,ak h];cases fD ag N L (v.drop (c.length+1)) aD with
 |error e=>rfl
 |ok r=>simp[KQ]
theorem Z3(h:aG c≠[])(h2:oI ag (aG c)=none):KQ D (fD ag N (c::L) v (x::aD))= .error (91,cE N (aM v)):=by
 rw[fD,ai h,h2];rfl
theorem Z6{i:aL}(h:aG c≠[])(h2:oI ag (aG c)=aBf i):KQ D (fD ag N (c::L) v (x::aD))=KQ (D++[x++[i]]) (fD ag N L (v.drop (c.length+1)) aD):=by
 rw[fD,ai h,h2]
 dsimp only
 cases fD ag N L (v.drop (c.length+1)) aD with
 |error e=>rfl
 |ok r=>simp[KQ]
end
section
variable {ag:Int} {N n:Nat} {r:Tx} {aD:List (List aL)}
theorem ajj(h:gv (aM r)=false):lD ag N (n+1) r aD= .ok (aD,r):=by
 rw[lD];try dsimp only
 rw[ak h]
theorem aji(h:gv (aM r)=true)(h2:(gV (aM r)).length≠aD.length):lD ag N (n+1) r aD= .error (140,cE N (aM r)):=by
 rw[lD];try dsimp only
 rw[ai (by rw[h];decide),ak h2]
def ajQ(ag:Int)(N n:Nat)(r:Tx):EP (List (List aL))->EP (List (List aL) × Tx)
 | .error e=>.error e
 | .ok l=>lD ag N n r l
theorem ajm(h:gv (aM r)=true)(h2:(gV (aM r)).length=aD.length):lD ag N (n+1) r aD=ajQ ag N n (cP (aM r)) (fD ag N (gV (aM r)) (aM r) aD):=by
 rw[lD];try dsimp only
 rw[ai (by rw[h];decide),ai (by rw[h2];exact fun f=>f rfl)];cases fD ag N (gV (aM r)) (aM r) aD<;>rfl
end
theorem VW:tQ l=true<-> ∀(i:Nat) c,l[i]? =aBf c->aG c=80::aA9 (i:Int):=by
 unfold tQ;rw[fP];constructor
 ·intro h i c hc
  have h2:(decide (aG c=80::aA9 (i:Int)))∈l.mapIdx (fun i c=>decide (aG c=80::aA9 (i:Int))):=by
   refine cV (i:=i) ?_;rw[IV,hc];rfl
  have:=h _ h2;simpa using this
 intro h x hx
 obtain⟨i,hi⟩:=S0 hx;rw[IV]at hi;cases e:l[i]? with
 |none=>rw[e]at hi;cases hi
 | some c=>
   rw[e]at hi;obtain rfl:decide (aG c=80::aA9 (i:Int))=x:=fU hi;simpa using h i c e
theorem ajI(h:gv (aM r)=false):gB ag N r= .error (140,cE N (aM r)):=by
 unfold gB;dsimp only;rw[ak (.inl h)]
theorem ajG(h:tQ (gV (aM r))=false):gB ag N r= .error (140,cE N (aM r)):=by
 unfold gB;dsimp only;rw[ak (.inr h)]
theorem ajJ(h:gv (aM r)=true)(h2:tQ (gV (aM r))=true):gB ag N r=lD ag N (r.length+1) (cP (aM r)) (aBg (gV (aM r)).length []):=by
 unfold gB;dsimp only;rw[ai (by rw[h,h2];rintro(f|f)<;>cases f)]
theorem ahA(h:au w B E size a n c xs): ∀g,a.map (·.block)=some g-> ∃cs fz,w.heap[g]? =some (.cells cs E fz):=by
 intro g hg;rcases h.2 with⟨h2,h0⟩|⟨g',cap,cur,hv,AE,hh,r⟩
 ·simp only[EF]at h2
  rw[h2.1]at hg;cases hg
 cases hv
 exact ack
theorem GD{E' m' n':Nat}{r:Option Addr}(h:au w B E m a n c xs)(h':au w B' E' m' r n' c' ys)(aN:E≠E'):vO a r:=by
 cases r with
 |none=>exact .inr (.inl rfl)
 | some p=>
   cases a with
   |none=>exact .inl rfl
   | some q=>
     refine .inr (.inr fun e=>?_);obtain⟨cs,fz,h1⟩:=ahA h' p.block rfl;obtain⟨cs',fz',h2⟩:=ahA h q.block rfl;rw[show q.block=p.block from e,h1]at h2;exact aem
theorem ahz(h:au w B 9 1 a n c (nO l))(hp:l[m]? =aBf p):w.cell? ⟨bk a,fo a+m,none⟩=aBf (.string (tx p)):=by
 have:=(au.row h).cell m (by unfold nO;rw[eT];exact(bt.1 hp).1);rw[this];unfold nO;rw[jf,hp];rfl
theorem YC(h:gv u=true): ∃z,u=(bB u).dropLast++59::z:=by
 have h1:(bB u).getLast?=aBf 59:=by unfold gv at h;simpa using h
 obtain⟨M,hM⟩:=vh.1 h1;obtain⟨b,hb, -⟩:=sH (u.takeWhile (· != 10))
 have hu:u=bB u++(b++u.dropWhile (· != 10)):=by
  rw[<-dA];unfold bB;rw[<-hb,kH]
 refine⟨b++u.dropWhile (· != 10),?_⟩
 have h2:bB u=(bB u).dropLast++[59]:=by
  rw[hM];simp
 have h3:bB u++(b++u.dropWhile (· != 10))=(bB u).dropLast++59::(b++u.dropWhile (· != 10)):=by
  conv=>lhs;rw[h2]
  simp
 exact hu.trans h3
theorem aiX(h:gv u=true):(cP u).length<u.length:=by
 obtain⟨z,hz⟩:=YC h;have h1:=(GY u).length_le;rcases iA (cP u).length u.length with h2|h2
 ·exact h2
 exfalso
 unfold cP at h2;have h3:=(iu (l:=u) (· != 10)).length_le;rw[dG]at h2;have h4:0<u.length:=by rw[hz,bu,cy];omega
 omega
theorem ajb(h:gv u=true)(b:Tx): ∃z,b++u=lV (59::z) (bh 124 (b++(bB u).dropLast)):=by
 obtain⟨z,hz⟩:=YC h;refine⟨z,?_⟩;rw[XX,dA,<-hz]
theorem abg{z x:Tx}(hp:L[m]? =aBf p)(hx:x=lV (59::z) (L.drop m)): ∃d r,L.drop m=p::L.drop (m+1)/\x=p++d::r/\x.drop (p.length+1)=r/\(m+1<L.length->r=lV (59::z) (L.drop (m+1))):=by
 obtain⟨h1,h2⟩:=bt.1 hp;have hdr:L.drop m=p::L.drop (m+1):=by rw[jB h1,h2]
 obtain⟨d,r,ex,er⟩:=ahX (59::z) p (L.drop (m+1)) aq;rw[hdr,ex]at hx;refine⟨d,r,hdr,hx,by rw[hx,<-gC];simp,fun h=>er (fun e=>?_)⟩;have:=congrArg aBd e;rw[dG]at this;exact Cy
theorem Z5{p:EP (List (List aL))}:KQ [] p=p:=by cases p<;>rfl
theorem Z4{D aD:List (List aL)}:KQ D (fD ag N [] v aD)= .ok (D++aD):=by
 rw[fD];rfl
theorem abu(h:C[m]? =aBf x):(C.drop m).map (·.l)=x.l::(C.drop (m+1)).map (·.l)/\(C.take (m+1)).map (·.l)=(C.take m).map (·.l)++[x.l]:=by
 obtain⟨h1,h2⟩:=bt.1 h;constructor
 ·rw[jB h1,h2];rfl
 rw[pn h1,h2,pG];rfl
theorem NB(h:C[m]? =aBf x):((C.set m y).drop (m+1)).map (·.l)=(C.drop (m+1)).map (·.l)/\((C.set m y).take (m+1)).map (·.l)=(C.take m).map (·.l)++[y.l]:=by
 obtain⟨h1,h2⟩:=bt.1 h;constructor
 ·rw[List.drop_set_of_lt ah]
 rw[pn (by rw[Cc];exact h1),aaF,pG,List.take_set_of_le ah];rfl
theorem eP.new(h:au w B 75 1 a n n (madeCells #[Value.slice none 0 0] n).toList):eP w B a n (aBg n ⟨none,0,[]⟩):=by
 refine⟨?_,fun x hx=>?_,fun x hx=>?_,fun i j x y hx hy _=>?_⟩
 ·rw[wO,M0]
  rw[SV]at h;exact h
 ·rw[(Ey.1 hx).2];exact au.nil _ _ _ _
 ·rw[(Ey.1 hx).2];exact .inr (.inl rfl)
 rw[(Ey.1 (cV hx)).2];exact .inl rfl
theorem eP.cell(h:eP w B a n C)(hk:C[k]? =aBf x):w.cell? ⟨bk a,fo a+k,none⟩=aBf (.slice x.a x.l.length x.c)/\w.frozen? ⟨bk a,fo a+k,none⟩=false/\ ∀c w',(Instr.indexAt 23 (.slice a n c) (.int .i64 k)).run prog w'= .ok (.pointer (aBf ⟨bk a,fo a+k,none⟩)) w':=by
 have aA:=(bt.1 hk).1;have hl:=h.len;refine⟨?_,au.frozen h.row (au.some h.row ah) k,fun c=>?_⟩
 ·have:=(au.row h.row).cell k (by rw[wO,eT];exact aA)
  rw[this,wO,jf,hk];rfl
 have:=yZ (c:=c) (n:=n) (m:=1) (au.row h.row) Fc.oa Fc.cells Fc.isSome (by rw[wO,eT];omega) (by have:=h.row.2;have:=(au.cap h.row).2.1;unfold maxLen at this;omega) k ah .i64
 simpa using this
theorem eP.mono(h:eP w B a n C)(hB:B'<=B):eP w B' a n C:=
 ⟨au.mono h.row hB,fun x hx=>au.mono (h.own x hx) hB,h.far,h.nd⟩
theorem eP.step(h:eP w B a n C)(s:St w w' rb)(hr:rb<B):eP w' B a n C:=
 h.kept s.grown (fun b hb=>by simp at hb;omega)
theorem Nz(h:au w B 75 1 a n n (flat yp C))(hk:C[k]? =aBf x):w.cell? ⟨bk a,fo a+k,none⟩=aBf (.slice x.a x.l.length x.c)/\w.frozen? ⟨bk a,fo a+k,none⟩=false:=by
 have aA:=(bt.1 hk).1;have hl:C.length=n:=by have:=h.1;rw[wO,eT]at this;omega
 refine⟨?_,au.frozen h (au.some h ah) k⟩;have:=(au.row h).cell k (by rw[wO,eT];exact aA);rw[this,wO,jf,hk];rfl
theorem afU(i:aL): ∀u∈iC i,u.oneCell'=true:=by
 intro u hu;simp[iC]at hu;rcases hu with rfl|rfl|rfl|rfl|rfl|rfl|rfl|rfl<;>rfl
theorem dL.code{C':List Cd}(h:dL w1 w s k { t with ca:=a,cc:=n,code:=C })(hl:C'.length=C.length):dL w1 w s k { t with ca:=a,cc:=n,code:=C' }:=by
 refine⟨?_,h.cF,h.gl,h.sl,h.le⟩;have:=h.own;simp only[DA,cT]at this⊢;rw[hl];exact this
theorem St.more{r:Option Nat}(h:St w wi rb)(g:wi.grownBy w' r)(hr: ∀b,r=aBf b->w.heap.size<=b):St w w' rb:=by
 refine⟨?_,.inl rfl⟩;refine⟨g.os.trans h.grown.os,g.tape.trans h.grown.tape,g.output.trans h.grown.output,dY h.grown.size g.size,fun k hk aN=>?_⟩;rw[g.block k (ou hk h.grown.size) ?_]
 ·exact h.grown.block k hk aN
 intro e
 have:=hr k e.symm;omega
def mE(C:List Cd)(q kk:Nat):Prop:= ∀(j:Nat) (x:Cd),C[j]? =aBf x->x.l.length<=if j<q then kk+1 else kk
theorem mE.skip(h:mE C q kk):mE C (q+1) kk:=fun j x hx=>by
 have:=h j x hx
 split at this<;>split<;>omega
theorem mE.put(h:mE C q kk)(hy:C[q]? =aBf y)(a':Option Addr)(c':Nat)(i:aL):mE (C.set q ⟨a',c',y.l++[i]⟩) (q+1) kk:=fun j x hx=>by
 rw[List.getElem?_set]at hx
 by_cases e:q=j
 ·rw[ak e,ak (bt.1 hy).1]at hx
  obtain rfl:=fU hx;have:=h q y hy;rw[ai (Je _)]at this;rw[ak ah];simp;omega
 rw[ai e]at hx
 have:=h j x hx
 split at this<;>split<;>omega
theorem mE.all{k3:Nat}(h:mE C q kk)(hk:kk<k3):mE C 0 k3:=fun j x hx=>by
 have:=h j x hx;rw[ai (iz _)]
 split at this<;>omega
theorem mE.at(h:mE C q kk)(hy:C[q]? =aBf y):y.l.length<=kk:=by
 have:=h q y hy
 rwa[ai (Je _)]at this
theorem mE.new(n kk:Nat):mE (aBg n ⟨none,0,[]⟩) 0 kk:=fun j x hx=>by
 rw[(Ey.1 (cV hx)).2];exact dW _
theorem awZ(w:aAX)(i:aL)(T:TypeId):Row (w.alloc (.cells #[.int .i64 i.op,.int .i64 i.d,.int .i64 i.a,.int .i64 i.b,.int .i64 i.ax,.string (tx i.aj),.string (tx i.av),.int .i64 i.az] T)) (aBf ⟨w.heap.size,0,none⟩) (iC i):=by
 have b:=aW.new w #[.int .i64 i.op,.int .i64 i.d,.int .i64 i.a,.int .i64 i.b,.int .i64 i.ax,.string (tx i.aj),.string (tx i.av),.int .i64 i.az] T;refine⟨fun _=>rfl,fun i hi=>?_⟩;simp
def MC(p:EP (List (List aL) × Tx))(w1 w:aAX)(s:Tx)(t:aT)(e:aBp)(w':aAX):Prop:=
 (aAW w1.heap.size w1 w'/\ ∃er k,p= .error (er,k)/\e=uv er k)\/
 ∃C r1 k' a n,p= .ok (C.map (·.l),r1)/\s.drop k'=r1/\e= .returned (.tuple #[])/\St w w' w1.heap.size/\dL w1 w' s k' { t with ca:=a,cc:=n,code:=C }/\eP w' w.heap.size a n C
theorem agx(u:Tx):(bB u).length<=u.length:=by
 obtain⟨b,h, -⟩:=sH (u.takeWhile (· != 10));have h1:=congrArg aBd h;have h2:=ud (· != 10) u;rw[bu]at h1;unfold bB;omega
theorem abo{a:Tx}(h:a≠b):((tx a).toList==(tx b).toList)=false:=by rw[bU,bU];simpa using h
theorem cmp_eq(a:Tx):((tx a).toList==(tx a).toList)=true:=aq
theorem awS(hb: ∀c∈b,aH c=true):(bh 124 (b++(bB u).dropLast)).map aG=(gV u).map aG:=abj hb
theorem aoZ(h:l.map aG=L)(h2: ∀j,j<L.length-> ∀c,L[j]? =some c->c=80::aA9 (j:Int)):tQ l=true:=VW.2 fun i c hc=>by
 subst h;have h3:i<(l.map aG).length:=by rw[eT];exact(bt.1 hc).1
 exact h2 i h3 (aG c) (by rw[jf,hc];rfl)
theorem afk(h:l.map aG=L){j:Nat}{c:Tx}(hj:L[j]? =some c)(h2:c≠80::aA9 (j:Int)):tQ l=false:=by
 cases e:tQ l with
 |false=>rfl
 | true=>
   subst h;rw[jf]at hj;cases e2:l[j]? with
   |none=>rw[e2]at hj;cases hj
   | some d=>
     rw[e2]at hj;obtain rfl:aG d=c:=fU hj;exact absurd (VW.1 e j d e2) h2
theorem avT(R:dL w1 w s k t)(ha:bD t.ag=true)(h0:t.ca=none/\t.cc=0/\t.code=[]):aA7 prog 30 #[.pointer (some ⟨w1.heap.size,0,none⟩)] w (MC (gB t.ag s.length (s.drop k)) w1 w s t):=by
 have hl:=R.sl;have RW:=af (aiC R);have FL:=af (fun p er k w=>Lb p er k w);have HR:=af R;obtain⟨u,hu⟩:=aF (aM (s.drop k));obtain⟨N,hN⟩:=aF s.length;have VJ:N<=262144:=ah;have P1:=af (fun h=>ajI (ag:=t.ag) (N:=N) (r:=s.drop k) h);have P2:=af (fun h=>ajG (ag:=t.ag) (N:=N) (r:=s.drop k) h);have P3:=af (fun h h2=>ajJ (ag:=t.ag) (N:=N) (r:=s.drop k) h h2);rw[hu]at RW P1 P2 P3;rw[hN];have vU:=af hN;have HU:=af hu;have hkl:(s.drop k).length<=N:=by rw[dG];omega
 generalize gB t.ag N (s.drop k)=hp at*;clear hl hu hN;go_in;go_wp2_with fail;refine RW.oo.mono ?_;rintro e w2 h;unfold Sk at h;rcases h with⟨hr,rfl,E⟩|⟨b,n,ca,pa,pc,k2,hr,hb,hin,hn,rfl,hk2,ST,R2,TX, -⟩
 ·have P1:=af (P1.oo hr)
  have E:=af E;rw[vU.oo];clear hr;go_wp2_with fail;refine(FL.oo _ _ _ _).mono ?_;rintro e w3 ⟨rfl,E3⟩;have E:=af (aI E.oo E3);clear E3;go_wp2_with fail;exact⟨rfl,.inl ⟨(HR.oo.below E.oo).cF,_,_,P1.oo,rfl⟩⟩
 rw[awS hb]at TX
 have hn2:n=(gV u).length:=hn.trans (abh hb)
 have hnb:n<=262145:=by
  have:=vE 124 (bB u).dropLast;have h2:(bB u).length<=u.length:=agx u;have h3:u.length<=N:=by have:=vU.oo;omega
  rw[hn2];unfold gV;rw[Ev]at this;omega
 have P2:=af (fun L j c h h1 h2=>P2.oo (afk (L:=L) (j:=j) (c:=c) h h1 h2));have P3:=af (fun L h h2=>P3.oo hr (aoZ (L:=L) h h2));obtain⟨Lt,J3⟩:=aF ((gV u).map aG);have uV:n=Lt.length:=by rw[<-J3,eT];exact hn2
 have P2:=af (fun j c h1 h2=>P2.oo Lt j c J3 h1 h2);have P3:=af (fun h2=>P3.oo Lt J3 h2);rw[J3]at TX;rw[<-hn2]at P3;rw[vU.oo];have gw:=af uV;have TX:=af TX;have R2:=af R2;have ST:=af ST;have fC:=af hk2;obtain⟨p0,eH⟩:=aF (cE N u);rw[eH];have P2:=af (fun j c h1 h2=>(P2.oo j c h1 h2).trans (by rw[eH]));clear hb hin hn hn2 hr J3 uV hk2 eH P1;go_wp2_with fail
 go_loopw [30] (fun i wi=> ∃m:Nat,i= .int .i64 m/\m<=n/\aAW w2.heap.size w2 wi/\Hid (∀j,j<m-> ∀c,Lt[j]? =some c->c=80::aA9 (j:Int))) (fun i _=>n-(intOf i).toNat)
 ·exact⟨0,rfl,dW _,bS _ _,af fun j hj=>absurd hj (iz _)⟩
 obtain⟨m,rfl,hmn,E2,HH⟩:=hrel
 by_cases aA:m<n
 ·obtain⟨c,hc⟩: ∃c,Lt[m]? =some c:=⟨_,aV (by rw[<-gw.oo];exact aA)⟩
  have TT:=au.below TX.oo E2;have ix:=Wx TT (m:=m) (by unfold nO;rw[eT,<-gw.oo];exact aA) ah;have cl:=ahz TT hc;have IT:=af (fun w g=>tU (m:Int) ah ah w g);have zK:decide ((m:Int)<(n:Int))=true:=aC;have g2:=R2.oo.g.below E2;have HC:=af hc;obtain⟨q,hq⟩:=aF (aA9 (m:Int));rw[hq]at IT;have HQ:=af hq;have Ko:q.length<=21:=by rw[<-hq];exact Lib.itoa_length_le _ ah ah
  have cc: ∀w,(Op.stringOp .add ⟨#[80]⟩ (tx q)).run prog w= .ok (.string (tx (80::q))) w:=lX [80] q aC;have E2:=af E2;clear hc hq TT
  by_cases OD:c=80::q
  ·have y:=cmp_eq c
   have HE:=af (show ∀j,j<m+1-> ∀c,Lt[j]? =some c->c=80::aA9 (j:Int)from fun j hj d hd=>by
    by_cases e:j=m
    ·subst e
     rw[HC.oo]at hd;rw[HQ.oo,<-fU hd];exact OD
    exact HH.oo j ah d hd)
   subst OD;go_wp2_with fail;refine aQ (IT.oo _ g2) fun w3 E3=>?_
   have E3:=aI E2.oo E3;go_wp2_with fail
   go_roundw;exact⟨m+1,by go_num,ah,E3,HE⟩;exact ep
  have y:=abo OD
  have P2:=af (P2.oo m c HC.oo (by rw[HQ.oo];exact OD));go_wp2_with fail;refine aQ (IT.oo _ g2) fun w3 E3=>?_
  have E3:=aI E2.oo E3;go_wp2_with fail;refine(FL.oo _ _ _ _).mono ?_;rintro e w4 ⟨rfl,E4⟩;have E:=af (aI E3 E4);clear E3 E4;go_wp2_with fail;exact⟨rfl,.inl ⟨(R2.oo.below E.oo).cF,_,_,P2.oo,rfl⟩⟩
 obtain rfl:m=n:=ah
 have P3:=af (P3.oo (fun j hj=>HH.oo j (by rw[gw.oo];exact hj)));have zK:decide ((m:Int)<(m:Int))=false:=aq;have E2:=af E2;have R3:=R2.oo.below E2.oo;have q6:=R3.bx.get 6 _ rfl;have hf6:=R3.eK 6;have afp:=R3.lt;rw[h0.1,h0.2.1,h0.2.2]at q6;have R3:=af R3
 go_wp2_with (at_make;go_loud(refine Hv Fc _ _ rfl rfl m rfl rfl rfl rfl ah dx (bS wr.heap.size wr) (aX _) ?_))
 intro ac w5 o5 s5 B5;have R5:=R3.oo.below B5;have q65:=R5.bx.get 6 _ rfl;have aAi:=R5.eK 6;have Dd:=R5.lt;rw[h0.1,h0.2.1,h0.2.2]at q65;have R6:=R5.put 6 (.slice ac m m) (k':=k2) (t':={ t with ca:=ac,cc:=m,code:=aBg m ⟨none,0,[]⟩ }) (by simp[DA,cT]) R5.le;have hsz:=dY R2.oo.cF.size (aX _);have hww:w.heap.size<=w2.heap.size:=ST.oo.grown.size;have C6:=af (eP.kept (eP.mono (eP.new o5) (dY hww E2.oo.size)) R6.2.grown (fun b hb=>by have:=HR.oo.lt;simp at hb;omega));have S6:=af ((ST.oo.trans (bX (bw:=w1.heap.size) (aI E2.oo B5))).trans R6.2);have B6:w2.heap.size<=(w5.setCell ⟨w1.heap.size,6,none⟩ (.slice ac m m)).heap.size:=dY E2.oo.size (dY B5.size R6.2.grown.size);replace R6:=af R6.1;have P6:=af (show hp=lD t.ag N ((s.drop k).length+1) (s.drop k2) ((aBg m (⟨none,0,[]⟩:Cd)).map (·.l)) by rw[P3.oo,fC.oo,M0])
 have hlk:(s.drop k2).length<=(s.drop k).length:=by
  have h1:=(GY u).length_le;have h2:=(nC (s.drop k)).length_le;rw[fC.oo];rw[HU.oo]at h2;omega
 have L6:=mE.new m k2;generalize aBg m (⟨none,0,[]⟩:Cd)=C0 at*;generalize (s.drop k).length=fu at*;clear o5 s5 B5 R5 q6 hf6 afp hsz;go_wp2_with fail;have RWA:=af (fun(w:aAX) (k:Nat) (t:aT) (R:dL w1 w s k t)=>aiC R)
 go_loopw [8] (fun _ wi=> ∃(kk nn:Nat) (C:List Cd),Hid (hp=lD t.ag N (nn+1) (s.drop kk) (C.map (·.l)))/\(s.drop kk).length<=nn/\Hid (dL w1 wi s kk { t with ca:=ac,cc:=m,code:=C })/\Hid (eP wi w.heap.size ac m C)/\Hid (St w wi w1.heap.size)/\w2.heap.size<=wi.heap.size/\mE C 0 kk) (fun _ wi=>N-(intOf ((wi.cell? ⟨w1.heap.size,1,none⟩).getD undef)).toNat)
 ·exact⟨k2,fu,C0,P6,hlk,R6,C6,S6,B6,L6⟩
 obtain⟨kk,nn,C,HP,hnn,RR,OC,SS,Vt,akB⟩:=hrel;have QC:=af (RWA.oo wr kk _ RR.oo);obtain⟨v,hv⟩:=aF (aM (s.drop kk));have X1:=af (fun h=>ajj (ag:=t.ag) (N:=N) (n:=nn) (r:=s.drop kk) (aD:=C.map (·.l)) h);have X2:=af (fun h h2=>aji (ag:=t.ag) (N:=N) (n:=nn) (r:=s.drop kk) (aD:=C.map (·.l)) h h2);have X3:=af (fun h h2=>ajm (ag:=t.ag) (N:=N) (n:=nn) (r:=s.drop kk) (aD:=C.map (·.l)) h h2);rw[hv]at QC X1 X2 X3;have nQ:=OC.oo.len;rw[eT,nQ]at X2 X3;have HV:=af hv;have Rl:=af nQ;have hkN:kk<=N:=by have:=RR.oo.le;have:=vU.oo;omega
 have iG:=RR.oo.bx.get 1 _ rfl;have Mi:=af (show(wr.cell? ⟨w1.heap.size,1,none⟩).getD undef= .int .i64 kk by rw[iG];rfl);clear hv nQ;go_wp2_with fail;refine QC.oo.mono ?_;rintro e w6 h;unfold Sk at h;rcases h with⟨hr,rfl,E⟩|⟨b,n2,Jv,pa2,X6,k3,hr,hb,hin,hn,rfl,uQ,IF,R7,Eo,BK⟩
 ·have X1:=af (X1.oo hr)
  have E:=af E;rw[vU.oo];clear hr;go_wp2_with fail
  go_end0
  exact .inr ⟨C,s.drop kk,kk,ac,m,by rw[HP.oo,X1.oo],rfl,rfl,SS.oo.trans (bX E.oo),RR.oo.below E.oo,OC.oo.below E.oo⟩
 have Ki:n2=(gV v).length:=hn.trans (abh hb)
 have rN:=af (eP.step OC.oo IF HR.oo.lt);have SS7:=af (SS.oo.trans IF);have apt:wr.heap.size<=w6.heap.size:=IF.grown.size;rw[vU.oo]at hin⊢;obtain⟨p3,O4⟩:=aF (cE N v);rw[O4]
 by_cases aN:n2=m
 ·obtain rfl:n2=m:=aN
  replace X3:=af (X3.oo hr Ki.symm)
  have hrl:(cP v).length<(s.drop kk).length:=by
   obtain⟨z,hz⟩:=YC hr;have h1:=aiX hr;have h2:=(nC (s.drop kk)).length_le;rw[HV.oo]at h2;omega
  have aAp:k3<=N:=by have:=R7.le;have:=vU.oo;omega
  have aAK:N-k3<N-kk/\(s.drop k3).length<(s.drop kk).length:=by
   rw[<-uQ]at hrl;refine⟨?_,hrl⟩;rw[dG,dG,vU.oo]at hrl;omega
  obtain⟨z,hz⟩:=ajb hr b;have hcb:=alY (ag:=t.ag) (N:=N) (M:=(bB v).dropLast) (u:=v) hb (C.map (·.l));obtain⟨Ls,hLs⟩:=aF (bh 124 (b++(bB v).dropLast));rw[hLs]at hz hcb Eo BK hn;have afw:(b++v).length<=N:=by rw[bu];exact hin
  obtain⟨x0,hx0⟩:=aF (b++v);rw[hx0]at hz hcb BK afw;obtain⟨pq,hpq⟩:=aF (fD t.ag N (gV v) v (C.map (·.l)))
  have Ry:=af (show pq=KQ ((C.take 0).map (·.l)) (fD t.ag N (Ls.drop 0) x0 ((C.drop 0).map (·.l))) by
   rw[<-hpq];show _=KQ [] _;rw[Z5];exact hcb.symm)
  rw[hpq]at X3;replace X3:=af (X3.oo.trans (show _=ajQ t.ag N nn (s.drop k3) pq by rw[uQ]));have hLn:Ls.length=n2:=hn.symm;obtain⟨PP,Oy⟩:=aF (ru N Ls x0);have FF:=ah5 N Ls x0;rw[Oy,hLn]at FF;rw[vU.oo,Oy]at BK;have jS:=af (show PP.drop 0=ru N (Ls.drop 0) x0 from Oy.symm);have Zp:((n2:Int) != (n2:Int))=false:=aq;replace Eo:=af (show au w6 wr.heap.size 9 1 Jv n2 n2 (nO (Ls.map aG))from Eo);replace BK:=af BK;replace R7:=af R7;have Mj:=af hLn;have ZP:=af FF;have ur:=af (show 0<n2->x0=lV (59::z) (Ls.drop 0)from fun _=>hz);generalize wr.heap.size=Bc at*;have hB6:w2.heap.size<=w6.heap.size:=dY Vt apt;clear hr hb hin hn Ki uQ IF O4 iG hrl hcb hLs hx0 hpq Oy FF hLn hz X1 X2 RR OC SS Rl;go_wp2_with fail
  go_loopw [70] (fun i wi=> ∃(q:Nat) (C2:List Cd) (x:Tx),i= .int .i64 q/\q<=n2/\x.length<=N/\Hid (q<n2->x=lV (59::z) (Ls.drop q))/\Hid (pq=KQ ((C2.take q).map (·.l)) (fD t.ag N (Ls.drop q) x ((C2.drop q).map (·.l))))/\Hid (PP.drop q=ru N (Ls.drop q) x)/\Hid (dL w1 wi s k3 { t with ca:=ac,cc:=n2,code:=C2 })/\Hid (eP wi w.heap.size ac n2 C2)/\Hid (au wi Bc 9 1 Jv n2 n2 (nO (Ls.map aG)))/\Hid (fT wi Bc pa2 n2 X6 PP)/\Hid (St w wi w1.heap.size)/\w6.heap.size<=wi.heap.size/\mE C2 q kk) (fun i _=>n2-(intOf i).toNat)
  ·exact⟨0,C,x0,rfl,dW _,afw,ur,Ry,jS,R7,rN,Eo,BK,SS7,aX _,akB⟩
  obtain⟨q,C2,x,rfl,yL,Pg,HX,HQ,HD,RQ,OQ,TX,TP,SQ,FE,xN⟩:=hrel;have nQ:=OQ.oo.len
  by_cases aA:q<n2
  ·obtain⟨p,lR⟩: ∃p,Ls[q]? =some p:=⟨_,aV (by rw[Mj.oo];exact aA)⟩
   obtain⟨d,r,hdr,Gg,ng,Ph⟩:=abg lR (HX.oo aA);obtain⟨y,sr⟩: ∃y,C2[q]? =some y:=⟨_,aV (by rw[nQ];exact aA)⟩;obtain⟨cs1,Cu⟩:=abu sr;have hxl:x.length=p.length+1+r.length:=by rw[Gg];simp;omega
   have Db:r.length<=N:=ah;have hpb:p.length<=262144:=ah;have hq:=HQ.oo;rw[hdr,cs1]at hq;have hd:=HD.oo;rw[hdr,ru,ng]at hd
   have vR:=af (show PP.drop (q+1)=ru N (Ls.drop (q+1)) r by
    rw[<-gC,hd];rfl)
   have mC:=af (show q+1<n2->r=lV (59::z) (Ls.drop (q+1))from fun h=>Ph (by rw[Mj.oo];exact h));have ix:=Wx TX.oo (m:=q) (by unfold nO;rw[eT,eT,Mj.oo];exact aA) ah;have hmp:(Ls.map aG)[q]? =some (aG p):=by rw[jf,lR];rfl
   have cl:=ahz TX.oo hmp;have zK:decide ((q:Int)<(n2:Int))=true:=aC;have Pa:=lZ p
   by_cases hb0:aG p=[]
   ·rw[hb0]at cl
    replace cl:wr.cell? ⟨bk Jv,fo Jv+q,none⟩=some (.string ⟨#[]⟩):=cl
    have uq:=af (show pq=KQ ((C2.take (q+1)).map (·.l)) (fD t.ag N (Ls.drop (q+1)) r ((C2.drop (q+1)).map (·.l))) by
     rw[hq,Z7 hb0,ng,Cu])
    clear lR hdr Gg ng Ph sr cs1 Cu hxl hq hd hmp hpb Pa hb0 HX HQ HD;go_wp2_with fail
    go_roundw;exact⟨q+1,C2,r,by go_num,ah,Db,mC,uq,vR,RQ,OQ,TX,TP,SQ,FE,xN.skip⟩;exact ep
   obtain⟨ct,hct⟩:=aF (aG p)
   have zt:(tx ct).toList.isEmpty=false:=by
    rw[bU,<-hct];cases e:aG p with
    |nil=>exact absurd e hb0
    |cons a b=>rfl
   have aoP:ct.length<=262144:=by rw[<-hct];omega
   have RI:=af (fun w g=>avQ t.ag ha ct w g);have q2:=RQ.oo.bx.get 2 _ rfl;have gq:=RQ.oo.g;have apl:=RQ.oo.lt;rw[hct]at cl;cases hI:oI t.ag (aG p)with
   | none=>
     have HE:=af (show pq= .error (91,cE N (aM x)) by rw[hq,Z3 hb0 hI]);have hpl:=ahW (N:=N) (p:=p) (r:=r) (d:=d) hb0 (by rw[<-Gg];exact Pg);rw[<-Gg]at hpl
     have hPq:PP[q]? =some ((cE N (aM x):Nat):Int):=by
      have h1:(PP.drop q)[0]? =some ((cE N (aM x):Nat):Int):=by
       rw[hd,List.getElem?_cons_zero,<-hpl]
       congr 1;omega
      rwa[tA,gK]at h1
     have ZQ:=af hPq;rw[hct]at hI;rw[hI]at RI;obtain⟨pp,fX⟩:=aF (cE N (aM x));rw[fX]at HE ZQ;clear lR hdr Gg ng Ph sr cs1 Cu hxl hq hd hmp hpb Pa hb0 hct hI hpl hPq fX HX HQ HD mC vR;go_wp2_with fail;refine(RI.oo _ gq).mono ?_;rintro e w7 h;obtain⟨rfl,E7⟩:e= .returned (.tuple #[vI ⟨0,0,0,0,0,[],[],0⟩,.int .i64 91])/\aAW wr.heap.size wr w7:=h;go_upto_region 19 with(fail);have EW:aAW wr.heap.size wr (w7.alloc (.cells #[.int .i64 0,.int .i64 0,.int .i64 0,.int .i64 0,.int .i64 0,.string (tx []),.string (tx []),.int .i64 0] 50)):=aI E7 (al w7 _);generalize w7.alloc (.cells #[.int .i64 0,.int .i64 0,.int .i64 0,.int .i64 0,.int .i64 0,.string (tx []),.string (tx []),.int .i64 0] 50)=W at*;have TI:=(au.ints (au.below TP.oo EW)).1;have ae5:q<PP.length:=by rw[ZP.oo];exact aA
     have ip:=pU.idx TI af8 q ae5 X6;rw[ZP.oo]at ip;have cp:=TI.cell q ae5;rw[(bt.1 ZQ.oo).2]at cp;have EW:=af EW;clear TI q2 gq;go_wp2_with fail;refine(FL.oo _ _ _ _).mono ?_;rintro e w8 ⟨rfl,E8⟩;have E:=af (aI EW.oo E8);clear E8;go_wp2_with fail;exact⟨rfl,.inl ⟨(RQ.oo.below E.oo).cF,_,_,by rw[HP.oo,X3.oo,HE.oo];rfl,rfl⟩⟩
   | some i=>
     have uq:=af (show ∀a' c',pq=KQ (((C2.set q ⟨a',c',y.l++[i]⟩).take (q+1)).map (·.l)) (fD t.ag N (Ls.drop (q+1)) r (((C2.set q ⟨a',c',y.l++[i]⟩).drop (q+1)).map (·.l)))from fun a' c'=>by
      rw[hq,Z6 hb0 hI,ng,(NB sr).1,(NB sr).2])
     rw[hct]at hI;rw[hI]at RI;have pS:=af sr;clear lR hdr Gg ng Ph sr cs1 Cu hxl hq hd hmp hpb Pa hb0 hct hI HX HQ HD;obtain⟨op,dd,aa,bb,ax,lo,la,fe⟩:=i;go_wp2_with fail;refine(RI.oo _ gq).mono ?_;rintro e w7 h;obtain⟨rfl,E7⟩:e= .returned (.tuple #[vI ⟨op,dd,aa,bb,ax,lo,la,fe⟩,.int .i64 0])/\aAW wr.heap.size wr w7:=h;go_upto_region 21 with(fail);have XB:=aW.new w7 #[.int .i64 op,.int .i64 dd,.int .i64 aa,.int .i64 bb,.int .i64 ax,.string (tx lo),.string (tx la),.int .i64 fe] 50;have EW:aAW wr.heap.size wr (w7.alloc (.cells #[.int .i64 op,.int .i64 dd,.int .i64 aa,.int .i64 bb,.int .i64 ax,.string (tx lo),.string (tx la),.int .i64 fe] 50)):=aI E7 (al w7 _);have J8:w7.heap.size≠w1.heap.size:=by have:=E7.size;omega
     have aoL:=J8.symm;have aoM:wr.heap.size<=w7.heap.size:=E7.size;generalize w7.alloc (.cells #[.int .i64 op,.int .i64 dd,.int .i64 aa,.int .i64 bb,.int .i64 ax,.string (tx lo),.string (tx la),.int .i64 fe] 50)=W at*;generalize w7.heap.size=b9 at*;have RW:=RQ.oo.below EW;have OW:=af (OQ.oo.below EW);have TXW:=af (au.below TX.oo EW);have TPW:=af (au.below TP.oo EW);have SW:=af (SQ.oo.trans (bX (bw:=w1.heap.size) EW));obtain⟨x0',x1,x2,x3,x4,x5,x6,x7⟩:=XB.jj;have q6:=RW.bx.get 6 _ rfl;simp only at q6;rw[nQ]at q6;have Wn:=RW.lt;have hbW:=XB.1;have sU:=af RW;obtain⟨y1,y2,iy⟩:=OW.oo.cell pS.oo;have gM:=k8 y1;simp only at gM;have Gf:w.heap.size<=W.heap.size:=SW.oo.grown.size;have Dh:y.l.length<=262144:=by have:=xN.at pS.oo;omega
     have H7:=af (jV (gU (bS W.heap.size W) (.cells #[.int .i64 op,.int .i64 dd,.int .i64 aa,.int .i64 bb,.int .i64 ax,.string (tx lo),.string (tx la),.int .i64 fe] 50)));have HY:=cV pS.oo;have zQ:=af (au.below (OW.oo.own y HY) H7.oo);have hac:w.heap.size<=bk ac:=(au.lt OW.oo.row (au.some OW.oo.row ah)).1;have aoI:bk ac≠w1.heap.size:=by have:=HR.oo.lt;omega
     have az4:=aoI.symm
     have wW: ∀b,y.a.map (·.block)=some b->w1.heap.size<b:=fun b hb=>by
      cases e:y.a with
      |none=>rw[e]at hb;cases hb
      | some z=>
        have h1:=(au.lt zQ.oo (by rw[e];simp)).1;rw[e]at hb h1;simp[bk]at hb h1;have:=HR.oo.lt;omega
     have Rh:=af (show ∀a' c' w',au w' w.heap.size 50 8 a' (y.l.length+1) c' (jM y.l++iC ⟨op,dd,aa,bb,ax,lo,la,fe⟩)->mS (W.alloc (.cells #[.int .i64 op,.int .i64 dd,.int .i64 aa,.int .i64 bb,.int .i64 ax,.string (tx lo),.string (tx la),.int .i64 fe] 50)).drew w' y.a y.c a' c'->
      (dL w1 (w'.setCell ⟨bk ac,fo ac+q,none⟩ (.slice a' (y.l.length+1) c')) s k3 { t with ca:=ac,cc:=n2,code:=C2.set q ⟨a',c',y.l++[⟨op,dd,aa,bb,ax,lo,la,fe⟩]⟩ }/\eP (w'.setCell ⟨bk ac,fo ac+q,none⟩ (.slice a' (y.l.length+1) c')) w.heap.size ac n2 (C2.set q ⟨a',c',y.l++[⟨op,dd,aa,bb,ax,lo,la,fe⟩]⟩)/\au (w'.setCell ⟨bk ac,fo ac+q,none⟩ (.slice a' (y.l.length+1) c')) Bc 9 1 Jv n2 n2 (nO (Ls.map aG))/\fT (w'.setCell ⟨bk ac,fo ac+q,none⟩ (.slice a' (y.l.length+1) c')) Bc pa2 n2 X6 PP/\St w (w'.setCell ⟨bk ac,fo ac+q,none⟩ (.slice a' (y.l.length+1) c')) w1.heap.size/\W.heap.size<=(w'.setCell ⟨bk ac,fo ac+q,none⟩ (.slice a' (y.l.length+1) c')).heap.size)from fun a' c' w' ho hg=>by
      obtain⟨O9,s9⟩:=eP.put (OW.oo.below H7.oo) pS.oo (i:=⟨op,dd,aa,bb,ax,lo,la,fe⟩) (by rw[Pk];exact ho) hg;have IG:=(au.step (au.below TXW.oo H7.oo) hg.step (GD (au.below TXW.oo H7.oo) zQ.oo ay)).1;have TP7:=(au.step (au.below TPW.oo H7.oo) hg.step (GD (au.below TPW.oo H7.oo) zQ.oo ay)).1;have MI:=(au.step (OW.oo.below H7.oo).row hg.step ((OW.oo.below H7.oo).far y HY)).1
      refine⟨dL.code (C:=C2) (((sU.oo.below H7.oo).kept hg.step.grown wW).kept s9.grown (fun b hb=>by
       cases ac with
       |none=>cases hb
       |some z=>simp[bk]at hb hac;have:=HR.oo.lt;omega)) (by rw[Cc]),O9,(au.step IG s9 (GD IG MI ay)).1,(au.step TP7 s9 (GD TP7 MI ay)).1,?_,?_⟩
      ·refine St.more (St.more (SW.oo.trans (bX H7.oo)) hg.step.grown (fun b hb=>?_)) s9.grown (fun b hb=>?_)
       ·cases e:y.a with
        |none=>rw[e]at hb;cases hb
        | some z=>
          exact acO
       cases ac with
       |none=>cases hb
       |some z=>simp[bk]at hb hac;omega
      exact dY H7.oo.size (dY hg.step.grown.size s9.grown.size))
     have OV: ∀b,y.a.map (·.block)=some b->b≠b9:=fun b hb=>by
      cases e:y.a with
      |none=>rw[e]at hb;cases hb
      | some z=>
        have h1:=(au.lt (OQ.oo.own y HY) (by rw[e];simp)).2;rw[e]at hb h1;simp[bk]at hb h1;omega
     have MG:=af XB
     have aoF:bk ac≠b9:=by
      have h1:=(au.lt OQ.oo.row (au.some OQ.oo.row ah)).2;omega
     have az0:=aoF.symm;clear XB E7 EW RW q2 gq apl ix cl
     go_region_law
      ((refine YN inl (.tmp 108) (.tmp 110) (by rfl) (by rfl) (B:=w.heap.size) (n:=y.l.length) (c:=y.c) (sa:=y.a) (xs:=jM y.l) (by rfl) zQ.oo (xa:=some ⟨W.heap.size,0,none⟩) (xc:=1) (m:=1) (ys:=iC ⟨op,dd,aa,bb,ax,lo,la,fe⟩) (by rfl) ((awZ W ⟨op,dd,aa,bb,ax,lo,la,fe⟩ _).below (below_drewN _ 1)) (by rfl) (afU _) (dY Gf H7.oo.size) ah dx ?_
        intro a' c' w' ho hg;have wV:=af hg;have C9:=af ho;have R7:=(sU.oo.below H7.oo).kept hg.step.grown wW;have rN:=au.step (OW.oo.below H7.oo).row hg.step (OW.oo.far y HY);have q67:=R7.bx.get 6 _ rfl;simp only at q67;rw[nQ]at q67;have y17:=(Nz rN.1 pS.oo).1;have y27:=(Nz rN.1 pS.oo).2;clear ho hg R7 rN))
     all_goals
      obtain⟨R9,xR,Ss,Sr,S9,hs9⟩:=Rh.oo _ _ _ C9.oo wV.oo;have R9:=af R9;have xR:=af xR;have Ss:=af Ss;have Sr:=af Sr;have S9:=af S9;have qX:=af (uq.oo a' c');go_wp2_with fail
      go_roundw;exact⟨q+1,_,r,by go_num,ah,Db,mC,qX,vR,R9,xR,Ss,Sr,S9,ah,xN.put pS.oo _ _ _⟩;exact ep
  obtain rfl:q=n2:=ah
  have uq:=af (show pq= .ok (C2.map (·.l)) by
   rw[HQ.oo,iN (by rw[Mj.oo];exact aX _),Z4,kI (by rw[nQ];exact aX _),iN (by rw[nQ];exact aX _)];simp)
  have HPF:=af (show hp=lD t.ag N ((nn-1)+1) (s.drop k3) (C2.map (·.l)) by
   rw[HP.oo,X3.oo,uq.oo,show nn-1+1=nn by omega];rfl)
  have zK:decide ((q:Int)<(q:Int))=false:=aq;have ao8:=RQ.oo.bx.get 1 _ rfl;go_wp2_with fail
  go_roundw
  case rel=>exact⟨k3,nn-1,C2,HPF,ah,RQ,OQ,SQ,ah,xN.all ah⟩
  case measure=>
   have h1:(wr.cell? ⟨w1.heap.size,1,none⟩).getD undef= .int .i64 k3:=by rw[ao8];rfl
   rw[h1];have h2:=Mi.oo;rw[h2];exact ep
 have Zp:((n2:Int) != (m:Int))=true:=by simpa using fun h=>aN ah
 have X2:=af (X2.oo hr (by rw[<-Ki];exact aN));rw[O4]at X2;have R7:=af R7
 have apf:n2<=9223372036854775807:=by
  have:=(au.cap Eo).2.1;unfold maxLen at this;omega
 clear hr hb hn Ki uQ IF Eo BK O4 iG;go_wp2_with fail;refine(FL.oo _ _ _ _).mono ?_;rintro e w8 ⟨rfl,E8⟩;have E:=af E8;clear E8;go_wp2_with fail;exact⟨rfl,.inl ⟨(R7.oo.below E.oo).cF,_,_,by rw[HP.oo,X2.oo],rfl⟩⟩
theorem au.st(h:au w B E size a n c xs)(s:St w w' rb)(hr:rb<B):au w' B E size a n c xs:=by
 refine au.kept h s.grown ?_
 by_cases ha:a=none
 ·exact .inl ha
 have:=(au.lt h ha).1
 right
 simp;omega
structure kj(w:aAX)(B:Nat)(t:aT):Prop where
 name:t.name.length<=262144
 bG:t.bG.length<=262144
 sm: ∀x∈t.init,zV x
 few:t.init.length<=1000000
 init:xT w B t.ia t.init.length t.ic t.init
 Ll: ∀x∈t.code,∀i∈x.l,xX i
 Fz:t.code.length<=1000000/\ ∀x∈t.code,x.l.length<=1000000
 code:eP w B t.ca t.cc t.code
 node:cI w B t.node
 nd:(jF t.node).Nodup
section
variable {w w':aAX} {B:Nat} {t:aT}
theorem kj.su(h:kj w B t):jz w t where
 name:=by have:=h.name;omega
 bG:=by have:=h.bG;omega
 init:=⟨au.row h.init,by have:=h.few;omega⟩
 afC:=(au.cap h.init).1
 vo:=fun x hx=>by obtain⟨-, -, a,b⟩:=h.sm x hx;exact⟨ ah,ah⟩
 wide:=fun x hx=>by obtain⟨a,b,-, -⟩:=h.sm x hx;unfold pT;omega
 code:=⟨au.row h.code.row,by have:=h.Fz.1;omega⟩
 aa9:=by have:=h.code.len;omega
 rows:=fun x hx=>⟨⟨au.row (h.code.own x hx),by have:=h.Fz.2 x hx;omega⟩,(au.cap (h.code.own x hx)).1,fun i hi=>by obtain⟨a,b⟩:=h.Ll x hx i hi;exact⟨ ah,ah⟩⟩
 node:=h.node.su
theorem kj.kept{r:Option Nat}(h:kj w B t)(hg:w.grownBy w' r)(hr: ∀b,r=aBf b->b<B):kj w' B t:=by
 refine⟨h.name,h.bG,h.sm,h.few,au.kept h.init hg ?_,h.Ll,h.Fz,h.code.kept hg hr,h.node.kept hg fun b hb e=>?_,h.nd⟩
 ·by_cases ha:t.ia=none
  ·exact .inl ha
  have:=(au.lt h.init ha).1
  right;intro e
  have:=hr _ e.symm;omega
 have:=(h.node.lt b hb).1
 have:=hr _ e.symm;omega
theorem kj.below(h:kj w B t)(hb:aAW w.heap.size w w'):kj w' B t:=
 ⟨h.name,h.bG,h.sm,h.few,au.below h.init hb,h.Ll,h.Fz,h.code.below hb,h.node.keep hb,h.nd⟩
theorem kj.mono{B':Nat}(h:kj w B t)(hB:B'<=B):kj w B' t:=
 ⟨h.name,h.bG,h.sm,h.few,au.mono h.init hB,h.Ll,h.Fz,h.code.mono hB,h.node.mono hB,h.nd⟩
end
abbrev Zo:List aAY:=[.int .i64 0,.string ⟨#[]⟩,.string ⟨#[]⟩,.slice none 0 0,.slice none 0 0,.int .i64 0,.int .i64 0,.int .i64 0,.int .i64 0,.string ⟨#[]⟩,.int .i64 0,.slice none 0 0]
abbrev oX:Obj:=.cells #[.int .i64 0,.string ⟨#[]⟩,.string ⟨#[]⟩,.slice none 0 0,.slice none 0 0,.int .i64 0,.int .i64 0,.int .i64 0,.int .i64 0,.string ⟨#[]⟩,.int .i64 0,.slice none 0 0] 32
abbrev L0:aAY:=.agg #[.int .i64 0,.string ⟨#[]⟩,.string ⟨#[]⟩,.slice none 0 0,.slice none 0 0,.int .i64 0,.int .i64 0,.int .i64 0,.int .i64 0,.string ⟨#[]⟩,.int .i64 0,.slice none 0 0]
def t0:aT:=⟨0,[],[],none,0,[],none,0,[],0,.mk 0 ⟨0,0,[]⟩ 0 none 0 []⟩
abbrev LY:Obj:=.cells #[.int .i64 0] 33
abbrev aku:Obj:=.cells #[.int .i64 0] 3
abbrev Hs(w:aAX):aAX:=((w.alloc oX).alloc LY).alloc aku
theorem TV(w:aAX):aAW w.heap.size w (Hs w):=gD
abbrev avA(s:Tx):Obj:=.cells #[.string (tx s),.int .i64 0,.int .i64 0,.string ⟨#[]⟩,.string ⟨#[]⟩,.slice none 0 0,.slice none 0 0,.int .i64 0,.int .i64 0,.int .i64 0,.int .i64 0,.string ⟨#[]⟩,.int .i64 0,.slice none 0 0] 68
theorem dL.new(hs:s.length<=262144)(g:Gl w):dL w (w.alloc (avA s)) s 0 t0:=
 ⟨Ab w (e:=68) #[.string (tx s),.int .i64 0,.int .i64 0,.string ⟨#[]⟩,.string ⟨#[]⟩,.slice none 0 0,.slice none 0 0,.int .i64 0,.int .i64 0,.int .i64 0,.int .i64 0,.string ⟨#[]⟩,.int .i64 0,.slice none 0 0] 1 (aX w.heap.size) (size:=14) dx aq,al w _,g,hs,dW _⟩
theorem akd{w4:aAX}(S:aAW (Hs w).heap.size (Hs w) w4):aW w4 w.heap.size Zo/\w4.cell? ⟨w.heap.size+1,0,none⟩=some (.int .i64 0)/\w4.cell? ⟨w.heap.size+1+1,0,none⟩=some (.int .i64 0)/\(∀j,w4.frozen? ⟨w.heap.size,j,none⟩=false)/\(∀j,w4.frozen? ⟨w.heap.size+1,j,none⟩=false)/\(∀j,w4.frozen? ⟨w.heap.size+1+1,j,none⟩=false):=by
 have a1:=al w oX;have a2:=al (w.alloc oX) LY;have a3:=al ((w.alloc oX).alloc LY) aku;have b1:=(((aW.new w #[.int .i64 0,.string ⟨#[]⟩,.string ⟨#[]⟩,.slice none 0 0,.slice none 0 0,.int .i64 0,.int .i64 0,.int .i64 0,.int .i64 0,.string ⟨#[]⟩,.int .i64 0,.slice none 0 0] 32).below a2).below a3).below S;have b2:=((aW.new (w.alloc oX) #[.int .i64 0] 33).below a3).below S;have b3:=(aW.new ((w.alloc oX).alloc LY) #[.int .i64 0] 3).below S;have c2:=b2.get 0 _ rfl;have c3:=b3.get 0 _ rfl;simp only[gQ]at c2 c3;refine⟨b1,c2,c3,fun j=>?_,fun j=>?_,fun j=>?_⟩
 ·rw[S.frozen (p:=⟨w.heap.size,j,none⟩) vk,a3.frozen (p:=⟨w.heap.size,j,none⟩) vk,a2.frozen (p:=⟨w.heap.size,j,none⟩) aq]
  exact Fu
 ·rw[S.frozen (p:=⟨w.heap.size+1,j,none⟩) vk,a3.frozen (p:=⟨w.heap.size+1,j,none⟩) aq]
  have:=cJ (w.alloc oX) #[.int .i64 0] 33 j;exact Va
 rw[S.frozen (p:=⟨w.heap.size+1+1,j,none⟩) aq]
 have:=cJ ((w.alloc oX).alloc LY) #[.int .i64 0] 3 j;rw[gQ,gQ]at this;exact this
def xW(p:EP aT)(w:aAX)(e:aBp)(w':aAX):Prop:=aAW w.heap.size w w'/\match p with
 | .error (n,k)=>e= .returned (.tuple #[L0,.int .i64 n,.int .i64 k])
 | .ok t=> ∃y,mG y=t/\e= .returned (.tuple #[vT y,.int .i64 0,.int .i64 0])/\kj w' w.heap.size y
theorem aij(h0:aAW B w w5)(h3:bK w7 w8 (B+1+1))(h2:bK w6 w7 (B+1))(h1:bK w5 w6 B)(hB:B<=w5.heap.size):aAW B w w8:=by
 exact aex
theorem kj.GK{y:aT}(h0:kj w5 (B+3) y)(h3:bK w7 w8 (B+1+1))(h2:bK w6 w7 (B+1))(h1:bK w5 w6 B):kj w8 B y:=by
 have a1:=h0.kept h1.grown (fun r hr=>by simp at hr;omega);have a2:=a1.kept h2.grown (fun r hr=>by simp at hr;omega);exact(a2.kept h3.grown (fun r hr=>by simp at hr;omega)).mono ah
theorem aof{y:aT}{e:aBp}(h0:aAW w.heap.size w w5)(hO:kj w5 (w.heap.size+3) y)(hy:mG y=t)(he:e= .returned (.tuple #[vT y,.int .i64 0,.int .i64 0]))(h3:bK w7 w8 (w.heap.size+1+1))(h2:bK w6 w7 (w.heap.size+1))(h1:bK w5 w6 w.heap.size):xW (.ok t) w e w8:=
 ⟨aij h0 h3 h2 h1 h0.size,y,hy,he,hO.GK h3 h2 h1⟩
theorem aoe{e:aBp}(h0:aAW w.heap.size w w5)(he:e= .returned (.tuple #[L0,.int .i64 er,.int .i64 k]))(h3:bK w7 w8 (w.heap.size+1+1))(h2:bK w6 w7 (w.heap.size+1))(h1:bK w5 w6 w.heap.size):xW (.error (er,k)) w e w8:=
 ⟨aij h0 h3 h2 h1 h0.size,he⟩
theorem aa1(h:iF s.length s= .error e):mX s.length s= .error e:=by
 unfold mX;rw[h];rfl
theorem aa2{n:Tx}{a:Int}(h:iF s.length s= .ok (a,n,r1))(h2:fV s.length r1= .error e):mX s.length s= .error e:=by
 unfold mX;rw[h];change (fV s.length r1 >>= _)=_;rw[h2];rfl
theorem aa3{n c:Tx}{a:Int}(h:iF s.length s= .ok (a,n,r1))(h2:fV s.length r1= .ok (c,r2))(h3:gj a s.length r2= .error e):mX s.length s= .error e:=by
 unfold mX;rw[h];change (fV s.length r1 >>= _)=_;rw[h2];change (gj a s.length r2 >>= _)=_;rw[h3];rfl
theorem aa4{n c:Tx}{a:Int}{i:List bF}(h:iF s.length s= .ok (a,n,r1))(h2:fV s.length r1= .ok (c,r2))(h3:gj a s.length r2= .ok (i,r3))(h4:gB a s.length r3= .error e):mX s.length s= .error e:=by
 unfold mX;rw[h];change (fV s.length r1 >>= _)=_;rw[h2];change (gj a s.length r2 >>= _)=_;rw[h3];change (gB a s.length r3 >>= _)=_;rw[h4];rfl
theorem aa5{n c r4:Tx}{a:Int}{i:List bF}{l:List (List aL)}(h:iF s.length s= .ok (a,n,r1))(h2:fV s.length r1= .ok (c,r2))(h3:gj a s.length r2= .ok (i,r3))(h4:gB a s.length r3= .ok (l,r4))(h5:jX a s.length r4= .error e):mX s.length s= .error e:=by
 unfold mX;rw[h];change (fV s.length r1 >>= _)=_;rw[h2];change (gj a s.length r2 >>= _)=_;rw[h3];change (gB a s.length r3 >>= _)=_;rw[h4];change (jX a s.length r4 >>= _)=_;rw[h5];rfl
theorem xm(hl:s.length<=262144)(h:mX s.length s= .error e):gH s= .error e:=by
 unfold gH;rw[ai ah,h]
theorem ahQ(hl:s.length<=262144)(h:mX s.length s= .ok t):gH s=if cM t=0 then .ok t else .error (cM t,0):=by
 unfold gH;rw[ai ah,h]
abbrev DF(s:Tx)(k:Nat)(er:Int)(bad:Nat)(t:aT):List aAY:=.string (tx s):: .int .i64 k:: .int .i64 er:: .int .i64 bad::cT t
structure cS(w1 w:aAX)(s:Tx)(k:Nat)(er:Int)(bad:Nat)(t:aT):Prop where
 own:au w w1.heap.size 71 16 (aBf ⟨w1.heap.size,0,none⟩) 1 1 (DF s k er bad t)
 cF:aAW w1.heap.size w1 w
 gl:Gl w1
 sl:s.length<=262144
 le:k<=s.length+1
section
variable {w1 w:aAX} {s:Tx} {k:Nat} {er:Int} {bad:Nat} {t:aT}
theorem cS.bx(h:cS w1 w s k er bad t):aW w w1.heap.size (DF s k er bad t):=by
 refine⟨(au.lt h.own aq).2,fun j hj=>?_⟩;have:=(au.row h.own).cell j hj;simpa using this
theorem cS.eK(h:cS w1 w s k er bad t)(j:Nat):w.frozen? ⟨w1.heap.size,j,none⟩=false:=by
 have:=au.frozen h.own aq j;simpa using this
theorem cS.below{w':aAX}(h:cS w1 w s k er bad t)(hb:aAW w.heap.size w w'):cS w1 w' s k er bad t:=
 ⟨au.below h.own hb,aI h.cF hb,h.gl,h.sl,h.le⟩
theorem cS.kept{w':aAX}{r:Option Nat}(h:cS w1 w s k er bad t)(hg:w.grownBy w' r)(hr: ∀b,r=aBf b->w1.heap.size<b):cS w1 w' s k er bad t:=by
 refine⟨au.kept h.own hg (.inr ?_),h.cF.grown hg h.cF.size (fun b hb=>Nat.le_of_lt (hr b hb)),h.gl,h.sl,h.le⟩;cases r with
 |none=>simp
 |some b=>have:=hr b rfl;simp;omega
theorem cS.g(h:cS w1 w s k er bad t):Gl w:=h.gl.below h.cF
theorem cS.lt(h:cS w1 w s k er bad t):w1.heap.size<w.heap.size:=(au.lt h.own aq).2
theorem cS.put(h:cS w1 w s k er bad t)(j:Nat)(v:aAY){k':Nat}{kA:Int}{kq:Nat}{t':aT}(e:(DF s k er bad t).set j v=DF s k' kA kq t')(hk:k'<=s.length+1):cS w1 (w.setCell ⟨w1.heap.size,j,none⟩ v) s k' kA kq t'/\St w (w.setCell ⟨w1.heap.size,j,none⟩ v) w1.heap.size:=by
 exact acC
theorem cS.cells(h:cS w1 w s k er bad t){rb:Nat}(hr:w1.heap.size=rb):w.cell? ⟨rb,4,none⟩=some (.int .i64 t.ag)/\w.cell? ⟨rb,5,none⟩=some (.string (tx t.name))/\w.cell? ⟨rb,6,none⟩=some (.string (tx t.bG))/\w.cell? ⟨rb,7,none⟩=some (.slice t.ia t.init.length t.ic)/\w.cell? ⟨rb,8,none⟩=some (.slice t.ca t.code.length t.cc)/\w.cell? ⟨rb,9,none⟩=some (.int .i64 t.q)/\w.cell? ⟨rb,10,none⟩=some (.int .i64 t.node.kind)/\w.cell? ⟨rb,11,none⟩=some (.int .i64 t.node.th.aO)/\w.cell? ⟨rb,12,none⟩=some (.int .i64 t.node.th.aR)/\w.cell? ⟨rb,13,none⟩=some (.string (tx t.node.th.aj))/\w.cell? ⟨rb,14,none⟩=some (.int .i64 t.node.val)/\w.cell? ⟨rb,15,none⟩=some (.slice t.node.a t.node.aP.length t.node.c):=by
 subst hr;exact⟨h.bx.get 4 _ rfl,h.bx.get 5 _ rfl,h.bx.get 6 _ rfl,h.bx.get 7 _ rfl,h.bx.get 8 _ rfl,h.bx.get 9 _ rfl,h.bx.get 10 _ rfl,h.bx.get 11 _ rfl,h.bx.get 12 _ rfl,h.bx.get 13 _ rfl,h.bx.get 14 _ rfl,h.bx.get 15 _ rfl⟩
end
abbrev avB(s:Tx):Obj:=.cells #[.string (tx s),.int .i64 0,.int .i64 0,.int .i64 0,.int .i64 0,.string ⟨#[]⟩,.string ⟨#[]⟩,.slice none 0 0,.slice none 0 0,.int .i64 0,.int .i64 0,.int .i64 0,.int .i64 0,.string ⟨#[]⟩,.int .i64 0,.slice none 0 0] 71
theorem cS.new(hs:s.length<=262144)(g:Gl w):cS w (w.alloc (avB s)) s 0 0 0 t0:=
 ⟨Ab w (e:=71) #[.string (tx s),.int .i64 0,.int .i64 0,.int .i64 0,.int .i64 0,.string ⟨#[]⟩,.string ⟨#[]⟩,.slice none 0 0,.slice none 0 0,.int .i64 0,.int .i64 0,.int .i64 0,.int .i64 0,.string ⟨#[]⟩,.int .i64 0,.slice none 0 0] 1 (aX w.heap.size) (size:=16) dx aq,al w _,g,hs,dW _⟩
theorem ajv{a b:Nat}(h:s.drop a=u)(hab:a<=b):di s a b=u.take (b-a):=by
 unfold di;rw[tG,h]
theorem vA{L:Tx}{p d:Nat}(h:(s.drop p).take n=L)(hd:d<=n):di s (p+c) (p+d)=(L.take d).drop c:=by
 subst h;unfold di;rw[Tq,wg hd,tG,tG,gC,show p+d-(p+c)=d-c by omega]
def zS(N:Nat)(s r:Tx)(e:aBp):Prop:=
 (aM r=[]/\e= .returned (.tuple #[.int .i64 N,.int .i64 N,.int .i64 N,.bool false]))\/
 ∃nx:Nat,aM r≠[]/\s.drop nx=cP (aM r)/\nx<=N+1/\e= .returned (.tuple #[.int .i64 (cE N (aM r):Nat),.int .i64 (cE N (aM r)+(bB (aM r)).length:Nat),.int .i64 nx,.bool true])
theorem Py(u:Tx):u.take (bB u).length=bB u/\(bB u).length<=(u.takeWhile (· != 10)).length:=by
 obtain⟨b,h, -⟩:=sH (u.takeWhile (· != 10));have h1:=(kH (p:=(· != 10)) (l:=u)).symm;have h2:=congrArg aBd h;rw[bu]at h2;refine⟨?_,by unfold bB;omega⟩
 conv=>lhs;arg 2;rw[h1,h]
 unfold bB;rw[dA,tE]
theorem JI(s:Tx)(k:Nat):s.drop (cE s.length (aM (s.drop k)))=aM (s.drop k):=JJ (k:=k) (nC _)
theorem aj1{tw:Tx}{c:UInt8}(h:r.takeWhile (· != c)=tw):r.take tw.length=tw:=by
 have h1:=kH (p:=(· != c)) (l:=r);rw[h]at h1
 conv=>lhs;arg 2;rw[<-h1]
 rw[tE]
theorem K7(R:cS w1 w s k er bad t):aA7 prog 83 #[.pointer (some ⟨w1.heap.size,0,none⟩)] w (fun e w'=>zS s.length s (s.drop k) e/\aAW w.heap.size w w'):=by
 obtain⟨c0,c1⟩:=R.bx.qb;have hl:=R.sl;have iG:=R.le;have hrb:=R.lt;obtain⟨u,hu⟩:=aF (aM (s.drop k));have HU:=af hu;obtain⟨n,hn⟩:=aF ((tx s).size);have HN:=af (show n=s.length by rw[<-hn,bC]);have hnb:n<=262144:=by rw[HN.oo];exact hl
 have hkn:k<=n+1:=by rw[HN.oo];exact iG
 have HL:=af hl;generalize w1.heap.size=rb at*;clear hu hl iG R;go_in;go_wp2_with fail
 go_loopw [6] (fun i wr=> ∃q:Nat,q<=n+1/\i= .int .i64 q/\aAW w.heap.size w wr/\Hid (aM (s.drop q)=u)) (fun i _=>n+1-(intOf i).toNat)
 ·exact⟨k,hkn,rfl,bS _ _,HU⟩
 obtain⟨q,hq,rfl,E,HQ⟩:=hrel;have d0:=(E.cell hrb).trans c0
 by_cases aA:q<n
 ·have zq:decide ((q:Int)<(n:Int))=true:=aC
  obtain⟨tw,AO⟩:=aF ((s.drop q).takeWhile (· != 10));obtain⟨j,h1,h2,h3,h4,h5⟩:=ua (· != 10) s _ q (aX _) (bE HN.oo);rw[AO]at h5;obtain⟨x1,x2⟩:=agy (s.drop q);have aN:cP (s.drop q)=s.drop (j+1):=by rw[aiW,AO,h5,gC];congr 1;omega
  rw[AO]at x1 x2
  have jZ:di s q j=tw:=by
   have:=vA (s:=s) (p:=q) (n:=tw.length) (c:=0) (d:=tw.length) (aj1 AO) (aX _);rw[gK,h5,kI ah,show q+(j-q)=j by omega]at this;exact this
  have SG:=af (fun w=>K8 s q j h1 h2 HL.oo w);rw[jZ]at SG;obtain⟨f,hf⟩:=aF (aM tw);rw[hf]at SG x1 x2;have hfl:f.length<=tw.length:=by rw[<-hf];exact vB tw
  have LA:=af (show f≠[]-> ∀w,aA7 prog 87 #[.string (tx s),.int .i64 (j-f.length:Nat),.int .i64 j] w fun e w'=>e= .returned (.int .i64 (j-f.length+(bB u).length:Nat))/\w=w' from fun h0 w=>by
   have h6:=Yg s (j-f.length) j ah h2 HL.oo w
   have h7:di s (j-f.length) j=f:=by
    have:=vA (s:=s) (p:=q) (n:=tw.length) (c:=tw.length-f.length) (d:=tw.length) (aj1 AO) (aX _);rw[show q+(tw.length-f.length)=j-f.length by omega,show q+tw.length=j by omega,kI (aX _)]at this;rw[this,<-hf];exact(Co.1 (iu _)).symm
   rw[h7]at h6;have h8:bB u=cR f:=by unfold bB;rw[<-HQ.oo,(x2 h0).2.1]
   rw[h8];exact h6)
  have pe:=af (show f≠[]->zS s.length s (s.drop k) (.returned (.tuple #[.int .i64 (j-f.length:Nat),.int .i64 (j-f.length+(bB u).length:Nat),.int .i64 ((j:Int)+1),.bool true]))from fun h0=>by
   obtain⟨y1,y2,y3,y4⟩:=x2 h0
   have hp:cE s.length u=j-f.length:=by
    rw[HQ.oo]at y4;rw[dG]at y4;have:=HN.oo;unfold cE;omega
   refine .inr ⟨j+1,by rw[HU.oo,<-HQ.oo];exact y1,?_,ah,?_⟩
   ·rw[HU.oo,<-aN,<-HQ.oo];exact y3.symm
   rw[HU.oo,hp];rfl)
  have Iu:=af (show f=[]->aM (s.drop (j+1))=u from fun h0=>by rw[<-aN,x1 h0];exact HQ.oo);have HS:=af h3;have HE:=af h4;have hjn:j<=n:=by rw[HN.oo];exact h2
  have hfj:f.length<=j-q:=ah;clear h3 h4 h5 x1 x2 aN jZ AO hf h2 HQ;obtain⟨fl,VX⟩:=aF f.length;have iZ:f=[]<->fl=0:=by rw[<-VX];exact List.length_eq_zero_iff.symm
  rw[VX]at SG LA pe hfj;have zO:=af iZ;clear iZ hfl VX;go_wp2_with fail
  go_loopw [7] (fun i wi=> ∃p:Nat,q<=p/\p<=j/\i= .int .i64 p/\wi=wr) (fun i _=>j-(intOf i).toNat)
  ·exact⟨q,aX _,h1,rfl,nS⟩
  obtain⟨p,Wm,hpj,rfl,rfl⟩:=hrel
  by_cases hpl:p<j
  ·obtain⟨x,hx,jK⟩:=HS.oo p Wm hpl
   have ix:=cH s p x hx;have zp:decide ((p:Int)<(n:Int))=true:=aC
   have zx:((x.toNat:Int) != 10)=true:=by
    have:=Nu (x:=x) (n:=10) ay (aS jK);simpa using this
   clear hx jK;go_wp2_with fail
   go_roundw;exact⟨p+1,ah,ah,by go_num,nS⟩;exact ep
  obtain rfl:p=j:=ah
  by_cases O7:p<n
  ·obtain⟨x,hx⟩: ∃x,s[p]? =some x:=⟨_,aV (bE HN.oo)⟩
   have ix:=cH s p x hx;have zp:decide ((p:Int)<(n:Int))=true:=aC
   have zx:((x.toNat:Int) != 10)=false:=by
    have:=HE.oo x hx;have h10:x=10:=aS this;subst h10;rfl
   clear hx
   by_cases iZ:fl=0
   ·have Iu:=af (Iu.oo (zO.oo.2 iZ))
    subst iZ;have zl:decide (((p-0:Nat):Int)<(p:Int))=false:=aq
    go_wp2_with (go_at_call 86;refine aK (SG.oo _) ?_)
    exact acP
   have pe:=af (pe.oo (fun h=>iZ (zO.oo.1 h)))
   have LA:=af (LA.oo (fun h=>iZ (zO.oo.1 h)));have zl:decide (((p-fl:Nat):Int)<(p:Int))=true:=aC
   go_wp2_with (first|(go_at_call 86;refine aK (SG.oo _) ?_)|(go_at_call 87;refine aK (LA.oo _) ?_))
   exact acQ
  have zp:decide ((p:Int)<(n:Int))=false:=aC
  by_cases iZ:fl=0
  ·have Iu:=af (Iu.oo (zO.oo.2 iZ))
   subst iZ;have zl:decide (((p-0:Nat):Int)<(p:Int))=false:=aq
   go_wp2_with (go_at_call 86;refine aK (SG.oo _) ?_)
   exact acP
  have pe:=af (pe.oo (fun h=>iZ (zO.oo.1 h)))
  have LA:=af (LA.oo (fun h=>iZ (zO.oo.1 h)));have zl:decide (((p-fl:Nat):Int)<(p:Int))=true:=aC
  go_wp2_with (first|(go_at_call 86;refine aK (SG.oo _) ?_)|(go_at_call 87;refine aK (LA.oo _) ?_))
  exact acQ
 have zq:decide ((q:Int)<(n:Int))=false:=aC
 have pe:=af (show zS s.length s (s.drop k) (.returned (.tuple #[.int .i64 n,.int .i64 n,.int .i64 n,.bool false]))from .inl ⟨by rw[HU.oo,<-HQ.oo,iN (bE HN.oo)];rfl,by rw[HN.oo]⟩);have d0:=(show(aBn wr).cell? ⟨rb,0,none⟩=some (.string (tx s))from d0);go_wp2_with fail
 go_big_region
 all_goals go_wp2_with fail
 all_goals exact aZ (by simp[results,results83,go_sem]<;>rfl) rfl ⟨pe.oo,jV E⟩
theorem GO(R:cS w1 w s k er bad t)(n:Int)(at':Nat):aA7 prog 84 #[.pointer (some ⟨w1.heap.size,0,none⟩),.int .i64 n,.int .i64 at'] w (fun e w'=>e= .returned (.bool false)/\cS w1 w' s k n at' t):=by
 have hrb:=R.lt;obtain⟨-, -, q2,q3⟩:=R.bx.Jt;have f2:=R.eK 2;have f3:=R.eK 3;have R2:=R.put 2 (.int .i64 n) (k':=k) (kA:=n) (kq:=bad) (t':=t) rfl R.le;have R3:=af (R2.1.put 3 (.int .i64 at') (k':=k) (kA:=n) (kq:=at') (t':=t) rfl R.le).1;clear R2 R;go_in;go_wp2;go_ret;exact⟨rfl,R3.oo⟩
def Bo(p:Int × Nat)(w1 w':aAX)(s:Tx)(e:aBp):Prop:=e= .returned (.bool false)/\ ∃k t,cS w1 w' s k p.1 p.2 t
def aaf(p:EP (Int × Tx × Tx))(w1 w:aAX)(s:Tx)(t:aT)(e:aBp)(w':aAX):Prop:=
 (∃x,p= .error x/\Bo x w1 w' s e)\/
 ∃a n r1 k',p= .ok (a,n,r1)/\s.drop k'=r1/\e= .returned (.bool true)/\St w w' w1.heap.size/\cS w1 w' s k' 0 0 { t with ag:=a,name:=n }
theorem Xz{c:UInt8}:nb c=true<->aH c=false:=by unfold nb;cases aH c<;>simp
theorem ay7{L:Tx}{p:Nat}(h:(s.drop p).take L.length=L)(hl:p+L.length<=s.length):
 di s (p+(L.takeWhile nb).length) (p+L.length)=L.dropWhile nb/\di s p (p+(L.takeWhile nb).length)=L.takeWhile nb/\(L.takeWhile nb).length<=L.length/\
  ∀j,j<=L.length->di s (p+L.length-j) (p+L.length)=L.drop (L.length-j):=by
 have h1:=(kH (p:=nb) (l:=L)).symm;have h2:=congrArg aBd h1;rw[bu]at h2;refine⟨?_,?_,ah,fun j hj=>?_⟩
 ·rw[vA h (aX _),kI (aX _)]
  conv=>lhs;arg 2;rw[h1]
  rw[EM]
 ·have:=vA h (c:=0) (d:=(L.takeWhile nb).length) ah
  rw[gK,jg]at this;rw[this]
  conv=>lhs;arg 2;rw[h1]
  rw[tE]
 have:=vA h (c:=L.length-j) (d:=L.length) (aX _)
 rw[kI (aX _)]at this;rw[<-this];congr 1;omega
theorem EV{L:Tx}{p:Nat}{x:UInt8}(h:(s.drop p).take L.length=L)(hx:L[i]? =some x):s[p+i]? =some x:=by
 have hi:=(bt.1 hx).1;rw[<-h,IJ hi,tA]at hx;exact hx
theorem au3(R:cS w1 w s k 0 0 t):aA7 prog 32 #[.pointer (some ⟨w1.heap.size,0,none⟩)] w (aaf (iF s.length (s.drop k)) w1 w s t):=by
 have hl:=R.sl;have LN:=af (K7 R);have WR:=af (fun(wx:aAX) (R:cS w1 wx s k 0 0 t) n a=>GO R n a);have HR:=af R;have BL:=af (fun x w=>KY x w);have hds:=JI s k;have hsu:aM (s.drop k) <:+ s.drop k:=nC _;obtain⟨u,hu⟩:=aF (aM (s.drop k));have P1:=af (fun h=>aff (N:=s.length) (r:=s.drop k) h);have P2:=af (fun x y h h2=>afd (N:=s.length) (r:=s.drop k) (x:=x) (y:=y) h h2);have P3:=af (fun x y a h h2=>afg (N:=s.length) (r:=s.drop k) (x:=x) (y:=y) (a:=a) h h2);rw[hu]at P1 P2 P3 hds hsu;generalize iF s.length (s.drop k)=hp at*;go_in;go_wp2_with fail;refine LN.oo.mono ?_;rintro e w2 ⟨hv,E2⟩;unfold zS at hv;rw[hu]at hv;rcases hv with⟨h0,rfl⟩|⟨nx,h0,mo,C8,rfl⟩
 ·have P1:=af (P1.oo (by rw[h0];rfl))
  rw[h0]at P1;have P1:Hid (hp= .error (140,s.length)):=P1;have R2:=HR.oo.below E2;clear hu h0 hds hsu;go_wp2_with fail;refine(WR.oo _ R2 _ _).mono ?_;rintro e w9 ⟨rfl,RB⟩;go_wp2;go_ret;exact .inl ⟨_,P1.oo,rfl,_,_,RB⟩
 obtain⟨L,hL⟩:=aF (bB u)
 obtain⟨p0,eH⟩:=aF (cE s.length u);have iH:u.length<=s.length:=by have:=hsu.length_le;rw[dG]at this;omega
 have hpl:=Py u;have htl:=(Cn (l:=u) (· != 10)).length_le;rw[hL]at hpl P1 P2 P3;rw[eH]at hds P1 P2;have O7:p0+u.length=s.length:=by rw[<-eH];unfold cE;omega
 have hat:(s.drop p0).take L.length=L:=by rw[hds];exact hpl.1
 have hto:p0+L.length<=s.length:=ah;obtain⟨s1,s2,s3,s4⟩:=ay7 hat hto;have hb0:s.length<=262144:=hl;rw[hL,eH];obtain⟨j,r1,r2,r3,r4,r5⟩:=ua nb L _ 0 (aX _) (dW _);rw[jg,Nat.sub_zero]at r5;rw[r5]at s1 s2 s3;obtain⟨M,hM⟩:=aF ((L.dropWhile nb).dropWhile aH);have HT:=af (show sN L=if M=[]\/M.any aH=true then none else some (L.takeWhile nb,M) by unfold sN;dsimp only;rw[hM]);have SG:=af (fun w=>K8 s (p0+j) (p0+L.length) ah hto hl w);rw[s1,show aM (L.dropWhile nb)=M from hM]at SG;have hMs:M <:+ L:=by rw[<-hM];exact(iu _).trans (iu _)
 have Ox:=hMs.length_le;have VH:L.drop (L.length-M.length)=M:=(Co.1 hMs).symm;have Pd:di s (p0+L.length-M.length) (p0+L.length)=M:=by rw[s4 M.length Ox,VH]
 have HA:=af (fun i x (hx:L[i]? =some x)=>EV hat hx);have zN:=af (fun i x (hx:M[i]? =some x)=>EV (L:=L) (p:=p0) (i:=L.length-M.length+i) hat (by rw[<-tA,VH];exact hx));obtain⟨ll,eL⟩:=aF L.length;obtain⟨ml,hml⟩:=aF M.length;have uk:=af eL;have Rq:=af hml;rw[eL]at SG hto Ox s3 zN;rw[eL];rw[hml]at SG Ox zN;have c0:=(HR.oo.below E2).bx.get 0 _ rfl;have R2:=af (HR.oo.below E2);have hj:j<=ll:=s3
 have hmj:ml<=ll-j:=by
  have a1:=(iu (l:=L.dropWhile nb) aH).length_le;have a2:=congrArg aBd (kH (p:=nb) (l:=L));rw[bu]at a2;rw[hM]at a1;omega
 have hwd: ∀w,(aA1 9 (.string (tx s)) (some (.int .i64 p0)) (some (.int .i64 (p0+j:Nat))) none).run prog w= .ok (.string (tx (L.takeWhile nb))) w:=by
  have:=nB s p0 (p0+j) ah ah;rw[show(s.take (p0+j)).drop p0=L.takeWhile nb from s2]at this;exact this
 have hnm: ∀w,(aA1 9 (.string (tx s)) (some (.int .i64 (p0+ll-ml:Nat))) (some (.int .i64 (p0+ll:Nat))) none).run prog w= .ok (.string (tx M)) w:=by
  have:=nB s (p0+ll-ml) (p0+ll) ah ah;rw[show(s.take (p0+ll)).drop (p0+ll-ml)=M from by rw[<-eL,<-hml];exact Pd]at this;exact this
 obtain⟨W,hW⟩:=aF (L.takeWhile nb);rw[hW]at hwd HT;have qF:=af mo;obtain⟨tt,Dg⟩:=aF (p0+ll);obtain⟨J,hJ⟩:=aF (p0+j);obtain⟨m,hm⟩:=aF (tt-ml)
 have HS:=af (show ∀q,p0<=q->q<J-> ∃x,s[q]? =some x/\aH x=false from fun q h6 h7=>by
  obtain⟨x,hx,hb⟩:=r3 (q-p0) (dW _) ah;have:=HA.oo _ x hx;rw[show p0+(q-p0)=q by omega]at this;exact⟨x,this,Xz.1 hb⟩)
 have HE:=af (show J<tt-> ∃x,s[J]? =some x/\aH x=true from fun h6=>by
  obtain⟨x,hx⟩: ∃x,L[j]? =some x:=⟨_,aV (by rw[eL];omega)⟩;have h7:=r4 x hx;have:=HA.oo _ x hx;rw[hJ]at this;exact⟨x,this,by unfold nb at h7;simpa using h7⟩)
 obtain⟨jb,t1,t2,t3,t4,t5⟩:=ua nb M _ 0 (aX _) (dW _);rw[hml]at t2;obtain⟨JB,Vz⟩:=aF (m+jb)
 have MS:=af (show ∀q,m<=q->q<JB-> ∃x,s[q]? =some x/\aH x=false from fun q h6 h7=>by
  obtain⟨x,hx,hb⟩:=t3 (q-m) (dW _) ah;have:=zN.oo _ x hx;rw[show p0+(ll-ml+(q-m))=q by omega]at this;exact⟨x,this,Xz.1 hb⟩)
 have ME:=af (show JB<tt-> ∃x,s[JB]? =some x/\aH x=true from fun h6=>by
  obtain⟨x,hx⟩: ∃x,M[jb]? =some x:=⟨_,aV (by rw[hml];omega)⟩;have h7:=t4 x hx;have:=zN.oo _ x hx;rw[show p0+(ll-ml+jb)=JB by omega]at this;exact⟨x,this,by unfold nb at h7;simpa using h7⟩)
 have MA:=af (show M.any aH=true<->JB<tt from by
  constructor
  ·intro h
   obtain⟨y,hy,gM⟩:=qN.1 h;obtain⟨i,hi⟩:=pE.1 hy
   by_cases aA:jb<ml
   ·omega
   have hil:=(bt.1 hi).1
   rw[hml]at hil;obtain⟨z,hz,hzb⟩:=t3 i (dW _) ah;rw[hi]at hz;cases hz;rw[Xz.1 hzb]at gM;cases gM
  intro h
  obtain⟨x,hx⟩: ∃x,M[jb]? =some x:=⟨_,aV (by rw[hml];omega)⟩;refine qN.2 ⟨x,cV hx,?_⟩;have:=t4 x hx;unfold nb at this;simpa using this)
 rw[Dg]at SG hnm;rw[Dg];rw[hm]at SG hnm;rw[hJ]at SG hwd;have MZ:=af (show M=[]<->m=tt from by rw[<-rP,hml];omega);have Vx:p0<=J:=ah;have hJ2:J<=tt:=ah;have ae4:m<=JB:=ah;have az2:JB<=tt:=ah;have htn:tt<=262144:=ah;have Kk:m<=tt:=ah;clear hu h0 hds hsu hpl htl O7 hat s1 s2 s3 s4 r1 r2 r3 r4 r5 hM hMs VH Pd hL eH iH hW mo eL hml t1 t2 t3 t4 t5 Dg hJ hm Vz HA zN uk Rq hj hmj Ox hto;go_wp2
 go_loopw [7] (fun x wi=> ∃q:Nat,p0<=q/\q<=J/\x= .int .i64 q/\wi=w2) (fun x _=>J-(intOf x).toNat)
 ·exact⟨p0,aX _,Vx,rfl,nS⟩
 obtain⟨q,Wm,hq,rfl,rfl⟩:=hrel
 by_cases aA:q<J
 ·obtain⟨x,hx,jK⟩:=HS.oo q Wm aA
  have ix:=cH s q x hx;have zk:decide ((q:Int)<(tt:Int))=true:=aC;have HB:=af jK;clear hx jK
  go_wp2_with (go_at_call 85;refine aK (BL.oo x _) ?_;rw[HB.oo])
  exact acR
 obtain rfl:q=J:=ah
 by_cases Ko:q<tt
 ·obtain⟨x,hx,jK⟩:=HE.oo Ko
  have ix:=cH s q x hx;have zk:decide ((q:Int)<(tt:Int))=true:=aC;have HB:=af jK;clear hx jK
  go_wp2_with (first|(go_at_call 86;refine aK (SG.oo _) ?_)|(go_at_call 85;refine aK (BL.oo x _) ?_;rw[HB.oo]))
  go_loopw [9] (fun x wi=> ∃i:Nat,m<=i/\i<=JB/\x= .int .i64 i/\wi=wr) (fun x _=>JB-(intOf x).toNat)
  ·exact⟨m,aX _,ae4,rfl,nS⟩
  obtain⟨i,Kg,hi,rfl,rfl⟩:=hrel
  by_cases dS:i<JB
  ·obtain⟨y,hy,gM⟩:=MS.oo i Kg dS
   have iy:=cH s i y hy;have zi:decide ((i:Int)<(tt:Int))=true:=aC;have HB:=af gM;clear hy gM
   go_wp2_with (go_at_call 85;refine aK (BL.oo y _) ?_;rw[HB.oo])
   exact UQ
  obtain rfl:i=JB:=ah
  by_cases hil:i<tt
  ·obtain⟨y,hy,gM⟩:=ME.oo hil
   have iy:=cH s i y hy;have zi:decide ((i:Int)<(tt:Int))=true:=aC;have HB:=af gM;have P1:=af (P1.oo (by rw[HT.oo,ak (.inr (MA.oo.2 hil))]));clear hy gM
   go_wp2_with (first|(go_at_call 85;refine aK (BL.oo y _) ?_;rw[HB.oo])|fail)
   exact acS
  have zi:decide ((i:Int)<(tt:Int))=false:=aC
  by_cases hm0:m=tt
  ·have P1:=af (P1.oo (by rw[HT.oo,ak (.inl (MZ.oo.2 hm0))]))
   exact acT
  have ig:=af (show sN L=some (W,M) by
   rw[HT.oo,ai];rintro(h|h)
   ·exact hm0 (MZ.oo.1 h)
   exact absurd (MA.oo.1 h) hil)
  have zm:((m:Int)==(tt:Int))=false:=aC;have R3:=R2.oo;have hrb:=R3.lt;have AG:=R3.eK 1;have hf4:=R3.eK 4;have hf5:=R3.eK 5;obtain⟨-, q1,-, -, q4,q5⟩:=R3.bx.kK;have We:nx<=s.length+1:=C8;have vZ:=af (bX (bw:=w1.heap.size) E2)
  by_cases hx1:W=[88,56,54]
  ·subst hx1
   have zx:((tx [88,56,54]).toList==[88,56,54])=true:=by rw[bU];rfl
   have DW:((tx [88,56,54]).toList==[82,73,83,67,86])=false:=by rw[bU];rfl
   exact acU
  have zx:=eD _ _ hx1
  by_cases hx2:W=[82,73,83,67,86]
  ·subst hx2
   have DW:((tx [82,73,83,67,86]).toList==[82,73,83,67,86])=true:=by rw[bU];rfl
   exact acW
  have DW:=eD _ _ hx2
  exact acX
 have zk:decide ((q:Int)<(tt:Int))=false:=aC
 have HB:Hid True:=trivial;have x:UInt8:=0
 go_wp2_with (first|(go_at_call 86;refine aK (SG.oo _) ?_)|(go_at_call 85;refine aK (BL.oo x _) ?_;rw[HB.oo]))
 go_loopw [9] (fun x wi=> ∃i:Nat,m<=i/\i<=JB/\x= .int .i64 i/\wi=wr) (fun x _=>JB-(intOf x).toNat)
 ·exact⟨m,aX _,ae4,rfl,nS⟩
 obtain⟨i,Kg,hi,rfl,rfl⟩:=hrel
 by_cases dS:i<JB
 ·obtain⟨y,hy,gM⟩:=MS.oo i Kg dS
  have iy:=cH s i y hy;have zi:decide ((i:Int)<(tt:Int))=true:=aC;have HB:=af gM;clear hy gM
  go_wp2_with (go_at_call 85;refine aK (BL.oo y _) ?_;rw[HB.oo])
  exact UQ
 obtain rfl:i=JB:=ah
 by_cases hil:i<tt
 ·obtain⟨y,hy,gM⟩:=ME.oo hil
  have iy:=cH s i y hy;have zi:decide ((i:Int)<(tt:Int))=true:=aC;have HB:=af gM;have P1:=af (P1.oo (by rw[HT.oo,ak (.inr (MA.oo.2 hil))]));clear hy gM
  go_wp2_with (first|(go_at_call 85;refine aK (BL.oo y _) ?_;rw[HB.oo])|fail)
  exact acS
 have zi:decide ((i:Int)<(tt:Int))=false:=aC
 by_cases hm0:m=tt
 ·have P1:=af (P1.oo (by rw[HT.oo,ak (.inl (MZ.oo.2 hm0))]))
  exact acT
 have ig:=af (show sN L=some (W,M) by
  rw[HT.oo,ai];rintro(h|h)
  ·exact hm0 (MZ.oo.1 h)
  exact absurd (MA.oo.1 h) hil)
 have zm:((m:Int)==(tt:Int))=false:=aC;have R3:=R2.oo;have hrb:=R3.lt;have AG:=R3.eK 1;have hf4:=R3.eK 4;have hf5:=R3.eK 5;obtain⟨-, q1,-, -, q4,q5⟩:=R3.bx.kK;have We:nx<=s.length+1:=C8;have vZ:=af (bX (bw:=w1.heap.size) E2)
 by_cases hx1:W=[88,56,54]
 ·subst hx1
  have zx:((tx [88,56,54]).toList==[88,56,54])=true:=by rw[bU];rfl
  have DW:((tx [88,56,54]).toList==[82,73,83,67,86])=false:=by rw[bU];rfl
  exact acU
 have zx:=eD _ _ hx1
 by_cases hx2:W=[82,73,83,67,86]
 ·subst hx2
  have DW:((tx [82,73,83,67,86]).toList==[82,73,83,67,86])=true:=by rw[bU];rfl
  exact acW
 have DW:=eD _ _ hx2
 exact acX
def aab(p:EP (Tx × Tx))(w1 w:aAX)(s:Tx)(t:aT)(e:aBp)(w':aAX):Prop:=
 (∃x,p= .error x/\Bo x w1 w' s e)\/
 ∃c r1 k',p= .ok (c,r1)/\s.drop k'=r1/\e= .returned (.bool true)/\St w w' w1.heap.size/\cS w1 w' s k' 0 0 { t with bG:=c }
theorem arE{L:Tx}{c:UInt8}(h:2<=L.length)(h1:L.head?=some c)(h2:L.getLast?=some d):L=c::((L.drop 1).dropLast++[d]):=by
 match L,h with
 | x::y::r,_=>
   have hx:x=c:=fU h1;have e:(y::r)≠[]:=aq;rw[aaA,pz e]at h2;have:=MK e;have hd:=fU h2;rw[<-hx,<-hd];show x::y::r=x::((y::r).dropLast++[(y::r).getLast e]);rw[this]
theorem YZ(M:Tx):aG M=cR (aM M):=by
 exact(Lz M).symm
theorem ama(M:Tx):(34::(M++[34]):Tx).count 34=2<->(34:UInt8)∉M:=by
 rw[List.count_cons,List.count_append];simp only[Tk,lG];have h:List.count (34:UInt8) [34]=1:=ay;rw[h,<-List.count_eq_zero];omega
theorem au1(R:cS w1 w s k 0 0 t)(wU:t.bG=[]):aA7 prog 33 #[.pointer (some ⟨w1.heap.size,0,none⟩)] w (aab (fV s.length (s.drop k)) w1 w s t):=by
 have hl:=R.sl;have LN:=af (K7 R);have WR:=af (fun(wx:aAX) (R:cS w1 wx s k 0 0 t) n a=>GO R n a);have HR:=af R;have hds:=JI s k;have hsu:aM (s.drop k) <:+ s.drop k:=nC _;obtain⟨u,hu⟩:=aF (aM (s.drop k));have ZK:=af (ag5 wU);have P1:=af (fun h=>ab6 (N:=s.length) (r:=s.drop k) h);have P2:=af (fun h h2=>ab5 (N:=s.length) (r:=s.drop k) h h2);have P3:=af (fun h h2=>ab7 (N:=s.length) (r:=s.drop k) h h2);rw[hu]at P1 P2 P3 hds hsu;generalize fV s.length (s.drop k)=hp at*;go_in;go_wp2_with fail;refine LN.oo.mono ?_;rintro e w2 ⟨hv,E2⟩;unfold zS at hv;rw[hu]at hv;rcases hv with⟨h0,rfl⟩|⟨nx,h0,mo,C8,rfl⟩
 ·have P1:=af (P1.oo (by rw[h0];simp[bB,cR]))
  have R2:=af (show cS w1 w2 s k 0 0 { t with bG:=[] }from by rw[ZK.oo];exact HR.oo.below E2);have ST:=af (bX (bw:=w1.heap.size) E2);go_wp2_with fail;go_ret;exact .inr ⟨_,_,k,P1.oo,rfl,rfl,ST.oo,R2.oo⟩
 obtain⟨L,hL⟩:=aF (bB u)
 obtain⟨p0,eH⟩:=aF (cE s.length u)
 obtain⟨c,hc⟩: ∃c,u.head?=some c:=by
  cases u with
  |nil=>exact absurd rfl h0
  |cons c r=>exact⟨c,rfl⟩
 have hcb:aH c=false:=lQ (l:=s.drop k) (p:=aH) (by rw[show(s.drop k).dropWhile aH=u from hu];exact hc);have wR:L.head?=some c:=by rw[<-hL];exact(KE (b:=[]) hc hcb aq).2.2
 have iH:u.length<=s.length:=by have:=hsu.length_le;rw[dG]at this;omega
 have hpl:=Py u;have htl:=(Cn (l:=u) (· != 10)).length_le;rw[hL]at hpl P1 P2 P3;rw[eH]at hds P2;have O7:p0+u.length=s.length:=by rw[<-eH];unfold cE;omega
 have hat:(s.drop p0).take L.length=L:=by rw[hds];exact hpl.1
 have hto:p0+L.length<=s.length:=ah;have hb0:s.length<=262144:=hl
 have VC:1<=L.length:=by cases L with
  |nil=>cases wR
  |cons a b=>simp
 rw[hL,eH];obtain⟨tt,Dg⟩:=aF (p0+L.length);rw[Dg];have htn:tt<=262144:=ah;have c0:=(HR.oo.below E2).bx.get 0 _ rfl;have R2:=af (HR.oo.below E2);have ix0:=cH s p0 c (by have:=EV hat (i:=0) (x:=c) (by rw[<-SJ];exact wR);simpa using this);have vZ:=af (bX (bw:=w1.heap.size) E2)
 by_cases hq:c=34
 ·subst hq
  obtain⟨d,hd⟩: ∃d,L.getLast?=some d:=⟨_,pz (by intro h;rw[h]at VC;simp at VC)⟩;have ixl:=cH s (p0+(L.length-1)) d (EV hat (by rw[<-Er];exact hd));rw[show((p0+(L.length-1):Nat):Int)=(tt:Int)-1 by omega]at ixl;have z0:(((34:UInt8).toNat:Int) != 34)=false:=rfl;obtain⟨ll,eL⟩:=aF L.length
  by_cases h2:ll<2
  ·have P2:=af (P2.oo wR (.inl ah))
   have z2:decide ((tt:Int)-(p0:Int)<2)=true:=aC;exact UR
  have z2:decide ((tt:Int)-(p0:Int)<2)=false:=aC
  by_cases VV:d=34
  ·subst VV
   have FU:=arE ah wR hd;obtain⟨M,hM⟩:=aF ((L.drop 1).dropLast);rw[hM]at FU P3;have hML:M.length+2=ll:=by have:=congrArg aBd FU;simp at this;omega
   have HC:=af (show L.count 34=2<->(34:UInt8)∉M by rw[FU];exact ama M)
   have Pd:di s (p0+1) (p0+ll-1)=M:=by
    have:=vA hat (c:=1) (d:=ll-1) ah;rw[show p0+(ll-1)=p0+ll-1 by omega]at this;rw[this]
    conv=>lhs;arg 2;arg 2;rw[FU]
    rw[show ll-1=M.length+1 by omega,uA,qR,qP,tE]
   have zN:=af (show ∀i x,M[i]? =some x->s[p0+1+i]? =some x from fun i x hx=>by
    have h1:L[1+i]? =some x:=by
     rw[FU,Ck,aaC,Ep (bt.1 hx).1];exact hx
    have:=EV hat h1;rw[<-uz]at this;exact this)
   obtain⟨jb,t1,t2,t3,t4,t5⟩:=ua (· != 34) M _ 0 (aX _) (dW _);have MS:=af t3;have ME:=af t4
   have MA:=af (show(34:UInt8)∈M<->jb<M.length from by
    constructor
    ·intro h
     obtain⟨i,hi⟩:=pE.1 h
     by_cases aA:jb<M.length
     ·exact aA
     have hil:=(bt.1 hi).1
     obtain⟨z,hz,hzb⟩:=t3 i (dW _) ah;rw[hi]at hz;cases hz;exact absurd hzb ay
    intro h
    obtain⟨x,hx⟩: ∃x,M[jb]? =some x:=⟨_,aV h⟩;have:=t4 x hx;have h34:x=34:=aS this;rw[<-h34];exact cV hx)
   have SG:=af (fun w=>K8 s (p0+1) (p0+ll-1) ah ah hl w);rw[Pd]at SG;have uY:=vB M;obtain⟨sl,afq⟩:=aF ((aM M).length);rw[afq]at SG uY
   have hsS:di s (p0+ll-1-sl) (p0+ll-1)=aM M:=by
    have:=vA hat (c:=1+(M.length-sl)) (d:=ll-1) ah;rw[show p0+(ll-1)=p0+ll-1 by omega,show p0+(1+(M.length-sl))=p0+ll-1-sl by omega]at this;rw[this,<-gC]
    have h3:(L.take (ll-1)).drop 1=M:=by
     rw[FU,show ll-1=M.length+1 by omega,uA,qR,qP,tE]
    rw[h3,<-afq];exact(Co.1 (iu _)).symm
   have LA:=af (fun w=>Yg s (p0+ll-1-sl) (p0+ll-1) ah ah hl w);rw[hsS]at LA
   have hrl:(cR (aM M)).length<=sl:=by
    obtain⟨b,h, -⟩:=sH (aM M);have:=congrArg aBd h;rw[bu]at this;omega
   have afb:di s (p0+ll-1-sl) (p0+ll-1-sl+(cR (aM M)).length)=aG M:=by
    have h3:(s.drop (p0+ll-1-sl)).take sl=aM M:=by
     have:=hsS;unfold di at this;rw[tG,show p0+ll-1-(p0+ll-1-sl)=sl by omega]at this;exact this
    have:=vA h3 (c:=0) (d:=(cR (aM M)).length) hrl;rw[gK,jg]at this;rw[this,YZ];obtain⟨b,h, -⟩:=sH (aM M)
    conv=>lhs;arg 2;rw[h]
    rw[tE]
   obtain⟨rl,apn⟩:=aF ((cR (aM M)).length);rw[apn]at LA hrl afb
   have slc: ∀w,(aA1 9 (.string (tx s)) (some (.int .i64 (p0+ll-1-sl:Nat))) (some (.int .i64 (p0+ll-1-sl+rl:Nat))) none).run prog w= .ok (.string (tx (aG M))) w:=by
    have:=nB s (p0+ll-1-sl) (p0+ll-1-sl+rl) ah ah;rw[show(s.take (p0+ll-1-sl+rl)).drop (p0+ll-1-sl)=aG M from afb]at this;exact this
   obtain⟨ml,hml⟩:=aF M.length;rw[hml]at hML t2 MA uY;have Rq:=af hml;have zd:(((34:UInt8).toNat:Int) != 34)=false:=rfl;have ZI:=af wR;have uk:=af eL;have ZJ:=af (show ¬L.length<2 by omega);have Ef:=af hd;have qF:=af mo;have Pa:p0+2<=tt:=ah;obtain⟨iq,hiq⟩:=aF (p0+ll-1-sl);obtain⟨jq,yI⟩:=aF (iq+rl);rw[hiq]at SG LA slc;rw[yI]at LA slc;rw[show((p0+1:Nat):Int)=(p0:Int)+1 by omega,show((p0+ll-1:Nat):Int)=(tt:Int)-1 by omega]at SG;rw[show((p0+ll-1:Nat):Int)=(tt:Int)-1 by omega]at LA;obtain⟨JB,Vz⟩:=aF (p0+1+jb)
   have MS:=af (show ∀q,p0+1<=q->q<JB-> ∃x,s[q]? =some x/\x≠34 from fun q h6 h7=>by
    obtain⟨x,hx,hb⟩:=t3 (q-(p0+1)) (dW _) ah;have:=zN.oo _ x hx;rw[show p0+1+(q-(p0+1))=q by omega]at this;exact⟨x,this,by simpa using hb⟩)
   have ME:=af (show JB+1<tt-> ∃x,s[JB]? =some x/\x=34 from fun h6=>by
    obtain⟨x,hx⟩: ∃x,M[jb]? =some x:=⟨_,aV ah⟩;have h7:=t4 x hx;have:=zN.oo _ x hx;rw[Vz]at this;exact⟨x,this,by simpa using h7⟩)
   have Z8:=af (show(34:UInt8)∈M<->JB+1<tt from MA.oo.trans ah);have Vx:p0+1<=JB:=ah;have hJ2:JB+1<=tt:=ah;go_wp2_with fail
   go_loopw [7] (fun x wi=> ∃i:Nat,p0+1<=i/\i<=JB/\x= .int .i64 i/\wi=w2) (fun x _=>JB-(intOf x).toNat)
   ·exact⟨p0+1,aX _,Vx,by go_num,nS⟩
   obtain⟨i,Kg,hi,rfl,rfl⟩:=hrel
   by_cases dS:i<JB
   ·obtain⟨y,hy,gM⟩:=MS.oo i Kg dS
    have iy:=cH s i y hy;have zi:decide ((i:Int)<(tt:Int)-1)=true:=aC;have zy:((y.toNat:Int)==34)=false:=Nu (x:=y) (n:=34) ay gM;go_wp2_with fail
    exact UQ
   obtain rfl:i=JB:=ah
   by_cases hil:i+1<tt
   ·obtain⟨y,hy,gM⟩:=ME.oo hil
    have iy:=cH s i y hy;have zi:decide ((i:Int)<(tt:Int)-1)=true:=aC;have zy:((y.toNat:Int)==34)=true:=alJ (x:=y) (n:=34) ay gM;have P2:=af (P2.oo ZI.oo (.inr (.inr (fun h=>(HC.oo.1 h) (Z8.oo.2 hil)))));exact UR
   have zi:decide ((i:Int)<(tt:Int)-1)=false:=aC
   have P3:=af (P3.oo ZI.oo (by
    rintro(h|h|h)
    ·have:=ZJ.oo;omega
    ·exact h Ef.oo
    exact h (HC.oo.2 (fun m=>hil (Z8.oo.1 m)))))
   go_wp2_with (go_at_call 86;refine aK (SG.oo _) ?_)
   have R3:=(show cS w1 (aBn _) s k 0 0 t from R2.oo.below (below_drewN _ 1));have RW:=R2.oo;have hrb:=R3.lt;have AG:=R3.eK 1;have hf6:=R3.eK 6;obtain⟨c0,q1,-, -, -, -, q6⟩:=R3.bx.pI;have hg1:=RW.eK 1;have hg6:=RW.eK 6;obtain⟨-, r1,-, -, -, -, r6⟩:=RW.bx.pI;have R4:=(RW.put 6 (.string (tx (aG M))) (k':=k) (kA:=0) (kq:=0) (t':={ t with bG:=aG M }) rfl RW.le);have R5:=(show cS w1 (aBn _) s k 0 0 { t with bG:=aG M }from R4.1.below (below_drewN _ 1));have R6:=(R5.put 1 (.int .i64 nx) (k':=nx) (kA:=0) (kq:=0) (t':={ t with bG:=aG M }) rfl C8);have ST:=af (vZ.oo.trans (R4.2.trans ((bX (bw:=w1.heap.size) (below_drewN _ 1)).trans R6.2)));replace R6:=af R6.1;have hw:IntKind.i64.wrap ((tt:Int)-1)=(tt:Int)-1:=by unfold IntKind.wrap;simp[IntKind.bits,IntKind.signed];omega
   go_region_with (go_at_call 87;refine aK (LA.oo _) ?_)
   all_goals go_wp2_with fail
   all_goals go_ret
   all_goals exact .inr ⟨_,_,nx,P3.oo,qF.oo,rfl,ST.oo,R6.oo⟩
  have zd:((d.toNat:Int) != 34)=true:=by have:=Nu (x:=d) (n:=34) ay VV;simpa using this
  have P2:=af (P2.oo wR (.inr (.inl (by rw[hd];intro h;cases h;exact VV rfl))));exact UR
 have P1:=af (P1.oo (by rw[wR];intro h;cases h;exact hq rfl))
 have z0:((c.toNat:Int) != 34)=true:=by have:=Nu (x:=c) (n:=34) ay hq;simpa using this
 have R3:=af (show cS w1 w2 s k 0 0 { t with bG:=[] }from by rw[ZK.oo];exact R2.oo);go_wp2_with fail;go_ret;exact .inr ⟨_,_,k,P1.oo,rfl,rfl,vZ.oo,R3.oo⟩
abbrev tkV(N:Nat)(l:List Tok):aAY:=.tuple #[.int .i64 (bP (aJ l)),.string (tx (aJ l)),.int .i64 (eI N l),.int .i64 (iR N l)]
theorem auy(hl:s.length<=262144)(hi:i<=s.length)(w:aAX):aA7 prog 54 #[.string (tx s),.int .i64 i] w (bg w (tkV s.length (lex i (s.drop i)))):=by
 have TK:=af (fun w=>Qh (s:=s) hl hi w);generalize lex i (s.drop i)=l at*;obtain⟨k,hk⟩:=aF (bP (aJ l));obtain⟨u,hu⟩:=aF (tx (aJ l));obtain⟨p,hp⟩:=aF (eI s.length l);obtain⟨n,hn⟩:=aF (iR s.length l);unfold tkV;unfold LI Hq at TK;rw[hk,hu,hp,hn]at TK⊢;go_in;go_wp2_with fail;refine aQ (TK.oo _) fun w1 E=>?_
 go_upto_region 2 with(fail);have b0:=aW.new w1 #[.int .i64 k,.string u,.int .i64 p,.int .i64 n] 145;obtain⟨p0,p1,p2,p3⟩:=b0.Jt;have aA:=b0.1
 go_region
 all_goals go_wp2_with fail
 all_goals exact aZ (by simp[results,results54,go_sem]) rfl ⟨rfl,jV (gU E _)⟩
def MF(s:Tx)(i:Int)(k:Nat)(u:Tx)(p n:Nat):Prop:= ∀w,aA7 prog 54 #[.string (tx s),.int .i64 i] w (bg w (.tuple #[.int .i64 k,.string (tx u),.int .i64 p,.int .i64 n]))
theorem DL{l:List Tok}(hl:s.length<=262144)(hi:i<=s.length)(h:lex i (s.drop i)=l):MF s i (bP (aJ l)) (aJ l) (eI s.length l) (iR s.length l)/\iR s.length l<=s.length/\lex (iR s.length l) (s.drop (iR s.length l))=l.tail/\(aJ l).length<=s.length:=by
 have X:Lx s l:=⟨i,hi,h⟩;exact⟨fun w=>by rw[<-h];exact auy hl hi w,X.next.1,X.next.2,X.aJ⟩
def Em(o:Option (Tx × Int))(nx:Nat)(w:aAX)(e:aBp)(w':aAX):Prop:=aAW w.heap.size w w'/\ ∃lc n ok,e= .returned (.tuple #[.agg #[.string (tx lc),.int .i64 n],.int .i64 nx,.bool ok])/\de o (lc,n) ok
theorem Em.mk{o:Option (Tx × Int)}{nx:Nat}{e:aBp}{lc:Tx}{n:Int}{ok:Bool}(ho:de o (lc,n) ok)(he:e= .returned (.tuple #[.agg #[.string (tx lc),.int .i64 n],.int .i64 nx,.bool ok]))(hb:aAW w.heap.size w w'):Em o nx w e w':=⟨hb,lc,n,ok,he,ho⟩
theorem azn(k:bP u=2):fA u=(bN u).map fun n=>([],n):=by
 unfold fA;cases bN u with
 |some n=>rfl
 |none=>simp only;rw[ai (by rw[ag0 k];decide)];rfl
theorem azq(k:bP u≠2):fA u=if aU u=true then some (u,0)else none:=by
 unfold fA;rw[ahg k]
theorem aio(s:Tx): ∃v ok,de (bN s) v ok/\ ∀w,aA7 prog 116 #[.string (tx s)] w (bg w (.tuple #[.int .i64 v,.bool ok])):=
 ⟨(bN s).getD 0,(bN s).isSome,by unfold de;cases bN s<;>rfl,fun w=>(Yc s w).mono fun e w' ⟨h,h2⟩=>⟨h,by subst h2;exact bS _ _⟩⟩
theorem nM{o:Obj}(E:aAW (w.alloc o).heap.size (w.alloc o) w1):aAW w.heap.size w w1:=(al w o).trans (E.mono aq)
theorem avg{l:List Tok}(hl:s.length<=262144)(hi:i<=s.length)(h:lex i (s.drop i)=l)(w:aAX):aA7 prog 55 #[.string (tx s),.int .i64 i] w (Em (fA (aJ l)) (iR s.length l) w):=by
 obtain⟨T1,-, -, iH⟩:=DL hl hi h;have TK:=af T1;unfold MF at TK;obtain⟨u,hu⟩:=aF (aJ l);obtain⟨p,hp⟩:=aF (eI s.length l);obtain⟨n,hn⟩:=aF (iR s.length l);rw[hu,hp,hn]at TK;rw[hu,hn];rw[hu]at iH;obtain⟨k,hk⟩:=aF (bP u);rw[hk]at TK;obtain⟨v,ok,HO,NU⟩:=aio u;have NU:=af NU;have HO:=af HO;have NA:=af (fun w=>GL u ah w);go_in;go_wp2_with fail;refine aQ (TK.oo _) fun w1 E1=>?_
 by_cases k2:k=2
 ·have zk:((k:Int)==2)=true:=by rw[k2];rfl
  have HV:=af (azn (hk.trans k2));go_wp2_with fail;refine aQ (NU.oo _) fun w2 E2=>?_
  have E:=aI E1 E2;have bz:=(aW.new w #[.string ⟨#[]⟩,.int .i64 0] 54).below ((al (w.alloc (.cells #[.string ⟨#[]⟩,.int .i64 0] 54)) (.cells #[.string ⟨#[]⟩,.int .i64 0] 54)).trans (E.mono aq));obtain⟨p0,p1⟩:=bz.qb;have bo:=(aW.new (w.alloc (.cells #[.string ⟨#[]⟩,.int .i64 0] 54)) #[.string ⟨#[]⟩,.int .i64 0] 54).below E;obtain⟨q0,q1⟩:=bo.qb;simp only[gQ]at q0 q1;have gi:=bz.1;have dn:=bo.1;simp only[gQ]at dn;have f0:=fun j=>(fW ((al (w.alloc (.cells #[.string ⟨#[]⟩,.int .i64 0] 54)) (.cells #[.string ⟨#[]⟩,.int .i64 0] 54)).trans (E.mono aq)) (b:=w.heap.size) aq j).trans (cJ w _ _ j)
  have EB:=af (nM (nM E));go_wp2;exact aZ (by simp[results,results55,go_sem,p0,p1]<;>rfl) rfl (Em.mk (lc:=[]) (n:=v) (ok:=ok) (by unfold de;rw[HV.oo,HO.oo];cases ok<;>rfl) (by first|rfl|(rw[dP])) (yP EB.oo))
 have zk:((k:Int)==2)=false:=aC
 have HV:=af (azq (by rw[hk];exact k2));cases hn:aU u with
 | false=>
   rw[hn]at NA HV;have HV:=af (show fA u=none from HV.oo);have bz:=(aW.new w #[.string ⟨#[]⟩,.int .i64 0] 54).below ((al (w.alloc (.cells #[.string ⟨#[]⟩,.int .i64 0] 54)) (.cells #[.string ⟨#[]⟩,.int .i64 0] 54)).trans (E1.mono aq));obtain⟨p0,p1⟩:=bz.qb;have bo:=(aW.new (w.alloc (.cells #[.string ⟨#[]⟩,.int .i64 0] 54)) #[.string ⟨#[]⟩,.int .i64 0] 54).below E1;obtain⟨q0,q1⟩:=bo.qb;simp only[gQ]at q0 q1;have gi:=bz.1;have dn:=bo.1;simp only[gQ]at dn;have f0:=fun j=>(fW ((al (w.alloc (.cells #[.string ⟨#[]⟩,.int .i64 0] 54)) (.cells #[.string ⟨#[]⟩,.int .i64 0] 54)).trans (E1.mono aq)) (b:=w.heap.size) aq j).trans (cJ w _ _ j)
   have EB:=af (nM (nM E1))
   by_cases k1:k=1
   ·have zk1:((k:Int) != 1)=false:=aC
    go_wp2_with (go_at_call 118;refine aK (NA.oo _) ?_)
    exact acY
   have zk1:((k:Int) != 1)=true:=aC
   exact acY
 | true=>
   rw[hn]at NA HV;have HV:=af (show fA u=some (u,0)from HV.oo);have k1:k=1:=by rw[<-hk];exact Gi hn
   have zk1:((k:Int) != 1)=false:=aC;have bz:=(aW.new w #[.string ⟨#[]⟩,.int .i64 0] 54).below ((al (w.alloc (.cells #[.string ⟨#[]⟩,.int .i64 0] 54)) (.cells #[.string ⟨#[]⟩,.int .i64 0] 54)).trans (E1.mono aq));obtain⟨p0,p1⟩:=bz.qb;have bo:=(aW.new (w.alloc (.cells #[.string ⟨#[]⟩,.int .i64 0] 54)) #[.string ⟨#[]⟩,.int .i64 0] 54).below E1;obtain⟨q0,q1⟩:=bo.qb;simp only[gQ]at q0 q1;have gi:=bz.1;have dn:=bo.1;simp only[gQ]at dn;have f0:=fun j=>(fW ((al (w.alloc (.cells #[.string ⟨#[]⟩,.int .i64 0] 54)) (.cells #[.string ⟨#[]⟩,.int .i64 0] 54)).trans (E1.mono aq)) (b:=w.heap.size) aq j).trans (cJ w _ _ j)
   have EB:=af (nM (nM E1))
   go_wp2_with (go_at_call 118;refine aK (NA.oo _) ?_)
   go_wp2;exact aZ (by simp[results,results55,go_sem,p0,p1]<;>rfl) rfl (Em.mk (lc:=u) (n:=0) (ok:=true) HV.oo (by first|rfl|(rw[dP])) (yP EB.oo))
def uy(p:Option (bF × List Tok))(s:Tx)(w:aAX)(e:aBp)(w':aAX):Prop:=aAW w.heap.size w w'/\match p with
 |some (x,r)=> ∃nx:Nat,nx<=s.length/\lex nx (s.drop nx)=r/\e= .returned (.tuple #[od x,.int .i64 nx,.bool true])
 |none=> ∃(y:bF) (nx:Nat),e= .returned (.tuple #[od y,.int .i64 nx,.bool false])
theorem uy.no{p:Option (bF × List Tok)}{e:aBp}(hp:p=none)(y:bF)(nx:Nat)(he:e= .returned (.tuple #[od y,.int .i64 nx,.bool false]))(hb:aAW w.heap.size w w'):uy p s w e w':=by subst hp;exact⟨hb,y,nx,he⟩
theorem uy.yes{p:Option (bF × List Tok)}{e:aBp}{x:bF}{r:List Tok}(hp:p=some (x,r))(nx:Nat)(h1:nx<=s.length)(h2:lex nx (s.drop nx)=r)(he:e= .returned (.tuple #[od x,.int .i64 nx,.bool true]))(hb:aAW w.heap.size w w'):uy p s w e w':=by subst hp;exact⟨hb,nx,h1,h2,he⟩
section
variable {ag:Int} {l:List Tok}
theorem aya(k:bP (aJ l)=2)(h:bN (aJ l)=none):gI ag l=none:=by
 unfold gI;rw[ak k,h];split<;>rfl
theorem ayb(k:bP (aJ l)=2){v:Int}(h:bN (aJ l)=some v)(h2: ¬(0<=v/\v<16)):gI ag l=none:=by
 unfold gI;rw[ak k,h];split
 ·cases dX ag (aJ l.tail.tail)with
  |none=>rfl
  |some r=>exact ai h2
 rfl
theorem ayc(k:bP (aJ l)=2)(h:aJ l.tail≠[58]):gI ag l=none:=by
 unfold gI;rw[ak k,ai h]
theorem ayd(k:bP (aJ l)=2)(h:dX ag (aJ l.tail.tail)=none):gI ag l=none:=by
 unfold gI;rw[ak k,h];split
 ·cases bN (aJ l)<;>rfl
 rfl
theorem aye(k:bP (aJ l)=2){v:Int}{r:Nat}(h:bN (aJ l)=some v)(h2:0<=v/\v<16)(h3:aJ l.tail=[58])(h4:dX ag (aJ l.tail.tail)=some r):gI ag l=some (⟨v,r,[],[],0⟩,l.tail.tail.tail):=by
 unfold gI;rw[ak k,ak h3,h,h4];exact ak h2
theorem ayf(h:aJ l=[91])(h2: ¬(aU (aJ l.tail)=true/\aJ l.tail.tail=[93])):gI ag l=none:=by
 unfold gI;rw[ai (by rw[h];decide),ak h,ai h2]
theorem ayg(h:aJ l=[91])(h2:aU (aJ l.tail)=true/\aJ l.tail.tail=[93]):gI ag l=some (⟨-1,0,aJ l.tail,[],0⟩,l.tail.tail.tail):=by
 unfold gI;rw[ai (by rw[h];decide),ak h,ak h2]
theorem ayh(k:bP (aJ l)≠2)(h:aJ l≠[91])(h2:aU (aJ l)=false):gI ag l=none:=by
 unfold gI;rw[ai k,ai h,ai (by rw[h2];decide)]
theorem ayi(k:bP (aJ l)≠2)(h:aJ l≠[91])(h2:aU (aJ l)=true):gI ag l=some (⟨-1,0,aJ l,[],0⟩,l.tail):=by
 unfold gI;rw[ai k,ai h,ak h2]
end
theorem YT{W:aAX}(E:aAW ((w.alloc (.cells #[.int .i64 0,.int .i64 0,.string ⟨#[]⟩,.string ⟨#[]⟩,.int .i64 0] 56)).alloc (.cells #[.int .i64 (-1),.int .i64 0,.string ⟨#[]⟩,.string ⟨#[]⟩,.int .i64 0] 56)).heap.size ((w.alloc (.cells #[.int .i64 0,.int .i64 0,.string ⟨#[]⟩,.string ⟨#[]⟩,.int .i64 0] 56)).alloc (.cells #[.int .i64 (-1),.int .i64 0,.string ⟨#[]⟩,.string ⟨#[]⟩,.int .i64 0] 56)) W):aW W w.heap.size [.int .i64 0,.int .i64 0,.string ⟨#[]⟩,.string ⟨#[]⟩,.int .i64 0]/\aW W (w.heap.size+1) [.int .i64 (-1),.int .i64 0,.string ⟨#[]⟩,.string ⟨#[]⟩,.int .i64 0]/\(∀j,W.frozen? ⟨w.heap.size,j,none⟩=false)/\(∀j,W.frozen? ⟨w.heap.size+1,j,none⟩=false)/\Hid (aAW w.heap.size w W):=by
 have E0:=(al (w.alloc (.cells #[.int .i64 0,.int .i64 0,.string ⟨#[]⟩,.string ⟨#[]⟩,.int .i64 0] 56)) (.cells #[.int .i64 (-1),.int .i64 0,.string ⟨#[]⟩,.string ⟨#[]⟩,.int .i64 0] 56)).trans (E.mono aq);have bo:=(aW.new (w.alloc (.cells #[.int .i64 0,.int .i64 0,.string ⟨#[]⟩,.string ⟨#[]⟩,.int .i64 0] 56)) #[.int .i64 (-1),.int .i64 0,.string ⟨#[]⟩,.string ⟨#[]⟩,.int .i64 0] 56).below E;have f1:=cJ (w.alloc (.cells #[.int .i64 0,.int .i64 0,.string ⟨#[]⟩,.string ⟨#[]⟩,.int .i64 0] 56)) #[.int .i64 (-1),.int .i64 0,.string ⟨#[]⟩,.string ⟨#[]⟩,.int .i64 0] 56;rw[gQ]at bo f1;exact⟨(aW.new w #[.int .i64 0,.int .i64 0,.string ⟨#[]⟩,.string ⟨#[]⟩,.int .i64 0] 56).below E0,bo,fun j=>(fW E0 (b:=w.heap.size) aq j).trans (cJ w _ _ j),fun j=>(E.frozen (p:=⟨w.heap.size+1,j,none⟩) aq).trans (f1 j),af (nM (nM E))⟩
theorem MB.one(o:Option Nat): ∃(r:Nat) (b:Bool),(∀w e w',MB w o e w'->e= .returned (.tuple #[.int .i64 r,.bool b])/\aAW w.heap.size w w')/\((b=false/\o=none)\/(b=true/\o=some r)):=by
 cases o with
 |none=>exact⟨0,false,fun _ _ _ h=>⟨h.2,h.1⟩,.inl ⟨rfl,rfl⟩⟩
 |some r=>exact⟨r,true,fun _ _ _ h=>⟨h.2,h.1⟩,.inr ⟨rfl,rfl⟩⟩
theorem ar6: ∀a b c d e f g:Bool,¬(a=true/\b=true/\c=true/\d=true/\e=true/\f=true/\g=true)->a=false\/(a=true/\b=false)\/(a=true/\b=true/\c=false)\/(a=true/\b=true/\c=true/\d=false)\/(a=true/\b=true/\c=true/\d=true/\e=false)\/(a=true/\b=true/\c=true/\d=true/\e=true/\f=false)\/(a=true/\b=true/\c=true/\d=true/\e=true/\f=true/\g=false):=by
 intro a b c d e f g h;cases a<;>cases b<;>cases c<;>cases d<;>cases e<;>cases f<;>cases g<;>simp at h⊢
theorem avf(ag:Int)(hl:s.length<=262144)(w:aAX):aA7 prog 53 #[.int .i64 ag,.string (tx s)] w (uy (gI ag (lex 0 s)) s w):=by
 obtain⟨l,hL⟩:=aF (lex 0 s);rw[hL];obtain⟨T0,m1,e1,b0⟩:=DL (i:=0) hl (dW _) (show lex 0 (s.drop 0)=l by rw[jg];exact hL);obtain⟨T1,m2,e2,b1⟩:=DL hl m1 e1;obtain⟨T2,m3,e3,b2⟩:=DL hl m2 e2;have T0:=af T0;have T1:=af T1;have T2:=af T2;unfold MF at T0 T1 T2;have M1:=af m1;have M3:=af m3;have X1:=af e1;have X3:=af e3;obtain⟨n1,nc⟩: ∃n,iR s.length l=n:=⟨_,rfl⟩;obtain⟨n2,hn2⟩: ∃n,iR s.length l.tail=n:=⟨_,rfl⟩;obtain⟨n3,uV⟩: ∃n,iR s.length l.tail.tail=n:=⟨_,rfl⟩;obtain⟨u0,Gb⟩: ∃u,aJ l=u:=⟨_,rfl⟩;obtain⟨u1,hu1⟩: ∃u,aJ l.tail=u:=⟨_,rfl⟩;obtain⟨u2,mN⟩: ∃u,aJ l.tail.tail=u:=⟨_,rfl⟩;generalize eI s.length l=q0p at*;generalize eI s.length l.tail=q1p at*;generalize eI s.length l.tail.tail=q2p at*;rw[nc]at T0 T1 M1 X1;rw[hn2]at T1 T2;rw[uV]at T2 M3 X3;rw[Gb]at T0 b0;rw[hu1]at T1 b1;rw[mN]at T2 b2;have D1:=af (fun k h=>aya (ag:=ag) (l:=l) k h);have D2:=af (fun k v h h2=>ayb (ag:=ag) (l:=l) k (v:=v) h h2);have D3:=af (fun k h=>ayc (ag:=ag) (l:=l) k h);have D4:=af (fun k h=>ayd (ag:=ag) (l:=l) k h);have D5:=af (fun k v r h h2 h3 h4=>aye (ag:=ag) (l:=l) k (v:=v) (r:=r) h h2 h3 h4);have D6:=af (fun h h2=>ayf (ag:=ag) (l:=l) h h2);have D7:=af (fun h h2=>ayg (ag:=ag) (l:=l) h h2);have D8:=af (fun k h h2=>ayh (ag:=ag) (l:=l) k h h2);have D9:=af (fun k h h2=>ayi (ag:=ag) (l:=l) k h h2);rw[Gb]at D1 D2 D3 D4 D5 D6 D7 D8 D9;rw[hu1]at D3 D5 D6 D7;rw[mN]at D4 D5 D6 D7
 generalize gI ag l=pp at*;obtain⟨k0,hk0⟩: ∃k,bP u0=k:=⟨_,rfl⟩;obtain⟨k1,iG⟩: ∃k,bP u1=k:=⟨_,rfl⟩;obtain⟨k2,hk2⟩: ∃k,bP u2=k:=⟨_,rfl⟩;rw[hk0]at T0 D1 D2 D3 D4 D5 D8 D9;rw[iG]at T1;rw[hk2]at T2;have K0:=af hk0;have K1:=af iG;have K2:=af hk2;obtain⟨v,ok,HO,NU⟩:=aio u0;have NU:=af NU;have HO:=af HO;have Mu:=af (fun w=>GL u0 ah w);have Mv:=af (fun w=>GL u1 ah w);have RO:=af (fun w=>aip ag u2 w);obtain⟨rv,isr,hRO,hR⟩:=MB.one (dX ag u2);have RH:=af hRO;have HR:=af hR;clear hRO hR hL m1 e1 m2 e2 m3 e3 nc hn2 uV Gb hu1 mN hk0 iG hk2 b0 b1 b2 hl;go_in;go_wp2_with fail;refine aQ (T0.oo _) fun w1 E1=>?_
 by_cases c0:k0=2
 ·have zk:((k0:Int)==2)=true:=by rw[c0];rfl
  have HB:=af (show((ok=true/\decide (0<=v)=true/\decide (v<16)=true/\((k1:Int)==3)=true/\((tx u1).toList==[58])=true/\((k2:Int)==1)=true/\isr=true)/\pp=some (⟨v,rv,[],[],0⟩,l.tail.tail.tail))\/(pp=none/\ ¬(ok=true/\decide (0<=v)=true/\decide (v<16)=true/\((k1:Int)==3)=true/\((tx u1).toList==[58])=true/\((k2:Int)==1)=true/\isr=true)) by
   cases ok with
   |false=>exact .inr ⟨D1.oo c0 HO.oo.no,fun h=>by cases h.1⟩
   | true=>
     by_cases hv:0<=v/\v<16
     ·by_cases g1:u1=[58]
      ·rcases HR.oo with⟨hi,hr⟩|⟨hi,hr⟩
       ·exact .inr ⟨D4.oo c0 hr,fun h=>by rw[hi]at h;cases h.2.2.2.2.2.2⟩
       exact .inl ⟨⟨rfl,eU hv.1,eU hv.2,by rw[<-K1.oo,g1];rfl,by rw[bU,g1];rfl,by rw[<-K2.oo,Xb hr];rfl,hi⟩,D5.oo c0 v rv HO.oo.yes hv g1 hr⟩
      exact .inr ⟨D3.oo c0 g1,fun h=>g1 (by have h:=h.2.2.2.2.1;rw[bU]at h;exact eq_of_beq h)⟩
     exact .inr ⟨D2.oo c0 v HO.oo.yes hv,fun h=>hv ⟨wB h.2.1,wB h.2.2.1⟩⟩)
  clear c0;go_wp2_with fail;refine aQ (NU.oo _) fun w2 E2=>?_
  have E:=af (aI E1 E2);clear E1 E2;go_wp2_with fail;refine aQ (T1.oo _) fun w3 E3=>?_
  have E:=af (aI E.oo E3);clear E3;go_wp2_with fail;refine aQ (T2.oo _) fun w4 E4=>?_
  have E:=af (aI E.oo E4);clear E4;go_wp2_with fail;refine(RO.oo _).mono ?_;rintro e w5 h5;obtain⟨rfl,E5⟩:=RH.oo _ _ _ h5;have E:=aI E.oo E5;obtain⟨bz,bo,fz,fo,EB⟩:=YT E;obtain⟨p0,p1,p2,p3,p4⟩:=bz.ji;obtain⟨q0,q1,q2,q3,q4⟩:=bo.ji;have gi:=bz.1;have dn:=bo.1;have o0:=fo 0;have o1:=fo 1;have o2:=fo 2;clear bz bo h5 E5 E;rcases HB.oo with⟨⟨rfl,y0,y1,y2,y3,y4,rfl⟩,HD⟩|⟨HD,hA⟩
  ·have HD:=af HD
   clear HB;go_wp2;exact acZ
  have HD:=af HD
  clear HB;rcases ar6 _ _ _ _ _ _ _ hA with rfl|⟨rfl,y0⟩|⟨rfl,y0,y1⟩|⟨rfl,y0,y1,y2⟩|⟨rfl,y0,y1,y2,y3⟩|⟨rfl,y0,y1,y2,y3,y4⟩|⟨rfl,y0,y1,y2,y3,y4,rfl⟩
  all_goals
   clear hA;go_wp2;exact aZ (by simp[results,results53,go_sem,p0,p1,p2,p3,p4,dP]<;>rfl) rfl (uy.no HD.oo (⟨v,rv,[],[],0⟩:bF) n3 rfl (yP EB.oo))
 have zk:((k0:Int)==2)=false:=aC
 have C0:=af c0
 by_cases g0:u0=[91]
 ·have k03:k0=3:=by rw[<-K0.oo,g0];rfl
  have y0:((k0:Int)==3)=true:=by rw[k03];rfl
  have HG:=af g0;subst g0;have y1:((tx [91]).toList==[91])=true:=by rw[bU];decide
  generalize tx [91]=ux at*;go_wp2_with fail;refine aQ (T1.oo _) fun w3 E3=>?_
  have E:=aI E1 E3;obtain⟨bz,bo,fz,fo,EB⟩:=YT E;obtain⟨p0,p1,p2,p3,p4⟩:=bz.ji;obtain⟨q0,q1,q2,q3,q4⟩:=bo.ji;have gi:=bz.1;have dn:=bo.1;have o0:=fo 0;have o1:=fo 1;have o2:=fo 2;clear E3 E1;cases hn:aU u1 with
  | false=>
    rw[hn]at Mv;have HD:=af (D6.oo HG.oo (fun h=>by rw[hn]at h;cases h.1));clear bz bo E;rcases MP ((k1:Int) != 1)with z1|z1
    all_goals
     go_wp2_with (first|(go_at_call 118;refine aK (Mv.oo _) ?_)|fail)
     exact aZ (by simp[results,results53,go_sem,p0,p1,p2,p3,p4,dP]<;>rfl) rfl (uy.no HD.oo ⟨-1,0,[],[],0⟩ n2 rfl (yP EB.oo))
  | true=>
    rw[hn]at Mv;have c1:k1=1:=by rw[<-K1.oo];exact Gi hn
    have z1:((k1:Int) != 1)=false:=aC
    have HB:=af (show(((k2:Int)==3)=true/\((tx u2).toList==[93])=true/\pp=some (⟨-1,0,u1,[],0⟩,l.tail.tail.tail))\/(pp=none/\(((k2:Int)==3)=false\/(((k2:Int)==3)=true/\((tx u2).toList==[93])=false))) by
     by_cases g2:u2=[93]
     ·exact .inl ⟨by rw[<-K2.oo,g2];rfl,by rw[bU,g2];rfl,D7.oo HG.oo ⟨hn,g2⟩⟩
     refine .inr ⟨D6.oo HG.oo (fun h=>g2 h.2),?_⟩
     cases h:((k2:Int)==3)with
     |false=>exact .inl rfl
     |true=>exact .inr ⟨rfl,eD _ _ g2⟩)
    have E9:=af E;have BZ:=af bz;have BO:=af bo;have FZ:=af fz;have hs3:w.heap.size+1<w3.heap.size:=dn;clear hn bz bo E EB
    go_wp2_with (first|(go_at_call 118;refine aK (Mv.oo _) ?_)|fail)
    refine aQ (T2.oo _) fun w4 E4=>?_
    clear p0 p1 p2 p3 p4 q0 q1 q2 q3 q4 gi dn fz fo o0 o1 o2;have bz:=(aW.gr BZ.oo (bS _ _) (show World.grownBy w3 (w3.setCell ⟨w.heap.size+1,2,none⟩ (.string (tx u1))) (aBf (w.heap.size+1))from wP (wQ _ _) 2 _) (fun c hc=>by simp at hc<;>omega)).below E4
    have bo:=(BO.oo.set 2 (.string (tx u1))).below E4;obtain⟨p0,p1,p2,p3,p4⟩:=bz.ji;obtain⟨q0,q1,q2,q3,q4⟩:=bo.ji;have gi:=bz.1;have dn:=bo.1;have f0: ∀j,w4.frozen? ⟨w.heap.size,j,none⟩=false:=fun j=>by rw[E4.frozen (p:=⟨w.heap.size,j,none⟩) (by simp<;>omega),BP];exact FZ.oo j
    have EB:=af (((nM (nM E9.oo)).setCell (p:=⟨w.heap.size+1,2,none⟩) aq (.string (tx u1))).trans (E4.mono (by simp<;>omega)))
    clear bz bo;rcases HB.oo with⟨y2,y3,HD⟩|⟨HD,y2|⟨y2,y3⟩⟩
    all_goals
     have HD:=af HD;clear HB;go_wp2_with fail
    ·exact acZ
    all_goals exact aZ (by simp[results,results53,go_sem,p0,p1,p2,p3,p4,dP]<;>rfl) rfl (uy.no HD.oo ⟨-1,0,u1,[],0⟩ n3 rfl (yP EB.oo))
 have y1:=eD _ _ g0
 have G0:=af g0;obtain⟨bz,bo,fz,fo,EB⟩:=YT E1;obtain⟨p0,p1,p2,p3,p4⟩:=bz.ji;obtain⟨q0,q1,q2,q3,q4⟩:=bo.ji;have gi:=bz.1;have dn:=bo.1;have o0:=fo 0;have o1:=fo 1;have o2:=fo 2;clear bz bo E1;cases hn:aU u0 with
 | false=>
   rw[hn]at Mu;have HD:=af (D8.oo C0.oo G0.oo hn);have hw:(((k0:Int) != 1)=false/\((k0:Int)==3)=false)\/(((k0:Int) != 1)=true/\((k0:Int)==3)=true)\/(((k0:Int) != 1)=true/\((k0:Int)==3)=false):=aC;rcases hw with⟨z1,z3⟩|⟨z1,z3⟩|⟨z1,z3⟩
   all_goals
    go_wp2_with (first|(go_at_call 118;refine aK (Mu.oo _) ?_)|fail)
    exact aZ (by simp[results,results53,go_sem,p0,p1,p2,p3,p4,dP]<;>rfl) rfl (uy.no HD.oo ⟨-1,0,[],[],0⟩ n1 rfl (yP EB.oo))
 | true=>
   rw[hn]at Mu;have c1:k0=1:=by rw[<-K0.oo];exact Gi hn
   have z1:((k0:Int) != 1)=false:=aC;have z3:((k0:Int)==3)=false:=aC;have HD:=af (D9.oo C0.oo G0.oo hn);clear hn
   go_wp2_with (first|(go_at_call 118;refine aK (Mu.oo _) ?_)|fail)
   exact aZ (by simp[results,results53,go_sem,p0,p1,p2,p3,p4,dP]<;>rfl) rfl (uy.yes HD.oo n1 M1.oo X1.oo rfl (yP EB.oo))
abbrev xJ:Obj:=.cells #[.int .i64 0,.int .i64 0,.int .i64 0,.int .i64 0,.int .i64 0,.string ⟨#[]⟩,.string ⟨#[]⟩,.int .i64 0] 50
theorem ava(ag:Int)(s:Tx)(w:aAX)(g:Gl w):aA7 prog 20 #[.int .i64 ag,.string (tx s)] w (if bD ag=true then dr (oI ag s) w else bg w (.tuple #[vI ⟨0,0,0,0,0,[],[],0⟩,.int .i64 5])):=by
 have KN:=af (fun w=>Dy ag w);have g2:=af (g.below (gU (al w xJ) xJ));have E0:=af (gU (al w xJ) xJ);have bz:=(aW.new w #[.int .i64 0,.int .i64 0,.int .i64 0,.int .i64 0,.int .i64 0,.string ⟨#[]⟩,.string ⟨#[]⟩,.int .i64 0] 50).below (al _ xJ);have bo:=aW.new (w.alloc xJ) #[.int .i64 0,.int .i64 0,.int .i64 0,.int .i64 0,.int .i64 0,.string ⟨#[]⟩,.string ⟨#[]⟩,.int .i64 0] 50;cases ha:bD ag with
 | false=>
   rw[ai ay];have HA:=af ha;obtain⟨p0,p1,p2,p3,p4,p5,p6,p7⟩:=bz.jj;obtain⟨q0,q1,q2,q3,q4,q5,q6,q7⟩:=bo.jj;simp only[gQ]at q0 q1 q2 q3 q4 q5 q6 q7;go_in
   go_wp2_with (go_at_call 45;refine aK (KN.oo _) ?_;rw[HA.oo])
   exact aZ (by simp[results,results20,go_sem,dP]<;>rfl) rfl ⟨rfl,gD⟩
 | true=>
   rw[ak rfl];have HA:=af ha;unfold oI;have fz:=fun j=>cJ w #[.int .i64 0,.int .i64 0,.int .i64 0,.int .i64 0,.int .i64 0,.string ⟨#[]⟩,.string ⟨#[]⟩,.int .i64 0] 50 j
   rcases TB ha with rfl|rfl
   ·rw[ak rfl]
    have PP:=af (fun(w:aAX) (g:Gl w)=>auH s w g);generalize fG s=r at*;have BZ:=af bz;have FZ:=af fz;go_in
    go_wp2_with (first|(go_at_call 45;refine aK (KN.oo _) ?_;rw[HA.oo])|fail)
    refine aQ (PP.oo _ g2.oo) fun w5 E5=>?_
    have b5:=BZ.oo.below E5;obtain⟨p0,p1,p2,p3,p4,p5,p6,p7⟩:=b5.jj;have aA:=b5.1;have f5:=fun j=>(E5.frozen (p:=⟨w.heap.size,j,none⟩) aC).trans ((((al (w.alloc xJ) xJ)).frozen (p:=⟨w.heap.size,j,none⟩) aq).trans (FZ.oo j))
    exact ac0
   rw[ai ay]
   have PP:=af (fun(w:aAX) (g:Gl w)=>awn s w);generalize eN s=r at*;have BZ:=af bz;have FZ:=af fz;go_in
   go_wp2_with (first|(go_at_call 45;refine aK (KN.oo _) ?_;rw[HA.oo])|fail)
   refine aQ (PP.oo _ g2.oo) fun w5 E5=>?_
   have b5:=BZ.oo.below E5;obtain⟨p0,p1,p2,p3,p4,p5,p6,p7⟩:=b5.jj;have aA:=b5.1;have f5:=fun j=>(E5.frozen (p:=⟨w.heap.size,j,none⟩) aC).trans ((((al (w.alloc xJ) xJ)).frozen (p:=⟨w.heap.size,j,none⟩) aq).trans (FZ.oo j))
   exact ac0
theorem XV:kg prog 131 133 (.agg #[.int .i64 0,.int .i64 0]) 2 16:=⟨underlying131,by kernel_rfl,rfl,ay⟩
@[reducible] def Cq(p:Nat × Nat):List aAY:=[.int .i64 p.1,.int .i64 p.2]
def nv:Nat->List Tx->List (Nat × Nat)
 |_,[]=>[]
 |a,p::L=>(a+p.length-(aM p).length,a+p.length-(aM p).length+(cR (aM p)).length)::nv (a+p.length+1) L
theorem ajA(c:UInt8): ∀M:Tx,bh c M=M.takeWhile (· != c)::(if c∈M then bh c ((M.dropWhile (· != c)).drop 1)else[])
 |[]=>rfl
 | d::M=>by
   have ih:=ajA c M;cases hd:d==c with
   | true=>
     obtain rfl:d=c:=aS hd;rw[bh,ak hd,aap aq,tj aq,ak aq];rfl
   | false=>
     have h2:(d != c)=true:=aS hd;have h3:c≠d:=fun e=>by rw[e]at hd;simp at hd
     have h4:c∈d::M<->c∈M:=by simp[h3]
     rw[bh,ai (by rw[hd];decide),ih,tu (p:=fun x=>x != c) h2,tn (p:=fun x=>x != c) h2];simp only[h4]
theorem alT{b:Nat}(hib:i<=b)(hb:b<=s.length): ∃K,i<=K/\K<=b/\(∀q,i<=q->q<K-> ∃y,s[q]? =some y/\y≠124)/\(K<b->s[K]? =some 124)/\
 nv i (bh 124 (di s i b))=(K-(aM (di s i K)).length,K-(aM (di s i K)).length+(cR (aM (di s i K))).length)::(if K<b then nv (K+1) (bh 124 (di s (K+1) b))else[]):=by
 have hS:(s.drop i).take (b-i)=di s i b:=by unfold di;rw[tG]
 have hM:(di s i b).length=b-i:=QE hb
 have hat: ∀q,i<=q->q<b->s[q]? =(di s i b)[q-i]? :=fun q h1 h2=>by
  rw[QD ah,show i+(q-i)=q by omega]
 generalize di s i b=M at*;obtain⟨p,hp⟩:=aF (M.takeWhile (· != 124));obtain⟨D,hD⟩:=aF (M.dropWhile (· != 124));have Da:p++D=M:=by rw[<-hp,<-hD];exact kH
 have hl:p.length+D.length=b-i:=by rw[<-hM,<-Da,bu]
 have apq:di s i (i+p.length)=p:=by
  have:=vA hS (c:=0) (d:=p.length) ah;rw[gK]at this;rw[this,<-Da,tE,jg]
 have hel: ∀y∈p,y≠124:=fun y hy=>by
  rw[<-hp]at hy;have:=fP.1 (wA (p:=(· != 124)) (l:=M)) y hy;simpa using this
 have hmem:(124:UInt8)∈M<->D≠[]:=by
  constructor
  ·intro h e
   rw[<-Da,e,jD]at h;exact hel _ h rfl
  intro h
  cases hd:D with
  |nil=>exact absurd hd h
  | cons y r=>
    have:=lQ (l:=M) (p:=(· != 124)) (c:=y) (by rw[hD,hd];rfl);have:y=124:=aS this;rw[<-Da,hd,this];simp
 refine⟨i+p.length,ah,ah,fun q h1 h2=>?_,fun h=>?_,?_⟩
 ·have h3:q-i<p.length:=ah
  refine⟨p[q-i],?_,hel _ (x8 h3)⟩;rw[hat q h1 ah,<-Da,Ep h3,aV h3]
 ·cases hd:D with
  |nil=>rw[hd]at hl;simp at hl;omega
  | cons y r=>
    have:=lQ (l:=M) (p:=(· != 124)) (c:=y) (by rw[hD,hd];rfl);have h4:y=124:=aS this;rw[hat _ ah h,<-Da,hd,h4,show i+p.length-i=p.length by omega];simp
 rw[ajA,hp,hD,nv,apq]
 congr 1
 by_cases h:D=[]
 ·rw[ai (fun h2=>hmem.1 h2 h),ai (by rw[h]at hl;simp at hl;omega)];rfl
 have:D.length≠0:=fun e=>h (rP.1 e)
 rw[ak (hmem.2 h),ak ah];have h5:=vA hS (c:=p.length+1) (d:=b-i) (aX _);rw[show i+(p.length+1)=i+p.length+1 by omega,show i+(b-i)=b by omega,kI ah,<-Da,<-gC,EM]at h5;rw[h5]
theorem auY(s:Tx)(a b:Nat)(hab:a<=b)(hb:b<=s.length)(hl:s.length<=262144)(w:aAX):aA7 prog 88 #[.string (tx s),.int .i64 a,.int .i64 b] w (fun e w'=>aAW w.heap.size w w'/\ ∃sa c,e= .returned (.slice sa (nv a (bh 124 (di s a b))).length c)/\au w' w.heap.size 133 2 sa (nv a (bh 124 (di s a b))).length c (flat Cq (nv a (bh 124 (di s a b))))):=by
 obtain⟨A,hA⟩:=aF (nv a (bh 124 (di s a b)));rw[hA];have HA:=af hA.symm;have eG:b<=262144:=ah;have HB:=af hb;have HL:=af hl;go_in;go_wp2
 go_loopw [7,8] (fun o x wr=> ∃(i:Nat) (Q:List (Nat × Nat)) (sa:Option Addr) (c:Nat),x= .int .i64 i/\o= .slice sa Q.length c/\a<=i/\i<=b+1/\Q.length<=i/\Hid (i<=b->A=Q++nv i (bh 124 (di s i b)))/\Hid (i=b+1->A=Q)/\aAW w.heap.size w wr/\Hid (au wr w.heap.size 133 2 sa Q.length c (flat Cq Q))) (fun _ x _=>b+2-(intOf x).toNat)
 ·exact⟨a,[],none,0,rfl,rfl,aX _,ah,dW _,af fun _=>HA.oo,af fun h=>by omega,bS _ _,af (au.nil _ _ _ _)⟩
 obtain⟨i,Q,sa,c,rfl,rfl,hai,hib,hQi,HX,HY,B,O⟩:=hrel;rcases iA b i with h|h
 ·have HQ:=af (HY.oo ah)
  have zi:decide ((i:Int)<=(b:Int))=false:=aC;go_wp2;go_ret;exact⟨B,sa,c,by rw[HQ.oo];rfl,by rw[HQ.oo];exact O.oo⟩
 obtain⟨K,OU,hKb,K2,K3,K4⟩:=alT h HB.oo
 have hX:=HX.oo h;rw[K4]at hX;have SG:=af (fun w=>K8 s i K OU (bE HB.oo) HL.oo w)
 have jZ:di s (K-(aM (di s i K)).length) K=aM (di s i K):=by
  have h1:(di s i K).length=K-i:=QE (bE HB.oo);have h2:=vB (di s i K);have hx:aM (di s i K)=(di s i K).drop ((di s i K).length-(aM (di s i K)).length):=Co.1 (iu _)
  conv=>rhs;rw[hx]
  unfold di;rw[gC]
  congr 1
  have h3:((s.take K).drop i).length=K-i:=h1;have h4:(aM ((s.take K).drop i)).length<=((s.take K).drop i).length:=h2;omega
 have LA:=af (fun w=>Yg s (K-(aM (di s i K)).length) K ah (bE HB.oo) HL.oo w);rw[jZ]at LA;generalize K-(aM (di s i K)).length=a9 at*;generalize a9+(cR (aM (di s i K))).length=e9 at*;have mC:=af (show K+1<=b->A=(Q++[(a9,e9)])++nv (K+1) (bh 124 (di s (K+1) b))from fun h=>by rw[hX,ak ah,dA];rfl);have HY2:=af (show K+1=b+1->A=Q++[(a9,e9)]from fun h=>by rw[hX,ai ah]);have fC:=af K2;have Bx:=af K3;have zi:decide ((i:Int)<=(b:Int))=true:=aC;go_wp2
 go_loopw [9] (fun y wx=> ∃j:Nat,i<=j/\j<=K/\y= .int .i64 j/\wx=wr) (fun y _=>K-(intOf y).toNat)
 ·exact⟨i,aX _,OU,rfl,nS⟩
 obtain⟨j,j1,j2,rfl,rfl⟩:=hrel
 by_cases V6:j<K
 ·obtain⟨y,hy,gM⟩:=fC.oo j j1 V6
  have iy:=cH s j y hy;have zj:decide ((j:Int)<(b:Int))=true:=aC;have zy:((y.toNat:Int) != 124)=true:=rG y 124 gM;go_wp2
  exact ac1
 obtain rfl:j=K:=ah
 rcases iA j b with yI|yI
 focus
  have iy:=cH s j 124 (Bx.oo yI);have zj:decide ((j:Int)<(b:Int))=true:=aC;have zy:(((124:UInt8).toNat:Int) != 124)=false:=rfl
 rotate_left
 focus
  have zj:decide ((j:Int)<(b:Int))=false:=aC
 all_goals
  have O1:=O.oo
  go_wp2_with (first
   |(go_at_call 86;refine aK (SG.oo _) ?_)
   |(go_at_call 87;refine aK (LA.oo _) ?_)
   |(at_builtin;go_loud(refine mR XV (.tmp 31) (.tmp 38) rfl rfl rfl O1 rfl rfl (by intro u hu;simp at hu;rcases hu with rfl|rfl<;>rfl) B B.size ah dx ?_)))
  intro a3 c3 w3 o3 g3 B3
  have O3:=af (show au w3 w.heap.size 133 2 a3 (Q++[(a9,e9)]).length c3 (flat Cq (Q++[(a9,e9)]))from by
   rw[bu,qU,uJ];exact o3)
  go_wp2
  go_roundw;exact⟨j+1,Q++[(a9,e9)],a3,c3,by go_num,(by rw[bu];rfl),ah,ah,by rw[bu];simp;omega,mC,HY2,B3,O3⟩;exact ep
theorem avb: ∀(n:Nat),n<=262145-> ∀w,aA7 prog 89 #[.int .i64 n] w (bg w (.string (tx (aA8 n)))):=by
 intro n
 induction n using Nat.strongRecOn with
 | _ n ih=>
   intro hn w
   by_cases h:n<10
   ·have HD:=af (show aA8 n=[aBt (48+n)] by rw[aA8,yg h])
    have z:decide ((n:Int)<10)=true:=aC
    have hw:((48:Int)+(n:Int))=(((aBt (48+n)).toNat:Nat):Int):=by
     rw[Tf,Tm ah];omega
    have B:=al w (.cells #[.int .u8 (48+(n:Int))] 5);have h0:=(aW.new w #[.int .u8 (48+(n:Int))] 5).get 0 _ rfl;generalize aBt (48+n)=b at*
    have cv:(convert 94 9 (.slice (some ⟨w.heap.size,0,none⟩) 1 1)).run prog (w.alloc (.cells #[.int .u8 (48+(n:Int))] 5))= .ok (.string (tx [b])) (w.alloc (.cells #[.int .u8 (48+(n:Int))] 5)):=
     run_convert_bytes_back _ 94 9 5 ⟨w.heap.size,0,none⟩ 1 [b] underlying94 underlying5 underlying9 (fun j hj=>by
      obtain rfl:j=0:=by simp at hj;exact hj
      rw[hw]at h0⊢;exact h0)
    clear ih hn hw h0;go_in;go_wp2;go_ret;exact⟨by rw[HD.oo];rfl,B⟩
   have HD:=af (show aA8 n=aA8 (n/10)++aA8 (n%10) by
    rw[aA8,ET h]
    congr 1
    rw[aA8,yg ah])
   have z:decide ((n:Int)<10)=false:=aC;have I1:=af (ih (n/10) ah ah);have I2:=af (ih (n%10) ah ah)
   have cc:=lX (aA8 (n/10)) (aA8 (n%10)) (by
    have h1:=Lib.itoa_length_le ((n/10:Nat):Int) ah ah;have h2:=Lib.itoa_length_le ((n%10:Nat):Int) ah ah;rw[Lib.itoa_nonneg]at h1 h2
    omega)
   generalize aA8 (n/10)=u1 at*;generalize aA8 (n%10)=u2 at*;clear ih;go_in;go_wp2_with fail;refine aQ (I1.oo w) fun w1 E1=>?_
   go_wp2_with fail;refine aQ (I2.oo w1) fun w2 E2=>?_
   go_wp2;go_ret;exact⟨by rw[HD.oo];rfl,aI E1 E2⟩
end Go.Proofs.YtkbbgjloifmmbaaGreatDoor

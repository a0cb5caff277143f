/- What ReadAgainP leans on, part 16. -/
import Derived.Test.YtkbbgjloifmmbaaGreatDoorPf11
set_option linter.unusedVariables false
set_option maxRecDepth 100000
set_option maxHeartbeats 6400000
open _root_.Go.Proofs.Tryz
open _root_.Go renaming World->aAX,Ending->aBp,Calls->aA7
open _root_.Option renaming some->aBf
open _root_.Go.Lib renaming indexByte->aBy,itoa->aA9
open _root_.Go.Instr renaming indexAt->aA2
namespace Go.Proofs.YtkbbgjloifmmbaaGreatDoor
variable{n v:Int}{V k:Nat}{a s:Tx}{c x:UInt8}
theorem WE(c:UInt8): ∀l:Tx,(c∉l->aBy l c= -1)/\(c∈l->aBy l c=(l.takeWhile (· != c)).length)
 |[]=>⟨fun _=>rfl,fun h=>by cases h⟩
 | d::l=>by
   obtain⟨h1,h2⟩:=WE c l
   by_cases e:d=c
   ·subst e
    exact⟨fun h=>absurd aq h,fun _=>by simp[aBy]⟩
   have e':(d==c)=false:=aS e
   have e2:(d != c)=true:=aS e;refine⟨fun h=>?_,fun h=>?_⟩
   ·have:=h1 (fun m=>h (by simp[m]))
    rw[aBy,e',this];rfl
   have hm:c∈l:=by rcases cq.1 h with rfl|h;exact absurd rfl e;exact h
   have:=h2 hm;rw[aBy,e',this,tu (p:=fun x=>x != c) e2];simp
theorem aiW(r:Tx):cP r=r.drop ((r.takeWhile (· != 10)).length+1):=by
 unfold cP;rw[<-gC]
 congr 1
 have: ∀l:Tx,l.drop (l.takeWhile (· != 10)).length=l.dropWhile (· != 10):=by
  intro l
  induction l with
  |nil=>rfl
  | cons c l ih=>
    by_cases e:c=10
    ·subst e;simp
    have e2:(c != 10)=true:=aS e
    rw[tu (p:=fun x=>x != 10) e2,tn (p:=fun x=>x != 10) e2];exact ih
 exact(this r).symm
theorem anB(r:Tx):r.dropWhile (· != 10)=[]\/r.dropWhile (· != 10)=10::cP r:=by
 unfold cP;cases h:r.dropWhile (· != 10)with
 |nil=>exact .inl rfl
 | cons c m=>
   have:=lQ (l:=r) (c:=c) (p:=(· != 10)) (by rw[h];rfl);have:c=10:=aS this;subst this;exact .inr rfl
theorem agy(r:Tx):(aM (r.takeWhile (· != 10))=[]->aM (cP r)=aM r)/\
 (aM (r.takeWhile (· != 10))≠[]->aM r≠[]/\(aM r).takeWhile (· != 10)=aM (r.takeWhile (· != 10))/\cP (aM r)=cP r/\(aM r).length+((r.takeWhile (· != 10)).length-(aM (r.takeWhile (· != 10))).length)=r.length):=by
 have hr:r.takeWhile (· != 10)++r.dropWhile (· != 10)=r:=kH
 have hn: ∀c∈aM (r.takeWhile (· != 10)),(c != 10)=true:=fun c hc=>by
  have:=(iu _).subset hc;exact fP.1 (wA (p:=(· != 10)) (l:=r)) c this
 have hd:=anB r;generalize r.takeWhile (· != 10)=tw at*;constructor
 ·intro h
  have hb: ∀c∈tw,aH c=true:=wJ h
  conv=>rhs;rw[<-hr]
  unfold aM;rw[pX hb];rcases hd with e|e
  ·have:cP r=[]:=by unfold cP;rw[e];rfl
   rw[e,this]
  rw[e,tn ay]
 intro h
 have e1:aM r=aM tw++r.dropWhile (· != 10):=by
  conv=>lhs;rw[<-hr]
  unfold aM at h⊢;rw[IP,ai (aS h)]
 have e2:(aM r).takeWhile (· != 10)=aM tw:=by
  rw[e1,EU hn];rcases hd with e|e
  ·rw[e];simp
  rw[e];simp
 have e3:(aM r).dropWhile (· != 10)=r.dropWhile (· != 10):=by
  rw[e1,pX hn];rcases hd with e|e
  ·rw[e];rfl
  rw[e,tj ay]
 refine⟨by rw[e1];simp[h],e2,by unfold cP;rw[e3],?_⟩;have h1:=(iu (l:=tw) aH).length_le;have h2:=congrArg List.length hr;rw[e1];unfold aM at h1⊢;simp only[bu]at h2⊢;omega
theorem ay3(tw:Tx): ∃b,(∀c∈b,aH c=true)/\tw=b++aM tw/\b.length=tw.length-(aM tw).length:=by
 refine⟨tw.takeWhile aH,fun c hc=>fP.1 (wA (p:=aH) (l:=tw)) c hc,(kH ..).symm,?_⟩;have:=congrArg List.length (kH (p:=aH) (l:=tw));unfold aM;rw[bu]at this;omega
open Go.RowKit
theorem qp:UF aH 186:=fun c=>Jo c _ ay
theorem ak3{j:Nat}(h:(s.takeWhile aH).length=j):rQ s=(s[j+3]?).any aH:=by
 unfold rQ
 have e:s.dropWhile aH=s.drop j:=by
  have:=kH (p:=aH) (l:=s)
  conv=>rhs;rw[<-this]
  rw[<-h,EM]
 rw[e,gC,Ce]
theorem auA(s:Tx)(hl:s.length<=262144)(w:aAX):aA7 prog 104 #[.string (tx s)] w fun e w'=>e= .returned (.bool (rQ s))/\w=w':=by
 obtain⟨j,h1,h2,h3,h4,h5⟩:=ua aH s _ 0 (aX _) (dW _);rw[jg]at h5;have HA:=af (ak3 (s:=s) (j:=j) ah);obtain⟨n,hn⟩:=aF ((tx s).size);have HN:=af (show n=s.length by rw[<-hn,bC]);have hnb:n<=262144:=by rw[HN.oo];exact hl
 have hjn:j<=n:=by rw[HN.oo];exact h2
 have HS:=af h3;have HE:=af h4;go_in;go_wp2_with fail
 go_loop [3] (fun x=> ∃k:Nat,k<=j/\x= .int .i64 k) (fun x=>j-(intOf x).toNat)
 ·exact⟨0,dW _,rfl⟩
 obtain⟨k,hkj,rfl⟩:=hrel
 by_cases aA:k<j
 ·obtain⟨x,hx,jK⟩:=HS.oo k (dW _) aA
  have ix:=cH s k x hx;have zk:decide ((k:Int)<(n:Int))=true:=aC;have HB:=af jK
  go_wp2_with (go_at_call 186;refine aK (qp x _) ?_;rw[HB.oo])
  go_round
  case rel=>exact⟨k+1,ah,by go_num⟩
  case measure=>simp[intOf];omega
 obtain rfl:k=j:=ah
 by_cases hkn:k<n
 ·obtain⟨x,hx⟩: ∃x,s[k]? =some x:=⟨_,aV (bE HN.oo)⟩
  have ix:=cH s k x hx;have zk:decide ((k:Int)<(n:Int))=true:=aC;have HB:=af (HE.oo x hx)
  by_cases uQ:k+3<n
  ·obtain⟨y,hy⟩: ∃y,s[k+3]? =some y:=⟨_,aV (bE HN.oo)⟩
   have iy:=cH s (k+3) y hy;rw[show((k+3:Nat):Int)=(k:Int)+3 by omega]at iy;have zk3:decide ((k:Int)+3<(n:Int))=true:=aC;have HY:=af (show aH y=rQ s by rw[HA.oo,hy];rfl)
   by_cases hxy:y=x
   ·subst hxy
    have HY:=af (show false=rQ s by rw[<-HY.oo,HB.oo])
    go_wp2_with (go_at_call 186;refine aK (qp y _) ?_;rw[HB.oo])
    exact UK
   have CX:=af (fun w=>qp x w)
   have CY:=af (fun w=>qp y w);rw[HB.oo]at CX;rw[HY.oo]at CY;generalize (x.toNat:Int)=xi at*;generalize (y.toNat:Int)=yi at*
   go_wp2_with (first|(go_at_call 186;with_reducible refine aK (CX.oo _) ?_)|(go_at_call 186;with_reducible refine aK (CY.oo _) ?_))
   go_ret;exact⟨rfl,rfl⟩
  have HY:=af (show false=rQ s by rw[HA.oo,mg (bE HN.oo)];rfl)
  have zk3:decide ((k:Int)+3<(n:Int))=false:=aC
  go_wp2_with (go_at_call 186;refine aK (qp x _) ?_;rw[HB.oo])
  exact UK
 have HY:=af (show false=rQ s by rw[HA.oo,mg (bE HN.oo)];rfl)
 have zk:decide ((k:Int)<(n:Int))=false:=aC;have zk3:decide ((k:Int)+3<(n:Int))=false:=aC;go_wp2;exact UK
theorem Y7(x:UInt8): ∀(l:Tx) (a:Nat),sO a (l++[x])=if bf x then 10*sO a l+(x.toNat-48)else sO a l
 |[],a=>rfl
 |c::r,a=>Y7 x r _
def qJ(s:Tx)(k V:Nat):Prop:=V=sO 0 (s.take k)
theorem qJ.small(h:qJ s k V)(hk:k<=11):V<100000000000:=by
 have:=Y9 11 (s.take k) 0 aC;unfold qJ at h;omega
theorem qJ.step(h:qJ s k V)(hx:s[k]? =some x)(hd:bf x=true):qJ s (k+1) (10*V+(x.toNat-48)):=by
 unfold qJ at *; rw[oV hx,Y7,ak hd,h]
theorem qJ.skip(h:qJ s k V)(hx:s[k]? =some x)(hd:bf x=false):qJ s (k+1) V:=by
 unfold qJ at *; rw[oV hx,Y7,ai (by rw[hd];decide),h]
theorem azj(h:zD s=v)(hn:bJ v=true):de (bN s) v (aA9 v==s):=by
 unfold de;rw[XM,h]
 by_cases hh:aA9 v=s
 ·rw[ak ⟨hh,hn⟩,ak (aS hh)]
 rw[ai (fun h=>hh h.1),ai (aS hh)]
theorem azi(h:zD s=v)(hn:bJ v=false)(u:Int):de (bN s) u false:=by
 unfold de;rw[XM,h,ai (by rw[hn];rintro⟨-, h⟩;cases h)];rfl
theorem XJ(h:s=[]\/11<s.length):bN s=none:=by
 cases hn:bN s with
 |none=>rfl
 | some v=>
   have h1:=asb hn;rcases h with rfl|h
   ·have:=Kv hn;cases this
   omega
theorem auB(s:Tx)(hl:s.length<=9223372036854775807)(w:aAX)(g:Gl w):aA7 prog 253 #[.string (tx s)] w (Mz (bN s) w):=by
 obtain⟨n,hn⟩:=aF ((tx s).size);have HN:=af (show n=s.length by rw[<-hn,bC]);have hnb:n<=9223372036854775807:=by rw[HN.oo];exact hl
 by_cases h0:n=0
 ·have HR:=af (XJ (s:=s) (.inl (lH (by rw[<-HN.oo];exact h0))))
  have z0:((n:Int)==0)=true:=aC;exact NW
 have z0:((n:Int)==0)=false:=aC
 by_cases h11:11<n
 ·have HR:=af (XJ (s:=s) (.inr (by rw[<-HN.oo];exact h11)))
  have z1:decide ((11:Int)<(n:Int))=true:=aC;exact NW
 have z1:decide ((11:Int)<(n:Int))=false:=aC;obtain⟨c,hc⟩: ∃c,s[0]? =some c:=⟨_,aV (bE HN.oo)⟩;have hh:s.head?=some c:=by rw[<-hc];cases s<;>rfl
 have i0:=oU s c hc;have h11:n<=11:=ah;have HG:=af g;obtain⟨b,hb⟩:=aF ((c.toNat:Int)==45)
 have HV:=af (show ∀V,qJ s n V->zD s=if b=true then -(V:Int)else(V:Int)from fun V h=>by
  have e45:((c.toNat:Int)==45)=(c==45):=kr (x:=c) 45 ay;unfold qJ at h;rw[HN.oo,jC]at h;unfold zD;rw[hh,h,<-hb,e45]
  by_cases e:c=45
  ·rw[ak (by rw[e]),ak (aS e)];omega
  rw[ai (fun h=>e (fU h)),ai (aS e)])
 go_in;go_wp2_with fail
 go_loop [4,5] (fun v kk=> ∃k V:Nat,k<=n/\kk= .int .i64 k/\v= .int .i64 V/\Hid (qJ s k V)) (fun _ kk=>n-(intOf kk).toNat)
 ·exact⟨0,0,ah,rfl,rfl,rfl⟩
 obtain⟨k,V,hk,rfl,rfl,HA⟩:=hrel;have hV:=HA.oo.small ah
 by_cases aA:k<n
 ·obtain⟨x,hx⟩: ∃x,s[k]? =some x:=⟨_,aV (bE HN.oo)⟩
  have ix:=cH s k x hx;cases hd:bf x
  ·have HR:=af (HA.oo.skip hx hd)
   have HD:=af hd
   go_wp2_with (go_at_call 308;refine aK (air x _) ?_;rw[HD.oo])
   go_round
   case rel=>exact⟨k+1,V,ah,by go_num,rfl,HR.oo⟩
   case measure=>simp[intOf];omega
  have HR:=af (HA.oo.step hx hd)
  have HD:=af hd;obtain⟨x1,x2⟩:=Ar hd
  go_wp2_with (go_at_call 308;refine aK (air x _) ?_;rw[HD.oo])
  go_round
  case rel=>exact⟨k+1,_,ah,by go_num,by congr 1;omega,HR.oo⟩
  case measure=>simp[intOf];omega
 obtain rfl:k=n:=ah
 have hv:=HV.oo V HA.oo;obtain⟨v,Ge⟩: ∃v:Int,(if b=true then -(V:Int)else(V:Int))=v:=⟨_,rfl⟩;rw[Ge]at hv;have Gd: -100000000000<=v/\v<=100000000000:=by rw[<-Ge];split<;>omega
 have IT:=af (fun(w:aAX) (g:Gl w)=>tU v ah ah w g);cases hq:bJ v with
 | true=>
   have HO:=af (azj hv hq);have HQ:=af hq;obtain⟨u,hu⟩:=aF (aA9 v);rw[hu]at HO IT;have hz:((tx u).toList==(tx s).toList)=(u==s):=j9 u s;generalize (u==s)=bb at*;cases b
   all_goals
    simp only[lG,ow,kn]at Ge;subst Ge;go_wp2_with fail;refine aQ (IT.oo _ HG.oo) fun w1 E=>?_
    cases bb
    all_goals
     go_wp2_with (go_at_call 309;refine aK (KX _ _) ?_;rw[HQ.oo])
     go_ret2;exact⟨_,_,rfl,HO.oo,E⟩
 | false=>
   have HO:=af (azi hv hq);have HQ:=af hq;obtain⟨u,hu⟩:=aF (aA9 v);rw[hu]at IT;have hz:((tx u).toList==(tx s).toList)=(u==s):=j9 u s;generalize (u==s)=bb at*;cases b
   all_goals
    simp only[lG,ow,kn]at Ge;subst Ge;go_wp2_with fail;refine aQ (IT.oo _ HG.oo) fun w1 E=>?_
    cases bb
    all_goals
     go_wp2_with (go_at_call 309;refine aK (KX _ _) ?_;rw[HQ.oo])
     go_ret2;exact⟨_,_,rfl,HO.oo _,E⟩
def vX(s:Tx)(w:aAX)(e:aBp)(w':aAX):Prop:=w=w'/\match fF s with
 |none=>e= .returned (.tuple #[.int .i64 0,.bool false])
 |some v=>if bJ v=true then e= .returned (.tuple #[.int .i64 v,.bool true])else e= .returned (.tuple #[.int .i64 0,.bool false])
theorem vX.no(w:aAX)(h:fF s=none):vX s w (.returned (.tuple #[.int .i64 0,.bool false])) w:=⟨rfl,by rw[h]⟩
theorem vX.yes(w:aAX)(h:fF s=some v)(hq:bJ v=true):vX s w (.returned (.tuple #[.int .i64 v,.bool true])) w:=⟨rfl,by rw[h];simp[hq]⟩
theorem vX.big(w:aAX)(h:fF s=some v)(hq:bJ v=false):vX s w (.returned (.tuple #[.int .i64 0,.bool false])) w:=⟨rfl,by rw[h];simp[hq]⟩
theorem aun(s:Tx)(w:aAX):aA7 prog 116 #[.string (tx s)] w (vX s w):=
 (ahl _ _ (.inr ⟨rfl,rfl⟩) s w).mono fun e w' ⟨hw,h⟩=>by
  subst hw;cases hn:fF s with
  |none=>rw[hn]at h;subst h;exact vX.no _ hn
  | some v=>
    rw[hn]at h;subst h;cases hq:bJ v with
    |true=>simp only[hq,lG];exact vX.yes _ hn hq
    |false=>simp only[hq,ow,kn];exact vX.big _ hn hq
open Go.Sort
abbrev rdD(ag:Int)(S:Tx)(l:List Tok)(b:Int):List Value:=[.int .i64 ag,.string (tx S),.int .i64 (bP (aJ l)),.string (tx (aJ l)),.int .i64 (eI S.length l),.int .i64 (iR S.length l),.int .i64 b]
structure dM(w:aAX)(B rb:Nat)(ag:Int)(S:Tx)(l:List Tok)(b:Int):Prop where
 own:au w B 189 7 (aBf ⟨rb,0,none⟩) 1 1 (rdD ag S l b)
 lx:Lx S l
 sl:S.length<=262144
section
variable {w w1:aAX} {B rb:Nat} {ag:Int} {S:Tx} {l:List Tok} {b:Int}
structure akJ(w:aAX)(rb:Nat)(ag:Int)(S:Tx)(l:List Tok)(b:Int):Prop where
 c0:w.cell? ⟨rb,0,none⟩=aBf (.int .i64 ag)
 c1:w.cell? ⟨rb,1,none⟩=aBf (.string (tx S))
 c2:w.cell? ⟨rb,2,none⟩=aBf (.int .i64 (bP (aJ l)))
 c3:w.cell? ⟨rb,3,none⟩=aBf (.string (tx (aJ l)))
 c4:w.cell? ⟨rb,4,none⟩=aBf (.int .i64 (eI S.length l))
 c5:w.cell? ⟨rb,5,none⟩=aBf (.int .i64 (iR S.length l))
 c6:w.cell? ⟨rb,6,none⟩=aBf (.int .i64 b)
 fz: ∀j,w.frozen? ⟨rb,j,none⟩=false
 lt:rb<w.heap.size
 ge:B<=rb
theorem dM.cells(h:dM w B rb ag S l b): @akJ B w rb ag S l b:=by
 have f:=fun j=>au.frozen h.own aq j
 have c0:=(au.row h.own).cell 0 aq;have c1:=(au.row h.own).cell 1 aq;have c2:=(au.row h.own).cell 2 aq;have c3:=(au.row h.own).cell 3 aq;have c4:=(au.row h.own).cell 4 aq;have c5:=(au.row h.own).cell 5 aq;have c6:=(au.row h.own).cell 6 aq;have lt:=au.lt h.own aq;simp only[jW,kM,jT]at f c0 c1 c2 c3 c4 c5 c6 lt;exact⟨c0,c1,c2,c3,c4,c5,c6,f,lt.2,lt.1⟩
theorem dM.below(h:dM w B rb ag S l b)(hb:Below w.heap.size w w1):dM w1 B rb ag S l b:=⟨au.below h.own hb,h.lx,h.sl⟩
theorem dM.mj(h:dM w B rb ag S l b){c:Nat}(hg:w.grownBy w1 (aBf c))(hc:c≠rb):dM w1 B rb ag S l b:=
 ⟨au.kept h.own hg (.inr (by simp;exact fun e=>hc e.symm)),h.lx,h.sl⟩
theorem dM.four(h:dM w B rb ag S l b){l':List Tok}(hx:Lx S l'):dM ((((w.setCell ⟨rb,2,none⟩ (.int .i64 (bP (aJ l')))).setCell ⟨rb,3,none⟩ (.string (tx (aJ l')))).setCell ⟨rb,4,none⟩ (.int .i64 (eI S.length l'))).setCell ⟨rb,5,none⟩ (.int .i64 (iR S.length l'))) B rb ag S l' b/\
 St w ((((w.setCell ⟨rb,2,none⟩ (.int .i64 (bP (aJ l')))).setCell ⟨rb,3,none⟩ (.string (tx (aJ l')))).setCell ⟨rb,4,none⟩ (.int .i64 (eI S.length l'))).setCell ⟨rb,5,none⟩ (.int .i64 (iR S.length l'))) rb:=by
 obtain⟨o1,s1⟩:=au.set h.own aq 2 (.int .i64 (bP (aJ l')));obtain⟨o2,s2⟩:=au.set o1 aq 3 (.string (tx (aJ l')));obtain⟨o3,s3⟩:=au.set o2 aq 4 (.int .i64 (eI S.length l'));obtain⟨o4,s4⟩:=au.set o3 aq 5 (.int .i64 (iR S.length l'));simp only[jW,kM,jT]at o4 s1 s2 s3 s4;exact⟨⟨o4,hx,h.sl⟩,((s1.trans s2).trans s3).trans s4⟩
theorem dM.bad(h:dM w B rb ag S l b)(b':Int):dM (w.setCell ⟨rb,6,none⟩ (.int .i64 b')) B rb ag S l b'/\St w (w.setCell ⟨rb,6,none⟩ (.int .i64 b')) rb:=by
 obtain⟨o1,s1⟩:=au.set h.own aq 6 (.int .i64 b');simp only[jW,kM,jT]at o1 s1;exact⟨⟨o1,h.lx,h.sl⟩,s1⟩
theorem A6(R:dM w B rb ag S l b)(k:Nat)(u:Tx)(hk:bP u=k):aA7 prog 159 #[.pointer (some ⟨rb,0,none⟩),.int .i64 k,.string (tx u)] w fun e w'=>e= .returned (.bool (decide (aJ l=u)))/\w=w':=by
 obtain⟨-, -, c2,c3,-, -, -, -, lt, -⟩:=R.cells
 by_cases h1:aJ l=u
 ·have z1:((bP (aJ l):Int)==(k:Int))=true:=by rw[h1,hk];simp
  have z2:((tx (aJ l)).toList==(tx u).toList)=true:=by rw[h1];simp
  have HD:=af (show decide (aJ l=u)=true from eU h1);exact UL
 have z2:((tx (aJ l)).toList==(tx u).toList)=false:=qA h1
 have HD:=af (show decide (aJ l=u)=false from eZ h1)
 by_cases h3:bP (aJ l)=k
 ·have z1:((bP (aJ l):Int)==(k:Int))=true:=by rw[h3];simp
  exact UL
 have z1:((bP (aJ l):Int)==(k:Int))=false:=aC
 exact UL
theorem sF(R:dM w B rb ag S l b):aA7 prog 160 #[.pointer (some ⟨rb,0,none⟩)] w fun e w'=>e= .returned (.tuple #[])/\St w w' rb/\dM w' B rb ag S l.tail b:=by
 have TK:=af (fun w=>Qh (s:=S) R.sl R.lx.next.1 w);rw[R.lx.next.2]at TK;have R0:=R.below (below_drewN w 1);have R0:dM w.drew B rb ag S l b:=R0;have FR:=af (fun(w1:aAX) (h:dM w1 B rb ag S l b)=>h.four (l':=l.tail) R.lx.tail);obtain⟨-, c1,-, -, -, c5,-, fz,lt, -⟩:=R0.cells;have E0:Below w.heap.size w w.drew:=below_drewN w 1;go_in;have HR:=af R0
 go_region_with (go_at_call 119;refine aQ (TK.oo _) fun w1 E1=>?_;have R1:=HR.oo.below E1;have Ii:=af R1;obtain⟨c0,c1,c2,c3,c4,c5,c6,fz,lt, -⟩:=R1.cells)
 all_goals go_end0
 all_goals exact⟨rfl,(bX (bw:=rb) (aI E0 E1)).trans (FR.oo _ Ii.oo).2,(FR.oo _ Ii.oo).1⟩
def oq{α:Type}(w:aAX)(B rb:Nat)(ag:Int)(S:Tx)(p:PR α)(V:α->aBp->aAX->Prop)(J:aBp->Prop)(e:aBp)(w':aAX):Prop:=
 St w w' rb/\((∃l l',p= .error l/\J e/\dM w' B rb ag S l' (eI S.length l))\/(∃x r,p= .ok (x,r)/\V x e w'/\dM w' B rb ag S r (-1)))
theorem oq.ez{α:Type}{p:PR α}{V:α->aBp->aAX->Prop}{J:aBp->Prop}{e:aBp}(h:oq w B rb ag S p V J e w1){x:α}{r:List Tok}(hp:p= .ok (x,r)):V x e w1/\dM w1 B rb ag S r (-1)/\St w w1 rb:=by
 obtain⟨h1,⟨l,l',h2,h3⟩|⟨y,k,h2,h3,h4⟩⟩:=h
 ·rw[hp]at h2;cases h2
 rw[hp]at h2;cases h2;exact⟨h3,h4,h1⟩
theorem oq.err{α:Type}{p:PR α}{V:α->aBp->aAX->Prop}{J:aBp->Prop}{e:aBp}(h:oq w B rb ag S p V J e w1){l:List Tok}(hp:p= .error l):J e/\St w w1 rb/\ ∃l',dM w1 B rb ag S l' (eI S.length l):=by
 obtain⟨h1,⟨l,l',h2,h3,h4⟩|⟨y,k,h2,h3,h4⟩⟩:=h
 ·rw[hp]at h2;cases h2;exact⟨h3,h1,l',h4⟩
 rw[hp]at h2;cases h2
def JU(e:aBp):Prop:=e= .returned (.tuple #[])
theorem Dz(R:dM w B rb ag S l (-1)):aA7 prog 163 #[.pointer (some ⟨rb,0,none⟩)] w fun e w'=>e= .returned (.tuple #[])/\St w w' rb/\dM w' B rb ag S l (eI S.length l):=by
 obtain⟨-, -, -, -, c4,-, c6,fz,lt, -⟩:=R.cells;have FR:=af (R.bad (eI S.length l));go_in;go_wp2
 go_end0
 exact⟨rfl,FR.oo.2,FR.oo.1⟩
theorem KW(R:dM w B rb ag S l b)(hb:0<=b)(k:Nat)(u:Tx):aA7 prog 161 #[.pointer (some ⟨rb,0,none⟩),.int .i64 k,.string (tx u)] w fun e w'=>e= .returned (.tuple #[])/\w=w':=by
 obtain⟨-, -, -, -, c4,-, c6,fz,lt, -⟩:=R.cells;have z:decide (0<=b)=true:=eU hb;go_in;go_wp2;exact aZ (results_none rfl _ _ _) rfl ⟨rfl,rfl⟩
theorem ax0{u:Tx}(hu:u≠[])(h:aJ l=u):Hp (bQ u l)= .ok ((),l.tail):=by
 cases l with
 |nil=>exact absurd h.symm hu
 |cons t r=>rw[xE,ak (show t.1=u from h)];rfl
theorem axZ{u:Tx}(h:aJ l≠u):Hp (bQ u l)= .error l:=by
 cases l with
 |nil=>rfl
 |cons t r=>rw[xE,ai (show ¬t.1=u from h)];rfl
theorem A7(R:dM w B rb ag S l (-1))(k:Nat)(u:Tx)(hk:bP u=k)(hu:u≠[]):aA7 prog 161 #[.pointer (some ⟨rb,0,none⟩),.int .i64 k,.string (tx u)] w (oq w B rb ag S (Hp (bQ u l)) VU JU):=by
 have IS:=af (A6 R k u hk);obtain⟨-, -, -, -, c4,-, c6,fz,lt, -⟩:=R.cells
 by_cases hh:aJ l=u
 ·rw[ax0 hu hh]
  have ON:=af (sF R);have HB:=af (show decide (aJ l=u)=true from eU hh);go_in
  go_wp2_with (go_at_call 159;refine aK IS.oo ?_;rw[HB.oo])
  refine ON.oo.mono ?_;rintro e w1 ⟨rfl,S1,R1⟩;go_wp2
  go_end0
  exact⟨S1,.inr ⟨(),_,rfl,rfl,R1⟩⟩
 rw[axZ hh]
 have WR:=af (Dz R);have HB:=af (show decide (aJ l=u)=false from eZ hh);go_in
 go_wp2_with (go_at_call 159;refine aK IS.oo ?_;rw[HB.oo])
 refine WR.oo.mono ?_;rintro e w1 ⟨rfl,S1,R1⟩;go_wp2;exact aZ (results_none rfl _ _ _) rfl ⟨S1,.inl ⟨_,_,rfl,rfl,R1⟩⟩
end
def gI(ag:Int)(l:List Tok):Option (bF × List Tok):=
 if bP (aJ l)=2 then
  (if aJ l.tail=[58]then(match bN (aJ l),dX ag (aJ l.tail.tail)with
   |some n,some r=>if 0<=n/\n<16 then some (⟨n,r,[],[],0⟩,l.tail.tail.tail)else none
   |_,_=>none)else none)
 else if aJ l=[91]then(if aU (aJ l.tail)=true/\aJ l.tail.tail=[93]then some (⟨-1,0,aJ l.tail,[],0⟩,l.tail.tail.tail)else none)
 else if aU (aJ l)=true then some (⟨-1,0,aJ l,[],0⟩,l.tail)else none
def qY(ag:Int)(l:List Tok):Option bF:=match gI ag l with
 |none=>none
 |some (x,r)=>if aJ r=[61]then(match fA (aJ r.tail)with
  |some (lc,n)=>if r.tail.tail=[]then some ⟨x.aO,x.aR,x.aj,lc,n⟩else none
  |none=>none)else none
theorem azp:fA []=none:=dD
theorem awA(ag:Int):dX ag []=none:=by
 cases h:dX ag []with
 |none=>rfl
 |some n=>have:=Xb h;cases this
theorem ahg(h:bP a≠2):bN a=none:=by
 cases hn:bN a with
 |none=>rfl
 |some v=>exact absurd (Kv hn) h
theorem ag0(h:bP a=2):aU a=false:=by
 cases hn:aU a with
 |false=>rfl
 |true=>have:=Gi hn;rw[h]at this;cases this
theorem arV:aU [91]=false:=dD
def lF(l:List Tok):List Tx:=l.map (·.1)
def xY(x:bF)(r:List Tok):Option bF:=if aJ r=[61]then(match fA (aJ r.tail)with
 |some (lc,n)=>if r.tail.tail=[]then some ⟨x.aO,x.aR,x.aj,lc,n⟩else none
 |none=>none)else none
section
variable {ag:Int} {a:Tx} {p:Nat} {l:List Tok} {x:bF}
theorem apJ:qY ag l=match gI ag l with
 |none=>none
 |some (x,r)=>xY x r:=rfl
theorem axU(k:bP a=2):gI ag ((a,p)::l)=if aJ l=[58]then(match bN a,dX ag (aJ l.tail)with
 |some n,some r=>if 0<=n/\n<16 then some (⟨n,r,[],[],0⟩,l.tail.tail)else none
 |_,_=>none)else none:=by
 unfold gI;rw[ak (show bP (aJ ((a,p)::l))=2 from k)];rfl
theorem axV:gI ag (([91],p)::l)=if aU (aJ l)=true/\aJ l.tail=[93]then some (⟨-1,0,aJ l,[],0⟩,l.tail.tail)else none:=by
 unfold gI;rw[ai (show ¬bP (aJ (([91],p)::l))=2 from(by decide: ¬bP [91]=2)),ak (show aJ (([91],p)::l)=[91]from rfl)];rfl
theorem axT(k:bP a≠2)(h:a≠[91]):gI ag ((a,p)::l)=if aU a=true then some (⟨-1,0,a,[],0⟩,l)else none:=by
 unfold gI;rw[ai (show ¬bP (aJ ((a,p)::l))=2 from k),ai (show ¬aJ ((a,p)::l)=[91]from h)];rfl
theorem Sx:xY x []=none:=by unfold xY;rw[ai (show ¬aJ []=[61]from by decide)]
theorem Sy(t:Tok):xY x [t]=none:=by
 unfold xY;split
 ·rw[show aJ [t].tail=[]from rfl,azp]
 rfl
theorem Sz(e v:Tok):xY x [e,v]=if e.1=[61]then qj (some x) (fA v.1)else none:=by
 unfold xY;rw[show aJ [e,v]=e.1 from rfl,show aJ [e,v].tail=v.1 from rfl];split
 ·cases fA v.1 with
  |none=>rfl
  |some q=>rfl
 rfl
theorem II(e v f:Tok)(r:List Tok):xY x (e::v::f::r)=none:=by
 unfold xY;split
 ·split
  ·exact ai aq
  rfl
 rfl
end
theorem WH(ag:Int)(a b c d:Tx):jo ag [a,b,c,d]=none:=rfl
theorem WI(ag:Int)(a b c d e f:Tx)(r:List Tx):jo ag (a::b::c::d::e::f::r)=none:=rfl
theorem apK(ag:Int)(l:List Tok):qY ag l=jo ag (lF l):=by
 rw[apJ]
 match l with
 | []=>
   rfl
 | (a,p)::l=>
   by_cases k:bP a=2
   ·have hn:=ag0 k
    have kN:a≠[91]:=by rintro rfl;exact absurd k ay
    have t1:n9 ag [a]=none:=by show(if aU a=true then some (⟨-1,0,a,[],0⟩:bF)else none)=none;rw[hn];rfl
    rw[axU k]
    match l with
    |[]=>rw[ai (show ¬aJ []=[58]from by decide)];rfl
    | [b]=>
      rw[show aJ [b].tail=[]from rfl,awA];split
      ·rename_i h;split at h
       ·cases bN a<;>rfl
       rfl
      rename_i h;split at h
      ·revert h;cases bN a<;>(intro h;cases h)
      cases h
    | [b,c]=>
      show _=jo ag [a,b.1,c.1];rw[AU,t1,ql];simp only[yf];split
      ·rfl
      rename_i x r h
      split at h
      ·split at h
       ·split at h
        ·cases h;exact Sx
        cases h
       cases h
      cases h
    | [b,c,d]=>
      show _=jo ag [a,b.1,c.1,d.1];rw[WH];split
      ·rfl
      rename_i x r h
      split at h
      ·split at h
       ·split at h
        ·cases h;exact Sy d
        cases h
       cases h
      cases h
    | [b,c,e,v]=>
      show _=jo ag [a,b.1,c.1,e.1,v.1];rw[wZ,Hh,ai (show ¬(a=[91]/\c.1=[93]/\aU b.1=true)from fun h=>kN h.1)];rw[show aJ [b,c,e,v]=b.1 from rfl,show aJ [b,c,e,v].tail=c.1 from rfl]
      by_cases hb:b.1=[58]
      ·rw[ak hb,ak hb]
       cases bN a with
       |none=>simp only[ql,yf]
       | some n=>
         cases dX ag c.1 with
         |none=>simp only[ql,yf]
         | some r=>
           simp only
           by_cases hr:0<=n/\n<16
           ·rw[ak hr,ak hr];exact Sz e v
           rw[ai hr,ai hr];simp only[ql,yf]
      rw[ai hb,ai hb];simp only[ql,yf]
    | b::c::e::v::f::r=>
      show _=jo ag (a::b.1::c.1::e.1::v.1::f.1::lF r);rw[WI];split
      ·rfl
      rename_i x r h
      split at h
      ·split at h
       ·split at h
        ·cases h;exact II e v f _
        cases h
       cases h
      cases h
   have AL:=ahg k
   by_cases kN:a=[91]
   ·subst kN
    have t1:n9 ag [[91]]=none:=by show(if aU [91]=true then some (⟨-1,0,[91],[],0⟩:bF)else none)=none;rw[arV];rfl
    rw[axV]
    match l with
    |[]=>rfl
    | [b]=>
      rw[ai (fun h=>absurd h.2 (show ¬aJ [b].tail=[93]from by show ¬([]:Tx)=[93];decide))];rfl
    | [b,c]=>
      show _=jo ag [[91],b.1,c.1];rw[AU,t1,ql];simp only[yf];split
      ·rfl
      rename_i x r h
      split at h
      ·cases h;exact Sx
      cases h
    | [b,c,d]=>
      show _=jo ag [[91],b.1,c.1,d.1];rw[WH];split
      ·rfl
      rename_i x r h
      split at h
      ·cases h;exact Sy d
      cases h
    | [b,c,e,v]=>
      show _=jo ag [[91],b.1,c.1,e.1,v.1];rw[wZ,Hh,ahd];rw[show aJ [b,c,e,v]=b.1 from rfl,show aJ [b,c,e,v].tail=c.1 from rfl]
      by_cases hb:aU b.1=true/\c.1=[93]
      ·rw[ak hb,ak (show([91]:Tx)=[91]/\c.1=[93]/\aU b.1=true from⟨rfl,hb.2,hb.1⟩)];exact Sz e v
      rw[ai hb,ai (show ¬(([91]:Tx)=[91]/\c.1=[93]/\aU b.1=true)from fun h=>hb ⟨h.2.2,h.2.1⟩)];simp only[ql,yf]
    | b::c::e::v::f::r=>
      show _=jo ag ([91]::b.1::c.1::e.1::v.1::f.1::lF r);rw[WI];split
      ·rfl
      rename_i x r h
      split at h
      ·cases h;exact II e v f _
      cases h
   rw[axT k kN]
   match l with
   | []=>
     split
     ·rfl
     rename_i x r h
     split at h
     ·cases h;exact Sx
     cases h
   | [b]=>
     split
     ·rfl
     rename_i x r h
     split at h
     ·cases h;exact Sy b
     cases h
   | [b,c]=>
     show _=jo ag [a,b.1,c.1];rw[AU];show _=if b.1=[61]then qj (if aU a=true then some ⟨-1,0,a,[],0⟩else none) (fA c.1)else none
     by_cases hb:aU a=true
     ·rw[ak hb,ak hb];exact Sz b c
     rw[ai hb,ai hb];simp only[ql,yf]
   | [b,c,d]=>
     show _=jo ag [a,b.1,c.1,d.1];rw[WH];split
     ·rfl
     rename_i x r h
     split at h
     ·cases h;exact II b c d []
     cases h
   | [b,c,e,v]=>
     show _=jo ag [a,b.1,c.1,e.1,v.1];rw[wZ,Hh,ai (show ¬(a=[91]/\c.1=[93]/\aU b.1=true)from fun h=>kN h.1),AL];simp only[yf,ql];split
     ·rfl
     rename_i x r h
     split at h
     ·cases h;exact II b c e [v]
     cases h
   | b::c::e::v::f::r=>
     show _=jo ag (a::b.1::c.1::e.1::v.1::f.1::lF r);rw[WI];split
     ·rfl
     rename_i x r h
     split at h
     ·cases h;exact II b c e _
     cases h
theorem ais(s:Tx)(hl:s.length<=9223372036854775807)(w:aAX)(g:Gl w):aA7 prog 188 #[.string (tx s)] w (Mz (gX s) w):=by
 obtain⟨n,hn⟩:=aF ((tx s).size);have HN:=af (show n=s.length by rw[<-hn,bC]);have hnb:n<=9223372036854775807:=by rw[HN.oo];exact hl
 by_cases h2:n<2
 ·have HR:=af (show gX s=none by
   unfold gX;split
   ·have e:s.drop 1=[]:=iN (bE HN.oo)
    rw[e];exact XJ (.inl rfl)
   rfl)
  have z0:decide ((n:Int)<2)=true:=aC;exact NW
 have z0:decide ((n:Int)<2)=false:=aC;obtain⟨c,hc⟩: ∃c,s[0]? =some c:=⟨_,aV (bE HN.oo)⟩;have hh:s.head?=some c:=by rw[<-hc];cases s<;>rfl
 have i0:=oU s c hc;have e36:((c.toNat:Int)==36)=(c==36):=kr (x:=c) 36 ay
 by_cases lO:c=36
 ·have z1:((c.toNat:Int)==36)=true:=by rw[e36];simpa using lO
  have HR:=af (show gX s=bN (s.drop 1) by unfold gX;rw[ak (by rw[hh,lO])]);have NI:=af (auB (s.drop 1) aC w g);have sf:=xz s 1 (bE HN.oo);rw[show((1:Nat):Int)=1 from rfl]at sf;generalize hu:s.drop 1=u at*;go_in;go_wp2_with fail;refine NI.oo.mono ?_;rintro e w1 ⟨v,ok,rfl,HO,E⟩;have HO:=af HO;go_wp2;go_ret2;exact⟨v,ok,rfl,by rw[HR.oo];exact HO.oo,E⟩
 have z1:((c.toNat:Int)==36)=false:=by rw[e36];simpa using lO
 have HR:=af (show gX s=none by unfold gX;rw[ai (by rw[hh];intro e;exact lO (fU e))]);exact NW
theorem Yf(s:Tx)(w:aAX):aA7 prog 189 #[.string (tx s)] w (bg w (.tuple #[.int .i64 (vr (dK s)).1,.int .i64 (vr (dK s)).2])):=by
 have NM:=af (fun w=>avo w);go_in;go_wp2
 go_loopw [4] (fun i wr=> ∃k:Nat,k<=15/\i= .int .i64 k/\Below w.heap.size w wr/\Hid (∀m,m<k->cg m≠s)) (fun i _=>15-(intOf i).toNat)
 ·exact⟨0,ah,rfl,Dn,fun m hm=>absurd hm (iz m)⟩
 obtain⟨k,hk,rfl,E,HM⟩:=hrel
 by_cases aA:k<15
 ·by_cases he:cg k=s
  ·have hz:((tx (cg k)).toList==(tx s).toList)=true:=by rw[j9];simpa using he
   have HR:=af (aiO aA he);go_wp2_with fail;refine(NM.oo _).mono ?_;rintro e w1 ⟨a,rfl,T,B⟩;have ix:=T.idx aA;have cx:=T.cell aA;have E:=aI E B;exact aci
  have hz:((tx (cg k)).toList==(tx s).toList)=false:=qA he
  have gJ:=af (show ∀m,m<k+1->cg m≠s from fun m hm=>by
   rcases fO.1 hm with h|h
   ·exact HM.oo m h
   subst h;exact he)
  go_wp2_with fail;refine(NM.oo _).mono ?_;rintro e w1 ⟨a,rfl,T,B⟩;have ix:=T.idx aA;have cx:=T.cell aA;have E:=aI E B;go_wp2
  go_roundw;exact⟨k+1,ah,by go_num,E,gJ⟩;exact ep
 obtain rfl:k=15:=ah
 have HR:=af (aiQ HM.oo);exact aci
theorem ait(x y z:Tx)(hl:y.length<=9223372036854775807)(a:Option Addr)(c:Nat)(w:aAX)(T:cO w a [x,y,z]):
 aA7 prog 187 #[.slice a 3 c] w fun e w'=>e= .returned (.tuple #[.string (tx y),.bool (gp x y z).isSome])/\QW w w':=by
 have i0: ∀c w',(aA2 42 (.slice a 3 c) (.int .i64 0)).run prog w'=_:=T.idx 0 aq;have i1: ∀c w',(aA2 42 (.slice a 3 c) (.int .i64 1)).run prog w'=_:=T.idx 1 aq;have i2: ∀c w',(aA2 42 (.slice a 3 c) (.int .i64 2)).run prog w'=_:=T.idx 2 aq;have c0:w.cell? ⟨bk a,fo a+0,none⟩=some (.string (tx x)):=T.cell 0 aq;have c1:w.cell? ⟨bk a,fo a+1,none⟩=some (.string (tx y)):=T.cell 1 aq;have c2:w.cell? ⟨bk a,fo a+2,none⟩=some (.string (tx z)):=T.cell 2 aq;have i0:=i0 c;have i1:=i1 c;have i2:=i2 c;simp only[gK]at i0 c0;have NA:=af (fun w=>GM y hl w)
 have HP:=af (show ∀b1 b2 b3,decide (x=[91])=b1->decide (z=[93])=b2->aU y=b3->(gp x y z).isSome=(b1&&b2&&b3)from fun b1 b2 b3 h1 h2 h3=>by
  subst h1 h2 h3;unfold gp
  by_cases h1:x=[91]<;>by_cases h2:z=[93]<;>cases aU y<;>simp[h1,h2])
 clear T
 by_cases h1:x=[91]
 ·have z1:((tx x).toList==[91])=true:=by rw[bU,h1];decide
  by_cases h2:z=[93]
  ·have z2:((tx z).toList==[93])=true:=by rw[bU,h2];decide
   have HQ:=af (HP.oo true true (aU y) (aS h1) (aS h2) rfl);generalize (gp x y z).isSome=pb at*;clear h1 h2 HP;cases hb:aU y with
   | true=>
     have HB:=af hb;rw[hb]at HQ NA;clear hb;go_in;go_wp2_with fail
     go_region_with (go_at_call 252;refine aK (NA.oo _) ?_)
     all_goals go_wp2_with fail
     all_goals go_ret2
     all_goals exact⟨by rw[HQ.oo];rfl,oJ⟩
   | false=>
     have HB:=af hb;rw[hb]at HQ NA;clear hb;go_in;go_wp2_with fail
     go_region_with (go_at_call 252;refine aK (NA.oo _) ?_)
     all_goals go_wp2_with fail
     all_goals go_ret2
     all_goals exact⟨by rw[HQ.oo];rfl,oJ⟩
  have z2:((tx z).toList==[93])=false:=eD _ _ h2
  have HQ:=af (HP.oo true false (aU y) (aS h1) (aS h2) rfl);generalize (gp x y z).isSome=pb at*;clear h1 h2 HP;go_in;go_wp2_with fail
  go_quiet ((go_at_call 252;exact Aa (NA.oo _)))
  all_goals go_wp2_with fail
  all_goals go_ret2
  all_goals exact⟨by rw[HQ.oo];rfl,oJ⟩
 have z1:((tx x).toList==[91])=false:=eD _ _ h1
 have HQ:=af (HP.oo false (decide (z=[93])) (aU y) (aS h1) rfl rfl);generalize (gp x y z).isSome=pb at*;clear h1 HP;go_in;go_wp2_with fail
 go_quiet ((go_at_call 252;exact Aa (NA.oo _)))
 all_goals go_wp2_with fail
 all_goals go_ret2
 all_goals exact⟨by rw[HQ.oo];rfl,oJ⟩
theorem ay5{p:UInt8->Bool}{l:Tx}{n:Nat}(h:(l.takeWhile p).length=n):l.takeWhile p=l.take n/\l.dropWhile p=l.drop n:=by
 have e:=kH (p:=p) (l:=l);constructor
 ·conv=>rhs;rw[<-e,<-h]
  rw[tE]
 conv=>rhs;rw[<-e,<-h]
 rw[EM]
theorem azF{q:Nat}(hc:s[k]? =some c)(hi:gA c=true)(h5:((s.drop (k+1)).takeWhile gA).length=q-(k+1))(hkq:k+1<=q):bI (s.drop k)=(s.take q).drop k::bI (s.drop q):=by
 obtain⟨aA,rfl⟩:=bt.1 hc;obtain⟨e1,e2⟩:=ay5 h5;rw[jB aA,Ht _ hi,e1,e2,gC,show k+1+(q-(k+1))=q by omega]
 congr 1
 have e3:(s.take q).drop k=(s.drop k).take (q-k):=by rw[tG]
 rw[e3,jB aA,show q-k=(q-(k+1))+1 by omega,uA]
theorem azE(hc:s[k]? =some c)(hi:qw c=true):bI (s.drop k)=(s.take (k+1)).drop k::bI (s.drop (k+1)):=by
 obtain⟨aA,rfl⟩:=bt.1 hc;have e3:(s.take (k+1)).drop k=(s.drop k).take 1:=by rw[tG];congr 1;omega
 rw[e3,jB aA,zJ _ hi];rfl
theorem azC(hc:s[k]? =some c)(hi:aH c=true):bI (s.drop k)=bI (s.drop (k+1)):=by
 obtain⟨aA,rfl⟩:=bt.1 hc;rw[jB aA,Zf _ hi]
theorem afE(h:gA x=true):aH x=false/\((x.toNat:Int)==91)=false/\((x.toNat:Int)==93)=false/\((x.toNat:Int)==44)=false:=by
 unfold gA qw at h;have a':((x.toNat:Int)==91)=(x==91):=kr (x:=x) 91 ay;have b':((x.toNat:Int)==93)=(x==93):=kr (x:=x) 93 ay;have c':((x.toNat:Int)==44)=(x==44):=kr (x:=x) 44 ay;rw[a',b',c'];revert h;cases aH x<;>cases(x==91)<;>cases(x==93)<;>cases(x==44)<;>simp
theorem afF(h:gA x=false):aH x=true\/(aH x=false/\((x.toNat:Int)==91)=true)\/(aH x=false/\((x.toNat:Int)==91)=false/\((x.toNat:Int)==93)=true)\/(aH x=false/\((x.toNat:Int)==91)=false/\((x.toNat:Int)==93)=false/\((x.toNat:Int)==44)=true):=by
 unfold gA qw at h;have a':((x.toNat:Int)==91)=(x==91):=kr (x:=x) 91 ay;have b':((x.toNat:Int)==93)=(x==93):=kr (x:=x) 93 ay;have c':((x.toNat:Int)==44)=(x==44):=kr (x:=x) 44 ay;rw[a',b',c'];revert h;cases aH x<;>cases(x==91)<;>cases(x==93)<;>cases(x==44)<;>simp
theorem axl(hb:aH x=false)(h:gA x=false):qw x=true:=by
 unfold gA at h;revert h;rw[hb];cases qw x<;>simp
theorem tJ(h:((x.toNat:Int)==n)=false):((x.toNat:Int) != n)=true:=aS h
theorem Fb(h:((x.toNat:Int)==n)=true):((x.toNat:Int) != n)=false:=aS h
def aai(s:Tx)(w:aAX)(e:aBp)(w':aAX):Prop:= ∃a c,e= .returned (.slice a (bI s).length c)/\ki w' w.heap.size a (bI s).length c (bI s)/\Below w.heap.size w w'
theorem auI(s:Tx)(hl:s.length<=262144)(w:aAX):aA7 prog 103 #[.string (tx s)] w (aai s w):=by
 obtain⟨n,hn⟩:=aF ((tx s).size);have HN:=af (show n=s.length by rw[<-hn,bC]);have hnb:n<=262144:=by rw[HN.oo];exact hl
 obtain⟨T,hT⟩:=aF (bI s);have HT:=af (show bI (s.drop 0)=T by rw[jg];exact hT);unfold aai;rw[hT];go_in;go_wp2
 go_loopw [3,4] (fun o i wr=> ∃(k:Nat) (a:Option Addr) (c:Nat) (out:List Tx),k<=n/\i= .int .i64 k/\o= .slice a out.length c/\out.length<=k/\ki wr w.heap.size a out.length c out/\Hid (T=out++bI (s.drop k))/\Below w.heap.size w wr) (fun o i _=>n-(intOf i).toNat)
 ·exact⟨0,none,0,[],ah,rfl,rfl,aq,au.nil _ _ _ _,HT.oo.symm,Dn⟩
 obtain⟨k,a,c,out,hk,rfl,rfl,ho,hO,HO,E⟩:=hrel
 by_cases aA:k<n
 ·obtain⟨x,hx⟩: ∃x,s[k]? =some x:=⟨_,aV (bE HN.oo)⟩
  have ix:=cH s k x hx;have zk:decide ((k:Int)<(n:Int))=true:=aC;cases hb:aH x with
  | true=>
    have HB:=af hb;have pR:=af (HO.oo.trans (by rw[azC hx hb]))
    go_wp2_with (go_at_call 186;refine aK (qp x _) ?_;rw[HB.oo])
    go_roundw;exact⟨k+1,a,c,out,ah,by go_num,rfl,ah,hO,pR,E⟩;exact ep
  | false=>
    have HB:=af hb;cases hi:gA x with
    | true=>
      obtain⟨-, y1,y2,y3⟩:=afE hi;have m1:=tJ y1;have m2:=tJ y2;have m3:=tJ y3;obtain⟨q,q1,q2,q3,q4,q5⟩:=ua gA s _ (k+1) (aX _) (bE HN.oo);have sl:=nB s k q ah q2;obtain⟨u,hu⟩:=aF ((s.take q).drop k);have pR:=af (show T=(out++[u])++bI (s.drop q) by rw[HO.oo,azF hx hi q5 q1,hu];simp);rw[hu]at sl;have HQ:=af q3;have Rz:=af q4;have yL:q<=n:=by rw[HN.oo];exact q2
      go_wp2_with (go_at_call 186;refine aK (qp x _) ?_;rw[HB.oo])
      go_loop [6] (fun y=> ∃k2:Nat,k+1<=k2/\k2<=q/\y= .int .i64 k2) (fun y=>q-(intOf y).toNat)
      ·exact⟨k+1,aX _,q1,by go_num⟩
      obtain⟨k2,iG,hk2,rfl⟩:=hrel
      by_cases dS:k2<q
      ·obtain⟨y,hy,hyp⟩:=HQ.oo k2 iG dS
       have iy:=cH s k2 y hy;have vM:decide ((k2:Int)<(n:Int))=true:=aC;obtain⟨gM,v1,v2,v3⟩:=afE hyp;have n1:=tJ v1;have n2:=tJ v2;have n3:=tJ v3;have HY:=af gM
       go_wp2_with (go_at_call 186;refine aK (qp y _) ?_;rw[HY.oo])
       go_round
       case rel=>exact⟨k2+1,ah,ah,by go_num⟩
       case measure=>simp[intOf];omega
      obtain rfl:k2=q:=ah
      by_cases qX:k2<n
      ·obtain⟨y,hy⟩: ∃y,s[k2]? =some y:=⟨_,aV (bE HN.oo)⟩
       have hyp:=Rz.oo y hy;have iy:=cH s k2 y hy;have vM:decide ((k2:Int)<(n:Int))=true:=aC;rcases afF hyp with h|⟨h,v1⟩|⟨h,v1,v2⟩|⟨h,v1,v2,v3⟩
       ·have HY:=af h
        go_wp2_with (first|(go_at_call 186;refine aK (qp y _) ?_;rw[HY.oo])|(at_builtin;go_loud(refine mR jR (.tmp 63) (.tmp 68) rfl rfl rfl hO rfl rfl kP E E.size ah dx ?_)))
        intro a' c' w2 k9 hG mm;have jJ:ki w2 w.heap.size a' (out++[u]).length c' (out++[u]):=by simpa[ki]using k9
        go_wp2
        exact JK
       ·have HY:=af h
        have n1:=Fb v1
        go_wp2_with (first|(go_at_call 186;refine aK (qp y _) ?_;rw[HY.oo])|(at_builtin;go_loud(refine mR jR (.tmp 63) (.tmp 68) rfl rfl rfl hO rfl rfl kP E E.size ah dx ?_)))
        intro a' c' w2 k9 hG mm;have jJ:ki w2 w.heap.size a' (out++[u]).length c' (out++[u]):=by simpa[ki]using k9
        go_wp2
        exact JK
       ·have HY:=af h
        have n1:=tJ v1;have n2:=Fb v2
        go_wp2_with (first|(go_at_call 186;refine aK (qp y _) ?_;rw[HY.oo])|(at_builtin;go_loud(refine mR jR (.tmp 63) (.tmp 68) rfl rfl rfl hO rfl rfl kP E E.size ah dx ?_)))
        intro a' c' w2 k9 hG mm;have jJ:ki w2 w.heap.size a' (out++[u]).length c' (out++[u]):=by simpa[ki]using k9
        go_wp2
        exact JK
       have HY:=af h
       have n1:=tJ v1;have n2:=tJ v2;have n3:=Fb v3
       go_wp2_with (first|(go_at_call 186;refine aK (qp y _) ?_;rw[HY.oo])|(at_builtin;go_loud(refine mR jR (.tmp 63) (.tmp 68) rfl rfl rfl hO rfl rfl kP E E.size ah dx ?_)))
       intro a' c' w2 k9 hG mm;have jJ:ki w2 w.heap.size a' (out++[u]).length c' (out++[u]):=by simpa[ki]using k9
       go_wp2
       exact JK
      have vM:decide ((k2:Int)<(n:Int))=false:=aC
      go_wp2_with (at_builtin;go_loud(refine mR jR (.tmp 63) (.tmp 68) rfl rfl rfl hO rfl rfl kP E E.size ah dx ?_))
      intro a' c' w2 k9 hG mm;have jJ:ki w2 w.heap.size a' (out++[u]).length c' (out++[u]):=by simpa[ki]using k9
      go_wp2
      exact JK
    | false=>
      have hs:=axl hb hi;have sl:=nB s k (k+1) ah (bE HN.oo);rw[show((k+1:Nat):Int)=(k:Int)+1 by omega]at sl;obtain⟨u,hu⟩:=aF ((s.take (k+1)).drop k);have pR:=af (show T=(out++[u])++bI (s.drop (k+1)) by rw[HO.oo,azE hx hs,hu];simp);rw[hu]at sl;rcases afF hi with h|⟨h,v1⟩|⟨h,v1,v2⟩|⟨h,v1,v2,v3⟩
      ·rw[hb]at h;cases h
      ·clear h hx hb hi hs hu
       have n1:=Fb v1
       go_wp2_with (go_at_call 186;refine aK (qp x _) ?_;rw[HB.oo])
       go_loop [6] (fun y=>y= .int .i64 ((k:Int)+1)) (fun _=>0)
       ·go_num
       subst hrel
       go_wp2_with (at_builtin;go_loud(refine mR jR (.tmp 63) (.tmp 68) rfl rfl rfl hO rfl rfl kP E E.size ah dx ?_))
       intro a' c' w2 k9 hG mm;have jJ:ki w2 w.heap.size a' (out++[u]).length c' (out++[u]):=by simpa[ki]using k9
       go_wp2
       exact UM
      ·clear h hx hb hi hs hu
       have n1:=tJ v1;have n2:=Fb v2
       go_wp2_with (go_at_call 186;refine aK (qp x _) ?_;rw[HB.oo])
       go_loop [6] (fun y=>y= .int .i64 ((k:Int)+1)) (fun _=>0)
       ·go_num
       subst hrel
       go_wp2_with (at_builtin;go_loud(refine mR jR (.tmp 63) (.tmp 68) rfl rfl rfl hO rfl rfl kP E E.size ah dx ?_))
       intro a' c' w2 k9 hG mm;have jJ:ki w2 w.heap.size a' (out++[u]).length c' (out++[u]):=by simpa[ki]using k9
       go_wp2
       exact UM
      have n1:=tJ v1;have n2:=tJ v2;have n3:=Fb v3
      go_wp2_with (go_at_call 186;refine aK (qp x _) ?_;rw[HB.oo])
      go_loop [6] (fun y=>y= .int .i64 ((k:Int)+1)) (fun _=>0)
      ·go_num
      subst hrel
      go_wp2_with (at_builtin;go_loud(refine mR jR (.tmp 63) (.tmp 68) rfl rfl rfl hO rfl rfl kP E E.size ah dx ?_))
      intro a' c' w2 k9 hG mm;have jJ:ki w2 w.heap.size a' (out++[u]).length c' (out++[u]):=by simpa[ki]using k9
      go_wp2
      exact UM
 obtain rfl:k=n:=ah
 have HF:=af (show T=out by
  rw[HO.oo,show s.drop k=[]from iN (bE HN.oo)];simp[bI,vG,gW])
 have zk:decide ((k:Int)<(k:Int))=false:=aq;exact ad7
end Go.Proofs.YtkbbgjloifmmbaaGreatDoor

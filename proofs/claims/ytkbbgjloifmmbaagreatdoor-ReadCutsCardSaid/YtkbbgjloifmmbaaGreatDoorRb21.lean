/- What ReadBackP leans on, part 21. -/
import Derived.Test.YtkbbgjloifmmbaaGreatDoorRb20
import Derived.Deep.RegionLaw
set_option linter.unusedVariables false
set_option maxRecDepth 100000
set_option maxHeartbeats 12800000
namespace Go.Proofs.YtkbbgjloifmmbaaGreatDoor
open _root_.Go.Proofs.Tryz
open _root_.Nat renaming le_trans->am1,lt_of_lt_of_le->anD,le_refl->amS
open _root_.List renaming length_append->aoE,drop_drop->aon,takeWhile_cons_of_pos->aoF,getElem?_eq_some_iff->ano,getElem?_eq_getElem->amK,mem_cons_of_mem->aoW,length_drop->aoJ
open _root_.Option.some renaming inj->aoX
open Go.RowKit Go.Sort
theorem VR{P:Program}{t e:TypeId}{z:Value}{size bytes:Nat}(T:gQ P t e z size bytes){ops:Array Oper}{o:Oper}{f:Act}{K:Act->World->Prop}{Q:Exit->Act->World->Prop}{E:Prop}{w:World}(s x:Operand)(hgd:o.guard=none)(ho:o.op= .call { callee:=.builtin .append,args:=#[s,x],argTypes:=#[t,t] })
 {B n c:Nat} {sa:Option Addr} {xs:List Value} (hs:f.eval s= .slice sa n c) (hown:Own w B e size sa n c xs)
 {xa:Option Addr} {m xc:Nat} {ys:List Value} (hx:f.eval x= .slice xa m xc) (hrow:Row w xa ys) (hl:ys.length=m*size) (h1c: ∀u∈ys,u.oneCell'=true)
 (o8:B<=w.heap.size) (hbytes:(n+m)*bytes<=140737488355328) (hm:n+m<=maxLen)
 (h: ∀a' c' w',Own w' B e size a' (n+m) c' (xs++ys)->kG w w' sa c a' c'->K (f.put o.dst (.slice a' (n+m) c')) w'):if Region.wanted o (yielded ops f.tmps)=true then Oper.wp P o f w K Q else E:=by
 have hw:Region.wanted o (yielded ops f.tmps)=true:=by simp[Region.wanted,hgd]
 rw[if_pos hw];obtain⟨a',c',w',hrun,h1,h2⟩:=VA T o.type hown (xc:=xc) hrow hl h1c hbytes hm o8;unfold Oper.wp execOp;simp only[ho,resolve,invoke,builtin,Sem.run_bind,Sem.run_pure,Result.andThen_ok,List.map_toArray,List.map_cons,List.map_nil,hs,hx,hrun];exact h a' c' w' h1 h2
abbrev zM(w:World)(B:Nat)(a:Option Addr)(n c:Nat)(l:List aF):Prop:=Own w B 56 5 a n c (flat fV l)
def Gt(p:EP (List aF × Tx))(w1 w:World)(s:Tx)(t:ak)(e:Ending)(w':World):Prop:=Below w1.heap.size w1 w'/\((∃er k,p= .error (er,k)/\e=oM er k)\/(∃l r1 k' a c,p= .ok (l,r1)/\s.drop k'=r1/\e= .returned (.tuple #[])/\St w w' w1.heap.size/\bQ w1 w' s k' { t with ia:=a,ic:=c,init:=l }/\zM w' w.heap.size a l.length c l))
theorem ac4{af:Int}{N:Nat}{r:Tx}(h:(aq r).head?≠some 123\/(125:UInt8)∉aq r):fD af N r= .error (140,bO N (aq r)):=by
 unfold fD;dsimp only;rw[if_pos h]
theorem ac2{af:Int}{N:Nat}{r v:Tx}(h:aq r=123::v)(h2:(125:UInt8)∈v):fD af N r=match gM af N (aD 59 (v.takeWhile (· != 125))) v []with
 | .error e=>.error e
 | .ok l=>.ok (l,(v.dropWhile (· != 125)).drop 1):=by
 unfold fD;dsimp only;rw[h,if_neg (by rintro(f|f);exact f rfl;exact f (aoW _ h2)),aoF (by decide),List.dropWhile_cons_of_pos (by decide)];rfl
def sy(W:Tx):List Tx->Tx
 |[]=>W
 |[p]=>p++W
 |p::L=>p++59::sy W L
theorem Ui(W:Tx): ∀A:Tx,sy W (aD 59 A)=A++W
 |[]=>rfl
 | c::A=>by
   have ih:=Ui W A;cases h:c==59 with
   | true=>
     obtain rfl:c=59:=by simpa using h
     rw[aD,if_pos h];cases e:aD 59 A with
     |nil=>exact absurd e (om 59 A)
     |cons x t=>rw[e]at ih;show[]++59::sy W (x::t)=_;rw[ih];rfl
   | false=>
     rw[aD,if_neg (by rw[h];decide)];cases e:aD 59 A with
     |nil=>exact absurd e (om 59 A)
     | cons x t=>
       rw[e]at ih;cases t with
       |nil=>show(c::x)++W=_;rw[show c::A++W=c::(A++W)from rfl,<-ih];rfl
       |cons y t=>show(c::x)++59::sy W (y::t)=_;rw[show c::A++W=c::(A++W)from rfl,<-ih];rfl
theorem afW(W p:Tx)(L:List Tx)(hW:W≠[]): ∃d r,sy W (p::L)=p++d::r/\(L≠[]->r=sy W L):=by
 cases L with
 | nil=>
   cases W with
   |nil=>exact absurd rfl hW
   |cons d r=>exact⟨d,r,rfl,fun h=>absurd rfl h⟩
 |cons x L=>exact⟨59,sy W (x::L),rfl,fun _=>rfl⟩
theorem afZ{af:Int}{N:Nat}{p v:Tx}{L:List Tx}{acc:List aF}(h:ah p=[]):gM af N (p::L) v acc=gM af N L (v.drop (p.length+1)) acc:=by rw[gM,if_pos h]
theorem afX{af:Int}{N:Nat}{p v:Tx}{L:List Tx}{acc:List aF}(h:ah p≠[])(h2:kO af p=none):gM af N (p::L) v acc= .error (140,bO N (aq v)):=by rw[gM,if_neg h,h2]
theorem afY{af:Int}{N:Nat}{p v:Tx}{L:List Tx}{acc:List aF}{x:aF}(h:ah p≠[])(h2:kO af p=some x):gM af N (p::L) v acc=gM af N L (v.drop (p.length+1)) (acc++[x]):=by rw[gM,if_neg h,h2]
theorem ajJ{p r:Tx}(h:ah p≠[]):aq (p++r)=aq p++r:=by
 have:aq p≠[]:=fun e=>h ((BP p).2 (rM e))
 unfold aq at this⊢;rw[List.dropWhile_append,if_neg (by simpa using this)]
theorem noInit{t:ak}(h:t.ia=none/\t.ic=0/\t.init=[]):{ t with ia:=none,ic:=0,init:=[] }=t:=by
 obtain⟨af,name,aC,ia,ic,init,ca,cc,code,q,node⟩:=t;obtain⟨h1,h2,h3⟩:=h;simp only at h1 h2 h3;subst h1;subst h2;subst h3;rfl
theorem aG.gr{w w1 w2:World}{b:Nat}{l:List Value}{r:Option Nat}(h:aG w b l)(hb:Below w.heap.size w w1)(hg:w1.grownBy w2 r)(hr: ∀c,r=some c->c≠b):aG w2 b l:=by
 have h1:=h.below hb;refine⟨anD h1.1 hg.size,fun j hj=>?_⟩;have h2:=h1.2 j hj;rw[amK hj]at h2⊢;refine hg.cell h2 ?_;cases r with
 |none=>simp
 |some c=>have:=hr c rfl;simpa using fun e=>this e.symm
theorem ajg(w:World)(x:aF)(T:TypeId):Row (w.alloc (.cells #[.int .i64 x.thread,.int .i64 x.au,.string (tx x.loc),.string (tx x.aE),.int .i64 x.n] T)) (Option.some ⟨w.heap.size,0,none⟩) (fV x):=by
 have b:=aG.new w #[.int .i64 x.thread,.int .i64 x.au,.string (tx x.loc),.string (tx x.aE),.int .i64 x.n] T;refine⟨fun _=>rfl,fun i hi=>?_⟩;simp
theorem Ug{N:Nat}{p r:Tx}{d:UInt8}(h:ah p≠[])(hN:(p++d::r).length<=N):((N-(p++d::r).length:Nat):Int)+((p.length-(aq p).length:Nat):Int)=(bO N (aq (p++d::r)):Nat):=by
 rw[ajJ h];unfold bO;have:=(List.dropWhile_suffix (l:=p) aj).length_le;unfold aq;simp only[aoE,List.length_cons]at hN⊢;omega
theorem afw{er:Int}{k:Nat}{i:Int}(h:i=(k:Int)):Ending.panicked [{ v:=.iface 65 (.agg #[.int .i64 er,.int .i64 i]),recovered:=false }]=oM er k:=by subst h;rfl
theorem St.app{w wi w':World}{rb:Nat}{B n m c c':Nat}{E size:Nat}{a a':Option Addr}{xs:List Value}(h:St w wi rb)(ho:Own wi B E size a n c xs)(hB:w.heap.size<=B)(hg:kG wi w' a c a' c'):St w w' rb:=by
 refine⟨?_,.inl rfl⟩;have g:=hg.step.grown;refine⟨g.os.trans h.grown.os,g.tape.trans h.grown.tape,g.output.trans h.grown.output,am1 h.grown.size g.size,fun k hk hne=>?_⟩;rw[g.block k (anD hk h.grown.size) ?_]
 ·exact h.grown.block k hk hne
 ·cases a with
  |none=>simp
  | some x=>
    have:=(Own.lt ho (by simp)).1;simp[bk]at this ⊢; omega
theorem ah7{w1 w:World}{s:Tx}{k:Nat}{t:ak}(R:bQ w1 w s k t)(ha:aH t.af=true)(h0:t.ia=none/\t.ic=0/\t.init=[]):Calls prog 29 #[.pointer (some ⟨w1.heap.size,0,none⟩)] w (Gt (fD t.af s.length (s.drop k)) w1 w s t):=by
 have c0:=R.bx.get 0 _ rfl;have c1:=R.bx.get 1 _ rfl;have hl:=R.sl;have PK:=hid (By s w1.heap.size k R.le R.sl w c0 c1);have FL:=hid (fun p er k w=>Bx p er k w);have HR:=hid R;obtain⟨u,hu⟩: ∃u,aq (s.drop k)=u:=⟨_,rfl⟩;obtain⟨N,hN⟩: ∃N,s.length=N:=⟨_,rfl⟩;have P1:=hid (fun h=>ac4 (af:=t.af) (N:=N) (r:=s.drop k) h);have P2:=hid (fun v h h2=>ac2 (af:=t.af) (N:=N) (r:=s.drop k) (v:=v) h h2);rw[hu]at P1 P2;rw[hN]at PK⊢;have HN:=hid hN;generalize fD t.af N (s.drop k)=hp at*;clear c0 c1;go_in;go_wp2_with fail;refine PK.out.mono ?_;rintro e w2 ⟨hv,E2⟩;unfold sU at hv;rw[hu]at hv;rcases hv with⟨tF,rfl⟩|⟨b,tF,hb,h10,kM,rfl⟩
 ·have P1:=hid (P1.out (.inl (by rw[tF];simp)))
  rw[tF,Up]at P1;have E:=hid E2;clear hu tF E2;go_wp2_with fail;refine(FL.out _ _ _ _).mono ?_;rintro e w4 ⟨rfl,E4⟩;have E:=hid (ay E.out E4);clear E4;go_wp2_with fail;exact⟨rfl,(HR.out.below E.out).bG,.inl ⟨_,_,P1.out,rfl⟩⟩
 ·obtain⟨c,hc⟩: ∃c,u.head?=some c:=by
   cases u with
   |nil=>exact absurd rfl tF
   |cons c r=>exact⟨c,rfl⟩
  have hcb:aj c=false:=js (l:=s.drop k) (p:=aj) (by rw[show(s.drop k).dropWhile aj=u from hu];exact hc);obtain⟨q1,q2,q3⟩:=JS hc hcb hb;have ez:u.length<=N:=by rw[<-hu,<-hN];have:=(pJ (s.drop k)).length_le;have:=aoJ (i:=k) (l:=s);omega
  have hin:b.length+u.length<=N:=by unfold bO at kM;omega
  have hlen:(b++u.takeWhile (· != 10)).length<=262144:=by have:=oq (· != 10) u;rw[aoE];omega
  have TR:=hid (fun w=>og (b++u.takeWhile (· != 10)) (by omega) w);rw[q1]at TR
  obtain⟨r0,D9⟩: ∃r0,aI u=c::r0:=by
   cases QD:aI u with
   |nil=>rw[QD]at q3;cases q3
   |cons d r0=>rw[QD]at q3;exact⟨r0,by rw[show d=c from aoX q3]⟩
  rw[D9]at TR;have i0:=mJ (c::r0) c rfl;generalize b++u.takeWhile (· != 10)=ln at*;have E2:=hid E2;clear q1 q2 q3 D9 hin hlen hb h10 kM;go_wp2_with fail;refine(TR.out _).mono ?_;rintro e w3 ⟨rfl,E3⟩;have E:=hid (ay E2.out E3);clear E3
  by_cases DU:c=123
  ·subst DU
   have y0:(((123:UInt8).toNat:Int) != 123)=false:=by decide
   obtain⟨v,rfl⟩: ∃v,u=123::v:=by
    cases u with
    |nil=>exact absurd rfl tF
    |cons d v=>exact⟨v,by rw[show d=123 from aoX hc]⟩
   have yj:s.drop (N-(v.length+1))=123::v:=by
    have:=DA (s:=s) (u:=123::v) (k:=k) (by rw[<-hu];exact pJ _);rw[hN]at this;exact this
   have hpl:bO N (123::v)=N-(v.length+1):=rfl;rw[hpl]at*;have hvN:v.length+1<=N:=ez;have R3:=HR.out.below E.out;have e0:=R3.bx.get 0 _ rfl;have hrb:=R3.lt;have sl:=Fi s (N-(v.length+1)) (by omega);rw[yj]at sl;have IB:=hid (fun w=>Jq (123::v) 125 w);obtain⟨i1,i2⟩:=Jp 125 (123::v)
   by_cases vq:(125:UInt8)∈v
   ·obtain⟨A,hA⟩: ∃A,v.takeWhile (· != 125)=A:=⟨_,rfl⟩
    obtain⟨Y,hY⟩: ∃Y,v.dropWhile (· != 125)=125::Y:=by
     cases hd:v.dropWhile (· != 125)with
     |nil=>exact absurd (rM hd 125 vq) (by simp)
     | cons d Y=>
       have:=js (l:=v) (p:=(· != 125)) (c:=d) (by rw[hd];rfl);have:d=125:=by simpa using this
       subst this;exact⟨Y,rfl⟩
    have hv:v=A++125::Y:=by rw[<-hA,<-hY];exact(List.takeWhile_append_dropWhile ..).symm
    have e8:=i2 (aoW _ vq);rw[aoF (p:=fun x=>x != 125) (by decide),hA]at e8;obtain⟨q8,I9⟩: ∃q8,(123::A).length=q8:=⟨_,rfl⟩;rw[I9]at e8;have QF:q8=A.length+1:=by rw[<-I9];rfl
    have IB:=hid (fun w=>e8▸IB.out w);have P2:=hid (P2.out v rfl vq);rw[hA,hY,List.drop_one,List.tail_cons]at P2;have hvl:v.length=A.length+Y.length+1:=by rw[hv];simp;omega
    generalize gU:N-(v.length+1)=p0 at*;have amm:p0+v.length+1=N:=by omega
    have Iw:N<=262144:=by rw[<-hN];exact hl
    have z8:decide ((q8:Int)<0)=false:=by simp
    have ug: ∀w,(Instr.sliceAt 9 (.string (tx s)) (some (.int .i64 ((p0:Int)+1))) (some (.int .i64 ((p0:Int)+(q8:Int)))) none).run prog w= .ok (.string (tx A)) w:=by
     have:=wC s (p0+1) (p0+q8) (by omega) (by omega)
     have e:(s.take (p0+q8)).drop (p0+1)=A:=by
      rw[List.drop_take,show p0+q8-(p0+1)=A.length by omega,<-aon,yj];show(v.take A.length)=A;rw[hv];simp
     rw[e,show((p0+1:Nat):Int)=(p0:Int)+1 by omega,show((p0+q8:Nat):Int)=(p0:Int)+(q8:Int) by omega]at this;exact this
    have Qg:s.drop (p0+q8+1)=Y:=by
     rw[show p0+q8+1=p0+(q8+1) by omega,<-aon,yj,QF];show v.drop (A.length+1)=Y;rw[hv,<-aon];simp
    have SP:=hid (fun w g=>VO A 59 (by omega) w g);have hJ:=Ui (125::Y) A;rw[<-hv]at hJ;have hne:=om 59 A;have pn: ∀p∈aD 59 A,p.length<=262144:=fun p hp=>by have:=Fp 59 A p hp;omega
    have hLn:=uh 59 A;generalize aD 59 A=L at*;obtain⟨n,hn⟩: ∃n,L.length=n:=⟨_,rfl⟩;rw[hn]at SP hLn;have fC:n<=262145:=by omega
    have gy:=hid hn;have Xw:=hid pn;have HJ:=hid hJ;have HSD:=hid yj;have Mg:=hid hne;have g4:=HR.out.g.below E.out;have fJ:=hid Qg;have hk2:p0+q8+1<=N:=by omega
    have hn0:n≠0:=fun h=>hne (List.length_eq_zero_iff.1 (hn.trans h))
    have XJ:=hid (noInit h0);clear hu i1 i2 e8 vq yj R3 P1 hc tF hA hY hv I9 hvl Qg hJ hne pn hn hLn hpl ez hvN gU h0 QF
    go_wp2_with (first|(go_at_call 78;refine(IB.out _).mono ?_;rintro e w' ⟨rfl,rfl⟩)|fail)
    refine(SP.out _ g4).mono ?_;rintro e w4 ⟨a,rfl,oA,T,E4⟩;have abS:w3.heap.size<=bk a:=(Own.lt oA (Own.some oA (by omega))).1;clear oA;have E:=hid (ay E.out E4)
    have hab:bk a<w4.heap.size:=by
     have:=Row.lt T.row (by intro h;apply hn0;rw[<-gy.out];simpa using congrArg List.length h);exact this
    have Yi:=hid (aX (bw:=w1.heap.size) E.out);have R4:=hid (show bQ w1 w4 s k { t with ia:=none,ic:=0,init:=[] } by rw[XJ.out];exact HR.out.below E.out);have T:=hid T;obtain⟨pp,kN⟩: ∃pp,gM t.af N L v []=pp:=⟨_,rfl⟩;rw[kN]at P2;have oG:=hid kN;have QL:=E.out.size;clear E4 e0 kN g4 Yi;go_wp2_with fail
    go_loopw [7,55] (fun f i wi=> ∃(m:Nat) (acc:List aF) (ia:Option Addr) (ic:Nat) (x:Tx),i= .int .i64 m/\m<=n/\f= .int .i64 (N-x.length:Nat)/\x.length<=N/\acc.length<=m/\Hid (m<n->x=sy (125::Y) (L.drop m))/\Hid (pp=gM t.af N (L.drop m) x acc)/\Hid (bQ w1 wi s k { t with ia:=ia,ic:=ic,init:=acc })/\Hid (zM wi w4.heap.size ia acc.length ic acc)/\Hid (St w wi w1.heap.size)/\Hid (cP wi a L)/\w4.heap.size<=wi.heap.size) (fun _ i _=>n-(intOf i).toNat)
    case atStart=>
     refine⟨0,[],none,0,v,rfl,Nat.zero_le _,?_,by omega,amS _,hid fun _=>by rw[List.drop_zero];exact HJ.out.symm,hid (by rw[List.drop_zero];exact oG.out.symm),R4,hid (Own.nil _ _ _ _),hid (aX E.out),T,amS _⟩
     congr 1;omega
    case round=>
     obtain⟨m,acc,ia,ic,x,rfl,hmn,rfl,Eg,alX,HX,HP,RR,OO,SS,TT,P5⟩:=hrel
     by_cases hlt:m<n
     ·obtain⟨p,ko⟩: ∃p,L[m]? =some p:=⟨_,amK (by rw[gy.out];exact hlt)⟩
      have hdr:L.drop m=p::L.drop (m+1):=by
       obtain⟨h1,h2⟩:=ano.1 ko;rw[List.drop_eq_getElem_cons h1,h2]
      have ix:=TT.out.idx m (by rw[gy.out];exact hlt) n;rw[gy.out]at ix;have cl:=TT.out.cell m (by rw[gy.out];exact hlt);rw[(ano.1 ko).2]at cl;obtain⟨d,r,ex,er⟩:=afW (125::Y) p (L.drop (m+1)) (by simp);have hx:=HX.out hlt;rw[hdr,ex]at hx;have hxl:x.length=p.length+1+r.length:=by rw[hx];simp;omega
      have lK:x.drop (p.length+1)=r:=by rw[hx,<-aon];simp
      have amq:p.length<=262144:=by omega
      have oI:=hid (show m+1<n->r=sy (125::Y) (L.drop (m+1))from fun h=>er (fun e=>by
       have:=congrArg List.length e;rw[aoJ,gy.out]at this;simp at this;omega))
      have TP:=hid (fun w=>og p (by omega) w);obtain⟨pl,hpl⟩: ∃pl,(tx p).size=pl:=⟨_,rfl⟩;have pn:pl=p.length:=by rw[<-hpl,aP]
      have acD:pl<=262144:=by omega
      have hfr:((N-x.length:Nat):Int)+((pl:Int)+1)=((N-r.length:Nat):Int):=by omega
      have Cz:=hid hfr;have HXE:=hid hx;have Cp:decide ((m:Int)<(n:Int))=true:=by simp;omega
      have vG:r.length<=N:=by omega
      have qX:N-x.length<=262144:=by omega
      rw[hdr]at HP
      by_cases hb:ah p=[]
      ·have jJ:=hid (show pp=gM t.af N (L.drop (m+1)) r acc by rw[HP.out,afZ hb,lK])
       rw[hb]at TP;have TP:=hid (fun w=>(show ax w (.string (tx []))=ax w (.string ⟨#[]⟩)from rfl)▸TP.out w);clear ko hdr ex er hx hxl lK pn hfr hb HP HX;go_wp2_with fail;refine(TP.out _).mono ?_;rintro e w5 ⟨rfl,E5⟩;have RR:=hid (RR.out.below E5);have OO:=hid (Own.below OO.out E5);have SS:=hid (SS.out.trans (aX (bw:=w1.heap.size) E5));have TT:=hid (TT.out.below E5);have hB5:=am1 P5 E5.size;clear E5 cl;go_wp2_with fail
       go_roundw
       case rel=>exact⟨m+1,acc,ia,ic,r,by go_num,by omega,by rw[Cz.out],vG,by omega,oI,jJ,RR,OO,SS,TT,hB5⟩
       case measure=>simp[intOf];omega
      ·obtain⟨tp,vJ⟩: ∃tp,ah p=tp:=⟨_,rfl⟩
       have zt:(tx tp).toList.isEmpty=false:=by
        rw[aW,<-vJ];cases e:ah p with
        |nil=>exact absurd e hb
        |cons a b=>rfl
       rw[vJ]at TP;have RI:=hid (fun w g=>ah6 t.af ha p (by omega) w g);have LD:=hid (fun w=>yM p (by omega) w);cases hI:kO t.af p with
       | none=>
         have PE:=hid (show hp= .error (140,bO N (aq x)) by rw[P2.out,HP.out,afX hb hI]);have hpa:=hid (show((N-x.length:Nat):Int)+((p.length-(aq p).length:Nat):Int)=(bO N (aq x):Nat) by rw[hx];exact Ug hb (by rw[<-hx];exact Eg));rw[hI]at RI;obtain⟨ld,mz⟩: ∃ld,p.length-(aq p).length=ld:=⟨_,rfl⟩;rw[mz]at LD hpa;have acq:ld<=262144:=by omega
         clear ko hdr ex er hx hxl lK pn hfr hb vJ hI HP HX oI;go_wp2_with fail;refine(TP.out _).mono ?_;rintro e w5 ⟨rfl,E5⟩;have rD:=RR.out.below E5;have q2:=rD.bx.get 2 _ rfl;have g5:=rD.g;have yh:=rD.lt;have E5:=hid E5;clear rD cl;go_wp2_with fail;refine(RI.out _ g5).mono ?_;rintro e w6 h;obtain⟨E6,rfl⟩:Below w5.heap.size w5 w6/\e= .returned (.tuple #[k8 ⟨0,0,[],[],0⟩,.int .i64 140]):=h;have E6:=hid (ay E5.out E6);clear q2 g5 yh;go_wp2_with fail;refine(LD.out _).mono ?_;rintro e w7 ⟨rfl,E7⟩;have E7:=hid (ay (ay E6.out (al w6 _)) E7);go_wp2_with fail;refine(FL.out _ _ _ _).mono ?_;rintro e w8 ⟨rfl,E8⟩;have E8:=hid (ay E7.out E8);go_wp2_with fail;exact⟨rfl,(RR.out.below E8.out).bG,.inl ⟨_,_,PE.out,afw hpa.out⟩⟩
       | some y=>
         have jJ:=hid (show pp=gM t.af N (L.drop (m+1)) r (acc++[y]) by rw[HP.out,afY hb hI,lK]);rw[hI]at RI;obtain⟨th,rg,lc,vl,vn⟩:=y;clear ko hdr ex er hx hxl lK pn hfr hb vJ hI HP HX LD;go_wp2_with fail;refine(TP.out _).mono ?_;rintro e w5 ⟨rfl,E5⟩;have rD:=RR.out.below E5;have q2:=rD.bx.get 2 _ rfl;have g5:=rD.g;have yh:=rD.lt;have E5:=hid E5;clear rD cl;go_wp2_with fail;refine(RI.out _ g5).mono ?_;rintro e w6 h;obtain⟨E6,rfl⟩:Below w5.heap.size w5 w6/\e= .returned (.tuple #[k8 ⟨th,rg,lc,vl,vn⟩,.int .i64 0]):=h;have E6:=ay E5.out E6;clear q2 g5 yh
         go_upto_region 14 with(fail)
         have XB:=aG.new w6 #[.int .i64 th,.int .i64 rg,.string (tx lc),.string (tx vl),.int .i64 vn] 56;have EW:Below wr.heap.size wr (w6.alloc (.cells #[.int .i64 th,.int .i64 rg,.string (tx lc),.string (tx vl),.int .i64 vn] 56)):=ay E6 (al w6 _);have IG:w6.heap.size≠w1.heap.size:=by have:=RR.out.lt;have:=E6.size;omega
         have abW:=IG.symm;have abX:wr.heap.size<=w6.heap.size:=E6.size;generalize hW:w6.alloc (.cells #[.int .i64 th,.int .i64 rg,.string (tx lc),.string (tx vl),.int .i64 vn] 56)=W at*;generalize alZ:w6.heap.size=b9 at*;have RW:=RR.out.below EW;have OW:=Own.below OO.out EW;have TW:=TT.out.below EW;have SW:=hid (SS.out.trans (aX (bw:=w1.heap.size) EW));have x0:=XB.get 0 _ rfl;have x1:=XB.get 1 _ rfl;have x2:=XB.get 2 _ rfl;have x3:=XB.get 3 _ rfl;have x4:=XB.get 4 _ rfl;have q5:=RW.bx.get 5 _ rfl;have hf5:=RW.gh 5;have acF:=RW.lt;have hbW:=XB.1;have QT:w4.heap.size<=W.heap.size:=am1 P5 EW.size;have Qh:acc.length<=262145:=by omega
         have uN:=hid RW;have Mj:=hid OW;have Ms:=hid TW
         have D1: ∀b,ia.map (·.block)=some b->w1.heap.size<b:=fun b hb=>by
          cases ia with
          |none=>cases hb
          | some z=>
            have:=(Own.lt OW (by simp)).1;simp[bk]at hb this;have:=HR.out.lt;omega
         have Qv: ∀b,ia.map (·.block)=some b->b≠b9:=fun b hb=>by
          cases ia with
          |none=>cases hb
          | some z=>
            have h1:=(Own.lt OO.out (by simp)).2;simp[bk]at hb h1;omega
         have MS:=hid XB;clear RW OW TW XB E5 EW hW;have L8:=dc (dD (Below.refl W.heap.size W) (.cells #[.int .i64 th,.int .i64 rg,.string (tx lc),.string (tx vl),.int .i64 vn] 56));have H7:=hid L8;clear L8
         go_region_law
          ((refine VR qj (.tmp 85) (.tmp 87) (by rfl) (by rfl) (B:=w4.heap.size) (n:=acc.length) (c:=ic) (sa:=ia) (xs:=flat fV acc) (by rfl) (Own.below Mj.out H7.out) (xa:=some ⟨W.heap.size,0,none⟩) (xc:=1) (m:=1) (ys:=fV ⟨th,rg,lc,vl,vn⟩) (by rfl) ((ajg W ⟨th,rg,lc,vl,vn⟩ _).below (below_drewN _ 1)) (by rfl) (Zb _) (am1 QT H7.out.size) (by omega) (by unfold maxLen;omega) ?_
            intro a' c' w' ho hg;have tM:=hid hg;have D5:=hid ho;have R7:=(uN.out.below H7.out).kept hg.step.grown D1;have XW:=aG.gr MS.out H7.out hg.step.grown Qv;have q57:=R7.bx.get 5 _ rfl;have al6:=R7.gh 5;have y0:=XW.get 0 _ rfl;have y1:=XW.get 1 _ rfl;have y2:=XW.get 2 _ rfl;have y3:=XW.get 3 _ rfl;have y4:=XW.get 4 _ rfl;have R7:=hid R7;clear ho hg XW))
         all_goals
          have R8:=R7.out.put 5 (.slice a' (acc.length+1) c') (k':=k) (t':={ t with ia:=a',ic:=c',init:=acc++[⟨th,rg,lc,vl,vn⟩] }) (by simp[wm,cT]) (by have:=R7.out.le;omega);have MC:=hid (Own.below Mj.out H7.out);have S7:=hid (St.app (m:=0) (SW.out.trans (aX (bw:=w1.heap.size) H7.out)) MC.out QL tM.out);have S8:=hid (S7.out.trans R8.2);have hz:=tM.out.step.grown.size
          have O8:=hid (show zM _ w4.heap.size a' (acc++[(⟨th,rg,lc,vl,vn⟩:aF)]).length c' (acc++[(⟨th,rg,lc,vl,vn⟩:aF)])from by
           have:=Own.kept D5.out R8.2.grown (by
            by_cases h:a'=none
            ·exact .inl h
            ·have:=(Own.lt D5.out h).1;have:=HR.out.lt;right;simp;omega)
           rw[aoE,zM,nO,rP];exact this)
          have T8:=hid (show cP _ a L from⟨Row.step (Row.step (Ms.out.below H7.out).row tM.out.step (by
           by_cases h:ia=none
           ·exact .inr (.inl h)
           ·have:=(Own.lt MC.out h).1;right;right;omega)) R8.2 (by right;right;have:=HR.out.lt;simp;omega),Ms.out.len⟩)
          have Xe:=am1 QT (am1 H7.out.size (am1 hz R8.2.grown.size));replace R8:=hid R8.1;go_wp2_with fail
          go_roundw
          case rel=>exact⟨m+1,acc++[⟨th,rg,lc,vl,vn⟩],a',c',r,by go_num,by omega,by rw[Cz.out],vG,by rw[aoE];simp;omega,oI,jJ,R8,O8,S8,T8,Xe⟩
          case measure=>simp[intOf];omega
     ·obtain rfl:m=n:=by omega
      have jJ:=hid (show pp= .ok acc by rw[HP.out,List.drop_eq_nil_of_le (by rw[gy.out];exact amS _)];rfl);have zn:decide ((m:Int)<(m:Int))=false:=by simp
      have R5:=RR.out;have q1:=R5.bx.get 1 _ rfl;have IK:=R5.gh 1;have yh:=R5.lt;have R6:=R5.put 1 (.int .i64 (p0+q8+1:Nat)) (k':=p0+q8+1) (t':={ t with ia:=ia,ic:=ic,init:=acc }) rfl (by rw[HN.out];exact hk2);have ST:=hid (SS.out.trans R6.2)
      have OK:=hid (Own.kept (Own.mono OO.out QL) R6.2.grown (by
       by_cases h:ia=none
       ·exact .inl h
       ·have:=(Own.lt OO.out h).1;have:=HR.out.lt;right;simp;omega))
      have hcast:(p0:Int)+(q8:Int)+1=((p0+q8+1:Nat):Int):=by omega
      rw[<-hcast]at R6 ST OK;replace R6:=hid R6.1;clear R5 hcast;go_wp2_with fail
      go_end0
      exact⟨R6.out.bG,.inr ⟨acc,Y,_,ia,ic,by rw[P2.out,jJ.out],fJ.out,rfl,ST.out,R6.out,OK.out⟩⟩
   ·have e8:=i1 (by rw[List.mem_cons];rintro(f|f);(revert f;decide);exact vq f)
    have IB:=hid (fun w=>e8▸IB.out w);have P1:=hid (P1.out (.inr (by rw[List.mem_cons];rintro(f|f);(revert f;decide);exact vq f)));clear hu i1 i2 e8 vq yj R3 P2 hc tF
    go_wp2_with (first|(go_at_call 78;refine(IB.out _).mono ?_;rintro e w' ⟨rfl,rfl⟩)|fail)
    refine(FL.out _ _ _ _).mono ?_;rintro e w4 ⟨rfl,E4⟩;have E:=hid (ay E.out E4);clear E4;go_wp2_with fail;exact⟨rfl,(HR.out.below E.out).bG,.inl ⟨_,_,P1.out,rfl⟩⟩
  ·have P1:=hid (P1.out (.inl (by rw[hc];simpa using DU)))
   have y0:((c.toNat:Int) != 123)=true:=uy c 123 DU;clear P2 DU hu hc;go_wp2_with fail;refine(FL.out _ _ _ _).mono ?_;rintro e w4 ⟨rfl,E4⟩;have E:=hid (ay E.out E4);clear E4;go_wp2_with fail;exact⟨rfl,(HR.out.below E.out).bG,.inl ⟨_,_,P1.out,rfl⟩⟩
end Go.Proofs.YtkbbgjloifmmbaaGreatDoor

/- What ReadBackP leans on, part 31. -/
import Derived.Test.YtkbbgjloifmmbaaGreatDoorRb30
set_option linter.unusedVariables false
set_option maxRecDepth 100000
set_option maxHeartbeats 12800000
namespace Go.Proofs.YtkbbgjloifmmbaaGreatDoor
open _root_.Go.Proofs.Tryz
open _root_.Go.Op renaming stringOp->anY
open _root_.List renaming length_append->aoE,append_nil->anz,getElem?_eq_getElem->amK,take_succ_eq_append_getElem->ao5,take_append_drop->aog,mem_of_getElem?->aou,append_assoc->anF,getElem?_eq_some_iff->ano,take_length->anG,take_zero->apT,length_map->ao3
open _root_.Go.Lib renaming OthersKept->apH
open _root_.And renaming intro->aov
open _root_.Go.Calls renaming regrown_of->an1
open _root_.Nat renaming zero_le->apj
open Go.RowKit Go.Sort
abbrev qJ:TypeId:=25
theorem cO.Kf{w w':World}{b b':Nat}{l:List Value}{T e:TypeId}(h:cO w b l T)(hk:apH e (some b') w w')(hne:b≠b')(hT:T≠e):cO w' b l T:=
 hk b _ h (by simpa using hne) (fun c fz e'=>by cases e';exact hT rfl)
theorem Ez{w w':World}(e:TypeId)(b:Option Nat)(h:Below w.heap.size w w'):apH e b w w':=
 fun k o hk _ _=>by rw[h.block k (Array.getElem?_eq_some_iff.1 hk).1];exact hk
def LB(w:World)(B lb:Nat)(ts:List Th):Prop:= ∃a c,cO w lb [.slice a ts.length c] 112/\cW w B a ts.length c ts/\B<=lb
theorem LB.below{w w':World}{B lb:Nat}{ts:List Th}(h:LB w B lb ts)(hb:Below w.heap.size w w'):LB w' B lb ts:=by
 obtain⟨a,c,h1,h2,h3⟩:=h;exact⟨a,c,h1.below hb,Own.below h2 hb,h3⟩
theorem Bs{w:World}{B E size n c:Nat}{a:Option Addr}{xs:List Value}(h:Own w B E size a n c xs): ∀g,a.map (·.block)=some g-> ∃cs fz,w.heap[g]? =some (.cells cs E fz):=by
 intro g hg;rcases h.2 with⟨h2,h0⟩|⟨g',cap,cur,hv,tJ,hh,r⟩
 ·simp only[Value.slice.injEq]at h2
  rw[h2.1]at hg;cases hg
 ·cases hv
  simp only[Option.map_some,Option.some.injEq]at hg;subst hg;exact⟨cur,_,hh⟩
def ME(w0 w:World)(lb:Nat)(ts:List Th)(e:Ending)(w':World):Prop:=
 e= .returned (.tuple #[])/\LB w' w0.heap.size lb ts/\Below w0.heap.size w0 w'/\apH qJ (some lb) w w'
theorem ZK(x:Nd)(w0 w:World)(lb:Nat)(ts:List Th)(hB:Below w0.heap.size w0 w)(h:LB w w0.heap.size lb ts)(hl:ts.length<=100000):
 Calls prog 281 #[vN x,.pointer (some ⟨lb,0,none⟩)] w (ME w0 w lb (ts++[x.th])):=by
 obtain⟨a,c,h1,h2,h3⟩:=h;have A:=al w (aS x);have b0:cO (w.alloc (aS x)) w.heap.size (cN x) 28:=cO.new w _ _;have h1:=h1.below A;have h2:=Own.below h2 A;have xS:=hB.trans (A.mono hB.size);have K0:=Ez qJ (some lb) A;have c1:=h1.get 0 _ rfl;have hlt:=h1.lt;have hsz:=xS.size;obtain⟨n,hn⟩: ∃n,ts.length=n:=⟨_,rfl⟩;rw[hn]at c1 h1 h2 hl;have HN:=hid hn;have H1:=hid h1;have L5:=hid xS;have hlb:lb<w.heap.size+1:=by simpa using hlt
 have hN1:(w.alloc (aS x)).heap.size=w.heap.size+1:=by simp
 clear hB A hn h1 hlt;go_in
 go_wp2_with (at_builtin;go_loud(refine kF iH (.tmp 3) (.tmp 6) rfl rfl hN1 rfl h2 rfl rfl (by intro u hu;simp at hu;rcases hu with rfl|rfl|rfl<;>rfl) xS hsz (by omega) (by unfold maxLen;omega) ?_))
 intro a3 c3 w3 o3 g3 B3;have hka:=Bs h2
 have hne: ∀g,a.map (·.block)=some g->g≠lb:=by
  intro g hg e;subst e;obtain⟨cs,fz,hh⟩:=hka _ hg;have:=H1.out;unfold cO at this;rw[this]at hh;simp at hh
 have K3:apH qJ (some lb) w w3:=K0.grown (g3.step.grown) hka
 have L3:cO w3 lb [.slice a n c] 112:=by
  unfold cO;rw[g3.step.grown.block lb (by simp;omega) (fun e=>hne lb e.symm rfl)];exact H1.out
 have d1:=L3.get 0 _ rfl;have f1:=L3.frozen 0
 have oF:cW w3 w0.heap.size a3 (n+1) c3 (ts++[x.th]):=by
  unfold cW;rw[nO,rP];exact o3
 have s0:Step w3 (w3.setCell ⟨lb,0,none⟩ (.slice a3 (n+1) c3)) (some ⟨lb,0,none⟩) (some ⟨lb,0,none⟩):=
  ⟨⟨rfl,rfl,rfl,by simp[World.setCell],fun k _ hk=>Below.heap_setCell _ _ _ _ (fun e=>hk (by simp[e]))⟩,.inl rfl⟩
 have QE: ∀g,a3.map (·.block)=some g->g≠lb:=by
  intro g hg e;subst e;obtain⟨cs,fz,hh⟩:=Bs oF _ hg;have:=L3;unfold cO at this;rw[this]at hh;simp at hh
 have oZ:cW (w3.setCell ⟨lb,0,none⟩ (.slice a3 (n+1) c3)) w0.heap.size a3 (n+1) c3 (ts++[x.th]):=by
  refine Own.kept oF s0.grown ?_;cases a3 with
  |none=>exact .inl rfl
  |some q=>right;have:=QE q.block rfl;simp[bk];exact this
 have bZ:cO (w3.setCell ⟨lb,0,none⟩ (.slice a3 (n+1) c3)) lb [.slice a3 (n+1) c3] 112:=by
  have:=L3;unfold cO at this⊢;simp[World.setCell,Array.getElem?_modify,this]
 have KZ:=K3.setCell ⟨lb,0,none⟩ rfl (.slice a3 (n+1) c3);have BZ:=B3.setCell (p:=⟨lb,0,none⟩) h3 (.slice a3 (n+1) c3)
 have Qt:LB (w3.setCell ⟨lb,0,none⟩ (.slice a3 (n+1) c3)) w0.heap.size lb (ts++[x.th]):=by
  refine⟨a3,c3,?_,?_,h3⟩
  ·rw[aoE,HN.out];exact bZ
  ·rw[aoE,HN.out];exact oZ
 have HF:=hid (aov Qt (aov BZ KZ));clear Qt BZ KZ bZ oZ QE s0 oF L3 K3 hne hka o3 g3 B3 K0 h2 xS c1 b0;go_wp2_with fail
 go_end0
 exact⟨rfl,HF.out.1,HF.out.2.1,HF.out.2.2⟩
theorem ZL: ∀(x:Nd) (w0 w:World) (lb:Nat) (ts:List Th),cH w0 x->Below w0.heap.size w0 w->LB w w0.heap.size lb ts->ts.length+fq x<=10000->
 Calls prog 280 #[vN x,.func (.func 281) #[] #[.pointer (some ⟨lb,0,none⟩)]] w (ME w0 w lb (ts++j8 x)):=by
 intro x
 induction x using Nd.ind with
 |h x ih=>
 intro w0 w lb ts hI hB hL hl;have hc:=rJ x;have hlb:lb<w.heap.size:=by obtain⟨a,c,h1,h2,h3⟩:=hL;exact h1.lt
 have hne:w.heap.size≠lb:=by omega
 have A:=al w (aS x);have b0:cO (w.alloc (aS x)) w.heap.size (cN x) 28:=cO.new w _ _;have hL:=hL.below A;have hB:=hB.trans (A.mono hB.size);have K:=Ez qJ (some lb) A;have HI:=hid hI;have pR:=hid ih;obtain⟨uv,hts⟩: ∃uv,ts++(if x.kind=2 then[x.th]else[])=uv:=⟨_,rfl⟩;have E:=hid (show ts++j8 x=uv++fU x.kids by rw[Dk,<-anF,hts]);have jt:uv.length+dh x.kids<=10000:=by rw[<-hts];split<;>simp<;>omega
 clear ih hI A
 by_cases hk:x.kind=2
 ·rw[if_pos hk]at hts
  have zk:(x.kind==2)=true:=by simpa using hk
  have AK:=hid (ZK x w0 (w.alloc (aS x)) lb ts hB hL (by omega));rw[hts]at AK;clear hB hL hk hts;go_in;go_wp2_with fail;refine AK.out.mono ?_;rintro e w1 ⟨rfl,hL,hB,K1⟩;have K:=K.trans K1;have b0:=b0.Kf K1 hne (by decide);clear K1 AK;have q5:=b0.get 5 _ rfl;go_wp2_with fail;clear q5;have J7:28≠qJ:=by decide
  go_loopw [15] (fun i wr=> ∃k:Nat,k<=x.kids.length/\i= .int .i64 k/\Below w0.heap.size w0 wr/\LB wr w0.heap.size lb (uv++fU (x.kids.take k))/\apH qJ (some lb) w wr/\cO wr w.heap.size (cN x) 28) (fun i _=>x.kids.length-(intOf i).toNat)
  case atStart=>exact⟨0,apj _,rfl,hB,by rw[apT,pW,anz];exact hL,K,b0⟩
  case round=>
   clear hB hL K b0;obtain⟨k,hk,rfl,hB,hL,K,b0⟩:=hrel
   by_cases hlk:k<x.kids.length
   ·obtain⟨y,hy⟩: ∃y,x.kids[k]? =some y:=⟨_,amK hlk⟩
    have dP:=aou hy;have di:=HI.out.keep hB;obtain⟨p0,p1,p2,p3,p4,p5⟩:=di.els.nd hy;have ix:=di.els.idx nk ja k hlk x.c;have hkl:=di.els.len
    have I3:(fU (x.kids.take k)).length+fq y<=dh x.kids:=by
     have h1:=pY (x.kids.take (k+1)) (x.kids.drop (k+1));rw[aog]at h1
     have h2:x.kids.take (k+1)=x.kids.take k++[y]:=by
      obtain⟨hlt,rfl⟩:=ano.1 hy;exact ao5 hlt
     rw[h2,pY,j9,rI]at h1
     have h3: ∀l:List Nd,(fU l).length<=dh l:=by
      intro l
      induction l with
      |nil=>rw[pW];simp
      |cons z r ih=>rw[tg,j9,aoE];have:=GC z;omega
     have:=h3 (x.kids.take k);omega
    have A:=al wr (aS y);have Ax:=hL.below A;have ki:=hB.trans (A.mono hB.size);have KA:=K.trans (Ez qJ (some lb) A);have zT:=b0.below A;have CY:=hid (pR.out y dP w0 (wr.alloc (aS y)) lb (uv++fU (x.kids.take k)) (HI.out.dm y dP) ki Ax (by rw[aoE];omega));have HT:=hid (M8 hy);clear hy dP di hB hL K b0 A Ax ki I3;go_wp2_with fail;refine CY.out.mono ?_;rintro e w2 ⟨rfl,hL,hB,K2⟩;have K:=KA.trans K2;have b0:=zT.Kf K2 hne J7;rw[anF,<-HT.out]at hL;clear K2 p0 p1 p2 p3 p4 p5 ix KA zT CY;go_wp2_with fail
    go_roundw
    case rel=>exact⟨k+1,by omega,by go_num,hB,hL,K,b0⟩
    case measure=>simp[intOf];omega
   ·obtain rfl:k=x.kids.length:=by omega
    rw[anG,<-E.out]at hL;go_wp2_with fail
    go_end0
    exact⟨rfl,hL,hB,K⟩
 ·rw[if_neg hk,anz]at hts
  have zk:(x.kind==2)=false:=by simpa using hk
  have h9:=hts.symm;clear hts;subst h9;clear hk;go_in
  go_upto_region 1 with(fail)
  generalize w.alloc (aS x)=W1 at*;have q0:=b0.get 0 _ rfl;have q5:=b0.get 5 _ rfl;go_wp2_with fail;clear q5;have J7:28≠qJ:=by decide
  go_loopw [15] (fun i wr=> ∃k:Nat,k<=x.kids.length/\i= .int .i64 k/\Below w0.heap.size w0 wr/\LB wr w0.heap.size lb (uv++fU (x.kids.take k))/\apH qJ (some lb) w wr/\cO wr w.heap.size (cN x) 28) (fun i _=>x.kids.length-(intOf i).toNat)
  case atStart=>exact⟨0,apj _,rfl,hB,by rw[apT,pW,anz];exact hL,K,b0⟩
  case round=>
   clear hB hL K b0;obtain⟨k,hk,rfl,hB,hL,K,b0⟩:=hrel
   by_cases hlk:k<x.kids.length
   ·obtain⟨y,hy⟩: ∃y,x.kids[k]? =some y:=⟨_,amK hlk⟩
    have dP:=aou hy;have di:=HI.out.keep hB;obtain⟨p0,p1,p2,p3,p4,p5⟩:=di.els.nd hy;have ix:=di.els.idx nk ja k hlk x.c;have hkl:=di.els.len
    have I3:(fU (x.kids.take k)).length+fq y<=dh x.kids:=by
     have h1:=pY (x.kids.take (k+1)) (x.kids.drop (k+1));rw[aog]at h1
     have h2:x.kids.take (k+1)=x.kids.take k++[y]:=by
      obtain⟨hlt,rfl⟩:=ano.1 hy;exact ao5 hlt
     rw[h2,pY,j9,rI]at h1
     have h3: ∀l:List Nd,(fU l).length<=dh l:=by
      intro l
      induction l with
      |nil=>rw[pW];simp
      |cons z r ih=>rw[tg,j9,aoE];have:=GC z;omega
     have:=h3 (x.kids.take k);omega
    have A:=al wr (aS y);have Ax:=hL.below A;have ki:=hB.trans (A.mono hB.size);have KA:=K.trans (Ez qJ (some lb) A);have zT:=b0.below A;have CY:=hid (pR.out y dP w0 (wr.alloc (aS y)) lb (uv++fU (x.kids.take k)) (HI.out.dm y dP) ki Ax (by rw[aoE];omega));have HT:=hid (M8 hy);clear hy dP di hB hL K b0 A Ax ki I3;go_wp2_with fail;refine CY.out.mono ?_;rintro e w2 ⟨rfl,hL,hB,K2⟩;have K:=KA.trans K2;have b0:=zT.Kf K2 hne J7;rw[anF,<-HT.out]at hL;clear K2 p0 p1 p2 p3 p4 p5 ix KA zT CY;go_wp2_with fail
    go_roundw
    case rel=>exact⟨k+1,by omega,by go_num,hB,hL,K,b0⟩
    case measure=>simp[intOf];omega
   ·obtain rfl:k=x.kids.length:=by omega
    rw[anG,<-E.out]at hL;go_wp2_with fail
    go_end0
    exact⟨rfl,hL,hB,K⟩
def uZ(af:Int)(x:Nd):Prop:= ∀w,cH w x->Gl w->Calls prog 132 #[.int .i64 af,vN x] w (ax w (.string (tx (bD af x))))
theorem UG(af:Int)(x:Nd)(and:Bool)(H:uZ af x)(hl:(bD af x).length<=200000)(w:World)(hI:cH w x)(g:Gl w):
 Calls prog 219 #[.int .i64 af,vN x,.bool and,.bool true] w (ax w (.string (tx (dY (weak and x.kind) (bD af x))))):=by
 have B:=al w (aS x);have b0:=j5.new w x;have H1:=H (w.alloc (aS x)) (hI.keep B) (g.below B);obtain⟨s,hs⟩: ∃s,bD af x=s:=⟨_,rfl⟩;rw[hs]at H1 hl⊢;have hc1: ∃t1:Tx,40::s=t1:=⟨_,rfl⟩;obtain⟨t1,ht1⟩:=hc1;obtain⟨t2,fN⟩: ∃t2:Tx,t1++[41]=t2:=⟨_,rfl⟩;have n1:t1.length<=200001:=by rw[<-ht1];simp<;>omega
 have c1: ∀w,(anY .add ⟨#[40]⟩ (tx s)).run prog w= .ok (.string (tx t1)) w:=fun w=>by rw[<-ht1];exact cQ [40] s (by simp only[List.length_singleton];omega) w
 have c2: ∀w,(anY .add (tx t1) ⟨#[41]⟩).run prog w= .ok (.string (tx t2)) w:=fun w=>by rw[<-fN];exact cQ t1 [41] (by simp<;>omega) w
 have hY:dY true s=t2:=by unfold dY;rw[if_pos rfl,<-fN,<-ht1]
 have hN:dY false s=s:=rfl;have HY:=hid hY;have HN:=hid hN;have H1:=hid H1;have hk:=weak and x.kind;clear hs ht1 fN hY hN H hI g hk
 have go1: ∀(b:Bool),weak and x.kind=b->(b=true->((x.kind==4)=true/\and=true)\/((x.kind==4)=false/\(x.kind==5)=true))->(b=false->((x.kind==4)=true/\and=false/\(x.kind==5)=false)\/((x.kind==4)=false/\(x.kind==5)=false))->
  Calls prog 219 #[.int .i64 af,vN x,.bool and,.bool true] w (ax w (.string (tx (dY (weak and x.kind) s)))):=by
  intro b hb h1 h2;rw[hb];clear hb;cases b
  ·have h2:=h2 rfl
   clear h1;rw[HN.out];rcases h2 with⟨z4,rfl,z5⟩|⟨z4,z5⟩
   all_goals
    go_in;go_wp2_with fail;refine H1.out.mono ?_;rintro e w1 ⟨rfl,E1⟩;obtain⟨q0,q1,q2,q3,q4,q5⟩:=(b0.below E1).cells;have B:=B.trans (E1.mono B.size);go_wp2_with fail;go_ret;exact⟨rfl,aN⟩
  ·have h1:=h1 rfl
   clear h2;rw[HY.out];rcases h1 with⟨z4,rfl⟩|⟨z4,z5⟩
   all_goals
    go_in;go_wp2_with fail;refine H1.out.mono ?_;rintro e w1 ⟨rfl,E1⟩;obtain⟨q0,q1,q2,q3,q4,q5⟩:=(b0.below E1).cells;have B:=B.trans (E1.mono B.size);go_wp2_with fail;go_ret;exact⟨rfl,aN⟩
 refine go1 _ rfl (fun h=>?_) (fun h=>?_)
 ·unfold weak at h
  by_cases h4:x.kind=4
  ·left;rw[h4]at h ⊢; simp at h;exact⟨rfl,h⟩
  ·right;simp[h4]at h ⊢; exact h
 ·unfold weak at h
  by_cases h4:x.kind=4
  ·left;rw[h4]at h ⊢; simp at h;exact⟨rfl,h,rfl⟩
  ·right;simp[h4]at h ⊢; exact h
theorem ag8(af:Int)(x:Nd)(hk:x.kind=1)(w:World):Calls prog 132 #[.int .i64 af,vN x] w (ax w (.string (tx (bD af x)))):=by
 have B:=al w (aS x);have z1:(x.kind==1)=true:=by simpa using hk
 have E:=hid (show bD af x=[116,114,117,101] by rw[jZ,if_pos hk]);clear hk;go_in;go_wp2_with fail;go_ret;exact⟨sB (by rw[E.out];rfl),aN⟩
theorem ag9(af:Int)(x:Nd)(hk:x.kind=2)(ht:bE af x.th=true)(hv:aY x.val=true)(w:World)(g:Gl w):Calls prog 132 #[.int .i64 af,vN x] w (ax w (.string (tx (bD af x)))):=by
 have B:=al w (.cells #[.int .i64 x.kind,.int .i64 x.th.thread,.int .i64 x.th.au,.string (tx x.th.loc),.int .i64 x.val,.slice x.a x.kids.length x.c] 28);have b0:=aG.new w #[.int .i64 x.kind,.int .i64 x.th.thread,.int .i64 x.th.au,.string (tx x.th.loc),.int .i64 x.val,.slice x.a x.kids.length x.c] 28;have g:=g.below B;have z1:(x.kind==1)=false:=by rw[hk];rfl
 have z2:(x.kind==2)=true:=by rw[hk];rfl
 have tR:=nZ hv;have l1:=V6 ht;have l2:=qm hv;obtain⟨s1,hs1⟩: ∃s1,l7 af x.th=s1:=⟨_,rfl⟩;obtain⟨s2,hs2⟩: ∃s2,Lib.itoa x.val=s2:=⟨_,rfl⟩;rw[hs1]at l1;rw[hs2]at l2;have TT:=hid (show ∀w,Gl w->Calls prog 218 #[.int .i64 af,iu x.th] w (ax w (.string (tx s1)))from fun w g=>hs1▸ahd af x.th ht w g);have IT:=hid (show ∀(w:World),Gl w->Calls prog 57 #[.int .i64 x.val] w (ax w (.string (tx s2)))from fun w g=>hs2▸jV x.val (by omega) (by omega) w g);obtain⟨t1,ht1⟩: ∃t:Tx,s1++[61]=t:=⟨_,rfl⟩;have n1:t1.length<=33:=by rw[<-ht1];simp;omega
 have c1: ∀w,(anY .add (tx s1) ⟨#[61]⟩).run prog w= .ok (.string (tx t1)) w:=qD s1 [61] t1 ht1 (by omega);obtain⟨t2,fN⟩: ∃t:Tx,t1++s2=t:=⟨_,rfl⟩;have n2:t2.length<=60:=by rw[<-fN];simp;omega
 have c2: ∀w,(anY .add (tx t1) (tx s2)).run prog w= .ok (.string (tx t2)) w:=qD t1 s2 t2 fN (by omega);have E:=hid (show bD af x=t2 by rw[jZ,if_neg (by omega),if_pos hk];unfold oP;rw[hs1,hs2,ht1,fN]);have QQ:=hid (aov B (aov b0 g));clear hs1 hs2 B b0 g l1 l2 ht1 fN n1 n2 hk ht hv tR;go_in;go_wp2_with fail;obtain⟨B,b0,g⟩:=QQ.out;generalize w.alloc (.cells #[.int .i64 x.kind,.int .i64 x.th.thread,.int .i64 x.th.au,.string (tx x.th.loc),.int .i64 x.val,.slice x.a x.kids.length x.c] 28)=W at*;have q1:=b0.get 1 _ rfl;have q2:=b0.get 2 _ rfl;have q3:=b0.get 3 _ rfl;have q4:=b0.get 4 _ rfl;have q1:=cell_regrown q1;have q2:=cell_regrown q2;have q3:=cell_regrown q3;have q4:=cell_regrown q4;have cA:=fun(d:Nat) (os:Array Obj)=>an1 (kB (IT.out (grow (redrawn W d) os) (g.below (below_regrown W d os))))
 have cB:=fun(d:Nat) (os:Array Obj)=>an1 (kB (TT.out (grow (redrawn W d) os) (g.below (below_regrown W d os))))
 clear QQ b0;refine wp_region_quiet_below (by kernel_rfl) (by kernel_rfl) ?_
 repeat(go_big_quiet_step (first|exact cA _ _|exact cB _ _))
 refine wpQuiet_nil ?_;intro _ hw';obtain⟨⟨dq,aV⟩,hw''⟩:=hw';subst hw'';have jI:=below_regrown W dq aV;have EZ:=B.trans (jI.mono B.size);generalize grow (redrawn W dq) aV=wq at*;go_wp2_with fail;go_ret;exact⟨sB (by rw[E.out]),EZ⟩
theorem aha(af:Int)(x y:Nd)(hk:x.kind=3)(hy:x.kids=[y])(hl:(bD af y).length<=190000)(H:uZ af y)(w:World)(hI:cH w x)(g:Gl w):Calls prog 132 #[.int .i64 af,vN x] w (ax w (.string (tx (bD af x)))):=by
 have B:=al w (aS x);have z1:(x.kind==1)=false:=by rw[hk];rfl
 have z2:(x.kind==2)=false:=by rw[hk];rfl
 have z3:(x.kind==3)=true:=by rw[hk];rfl
 have tI:=hI.keep B;have h0:x.kids[0]? =some y:=by rw[hy];rfl
 have hlk:0<x.kids.length:=by rw[hy];simp
 obtain⟨p0,p1,p2,p3,p4,p5⟩:=tI.els.nd h0;have ix:=tI.els.idx nk ja 0 hlk x.c;have KD:=UG af y true H (by omega) (w.alloc (aS x)) (tI.dm y (by rw[hy];simp)) (g.below B);simp only[Nat.zero_mul,Nat.add_zero,Int.ofNat_zero]at p0 p1 p2 p3 p4 p5 ix;have l1:=yp (weak true y.kind) (bD af y);obtain⟨s1,hs1⟩: ∃s1,dY (weak true y.kind) (bD af y)=s1:=⟨_,rfl⟩;rw[hs1]at KD l1;obtain⟨t1,ht1⟩: ∃t:Tx,126::s1=t:=⟨_,rfl⟩;have c1: ∀w,(anY .add ⟨#[126]⟩ (tx s1)).run prog w= .ok (.string (tx t1)) w:=fun w=>by rw[<-ht1];exact cQ [126] s1 (by simp;omega) w
 have E:=hid (show bD af x=t1 by rw[jZ,if_neg (by omega),if_neg (by omega),if_pos hk,hy,pK,lZ,anz,hs1,ht1]);have KD:=hid KD;clear hs1 ht1 hk hy h0 hI tI g H;go_in;go_wp2_with fail;refine KD.out.mono ?_;rintro e w1 ⟨rfl,E1⟩;have B:=B.trans (E1.mono B.size);clear p0 p1 p2 p3 p4 p5 ix;go_wp2_with fail;go_ret;exact⟨sB (by rw[E.out]),aN⟩
theorem UH(af:Int)(x:Nd)(and:Bool)(sep:Tx)(u:ByteArray)(hc:(x.kind==4)=true/\and=true/\sep=kV/\u=⟨#[32,47,92,32]⟩\/(x.kind==4)=false/\and=false/\sep=kW/\u=⟨#[32,92,47,32]⟩)
 (hk:4<=x.kind) (z5:(x.kind==5)= !and) (E0:bD af x=fG af and sep x.kids) (hn:fq x<=1024) (ho: ∀y∈x.kids,bK af y) (H: ∀y∈x.kids,uZ af y) (w:World) (hI:cH w x) (g:Gl w):Calls prog 132 #[.int .i64 af,vN x] w (ax w (.string (tx (bD af x)))):=by
 have B:=al w (aS x);have b0:=aG.new w #[.int .i64 x.kind,.int .i64 x.th.thread,.int .i64 x.th.au,.string (tx x.th.loc),.int .i64 x.val,.slice x.a x.kids.length x.c] 28;have z1:(x.kind==1)=false:=by simp;omega
 have z2:(x.kind==2)=false:=by simp;omega
 have z3:(x.kind==3)=false:=by simp;omega
 have nU:sep.length=4/\tx sep=u:=by rcases hc with⟨-, -, rfl,rfl⟩|⟨-, -, rfl,rfl⟩<;>exact⟨rfl,rfl⟩
 have hsep:=nU.1;have C1:Hid (∀t:Tx,t.length<=900000-> ∃T,t++sep=T/\T.length=t.length+4/\ ∀w,(anY .add (tx t) u).run prog w= .ok (.string (tx T)) w):=hid fun t h=>⟨_,rfl,by rw[aoE,hsep],by rw[<-nU.2];exact cQ t sep (by omega)⟩
 have al3:=rJ x;have TK:=hid (fun(k:Nat) (y:Nd) (h:x.kids[k]? =some y)=>V0 (af:=af) (and:=and) (sep:=sep) h);have TN:=hid (fun(k:Nat)=>VZ (af:=af) (and:=and) (sep:=sep) (by omega) (l:=x.kids.take k) (fun z hz=>ho z (List.mem_of_mem_take hz)));have T0:=hid (yU (af:=af) (and:=and) (sep:=sep));have KD:=hid (fun(y:Nd) (hy:y∈x.kids) (hl:(bD af y).length<=200000)=>UG af y and (H y hy) hl);have IB:=hid (fun(y:Nd)=>yp (weak and y.kind) (bD af y));have HO:=hid ho;have E:=hid E0;have HB:=hid B;have CE:=hid (hI.keep B);have HG:=hid (g.below B);generalize fG af and sep=TL at*;obtain⟨SB,Qe⟩: ∃SB:Nd->Tx,∀y,dY (weak and y.kind) (bD af y)=SB y:=⟨_,fun _=>rfl⟩;simp only[Qe]at KD IB TK;clear hk hI g H ho B Qe E0 nU;rcases hc with⟨z4,rfl,rfl,rfl⟩|⟨z4,rfl,rfl,rfl⟩
 all_goals
  simp only[Bool.not_true,Bool.not_false]at z5;go_in
  go_upto_region 1 with(fail)
  have B:=HB.out;have tI:=CE.out;have g:=HG.out;generalize w.alloc (.cells #[.int .i64 x.kind,.int .i64 x.th.thread,.int .i64 x.th.au,.string (tx x.th.loc),.int .i64 x.val,.slice x.a x.kids.length x.c] 28)=W at*;have q0:=b0.get 0 _ rfl;have q5:=b0.get 5 _ rfl;have tI:=hid tI;have g:=hid g;have b0:=hid b0;clear CE HG HB;go_wp2_with fail;clear q0 q5
  go_loopw [5,6] (fun s i wr=> ∃(k:Nat) (t:Tx),k<=x.kids.length/\i= .int .i64 k/\s= .string (tx t)/\Below W.heap.size W wr/\Hid (t=TL (x.kids.take k))) (fun _ i _=>x.kids.length-(intOf i).toNat)
  case atStart=>exact⟨0,[],apj _,rfl,rfl,Below.refl _ _,hid (by rw[apT,T0.out])⟩
  case round=>
   obtain⟨k,t,hk,rfl,rfl,ER,HT⟩:=hrel;have br:=b0.out.below ER;have q0:=br.get 0 _ rfl;have q5:=br.get 5 _ rfl
   by_cases hlk:k<x.kids.length
   ·obtain⟨y,hy⟩: ∃y,x.kids[k]? =some y:=⟨_,amK hlk⟩
    have dP:=aou hy;have di:=tI.out.keep ER;obtain⟨p0,p1,p2,p3,p4,p5⟩:=di.els.nd hy;have ix:=di.els.idx nk ja k hlk x.c;have hkl:=di.els.len;have htk:=TK.out k y hy;have hlen:=TN.out k
    have yc:dh (x.kids.take k)<=dh x.kids:=by
     have:=pY (x.kids.take k) (x.kids.drop k);rw[aog]at this;omega
    rw[<-HT.out]at hlen htk;have htn:=uq (HO.out y dP);have rS:=Dq dP;have l1:=IB.out y;have KD:=hid (KD.out y dP (by omega));obtain⟨s1,hs1⟩: ∃s1,SB y=s1:=⟨_,rfl⟩;rw[hs1]at KD l1 htk;have Xl:=hid (di.dm y dP);have Xj:=hid (g.out.below ER);clear hs1 di dP hy br
    by_cases h0:k=0
    focus
     subst h0;rw[if_pos rfl,anz]at htk;have hT:t.length<=900000:=by omega
     have htk:TL (x.kids.take 1)=t++s1:=htk;simp only[Nat.zero_mul,Nat.add_zero,Int.ofNat_zero]at p0 p1 p2 p3 p4 p5 ix;clear hlen
    rotate_left
    focus
     have zk:(0:Int)<k:=by omega
     have h0':0<k:=by omega
     rw[if_neg h0]at htk;obtain⟨T,hT,Qf,c1⟩:=C1.out t (by omega);rw[hT]at htk;have hT:T.length<=900000:=by omega
     clear HT h0 hlen Qf
    all_goals
     obtain⟨t2,fN⟩: ∃t2:Tx,_++s1=t2:=⟨_,htk.symm⟩;have c2:=cQ _ s1 (Nat.le_trans (Nat.add_le_add_right hT _) (by omega));rw[fN]at c2;have en:=hid (htk.trans fN).symm;clear htk fN hT;go_wp2_with fail;have cA:=fun(d:Nat) (os:Array Obj)=>an1 (kB (KD.out (grow (redrawn wr d) os) (Xl.out.keep (below_regrown wr d os)) (Xj.out.below (below_regrown wr d os))))
     have q0:=cell_regrown q0;have q5:=cell_regrown q5;have p0:=cell_regrown p0;have p1:=cell_regrown p1;have p2:=cell_regrown p2;have p3:=cell_regrown p3;have p4:=cell_regrown p4;have p5:=cell_regrown p5;refine wp_region_quiet_below (by kernel_rfl) (by kernel_rfl) ?_
     repeat(go_big_quiet_step (exact cA _ _))
     refine wpQuiet_nil ?_;intro _ hw';obtain⟨⟨dq,aV⟩,hw''⟩:=hw';subst hw'';have jI:=below_regrown wr dq aV;have ER:=ER.trans (jI.mono ER.size);generalize grow (redrawn wr dq) aV=wq at*;clear q0 q5 p0 p1 p2 p3 p4 p5 cA ix;go_wp2_with fail
     go_roundw
     case rel=>exact⟨_,t2,by omega,by go_num,rfl,ER,en⟩
     case measure=>simp[intOf];omega
   ·obtain rfl:k=x.kids.length:=by omega
    have en:=hid (show bD af x=t by rw[E.out,HT.out,anG]);clear HT;go_wp2_with fail;go_ret;exact⟨sB (by rw[en.out]),B.trans (ER.mono B.size)⟩
theorem ahb(af:Int)(x:Nd)(hk:x.kind=4)(hn:fq x<=1024)(ho: ∀y∈x.kids,bK af y)(H: ∀y∈x.kids,uZ af y)(w:World)(hI:cH w x)(g:Gl w):Calls prog 132 #[.int .i64 af,vN x] w (ax w (.string (tx (bD af x)))):=
 UH af x true kV _ (.inl ⟨by rw[hk];rfl,rfl,rfl,rfl⟩) (by omega) (by rw[hk];rfl) (by rw[jZ,if_neg (by omega),if_neg (by omega),if_neg (by omega),if_pos hk]) hn ho H w hI g
theorem ahc(af:Int)(x:Nd)(hk:x.kind=5)(hn:fq x<=1024)(ho: ∀y∈x.kids,bK af y)(H: ∀y∈x.kids,uZ af y)(w:World)(hI:cH w x)(g:Gl w):Calls prog 132 #[.int .i64 af,vN x] w (ax w (.string (tx (bD af x)))):=
 UH af x false kW _ (.inr ⟨by rw[hk];rfl,rfl,rfl,rfl⟩) (by omega) (by rw[hk];rfl) (by rw[jZ,if_neg (by omega),if_neg (by omega),if_neg (by omega),if_neg (by omega)]) hn ho H w hI g
theorem ag7(af:Int): ∀(x:Nd),bK af x->fq x<=1024->uZ af x:=by
 intro x
 induction x using Nd.ind with
 | h x ih=>
   intro ho hn w hI g;have hc:=rJ x;have tO: ∀y∈x.kids,uZ af y:=fun y hy=>ih y hy (ho.dm y hy) (by have:=Dq hy;omega)
   rcases qp ho.may with⟨h1,h2⟩|⟨h1,h2,h3,h4⟩|⟨h1,h2⟩|⟨h1,h2⟩|⟨h1,h2⟩
   ·exact ag8 af x h1 w
   ·exact ag9 af x h1 h2 h3 w g
   ·obtain⟨y,hy⟩: ∃y,x.kids=[y]:=List.length_eq_one_iff.1 h2
    have dP:y∈x.kids:=by rw[hy];simp
    have:=uq (ho.dm y dP);have:=Dq dP;exact aha af x y h1 hy (by omega) (tO y dP) w hI g
   ·exact ahb af x h1 hn ho.dm tO w hI g
   ·exact ahc af x h1 hn ho.dm tO w hI g
abbrev cC(q:Int)(x:Nd):List Value:=[.int .i64 q,.int .i64 x.kind,.int .i64 x.th.thread,.int .i64 x.th.au,.string (tx x.th.loc),.int .i64 x.val,.slice x.a x.kids.length x.c]
theorem aG.cC{w:World}{b:Nat}{q:Int}{x:Nd}(h:aG w b (cC q x)):w.cell? ⟨b,0,none⟩=some (.int .i64 q)/\w.cell? ⟨b,1,none⟩=some (.int .i64 x.kind)/\w.cell? ⟨b,2,none⟩=some (.int .i64 x.th.thread)/\w.cell? ⟨b,3,none⟩=some (.int .i64 x.th.au)/\w.cell? ⟨b,4,none⟩=some (.string (tx x.th.loc))/\w.cell? ⟨b,5,none⟩=some (.int .i64 x.val)/\w.cell? ⟨b,6,none⟩=some (.slice x.a x.kids.length x.c):=
 ⟨h.get 0 _ rfl,h.get 1 _ rfl,h.get 2 _ rfl,h.get 3 _ rfl,h.get 4 _ rfl,h.get 5 _ rfl,h.get 6 _ rfl⟩
theorem ag5(af q:Int)(x:Nd)(w:World)(hI:cH w x)(he:bF af q x=0)(g:Gl w):
 Calls prog 65 #[.int .i64 af,vC q x] w (ax w (.tuple #[.string (tx (eF af q x)),.int .i64 0])):=by
 obtain⟨-, hq1,sg,ho,hn⟩:=rL he;have B:=al w (gX q x);have b0:aG (w.alloc (gX q x)) w.heap.size (cC q x):=aG.new w _ _;have CH:=Kr af q x (w.alloc (gX q x)) (hI.keep B);rw[he]at CH;have hl:=uq ho;have TX:=hid (show ∀w,cH w x->Gl w->Calls prog 132 #[.int .i64 af,vN x] w (ax w (.string (tx (bD af x))))from ag7 af x ho hn);have HI:=hid (hI.keep B);have HG:=hid (g.below B);obtain⟨s,hs⟩: ∃s,bD af x=s:=⟨_,rfl⟩;rw[hs]at TX hl;obtain⟨t1,ht1⟩: ∃t1:Tx,iQ q++s=t1:=⟨_,rfl⟩;have hh:(iQ q).length<=9:=by unfold iQ;split<;>(try split)<;>simp
 have n1:t1.length<=110000:=by rw[<-ht1];simp;omega
 obtain⟨t2,fN⟩: ∃t2:Tx,t1++[41]=t2:=⟨_,rfl⟩;have c1: ∀w,(anY .add (tx (iQ q)) (tx s)).run prog w= .ok (.string (tx t1)) w:=fun w=>by rw[<-ht1];exact cQ (iQ q) s (by omega) w
 have c2: ∀w,(anY .add (tx t1) ⟨#[41]⟩).run prog w= .ok (.string (tx t2)) w:=fun w=>by rw[<-fN];exact cQ t1 [41] (by simp;omega) w
 have E:=hid (show eF af q x=t2 by unfold eF;rw[hs,ht1,fN]);have CH:=hid CH;clear hs ht1 fN hI g he ho hn hl hh n1;have hq:q=1\/q=2\/q=3:=by omega
 rcases hq with rfl|rfl|rfl
 all_goals
  first
  |(have Nz: ∀w,(anY .add ⟨#[101,120,105,115,116,115,32,40]⟩ (tx s)).run prog w= .ok (.string (tx t1)) w:=c1)
  |(have Nz: ∀w,(anY .add ⟨#[126,101,120,105,115,116,115,32,40]⟩ (tx s)).run prog w= .ok (.string (tx t1)) w:=c1)
  |(have Nz: ∀w,(anY .add ⟨#[102,111,114,97,108,108,32,40]⟩ (tx s)).run prog w= .ok (.string (tx t1)) w:=c1)
  clear c1;go_in;go_wp2_with fail;refine CH.out.mono ?_;rintro e1 w1 ⟨rfl,E1⟩;obtain⟨q0,q1,q2,q3,q4,q5,q6⟩:=(b0.below E1).cC;have hI:=HI.out.keep E1;have g:=HG.out.below E1;have B:=B.trans (E1.mono B.size);go_wp2_with fail;refine(TX.out _ hI g).mono ?_;rintro e2 w2 ⟨rfl,E2⟩;have B:=B.trans (E2.mono B.size);clear q0 q1 q2 q3 q4 q5 q6 hI g;go_wp2_with fail
  go_ret2
  exact⟨yQ (by rw[E.out]) rfl,B⟩
theorem Oe{α β:Type}[DecidableEq α][DecidableEq β](f:α->β)(hf: ∀a b,f a=f b->a=b): ∀l:List α,cF (l.map f)=(cF l).map f
 |[]=>rfl
 |[x]=>rfl
 | x::y::r=>by
   have ih:=Oe f hf (y::r);simp only[List.map_cons]at ih⊢;rw[pX,pX,ih]
   by_cases h:x=y
   ·rw[if_pos h,if_pos (by rw[h])]
   ·rw[if_neg h,if_neg (fun e=>h (hf _ _ e))];rfl
theorem Pr(d:List fh):flat eV d=flat jP (d.map (·.1)):=by
 unfold flat;rw[List.flatMap_map]
theorem Own.aen(w:World)(E size:Nat):Own (w.alloc (.cells #[] E)) w.heap.size E size (Option.some ⟨w.heap.size,0,none⟩) 0 0 []:=
 World.ownsRow_lit w #[] 0 (Nat.le_refl _) (by unfold maxLen;omega) (by simp)
def Df(w:World)(l:List Th)(e:Ending)(w':World):Prop:=
 ∃a c,e= .returned (.slice a l.length c)/\cW w' w.heap.size a l.length c l/\Below w.heap.size w w'
theorem Zv(l:List Th)(a:Option Addr)(c:Nat)(w:World)(h:bf jP w a l)(hl:l.length<=1000000):
 Calls prog 228 #[.slice a l.length c] w (Df w l):=by
 obtain⟨n,hn⟩: ∃n,l.length=n:=⟨_,rfl⟩;have HN:=hid hn;rw[hn]at hl;unfold Df;rw[hn];cases a with
 | none=>
   have hl0:l=[]:=by
    by_cases e:l=[]
    ·exact e
    ·have:=h.row.head (by intro e2;have:=congrArg List.length e2;rw[fL de]at this;simp only[List.length_nil]at this;exact e (List.eq_nil_of_length_eq_zero (by omega)))
     cases this
   subst hl0;have hn0:n=0:=hn.symm;subst hn0;have ze: ∀w,(binOp .eql 112 (.slice none 0 c) (.slice none 0 0)).run prog w= .ok (.bool true) w:=fun w=>rfl
   clear hn h;go_in;go_wp2_with fail;go_ret;exact⟨none,0,rfl,Own.nil _ _ _ _,Below.refl _ _⟩
 | some p=>
   have ze: ∀w,(binOp .eql 112 (.slice (some p) n c) (.slice none 0 0)).run prog w= .ok (.bool false) w:=fun w=>rfl
   have A:=al w (.cells #[] 25);have o0:=Own.aen w 25 3;have hA:=h.below A;have hrl:(flat jP l).length=n*3:=by rw[fL de,hn]
   clear hn h;go_in
   go_wp2_with (at_builtin;go_loud(refine LW iH (.tmp 5) (.tmp 6) rfl rfl rfl o0 rfl hA.row hrl (abz GR l) A A.size (by omega) (by unfold maxLen;omega) ?_))
   intro a1 c1 w1 o1 g1 E1;have o2:cW w1 w.heap.size a1 n c1 l:=by simpa[cW]using o1
   have HO:=hid (aov o2 E1);clear o0 A hA o1 g1 E1 o2;go_wp2_with fail;go_ret;exact⟨a1,c1,rfl,HO.out.1,HO.out.2⟩
theorem aaD(x:Nd)(w:World)(hI:cH w x)(ho:bK 2 x)(hc:fq x<=1024):
 Calls prog 229 #[vN x] w (Df w (l8 x)):=by
 have A:=al w (aS x);have b0:=j5.new w x;have L:=al (w.alloc (aS x)) (.cells #[.slice none 0 0] 112)
 have P7:LB ((w.alloc (aS x)).alloc (.cells #[.slice none 0 0] 112)) (w.alloc (aS x)).heap.size (w.alloc (aS x)).heap.size []:=
  ⟨none,0,cO.new _ _ _,Own.nil _ _ _ _,Nat.le_refl _⟩
 have CA:=ZL x (w.alloc (aS x)) _ (w.alloc (aS x)).heap.size [] (hI.keep A) L P7 (by simp;omega);rw[List.nil_append]at CA;have hsz:(w.alloc (aS x)).heap.size=w.heap.size+1:=by simp
 have HV:=GD ho;have hal:=GC x;have hval:=BM (j8 x) HV;have hst:=ajS ho (fun x y=> !ltOf xC y x) (fun a b=>by rw[yy]);obtain⟨d,hd⟩: ∃d,ur (j8 x) HV=d:=⟨_,rfl⟩;rw[hd]at hval hst;have hdl:(j8 x).length=d.length:=by rw[<-hval,ao3]
 have HQ:=hid (aov hval (aov hst hdl));have CA:=hid CA;rw[hsz]at CA;clear hI hd P7 L A hsz hval hst;go_in;go_wp2_with fail;refine CA.out.mono ?_;rintro e w1 ⟨rfl,hL,hB,K⟩;obtain⟨a,c,bL,oL,hle⟩:=hL;have c0:=bL.get 0 _ rfl;obtain⟨hval,hst, -⟩:=HQ.out;rw[hdl]at c0 oL;have oL:Own w1 (w.alloc (aS x)).heap.size 25 3 a d.length c (flat eV d):=by rw[Pr,hval];exact oL
 have ST:=hid (ajP d w1 _ a c oL (by omega));have Mh:=hid oL;have Ma:=hid bL;have HB:=hid hB;clear oL bL hB K hle CA HQ hval;go_wp2_with fail;refine ST.out.mono ?_;rintro e w2 ⟨rfl,oS,sS⟩;have hka:=Bs Mh.out
 have M9:cO w2 (w.heap.size+1) [.slice a (j8 x).length c] 112:=by
  have h1:=Ma.out;have hl:=h1.lt;unfold cO at h1⊢
  rw[sS.grown.block _ hl (fun e=>by
   obtain⟨cs,fz,hh⟩:=hka _ e.symm;rw[h1]at hh;simp at hh)]
  exact h1
 have c2:=M9.get 0 _ rfl;rw[hdl]at c2;have hlen:((qG d).map (·.1)).length=d.length:=by rw[ao3];exact List.length_mergeSort d
 rw[Pr]at oS;have B2:=sS.below Mh.out HB.out HB.out.size;have CT:=ZH ((qG d).map (·.1)) w2 _ a c (by rw[hlen];exact oS) B2.size (by rw[hlen];omega);rw[Oe _ (fun a b h=>Subtype.ext h),hst,hlen]at CT;have CT:=hid CT;have Mi:=hid oS;have uK:=hid hlen;have Cv:=hid B2;clear c0 oS sS hka M9 Ma ST hst hlen B2;go_wp2_with fail;refine CT.out.mono ?_;rintro e w3 ⟨rfl,o3,s3⟩;have B3:=s3.below Mi.out Cv.out Cv.out.size;have BZ:Below w.heap.size w w3:=(al w (aS x)).trans (B3.mono (al w (aS x)).size);have oZ:cW w3 w.heap.size a (l8 x).length c (l8 x):=Own.mono o3 (by simp);have HZ:=hid (aov oZ BZ);clear o3 s3 B3 BZ oZ c2 CT Mi;go_wp2_with fail;go_ret;exact⟨a,c,rfl,HZ.out.1,HZ.out.2⟩
attribute [local go_sem high] xN vZ
def xo(w:World)(l:List Th)(r:Int)(e:Ending)(w':World):Prop:=
 ∃a c,e= .returned (.tuple #[.slice a l.length c,.int .i64 r])/\cW w' w.heap.size a l.length c l/\Below w.heap.size w w'
theorem xo.none{w w':World}{l:List Th}{r:Int}{e:Ending}(hl:l=[])(he:e= .returned (.tuple #[.slice Option.none 0 0,.int .i64 r]))(hb:Below w.heap.size w w'):xo w l r e w':=by
 subst hl;exact⟨Option.none,0,he,Own.nil _ _ _ _,hb⟩
theorem aaE(q:Int)(x:Nd)(w:World)(hI:cH w x):Calls prog 144 #[vC q x] w (xo w (jF q x) (bF 2 q x)):=by
 have B:=al w (gX q x);have b0:aG (w.alloc (gX q x)) w.heap.size (cC q x):=aG.new w _ _;have CH:=Ah 2 q x (w.alloc (gX q x)) (hI.keep B);obtain⟨r,hr⟩: ∃r,bF 2 q x=r:=⟨_,rfl⟩;rw[hr]at CH⊢
 by_cases h0:r=0
 ·subst h0
  obtain⟨-, hq1,sg,ho,hn⟩:=rL hr;have hT:=hid (show jF q x=l8 x by unfold jF;rw[if_pos hr]);have CH:=hid CH;have HI:=hid (hI.keep B);have HO:=hid ho;obtain⟨-, -, -, htl⟩:=Lj ho;clear hr hI ho;go_in;go_wp2_with fail;refine CH.out.mono ?_;rintro e1 w1 ⟨rfl,E1⟩;obtain⟨q0,q1,q2,q3,q4,q5,q6⟩:=(b0.below E1).cC;have hI:=HI.out.keep E1;have B:=B.trans (E1.mono B.size);have TH:=hid (aaD x w1 hI HO.out hn);clear E1 CH HI hI;go_wp2_with fail;refine TH.out.mono ?_;rintro e2 w2 ⟨a,c,rfl,o2,E2⟩;have els:=(Own.els o2 de (by omega) (by omega)).1;have CL:=hid (Zv _ a c w2 els (by omega));have B2:=B.trans (E2.mono B.size);clear q0 q1 q2 q3 q4 q5 q6 o2 els TH E2;go_wp2_with fail;refine CL.out.mono ?_;rintro e3 w3 ⟨a3,c3,rfl,o3,E3⟩;have B3:=B2.trans (E3.mono B2.size);have HZ:=hid (aov (Own.mono o3 B2.size) B3);clear o3 E3 B3 CL;go_wp2_with fail
  go_ret2
  rw[hT.out];exact⟨a3,c3,rfl,HZ.out.1,HZ.out.2⟩
 ·have hT:=hid (show jF q x=[] by unfold jF;rw[if_neg (by rw[hr];exact h0)])
  have z:(r != 0)=true:=by simpa using h0
  have CH:=hid CH;clear hr hI h0;go_in;go_wp2_with fail;refine CH.out.mono ?_;rintro e1 w1 ⟨rfl,E1⟩;have B:=B.trans (E1.mono B.size);go_wp2_with fail
  go_ret2
  exact xo.none hT.out rfl B
theorem Aa: ∀a b:Tx,Op.bytesLess a b=bB a b
 |[],[]=>rfl
 |[],_::_=>rfl
 |_::_,[]=>rfl
 | a::x,b::y=>by
   unfold Op.bytesLess bB
   by_cases h:a<b
   ·rw[if_pos h,decide_eq_true h];rfl
   ·rw[if_neg h,decide_eq_false h,Bool.false_or]
    by_cases h2:b<a
    ·rw[if_pos h2]
     have:(a==b)=false:=by
      rw[beq_eq_false_iff_ne];intro e;subst e;exact h h2
     rw[this];rfl
    ·rw[if_neg h2,BU h h2,beq_self_eq_true,Bool.true_and];exact Aa x y
theorem ajv(a b:Tx): ∀w,(anY .lss (tx a) (tx b)).run prog w= .ok (.bool (bB a b)) w:=fun w=>by
 simp[anY,aW,Aa]
theorem agY(x y:fh)(w:World):Calls prog 334 #[iu x.1,iu y.1] w (ax w (.bool (cK x.1 y.1))):=by
 have hx:=mc x;have hy:=mc y;obtain⟨⟨t1,r1,l1⟩,p1⟩:=x;obtain⟨⟨t2,r2,l2⟩,p2⟩:=y;simp only at hx hy⊢;clear p1 p2;have B:=dD (al w (jW ⟨t1,r1,l1⟩)) (jW ⟨t2,r2,l2⟩);have hlx:=ajv l1 l2
 have hc:(t1= -1/\t2= -1/\r1=r2/\cK ⟨t1,r1,l1⟩ ⟨t2,r2,l2⟩=bB l1 l2)\/(t1= -1/\0<=t2/\cK ⟨t1,r1,l1⟩ ⟨t2,r2,l2⟩=false)\/(0<=t1/\t2= -1/\cK ⟨t1,r1,l1⟩ ⟨t2,r2,l2⟩=true)\/(0<=t1/\0<=t2/\t1≠t2/\cK ⟨t1,r1,l1⟩ ⟨t2,r2,l2⟩=decide (t1<t2))\/(0<=t1/\0<=t2/\t1=t2/\r1≠r2/\cK ⟨t1,r1,l1⟩ ⟨t2,r2,l2⟩=decide (r1<r2))\/(0<=t1/\0<=t2/\t1=t2/\r1=r2/\cK ⟨t1,r1,l1⟩ ⟨t2,r2,l2⟩=bB l1 l2):=by
  unfold cK;simp only
  by_cases a1:t1= -1
  ·by_cases b1:t2= -1
   ·left;refine⟨a1,b1,by omega,?_⟩
    rw[if_neg (by simp[a1,b1]),if_neg (by simp[a1,b1]),if_neg (by omega)]
   ·right;left;refine⟨a1,by omega,?_⟩
    rw[if_pos (by simp[a1,b1])];simpa using b1
  ·by_cases b1:t2= -1
   ·right;right;left;refine⟨by omega,b1,?_⟩
    rw[if_pos (by simp[a1,b1])];simpa using b1
   ·right;right;right
    have n1: ¬((t1= -1)≠(t2= -1)):=by simp[a1,b1]
    rw[if_neg (c:=(t1= -1)≠(t2= -1)) n1]
    by_cases h:t1=t2
    ·by_cases h2:r1=r2
     ·right;right;refine⟨by omega,by omega,h,h2,?_⟩;rw[if_neg (by omega),if_neg (by omega)]
     ·right;left;refine⟨by omega,by omega,h,h2,?_⟩;rw[if_neg (by omega),if_pos h2]
    ·left;refine⟨by omega,by omega,h,?_⟩;rw[if_pos h]
 clear hx hy;rcases hc with⟨a1,b1,h,e⟩|⟨a1,b1,e⟩|⟨a1,b1,e⟩|⟨a1,b1,h,e⟩|⟨a1,b1,h,h2,e⟩|⟨a1,b1,h,h2,e⟩
 ·rw[e];clear e
  subst a1 b1 h;go_in;go_wp2_with fail;go_ret;exact⟨aJ (by rw[aW,aW,Aa]),aN⟩
 ·rw[e];clear e
  subst a1;have z2:(t2== -1)=false:=by simp;omega
  go_in;go_wp2_with fail;go_ret;exact⟨rfl,aN⟩
 ·rw[e];clear e
  subst b1;have z2:(t1== -1)=false:=by simp;omega
  go_in;go_wp2_with fail;go_ret;exact⟨rfl,aN⟩
 ·rw[e];clear e
  have z1:(t1== -1)=false:=by simp;omega
  have z2:(t2== -1)=false:=by simp;omega
  have z3:(t1 != t2)=true:=by simpa using h
  clear h;go_in;go_wp2_with fail;go_ret;exact⟨rfl,aN⟩
 ·rw[e];clear e
  subst h;have z1:(t1== -1)=false:=by simp;omega
  have z3:(t1 != t1)=false:=by simp
  have z4:(r1 != r2)=true:=by simpa using h2
  clear h2;go_in;go_wp2_with fail;go_ret;exact⟨rfl,aN⟩
 ·rw[e];clear e
  subst h h2;have z1:(t1== -1)=false:=by simp;omega
  have z3:(t1 != t1)=false:=by simp
  have z4:(r1 != r1)=false:=by simp
  go_in;go_wp2_with fail;go_ret;exact⟨aJ (by rw[aW,aW,Aa]),aN⟩
end Go.Proofs.YtkbbgjloifmmbaaGreatDoor

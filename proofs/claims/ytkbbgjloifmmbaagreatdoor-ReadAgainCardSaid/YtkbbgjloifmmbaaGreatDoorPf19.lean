/- What ReadAgainP leans on, part 19. -/
import Derived.Test.YtkbbgjloifmmbaaGreatDoorPf15
import Derived.Test.YtkbbgjloifmmbaaGreatDoorPf16
set_option linter.unusedVariables false
set_option maxRecDepth 100000
set_option maxHeartbeats 6400000
open _root_.Go.Proofs.Tryz
open _root_.Go.Op renaming stringOp->aBG
open _root_.Go.Lib renaming itoa->aA9
open _root_.Go.Value renaming string->aBF
namespace Go.Proofs.YtkbbgjloifmmbaaGreatDoor
variable{a ag e:Int}{N k:Nat}{t:aT}{c l n r r1 s:Tx}{w' w0:World}
def dB(s:Tx):Int:=s.count 40-s.count 41
theorem akv{d:Nat->Nat}: ∀{l:List Tok},(∀t∈l,d t.2=t.2)->zP d l=l
 |[],_=>rfl
 |t::l,h=>by rw[L1,akv fun u hu=>h u (by simp[hu]),h t aq]
theorem Xo: ∀(n p:Nat) (s:Tx),s.length<=n-> ∀t∈lex p s,t.2<=p+s.length
 |_,p,[],_,t,ht=>by rw[lex_nil]at ht;cases ht
 |0,_,_::_,h,_,_=>absurd h aq
 | n+1,p,c::r,h,t,ht=>by
   simp only[cy]at h⊢;cases hb:aH c with
   |true=>rw[Gs p r hb]at ht;have:=Xo n (p+1) r ah t ht;omega
   | false=>
     have hp:=ri c r;have hle:=yR c r;rw[KC p r hb]at ht;rcases cq.1 ht with rfl|ht
     ·simp only;omega
     have:=Xo n _ _ aC t ht
     simp only[dG,cy]at this;omega
theorem ahN(h:dI ag s= .error (e,k)):k<=s.length:=by
 unfold dI at h
 split at h
 ·cases h;exact dW _
 split at h
 ·cases h;exact dW _
 split at h
 ·rename_i l hl
  cases h;have hz:zP (fun n=>min n s.length) (lex 0 s)=lex 0 s:=akv fun t ht=>by have:=Xo _ 0 s (aX _) t ht;omega
  have:=abQ ag (fun n=>min n s.length) (lex 0 s);rw[hz,hl]at this;have e2:l=zP (fun n=>min n s.length) l:=by injection this
  cases l with
  |nil=>exact aX _
  | cons t l=>
    rw[L1]at e2;have e3:=congrArg Prod.snd (Ch e2).1;show t.2<=s.length;simp only at e3;omega
 split at h
 ·cases h
 cases h;exact dW _
theorem afe(h:iF N r= .ok (a,n,r1)):r1=cP (aM r):=by
 unfold iF at h
 dsimp only at h
 split at h
 ·cases h
 split at h
 ·cases h
 cases h;rfl
theorem ab4(h:fV N r= .ok (c,r1)):(r1=r/\(bB (aM r)).head?≠some 34)\/r1=cP (aM r):=by
 unfold fV at h
 dsimp only at h
 split at h
 ·rename_i h0;cases h;exact .inl ⟨rfl,h0⟩
 split at h
 ·cases h
 cases h;exact .inr rfl
theorem afP{l:List bF}(h:gj ag N r= .ok (l,r1)):(aM r).head?=some 123/\(125:UInt8)∈aM r/\r1.length<=r.length:=by
 unfold gj at h
 dsimp only at h
 split at h
 ·cases h
 rename_i h0
 rw[tf]at h0
 split at h
 ·cases h
 cases h
 refine⟨MO h0.1,MO h0.2,?_⟩;have a:=(iu (l:=aM r) (· != 125)).length_le;have b:=vB r;rw[dG];omega
open Go.RowKit
theorem KY:UF aH 85:=fun c=>Jo c _ ay
theorem K8(s:Tx)(a b:Nat)(hab:a<=b)(hb:b<=s.length)(hl:s.length<=262144)(w:World):Calls prog 86 #[.string (tx s),.int .i64 a,.int .i64 b] w fun e w'=>e= .returned (.int .i64 (b-(aM (di s a b)).length:Nat))/\w=w':=by
 obtain⟨j,h1,h2,h3,h4,h5⟩:=ua aH (di s a b) _ 0 (aX _) (dW _);have hlen:=QE (a:=a) hb;obtain⟨J,hJ⟩:=aF (b-(aM (di s a b)).length)
 have jZ:J=a+j:=by
  have:=congrArg List.length (kH (p:=aH) (l:=di s a b));rw[jg]at h5;rw[bu]at this;rw[<-hJ];unfold aM;omega
 rw[hJ]
 have HS:=af (show ∀q,a<=q->q<J-> ∃x,s[q]? =some x/\aH x=true from fun q h6 h7=>by
  obtain⟨x,hx,hb⟩:=h3 (q-a) (dW _) ah;rw[QD ah,show a+(q-a)=q by omega]at hx;exact⟨x,hx,hb⟩)
 have HE:=af (show J<b-> ∃x,s[J]? =some x/\aH x=false from fun aA=>by
  obtain⟨x,hx⟩: ∃x,(di s a b)[j]? =some x:=⟨_,aV ah⟩;have:=h4 x hx;rw[QD ah,<-jZ]at hx;exact⟨x,hx,this⟩)
 have hjb:J<=b:=ah;have hja:a<=J:=ah;have eG:b<=262144:=ah;clear h1 h2 h3 h4 h5 hlen jZ hb hl hab hJ;go_in;go_wp2_with fail
 go_loop [1] (fun x=> ∃q:Nat,a<=q/\q<=J/\x= .int .i64 q) (fun x=>J-(intOf x).toNat)
 ·exact⟨a,aX _,hja,rfl⟩
 obtain⟨q,hqa,hqj,rfl⟩:=hrel
 by_cases aA:q<J
 ·obtain⟨x,hx,jK⟩:=HS.oo q hqa aA
  have ix:=cH s q x hx;have zk:decide ((q:Int)<(b:Int))=true:=aC;have HB:=af jK;clear hx jK
  go_wp2_with (go_at_call 85;refine aK (KY x _) ?_;rw[HB.oo])
  go_round
  case rel=>exact⟨q+1,ah,ah,by go_num⟩
  case measure=>simp[intOf];omega
 obtain rfl:q=J:=ah
 by_cases hkn:q<b
 ·obtain⟨x,hx,jK⟩:=HE.oo hkn
  have ix:=cH s q x hx;have zk:decide ((q:Int)<(b:Int))=true:=aC;have HB:=af jK;clear hx jK
  go_wp2_with (go_at_call 85;refine aK (KY x _) ?_;rw[HB.oo])
  go_ret;exact⟨rfl,rfl⟩
 have zk:decide ((q:Int)<(b:Int))=false:=aC
 exact Cw
theorem Yg(s:Tx)(a b:Nat)(hab:a<=b)(hb:b<=s.length)(hl:s.length<=262144)(w:World):Calls prog 87 #[.string (tx s),.int .i64 a,.int .i64 b] w fun e w'=>e= .returned (.int .i64 (a+(cR (di s a b)).length:Nat))/\w=w':=by
 obtain⟨j,h1,h2,h3,h4,h5⟩:=ua aH (di s a b).reverse _ 0 (aX _) (dW _);have hlen:=QE (a:=a) hb;rw[BT]at h2;obtain⟨J,hJ⟩:=aF (a+(cR (di s a b)).length)
 have jZ:J=b-j:=by
  have:=congrArg List.length (kH (p:=aH) (l:=(di s a b).reverse));rw[jg]at h5;rw[bu,BT]at this;rw[<-hJ];unfold cR;rw[BT];omega
 rw[hJ]
 have rv: ∀i,i<b-a->(di s a b).reverse[i]? =s[b-1-i]? :=fun i hi=>by
  rw[List.getElem?_reverse ah,hlen,QD ah]
  congr 1;omega
 have HS:=af (show ∀q,J<q->q<=b-> ∃x,s[q-1]? =some x/\aH x=true from fun q h6 h7=>by
  obtain⟨x,hx,hb⟩:=h3 (b-q) (dW _) ah;rw[rv _ ah,show b-1-(b-q)=q-1 by omega]at hx;exact⟨x,hx,hb⟩)
 have HE:=af (show a<J-> ∃x,s[J-1]? =some x/\aH x=false from fun aA=>by
  obtain⟨x,hx⟩: ∃x,(di s a b).reverse[j]? =some x:=⟨_,aV (by rw[BT];omega)⟩;have:=h4 x hx;rw[rv j ah,show b-1-j=J-1 by omega]at hx;exact⟨x,hx,this⟩)
 have hjb:J<=b:=ah;have hja:a<=J:=ah;have eG:b<=262144:=ah;clear h1 h2 h3 h4 h5 hlen jZ hb hl rv hJ hab;go_in;go_wp2_with fail
 go_loop [2] (fun x=> ∃q:Nat,J<=q/\q<=b/\x= .int .i64 q) (fun x=>(intOf x).toNat)
 ·exact⟨b,hjb,aX _,rfl⟩
 obtain⟨q,hqa,hqj,rfl⟩:=hrel
 by_cases aA:J<q
 ·obtain⟨x,hx,jK⟩:=HS.oo q aA hqj
  have ix:=cH s (q-1) x hx;rw[show((q-1:Nat):Int)=(q:Int)-1 by omega]at ix;have zk:decide ((a:Int)<(q:Int))=true:=aC;have HB:=af jK;clear hx jK
  go_wp2_with (go_at_call 85;refine aK (KY x _) ?_;rw[HB.oo])
  go_round
  case rel=>exact⟨q-1,ah,ah,by congr 1;omega⟩
  case measure=>simp[intOf];omega
 obtain rfl:q=J:=ah
 by_cases hkn:a<q
 ·obtain⟨x,hx,jK⟩:=HE.oo hkn
  have ix:=cH s (q-1) x hx;rw[show((q-1:Nat):Int)=(q:Int)-1 by omega]at ix;have zk:decide ((a:Int)<(q:Int))=true:=aC;have HB:=af jK;clear hx jK
  go_wp2_with (go_at_call 85;refine aK (KY x _) ?_;rw[HB.oo])
  go_ret;exact⟨rfl,rfl⟩
 have zk:decide ((a:Int)<(q:Int))=false:=aC
 exact Cw
theorem alG{r2 r3 r4:Tx}{i:List bF}{C:List Cd}(hl:s.length<=262144)(h1:iF s.length s= .ok (a,n,r1))(h2:fV s.length r1= .ok (c,r2))(h3:gj a s.length r2= .ok (i,r3))(h4:gB a s.length r3= .ok (C.map (·.l),r4)):
 n.length<=262144/\c.length<=262144/\(∀x∈i,zV x)/\i.length<=1000000/\(∀x∈C,∀i∈x.l,xX i)/\C.length<=1000000/\ ∀x∈C,x.l.length<=1000000:=by
 have a1:=(OL h1).2;have a2:=ab3 h2;have a3:=afe h1;have a4:=Qu s;rw[<-a3]at a4
 have a5:r2.length<=r1.length:=by
  rcases ab4 h2 with⟨e, -⟩|e
  ·rw[e];exact aX _
  rw[e];exact Qu _
 have a6:=afN h3;have a7:=(afP h3).2.2;obtain⟨b1,b2⟩:=ajH h4;have b3:=ajK h4;rw[eT]at b1;exact⟨ ah,ah,afR h3,ah,fun x hx=>b3 x.l (I4 hx),ah,fun x hx=>by have:=b2 x.l (I4 hx);omega⟩
open Go.Sort
theorem ak7(h:lK t=0):dh t.ag t.q t.node=0:=by
 unfold lK at h
 by_cases h1:dh t.ag t.q t.node=0
 ·exact h1
 rw[ak h1]at h;exact absurd h h1
theorem alv(h:gT t=0): ∀x∈t.init,jm t.ag t.code.length x=true:=by
 unfold gT at h
 by_cases h1:1024<t.init.length
 ·rw[ak h1]at h;cases h
 rw[ai h1]at h
 split at h
 ·rename_i h2
  rw[bV,fP]at h2;exact h2.1
 cases h
def uN(t:aT):Tx:=if t.ag=2 then[82,73,83,67,86,32]else[88,56,54,32]
theorem aoR(t:aT):(uN t).length<=6:=by unfold uN;split<;>simp
structure Good(t:aT):Prop where
 ag:bD t.ag=true
 title:ju t.name=true
 mh:jH t.bG=true
 c1:1<=t.code.length
 c16:t.code.length<=16
 Ud: ∀x∈t.code,x.l.length<=256
 afA:t.init.length<=1024
 first: ∀x∈t.init,jm t.ag t.code.length x=true
 cond:dh t.ag t.q t.node=0
theorem Good.of(h:cM t=0):Good t:=by
 obtain⟨a,b,c,d,e, -⟩:=ayZ h;rw[bV]at b;obtain⟨k1,k5,k6⟩:=Us c;exact⟨a,b.1,b.2,k1,k5,k6,TU d,alv d,ak7 e⟩
theorem Good.inits(h:Good t)(k:Nat):(tT t k).length<=102400:=by
 have:=apP (t:=t) (fun x hx=>afL h.ag h.c16 (h.first x hx)) k;have:=h.afA;omega
theorem atg{r:Int}(h:cM t=r)(hr:r≠0):nw t=([],r):=by unfold nw;rw[ak (by rw[h];exact hr),h]
theorem atf(h:cM t=0)(hl:262144<(uI t).length):nw t=([],3):=by unfold nw;rw[ai (by rw[h];simp),ak hl]
theorem ath(h:cM t=0)(hl: ¬262144<(uI t).length):nw t=(uI t,0):=by unfold nw;rw[ai (by rw[h];simp),ai hl]
def Hg(ag:Int)(x:bF):Tx:=if x.aO= -1 then x.aj else aA9 x.aO++[58]++sJ ag x.aR
def zB(x:bF):Tx:=if x.bH=[]then aA9 x.n else x.bH
theorem afK(ag:Int)(x:bF):jL ag x=Hg ag x++[61]++zB x++[59,10]:=rfl
theorem ap9(l:Tx)(b:Bool)(h:(tx l).toList.isEmpty=b):(b=true->l=[])/\(b=false->l≠[]):=by
 rw[bU]at h;subst h;cases l<;>simp
theorem bW(s:Tx)(hE:Below w0.heap.size w0 w')(hb:dR w' w0.heap.size w0.heap.size bT [] l)(hl:l.length+s.length<=140737488355328):
 Calls prog 56 #[.pointer (some ⟨w0.heap.size,0,none⟩),.string (tx s)] w' fun e w''=>(e= .returned (.tuple #[.int .i64 s.length,.nilIface])/\dR w'' w0.heap.size w0.heap.size bT [] (l++s))/\Below w0.heap.size w0 w'':=
 (Fa w0.heap.size w0.heap.size bT [] l s w' Jp hb hl hE.size).mono fun e w'' ⟨h1,h2,h3,_⟩=>⟨⟨h1,h2⟩,hE.trans h3⟩
theorem bWo(s:Tx)(hE:Below w0.heap.size w0 w')(hb:dR w' w0.heap.size w0.heap.size bT [] l)(hl:l.length+s.length<=140737488355328):
 Calls prog 56 #[.pointer (some ⟨w0.heap.size,0,none⟩),.string (tx s)] w' fun e w''=>(e= .returned (.tuple #[.int .i64 s.length,.nilIface])/\dR w'' w0.heap.size w0.heap.size bT [] (l++s))/\Below w0.heap.size w0 w''/\Lib.OthersKept gN (some w0.heap.size) w' w'':=
 (Fa w0.heap.size w0.heap.size bT [] l s w' Jp hb hl hE.size).mono fun e w'' ⟨h1,h2,h3,h4⟩=>⟨⟨h1,h2⟩,hE.trans h3,h4⟩
theorem au.others{w:World}{B E size n c b:Nat}{a:Option Addr}{xs:List Value}(h:au w B E size a n c xs)(hk:Lib.OthersKept gN (Option.some b) w w')(hb:b<B)(hE:E≠gN):au w' B E size a n c xs:=by
 obtain⟨h1,h2⟩:=h;refine⟨h1,?_⟩;rcases h2 with⟨h2,h0⟩|⟨g,cap,cur,hv,AE,hh,r⟩
 ·exact .inl ⟨h2,h0⟩
 exact .inr ⟨g,cap,cur,hv,AE,hk g _ hh aC (fun c fz e=>by cases e;exact hE rfl),r⟩
theorem an4(t:aT)(w:World)(h:jz w t)(g:Gl w):Calls prog 23 #[vT t] w (bg w (.tuple #[.string (tx (nw t).1),.int .i64 (nw t).2])):=by
 have A:=al w (dZ t);have b0:=kf.new w t;have HI:=af (h.keep A);have HA:=af A;have HG:=af (g.below A);have CH:=Vh t _ (h.keep A);obtain⟨r,hr⟩:=aF (cM t);rw[hr]at CH;have CH:=af CH;have HR:=af hr;clear h A hr g;go_in;go_upto_region 1 with(fail);generalize w.alloc (dZ t)=W1 at*;obtain⟨c0,c1,c2,c3,c4,c5,c6,c7,c8,c9,c10,c11⟩:=b0.cells;go_wp2_with fail;refine aQ CH.oo fun w2 E=>?_
 clear c0 c1 c2 c3 c4 c5 c6 c7 c8 c9 c10 c11 CH
 by_cases h0:r=0
 ·subst h0
  have G:=af (Good.of HR.oo);have b2:=b0.below E;have Ib:=af (HI.oo.keep E);have sP:=af (HG.oo.below E);have HW:=af (aI HA.oo E);have F0:=al w2 (.cells #[.pointer none,.slice none 0 0] bT);have B0:dR (w2.alloc (.cells #[.pointer none,.slice none 0 0] bT)) w2.heap.size w2.heap.size bT [] []:=dR.new w2 bT [];clear b0 HI HG E HA;go_upto_region 6 with(fail);generalize w2.alloc (.cells #[.pointer none,.slice none 0 0] bT)=W3 at*;obtain⟨c0,c1,c2,c3,c4,c5,c6,c7,c8,c9,c10,c11⟩:=(b2.below F0).cells
  go_upto_if 22 with(fail)
  go_cut [6] (fun x wx=>x= .string (tx (uN t))/\wx=W3)
  case first=>
   by_cases ha:t.ag=2
   ·have z:(t.ag==2)=true:=by simp;exact ha
    have HZ:=af (show uN t=[82,73,83,67,86,32] by unfold uN;rw[ak ha]);clear ha;go_wp2_with fail
    go_meet
    exact acI
   have z:(t.ag==2)=false:=by simp;exact ha
   have HZ:=af (show uN t=[88,56,54,32] by unfold uN;rw[ai ha]);clear ha;go_wp2_with fail
   go_meet
   exact acI
  case rest=>
   obtain⟨rfl,rfl⟩:=hcut;have hl0:=aoR t
   have hname:t.name.length<=1024:=by
    have:=G.oo.title;unfold ju at this;simp only[bV,dw]at this;exact this.2.1
   have aAb:t.bG.length<=262144:=by
    have:=G.oo.mh;unfold jH at this;simp only[bV,dw]at this;exact this.1
   have k1: ∀w,(aBG .add (tx (uN t)) (tx t.name)).run prog w= .ok (.string (tx (uN t++t.name))) w:=lX _ _ ah;have k2: ∀w,(aBG .add (tx (uN t++t.name)) ⟨#[10]⟩).run prog w= .ok (.string (tx (CV t))) w:=lX (uN t++t.name) [10] aC;have hh:=afj G.oo.title;obtain⟨hd,FO⟩:=aF (CV t);rw[FO]at k2 hh;have HHD:=af FO;have WR:=af (bW hd F0 B0 aC);clear FO;go_wp2_with fail;refine WR.oo.mono ?_;rintro e w4 ⟨⟨rfl,B1⟩,F1⟩;clear k1 k2 WR F0 B0 c0 c1 c2 c3 c4 c5 c6 c7 c8 c9 c10 c11;obtain⟨c0,c1,c2,c3,c4,c5,c6,c7,c8,c9,c10,c11⟩:=(b2.below F1).cells;rw[eE]at B1
   go_upto_if 31 with(fail)
   go_cut [6] (fun x wx=>dR wx w2.heap.size w2.heap.size bT [] (hd++rW t)/\Below w2.heap.size w2 wx)
   case first=>
    have HY:t.bG≠[]->hd++rW t=hd++([34]++t.bG++[34,10]):=fun hc=>by unfold rW;rw[ai hc]
    have HN:t.bG=[]->hd++rW t=hd:=fun hc=>by unfold rW;rw[ak hc];simp
    have HE: ∀b,(!(tx t.bG).toList.isEmpty)=b->(b=true->t.bG≠[])/\(b=false->t.bG=[]):=fun b hb=>by
     rw[bU]at hb;subst hb;cases hq:t.bG with
     |nil=>simp
     |cons a r=>simp
    have k1: ∀w,(aBG .add ⟨#[34]⟩ (tx t.bG)).run prog w= .ok (.string (tx ([34]++t.bG))) w:=lX [34] t.bG aC;have k2: ∀w,(aBG .add (tx ([34]++t.bG)) ⟨#[34,10]⟩).run prog w= .ok (.string (tx ([34]++t.bG++[34,10]))) w:=lX ([34]++t.bG) [34,10] aC;obtain⟨s1,hs1⟩:=aF ([34]++t.bG);have aAL:s1.length<=262145:=by rw[<-hs1];simp;omega
    rw[hs1]at k1 k2 HY;obtain⟨s2,hs2⟩:=aF (s1++[34,10]);have aAM:s2.length<=262147:=by rw[<-hs2];simp;omega
    rw[hs2]at k2 HY;have WR:=af (bW s2 F1 B1 ah);have HY:=af HY;have HN:=af HN;have HE:=af HE;clear hs1 hs2;go_wp2_with fail
    ·have HB:=af (HE.oo _ ‹(!(tx t.bG).toList.isEmpty)=true›)
     refine WR.oo.mono ?_;rintro e w5 ⟨⟨rfl,B2⟩,F2⟩;have HK:=af (show dR w5 w2.heap.size w2.heap.size bT [] (hd++rW t) by rw[HY.oo (HB.oo.1 rfl)];exact B2);go_wp2_with fail
     go_meet
     exact⟨HK.oo,F2⟩
    have HB:=af (HE.oo _ ‹(!(tx t.bG).toList.isEmpty)=false›)
    have HK:=af (show dR w4 w2.heap.size w2.heap.size bT [] (hd++rW t) by rw[HN.oo (HB.oo.2 rfl)];exact B1)
    go_meet
    exact⟨HK.oo,F1⟩
   case rest=>
    obtain⟨B2,F2⟩:=hcut;have wU:=ab2 G.oo.mh;have hpl:=atd G.oo.title G.oo.mh;have WR:=af (bW [123,10] F2 B2 aC);rw[show hd++rW t++[123,10]=Dv t by unfold Dv;rw[HHD.oo]]at WR;obtain⟨p0,eH⟩:=aF (Dv t);rw[eH]at WR hpl;have HP:=af eH;have Bw:=af G.oo.inits;clear eH c0 c1 c2 c3 c4 c5 c6 c7 c8 c9 c10 c11;go_wp2_with fail;refine WR.oo.mono ?_;rintro e w6 ⟨⟨rfl,B3⟩,F3⟩;clear WR B2 F2 B1 F1;obtain⟨ni,hni⟩:=aF t.init.length;have aAB:ni<=1024:=by rw[<-hni];exact G.oo.afA
    have Ml:=af hni;obtain⟨c0,c1,c2,c3,c4,c5,c6,c7,c8,c9,c10,c11⟩:=(b2.below F3).cells;rw[hni]at c3;clear hni;go_wp2_with fail;clear c0 c1 c2 c3 c4 c5 c6 c7 c8 c9 c10 c11
    go_loopw [41] (fun i wr=> ∃(k:Nat) (l:Tx),k<=ni/\i= .int .i64 k/\l.length<=365600/\Below w2.heap.size w2 wr/\dR wr w2.heap.size w2.heap.size bT [] l/\Hid (l=p0++tT t k)) (fun i _=>ni-(intOf i).toNat)
    ·exact⟨0,p0,ah,rfl,ah,F3,B3,by simp[Hid,apR]⟩
    clear F3 B3;obtain⟨k,l,hk,rfl,hl,F,B,HL⟩:=hrel
    by_cases aA:k<ni
    ·obtain⟨x,hx⟩: ∃x,t.init[k]? =some x:=⟨_,aV (by rw[Ml.oo];exact aA)⟩
     obtain⟨KP,p1,p2,p3,p4⟩:=(Ib.oo.init.below F).yN hx;have ix:=Ib.oo.init.idx wY rR k (by rw[Ml.oo];exact aA) t.ic;rw[Ml.oo]at ix;have Rn:=af (G.oo.first x (cV hx));have hil:=Bw.oo (k+1);have hst:=apQ hx;have hxl:=afL G.oo.ag G.oo.c16 Rn.oo;rw[afK]at hxl;have HT:=af (show l++(Hg t.ag x++[61]++zB x++[59,10])=p0++tT t (k+1) by rw[HL.oo,hst,afK];simp);have hls:(l++(Hg t.ag x++[61]++zB x++[59,10])).length<=365600:=by rw[HT.oo];simp;omega
     have HWI:=af (Ib.oo.wide x (cV hx));clear hx hst hil;have A4:=al wr (lA x);have x0:aW (wr.alloc (lA x)) wr.heap.size (lM x):=aW.new _ _ _;go_upto_region 15 with(fail);generalize wr.alloc (lA x)=W4 at*;have B4:=B.below A4;have F4:=aI F A4;have ur:=af x0;clear KP p1 p2 p3 p4 ix A4 F B;obtain⟨KP,p1,p2,p3,p4⟩:=Zr.cells x0;obtain⟨c0, -⟩:=(b2.below F4).cells
     go_upto_if 49 with(fail)
     go_cut [9] (fun y wx=>y= .string (tx (Hg t.ag x))/\Below W4.heap.size W4 wx)
     case first=>
      rcases Om G.oo.ag G.oo.c16 Rn.oo with⟨aj,nn,rfl,-, -⟩|⟨i,kk,v,nn,rfl,ao4,-, hrk, -⟩
      ·go_wp2_with fail
       go_meet
       exact Fq
      have z:((i:Int) != -1)=true:=ye.2 ah
      have HZ:=af (show Hg t.ag ⟨i,kk,[],v,nn⟩=aA9 (i:Int)++[58]++sJ t.ag kk from ai (show ¬((i:Int)= -1)from by omega));have hq:=afB i ao4;have hr:=aiL hrk;have CA:=af (fun(d:Nat) (os:Array Obj)=>tU (i:Int) ah ah (grow (redrawn W4 d) os) (sP.oo.below (F4.trans ((below_regrown W4 d os).mono F4.size))));have CB:=af (fun(d:Nat) (os:Array Obj)=>an5 t.ag kk hrk (grow (redrawn W4 d) os) (sP.oo.below (F4.trans ((below_regrown W4 d os).mono F4.size))));obtain⟨q,hqe⟩:=aF (aA9 (i:Int));obtain⟨r,hre⟩:=aF (sJ t.ag kk);rw[hqe]at CA hq HZ;rw[hre]at CB hr HZ;have k1: ∀w,(aBG .add (tx q) ⟨#[58]⟩).run prog w= .ok (.string (tx (q++[58]))) w:=lX q [58] aC;have k2: ∀w,(aBG .add (tx (q++[58])) (tx r)).run prog w= .ok (.string (tx (q++[58]++r))) w:=lX (q++[58]) r aC;obtain⟨s1,hs1⟩:=aF (q++[58]);rw[hs1]at k1 k2 HZ;obtain⟨s2,hs2⟩:=aF (s1++r);rw[hs2]at k2 HZ;clear hs1 hs2 hqe hre hrk;go_wp2_with fail;have cA:=fun(d:Nat) (os:Array Obj)=>Calls.regrown_of (yY (CA.oo d os))
      have cB:=fun(d:Nat) (os:Array Obj)=>Calls.regrown_of (yY (CB.oo d os))
      have c0:=cell_regrown c0;have KP:=cell_regrown KP;have p1:=cell_regrown p1;have p2:=cell_regrown p2;have p3:=cell_regrown p3;have p4:=cell_regrown p4;refine wp_region_quiet_below bM bM ?_
      repeat(go_big_quiet_step (first|exact cA _ _|exact cB _ _))
      refine mW ?_;intro _ hw';obtain⟨⟨dq,dJ⟩,hw''⟩:=hw';subst hw'';have EQ:=af (below_regrown W4 dq dJ);go_wp2_with fail
      go_meet
      exact⟨congrArg aBF (by rw[HZ.oo]),EQ.oo⟩
     case rest=>
      obtain⟨rfl,E4⟩:=hcut;have B5:=B4.below E4;have F5:=aI F4 E4;clear KP p1 p2 p3 p4 c0;obtain⟨KP,p1,p2,p3,p4⟩:=Zr.cells (ur.oo.below E4);have HX1:=af (ur.oo.below E4);clear ur E4 B4 F4
      go_upto_if 64 with(fail)
      go_cut [10] (fun y wx=>y= .string (tx (zB x))/\Below wc.heap.size wc wx)
      case first=>
       have HE:=af (ap9 x.bH);have HY:x.bH=[]->zB x=aA9 x.n:=fun h=>by unfold zB;rw[ak h]
       have HN:x.bH≠[]->zB x=x.bH:=fun h=>by unfold zB;rw[ai h]
       have Zx:x.bH=[]-> -9223372036854775808<=x.n/\x.n<=9223372036854775807:=fun h=>by
        rcases Om G.oo.ag G.oo.c16 Rn.oo with⟨aj,nn,rfl,-, h2⟩|⟨i,kk,v,nn,rfl,-, -, -, h3⟩
        ·have:=Ds h2;dsimp only;omega
        rcases h3 with⟨h4,-, -⟩|⟨-, h5⟩
        ·exact absurd h h4
        have:=Ds h5;dsimp only;omega
       have IT:=af (fun(h:x.bH=[])=>tU x.n (Zx h).1 (Zx h).2 wc (sP.oo.below F5));have HY:=af HY;have HN:=af HN;clear Zx;go_wp2_with fail
       ·have HB:=af ((HE.oo _ ‹(tx x.bH).toList.isEmpty=true›).1 rfl)
        refine aQ (IT.oo HB.oo) fun w7 E7=>?_
        have HE7:=af E7;go_wp2_with fail
        go_meet
        exact⟨congrArg aBF (by rw[HY.oo HB.oo]),HE7.oo⟩
       have HB:=af ((HE.oo _ ‹(tx x.bH).toList.isEmpty=false›).2 rfl)
       go_meet
       exact⟨congrArg aBF (by rw[HN.oo HB.oo]),bS _ _⟩
      case rest=>
       obtain⟨rfl,E6⟩:=hcut;have B6:=B5.below E6;have F6:=aI F5 E6;clear KP p1 p2 p3 p4 HX1 E6 B5 F5;obtain⟨T,hT⟩:=aF (Hg t.ag x);obtain⟨D,hD⟩:=aF (zB x);rw[hT,hD]at HT hls hxl;rw[hT,hD];have k1: ∀w,(aBG .add (tx T) ⟨#[61]⟩).run prog w= .ok (.string (tx (T++[61]))) w:=lX T [61] (by simp at hxl ⊢; omega);have k2: ∀w,(aBG .add (tx (T++[61])) (tx D)).run prog w= .ok (.string (tx (T++[61]++D))) w:=lX (T++[61]) D (by simp at hxl ⊢; omega);have k3: ∀w,(aBG .add (tx (T++[61]++D)) ⟨#[59,10]⟩).run prog w= .ok (.string (tx (T++[61]++D++[59,10]))) w:=lX (T++[61]++D) [59,10] (by simp at hxl ⊢; omega);obtain⟨s1,hs1⟩:=aF (T++[61]);rw[hs1]at k1 k2 k3 HT hls hxl;obtain⟨s2,hs2⟩:=aF (s1++D);rw[hs2]at k2 k3 HT hls hxl;obtain⟨s3,hs3⟩:=aF (s2++[59,10]);rw[hs3]at k3 HT hls hxl;have WR:=af (bW s3 F6 B6 ah);obtain⟨l2,gh⟩:=aF (l++s3);rw[gh]at WR HT hls;clear hT hD hs1 hs2 hs3 gh;go_wp2_with fail;refine WR.oo.mono ?_;rintro e w8 ⟨⟨rfl,B7⟩,F7⟩;go_wp2_with fail
       go_roundw;exact⟨k+1,l2,ah,by go_num,hls,F7,B7,HT⟩;exact ep
    have hkn:k=ni:=ah
    have WR:=af (bW [125,10] F B aC);obtain⟨p1,Wh⟩:=aF (l++[125,10]);rw[Wh]at WR;have aAG:p1.length<=365602:=by rw[<-Wh];simp;omega
    obtain⟨m,hm⟩:=aF ((nZ t).length);have HM:=af hm
    have aAt:m<=257:=by
     rw[<-hm,QH];have:=V4 G.oo.Ud;rw[Kf];omega
    have HP1:=af (show p1=p0++tT t t.init.length++[125,10] by rw[<-Wh,HL.oo,hkn,Ml.oo]);have HFT:=af (show uI t=p1++vz t m++kD t.ag t.q t.node++[10] by rw[an7,HP1.oo,HP.oo,<-QH,HM.oo]);have hrl:=aw4 G.oo.c16 G.oo.Ud;have Il:=af hrl;clear hkn Wh hrl hl hm;go_wp2_with fail;refine WR.oo.mono ?_;rintro e w7 ⟨⟨rfl,B7⟩,F7⟩;clear WR F B;have Io:=af (an8 t G.oo.c1 G.oo.c16 G.oo.Ud w7 (Ib.oo.keep F7) (sP.oo.below F7));obtain⟨c0,c1,c2,c3,c4,c5,c6,c7,c8,c9,c10,c11⟩:=(b2.below F7).cells;go_wp2_with fail;refine Io.oo.mono ?_;rintro e w8 ⟨la,lc,rfl,o,E8⟩;rw[HM.oo]at o⊢;have hw7:w2.heap.size<w7.heap.size:=B7.base.2;have B8:=B7.below E8;have F8:=aI F7 E8;clear E8 B7 F7 Io c0 c1 c2 c3 c4 c5 c6 c7 c8 c9 c10 c11;go_wp2_with fail
    go_loopw [80] (fun i wr=> ∃(j:Nat) (l:Tx),j<=m/\i= .int .i64 j/\l.length<=910000/\Below w2.heap.size w2 wr/\dz wr w7.heap.size la m lc (nZ t)/\dR wr w2.heap.size w2.heap.size bT [] l/\Hid (l=p1++vz t j)) (fun i _=>m-(intOf i).toNat)
    ·exact⟨0,p1,ah,rfl,ah,F8,o,B8,by simp[Hid,aw6]⟩
    clear F8 B8 o;obtain⟨j,l,hj,rfl,hl,F,o,B,ZH⟩:=hrel
    by_cases eX:j<m
    ·obtain⟨s,hs⟩: ∃s,(nZ t)[j]? =some s:=⟨_,aV (by rw[HM.oo];exact eX)⟩
     have TX:=dz.lF o (by rw[HM.oo];omega);have KP:=TX.at hs;have ix:=TX.idx j (by rw[HM.oo];exact eX) lc;rw[HM.oo]at ix;have uY:=ajM G.oo.c16 (cV hs);have k2: ∀w,(aBG .add (tx s) ⟨#[10]⟩).run prog w= .ok (.string (tx (s++[10]))) w:=lX s [10] aC;have HT:=af (show l++(s++[10])=p1++vz t (j+1) by rw[ZH.oo,aw5 hs];simp);have hrl:=Il.oo (j+1);have eL:(l++(s++[10])).length<=910000:=by rw[HT.oo];simp;omega
     obtain⟨s1,hs1⟩:=aF (s++[10]);rw[hs1]at k2 HT eL;have WR:=af (bWo s1 F B (by rw[bu]at eL;omega));obtain⟨l2,gh⟩:=aF (l++s1);rw[gh]at WR HT eL;clear hs hs1 gh TX hrl uY;go_wp2_with fail;refine WR.oo.mono ?_;rintro e w9 ⟨⟨rfl,B9⟩,F9,K9⟩;have o9:=au.others o K9 hw7 ay;clear K9 o F B KP WR;go_wp2_with fail
     go_roundw;exact⟨j+1,l2,ah,by go_num,eL,F9,o9,B9,HT⟩;exact ep
    have hjm:j=m:=ah
    obtain⟨c0,c1,c2,c3,c4,c5,c6,c7,c8,c9,c10,c11⟩:=(b2.below F).cells;have PC:=af (amS t.ag t.q t.node wr (Ib.oo.node.keep F) G.oo.cond (sP.oo.below F));have hcl:=ax4 G.oo.cond;have Ed:=af (show uI t=l++(kD t.ag t.q t.node++[10]) by rw[HFT.oo,ZH.oo,hjm];simp);obtain⟨d,hd⟩:=aF (kD t.ag t.q t.node);rw[hd]at PC hcl Ed;have k2: ∀w,(aBG .add (tx d) ⟨#[10]⟩).run prog w= .ok (.string (tx (d++[10]))) w:=lX d [10] aC;obtain⟨d1,hd1⟩:=aF (d++[10]);have aAc:d1.length<=102501:=by rw[<-hd1];simp;omega
    have aoQ:d1≠[]:=by rw[<-hd1];simp
    rw[hd1]at k2 Ed;have WR:=af (fun(w':World) (hE:Below w2.heap.size w2 w') (hb:dR w' w2.heap.size w2.heap.size bT [] l)=>bW d1 hE hb ah);obtain⟨l2,gh⟩:=aF (l++d1);have ao9:l2≠[]:=by rw[<-gh];simp[aoQ]
    rw[gh]at WR Ed;obtain⟨n2,hn2⟩:=aF l2.length;have iV:=af hn2;have ZL:=af ao9;clear hd hd1 gh hn2 hjm ao9 aoQ o;go_wp2_with fail;refine aQ PC.oo fun w9 E9=>?_
    have B9:=B.below E9;have F9:=aI F E9;clear c0 c1 c2 c3 c4 c5 c6 c7 c8 c9 c10 c11 PC E9 B F;go_wp2_with fail;refine(WR.oo _ F9 B9).mono ?_;rintro e LJ ⟨⟨rfl,Zq⟩,Zu⟩;clear WR F9 B9;have LN:=af (alC w2.heap.size w2.heap.size bT [] l2 LJ Zq);rw[iV.oo]at LN;have ST:=af (TZ w2.heap.size w2.heap.size bT [] l2 LJ Zq ZL.oo);go_wp2_with fail;refine LN.oo.mono ?_;rintro e w11 ⟨rfl,rfl⟩
    by_cases hbig:262144<n2
    ·have HV:=af (atf HR.oo (by rw[Ed.oo,iV.oo];exact hbig))
     go_wp2_with fail
     (try go_simp)
     go_ret2;rw[HV.oo];exact⟨rfl,aI HW.oo Zu⟩
    have HV:=af (ath HR.oo (by rw[Ed.oo,iV.oo];exact hbig))
    go_wp2_with fail;refine ST.oo.mono ?_;rintro e w12 ⟨rfl,F12⟩;go_wp2_with fail
    (try go_simp)
    go_ret2;rw[HV.oo,Ed.oo];exact⟨rfl,HW.oo.trans ((Zu.trans F12).mono HW.oo.size)⟩
 have z:(r != 0)=true:=aS h0
 have HV:=af (atg HR.oo h0);clear h0;go_wp2_with fail
 (try go_simp)
 go_ret2;rw[HV.oo];exact⟨rfl,aI HA.oo E⟩
theorem asN(h:dI ag s= .error (e,k)):e≠0:=by
 unfold dI at h
 split at h
 ·cases h;decide
 split at h
 ·cases h;decide
 split at h
 ·cases h;decide
 rename_i q x _
 by_cases h0:dh ag q x=0
 ·simp only[ak h0]at h;cases h
 simp only[ai h0]at h;cases h;exact h0
theorem aoV(h:iF N r= .error (e,k)):e≠0:=by
 unfold iF at h
 dsimp only at h
 split at h
 ·cases h;decide
 split at h
 ·cases h;decide
 cases h
theorem anr(h:fV N r= .error (e,k)):e≠0:=by
 unfold fV at h
 dsimp only at h
 split at h
 ·cases h
 split at h
 ·cases h;decide
 cases h
theorem X4{ag:Int}{N:Nat}: ∀{L:List Tx} {v:Tx} {aD:List bF} {e:Int} {k:Nat},iS ag N L v aD= .error (e,k)->e≠0
 |[],v,aD,e,k,h=>by cases h
 | p::L,v,aD,e,k,h=>by
   rw[iS]at h
   split at h
   ·exact X4 h
   split at h
   ·cases h;decide
   exact X4 h
theorem apS(h:gj ag N r= .error (e,k)):e≠0:=by
 unfold gj at h
 dsimp only at h
 split at h
 ·cases h;decide
 split at h
 ·rename_i x hx;obtain⟨x1,x2⟩:=x;cases h;exact X4 hx
 cases h
theorem Ui{ag:Int}{N:Nat}: ∀{L:List Tx} {v:Tx} {aD:List (List aL)} {e:Int} {k:Nat},fD ag N L v aD= .error (e,k)->e≠0
 |[],v,aD,e,k,h=>by cases h
 |c::L,v,[],e,k,h=>by cases h
 | c::L,v,x::aD,e,k,h=>by
   rw[fD]at h
   split at h
   ·split at h
    ·rename_i y hy;obtain⟨y1,y2⟩:=y;cases h;exact Ui hy
    cases h
   split at h
   ·cases h;decide
   split at h
   ·rename_i y hy;obtain⟨y1,y2⟩:=y;cases h;exact Ui hy
   cases h
theorem ajl{ag:Int}{N:Nat}: ∀{n:Nat} {r:Tx} {aD:List (List aL)} {e:Int} {k:Nat},lD ag N n r aD= .error (e,k)->e≠0
 |0,r,aD,e,k,h=>by cases h
 | n+1,r,aD,e,k,h=>by
   rw[lD]at h
   try dsimp only at h
   split at h
   ·cases h
   split at h
   ·cases h;decide
   split at h
   ·rename_i y hy;obtain⟨y1,y2⟩:=y;cases h;exact Ui hy
   exact ajl h
theorem axW(h:gB ag N r= .error (e,k)):e≠0:=by
 unfold gB at h
 dsimp only at h
 split at h
 ·cases h;decide
 exact ajl h
theorem amM(h:jX ag N r= .error (e,k)):e≠0:=by
 unfold jX at h
 dsimp only at h
 split at h
 ·cases h
 rename_i e2 k2 hk
 cases h;exact asN hk
theorem asQ(h:gH s= .error (e,k)):e≠0:=by
 unfold gH at h
 split at h
 ·cases h;decide
 split at h
 ·rename_i x hx
  cases h;unfold mX at hx;cases h1:iF s.length s with
  |error x=>rw[h1]at hx;obtain⟨x1,x2⟩:=x;cases hx;exact aoV h1
  | ok p=>
    obtain⟨a,n,r1⟩:=p;rw[h1]at hx;change (fV s.length r1 >>= _)=_ at hx;cases h2:fV s.length r1 with
    |error x=>rw[h2]at hx;obtain⟨x1,x2⟩:=x;cases hx;exact anr h2
    | ok p=>
      obtain⟨c,r2⟩:=p;rw[h2]at hx;change (gj a s.length r2 >>= _)=_ at hx;cases h3:gj a s.length r2 with
      |error x=>rw[h3]at hx;obtain⟨x1,x2⟩:=x;cases hx;exact apS h3
      | ok p=>
        obtain⟨i,r3⟩:=p;rw[h3]at hx;change (gB a s.length r3 >>= _)=_ at hx;cases h4:gB a s.length r3 with
        |error x=>rw[h4]at hx;obtain⟨x1,x2⟩:=x;cases hx;exact axW h4
        | ok p=>
          obtain⟨l,r4⟩:=p;rw[h4]at hx;change (jX a s.length r4 >>= _)=_ at hx;cases h5:jX a s.length r4 with
          |error x=>rw[h5]at hx;obtain⟨x1,x2⟩:=x;cases hx;exact amM h5
          |ok p=>obtain⟨q,x⟩:=p;rw[h5]at hx;cases hx
 split at h
 ·cases h
 rename_i h0;cases h;exact h0
end Go.Proofs.YtkbbgjloifmmbaaGreatDoor

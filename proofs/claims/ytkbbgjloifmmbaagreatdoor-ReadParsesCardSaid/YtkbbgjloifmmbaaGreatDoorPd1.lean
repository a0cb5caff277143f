/- What ReadParsesP leans on, part 1. -/
import Derived.Test.YtkbbgjloifmmbaaGreatDoorPc35
set_option linter.unusedVariables false
set_option maxRecDepth 100000
set_option maxHeartbeats 12800000
open _root_.Go.Proofs.Tryz
open _root_.List renaming replicate->aop,mem_of_getElem?->anw,getElem?_eq_getElem->am9,length_replicate->aqV,append_assoc->anZ,nodup_append->aqW,append_nil->aoQ,getElem?_eq_some_iff->anx,getElem?_set->aqg,getElem?_replicate->aqX,mem_append->aok,drop_eq_nil_of_le->anj,getElem?_of_mem->aqc,getElem?_map->anA
open _root_.Nat renaming zero_le->apL,le_refl->anb,lt_of_lt_of_le->anW,le_trans->ap1,add_assoc->ang
open _root_.Option renaming some->an7
open _root_.Option.some renaming inj->an4
namespace Go.Proofs.YtkbbgjloifmmbaaGreatDoor
open Go.RowKit
variable{l:List Nd}{xs:List Value}{B E b c c' k n size:Nat}{x:Nd}{a a':Option Addr}{y:aG}{w w':World}
section
set_option linter.unusedSectionVars false
variable {P:Program} {t e m bytes:Nat} {z:Value} (T:gQ P t e z m bytes) (a:Option Addr) (n c:Nat)
include T
end
def qX(w0:World)(a:Option Addr)(c:Nat)(a':Option Addr)(c':Nat):Prop:=(a'=a/\c'=c)\/w0.heap.size<=bk a'
theorem qX.gb{w0:World}{m c2:Nat}{a2:Option Addr}{ys zs:List Value}(o0:Own w B E size a n c xs)(o1:Own w B E size a' (n+k) c' (xs++ys))(st:Step w0 w a a)(ha:a≠none->bk a<w0.heap.size)
 (tl:qX w0 a c a' c') (g:jF w w' a' c' a2 c2) (o2:Own w' B E size a2 (n+k+m) c2 (xs++ys++zs)):Own w' B E size a n c xs/\Step w0 w' a a/\qX w0 a c a2 c2:=by
 have hsz:=st.grown.size
 have ZE:qX w0 a c a2 c2:=by
  rcases g with⟨rfl,rfl,_⟩|⟨h1,_⟩
  ·exact tl
  exact .inr (by omega)
 rcases tl with⟨rfl,rfl⟩|hn
 ·exact⟨(o1.gb g o2).front o0.cap.2.2,⟨Ke st.grown g.step.grown,.inl rfl⟩,ZE⟩
 have hne:a=none\/some (bk a)≠a'.map (·.block):=by
  cases a with
  |none=>exact .inl rfl
  | some x=>
    right
    have h1:=ha (by simp);cases a' with
    |none=>simp
    |some y=>simp[bk]at h1 hn ⊢; omega
 refine⟨o0.kept g.step.grown hne,⟨⟨g.step.grown.os.trans st.grown.os,g.step.grown.tape.trans st.grown.tape,g.step.grown.output.trans st.grown.output,ap1 hsz g.step.grown.size,fun j hj hjn=>?_⟩,.inl rfl⟩,ZE⟩;rw[g.step.grown.block j (by omega) ?_]
 ·exact st.grown.block j hj hjn
 cases a' with
 |none=>simp
 |some y=>simp[bk]at hn ⊢; omega
section
variable {P:Program} {w:World} {ops:Array Oper} {rest:List Oper} {o:Oper} {a:Act} {Q:Exit->Act->World->Prop} {t e:TypeId} {z:Value} {size bytes:Nat} (T:gQ P t e z size bytes)
include T
end
open Go.Sort
structure Kp(S:Nat->Prop)(u v:World):Prop where
 os:v.os=u.os
 tape:v.tape=u.tape
 output:v.output=u.output
 size:u.heap.size<=v.heap.size
 block: ∀k,k<u.heap.size-> ¬S k->v.heap[k]? =u.heap[k]?
section
variable {S S':Nat->Prop} {u v w:World}
theorem Kp.refl(S:Nat->Prop)(u:World):Kp S u u:=⟨rfl,rfl,rfl,anb _,fun _ _ _=>rfl⟩
theorem Kp.more(h:Kp S u v)(g:Kp S' v w)(hr: ∀b,S' b->S b\/u.heap.size<=b):Kp S u w:=
 ⟨g.os.trans h.os,g.tape.trans h.tape,g.output.trans h.output,ap1 h.size g.size,fun k hk hs=>(g.block k (anW hk h.size) (fun e=>(hr k e).elim hs (fun h2=>by omega))).trans (h.block k hk hs)⟩
theorem Kp.mono(h:Kp S u v)(hs: ∀b,S b->S' b):Kp S' u v:=⟨h.os,h.tape,h.output,h.size,fun k hk hn=>h.block k hk (fun e=>hn (hs k e))⟩
theorem Kp.of{r:Option Nat}(g:u.grownBy v r):Kp (fun b=>some b=r) u v:=⟨g.os,g.tape,g.output,g.size,fun k hk hn=>g.block k hk hn⟩
theorem Kp.WM(g:Below u.heap.size u v):Kp S u v:=⟨g.os,g.tape,g.output,g.size,fun k hk _=>g.block k hk⟩
theorem Kp.bu{B:Nat}(h:Kp S u v)(hs: ∀b,S b->B<=b)(hB:B<=u.heap.size):Below B u v:=
 ⟨h.os,h.tape,h.output,h.size,fun k hk=>h.block k (by omega) (fun e=>by have:=hs k e;omega)⟩
theorem Own.kp{B E size n c:Nat}{a:Option Addr}{xs:List Value}(h:Own u B E size a n c xs)(g:Kp S u v)(hne:a=none\/ ¬S (bk a)):Own v B E size a n c xs:=by
 obtain⟨h1,h2⟩:=h;refine⟨h1,?_⟩;rcases h2 with⟨h2,rfl⟩|⟨b,cap,cur,hv,hg,hh,r⟩
 ·exact .inl ⟨h2,rfl⟩
 refine .inr ⟨b,cap,cur,hv,hg,(g.block b (Array.getElem?_eq_some_iff.1 hh).1 ?_).trans hh,r⟩
 cases hv;rcases hne with h|h
 ·cases h
 simpa[bk]using h
theorem cL.kp{B n:Nat}{a:Option Addr}{C:List Cd}(h:cL u B a n C)(g:Kp S u v)(h1:a=none\/ ¬S (bk a))(h2: ∀x∈C,x.a=none\/ ¬S (bk x.a)):cL v B a n C:=
 ⟨Own.kp h.row g h1,fun x hx=>Own.kp (h.own x hx) g (h2 x hx),h.far,h.nd⟩
theorem aZ.kp{B:Nat}(g:Kp S u v): ∀{x:Nd},aZ u B x->(∀b∈dL x,¬S b)->aZ v B x:=by
 intro x
 induction x using Nd.ind with
 | h x ih=>
   intro h hb;refine⟨x,h.loc,h.few,Own.kp h.own g ?_,fun k hk=>ih k hk (h.jz k hk) fun b hb'=>hb b ?_⟩
   ·cases ha:x.a with
    |none=>exact .inl rfl
    |some p=>exact .inr (hb _ (by rw[qZ,ha];simp[kM,bk]))
   rw[qZ,aok];exact .inr (Cc hk hb')
theorem fX.kp{B:Nat}{t:aG}(h:fX u B t)(g:Kp S u v)(hs: ∀b,B<=b->b<u.heap.size-> ¬S b):fX v B t:=by
 have key: ∀{E size m c:Nat} {p:Option Addr} {xs:List Value},Own u B E size p m c xs->p=none\/ ¬S (bk p):=fun {E size m c p xs} ho=>by
  by_cases hp:p=none
  ·exact .inl hp
  have:=Own.lt ho hp;exact .inr (hs _ this.1 this.2)
 exact⟨h.name,h.bD,h.sm,h.few,Own.kp h.init g (key h.init),h.y8,h.qg,h.code.kp g (key h.code.row) fun x hx=>key (h.code.own x hx),aZ.kp g h.node fun b hb=>by have:=h.node.lt b hb;exact hs b this.1 this.2,h.nd⟩
theorem fF.kp{b:Nat}{t:aG}(h:fF u b t)(g:Kp S u v)(hb: ¬S b):fF v b t:=
 ⟨anW h.lt g.size,fun k hk=>by rw[World.cell?_of_block (g.block b h.lt hb)];exact h.cl k hk⟩
theorem aA.kp{b:Nat}{l:List Value}(h:aA u b l)(g:Kp S u v)(hb: ¬S b):aA v b l:=
 ⟨anW h.1 g.size,fun k hk=>by rw[World.cell?_of_block (g.block b h.1 hb)];exact h.2 k hk⟩
end
theorem WZ(h:Own w B E 6 a n c (flat cN l))(hl:l.length<=1000000)(hk:l[k]? =some x):
 w.cell? ⟨bk a,fo a+k*6,none⟩=some (.int .i64 x.kind)/\w.cell? ⟨bk a,fo a+k*6+1,none⟩=some (.int .i64 x.th.thread)/\w.cell? ⟨bk a,fo a+k*6+2,none⟩=some (.int .i64 x.th.az)/\w.cell? ⟨bk a,fo a+k*6+3,none⟩=some (.string (tx x.th.loc))/\w.cell? ⟨bk a,fo a+k*6+4,none⟩=some (.int .i64 x.val)/\w.cell? ⟨bk a,fo a+k*6+5,none⟩=some (.slice x.a x.kids.length x.c):=by
 have e:bK cN w a l:=⟨Own.row h,by omega⟩;have hm: ∀x:Nd,(cN x).length=6:=fun _=>rfl
 exact⟨e.cell0 hm hk (by omega),e.cell hm hk 1 (by omega),e.cell hm hk 2 (by omega),e.cell hm hk 3 (by omega),e.cell hm hk 4 (by omega),e.cell hm hk 5 (by omega)⟩
theorem akw(w:World)(b o:Nat)(x:Nd):w.setCells b o (cN x)=(((((w.setCell ⟨b,o,none⟩ (.int .i64 x.kind)).setCell ⟨b,o+1,none⟩ (.int .i64 x.th.thread)).setCell ⟨b,o+2,none⟩ (.int .i64 x.th.az)).setCell ⟨b,o+3,none⟩ (.string (tx x.th.loc))).setCell ⟨b,o+4,none⟩ (.int .i64 x.val)).setCell ⟨b,o+5,none⟩ (.slice x.a x.kids.length x.c):=rfl
theorem LQ(h:l[k]? =some x)(hb:b∈dL x):b∈ju l:=Cc (anw h) hb
theorem Q6: ∀{l:List Nd},(ju l).Nodup-> ∀{i j:Nat} {x y:Nd},l[i]? =some x->l[j]? =some y->i<j-> ∀b∈dL x,b∉dL y
 |[],_,i,j,x,y,hx,_,_,b,_=>by cases hx
 | k::l,hnd,0,j+1,x,y,hx,hy,_,b,hb=>by
   obtain rfl:k=x:=an4 hx;rw[uh]at hnd;exact fun h=>(aqW.1 hnd).2.2 b hb b (LQ (l:=l) hy h) rfl
 | k::l,hnd,i+1,j+1,x,y,hx,hy,hij,b,hb=>by
   rw[uh]at hnd;exact Q6 (aqW.1 hnd).2.1 (i:=i) (j:=j) hx hy (by omega) b hb
theorem Q8: ∀{l:List Nd},(ju l).Nodup-> ∀x∈l,(dL x).Nodup
 | k::l,hnd,x,hx=>by
   rw[uh]at hnd;rcases List.mem_cons.1 hx with rfl|hx
   ·exact(aqW.1 hnd).1
   exact Q8 (aqW.1 hnd).2.1 x hx
theorem ahX: ∀(x:Nd) (B:Nat) (w:World),B<=w.heap.size->aZ w B x->(dL x).Nodup->Calls prog 40 #[vN x] w (fun e w'=>e= .returned (.tuple #[])/\Kp (· ∈dL x) w w'):=by
 intro x
 induction x using Nd.ind with
 | h x ih=>
   intro B w Tv hW hnd;have oK:=hid Tv;have A:=al w (bN x);have b0:=hid (aA.new w #[.int .i64 x.kind,.int .i64 x.th.thread,.int .i64 x.th.az,.string (tx x.th.loc),.int .i64 x.val,.slice x.a x.kids.length x.c] 28);have hlt:=fun b hb=>(hW.lt b hb).2
   rw[qZ]at hnd;obtain⟨-, Le,hap⟩:=aqW.1 hnd;have hblk:dL x=kM x.a++ju x.kids:=qZ x;have hL: ∀b,b∈ju x.kids->b∈dL x:=fun b h=>by rw[hblk];exact aok.2 (.inr h)
   have HA:Hid (x.a≠none->bk x.a∈dL x):=hid fun h=>by
    rw[hblk];cases e:x.a with
    |none=>exact absurd e h
    |some z=>simp[kM,bk]
   have HAL:Hid (x.a=none\/bk x.a∉ju x.kids):=hid (by
    cases e:x.a with
    |none=>exact .inl rfl
    |some z=>exact .inr fun h=>hap z.block (by rw[e];simp[kM]) _ h rfl)
   have Pk:=hid (show ∀b,b∈dL x->b≠w.heap.size from fun b hb e=>by have:=hlt b hb;omega);have HLt:=hid hlt;have HL:=hid hL;have qR:=hid Le;have IH:=hid (fun k hk w (hb:B<=w.heap.size) (h:aZ w B k)=>ih k hk B w hb h (Q8 Le k hk));have yb:=hW.few;have O0:=hid (Own.below hW.own A);have HK:=hid (show ∀(j:Nat) (k:Nd),x.kids[j]? =some k->aZ (w.alloc (bN x)) B k from fun j k hk=>aZ.keep A (hW.jz k (anw hk)));have HAk:=hid A;have hwl:(w.alloc (bN x)).heap.size=w.heap.size+1:=by simp
   obtain⟨n,hn⟩:=aj x.kids.length;have HN:=hid hn;have hnb:n<=1000000:=by omega
   clear hn yb hnd Le hap hblk hL hlt ih hW A Tv
   go_in
   go_upto_region 1 with(fail)
   generalize w.alloc (bN x)=W1 at*;rw[HN.out]at b0 O0;go_wp2_with fail
   go_loopw [2] (fun q wr=> ∃i:Nat,q= .int .i64 i/\i<=n/\Hid (Kp (· ∈ju x.kids) W1 wr)/\Hid (Own wr B 28 6 x.a n x.c (flat cN x.kids))/\Hid (∀(j:Nat) (k:Nd),i<=j->x.kids[j]? =some k->aZ wr B k)) (fun q _=>n-(intOf q).toNat)
   ·exact⟨0,rfl,apL _,hid (Kp.refl _ _),O0,hid fun j k _ hk=>HK.out j k hk⟩
   obtain⟨i,rfl,hin,KK,OO,NN⟩:=hrel;have c5:=((b0.out).kp KK.out (fun h=>Pk.out _ (HL.out _ h) rfl)).get 5 _ rfl
   by_cases hlt:i<n
   ·obtain⟨k,hk⟩: ∃k,x.kids[i]? =some k:=⟨_,am9 (by rw[HN.out];exact hlt)⟩
    obtain⟨p0,p1,p2,p3,p4,p5⟩:=WZ OO.out (by rw[HN.out];omega) hk;have ix:=(show bK cN wr x.a x.kids from⟨Own.row OO.out,by rw[HN.out];omega⟩).idx kG (fun _=>rfl) i (by rw[HN.out];exact hlt) x.c;rw[HN.out]at ix;have zi:decide ((i:Int)<(n:Int))=true:=ah;have CK:=hid (IH.out k (anw hk) wr (by have:=oK.out;have:=KK.out.size;omega) (NN.out i k (anb _) hk));have Ix:=hid hk;clear hk;go_wp2_with fail;refine CK.out.mono ?_;rintro e w2 ⟨rfl,K2⟩;have KK2:=hid (KK.out.more K2 (fun b hb=>.inl (LQ Ix.out hb)));have OO2:=hid (Own.kp OO.out K2 (HAL.out.imp id fun h hb=>h (LQ Ix.out hb)));have NN2:=hid (show ∀(j:Nat) (k:Nd),i+1<=j->x.kids[j]? =some k->aZ w2 B k from fun j k' hj hk'=>aZ.kp K2 (NN.out j k' (by omega) hk') fun b hb de=>Q6 qR.out Ix.out hk' (by omega) b de hb);clear p0 p1 p2 p3 p4 p5 ix K2 c5;go_wp2_with fail
    go_roundw;exact⟨i+1,by go_num,by omega,KK2,OO2,NN2⟩;simp[intOf];omega
   obtain rfl:i=n:=by omega
   have zi:decide ((i:Int)<(i:Int))=false:=by simp
   have K1:=hid (KK.out.mono fun b hb=>HL.out b hb);go_wp2_with fail
   go_loopw [3] (fun q wr=> ∃(m:Nat) (l:List Nd),q= .int .i64 m/\m<=i/\l.length=i/\Hid (Kp (· ∈dL x) W1 wr)/\Hid (Own wr B 28 6 x.a i x.c (flat cN l))) (fun q _=>i-(intOf q).toNat)
   ·exact⟨0,x.kids,rfl,apL _,HN.out,K1,OO⟩
   obtain⟨m,l,rfl,hmi,hl,KK,OO⟩:=hrel;have c5:=((b0.out).kp KK.out (fun h=>Pk.out _ h rfl)).get 5 _ rfl
   by_cases hlt:m<i
   ·obtain⟨y,hy⟩: ∃y,l[m]? =some y:=⟨_,am9 (by omega)⟩
    obtain⟨p0,p1,p2,p3,p4,p5⟩:=WZ OO.out (by omega) hy;have ix:=(show bK cN wr x.a l from⟨Own.row OO.out,by omega⟩).idx kG (fun _=>rfl) m (by omega) x.c;rw[hl]at ix;have zi:decide ((m:Int)<(i:Int))=true:=ah;have ha:=Own.some OO.out (by omega);have f0:=Own.frozen OO.out ha (m*6);have f1:=Own.frozen OO.out ha (m*6+1);have f2:=Own.frozen OO.out ha (m*6+2);have f3:=Own.frozen OO.out ha (m*6+3);have f4:=Own.frozen OO.out ha (m*6+4);have f5:=Own.frozen OO.out ha (m*6+5);simp only[<-ang]at f0 f1 f2 f3 f4 f5;obtain⟨o2,s2⟩:=Own.G9 (enc:=cN) (m:=6) (l:=l) (fun _=>rfl) OO.out (by omega) m (by omega) (.mk (-9) bT 77 none 0 [])
    have k2:=KK.out.more (Kp.of s2.grown) (fun b hb=>.inl (by
     have h:=HA.out ha;cases e:x.a with
     |none=>exact absurd e ha
     |some z=>rw[e]at hb h;simp at hb;subst hb;exact h))
    rw[akw]at o2 k2;have O2:=hid o2;have K2:=hid k2;clear o2 s2 k2 hy;go_wp2_with fail
    go_roundw;exact⟨m+1,l.set m (.mk (-9) bT 77 none 0 []),by go_num,by omega,by rw[List.length_set];exact hl,K2,O2⟩;simp[intOf];omega
   obtain rfl:m=i:=by omega
   have zi:decide ((m:Int)<(m:Int))=false:=by simp
   obtain⟨w0,hw0⟩: ∃w0,w0=wr:=⟨_,rfl⟩;have qO:=hid (show x.a≠none->bk x.a<w0.heap.size from fun h=>by rw[hw0];exact(Own.lt OO.out h).2);have K0:Hid (Kp (· ∈dL x) W1 w0):=by rw[hw0];exact KK
   have S0:=hid (show Step w0 wr x.a x.a from by rw[hw0];exact Step.refl _ _);have HW1:=hid (show w.heap.size+1<=w0.heap.size from by have:=K0.out.size;omega);have HBw:=hid (show ∀v:World,w0.heap.size<=v.heap.size->B<=v.heap.size from fun v hv=>by have:=oK.out;have:=HW1.out;omega);clear hw0;go_wp2_with fail
   go_loopw [4,5] (fun p q wr=> ∃(k c2:Nat) (a2:Option Addr) (l2:List Nd),q= .int .i64 k/\k<=9/\p= .slice a2 (m+k) c2/\Hid (Own wr B 28 6 x.a m x.c (flat cN l))/\Hid (Own wr B 28 6 a2 (m+k) c2 (flat cN l++flat cN l2))/\Hid (Step w0 wr x.a x.a)/\Hid (qX w0 x.a x.c a2 c2)) (fun _ q _=>9-(intOf q).toNat)
   ·exact⟨0,x.c,x.a,[],rfl,by omega,rfl,OO,hid (by rw[Fu,aoQ];exact OO.out),S0,hid (.inl ⟨rfl,rfl⟩)⟩
   obtain⟨k,c2,a2,l2,rfl,Uv,rfl,OA,OT,ST,TL⟩:=hrel;have hB:=HBw.out wr ST.out.grown.size
   by_cases hlt:k<9
   ·have zk:decide ((k:Int)<9)=true:=ah
    have oT:=OT.out
    go_wp2_with (at_builtin;go_loud(refine jd kG (.tmp 37) (.tmp 39) rfl rfl rfl oT rfl rfl (by intro u hu;simp at hu;rcases hu with rfl|rfl|rfl|rfl|rfl|rfl<;>rfl) (Below.refl B wr) hB (by omega) cz ?_))
    intro a3 c3 w3 o3 g3 B3;have O3:Own w3 B 28 6 a3 (m+k+1) c3 (flat cN l++flat cN l2++cN (.mk (-8) bT 0 none 0 [])):=by rw[anZ];exact o3
    obtain⟨q1,q2,q3⟩:=qX.gb OA.out OT.out ST.out qO.out TL.out g3 O3;have q1:=hid q1;have q2:=hid q2;have q3:=hid q3;have q4:=hid (show Own w3 B 28 6 a3 (m+(k+1)) c3 (flat cN l++flat cN (l2++[.mk (-8) bT 0 none 0 []]))from by rw[j9,lG,<-anZ];exact O3);clear oT o3 O3 g3 B3;go_wp2_with fail
    go_roundw;exact⟨k+1,c3,a3,l2++[.mk (-8) bT 0 none 0 []],by go_num,by omega,(by congr 1),q1,q4,q2,q3⟩;simp[intOf];omega
   have zk:decide ((k:Int)<9)=false:=ah
   have KF:=hid (K0.out.more (Kp.of ST.out.grown) (fun b hb=>.inl (by
    cases e:x.a with
    |none=>rw[e]at hb;simp at hb
    | some z=>
      have h:=HA.out (by rw[e];simp);rw[e]at hb h;simp at hb;subst hb;exact h)))
   go_wp2_with fail
   go_end0
   refine⟨rfl,(Kp.WM HAk.out).more KF.out (fun b hb=>.inl hb)⟩
theorem cL.store{C:List Cd}(h:cL w B a n C){x:Cd}(hk:C[k]? =an7 x){l:List ay}(hl:l.length=x.l.length)(ho:Own w' B 50 8 x.a l.length x.c (fD l))(hs:Step w w' x.a x.a):cL w' B a n (C.set k ⟨x.a,x.c,l⟩):=by
 have hx:=anw hk;have hlt:=(anx.1 hk).1
 have get: ∀(j:Nat) (y:Cd),(C.set k ⟨x.a,x.c,l⟩)[j]? =an7 y->(j=k/\y=⟨x.a,x.c,l⟩)\/(j≠k/\C[j]? =an7 y):=fun j y hj=>by
  rw[aqg]at hj
  by_cases e:k=j
  ·rw[if_pos e,if_pos hlt]at hj
   exact .inl ⟨e.symm,(an4 hj).symm⟩
  rw[if_neg e]at hj
  exact .inr ⟨fun f=>e f.symm,hj⟩
 have ga: ∀(j:Nat) (y:Cd),(C.set k ⟨x.a,x.c,l⟩)[j]? =an7 y-> ∃z:Cd,C[j]? =an7 z/\y.a=z.a:=fun j y hj=>by
  rcases get j y hj with⟨rfl,rfl⟩|⟨-, h⟩
  ·exact⟨x,hk,rfl⟩
  exact⟨y,h,rfl⟩
 have e:flat qa (C.set k ⟨x.a,x.c,l⟩)=flat qa C:=by
  rw[pg,pg];refine List.ext_getElem? fun j=>?_
  rw[anA,anA,aqg]
  by_cases e:k=j
  ·subst e;rw[if_pos rfl,if_pos hlt,hk];simp[hl]
  rw[if_neg e]
 refine⟨by rw[e];exact(Own.step h.row hs (h.far x hx)).1,fun y hy=>?_,fun y hy=>?_,fun p q y z hp hq hne=>?_⟩
 ·obtain⟨j,hj⟩:=aqc hy
  rcases get j y hj with⟨-, rfl⟩|⟨hne,hj⟩
  ·exact ho
  exact(Own.step (h.own y (anw hj)) hs (h.nd j k y x hj hk hne)).1
 ·obtain⟨j,hj⟩:=aqc hy
  obtain⟨z,hz,e⟩:=ga j y hj;rw[e];exact h.far z (anw hz)
 obtain⟨y',hy',e1⟩:=ga p y hp
 obtain⟨z',hz',e2⟩:=ga q z hq;rw[e1,e2];exact h.nd p q y' z' hy' hz' hne
theorem MH{B' E' m' n':Nat}(h':Own w B' E' m' a' n' c' xs)(hE:E'≠28): ∀{x:Nd} {B:Nat},aZ w B x-> ∀b∈dL x,an7 b≠a'.map (·.block):=by
 intro x
 induction x using Nd.ind with
 | h x ih=>
   intro B h b hb;rw[qZ,aok]at hb;rcases hb with hb|hb
   ·intro e
    cases ha:x.a with
    |none=>rw[ha]at hb;simp[kM]at hb
    | some z=>
      rw[ha]at hb;obtain rfl:b=z.block:=by simpa[kM]using hb
      obtain⟨cs,fz,h1⟩:=GB h' _ e.symm;obtain⟨cs',Tg,h2⟩:=GB h.own z.block (by rw[ha];rfl);rw[h1]at h2;simp only[Option.some.injEq,Obj.cells.injEq]at h2;exact hE h2.2.1
   obtain⟨k,hk,hb⟩:=Gv hb
   exact ih k hk (h.jz k hk) b hb
def xG(y:aG)(b:Nat):Prop:=b∈kM y.ca\/(∃x∈y.code,b∈kM x.a)\/b∈kM y.ia\/b∈dL y.node
theorem Q9(h:fX w B y)(hb:xG y b):B<=b/\b<w.heap.size:=by
 have key: ∀{E size m c:Nat} {p:Option Addr} {xs:List Value},Own w B E size p m c xs->b∈kM p->B<=b/\b<w.heap.size:=fun {E size m c p xs} ho hb=>by
  cases e:p with
  |none=>rw[e]at hb;simp[kM]at hb
  | some z=>
    rw[e]at hb;obtain rfl:b=z.block:=by simpa[kM]using hb
    have:=Own.lt ho (by rw[e];simp);rw[e]at this;exact this
 rcases hb with hb|⟨x,hx,hb⟩|hb|hb
 ·exact key h.code.row hb
 ·exact key (h.code.own x hx) hb
 ·exact key h.init hb
 exact h.node.lt b hb
structure lU(W1:World)(B:Nat)(y:aG)(C:List Cd)(I:List aL)(w:World):Prop where
 kp:Kp (xG y) W1 w
 code:cL w B y.ca y.cc C
 init:nY w B y.ia y.init.length y.ic I
 node:aZ w B y.node
 hd: ∀x∈C,∃z∈y.code,x.a=z.a
section
variable {W1 w w':World} {B:Nat} {y:aG} {C:List Cd} {I:List aL}
theorem lU.row(h:lU W1 B y C I w){k:Nat}{x:Cd}(hk:C[k]? =some x){l:List ay}(hl:l.length=x.l.length)(ho:Own w' B 50 8 x.a l.length x.c (fD l))(hs:Step w w' x.a x.a):lU W1 B y (C.set k ⟨x.a,x.c,l⟩) I w':=by
 have hx:=anw hk;have o:=h.code.own x hx;refine⟨h.kp.more (Kp.of hs.grown) fun b hb=>.inl ?_,h.code.store hk hl ho hs,(Own.step h.init hs (tE h.init o (by decide))).1,aZ.kept hs.grown h.node (MH o (by decide) h.node),fun z hz=>?_⟩
 ·obtain⟨z,hz,e⟩:=h.hd x hx
  refine .inr (.inl ⟨z,hz,?_⟩);rw[<-e];cases e2:x.a with
  |none=>rw[e2]at hb;simp at hb
  |some q=>rw[e2]at hb;simp[kM]at hb ⊢; exact hb
 rcases List.mem_or_eq_of_mem_set hz with h1|rfl
 ·exact h.hd z h1
 exact h.hd x hx
theorem lU.ow(h:lU W1 B y C I w){I':List aL}(ho:nY w' B y.ia y.init.length y.ic I')(hs:Step w w' y.ia y.ia):lU W1 B y C I' w':=by
 refine⟨h.kp.more (Kp.of hs.grown) fun b hb=>.inl (.inr (.inr (.inl ?_))),?_,ho,aZ.kept hs.grown h.node (MH h.init (by decide) h.node),h.hd⟩
 ·cases e2:y.ia with
  |none=>rw[e2]at hb;simp at hb
  |some q=>rw[e2]at hb;simp[kM]at hb ⊢; exact hb
 exact⟨(Own.step h.code.row hs (tE h.code.row h.init (by decide))).1,fun x hx=>(Own.step (h.code.own x hx) hs (tE (h.code.own x hx) h.init (by decide))).1,h.code.far,h.code.nd⟩
end
def iP(i:Nat):ay:=⟨-5-(i:Int),0,0,0,0,[],[115,112,111,105,108,116],0⟩
def Og(i:Nat):ay:=⟨-100-(i:Int),0,0,0,0,[],[],0⟩
def jQ:aL:=⟨-9,0,[115,112,111,105,108,116],[],0⟩
def Oh:aL:=⟨-10,0,[],[],0⟩
theorem akx(w:World)(b o:Nat)(i:Nat):w.setCells b o (iC (iP i))=(((((((w.setCell ⟨b,o,none⟩ (.int .i64 (-5-(i:Int)))).setCell ⟨b,o+1,none⟩ (.int .i64 0)).setCell ⟨b,o+2,none⟩ (.int .i64 0)).setCell ⟨b,o+3,none⟩ (.int .i64 0)).setCell ⟨b,o+4,none⟩ (.int .i64 0)).setCell ⟨b,o+5,none⟩ (.string ⟨#[]⟩)).setCell ⟨b,o+6,none⟩ (.string ⟨#[115,112,111,105,108,116]⟩)).setCell ⟨b,o+7,none⟩ (.int .i64 0):=rfl
theorem akv(w:World)(b o:Nat):w.setCells b o (fN jQ)=((((w.setCell ⟨b,o,none⟩ (.int .i64 (-9))).setCell ⟨b,o+1,none⟩ (.int .i64 0)).setCell ⟨b,o+2,none⟩ (.string ⟨#[115,112,111,105,108,116]⟩)).setCell ⟨b,o+3,none⟩ (.string ⟨#[]⟩)).setCell ⟨b,o+4,none⟩ (.int .i64 0):=rfl
theorem YF{α:Type}(l:List α)(m:α)(hk:k<l.length):(aop k m++l.drop k).set k m=aop (k+1) m++l.drop (k+1):=by
 rw[List.drop_eq_getElem_cons hk,List.set_append_right _ _ (by simp)];simp only[aqV,Nat.sub_self,List.set_cons_zero];rw[List.replicate_succ',anZ];rfl
theorem Dh{α:Type}(l:List α)(m:α)(hk:k<=l.length):(aop k m++l.drop k).length=l.length:=ah
def xB(B:Nat)(y:aG)(w:World):Prop:= ∃C,cL w B y.ca y.cc C/\nY w B y.ia y.init.length y.ic (aop y.init.length jQ)/\y.cc=y.code.length/\ ∀(j:Nat) (x:Cd),y.code[j]? =some x->C[j]? =some ⟨x.a,x.c,aop x.l.length (iP j)⟩
theorem Ze{α:Type}{l:List α}{i:Nat}{x:α}(h:l[i]? =some x):l.set i x=l:=by
 obtain⟨h1,rfl⟩:=anx.1 h;exact List.set_getElem_self h1
theorem Mf(o:Own w B E size a n c xs)(hE:E≠28)(h:aZ w B x):a=none\/bk a∉dL x:=by
 cases e:a with
 |none=>exact .inl rfl
 |some z=>exact .inr fun hb=>MH o hE h _ hb (by rw[e];rfl)
theorem aif(y:aG)(B:Nat)(w:World)(hB:B<=w.heap.size)(h:fX w B y):Calls prog 12 #[vT y] w (fun e w'=>e= .returned (.tuple #[])/\Kp (xG y) w w'/\xB B y w'):=by
 have A:=al w (cq y);have a0:=hid (fF.new w y);have h1:=h.below A;have S0:=hid (show lU (w.alloc (cq y)) B y y.code y.init (w.alloc (cq y))from⟨Kp.refl _ _,h1.code,h1.init,h1.node,fun x hx=>⟨x,hx,rfl⟩⟩);have xo:=hid (show ¬xG y w.heap.size from fun hb=>by have:=(Q9 h hb).2;omega);obtain⟨n,hn⟩:=aj y.code.length;have jK:n<=1000000:=by rw[<-hn];exact h.qg.1
 have HF:=hid h.qg.2;have HN:=hid hn;obtain⟨ni,hni⟩:=aj y.init.length;have adK:ni<=1000000:=by rw[<-hni];exact h.few
 have Ab:=hid hni;have hcc:y.cc=n:=by rw[<-hn];exact h.code.len.symm
 have Iy:=hid h.nd;have HA:=hid A;have TQ:(w.alloc (cq y)).heap.size=w.heap.size+1:=by simp
 have tU:=hid (show ∀v:World,(w.alloc (cq y)).heap.size<=v.heap.size->B<=v.heap.size from fun v hv=>by omega);have zV:=hid hcc;clear h1 h A hB hn hni hcc
 go_in
 go_upto_region 1 with(fail)
 generalize w.alloc (cq y)=W1 at*;have hn:=HN.out;have hni:=Ab.out;have hcc:=zV.out;go_wp2_with fail
 go_loopw [2] (fun q wr=> ∃(i:Nat) (C:List Cd),q= .int .i64 i/\i<=n/\Hid (lU W1 B y C y.init wr)/\Hid (∀(j:Nat) (x:Cd),y.code[j]? =some x->C[j]? =some (if j<i then⟨x.a,x.c,aop x.l.length (iP j)⟩else x))) (fun q _=>n-(intOf q).toNat)
 ·exact⟨0,y.code,rfl,apL _,S0,hid fun j x hx=>by rw[if_neg (Nat.not_lt_zero _)];exact hx⟩
 obtain⟨i,C,rfl,hin,SP,HC⟩:=hrel;have c4:=(a0.out.kp SP.out.kp xo.out).cells.2.2.2.2.1;rw[HN.out]at c4;have jI:=SP.out.code.len
 by_cases hlt:i<n
 ·obtain⟨x,hx⟩: ∃x,y.code[i]? =some x:=⟨_,am9 (by rw[HN.out];exact hlt)⟩
  have uw:=HC.out i x hx;rw[if_neg (Nat.lt_irrefl _)]at uw;have hxl:x.l.length<=1000000:=HF.out x (anw hx);have zi:decide ((i:Int)<(n:Int))=true:=ah
  have AD:=hid (show lU W1 B y (C.set i ⟨x.a,x.c,aop 0 (iP i)++x.l.drop 0⟩) y.init wr from by
   rw[List.replicate_zero,List.nil_append,List.drop_zero,Ze uw];exact SP.out)
  have HX:=hid hx;obtain⟨len,hlen⟩:=aj x.l.length;have tY:=hid hlen;clear hx uw SP;go_wp2_with fail
  go_loopw [3] (fun q wr=> ∃k:Nat,q= .int .i64 k/\k<=len/\Hid (lU W1 B y (C.set i ⟨x.a,x.c,aop k (iP i)++x.l.drop k⟩) y.init wr)) (fun q _=>len-(intOf q).toNat)
  ·exact⟨0,rfl,apL _,AD⟩
  obtain⟨k,rfl,hk,SP⟩:=hrel;have c4:=(a0.out.kp SP.out.kp xo.out).cells.2.2.2.2.1;rw[HN.out]at c4;have hki:(C.set i ⟨x.a,x.c,aop k (iP i)++x.l.drop k⟩)[i]? =some ⟨x.a,x.c,aop k (iP i)++x.l.drop k⟩:=by rw[List.getElem?_set_self (by omega)]
  have hrl:(aop k (iP i)++x.l.drop k).length=len:=by rw[Dh _ _ (by omega)];exact hlen
  obtain⟨y1,-, iy⟩:=SP.out.code.cell hki;have iy:=iy y.cc;simp only[hrl]at y1;rw[hcc]at iy;have c4:wr.cell? ⟨w.heap.size,4,none⟩=some (.slice y.ca n n):=by rw[c4,hcc]
  by_cases bU:k<len
  ·have zk:decide ((k:Int)<(len:Int))=true:=ah
   have o:=SP.out.code.own _ (anw hki);obtain⟨z,hz⟩: ∃z,(aop k (iP i)++x.l.drop k)[k]? =some z:=⟨_,am9 (by omega)⟩;have eI:Is wr x.a (aop k (iP i)++x.l.drop k):=⟨Own.row o,by omega⟩;obtain⟨p0,p1,p2,p3,p4,p5,p6,p7⟩:=eI.cells hz;have ix:=eI.idx k (by omega) x.c;rw[hrl]at ix;have ha:=Own.some o (by simp only[hrl];omega);simp only at ha;have f0:=Own.frozen o ha (k*8);have f1:=Own.frozen o ha (k*8+1);have f2:=Own.frozen o ha (k*8+2);have f3:=Own.frozen o ha (k*8+3);have f4:=Own.frozen o ha (k*8+4);have f5:=Own.frozen o ha (k*8+5);have f6:=Own.frozen o ha (k*8+6);have f7:=Own.frozen o ha (k*8+7);simp only[<-ang]at f0 f1 f2 f3 f4 f5 f6 f7;obtain⟨o2,s2⟩:=Own.G9 (enc:=iC) (m:=8) (fun _=>rfl) (show Own wr B 50 8 x.a (aop k (iP i)++x.l.drop k).length x.c (flat iC (aop k (iP i)++x.l.drop k))from o) (by omega) k (by omega) (iP i);rw[YF _ _ (by omega)]at o2;have S2:=SP.out.row hki (l:=aop (k+1) (iP i)++x.l.drop (k+1)) (by rw[Dh _ _ (by omega),hrl,hlen]) (by rw[Dh _ _ (by omega)];rw[Dh _ _ (by omega)]at o2;exact o2) s2;rw[List.set_set,akx]at S2;have S2:=hid S2;clear o2 s2 hz eI o hki;go_wp2_with fail
   go_roundw;exact⟨k+1,by go_num,by omega,S2⟩;simp[intOf];omega
  obtain rfl:k=len:=by omega
  have zk:decide ((k:Int)<(k:Int))=false:=by simp
  have tV:=hid (show ∀(j:Nat) (z:Cd),y.code[j]? =some z->(C.set i ⟨x.a,x.c,aop k (iP i)++x.l.drop k⟩)[j]? =some (if j<i+1 then⟨z.a,z.c,aop z.l.length (iP j)⟩else z)from fun j z hz=>by
   rw[aqg]
   by_cases e:i=j
   ·subst e
    obtain rfl:x=z:=an4 (HX.out.symm.trans hz);rw[if_pos rfl,if_pos (by omega),if_pos (by omega),anj (by rw[hlen];exact anb _),aoQ,hlen]
   rw[if_neg e,HC.out j z hz]
   by_cases h:j<i
   ·rw[if_pos h,if_pos (by omega)]
   rw[if_neg h,if_neg (by omega)])
  clear hki;go_wp2_with fail
  go_roundw;exact⟨i+1,_,by go_num,by omega,SP,tV⟩;simp[intOf];omega
 obtain rfl:i=n:=by omega
 have zi:decide ((i:Int)<(i:Int))=false:=by simp
 have Pq:=hid (show ∀(j:Nat) (x:Cd),y.code[j]? =some x->C[j]? =some ⟨x.a,x.c,aop x.l.length (iP j)⟩from fun j x hx=>by
  have:=HC.out j x hx
  rwa[if_pos (by have:=(anx.1 hx).1;have:=HN.out;omega)]at this)
 clear HC;have AD:=hid (show lU W1 B y C (aop 0 jQ++y.init.drop 0) wr from SP.out);clear SP;go_wp2_with fail
 go_loopw [4] (fun q wr=> ∃k:Nat,q= .int .i64 k/\k<=ni/\Hid (lU W1 B y C (aop k jQ++y.init.drop k) wr)) (fun q _=>ni-(intOf q).toNat)
 ·exact⟨0,rfl,apL _,AD⟩
 obtain⟨k,rfl,hk,SP⟩:=hrel;have c3:=(a0.out.kp SP.out.kp xo.out).cells.2.2.2.1;rw[Ab.out]at c3
 by_cases hlt:k<ni
 ·have zk:decide ((k:Int)<(ni:Int))=true:=ah
  have hrl:(aop k jQ++y.init.drop k).length=ni:=by rw[Dh _ _ (by omega)];exact hni
  have o:=SP.out.init;obtain⟨z,hz⟩: ∃z,(aop k jQ++y.init.drop k)[k]? =some z:=⟨_,am9 (by omega)⟩;have eI:bK fN wr y.ia (aop k jQ++y.init.drop k):=⟨Own.row o,by omega⟩;obtain⟨p0,p1,p2,p3,p4⟩:=eI.ow hz;have ix:=eI.idx pF mC k (by omega) y.ic;rw[hrl]at ix;have ha:=Own.some o (by rw[hni];omega);have f0:=Own.frozen o ha (k*5);have f1:=Own.frozen o ha (k*5+1);have f2:=Own.frozen o ha (k*5+2);have f3:=Own.frozen o ha (k*5+3);have f4:=Own.frozen o ha (k*5+4);simp only[<-ang]at f0 f1 f2 f3 f4;obtain⟨o2,s2⟩:=Own.G9 (enc:=fN) (m:=5) mC o (by omega) k (by omega) jQ;rw[YF _ _ (by omega)]at o2;have S2:=SP.out.ow o2 s2;rw[akv]at S2;have S2:=hid S2;clear o2 s2 hz eI o;go_wp2_with fail
  go_roundw;exact⟨k+1,by go_num,by omega,S2⟩;simp[intOf];omega
 obtain rfl:k=ni:=by omega
 have zk:decide ((k:Int)<(k:Int))=false:=by simp
 have AD:=hid (show lU W1 B y C (aop y.init.length jQ) wr from by
  have:=SP.out;rw[anj (by rw[hni];exact anb _),aoQ]at this;rw[hni];exact this)
 clear SP;go_wp2_with fail
 go_loopw [5] (fun q wr=> ∃m:Nat,q= .int .i64 m/\m<=i/\Hid (lU W1 B y C (aop y.init.length jQ) wr)) (fun q _=>i-(intOf q).toNat)
 ·exact⟨0,rfl,apL _,AD⟩
 obtain⟨m,rfl,hm,SP⟩:=hrel;have c4:=(a0.out.kp SP.out.kp xo.out).cells.2.2.2.2.1;rw[HN.out,hcc]at c4
 by_cases hlt:m<i
 ·obtain⟨x,hx⟩: ∃x,y.code[m]? =some x:=⟨_,am9 (by rw[HN.out];exact hlt)⟩
  have Bu:=Pq.out m x hx;have hxl:x.l.length<=1000000:=HF.out x (anw hx);obtain⟨y1,-, iy⟩:=SP.out.code.cell Bu;have iy:=iy y.cc;rw[hcc]at iy;obtain⟨len,hlen⟩:=aj x.l.length;rw[hlen]at Bu;simp only[aqV,hlen]at y1;have o:=SP.out.code.own _ (anw Bu);simp only[aqV]at o;have zm:decide ((m:Int)<(i:Int))=true:=ah;obtain⟨w0,hw0⟩: ∃w0,w0=wr:=⟨_,rfl⟩;have qO:=hid (show x.a≠none->bk x.a<w0.heap.size from fun h=>by rw[hw0];exact(Own.lt o h).2);have AE:Hid (lU W1 B y C (aop y.init.length jQ) w0):=by rw[hw0];exact SP
  have S0:=hid (show Step w0 wr x.a x.a from by rw[hw0];exact Step.refl _ _);have O0:=hid o;have Pp:=hid Bu;clear hw0 SP o hx Bu;go_wp2_with fail
  go_loopw [6,7] (fun p q wr=> ∃(k c2:Nat) (a2:Option Addr) (l2:List ay),q= .int .i64 k/\k<=20/\p= .slice a2 (len+k) c2/\Hid (Own wr B 50 8 x.a len x.c (fD (aop len (iP m))))/\Hid (Own wr B 50 8 a2 (len+k) c2 (fD (aop len (iP m))++flat iC l2))/\Hid (Step w0 wr x.a x.a)/\Hid (qX w0 x.a x.c a2 c2)) (fun _ q _=>20-(intOf q).toNat)
  ·exact⟨0,x.c,x.a,[],rfl,by omega,rfl,O0,hid (by rw[Fu,aoQ];exact O0.out),S0,hid (.inl ⟨rfl,rfl⟩)⟩
  obtain⟨k2,c2,a2,l2,rfl,Uv,rfl,OA,OT,ST,TL⟩:=hrel;have FA:=tU.out wr (ap1 AE.out.kp.size ST.out.grown.size)
  by_cases BJ:k2<20
  ·have nj:decide ((k2:Int)<20)=true:=ah
   have oT:=OT.out
   go_wp2_with (at_builtin;go_loud(refine jd inl (.tmp 65) (.tmp 69) rfl rfl rfl oT rfl rfl (by intro u hu;simp at hu;rcases hu with rfl|rfl|rfl|rfl|rfl|rfl|rfl|rfl<;>rfl) (Below.refl B wr) FA (by omega) cz ?_))
   intro a3 c3 w3 o3 g3 B3;have O3:Own w3 B 50 8 a3 (len+k2+1) c3 (fD (aop len (iP m))++flat iC l2++iC (Og m)):=by rw[anZ];exact o3
   obtain⟨q1,q2,q3⟩:=qX.gb OA.out OT.out ST.out qO.out TL.out g3 O3;have q1:=hid q1;have q2:=hid q2;have q3:=hid q3;have q4:=hid (show Own w3 B 50 8 a3 (len+(k2+1)) c3 (fD (aop len (iP m))++flat iC (l2++[Og m]))from by rw[j9,lG,<-anZ];exact O3);clear oT o3 O3 g3 B3;go_wp2_with fail
   go_roundw;exact⟨k2+1,c3,a3,l2++[Og m],by go_num,by omega,(by congr 1),q1,q4,q2,q3⟩;simp[intOf];omega
  have nj:decide ((k2:Int)<20)=false:=ah
  have SP:=hid (show lU W1 B y C (aop y.init.length jQ) wr from by
   have:=AE.out.row Pp.out (l:=aop len (iP m)) rfl (by rw[aqV];exact OA.out) ST.out
   rwa[Ze Pp.out]at this)
  go_wp2_with fail
  go_roundw;exact⟨m+1,by go_num,by omega,SP⟩;simp[intOf];omega
 obtain rfl:m=i:=by omega
 have zm:decide ((m:Int)<(m:Int))=false:=by simp
 have c3:=(a0.out.kp SP.out.kp xo.out).cells.2.2.2.1;rw[Ab.out]at c3;have o:=SP.out.init;rw[hni]at o;obtain⟨w0,hw0⟩: ∃w0,w0=wr:=⟨_,rfl⟩;have qO:=hid (show y.ia≠none->bk y.ia<w0.heap.size from fun h=>by rw[hw0];exact(Own.lt o h).2);have AE:Hid (lU W1 B y C (aop y.init.length jQ) w0):=by rw[hw0];exact SP
 have S0:=hid (show Step w0 wr y.ia y.ia from by rw[hw0];exact Step.refl _ _);have O0:=hid o;clear hw0 SP o;go_wp2_with fail
 go_loopw [8,9] (fun p q wr=> ∃(k2 c2:Nat) (a2:Option Addr) (l2:List aL),q= .int .i64 k2/\k2<=20/\p= .slice a2 (k+k2) c2/\Hid (nY wr B y.ia k y.ic (aop k jQ))/\Hid (Own wr B 56 5 a2 (k+k2) c2 (flat fN (aop k jQ)++flat fN l2))/\Hid (Step w0 wr y.ia y.ia)/\Hid (qX w0 y.ia y.ic a2 c2)) (fun _ q _=>20-(intOf q).toNat)
 ·exact⟨0,y.ic,y.ia,[],rfl,by omega,rfl,O0,hid (by rw[Fu,aoQ];exact O0.out),S0,hid (.inl ⟨rfl,rfl⟩)⟩
 obtain⟨k2,c2,a2,l2,rfl,Uv,rfl,OA,OT,ST,TL⟩:=hrel;have FA:=tU.out wr (ap1 AE.out.kp.size ST.out.grown.size)
 by_cases BJ:k2<20
 ·have nj:decide ((k2:Int)<20)=true:=ah
  have oT:=OT.out
  go_wp2_with (at_builtin;go_loud(refine jd pF (.tmp 77) (.tmp 79) rfl rfl rfl oT rfl rfl (by intro u hu;simp at hu;rcases hu with rfl|rfl|rfl|rfl|rfl<;>rfl) (Below.refl B wr) FA (by omega) cz ?_))
  intro a3 c3 w3 o3 g3 B3;have O3:Own w3 B 56 5 a3 (k+k2+1) c3 (flat fN (aop k jQ)++flat fN l2++fN Oh):=by rw[anZ];exact o3
  obtain⟨q1,q2,q3⟩:=qX.gb OA.out OT.out ST.out qO.out TL.out g3 O3;have q1:=hid q1;have q2:=hid q2;have q3:=hid q3;have q4:=hid (show Own w3 B 56 5 a3 (k+(k2+1)) c3 (flat fN (aop k jQ)++flat fN (l2++[Oh]))from by rw[j9,lG,<-anZ];exact O3);clear oT o3 O3 g3 B3;go_wp2_with fail
  go_roundw;exact⟨k2+1,c3,a3,l2++[Oh],by go_num,by omega,(by congr 1),q1,q4,q2,q3⟩;simp[intOf];omega
 have nj:decide ((k2:Int)<20)=false:=ah
 have SP:=AE.out.ow (I':=aop y.init.length jQ) (by rw[hni];exact OA.out) ST.out;obtain⟨-, -, -, -, -, -, c6,c7,c8,c9,c10,c11⟩:=(a0.out.kp SP.kp xo.out).cells;have CS:=hid (ahX y.node B wr FA SP.node Iy.out);have SP:=hid SP;go_wp2_with fail;refine CS.out.mono ?_;rintro e w9 ⟨rfl,K9⟩;have KF:=SP.out.kp.more K9 (fun b hb=>.inl (.inr (.inr (.inr hb))));have FI:=hid (show Kp (xG y) w w9 from(Kp.WM HA.out).more KF (fun b hb=>.inl hb));have FC:=hid (show xB B y w9 from⟨C,cL.kp SP.out.code K9 (Mf SP.out.code.row (by decide) SP.out.node) (fun x hx=>Mf (SP.out.code.own x hx) (by decide) SP.out.node),Own.kp SP.out.init K9 (Mf SP.out.init (by decide) SP.out.node),by rw[HN.out];exact hcc,Pq.out⟩);clear KF K9;go_wp2_with fail
 go_end0
 exact⟨rfl,FI.out,FC.out⟩
theorem neC(i:Nat)(w:World):(binOp .neq 50 (.agg #[.int .i64 (-5-(i:Int)),.int .i64 0,.int .i64 0,.int .i64 0,.int .i64 0,.string ⟨#[]⟩,.string ⟨#[115,112,111,105,108,116]⟩,.int .i64 0]) (.agg #[.int .i64 (-5-(i:Int)),.int .i64 0,.int .i64 0,.int .i64 0,.int .i64 0,.string ⟨#[]⟩,.string ⟨#[115,112,111,105,108,116]⟩,.int .i64 0])).run prog w= .ok (.bool false) w:=by
 have:=gP (iP i) (iP i) w;rw[decide_eq_true rfl]at this;exact this
theorem neJ(w:World):(binOp .neq 56 (.agg #[.int .i64 (-9),.int .i64 0,.string ⟨#[115,112,111,105,108,116]⟩,.string ⟨#[]⟩,.int .i64 0]) (.agg #[.int .i64 (-9),.int .i64 0,.string ⟨#[115,112,111,105,108,116]⟩,.string ⟨#[]⟩,.int .i64 0])).run prog w= .ok (.bool false) w:=by
 have:=Wn jQ jQ w;rw[decide_eq_true rfl]at this;exact this
theorem aic(y:aG)(B:Nat)(w:World)(yb:y.code.length<=1000000/\(∀x∈y.code,x.l.length<=1000000)/\y.init.length<=1000000)(hs:xB B y w):Calls prog 13 #[vT y] w (aJ w (.bool true)):=by
 have A:=al w (cq y);have a0:=fF.new w y;obtain⟨C,hC,hI,hcc,hM⟩:=hs;have hC:=hid (hC.below A);have hI:=hid (Own.below hI A);have HM:=hid hM;have zV:=hid hcc;obtain⟨n,hn⟩:=aj y.code.length;have jK:n<=1000000:=by rw[<-hn];exact yb.1
 have HF:=hid yb.2.1;have HN:=hid hn;obtain⟨ni,hni⟩:=aj y.init.length;have adK:ni<=1000000:=by rw[<-hni];exact yb.2.2
 have Ab:=hid hni;have c3:=a0.cells.2.2.2.1;have c4:=a0.cells.2.2.2.2.1;have HA:=hid A;rw[hn]at zV;clear hM hn hni yb A a0 hcc
 go_in
 go_upto_region 1 with(fail)
 generalize w.alloc (cq y)=W1 at*;rw[HN.out,zV.out]at c4;rw[Ab.out]at c3 hI;go_wp2_with fail
 go_loopw [3] (fun q wr=> ∃i:Nat,q= .int .i64 i/\i<=n/\wr=W1) (fun q _=>n-(intOf q).toNat)
 ·exact⟨0,rfl,apL _,gf⟩
 obtain⟨i,rfl,hin,rfl⟩:=hrel
 by_cases hlt:i<n
 ·obtain⟨x,hx⟩: ∃x,y.code[i]? =some x:=⟨_,am9 (by rw[HN.out];exact hlt)⟩
  have uw:=HM.out i x hx;have hxl:x.l.length<=1000000:=HF.out x (anw hx);obtain⟨len,hlen⟩:=aj x.l.length;rw[hlen]at uw;obtain⟨y1,-, iy⟩:=hC.out.cell uw;have jI:=hC.out.len;have iy:=iy y.cc;have hcc:=zV.out;rw[hcc]at iy;simp only[aqV]at y1;clear hcc;have o:=hC.out.own _ (anw uw);have zi:decide ((i:Int)<(n:Int))=true:=ah;have eI:Is wr x.a (aop len (iP i)):=⟨Own.row o,ah⟩;have EI:=hid eI;have amM:len<=1000000:=by omega
  have NE:=neC i;clear hx uw o eI hxl hlen;go_wp2_with fail
  go_loopw [4] (fun q wx=> ∃k:Nat,q= .int .i64 k/\k<=len/\wx=wr) (fun q _=>len-(intOf q).toNat)
  ·exact⟨0,rfl,apL _,gf⟩
  obtain⟨k,rfl,hk,rfl⟩:=hrel
  by_cases bU:k<len
  ·have zk:decide ((k:Int)<(len:Int))=true:=ah
   obtain⟨p0,p1,p2,p3,p4,p5,p6,p7⟩:=EI.out.cells (k:=k) (i:=iP i) (by rw[aqX,if_pos bU]);have ix:=EI.out.idx k (by simp;exact bU) x.c;rw[aqV]at ix;replace p0:wr.cell? ⟨bk x.a,fo x.a+k*8,none⟩=some (.int .i64 (-5-(i:Int))):=p0;replace p1:wr.cell? ⟨bk x.a,fo x.a+k*8+1,none⟩=some (.int .i64 0):=p1;replace p2:wr.cell? ⟨bk x.a,fo x.a+k*8+2,none⟩=some (.int .i64 0):=p2;replace p3:wr.cell? ⟨bk x.a,fo x.a+k*8+3,none⟩=some (.int .i64 0):=p3;replace p4:wr.cell? ⟨bk x.a,fo x.a+k*8+4,none⟩=some (.int .i64 0):=p4;replace p5:wr.cell? ⟨bk x.a,fo x.a+k*8+5,none⟩=some (.string ⟨#[]⟩):=p5;replace p6:wr.cell? ⟨bk x.a,fo x.a+k*8+6,none⟩=some (.string ⟨#[115,112,111,105,108,116]⟩):=p6;replace p7:wr.cell? ⟨bk x.a,fo x.a+k*8+7,none⟩=some (.int .i64 0):=p7;go_wp2_with fail
   go_roundw;exact⟨k+1,by go_num,by omega,gf⟩;simp[intOf];omega
  obtain rfl:k=len:=by omega
  have zk:decide ((k:Int)<(k:Int))=false:=by simp
  go_wp2_with fail
  go_roundw;exact⟨i+1,by go_num,by omega,gf⟩;simp[intOf];omega
 obtain rfl:i=n:=by omega
 have zi:decide ((i:Int)<(i:Int))=false:=by simp
 go_wp2_with fail
 go_loopw [5] (fun q wx=> ∃k:Nat,q= .int .i64 k/\k<=ni/\wx=wr) (fun q _=>ni-(intOf q).toNat)
 ·exact⟨0,rfl,apL _,gf⟩
 obtain⟨k,rfl,hk,rfl⟩:=hrel
 by_cases bU:k<ni
 ·have zk:decide ((k:Int)<(ni:Int))=true:=ah
  have eI:bK fN wr y.ia (aop ni jQ):=⟨Own.row hI.out,ah⟩;obtain⟨p0,p1,p2,p3,p4⟩:=eI.ow (k:=k) (x:=jQ) (by rw[aqX,if_pos bU]);have ix:=eI.idx pF mC k (by simp;exact bU) y.ic;rw[aqV]at ix;replace p0:wr.cell? ⟨bk y.ia,fo y.ia+k*5,none⟩=some (.int .i64 (-9)):=p0;replace p1:wr.cell? ⟨bk y.ia,fo y.ia+k*5+1,none⟩=some (.int .i64 0):=p1;replace p2:wr.cell? ⟨bk y.ia,fo y.ia+k*5+2,none⟩=some (.string ⟨#[115,112,111,105,108,116]⟩):=p2;replace p3:wr.cell? ⟨bk y.ia,fo y.ia+k*5+3,none⟩=some (.string ⟨#[]⟩):=p3;replace p4:wr.cell? ⟨bk y.ia,fo y.ia+k*5+4,none⟩=some (.int .i64 0):=p4;have NJ:=neJ;clear eI;go_wp2_with fail
  go_roundw;exact⟨k+1,by go_num,by omega,gf⟩;simp[intOf];omega
 obtain rfl:k=ni:=by omega
 have zk:decide ((k:Int)<(k:Int))=false:=by simp
 go_wp2_with fail;go_ret;exact⟨rfl,HA.out⟩
def tF:EP aG->aG| .error _=>mA t0| .ok t=>t
def eF:EP aG->Int| .error x=>x.1| .ok _=>0
def kF:EP aG->Nat| .error x=>x.2| .ok _=>0
theorem agC(w:World)(B:Nat):fX w B t0:=
 have hZ:=aZ.leaf w B 0 ⟨0,0,[]⟩ 0 (by decide)
 ⟨by decide,by decide,fun x hx=>(by cases hx),by decide,Own.nil _ _ _ _,fun x hx=>(by cases hx),⟨by decide,fun x hx=>(by cases hx)⟩,cL.nil _ _,hZ.1,hZ.2⟩
theorem sL.one{p:EP aG}{e:Ending}(h:sL p w e w'): ∃y,e= .returned (.tuple #[vT y,.int .i64 (eF p),.int .i64 (kF p)])/\mA y=tF p/\Below w.heap.size w w'/\fX w' w.heap.size y:=by
 obtain⟨hb,h⟩:=h;cases p with
 |error x=>obtain⟨n,k⟩:=x;exact⟨t0,h,rfl,hb,agC _ _⟩
 |ok t=>obtain⟨y,hy,he,ho⟩:=h;exact⟨y,he,hy,hb,ho⟩
theorem xB.below(h:xB B y w)(hb:Below w.heap.size w w'):xB B y w':=by
 obtain⟨C,h1,h2,h3,h4⟩:=h;exact⟨C,h1.below hb,Own.below h2 hb,h3,h4⟩
theorem afa(s:Tx)(hm:s.length<=9223372036854775807)(w:World)(g:Gl w):Calls prog 3 #[.string (tx s)] w (aJ w (.bool true)):=by
 have AW:=hid QT;have HG:=hid g;have PR:=hid (fun w g=>yR s hm w g);have PD:=hid (fun w g=>Yh s hm w g);have ST:=hid (fun y1 y2 w h1 h2=>Yf y1 y2 w h1 h2);generalize fq s=p at*;obtain⟨er,ql⟩:=aj (eF p);obtain⟨kp,hkp⟩:=aj (kF p);have DW:=hid (fun(w w':World) (e:Ending) (h:sL p w e w')=>ql▸hkp▸h.one);have z1:(er != er)=false:=by simp
 have z2:((kp:Int) != (kp:Int))=false:=by simp
 clear ql hkp g hm
 go_in
 go_wp2_with fail;refine(PR.out w HG.out).mono ?_;rintro e w2 h;obtain⟨y1,rfl,hy1,E2,O1⟩:=DW.out _ _ _ h;have X1:=fF.new w2 y1;have E:=hid (aB E2 (al w2 (cq y1)));have tX:=hid (fun b hb=>Q9 O1 (b:=b) hb);have dH:=hid E2.size;have O1:=hid (O1.below (al w2 (cq y1)));have hsz:(w2.alloc (cq y1)).heap.size=w2.heap.size+1:=by simp
 have HS:=hid hsz;have X1:=hid X1;clear h E2 hsz;go_wp2_with fail;generalize w2.alloc (cq y1)=W2 at*;refine(PR.out W2 (HG.out.below E.out)).mono ?_;rintro e w3 h;obtain⟨y2,rfl,hy2,E3,O2⟩:=DW.out _ _ _ h;have X2:=fF.new w3 y2;have E4:=aB E3 (al w3 (cq y2));have X1:=hid (X1.out.below E4);have O1:=hid (O1.out.below E4);have O2:=hid (O2.below (al w3 (cq y2)));have E:=hid (E.out.trans (E4.mono E.out.size));have eJ:=hid E3.size;have X2:=hid X2;clear h E3 E4;go_wp2_with fail;generalize w3.alloc (cq y2)=W3 at*;have Kv:=hid X2.out.lt;refine(PD.out W3 (HG.out.below E.out)).mono ?_;rintro e w4 h;obtain⟨y3,rfl,hy3,E5,O3⟩:=DW.out _ _ _ h;have X3:=fF.new w4 y3;have E6:=aB E5 (al w4 (cq y3));have X1:=hid (X1.out.below E6);have X2:=hid (X2.out.below E6);have O1:=hid (O1.out.below E6);have O2:=hid (O2.out.below E6);have O3:=hid (O3.below (al w4 (cq y3)));have E:=hid (E.out.trans (E6.mono E.out.size));have ku:=hid E5.size;have X3:=hid X3;have S13:=hid (show oU y1 y3 from ET.2 (hy1.trans hy3.symm));have Qz:=hid (show oU y2 y3 from ET.2 (hy2.trans hy3.symm));have HY3:=hid hy3;clear h E5 E6 hy1 hy2 hy3
 go_upto_region 4 with(fail)
 generalize w4.alloc (cq y3)=W4 at*;have Pc:=hid (ST.out y1 y3 W4 O1.out.lK O3.out.lK);obtain⟨p0,p1,p2,p3,p4,p5,p6,p7,p8,p9,gZ,ig⟩:=X1.out.cells;obtain⟨q0,q1,q2,q3,q4,q5,q6,q7,q8,q9,iN,iO⟩:=X3.out.cells;have l1:=X1.out.lt;have l3:=X3.out.lt;go_wp2_with fail;refine Pc.out.mono ?_;rintro e w5 ⟨bb,rfl,dU,E7⟩;obtain rfl:bb=true:=dU.2 S13.out;have X1:=hid (X1.out.below E7);have X2:=hid (X2.out.below E7);have X3:=hid (X3.out.below E7);have O1:=hid (O1.out.below E7);have O2:=hid (O2.out.below E7);have O3:=hid (O3.out.below E7);have E:=hid (E.out.trans (E7.mono E.out.size));have zR:=hid (ST.out y2 y3 w5 O2.out.lK O3.out.lK);clear dU E7 p0 p1 p2 p3 p4 p5 p6 p7 p8 p9 gZ ig q0 q1 q2 q3 q4 q5 q6 q7 q8 q9 iN iO l1 l3 Pc;obtain⟨p0,p1,p2,p3,p4,p5,p6,p7,p8,p9,gZ,ig⟩:=X2.out.cells;obtain⟨q0,q1,q2,q3,q4,q5,q6,q7,q8,q9,iN,iO⟩:=X3.out.cells;have l2:=X2.out.lt;have l3:=X3.out.lt;go_wp2_with fail;refine zR.out.mono ?_;rintro e w6 ⟨bb,rfl,dU,E7⟩;obtain rfl:bb=true:=dU.2 Qz.out;have X1:=hid (X1.out.below E7);have X2:=hid (X2.out.below E7);have X3:=hid (X3.out.below E7);have O1:=hid (O1.out.below E7);have O2:=hid (O2.out.below E7);have O3:=hid (O3.out.below E7);have E:=hid (E.out.trans (E7.mono E.out.size));have CS:=hid (aif y1 w.heap.size w6 E.out.size O1.out);clear dU E7 p0 p1 p2 p3 p4 p5 p6 p7 p8 p9 gZ ig q0 q1 q2 q3 q4 q5 q6 q7 q8 q9 iN iO l2 l3 zR;obtain⟨p0,p1,p2,p3,p4,p5,p6,p7,p8,p9,gZ,ig⟩:=X1.out.cells;have l1:=X1.out.lt;go_wp2_with fail;refine CS.out.mono ?_
 rintro e w7 ⟨rfl,K7,SP⟩;have ya: ∀b,w2.heap.size<=b-> ¬xG y1 b:=fun b hb h=>by have:=(tX.out b h).2;omega
 have X1:=hid (X1.out.kp K7 (ya _ (anb _)));have X2:=hid (X2.out.kp K7 (ya _ (by have:=HS.out;have:=eJ.out;omega)));have X3:=hid (X3.out.kp K7 (ya _ (by have:=HS.out;have:=eJ.out;have:=ku.out;have:=Kv.out;omega)));have O2:=hid (O2.out.kp K7 (fun b h1 _=>ya b (aI HS.out)));have O3:=hid (O3.out.kp K7 (fun b h1 _=>ya b (by have:=HS.out;have:=eJ.out;have:=Kv.out;omega)));have B7:Below w.heap.size w6 w7:=K7.bu (fun b hb=>(tX.out b hb).1) E.out.size;have SP:=hid SP;have HF1:=hid (show y1.code.length<=1000000/\(∀x∈y1.code,x.l.length<=1000000)/\y1.init.length<=1000000 from⟨O1.out.qg.1,O1.out.qg.2,O1.out.few⟩);have E:=hid (E.out.trans B7);clear K7 ya B7 O1 CS p0 p1 p2 p3 p4 p5 p6 p7 p8 p9 gZ ig l1;go_wp2_with fail;refine(PR.out w7 (HG.out.below E.out)).mono ?_;rintro e w8 h;obtain⟨y4,rfl,hy4,E8,O4⟩:=DW.out _ _ _ h;have X4:=fF.new w8 y4;have E9:=aB E8 (al w8 (cq y4));have X1:=hid (X1.out.below E9);have X2:=hid (X2.out.below E9);have X3:=hid (X3.out.below E9);have O2:=hid (O2.out.below E9);have O3:=hid (O3.out.below E9);have O4:=hid (O4.below (al w8 (cq y4)));have SP:=hid (SP.out.below E9);have E:=hid (E.out.trans (E9.mono E.out.size));have X4:=hid X4;have S43:=hid (show oU y4 y3 from ET.2 (hy4.trans HY3.out.symm));clear h E8 E9 hy4
 go_upto_region 8 with(fail)
 generalize w8.alloc (cq y4)=W8 at*;have CB:=hid (aic y1 w.heap.size W8 HF1.out SP.out);clear SP;obtain⟨p0,p1,p2,p3,p4,p5,p6,p7,p8,p9,gZ,ig⟩:=X1.out.cells;have l1:=X1.out.lt;go_wp2_with fail;refine CB.out.mono ?_;rintro e w9 ⟨rfl,E9⟩;have X2:=hid (X2.out.below E9);have X3:=hid (X3.out.below E9);have X4:=hid (X4.out.below E9);have O2:=hid (O2.out.below E9);have O3:=hid (O3.out.below E9);have O4:=hid (O4.out.below E9);have E:=hid (E.out.trans (E9.mono E.out.size));have zR:=hid (ST.out y2 y3 w9 O2.out.lK O3.out.lK);clear E9 p0 p1 p2 p3 p4 p5 p6 p7 p8 p9 gZ ig l1 X1 CB;obtain⟨p0,p1,p2,p3,p4,p5,p6,p7,p8,p9,gZ,ig⟩:=X2.out.cells;obtain⟨q0,q1,q2,q3,q4,q5,q6,q7,q8,q9,iN,iO⟩:=X3.out.cells;have l2:=X2.out.lt;have l3:=X3.out.lt;go_wp2_with fail;refine zR.out.mono ?_;rintro e wa ⟨bb,rfl,dU,E9⟩;obtain rfl:bb=true:=dU.2 Qz.out;have X3:=hid (X3.out.below E9);have X4:=hid (X4.out.below E9);have O3:=hid (O3.out.below E9);have O4:=hid (O4.out.below E9);have E:=hid (E.out.trans (E9.mono E.out.size));have Pe:=hid (ST.out y4 y3 wa O4.out.lK O3.out.lK);clear dU E9 p0 p1 p2 p3 p4 p5 p6 p7 p8 p9 gZ ig q0 q1 q2 q3 q4 q5 q6 q7 q8 q9 iN iO l2 l3 zR X2 O2;obtain⟨p0,p1,p2,p3,p4,p5,p6,p7,p8,p9,gZ,ig⟩:=X4.out.cells;obtain⟨q0,q1,q2,q3,q4,q5,q6,q7,q8,q9,iN,iO⟩:=X3.out.cells;have l2:=X4.out.lt;have l3:=X3.out.lt;go_wp2_with fail;refine Pe.out.mono ?_;rintro e wb ⟨bb,rfl,dU,E9⟩;obtain rfl:bb=true:=dU.2 S43.out;have EE:=E.out.trans (E9.mono E.out.size);have AW:=hid (AW.out _ (HG.out.below EE))
 clear dU E9 p0 p1 p2 p3 p4 p5 p6 p7 p8 p9 gZ ig q0 q1 q2 q3 q4 q5 q6 q7 q8 q9 iN iO l2 l3 Pe;go_wp2_with fail;refine AW.out.mono ?_;rintro e wd ⟨rfl,E7⟩;have EE:=EE.trans (E7.mono EE.size);go_wp2_with fail
 (try go_simp)
 go_ret;exact⟨rfl,EE⟩
end Go.Proofs.YtkbbgjloifmmbaaGreatDoor

/- What ReadBlanksP leans on, part 27. -/
import Derived.Test.YtkbbgjloifmmbaaGreatDoorPc23
import Derived.Test.YtkbbgjloifmmbaaGreatDoorPc24
set_option linter.unusedVariables false
set_option maxRecDepth 100000
set_option maxHeartbeats 12800000
open _root_.Go.Proofs.Tryz
open _root_.Option renaming some->an7
open _root_.List renaming length_singleton->apW,eq_nil_of_length_eq_zero->ane,length_append->aoW,length_tail->aoS,nil_append->anu
open _root_.Nat renaming le_refl->anb,zero_mul->ap7,add_zero->ano
namespace Go.Proofs.YtkbbgjloifmmbaaGreatDoor
open Go.RowKit Go.Sort
variable{af k:Int}{acc:List Nd}{e l r r2:List Tok}{one:List Tok->PR Nd}{B c c' f m n rb:Nat}{x:Nd}{o:Obj}{a a':Option Addr}{pp:PR Nd}{t:Th}{S s sign:Tx}{W w w1 w2:World}
theorem H6{P:Program}{ops:Array Oper}{rest:List Oper}{o:Oper}{a:Act}{Q:Exit->Act->World->Prop}{t e:TypeId}{z:Value}{size bytes:Nat}(T:gQ P t e z size bytes)(s x:Operand)(hgd:o.guard=none)(ho:o.op= .call { callee:=.builtin .append,args:=#[s,x],argTypes:=#[t,t] })
  {sa:Option Addr} {xs:List Value} (hs:a.eval s= .slice sa n c) (hown:Own w B e size sa n c xs) {us:Array Value} {zz:Nat} (hzz:w.heap.size=zz) (hx:a.eval x= .slice (some ⟨zz,0,none⟩) 1 1) (hl:us.size=size) (h1c: ∀u∈us.toList,u.oneCell'=true)
 (og:B<=w.heap.size) (hbytes:(n+1)*bytes<=140737488355328) (hm:n+1<=maxLen)
 (h: ∀a' c' w',Own w' B e size a' (n+1) c' (xs++us.toList)->jF w w' sa c a' c'->wpList P ops Q rest (a.put o.dst (.slice a' (n+1) c')) w'):wpList P ops Q (o::rest) a (w.alloc (.cells us e)):=by
 subst hzz;exact jd T s x hgd ho hs hown hx hl h1c (Below.refl _ w) og hbytes hm fun a' c' w' h1 h2 _=>h a' c' w' h1 h2
def JN(e:Ending):Prop:= ∃y:Nd,e= .returned (vN y)
abbrev qH(w:World)(b:Nat)(x:Nd):World:=(((((w.setCell ⟨b,0,none⟩ (.int .i64 x.kind)).setCell ⟨b,1,none⟩ (.int .i64 x.th.thread)).setCell ⟨b,2,none⟩ (.int .i64 x.th.az)).setCell ⟨b,3,none⟩ (.string (tx x.th.loc))).setCell ⟨b,4,none⟩ (.int .i64 x.val)).setCell ⟨b,5,none⟩ (.slice x.a x.kids.length x.c)
theorem oI(w:World)(b:Nat)(x:Nd):w.grownBy (qH w b x) (an7 b):=by
 repeat refine pz ?_ _ _
 exact pE _ _
def KS(w:World)(B:Nat)(a:Option Addr)(c:Nat)(l:List Nd):Prop:=(l=[]/\a=none/\c=0)\/fM w B a c l
theorem qI{u v v':World}{q:Nat}(h:St u v rb)(hg:v.grownBy v' (an7 q))(hq:u.heap.size<=q):St u v' rb:=
 ⟨⟨hg.os.trans h.grown.os,hg.tape.trans h.grown.tape,hg.output.trans h.grown.output,Nat.le_trans h.grown.size hg.size,fun k hk hne=>by
   rw[hg.block k (Nat.lt_of_lt_of_le hk h.grown.size) ah];exact h.grown.block k hk hne⟩,.inl rfl⟩
theorem KS.own{l:List Nd}(h:KS w B a c l)(hs:St w W rb)(hr:rb<B):iD W B a l.length c l:=by
 rcases h with⟨rfl,rfl,rfl⟩|h
 ·exact Own.nil _ _ _ _
 exact(h.st hs hr).own
theorem KS.q{l:List Nd}(h:KS w B a c l)(hB:B<=w.heap.size)(hg:jF W w2 a c a' c'): ∃q,B<=q/\W.grownBy w2 (an7 q):=by
 have key: ∀{q},W.grownBy w2 none->W.grownBy w2 (an7 q):=fun h=>⟨h.os,h.tape,h.output,h.size,fun k hk _=>h.block k hk (by simp)⟩
 have:=hg.step.grown;rcases h with⟨rfl,rfl,rfl⟩|h
 ·exact⟨B,anb _,key this⟩
 refine⟨bk a,h.lt.1,?_⟩
 cases a with
 |none=>exact absurd rfl h.ne
 |some p=>exact this
theorem KS.app{l:List Nd}(h:KS w B a c l)(hB:B<=w.heap.size)(hs:St w W rb)(hr:rb<B)(ho:aZ W w.heap.size x)(hn:(dL x).Nodup)(hO:iD w2 B a' (l++[x]).length c' (l++[x]))(hg:jF W w2 a c a' c')(ha':a'≠none):fM w2 B a' c' (l++[x]):=by
 rcases h with⟨rfl,rfl,rfl⟩|h
 ·have hst:=hg.step.grown
  have hnew:W.heap.size<=bk a':=by
   rcases hg with⟨e, -⟩|⟨e, -⟩
   ·exact absurd e ha'
   exact e
  refine⟨hO,fun k hk=>?_,?_,ha'⟩
  ·rw[anu,List.mem_singleton]at hk
   rw[hk];exact(ho.mono hB).kept hst fun b hb e=>by cases e
  rw[anu,EY,List.nodup_cons]
  refine⟨fun hb=>?_,hn⟩;have:=(ho.lt _ hb).2;omega
 exact(h.app hB hs hr ho hn hO hg ha').1
theorem VN.Bk{e:Ending}(hG:cD w1 B rb af S l (-1))(hS:St (w.alloc o) w1 rb)(hg:w1.grownBy w2 (an7 w.heap.size))(hrb:rb<w.heap.size)(y:Nd)(hN:aZ w1 (w.heap.size+1) y)(hn:(dL y).Nodup)(hp:pp= .ok (bG y,l))(he:e= .returned (vN y)):k9 w B rb af S pp (VN w.heap.size) JN e w2:=by
 refine⟨qI ((St.new (St.refl w rb) o).trans hS) hg (anb _),.inr ⟨_,_,hp,⟨y,rfl,he,?_,hn⟩,hG.gb hg (by omega)⟩⟩;refine(hN.mono (B':=w.heap.size) (by omega)).kept hg fun b hb e=>?_
 have:=(hN.lt b hb).1;simp at e;omega
theorem VN.Bj{er:List Tok}{e:Ending}(hG:cD w1 B rb af S l (dz S.length er))(hS:St (w.alloc o) w1 rb)(hg:w1.grownBy w2 (an7 w.heap.size))(hrb:rb<w.heap.size)(hp:pp= .error er)(hj:JN e):k9 w B rb af S pp (VN w.heap.size) JN e w2:=
 ⟨qI ((St.new (St.refl w rb) o).trans hS) hg (anb _),.inl ⟨_,_,hp,hj,hG.gb hg (by omega)⟩⟩
def Eu(F:Nat)(xs:Array Value)(B rb:Nat)(af:Int)(S:Tx)(m:Nat)(one:List Tok->PR Nd):Prop:=
 ∀(w:World) (l:List Tok),cD w B rb af S l (-1)->l.length<=m->Calls prog F xs w (k9 w B rb af S (one l) (VN w.heap.size) JN)
def qb(k:Int)(sign:Tx)(one:List Tok->PR Nd)(f:Nat)(acc:List Nd)(l:List Tok):PR Nd:=match one l with
 | .error e=>.error e
 | .ok (x,r)=>jj k sign one f (acc++[x]) r
theorem Sq(h:one l= .error e):qb k sign one f acc l= .error e:=by unfold qb;rw[h]
theorem Sr(h:one l= .ok (x,r)):qb k sign one f acc l=jj k sign one f (acc++[x]) r:=by unfold qb;rw[h]
theorem YM(h:au l=sign):jj k sign one (n+1) acc l=qb k sign one n acc l.tail:=by rw[GR h];rfl
theorem YN{k:Int}{sign:Tx}{one:List Tok->PR Nd}(hs:sign≠[]): ∀(n m:Nat) (acc:List Nd) (l:List Tok),(∀l' x r,l'.length<l.length->one l'= .ok (x,r)->r.length<l'.length)->l.length<=n->l.length<=m->jj k sign one n acc l=jj k sign one m acc l
 |0,0,_,_,_,_,_=>rfl
 | 0,m+1,acc,l,_,h,_=>by
   have e:l=[]:=ane (by omega);rw[e,tJ (by exact fun h=>hs h.symm),tJ (by exact fun h=>hs h.symm)]
 | n+1,0,acc,l,_,_,h=>by
   have e:l=[]:=ane (by omega);rw[e,tJ (by exact fun h=>hs h.symm),tJ (by exact fun h=>hs h.symm)]
 | n+1,m+1,acc,l,H,h1,h2=>by
   by_cases hh:au l=sign
   ·rw[GR hh,GR hh]
    have hl:0<l.length:=by
     cases l with
     |nil=>exact absurd hh.symm hs
     |cons t r=>simp
    have ht:l.tail.length=l.length-1:=aoS;cases ho:one l.tail with
    |error e=>rfl
    | ok p=>
      obtain⟨x,r⟩:=p;have hr:=H l.tail x r (by omega) ho;exact YN hs n m _ r (fun l' y s hl'=>H l' y s (by omega)) (by omega) (by omega)
   rw[tJ hh,tJ hh]
theorem YR(hs:sign≠[])(H: ∀l' x r,l'.length<=l.length->one l'= .ok (x,r)->r.length<l'.length):iw k sign one l=qb k sign one l.length [] l:=by
 unfold iw qb;cases ho:one l with
 |error e=>rfl
 | ok p=>
   obtain⟨x,r⟩:=p;have hr:=H l x r (anb _) ho;exact YN hs _ _ _ r (fun l' y s hl'=>H l' y s (by omega)) (anb _) (by omega)
theorem X5(R:cD w B rb af S l (-1))(hm:l.length<=m)
 (ONE:Eu 240 #[.pointer (some ⟨rb,0,none⟩)] B rb af S m one) (H: ∀l x r,l.length<=m->one l= .ok (x,r)->r.length<l.length):
 Calls prog 162 #[.pointer (some ⟨rb,0,none⟩),.bool false] w (k9 w B rb af S (iw 4 [47,92] one l) (VN w.heap.size) JN):=by
 rw[YR (by decide) (fun l' x r hl=>H l' x r (by omega))];obtain⟨pp,eC⟩:=aj (qb 4 [47,92] one l.length [] l);rw[eC];have iA:=hid eC;have Ad:=hid ONE;have HH:=hid H;have hrb:=R.cells.lt;have BU:=R.cells.ge;obtain⟨N,hN⟩:=aj l.length;have hNN:N<=262144:=by have:=R.lx.len;have:=R.sl;omega
 have BK:N<=m:=by omega
 have R0:=hid (R.below (al w dJ));have IS:=hid (fun(w:World) (l:List Tok) (R:cD w B rb af S l (-1))=>tH R 3 [47,92] rfl);rw[hN]at iA;clear eC ONE H R hm;have Ac:=hid hN;clear hN;go_in;go_wp2
 go_loopw [5] (fun v wr=> ∃(a2:Option Addr) (c2 n2:Nat) (l2:List Nd) (l':List Tok),v= .slice a2 l2.length c2/\Hid (pp=qb 4 [47,92] one n2 (eU l2) l')/\l'.length<=n2+1/\l2.length+l'.length<=N/\Hid (cD wr B rb af S l' (-1))/\Hid (KS wr (w.heap.size+1) a2 c2 l2)/\Hid (St (w.alloc dJ) wr rb)) (fun v _=>match v with| .slice _ n _=>300000-n|_=>0)
 ·exact⟨none,0,N,[],l,rfl,iA.out.symm,by have:=Ac.out;omega,by have:=Ac.out;simp;omega,R0,.inl ⟨rfl,rfl,rfl⟩,St.refl _ _⟩
 obtain⟨a2,c2,n2,l2,l',rfl,HP,hn2,kC,Aj,cE,fV⟩:=hrel;have hs1:w.heap.size+1<=wr.heap.size:=by have:=fV.out.grown.size;simpa using this
 obtain⟨c0,c1,lB,c3,c4,c5,c6,fz,lt, -⟩:=Aj.out.cells;have O:=Ad.out (wr.alloc dJ) l' (Aj.out.below (al _ _)) (by omega);cases hone:one l' with
 | error er=>
   have dm:=hid (HP.out.trans (Sq hone));rw[hone]at O;have O:=hid O;clear hone HP;go_wp2_with fail;refine O.out.mono ?_;rintro e w3 h;obtain⟨⟨y2,rfl⟩,S3,l3,R3⟩:=h.err rfl;have vr:=S3;have b3:=gj S3 (by omega:rb<wr.heap.size);obtain⟨d0,d1,d2,d3,d4,d5⟩:=b3.gw;have gz:=fun j=>(eW S3 (b:=wr.heap.size) (by simp) (by omega) j).trans (aV wr _ _ j)
   have LH:wr.heap.size+1<=w3.heap.size:=by have:=S3.grown.size;simpa using this
   have S4:=hid (qI ((St.new (St.refl wr rb) dJ).trans S3) (oI w3 wr.heap.size y2) (anb _));have R4:=hid (R3.gb (oI w3 wr.heap.size y2) (by omega));have hO:=cE.out.own S4.out (by omega);have qu:(qH w3 wr.heap.size y2).heap.size=w3.heap.size:=by simp
   have Lc:wr.heap.size<w3.heap.size:=by omega
   clear h S3 vr b3 R3
   go_wp2_with (at_builtin;go_loud(refine H6 kG (.tmp 20) (.tmp 22) rfl rfl rfl hO qu rfl rfl (by exact AY y2) (by rw[qu];omega) (by omega) cz ?_))
   intro a' c' w4 dS hg
   have dr:iD w4 (w.heap.size+1) a' (l2++[y2]).length c' (l2++[y2]):=by
    unfold iD;rw[j9,lG,aoW];exact dS
   have ha':a'≠none:=Own.some dr (by simp);obtain⟨q,hq,gq⟩:=cE.out.q hs1 hg;have S5:=hid (qI (fV.out.trans S4.out) gq (by simpa using hq));have R5:=hid (R4.out.gb gq (by omega));obtain⟨n,hn⟩:=aj (l2.length+1);rw[hn];have hnb:1<=n/\n<=300000:=by omega
   have HN:=hid hn;have dr:=hid dr;clear hO dS hg gq hn;obtain⟨k0,k1,k2,k3,k4,k5,k6,kz,Me, -⟩:=R5.out.cells;have b8:=gj S5.out hrb;have fz:=fun j=>(eW S5.out (b:=w.heap.size) (by simp) (by omega) j).trans (aV w _ _ j)
   obtain⟨p0,p1,p2,p3,p4,p5⟩:=b8.gw;clear b8
   by_cases h1:n=1
   ·subst h1
    obtain rfl:l2=[]:=ane (aI HN.out);have EL:bK cN w4 a' [y2]:=iD.els dr.out (by simp);have ix:=EL.idx kG kN 0 (by simp) c';rw[show((0:Nat):Int)=0 from rfl,apW]at ix;simp only[ap7,ano]at ix;obtain⟨e0,e1,e2,e3,e4,e5⟩:=bK.nd (k:=0) EL rfl;simp only[ap7,ano]at e0 e1 e2 e3 e4 e5;clear EL;go_wp2;exact bodyPost_ret (by simp[results,results162,go_sem,p0,p1,p2,p3,p4,p5]) rfl (VN.Bj R5.out S5.out cW hrb dm.out ⟨y2,rfl⟩)
   have z1:((n:Int)==1)=false:=ah
   go_wp2;exact bodyPost_ret (by simp[results,results162,go_sem,p0,p1,p2,p3,p4,p5,HN.out,Nd.kind,Nd.th,bT,Nd.val,Nd.a,Nd.c,Nd.kids,aS]) rfl (VN.Bj R5.out S5.out cW hrb dm.out ⟨(.mk 4 bT 0 a' c' (l2++[y2])),rfl⟩)
 | ok p2=>
   obtain⟨x2,r2⟩:=p2;have hr2:=HH.out _ _ _ (by omega) hone;have dm:=hid (HP.out.trans (Sr hone));rw[hone]at O;have O:=hid O;clear hone HP;go_wp2_with fail;refine O.out.mono ?_;rintro e w3 h;obtain⟨⟨y2,hy2,rfl,bH,dW⟩,R3,S3⟩:=h.cX rfl;have vr:=S3;have b3:=gj S3 (by omega:rb<wr.heap.size);obtain⟨d0,d1,d2,d3,d4,d5⟩:=b3.gw;have gz:=fun j=>(eW S3 (b:=wr.heap.size) (by simp) (by omega) j).trans (aV wr _ _ j)
   have LH:wr.heap.size+1<=w3.heap.size:=by have:=S3.grown.size;simpa using this
   have S4:=hid (qI ((St.new (St.refl wr rb) dJ).trans S3) (oI w3 wr.heap.size y2) (anb _));have R4:=hid (R3.gb (oI w3 wr.heap.size y2) (by omega));have hO:=cE.out.own S4.out (by omega);have qu:(qH w3 wr.heap.size y2).heap.size=w3.heap.size:=by simp
   have bH:=hid ((bH.mono (B':=wr.heap.size) (by simp)).kept (oI w3 wr.heap.size y2) (fun b hb e=>by have:=(bH.lt b hb).1;simp at e this;omega));have dW:=hid dW;have Lc:wr.heap.size<w3.heap.size:=by omega
   clear h S3 vr b3 R3
   go_wp2_with (at_builtin;go_loud(refine H6 kG (.tmp 20) (.tmp 22) rfl rfl rfl hO qu rfl rfl (by exact AY y2) (by rw[qu];omega) (by omega) cz ?_))
   intro a' c' w4 dS hg
   have dr:iD w4 (w.heap.size+1) a' (l2++[y2]).length c' (l2++[y2]):=by
    unfold iD;rw[j9,lG,aoW];exact dS
   have ha':a'≠none:=Own.some dr (by simp);obtain⟨q,hq,gq⟩:=cE.out.q hs1 hg;have S5:=hid (qI (fV.out.trans S4.out) gq (by simpa using hq));have R5:=hid (R4.out.gb gq (by omega));obtain⟨n,hn⟩:=aj (l2.length+1);rw[hn];have hnb:1<=n/\n<=300000:=by omega
   have HN:=hid hn;have N5:=hid (cE.out.app hs1 S4.out (by omega) bH.out dW.out dr hg ha');have HB:=hid (show eU (l2++[y2])=eU l2++[x2] by rw[Jt,vA,pY,hy2]);have dr:=hid dr;clear hO dS hg gq hn;obtain⟨k0,k1,k2,k3,k4,k5,k6,kz,Me, -⟩:=R5.out.cells;have RI:=hid (fun(w:World) (R:cD w B rb af S r2 (-1))=>IS.out w r2 R)
   by_cases eK:au r2=[47,92]
   ·have HI:=hid (show decide (au r2=[47,92])=true from decide_eq_true eK)
    have hlr:0<r2.length:=by
     cases r2 with
     |nil=>exact absurd eK (by decide)
     |cons t r=>simp
    obtain⟨n3,rfl⟩: ∃n3,n2=n3+1:=⟨n2-1,by omega⟩;have Ag:=hid (dm.out.trans (YM eK));have BJ:r2.tail.length=r2.length-1:=aoS;have ON:=hid (nO R5.out);clear eK
    go_wp2_with (go_at_call 159;refine av (RI.out _ R5.out) ?_;rw[HI.out])
    refine ON.out.mono ?_;rintro e w5 ⟨rfl,S6,R6⟩;have S7:=hid (S5.out.trans S6);have N7:=hid (N5.out.st S6 (by omega));have R6:=hid R6;clear S6;go_wp2
    go_roundw;exact⟨a',c',n3,l2++[y2],r2.tail,by rw[aoW,apW,HN.out],by rw[HB.out];exact Ag,by omega,by have:=HN.out;rw[aoW,apW];omega,R6,.inr N7.out,S7⟩;have:=HN.out;simp;omega
   have HI:=hid (show decide (au r2=[47,92])=false from decide_eq_false eK)
   have dm:=hid (dm.out.trans (tJ eK));clear eK;have b8:=gj S5.out hrb;have fz:=fun j=>(eW S5.out (b:=w.heap.size) (by simp) (by omega) j).trans (aV w _ _ j)
   obtain⟨p0,p1,p2,p3,p4,p5⟩:=b8.gw;clear b8
   by_cases h1:n=1
   ·subst h1
    obtain rfl:l2=[]:=ane (aI HN.out);have EL:bK cN w4 a' [y2]:=iD.els dr.out (by simp);have ix:=EL.idx kG kN 0 (by simp) c';rw[show((0:Nat):Int)=0 from rfl,apW]at ix;simp only[ap7,ano]at ix;obtain⟨e0,e1,e2,e3,e4,e5⟩:=bK.nd (k:=0) EL rfl;simp only[ap7,ano]at e0 e1 e2 e3 e4 e5;clear EL;have N6:=hid (show fM w4 (w.heap.size+1) a' c' [y2]from N5.out)
    go_wp2_with (go_at_call 159;refine av (RI.out _ R5.out) ?_;rw[HI.out])
    exact bodyPost_ret (by simp[results,results162,go_sem,p0,p1,p2,p3,p4,p5]) rfl (VN.Bk R5.out S5.out cW hrb y2 N6.out.y9.1 N6.out.y9.2 (by rw[dm.out,<-HB.out];rfl) rfl)
   have z1:((n:Int)==1)=false:=ah
   have N6:=hid (N5.out.node 4 bT 0 (by decide) (by have:=HN.out;simp;omega))
   go_wp2_with (go_at_call 159;refine av (RI.out _ R5.out) ?_;rw[HI.out])
   exact bodyPost_ret (by simp[results,results162,go_sem,p0,p1,p2,p3,p4,p5,HN.out,Nd.kind,Nd.th,bT,Nd.val,Nd.a,Nd.c,Nd.kids,aS]) rfl (VN.Bk R5.out S5.out cW hrb (.mk 4 bT 0 a' c' (l2++[y2])) N6.out.1 N6.out.2 (by rw[dm.out,<-HB.out,AO,MQ (by rw[AL,aoW,apW,HN.out];exact h1)];rfl) rfl)
theorem X9(R:cD w B rb af S l (-1))(hm:l.length<=m)
 (ONE:Eu 162 #[.pointer (some ⟨rb,0,none⟩),.bool false] B rb af S m one) (H: ∀l x r,l.length<=m->one l= .ok (x,r)->r.length<l.length):
 Calls prog 162 #[.pointer (some ⟨rb,0,none⟩),.bool true] w (k9 w B rb af S (iw 5 [92,47] one l) (VN w.heap.size) JN):=by
 rw[YR (by decide) (fun l' x r hl=>H l' x r (by omega))];obtain⟨pp,eC⟩:=aj (qb 5 [92,47] one l.length [] l);rw[eC];have iA:=hid eC;have Ad:=hid ONE;have HH:=hid H;have hrb:=R.cells.lt;have BU:=R.cells.ge;obtain⟨N,hN⟩:=aj l.length;have hNN:N<=262144:=by have:=R.lx.len;have:=R.sl;omega
 have BK:N<=m:=by omega
 have R0:=hid (R.below (al w dJ));have IS:=hid (fun(w:World) (l:List Tok) (R:cD w B rb af S l (-1))=>tH R 3 [92,47] rfl);rw[hN]at iA;clear eC ONE H R hm;have Ac:=hid hN;clear hN;go_in;go_wp2
 go_loopw [5] (fun v wr=> ∃(a2:Option Addr) (c2 n2:Nat) (l2:List Nd) (l':List Tok),v= .slice a2 l2.length c2/\Hid (pp=qb 5 [92,47] one n2 (eU l2) l')/\l'.length<=n2+1/\l2.length+l'.length<=N/\Hid (cD wr B rb af S l' (-1))/\Hid (KS wr (w.heap.size+1) a2 c2 l2)/\Hid (St (w.alloc dJ) wr rb)) (fun v _=>match v with| .slice _ n _=>300000-n|_=>0)
 ·exact⟨none,0,N,[],l,rfl,iA.out.symm,by have:=Ac.out;omega,by have:=Ac.out;simp;omega,R0,.inl ⟨rfl,rfl,rfl⟩,St.refl _ _⟩
 obtain⟨a2,c2,n2,l2,l',rfl,HP,hn2,kC,Aj,cE,fV⟩:=hrel;have hs1:w.heap.size+1<=wr.heap.size:=by have:=fV.out.grown.size;simpa using this
 obtain⟨c0,c1,lB,c3,c4,c5,c6,fz,lt, -⟩:=Aj.out.cells;have O:=Ad.out (wr.alloc dJ) l' (Aj.out.below (al _ _)) (by omega);cases hone:one l' with
 | error er=>
   have dm:=hid (HP.out.trans (Sq hone));rw[hone]at O;have O:=hid O;clear hone HP;go_wp2_with fail;refine O.out.mono ?_;rintro e w3 h;obtain⟨⟨y2,rfl⟩,S3,l3,R3⟩:=h.err rfl;have vr:=S3;have b3:=gj S3 (by omega:rb<wr.heap.size);obtain⟨d0,d1,d2,d3,d4,d5⟩:=b3.gw;have gz:=fun j=>(eW S3 (b:=wr.heap.size) (by simp) (by omega) j).trans (aV wr _ _ j)
   have LH:wr.heap.size+1<=w3.heap.size:=by have:=S3.grown.size;simpa using this
   have S4:=hid (qI ((St.new (St.refl wr rb) dJ).trans S3) (oI w3 wr.heap.size y2) (anb _));have R4:=hid (R3.gb (oI w3 wr.heap.size y2) (by omega));have hO:=cE.out.own S4.out (by omega);have qu:(qH w3 wr.heap.size y2).heap.size=w3.heap.size:=by simp
   have Lc:wr.heap.size<w3.heap.size:=by omega
   clear h S3 vr b3 R3
   go_wp2_with (at_builtin;go_loud(refine H6 kG (.tmp 20) (.tmp 22) rfl rfl rfl hO qu rfl rfl (by exact AY y2) (by rw[qu];omega) (by omega) cz ?_))
   intro a' c' w4 dS hg
   have dr:iD w4 (w.heap.size+1) a' (l2++[y2]).length c' (l2++[y2]):=by
    unfold iD;rw[j9,lG,aoW];exact dS
   have ha':a'≠none:=Own.some dr (by simp);obtain⟨q,hq,gq⟩:=cE.out.q hs1 hg;have S5:=hid (qI (fV.out.trans S4.out) gq (by simpa using hq));have R5:=hid (R4.out.gb gq (by omega));obtain⟨n,hn⟩:=aj (l2.length+1);rw[hn];have hnb:1<=n/\n<=300000:=by omega
   have HN:=hid hn;have dr:=hid dr;clear hO dS hg gq hn;obtain⟨k0,k1,k2,k3,k4,k5,k6,kz,Me, -⟩:=R5.out.cells;have b8:=gj S5.out hrb;have fz:=fun j=>(eW S5.out (b:=w.heap.size) (by simp) (by omega) j).trans (aV w _ _ j)
   obtain⟨p0,p1,p2,p3,p4,p5⟩:=b8.gw;clear b8
   by_cases h1:n=1
   ·subst h1
    obtain rfl:l2=[]:=ane (aI HN.out);have EL:bK cN w4 a' [y2]:=iD.els dr.out (by simp);have ix:=EL.idx kG kN 0 (by simp) c';rw[show((0:Nat):Int)=0 from rfl,apW]at ix;simp only[ap7,ano]at ix;obtain⟨e0,e1,e2,e3,e4,e5⟩:=bK.nd (k:=0) EL rfl;simp only[ap7,ano]at e0 e1 e2 e3 e4 e5;clear EL;go_wp2;exact bodyPost_ret (by simp[results,results162,go_sem,p0,p1,p2,p3,p4,p5]) rfl (VN.Bj R5.out S5.out cW hrb dm.out ⟨y2,rfl⟩)
   have z1:((n:Int)==1)=false:=ah
   go_wp2;exact bodyPost_ret (by simp[results,results162,go_sem,p0,p1,p2,p3,p4,p5,HN.out,Nd.kind,Nd.th,bT,Nd.val,Nd.a,Nd.c,Nd.kids,aS]) rfl (VN.Bj R5.out S5.out cW hrb dm.out ⟨(.mk 5 bT 0 a' c' (l2++[y2])),rfl⟩)
 | ok p2=>
   obtain⟨x2,r2⟩:=p2;have hr2:=HH.out _ _ _ (by omega) hone;have dm:=hid (HP.out.trans (Sr hone));rw[hone]at O;have O:=hid O;clear hone HP;go_wp2_with fail;refine O.out.mono ?_;rintro e w3 h;obtain⟨⟨y2,hy2,rfl,bH,dW⟩,R3,S3⟩:=h.cX rfl;have vr:=S3;have b3:=gj S3 (by omega:rb<wr.heap.size);obtain⟨d0,d1,d2,d3,d4,d5⟩:=b3.gw;have gz:=fun j=>(eW S3 (b:=wr.heap.size) (by simp) (by omega) j).trans (aV wr _ _ j)
   have LH:wr.heap.size+1<=w3.heap.size:=by have:=S3.grown.size;simpa using this
   have S4:=hid (qI ((St.new (St.refl wr rb) dJ).trans S3) (oI w3 wr.heap.size y2) (anb _));have R4:=hid (R3.gb (oI w3 wr.heap.size y2) (by omega));have hO:=cE.out.own S4.out (by omega);have qu:(qH w3 wr.heap.size y2).heap.size=w3.heap.size:=by simp
   have bH:=hid ((bH.mono (B':=wr.heap.size) (by simp)).kept (oI w3 wr.heap.size y2) (fun b hb e=>by have:=(bH.lt b hb).1;simp at e this;omega));have dW:=hid dW;have Lc:wr.heap.size<w3.heap.size:=by omega
   clear h S3 vr b3 R3
   go_wp2_with (at_builtin;go_loud(refine H6 kG (.tmp 20) (.tmp 22) rfl rfl rfl hO qu rfl rfl (by exact AY y2) (by rw[qu];omega) (by omega) cz ?_))
   intro a' c' w4 dS hg
   have dr:iD w4 (w.heap.size+1) a' (l2++[y2]).length c' (l2++[y2]):=by
    unfold iD;rw[j9,lG,aoW];exact dS
   have ha':a'≠none:=Own.some dr (by simp);obtain⟨q,hq,gq⟩:=cE.out.q hs1 hg;have S5:=hid (qI (fV.out.trans S4.out) gq (by simpa using hq));have R5:=hid (R4.out.gb gq (by omega));obtain⟨n,hn⟩:=aj (l2.length+1);rw[hn];have hnb:1<=n/\n<=300000:=by omega
   have HN:=hid hn;have N5:=hid (cE.out.app hs1 S4.out (by omega) bH.out dW.out dr hg ha');have HB:=hid (show eU (l2++[y2])=eU l2++[x2] by rw[Jt,vA,pY,hy2]);have dr:=hid dr;clear hO dS hg gq hn;obtain⟨k0,k1,k2,k3,k4,k5,k6,kz,Me, -⟩:=R5.out.cells;have RI:=hid (fun(w:World) (R:cD w B rb af S r2 (-1))=>IS.out w r2 R)
   by_cases eK:au r2=[92,47]
   ·have HI:=hid (show decide (au r2=[92,47])=true from decide_eq_true eK)
    have hlr:0<r2.length:=by
     cases r2 with
     |nil=>exact absurd eK (by decide)
     |cons t r=>simp
    obtain⟨n3,rfl⟩: ∃n3,n2=n3+1:=⟨n2-1,by omega⟩;have Ag:=hid (dm.out.trans (YM eK));have BJ:r2.tail.length=r2.length-1:=aoS;have ON:=hid (nO R5.out);clear eK
    go_wp2_with (go_at_call 159;refine av (RI.out _ R5.out) ?_;rw[HI.out])
    refine ON.out.mono ?_;rintro e w5 ⟨rfl,S6,R6⟩;have S7:=hid (S5.out.trans S6);have N7:=hid (N5.out.st S6 (by omega));have R6:=hid R6;clear S6;go_wp2
    go_roundw;exact⟨a',c',n3,l2++[y2],r2.tail,by rw[aoW,apW,HN.out],by rw[HB.out];exact Ag,by omega,by have:=HN.out;rw[aoW,apW];omega,R6,.inr N7.out,S7⟩;have:=HN.out;simp;omega
   have HI:=hid (show decide (au r2=[92,47])=false from decide_eq_false eK)
   have dm:=hid (dm.out.trans (tJ eK));clear eK;have b8:=gj S5.out hrb;have fz:=fun j=>(eW S5.out (b:=w.heap.size) (by simp) (by omega) j).trans (aV w _ _ j)
   obtain⟨p0,p1,p2,p3,p4,p5⟩:=b8.gw;clear b8
   by_cases h1:n=1
   ·subst h1
    obtain rfl:l2=[]:=ane (aI HN.out);have EL:bK cN w4 a' [y2]:=iD.els dr.out (by simp);have ix:=EL.idx kG kN 0 (by simp) c';rw[show((0:Nat):Int)=0 from rfl,apW]at ix;simp only[ap7,ano]at ix;obtain⟨e0,e1,e2,e3,e4,e5⟩:=bK.nd (k:=0) EL rfl;simp only[ap7,ano]at e0 e1 e2 e3 e4 e5;clear EL;have N6:=hid (show fM w4 (w.heap.size+1) a' c' [y2]from N5.out)
    go_wp2_with (go_at_call 159;refine av (RI.out _ R5.out) ?_;rw[HI.out])
    exact bodyPost_ret (by simp[results,results162,go_sem,p0,p1,p2,p3,p4,p5]) rfl (VN.Bk R5.out S5.out cW hrb y2 N6.out.y9.1 N6.out.y9.2 (by rw[dm.out,<-HB.out];rfl) rfl)
   have z1:((n:Int)==1)=false:=ah
   have N6:=hid (N5.out.node 5 bT 0 (by decide) (by have:=HN.out;simp;omega))
   go_wp2_with (go_at_call 159;refine av (RI.out _ R5.out) ?_;rw[HI.out])
   exact bodyPost_ret (by simp[results,results162,go_sem,p0,p1,p2,p3,p4,p5,HN.out,Nd.kind,Nd.th,bT,Nd.val,Nd.a,Nd.c,Nd.kids,aS]) rfl (VN.Bk R5.out S5.out cW hrb (.mk 5 bT 0 a' c' (l2++[y2])) N6.out.1 N6.out.2 (by rw[dm.out,<-HB.out,AO,MQ (by rw[AL,aoW,apW,HN.out];exact h1)];rfl) rfl)
theorem aaK(h:eY af l= .error e):js af l= .error e:=by unfold js;rw[h]
theorem aaL(h:eY af l= .ok (t,r))(h2:bg [61] r= .error e):js af l= .error e:=by unfold js;rw[h];simp only;rw[h2]
theorem aaM(h:eY af l= .ok (t,r))(h2:bg [61] r= .ok r2)(h3:aU (au r2)=none):js af l= .error r2:=by
 unfold js;rw[h];simp only;rw[h2];simp only;cases r2 with
 |nil=>rfl
 |cons a b=>rw[pG,show aU a.1=none from h3]
theorem aaN{v:Int}(h:eY af l= .ok (t,r))(h2:bg [61] r= .ok r2)(h3:aU (au r2)=some v):js af l= .ok (.mk 2 t v none 0 [],r2.tail):=by
 have hb:=(nK.1 h3).2;unfold js;rw[h];simp only;rw[h2];simp only;cases r2 with
 |nil=>exact absurd (Cg h3) (by decide)
 | cons a b=>
   rw[pG,show aU a.1=some v from h3];simp only;unfold bO at hb;simp only[Bool.and_eq_true,decide_eq_true_eq]at hb;rw[if_pos hb];rfl
abbrev Ic:Nd:=.mk 0 bT 0 none 0 []
structure jX(w wx:World)(B rb:Nat)(af:Int)(S:Tx)(l:List Tok)(b:Int):Prop where
 rd:cD wx B rb af S l b
 st:St ((w.alloc dJ).alloc dJ) wx rb
 hr:rb<w.heap.size
section
variable {w wx wy:World} {B rb:Nat} {af:Int} {S:Tx} {l l':List Tok} {b b':Int}
theorem jX.new(R:cD w B rb af S l b):jX w ((w.alloc dJ).alloc dJ) B rb af S l b:=
 ⟨(R.below (al _ _)).below (al _ _),St.refl _ _,R.cells.lt⟩
theorem jX.step(h:jX w wx B rb af S l b)(hs:St wx wy rb)(hr:cD wy B rb af S l' b'):jX w wy B rb af S l' b':=⟨hr,h.st.trans hs,h.hr⟩
theorem jX.below(h:jX w wx B rb af S l b)(hb:Below wx.heap.size wx wy):jX w wy B rb af S l b:=⟨h.rd.below hb,h.st.trans (aX hb),h.hr⟩
theorem jX.all(h:jX w wx B rb af S l b):wx.cell? ⟨w.heap.size,0,none⟩=an7 (.int .i64 0)/\wx.cell? ⟨w.heap.size,1,none⟩=an7 (.int .i64 0)/\wx.cell? ⟨w.heap.size,2,none⟩=an7 (.int .i64 0)/\wx.cell? ⟨w.heap.size,3,none⟩=an7 (.string ⟨#[]⟩)/\wx.cell? ⟨w.heap.size,4,none⟩=an7 (.int .i64 0)/\wx.cell? ⟨w.heap.size,5,none⟩=an7 (.slice none 0 0)/\wx.cell? ⟨w.heap.size+1,0,none⟩=an7 (.int .i64 0)/\wx.cell? ⟨w.heap.size+1,1,none⟩=an7 (.int .i64 0)/\wx.cell? ⟨w.heap.size+1,2,none⟩=an7 (.int .i64 0)/\wx.cell? ⟨w.heap.size+1,3,none⟩=an7 (.string ⟨#[]⟩)/\wx.cell? ⟨w.heap.size+1,4,none⟩=an7 (.int .i64 0)/\wx.cell? ⟨w.heap.size+1,5,none⟩=an7 (.slice none 0 0)/\(∀j,wx.frozen? ⟨w.heap.size,j,none⟩=false)/\(∀j,wx.frozen? ⟨w.heap.size+1,j,none⟩=false)/\wx.cell? ⟨rb,0,none⟩=an7 (.int .i64 af)/\wx.cell? ⟨rb,1,none⟩=an7 (.string (tx S))/\wx.cell? ⟨rb,2,none⟩=an7 (.int .i64 (aY (au l)))/\wx.cell? ⟨rb,3,none⟩=an7 (.string (tx (au l)))/\wx.cell? ⟨rb,4,none⟩=an7 (.int .i64 (dz S.length l))/\wx.cell? ⟨rb,5,none⟩=an7 (.int .i64 (gh S.length l))/\wx.cell? ⟨rb,6,none⟩=an7 (.int .i64 b)/\(∀j,wx.frozen? ⟨rb,j,none⟩=false)/\rb<wx.heap.size/\rb<w.heap.size/\w.heap.size≠rb/\w.heap.size<wx.heap.size/\w.heap.size+1<wx.heap.size:=by
 have hr:=h.hr;have r:=h.rd.cells;have e1:(w.alloc dJ).heap.size=w.heap.size+1:=by simp
 have a:=(((aA.new w #[.int .i64 0,.int .i64 0,.int .i64 0,.string ⟨#[]⟩,.int .i64 0,.slice none 0 0] 28).below (al _ dJ)).step h.st (by omega));have c:=((aA.new (w.alloc dJ) #[.int .i64 0,.int .i64 0,.int .i64 0,.string ⟨#[]⟩,.int .i64 0,.slice none 0 0] 28).step h.st (by omega));rw[e1]at c;have hz:=h.st.grown.size;simp at hz;refine⟨a.get 0 _ rfl,a.get 1 _ rfl,a.get 2 _ rfl,a.get 3 _ rfl,a.get 4 _ rfl,a.get 5 _ rfl,c.get 0 _ rfl,c.get 1 _ rfl,c.get 2 _ rfl,c.get 3 _ rfl,c.get 4 _ rfl,c.get 5 _ rfl,fun j=>?_,fun j=>?_,r.c0,r.c1,r.c2,r.c3,r.c4,r.c5,r.c6,r.fz,r.lt,hr,by omega,by omega,by omega⟩
 ·rw[eW h.st ah (by omega) j]
  rw[dM (w:=w.alloc dJ) (al _ _) (by simp) j];exact aV w _ _ j
 rw[eW h.st (by simp) (by omega) j,<-e1];exact aV (w.alloc dJ) _ _ j
theorem jX.gb(h:jX w wx B rb af S l b){c:Nat}(hg:wx.grownBy wy (an7 c))(hc:w.heap.size+2<=c):jX w wy B rb af S l b:=
 ⟨h.rd.gb hg (aI h.hr),qI h.st hg ah,h.hr⟩
theorem jX.st1(h:jX w wx B rb af S l b):St (w.alloc dJ) wx rb:=(St.new (St.refl _ rb) dJ).trans h.st
theorem jX.err{l0:List Tok}{p:PR Nd}{e:Ending}(h:jX w wx B rb af S l (dz S.length l0))(hp:p= .error l0)(hg:wx.grownBy wy (an7 w.heap.size))(hj:JN e):k9 w B rb af S p (VN w.heap.size) JN e wy:=
 VN.Bj h.rd h.st1 hg h.hr hp hj
theorem jX.cX{p:PR Nd}{e:Ending}{x:Nd}(h:jX w wx B rb af S l (-1))(hp:p= .ok (x,l))(hg:wx.grownBy wy (an7 w.heap.size))(y:Nd)(hN:aZ wx (w.heap.size+1) y)(hn:(dL y).Nodup)(hx:bG y=x)(he:e= .returned (vN y)):k9 w B rb af S p (VN w.heap.size) JN e wy:=
 VN.Bk h.rd h.st1 hg h.hr y hN hn (by rw[hx];exact hp) he
theorem X7(R:cD w B rb af S l (-1)){n m:Nat}(hm:l.length<=m+1)(NOT:au l≠[]->Eu 240 #[.pointer (some ⟨rb,0,none⟩)] B rb af S m (bV af n)):Calls prog 240 #[.pointer (some ⟨rb,0,none⟩)] w (k9 w B rb af S (bV af (n+1) l) (VN w.heap.size) JN):=by
 have htl:l.tail.length=l.length-1:=aoS;have NT:=hid (fun(w:World) (R:cD w B rb af S l.tail (-1)) (h:au l≠[])=>NOT h w l.tail R (by omega));have OT:=hid (fun(w:World) (R:cD w B rb af S l.tail (-1)) (h:au l≠[])=>show Calls prog 162 #[.pointer (some ⟨rb,0,none⟩),.bool true] w (k9 w B rb af S (gY (bV af n) l.tail) (VN w.heap.size) JN)from X9 R (m:=m) (by omega) (fun w l R hm=>X5 R hm (NOT h) (fun l x r _ h=>(tD af n l x r h).2)) (fun l x r _ h=>(Dj (.inl rfl) (tD af n) l x r h).2));have I1:=hid (fun(w:World) (R:cD w B rb af S l (-1))=>tH R 3 [126] rfl);have I2:=hid (fun(w:World) (R:cD w B rb af S l (-1))=>tH R 3 [40] rfl);have I3:=hid (fun(w:World) (R:cD w B rb af S l (-1))=>tH R 1 [116,114,117,101] rfl);have TK:=hid (fun w=>GI (s:=S) R.sl R.lx.next.1 w);rw[R.lx.next.2]at TK;have A1:=hid (fun h=>Wt (af:=af) (n:=n) (l:=l) h);have A2:=hid (fun h=>Wu (af:=af) (n:=n) (l:=l) h);have A3:=hid (fun h h2=>Wv (af:=af) (n:=n) (l:=l) h h2);have A4:=hid (fun h1 h2 h3=>Ww (af:=af) (n:=n) (l:=l) h1 h2 h3);generalize bV af (n+1) l=P at*;have V:=hid (jX.new R);obtain⟨p0,p1,p2,p3,p4,p5,q0,q1,q2,q3,q4,q5,f1,f2,c0,c1,c2,c3,c4,c5,c6,fz,lt,dw,hne,bM,bU⟩:=V.out.all;clear R NOT hm htl;go_in
 by_cases h1:au l=[126]
 ·have HA:=hid (A1.out h1)
  have H1:=hid (show decide (au l=[126])=true from decide_eq_true h1);have ON:=hid (nO V.out.rd);have NT:=hid (fun w R=>NT.out w R (by rw[h1];decide));clear A1 A2 A3 A4 h1 OT TK
  go_wp2_with (go_at_call 159;refine av (I1.out _ V.out.rd) ?_;rw[H1.out])
  refine(ON.out).mono ?_;rintro e w1 ⟨rfl,S1,R1⟩;have V:=hid (V.out.step S1 R1);obtain⟨p0,p1,p2,p3,p4,p5,q0,q1,q2,q3,q4,q5,f1,f2,c0,c1,c2,c3,c4,c5,c6,fz,lt,dw,hne,bM,bU⟩:=V.out.all;clear S1 R1 ON;go_wp2_with fail;refine(NT.out _ V.out.rd).mono ?_;rintro e w2 h;rcases hnt:bV af n l.tail with er|⟨x,r⟩
  ·rw[hnt]at HA h
   obtain⟨⟨y,rfl⟩,S1,l2,R1⟩:=h.err (l:=er) rfl;have V:=hid (V.out.step S1 R1);obtain⟨p0,p1,p2,p3,p4,p5,q0,q1,q2,q3,q4,q5,f1,f2,c0,c1,c2,c3,c4,c5,c6,fz,lt,dw,hne,bM,bU⟩:=V.out.all;clear S1 R1 h;have V:=hid ((V.out.below (al _ (bN y))).below (al _ (bN y)));go_wp2_with fail;exact bodyPost_ret (by simp[results,results240,go_sem,p0,p1,p2,p3,p4,p5,bM,bT,Nd.kind,Nd.th,Nd.val,Nd.a,Nd.c,Nd.kids,aS]<;>rfl) rfl (V.out.err HA.out (aP.grown (by refine aP.al ?_ _;refine aP.al ?_ _;(repeat refine aP.put ?_ _ _);exact aP.refl _ _)) ⟨.mk 3 bT 0 (an7 ⟨w2.heap.size+1,0,none⟩) 1 [y],rfl⟩)
  rw[hnt]at HA h
  obtain⟨⟨y,hy,rfl,bH,dW⟩,R1,S1⟩:=h.cX (x:=x) (r:=r) rfl;have V:=hid (V.out.step S1 R1);obtain⟨p0,p1,p2,p3,p4,p5,q0,q1,q2,q3,q4,q5,f1,f2,c0,c1,c2,c3,c4,c5,c6,fz,lt,dw,hne,bM,bU⟩:=V.out.all;clear S1 R1 h;have N1:=fM.one ((bH.keep (al _ (bN y))).mono (B':=w.heap.size+1) (by omega)) dW ah;rw[cR]at N1;have N1:=hid (N1.node 3 bT 0 (by decide) (by simp));have HY:=hid hy;clear bH dW hy;have V:=hid ((V.out.below (al _ (bN y))).below (al _ (bN y)));go_wp2_with fail;exact bodyPost_ret (by simp[results,results240,go_sem,p0,p1,p2,p3,p4,p5,bM,bT,Nd.kind,Nd.th,Nd.val,Nd.a,Nd.c,Nd.kids,aS]<;>rfl) rfl (V.out.cX HA.out (aP.grown (by refine aP.al ?_ _;refine aP.al ?_ _;(repeat refine aP.put ?_ _ _);exact aP.refl _ _)) (.mk 3 bT 0 (an7 ⟨w2.heap.size+1,0,none⟩) 1 [y]) N1.out.1 N1.out.2 (by rw[bG,vA,pY,HY.out];rfl) rfl)
 have H1:=hid (show decide (au l=[126])=false from decide_eq_false h1)
 by_cases h2:au l=[40]
 ·have HA:=hid (A2.out h2)
  have H2:=hid (show decide (au l=[40])=true from decide_eq_true h2);have ON:=hid (nO V.out.rd);have OT:=hid (fun w R=>OT.out w R (by rw[h2];decide));clear A1 A2 A3 A4 h1 h2 NT TK;go_wp2_with fail;refine av (I1.out _ V.out.rd) ?_;rw[H1.out];go_wp2_with fail;refine av (I2.out _ V.out.rd) ?_;rw[H2.out];go_wp2_with fail;refine(ON.out).mono ?_;rintro e w1 ⟨rfl,S1,R1⟩;have V:=hid (V.out.step S1 R1);obtain⟨p0,p1,p2,p3,p4,p5,q0,q1,q2,q3,q4,q5,f1,f2,c0,c1,c2,c3,c4,c5,c6,fz,lt,dw,hne,bM,bU⟩:=V.out.all;clear S1 R1 ON;go_wp2_with fail;refine(OT.out _ V.out.rd).mono ?_;rintro e w2 h;rcases hnt:gY (bV af n) l.tail with er|⟨x,r⟩
  ·rw[hnt]at HA h
   obtain⟨⟨y,rfl⟩,S1,l2,R1⟩:=h.err (l:=er) rfl;have V:=hid (V.out.step S1 R1);obtain⟨p0,p1,p2,p3,p4,p5,q0,q1,q2,q3,q4,q5,f1,f2,c0,c1,c2,c3,c4,c5,c6,fz,lt,dw,hne,bM,bU⟩:=V.out.all;clear S1 R1 h;have V:=hid (V.out.below (al _ (bN y)));have WB:=hid (CZ V.out.rd (by omega) 3 [41])
   go_wp2_with (go_at_call 161;refine av WB.out ?_)
   exact bodyPost_ret (by simp[results,results240,go_sem,p0,p1,p2,p3,p4,p5,bM]<;>rfl) rfl (V.out.err HA.out (aP.grown (by refine aP.al ?_ _;(repeat refine aP.put ?_ _ _);exact aP.refl _ _)) ⟨y,rfl⟩)
  rw[hnt]at HA h
  obtain⟨⟨y,hy,rfl,bH,dW⟩,R1,S1⟩:=h.cX (x:=x) (r:=r) rfl;have V:=hid (V.out.step S1 R1);obtain⟨p0,p1,p2,p3,p4,p5,q0,q1,q2,q3,q4,q5,f1,f2,c0,c1,c2,c3,c4,c5,c6,fz,lt,dw,hne,bM,bU⟩:=V.out.all;clear S1 R1 h;have hrw:rb<w2.heap.size:=by omega
  have V:=hid (V.out.below (al _ (bN y)));have bH:=hid (bH.keep (al _ (bN y)));have dW:=hid dW;have HY:=hid hy;clear hy;have WN:=hid (uO V.out.rd 3 [41] rfl (by decide));go_wp2_with fail;refine(WN.out).mono ?_;rintro e w3 h;rcases ht:bg [41] r with er|r2
  ·rw[ht]at HA h
   obtain⟨hv,S1,l2,R1⟩:=h.err (l:=er) rfl;unfold JU at hv;subst hv;have b5:=gj S1 hrw;obtain⟨e0,e1,e2,e3,e4,e5⟩:=b5.gw;have LI:w2.heap.size<w3.heap.size:=by have:=S1.grown.size;simp at this;omega
   clear b5;have V:=hid (V.out.step S1 R1);obtain⟨p0,p1,p2,p3,p4,p5,q0,q1,q2,q3,q4,q5,f1,f2,c0,c1,c2,c3,c4,c5,c6,fz,lt,dw,hne,bM,bU⟩:=V.out.all;clear S1 R1 h;go_wp2_with fail;exact bodyPost_ret (by simp[results,results240,go_sem,p0,p1,p2,p3,p4,p5]<;>rfl) rfl (V.out.err HA.out cW ⟨y,rfl⟩)
  rw[ht]at HA h
  obtain⟨hv,R1,S1⟩:=h.cX (x:=()) (r:=r2) rfl;unfold VU at hv;subst hv;have b5:=gj S1 hrw;obtain⟨e0,e1,e2,e3,e4,e5⟩:=b5.gw;have LI:w2.heap.size<w3.heap.size:=by have:=S1.grown.size;simp at this;omega
  clear b5;have bH:=hid ((bH.out.mono (B':=w.heap.size+1) (by omega)).st S1 (by omega));have V:=hid (V.out.step S1 R1);obtain⟨p0,p1,p2,p3,p4,p5,q0,q1,q2,q3,q4,q5,f1,f2,c0,c1,c2,c3,c4,c5,c6,fz,lt,dw,hne,bM,bU⟩:=V.out.all;clear S1 R1 h;go_wp2_with fail;exact bodyPost_ret (by simp[results,results240,go_sem,p0,p1,p2,p3,p4,p5]<;>rfl) rfl (V.out.cX HA.out cW y bH.out dW.out HY.out rfl)
 have H2:=hid (show decide (au l=[40])=false from decide_eq_false h2);have A4:=hid (fun h=>A4.out h1 h2 h);clear A1 A2 h1 h2 NT OT
 by_cases h3:au l=[116,114,117,101]
 focus
  have H3:=hid (show decide (au l=[116,114,117,101])=true from decide_eq_true h3);have A3:=hid (A3.out h3);clear h3;go_wp2_with fail;refine av (I1.out _ V.out.rd) ?_;rw[H1.out];go_wp2_with fail;refine av (I2.out _ V.out.rd) ?_;rw[H2.out];go_wp2_with fail;refine av (I3.out _ V.out.rd) ?_;rw[H3.out]
  go_upto_region 12 with(fail)
  generalize (w.alloc dJ).alloc dJ=W0 at*;have E0:Below W0.heap.size W0 W0.drew:=below_drewN W0 1;have V0:=hid (V.out.below E0);obtain⟨c0,c1,c2,c3,c4,c5,c6,fz,lt, -⟩:=V0.out.rd.cells
  go_cut [6] (fun x wx=> ∃b6:Nat,x= .pointer (some ⟨b6,0,none⟩)/\jX w wx B rb af S l (-1)/\aA wx b6 [.int .i64 (aY (au l.tail)),.string (tx (au l.tail)),.int .i64 (dz S.length l.tail),.int .i64 (gh S.length l.tail)])
  case first=>
   go_region_with (go_at_call 119;refine(TK.out _).mono ?_;rintro e w1 ⟨rfl,E1⟩;first|(have V1:=hid (V0.out.below E1))|(have V1:=hid ((V0.out.below (al _ (.cells #[.int .i64 0,.string ⟨#[]⟩,.int .i64 0,.int .i64 0] 145))).below E1);have b6:=(aA.new W0.drew #[.int .i64 0,.string ⟨#[]⟩,.int .i64 0,.int .i64 0] 145).below E1;have u0:w1.cell? ⟨W0.heap.size,0,none⟩=some (.int .i64 0):=b6.get 0 _ rfl;have u1:w1.cell? ⟨W0.heap.size,1,none⟩=some (.string ⟨#[]⟩):=b6.get 1 _ rfl;have u2:w1.cell? ⟨W0.heap.size,2,none⟩=some (.int .i64 0):=b6.get 2 _ rfl;have u3:w1.cell? ⟨W0.heap.size,3,none⟩=some (.int .i64 0):=b6.get 3 _ rfl;have fu: ∀j,w1.frozen? ⟨W0.heap.size,j,none⟩=false:=fun j=>(dM E1 (b:=W0.drew.heap.size) (by simp) j).trans (aV W0.drew _ _ j)))
   all_goals(go_wp2_with fail;go_meet)
   all_goals first|(refine⟨w1.heap.size,(by with_reducible rfl),?_,?_⟩;exact V1.out.below (al _ _);exact aA.new w1 _ _)|(refine⟨W0.heap.size,(by with_reducible rfl),?_,?_⟩;exact V1.out.gb cW (by omega);exact((((show aA w1 W0.heap.size _ from b6).set 0 _).set 1 _).set 2 _).set 3 _)
  obtain⟨b6,rfl,V,xE⟩:=hcut;have V:=hid V;clear E0;obtain⟨p0,p1,p2,p3,p4,p5,q0,q1,q2,q3,q4,q5,f1,f2,c0,c1,c2,c3,c4,c5,c6,fz,lt,dw,hne,bM,bU⟩:=V.out.all
  by_cases h4:au l.tail=[61]
  rotate_left
  ·have HA:=hid (A3.out h4)
   have z:=cY _ _ h4;obtain⟨t0,t1⟩:=xE.mB;have ON:=hid (nO V.out.rd);clear xE h4 A3 A4
   by_cases hk:aY (au l.tail)=3
   all_goals
    go_wp2_with fail;refine(ON.out).mono ?_;rintro e w1 ⟨rfl,S1,R1⟩;have V:=hid (V.out.step S1 R1);obtain⟨p0,p1,p2,p3,p4,p5,q0,q1,q2,q3,q4,q5,f1,f2,c0,c1,c2,c3,c4,c5,c6,fz,lt,dw,hne,bM,bU⟩:=V.out.all;clear S1 R1;go_wp2_with fail;exact bodyPost_ret (by simp[results,results240,go_sem,p0,p1,p2,p3,p4,p5,bT,Nd.kind,Nd.th,Nd.val,Nd.a,Nd.c,Nd.kids,aS]<;>rfl) rfl (V.out.cX HA.out cW (.mk 1 bT 0 none 0 []) (aZ.leaf _ _ 1 bT 0 (by decide)).1 (aZ.leaf w 0 1 bT 0 (by decide)).2 (by rw[bG,pY];rfl) rfl)
  have HA:=hid (A4.out (.inr h4));rw[h4]at xE;have qn:aY [61]=3:=rfl;have z61:((tx [61]).toList==[61])=true:=by rw[bh];decide
  rw[qn]at xE;obtain⟨t0,t1⟩:=xE.mB;clear xE h4 A3 A4;generalize tx [61]=u61 at*
 rotate_left
 focus
  have H3:=hid (show decide (au l=[116,114,117,101])=false from decide_eq_false h3);have HA:=hid (A4.out (.inl h3));clear h3 A3 A4;go_wp2_with fail;refine av (I1.out _ V.out.rd) ?_;rw[H1.out];go_wp2_with fail;refine av (I2.out _ V.out.rd) ?_;rw[H2.out];go_wp2_with fail;refine av (I3.out _ V.out.rd) ?_;rw[H3.out]
 all_goals
  go_wp2_with fail;refine(ahZ V.out.rd).mono ?_;rintro e w2 h;rcases mJ:eY af l with er|⟨t,r⟩
  ·have HA:=hid (HA.out.trans (aaK mJ))
   rw[mJ]at h;obtain⟨⟨t,rfl,htl⟩,S1,l2,R1⟩:=h.err (l:=er) rfl;have V:=hid (V.out.step S1 R1);obtain⟨p0,p1,p2,p3,p4,p5,q0,q1,q2,q3,q4,q5,f1,f2,c0,c1,c2,c3,c4,c5,c6,fz,lt,dw,hne,bM,bU⟩:=V.out.all;clear S1 R1 h mJ;have V:=hid (V.out.below (al _ (.cells #[.int .i64 t.thread,.int .i64 t.az,.string (tx t.loc)] 25)));have WB:=hid (CZ V.out.rd (by omega) 3 [61])
   go_wp2_with (go_at_call 161;refine av WB.out ?_)
   exact bodyPost_ret (by simp[results,results240,go_sem,p0,p1,p2,p3,p4,p5,bM,bT,Nd.kind,Nd.th,Nd.val,Nd.a,Nd.c,Nd.kids,aS]<;>rfl) rfl (V.out.err HA.out (aP.grown (by refine aP.al ?_ _;(repeat refine aP.put ?_ _ _);exact aP.refl _ _)) ⟨Ic,rfl⟩)
  rw[mJ]at h;obtain⟨⟨rfl,htl⟩,R1,S1⟩:=h.cX (x:=t) (r:=r) rfl;have V:=hid (V.out.step S1 R1);obtain⟨p0,p1,p2,p3,p4,p5,q0,q1,q2,q3,q4,q5,f1,f2,c0,c1,c2,c3,c4,c5,c6,fz,lt,dw,hne,bM,bU⟩:=V.out.all;clear S1 R1 h;have hrw:rb<w2.heap.size:=by omega
  have V:=hid (V.out.below (al _ (.cells #[.int .i64 t.thread,.int .i64 t.az,.string (tx t.loc)] 25)));have WN:=hid (uO V.out.rd 3 [61] rfl (by decide));have nW:=hid mJ;clear mJ;go_wp2_with fail;refine(WN.out).mono ?_;rintro e w3 h;rcases ht:bg [61] r with er|r2
  ·have HA:=hid (HA.out.trans (aaL nW.out ht))
   rw[ht]at h;obtain⟨hv,S1,l2,R1⟩:=h.err (l:=er) rfl;unfold JU at hv;subst hv;have V:=hid (V.out.step S1 R1);obtain⟨p0,p1,p2,p3,p4,p5,q0,q1,q2,q3,q4,q5,f1,f2,c0,c1,c2,c3,c4,c5,c6,fz,lt,dw,hne,bM,bU⟩:=V.out.all;clear S1 R1 h ht;go_wp2_with fail;exact bodyPost_ret (by simp[results,results240,go_sem,p0,p1,p2,p3,p4,p5,bT,Nd.kind,Nd.th,Nd.val,Nd.a,Nd.c,Nd.kids,aS]<;>rfl) rfl (V.out.err HA.out cW ⟨Ic,rfl⟩)
  have HT:=hid ht;rw[ht]at h;obtain⟨hv,R1,S1⟩:=h.cX (x:=()) (r:=r2) rfl;unfold VU at hv;subst hv;have b7:=gj S1 hrw;have hz7:w2.heap.size<w3.heap.size:=by have:=S1.grown.size;simp at this;omega
  have V:=hid (V.out.step S1 R1);obtain⟨p0,p1,p2,p3,p4,p5,q0,q1,q2,q3,q4,q5,f1,f2,c0,c1,c2,c3,c4,c5,c6,fz,lt,dw,hne,bM,bU⟩:=V.out.all;clear S1 R1 h ht;have NM:=hid (fun w=>Ng (au r2) w);rcases hn:aU (au r2)with- |v
  ·have HA:=hid (HA.out.trans (aaM nW.out HT.out hn))
   have Iz:=hid hn;have WR:=hid (wJ V.out.rd);clear hn b7
   by_cases hk2:aY (au r2)=2
   all_goals
    go_wp2_with (go_at_call 116;refine av (NM.out _) ?_;rw[Iz.out])
    refine(WR.out).mono ?_;rintro e w4 ⟨rfl,S1,R1⟩;have V:=hid (V.out.step S1 R1);obtain⟨p0,p1,p2,p3,p4,p5,q0,q1,q2,q3,q4,q5,f1,f2,c0,c1,c2,c3,c4,c5,c6,fz,lt,dw,hne,bM,bU⟩:=V.out.all;clear S1 R1;go_wp2_with fail;exact bodyPost_ret (by simp[results,results240,go_sem,p0,p1,p2,p3,p4,p5,bT,Nd.kind,Nd.th,Nd.val,Nd.a,Nd.c,Nd.kids,aS]<;>rfl) rfl (V.out.err HA.out cW ⟨Ic,rfl⟩)
  have HA:=hid (HA.out.trans (aaN nW.out HT.out hn));have Iz:=hid hn;have hk2:aY (au r2)=2:=Cg hn;have ON:=hid (nO V.out.rd);clear hn
  go_wp2_with (go_at_call 116;refine av (NM.out _) ?_;rw[Iz.out])
  refine(ON.out).mono ?_;rintro e w4 ⟨rfl,S1,R1⟩;have b7:=b7.step S1 (by omega);obtain⟨u0,u1,u2⟩:=b7.oa;have hz8:w2.heap.size<w4.heap.size:=by have:=S1.grown.size;omega
  clear b7;have V:=hid (V.out.step S1 R1);obtain⟨p0,p1,p2,p3,p4,p5,q0,q1,q2,q3,q4,q5,f1,f2,c0,c1,c2,c3,c4,c5,c6,fz,lt,dw,hne,bM,bU⟩:=V.out.all;clear S1 R1;go_wp2_with fail;exact bodyPost_ret (by simp[results,results240,go_sem,p0,p1,p2,p3,p4,p5,Nd.kind,Nd.th,Nd.val,Nd.a,Nd.c,Nd.kids]<;>rfl) rfl (V.out.cX HA.out cW (.mk 2 t v none 0 []) (aZ.leaf _ _ 2 t v htl).1 (aZ.leaf w 0 2 t v htl).2 (by rw[bG,pY]) rfl)
theorem ahO(n:Nat):Eu 240 #[.pointer (some ⟨rb,0,none⟩)] B rb af S n (bV af (n+1)):=by
 induction n with
 |zero=>exact fun w l R hm=>X7 R (m:=0) (by omega) fun h=>absurd (by rw[ane (Nat.le_zero.1 hm)];rfl) h
 |succ n ih=>exact fun w l R hm=>X7 R hm fun _=>ih
theorem ahN(R:cD w B rb af S l (-1)):Calls prog 162 #[.pointer (some ⟨rb,0,none⟩),.bool true] w (k9 w B rb af S (gY (bV af (l.length+1)) l) (VN w.heap.size) JN):=
 X9 R (m:=l.length) (anb _) (fun w l' R hm=>X5 R hm (ahO _) (fun l x r _ h=>(tD af _ l x r h).2)) (fun l x r _ h=>(Dj (.inl rfl) (tD af _) l x r h).2)
end
theorem Zp(w:World)(b:Nat)(x:Nd):(((((w.setCell ⟨b,0,none⟩ (.int .i64 x.kind)).setCell ⟨b,1,none⟩ (.int .i64 x.th.thread)).setCell ⟨b,2,none⟩ (.int .i64 x.th.az)).setCell ⟨b,3,none⟩ (.string (tx x.th.loc))).setCell ⟨b,4,none⟩ (.int .i64 x.val)).setCell ⟨b,5,none⟩ (.slice x.a x.kids.length x.c)=qH w b x:=rfl
abbrev Ia:List Value:=[.int .i64 0,.int .i64 0,.int .i64 0,.int .i64 0,.string ⟨#[]⟩,.int .i64 0,.slice none 0 0]
structure jY(w wx:World)(rb:Nat)(af:Int)(S:Tx)(l:List Tok)(b:Int):Prop where
 rd:cD wx w.heap.size rb af S l b
 b0:aA wx w.heap.size Ia
 b1:aA wx (w.heap.size+1) Ia
 f0: ∀j,wx.frozen? ⟨w.heap.size,j,none⟩=false
 bu:Below w.heap.size w wx
 hr:w.heap.size+2<=rb
 sz:w.heap.size+2<=wx.heap.size
section
variable {w wx wy:World} {rb:Nat} {af:Int} {S:Tx} {l l':List Tok} {b b':Int}
theorem jY.below(h:jY w wx rb af S l b)(hb:Below wx.heap.size wx wy):jY w wy rb af S l b:=by
 have hs:=h.sz;have hz:=hb.size;exact⟨h.rd.below hb,h.b0.below hb,h.b1.below hb,fun j=>(dM hb (by omega) j).trans (h.f0 j),h.bu.trans (hb.mono h.bu.size),h.hr,by omega⟩
theorem jY.step(h:jY w wx rb af S l b)(hs:St wx wy rb)(hr:cD wy w.heap.size rb af S l' b'):jY w wy rb af S l' b':=by
 have hsz:=h.sz;have hz:=hs.grown.size;have h0:=h.hr;exact⟨hr,h.b0.step hs (by omega),h.b1.step hs (by omega),fun j=>(eW hs (by omega) (by omega) j).trans (h.f0 j),h.bu.grown hs.grown h.bu.size (fun r hr'=>by simp at hr';omega),h0,by omega⟩
abbrev Yi(af:Int)(S:Tx)(l:List Tok):Obj:=.cells #[.int .i64 af,.string (tx S),.int .i64 (aY (au l)),.string (tx (au l)),.int .i64 (dz S.length l),.int .i64 (gh S.length l),.int .i64 (-1)] 189
theorem jY.new{w w2:World}{af:Int}{S:Tx}{l:List Tok}(E:Below ((w.alloc (zC 0)).alloc (zC 0)).heap.size ((w.alloc (zC 0)).alloc (zC 0)) w2)(hx:Lx S l)(hs:S.length<=262144):jY w (w2.alloc (Yi af S l)) w2.heap.size af S l (-1):=by
 have hz:=E.size;simp only[cR]at hz;have e1:(w.alloc (zC 0)).heap.size=w.heap.size+1:=by simp
 have a:aA w2 w.heap.size Ia:=((aA.new w #[.int .i64 0,.int .i64 0,.int .i64 0,.int .i64 0,.string ⟨#[]⟩,.int .i64 0,.slice none 0 0] 30).below (al _ (zC 0))).below E
 have c:aA w2 (w.heap.size+1) Ia:=by
  have:=(aA.new (w.alloc (zC 0)) #[.int .i64 0,.int .i64 0,.int .i64 0,.int .i64 0,.string ⟨#[]⟩,.int .i64 0,.slice none 0 0] 30).below E;rw[e1]at this;exact this
 refine⟨⟨?_,hx,hs⟩,a.below (al _ _),c.below (al _ _),fun j=>?_,?_,by omega,ah⟩
 ·exact World.ownsRow_lit w2 (e:=189) #[.int .i64 af,.string (tx S),.int .i64 (aY (au l)),.string (tx (au l)),.int .i64 (dz S.length l),.int .i64 (gh S.length l),.int .i64 (-1)] 1 (by omega) (size:=7) cz (by simp)
 ·rw[dM (al w2 _) (by omega) j,dM E ah j,dM (w:=w.alloc (zC 0)) (al _ _) (by simp) j]
  exact aV w _ _ j
 exact(((al w (zC 0)).trans ((al _ (zC 0)).mono (by simp))).trans (E.mono ah)).trans ((al w2 _).mono (by omega))
theorem jY.fin(h:jY w wx rb af S l b)(hg:wx.grownBy wy (an7 w.heap.size)):Below w.heap.size w wy:=
 h.bu.grown hg h.bu.size (fun r hr'=>by simp at hr';omega)
theorem jY.gb(h:jY w wx rb af S l b){c:Nat}(hg:wx.grownBy wy (an7 c))(hc:w.heap.size+2<=c)(hr:c≠rb):jY w wy rb af S l b:=by
 have hz:=hg.size;have hs:=h.sz;have hst:St wx wy c:=To hg;exact⟨h.rd.gb hg hr,h.b0.step hst (by omega),h.b1.step hst (by omega),fun j=>(eW hst (by omega) (by omega) j).trans (h.f0 j),h.bu.grown hg h.bu.size (fun r hr'=>by simp at hr';omega),h.hr,by omega⟩
theorem jY.err(h:jY w wx rb af S l b)(hg:wx.grownBy wy (an7 w.heap.size)){n:Int}{k:Nat}{e:Ending}{pp:Except (Int × Nat) (Int × Nd)}(hp:pp= .error (n,k))(he:e= .returned (.tuple #[.agg #[.int .i64 0,.int .i64 0,.int .i64 0,.int .i64 0,.string ⟨#[]⟩,.int .i64 0,.slice none 0 0],.int .i64 n,.int .i64 k])):lT pp w e wy:=by
 subst hp;exact⟨h.fin hg,he⟩
theorem jY.cX(h:jY w wx rb af S l b)(hg:wx.grownBy wy (an7 w.heap.size)){q:Int}{x y:Nd}{e:Ending}{pp:Except (Int × Nat) (Int × Nd)}(hp:pp= .ok (q,x))(hN:aZ wx (w.heap.size+1) y)(hn:(dL y).Nodup)(hy:bG y=x)(he:e= .returned (.tuple #[vC q y,.int .i64 0,.int .i64 0])):lT pp w e wy:=by
 subst hp;refine⟨h.fin hg,y,hy,he,?_,hn⟩;refine(hN.mono (B':=w.heap.size) (by omega)).kept hg fun b hb e=>?_
 have:=(hN.lt b hb).1;simp at e;omega
theorem jY.all(h:jY w wx rb af S l b):wx.cell? ⟨w.heap.size,0,none⟩=an7 (.int .i64 0)/\wx.cell? ⟨w.heap.size,1,none⟩=an7 (.int .i64 0)/\wx.cell? ⟨w.heap.size,2,none⟩=an7 (.int .i64 0)/\wx.cell? ⟨w.heap.size,3,none⟩=an7 (.int .i64 0)/\wx.cell? ⟨w.heap.size,4,none⟩=an7 (.string ⟨#[]⟩)/\wx.cell? ⟨w.heap.size,5,none⟩=an7 (.int .i64 0)/\wx.cell? ⟨w.heap.size,6,none⟩=an7 (.slice none 0 0)/\wx.cell? ⟨w.heap.size+1,0,none⟩=an7 (.int .i64 0)/\wx.cell? ⟨w.heap.size+1,1,none⟩=an7 (.int .i64 0)/\wx.cell? ⟨w.heap.size+1,2,none⟩=an7 (.int .i64 0)/\wx.cell? ⟨w.heap.size+1,3,none⟩=an7 (.int .i64 0)/\wx.cell? ⟨w.heap.size+1,4,none⟩=an7 (.string ⟨#[]⟩)/\wx.cell? ⟨w.heap.size+1,5,none⟩=an7 (.int .i64 0)/\wx.cell? ⟨w.heap.size+1,6,none⟩=an7 (.slice none 0 0)/\(∀j,wx.frozen? ⟨w.heap.size,j,none⟩=false)/\wx.cell? ⟨rb,0,none⟩=an7 (.int .i64 af)/\wx.cell? ⟨rb,1,none⟩=an7 (.string (tx S))/\wx.cell? ⟨rb,2,none⟩=an7 (.int .i64 (aY (au l)))/\wx.cell? ⟨rb,3,none⟩=an7 (.string (tx (au l)))/\wx.cell? ⟨rb,4,none⟩=an7 (.int .i64 (dz S.length l))/\wx.cell? ⟨rb,5,none⟩=an7 (.int .i64 (gh S.length l))/\wx.cell? ⟨rb,6,none⟩=an7 (.int .i64 b)/\(∀j,wx.frozen? ⟨rb,j,none⟩=false)/\rb<wx.heap.size/\w.heap.size+2<=wx.heap.size/\w.heap.size+2<=rb:=by
 have r:=h.rd.cells;exact⟨h.b0.get 0 _ rfl,h.b0.get 1 _ rfl,h.b0.get 2 _ rfl,h.b0.get 3 _ rfl,h.b0.get 4 _ rfl,h.b0.get 5 _ rfl,h.b0.get 6 _ rfl,h.b1.get 0 _ rfl,h.b1.get 1 _ rfl,h.b1.get 2 _ rfl,h.b1.get 3 _ rfl,h.b1.get 4 _ rfl,h.b1.get 5 _ rfl,h.b1.get 6 _ rfl,h.f0,r.c0,r.c1,r.c2,r.c3,r.c4,r.c5,r.c6,r.fz,r.lt,h.sz,h.hr⟩
end
theorem aeI(h:Lx S l)(hl:l≠[]):aY (au l)≠0:=by
 cases l with
 |nil=>exact absurd rfl hl
 | cons t r=>
   have h1:=h.head.1;show aY t.1≠0;cases ht:t.1 with
   |nil=>rw[ht]at h1;simp at h1
   | cons c u=>
     rw[uI];split
     ·simp
     split<;>simp
theorem abr(h:au l=[102,111,114,97,108,108]):gW l= .ok (3,l.tail):=by unfold gW;rw[if_pos h]
theorem abt(h:au l=[126]):gW l=match bg [101,120,105,115,116,115] l.tail with
 | .error e=>.error e
 | .ok r=>.ok (2,r):=by unfold gW;rw[if_neg (by rw[h];decide),if_pos h];rfl
theorem abu(h:au l≠[102,111,114,97,108,108])(h2:au l≠[126]):gW l=match bg [101,120,105,115,116,115] l with
 | .error e=>.error e
 | .ok r=>.ok (1,r):=by unfold gW;rw[if_neg h,if_neg h2];rfl
theorem ab2(h:gW l= .error e):j7 af l= .error e:=by rw[Be,h]
theorem ab6{q:Int}(h:gW l= .ok (q,r)):j7 af l=kO af q r:=by rw[Be,h]
theorem ahR(h:bF af=false)(w:World):Calls prog 90 #[.int .i64 af,.string (tx s)] w (lT (cJ af s) w):=by
 rw[Xg h];have KN:=hid (fun w=>wI af w);have HA:=hid h;clear h;go_in
 go_wp2_with (go_at_call 45;refine av (KN.out _) ?_;rw[HA.out])
 exact bodyPost_ret (by simp[results,results90,go_sem]<;>rfl) rfl ⟨oz,rfl⟩
theorem ahS(h:bF af=true)(hl:262144<s.length)(hm:s.length<=9223372036854775807)(w:World):Calls prog 90 #[.int .i64 af,.string (tx s)] w (lT (cJ af s) w):=by
 rw[Xh h hl];have KN:=hid (fun w=>wI af w);have HA:=hid h;have hsz:(tx s).size=s.length:=aM s;generalize tx s=u at*;have z:decide ((262144:Int)<(u.size:Int))=true:=ah;have hm2:u.size<=9223372036854775807:=by omega
 clear h hsz hl hm;go_in
 go_wp2_with (go_at_call 45;refine av (KN.out _) ?_;rw[HA.out])
 exact bodyPost_ret (by simp[results,results90,go_sem]<;>rfl) rfl ⟨oz,rfl⟩
def aam(N:Nat)(l0:List Tok)(q b:Int)(l1:List Tok):Prop:=(∃er,gW l0= .error er/\b=(dz N er:Int))\/(gW l0= .ok (q,l1)/\b= -1)
theorem ahT(h:bF af=true)(hl:s.length<=262144)(w:World):Calls prog 90 #[.int .i64 af,.string (tx s)] w (lT (cJ af s) w):=by
 have KN:=hid (fun w=>wI af w);have HA:=hid h;have TK:=hid (fun w=>GI (s:=s) hl (Nat.zero_le _) w);rw[List.drop_zero]at TK;have LX:=hid (Lx.start s);obtain⟨l0,hl0⟩:=aj (lex 0 s);obtain⟨pp,eC⟩:=aj (cJ af s);have iA:=hid eC;have zZ:=hid hl0;have Al:=hid hl;rw[eC];rw[hl0]at TK LX;have hsz:(tx s).size=s.length:=aM s;obtain⟨u,hu⟩:=aj (tx s);have HU:=hid hu;rw[hu]at hsz⊢;rw[hu]at TK;have z:decide ((262144:Int)<(u.size:Int))=false:=ah;have hm2:u.size<=9223372036854775807:=by omega
 clear h hl hl0 eC hsz hu;go_in
 go_wp2_with (go_at_call 45;refine av (KN.out _) ?_;rw[HA.out])
 refine(TK.out _).mono ?_;rintro e w2 ⟨rfl,E2⟩;have V:=hid (jY.new (af:=af) E2 LX.out Al.out);have Gd:w.heap.size+2<=w2.heap.size:=by have:=E2.size;simp at this;omega
 clear E2 TK KN;have hu:=HU.out;subst hu;obtain⟨b1,dH⟩:=aj (decide (au l0=[102,111,114,97,108,108]));have IP:=hid (tH V.out.rd 1 [102,111,114,97,108,108] rfl);rw[dH]at IP;have tU:=hid dH;clear dH HU;obtain⟨c0,c1,c2,c3,c4,c5,c6,fz,lt, -⟩:=V.out.rd.cells
 go_upto_if 28 with(go_at_call 159;refine av IP.out ?_)
 clear IP;obtain⟨rb,hrb⟩:=aj w2.heap.size;rw[hrb]at V⊢;rw[hrb]at c0 c1 c2 c3 c4 c5 c6 fz lt;generalize w2.alloc (Yi af s l0)=W6 at*
 go_cut [9] (fun q wx=> ∃(q1 b1:Int) (l1:List Tok),q= .int .i64 q1/\jY w wx rb af s l1 b1/\Hid (aam s.length l0 q1 b1 l1))
 case first=>
  cases b1 with
  | true=>
    have HH:=hid (abr (l:=l0) (of_decide_eq_true tU.out));have ON:=hid (nO V.out.rd);go_wp2_with fail;refine(ON.out).mono ?_;rintro e w3 ⟨rfl,S1,R1⟩;have V:=hid (V.out.step S1 R1);clear S1 R1 ON;go_wp2_with fail
    go_meet
    exact⟨3, -1,l0.tail,rfl,V.out,hid (.inr ⟨HH.out,rfl⟩)⟩
  | false=>
    have h1:au l0≠[102,111,114,97,108,108]:=of_decide_eq_false tU.out;have P9:=hid (tH V.out.rd 3 [126] rfl)
    obtain⟨k,l2,HH,hk⟩: ∃(k:Int) (l2:List Tok),Hid (gW l0=match bg [101,120,105,115,116,115] l2 with
     | .error e=>.error e
     | .ok r=>.ok (k,r))/\(au l0=[126]/\k=2/\l2=l0.tail\/au l0≠[126]/\k=1/\l0=l2):=by
     by_cases h2:au l0=[126]
     ·exact⟨2,_,hid (abt h2),.inl ⟨h2,rfl,rfl⟩⟩
     exact⟨1,_,hid (abu h1 h2),.inr ⟨h2,rfl,rfl⟩⟩
    clear h1;rcases hk with⟨h2,rfl,rfl⟩|⟨h2,rfl,rfl⟩
    focus
     have H2:=hid (show decide (au l0=[126])=true from decide_eq_true h2);have ON:=hid (nO V.out.rd);clear h2
     go_wp2_with (go_at_call 159;refine av P9.out ?_;rw[H2.out])
     refine(ON.out).mono ?_;rintro e w3 ⟨rfl,S1,R1⟩;have V:=hid (V.out.step S1 R1);obtain⟨c0,c1,c2,c3,c4,c5,c6,fz,lt, -⟩:=V.out.rd.cells;have WN:=hid (uO V.out.rd 1 [101,120,105,115,116,115] rfl (by decide));clear S1 R1 ON;go_wp2_with fail
    rotate_left
    focus
     have H2:=hid (show decide (au l0=[126])=false from decide_eq_false h2);have WN:=hid (uO V.out.rd 1 [101,120,105,115,116,115] rfl (by decide));clear h2
     go_wp2_with (go_at_call 159;refine av P9.out ?_;rw[H2.out])
    all_goals
     refine WN.out.mono ?_;rintro e w4 h;generalize bg [101,120,105,115,116,115] _=T at*;rcases T with er|r
     ·obtain⟨hv,S1,l2,R1⟩:=h.err (l:=er) rfl
      unfold JU at hv;subst hv;have V:=hid (V.out.step S1 R1);go_wp2_with fail
      go_meet
      exact⟨_,_,_,rfl,V.out,hid (.inl ⟨er,HH.out,rfl⟩)⟩
     obtain⟨hv,R1,S1⟩:=h.cX (x:=()) (r:=r) rfl;unfold VU at hv;subst hv;have V:=hid (V.out.step S1 R1);go_wp2_with fail
     go_meet
     exact⟨_, -1,r,rfl,V.out,hid (.inr ⟨HH.out,rfl⟩)⟩
 case rest=>
  clear c0 c1 c2 c3 c4 c5 c6 fz lt V;obtain⟨q,bb,l1,rfl,V,HQ⟩:=hcut;have V:=hid V;obtain⟨p0,p1,p2,p3,p4,p5,p6,q0,q1,q2,q3,q4,q5,q6,f0,c0,c1,c2,c3,c4,c5,c6,fz,lt,sz,dw⟩:=V.out.all;have HL:=hid (show bF af=true/\s.length<=262144 from⟨HA.out,Al.out⟩);rcases HQ.out with⟨er,he,rfl⟩|⟨he,rfl⟩
  focus
   have HC:=hid (ab2 (af:=af) he);have WB:=hid (CZ V.out.rd (by omega) 3 [40]);clear he HQ;go_wp2_with fail;refine(WB.out).mono ?_;rintro e w4 ⟨rfl,rfl⟩
  rotate_left
  focus
   have HC:=hid (ab6 (af:=af) he);have WN:=hid (uO V.out.rd 3 [40] rfl (by decide));clear he HQ;go_wp2_with fail;refine(WN.out).mono ?_;rintro e w4 h;rcases h1:bg [40] l1 with er|l2
   rotate_left
   ·skip
    have H1:=hid h1;have ND:=hid (fun(w0:World) (R:cD w0 w.heap.size rb af s l2 (-1))=>ahN R);rw[h1]at h;obtain⟨hv,R1,S1⟩:=h.cX (x:=()) (r:=l2) rfl;unfold VU at hv;subst hv;have V:=hid (V.out.step S1 R1);clear h S1 R1 h1 WN;clear p0 p1 p2 p3 p4 p5 p6 q0 q1 q2 q3 q4 q5 q6 f0 c0 c1 c2 c3 c4 c5 c6 fz lt sz;obtain⟨p0,p1,p2,p3,p4,p5,p6,q0,q1,q2,q3,q4,q5,q6,f0,c0,c1,c2,c3,c4,c5,c6,fz,lt,sz,dw⟩:=V.out.all;have UJ:w.heap.size+2<=w4.heap.size/\rb<w4.heap.size:=⟨sz,lt⟩;have V:=hid (V.out.below (al _ dJ));go_wp2_with fail;refine(ND.out _ V.out.rd).mono ?_;rintro e w5 h;rcases h2:gY (bV af (l2.length+1)) l2 with er|⟨x,l3⟩
    ·have HC:=hid (HC.out.trans (Sj H1.out h2))
     rw[h2]at h;obtain⟨⟨y,rfl⟩,S1,l3',R1⟩:=h.err (l:=er) rfl;clear h2;have b5:=gj S1 lt;have LI:w4.heap.size<w5.heap.size:=by have:=S1.grown.size;simp at this;omega
     obtain⟨d0,d1,d2,d3,d4,d5⟩:=b5.gw;have gz:=fun j=>(eW S1 (b:=w4.heap.size) (by simp) (by omega) j).trans (aV w4 _ _ j)
     have V:=hid ((V.out.step S1 R1).gb (oI w5 w4.heap.size y) (by omega) (by omega));clear h S1 R1 b5;go_wp2_with fail;rw[Zp];have hz6:w4.heap.size<(qH w5 w4.heap.size y).heap.size:=ah;clear d0 d1 d2 d3 d4 d5 gz;generalize qH w5 w4.heap.size y=wq at*;have WB:=hid (CZ V.out.rd (by omega) 3 [41]);refine WB.out.mono ?_;rintro e w6 ⟨rfl,rfl⟩;clear p0 p1 p2 p3 p4 p5 p6 q0 q1 q2 q3 q4 q5 q6 f0 c0 c1 c2 c3 c4 c5 c6 fz lt sz;obtain⟨p0,p1,p2,p3,p4,p5,p6,q0,q1,q2,q3,q4,q5,q6,f0,c0,c1,c2,c3,c4,c5,c6,fz,lt,sz,dw⟩:=V.out.all;go_wp2_with fail
     go_big_region
     all_goals go_wp2_with fail
     all_goals exact bodyPost_ret (by simp[results,results90,go_sem,p0,p1,p2,p3,p4,p5,p6]<;>rfl) rfl (V.out.err (n:=80) (k:=dz s.length er) (aP.grown yz) (by rw[<-iA.out,CD HL.out.1 HL.out.2 (zZ.out.symm▸HC.out)]) rfl)
    have H2:=hid h2;rw[h2]at h;obtain⟨⟨y,hy,rfl,bH,dW⟩,R1,S1⟩:=h.cX (x:=x) (r:=l3) rfl;clear h2;have b5:=gj S1 lt;have LI:w4.heap.size<w5.heap.size:=by have:=S1.grown.size;simp at this;omega
    obtain⟨d0,d1,d2,d3,d4,d5⟩:=b5.gw;have gz:=fun j=>(eW S1 (b:=w4.heap.size) (by simp) (by omega) j).trans (aV w4 _ _ j)
    have V:=hid ((V.out.step S1 R1).gb (oI w5 w4.heap.size y) (by omega) (by omega));have b6:aA (qH w5 w4.heap.size y) w4.heap.size (cN y):=(((((b5.set 0 (.int .i64 y.kind)).set 1 (.int .i64 y.th.thread)).set 2 (.int .i64 y.th.az)).set 3 (.string (tx y.th.loc))).set 4 (.int .i64 y.val)).set 5 (.slice y.a y.kids.length y.c);have bH:=hid ((bH.mono (B':=w4.heap.size+1) (by simp)).kept (oI w5 w4.heap.size y) (fun b hb e=>by have:=(bH.lt b hb).1;simp at e this;omega));have dW:=hid dW;have HY:=hid hy;clear hy;clear h S1 R1 b5;go_wp2_with fail;rw[Zp];have hz6:w4.heap.size<(qH w5 w4.heap.size y).heap.size:=ah;clear d0 d1 d2 d3 d4 d5 gz;generalize qH w5 w4.heap.size y=wq at*;have WN:=hid (uO V.out.rd 3 [41] rfl (by decide));clear p0 p1 p2 p3 p4 p5 p6 q0 q1 q2 q3 q4 q5 q6 f0 c0 c1 c2 c3 c4 c5 c6 fz lt sz;obtain⟨p0,p1,p2,p3,p4,p5,p6,q0,q1,q2,q3,q4,q5,q6,f0,c0,c1,c2,c3,c4,c5,c6,fz,lt,sz,dw⟩:=V.out.all;refine WN.out.mono ?_;rintro e w6 h;rcases h3:bg [41] l3 with er|l4
    ·have HC:=hid (HC.out.trans (Sk H1.out H2.out h3))
     rw[h3]at h;obtain⟨hv,S1,l4',R1⟩:=h.err (l:=er) rfl;unfold JU at hv;subst hv;have V:=hid (V.out.step S1 R1);clear h S1 R1 WN b6 h3;clear p0 p1 p2 p3 p4 p5 p6 q0 q1 q2 q3 q4 q5 q6 f0 c0 c1 c2 c3 c4 c5 c6 fz lt sz;obtain⟨p0,p1,p2,p3,p4,p5,p6,q0,q1,q2,q3,q4,q5,q6,f0,c0,c1,c2,c3,c4,c5,c6,fz,lt,sz,dw⟩:=V.out.all;go_wp2_with fail
     go_big_region
     all_goals go_wp2_with fail
     all_goals exact bodyPost_ret (by simp[results,results90,go_sem,p0,p1,p2,p3,p4,p5,p6]<;>rfl) rfl (V.out.err (n:=80) (k:=dz s.length er) (aP.grown yz) (by rw[<-iA.out,CD HL.out.1 HL.out.2 (zZ.out.symm▸HC.out)]) rfl)
    have H3:=hid h3;rw[h3]at h;obtain⟨hv,R1,S1⟩:=h.cX (x:=()) (r:=l4) rfl;unfold VU at hv;subst hv;have V:=hid (V.out.step S1 R1);have bH:=hid (bH.out.st S1 (by omega));have b6:=b6.step S1 (by omega);have hz7:=S1.grown.size;clear h S1 R1 WN h3;clear p0 p1 p2 p3 p4 p5 p6 q0 q1 q2 q3 q4 q5 q6 f0 c0 c1 c2 c3 c4 c5 c6 fz lt sz;obtain⟨p0,p1,p2,p3,p4,p5,p6,q0,q1,q2,q3,q4,q5,q6,f0,c0,c1,c2,c3,c4,c5,c6,fz,lt,sz,dw⟩:=V.out.all
    by_cases h4:l4=[]
    rotate_left
    ·have HC:=hid (HC.out.trans (Sl H1.out H2.out H3.out h4))
     have WR:=hid (wJ V.out.rd);have hk:=aeI V.out.rd.lx h4;clear h4 b6;go_wp2_with fail;refine(WR.out).mono ?_;rintro e w7 ⟨rfl,S1,R1⟩;have V:=hid (V.out.step S1 R1);clear S1 R1;clear p0 p1 p2 p3 p4 p5 p6 q0 q1 q2 q3 q4 q5 q6 f0 c0 c1 c2 c3 c4 c5 c6 fz lt sz;obtain⟨p0,p1,p2,p3,p4,p5,p6,q0,q1,q2,q3,q4,q5,q6,f0,c0,c1,c2,c3,c4,c5,c6,fz,lt,sz,dw⟩:=V.out.all;go_wp2_with fail
     go_big_region
     all_goals go_wp2_with fail
     all_goals exact bodyPost_ret (by simp[results,results90,go_sem,p0,p1,p2,p3,p4,p5,p6]<;>rfl) rfl (V.out.err (n:=80) (k:=dz s.length l4) (aP.grown yz) (by rw[<-iA.out,CD HL.out.1 HL.out.2 (zZ.out.symm▸HC.out)]) rfl)
    subst h4;have hk0:aY (au ([]:List Tok))=0:=rfl;have HC:=hid (show j7 af (lex 0 s)= .ok ((q,x),[]) by rw[zZ.out,HC.out,Sn H1.out H2.out H3.out rfl]);obtain⟨u0,u1,u2,u3,u4,u5⟩:=b6.gw;have hz8:w4.heap.size<w6.heap.size:=by omega
    rw[hk0]at c2;have CK:=hid (Nf af q y (w6.alloc (ki q y)) (bH.out.keep (al _ (ki q y))).lK);rw[<-JO,HY.out]at CK;have V:=hid (V.out.below (al _ (ki q y)));have bH:=hid (bH.out.keep (al _ (ki q y)));obtain⟨ee,hee⟩:=aj (cV af q x);rw[hee]at CK;have vf:=hid hee;clear b6 hee;go_wp2_with fail;refine(CK.out).mono ?_;rintro e w7 ⟨rfl,E7⟩;have V:=hid (V.out.below E7);have bH:=hid (bH.out.keep E7);have b7:=(aA.new w6 #[.int .i64 q,.int .i64 y.kind,.int .i64 y.th.thread,.int .i64 y.th.az,.string (tx y.th.loc),.int .i64 y.val,.slice y.a y.kids.length y.c] 30).below E7;obtain⟨v0,v1,v2,v3,v4,v5,v6⟩:=b7.lA;have hz9:w6.heap.size<w7.heap.size:=by have:=E7.size;simp at this;omega
    clear b7;clear p0 p1 p2 p3 p4 p5 p6 q0 q1 q2 q3 q4 q5 q6 f0 c0 c1 c2 c3 c4 c5 c6 fz lt sz;obtain⟨p0,p1,p2,p3,p4,p5,p6,q0,q1,q2,q3,q4,q5,q6,f0,c0,c1,c2,c3,c4,c5,c6,fz,lt,sz,dw⟩:=V.out.all
    by_cases h0:ee=0
    ·subst h0
     go_wp2_with fail;exact bodyPost_ret (by simp[results,results90,go_sem,p0,p1,p2,p3,p4,p5,p6]<;>rfl) rfl (V.out.cX (aP.grown yz) (by rw[<-iA.out,Xi HL.out.1 HL.out.2 HC.out vf.out]) (bH.out.mono (B':=w.heap.size+1) (by omega)) dW.out HY.out rfl)
    have z0:(ee==0)=false:=by simpa using h0
    have HC:=hid (show cJ af s= .error (ee,0) by rw[Xj HL.out.1 HL.out.2 HC.out (by rw[vf.out];exact h0),vf.out]);clear h0;go_wp2_with fail;exact bodyPost_ret (by simp[results,results90,go_sem,p0,p1,p2,p3,p4,p5,p6]<;>rfl) rfl (V.out.err (n:=ee) (k:=0) (aP.grown yz) (by rw[<-iA.out,HC.out]) rfl)
   have HC:=hid (HC.out.trans (Si h1));rw[h1]at h;obtain⟨hv,S1,l2,R1⟩:=h.err (l:=er) rfl;unfold JU at hv;subst hv;have V:=hid (V.out.step S1 R1);clear h S1 R1 h1 WN
  all_goals
   have V:=hid (V.out.below (al _ dJ));have WB:=hid (CZ V.out.rd (by omega) 3 [41]);clear p0 p1 p2 p3 p4 p5 p6 q0 q1 q2 q3 q4 q5 q6 f0 c0 c1 c2 c3 c4 c5 c6 fz lt sz;obtain⟨p0,p1,p2,p3,p4,p5,p6,q0,q1,q2,q3,q4,q5,q6,f0,c0,c1,c2,c3,c4,c5,c6,fz,lt,sz,dw⟩:=V.out.all;go_wp2_with fail;refine(WB.out).mono ?_;rintro e w5 ⟨rfl,rfl⟩;go_wp2_with fail
   go_big_region
   all_goals go_wp2_with fail
   all_goals exact bodyPost_ret (by simp[results,results90,go_sem,p0,p1,p2,p3,p4,p5,p6]<;>rfl) rfl (V.out.err (n:=80) (k:=dz s.length er) (aP.grown yz) (by rw[<-iA.out,CD HL.out.1 HL.out.2 (zZ.out.symm▸HC.out)]) rfl)
theorem ahQ(af:Int)(s:Tx)(hm:s.length<=9223372036854775807)(w:World):Calls prog 90 #[.int .i64 af,.string (tx s)] w (lT (cJ af s) w):=by
 cases h:bF af with
 |false=>exact ahR h w
 | true=>
   by_cases hl:262144<s.length
   ·exact ahS h hl hm w
   exact ahT h (by omega) w
end Go.Proofs.YtkbbgjloifmmbaaGreatDoor

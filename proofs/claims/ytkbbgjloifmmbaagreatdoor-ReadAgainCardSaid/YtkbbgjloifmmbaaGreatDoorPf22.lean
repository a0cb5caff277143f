/- What ReadAgainP leans on, part 22. -/
import Derived.Test.YtkbbgjloifmmbaaGreatDoorPf20
import Derived.Test.YtkbbgjloifmmbaaGreatDoorPf21
set_option linter.unusedVariables false
set_option maxRecDepth 100000
set_option maxHeartbeats 12800000
open _root_.Go.Proofs.Tryz
open _root_.List renaming length->aBd
namespace Go.Proofs.YtkbbgjloifmmbaaGreatDoor
open Go.RowKit Go.Sort
variable{x:bF}{ag:Int}{l r:List Tok}{L:List Tx}{J i:Nat}{Y p s:Tx}{d:UInt8}
abbrev jd:Obj:=.cells #[.int .i64 0,.int .i64 0,.string ⟨#[]⟩,.string ⟨#[]⟩,.int .i64 0] 56
theorem apF(h:gI ag l=none):qY ag l=none:=by unfold qY;rw[h]
theorem afJ(h:gI ag l=some (x,r))(h2:aJ r≠[61]):qY ag l=none:=by unfold qY;rw[h];exact ai h2
theorem apG(h:gI ag l=some (x,r))(h2:fA (aJ r.tail)=none):qY ag l=none:=by
 unfold qY;rw[h];simp only;rw[h2];split<;>rfl
theorem apH(h:gI ag l=some (x,r))(h2:r.tail.tail≠[]):qY ag l=none:=by
 unfold qY;rw[h];simp only;split
 ·cases fA (aJ r.tail)with
  |none=>rfl
  |some q=>rfl
 rfl
theorem apI{n:Int}{lc:Tx}(h:gI ag l=some (x,r))(h2:aJ r=[61])(h3:fA (aJ r.tail)=some (lc,n))(h4:r.tail.tail=[]):qY ag l=some ⟨x.aO,x.aR,x.aj,lc,n⟩:=by
 unfold qY;rw[h];simp only;rw[ak h2,h3];exact ak h4
theorem aqp{c:UInt8}{r:Tx}:bP (c::r)≠0:=by
 rw[AV];split
 ·decide
 split<;>decide
theorem aqq(h:Lx s l):bP (aJ l)=0<->l=[]:=by
 cases l with
 |nil=>exact⟨fun _=>rfl,fun _=>rfl⟩
 | cons t r=>
   have h1:=h.head.1;constructor
   ·intro k
    exfalso;have k:bP t.1=0:=k;cases e:t.1 with
    |nil=>rw[e]at h1;simp at h1
    |cons c x=>rw[e]at k;exact aqp k
   intro e;cases e
theorem apL(hl:s.length<=262144):jr ag s=qY ag (lex 0 s):=by
 rw[Gh hl,apK];unfold lF;rw[Pv]
theorem au7(ag:Int)(s:Tx)(ha:bD ag=true)(hl:262144<s.length)(w:World):Calls prog 22 #[.int .i64 ag,.string (tx s)] w (mF (jr ag s) w):=by
 have KN:=af (fun w=>Dy ag w);have HA:=af ha;have HP:=af (show jr ag s=none by unfold jr;rw[ak (.inl hl)]);generalize jr ag s=r at*;obtain⟨n,hn⟩:=aF ((tx s).size);have z:decide (262144<(n:Int))=true:=by rw[bC]at hn;simp;omega
 have E0:=bS ((w.alloc jd).alloc jd).heap.size ((w.alloc jd).alloc jd);have bz:=(aW.new w #[.int .i64 0,.int .i64 0,.string ⟨#[]⟩,.string ⟨#[]⟩,.int .i64 0] 56).below ((al (w.alloc jd) jd).trans (E0.mono aq));have bo:=(aW.new (w.alloc jd) #[.int .i64 0,.int .i64 0,.string ⟨#[]⟩,.string ⟨#[]⟩,.int .i64 0] 56).below E0;obtain⟨p0,p1,p2,p3,p4⟩:=bz.ji;obtain⟨q0,q1,q2,q3,q4⟩:=bo.ji;simp only[gQ]at q0 q1 q2 q3 q4;have gi:=bz.1;have dn:=bo.1;simp only[gQ]at dn;have f0:=fun j=>(fW ((al (w.alloc jd) jd).trans (E0.mono aq)) (b:=w.heap.size) aq j).trans (cJ w _ _ j)
 have EB:=af (nM (nM E0));go_in
 go_wp2_with (go_at_call 45;refine aK (KN.oo _) ?_;rw[HA.oo])
 exact aZ (by simp[results,results22,go_sem,p0,p1,p2,p3,p4]<;>rfl) rfl (mF.no HP.oo (by rfl) (by(repeat(first|with_reducible refine qQ ?_ vk _|with_reducible refine Jg ?_ vk _));(first|exact EB.oo|exact bS _ _)))
theorem au6(ag:Int)(s:Tx)(ha:bD ag=true)(hl:s.length<=262144)(w:World):Calls prog 22 #[.int .i64 ag,.string (tx s)] w (mF (jr ag s) w):=by
 rw[apL hl];have KN:=af (fun w=>Dy ag w);have HA:=af ha;obtain⟨n,hn⟩:=aF ((tx s).size);have z:decide (262144<(n:Int))=false:=by rw[bC]at hn;simp;omega
 have TG:=af (fun w=>avf (s:=s) ag hl w);have HL:=af hl;obtain⟨pp,fX⟩:=aF (gI ag (lex 0 s));have HP:=af fX;rw[fX]at TG;generalize hD:qY ag (lex 0 s)=r at*;have HD:=af hD;go_in
 go_wp2_with (first|(go_at_call 45;refine aK (KN.oo _) ?_;rw[HA.oo])|fail)
 refine(TG.oo _).mono ?_;rintro e w1 ⟨E1,h⟩;cases pp with
 | none=>
   obtain⟨y,nx,rfl⟩:=h;have HZ:=af (show r=none by rw[<-HD.oo];exact apF HP.oo);have bz:=(aW.new w #[.int .i64 0,.int .i64 0,.string ⟨#[]⟩,.string ⟨#[]⟩,.int .i64 0] 56).below ((al (w.alloc jd) jd).trans (E1.mono aq));have bo:=(aW.new (w.alloc jd) #[.int .i64 0,.int .i64 0,.string ⟨#[]⟩,.string ⟨#[]⟩,.int .i64 0] 56).below E1;obtain⟨p0,p1,p2,p3,p4⟩:=bz.ji;obtain⟨q0,q1,q2,q3,q4⟩:=bo.ji;simp only[gQ]at q0 q1 q2 q3 q4;have gi:=bz.1;have dn:=bo.1;simp only[gQ]at dn;have f0:=fun j=>(fW ((al (w.alloc jd) jd).trans (E1.mono aq)) (b:=w.heap.size) aq j).trans (cJ w _ _ j)
   have EB:=af (nM (nM E1));go_wp2;exact aZ (by simp[results,results22,go_sem,p0,p1,p2,p3,p4,dP,gi]<;>rfl) rfl (mF.no HZ.oo rfl (Pr EB.oo))
 | some q=>
   obtain⟨x,l⟩:=q;obtain⟨nx,mo,Wd,rfl⟩:=h;obtain⟨T1,m1,e1,b1⟩:=DL HL.oo mo Wd;have VA:=af (fun w=>avg HL.oo m1 e1 w);obtain⟨-, m2,e2, -⟩:=DL HL.oo m1 e1;obtain⟨T3,-, -, -⟩:=DL HL.oo m2 e2;have T1:=af T1;have T3:=af T3;unfold MF at T1 T3;have KZ:=af (aqq (s:=s) (l:=l.tail.tail) ⟨_,m2,e2⟩);obtain⟨n1,nc⟩: ∃n,iR s.length l=n:=⟨_,rfl⟩;obtain⟨n2,hn2⟩: ∃n,iR s.length l.tail=n:=⟨_,rfl⟩;obtain⟨n3,uV⟩: ∃n,iR s.length l.tail.tail=n:=⟨_,rfl⟩;obtain⟨u0,Gb⟩: ∃u,aJ l=u:=⟨_,rfl⟩;obtain⟨u2,mN⟩: ∃u,aJ l.tail.tail=u:=⟨_,rfl⟩;generalize eI s.length l=q0p at*;generalize eI s.length l.tail.tail=q2p at*;rw[nc]at T1 VA;rw[hn2]at VA T3;rw[uV]at T3;rw[Gb]at T1;rw[mN]at T3 KZ;obtain⟨k0,hk0⟩: ∃k,bP u0=k:=⟨_,rfl⟩;obtain⟨k2,hk2⟩: ∃k,bP u2=k:=⟨_,rfl⟩;rw[hk0]at T1;rw[hk2]at T3 KZ;have K0:=af hk0;have U0:=af Gb;have HLX:=af Wd;have bx0:=aW.new w1 #[.int .i64 x.aO,.int .i64 x.aR,.string (tx x.aj),.string (tx x.bH),.int .i64 x.n] 56;go_wp2_with fail;refine aQ (T1.oo _) fun w2 E2=>?_
   have Re:=af (aI (gU E1 (.cells #[.int .i64 x.aO,.int .i64 x.aR,.string (tx x.aj),.string (tx x.bH),.int .i64 x.n] 56)) E2);have BX:=af (bx0.below E2);have BD:=af (show w1.heap.size<w2.heap.size by have:=E2.size;simp at this;omega);have HS0:=af (show w.heap.size+2<=w1.heap.size by have:=E1.size;simp at this;omega);have FX:=af (fun j=>(E2.frozen (p:=⟨w1.heap.size,j,none⟩) aq).trans (cJ w1 #[.int .i64 x.aO,.int .i64 x.aR,.string (tx x.aj),.string (tx x.bH),.int .i64 x.n] 56 j))
   by_cases c0:k0=3
   ·have zk:((k0:Int) != 3)=false:=aC
    by_cases g0:u0=[61]
    ·have HG:=af g0
     subst g0;have zu:((tx [61]).toList==[61])=true:=by rw[bU];decide
     generalize tx [61]=ux at*;go_wp2_with fail;refine(VA.oo _).mono ?_;rintro e w3 ⟨E3,lc,vn,ok,rfl,HO⟩;have HO:=af HO;go_wp2_with fail;refine aQ (T3.oo _) fun w4 E4=>?_
     have by0:=(aW.new w3 #[.string (tx lc),.int .i64 vn] 54).below E4;obtain⟨y0,y1⟩:=by0.qb;have hy:=by0.1;have hy3:w2.heap.size<=w3.heap.size:=E3.size;have o8:=aI E3 (aI (al w3 (.cells #[.string (tx lc),.int .i64 vn] 54)) E4);have bx:=BX.oo.below o8;obtain⟨x0,x1,x2,x3,x4⟩:=bx.ji;have fx:=fun j=>(o8.frozen (p:=⟨w1.heap.size,j,none⟩) BD.oo).trans (FX.oo j)
     have fx3:=fx 3;have fx4:=fx 4;have hs1:=BD.oo;have hs0:=HS0.oo;have E:=aI Re.oo o8;have bz:=(aW.new w #[.int .i64 0,.int .i64 0,.string ⟨#[]⟩,.string ⟨#[]⟩,.int .i64 0] 56).below ((al (w.alloc jd) jd).trans (E.mono aq));have bo:=(aW.new (w.alloc jd) #[.int .i64 0,.int .i64 0,.string ⟨#[]⟩,.string ⟨#[]⟩,.int .i64 0] 56).below E;obtain⟨p0,p1,p2,p3,p4⟩:=bz.ji;obtain⟨q0,q1,q2,q3,q4⟩:=bo.ji;simp only[gQ]at q0 q1 q2 q3 q4;have gi:=bz.1;have dn:=bo.1;simp only[gQ]at dn;have f0:=fun j=>(fW ((al (w.alloc jd) jd).trans (E.mono aq)) (b:=w.heap.size) aq j).trans (cJ w _ _ j)
     have EB:=af (nM (nM E));cases ok with
     | false=>
       have HZ:=af (show r=none by rw[<-HD.oo];exact apG HP.oo HO.oo.no);exact ac4
     | true=>
       by_cases c2:k2=0
       ·have HZ:=af (show r=some ⟨x.aO,x.aR,x.aj,lc,vn⟩ by rw[<-HD.oo];exact apI HP.oo (U0.oo.trans rfl) HO.oo.yes (KZ.oo.1 c2))
        have vM:((k2:Int) != 0)=false:=aC;go_wp2;exact aZ (by simp[results,results22,go_sem,p0,p1,p2,p3,p4]<;>rfl) rfl (mF.yes HZ.oo rfl (Pr EB.oo))
       have HZ:=af (show r=none by rw[<-HD.oo];exact apH HP.oo (fun h=>c2 (KZ.oo.2 h)))
       have vM:((k2:Int) != 0)=true:=aC;exact ac4
    have zu:=eD _ _ g0
    have HZ:=af (show r=none by rw[<-HD.oo];exact afJ HP.oo (by rw[U0.oo];exact g0));have E:=Re.oo;have bz:=(aW.new w #[.int .i64 0,.int .i64 0,.string ⟨#[]⟩,.string ⟨#[]⟩,.int .i64 0] 56).below ((al (w.alloc jd) jd).trans (E.mono aq));have bo:=(aW.new (w.alloc jd) #[.int .i64 0,.int .i64 0,.string ⟨#[]⟩,.string ⟨#[]⟩,.int .i64 0] 56).below E;obtain⟨p0,p1,p2,p3,p4⟩:=bz.ji;obtain⟨q0,q1,q2,q3,q4⟩:=bo.ji;simp only[gQ]at q0 q1 q2 q3 q4;have gi:=bz.1;have dn:=bo.1;simp only[gQ]at dn;have f0:=fun j=>(fW ((al (w.alloc jd) jd).trans (E.mono aq)) (b:=w.heap.size) aq j).trans (cJ w _ _ j)
    exact ac5
   have zk:((k0:Int) != 3)=true:=aC
   have HZ:=af (show r=none by rw[<-HD.oo];exact afJ HP.oo (by rw[U0.oo];intro h;exact c0 (by rw[<-K0.oo,h];rfl)));have E:=Re.oo;have bz:=(aW.new w #[.int .i64 0,.int .i64 0,.string ⟨#[]⟩,.string ⟨#[]⟩,.int .i64 0] 56).below ((al (w.alloc jd) jd).trans (E.mono aq));have bo:=(aW.new (w.alloc jd) #[.int .i64 0,.int .i64 0,.string ⟨#[]⟩,.string ⟨#[]⟩,.int .i64 0] 56).below E;obtain⟨p0,p1,p2,p3,p4⟩:=bz.ji;obtain⟨q0,q1,q2,q3,q4⟩:=bo.ji;simp only[gQ]at q0 q1 q2 q3 q4;have gi:=bz.1;have dn:=bo.1;simp only[gQ]at dn;have f0:=fun j=>(fW ((al (w.alloc jd) jd).trans (E.mono aq)) (b:=w.heap.size) aq j).trans (cJ w _ _ j)
   exact ac5
theorem au5(ag:Int)(ha:bD ag=true)(s:Tx)(w:World):Calls prog 22 #[.int .i64 ag,.string (tx s)] w (mF (jr ag s) w):=by
 rcases iA 262144 s.length with hl|hl
 ·exact au7 ag s ha hl w
 exact au6 ag s ha hl w
def Sj(p:EP (List bF × Tx))(w1 w:World)(s:Tx)(t:aT)(e:Ending)(w':World):Prop:=
 (∃x,p= .error x/\Bo x w1 w' s e)\/
 ∃l r1 k' a c,p= .ok (l,r1)/\s.drop k'=r1/\e= .returned (.bool true)/\St w w' w1.heap.size/\cS w1 w' s k' 0 0 { t with ia:=a,ic:=c,init:=l }/\xT w' w.heap.size a l.length c l
theorem apN(hl:p.length<=262144):jr ag (aM p)=jr ag p:=by
 have gh:(aM p).length<=262144:=dY (iu _).length_le hl;rw[Gh gh,Gh hl,Xk]
theorem as7(Y p:Tx)(L:List Tx): ∃d r,nU (125::Y) (p::L)=p++d::r/\(L=[]->d=125/\r=Y)/\(L≠[]->d=59/\r=nU (125::Y) L):=by
 cases L with
 |nil=>exact⟨125,Y,rfl,fun _=>⟨rfl,rfl⟩,fun h=>absurd rfl h⟩
 |cons x L=>exact⟨59,_,rfl,fun h=>(by cases h),fun _=>⟨rfl,rfl⟩⟩
theorem ahY(W:Tx): ∀L:List Tx,L≠[]->W.length<=(nU W L).length
 |[],h=>absurd rfl h
 |[p],_=>by rw[nU,bu];omega
 | p::q::L,_=>by
   have:=ahY W (q::L) aq;show W.length<=(p++59::nU W (q::L)).length;rw[bu,cy];omega
theorem ajx(c:UInt8): ∀(s:Tx),∀m∈bh c s,c∉m
 |[],m,h=>by rcases kJ.1 h with rfl;simp
 | d::s,m,h=>by
   have ih:=ajx c s;cases hd:d==c with
   | true=>
     rw[bh,ak hd]at h;rcases cq.1 h with rfl|h
     ·simp
     exact ih m h
   | false=>
     rw[bh,ai (by rw[hd];decide)]at h;cases e:bh c s with
     |nil=>exact absurd e (uc c s)
     | cons x t=>
       rw[e]at h;have hdc:c≠d:=fun e=>by rw[e]at hd;simp at hd
       rcases cq.1 h with rfl|h
       ·exact List.not_mem_cons_of_ne_of_not_mem hdc (ih x (by rw[e];simp))
       exact ih m (by rw[e];simp[h])
theorem as5{x r:Tx}(hd:s.drop i=x)(hx:x=p++d::r)(hJ:s.drop J=125::Y)(hi:i<=s.length)(h1:L=[]->d=125/\r=Y)(h2:L≠[]->d=59/\r=nU (125::Y) L)(hp:(59:UInt8)∉p):
 i+p.length<=J/\(∀q,i<=q->q<i+p.length-> ∃y,s[q]? =some y/\y≠59)/\(i+p.length<J->s[i+p.length]? =some 59)/\s.drop (i+p.length+1)=r/\i+p.length+1+r.length=s.length/\di s i (i+p.length)=p:=by
 have hxl:x.length=p.length+1+r.length:=by rw[hx];simp;omega
 have uY:s.length=i+x.length:=by rw[<-hd,dG];omega
 have hJl:s.length=J+(Y.length+1):=by have:=congrArg aBd hJ;rw[dG,cy]at this;omega
 have hat:s[i+p.length]? =some d:=by
  have:=congrArg (·[p.length]?) hd;simp only[tA]at this;rw[this,hx];simp
 refine⟨?_,fun q q1 q2=>?_,fun h=>?_,?_,ah,?_⟩
 ·by_cases hL:L=[]
  ·exact US
  have:=(h2 hL).2
  exact ac6
 ·have h3:q-i<p.length:=ah
  refine⟨p[q-i],?_,fun e=>hp (e▸x8 h3)⟩;have:=congrArg (·[q-i]?) hd;simp only[tA]at this;rw[show i+(q-i)=q by omega]at this;rw[this,hx,Ep h3,aV h3]
 ·by_cases hL:L=[]
  ·exact US
  rw[hat,(h2 hL).1]
 ·rw[show i+p.length+1=i+(p.length+1) by omega,<-gC,hd,hx,<-gC];simp
 rw[ajv hd ah,hx,show i+p.length-i=p.length by omega];simp
theorem as4{x r:Tx}(hd:s.drop i=x)(hx:x=p++d::r)(hJ:s.drop J=125::Y)(hi:i<=s.length)(h1:L=[]->d=125/\r=Y)(h2:L≠[]->d=59/\r=nU (125::Y) L):(L=[]->i+p.length=J)/\(L≠[]->i+p.length<J):=by
 have hxl:x.length=p.length+1+r.length:=by rw[hx];simp;omega
 have uY:s.length=i+x.length:=by rw[<-hd,dG];omega
 have hJl:s.length=J+(Y.length+1):=by have:=congrArg aBd hJ;rw[dG,cy]at this;omega
 refine⟨fun hL=>?_,fun hL=>?_⟩
 ·exact US
 have:=(h2 hL).2
 exact ac6
theorem YF:(aM p).length=0<->aG p=[]:=by
 rw[rP];constructor
 ·intro h;exact(DM p).2 (wJ h)
 intro h
 have h2:=(DM p).1 h
 have key: ∀l:Tx,(∀c∈l,aH c=true)->l.dropWhile aH=[]:=by
  intro l
  induction l with
  |nil=>intro _;rfl
  |cons c r ih=>intro h;rw[tn (h c aq)];exact ih fun d hd=>h d (by simp[hd])
 exact key p h2
theorem mF.two(o:Option bF): ∃(th rg:Int) (lc vl:Tx) (vn er:Int),(∀w e w',mF o w e w'->Below w.heap.size w w'/\e= .returned (.tuple #[od ⟨th,rg,lc,vl,vn⟩,.int .i64 er]))/\((er=140/\o=none)\/(er=0/\o=some ⟨th,rg,lc,vl,vn⟩)):=by
 cases o with
 |none=>exact⟨0,0,[],[],0,140,fun _ _ _ h=>h,.inl ⟨rfl,rfl⟩⟩
 |some z=>obtain⟨th,rg,lc,vl,vn⟩:=z;exact⟨th,rg,lc,vl,vn,0,fun _ _ _ h=>h,.inr ⟨rfl,rfl⟩⟩
theorem au8{w1 w:World}{k:Nat}{t:aT}(R:cS w1 w s k 0 0 t)(ha:bD t.ag=true)(h0:t.ia=none/\t.ic=0/\t.init=[]):Calls prog 34 #[.pointer (some ⟨w1.heap.size,0,none⟩)] w (Sj (gj t.ag s.length (s.drop k)) w1 w s t):=by
 have hl:=R.sl;have LN:=af (K7 R);have WR:=af (fun(wx:World) (t:aT) (R:cS w1 wx s k 0 0 t) n a=>GO R n a);have HR:=af R;have hds:=JI s k;obtain⟨u,hu⟩:=aF (aM (s.drop k));have P1:=af (fun h=>afQ (ag:=t.ag) (N:=s.length) (r:=s.drop k) h);have P2:=af (fun v h h2=>afO (ag:=t.ag) (N:=s.length) (r:=s.drop k) (v:=v) h h2);rw[hu]at P1 P2 hds;generalize gj t.ag s.length (s.drop k)=hp at*;have RM:=af (noInit h0);go_in;go_wp2_with fail;refine LN.oo.mono ?_;rintro e w2 ⟨hv,E2⟩;unfold zS at hv;rw[hu]at hv;have R2:=af (HR.oo.below E2);have hw2:=E2.size;have vZ:=af (bX (bw:=w1.heap.size) E2);rcases hv with⟨pJ,rfl⟩|⟨nx,pJ,-, -, rfl⟩
 ·have P1:=af (P1.oo (.inl (by rw[pJ];simp)))
  rw[pJ,GH]at P1;clear hu pJ hds hl E2;exact UT
 obtain⟨p0,eH⟩:=aF (cE s.length u)
 rw[eH]at hds
 obtain⟨c,v,rfl⟩: ∃c v,u=c::v:=by
  cases u with
  |nil=>exact absurd rfl pJ
  |cons c v=>exact⟨c,v,rfl⟩
 have P1:=af (fun h=>(P1.oo h).trans (by rw[eH]));rw[eH];generalize (bB (c::v)).length=ll at*;have hN:p0+(v.length+1)=s.length:=by have:=congrArg aBd hds;rw[dG,cy]at this;omega
 have i0:=cH s p0 c (by have:=congrArg (·[0]?) hds;simpa using this);have c0:=R2.oo.bx.get 0 _ rfl;have Dc:=R2.oo.lt
 by_cases hc:c=123
 ·subst hc
  have z0:(((123:UInt8).toNat:Int) != 123)=false:=rfl;obtain⟨n,hn⟩:=aF ((tx s).size);have gF:n=s.length:=by rw[<-hn,bC]
  obtain⟨J,j1,j2,j3,j4,j5⟩:=ua (· != 125) s _ p0 (aX _) ah;rw[hds,tu ay,cy]at j5
  have HS:=af (show ∀q,p0<=q->q<J-> ∃y,s[q]? =some y/\y≠125 from fun q q1 q2=>by
   obtain⟨y,hy,hb⟩:=j3 q q1 q2;exact⟨y,hy,by simpa using hb⟩)
  have hnb:n<=262144:=ah;have az3:J<=n:=ah;have HN:=af gF;have ZF:=af j4;have H9:=af hds;have Rp:=af j5;have Ih:=af hN;have uk:=af hl;clear hu pJ hds hl E2 j2 j3 j4 j5 hN gF h0 eH;go_wp2_with fail
  go_loopw [7] (fun x wi=> ∃q:Nat,p0<=q/\q<=J/\x= .int .i64 q/\wi=w2) (fun x _=>J-(intOf x).toNat)
  ·exact⟨p0,aX _,j1,rfl,nS⟩
  obtain⟨q,q1,q2,rfl,rfl⟩:=hrel
  by_cases aA:q<J
  ·obtain⟨y,hy,gM⟩:=HS.oo q q1 aA
   have iy:=cH s q y hy;have zq:decide ((q:Int)<(n:Int))=true:=aC;have zy:((y.toNat:Int) != 125)=true:=rG y 125 gM;clear hy gM;go_wp2_with fail
   exact acR
  obtain rfl:q=J:=ah
  by_cases yL:q<n
  ·obtain⟨A,hA⟩:=aF (v.takeWhile (· != 125))
   have Vy:q=p0+1+A.length:=by have:=Rp.oo;rw[hA]at this;omega
   obtain⟨Y,hY⟩: ∃Y,v.dropWhile (· != 125)=125::Y:=by
    cases hd:v.dropWhile (· != 125)with
    | nil=>
      have h2:=kH (p:=(· != 125)) (l:=v);rw[hA,hd,jD]at h2;have:=Ih.oo;have:=HN.oo;rw[h2]at Vy;omega
    | cons d Y=>
      exact acL
   have hv:v=A++125::Y:=by rw[<-hA,<-hY];exact(kH ..).symm
   have RA:=af (show s.drop q=125::Y by rw[Vy,show p0+1+A.length=p0+(A.length+1) by omega,<-gC,H9.oo,List.drop_succ_cons,hv,EM]);have HDQ:=af (show s.drop (q+1)=Y by rw[<-gC,RA.oo];rfl);have HVD:=af (show s.drop (p0+1)=v by rw[<-gC,H9.oo];rfl);have P2:=af (P2.oo v rfl (by rw[hv];simp));rw[hA,hY,qR,qP]at P2;have hJ:=XY (125::Y) A;rw[<-hv]at hJ;have HJ:=af hJ;have aN:=uc 59 A;have Rx:=af (fun p hp=>He 59 A p hp);have akA:=af (fun p hp=>ajx 59 A p hp);have hLn:=vE 59 A;have hAl:A.length<=262144:=by have:=Ih.oo;rw[hv,bu]at this;have:=uk.oo;omega
   clear hJ;generalize bh 59 A=L at*;obtain⟨n2,hn2⟩:=aF L.length;have hn0:n2≠0:=fun h=>aN (rP.1 (hn2.trans h))
   have apf:n2<=262145:=ah;have gw:=af hn2;obtain⟨pp,fX⟩:=aF (iS t.ag s.length L v []);rw[fX]at P2;have jS:=af fX;obtain⟨y,hy⟩: ∃y,s[q]? =some y:=⟨_,aV (bE HN.oo)⟩;obtain rfl:y=125:=by simpa using ZF.oo y hy
   have iy:=cH s q 125 hy;have zq:decide ((q:Int)<(n:Int))=true:=aC;have zy:(((125:UInt8).toNat:Int) != 125)=false:=rfl;have zqn:((q:Int)==(n:Int))=false:=aC;have hpq:p0+1<=q:=ah;have R0:=af (show cS w1 _ s k 0 0 { t with ia:=none,ic:=0,init:=[] }from by rw[RM.oo];exact R2.oo);clear hA hY hv aN hLn hn2 fX hy H9 ZF Rp P1 LN Vy HS aA;go_wp2_with fail
   go_loopw [8] (fun x wi=> ∃(m i:Nat) (r:Tx) (aD:List bF) (ia:Option Addr) (ic:Nat),x= .int .i64 i/\m<=n2/\i<=n/\aD.length<=m/\((m<n2/\i<=q)\/(m=n2/\i=q+1))/\Hid (s.drop i=r)/\Hid (m<n2->r=nU (125::Y) (L.drop m))/\Hid (pp=iS t.ag s.length (L.drop m) r aD)/\Hid (cS w1 wi s k 0 0 { t with ia:=ia,ic:=ic,init:=aD })/\Hid (xT wi w.heap.size ia aD.length ic aD)/\Hid (St w wi w1.heap.size)/\w.heap.size<=wi.heap.size) (fun x _=>q+2-(intOf x).toNat)
   ·exact⟨0,p0+1,v,[],none,0,by go_num,dW _,ah,aX _,.inl ⟨ ah,hpq⟩,HVD,af fun _=>by rw[jg];exact HJ.oo.symm,af (by rw[jg];exact jS.oo.symm),R0,af (au.nil _ _ _ _),vZ,hw2⟩
   obtain⟨m,i,x,aD,ia,ic,rfl,hmn,hin,aoH,hcase,ur,HX,HP,RR,OO,SS,hB⟩:=hrel;have c0:=RR.oo.bx.get 0 _ rfl;have hrr:=RR.oo.lt;rcases hcase with⟨aA,hiq⟩|⟨hme,hie⟩
   ·obtain⟨p,lR⟩: ∃p,L[m]? =some p:=⟨_,aV (by rw[gw.oo];exact aA)⟩
    have hdr:L.drop m=p::L.drop (m+1):=by
     obtain⟨h1,h2⟩:=bt.1 lR;rw[jB h1,h2]
    obtain⟨d,r,ex,e1,e2⟩:=as7 Y p (L.drop (m+1));have hx:=HX.oo aA;rw[hdr,ex]at hx;have V5:i<=s.length:=by rw[<-HN.oo];exact hin
    obtain⟨K1,K2,K3,K4,K5,K6⟩:=as5 ur.oo hx RA.oo V5 e1 e2 (akA.oo p (cV lR));obtain⟨E1,E2⟩:=as4 ur.oo hx RA.oo V5 e1 e2;have eL:L.drop (m+1)=[]<->m+1=n2:=by rw[List.drop_eq_nil_iff,gw.oo];omega
    have hpl:p.length<=262144:=by have:=Rx.oo p (cV lR);omega
    obtain⟨K,hK⟩:=aF (i+p.length);rw[hK]at K1 K2 K3 K4 K5 K6 E1 E2
    have ZB:=af (show(m+1<n2/\K+1<=q)\/(m+1=n2/\K+1=q+1)from by
     by_cases h:L.drop (m+1)=[]
     ·exact .inr ⟨eL.1 h,by rw[E1 h]⟩
     exact .inl ⟨by have:=mt eL.2 h;omega,E2 h⟩)
    have mC:=af (show m+1<n2->r=nU (125::Y) (L.drop (m+1))from fun h=>(e2 (fun e=>by have:=eL.1 e;omega)).2);have vR:=af K4;have Z0:=af (show x.drop (p.length+1)=r by rw[hx,<-gC];simp);have SG:=af (fun w=>K8 s i K ah (bE HN.oo) uk.oo w);rw[K6]at SG;obtain⟨fl,hfl⟩:=aF ((aM p).length);rw[hfl]at SG;have aAl:fl<=p.length:=by rw[<-hfl];exact vB p
    obtain⟨a9,ha9⟩:=aF (K-fl);rw[ha9]at SG;have Ma:=af (show a9+fl=K by omega)
    have sl: ∀w,(Instr.sliceAt 9 (.string (tx s)) (some (.int .i64 a9)) (some (.int .i64 K)) none).run prog w= .ok (.string (tx (aM p))) w:=by
     have h1:=nB s a9 K ah (bE HN.oo)
     have h2:(s.take K).drop a9=aM p:=by
      have h3:(s.take K).drop i=p:=K6;rw[show a9=i+(p.length-fl) by omega,<-gC,h3,<-hfl];exact(Co.1 (iu _)).symm
     rw[h2]at h1;exact h1
    have akG:=af (show fl≠0->jr t.ag p=none->hp= .error (140,a9)from fun h1 h2=>by
     have h3:aG p≠[]:=fun h=>h1 (hfl.symm.trans (YF.2 h))
     have h4:pp= .error (140,a9):=by
      rw[HP.oo,hdr,ahZ h3 h2,hx,YE h3]
      congr 2
      unfold cE;rw[bu,cy,hfl];omega
     rw[P2.oo,h4])
    have akI:=af (show fl=0->pp=iS t.ag s.length (L.drop (m+1)) r aD from fun h1=>by rw[HP.oo,hdr,ah1 (YF.1 (hfl.trans h1)),Z0.oo])
    have akH:=af (show ∀z,fl≠0->jr t.ag p=some z->pp=iS t.ag s.length (L.drop (m+1)) r (aD++[z])from fun z h1 h2=>by
     have h3:aG p≠[]:=fun h=>h1 (hfl.symm.trans (YF.2 h))
     rw[HP.oo,hdr,ah0 h3 h2,Z0.oo])
    have RI:=af (fun w=>au5 t.ag ha (aM p) w);rw[apN hpl]at RI;obtain⟨th,rg,lc,vl,vn,er,J4,Km⟩:=mF.two (jr t.ag p);have RI:=af (fun w=>(RI.oo w).mono fun e w' h=>J4 w e w' h);have Rv:=af Km;have fC:=af K2;have Bx:=af K3;have zi:decide ((i:Int)<=(q:Int))=true:=aC;have OU:i<=K:=ah;have hKs:K+1<=n:=by have:=HN.oo;omega
    clear lR hdr ex e1 e2 hx V5 K2 K3 K4 K5 K6 E1 E2 eL hK hfl ha9 J4 Km ur HX;go_wp2_with fail
    go_loopw [9] (fun y wx=> ∃j:Nat,i<=j/\j<=K/\y= .int .i64 j/\wx=wr) (fun y _=>K-(intOf y).toNat)
    ·exact⟨i,aX _,OU,rfl,nS⟩
    obtain⟨j,j1,j2,rfl,rfl⟩:=hrel
    by_cases V6:j<K
    ·obtain⟨y,hy,gM⟩:=fC.oo j j1 V6
     have iy:=cH s j y hy;have zj:decide ((j:Int)<(q:Int))=true:=aC;have zy:((y.toNat:Int) != 59)=true:=rG y 59 gM;clear hy gM;go_wp2_with fail
     exact ac1
    obtain rfl:j=K:=ah
    rcases iA j q with yI|yI
    focus
     have iy:=cH s j 59 (Bx.oo yI);have zj:decide ((j:Int)<(q:Int))=true:=aC;have zy:(((59:UInt8).toNat:Int) != 59)=false:=rfl
    rotate_left
    focus
     have zj:decide ((j:Int)<(q:Int))=false:=aC
    all_goals
     rcases M4 fl with hf|hf
     ·have z9:decide ((a9:Int)<(j:Int))=false:=by have:=Ma.oo;simp;omega
      have hge:j<=a9:=by have:=Ma.oo;omega
      have fS:=af (akI.oo hf)
      go_wp2_with (go_at_call 86;refine aK (SG.oo _) ?_)
      go_roundw;exact⟨m+1,j+1,r,aD,ia,ic,by go_num,ah,ah,ah,ZB.oo,vR,mC,fS,RR,OO,SS,hB⟩;exact ep
     have z9:decide ((a9:Int)<(j:Int))=true:=by have:=Ma.oo;simp;omega
     have hl9:a9<j:=by have:=Ma.oo;omega
     go_upto_region 16 with(go_at_call 86;refine aK (SG.oo _) ?_);have uG:=af (fun(w':World) (E:Below wr.heap.size wr w')=>And.intro ((RR.oo.below E).bx.get 0 _ rfl) ((RR.oo.below E).bx.get 4 _ rfl));have gi:=RR.oo.lt;have B0:=bS wr.heap.size wr;clear c0
     go_cut [11,12] (fun a b wx=> ∃b9:Nat,a= .pointer (some ⟨b9,0,none⟩)/\b= .int .i64 er/\Below wr.heap.size wr wx/\wr.heap.size<=b9/\aW wx b9 [.int .i64 th,.int .i64 rg,.string (tx lc),.string (tx vl),.int .i64 vn])
     case first=>
      go_region_held3 (fun w'=>Below wr.heap.size wr w'/\w'.cell? ⟨w1.heap.size,0,none⟩=some (.string (tx s))/\w'.cell? ⟨w1.heap.size,4,none⟩=some (.int .i64 t.ag))
       (exact⟨cG,uG.oo _ cG⟩)
       (first
        |(go_at_call 22
          refine(RI.oo _).mono ?_;rintro e w9 ⟨E9,rfl⟩;have B9:=aI (jV (bS wr.heap.size wr)) E9;obtain⟨a1,a2⟩:=uG.oo _ B9)
        |(go_at_call 22
          refine(RI.oo _).mono ?_;rintro e w9 ⟨E9,rfl⟩;have B9:=aI (jV (gU (bS wr.heap.size wr) _)) E9;obtain⟨a1,a2⟩:=uG.oo _ B9;have XN:=((aW.new wr #[.int .i64 0,.int .i64 0,.string ⟨#[]⟩,.string ⟨#[]⟩,.int .i64 0] 56).below (below_drewN _ 1)).below E9;obtain⟨n0,n1,n2,n3,n4⟩:=XN.ji;have nf: ∀j,w9.frozen? ⟨wr.heap.size,j,none⟩=false:=fun j=>(E9.frozen (p:=⟨wr.heap.size,j,none⟩) aq).trans (cJ wr _ _ j)
          have f0:=nf 0;have f1:=nf 1;have f2:=nf 2;have f3:=nf 3;have f4:=nf 4))
      all_goals(go_wp2_with fail;go_meet)
      ·exact ac8
      exact⟨wr.heap.size,rfl,rfl,(Gk B9.size),aX _,((((XN.set 0 (.int .i64 th)).set 1 (.int .i64 rg)).set 2 (.string (tx lc))).set 3 (.string (tx vl))).set 4 (.int .i64 vn)⟩
     obtain⟨b9,rfl,rfl,B9,J8,XB⟩:=hcut;rcases Rv.oo with⟨rfl,hI⟩|⟨rfl,hI⟩
     ·have PE:=af (akG.oo ah hI)
      have R9:=af (RR.oo.below B9);clear hI XB B9 B0;go_wp2_with fail;refine(WR.oo _ _ R9.oo _ _).mono ?_;exact ac9
     have fS:=af (akH.oo _ ah hI)
     clear hI gi B0;go_upto_region 19 with(fail);have RW:=RR.oo.below B9;have OW:=au.below OO.oo B9;have SW:=af (SS.oo.trans (bX (bw:=w1.heap.size) B9));obtain⟨x0,x1,x2,x3,x4⟩:=XB.ji;have q7:=RW.bx.get 7 _ rfl;have hf7:=RW.eK 7;have Wn:=RW.lt;have hbW:=XB.1;have Gf:w.heap.size<=wc.heap.size:=dY hB B9.size;have VM:aD.length<=262145:=ah;have sU:=af RW;have Ie:=af OW;have hw1:=HR.oo.lt;have az5:b9≠w1.heap.size:=ah
     have wW: ∀b,ia.map (·.block)=some b->w1.heap.size<b:=fun b hb=>by
      cases ia with
      |none=>cases hb
      | some z=>
        have:=(au.lt OW aq).1;simp[bk]at hb this;omega
     have OV: ∀b,ia.map (·.block)=some b->b≠b9:=fun b hb=>by
      cases ia with
      |none=>cases hb
      | some z=>
        exact acN
     have MG:=af XB;have H7:=af (jV (gU (bS wc.heap.size wc) (.cells #[.int .i64 th,.int .i64 rg,.string (tx lc),.string (tx vl),.int .i64 vn] 56)));clear RW OW XB B9
     go_region_law
      ((refine YN wY (.tmp 119) (.tmp 121) (by rfl) (by rfl) (B:=w.heap.size) (n:=aD.length) (c:=ic) (sa:=ia) (xs:=flat lM aD) (by rfl) (au.below Ie.oo H7.oo) (xa:=some ⟨wc.heap.size,0,none⟩) (xc:=1) (m:=1) (ys:=lM ⟨th,rg,lc,vl,vn⟩) (by rfl) ((aja wc ⟨th,rg,lc,vl,vn⟩ _).below (below_drewN _ 1)) (by rfl) (aa8 _) (dY Gf H7.oo.size) ah dx ?_
        intro a' c' w' ho hg;have wV:=af hg;have C9:=af ho;have R7:=(sU.oo.below H7.oo).kept hg.step.grown wW;have XW:=aW.gr MG.oo H7.oo hg.step.grown OV;have q77:=R7.bx.get 7 _ rfl;have aAj:=R7.eK 7;obtain⟨y0,y1,y2,y3,y4⟩:=XW.ji;have R7:=af R7;clear ho hg XW))
     all_goals
      have R8:=R7.oo.put 7 (.slice a' (aD.length+1) c') (k':=k) (kA:=0) (kq:=0) (t':={ t with ia:=a',ic:=c',init:=aD++[⟨th,rg,lc,vl,vn⟩] }) (by simp[DF,cT]) R7.oo.le;have Mw:=af (au.below Ie.oo H7.oo);have S7:=af (St.app (SW.oo.trans (bX (bw:=w1.heap.size) H7.oo)) Mw.oo (aX _) wV.oo);have S8:=af (S7.oo.trans R8.2);have hz:=wV.oo.step.grown.size
      have O8:=af (show xT _ w.heap.size a' (aD++[(⟨th,rg,lc,vl,vn⟩:bF)]).length c' (aD++[(⟨th,rg,lc,vl,vn⟩:bF)])from by
       have:=au.kept C9.oo R8.2.grown (by
        by_cases h:a'=none
        ·exact .inl h
        have:=(au.lt C9.oo h).1;right;simp;omega)
       rw[bu,xT,qU,uJ];exact this)
      have Rj:=dY Gf (dY H7.oo.size (dY hz R8.2.grown.size));replace R8:=af R8.1;go_wp2_with fail
      go_roundw;exact⟨m+1,j+1,r,aD++[⟨th,rg,lc,vl,vn⟩],a',c',by go_num,ah,ah,by rw[bu];simp;omega,ZB.oo,vR,mC,fS,R8,O8,S8,Rj⟩;exact ep
   have fS:=af (show hp= .ok (aD,Y) by
    have h4:pp= .ok aD:=by rw[HP.oo,iN (by rw[gw.oo];omega)];rfl
    rw[P2.oo,h4])
   have zi:decide ((i:Int)<=(q:Int))=false:=aC;have R5:=RR.oo;have q1':=R5.bx.get 1 _ rfl;have AG:=R5.eK 1;have hw1:=HR.oo.lt;have R6:=R5.put 1 (.int .i64 (q+1:Nat)) (k':=q+1) (kA:=0) (kq:=0) (t':={ t with ia:=ia,ic:=ic,init:=aD }) rfl (bE HN.oo);have ST:=af (SS.oo.trans R6.2)
   have OK:=af (au.kept OO.oo R6.2.grown (by
    by_cases h:ia=none
    ·exact .inl h
    have:=(au.lt OO.oo h).1;right;simp;omega))
   rw[show((q+1:Nat):Int)=(q:Int)+1 by omega]at R6 ST OK;replace R6:=af R6.1;clear R5 HX ur HP;go_wp2_with fail;exact aZ (by simp[results,results34,go_sem]) rfl (.inr ⟨aD,Y,q+1,ia,ic,fS.oo,HDQ.oo,rfl,ST.oo,R6.oo,OK.oo⟩)
  have zq:decide ((q:Int)<(n:Int))=false:=aC
  have zqn:((q:Int)==(n:Int))=true:=aC
  have P1:=af (P1.oo (.inr (by
   rw[cq];rintro(f|f)
   ·revert f;decide
   have h1:(v.takeWhile (· != 125)).length=v.length:=by have:=Rp.oo;have:=Ih.oo;have:=HN.oo;omega
   have h2:=kH (p:=(· != 125)) (l:=v);have h3:=congrArg aBd h2;rw[bu,h1]at h3;have h4:v.dropWhile (· != 125)=[]:=rP.1 ah;exact absurd (wJ h4 125 f) aq)))
  exact UT
 have P1:=af (P1.oo (.inl (aS hc)))
 have z0:((c.toNat:Int) != 123)=true:=rG c 123 hc;clear hu pJ hds hl E2 hN h0 eH P2;exact UT
end Go.Proofs.YtkbbgjloifmmbaaGreatDoor

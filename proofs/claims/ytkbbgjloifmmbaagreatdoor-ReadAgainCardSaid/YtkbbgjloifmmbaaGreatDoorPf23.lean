/- What ReadAgainP leans on, part 23. -/
import Derived.Test.YtkbbgjloifmmbaaGreatDoorPf20
set_option linter.unusedVariables false
set_option maxRecDepth 100000
set_option maxHeartbeats 12800000
open _root_.Go.Proofs.Tryz
open _root_.List renaming replicate->aBg,length->aBd
namespace Go.Proofs.YtkbbgjloifmmbaaGreatDoor
open Go.RowKit Go.Sort
variable{k:Nat}{t:aT}{s:Tx}{w w1:World}
def Sl(p:EP (List (List aL) × Tx))(w1 w:World)(s:Tx)(t:aT)(e:Ending)(w':World):Prop:=
 (∃x,p= .error x/\Bo x w1 w' s e)\/
 ∃C r1 k' a n,p= .ok (C.map (·.l),r1)/\s.drop k'=r1/\e= .returned (.bool true)/\St w w' w1.heap.size/\cS w1 w' s k' 0 0 { t with ca:=a,cc:=n,code:=C }/\eP w' w.heap.size a n C
theorem ah9: ∀(L:List Tx) (a:Nat),(nv a L).length=L.length
 |[],_=>rfl
 |p::L,a=>by rw[nv,cy,ah9 L];rfl
def qI(hp:EP (List (List aL) × Tx))(ag:Int)(N nn f:Nat)(r:Tx)(aD:List (List aL)):Prop:=(nn=0/\hp=gB ag N r)\/(nn≠0/\hp=lD ag N (f+1) r aD/\r.length<=f)
section
variable {hp:EP (List (List aL) × Tx)} {ag:Int} {N nn f:Nat} {r:Tx} {aD:List (List aL)}
theorem qI.no(h:qI hp ag N nn f r aD)(hr:gv (aM r)=false):(nn=0->hp= .error (140,cE N (aM r)))/\(nn≠0->hp= .ok (aD,r)):=by
 rcases h with⟨h1,h2⟩|⟨h1,h2, -⟩
 ·exact⟨fun _=>h2.trans (ajI hr),fun h=>absurd h1 h⟩
 exact⟨fun h=>absurd h h1,fun _=>h2.trans (ajj hr)⟩
theorem qI.bad(h:qI hp ag N nn f r aD)(hn:nn=0)(hb:tQ (gV (aM r))=false):hp= .error (140,cE N (aM r)):=by
 rcases h with⟨-, h2⟩|⟨h1, -⟩
 ·exact h2.trans (ajG hb)
 exact absurd hn h1
theorem awQ(r:Tx):(cP (aM r)).length<=r.length:=dY (GY (aM r)).length_le (nC r).length_le
theorem qI.head(h:qI hp ag N nn f r aD)(hn:nn=0)(hr:gv (aM r)=true)(hb:tQ (gV (aM r))=true){n2:Nat}(h2:(gV (aM r)).length=n2)(h3:n2≠0):qI hp ag N n2 r.length (cP (aM r)) ((aBg n2 (⟨none,0,[]⟩:Cd)).map (·.l)):=by
 rcases h with⟨-, h4⟩|⟨h1, -⟩
 ·refine .inr ⟨h3,?_,awQ r⟩
  rw[h4,ajJ hr hb,h2,M0]
 exact absurd hn h1
theorem qI.len(h:qI hp ag N nn f r aD)(hn:nn≠0)(hr:gv (aM r)=true)(h2:(gV (aM r)).length≠aD.length):hp= .error (140,cE N (aM r)):=by
 rcases h with⟨h1, -⟩|⟨-, h1, -⟩
 ·exact absurd h1 hn
 exact h1.trans (aji hr h2)
theorem qI.row(h:qI hp ag N nn f r aD)(hn:nn≠0)(hr:gv (aM r)=true)(h2:(gV (aM r)).length=aD.length):
 (∀x,fD ag N (gV (aM r)) (aM r) aD= .error x->hp= .error x)/\(∀l,fD ag N (gV (aM r)) (aM r) aD= .ok l->qI hp ag N nn (f-1) (cP (aM r)) l):=by
 rcases h with⟨h1, -⟩|⟨-, h1,h3⟩
 ·exact absurd h1 hn
 rw[ajm hr h2]at h1
 refine⟨fun x hx=>by rw[h1,hx];rfl,fun l hx=>?_⟩;rw[hx]at h1;have h4:=aiX hr;have h5:=(nC r).length_le;exact .inr ⟨hn,by rw[h1,show f-1+1=f by omega];rfl,ah⟩
end
theorem ar5(h:t.ca=none/\t.cc=0/\t.code=[]):{ t with ca:=none,cc:=0,code:=[] }=t:=by
 exact acJ
theorem eP.nil(w:World)(B:Nat):eP w B none 0 []:=⟨au.nil _ _ _ _,fun x hx=>(by cases hx),fun x hx=>(by cases hx),fun i j x y hx=>(by cases hx)⟩
theorem cS.code{n:Nat}{a:Option Addr}{C C':List Cd}(h:cS w1 w s k 0 0 { t with ca:=a,cc:=n,code:=C })(hl:C'.length=C.length):cS w1 w s k 0 0 { t with ca:=a,cc:=n,code:=C' }:=by
 refine⟨?_,h.cF,h.gl,h.sl,h.le⟩;have:=h.own;simp only[DF,cT]at this⊢;rw[hl];exact this
theorem aq6{u:Tx}(h:bB u≠[]): ∃d,(bB u).getLast?=some d/\(gv u=true<->d=59):=by
 refine⟨_,pz h,?_⟩;unfold gv;rw[pz h];simp
theorem ajc{z:Tx}{L:List Tx}{Q:List (Nat × Nat)}{q pos:Nat}(hQ:Q.drop q=nv pos (L.drop q))(hx:s.drop pos=lV (59::z) (L.drop q))(hq:q<L.length):
 ∃ p d r a e,L[q]? =some p/\L.drop q=p::L.drop (q+1)/\s.drop pos=p++d::r/\s.drop (pos+p.length+1)=r/\(q+1<L.length->r=lV (59::z) (L.drop (q+1)))/\Q[q]? =some (a,e)/\Q.drop (q+1)=nv (pos+p.length+1) (L.drop (q+1))/\
   a<=e/\e<=s.length/\(s.take e).drop a=aG p/\(aG p=[]<->e<=a)/\(aG p≠[]->a=cE s.length (aM (s.drop pos))):=by
 obtain⟨p,hp⟩: ∃p,L[q]? =some p:=⟨_,aV hq⟩;obtain⟨d,r,h1,h2,h3,h4⟩:=abg hp hx;have hl:=congrArg aBd h2;rw[dG,bu,cy]at hl;have hs:=vB p
 have hr:(cR (aM p)).length<=(aM p).length:=by
  obtain⟨b,h, -⟩:=sH (aM p);have:=congrArg aBd h;rw[bu]at this;omega
 rw[h1,nv]at hQ;have hc:(s.drop pos).take p.length=p:=by rw[h2,tE]
 have ht:(s.take (pos+p.length-(aM p).length+(cR (aM p)).length)).drop (pos+p.length-(aM p).length)=aG p:=by
  have h5:=vA hc (c:=p.length-(aM p).length) (d:=p.length-(aM p).length+(cR (aM p)).length) ah;rw[show pos+(p.length-(aM p).length)=pos+p.length-(aM p).length by omega,show pos+(p.length-(aM p).length+(cR (aM p)).length)=pos+p.length-(aM p).length+(cR (aM p)).length by omega]at h5;show di s _ _=_;rw[h5,tG,show p.length-(aM p).length+(cR (aM p)).length-(p.length-(aM p).length)=(cR (aM p)).length by omega];have h6:p.drop (p.length-(aM p).length)=aM p:=(Co.1 (iu _)).symm;rw[h6,YZ];obtain⟨b,h, -⟩:=sH (aM p)
  conv=>lhs;arg 2;rw[h]
  rw[tE]
 refine⟨p,d,r,_,_,hp,h1,h2,?_,h4,?_,?_,Nat.le_add_right _ _,ah,ht,?_,fun h=>?_⟩
 ·rw[uz,<-gC];exact h3
 ·have:=congrArg (·[0]?) hQ
  simpa using this
 ·rw[<-gC,hQ];rfl
 ·rw[YZ]
  constructor
  ·intro h;rw[h];simp
  intro h;exact rP.1 ah
 rw[h2,YE h]
 unfold cE;rw[bu,cy];omega
theorem dr.two(o:Option aL): ∃(i:aL) (er:Int),(∀w e w',dr o w e w'->e= .returned (.tuple #[vI i,.int .i64 er])/\Below w.heap.size w w')/\((er=91/\o=none)\/(er=0/\o=some i)):=by
 cases o with
 |none=>exact⟨⟨0,0,0,0,0,[],[],0⟩,91,fun _ _ _ h=>h,.inl ⟨rfl,rfl⟩⟩
 |some z=>exact⟨z,0,fun _ _ _ h=>h,.inr ⟨rfl,rfl⟩⟩
theorem avd(R:cS w1 w s k 0 0 t)(ha:bD t.ag=true)(h0:t.ca=none/\t.cc=0/\t.code=[]):Calls prog 35 #[.pointer (some ⟨w1.heap.size,0,none⟩)] w (Sl (gB t.ag s.length (s.drop k)) w1 w s t):=by
 have uk:=af R.sl;have LN:=af (fun(wx:World) (t:aT) (k:Nat) (R:cS w1 wx s k 0 0 t)=>K7 R);have WR:=af (fun(wx:World) (t:aT) (k:Nat) (R:cS w1 wx s k 0 0 t) n a=>GO R n a);have hww:=R.lt;have R0:=af (show cS w1 w s k 0 0 { t with ca:=none,cc:=0,code:=[] }from by rw[ar5 h0];exact R);have hk0:=R.le;obtain⟨N,hN⟩:=aF s.length;have HN:=af hN;have hNb:N<=262144:=by have:=R.sl;omega
 obtain⟨hp,OS⟩: ∃hp,hp=gB t.ag s.length (s.drop k):=⟨_,rfl⟩;rw[<-OS];rw[hN]at OS hk0;have Ig:=af (show qI hp t.ag N 0 0 (s.drop k) (([]:List Cd).map (·.l))from .inl ⟨rfl,OS⟩);clear OS R h0 hN;go_in;go_wp2_with fail
 go_loopw [3] (fun x wi=> ∃(nn kk f:Nat) (C:List Cd) (ac:Option Addr),x= .int .i64 nn/\kk<=N+1/\Hid (qI hp t.ag N nn f (s.drop kk) (C.map (·.l)))/\Hid (cS w1 wi s kk 0 0 { t with ca:=ac,cc:=nn,code:=C })/\Hid (eP wi w.heap.size ac nn C)/\Hid (St w wi w1.heap.size)/\w.heap.size<=wi.heap.size/\mE C 0 kk) (fun _ wi=>N+1-(intOf ((wi.cell? ⟨w1.heap.size,1,none⟩).getD undef)).toNat)
 ·exact⟨0,k,0,[],none,rfl,hk0,Ig,R0,af (eP.nil _ _),af (bX (bS _ _)),aX _,mE.new 0 k⟩
 obtain⟨nn,kk,f,C,ac,rfl,hkk,HT,RR,OC,SS,hB,HL⟩:=hrel;have nQ:=OC.oo.len;have hnn:=(au.cap OC.oo.row).2.1;have iG:=RR.oo.bx.get 1 _ rfl;have Mi:=af (show(wr.cell? ⟨w1.heap.size,1,none⟩).getD undef= .int .i64 kk by rw[iG];rfl);have RX:=af (LN.oo _ _ _ RR.oo);rw[HN.oo]at RX;have hds:=JI s kk;obtain⟨u,hu⟩:=aF (aM (s.drop kk));have XN:=af (fun h=>HT.oo.no h);have XB:=af (fun h h2=>HT.oo.bad h h2);have XH:=af (fun h h2 h3 n2 h4 h5=>HT.oo.head h h2 h3 (n2:=n2) h4 h5);have XL:=af (fun h h2 h3=>HT.oo.len h h2 h3);have XR:=af (fun h h2 h3=>HT.oo.row h h2 h3);rw[hu]at XN XB XH XL XR hds;rw[eT,nQ]at XL XR;have HU:=af hu;clear iG HT;go_wp2_with fail;refine RX.oo.mono ?_;rintro e w2 ⟨hv,E2⟩;unfold zS at hv;rw[hu]at hv;have R2:=af (RR.oo.below E2);have RZ:=af (OC.oo.below E2);have Sp:=af (SS.oo.trans (bX (bw:=w1.heap.size) E2));have Vt:=dY hB E2.size;have c0:=R2.oo.bx.get 0 _ rfl;have Dc:=R2.oo.lt;rw[HN.oo]at hds;obtain⟨p0,eH⟩:=aF (cE N u);rw[eH]at XN XB XL hv hds;clear hu RR OC SS E2 RX LN
 have Wt:(u=[]/\gv u=false/\p0=N/\e= .returned (.tuple #[.int .i64 (p0:Nat),.int .i64 N,.int .i64 N,.bool false]))\/(∃(nx tt:Nat) (d:UInt8),(gv u=true<->d=59)/\bB u≠[]/\s[tt-1]? =some d/\p0+(bB u).length=tt/\p0<tt/\tt<=N/\s.drop nx=cP u/\nx<=N+1/\kk<nx/\e= .returned (.tuple #[.int .i64 (p0:Nat),.int .i64 (tt:Nat),.int .i64 nx,.bool true])):=by
  rcases hv with⟨h1,h2⟩|⟨nx,h1,h2,h3,h4⟩
  ·refine .inl ⟨h1,by rw[h1];rfl,?_,?_⟩
   ·rw[<-eH,h1,GH]
   rw[h2,<-eH,h1,GH]
  obtain⟨c,hc⟩: ∃c,u.head?=some c:=by
   cases u with
   |nil=>exact absurd rfl h1
   |cons c r=>exact⟨c,rfl⟩
  have hcb:aH c=false:=lQ (l:=s.drop kk) (p:=aH) (by rw[show(s.drop kk).dropWhile aH=u from HU.oo];exact hc);have wR:(bB u).head?=some c:=(KE (b:=[]) hc hcb aq).2.2;have aN:bB u≠[]:=fun h=>by rw[h]at wR;cases wR
  obtain⟨d,hd1,lP⟩:=aq6 aN
  have VC:1<=(bB u).length:=by
   cases h:bB u with
   |nil=>exact absurd h aN
   |cons a b=>simp
  have iH:p0+u.length=N:=by
   have h5:=(nC (s.drop kk)).length_le;rw[HU.oo,dG,HN.oo]at h5;rw[<-eH];unfold cE;omega
  have Wb:=agx u;have hat:(s.drop p0).take (bB u).length=bB u:=by rw[hds];exact(Py u).1
  refine .inr ⟨nx,p0+(bB u).length,d,lP,aN,?_,rfl,ah,ah,h2,h3,?_,h4⟩
  ·have:=EV hat (i:=(bB u).length-1) (x:=d) (by rw[<-Er];exact hd1)
   rw[show p0+(bB u).length-1=p0+((bB u).length-1) by omega];exact this
  have h5:=congrArg aBd h2
  rw[dG,HN.oo]at h5
  have h6:(cP u).length<u.length:=by
   rcases iA (cP u).length u.length with h|h
   ·exact h
   exfalso
   unfold cP at h;have h7:=(iu (l:=u) (· != 10)).length_le;rw[dG]at h;omega
  have h8:=(nC (s.drop kk)).length_le;rw[HU.oo,dG,HN.oo]at h8;omega
 clear hv;rcases Wt with⟨h1,hrow,hpN,rfl⟩|⟨nx,tt,d,lP,aN,hd1,Dg,aAO,aAP,mo,C8,hkx,rfl⟩
 rotate_left
 ·have iy: ∀w,(Instr.index 9 (.string (tx s)) (.int .i64 ((tt:Int)-1))).run prog w= .ok (.int .u8 d.toNat) w:=by
   have:=cH s (tt-1) d hd1
   rwa[show((tt-1:Nat):Int)=(tt:Int)-1 by omega]at this
  by_cases uM:d=59
  rotate_left
  ·have hrow:gv u=false:=by
    cases e:gv u with
    |false=>rfl
    |true=>exact absurd (lP.1 e) uM
   have zy:((d.toNat:Int) != 59)=true:=rG d 59 uM;obtain⟨X1,X2⟩:=XN.oo hrow
   by_cases qW:nn=0
   ·have X1:=af (X1 qW)
    have zn:((nn:Int)==0)=true:=aC;clear X2 qW HU mo hd1 lP hds eH aN XN XB XH XL XR;exact ada
   have X2:=af (X2 qW)
   have zn:((nn:Int)==0)=false:=aC;clear X1 qW HU mo hd1 lP hds eH aN XN XB XH XL XR;exact adb
  subst uM
  have hrow:gv u=true:=lP.2 rfl;have zy:(((59:UInt8).toNat:Int) != 59)=false:=rfl
  have jZ:di s p0 (tt-1)=(bB u).dropLast:=by
   rw[ajv hds ah,MW,show tt-1-p0=(bB u).length-1 by omega]
   conv=>rhs;arg 2;rw[<-(Py u).1]
   rw[Tq,wg ah]
  have CE:=af (fun w=>auY s p0 (tt-1) ah (bE HN.oo) uk.oo w);rw[jZ,show((tt-1:Nat):Int)=(tt:Int)-1 by omega]at CE;obtain⟨L,hL⟩:=aF (gV u);rw[show bh 124 (bB u).dropLast=L from hL]at CE;have hLn:=ah9 L p0;obtain⟨Q,hQ⟩:=aF (nv p0 L);rw[hQ]at CE hLn;obtain⟨n2,hn2⟩:=aF Q.length;rw[hn2]at CE hLn
  have hL0:n2≠0:=fun h=>by
   rw[h,<-hL]at hLn;exact absurd (rP.1 hLn.symm) (uc 124 _)
  have aAw:n2<=262145:=by
   have h1:=vE 124 (bB u).dropLast;rw[show bh 124 (bB u).dropLast=L from hL,Ev]at h1;omega
  obtain⟨z,hz⟩:=ajb hrow [];have Iq:=af (show s.drop p0=lV (59::z) (L.drop 0)from by rw[hds,jg,<-hL];exact hz);have Eh:=af (show Q.drop 0=nv p0 (L.drop 0) by rw[jg,jg];exact hQ.symm);rw[hL]at XB XH XL XR;have XH:=af (fun h h3=>XH.oo h hrow h3 n2 hLn.symm hL0);have XB:=af (fun h h2=>XB.oo h h2);have XL:=af (fun h h2=>XL.oo h hrow h2);have XR:=af (fun h h2=>XR.oo h hrow h2);rw[<-hLn]at XL XR;rw[<-mo]at XH XR;have H9:=af hds;have gw:=af hLn;have iV:=af hn2;clear jZ hL hQ hz hd1 lP hds eH mo Dg aN HU hLn hn2 XN;go_wp2_with fail;refine(CE.oo _).mono ?_;rintro e w3 ⟨E3,sa,c,rfl,OQ⟩;have R3:=af (R2.oo.below E3);have OC3:=af (RZ.oo.below E3);have Sq:=af (Sp.oo.trans (bX (bw:=w1.heap.size) E3));have hB3:=dY Vt E3.size;have az1:=E3.size;have OQ:=af OQ;clear E3 R2 RZ Sp c0 Dc
  by_cases qW:nn=0
  ·have zn:((nn:Int)==0)=true:=aC
   go_wp2_with fail
   go_loopw [9] (fun x wi=> ∃(m pos:Nat),x= .int .i64 m/\m<=n2/\Hid (Q.drop m=nv pos (L.drop m))/\Hid (m<n2->s.drop pos=lV (59::z) (L.drop m))/\Hid (∀j,j<m-> ∀c,L[j]? =some c->aG c=80::Lib.itoa (j:Int))/\Below w3.heap.size w3 wi) (fun x _=>n2-(intOf x).toNat)
   ·exact⟨0,p0,rfl,dW _,Eh,af fun _=>Iq.oo,af fun j hj=>absurd hj (iz _),bS _ _⟩
   obtain⟨m,pos,rfl,hmn,HQ,HX,HH,E⟩:=hrel;have c0:=(R3.oo.below E).bx.get 0 _ rfl;have afp:=(R3.oo.below E).lt
   by_cases aA:m<n2
   ·obtain⟨p,d,r,a,en,fX,hdr,hx,hps,hr,hq,FG,Oz,OH,Kq,mM,hpl⟩:=ajc HQ.oo (HX.oo aA) (by rw[<-gw.oo];exact aA)
    have OE:=au.below OQ.oo E;have EL:cQ Cq wr sa Q:=⟨au.row OE,by have:=iV.oo;omega⟩;have ca:wr.cell? ⟨bk sa,fo sa+m*2,none⟩=some (.int .i64 a):=EL.cell0 (m:=2) (fun _=>rfl) hq ah;have ce:wr.cell? ⟨bk sa,fo sa+m*2+1,none⟩=some (.int .i64 en):=EL.cell (m:=2) (fun _=>rfl) hq 1 ah;have ix:=EL.idx XV (fun _=>rfl) m (by rw[iV.oo];exact aA) c;rw[iV.oo]at ix
    have sl: ∀w,(Instr.sliceAt 9 (.string (tx s)) (some (.int .i64 a)) (some (.int .i64 en)) none).run prog w= .ok (.string (tx (aG p))) w:=by
     exact ade
    have qV:=Lib.itoa_length_le (m:Int) ah ah;have NU:=af (avb m ah);rw[<-Lib.itoa_nonneg]at NU;obtain⟨q,AM⟩:=aF (Lib.itoa (m:Int));rw[AM]at NU qV;have cc: ∀w,(Op.stringOp .add ⟨#[80]⟩ (tx q)).run prog w= .ok (.string (tx (80::q))) w:=lX [80] q aC;have zK:decide ((m:Int)<(n2:Int))=true:=aC;have mC:=af (show m+1<n2->s.drop (pos+p.length+1)=lV (59::z) (L.drop (m+1))from fun h=>by rw[hps];exact hr (by rw[<-gw.oo];exact h));have uq:=af FG;have jS:=af fX;have ZS:=af AM;have hab:a<=262144:=by have:=HN.oo;omega
    have heb:en<=262144:=by have:=HN.oo;omega
    obtain⟨ct,hct⟩:=aF (aG p);rw[hct]at sl;have ZD:=af hct;obtain⟨pos2,Kn⟩:=aF (pos+p.length+1);rw[Kn]at mC uq;have Wt:(ct=80::q)\/ct≠80::q:=by by_cases h:ct=80::q;exact .inl h;exact .inr h
    clear fX hdr hx hps hr hq FG Oz OH Kq mM hpl AM hct OE EL HQ HX Kn;go_wp2_with fail;have cA:=fun(d:Nat) (os:Array Obj)=>Calls.regrown_of (yY (NU.oo (grow (redrawn wr d) os)))
    have c0:=cell_regrown c0;have ca:=cell_regrown ca;have ce:=cell_regrown ce;refine wp_region_quiet_below bM bM ?_
    repeat(go_big_quiet_step (exact cA _ _))
    refine mW ?_;intro _ hw';obtain⟨⟨dq,dJ⟩,hw''⟩:=hw';subst hw'';have EQ:=below_regrown wr dq dJ;generalize grow (redrawn wr dq) dJ=W5 at*;have E5:=aI E EQ;clear cA c0 ca ce ix EQ E;rcases Wt with rfl|aN
    ·have y:=cmp_eq (80::q)
     have Bt:=af (show ∀j,j<m+1-> ∀c,L[j]? =some c->aG c=80::Lib.itoa (j:Int)from fun j hj d hd=>by
      by_cases e:j=m
      ·subst e
       rw[jS.oo]at hd;rw[ZS.oo,<-fU hd];exact ZD.oo
      exact HH.oo j ah d hd)
     rw[y];go_wp2_with fail
     go_roundw;exact⟨m+1,pos2,by go_num,ah,uq,mC,Bt,E5⟩;exact ep
    have y:=abo aN
    have XE:=af (XB.oo qW (afk rfl (by rw[jf,jS.oo,wC,ZD.oo]) (by rw[ZS.oo];exact aN)));have R5:=af (R3.oo.below E5);clear E5;rw[y];go_wp2_with fail;refine(WR.oo _ _ _ R5.oo _ _).mono ?_;exact adf
   obtain rfl:m=n2:=ah
   have HEAD:=af (XH.oo qW (VW.2 fun i c hc=>HH.oo i (by have:=(bt.1 hc).1;have:=gw.oo;omega) c hc));have zK:decide ((m:Int)<(m:Int))=false:=aq;have R4:=R3.oo.below E;have q8:=R4.bx.get 8 _ rfl;have hf8:=R4.eK 8;have HE:=af E;have R4:=af R4;clear E
   go_wp2_with (at_make;go_loud(refine Hv Fc _ _ rfl rfl m rfl rfl rfl rfl ah dx (bS wr.heap.size wr) (aX _) ?_))
   intro MH w5 o5 s5 B5;have R5:=R4.oo.below B5;have q85:=R5.bx.get 8 _ rfl;have aAk:=R5.eK 8;have Dd:=R5.lt;have R6:=R5.put 8 (.slice MH m m) (k':=kk) (kA:=0) (kq:=0) (t':={ t with ca:=MH,cc:=m,code:=aBg m ⟨none,0,[]⟩ }) (by simp[DF,cT]) R5.le;have q16:=R6.1.bx.get 1 _ rfl;have aAe:=R6.1.eK 1;have apk:=R6.1.lt;have R7:=R6.1.put 1 (.int .i64 nx) (k':=nx) (kA:=0) (kq:=0) (t':={ t with ca:=MH,cc:=m,code:=aBg m ⟨none,0,[]⟩ }) rfl (bE HN.oo);have afv:w.heap.size<=wr.heap.size:=dY hB3 HE.oo.size;have C7:=af (eP.kept (eP.kept (eP.mono (eP.new o5) afv) R6.2.grown (fun b hb=>by simp at hb;omega)) R7.2.grown (fun b hb=>by simp at hb;omega));have S7:=af (((Sq.oo.trans (bX (bw:=w1.heap.size) HE.oo)).trans (bX (bw:=w1.heap.size) B5)).trans (R6.2.trans R7.2));have hB7:=dY afv (dY B5.size (dY R6.2.grown.size R7.2.grown.size));have KU:=R7.1.bx.get 1 _ rfl;have fC:=af (show(World.cell? _ ⟨w1.heap.size,1,none⟩).getD undef= .int .i64 nx from by rw[KU];rfl);have R7:=af R7.1;clear R5 o5 s5 B5 R6 q8 hf8 KU;go_wp2_with fail
   go_roundw
   case rel=>exact⟨m,nx,(s.drop kk).length,aBg m ⟨none,0,[]⟩,MH,rfl,C8,HEAD,R7,C7,S7,hB7,mE.new m nx⟩
   case measure=>
    rw[fC.oo,Mi.oo];exact ep
  have zn:((nn:Int)==0)=false:=aC
  by_cases CZ:n2=nn
  rotate_left
  ·have Zp:((n2:Int) != (nn:Int))=true:=by simpa using fun h=>CZ ah
   have XE:=af (XL.oo qW CZ);clear Iq Eh XB XH XL XR OQ OC3 Sq;go_wp2_with fail;refine(WR.oo _ _ _ R3.oo _ _).mono ?_;exact adf
  subst CZ
  have Zp:((n2:Int) != (n2:Int))=false:=aq;have Sv:=af (XR.oo qW rfl);clear XR;obtain⟨pq,hpq⟩:=aF (fD t.ag N L u (C.map (·.l)));rw[hpq]at Sv
  have Ry:=af (show pq=KQ ((C.take 0).map (·.l)) (fD t.ag N (L.drop 0) (s.drop p0) ((C.drop 0).map (·.l))) by
   rw[<-hpq,H9.oo];show _=KQ [] _;rw[Z5];rfl)
  clear hpq XB XH XL nQ;go_wp2_with fail
  go_loopw [10] (fun x wi=> ∃(q pos:Nat) (C2:List Cd),x= .int .i64 q/\q<=n2/\Hid (Q.drop q=nv pos (L.drop q))/\Hid (q<n2->s.drop pos=lV (59::z) (L.drop q))/\Hid (pq=KQ ((C2.take q).map (·.l)) (fD t.ag N (L.drop q) (s.drop pos) ((C2.drop q).map (·.l))))/\Hid (cS w1 wi s kk 0 0 { t with ca:=ac,cc:=n2,code:=C2 })/\Hid (eP wi w.heap.size ac n2 C2)/\Hid (au wi w2.heap.size 133 2 sa n2 c (flat Cq Q))/\Hid (St w wi w1.heap.size)/\w3.heap.size<=wi.heap.size/\mE C2 q kk) (fun x _=>n2-(intOf x).toNat)
  ·exact⟨0,p0,C,rfl,dW _,Eh,af fun _=>Iq.oo,Ry,R3,OC3,OQ,Sq,aX _,HL⟩
  obtain⟨q,pos,C2,rfl,yL,HQ,HX,HP,RQ,OC,OQ,SQ,FE,xN⟩:=hrel;have nQ:=OC.oo.len
  by_cases aA:q<n2
  ·obtain⟨p,d,r,a,en,fX,hdr,hx,hps,hr,hq,FG,Oz,OH,Kq,mM,hpl⟩:=ajc HQ.oo (HX.oo aA) (by rw[<-gw.oo];exact aA)
   obtain⟨y,sr⟩: ∃y,C2[q]? =some y:=⟨_,aV (by rw[nQ];exact aA)⟩;obtain⟨cs1,Cu⟩:=abu sr;have EL:cQ Cq wr sa Q:=⟨au.row OQ.oo,by have:=iV.oo;omega⟩;have ca:wr.cell? ⟨bk sa,fo sa+q*2,none⟩=some (.int .i64 a):=EL.cell0 (m:=2) (fun _=>rfl) hq ah;have ce:wr.cell? ⟨bk sa,fo sa+q*2+1,none⟩=some (.int .i64 en):=EL.cell (m:=2) (fun _=>rfl) hq 1 ah;have ix:=EL.idx XV (fun _=>rfl) q (by rw[iV.oo];exact aA) c;rw[iV.oo]at ix;have De:=(au.lt OQ.oo (au.some OQ.oo ah)).2;have hP:=HP.oo;rw[hdr,cs1]at hP;have ng:(s.drop pos).drop (p.length+1)=r:=by rw[hx,<-gC];simp
   have PB:=af (show aG p≠[]->oI t.ag (aG p)=none->hp= .error (91,a)from fun h1 h2=>Sv.oo.1 _ (by rw[hP,Z3 h1 h2,hpl h1,HN.oo]));have PS:=af (show aG p=[]->pq=KQ ((C2.take (q+1)).map (·.l)) (fD t.ag N (L.drop (q+1)) r ((C2.drop (q+1)).map (·.l)))from fun h=>by rw[hP,Z7 h,ng,Cu])
   have PP:=af (show ∀i a' c',aG p≠[]->oI t.ag (aG p)=some i->pq=KQ (((C2.set q ⟨a',c',y.l++[i]⟩).take (q+1)).map (·.l)) (fD t.ag N (L.drop (q+1)) r (((C2.set q ⟨a',c',y.l++[i]⟩).drop (q+1)).map (·.l)))from fun i a' c' h1 h2=>by
    rw[hP,Z6 h1 h2,ng,(NB sr).1,(NB sr).2])
   have sl: ∀w,(Instr.sliceAt 9 (.string (tx s)) (some (.int .i64 a)) (some (.int .i64 en)) none).run prog w= .ok (.string (tx (aG p))) w:=by
    exact ade
   obtain⟨pos2,Kn⟩:=aF (pos+p.length+1);rw[Kn]at FG hps;have mC:=af (show q+1<n2->s.drop pos2=lV (59::z) (L.drop (q+1))from fun h=>by rw[hps];exact hr (by rw[<-gw.oo];exact h));have uq:=af FG;rw[<-hps]at PS PP;obtain⟨ct,hct⟩:=aF (aG p);rw[hct]at PB PS PP sl mM
   have aoP:ct.length<=262144:=by
    rw[<-Kq,<-hct]at*;rw[dG,lI];have:=HN.oo;omega
   have RI:=af (fun w g=>(by have h:=ava t.ag ct w g;rw[ha,ak rfl]at h;exact h:Calls prog 20 #[.int .i64 t.ag,.string (tx ct)] w (dr (oI t.ag ct) w)));obtain⟨i,er,J4,Km⟩:=dr.two (oI t.ag ct);have RI:=af (fun w g=>(RI.oo w g).mono fun e w' h=>J4 w e w' h);have Rv:=af Km;have pS:=af sr;have Md:=af mM;have zK:decide ((q:Int)<(n2:Int))=true:=aC;have hab:a<=262144:=by have:=HN.oo;omega
   have heb:en<=262144:=by have:=HN.oo;omega
   clear fX hdr hx hps hr hq FG Oz OH Kq mM hpl sr cs1 Cu EL hP ng Kn hct J4 Km HQ HX HP;go_wp2_with fail;have ca5:=cell_regrown ca;have ce5:=cell_regrown ce;have qE:=af ca;have Rk:=af ce;clear ca ce;refine wp_region_quiet_below bM bM ?_
   repeat(go_big_quiet_step (fail))
   refine mW ?_;intro _ hw';obtain⟨⟨dq,dJ⟩,hw''⟩:=hw';subst hw'';have EQ:=below_regrown wr dq dJ;generalize grow (redrawn wr dq) dJ=W5 at*;have RQ:=af (RQ.oo.below EQ);have OC:=af (OC.oo.below EQ);have OQ5:=af (au.below OQ.oo EQ);have SQ:=af (SQ.oo.trans (bX (bw:=w1.heap.size) EQ));have FE:=dY FE EQ.size;have ca:W5.cell? ⟨bk sa,fo sa+q*2,none⟩=some (.int .i64 a):=(EQ.cell (p:=⟨bk sa,fo sa+q*2,none⟩) De).trans qE.oo;have ce:W5.cell? ⟨bk sa,fo sa+q*2+1,none⟩=some (.int .i64 en):=(EQ.cell (p:=⟨bk sa,fo sa+q*2+1,none⟩) De).trans Rk.oo;have De:=ou De EQ.size;clear ca5 ce5 qE Rk EQ
   by_cases hb0:en<=a
   ·have zb:decide ((en:Int)<=(a:Int))=true:=aC
    have fS:=af (PS.oo (Md.oo.2 hb0));go_wp2_with fail
    go_roundw;exact⟨q+1,pos2,C2,by go_num,ah,uq,mC,fS,RQ,OC,OQ5,SQ,FE,xN.skip⟩;exact ep
   have zb:decide ((en:Int)<=(a:Int))=false:=aC
   have Kl:ct≠[]:=fun h=>hb0 (Md.oo.1 h)
   go_upto_region 22 with(fail);have uG:=af (fun(w':World) (E:Below W5.heap.size W5 w')=>And.intro ((RQ.oo.below E).bx.get 0 _ rfl) (And.intro ((RQ.oo.below E).bx.get 4 _ rfl) (And.intro ((E.cell (p:=⟨bk sa,fo sa+q*2,none⟩) De).trans ca) ((E.cell (p:=⟨bk sa,fo sa+q*2+1,none⟩) De).trans ce))));have gi:=RQ.oo.lt;have B0:=bS W5.heap.size W5;have gl:=af (fun(w':World) (B:Below W5.heap.size W5 w')=>RQ.oo.g.below B);obtain⟨op,dd,aa,bb,ax,lo,la,fe⟩:=i;have qE:=af ca;have Rk:=af ce;clear ca ce
   go_cut [11,12] (fun x y wx=> ∃b9:Nat,x= .pointer (some ⟨b9,0,none⟩)/\y= .int .i64 er/\Below W5.heap.size W5 wx/\W5.heap.size<=b9/\aW wx b9 [.int .i64 op,.int .i64 dd,.int .i64 aa,.int .i64 bb,.int .i64 ax,.string (tx lo),.string (tx la),.int .i64 fe])
   case first=>
    go_region_held3 (fun w'=>Below W5.heap.size W5 w'/\w'.cell? ⟨w1.heap.size,0,none⟩=some (.string (tx s))/\w'.cell? ⟨w1.heap.size,4,none⟩=some (.int .i64 t.ag)/\w'.cell? ⟨bk sa,fo sa+q*2,none⟩=some (.int .i64 a)/\w'.cell? ⟨bk sa,fo sa+q*2+1,none⟩=some (.int .i64 en))
     (exact⟨cG,uG.oo _ cG⟩)
     (first
      |(go_at_call 20
        refine(RI.oo _ (gl.oo _ (jV (bS W5.heap.size W5)))).mono ?_;rintro e w9 ⟨rfl,E9⟩;have B9:=aI (jV (bS W5.heap.size W5)) E9;obtain⟨a1,a2,a3,a4⟩:=uG.oo _ B9)
      |(go_at_call 20
        refine(RI.oo _ (gl.oo _ (jV (gU (bS W5.heap.size W5) _)))).mono ?_;rintro e w9 ⟨rfl,E9⟩;have B9:=aI (jV (gU (bS W5.heap.size W5) _)) E9;obtain⟨a1,a2,a3,a4⟩:=uG.oo _ B9;have XN:=((aW.new W5 #[.int .i64 0,.int .i64 0,.int .i64 0,.int .i64 0,.int .i64 0,.string ⟨#[]⟩,.string ⟨#[]⟩,.int .i64 0] 50).below (below_drewN _ 1)).below E9;obtain⟨n0,n1,n2,n3,n4,n5,n6,n7⟩:=XN.jj;have nf: ∀j,w9.frozen? ⟨W5.heap.size,j,none⟩=false:=fun j=>(E9.frozen (p:=⟨W5.heap.size,j,none⟩) aq).trans (cJ W5 _ _ j)
        have f0:=nf 0;have f1:=nf 1;have f2:=nf 2;have f3:=nf 3;have f4:=nf 4;have f5:=nf 5;have f6:=nf 6;have f7:=nf 7))
    all_goals(go_wp2_with fail;go_meet)
    ·exact ac8
    exact⟨W5.heap.size,rfl,rfl,(Gk B9.size),aX _,(((((((XN.set 0 (.int .i64 op)).set 1 (.int .i64 dd)).set 2 (.int .i64 aa)).set 3 (.int .i64 bb)).set 4 (.int .i64 ax)).set 5 (.string (tx lo))).set 6 (.string (tx la))).set 7 (.int .i64 fe)⟩
   obtain⟨b9,rfl,rfl,B9,J8,XB⟩:=hcut;have RW:=RQ.oo.below B9;rcases Rv.oo with⟨rfl,hI⟩|⟨rfl,hI⟩
   ·have PE:=af (PB.oo Kl hI)
    have cw:wc.cell? ⟨bk sa,fo sa+q*2,none⟩=some (.int .i64 a):=(B9.cell (p:=⟨bk sa,fo sa+q*2,none⟩) De).trans qE.oo;have RW:=af RW;clear hI XB B9 B0 gl;go_wp2_with fail;refine(WR.oo _ _ _ RW.oo _ _).mono ?_;exact ac9
   have fS:=af (fun a' c'=>PP.oo _ a' c' Kl hI)
   have OW:=af (OC.oo.below B9);have OQ9:=af (au.below OQ5.oo B9);have SW:=af (SQ.oo.trans (bX (bw:=w1.heap.size) B9));obtain⟨x0,x1,x2,x3,x4,x5,x6,x7⟩:=XB.jj;have q8:=RW.bx.get 8 _ rfl;simp only at q8;rw[nQ]at q8;have Wn:=RW.lt;have hbW:=XB.1;have sU:=af RW;obtain⟨y1,y2,iy8⟩:=OW.oo.cell pS.oo;have gM:=k8 y1;simp only at gM;have Gf:w.heap.size<=wc.heap.size:=SW.oo.grown.size;have Dh:y.l.length<=262145:=by have:=xN.at pS.oo;have:=HN.oo;omega
   have HY:=cV pS.oo;have oY:=OW.oo.own y HY;have zQ:=af oY;have hac:w.heap.size<=bk ac:=(au.lt OW.oo.row (au.some OW.oo.row ah)).1
   have wW: ∀b,y.a.map (·.block)=some b->w.heap.size<=b:=fun b hb=>by
    cases e:y.a with
    |none=>rw[e]at hb;cases hb
    | some z=>
      exact acO
   have ae6: ∀b,ac.map (·.block)=some b->w.heap.size<=b:=fun b hb=>by
    cases e:ac with
    |none=>rw[e]at hb;cases hb
    |some z=>rw[e]at hb hac;simp[bk]at hb hac;omega
   have Rh:=af (show ∀a' c' w',au w' w.heap.size 50 8 a' (y.l.length+1) c' (jM y.l++iC ⟨op,dd,aa,bb,ax,lo,la,fe⟩)->mS wc w' y.a y.c a' c'->
    (cS w1 (w'.setCell ⟨bk ac,fo ac+q,none⟩ (.slice a' (y.l.length+1) c')) s kk 0 0 { t with ca:=ac,cc:=n2,code:=C2.set q ⟨a',c',y.l++[⟨op,dd,aa,bb,ax,lo,la,fe⟩]⟩ }/\eP (w'.setCell ⟨bk ac,fo ac+q,none⟩ (.slice a' (y.l.length+1) c')) w.heap.size ac n2 (C2.set q ⟨a',c',y.l++[⟨op,dd,aa,bb,ax,lo,la,fe⟩]⟩)/\au (w'.setCell ⟨bk ac,fo ac+q,none⟩ (.slice a' (y.l.length+1) c')) w2.heap.size 133 2 sa n2 c (flat Cq Q)/\St w (w'.setCell ⟨bk ac,fo ac+q,none⟩ (.slice a' (y.l.length+1) c')) w1.heap.size/\wc.heap.size<=(w'.setCell ⟨bk ac,fo ac+q,none⟩ (.slice a' (y.l.length+1) c')).heap.size)from fun a' c' w' ho hg=>by
    obtain⟨O9,s9⟩:=eP.put OW.oo pS.oo (i:=⟨op,dd,aa,bb,ax,lo,la,fe⟩) (by rw[Pk];exact ho) hg;have IG:=(au.step OQ9.oo hg.step (GD OQ9.oo zQ.oo ay)).1;have MI:=(au.step OW.oo.row hg.step (OW.oo.far y HY)).1;refine⟨cS.code (C:=C2) ((sU.oo.kept hg.step.grown (fun b hb=>by have:=wW b hb;omega)).kept s9.grown (fun b hb=>by have:=ae6 b hb;omega)) (by rw[Cc]),O9,(au.step IG s9 (GD IG MI ay)).1,St.more (St.more SW.oo hg.step.grown wW) s9.grown ae6,dY hg.step.grown.size s9.grown.size⟩)
   have az9:bk ac≠b9:=by
    have h1:=(au.lt OC.oo.row (au.some OC.oo.row ah)).2;omega
   have HB9:=af B9.size;clear XB B9 RW oY hI B0 gl;have oy:=zQ.oo
   go_wp2_with (at_builtin;go_loud(refine mR inl (.tmp 147) (.tmp 149) rfl rfl rfl oy rfl rfl (afU ⟨op,dd,aa,bb,ax,lo,la,fe⟩) (bS w.heap.size wc) Gf ah dx ?_))
   intro a' c' w' ho hg B';obtain⟨R9,xR,Sb,S9,hs9⟩:=Rh.oo _ _ _ ho hg;have R7:=sU.oo.kept hg.step.grown (fun b hb=>by have:=wW b hb;omega);have q87:=R7.bx.get 8 _ rfl;simp only at q87;rw[nQ]at q87;have rN:=(au.step OW.oo.row hg.step (OW.oo.far y HY)).1;have y17:=(Nz rN pS.oo).1;have y27:=(Nz rN pS.oo).2;have R9:=af R9;have xR:=af xR;have Sb:=af Sb;have S9:=af S9;have qX:=af (fS.oo a' c');have aAJ:=R7.lt;have aoN:w3.heap.size<=(w'.setCell ⟨bk ac,fo ac+q,none⟩ (.slice a' (y.l.length+1) c')).heap.size:=by have:=HB9.oo;omega
   clear ho hg B' R7 rN oy;go_wp2_with fail
   go_roundw;exact⟨q+1,pos2,_,by go_num,ah,uq,mC,qX,R9,xR,Sb,S9,aoN,xN.put pS.oo _ _ _⟩;exact ep
  obtain rfl:q=n2:=ah
  have HF:=af (Sv.oo.2 (C2.map (·.l)) (by
   rw[HP.oo,iN (by rw[<-gw.oo];exact aX _),Z4,kI (by rw[nQ];exact aX _),iN (by rw[nQ];exact aX _)];simp))
  have zK:decide ((q:Int)<(q:Int))=false:=aq;have R4:=RQ.oo;have q1:=R4.bx.get 1 _ rfl;have AG:=R4.eK 1;have aAI:=R4.lt;have R5:=R4.put 1 (.int .i64 nx) (k':=nx) (kA:=0) (kq:=0) (t':={ t with ca:=ac,cc:=q,code:=C2 }) rfl (bE HN.oo);have C5:=af (OC.oo.kept R5.2.grown (fun b hb=>by simp at hb;omega));have S5:=af (SQ.oo.trans R5.2);have Vu:=dY hB3 (dY FE R5.2.grown.size);have KU:=R5.1.bx.get 1 _ rfl;have fC:=af (show(World.cell? _ ⟨w1.heap.size,1,none⟩).getD undef= .int .i64 nx from by rw[KU];rfl);have R5:=af R5.1;clear R4 KU;go_wp2_with fail
  go_roundw
  case rel=>exact⟨q,nx,f-1,C2,ac,rfl,C8,HF,R5,C5,S5,Vu,xN.all hkx⟩
  case measure=>
   rw[fC.oo,Mi.oo];exact ep
 rw[hpN]at XN
 obtain⟨X1,X2⟩:=XN.oo hrow
 by_cases qW:nn=0
 ·have X1:=af (X1 qW)
  have zn:((nn:Int)==0)=true:=aC;clear X2 qW HU hds eH XN XB XH XL XR h1;exact ada
 have X2:=af (X2 qW)
 have zn:((nn:Int)==0)=false:=aC;clear X1 qW HU hds eH XN XB XH XL XR h1;exact adb
end Go.Proofs.YtkbbgjloifmmbaaGreatDoor

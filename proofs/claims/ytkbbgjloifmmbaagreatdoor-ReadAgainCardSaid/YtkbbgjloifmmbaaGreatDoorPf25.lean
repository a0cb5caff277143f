/- What ReadAgainP leans on, part 25. -/
import Derived.Test.YtkbbgjloifmmbaaGreatDoorPf22
import Derived.Test.YtkbbgjloifmmbaaGreatDoorPf23
import Derived.Test.YtkbbgjloifmmbaaGreatDoorPf24
set_option linter.unusedVariables false
set_option maxRecDepth 100000
set_option maxHeartbeats 12800000
open _root_.Go.Proofs.Tryz
open _root_.Go renaming World->aAX,Calls->aA7
namespace Go.Proofs.YtkbbgjloifmmbaaGreatDoor
open Go.RowKit Go.Sort
variable{p:EP aT}{k:Nat}{t:aT}{s:Tx}{w w1:aAX}
theorem cS.cond(R:cS w1 w s k 0 0 t)(q:Int)(y:Nd): ∃W,((((((((w.setCell ⟨w1.heap.size,9,none⟩ (.int .i64 q)).setCell ⟨w1.heap.size,10,none⟩ (.int .i64 y.kind)).setCell ⟨w1.heap.size,11,none⟩ (.int .i64 y.th.aO)).setCell ⟨w1.heap.size,12,none⟩ (.int .i64 y.th.aR)).setCell ⟨w1.heap.size,13,none⟩ (.string (tx y.th.aj))).setCell ⟨w1.heap.size,14,none⟩ (.int .i64 y.val)).setCell ⟨w1.heap.size,15,none⟩ (.slice y.a y.aP.length y.c)))=W/\cS w1 W s k 0 0 { t with q:=q,node:=y }/\St w W w1.heap.size:=by
 have R1:=R.put 9 (.int .i64 q) (k':=k) (kA:=0) (kq:=0) (t':={ t with q:=q }) rfl R.le;have R2:=R1.1.put 10 (.int .i64 y.kind) (k':=k) (kA:=0) (kq:=0) (t':={ t with q:=q,node:=.mk y.kind t.node.th t.node.val t.node.a t.node.c t.node.aP }) rfl R.le;have R3:=R2.1.put 11 (.int .i64 y.th.aO) (k':=k) (kA:=0) (kq:=0) (t':={ t with q:=q,node:=.mk y.kind ⟨y.th.aO,t.node.th.aR,t.node.th.aj⟩ t.node.val t.node.a t.node.c t.node.aP }) rfl R.le;have R4:=R3.1.put 12 (.int .i64 y.th.aR) (k':=k) (kA:=0) (kq:=0) (t':={ t with q:=q,node:=.mk y.kind ⟨y.th.aO,y.th.aR,t.node.th.aj⟩ t.node.val t.node.a t.node.c t.node.aP }) rfl R.le;have R5:=R4.1.put 13 (.string (tx y.th.aj)) (k':=k) (kA:=0) (kq:=0) (t':={ t with q:=q,node:=.mk y.kind ⟨y.th.aO,y.th.aR,y.th.aj⟩ t.node.val t.node.a t.node.c t.node.aP }) rfl R.le;have R6:=R5.1.put 14 (.int .i64 y.val) (k':=k) (kA:=0) (kq:=0) (t':={ t with q:=q,node:=.mk y.kind ⟨y.th.aO,y.th.aR,y.th.aj⟩ y.val t.node.a t.node.c t.node.aP }) rfl R.le;have R7:=R6.1.put 15 (.slice y.a y.aP.length y.c) (k':=k) (kA:=0) (kq:=0) (t':={ t with q:=q,node:=y }) rfl R.le;exact⟨_,rfl,R7.1,R1.2.trans (R2.2.trans (R3.2.trans (R4.2.trans (R5.2.trans (R6.2.trans R7.2)))))⟩
def Sh(p:EP (Int × Nd))(w1:aAX)(s:Tx)(k:Nat)(t:aT)(e:Ending)(w':aAX):Prop:=
 (∃x,p= .error x/\Bo x w1 w' s e)\/
 ∃q x y,p= .ok (q,x)/\bO y=x/\((cM { t with q:=q,node:=y }≠0/\Bo (cM { t with q:=q,node:=y },0) w1 w' s e)\/(cM { t with q:=q,node:=y }=0/\e= .returned (.bool true)/\cS w1 w' s k 0 0 { t with q:=q,node:=y }/\kj w' (w1.heap.size+1) { t with q:=q,node:=y }))
theorem auZ(R:cS w1 w s k 0 0 t)(OT:kj w (w1.heap.size+1) t):aA7 prog 36 #[.pointer (some ⟨w1.heap.size,0,none⟩)] w (Sh (jX t.ag s.length (s.drop k)) w1 s k t):=by
 have hl:=R.sl;have LN:=af (K7 R);have WR:=af (fun(wx:aAX) (t:aT) (k:Nat) (R:cS w1 wx s k 0 0 t) n a=>GO R n a);have HR:=af R;have HOT:=af OT;have hds:=JI s k;obtain⟨u,hu⟩:=aF (aM (s.drop k));have P1:=af (fun c h=>abM (N:=s.length) (ag:=t.ag) (r:=s.drop k) (c:=c) h);have P2:=af (fun e k2 h=>abL (N:=s.length) (ag:=t.ag) (r:=s.drop k) (e:=e) (k:=k2) h);have iH:u.length<=s.length:=by rw[<-hu];have:=(nC (s.drop k)).length_le;rw[dG]at this;omega
 have NZ:=af (fun e k2 (h:dI t.ag u= .error (e,k2))=>ahM h);have PK:=af (fun e k2 (h:dI t.ag u= .error (e,k2))=>ahN h);have apv:=af (show u.length<=262144 by omega);have CP:=af (fun w=>auo t.ag u ah w);obtain⟨p0,eH⟩:=aF (cE s.length u);rw[hu,eH]at hds;rw[hu]at P1 P2;generalize jX t.ag s.length (s.drop k)=hp at*;obtain⟨pc,O6⟩:=aF (dI t.ag u);rw[O6]at CP NZ PK;have P1:=af (fun c h=>P1.oo c (O6.trans h));have P2:=af (fun e k2 h=>(P2.oo e k2 (O6.trans h)).trans (by rw[eH]));have hpl:p0<=s.length:=by rw[<-eH];exact Nat.sub_le _ _
 have sl:=Qy s p0 hpl;rw[hds]at sl;have Ig:=af eH;have hrb:=R.lt;clear R OT hds O6 iH;go_in;go_wp2_with fail;refine LN.oo.mono ?_;rintro e w2 ⟨hv,E2⟩;unfold zS at hv;rw[hu]at hv
 obtain⟨v1,v2,v3,rfl⟩: ∃v1 v2 v3,e= .returned (.tuple #[.int .i64 (p0:Nat),v1,v2,v3]):=by
  rcases hv with⟨h0,h⟩|⟨nx,h0,-, -, h⟩
  ·exact⟨_,_,_,by rw[h,<-eH,h0,GH]⟩
  exact⟨_,_,_,by rw[h,eH]⟩
 have R2:=af (HR.oo.below E2);have OT2:=af (HOT.oo.below E2);have O7:p0<=262144:=ah;clear hv E2 hu LN hl eH;go_upto_region 2 with(fail);have uG:=af (fun(w':aAX) (E:Below w2.heap.size w2 w')=>And.intro ((R2.oo.below E).bx.get 0 _ rfl) ((R2.oo.below E).bx.get 4 _ rfl));have gi:=R2.oo.lt;have B0:=bS w2.heap.size w2
 go_cut [7,8,9] (fun s7 s8 s9 wx=> ∃(b':Nat) (q:Int) (y:Nd) (er:Int) (kp:Nat),s7= .pointer (some ⟨b',0,none⟩)/\s8= .int .i64 er/\s9= .int .i64 kp/\aW wx b' (.int .i64 q::cN y)/\Below w2.heap.size w2 wx/\w2.heap.size<=b'/\uh pc q y er kp wx w2.heap.size)
 case first=>
  go_region_held3 (fun w'=>Below w2.heap.size w2 w'/\w'.cell? ⟨w1.heap.size,0,none⟩=some (.string (tx s))/\w'.cell? ⟨w1.heap.size,4,none⟩=some (.int .i64 t.ag))
   (exact⟨cG,uG.oo _ cG⟩)
   (first
    |(go_at_call 90
      refine(CP.oo _).mono ?_;rintro e w9 h;obtain⟨q,y,er,kp,rfl,E9,hc⟩:=h.one;have B9:=aI (jV (bS w2.heap.size w2)) E9;obtain⟨a1,a2⟩:=uG.oo _ B9)
    |(go_at_call 90
      refine(CP.oo _).mono ?_;rintro e w9 h;obtain⟨q,y,er,kp,rfl,E9,hc⟩:=h.one;have B9:=aI (jV (gU (bS w2.heap.size w2) _)) E9;obtain⟨a1,a2⟩:=uG.oo _ B9;have XN:=((aW.new w2 #[.int .i64 0,.int .i64 0,.int .i64 0,.int .i64 0,.string ⟨#[]⟩,.int .i64 0,.slice none 0 0] 30).below (below_drewN _ 1)).below E9;obtain⟨n0,n1,n2,n3,n4,n5,n6⟩:=XN.pI;have nf: ∀j,w9.frozen? ⟨w2.heap.size,j,none⟩=false:=fun j=>(E9.frozen (p:=⟨w2.heap.size,j,none⟩) aq).trans (cJ w2 _ _ j)
      have f0:=nf 0;have f1:=nf 1;have f2:=nf 2;have f3:=nf 3;have f4:=nf 4;have f5:=nf 5;have f6:=nf 6))
  all_goals(go_wp2_with fail;go_meet)
  ·exact ac3
  exact⟨w2.heap.size,q,y,er,kp,rfl,rfl,rfl,((((((XN.set 0 (.int .i64 q)).set 1 (.int .i64 y.kind)).set 2 (.int .i64 y.th.aO)).set 3 (.int .i64 y.th.aR)).set 4 (.string (tx y.th.aj))).set 5 (.int .i64 y.val)).set 6 (.slice y.a y.aP.length y.c),(Gk B9.size),aX _,uh.put (b:=w2.heap.size) (aS hc) iQ⟩
 obtain⟨b',q,y,er,kp,rfl,rfl,rfl,XB,B5,hb',hc⟩:=hcut;have RW:=R2.oo.below B5;rcases hc with hc|⟨rfl,x,hx,hy,hN,hnd⟩
 ·have HE:=af (P2.oo er kp hc)
  have hnz:=NZ.oo er kp hc;have hkp:kp<=262144:=dY (PK.oo er kp hc) apv.oo;have RW:=af RW;clear hc XB B5 B0
  by_cases si:er=2
  ·subst si
   go_wp2_with fail;refine(WR.oo _ _ _ RW.oo _ 0).mono ?_;exact adg
  have y2:((er:Int)==2)=false:=aS si
  have y0:((er:Int) != 0)=true:=aS hnz;have HE:=af (HE.oo.trans (by rw[ai si]));have W2:=af (GO RW.oo er (p0+kp));rw[show((p0+kp:Nat):Int)=(p0:Int)+(kp:Int) by omega]at W2;go_wp2_with fail;refine W2.oo.mono ?_;exact adg
 obtain⟨W6,hW6,RC,ST⟩:=RW.cond q y
 have OT6:=af (show kj W6 (w1.heap.size+1) { t with q:=q,node:=y }from by
  have O5:=(OT2.oo.below B5).kept ST.grown (fun b hb=>by simp at hb;omega);exact⟨O5.name,O5.bG,O5.sm,O5.few,O5.init,O5.Ll,O5.Fz,O5.code,cI.mono (bE R2.oo.lt) (cI.st hN ST (bE R2.oo.lt)),hnd⟩)
 have HX:=af (P1.oo _ hx);have tO:b'≠w1.heap.size:=by have:=R2.oo.lt;omega
 obtain⟨x0,x1,x2,x3,x4,x5,x6⟩:=XB.pI;have hbx:=XB.1;obtain⟨-, -, -, -, -, -, -, -, -, q9,nV,nX,q12,q13,q14,q15⟩:=RW.bx.alI;have f9:=RW.eK 9;have f10:=RW.eK 10;have f11:=RW.eK 11;have f12:=RW.eK 12;have f13:=RW.eK 13;have f14:=RW.eK 14;have f15:=RW.eK 15;have apm:=RW.lt;have HW6:=af hW6;have RC:=af RC;have HY:=af hy;clear RW XB B5 hN hnd hx hW6 ST B0 hy;go_upto_region 8 with(fail);rw[HW6.oo];clear x0 x1 x2 x3 x4 x5 x6 q9 nV nX q12 q13 q14 q15 f9 f10 f11 f12 f13 f14 f15 hbx apm;have apk:=RC.oo.lt;obtain⟨d4,d5,d6,d7,d8,d9,d10,d11,d12,d13,d14,d15⟩:=RC.oo.cells rfl;obtain⟨T,hT⟩:=aF ({ t with q:=q,node:=y }:aT);have CK:=af (auO { t with q:=q,node:=y } W6 OT6.oo.su);obtain⟨ee,hee⟩:=aF (cM { t with q:=q,node:=y });have Br:=af hee;rw[hee]at CK;clear hee hT;go_wp2_with fail;refine aQ CK.oo fun w9 E9=>?_
 have R9:=af (RC.oo.below E9);have O9:=af (OT6.oo.below E9);clear d4 d5 d6 d7 d8 d9 d10 d11 d12 d13 d14 d15 E9
 by_cases h0:ee=0
 ·have z0:(ee != 0)=false:=aS h0
  have HZ:=af (Br.oo.trans h0);clear h0;go_wp2_with fail;exact aZ (by simp[results,results36,go_sem]) rfl (.inr ⟨q,x,y,HX.oo,HY.oo,.inr ⟨HZ.oo,rfl,R9.oo,O9.oo⟩⟩)
 have z0:(ee != 0)=true:=aS h0
 have HZ:=af (show cM { t with q:=q,node:=y }≠0 by rw[Br.oo];exact h0);clear h0;go_wp2_with fail;refine(WR.oo _ _ _ R9.oo _ 0).mono ?_;rintro e LJ ⟨rfl,RB⟩;go_wp2_with fail;go_ret;exact .inr ⟨q,x,y,HX.oo,HY.oo,.inl ⟨HZ.oo,rfl,_,_,by rw[Br.oo];exact RB⟩⟩
abbrev uf(w:aAX):aAX:=(w.alloc oX).alloc oX
section
variable {w1 w:aAX} {s:Tx} {k rb:Nat} {t:aT}
theorem au4(h:w1.heap.size=rb)(R:cS w1 w s k 0 0 t):aA7 prog 32 #[.pointer (some ⟨rb,0,none⟩)] w (aaf (iF s.length (s.drop k)) w1 w s t):=by subst h;exact au3 R
theorem au2(h:w1.heap.size=rb)(R:cS w1 w s k 0 0 t)(wU:t.bG=[]):aA7 prog 33 #[.pointer (some ⟨rb,0,none⟩)] w (aab (fV s.length (s.drop k)) w1 w s t):=by subst h;exact au1 R wU
theorem au9(h:w1.heap.size=rb)(R:cS w1 w s k 0 0 t)(ha:bD t.ag=true)(h0:t.ia=none/\t.ic=0/\t.init=[]):aA7 prog 34 #[.pointer (some ⟨rb,0,none⟩)] w (Sj (gj t.ag s.length (s.drop k)) w1 w s t):=by subst h;exact au8 R ha h0
theorem ave(h:w1.heap.size=rb)(R:cS w1 w s k 0 0 t)(ha:bD t.ag=true)(h0:t.ca=none/\t.cc=0/\t.code=[]):aA7 prog 35 #[.pointer (some ⟨rb,0,none⟩)] w (Sl (gB t.ag s.length (s.drop k)) w1 w s t):=by subst h;exact avd R ha h0
theorem au0(h:w1.heap.size=rb)(R:cS w1 w s k 0 0 t)(OT:kj w (w1.heap.size+1) t):aA7 prog 36 #[.pointer (some ⟨rb,0,none⟩)] w (Sh (jX t.ag s.length (s.drop k)) w1 s k t):=by subst h;exact auZ R OT
end
theorem QZ{w4:aAX}(S:Below (uf w).heap.size (uf w) w4):aW w4 w.heap.size Zo/\aW w4 (w.heap.size+1) Zo/\(∀j,w4.frozen? ⟨w.heap.size,j,none⟩=false):=by
 have a1:=al w oX;have a2:=al (w.alloc oX) oX;have b1:=((aW.new w #[.int .i64 0,.string ⟨#[]⟩,.string ⟨#[]⟩,.slice none 0 0,.slice none 0 0,.int .i64 0,.int .i64 0,.int .i64 0,.int .i64 0,.string ⟨#[]⟩,.int .i64 0,.slice none 0 0] 32).below a2).below S;have b2:=(aW.new (w.alloc oX) #[.int .i64 0,.string ⟨#[]⟩,.string ⟨#[]⟩,.slice none 0 0,.slice none 0 0,.int .i64 0,.int .i64 0,.int .i64 0,.int .i64 0,.string ⟨#[]⟩,.int .i64 0,.slice none 0 0] 32).below S;rw[gQ]at b2;refine⟨b1,b2,fun j=>?_⟩;rw[S.frozen (p:=⟨w.heap.size,j,none⟩) vk,a2.frozen (p:=⟨w.heap.size,j,none⟩) aq];exact Fu
theorem Np(w:aAX):Below w.heap.size w (uf w):=gD
theorem avc(s:Tx)(hm:s.length<=9223372036854775807)(w:aAX)(g:Gl w):aA7 prog 10 #[.string (tx s)] w (xW (gH s) w):=by
 obtain⟨Z,hZ⟩:=aF (gH s);rw[hZ];have HZ:=af hZ;obtain⟨n,hn⟩:=aF ((tx s).size);have hns:n=s.length:=by rw[<-hn,bC]
 have HN:=af hns;have V0:=QZ (bS (uf w).heap.size (uf w));have Ga:(uf w).heap.size=w.heap.size+1+1:=aq;clear hZ;rcases iA 262144 n with hl|hl
 ·have z:decide ((262144:Int)<(n:Int))=true:=aC
  obtain rfl:Z= .error (2,0):=by rw[<-HZ.oo];exact ahO (bE HN.oo)
  have v1:=V0.1;have v2:=V0.2.1;have f0:=V0.2.2;obtain⟨q0,q1,q2,q3,q4,q5,q6,q7,q8,q9,nV,nX⟩:=v1.Am;obtain⟨r0,r1,r2,r3,r4,r5,r6,r7,r8,r9,r10,r11⟩:=v2.Am;have B0:=af (Np w);have dn:=v1.1;have dS:=v2.1;clear V0 HZ hns v1 v2;go_in;go_wp2_with fail;exact aZ (by simp[results,results10,go_sem,q0,q1,q2,q3,q4,q5,q6,q7,q8,q9,nV,nX]) rfl ⟨by(repeat with_reducible refine qQ ?_ (aX _) _);exact B0.oo,rfl⟩
 have z:decide ((262144:Int)<(n:Int))=false:=aC
 have gh:s.length<=262144:=ah;have HL:=af gh;have RN:=af (cS.new (w:=uf w) gh (g.below (Np w)));obtain⟨rb,hrb⟩:=aF (w.heap.size+1+1);have H3:=af (Ga.trans hrb);have HD:=af (au4 H3.oo RN.oo);rw[jg]at HD;have zR:=af hrb;have aN:rb≠w.heap.size:=ah;have aAz:rb≠w.heap.size+1:=ah;clear V0 hns RN g Ga gh hrb;go_in;go_wp2_with fail;rw[zR.oo];refine HD.oo.mono ?_;rintro e w4 hq;rcases hq with⟨x,h1,rfl,kB,tB,RB⟩|⟨a,nm,r1,k1,h1,sj,rfl,T4,R4⟩;have HE:=af (xm HL.oo (aa1 h1));clear h1
 rotate_left
 have Eb:=af (OL h1).1;have H1:=af h1;have CY:=af (au2 H3.oo R4 rfl);rw[sj]at CY;clear h1 HD sj T4;go_wp2_with fail;refine CY.oo.mono ?_;rintro e w5 hq;rcases hq with⟨x,h2,rfl,kB,tB,RB⟩|⟨c,r2,k2,h2,hr2,rfl,T5,R5⟩;have HE:=af (xm HL.oo (aa2 H1.oo h2));clear h2
 rotate_left
 have H2:=af h2;have CI:=af (au9 H3.oo R5 Eb.oo ⟨rfl,rfl,rfl⟩);have CI:Hid (aA7 prog _ _ w5 (Sj (gj a s.length (s.drop k2)) _ _ _ _)):=CI;rw[hr2]at CI;have hs5:=R5.lt;rw[H3.oo]at hs5;clear h2 CY R4 hr2 T5;go_wp2_with fail;refine CI.oo.mono ?_;rintro e w6 hq;rcases hq with⟨x,h3,rfl,kB,tB,RB⟩|⟨i,r3,k3,ia,ic,h3,hr3,rfl,T6,R6,OI⟩;have HE:=af (xm HL.oo (aa3 H1.oo H2.oo h3));clear h3
 rotate_left
 have xL:=af h3;have CT:=af (ave H3.oo R6 Eb.oo ⟨rfl,rfl,rfl⟩);have CT:Hid (aA7 prog _ _ w6 (Sl (gB a s.length (s.drop k3)) _ _ _ _)):=CT;rw[hr3]at CT;have Wo:=R6.lt;rw[H3.oo]at Wo;have OI:=af OI;clear h3 CI R5 hr3 T6;go_wp2_with fail;refine CT.oo.mono ?_;rintro e w7 hq;rcases hq with⟨x,h4,rfl,kB,tB,RB⟩|⟨C,r4,k4,ca,cn,h4,hr4,rfl,T7,R7,OC⟩;have HE:=af (xm HL.oo (aa4 H1.oo H2.oo xL.oo h4));clear h4
 rotate_left
 have H4:=af h4;have Pc:=R7.lt;obtain⟨b1,b2,b3,b4,b5,b6,b7⟩:=alG HL.oo H1.oo H2.oo xL.oo h4;have hZ:=cI.leaf w7 ((uf w).heap.size+1) 0 dQ 0 ay
 have OT:kj w7 ((uf w).heap.size+1) { t0 with ag:=a,name:=nm,bG:=c,ia:=ia,ic:=ic,init:=i,ca:=ca,cc:=cn,code:=C }:=
  ⟨b1,b2,b3,b4,au.mono (au.st OI.oo T7 (by rw[H3.oo];omega)) (by rw[H3.oo];omega),b5,⟨b6,b7⟩,OC.mono (by rw[H3.oo];omega),hZ.1,hZ.2⟩
 have CC:=af (au0 H3.oo R7 OT);have CC:Hid (aA7 prog _ _ w7 (Sh (jX a s.length (s.drop k4)) _ _ _ _)):=CC;rw[hr4]at CC;clear h4 CT R6 hr4 T7 OI OC OT hZ b1 b2 b3 b4 b5 b6 b7;go_wp2_with fail;refine CC.oo.mono ?_;rintro e w8 hq;rcases hq with⟨x,h5,rfl,kB,tB,RB⟩|⟨q,x,y,h5,hy,hq⟩;have HE:=af (xm HL.oo (aa5 H1.oo H2.oo xL.oo H4.oo h5));clear h5
 rotate_left
 have HP:=af (ahQ HL.oo (T9.2 ⟨a,nm,r1,c,r2,i,r3,_,r4,q,x,H1.oo,H2.oo,xL.oo,H4.oo,h5,rfl⟩));obtain⟨T,hT⟩:=aF ({ t0 with ag:=a,name:=nm,bG:=c,ia:=ia,ic:=ic,init:=i,ca:=ca,cc:=cn,code:=C,q:=q,node:=y }:aT);have yF:mG T=tW a nm c i (C.map (·.l)) q x:=by rw[<-hT,<-hy];rfl
 have hE:cM T=cM (tW a nm c i (C.map (·.l)) q x):=by rw[<-QT,yF]
 have hq:(cM T≠0/\Bo (cM T,0) (uf w) w8 s e)\/(cM T=0/\e= .returned (.bool true)/\cS (uf w) w8 s k4 0 0 T/\kj w8 ((uf w).heap.size+1) T):=by rw[<-hT];exact hq
 rcases hq with⟨Kl,rfl,kB,tB,RB⟩|⟨h0,rfl,R8,O8⟩;have HE:=af (show gH s= .error (cM T,0) by rw[HP.oo,<-hE,ai Kl]);obtain⟨x,hx⟩:=aF (cM T,0);rw[hx]at RB HE;clear h5 hT yF hE hy hx Kl
 rotate_left
 ·have rL:=af (show Z= .ok (tW a nm c i (C.map (·.l)) q x) by rw[<-HZ.oo,HP.oo,<-hE,ak h0])
  have HBA:=af yF;have O8:=af O8;have v1:=(QZ R8.cF).1;have f0:=(QZ R8.cF).2.2;have B8:=af ((Np w).trans (R8.cF.mono (by have:=zR.oo;rw[H3.oo];omega)));obtain⟨d4,d5,d6,d7,d8,d9,d10,d11,d12,d13,d14,d15⟩:=R8.cells H3.oo;obtain⟨q0,q1,q2,q3,q4,q5,q6,q7,q8,q9,nV,nX⟩:=v1.Am;have dn:=v1.1;have hrb:=R8.lt;rw[H3.oo]at hrb;have hw8:=zR.oo;clear CC R7 h5 hy hT yF hE h0 R8 v1;go_wp2_with fail;have rL:=rL.oo;subst rL;have B9:=B8.oo;clear B8;exact aZ (by simp[results,results10,go_sem,q0,q1,q2,q3,q4,q5,q6,q7,q8,q9,nV,nX]) rfl ⟨cG,T,HBA.oo,rfl,(O8.oo.kept (bK.grown (b:=w.heap.size) Dp) (fun b hb=>by rw[H3.oo];simp at hb;omega)).mono (by rw[H3.oo];omega)⟩
 all_goals
  obtain⟨er,kp⟩:=x;obtain rfl:Z= .error (er,kp):=HZ.oo.symm.trans HE.oo;obtain⟨v1,v2,f0⟩:=QZ RB.cF;have B8:=af ((Np w).trans (RB.cF.mono (by have:=zR.oo;rw[H3.oo];omega)));obtain⟨-, -, e2,e3⟩:=RB.bx.Jt;rw[H3.oo]at e2 e3;have hrb:=RB.lt;rw[H3.oo]at hrb;obtain⟨q0,q1,q2,q3,q4,q5,q6,q7,q8,q9,nV,nX⟩:=v1.Am;obtain⟨r0,r1,r2,r3,r4,r5,r6,r7,r8,r9,r10,r11⟩:=v2.Am;have dn:=v1.1;have dS:=v2.1;have B9:=B8.oo;clear RB HZ HE v1 v2 B8;go_upto_region 6 with(fail)
  go_big_region
  all_goals go_wp2_with fail
  all_goals exact aZ (by simp[results,results10,go_sem,q0,q1,q2,q3,q4,q5,q6,q7,q8,q9,nV,nX]) rfl ⟨cG,rfl⟩
def tF:EP aT->aT| .error _=>mG t0| .ok t=>t
def eF:EP aT->Int| .error x=>x.1| .ok _=>0
def kF:EP aT->Nat| .error x=>x.2| .ok _=>0
theorem ahB(w:aAX)(B:Nat):kj w B t0:=
 have hZ:=cI.leaf w B 0 ⟨0,0,[]⟩ 0 ay
 ⟨ ay,ay,fun x hx=>(by cases hx),ay,au.nil _ _ _ _,fun x hx=>(by cases hx),⟨ ay,fun x hx=>(by cases hx)⟩,eP.nil _ _,hZ.1,hZ.2⟩
theorem xW.one{w':aAX}{e:Ending}(h:xW p w e w'): ∃y,e= .returned (.tuple #[vT y,.int .i64 (eF p),.int .i64 (kF p)])/\mG y=tF p/\Below w.heap.size w w'/\kj w' w.heap.size y:=by
 obtain⟨hb,h⟩:=h;cases p with
 |error x=>obtain⟨n,k⟩:=x;exact⟨t0,h,rfl,hb,ahB _ _⟩
 |ok t=>obtain⟨y,hy,he,ho⟩:=h;exact⟨y,he,hy,hb,ho⟩
theorem akY{y:aT}(h:cM t=0)(hy:mG y=t):cM y=0/\((nw y).2=0\/(nw y).2=3):=by
 have h1:cM y=0:=by rw[<-QT,hy];exact h
 refine⟨h1,?_⟩;unfold nw;rw[ai (by rw[h1];exact fun h=>h rfl)];split
 ·exact .inr rfl
 exact .inl rfl
theorem anC(h:eF p≠0):tF p=mG t0:=by
 cases p with
 |error x=>rfl
 |ok t=>exact absurd rfl h
theorem anD(h:eF (gH s)=0):cM (tF (gH s))=0:=by
 cases hp:gH s with
 |error x=>rw[hp]at h;exact absurd h (asQ hp)
 |ok t=>exact(ahP.1 hp).2.2
theorem aqQ(s:Tx)(hm:s.length<=9223372036854775807)(w:aAX)(g:Gl w):aA7 prog 7 #[.string (tx s)] w (bg w (.bool true)):=by
 have AW:=af alh;have HG:=af g;have PR:=af (fun w g=>La s hm w g);have PD:=af (fun w g=>avc s hm w g);have PW:=af (fun(u:Tx) (hu:u.length<=262144) w g=>La u ah w g);have ST:=af (fun y1 y2 w h1 h2=>auM y1 y2 w h1 h2);have FN:=af (anC (p:=gH s));have FY:=af (anD (s:=s));generalize gH s=p at*;obtain⟨er,Ke⟩:=aF (eF p);obtain⟨kp,hkp⟩:=aF (kF p);have Zw:=af (fun(w w':aAX) (e:Ending) (h:xW p w e w')=>Ke▸hkp▸h.one);rw[Ke]at FN FY;go_in;go_wp2_with fail;refine(PR.oo w HG.oo).mono ?_;rintro e w2 h;obtain⟨y1,rfl,hy1,E2,O1⟩:=Zw.oo _ _ _ h;have X1:=af (kf.new w2 y1);have E:=af (aI E2 (al w2 (dZ y1)));have O1:=af (O1.below (al w2 (dZ y1)));have HY:=af hy1;go_upto_region 2 with(fail);generalize w2.alloc (dZ y1)=W2 at*
 by_cases h0:er=0
 ·have z1:(er != 0)=false:=aS h0
  obtain⟨hc0,Wj⟩:=akY (FY.oo h0) HY.oo;have PB:=af (atp (t:=y1));have hle:=af (ate y1);have FP:=af (an4 y1 W2 O1.oo.su (HG.oo.below E.oo));have FC:=af (fun w h=>Vh y1 w h);obtain⟨pa,hpa⟩: ∃p,nw y1=p:=⟨_,rfl⟩;rw[hpa]at FP PB hle Wj;rw[hc0]at FC;obtain⟨u,e1⟩:=pa
  dsimp only at FP PB hle Wj
  obtain⟨p0,p1,p2,p3,p4,p5,p6,p7,p8,p9,oO,oP⟩:=X1.oo.cells;have l1:=X1.oo.lt;go_wp2_with fail;refine aQ FP.oo fun w3 E3=>?_
  have E:=af (aI E.oo E3);have X1:=af (X1.oo.below E3);have O1:=af (O1.oo.below E3);rcases Wj with rfl|rfl
  ·have PU:=af (PB.oo rfl▸PW.oo u hle.oo w3 (HG.oo.below E.oo))
   go_wp2_with fail;refine PU.oo.mono ?_;rintro e w4 ⟨E4,y2,hy2,rfl,jJ⟩;have S12:=af (show we y1 y2 from aaR.2 hy2.symm);have E5:=aI E4 (al w4 (dZ y2));have X2:=af (kf.new w4 y2);have X1:=af (X1.oo.below E5);have O1:=af (O1.oo.below E5);have O2:=af (jJ.below (al w4 (dZ y2)));have E:=af (aI E.oo E5);go_upto_region 9 with(fail);generalize w4.alloc (dZ y2)=W4 at*;have C12:=af (ST.oo y1 y2 W4 O1.oo.su O2.oo.su);obtain⟨p0,p1,p2,p3,p4,p5,p6,p7,p8,p9,oO,oP⟩:=X1.oo.cells;obtain⟨q0,q1,q2,q3,q4,q5,q6,q7,q8,q9,nV,nX⟩:=X2.oo.cells;have l1:=X1.oo.lt;have l2:=X2.oo.lt;go_wp2_with fail;refine C12.oo.mono ?_;rintro e w5 ⟨bb,rfl,iP,E6⟩;obtain rfl:bb=true:=iP.2 S12.oo;have X1:=af (X1.oo.below E6);have O1:=af (O1.oo.below E6);have E:=af (aI E.oo E6);have CK:=af (FC.oo w5 O1.oo.su);obtain⟨p0,p1,p2,p3,p4,p5,p6,p7,p8,p9,oO,oP⟩:=X1.oo.cells;have l1:=X1.oo.lt;go_wp2_with fail;refine aQ CK.oo fun w6 E7=>?_
   have EE:=aI E.oo E7;have AW:=af (AW.oo _ (HG.oo.below EE));go_wp2_with fail;refine aQ AW.oo fun w7 E8=>?_
   have EE:=aI EE E8;go_wp2_with fail
   (try go_simp)
   go_ret;exact⟨rfl,EE⟩
  have AW:=af (AW.oo _ (HG.oo.below E.oo))
  go_wp2_with fail;refine aQ AW.oo fun w7 E8=>?_
  have EE:=aI E.oo E8;go_wp2_with fail
  (try go_simp)
  go_ret;exact⟨rfl,EE⟩
 have z1:(er != 0)=true:=aS h0
 have z2:(er==er)=true:=aq;have z3:((kp:Int)==(kp:Int))=true:=aq;have S10:=af (show we y1 t0 from aaR.2 (HY.oo.trans (FN.oo h0)));go_wp2_with fail;refine(PD.oo W2 (HG.oo.below E.oo)).mono ?_;rintro e w3 h;obtain⟨y3,rfl,-, E5, -⟩:=Zw.oo _ _ _ h;have E6:=aI E5 (al w3 (dZ y3));have X1:=af (X1.oo.below E6);have O1:=af (O1.oo.below E6);have E:=af (aI E.oo E6);go_upto_region 4 with(fail);generalize w3.alloc (dZ y3)=W4 at*;have C10:=af (show aA7 prog 11 #[vT y1,L0] W4 _ from ST.oo y1 t0 W4 O1.oo.su (ahB W4 0).su);obtain⟨p0,p1,p2,p3,p4,p5,p6,p7,p8,p9,oO,oP⟩:=X1.oo.cells;have l1:=X1.oo.lt;go_wp2_with fail;refine C10.oo.mono ?_;rintro e w5 ⟨bb,rfl,iP,E6⟩;obtain rfl:bb=true:=iP.2 S10.oo;have EE:=aI E.oo E6;have AW:=af (AW.oo _ (HG.oo.below EE));go_wp2_with fail;refine aQ AW.oo fun w7 E8=>?_
 have EE:=aI EE E8;go_wp2_with fail
 (try go_simp)
 go_ret;exact⟨rfl,EE⟩
end Go.Proofs.YtkbbgjloifmmbaaGreatDoor

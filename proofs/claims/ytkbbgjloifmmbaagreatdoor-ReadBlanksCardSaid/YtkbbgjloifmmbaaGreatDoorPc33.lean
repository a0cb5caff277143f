/- What ReadBlanksP leans on, part 33. -/
import Derived.Test.YtkbbgjloifmmbaaGreatDoorPc31
import Derived.Test.YtkbbgjloifmmbaaGreatDoorPc30
import Derived.Test.YtkbbgjloifmmbaaGreatDoorPc29
import Derived.Test.YtkbbgjloifmmbaaGreatDoorPc27
set_option linter.unusedVariables false
set_option maxRecDepth 100000
set_option maxHeartbeats 12800000
open _root_.Go.Proofs.Tryz
open _root_.Bool renaming and_eq_true->anS
namespace Go.Proofs.YtkbbgjloifmmbaaGreatDoor
open Go.RowKit Go.Sort
variable{k:Nat}{t:aG}{s:Tx}{w w1:World}
theorem RJ(h:dF t=0):1<=t.code.length/\t.code.length<=16/\ ∀x∈t.code,x.l.length<=256:=by
 unfold dF at h
 by_cases h1:t.code.length<1\/16<t.code.length
 ·rw[if_pos h1]at h;cases h
 rw[if_neg h1]at h
 by_cases h2:(t.code.any fun x=>decide (256<x.l.length))=true
 ·rw[if_pos h2]at h;cases h
 refine⟨by omega,by omega,fun x hx=>?_⟩
 by_cases h3:x.l.length<=256
 ·exact h3
 exact absurd (List.any_eq_true.2 ⟨x,hx,ah⟩) h2
theorem Q1(h:iV t=0):t.init.length<=1024:=by
 unfold iV at h
 by_cases h1:1024<t.init.length
 ·rw[if_pos h1]at h;cases h
 omega
theorem aij(t:aG)(ha:bF t.af=true)(w:World)(h:iT w t):Calls prog 167 #[vT t] w (aJ w (.int .i64 (dF t))):=by
 have:t.af=1\/t.af=2:=by unfold bF at ha;simpa using ha
 rcases this with h1|h1
 ·exact aik t h1 w h
 exact ail t h1 w h
theorem ZL(h:bF t.af=false):cQ t=5:=by unfold cQ;rw[if_pos h]
theorem Dw(h:bF t.af=true)(h2:(l8 t.name&&me t.bD)=false):cQ t=130:=by
 unfold cQ;rw[if_neg (by rw[h];simp),if_pos (by cases h3:l8 t.name<;>simp_all)]
theorem ZP(h:bF t.af=true)(h2:(l8 t.name&&me t.bD)=true)(h3:dF t≠0):cQ t=dF t:=by
 rw[anS]at h2;unfold cQ;rw[if_neg (by rw[h];simp),if_neg (by rw[h2.1,h2.2];simp),if_pos h3]
theorem ZO(h:bF t.af=true)(h2:(l8 t.name&&me t.bD)=true)(h3:dF t=0)(h4:iV t≠0):cQ t=iV t:=by
 rw[anS]at h2;unfold cQ;rw[if_neg (by rw[h];simp),if_neg (by rw[h2.1,h2.2];simp),if_neg (by rw[h3];simp),if_pos h4]
theorem ZM(h:bF t.af=true)(h2:(l8 t.name&&me t.bD)=true)(h3:dF t=0)(h4:iV t=0):cQ t=if lq t≠0 then lq t else if 64<(jO t).length then 2 else 0:=by
 rw[anS]at h2;unfold cQ;rw[if_neg (by rw[h];simp),if_neg (by rw[h2.1,h2.2];simp),if_neg (by rw[h3];simp),if_neg (by rw[h4];simp)];unfold lq
 by_cases h5:cV t.af t.q t.node=0
 ·rw[if_neg (c:=cV t.af t.q t.node≠0) (by simpa using h5),if_neg (c:=cV t.af t.q t.node≠0) (by simpa using h5)]
  by_cases h6:((lu t).any fun x=>decide ((t.code.length:Int)<=x.thread))=true
  ·rw[if_pos h6];simp[h6]
  rw[if_neg h6];simp[h6]
 rw[if_pos h5,if_pos h5,if_pos h5]
theorem aii(t:aG)(w:World)(h:iT w t):Calls prog 91 #[vT t] w (aJ w (.int .i64 (cQ t))):=by
 have A:=al w (cq t);have b0:=fF.new w t;have HI:=hid (h.keep A);have HA:=hid A;obtain⟨ab,hab⟩:=aj (bF t.af);have CA:=hid (show ∀w,Calls prog 164 #[.int .i64 t.af] w fun e w'=>e= .returned (.bool ab)/\w=w' from fun w=>hab▸aip t.af w);obtain⟨tb,htb⟩:=aj (l8 t.name);have CT:=hid (show ∀w,Calls prog 165 #[.string (tx t.name)] w fun e w'=>e= .returned (.bool tb)/\w=w' from fun w=>htb▸aib t.name h.name w);obtain⟨cb,hcb⟩:=aj (me t.bD);have CC:=hid (show ∀w,Calls prog 166 #[.string (tx t.bD)] w fun e w'=>e= .returned (.bool cb)/\w=w' from fun w=>hcb▸aim t.bD h.bD w);have HB:=hid hab;have HTC:=hid (show(l8 t.name&&me t.bD)=(tb&&cb) by rw[htb,hcb]);clear h A hab htb hcb;cases ab with
 | false=>
   have HZ:=hid (ZL HB.out);go_in
   go_upto_region 1 with(fail)
   generalize w.alloc (cq t)=W1 at*;obtain⟨c0,c1,c2,c3,c4,c5,c6,c7,c8,c9,c10,c11⟩:=b0.cells
   go_wp2_with (go_at_call 164;refine av (CA.out _) ?_)
   go_ret;rw[HZ.out];exact⟨rfl,HA.out⟩
 | true=>
   obtain⟨ok,hok⟩:=aj (tb&&cb);have mq:=hid (HTC.out.trans hok);cases ok with
   | false=>
     have HZ:=hid (Dw HB.out mq.out);go_in
     go_upto_region 1 with(fail)
     generalize w.alloc (cq t)=W1 at*;obtain⟨c0,c1,c2,c3,c4,c5,c6,c7,c8,c9,c10,c11⟩:=b0.cells;cases tb<;>cases cb
     all_goals(try(exfalso;simp at hok;done))
     all_goals
      clear hok
      go_wp2_with (first|(go_at_call 164;refine av (CA.out _) ?_)|(go_at_call 165;refine av (CT.out _) ?_)|(go_at_call 166;refine av (CC.out _) ?_))
      go_ret;rw[HZ.out];exact⟨rfl,HA.out⟩
   | true=>
     obtain⟨rfl,rfl⟩:tb=true/\cb=true:=by simpa using hok
     have CO:=aij t HB.out _ HI.out;obtain⟨e1,vQ⟩:=aj (dF t);rw[vQ]at CO;have CO:=hid CO;have jT:=hid vQ;clear hok vQ;go_in
     go_upto_region 1 with(fail)
     generalize w.alloc (cq t)=W1 at*;obtain⟨c0,c1,c2,c3,c4,c5,c6,c7,c8,c9,c10,c11⟩:=b0.cells
     go_wp2_with (first|(go_at_call 164;refine av (CA.out _) ?_)|(go_at_call 165;refine av (CT.out _) ?_)|(go_at_call 166;refine av (CC.out _) ?_))
     refine CO.out.mono ?_;rintro e w2 ⟨rfl,E⟩;clear c0 c1 c2 c3 c4 c5 c6 c7 c8 c9 c10 c11 CO
     by_cases h1:e1=0
     rotate_left
     ·have z:(e1 != 0)=true:=by simpa using h1
      have HZ:=hid (show cQ t=e1 by rw[ZP HB.out mq.out (by rw[jT.out];exact h1),jT.out]);clear h1;go_wp2_with fail;go_ret;rw[HZ.out];exact⟨rfl,HA.out.trans (E.mono HA.out.size)⟩
     subst h1;obtain⟨k1,k2,k3⟩:=RJ jT.out;have vk:=hid k3;obtain⟨c0,c1,c2,c3,c4,c5,c6,c7,c8,c9,c10,c11⟩:=(b0.below E).cells;have CO:=ain t HB.out (by omega) w2 (HI.out.keep E);obtain⟨e2,mG⟩:=aj (iV t);rw[mG]at CO;have CO:=hid CO;have kL:=hid mG;clear mG k3;go_wp2_with fail;refine CO.out.mono ?_;rintro e w3 ⟨rfl,E3⟩;have E:=E.trans (E3.mono E.size);clear c0 c1 c2 c3 c4 c5 c6 c7 c8 c9 c10 c11 CO E3
     by_cases h2:e2=0
     rotate_left
     ·have z:(e2 != 0)=true:=by simpa using h2
      have HZ:=hid (show cQ t=e2 by rw[ZO HB.out mq.out jT.out (by rw[kL.out];exact h2),kL.out]);clear h2;go_wp2_with fail;go_ret;rw[HZ.out];exact⟨rfl,HA.out.trans (E.mono HA.out.size)⟩
     subst h2;have k4:=Q1 kL.out;have HT:=hid (ZM HB.out mq.out jT.out kL.out);obtain⟨c0,c1,c2,c3,c4,c5,c6,c7,c8,c9,c10,c11⟩:=(b0.below E).cells;have CO:=aih t (by omega) w3 (HI.out.keep E);obtain⟨e3,vR⟩:=aj (lq t);rw[vR]at CO;have CO:=hid CO;have zY:=hid vR;clear vR;go_wp2_with fail;refine CO.out.mono ?_;rintro e w4 ⟨rfl,E4⟩;have E:=E.trans (E4.mono E.size);clear c0 c1 c2 c3 c4 c5 c6 c7 c8 c9 c10 c11 CO E4
     by_cases h3:e3=0
     rotate_left
     ·have z:(e3 != 0)=true:=by simpa using h3
      have HZ:=hid (show cQ t=e3 by rw[HT.out,zY.out,if_pos h3]);clear h3;go_wp2_with fail;go_ret;rw[HZ.out];exact⟨rfl,HA.out.trans (E.mono HA.out.size)⟩
     subst h3;obtain⟨c0,c1,c2,c3,c4,c5,c6,c7,c8,c9,c10,c11⟩:=(b0.below E).cells;have LO:=hid (air t k4 k2 vk.out w4 (HI.out.keep E));go_wp2_with fail;refine LO.out.mono ?_;rintro e w5 ⟨a5,c5',rfl,o5,E5⟩;have E:=E.trans (E5.mono E.size);have gm:=hid (show cQ t=if 64<(jO t).length then 2 else 0 by rw[HT.out,zY.out,if_neg (by omega)]);have hcap:=o5.cap.2.1;unfold Go.maxLen at hcap;have hcap2:=o5.cap.1;clear c0 c1 c2 c3 c4 c5 c6 c7 c8 c9 c10 c11 LO E5 o5
     by_cases Br:64<(jO t).length
     ·have HZ:=hid (show cQ t=2 by rw[gm.out,if_pos Br])
      go_wp2_with fail;go_ret;rw[HZ.out];exact⟨rfl,HA.out.trans (E.mono HA.out.size)⟩
     have HZ:=hid (show cQ t=0 by rw[gm.out,if_neg Br])
     go_wp2_with fail;go_ret;rw[HZ.out];exact⟨rfl,HA.out.trans (E.mono HA.out.size)⟩
theorem bW.cond(R:bW w1 w s k 0 0 t)(q:Int)(y:Nd): ∃W,((((((((w.setCell ⟨w1.heap.size,9,none⟩ (.int .i64 q)).setCell ⟨w1.heap.size,10,none⟩ (.int .i64 y.kind)).setCell ⟨w1.heap.size,11,none⟩ (.int .i64 y.th.thread)).setCell ⟨w1.heap.size,12,none⟩ (.int .i64 y.th.az)).setCell ⟨w1.heap.size,13,none⟩ (.string (tx y.th.loc))).setCell ⟨w1.heap.size,14,none⟩ (.int .i64 y.val)).setCell ⟨w1.heap.size,15,none⟩ (.slice y.a y.kids.length y.c)))=W/\bW w1 W s k 0 0 { t with q:=q,node:=y }/\St w W w1.heap.size:=by
 have R1:=R.put 9 (.int .i64 q) (k':=k) (fI:=0) (fH:=0) (t':={ t with q:=q }) rfl R.le;have R2:=R1.1.put 10 (.int .i64 y.kind) (k':=k) (fI:=0) (fH:=0) (t':={ t with q:=q,node:=.mk y.kind t.node.th t.node.val t.node.a t.node.c t.node.kids }) rfl R.le;have R3:=R2.1.put 11 (.int .i64 y.th.thread) (k':=k) (fI:=0) (fH:=0) (t':={ t with q:=q,node:=.mk y.kind ⟨y.th.thread,t.node.th.az,t.node.th.loc⟩ t.node.val t.node.a t.node.c t.node.kids }) rfl R.le;have R4:=R3.1.put 12 (.int .i64 y.th.az) (k':=k) (fI:=0) (fH:=0) (t':={ t with q:=q,node:=.mk y.kind ⟨y.th.thread,y.th.az,t.node.th.loc⟩ t.node.val t.node.a t.node.c t.node.kids }) rfl R.le;have R5:=R4.1.put 13 (.string (tx y.th.loc)) (k':=k) (fI:=0) (fH:=0) (t':={ t with q:=q,node:=.mk y.kind ⟨y.th.thread,y.th.az,y.th.loc⟩ t.node.val t.node.a t.node.c t.node.kids }) rfl R.le;have R6:=R5.1.put 14 (.int .i64 y.val) (k':=k) (fI:=0) (fH:=0) (t':={ t with q:=q,node:=.mk y.kind ⟨y.th.thread,y.th.az,y.th.loc⟩ y.val t.node.a t.node.c t.node.kids }) rfl R.le;have R7:=R6.1.put 15 (.slice y.a y.kids.length y.c) (k':=k) (fI:=0) (fH:=0) (t':={ t with q:=q,node:=y }) rfl R.le;exact⟨_,rfl,R7.1,R1.2.trans (R2.2.trans (R3.2.trans (R4.2.trans (R5.2.trans (R6.2.trans R7.2)))))⟩
def I8(p:EP (Int × Nd))(w1:World)(s:Tx)(k:Nat)(t:aG)(e:Ending)(w':World):Prop:=
 (∃x,p= .error x/\va x w1 w' s e)\/
 ∃q x y,p= .ok (q,x)/\bG y=x/\((cQ { t with q:=q,node:=y }≠0/\va (cQ { t with q:=q,node:=y },0) w1 w' s e)\/(cQ { t with q:=q,node:=y }=0/\e= .returned (.bool true)/\bW w1 w' s k 0 0 { t with q:=q,node:=y }/\fX w' (w1.heap.size+1) { t with q:=q,node:=y }))
theorem ait(R:bW w1 w s k 0 0 t)(OT:fX w (w1.heap.size+1) t):Calls prog 36 #[.pointer (some ⟨w1.heap.size,0,none⟩)] w (I8 (gL t.af s.length (s.drop k)) w1 s k t):=by
 have hl:=R.sl;have LN:=hid (Da R);have WR:=hid (fun(wx:World) (t:aG) (k:Nat) (R:bW w1 wx s k 0 0 t) n a=>yQ R n a);have HR:=hid R;have HOT:=hid OT;have hds:=Bh s k;obtain⟨u,hu⟩:=aj (ax (s.drop k));have P1:=hid (fun c h=>Sd (N:=s.length) (af:=t.af) (r:=s.drop k) (c:=c) h);have P2:=hid (fun e k2 h=>Sc (N:=s.length) (af:=t.af) (r:=s.drop k) (e:=e) (k:=k2) h);have dN:u.length<=s.length:=by rw[<-hu];have:=(kX (s.drop k)).length_le;rw[List.length_drop]at this;omega
 have NZ:=hid (fun e k2 (h:cJ t.af u= .error (e,k2))=>Xl h);have PK:=hid (fun e k2 (h:cJ t.af u= .error (e,k2))=>Xm h);have adW:=hid (show u.length<=262144 by omega);have CP:=hid (fun w=>ahQ t.af u (by omega) w);obtain⟨p0,di⟩:=aj (bJ s.length u);rw[hu,di]at hds;rw[hu]at P1 P2;generalize gL t.af s.length (s.drop k)=hp at*;obtain⟨pc,F6⟩:=aj (cJ t.af u);rw[F6]at CP NZ PK;have P1:=hid (fun c h=>P1.out c (F6.trans h));have P2:=hid (fun e k2 h=>(P2.out e k2 (F6.trans h)).trans (by rw[di]));have hpl:p0<=s.length:=by rw[<-di];exact Nat.sub_le _ _
 have sl:=GX s p0 hpl;rw[hds]at sl;have Af:=hid di;have hrb:=R.lt;clear R OT hds F6 dN
 go_in
 go_wp2_with fail;refine LN.out.mono ?_;rintro e w2 ⟨hv,E2⟩;unfold uc at hv;rw[hu]at hv
 obtain⟨v1,v2,v3,rfl⟩: ∃v1 v2 v3,e= .returned (.tuple #[.int .i64 (p0:Nat),v1,v2,v3]):=by
  rcases hv with⟨h0,h⟩|⟨nx,h0,-, -, h⟩
  ·exact⟨_,_,_,by rw[h,<-di,h0,yK]⟩
  exact⟨_,_,_,by rw[h,di]⟩
 have R2:=hid (HR.out.below E2);have OT2:=hid (HOT.out.below E2);have tj:p0<=262144:=by omega
 clear hv E2 hu LN hl di
 go_upto_region 2 with(fail)
 have pZ:=hid (fun(w':World) (E:Below w2.heap.size w2 w')=>And.intro ((R2.out.below E).bx.get 0 _ rfl) ((R2.out.below E).bx.get 4 _ rfl));have dV:=R2.out.lt;have B0:=Below.refl w2.heap.size w2
 go_cut [7,8,9] (fun s7 s8 s9 wx=> ∃(b':Nat) (q:Int) (y:Nd) (er:Int) (kp:Nat),s7= .pointer (some ⟨b',0,none⟩)/\s8= .int .i64 er/\s9= .int .i64 kp/\aA wx b' (.int .i64 q::cN y)/\Below w2.heap.size w2 wx/\w2.heap.size<=b'/\pQ pc q y er kp wx w2.heap.size)
 case first=>
  go_region_held3 (fun w'=>Below w2.heap.size w2 w'/\w'.cell? ⟨w1.heap.size,0,none⟩=some (.string (tx s))/\w'.cell? ⟨w1.heap.size,4,none⟩=some (.int .i64 t.af))
   (exact⟨aF,pZ.out _ aF⟩)
   (first
    |(go_at_call 90
      refine(CP.out _).mono ?_;rintro e w9 h;obtain⟨q,y,er,kp,rfl,E9,hc⟩:=h.one;have B9:=aB (jt (Below.refl w2.heap.size w2)) E9;obtain⟨a1,a2⟩:=pZ.out _ B9)
    |(go_at_call 90
      refine(CP.out _).mono ?_;rintro e w9 h;obtain⟨q,y,er,kp,rfl,E9,hc⟩:=h.one;have B9:=aB (jt (eZ (Below.refl w2.heap.size w2) _)) E9;obtain⟨a1,a2⟩:=pZ.out _ B9;have XN:=((aA.new w2 #[.int .i64 0,.int .i64 0,.int .i64 0,.int .i64 0,.string ⟨#[]⟩,.int .i64 0,.slice none 0 0] 30).below (below_drewN _ 1)).below E9;obtain⟨n0,n1,n2,n3,n4,n5,n6⟩:=XN.lA;have nf: ∀j,w9.frozen? ⟨w2.heap.size,j,none⟩=false:=fun j=>(E9.frozen (p:=⟨w2.heap.size,j,none⟩) (by simp)).trans (aV w2 _ _ j)
      have f0:=nf 0;have f1:=nf 1;have f2:=nf 2;have f3:=nf 3;have f4:=nf 4;have f5:=nf 5;have f6:=nf 6))
  all_goals(go_wp2_with fail;go_meet)
  ·exact⟨w9.heap.size,q,y,er,kp,rfl,rfl,rfl,aA.new _ _ _,(uJ B9.size),B9.size,hc.keep (al w9 _) (Nat.le_refl _)⟩
  exact⟨w2.heap.size,q,y,er,kp,rfl,rfl,rfl,((((((XN.set 0 (.int .i64 q)).set 1 (.int .i64 y.kind)).set 2 (.int .i64 y.th.thread)).set 3 (.int .i64 y.th.az)).set 4 (.string (tx y.th.loc))).set 5 (.int .i64 y.val)).set 6 (.slice y.a y.kids.length y.c),(uJ B9.size),Nat.le_refl _,pQ.put (b:=w2.heap.size) (by simpa using hc) cW⟩
 obtain⟨b',q,y,er,kp,rfl,rfl,rfl,XB,B5,hb',hc⟩:=hcut;have RW:=R2.out.below B5;rcases hc with hc|⟨rfl,x,hx,hy,hN,hnd⟩
 ·have HE:=hid (P2.out er kp hc)
  have hnz:=NZ.out er kp hc;have hkp:kp<=262144:=Nat.le_trans (PK.out er kp hc) adW.out;have RW:=hid RW;clear hc XB B5 B0
  by_cases mG:er=2
  ·subst mG
   go_wp2_with fail;refine(WR.out _ _ _ RW.out _ 0).mono ?_;rintro e Hs ⟨rfl,RB⟩;go_wp2_with fail;go_ret;exact .inl ⟨_,HE.out,rfl,_,_,RB⟩
  have y2:((er:Int)==2)=false:=by simpa using mG
  have y0:((er:Int) != 0)=true:=by simpa using hnz
  have HE:=hid (HE.out.trans (by rw[if_neg mG]));have W2:=hid (yQ RW.out er (p0+kp));rw[show((p0+kp:Nat):Int)=(p0:Int)+(kp:Int) by omega]at W2;go_wp2_with fail;refine W2.out.mono ?_;rintro e Hs ⟨rfl,RB⟩;go_wp2_with fail;go_ret;exact .inl ⟨_,HE.out,rfl,_,_,RB⟩
 obtain⟨W6,TS,RC,ST⟩:=RW.cond q y
 have Qo:=hid (show fX W6 (w1.heap.size+1) { t with q:=q,node:=y }from by
  have O5:=(OT2.out.below B5).kept ST.grown (fun b hb=>by simp at hb;omega);exact⟨O5.name,O5.bD,O5.sm,O5.few,O5.init,O5.y8,O5.qg,O5.code,aZ.mono (aI R2.out.lt) (aZ.st hN ST (aI R2.out.lt)),hnd⟩)
 have HX:=hid (P1.out _ hx);have rC:b'≠w1.heap.size:=by have:=R2.out.lt;omega
 obtain⟨x0,x1,x2,x3,x4,x5,x6⟩:=XB.lA;have hbx:=XB.1;obtain⟨-, -, -, -, -, -, -, -, -, q9,iN,iO,XU,XV,q14,q15⟩:=RW.bx.aa5;have f9:=RW.dG 9;have f10:=RW.dG 10;have f11:=RW.dG 11;have f12:=RW.dG 12;have f13:=RW.dG 13;have f14:=RW.dG 14;have f15:=RW.dG 15;have adP:=RW.lt;have HW6:=hid TS;have RC:=hid RC;have HY:=hid hy;clear RW XB B5 hN hnd hx TS ST B0 hy
 go_upto_region 8 with(fail)
 rw[HW6.out];clear x0 x1 x2 x3 x4 x5 x6 q9 iN iO XU XV q14 q15 f9 f10 f11 f12 f13 f14 f15 hbx adP;have adN:=RC.out.lt;obtain⟨d4,d5,d6,d7,d8,d9,d10,d11,d12,d13,d14,d15⟩:=RC.out.cells rfl;obtain⟨T,hT⟩:=aj ({ t with q:=q,node:=y }:aG);have CK:=hid (aii { t with q:=q,node:=y } W6 Qo.out.lK);obtain⟨ee,hee⟩:=aj (cQ { t with q:=q,node:=y });have vf:=hid hee;rw[hee]at CK;clear hee hT;go_wp2_with fail;refine CK.out.mono ?_;rintro e w9 ⟨rfl,E9⟩;have R9:=hid (RC.out.below E9);have O9:=hid (Qo.out.below E9);clear d4 d5 d6 d7 d8 d9 d10 d11 d12 d13 d14 d15 E9
 by_cases h0:ee=0
 ·have z0:(ee != 0)=false:=by simpa using h0
  have HZ:=hid (vf.out.trans h0);clear h0;go_wp2_with fail;exact bodyPost_ret (by simp[results,results36,go_sem]) rfl (.inr ⟨q,x,y,HX.out,HY.out,.inr ⟨HZ.out,rfl,R9.out,O9.out⟩⟩)
 have z0:(ee != 0)=true:=by simpa using h0
 have HZ:=hid (show cQ { t with q:=q,node:=y }≠0 by rw[vf.out];exact h0);clear h0;go_wp2_with fail;refine(WR.out _ _ _ R9.out _ 0).mono ?_;rintro e Hs ⟨rfl,RB⟩;go_wp2_with fail;go_ret;exact .inr ⟨q,x,y,HX.out,HY.out,.inl ⟨HZ.out,rfl,_,_,by rw[vf.out];exact RB⟩⟩
end Go.Proofs.YtkbbgjloifmmbaaGreatDoor

/- What ReadAgainP leans on, part 24. -/
import Derived.Test.YtkbbgjloifmmbaaGreatDoorPf20
import Derived.Test.YtkbbgjloifmmbaaGreatDoorPf21
set_option linter.unusedVariables false
set_option maxRecDepth 100000
set_option maxHeartbeats 12800000
open _root_.Go.Proofs.Tryz
open _root_.Go renaming Calls->aA7,World->aAX
open _root_.And renaming intro->aA6
namespace Go.Proofs.YtkbbgjloifmmbaaGreatDoor
open Go.RowKit Go.Sort
variable{s:Tx}
section
variable {w1 w:aAX} {s:Tx} {k rb:Nat} {t:aT}
theorem avy(h:w1.heap.size=rb)(R:dL w1 w s k t):aA7 prog 27 #[.pointer (some ⟨rb,0,none⟩)] w (aae (iF s.length (s.drop k)) w1 w s t):=by subst h;exact avN R
theorem avx(h:w1.heap.size=rb)(R:dL w1 w s k t)(wU:t.bG=[]):aA7 prog 28 #[.pointer (some ⟨rb,0,none⟩)] w (aac (fV s.length (s.drop k)) w1 w s t):=by subst h;exact avM R wU
theorem avz(h:w1.heap.size=rb)(R:dL w1 w s k t)(ha:bD t.ag=true)(h0:t.ia=none/\t.ic=0/\t.init=[]):aA7 prog 29 #[.pointer (some ⟨rb,0,none⟩)] w (Si (gj t.ag s.length (s.drop k)) w1 w s t):=by subst h;exact avP R ha h0
theorem avE(h:w1.heap.size=rb)(R:dL w1 w s k t)(ha:bD t.ag=true)(h0:t.ca=none/\t.cc=0/\t.code=[]):aA7 prog 30 #[.pointer (some ⟨rb,0,none⟩)] w (MC (gB t.ag s.length (s.drop k)) w1 w s t):=by subst h;exact avT R ha h0
theorem avw(h:w1.heap.size=rb)(R:dL w1 w s k t)(ha:bD t.ag=true):aA7 prog 31 #[.pointer (some ⟨rb,0,none⟩)] w (My (jX t.ag s.length (s.drop k)) w1 w s k t):=by subst h;exact avv R ha
theorem dL.cells(h:dL w1 w s k t)(hr:w1.heap.size=rb):w.cell? ⟨rb,2,none⟩=some (.int .i64 t.ag)/\w.cell? ⟨rb,3,none⟩=some (.string (tx t.name))/\w.cell? ⟨rb,4,none⟩=some (.string (tx t.bG))/\w.cell? ⟨rb,5,none⟩=some (.slice t.ia t.init.length t.ic)/\w.cell? ⟨rb,6,none⟩=some (.slice t.ca t.code.length t.cc)/\w.cell? ⟨rb,7,none⟩=some (.int .i64 t.q)/\w.cell? ⟨rb,8,none⟩=some (.int .i64 t.node.kind)/\w.cell? ⟨rb,9,none⟩=some (.int .i64 t.node.th.aO)/\w.cell? ⟨rb,10,none⟩=some (.int .i64 t.node.th.aR)/\w.cell? ⟨rb,11,none⟩=some (.string (tx t.node.th.aj))/\w.cell? ⟨rb,12,none⟩=some (.int .i64 t.node.val)/\w.cell? ⟨rb,13,none⟩=some (.slice t.node.a t.node.aP.length t.node.c):=by
 subst hr;exact⟨h.bx.get 2 _ rfl,h.bx.get 3 _ rfl,h.bx.get 4 _ rfl,h.bx.get 5 _ rfl,h.bx.get 6 _ rfl,h.bx.get 7 _ rfl,h.bx.get 8 _ rfl,h.bx.get 9 _ rfl,h.bx.get 10 _ rfl,h.bx.get 11 _ rfl,h.bx.get 12 _ rfl,h.bx.get 13 _ rfl⟩
end
theorem Zd(w:aAX):(Hs w).heap.size=w.heap.size+1+1+1:=aq
theorem ahO(h:262144<s.length):gH s= .error (2,0):=by unfold gH;rw[ak h]
theorem avC(hl:262144<s.length)(hm:s.length<=9223372036854775807)(w:aAX):aA7 prog 9 #[.string (tx s)] w (xW (gH s) w):=by
 rw[ahO hl];have hsz:(tx s).size=s.length:=bC s;generalize tx s=u at*;have z:decide ((262144:Int)<(u.size:Int))=true:=aC;have hm2:u.size<=9223372036854775807:=ah;have Kj: ∀(fn:Fn) (first cap:Array Value) (w:aAX),(Instr.makeFunc fn first cap).run prog w= .ok (.func fn first cap) w:=fun _ _ _ _=>rfl
 go_enter_defers func9,ntmps9
 go_wp2;refine⟨_,by simp[results,results9,go_sem];rfl,?_⟩;exact⟨gD,rfl⟩
theorem avD(hl:s.length<=262144)(w:aAX)(g:Gl w):aA7 prog 9 #[.string (tx s)] w (xW (gH s) w):=by
 obtain⟨Z,hZ⟩:=aF (gH s);rw[hZ];have HZ:=af hZ;clear hZ;have HL:=af hl;have H3:=af (Zd w);have RN:=af (dL.new (w:=Hs w) hl (g.below (TV w)));obtain⟨rb,hrb⟩:=aF (w.heap.size+1+1+1);rw[hrb]at H3;have HD:=af (avy H3.oo RN.oo);rw[jg]at HD;have hsz:(tx s).size=s.length:=bC s;generalize hu:tx s=u at*;have z:decide ((262144:Int)<(u.size:Int))=false:=aC;have hm2:u.size<=9223372036854775807:=ah;have zR:=af hrb;clear hsz hl g hrb RN;have Kj: ∀(fn:Fn) (first cap:Array Value) (w:aAX),(Instr.makeFunc fn first cap).run prog w= .ok (.func fn first cap) w:=fun _ _ _ _=>rfl
 go_enter_defers func9,ntmps9
 go_wp2_with fail;rw[zR.oo];subst hu;refine HD.oo.mono ?_;rintro e w4 hq;obtain⟨S,h⟩:=hq;rcases h with⟨er,k,h1,rfl⟩|⟨a,n,r1,k1,h1,sj,rfl,T4,R4⟩;have HE:=af (xm HL.oo (aa1 h1));clear h1;unfold uv
 rotate_left
 have Eb:=af (OL h1).1;have H1:=af h1;clear h1;have CY:=af (avx H3.oo R4 rfl);rw[sj]at CY;have T4:=af T4;clear S HD;go_wp2_with fail;refine CY.oo.mono ?_;rintro e w5 hq;obtain⟨S,h⟩:=hq;rcases h with⟨er,k,h2,rfl⟩|⟨c,r2,k2,h2,hr2,rfl,T5,R5⟩;have HE:=af (xm HL.oo (aa2 H1.oo h2));clear h2;unfold uv
 rotate_left
 have H2:=af h2;clear h2;have CI:=af (avz H3.oo R5 Eb.oo ⟨rfl,rfl,rfl⟩);have CI:Hid (aA7 prog _ _ w5 (Si (gj a s.length (s.drop k2)) _ _ _ _)):=CI;rw[hr2]at CI;have hs5:=R5.lt;rw[H3.oo]at hs5;have T5:=af T5;clear S CY R4 sj;go_wp2_with fail;refine CI.oo.mono ?_;rintro e w6 hq;obtain⟨S,h⟩:=hq;rcases h with⟨er,k,h3,rfl⟩|⟨i,r3,k3,ia,ic,h3,hr3,rfl,T6,R6,OI⟩;have HE:=af (xm HL.oo (aa3 H1.oo H2.oo h3));clear h3;unfold uv
 rotate_left
 have xL:=af h3;clear h3;have CT:=af (avE H3.oo R6 Eb.oo ⟨rfl,rfl,rfl⟩);have CT:Hid (aA7 prog _ _ w6 (MC (gB a s.length (s.drop k3)) _ _ _ _)):=CT;rw[hr3]at CT;have Wo:=R6.lt;rw[H3.oo]at Wo;have OI:=af OI;clear S CI R5 hr2 T6;go_wp2_with fail;refine CT.oo.mono ?_;rintro e w7 hq;unfold MC at hq;rcases hq with⟨S,er,k,h4,rfl⟩|⟨C,r4,k4,ca,cn,h4,hr4,rfl,T7,R7,OC⟩;have HE:=af (xm HL.oo (aa4 H1.oo H2.oo xL.oo h4));clear h4;unfold uv
 rotate_left
 have H4:=af h4;clear h4;have CC:=af (avw H3.oo R7 Eb.oo);have CC:Hid (aA7 prog _ _ w7 (My (jX a s.length (s.drop k4)) _ _ _ _ _)):=CC;rw[hr4]at CC;have Pc:=R7.lt;rw[H3.oo]at Pc;have OI:=af (au.st OI.oo T7 (by rw[H3.oo];omega));have OC:=af OC;clear CT R6 hr3 T7;go_wp2_with fail;refine CC.oo.mono ?_;rintro e w8 hq;unfold My at hq;rcases hq with⟨S,er,k,h5,rfl⟩|⟨q,x,y,h5,hy,rfl,T8,R8,ON,hnd⟩;have HE:=af (xm HL.oo (aa5 H1.oo H2.oo xL.oo H4.oo h5));clear h5;unfold uv
 rotate_left
 have H5:=af h5;clear h5
 have HB:=af (show n.length<=262144/\c.length<=262144/\(∀x∈i,zV x)/\i.length<=1000000/\(∀D:List Cd,D.map (·.l)=C.map (·.l)-> ∀x∈D,∀i∈x.l,xX i)/\(∀D:List Cd,D.map (·.l)=C.map (·.l)->D.length<=1000000/\ ∀x∈D,x.l.length<=1000000) by
  have hl:=HL.oo;have h1:=H1.oo;have h2:=H2.oo;have h3:=xL.oo;have h4:=H4.oo;have a1:=(OL h1).2;have a2:=ab3 h2;have a3:=afe h1;have a4:=Qu s;rw[<-a3]at a4
  have a5:r2.length<=r1.length:=by
   rcases ab4 h2 with⟨e, -⟩|e
   ·rw[e];exact aX _
   rw[e];exact Qu _
  have a6:=afN h3;have a7:=(afP h3).2.2;obtain⟨b1,b2⟩:=ajH h4;have b3:=ajK h4;refine⟨ ah,ah,afR h3,ah,fun C hC x hx=>?_,fun C hC=>⟨?_,fun x hx=>?_⟩⟩
  ·exact b3 x.l (by rw[<-hC];exact I4 hx)
  ·rw[<-hC,eT]at b1;omega
  have:=b2 x.l (by rw[<-hC];exact I4 hx);omega)
 have HP:=af (ahQ HL.oo (T9.2 ⟨a,n,r1,c,r2,i,r3,_,r4,q,x,H1.oo,H2.oo,xL.oo,H4.oo,H5.oo,rfl⟩));obtain⟨er,he⟩:=aF (cM (tW a n c i (C.map (·.l)) q x));have Mf:=af he;clear he;obtain⟨T,hT⟩:=aF (⟨a,n,c,ia,ic,i,ca,cn,C,q,y⟩:aT);have R8:dL (Hs w) w8 s k4 T:=by rw[<-hT];exact R8
 have OI:=au.st OI.oo T8 (by rw[H3.oo];omega);have OC:=OC.oo.step T8 (by rw[H3.oo];omega)
 have OT:kj w8 (w.heap.size+3) T:=by
  have hrb:=zR.oo;rw[<-hT];exact⟨HB.oo.1,HB.oo.2.1,HB.oo.2.2.1,HB.oo.2.2.2.1,au.mono OI ah,HB.oo.2.2.2.2.1 C rfl,HB.oo.2.2.2.2.2 C rfl,OC.mono ah,ON.mono ah,hnd⟩
 have yF:mG T=tW a n c i (C.map (·.l)) q x:=by rw[<-hT,<-hy];rfl
 have hE:cM T=er:=by rw[<-QT,yF];exact Mf.oo
 have CK:=af (Vh T w8 OT.su);rw[hE]at CK;have yF:=af yF;have OT:=af OT;have R8:=af R8;clear CC R7 hr4 OI OC ON hnd T8 hy hE hT;obtain⟨p2,p3,p4,p5,p6,p7,p8,p9,oO,oP,p12,p13⟩:=R8.oo.cells H3.oo;go_wp2_with fail;refine aQ CK.oo fun w9 E9=>?_
 clear p2 p3 p4 p5 p6 p7 p8 p9 oO oP p12 p13 CK;have R9:=R8.oo.below E9;obtain⟨v1,v2,v3,f1,f2,f3⟩:=akd R9.cF;have B9:=af ((TV w).trans (R9.cF.mono (by rw[Zd];omega)));have OT:=af (OT.oo.below E9);obtain⟨p2,p3,p4,p5,p6,p7,p8,p9,oO,oP,p12,p13⟩:=R9.cells H3.oo;obtain⟨q0,q1,q2,q3,q4,q5,q6,q7,q8,q9,nV,nX⟩:=v1.Am;have f10:=f1 0;have f11:=f1 1;have f12:=f1 2;have f13:=f1 3;have f14:=f1 4;have f15:=f1 5;have f16:=f1 6;have f17:=f1 7;have f18:=f1 8;have f19:=f1 9;have f1a:=f1 10;have f1b:=f1 11;have f20:=f2 0;have f30:=f3 0;have aN:rb≠w.heap.size:=by have:=zR.oo;omega
 clear E9 R9 R8 v1 f1 f2 f3
 ·by_cases h0:er=0
  ·have HZ:=HZ.oo
   rw[HP.oo,ak (by rw[Mf.oo];exact h0)]at HZ;subst HZ;have z0:(er==0)=true:=by rw[h0];rfl
   clear h0;go_wp2_with fail;refine Jh (f:=26) (args:=#[.pointer (some ⟨w.heap.size,0,none⟩),.pointer (some ⟨w.heap.size+1,0,none⟩),.pointer (some ⟨w.heap.size+1+1,0,none⟩)]) aq (by simp[go_sem]) ?_;refine(aiE ⟨w.heap.size,0,none⟩ ⟨w.heap.size+1,0,none⟩ ⟨w.heap.size+1+1,0,none⟩ _).mono ?_;rintro e u' w6 ⟨rfl,rfl,rfl⟩;refine⟨.tuple #[vT T,.int .i64 0,.int .i64 0],by simp[results,results9,go_sem,q0,q1,q2,q3,q4,q5,q6,q7,q8,q9,nV,nX,v2,v3],?_⟩;exact aof B9.oo OT.oo yF.oo rfl ((bK.refl _ _).put 0 _) ((bK.refl _ _).put 0 _) (((((((((((((bK.refl _ _).put 0 _).put 1 _).put 2 _).put 3 _).put 4 _).put 5 _).put 6 _).put 7 _).put 8 _).put 9 _).put 10 _).put 11 _)
  have HZ:=HZ.oo
  rw[HP.oo,ai (by rw[Mf.oo];exact h0),Mf.oo]at HZ;subst HZ;have z0:(er != 0)=true:=aS h0;clear h0;go_wp2_with fail;refine Jh (f:=26) (args:=#[.pointer (some ⟨w.heap.size,0,none⟩),.pointer (some ⟨w.heap.size+1,0,none⟩),.pointer (some ⟨w.heap.size+1+1,0,none⟩)]) aq (by simp[go_sem]) ?_;refine(aiE ⟨w.heap.size,0,none⟩ ⟨w.heap.size+1,0,none⟩ ⟨w.heap.size+1+1,0,none⟩ _).mono ?_;rintro e u' w6 ⟨rfl,rfl,rfl⟩;refine⟨.tuple #[L0,.int .i64 er,.int .i64 0],by simp[results,results9,go_sem,q0,q1,q2,q3,q4,q5,q6,q7,q8,q9,nV,nX,v2,v3],?_⟩;exact aoe (k:=0) B9.oo rfl ((bK.refl _ _).put 0 _) ((bK.refl _ _).put 0 _) (((((((((((((bK.refl _ _).put 0 _).put 1 _).put 2 _).put 3 _).put 4 _).put 5 _).put 6 _).put 7 _).put 8 _).put 9 _).put 10 _).put 11 _)
 all_goals
  have HZ:=HZ.oo;rw[HE.oo]at HZ;subst HZ;obtain⟨v1,v2,v3,f1,f2,f3⟩:=akd S;have B4:Below w.heap.size w _:=(TV w).trans (S.mono (by rw[Zd];omega));clear S;refine Jh (f:=26) (args:=#[.pointer (some ⟨w.heap.size,0,none⟩),.pointer (some ⟨w.heap.size+1,0,none⟩),.pointer (some ⟨w.heap.size+1+1,0,none⟩)]) aq (by simp[go_sem]) ?_;refine(av0 w.heap.size (w.heap.size+1) (w.heap.size+1+1) _ _ _ [] _ _ _ rfl v1 v2 v3 f1 (f2 0) (f3 0) ah ah ah).mono ?_;rintro e u' w9 ⟨rfl,rfl,hB,hx,hq,hr⟩;obtain⟨p0,p1,p2,p3,p4,p5,p6,p7,p8,p9,oO,oP⟩:=hx.Am;refine⟨.tuple #[L0,.int .i64 er,.int .i64 k],by simp[results,results9,go_sem,p0,p1,p2,p3,p4,p5,p6,p7,p8,p9,oO,oP,hq,hr],?_⟩;exact⟨B4.trans (hB _ (aX _) ah ah),rfl⟩
theorem La(s:Tx)(hm:s.length<=9223372036854775807)(w:aAX)(g:Gl w):aA7 prog 9 #[.string (tx s)] w (xW (gH s) w):=by
 rcases iA 262144 s.length with hl|hl
 ·exact avC hl hm w
 exact avD hl w g
theorem alh(w:aAX)(g:Gl w):aA7 prog 14 #[] w (bg w (.bool true)):=by
 have HG:=af g;obtain⟨T,hT,t1,t2,⟨c,hc,t3⟩,t4⟩:=axh;have PA:=af (fun(w:aAX) (g:Gl w)=>hT▸La QA dD w g);have PB:=af (fun(w:aAX) (g:Gl w)=>ak6▸La TD dD w g);have PC:=af (fun(w:aAX) (g:Gl w)=>alj▸La TN dD w g)
 have HB:=af (show ∀y:aT,mG y=T->y.name=[83,66]/\y.code.length=2/\(∃d,y.code[1]? =some d/\d.l.length=2)/\y.init.length=2 from fun y hy=>by
  subst hy;refine⟨t1,by simpa[mG,tW,gy]using t2,?_,t4⟩;unfold mG tW gy at hc;simp only[Cj]at hc;rw[jf]at hc;cases hd:y.code[1]? with
  |none=>rw[hd]at hc;cases hc
  | some d=>
    rw[hd]at hc;refine⟨d,rfl,?_⟩;rw[<-t3,<-fU hc];rfl)
 clear hT t1 t2 t3 t4 hc g;go_in;go_wp2_with fail;refine(PA.oo _ HG.oo).mono ?_;rintro e w1 ⟨E1,y,hy,rfl,hO⟩;obtain⟨y1,y2,⟨d,hd,y3⟩,y4⟩:=HB.oo y hy;have HY:=af (aA6 y1 (aA6 y2 (aA6 hd (aA6 y3 y4))));have HO:=af (hO.below (al w1 (dZ y))).su;have b0:=kf.new w1 y;have EA:=af (E1.trans ((al w1 (dZ y)).mono E1.size));clear hy hO E1 y1 y2 hd y3 y4 PA HB;go_wp2_with fail;refine(PB.oo _ (HG.oo.below EA.oo)).mono ?_;rintro e w2 ⟨E2,rfl⟩;have EB:=af (EA.oo.trans ((E2.trans ((al w2 oX).mono E2.size)).mono EA.oo.size));have E2:=af (E2.trans ((al w2 oX).mono E2.size));go_wp2_with fail;refine(PC.oo _ (HG.oo.below EB.oo)).mono ?_;rintro e w3 ⟨E3,rfl⟩;have E3:=E3.trans ((al w3 oX).mono E3.size);have EC:=af (aI EB.oo E3);have o8:=aI E2.oo E3;have b3:=b0.below o8;have HI:=HO.oo.keep o8;obtain⟨p0,p1,p2,p3,p4,p5,p6,p7,p8,p9,oO,oP⟩:=b3.cells;have aA:=b3.lt;obtain⟨z1,z2,z3,z4,z5⟩:=HY.oo;rw[z1]at p1;rw[z2]at p4;rw[z5]at p3;have i1:=HI.code.uH 1 (by rw[z2];decide) y.cc;rw[z2]at i1;have c1:=HI.code.cd z3;rw[z4]at c1;have zz:((tx [83,66]).toList==[83,66])=true:=by rw[bU];rfl
 generalize tx [83,66]=ux at*;clear b0 b3 HI z1 z2 z3 z4 z5 E3 o8 PB PC;have i1': ∀w',(Instr.indexAt 23 (.slice y.ca 2 y.cc) (.int .i64 1)).run prog w'= .ok (.pointer (some ⟨bk y.ca,fo y.ca+1,none⟩)) w':=i1;clear i1;go_wp2_with fail
 (try go_simp)
 go_ret;exact⟨rfl,EC.oo⟩
theorem ate(t:aT):(nw t).1.length<=262144:=by
 unfold nw;split
 ·simp
 split
 ·simp
 simp only;omega
end Go.Proofs.YtkbbgjloifmmbaaGreatDoor

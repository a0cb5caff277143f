/- What ReadBlanksP leans on, part 35. -/
import Derived.Test.YtkbbgjloifmmbaaGreatDoorPc34
set_option linter.unusedVariables false
set_option maxRecDepth 100000
set_option maxHeartbeats 12800000
open _root_.Go.Proofs.Tryz
namespace Go.Proofs.YtkbbgjloifmmbaaGreatDoor
open Go.RowKit Go.Sort
abbrev pN(w:World):World:=(w.alloc kZ).alloc kZ
section
variable {w1 w:World} {s:Tx} {k rb:Nat} {t:aG}
theorem aiy(h:w1.heap.size=rb)(R:bW w1 w s k 0 0 t):Calls prog 32 #[.pointer (some ⟨rb,0,none⟩)] w (Qu (fP s.length (s.drop k)) w1 w s t):=by subst h;exact aix R
theorem aiw(h:w1.heap.size=rb)(R:bW w1 w s k 0 0 t)(uy:t.bD=[]):Calls prog 33 #[.pointer (some ⟨rb,0,none⟩)] w (Qq (eH s.length (s.drop k)) w1 w s t):=by subst h;exact aiv R uy
theorem aiD(h:w1.heap.size=rb)(R:bW w1 w s k 0 0 t)(ha:bF t.af=true)(h0:t.ia=none/\t.ic=0/\t.init=[]):Calls prog 34 #[.pointer (some ⟨rb,0,none⟩)] w (Ja (eM t.af s.length (s.drop k)) w1 w s t):=by subst h;exact aiC R ha h0
theorem aiI(h:w1.heap.size=rb)(R:bW w1 w s k 0 0 t)(ha:bF t.af=true)(h0:t.ca=none/\t.cc=0/\t.code=[]):Calls prog 35 #[.pointer (some ⟨rb,0,none⟩)] w (Jc (eR t.af s.length (s.drop k)) w1 w s t):=by subst h;exact aiH R ha h0
theorem aiu(h:w1.heap.size=rb)(R:bW w1 w s k 0 0 t)(OT:fX w (w1.heap.size+1) t):Calls prog 36 #[.pointer (some ⟨rb,0,none⟩)] w (I8 (gL t.af s.length (s.drop k)) w1 s k t):=by subst h;exact ait R OT
end
theorem Ht{w w4:World}(S:Below (pN w).heap.size (pN w) w4):aA w4 w.heap.size Pa/\aA w4 (w.heap.size+1) Pa/\(∀j,w4.frozen? ⟨w.heap.size,j,none⟩=false):=by
 have a1:=al w kZ;have a2:=al (w.alloc kZ) kZ;have b1:=((aA.new w #[.int .i64 0,.string ⟨#[]⟩,.string ⟨#[]⟩,.slice none 0 0,.slice none 0 0,.int .i64 0,.int .i64 0,.int .i64 0,.int .i64 0,.string ⟨#[]⟩,.int .i64 0,.slice none 0 0] 32).below a2).below S;have b2:=(aA.new (w.alloc kZ) #[.int .i64 0,.string ⟨#[]⟩,.string ⟨#[]⟩,.slice none 0 0,.slice none 0 0,.int .i64 0,.int .i64 0,.int .i64 0,.int .i64 0,.string ⟨#[]⟩,.int .i64 0,.slice none 0 0] 32).below S;rw[cR]at b2;refine⟨b1,b2,fun j=>?_⟩;rw[S.frozen (p:=⟨w.heap.size,j,none⟩) qw,a2.frozen (p:=⟨w.heap.size,j,none⟩) (by simp)];exact aV w _ _ j
theorem EU(w:World):Below w.heap.size w (pN w):=bC
theorem Yh(s:Tx)(hm:s.length<=9223372036854775807)(w:World)(g:Gl w):Calls prog 10 #[.string (tx s)] w (sL (fq s) w):=by
 obtain⟨Z,hZ⟩:=aj (fq s);rw[hZ];have HZ:=hid hZ;obtain⟨n,hn⟩:=aj ((tx s).size);have hns:n=s.length:=by rw[<-hn,aM]
 have HN:=hid hns;have V0:=Ht (Below.refl (pN w).heap.size (pN w));have uG:(pN w).heap.size=w.heap.size+1+1:=by simp
 clear hZ;rcases Nat.lt_or_ge 262144 n with hl|hl
 ·have z:decide ((262144:Int)<(n:Int))=true:=ah
  obtain rfl:Z= .error (2,0):=by rw[<-HZ.out];exact Xo (aI HN.out)
  have v1:=V0.1;have v2:=V0.2.1;have f0:=V0.2.2;obtain⟨q0,q1,q2,q3,q4,q5,q6,q7,q8,q9,iN,iO⟩:=v1.uj;obtain⟨r0,r1,r2,r3,r4,r5,r6,r7,r8,r9,r10,r11⟩:=v2.uj;have B0:=hid (EU w);have bM:=v1.1;have bU:=v2.1;clear V0 HZ hns v1 v2
  go_in
  go_wp2_with fail;exact bodyPost_ret (by simp[results,results10,go_sem,q0,q1,q2,q3,q4,q5,q6,q7,q8,q9,iN,iO]) rfl ⟨by(repeat with_reducible refine Below.setCell ?_ (Nat.le_refl _) _);exact B0.out,rfl⟩
 have z:decide ((262144:Int)<(n:Int))=false:=ah
 have kC:s.length<=262144:=by omega
 have HL:=hid kC;have RN:=hid (bW.new (w:=pN w) kC (g.below (EU w)));obtain⟨rb,hrb⟩:=aj (w.heap.size+1+1);have H3:=hid (uG.trans hrb);have HD:=hid (aiy H3.out RN.out);rw[List.drop_zero]at HD;have tZ:=hid hrb;have hne:rb≠w.heap.size:=by omega
 have amS:rb≠w.heap.size+1:=by omega
 clear V0 hns RN g uG kC hrb
 go_in
 go_wp2_with fail;rw[tZ.out];refine HD.out.mono ?_;rintro e w4 hq;rcases hq with⟨x,h1,rfl,kB,tB,RB⟩|⟨a,nm,r1,k1,h1,nE,rfl,T4,R4⟩;have HE:=hid (rR HL.out (Ra h1));clear h1
 rotate_left
 have xh:=hid (FP h1).1;have H1:=hid h1;have CY:=hid (aiw H3.out R4 rfl);rw[nE]at CY;clear h1 HD nE T4;go_wp2_with fail;refine CY.out.mono ?_;rintro e w5 hq;rcases hq with⟨x,h2,rfl,kB,tB,RB⟩|⟨c,r2,k2,h2,hr2,rfl,T5,R5⟩;have HE:=hid (rR HL.out (Rb H1.out h2));clear h2
 rotate_left
 have H2:=hid h2;have CI:=hid (aiD H3.out R5 xh.out ⟨rfl,rfl,rfl⟩);have CI:Hid (Calls prog _ _ w5 (Ja (eM a s.length (s.drop k2)) _ _ _ _)):=CI;rw[hr2]at CI;have hs5:=R5.lt;rw[H3.out]at hs5;clear h2 CY R4 hr2 T5;go_wp2_with fail;refine CI.out.mono ?_;rintro e w6 hq;rcases hq with⟨x,h3,rfl,kB,tB,RB⟩|⟨i,r3,k3,ia,ic,h3,hr3,rfl,T6,R6,OI⟩;have HE:=hid (rR HL.out (Rc H1.out H2.out h3));clear h3
 rotate_left
 have sj:=hid h3;have CT:=hid (aiI H3.out R6 xh.out ⟨rfl,rfl,rfl⟩);have CT:Hid (Calls prog _ _ w6 (Jc (eR a s.length (s.drop k3)) _ _ _ _)):=CT;rw[hr3]at CT;have Ln:=R6.lt;rw[H3.out]at Ln;have OI:=hid OI;clear h3 CI R5 hr3 T6;go_wp2_with fail;refine CT.out.mono ?_;rintro e w7 hq;rcases hq with⟨x,h4,rfl,kB,tB,RB⟩|⟨C,r4,k4,ca,cn,h4,hr4,rfl,T7,R7,OC⟩;have HE:=hid (rR HL.out (Re H1.out H2.out sj.out h4));clear h4
 rotate_left
 have H4:=hid h4;have F8:=R7.lt;obtain⟨b1,b2,b3,b4,b5,b6,b7⟩:=aa3 HL.out H1.out H2.out sj.out h4;have hZ:=aZ.leaf w7 ((pN w).heap.size+1) 0 bT 0 (by decide)
 have OT:fX w7 ((pN w).heap.size+1) { t0 with af:=a,name:=nm,bD:=c,ia:=ia,ic:=ic,init:=i,ca:=ca,cc:=cn,code:=C }:=
  ⟨b1,b2,b3,b4,Own.mono (Own.st OI.out T7 (by rw[H3.out];omega)) (by rw[H3.out];omega),b5,⟨b6,b7⟩,OC.mono (by rw[H3.out];omega),hZ.1,hZ.2⟩
 have CC:=hid (aiu H3.out R7 OT);have CC:Hid (Calls prog _ _ w7 (I8 (gL a s.length (s.drop k4)) _ _ _ _)):=CC;rw[hr4]at CC;clear h4 CT R6 hr4 T7 OI OC OT hZ b1 b2 b3 b4 b5 b6 b7;go_wp2_with fail;refine CC.out.mono ?_;rintro e w8 hq;rcases hq with⟨x,h5,rfl,kB,tB,RB⟩|⟨q,x,y,h5,hy,hq⟩;have HE:=hid (rR HL.out (Rf H1.out H2.out sj.out H4.out h5));clear h5
 rotate_left
 have HP:=hid (Xp HL.out (Fa.2 ⟨a,nm,r1,c,r2,i,r3,_,r4,q,x,H1.out,H2.out,sj.out,H4.out,h5,rfl⟩));obtain⟨T,hT⟩:=aj ({ t0 with af:=a,name:=nm,bD:=c,ia:=ia,ic:=ic,init:=i,ca:=ca,cc:=cn,code:=C,q:=q,node:=y }:aG);have sY:mA T=pH a nm c i (C.map (·.l)) q x:=by rw[<-hT,<-hy];rfl
 have hE:cQ T=cQ (pH a nm c i (C.map (·.l)) q x):=by rw[<-ZN,sY]
 have hq:(cQ T≠0/\va (cQ T,0) (pN w) w8 s e)\/(cQ T=0/\e= .returned (.bool true)/\bW (pN w) w8 s k4 0 0 T/\fX w8 ((pN w).heap.size+1) T):=by rw[<-hT];exact hq
 rcases hq with⟨BM,rfl,kB,tB,RB⟩|⟨h0,rfl,R8,O8⟩;have HE:=hid (show fq s= .error (cQ T,0) by rw[HP.out,<-hE,if_neg BM]);obtain⟨x,hx⟩:=aj (cQ T,0);rw[hx]at RB HE;clear h5 hT sY hE hy hx BM
 rotate_left
 ·have mq:=hid (show Z= .ok (pH a nm c i (C.map (·.l)) q x) by rw[<-HZ.out,HP.out,<-hE,if_pos h0])
  have HBA:=hid sY;have O8:=hid O8;have v1:=(Ht R8.bu).1;have f0:=(Ht R8.bu).2.2;have B8:=hid ((EU w).trans (R8.bu.mono (by have:=tZ.out;rw[H3.out];omega)));obtain⟨d4,d5,d6,d7,d8,d9,d10,d11,d12,d13,d14,d15⟩:=R8.cells H3.out;obtain⟨q0,q1,q2,q3,q4,q5,q6,q7,q8,q9,iN,iO⟩:=v1.uj;have bM:=v1.1;have hrb:=R8.lt;rw[H3.out]at hrb;have hw8:=tZ.out;clear CC R7 h5 hy hT sY hE h0 R8 v1;go_wp2_with fail;have mq:=mq.out;subst mq;have B9:=B8.out;clear B8;exact bodyPost_ret (by simp[results,results10,go_sem,q0,q1,q2,q3,q4,q5,q6,q7,q8,q9,iN,iO]) rfl ⟨aF,T,HBA.out,rfl,(O8.out.kept (aP.grown (b:=w.heap.size) tu) (fun b hb=>by rw[H3.out];simp at hb;omega)).mono (by rw[H3.out];omega)⟩
 all_goals
  obtain⟨er,kp⟩:=x;obtain rfl:Z= .error (er,kp):=HZ.out.symm.trans HE.out;obtain⟨v1,v2,f0⟩:=Ht RB.bu;have B8:=hid ((EU w).trans (RB.bu.mono (by have:=tZ.out;rw[H3.out];omega)));obtain⟨-, -, e2,e3⟩:=RB.bx.AV;rw[H3.out]at e2 e3;have hrb:=RB.lt;rw[H3.out]at hrb;obtain⟨q0,q1,q2,q3,q4,q5,q6,q7,q8,q9,iN,iO⟩:=v1.uj;obtain⟨r0,r1,r2,r3,r4,r5,r6,r7,r8,r9,r10,r11⟩:=v2.uj;have bM:=v1.1;have bU:=v2.1;have B9:=B8.out;clear RB HZ HE v1 v2 B8
  go_upto_region 6 with(fail)
  go_big_region
  all_goals go_wp2_with fail
  all_goals exact bodyPost_ret (by simp[results,results10,go_sem,q0,q1,q2,q3,q4,q5,q6,q7,q8,q9,iN,iO]) rfl ⟨aF,rfl⟩
end Go.Proofs.YtkbbgjloifmmbaaGreatDoor

/- What ReadAgainP leans on, part 21. -/
import Derived.Test.YtkbbgjloifmmbaaGreatDoorPf18
import Derived.Test.YtkbbgjloifmmbaaGreatDoorPf19
set_option linter.unusedVariables false
set_option maxRecDepth 100000
set_option maxHeartbeats 1600000
open _root_.Go.Proofs.Tryz
namespace Go.Proofs.YtkbbgjloifmmbaaGreatDoor
open Go.RowKit Go.Sort
variable{p:Except (Int × Nat) (Int × Nd)}{ag e er q:Int}{N k:Nat}{y:Nd}{t:aT}{b r s:Tx}{w w' w1:World}
def My(p:EP (Int × Nd))(w1 w:World)(s:Tx)(k:Nat)(t:aT)(e:Ending)(w':World):Prop:=
 (Below w1.heap.size w1 w'/\ ∃er k1,p= .error (er,k1)/\e=uv er k1)\/
 ∃q x y,p= .ok (q,x)/\bO y=x/\e= .returned (.tuple #[])/\St w w' w1.heap.size/\dL w1 w' s k { t with q:=q,node:=y }/\cI w' w.heap.size y/\(jF y).Nodup
theorem axr(hb: ∀c∈b,aH c=true)(x:Tx):aM (b++x)=aM x:=pX hb
theorem Xk(l:Tx):aY (aM l)=aY l:=Xi l
theorem aqW(hb: ∀c∈b,aH c=true)(u:Tx):aY (b++u)=aY u:=by
 rw[<-Xk (b++u),axr hb,Xk]
theorem asM(h:dI ag s= .error (e,k))(hr:aY s=aY r)(hs:s.length<=262144)(hl:r.length<=262144): ∃k2,dI ag r= .error (e,k2):=by
 unfold dI at h⊢
 split at h
 ·rename_i h1
  rw[ak h1];cases h;exact⟨_,rfl⟩
 rename_i h1
 rw[ai ah]at h;rw[ai h1,ai ah];cases hc:iB ag (lex 0 s)with
 | error l=>
   rw[hc]at h;cases hd:iB ag (lex 0 r)with
   |error l2=>cases h;exact⟨_,rfl⟩
   |ok p=>rw[Ux hd hr.symm]at hc;cases hc
 | ok p=>
   rw[hc]at h;obtain⟨q,x⟩:=p;rw[Ux hc hr]
   by_cases h0:dh ag q x=0
   ·simp only[ak h0]at h;cases h
   simp only[ai h0]at h ⊢; cases h;exact⟨_,rfl⟩
theorem ahM(h:dI ag s= .error (e,k)):e≠0:=by
 unfold dI at h
 split at h
 ·cases h;decide
 split at h
 ·cases h;decide
 split at h
 ·cases h;decide
 rename_i q x _
 by_cases h0:dh ag q x=0
 ·simp only[ak h0]at h;cases h
 simp only[ai h0]at h;cases h;exact h0
theorem abM{c:Int × Nd}(h:dI ag (aM r)= .ok c):jX ag N r= .ok c:=by
 unfold jX;dsimp only;rw[h]
theorem abL(h:dI ag (aM r)= .error (e,k)):jX ag N r= .error (e,if e=2 then 0 else cE N (aM r)+k):=by
 unfold jX;dsimp only;rw[h]
theorem asP{u:Tx}{k0 k2:Nat}(ha:bD ag=true)(hb: ∀c∈b,aH c=true)(hl:b.length+u.length<=262144)(h:dI ag (b++u)= .error (e,k0))(h2:dI ag u= .error (e,k2))(he:e≠2):k0=b.length+k2:=by
 rw[asL ha hb hl,h2]at h;simp only[ai he]at h;cases h;rfl
theorem dL.cond(R:dL w1 w s k t)(q:Int)(y:Nd):dL w1 ((((((((w.setCell ⟨w1.heap.size,7,none⟩ (.int .i64 q)).setCell ⟨w1.heap.size,8,none⟩ (.int .i64 y.kind)).setCell ⟨w1.heap.size,9,none⟩ (.int .i64 y.th.aO)).setCell ⟨w1.heap.size,10,none⟩ (.int .i64 y.th.aR)).setCell ⟨w1.heap.size,11,none⟩ (.string (tx y.th.aj))).setCell ⟨w1.heap.size,12,none⟩ (.int .i64 y.val)).setCell ⟨w1.heap.size,13,none⟩ (.slice y.a y.aP.length y.c))) s k { t with q:=q,node:=y }/\St w ((((((((w.setCell ⟨w1.heap.size,7,none⟩ (.int .i64 q)).setCell ⟨w1.heap.size,8,none⟩ (.int .i64 y.kind)).setCell ⟨w1.heap.size,9,none⟩ (.int .i64 y.th.aO)).setCell ⟨w1.heap.size,10,none⟩ (.int .i64 y.th.aR)).setCell ⟨w1.heap.size,11,none⟩ (.string (tx y.th.aj))).setCell ⟨w1.heap.size,12,none⟩ (.int .i64 y.val)).setCell ⟨w1.heap.size,13,none⟩ (.slice y.a y.aP.length y.c))) w1.heap.size:=by
 have R1:=R.put 7 (.int .i64 q) (k':=k) (t':={ t with q:=q }) rfl R.le;have R2:=R1.1.put 8 (.int .i64 y.kind) (k':=k) (t':={ t with q:=q,node:=.mk y.kind t.node.th t.node.val t.node.a t.node.c t.node.aP }) rfl R.le;have R3:=R2.1.put 9 (.int .i64 y.th.aO) (k':=k) (t':={ t with q:=q,node:=.mk y.kind ⟨y.th.aO,t.node.th.aR,t.node.th.aj⟩ t.node.val t.node.a t.node.c t.node.aP }) rfl R.le;have R4:=R3.1.put 10 (.int .i64 y.th.aR) (k':=k) (t':={ t with q:=q,node:=.mk y.kind ⟨y.th.aO,y.th.aR,t.node.th.aj⟩ t.node.val t.node.a t.node.c t.node.aP }) rfl R.le;have R5:=R4.1.put 11 (.string (tx y.th.aj)) (k':=k) (t':={ t with q:=q,node:=.mk y.kind ⟨y.th.aO,y.th.aR,y.th.aj⟩ t.node.val t.node.a t.node.c t.node.aP }) rfl R.le;have R6:=R5.1.put 12 (.int .i64 y.val) (k':=k) (t':={ t with q:=q,node:=.mk y.kind ⟨y.th.aO,y.th.aR,y.th.aj⟩ y.val t.node.a t.node.c t.node.aP }) rfl R.le;have R7:=R6.1.put 13 (.slice y.a y.aP.length y.c) (k':=k) (t':={ t with q:=q,node:=y }) rfl R.le;exact⟨R7.1,R1.2.trans (R2.2.trans (R3.2.trans (R4.2.trans (R5.2.trans (R6.2.trans R7.2)))))⟩
def uh(p:Except (Int × Nat) (Int × Nd))(q:Int)(y:Nd)(er:Int)(k:Nat)(w:World)(B:Nat):Prop:=p= .error (er,k)\/(er=0/\ ∃x,p= .ok (q,x)/\bO y=x/\cI w B y/\(jF y).Nodup)
theorem pg.one{e:Ending}(h:pg p w e w'): ∃(q:Int) (y:Nd) (er:Int) (k:Nat),e= .returned (.tuple #[vC q y,.int .i64 er,.int .i64 k])/\Below w.heap.size w w'/\uh p q y er k w' w.heap.size:=by
 unfold pg at h;cases p with
 |error nk=>obtain⟨n,k⟩:=nk;exact⟨0,.mk 0 ⟨0,0,[]⟩ 0 none 0 [],n,k,h.2,h.1,.inl rfl⟩
 | ok qx=>
   obtain⟨q,x⟩:=qx;obtain⟨hb,y,hy,he,hN,hnd⟩:=h;exact⟨q,y,0,0,he,hb,.inr ⟨rfl,x,rfl,hy,hN,hnd⟩⟩
theorem uh.keep{B B':Nat}(h:uh p q y er k w B)(hb:Below w.heap.size w w')(hB:B'<=B):uh p q y er k w' B':=by
 rcases h with h|⟨h1,x,h2,h3,h4,h5⟩
 ·exact .inl h
 exact .inr ⟨h1,x,h2,h3,cI.mono hB (cI.keep hb h4),h5⟩
theorem uh.put{b:Nat}(h:uh p q y er k w (b+1))(hg:w.grownBy w' (some b)):uh p q y er k w' b:=by
 rcases h with h|⟨h1,x,h2,h3,h4,h5⟩
 ·exact .inl h
 exact .inr ⟨h1,x,h2,h3,cI.mono (B':=b) ah (cI.kept (r:=some b) hg h4 (fun c hc e=>by have:=(h4.lt c hc).1;simp at e this;omega)),h5⟩
theorem as8{e:Ending}(ha:bD ag=true)(hl:s.length<=262144)(hk:k<=s.length)(hv:xU s.length (s.drop k) e):
 ∃ (ln:Tx) (p0 bl fr:Nat) (v3:Value) (is:Bool),e= .returned (.tuple #[.string (tx ln),.int .i64 (p0:Nat),v3,.bool is])/\ln.length<=262144/\ln.length-(aM ln).length=bl/\(p0:Int)-(bl:Nat)=(fr:Nat)/\fr<=s.length/\(is=true\/(is=false/\fr=s.length))/\p0<=262144/\bl<=262144/\
   (∀c,dI ag (s.drop fr)= .ok c->jX ag s.length (s.drop k)= .ok c)/\ ∀n i,dI ag (s.drop fr)= .error (n,i)->jX ag s.length (s.drop k)= .error (n,if n=2 then 0 else fr+i):=by
 obtain⟨u,hu⟩:=aF (aM (s.drop k));have P1:=fun c h=>abM (ag:=ag) (N:=s.length) (r:=s.drop k) (c:=c) h
 have P2:=fun e k1 h=>abL (ag:=ag) (N:=s.length) (r:=s.drop k) (e:=e) (k:=k1) h
 rw[hu]at P1 P2;unfold xU at hv;rw[hu]at hv;rcases hv with⟨h0,rfl⟩|⟨b,h0,hb,h10,mM,rfl⟩
 ·subst h0
  refine⟨[],s.length,0,s.length,_,false,rfl,aq,rfl,aq,aX _,.inr ⟨rfl,rfl⟩,hl,ah,?_,?_⟩
  ·rw[wD];exact P1
  rw[wD];exact P2
 have aAQ:u.length<=s.length:=by rw[<-hu];have:=(nC (s.drop k)).length_le;have:=dG (i:=k) (l:=s);omega
 have iH:u.length<=262144:=ah;have hin:b.length+u.length<=(s.drop k).length:=mM.2;have hkl:(s.drop k).length=s.length-k:=dG;obtain⟨fr,hfr⟩:=aF (s.length-(b.length+u.length));have aAR:(s.drop fr).length=b.length+u.length:=by rw[dG];omega
 obtain⟨HV,b',Gd,iP⟩:aY (s.drop fr)=aY u/\ ∃b',s.drop fr=b'++u/\ ∀c∈b',aH c=true:=by
  have h1:s.drop k=(s.drop k).takeWhile aH++u:=by rw[<-hu];exact(kH ..).symm
  have h2:s.drop fr=(s.drop k).drop (fr-k):=by rw[gC,show k+(fr-k)=fr by omega]
  have h3:=congrArg List.length h1;rw[bu]at h3
  have h4:s.drop fr=((s.drop k).takeWhile aH).drop (fr-k)++u:=by
   rw[h2]
   conv=>lhs;rw[h1]
   rw[tg ah]
  have h5: ∀c∈((s.drop k).takeWhile aH).drop (fr-k),aH c=true:=fun c hc=>fP.1 (wA) c (SY hc)
  rw[h4];exact⟨aqW h5 u,_,rfl,h5⟩
 have hvl:(s.drop fr).length<=262144:=ah
 obtain⟨c,hc⟩: ∃c,u.head?=some c:=by
  cases u with
  |nil=>exact absurd rfl h0
  |cons c r=>exact⟨c,rfl⟩
 have hcb:aH c=false:=lQ (l:=s.drop k) (p:=aH) (by rw[show(s.drop k).dropWhile aH=u from hu];exact hc);have hlen:(b++u.takeWhile (· != 10)).length<=262144:=by have:=ud (· != 10) u;rw[bu];omega
 have pL:(b++u.takeWhile (· != 10)).length-(aM (b++u.takeWhile (· != 10))).length=b.length:=by
  have:aM (b++u.takeWhile (· != 10))=u.takeWhile (· != 10):=by
   unfold aM;rw[pX hb];cases u with
   |nil=>rfl
   | cons d r=>
     obtain rfl:d=c:=aS hc;rw[tu (p:=fun x=>x != 10) (by rw[ye];rintro rfl;revert hcb;decide),tj (by rw[hcb];decide)]
  rw[this,bu];omega
 refine⟨_,cE s.length u,b.length,fr,_,true,rfl,hlen,pL,by unfold cE;omega,ah,.inl rfl,by unfold cE;omega,ah,fun c h=>P1 c (asO h HV iH),fun n i h=>?_⟩;obtain⟨i2,h2⟩:=asM h HV hvl iH;rw[P2 n i2 h2]
 by_cases he:n=2
 ·rw[ak he,ak he]
 rw[ai he,ai he]
 have uR:=congrArg List.length Gd;rw[bu]at uR;rw[Gd]at h;rw[asP ha iP ah h h2 he];unfold cE;rw[show s.length-u.length+i2=fr+(b'.length+i2) by omega]
theorem avv(R:dL w1 w s k t)(ha:bD t.ag=true):Calls prog 31 #[.pointer (some ⟨w1.heap.size,0,none⟩)] w (My (jX t.ag s.length (s.drop k)) w1 w s k t):=by
 obtain⟨c0,c1⟩:=R.bx.qb;have hl:=R.sl;have PK:=af (Ld s w1.heap.size k R.le R.sl w c0 c1);have FL:=af (fun p er k w=>Lb p er k w);have HR:=af R;have PE:=af (fun e h=>as8 (e:=e) ha hl R.le h);have Zt:=af (fun(s:Tx) (h:s.length<=262144) w g=>amN (ag:=t.ag) (s:=s) ah w g);generalize jX t.ag s.length (s.drop k)=hp at*;obtain⟨N,hN⟩:=aF ((tx s).size);have hNs:N=s.length:=by rw[<-hN,bC]
 have VJ:N<=262144:=ah;clear c0 c1;go_in;go_wp2_with fail;refine PK.oo.mono ?_;rintro e w2 ⟨hv,E2⟩;obtain⟨ln,p0,bl,fr,v3,is,rfl,qh,pL,hF,hfN,his,aAE,az7,P1,P2⟩:=PE.oo _ hv;rw[<-hNs]at his;have aAm:fr<=262144:=ah;have LD:=af (fun w=>Lc ln ah w);rw[pL]at LD;have sl:=Qy s fr hfN;have CP:=af (fun w g=>Zt.oo (s.drop fr) (by rw[dG];omega) w g);have NZ:=af (fun e k2 (h:dI t.ag (s.drop fr)= .error (e,k2))=>ahM h);have PC:=af (fun e k2 (h:dI t.ag (s.drop fr)= .error (e,k2))=>dY (ahN h) (by rw[dG];omega:(s.drop fr).length<=262144));have P1:=af P1;have P2:=af P2;generalize dI t.ag (s.drop fr)=pc at*;generalize s.drop fr=vv at*;have E2:=af E2;clear hv PE Zt hNs qh pL hl;go_wp2_with fail;refine aQ (LD.oo _) fun w3 E3=>?_
 have RR:=HR.oo.below (aI E2.oo E3);have EE:=af (aI E2.oo E3);obtain⟨c0,-, c2⟩:=RR.bx.tI;have hrb:=RR.lt;have gl:=af (fun(w':World) (B:Below w3.heap.size w3 w')=>RR.g.below B);have Ub:=af (fun(w':World) (B:Below w3.heap.size w3 w')=>(And.intro ((B.cell (p:=⟨w1.heap.size,0,none⟩) hrb).trans c0) ((B.cell (p:=⟨w1.heap.size,2,none⟩) hrb).trans c2)));clear E3 RR;rcases his with rfl|⟨rfl,rfl⟩
 all_goals
  go_upto_region 4 with(fail);have B0:=bS w3.heap.size w3
  go_cut [7,8,9] (fun s7 s8 s9 wx=> ∃(b':Nat) (q:Int) (y:Nd) (er:Int) (kp:Nat),s7= .pointer (some ⟨b',0,none⟩)/\s8= .int .i64 er/\s9= .int .i64 kp/\aW wx b' (.int .i64 q::cN y)/\Below w3.heap.size w3 wx/\w3.heap.size<=b'/\uh pc q y er kp wx w3.heap.size)
  case first=>
   go_region_held3 (fun w'=>Below w3.heap.size w3 w'/\w'.cell? ⟨w1.heap.size,0,none⟩=some (.string (tx s))/\w'.cell? ⟨w1.heap.size,2,none⟩=some (.int .i64 t.ag))
    (exact⟨cG,Ub.oo _ cG⟩)
    (first
     |(go_at_call 82
       refine(CP.oo _ (gl.oo _ (jV (bS w3.heap.size w3)))).mono ?_;rintro e w9 h;obtain⟨q,y,er,kp,rfl,E9,hc⟩:=h.one;have B9:=aI (jV (bS w3.heap.size w3)) E9;obtain⟨a1,a2⟩:=Ub.oo _ B9)
     |(go_at_call 82
       refine(CP.oo _ (gl.oo _ (jV (gU (bS w3.heap.size w3) _)))).mono ?_;rintro e w9 h;obtain⟨q,y,er,kp,rfl,E9,hc⟩:=h.one;have B9:=aI (jV (gU (bS w3.heap.size w3) _)) E9;obtain⟨a1,a2⟩:=Ub.oo _ B9;have XN:=((aW.new w3 #[.int .i64 0,.int .i64 0,.int .i64 0,.int .i64 0,.string ⟨#[]⟩,.int .i64 0,.slice none 0 0] 30).below (below_drewN _ 1)).below E9;obtain⟨n0,n1,n2,n3,n4,n5,n6⟩:=XN.pI;have nf: ∀j,w9.frozen? ⟨w3.heap.size,j,none⟩=false:=fun j=>(E9.frozen (p:=⟨w3.heap.size,j,none⟩) aq).trans (cJ w3 _ _ j)
       have f0:=nf 0;have f1:=nf 1;have f2:=nf 2;have f3:=nf 3;have f4:=nf 4;have f5:=nf 5;have f6:=nf 6))
   all_goals(go_wp2_with fail;go_meet)
   ·exact ac3
   exact⟨w3.heap.size,q,y,er,kp,rfl,rfl,rfl,((((((XN.set 0 (.int .i64 q)).set 1 (.int .i64 y.kind)).set 2 (.int .i64 y.th.aO)).set 3 (.int .i64 y.th.aR)).set 4 (.string (tx y.th.aj))).set 5 (.int .i64 y.val)).set 6 (.slice y.a y.aP.length y.c),(Gk B9.size),aX _,uh.put (b:=w3.heap.size) (aS hc) (bK.grown (b:=w3.heap.size) Dp)⟩
  obtain⟨b',q,y,er,kp,rfl,rfl,rfl,XB,B5,hb',hc⟩:=hcut;rcases hc with hc|⟨rfl,x,hx,hy,hN,hnd⟩
  ·have HE:=af (P2.oo er kp hc)
   have hnz:=NZ.oo er kp hc;have hkp:=PC.oo er kp hc;have B5:=af B5;clear hc XB B0
   by_cases si:er=2
   ·subst si
    go_wp2_with fail;refine(FL.oo _ _ _ _).mono ?_;rintro e w8 ⟨rfl,E8⟩;have E:=af (aI B5.oo E8);clear E8;go_wp2_with fail;exact⟨rfl,.inl ⟨(HR.oo.below (aI EE.oo E.oo)).cF,_,0,(by rw[HE.oo];first|rw[ak rfl]|rw[ak trivial]),rfl⟩⟩
   have y2:((er:Int)==2)=false:=aS si
   have y0:((er:Int)==0)=false:=aS hnz;go_wp2_with fail;refine(FL.oo _ _ _ _).mono ?_;rintro e w8 ⟨rfl,E8⟩;have E:=af (aI B5.oo E8);clear E8;go_wp2_with fail;exact⟨rfl,.inl ⟨(HR.oo.below (aI EE.oo E.oo)).cF,_,_,(by rw[HE.oo,ai si]),rfl⟩⟩
  have HE:=af (P1.oo _ hx)
  have RW:=HR.oo.below (aI EE.oo B5);have RC:=RW.cond q y;obtain⟨x0,x1,x2,x3,x4,x5,x6⟩:=XB.pI;obtain⟨-, -, -, -, -, -, -, q7,q8,q9,nV,nX,q12,q13⟩:=RW.bx.alH;have f7:=RW.eK 7;have f8:=RW.eK 8;have f9:=RW.eK 9;have f10:=RW.eK 10;have f11:=RW.eK 11;have f12:=RW.eK 12;have f13:=RW.eK 13;have ST:=af ((bX (bw:=w1.heap.size) (aI EE.oo B5)).trans RC.2);have HNW:=af (cI.mono EE.oo.size (cI.st hN RC.2 hrb));have RC:=af RC.1;have HY:=af hy;have hnd:=af hnd;have tO:b'≠w1.heap.size:=ah;clear RW XB B5 hN B0 hx hy;go_wp2_with fail;exact aZ (by simp[results,results31,go_sem]) rfl (.inr ⟨q,x,y,HE.oo,HY.oo,rfl,ST.oo,RC.oo,HNW.oo,hnd.oo⟩)
end Go.Proofs.YtkbbgjloifmmbaaGreatDoor

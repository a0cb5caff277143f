/- What ReadBackP leans on, part 29. -/
import Derived.Test.YtkbbgjloifmmbaaGreatDoorRb27
import Derived.Test.YtkbbgjloifmmbaaGreatDoorRb28
set_option linter.unusedVariables false
set_option maxRecDepth 100000
set_option maxHeartbeats 1600000
namespace Go.Proofs.YtkbbgjloifmmbaaGreatDoor
open _root_.Go.Proofs.Tryz
open _root_.Go.RowKit.Below renaming refl->apb,setCell->apl
open _root_.List renaming length_append->aoE,length_cons->ans,takeWhile_prefix->apx,length_drop->aoJ,dropWhile_append_of_pos->aoD,length->aoQ,mem_cons_self->apy,mem_cons->amY,eq_of_mem_replicate->apz,length_nil->anX,dropWhile_suffix->aoI,mem_cons_of_mem->aoW,length_dropLast->apA,mem_singleton->anw,mem_append->anu
open _root_.Nat renaming le_refl->amS,zero_le->apj
open _root_.Bool renaming and_eq_true->am6
open _root_.Go.Exit renaming thenS->apk
open _root_.Array renaming replicate->apm
open Go.RowKit Go.Sort
def Dd(p:EP (Int × Nd))(w1 w:World)(s:Tx)(k:Nat)(t:ak)(e:Ending)(w':World):Prop:=
 (Below w1.heap.size w1 w'/\ ∃er k1,p= .error (er,k1)/\e=oM er k1)\/
 ∃q x y,p= .ok (q,x)/\aL y=x/\e= .returned (.tuple #[])/\St w w' w1.heap.size/\bQ w1 w' s k { t with q:=q,node:=y }/\bz w' w.heap.size y/\(gA y).Nodup
theorem ajK{b:Tx}(hb: ∀c∈b,aj c=true)(x:Tx):aq (b++x)=aq x:=aoD hb
theorem Se(l:Tx):av (aq l)=av l:=Be l
theorem ad9{b:Tx}(hb: ∀c∈b,aj c=true)(u:Tx):av (b++u)=av u:=by
 rw[<-Se (b++u),ajK hb,Se]
theorem TZ{af:Int}{s r:Tx}{e:Int}{k:Nat}(h:cM af s= .error (e,k))(hr:av s=av r)(hs:s.length<=262144)(hl:r.length<=262144): ∃k2,cM af r= .error (e,k2):=by
 unfold cM at h⊢
 split at h
 ·rename_i h1
  rw[if_pos h1];cases h;exact⟨_,rfl⟩
 ·rename_i h1
  rw[if_neg (by omega)]at h;rw[if_neg h1,if_neg (by omega)];cases hc:ep af (lex 0 s)with
  | error l=>
    rw[hc]at h;cases hd:ep af (lex 0 r)with
    |error l2=>cases h;exact⟨_,rfl⟩
    |ok p=>rw[Hp hd hr.symm]at hc;cases hc
  | ok p=>
    rw[hc]at h;obtain⟨q,x⟩:=p;rw[Hp hc hr]
    by_cases h0:bF af q x=0
    ·simp only[if_pos h0]at h;cases h
    ·simp only[if_neg h0]at h ⊢; cases h;exact⟨_,rfl⟩
theorem T3{af:Int}{s:Tx}{e:Int}{k:Nat}(h:cM af s= .error (e,k)):e≠0:=by
 unfold cM at h
 split at h
 ·cases h;decide
 ·split at h
  ·cases h;decide
  ·split at h
   ·cases h;decide
   ·rename_i q x _
    by_cases h0:bF af q x=0
    ·simp only[if_pos h0]at h;cases h
    ·simp only[if_neg h0]at h;cases h;exact h0
theorem aab{af:Int}{N:Nat}{r:Tx}{c:Int × Nd}(h:cM af (aq r)= .ok c):kK af N r= .ok c:=by
 unfold kK;dsimp only;rw[h]
theorem aaa{af:Int}{N:Nat}{r:Tx}{e:Int}{k:Nat}(h:cM af (aq r)= .error (e,k)):kK af N r= .error (e,if e=2 then 0 else bO N (aq r)+k):=by
 unfold kK;dsimp only;rw[h]
theorem afE{af:Int}{b u:Tx}{e:Int}{k0 k2:Nat}(ha:aH af=true)(hb: ∀c∈b,aj c=true)(hl:b.length+u.length<=262144)(h:cM af (b++u)= .error (e,k0))(h2:cM af u= .error (e,k2))(he:e≠2):k0=b.length+k2:=by
 rw[afD ha hb hl,h2]at h;simp only[if_neg he]at h;cases h;rfl
theorem bQ.cond{w1 w:World}{s:Tx}{k:Nat}{t:ak}(R:bQ w1 w s k t)(q:Int)(y:Nd):bQ w1 ((((((((w.setCell ⟨w1.heap.size,7,none⟩ (.int .i64 q)).setCell ⟨w1.heap.size,8,none⟩ (.int .i64 y.kind)).setCell ⟨w1.heap.size,9,none⟩ (.int .i64 y.th.thread)).setCell ⟨w1.heap.size,10,none⟩ (.int .i64 y.th.au)).setCell ⟨w1.heap.size,11,none⟩ (.string (tx y.th.loc))).setCell ⟨w1.heap.size,12,none⟩ (.int .i64 y.val)).setCell ⟨w1.heap.size,13,none⟩ (.slice y.a y.kids.length y.c))) s k { t with q:=q,node:=y }/\St w ((((((((w.setCell ⟨w1.heap.size,7,none⟩ (.int .i64 q)).setCell ⟨w1.heap.size,8,none⟩ (.int .i64 y.kind)).setCell ⟨w1.heap.size,9,none⟩ (.int .i64 y.th.thread)).setCell ⟨w1.heap.size,10,none⟩ (.int .i64 y.th.au)).setCell ⟨w1.heap.size,11,none⟩ (.string (tx y.th.loc))).setCell ⟨w1.heap.size,12,none⟩ (.int .i64 y.val)).setCell ⟨w1.heap.size,13,none⟩ (.slice y.a y.kids.length y.c))) w1.heap.size:=by
 have R1:=R.put 7 (.int .i64 q) (k':=k) (t':={ t with q:=q }) rfl R.le;have R2:=R1.1.put 8 (.int .i64 y.kind) (k':=k) (t':={ t with q:=q,node:=.mk y.kind t.node.th t.node.val t.node.a t.node.c t.node.kids }) rfl R.le;have R3:=R2.1.put 9 (.int .i64 y.th.thread) (k':=k) (t':={ t with q:=q,node:=.mk y.kind ⟨y.th.thread,t.node.th.au,t.node.th.loc⟩ t.node.val t.node.a t.node.c t.node.kids }) rfl R.le;have R4:=R3.1.put 10 (.int .i64 y.th.au) (k':=k) (t':={ t with q:=q,node:=.mk y.kind ⟨y.th.thread,y.th.au,t.node.th.loc⟩ t.node.val t.node.a t.node.c t.node.kids }) rfl R.le;have R5:=R4.1.put 11 (.string (tx y.th.loc)) (k':=k) (t':={ t with q:=q,node:=.mk y.kind ⟨y.th.thread,y.th.au,y.th.loc⟩ t.node.val t.node.a t.node.c t.node.kids }) rfl R.le;have R6:=R5.1.put 12 (.int .i64 y.val) (k':=k) (t':={ t with q:=q,node:=.mk y.kind ⟨y.th.thread,y.th.au,y.th.loc⟩ y.val t.node.a t.node.c t.node.kids }) rfl R.le;have R7:=R6.1.put 13 (.slice y.a y.kids.length y.c) (k':=k) (t':={ t with q:=q,node:=y }) rfl R.le;exact⟨R7.1,R1.2.trans (R2.2.trans (R3.2.trans (R4.2.trans (R5.2.trans (R6.2.trans R7.2)))))⟩
theorem ahO{w1 w:World}{s:Tx}{k:Nat}{t:ak}(R:bQ w1 w s k t)(ha:aH t.af=true):Calls prog 31 #[.pointer (some ⟨w1.heap.size,0,none⟩)] w (Dd (kK t.af s.length (s.drop k)) w1 w s k t):=by
 have c0:=R.bx.get 0 _ rfl;have c1:=R.bx.get 1 _ rfl;have hl:=R.sl;have PK:=hid (By s w1.heap.size k R.le R.sl w c0 c1);have FL:=hid (fun p er k w=>Bx p er k w);have HR:=hid R;have L0:=hid (fun(s:Tx) (h:s.length<=262144) w g=>aac (af:=t.af) (s:=s) (by omega) w g);obtain⟨u,hu⟩: ∃u,aq (s.drop k)=u:=⟨_,rfl⟩;have P1:=hid (fun c h=>aab (af:=t.af) (N:=s.length) (r:=s.drop k) (c:=c) h);have P2:=hid (fun e k1 h=>aaa (af:=t.af) (N:=s.length) (r:=s.drop k) (e:=e) (k:=k1) h);rw[hu]at P1 P2;generalize kK t.af s.length (s.drop k)=hp at*;obtain⟨N,hN⟩: ∃N,(tx s).size=N:=⟨_,rfl⟩;have hNs:N=s.length:=by rw[<-hN,aP]
 have oC:=hid hNs;have Iw:N<=262144:=by omega
 have key: ∃(v:Tx) (fr:Nat),True:=⟨[],0,trivial⟩;clear c0 c1 key;go_in;go_wp2_with fail;refine PK.out.mono ?_;rintro e w2 ⟨hv,E2⟩;unfold sU at hv;rw[hu]at hv;rcases hv with⟨h0,rfl⟩|⟨b,h0,hb,h10,kM,rfl⟩
 ·have LD:=hid (fun w=>yM [] (by simp) w)
  subst h0;have sl:=Fi s N (by omega);rw[hNs,List.drop_length]at sl;have E2:=hid E2;clear hu;go_wp2_with fail;refine(LD.out _).mono ?_;rintro e w3 ⟨rfl,E3⟩;have RR:=HR.out.below (ay E2.out E3);have EE:=hid (ay E2.out E3);have c0:=RR.bx.get 0 _ rfl;have hrb:=RR.lt;clear E3
  go_upto_region 4 with(fail)
  have ez:([]:Tx).length<=262144:=by simp
  have HV:av ([]:Tx)=av ([]:Tx):=rfl;have hfl:s.length+([]:Tx).length<=s.length:=by simp
  have hvl:([]:Tx).length<=262144:=by simp
  have KP:=hid (show ∀e k0 k2,cM t.af ([]:Tx)= .error (e,k0)->cM t.af ([]:Tx)= .error (e,k2)->e≠2->bO s.length ([]:Tx)+k2=s.length+k0 from fun e k0 k2 h h2 _=>by rw[h]at h2;cases h2;rfl);have CP:=hid (fun w g=>L0.out ([]:Tx) hvl w g);have c2:=RR.bx.get 2 _ rfl;have gl:=hid (fun(w':World) (B:Below w3.heap.size w3 w')=>RR.g.below B);have mR:=hid (fun(w':World) (B:Below w3.heap.size w3 w')=>(And.intro ((B.cell (p:=⟨w1.heap.size,0,none⟩) hrb).trans c0) ((B.cell (p:=⟨w1.heap.size,2,none⟩) hrb).trans c2)));cases hc:cM t.af ([]:Tx)with
  | error ek=>
    obtain⟨e0,k0⟩:=ek;obtain⟨Bb,h2⟩:=TZ hc HV hvl ez;have HE:=hid (P2.out e0 Bb h2);have HK:=hid (KP.out e0 k0 Bb hc h2);have hk0:=T9 hc;have hnz:=T3 hc;rw[hc]at CP;clear hc h2 c0 c2;have B0:=apb w3.heap.size w3
    go_region_held3 (fun w'=>Below w3.heap.size w3 w'/\w'.cell? ⟨w1.heap.size,0,none⟩=some (.string (tx s))/\w'.cell? ⟨w1.heap.size,2,none⟩=some (.int .i64 t.af))
     (refine⟨?_,mR.out _ ?_⟩<;>(repeat(first|with_reducible assumption|with_reducible exact apb _ _|with_reducible refine dD ?_ _|with_reducible refine dc ?_|(with_reducible refine iM ?_ (by dsimp only;omega) _))))
     (first
      |(go_at_call 82
        refine(CP.out _ (gl.out _ (dc (apb w3.heap.size w3)))).mono ?_;rintro e w' ⟨E4,rfl⟩;have B4:=ay (dc (apb w3.heap.size w3)) E4;obtain⟨a1,a2⟩:=mR.out _ B4)
      |(go_at_call 82
        refine(CP.out _ (gl.out _ (dc (dD (apb w3.heap.size w3) _)))).mono ?_;rintro e w' ⟨E4,rfl⟩;have B4:=ay (dc (dD (apb w3.heap.size w3) _)) E4;obtain⟨a1,a2⟩:=mR.out _ B4;have XN:=((aG.new w3 #[.int .i64 0,.int .i64 0,.int .i64 0,.int .i64 0,.string ⟨#[]⟩,.int .i64 0,.slice none 0 0] 30).below (below_drewN _ 1)).below E4;have n0:=XN.get 0 _ rfl;have n1:=XN.get 1 _ rfl;have n2:=XN.get 2 _ rfl;have n3:=XN.get 3 _ rfl;have n4:=XN.get 4 _ rfl;have n5:=XN.get 5 _ rfl;have n6:=XN.get 6 _ rfl;have nf: ∀j,w'.frozen? ⟨w3.heap.size,j,none⟩=false:=fun j=>(E4.frozen (p:=⟨w3.heap.size,j,none⟩) (by simp)).trans (ew w3 _ _ j)
        have f0:=nf 0;have f1:=nf 1;have f2:=nf 2;have f3:=nf 3;have f4:=nf 4;have f5:=nf 5;have f6:=nf 6))
    all_goals
     by_cases kj:e0=2
     ·subst kj
      go_wp2_with fail;refine(FL.out _ _ _ _).mono ?_;rintro e w8 ⟨rfl,E8⟩;have E:=hid (ay (a:=w3) (by repeat(first|with_reducible assumption|with_reducible exact apb _ _|with_reducible refine dD ?_ _|with_reducible refine dc ?_|(with_reducible refine iM ?_ (by first|exact amS _|exact B4.size) _))) E8);clear E8;go_wp2_with fail;exact⟨rfl,.inl ⟨(HR.out.below (ay EE.out E.out)).bG,_,0,(by rw[HE.out];first|rw[if_pos rfl]|rw[if_pos trivial]),rfl⟩⟩
     ·have y2:((e0:Int)==2)=false:=by simpa using kj
      have y0:((e0:Int)==0)=false:=by simpa using hnz
      go_wp2_with fail;refine(FL.out _ _ _ _).mono ?_;rintro e w8 ⟨rfl,E8⟩;have E:=hid (ay (a:=w3) (by repeat(first|with_reducible assumption|with_reducible exact apb _ _|with_reducible refine dD ?_ _|with_reducible refine dc ?_|(with_reducible refine iM ?_ (by first|exact amS _|exact B4.size) _))) E8);clear E8;go_wp2_with fail;exact⟨rfl,.inl ⟨(HR.out.below (ay EE.out E.out)).bG,_,s.length+k0,(by rw[HE.out,if_neg kj,HK.out kj]),rfl⟩⟩
  | ok c=>
    obtain⟨qq,xx⟩:=c;have h2:=Ua hc HV ez;have HE:=hid (P1.out _ h2);rw[hc]at CP;clear hc h2 c0 c2;have B0:=apb w3.heap.size w3
    go_cut [7,8,9] (fun s7 s8 s9 wx=> ∃(b':Nat) (y:Nd),s7= .pointer (some ⟨b',0,none⟩)/\s8= .int .i64 0/\s9= .int .i64 0/\aL y=xx/\aG wx b' (.int .i64 qq::cN y)/\Below w3.heap.size w3 wx/\w3.heap.size<=b'/\bz wx w3.heap.size y/\(gA y).Nodup)
    case first=>
     go_region_held3 (fun w'=>Below w3.heap.size w3 w'/\w'.cell? ⟨w1.heap.size,0,none⟩=some (.string (tx s))/\w'.cell? ⟨w1.heap.size,2,none⟩=some (.int .i64 t.af))
      (refine⟨?_,mR.out _ ?_⟩<;>(repeat(first|with_reducible assumption|with_reducible exact apb _ _|with_reducible refine dD ?_ _|with_reducible refine dc ?_|(with_reducible refine iM ?_ (by dsimp only;omega) _))))
      (first
       |(go_at_call 82
         refine(CP.out _ (gl.out _ (dc (apb w3.heap.size w3)))).mono ?_;rintro e w' ⟨E4,y,hy,rfl,hN,hnd⟩;have B4:=ay (dc (apb w3.heap.size w3)) E4;obtain⟨a1,a2⟩:=mR.out _ B4)
       |(go_at_call 82
         refine(CP.out _ (gl.out _ (dc (dD (apb w3.heap.size w3) _)))).mono ?_;rintro e w' ⟨E4,y,hy,rfl,hN,hnd⟩;have B4:=ay (dc (dD (apb w3.heap.size w3) _)) E4;obtain⟨a1,a2⟩:=mR.out _ B4;have XN:=((aG.new w3 #[.int .i64 0,.int .i64 0,.int .i64 0,.int .i64 0,.string ⟨#[]⟩,.int .i64 0,.slice none 0 0] 30).below (below_drewN _ 1)).below E4;have n0:=XN.get 0 _ rfl;have n1:=XN.get 1 _ rfl;have n2:=XN.get 2 _ rfl;have n3:=XN.get 3 _ rfl;have n4:=XN.get 4 _ rfl;have n5:=XN.get 5 _ rfl;have n6:=XN.get 6 _ rfl;have nf: ∀j,w'.frozen? ⟨w3.heap.size,j,none⟩=false:=fun j=>(E4.frozen (p:=⟨w3.heap.size,j,none⟩) (by simp)).trans (ew w3 _ _ j)
         have f0:=nf 0;have f1:=nf 1;have f2:=nf 2;have f3:=nf 3;have f4:=nf 4;have f5:=nf 5;have f6:=nf 6))
     all_goals
      go_wp2_with fail
      go_meet
     ·exact⟨w'.heap.size,y,rfl,rfl,rfl,hy,aG.new _ _ _,(by repeat(first|with_reducible assumption|with_reducible exact apb _ _|with_reducible refine dD ?_ _|with_reducible refine dc ?_|(with_reducible refine iM ?_ (by first|exact amS _|exact B4.size) _))),B4.size,bz.mono (amS w3.heap.size) (bz.keep (al w' _) hN),hnd⟩
     ·refine⟨w3.heap.size,y,rfl,rfl,rfl,hy,((((((XN.set 0 (.int .i64 qq)).set 1 (.int .i64 y.kind)).set 2 (.int .i64 y.th.thread)).set 3 (.int .i64 y.th.au)).set 4 (.string (tx y.th.loc))).set 5 (.int .i64 y.val)).set 6 (.slice y.a y.kids.length y.c),(by repeat(first|with_reducible assumption|with_reducible exact apb _ _|with_reducible refine dD ?_ _|with_reducible refine dc ?_|(with_reducible refine iM ?_ (by first|exact amS _|exact B4.size) _))),amS _,bz.mono (B':=w3.heap.size) (by simp) (bz.kept (r:=some w3.heap.size) (aM.grown (b:=w3.heap.size) (by(repeat with_reducible refine aM.put ?_ _ _);exact aM.refl _ _)) hN (fun b hb e=>by have:=(hN.lt b hb).1;simp at e this;omega)),hnd⟩
    case rest=>
     obtain⟨b',y,rfl,rfl,rfl,hy,XB,B5,hb',hN,hnd⟩:=hcut;have RW:=HR.out.below (ay EE.out B5);have RC:=RW.cond qq y;have x0:=XB.get 0 _ rfl;have x1:=XB.get 1 _ rfl;have x2:=XB.get 2 _ rfl;have x3:=XB.get 3 _ rfl;have x4:=XB.get 4 _ rfl;have x5:=XB.get 5 _ rfl;have x6:=XB.get 6 _ rfl;have q7:=RW.bx.get 7 _ rfl;have q8:=RW.bx.get 8 _ rfl;have q9:=RW.bx.get 9 _ rfl;have oa:=RW.bx.get 10 _ rfl;have od:=RW.bx.get 11 _ rfl;have q12:=RW.bx.get 12 _ rfl;have q13:=RW.bx.get 13 _ rfl;have f7:=RW.gh 7;have f8:=RW.gh 8;have f9:=RW.gh 9;have f10:=RW.gh 10;have f11:=RW.gh 11;have f12:=RW.gh 12;have f13:=RW.gh 13;have ST:=hid ((aX (bw:=w1.heap.size) (ay EE.out B5)).trans RC.2);have Gf:=hid (bz.mono EE.out.size (bz.st hN RC.2 hrb));have RC:=hid RC.1;have hnd:=hid hnd;have nR:b'≠w1.heap.size:=by omega
     clear RW XB B5 hN B0;go_wp2_with fail;exact bodyPost_ret (by simp[results,results31,go_sem]) rfl (.inr ⟨qq,xx,y,HE.out,hy,rfl,ST.out,RC.out,Gf.out,hnd.out⟩)
 ·have amu:u.length<=s.length:=by rw[<-hu];have:=(pJ (s.drop k)).length_le;have:=aoJ (i:=k) (l:=s);omega
  have ez:u.length<=262144:=by omega
  have hin:b.length+u.length<=(s.drop k).length:=kM.2;have hkl:(s.drop k).length=s.length-k:=aoJ;have acp:=HR.out.le;obtain⟨fr,hfr⟩: ∃fr,s.length-(b.length+u.length)=fr:=⟨_,rfl⟩;have acf:fr+(b.length+u.length)=s.length:=by omega
  obtain⟨vv,Ec⟩: ∃vv,s.drop fr=vv:=⟨_,rfl⟩;have acM:vv.length=b.length+u.length:=by rw[<-Ec,aoJ];omega
  have XO:av vv=av u/\ ∃b',vv=b'++u/\ ∀c∈b',aj c=true:=by
   have h1:s.drop k=(s.drop k).takeWhile aj++u:=by rw[<-hu];exact(List.takeWhile_append_dropWhile ..).symm
   have h2:vv=(s.drop k).drop (fr-k):=by rw[List.drop_drop,show k+(fr-k)=fr by omega,Ec]
   have h3:((s.drop k).takeWhile aj).length+u.length=(s.drop k).length:=by
    have:=congrArg aoQ h1;rw[aoE]at this;omega
   have h4:vv=((s.drop k).takeWhile aj).drop (fr-k)++u:=by
    rw[h2]
    conv=>lhs;rw[h1]
    rw[List.drop_append_of_le_length (by omega)]
   have h5: ∀c∈((s.drop k).takeWhile aj).drop (fr-k),aj c=true:=fun c hc=>List.all_eq_true.1 (List.all_takeWhile) c (List.mem_of_mem_drop hc)
   rw[h4];exact⟨ad9 h5 u,_,rfl,h5⟩
  obtain⟨HV,b',tR,eJ⟩:=XO;have hvl:vv.length<=262144:=by omega
  have hfl:fr+vv.length<=s.length:=by omega
  have KP:=hid (show ∀e k0 k2,cM t.af vv= .error (e,k0)->cM t.af u= .error (e,k2)->e≠2->bO s.length u+k2=fr+k0 from fun e k0 k2 h h2 he=>by
   have jt:=congrArg aoQ tR;rw[aoE]at jt;rw[tR]at h;rw[afE ha eJ (by omega) h h2 he];unfold bO;omega)
  obtain⟨c,hc⟩: ∃c,u.head?=some c:=by
   cases u with
   |nil=>exact absurd rfl h0
   |cons c r=>exact⟨c,rfl⟩
  have hcb:aj c=false:=js (l:=s.drop k) (p:=aj) (by rw[show(s.drop k).dropWhile aj=u from hu];exact hc);have hlen:(b++u.takeWhile (· != 10)).length<=262144:=by have:=oq (· != 10) u;rw[aoE];omega
  have mz:((b++u.takeWhile (· != 10)).length-(aq (b++u.takeWhile (· != 10))).length:Nat)=b.length:=by
   have:aq (b++u.takeWhile (· != 10))=u.takeWhile (· != 10):=by
    unfold aq;rw[aoD hb];cases u with
    |nil=>rfl
    | cons d r=>
      obtain rfl:d=c:=by simpa using hc
      rw[List.takeWhile_cons_of_pos (p:=fun x=>x != 10) (by rw[bne_iff_ne];rintro rfl;revert hcb;decide),List.dropWhile_cons_of_neg (by rw[hcb];decide)]
   rw[this,aoE];omega
  have LD:=hid (fun w=>yM (b++u.takeWhile (· != 10)) (by omega) w);rw[mz]at LD;obtain⟨p0,gU⟩: ∃p0,bO s.length u=p0:=⟨_,rfl⟩;have hF:(p0:Int)-(b.length:Nat)=(fr:Nat):=by rw[<-gU];unfold bO;omega
  have hfN:fr<=s.length:=by omega
  have sl:=Fi s fr hfN;rw[Ec]at sl;rw[gU];generalize b++u.takeWhile (· != 10)=ln at*;obtain⟨bl,AH⟩: ∃bl,b.length=bl:=⟨_,rfl⟩;rw[AH]at hF LD;have amn:p0<=262144:=by rw[<-gU];unfold bO;omega
  have al0:bl<=262144:=by omega
  have al8:fr<=262144:=by omega
  have E2:=hid E2;have HV:=hid HV;clear hu hin hkl acp hfr acf Ec acM hc hcb hlen mz gU AH kM hb h10 h0 tR eJ;go_wp2_with fail;refine(LD.out _).mono ?_;rintro e w3 ⟨rfl,E3⟩;have RR:=HR.out.below (ay E2.out E3);have EE:=hid (ay E2.out E3);have c0:=RR.bx.get 0 _ rfl;have hrb:=RR.lt;have HV:=HV.out;clear E3
  go_upto_region 4 with(fail)
  have CP:=hid (fun w g=>L0.out vv hvl w g);have c2:=RR.bx.get 2 _ rfl;have gl:=hid (fun(w':World) (B:Below w3.heap.size w3 w')=>RR.g.below B);have mR:=hid (fun(w':World) (B:Below w3.heap.size w3 w')=>(And.intro ((B.cell (p:=⟨w1.heap.size,0,none⟩) hrb).trans c0) ((B.cell (p:=⟨w1.heap.size,2,none⟩) hrb).trans c2)));cases hc:cM t.af vv with
  | error ek=>
    obtain⟨e0,k0⟩:=ek;obtain⟨Bb,h2⟩:=TZ hc HV hvl ez;have HE:=hid (P2.out e0 Bb h2);have HK:=hid (KP.out e0 k0 Bb hc h2);have hk0:=T9 hc;have hnz:=T3 hc;rw[hc]at CP;clear hc h2 c0 c2;have B0:=apb w3.heap.size w3
    go_region_held3 (fun w'=>Below w3.heap.size w3 w'/\w'.cell? ⟨w1.heap.size,0,none⟩=some (.string (tx s))/\w'.cell? ⟨w1.heap.size,2,none⟩=some (.int .i64 t.af))
     (refine⟨?_,mR.out _ ?_⟩<;>(repeat(first|with_reducible assumption|with_reducible exact apb _ _|with_reducible refine dD ?_ _|with_reducible refine dc ?_|(with_reducible refine iM ?_ (by dsimp only;omega) _))))
     (first
      |(go_at_call 82
        refine(CP.out _ (gl.out _ (dc (apb w3.heap.size w3)))).mono ?_;rintro e w' ⟨E4,rfl⟩;have B4:=ay (dc (apb w3.heap.size w3)) E4;obtain⟨a1,a2⟩:=mR.out _ B4)
      |(go_at_call 82
        refine(CP.out _ (gl.out _ (dc (dD (apb w3.heap.size w3) _)))).mono ?_;rintro e w' ⟨E4,rfl⟩;have B4:=ay (dc (dD (apb w3.heap.size w3) _)) E4;obtain⟨a1,a2⟩:=mR.out _ B4;have XN:=((aG.new w3 #[.int .i64 0,.int .i64 0,.int .i64 0,.int .i64 0,.string ⟨#[]⟩,.int .i64 0,.slice none 0 0] 30).below (below_drewN _ 1)).below E4;have n0:=XN.get 0 _ rfl;have n1:=XN.get 1 _ rfl;have n2:=XN.get 2 _ rfl;have n3:=XN.get 3 _ rfl;have n4:=XN.get 4 _ rfl;have n5:=XN.get 5 _ rfl;have n6:=XN.get 6 _ rfl;have nf: ∀j,w'.frozen? ⟨w3.heap.size,j,none⟩=false:=fun j=>(E4.frozen (p:=⟨w3.heap.size,j,none⟩) (by simp)).trans (ew w3 _ _ j)
        have f0:=nf 0;have f1:=nf 1;have f2:=nf 2;have f3:=nf 3;have f4:=nf 4;have f5:=nf 5;have f6:=nf 6))
    all_goals
     by_cases kj:e0=2
     ·subst kj
      go_wp2_with fail;refine(FL.out _ _ _ _).mono ?_;rintro e w8 ⟨rfl,E8⟩;have E:=hid (ay (a:=w3) (by repeat(first|with_reducible assumption|with_reducible exact apb _ _|with_reducible refine dD ?_ _|with_reducible refine dc ?_|(with_reducible refine iM ?_ (by first|exact amS _|exact B4.size) _))) E8);clear E8;go_wp2_with fail;exact⟨rfl,.inl ⟨(HR.out.below (ay EE.out E.out)).bG,_,0,(by rw[HE.out];first|rw[if_pos rfl]|rw[if_pos trivial]),rfl⟩⟩
     ·have y2:((e0:Int)==2)=false:=by simpa using kj
      have y0:((e0:Int)==0)=false:=by simpa using hnz
      go_wp2_with fail;refine(FL.out _ _ _ _).mono ?_;rintro e w8 ⟨rfl,E8⟩;have E:=hid (ay (a:=w3) (by repeat(first|with_reducible assumption|with_reducible exact apb _ _|with_reducible refine dD ?_ _|with_reducible refine dc ?_|(with_reducible refine iM ?_ (by first|exact amS _|exact B4.size) _))) E8);clear E8;go_wp2_with fail;exact⟨rfl,.inl ⟨(HR.out.below (ay EE.out E.out)).bG,_,fr+k0,(by rw[HE.out,if_neg kj,HK.out kj]),rfl⟩⟩
  | ok c=>
    obtain⟨qq,xx⟩:=c;have h2:=Ua hc HV ez;have HE:=hid (P1.out _ h2);rw[hc]at CP;clear hc h2 c0 c2;have B0:=apb w3.heap.size w3
    go_cut [7,8,9] (fun s7 s8 s9 wx=> ∃(b':Nat) (y:Nd),s7= .pointer (some ⟨b',0,none⟩)/\s8= .int .i64 0/\s9= .int .i64 0/\aL y=xx/\aG wx b' (.int .i64 qq::cN y)/\Below w3.heap.size w3 wx/\w3.heap.size<=b'/\bz wx w3.heap.size y/\(gA y).Nodup)
    case first=>
     go_region_held3 (fun w'=>Below w3.heap.size w3 w'/\w'.cell? ⟨w1.heap.size,0,none⟩=some (.string (tx s))/\w'.cell? ⟨w1.heap.size,2,none⟩=some (.int .i64 t.af))
      (refine⟨?_,mR.out _ ?_⟩<;>(repeat(first|with_reducible assumption|with_reducible exact apb _ _|with_reducible refine dD ?_ _|with_reducible refine dc ?_|(with_reducible refine iM ?_ (by dsimp only;omega) _))))
      (first
       |(go_at_call 82
         refine(CP.out _ (gl.out _ (dc (apb w3.heap.size w3)))).mono ?_;rintro e w' ⟨E4,y,hy,rfl,hN,hnd⟩;have B4:=ay (dc (apb w3.heap.size w3)) E4;obtain⟨a1,a2⟩:=mR.out _ B4)
       |(go_at_call 82
         refine(CP.out _ (gl.out _ (dc (dD (apb w3.heap.size w3) _)))).mono ?_;rintro e w' ⟨E4,y,hy,rfl,hN,hnd⟩;have B4:=ay (dc (dD (apb w3.heap.size w3) _)) E4;obtain⟨a1,a2⟩:=mR.out _ B4;have XN:=((aG.new w3 #[.int .i64 0,.int .i64 0,.int .i64 0,.int .i64 0,.string ⟨#[]⟩,.int .i64 0,.slice none 0 0] 30).below (below_drewN _ 1)).below E4;have n0:=XN.get 0 _ rfl;have n1:=XN.get 1 _ rfl;have n2:=XN.get 2 _ rfl;have n3:=XN.get 3 _ rfl;have n4:=XN.get 4 _ rfl;have n5:=XN.get 5 _ rfl;have n6:=XN.get 6 _ rfl;have nf: ∀j,w'.frozen? ⟨w3.heap.size,j,none⟩=false:=fun j=>(E4.frozen (p:=⟨w3.heap.size,j,none⟩) (by simp)).trans (ew w3 _ _ j)
         have f0:=nf 0;have f1:=nf 1;have f2:=nf 2;have f3:=nf 3;have f4:=nf 4;have f5:=nf 5;have f6:=nf 6))
     all_goals
      go_wp2_with fail
      go_meet
     ·exact⟨w'.heap.size,y,rfl,rfl,rfl,hy,aG.new _ _ _,(by repeat(first|with_reducible assumption|with_reducible exact apb _ _|with_reducible refine dD ?_ _|with_reducible refine dc ?_|(with_reducible refine iM ?_ (by first|exact amS _|exact B4.size) _))),B4.size,bz.mono (amS w3.heap.size) (bz.keep (al w' _) hN),hnd⟩
     ·refine⟨w3.heap.size,y,rfl,rfl,rfl,hy,((((((XN.set 0 (.int .i64 qq)).set 1 (.int .i64 y.kind)).set 2 (.int .i64 y.th.thread)).set 3 (.int .i64 y.th.au)).set 4 (.string (tx y.th.loc))).set 5 (.int .i64 y.val)).set 6 (.slice y.a y.kids.length y.c),(by repeat(first|with_reducible assumption|with_reducible exact apb _ _|with_reducible refine dD ?_ _|with_reducible refine dc ?_|(with_reducible refine iM ?_ (by first|exact amS _|exact B4.size) _))),amS _,bz.mono (B':=w3.heap.size) (by simp) (bz.kept (r:=some w3.heap.size) (aM.grown (b:=w3.heap.size) (by(repeat with_reducible refine aM.put ?_ _ _);exact aM.refl _ _)) hN (fun b hb e=>by have:=(hN.lt b hb).1;simp at e this;omega)),hnd⟩
    case rest=>
     obtain⟨b',y,rfl,rfl,rfl,hy,XB,B5,hb',hN,hnd⟩:=hcut;have RW:=HR.out.below (ay EE.out B5);have RC:=RW.cond qq y;have x0:=XB.get 0 _ rfl;have x1:=XB.get 1 _ rfl;have x2:=XB.get 2 _ rfl;have x3:=XB.get 3 _ rfl;have x4:=XB.get 4 _ rfl;have x5:=XB.get 5 _ rfl;have x6:=XB.get 6 _ rfl;have q7:=RW.bx.get 7 _ rfl;have q8:=RW.bx.get 8 _ rfl;have q9:=RW.bx.get 9 _ rfl;have oa:=RW.bx.get 10 _ rfl;have od:=RW.bx.get 11 _ rfl;have q12:=RW.bx.get 12 _ rfl;have q13:=RW.bx.get 13 _ rfl;have f7:=RW.gh 7;have f8:=RW.gh 8;have f9:=RW.gh 9;have f10:=RW.gh 10;have f11:=RW.gh 11;have f12:=RW.gh 12;have f13:=RW.gh 13;have ST:=hid ((aX (bw:=w1.heap.size) (ay EE.out B5)).trans RC.2);have Gf:=hid (bz.mono EE.out.size (bz.st hN RC.2 hrb));have RC:=hid RC.1;have hnd:=hid hnd;have nR:b'≠w1.heap.size:=by omega
     clear RW XB B5 hN B0;go_wp2_with fail;exact bodyPost_ret (by simp[results,results31,go_sem]) rfl (.inr ⟨qq,xx,y,HE.out,hy,rfl,ST.out,RC.out,Gf.out,hnd.out⟩)
theorem ajs(v:Value)(w:World):(Instr.typeAssert (.iface 65 v) 20 65 false).run prog w= .ok v w:=by kernel_rfl
theorem ajq(n k:Int)(w:World):(Instr.field 65 (.agg #[.int .i64 n,.int .i64 k]) 0).run prog w= .ok (.int .i64 n) w:=by kernel_rfl
theorem ajr(n k:Int)(w:World):(Instr.field 65 (.agg #[.int .i64 n,.int .i64 k]) 1).run prog w= .ok (.int .i64 k) w:=by kernel_rfl
theorem UX(p q r:Addr)(w:World):
 CallsD prog 26 #[.pointer (some p),.pointer (some q),.pointer (some r)] .returning w fun e u' w'=>e= .returned (.tuple #[])/\u'= .returning/\w'=w:=by
 refine callsD_of_wpS func26 rfl fun c₀ cs hu=>?_
 apply wpS_seq;apply wpS_region;simp[wpOpsS,go_sem,recoverD,hu,ntmps26,apk];apply wpS_seq;apply wpS_region;simp[wpOpsS,go_sem,apk];refine wpS_cond (t:=false) (by simp[Act.eval,apm]) ?_;simp only[Bool.false_eq_true,if_false];refine wpS_of_wp (wp_skip ?_);cases c₀
 simp_all [bodyPostS,results,results26]
theorem aii(bp bq br:Nat)(n k:Int)(w:World)(older:List PanicEntry)(us:List Value)(x y:Value)(hl:us.length=12)
 (h1:aG w bp us) (h2:w.cell? ⟨bq,0,none⟩=some x) (h3:w.cell? ⟨br,0,none⟩=some y) (f1: ∀j,w.frozen? ⟨bp,j,none⟩=false) (f2:w.frozen? ⟨bq,0,none⟩=false) (f3:w.frozen? ⟨br,0,none⟩=false)
 (n1:bp≠bq) (n2:bp≠br) (n3:bq≠br):
 CallsD prog 26 #[.pointer (some ⟨bp,0,none⟩),.pointer (some ⟨bq,0,none⟩),.pointer (some ⟨br,0,none⟩)] (.panicking ({ v:=.iface 65 (.agg #[.int .i64 n,.int .i64 k]),recovered:=false }::older)) w fun e u' w'=>e= .returned (.tuple #[])/\u'= .panicking ({ v:=.iface 65 (.agg #[.int .i64 n,.int .i64 k]),recovered:=true }::older)/\
  (∀B,B<=bp->B<=bq->B<=br->Below B w w')/\aG w' bp [.int .i64 0,.string ⟨#[]⟩,.string ⟨#[]⟩,.slice none 0 0,.slice none 0 0,.int .i64 0,.int .i64 0,.int .i64 0,.int .i64 0,.string ⟨#[]⟩,.int .i64 0,.slice none 0 0]/\w'.cell? ⟨bq,0,none⟩=some (.int .i64 n)/\w'.cell? ⟨br,0,none⟩=some (.int .i64 k):=by
 match us,hl with
 |[u0,u1,u2,u3,u4,u5,u6,u7,u8,u9,u10,u11],_=>
 have p0:=h1.get 0 _ rfl;have p1:=h1.get 1 _ rfl;have p2:=h1.get 2 _ rfl;have p3:=h1.get 3 _ rfl;have p4:=h1.get 4 _ rfl;have p5:=h1.get 5 _ rfl;have p6:=h1.get 6 _ rfl;have p7:=h1.get 7 _ rfl;have p8:=h1.get 8 _ rfl;have p9:=h1.get 9 _ rfl;have jB:=h1.get 10 _ rfl;have jC:=h1.get 11 _ rfl;refine callsD_of_wpS func26 rfl fun c₀ cs hu=>?_
 apply wpS_seq;apply wpS_region;simp[wpOpsS,go_sem,recoverD,hu,ntmps26,apk];apply wpS_seq;apply wpS_region;simp[wpOpsS,go_sem,apk];refine wpS_cond (t:=true) (by simp[Act.eval,apm]) ?_;simp only[if_true];refine wpS_of_wp ?_;have hx:=h1.1;have ta:=ajs;have tb:=ajq n k;have tc:=ajr n k;clear hl h1;have f1a:=f1 0;have f1b:=f1 1;have f1c:=f1 2;have f1d:=f1 3;have f1e:=f1 4;have f1f:=f1 5;have f1g:=f1 6;have f1h:=f1 7;have f1i:=f1 8;have f1j:=f1 9;have f1k:=f1 10;have f1l:=f1 11;refine(?_:Code.wp prog _ _ ⟨#[.pointer (some ⟨bp,0,none⟩),.pointer (some ⟨bq,0,none⟩),.pointer (some ⟨br,0,none⟩),.iface 65 (.agg #[.int .i64 n,.int .i64 k]),.iface 65 (.agg #[.int .i64 n,.int .i64 k]),.iface 65 (.agg #[.int .i64 n,.int .i64 k]),.bool true,undef,undef,undef,undef,undef,undef,undef],[]⟩ w)
 go_big_region
 all_goals(try go_wp2_with fail)
 refine⟨rfl,_,rfl,.tuple #[],by simp[results,results26],rfl,rfl,fun B b1 b2 b3=>?_,⟨by simpa using hx,fun j hj=>?_⟩,by simp[go_sem,h2],by simp[go_sem,h3]⟩
 ·(repeat first|with_reducible refine apl ?_ b1 _|with_reducible refine apl ?_ b2 _|with_reducible refine apl ?_ b3 _|with_reducible refine Below.drew ?_)
  exact apb _ _
 ·have:j=0\/j=1\/j=2\/j=3\/j=4\/j=5\/j=6\/j=7\/j=8\/j=9\/j=10\/j=11:=by simp at hj;omega
  rcases this with rfl|rfl|rfl|rfl|rfl|rfl|rfl|rfl|rfl|rfl|rfl|rfl<;>simp[go_sem,p0,p1,p2,p3,p4,p5,p6,p7,p8,p9,jB,jC]
end Go.Proofs.YtkbbgjloifmmbaaGreatDoor
namespace Go.Proofs.YtkbbgjloifmmbaaGreatDoor
open _root_.Go.Proofs.Tryz
open _root_.Go.RowKit.Below renaming refl->apb,setCell->apl
open _root_.List renaming length_append->aoE,length_cons->ans,takeWhile_prefix->apx,length_drop->aoJ,dropWhile_append_of_pos->aoD,length->aoQ,mem_cons_self->apy,mem_cons->amY,eq_of_mem_replicate->apz,length_nil->anX,dropWhile_suffix->aoI,mem_cons_of_mem->aoW,length_dropLast->apA,mem_singleton->anw,mem_append->anu
open _root_.Nat renaming le_refl->amS,zero_le->apj
open _root_.Bool renaming and_eq_true->am6
open _root_.Go.Exit renaming thenS->apk
open _root_.Array renaming replicate->apm
theorem vY{s:Tx}(h:az s=true):s.length<=32:=by
 cases s with
 |nil=>cases h
 | cons c r=>
   unfold az at h;simp only[am6,decide_eq_true_eq]at h;simp only[ans];omega
def uW(x:aF):Prop:=(-2147483648<=x.thread/\x.thread<=2147483647)/\(-2147483648<=x.au/\x.au<=2147483647)/\x.loc.length<=32/\x.aE.length<=32
theorem aks{af:Int}{h:Tx}{x:aF}(e:jl af h=some x):uW x:=by
 unfold jl at e
 split at e
 ·split at e
  ·rename_i hn
   cases e;exact⟨⟨by simp,by simp⟩,⟨by simp,by simp⟩,vY hn,by simp⟩
  ·cases e
 ·split at e
  ·split at e
   ·rename_i n r hn hr
    split at e
    ·rename_i hb
     cases e;have h1:=(Bz hr).1;have h2:cE af<=32:=by unfold cE;split<;>decide
     exact⟨⟨by simp only;omega,by simp only;omega⟩,⟨by simp only;omega,by simp only;omega⟩,by simp,by simp⟩
    ·cases e
   ·cases e
  ·split at e
   ·rename_i hn
    cases e;exact⟨⟨by simp,by simp⟩,⟨by simp,by simp⟩,vY hn,by simp⟩
   ·cases e
theorem alf{v l:Tx}{n:Int}(h:fH v=some (l,n)):l.length<=32:=by
 unfold fH at h
 split at h
 ·cases h;simp
 ·split at h
  ·rename_i hn;cases h;exact vY hn
  ·cases h
theorem acZ{af:Int}{s:Tx}{x:aF}(h:kO af s=some x):uW x:=by
 unfold kO at h
 split at h
 ·cases h
 ·cases h1:jl af (ah (s.takeWhile (· != 61)))with
  |none=>rw[h1,yq]at h;cases h
  | some y=>
    cases h2:fH (ah ((s.dropWhile (· != 61)).drop 1))with
    |none=>rw[h2,tS]at h;cases h
    | some p=>
      obtain⟨l,n⟩:=p;rw[h1,h2]at h;cases h;obtain⟨a,b,c,d⟩:=aks h1;exact⟨a,b,c,alf h2⟩
theorem Kl{af:Int}{N:Nat}: ∀{L:List Tx} {v:Tx} {acc l:List aF},(∀x∈acc,uW x)->gM af N L v acc= .ok l-> ∀x∈l,uW x
 |[],v,acc,l,ha,h=>by cases h;exact ha
 | p::L,v,acc,l,ha,h=>by
   rw[gM]at h
   split at h
   ·exact Kl ha h
   ·split at h
    ·cases h
    ·rename_i y hy
     refine Kl (fun x hx=>?_) h;rcases anu.1 hx with hx|hx
     ·exact ha x hx
     ·rcases anw.1 hx with rfl
      exact acZ hy
theorem ac5{af:Int}{N:Nat}{r r1:Tx}{l:List aF}(h:fD af N r= .ok (l,r1)): ∀x∈l,uW x:=by
 unfold fD at h
 dsimp only at h
 split at h
 ·cases h
 ·split at h
  ·cases h
  ·rename_i m hm
   cases h;exact Kl (fun x hx=>absurd hx (by simp)) hm
def sZ(i:Ins):Prop:=i.loc.length<=32/\i.label.length<=32
theorem Zq{i:Ins}(h:dy i=true):sZ i:=by
 unfold dy at h;rw[am6,decide_eq_true_eq]at h;obtain⟨h1,h2⟩:=h;rw[h2];unfold kQ at h1;unfold qL sZ
 split at h1
 ·rename_i h0
  rw[if_pos h0];rw[am6]at h1;exact⟨vY h1.1,by simp⟩
 ·rename_i h0
  rw[if_neg h0]
  split at h1
  ·rename_i h3
   rw[if_pos h3];rw[am6]at h1;exact⟨vY h1.1,by simp⟩
  ·rename_i h3
   rw[if_neg h3]
   split at h1
   ·rename_i h4
    rw[if_pos h4];rw[am6]at h1;exact⟨vY h1.1,by simp⟩
   ·rename_i h4
    rw[if_neg h4]
    split<;>exact⟨by simp,by simp⟩
theorem Zo{i:Ins}(h:aU i=true):sZ i:=by
 unfold aU at h;simp only[am6,decide_eq_true_eq]at h;obtain⟨⟨⟨⟨h1,h2⟩, -⟩, -⟩, -⟩:=h
 have hl:i.op=11\/i.op=12->i.label.length<=32:=fun h0=>by
  unfold dn at h1;rw[if_neg (by omega),if_pos h0]at h1;exact vY h1
 rw[h2];unfold kE sZ
 repeat' split
 all_goals first
  |(refine⟨?_,?_⟩<;>(simp;done))
  |exact⟨apj _,hl (.inl (by assumption))⟩
  |exact⟨apj _,hl (.inr (by assumption))⟩
theorem ade{af:Int}{s:Tx}{i:Ins}(h:pE af s=some i):sZ i:=by
 unfold pE at h
 split at h
 ·exact Zq (afJ h)
 ·exact Zo (afN h)
def xp(l:List (List Ins)):Prop:= ∀r∈l,∀i∈r,sZ i
theorem GZ{af:Int}{N:Nat}: ∀{L:List Tx} {v:Tx} {acc l:List (List Ins)},xp acc->dO af N L v acc= .ok l->xp l
 |[],v,acc,l,ha,h=>by cases h;exact ha
 |c::L,v,[],l,ha,h=>by cases h;exact ha
 | c::L,v,x::acc,l,ha,h=>by
   have AE:xp acc:=fun r hr=>ha r (aoW _ hr)
   rw[dO]at h
   split at h
   ·split at h
    ·cases h
    ·rename_i r hr
     cases h;intro y hy;rcases amY.1 hy with rfl|hy
     ·exact ha _ (apy ..)
     ·exact GZ AE hr y hy
   ·split at h
    ·cases h
    ·rename_i i hi
     split at h
     ·cases h
     ·rename_i r hr
      cases h;intro y hy;rcases amY.1 hy with rfl|hy
      ·intro j hj
       rcases anu.1 hj with hj|hj
       ·exact ha _ (apy ..) j hj
       ·rcases anw.1 hj with rfl
        exact ade hi
      ·exact GZ AE hr y hy
theorem Vx{af:Int}{N:Nat}: ∀{n:Nat} {r:Tx} {acc l:List (List Ins)} {r1:Tx},xp acc->jj af N n r acc= .ok (l,r1)->xp l
 |0,r,acc,l,r1,ha,h=>by cases h;exact ha
 | n+1,r,acc,l,r1,ha,h=>by
   rw[jj]at h
   try dsimp only at h
   split at h
   ·cases h;exact ha
   ·split at h
    ·cases h
    ·split at h
     ·cases h
     ·rename_i m hm
      exact Vx (GZ ha hm) h
theorem akf{af:Int}{N:Nat}{r r1:Tx}{l:List (List Ins)}(h:gu af N r= .ok (l,r1)):xp l:=by
 unfold gu at h
 dsimp only at h
 split at h
 ·cases h
 ·refine Vx (fun x hx=>?_) h
  rw[apz hx];intro i hi;cases hi
theorem Qp{N:Nat}{r n r1:Tx}{a:Int}(h:gE N r= .ok (a,n,r1)):aH a=true/\n.length<=r.length:=by
 unfold gE at h
 dsimp only at h
 split at h
 ·cases h
 ·rename_i w m hw
  split at h
  ·cases h
  ·rename_i b hb
   cases h;refine⟨?_,?_⟩
   ·unfold xu at hb
    split at hb
    ·cases hb;rfl
    ·split at hb
     ·cases hb;rfl
     ·cases hb
   ·unfold sG at hw
    dsimp only at hw
    split at hw
    ·cases hw
    ·cases hw
     have h1:=(aoI (l:=(aI (aq r)).dropWhile nb) aj).length_le;have h2:=(aoI (l:=aI (aq r)) nb).length_le
     have h3:(aI (aq r)).length<=(aq r).length:=by
      obtain⟨b,h, -⟩:=qB ((aq r).takeWhile (· != 10));have h4:=congrArg aoQ h;have h5:=(apx (l:=aq r) (· != 10)).length_le;rw[aoE]at h4;unfold aI;omega
     have h6:=yS r;omega
theorem aaQ{N:Nat}{r c r1:Tx}(h:eP N r= .ok (c,r1)):c.length<=r.length:=by
 unfold eP at h
 dsimp only at h
 have h3:(aI (aq r)).length<=(aq r).length:=by
  obtain⟨b,h, -⟩:=qB ((aq r).takeWhile (· != 10));have h4:=congrArg aoQ h;have h5:=(apx (l:=aq r) (· != 10)).length_le;rw[aoE]at h4;unfold aI;omega
 have h6:=yS r
 split at h
 ·cases h;simp
 ·split at h
  ·cases h
  ·cases h
   have h7:(ah ((aI (aq r)).drop 1).dropLast).length<=(((aI (aq r)).drop 1).dropLast).length:=j3 _;rw[apA,aoJ]at h7;omega
theorem Kk{af:Int}{N:Nat}: ∀{L:List Tx} {v:Tx} {acc l:List aF},gM af N L v acc= .ok l->l.length<=acc.length+L.length
 |[],v,acc,l,h=>by cases h;simp
 | p::L,v,acc,l,h=>by
   rw[gM]at h
   split at h
   ·have:=Kk h
    simp only[ans];omega
   ·split at h
    ·cases h
    ·have:=Kk h
     simp only[ans,aoE,anX]at this ⊢; omega
theorem ac1{af:Int}{N:Nat}{r r1:Tx}{l:List aF}(h:fD af N r= .ok (l,r1)):l.length<=r.length+1:=by
 unfold fD at h
 dsimp only at h
 split at h
 ·cases h
 ·split at h
  ·cases h
  ·rename_i m hm
   cases h;have h1:=Kk hm;have h2:=uh 59 (((aq r).takeWhile (· != 125)).drop 1);have h3:=(apx (l:=aq r) (· != 125)).length_le;have h4:=yS r;rw[aoJ]at h2;simp only[anX]at h1;omega
def uE(n k:Nat)(l:List (List Ins)):Prop:=l.length<=n/\ ∀r∈l,r.length<=k
theorem GY{af:Int}{N n k:Nat}: ∀{L:List Tx} {v:Tx} {acc l:List (List Ins)},uE n k acc->dO af N L v acc= .ok l->uE n (k+1) l
 |[],v,acc,l,ha,h=>by cases h;exact⟨ha.1,fun r hr=>Nat.le_succ_of_le (ha.2 r hr)⟩
 |c::L,v,[],l,ha,h=>by cases h;exact⟨apj _,fun r hr=>by cases hr⟩
 | c::L,v,x::acc,l,ha,h=>by
   have h0:acc.length+1<=n:=ha.1;have AE:uE (n-1) k acc:=⟨by omega,fun r hr=>ha.2 r (aoW _ hr)⟩;have hx:=ha.2 x (apy ..);rw[dO]at h
   split at h
   ·split at h
    ·cases h
    ·rename_i r hr
     cases h;obtain⟨i1,i2⟩:=GY AE hr;refine⟨by simp only[ans];omega,fun y hy=>?_⟩;rcases amY.1 hy with rfl|hy
     ·omega
     ·exact i2 y hy
   ·split at h
    ·cases h
    ·split at h
     ·cases h
     ·rename_i r hr
      cases h;obtain⟨i1,i2⟩:=GY AE hr;refine⟨by simp only[ans];omega,fun y hy=>?_⟩;rcases amY.1 hy with rfl|hy
      ·simp only[aoE,ans,anX];omega
      ·exact i2 y hy
theorem Vw{af:Int}{N m:Nat}: ∀{n k:Nat} {r:Tx} {acc l:List (List Ins)} {r1:Tx},uE m k acc->jj af N n r acc= .ok (l,r1)->uE m (k+n) l
 |0,k,r,acc,l,r1,ha,h=>by cases h;exact ha
 | n+1,k,r,acc,l,r1,ha,h=>by
   rw[jj]at h
   try dsimp only at h
   split at h
   ·cases h;exact⟨ha.1,fun r hr=>Nat.le_trans (ha.2 r hr) (Nat.le_add_right _ _)⟩
   ·split at h
    ·cases h
    ·split at h
     ·cases h
     ·rename_i y hy
      obtain⟨i1,i2⟩:=Vw (GY ha hy) h;exact⟨i1,fun r hr=>by have:=i2 r hr;omega⟩
theorem akc{af:Int}{N:Nat}{r r1:Tx}{l:List (List Ins)}(h:gu af N r= .ok (l,r1)):uE (r.length+1) (r.length+1) l:=by
 unfold gu at h
 dsimp only at h
 split at h
 ·cases h
 ·have h1:(gB (aq r)).length<=r.length+1:=by
   have h2:=uh 124 (aI (aq r)).dropLast
   have h3:(aI (aq r)).length<=(aq r).length:=by
    obtain⟨b,h, -⟩:=qB ((aq r).takeWhile (· != 10));have h4:=congrArg aoQ h;have h5:=(apx (l:=aq r) (· != 10)).length_le;rw[aoE]at h4;unfold aI;omega
   have h6:=yS r;rw[apA]at h2;unfold gB;omega
  have h7:uE (r.length+1) 0 (List.replicate (gB (aq r)).length ([]:List Ins)):=⟨by rw[List.length_replicate];exact h1,fun x hx=>by rw[apz hx];exact amS _⟩;have:=Vw h7 h
  rwa[Nat.zero_add]at this
end Go.Proofs.YtkbbgjloifmmbaaGreatDoor

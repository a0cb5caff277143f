/- What ReadPiecesP leans on, part 28. -/
import Derived.Test.YtkbbgjloifmmbaaGreatDoorRp27
set_option linter.unusedVariables false
set_option maxRecDepth 100000
set_option maxHeartbeats 1600000
namespace Go.Proofs.YtkbbgjloifmmbaaGreatDoor
open Go.RowKit Go.Sort
def RetCn(p:EP (Int × Nd))(w1 w:World)(s:Tx)(k:Nat)(t:Tst)(e:Ending)(w':World):Prop:=
 (Below w1.heap.size w1 w'/\ ∃er k1,p= .error (er,k1)/\e=PanS er k1)\/
 ∃q x y,p= .ok (q,x)/\bareN y=x/\e= .returned (.tuple #[])/\St w w' w1.heap.size/\RdS w1 w' s k { t with q:=q,node:=y }/\NdW w' w.heap.size y/\(blkN y).Nodup
theorem sgn_pre{b:Tx}(hb: ∀c∈b,blankC c=true)(x:Tx):sgnL (b++x)=sgnL x:=List.dropWhile_append_of_pos hb
theorem lexT_sgnL(l:Tx):lexT (sgnL l)=lexT l:=lexT_dw l
theorem lexT_head{b:Tx}(hb: ∀c∈b,blankC c=true)(u:Tx):lexT (b++u)=lexT u:=by
 rw[<-lexT_sgnL (b++u),sgn_pre hb,lexT_sgnL]
theorem parseC_err{arch:Int}{s r:Tx}{e:Int}{k:Nat}(h:parseC arch s= .error (e,k))(hr:lexT s=lexT r)(hs:s.length<=262144)(hl:r.length<=262144): ∃k2,parseC arch r= .error (e,k2):=by
 unfold parseC at h⊢
 split at h
 ·rename_i h1
  rw[if_pos h1];cases h;exact⟨_,rfl⟩
 ·rename_i h1
  rw[if_neg (by omega)]at h;rw[if_neg h1,if_neg (by omega)];cases hc:condR arch (lex 0 s)with
  | error l=>
    rw[hc]at h;cases hd:condR arch (lex 0 r)with
    |error l2=>cases h;exact⟨_,rfl⟩
    |ok p=>rw[condR_same hd hr.symm]at hc;cases hc
  | ok p=>
    rw[hc]at h;obtain⟨q,x⟩:=p;rw[condR_same hc hr]
    by_cases h0:condE arch q x=0
    ·simp only[if_pos h0]at h;cases h
    ·simp only[if_neg h0]at h ⊢; cases h;exact⟨_,rfl⟩
theorem parseC_nz{arch:Int}{s:Tx}{e:Int}{k:Nat}(h:parseC arch s= .error (e,k)):e≠0:=by
 unfold parseC at h
 split at h
 ·cases h;decide
 ·split at h
  ·cases h;decide
  ·split at h
   ·cases h;decide
   ·rename_i q x _
    by_cases h0:condE arch q x=0
    ·simp only[if_pos h0]at h;cases h
    ·simp only[if_neg h0]at h;cases h;exact h0
theorem condP_ok{arch:Int}{N:Nat}{r:Tx}{c:Int × Nd}(h:parseC arch (sgnL r)= .ok c):condP arch N r= .ok c:=by
 unfold condP;dsimp only;rw[h]
theorem condP_err{arch:Int}{N:Nat}{r:Tx}{e:Int}{k:Nat}(h:parseC arch (sgnL r)= .error (e,k)):condP arch N r= .error (e,if e=2 then 0 else plc N (sgnL r)+k):=by
 unfold condP;dsimp only;rw[h]
theorem parseC_shift{arch:Int}{b u:Tx}{e:Int}{k0 k2:Nat}(ha:archB arch=true)(hb: ∀c∈b,blankC c=true)(hl:b.length+u.length<=262144)(h:parseC arch (b++u)= .error (e,k0))(h2:parseC arch u= .error (e,k2))(he:e≠2):k0=b.length+k2:=by
 rw[parseC_blanks ha hb hl,h2]at h;simp only[if_neg he]at h;cases h;rfl
theorem RdS.cond{w1 w:World}{s:Tx}{k:Nat}{t:Tst}(R:RdS w1 w s k t)(q:Int)(y:Nd):RdS w1 ((((((((w.setCell ⟨w1.heap.size,7,none⟩ (.int .i64 q)).setCell ⟨w1.heap.size,8,none⟩ (.int .i64 y.kind)).setCell ⟨w1.heap.size,9,none⟩ (.int .i64 y.th.thread)).setCell ⟨w1.heap.size,10,none⟩ (.int .i64 y.th.reg)).setCell ⟨w1.heap.size,11,none⟩ (.string (tx y.th.loc))).setCell ⟨w1.heap.size,12,none⟩ (.int .i64 y.val)).setCell ⟨w1.heap.size,13,none⟩ (.slice y.a y.kids.length y.c))) s k { t with q:=q,node:=y }/\St w ((((((((w.setCell ⟨w1.heap.size,7,none⟩ (.int .i64 q)).setCell ⟨w1.heap.size,8,none⟩ (.int .i64 y.kind)).setCell ⟨w1.heap.size,9,none⟩ (.int .i64 y.th.thread)).setCell ⟨w1.heap.size,10,none⟩ (.int .i64 y.th.reg)).setCell ⟨w1.heap.size,11,none⟩ (.string (tx y.th.loc))).setCell ⟨w1.heap.size,12,none⟩ (.int .i64 y.val)).setCell ⟨w1.heap.size,13,none⟩ (.slice y.a y.kids.length y.c))) w1.heap.size:=by
 have R1:=R.put 7 (.int .i64 q) (k':=k) (t':={ t with q:=q }) rfl R.le;have R2:=R1.1.put 8 (.int .i64 y.kind) (k':=k) (t':={ t with q:=q,node:=.mk y.kind t.node.th t.node.val t.node.a t.node.c t.node.kids }) rfl R.le;have R3:=R2.1.put 9 (.int .i64 y.th.thread) (k':=k) (t':={ t with q:=q,node:=.mk y.kind ⟨y.th.thread,t.node.th.reg,t.node.th.loc⟩ t.node.val t.node.a t.node.c t.node.kids }) rfl R.le;have R4:=R3.1.put 10 (.int .i64 y.th.reg) (k':=k) (t':={ t with q:=q,node:=.mk y.kind ⟨y.th.thread,y.th.reg,t.node.th.loc⟩ t.node.val t.node.a t.node.c t.node.kids }) rfl R.le;have R5:=R4.1.put 11 (.string (tx y.th.loc)) (k':=k) (t':={ t with q:=q,node:=.mk y.kind ⟨y.th.thread,y.th.reg,y.th.loc⟩ t.node.val t.node.a t.node.c t.node.kids }) rfl R.le;have R6:=R5.1.put 12 (.int .i64 y.val) (k':=k) (t':={ t with q:=q,node:=.mk y.kind ⟨y.th.thread,y.th.reg,y.th.loc⟩ y.val t.node.a t.node.c t.node.kids }) rfl R.le;have R7:=R6.1.put 13 (.slice y.a y.kids.length y.c) (k':=k) (t':={ t with q:=q,node:=y }) rfl R.le;exact⟨R7.1,R1.2.trans (R2.2.trans (R3.2.trans (R4.2.trans (R5.2.trans (R6.2.trans R7.2)))))⟩
theorem rdCond{w1 w:World}{s:Tx}{k:Nat}{t:Tst}(R:RdS w1 w s k t)(ha:archB t.arch=true):Calls Tryz.prog 31 #[.pointer (some ⟨w1.heap.size,0,none⟩)] w (RetCn (condP t.arch s.length (s.drop k)) w1 w s k t):=by
 have c0:=R.bx.get 0 _ rfl;have c1:=R.bx.get 1 _ rfl;have hl:=R.sl;have PK:=hid (readPeek s w1.heap.size k R.le R.sl w c0 c1);have FL:=hid (fun p er k w=>readFail p er k w);have HR:=hid R;have CPA:=hid (fun(s:Tx) (h:s.length<=262144) w g=>condParse (arch:=t.arch) (s:=s) (by omega) w g);obtain⟨u,hu⟩: ∃u,sgnL (s.drop k)=u:=⟨_,rfl⟩;have P1:=hid (fun c h=>condP_ok (arch:=t.arch) (N:=s.length) (r:=s.drop k) (c:=c) h);have P2:=hid (fun e k1 h=>condP_err (arch:=t.arch) (N:=s.length) (r:=s.drop k) (e:=e) (k:=k1) h);rw[hu]at P1 P2;generalize condP t.arch s.length (s.drop k)=hp at*;obtain⟨N,hN⟩: ∃N,(tx s).size=N:=⟨_,rfl⟩;have hNs:N=s.length:=by rw[<-hN,tx_size]
 have HNs:=hid hNs;have hN2:N<=262144:=by omega
 have key: ∃(v:Tx) (fr:Nat),True:=⟨[],0,trivial⟩;clear c0 c1 key;go_enter Tryz.func31,Tryz.ntmps31;go_wp2_with fail;refine PK.out.mono ?_;rintro e w2 ⟨hv,E2⟩;unfold PeekV at hv;rw[hu]at hv;rcases hv with⟨h0,rfl⟩|⟨b,h0,hb,h10,hbl,rfl⟩
 ·have LD:=hid (fun w=>readLead [] (by simp) w)
  subst h0;have sl:=run_strfrom2 s N (by omega);rw[hNs,List.drop_length]at sl;have E2:=hid E2;clear hu;go_wp2_with fail;refine(LD.out _).mono ?_;rintro e w3 ⟨rfl,E3⟩;have RR:=HR.out.below (ext_trans E2.out E3);have EE:=hid (ext_trans E2.out E3);have c0:=RR.bx.get 0 _ rfl;have hrb:=RR.lt;clear E3
  go_upto_region 4 with(fail)
  have hul:([]:Tx).length<=262144:=by simp
  have HV:lexT ([]:Tx)=lexT ([]:Tx):=rfl;have hfl:s.length+([]:Tx).length<=s.length:=by simp
  have hvl:([]:Tx).length<=262144:=by simp
  have KP:=hid (show ∀e k0 k2,parseC t.arch ([]:Tx)= .error (e,k0)->parseC t.arch ([]:Tx)= .error (e,k2)->e≠2->plc s.length ([]:Tx)+k2=s.length+k0 from fun e k0 k2 h h2 _=>by rw[h]at h2;cases h2;rfl);have CP:=hid (fun w g=>CPA.out ([]:Tx) hvl w g);have c2:=RR.bx.get 2 _ rfl;have gl:=hid (fun(w':World) (B:Below w3.heap.size w3 w')=>RR.g.below B);have c02:=hid (fun(w':World) (B:Below w3.heap.size w3 w')=>(And.intro ((B.cell (p:=⟨w1.heap.size,0,none⟩) hrb).trans c0) ((B.cell (p:=⟨w1.heap.size,2,none⟩) hrb).trans c2)));cases hc:parseC t.arch ([]:Tx)with
  | error ek=>
    obtain⟨e0,k0⟩:=ek;obtain⟨k2',h2⟩:=parseC_err hc HV hvl hul;have HE:=hid (P2.out e0 k2' h2);have HK:=hid (KP.out e0 k0 k2' hc h2);have hk0:=parseC_place hc;have hnz:=parseC_nz hc;rw[hc]at CP;clear hc h2 c0 c2;have B0:=Below.refl w3.heap.size w3
    go_region_held3 (fun w'=>Below w3.heap.size w3 w'/\w'.cell? ⟨w1.heap.size,0,none⟩=some (.string (tx s))/\w'.cell? ⟨w1.heap.size,2,none⟩=some (.int .i64 t.arch))
     (refine⟨?_,c02.out _ ?_⟩<;>(repeat(first|with_reducible assumption|with_reducible exact Below.refl _ _|with_reducible refine bel_alloc ?_ _|with_reducible refine bel_drew ?_|(with_reducible refine bel_set ?_ (by dsimp only;omega) _))))
     (first
      |(go_at_call 82
        refine(CP.out _ (gl.out _ (bel_drew (Below.refl w3.heap.size w3)))).mono ?_;rintro e w' ⟨E4,rfl⟩;have B4:=ext_trans (bel_drew (Below.refl w3.heap.size w3)) E4;obtain⟨a1,a2⟩:=c02.out _ B4)
      |(go_at_call 82
        refine(CP.out _ (gl.out _ (bel_drew (bel_alloc (Below.refl w3.heap.size w3) _)))).mono ?_;rintro e w' ⟨E4,rfl⟩;have B4:=ext_trans (bel_drew (bel_alloc (Below.refl w3.heap.size w3) _)) E4;obtain⟨a1,a2⟩:=c02.out _ B4;have XN:=((BxL.new w3 #[.int .i64 0,.int .i64 0,.int .i64 0,.int .i64 0,.string ⟨#[]⟩,.int .i64 0,.slice none 0 0] 30).below (below_drewN _ 1)).below E4;have n0:=XN.get 0 _ rfl;have n1:=XN.get 1 _ rfl;have n2:=XN.get 2 _ rfl;have n3:=XN.get 3 _ rfl;have n4:=XN.get 4 _ rfl;have n5:=XN.get 5 _ rfl;have n6:=XN.get 6 _ rfl;have nf: ∀j,w'.frozen? ⟨w3.heap.size,j,none⟩=false:=fun j=>(E4.frozen (p:=⟨w3.heap.size,j,none⟩) (by simp)).trans (frz_new w3 _ _ j)
        have f0:=nf 0;have f1:=nf 1;have f2:=nf 2;have f3:=nf 3;have f4:=nf 4;have f5:=nf 5;have f6:=nf 6))
    all_goals
     by_cases he2:e0=2
     ·subst he2
      go_wp2_with fail;refine(FL.out _ _ _ _).mono ?_;rintro e w8 ⟨rfl,E8⟩;have E:=hid (ext_trans (a:=w3) (by repeat(first|with_reducible assumption|with_reducible exact Below.refl _ _|with_reducible refine bel_alloc ?_ _|with_reducible refine bel_drew ?_|(with_reducible refine bel_set ?_ (by first|exact Nat.le_refl _|exact B4.size) _))) E8);clear E8;go_wp2_with fail;exact⟨rfl,.inl ⟨(HR.out.below (ext_trans EE.out E.out)).bel,_,0,(by rw[HE.out];first|rw[if_pos rfl]|rw[if_pos trivial]),rfl⟩⟩
     ·have y2:((e0:Int)==2)=false:=by simpa using he2
      have y0:((e0:Int)==0)=false:=by simpa using hnz
      go_wp2_with fail;refine(FL.out _ _ _ _).mono ?_;rintro e w8 ⟨rfl,E8⟩;have E:=hid (ext_trans (a:=w3) (by repeat(first|with_reducible assumption|with_reducible exact Below.refl _ _|with_reducible refine bel_alloc ?_ _|with_reducible refine bel_drew ?_|(with_reducible refine bel_set ?_ (by first|exact Nat.le_refl _|exact B4.size) _))) E8);clear E8;go_wp2_with fail;exact⟨rfl,.inl ⟨(HR.out.below (ext_trans EE.out E.out)).bel,_,s.length+k0,(by rw[HE.out,if_neg he2,HK.out he2]),rfl⟩⟩
  | ok c=>
    obtain⟨qq,xx⟩:=c;have h2:=parseC_same hc HV hul;have HE:=hid (P1.out _ h2);rw[hc]at CP;clear hc h2 c0 c2;have B0:=Below.refl w3.heap.size w3
    go_cut [7,8,9] (fun s7 s8 s9 wx=> ∃(b':Nat) (y:Nd),s7= .pointer (some ⟨b',0,none⟩)/\s8= .int .i64 0/\s9= .int .i64 0/\bareN y=xx/\BxL wx b' (.int .i64 qq::cN y)/\Below w3.heap.size w3 wx/\w3.heap.size<=b'/\NdW wx w3.heap.size y/\(blkN y).Nodup)
    case first=>
     go_region_held3 (fun w'=>Below w3.heap.size w3 w'/\w'.cell? ⟨w1.heap.size,0,none⟩=some (.string (tx s))/\w'.cell? ⟨w1.heap.size,2,none⟩=some (.int .i64 t.arch))
      (refine⟨?_,c02.out _ ?_⟩<;>(repeat(first|with_reducible assumption|with_reducible exact Below.refl _ _|with_reducible refine bel_alloc ?_ _|with_reducible refine bel_drew ?_|(with_reducible refine bel_set ?_ (by dsimp only;omega) _))))
      (first
       |(go_at_call 82
         refine(CP.out _ (gl.out _ (bel_drew (Below.refl w3.heap.size w3)))).mono ?_;rintro e w' ⟨E4,y,hy,rfl,hN,hnd⟩;have B4:=ext_trans (bel_drew (Below.refl w3.heap.size w3)) E4;obtain⟨a1,a2⟩:=c02.out _ B4)
       |(go_at_call 82
         refine(CP.out _ (gl.out _ (bel_drew (bel_alloc (Below.refl w3.heap.size w3) _)))).mono ?_;rintro e w' ⟨E4,y,hy,rfl,hN,hnd⟩;have B4:=ext_trans (bel_drew (bel_alloc (Below.refl w3.heap.size w3) _)) E4;obtain⟨a1,a2⟩:=c02.out _ B4;have XN:=((BxL.new w3 #[.int .i64 0,.int .i64 0,.int .i64 0,.int .i64 0,.string ⟨#[]⟩,.int .i64 0,.slice none 0 0] 30).below (below_drewN _ 1)).below E4;have n0:=XN.get 0 _ rfl;have n1:=XN.get 1 _ rfl;have n2:=XN.get 2 _ rfl;have n3:=XN.get 3 _ rfl;have n4:=XN.get 4 _ rfl;have n5:=XN.get 5 _ rfl;have n6:=XN.get 6 _ rfl;have nf: ∀j,w'.frozen? ⟨w3.heap.size,j,none⟩=false:=fun j=>(E4.frozen (p:=⟨w3.heap.size,j,none⟩) (by simp)).trans (frz_new w3 _ _ j)
         have f0:=nf 0;have f1:=nf 1;have f2:=nf 2;have f3:=nf 3;have f4:=nf 4;have f5:=nf 5;have f6:=nf 6))
     all_goals
      go_wp2_with fail
      go_meet
     ·exact⟨w'.heap.size,y,rfl,rfl,rfl,hy,BxL.new _ _ _,(by repeat(first|with_reducible assumption|with_reducible exact Below.refl _ _|with_reducible refine bel_alloc ?_ _|with_reducible refine bel_drew ?_|(with_reducible refine bel_set ?_ (by first|exact Nat.le_refl _|exact B4.size) _))),B4.size,NdW.mono (Nat.le_refl w3.heap.size) (NdW.keep (al w' _) hN),hnd⟩
     ·refine⟨w3.heap.size,y,rfl,rfl,rfl,hy,((((((XN.set 0 (.int .i64 qq)).set 1 (.int .i64 y.kind)).set 2 (.int .i64 y.th.thread)).set 3 (.int .i64 y.th.reg)).set 4 (.string (tx y.th.loc))).set 5 (.int .i64 y.val)).set 6 (.slice y.a y.kids.length y.c),(by repeat(first|with_reducible assumption|with_reducible exact Below.refl _ _|with_reducible refine bel_alloc ?_ _|with_reducible refine bel_drew ?_|(with_reducible refine bel_set ?_ (by first|exact Nat.le_refl _|exact B4.size) _))),Nat.le_refl _,NdW.mono (B':=w3.heap.size) (by simp) (NdW.kept (r:=some w3.heap.size) (PutB.grown (b:=w3.heap.size) (by(repeat with_reducible refine PutB.put ?_ _ _);exact PutB.refl _ _)) hN (fun b hb e=>by have:=(hN.lt b hb).1;simp at e this;omega)),hnd⟩
    case rest=>
     obtain⟨b',y,rfl,rfl,rfl,hy,XB,B5,hb',hN,hnd⟩:=hcut;have RW:=HR.out.below (ext_trans EE.out B5);have RC:=RW.cond qq y;have x0:=XB.get 0 _ rfl;have x1:=XB.get 1 _ rfl;have x2:=XB.get 2 _ rfl;have x3:=XB.get 3 _ rfl;have x4:=XB.get 4 _ rfl;have x5:=XB.get 5 _ rfl;have x6:=XB.get 6 _ rfl;have q7:=RW.bx.get 7 _ rfl;have q8:=RW.bx.get 8 _ rfl;have q9:=RW.bx.get 9 _ rfl;have q10:=RW.bx.get 10 _ rfl;have q11:=RW.bx.get 11 _ rfl;have q12:=RW.bx.get 12 _ rfl;have q13:=RW.bx.get 13 _ rfl;have f7:=RW.frz 7;have f8:=RW.frz 8;have f9:=RW.frz 9;have f10:=RW.frz 10;have f11:=RW.frz 11;have f12:=RW.frz 12;have f13:=RW.frz 13;have ST:=hid ((step_below (bw:=w1.heap.size) (ext_trans EE.out B5)).trans RC.2);have HNW:=hid (NdW.mono EE.out.size (NdW.st hN RC.2 hrb));have RC:=hid RC.1;have hnd:=hid hnd;have hbr:b'≠w1.heap.size:=by omega
     clear RW XB B5 hN B0;go_wp2_with fail;exact bodyPost_ret (by simp[results,Tryz.results31,go_sem]) rfl (.inr ⟨qq,xx,y,HE.out,hy,rfl,ST.out,RC.out,HNW.out,hnd.out⟩)
 ·have hul0:u.length<=s.length:=by rw[<-hu];have:=(sgn_suf' (s.drop k)).length_le;have:=List.length_drop (i:=k) (l:=s);omega
  have hul:u.length<=262144:=by omega
  have hin:b.length+u.length<=(s.drop k).length:=hbl.2;have hkl:(s.drop k).length=s.length-k:=List.length_drop;have hkle:=HR.out.le;obtain⟨fr,hfr⟩: ∃fr,s.length-(b.length+u.length)=fr:=⟨_,rfl⟩;have hfrb:fr+(b.length+u.length)=s.length:=by omega
  obtain⟨vv,hvv⟩: ∃vv,s.drop fr=vv:=⟨_,rfl⟩;have hvl0:vv.length=b.length+u.length:=by rw[<-hvv,List.length_drop];omega
  have HV':lexT vv=lexT u/\ ∃b',vv=b'++u/\ ∀c∈b',blankC c=true:=by
   have h1:s.drop k=(s.drop k).takeWhile blankC++u:=by rw[<-hu];exact(List.takeWhile_append_dropWhile ..).symm
   have h2:vv=(s.drop k).drop (fr-k):=by rw[List.drop_drop,show k+(fr-k)=fr by omega,hvv]
   have h3:((s.drop k).takeWhile blankC).length+u.length=(s.drop k).length:=by
    have:=congrArg List.length h1;rw[List.length_append]at this;omega
   have h4:vv=((s.drop k).takeWhile blankC).drop (fr-k)++u:=by
    rw[h2]
    conv=>lhs;rw[h1]
    rw[List.drop_append_of_le_length (by omega)]
   have h5: ∀c∈((s.drop k).takeWhile blankC).drop (fr-k),blankC c=true:=fun c hc=>List.all_eq_true.1 (List.all_takeWhile) c (List.mem_of_mem_drop hc)
   rw[h4];exact⟨lexT_head h5 u,_,rfl,h5⟩
  obtain⟨HV,b',hvb,hbb⟩:=HV';have hvl:vv.length<=262144:=by omega
  have hfl:fr+vv.length<=s.length:=by omega
  have KP:=hid (show ∀e k0 k2,parseC t.arch vv= .error (e,k0)->parseC t.arch u= .error (e,k2)->e≠2->plc s.length u+k2=fr+k0 from fun e k0 k2 h h2 he=>by
   have hl1:=congrArg List.length hvb;rw[List.length_append]at hl1;rw[hvb]at h;rw[parseC_shift ha hbb (by omega) h h2 he];unfold plc;omega)
  obtain⟨c,hc⟩: ∃c,u.head?=some c:=by
   cases u with
   |nil=>exact absurd rfl h0
   |cons c r=>exact⟨c,rfl⟩
  have hcb:blankC c=false:=head_dropWhile (l:=s.drop k) (p:=blankC) (by rw[show(s.drop k).dropWhile blankC=u from hu];exact hc);have hlen:(b++u.takeWhile (· != 10)).length<=262144:=by have:=takeWhile_le (· != 10) u;rw[List.length_append];omega
  have hld:((b++u.takeWhile (· != 10)).length-(sgnL (b++u.takeWhile (· != 10))).length:Nat)=b.length:=by
   have:sgnL (b++u.takeWhile (· != 10))=u.takeWhile (· != 10):=by
    unfold sgnL;rw[List.dropWhile_append_of_pos hb];cases u with
    |nil=>rfl
    | cons d r=>
      obtain rfl:d=c:=by simpa using hc
      rw[List.takeWhile_cons_of_pos (p:=fun x=>x != 10) (by rw[bne_iff_ne];rintro rfl;revert hcb;decide),List.dropWhile_cons_of_neg (by rw[hcb];decide)]
   rw[this,List.length_append];omega
  have LD:=hid (fun w=>readLead (b++u.takeWhile (· != 10)) (by omega) w);rw[hld]at LD;obtain⟨p0,hp0⟩: ∃p0,plc s.length u=p0:=⟨_,rfl⟩;have hF:(p0:Int)-(b.length:Nat)=(fr:Nat):=by rw[<-hp0];unfold plc;omega
  have hfN:fr<=s.length:=by omega
  have sl:=run_strfrom2 s fr hfN;rw[hvv]at sl;rw[hp0];generalize b++u.takeWhile (· != 10)=ln at*;obtain⟨bl,hbl2⟩: ∃bl,b.length=bl:=⟨_,rfl⟩;rw[hbl2]at hF LD;have hp0b:p0<=262144:=by rw[<-hp0];unfold plc;omega
  have hblb:bl<=262144:=by omega
  have hfrb2:fr<=262144:=by omega
  have E2:=hid E2;have HV:=hid HV;clear hu hin hkl hkle hfr hfrb hvv hvl0 hc hcb hlen hld hp0 hbl2 hbl hb h10 h0 hvb hbb;go_wp2_with fail;refine(LD.out _).mono ?_;rintro e w3 ⟨rfl,E3⟩;have RR:=HR.out.below (ext_trans E2.out E3);have EE:=hid (ext_trans E2.out E3);have c0:=RR.bx.get 0 _ rfl;have hrb:=RR.lt;have HV:=HV.out;clear E3
  go_upto_region 4 with(fail)
  have CP:=hid (fun w g=>CPA.out vv hvl w g);have c2:=RR.bx.get 2 _ rfl;have gl:=hid (fun(w':World) (B:Below w3.heap.size w3 w')=>RR.g.below B);have c02:=hid (fun(w':World) (B:Below w3.heap.size w3 w')=>(And.intro ((B.cell (p:=⟨w1.heap.size,0,none⟩) hrb).trans c0) ((B.cell (p:=⟨w1.heap.size,2,none⟩) hrb).trans c2)));cases hc:parseC t.arch vv with
  | error ek=>
    obtain⟨e0,k0⟩:=ek;obtain⟨k2',h2⟩:=parseC_err hc HV hvl hul;have HE:=hid (P2.out e0 k2' h2);have HK:=hid (KP.out e0 k0 k2' hc h2);have hk0:=parseC_place hc;have hnz:=parseC_nz hc;rw[hc]at CP;clear hc h2 c0 c2;have B0:=Below.refl w3.heap.size w3
    go_region_held3 (fun w'=>Below w3.heap.size w3 w'/\w'.cell? ⟨w1.heap.size,0,none⟩=some (.string (tx s))/\w'.cell? ⟨w1.heap.size,2,none⟩=some (.int .i64 t.arch))
     (refine⟨?_,c02.out _ ?_⟩<;>(repeat(first|with_reducible assumption|with_reducible exact Below.refl _ _|with_reducible refine bel_alloc ?_ _|with_reducible refine bel_drew ?_|(with_reducible refine bel_set ?_ (by dsimp only;omega) _))))
     (first
      |(go_at_call 82
        refine(CP.out _ (gl.out _ (bel_drew (Below.refl w3.heap.size w3)))).mono ?_;rintro e w' ⟨E4,rfl⟩;have B4:=ext_trans (bel_drew (Below.refl w3.heap.size w3)) E4;obtain⟨a1,a2⟩:=c02.out _ B4)
      |(go_at_call 82
        refine(CP.out _ (gl.out _ (bel_drew (bel_alloc (Below.refl w3.heap.size w3) _)))).mono ?_;rintro e w' ⟨E4,rfl⟩;have B4:=ext_trans (bel_drew (bel_alloc (Below.refl w3.heap.size w3) _)) E4;obtain⟨a1,a2⟩:=c02.out _ B4;have XN:=((BxL.new w3 #[.int .i64 0,.int .i64 0,.int .i64 0,.int .i64 0,.string ⟨#[]⟩,.int .i64 0,.slice none 0 0] 30).below (below_drewN _ 1)).below E4;have n0:=XN.get 0 _ rfl;have n1:=XN.get 1 _ rfl;have n2:=XN.get 2 _ rfl;have n3:=XN.get 3 _ rfl;have n4:=XN.get 4 _ rfl;have n5:=XN.get 5 _ rfl;have n6:=XN.get 6 _ rfl;have nf: ∀j,w'.frozen? ⟨w3.heap.size,j,none⟩=false:=fun j=>(E4.frozen (p:=⟨w3.heap.size,j,none⟩) (by simp)).trans (frz_new w3 _ _ j)
        have f0:=nf 0;have f1:=nf 1;have f2:=nf 2;have f3:=nf 3;have f4:=nf 4;have f5:=nf 5;have f6:=nf 6))
    all_goals
     by_cases he2:e0=2
     ·subst he2
      go_wp2_with fail;refine(FL.out _ _ _ _).mono ?_;rintro e w8 ⟨rfl,E8⟩;have E:=hid (ext_trans (a:=w3) (by repeat(first|with_reducible assumption|with_reducible exact Below.refl _ _|with_reducible refine bel_alloc ?_ _|with_reducible refine bel_drew ?_|(with_reducible refine bel_set ?_ (by first|exact Nat.le_refl _|exact B4.size) _))) E8);clear E8;go_wp2_with fail;exact⟨rfl,.inl ⟨(HR.out.below (ext_trans EE.out E.out)).bel,_,0,(by rw[HE.out];first|rw[if_pos rfl]|rw[if_pos trivial]),rfl⟩⟩
     ·have y2:((e0:Int)==2)=false:=by simpa using he2
      have y0:((e0:Int)==0)=false:=by simpa using hnz
      go_wp2_with fail;refine(FL.out _ _ _ _).mono ?_;rintro e w8 ⟨rfl,E8⟩;have E:=hid (ext_trans (a:=w3) (by repeat(first|with_reducible assumption|with_reducible exact Below.refl _ _|with_reducible refine bel_alloc ?_ _|with_reducible refine bel_drew ?_|(with_reducible refine bel_set ?_ (by first|exact Nat.le_refl _|exact B4.size) _))) E8);clear E8;go_wp2_with fail;exact⟨rfl,.inl ⟨(HR.out.below (ext_trans EE.out E.out)).bel,_,fr+k0,(by rw[HE.out,if_neg he2,HK.out he2]),rfl⟩⟩
  | ok c=>
    obtain⟨qq,xx⟩:=c;have h2:=parseC_same hc HV hul;have HE:=hid (P1.out _ h2);rw[hc]at CP;clear hc h2 c0 c2;have B0:=Below.refl w3.heap.size w3
    go_cut [7,8,9] (fun s7 s8 s9 wx=> ∃(b':Nat) (y:Nd),s7= .pointer (some ⟨b',0,none⟩)/\s8= .int .i64 0/\s9= .int .i64 0/\bareN y=xx/\BxL wx b' (.int .i64 qq::cN y)/\Below w3.heap.size w3 wx/\w3.heap.size<=b'/\NdW wx w3.heap.size y/\(blkN y).Nodup)
    case first=>
     go_region_held3 (fun w'=>Below w3.heap.size w3 w'/\w'.cell? ⟨w1.heap.size,0,none⟩=some (.string (tx s))/\w'.cell? ⟨w1.heap.size,2,none⟩=some (.int .i64 t.arch))
      (refine⟨?_,c02.out _ ?_⟩<;>(repeat(first|with_reducible assumption|with_reducible exact Below.refl _ _|with_reducible refine bel_alloc ?_ _|with_reducible refine bel_drew ?_|(with_reducible refine bel_set ?_ (by dsimp only;omega) _))))
      (first
       |(go_at_call 82
         refine(CP.out _ (gl.out _ (bel_drew (Below.refl w3.heap.size w3)))).mono ?_;rintro e w' ⟨E4,y,hy,rfl,hN,hnd⟩;have B4:=ext_trans (bel_drew (Below.refl w3.heap.size w3)) E4;obtain⟨a1,a2⟩:=c02.out _ B4)
       |(go_at_call 82
         refine(CP.out _ (gl.out _ (bel_drew (bel_alloc (Below.refl w3.heap.size w3) _)))).mono ?_;rintro e w' ⟨E4,y,hy,rfl,hN,hnd⟩;have B4:=ext_trans (bel_drew (bel_alloc (Below.refl w3.heap.size w3) _)) E4;obtain⟨a1,a2⟩:=c02.out _ B4;have XN:=((BxL.new w3 #[.int .i64 0,.int .i64 0,.int .i64 0,.int .i64 0,.string ⟨#[]⟩,.int .i64 0,.slice none 0 0] 30).below (below_drewN _ 1)).below E4;have n0:=XN.get 0 _ rfl;have n1:=XN.get 1 _ rfl;have n2:=XN.get 2 _ rfl;have n3:=XN.get 3 _ rfl;have n4:=XN.get 4 _ rfl;have n5:=XN.get 5 _ rfl;have n6:=XN.get 6 _ rfl;have nf: ∀j,w'.frozen? ⟨w3.heap.size,j,none⟩=false:=fun j=>(E4.frozen (p:=⟨w3.heap.size,j,none⟩) (by simp)).trans (frz_new w3 _ _ j)
         have f0:=nf 0;have f1:=nf 1;have f2:=nf 2;have f3:=nf 3;have f4:=nf 4;have f5:=nf 5;have f6:=nf 6))
     all_goals
      go_wp2_with fail
      go_meet
     ·exact⟨w'.heap.size,y,rfl,rfl,rfl,hy,BxL.new _ _ _,(by repeat(first|with_reducible assumption|with_reducible exact Below.refl _ _|with_reducible refine bel_alloc ?_ _|with_reducible refine bel_drew ?_|(with_reducible refine bel_set ?_ (by first|exact Nat.le_refl _|exact B4.size) _))),B4.size,NdW.mono (Nat.le_refl w3.heap.size) (NdW.keep (al w' _) hN),hnd⟩
     ·refine⟨w3.heap.size,y,rfl,rfl,rfl,hy,((((((XN.set 0 (.int .i64 qq)).set 1 (.int .i64 y.kind)).set 2 (.int .i64 y.th.thread)).set 3 (.int .i64 y.th.reg)).set 4 (.string (tx y.th.loc))).set 5 (.int .i64 y.val)).set 6 (.slice y.a y.kids.length y.c),(by repeat(first|with_reducible assumption|with_reducible exact Below.refl _ _|with_reducible refine bel_alloc ?_ _|with_reducible refine bel_drew ?_|(with_reducible refine bel_set ?_ (by first|exact Nat.le_refl _|exact B4.size) _))),Nat.le_refl _,NdW.mono (B':=w3.heap.size) (by simp) (NdW.kept (r:=some w3.heap.size) (PutB.grown (b:=w3.heap.size) (by(repeat with_reducible refine PutB.put ?_ _ _);exact PutB.refl _ _)) hN (fun b hb e=>by have:=(hN.lt b hb).1;simp at e this;omega)),hnd⟩
    case rest=>
     obtain⟨b',y,rfl,rfl,rfl,hy,XB,B5,hb',hN,hnd⟩:=hcut;have RW:=HR.out.below (ext_trans EE.out B5);have RC:=RW.cond qq y;have x0:=XB.get 0 _ rfl;have x1:=XB.get 1 _ rfl;have x2:=XB.get 2 _ rfl;have x3:=XB.get 3 _ rfl;have x4:=XB.get 4 _ rfl;have x5:=XB.get 5 _ rfl;have x6:=XB.get 6 _ rfl;have q7:=RW.bx.get 7 _ rfl;have q8:=RW.bx.get 8 _ rfl;have q9:=RW.bx.get 9 _ rfl;have q10:=RW.bx.get 10 _ rfl;have q11:=RW.bx.get 11 _ rfl;have q12:=RW.bx.get 12 _ rfl;have q13:=RW.bx.get 13 _ rfl;have f7:=RW.frz 7;have f8:=RW.frz 8;have f9:=RW.frz 9;have f10:=RW.frz 10;have f11:=RW.frz 11;have f12:=RW.frz 12;have f13:=RW.frz 13;have ST:=hid ((step_below (bw:=w1.heap.size) (ext_trans EE.out B5)).trans RC.2);have HNW:=hid (NdW.mono EE.out.size (NdW.st hN RC.2 hrb));have RC:=hid RC.1;have hnd:=hid hnd;have hbr:b'≠w1.heap.size:=by omega
     clear RW XB B5 hN B0;go_wp2_with fail;exact bodyPost_ret (by simp[results,Tryz.results31,go_sem]) rfl (.inr ⟨qq,xx,y,HE.out,hy,rfl,ST.out,RC.out,HNW.out,hnd.out⟩)
theorem rstop_is(v:Value)(w:World):(Instr.typeAssert (.iface 65 v) 20 65 false).run Tryz.prog w= .ok v w:=by kernel_rfl
theorem rstop_0(n k:Int)(w:World):(Instr.field 65 (.agg #[.int .i64 n,.int .i64 k]) 0).run Tryz.prog w= .ok (.int .i64 n) w:=by kernel_rfl
theorem rstop_1(n k:Int)(w:World):(Instr.field 65 (.agg #[.int .i64 n,.int .i64 k]) 1).run Tryz.prog w= .ok (.int .i64 k) w:=by kernel_rfl
theorem read_idle(p q r:Addr)(w:World):
 CallsD Tryz.prog 26 #[.pointer (some p),.pointer (some q),.pointer (some r)] .returning w fun e u' w'=>e= .returned (.tuple #[])/\u'= .returning/\w'=w:=by
 refine callsD_of_wpS Tryz.func26 rfl fun c₀ cs hu=>?_
 apply wpS_seq;apply wpS_region;simp[wpOpsS,go_sem,recoverD,hu,Tryz.ntmps26,Exit.thenS];apply wpS_seq;apply wpS_region;simp[wpOpsS,go_sem,Exit.thenS];refine wpS_cond (t:=false) (by simp[Act.eval,Array.replicate]) ?_;simp only[Bool.false_eq_true,if_false];refine wpS_of_wp (wp_skip ?_);cases c₀
 simp_all [bodyPostS,results,Tryz.results26]
theorem read_stop(bp bq br:Nat)(n k:Int)(w:World)(older:List PanicEntry)(us:List Value)(x y:Value)(hl:us.length=12)
 (h1:BxL w bp us) (h2:w.cell? ⟨bq,0,none⟩=some x) (h3:w.cell? ⟨br,0,none⟩=some y) (f1: ∀j,w.frozen? ⟨bp,j,none⟩=false) (f2:w.frozen? ⟨bq,0,none⟩=false) (f3:w.frozen? ⟨br,0,none⟩=false)
 (n1:bp≠bq) (n2:bp≠br) (n3:bq≠br):
 CallsD Tryz.prog 26 #[.pointer (some ⟨bp,0,none⟩),.pointer (some ⟨bq,0,none⟩),.pointer (some ⟨br,0,none⟩)] (.panicking ({ v:=.iface 65 (.agg #[.int .i64 n,.int .i64 k]),recovered:=false }::older)) w fun e u' w'=>e= .returned (.tuple #[])/\u'= .panicking ({ v:=.iface 65 (.agg #[.int .i64 n,.int .i64 k]),recovered:=true }::older)/\
  (∀B,B<=bp->B<=bq->B<=br->Below B w w')/\BxL w' bp [.int .i64 0,.string ⟨#[]⟩,.string ⟨#[]⟩,.slice none 0 0,.slice none 0 0,.int .i64 0,.int .i64 0,.int .i64 0,.int .i64 0,.string ⟨#[]⟩,.int .i64 0,.slice none 0 0]/\w'.cell? ⟨bq,0,none⟩=some (.int .i64 n)/\w'.cell? ⟨br,0,none⟩=some (.int .i64 k):=by
 match us,hl with
 |[u0,u1,u2,u3,u4,u5,u6,u7,u8,u9,u10,u11],_=>
 have p0:=h1.get 0 _ rfl;have p1:=h1.get 1 _ rfl;have p2:=h1.get 2 _ rfl;have p3:=h1.get 3 _ rfl;have p4:=h1.get 4 _ rfl;have p5:=h1.get 5 _ rfl;have p6:=h1.get 6 _ rfl;have p7:=h1.get 7 _ rfl;have p8:=h1.get 8 _ rfl;have p9:=h1.get 9 _ rfl;have p10:=h1.get 10 _ rfl;have p11:=h1.get 11 _ rfl;refine callsD_of_wpS Tryz.func26 rfl fun c₀ cs hu=>?_
 apply wpS_seq;apply wpS_region;simp[wpOpsS,go_sem,recoverD,hu,Tryz.ntmps26,Exit.thenS];apply wpS_seq;apply wpS_region;simp[wpOpsS,go_sem,Exit.thenS];refine wpS_cond (t:=true) (by simp[Act.eval,Array.replicate]) ?_;simp only[if_true];refine wpS_of_wp ?_;have hx:=h1.1;have ta:=rstop_is;have tb:=rstop_0 n k;have tc:=rstop_1 n k;clear hl h1;have f1a:=f1 0;have f1b:=f1 1;have f1c:=f1 2;have f1d:=f1 3;have f1e:=f1 4;have f1f:=f1 5;have f1g:=f1 6;have f1h:=f1 7;have f1i:=f1 8;have f1j:=f1 9;have f1k:=f1 10;have f1l:=f1 11;refine(?_:Code.wp Tryz.prog _ _ ⟨#[.pointer (some ⟨bp,0,none⟩),.pointer (some ⟨bq,0,none⟩),.pointer (some ⟨br,0,none⟩),.iface 65 (.agg #[.int .i64 n,.int .i64 k]),.iface 65 (.agg #[.int .i64 n,.int .i64 k]),.iface 65 (.agg #[.int .i64 n,.int .i64 k]),.bool true,undef,undef,undef,undef,undef,undef,undef],[]⟩ w)
 go_big_region
 all_goals(try go_wp2_with fail)
 refine⟨rfl,_,rfl,.tuple #[],by simp[results,Tryz.results26],rfl,rfl,fun B b1 b2 b3=>?_,⟨by simpa using hx,fun j hj=>?_⟩,by simp[go_sem,h2],by simp[go_sem,h3]⟩
 ·(repeat first|with_reducible refine Below.setCell ?_ b1 _|with_reducible refine Below.setCell ?_ b2 _|with_reducible refine Below.setCell ?_ b3 _|with_reducible refine Below.drew ?_)
  exact Below.refl _ _
 ·have:j=0\/j=1\/j=2\/j=3\/j=4\/j=5\/j=6\/j=7\/j=8\/j=9\/j=10\/j=11:=by simp at hj;omega
  rcases this with rfl|rfl|rfl|rfl|rfl|rfl|rfl|rfl|rfl|rfl|rfl|rfl<;>simp[go_sem,p0,p1,p2,p3,p4,p5,p6,p7,p8,p9,p10,p11]
end Go.Proofs.YtkbbgjloifmmbaaGreatDoor
namespace Go.Proofs.YtkbbgjloifmmbaaGreatDoor
theorem name_le{s:Tx}(h:nameB s=true):s.length<=32:=by
 cases s with
 |nil=>cases h
 | cons c r=>
   unfold nameB at h;simp only[Bool.and_eq_true,decide_eq_true_eq]at h;simp only[List.length_cons];omega
def SmI(x:Ini):Prop:=(-2147483648<=x.thread/\x.thread<=2147483647)/\(-2147483648<=x.reg/\x.reg<=2147483647)/\x.loc.length<=32/\x.vloc.length<=32
theorem thingI_sm{arch:Int}{h:Tx}{x:Ini}(e:thingI arch h=some x):SmI x:=by
 unfold thingI at e
 split at e
 ·split at e
  ·rename_i hn
   cases e;exact⟨⟨by simp,by simp⟩,⟨by simp,by simp⟩,name_le hn,by simp⟩
  ·cases e
 ·split at e
  ·split at e
   ·rename_i n r hn hr
    split at e
    ·rename_i hb
     cases e;have h1:=(regOfA_some hr).1;have h2:regsN arch<=32:=by unfold regsN;split<;>decide
     exact⟨⟨by simp only;omega,by simp only;omega⟩,⟨by simp only;omega,by simp only;omega⟩,by simp,by simp⟩
    ·cases e
   ·cases e
  ·split at e
   ·rename_i hn
    cases e;exact⟨⟨by simp,by simp⟩,⟨by simp,by simp⟩,name_le hn,by simp⟩
   ·cases e
theorem valZ_sm{v l:Tx}{n:Int}(h:valZ v=some (l,n)):l.length<=32:=by
 unfold valZ at h
 split at h
 ·cases h;simp
 ·split at h
  ·rename_i hn;cases h;exact name_le hn
  ·cases h
theorem initR_sm{arch:Int}{s:Tx}{x:Ini}(h:initR arch s=some x):SmI x:=by
 unfold initR at h
 split at h
 ·cases h
 ·cases h1:thingI arch (trimT (s.takeWhile (· != 61)))with
  |none=>rw[h1,initC_no]at h;cases h
  | some y=>
    cases h2:valZ (trimT ((s.dropWhile (· != 61)).drop 1))with
    |none=>rw[h2,initC_none]at h;cases h
    | some p=>
      obtain⟨l,n⟩:=p;rw[h1,h2]at h;cases h;obtain⟨a,b,c,d⟩:=thingI_sm h1;exact⟨a,b,c,valZ_sm h2⟩
theorem partsP_sm{arch:Int}{N:Nat}: ∀{L:List Tx} {v:Tx} {acc l:List Ini},(∀x∈acc,SmI x)->partsP arch N L v acc= .ok l-> ∀x∈l,SmI x
 |[],v,acc,l,ha,h=>by cases h;exact ha
 | p::L,v,acc,l,ha,h=>by
   rw[partsP]at h
   split at h
   ·exact partsP_sm ha h
   ·split at h
    ·cases h
    ·rename_i y hy
     refine partsP_sm (fun x hx=>?_) h;rcases List.mem_append.1 hx with hx|hx
     ·exact ha x hx
     ·rcases List.mem_singleton.1 hx with rfl
      exact initR_sm hy
theorem initsP_sm{arch:Int}{N:Nat}{r r1:Tx}{l:List Ini}(h:initsP arch N r= .ok (l,r1)): ∀x∈l,SmI x:=by
 unfold initsP at h
 dsimp only at h
 split at h
 ·cases h
 ·split at h
  ·cases h
  ·rename_i m hm
   cases h;exact partsP_sm (fun x hx=>absurd hx (by simp)) hm
def SmC(i:Ins):Prop:=i.loc.length<=32/\i.label.length<=32
theorem checkX_sm{i:Ins}(h:checkX i=true):SmC i:=by
 unfold checkX at h;rw[Bool.and_eq_true,decide_eq_true_eq]at h;obtain⟨h1,h2⟩:=h;rw[h2];unfold okX at h1;unfold wantX SmC
 split at h1
 ·rename_i h0
  rw[if_pos h0];rw[Bool.and_eq_true]at h1;exact⟨name_le h1.1,by simp⟩
 ·rename_i h0
  rw[if_neg h0]
  split at h1
  ·rename_i h3
   rw[if_pos h3];rw[Bool.and_eq_true]at h1;exact⟨name_le h1.1,by simp⟩
  ·rename_i h3
   rw[if_neg h3]
   split at h1
   ·rename_i h4
    rw[if_pos h4];rw[Bool.and_eq_true]at h1;exact⟨name_le h1.1,by simp⟩
   ·rename_i h4
    rw[if_neg h4]
    split<;>exact⟨by simp,by simp⟩
theorem checkI_sm{i:Ins}(h:checkI i=true):SmC i:=by
 unfold checkI at h;simp only[Bool.and_eq_true,decide_eq_true_eq]at h;obtain⟨⟨⟨⟨h1,h2⟩, -⟩, -⟩, -⟩:=h
 have hl:i.op=11\/i.op=12->i.label.length<=32:=fun h0=>by
  unfold okI at h1;rw[if_neg (by omega),if_pos h0]at h1;exact name_le h1
 rw[h2];unfold wantI SmC
 repeat' split
 all_goals first
  |(refine⟨?_,?_⟩<;>(simp;done))
  |exact⟨Nat.zero_le _,hl (.inl (by assumption))⟩
  |exact⟨Nat.zero_le _,hl (.inr (by assumption))⟩
theorem insP_sm{arch:Int}{s:Tx}{i:Ins}(h:insP arch s=some i):SmC i:=by
 unfold insP at h
 split at h
 ·exact checkX_sm (parseX_check h)
 ·exact checkI_sm (parse_check h)
def SmR(l:List (List Ins)):Prop:= ∀r∈l,∀i∈r,SmC i
theorem cellsP_sm{arch:Int}{N:Nat}: ∀{L:List Tx} {v:Tx} {acc l:List (List Ins)},SmR acc->cellsP arch N L v acc= .ok l->SmR l
 |[],v,acc,l,ha,h=>by cases h;exact ha
 |c::L,v,[],l,ha,h=>by cases h;exact ha
 | c::L,v,x::acc,l,ha,h=>by
   have ha2:SmR acc:=fun r hr=>ha r (List.mem_cons_of_mem _ hr)
   rw[cellsP]at h
   split at h
   ·split at h
    ·cases h
    ·rename_i r hr
     cases h;intro y hy;rcases List.mem_cons.1 hy with rfl|hy
     ·exact ha _ (List.mem_cons_self ..)
     ·exact cellsP_sm ha2 hr y hy
   ·split at h
    ·cases h
    ·rename_i i hi
     split at h
     ·cases h
     ·rename_i r hr
      cases h;intro y hy;rcases List.mem_cons.1 hy with rfl|hy
      ·intro j hj
       rcases List.mem_append.1 hj with hj|hj
       ·exact ha _ (List.mem_cons_self ..) j hj
       ·rcases List.mem_singleton.1 hj with rfl
        exact insP_sm hi
      ·exact cellsP_sm ha2 hr y hy
theorem rowsP_sm{arch:Int}{N:Nat}: ∀{n:Nat} {r:Tx} {acc l:List (List Ins)} {r1:Tx},SmR acc->rowsP arch N n r acc= .ok (l,r1)->SmR l
 |0,r,acc,l,r1,ha,h=>by cases h;exact ha
 | n+1,r,acc,l,r1,ha,h=>by
   rw[rowsP]at h
   try dsimp only at h
   split at h
   ·cases h;exact ha
   ·split at h
    ·cases h
    ·split at h
     ·cases h
     ·rename_i m hm
      exact rowsP_sm (cellsP_sm ha hm) h
theorem tableP_sm{arch:Int}{N:Nat}{r r1:Tx}{l:List (List Ins)}(h:tableP arch N r= .ok (l,r1)):SmR l:=by
 unfold tableP at h
 dsimp only at h
 split at h
 ·cases h
 ·refine rowsP_sm (fun x hx=>?_) h
  rw[List.eq_of_mem_replicate hx];intro i hi;cases hi
theorem headP_arch2{N:Nat}{r n r1:Tx}{a:Int}(h:headP N r= .ok (a,n,r1)):archB a=true/\n.length<=r.length:=by
 unfold headP at h
 dsimp only at h
 split at h
 ·cases h
 ·rename_i w m hw
  split at h
  ·cases h
  ·rename_i b hb
   cases h;refine⟨?_,?_⟩
   ·unfold archW at hb
    split at hb
    ·cases hb;rfl
    ·split at hb
     ·cases hb;rfl
     ·cases hb
   ·unfold twoL at hw
    dsimp only at hw
    split at hw
    ·cases hw
    ·cases hw
     have h1:=(List.dropWhile_suffix (l:=(lineL (sgnL r)).dropWhile nb) blankC).length_le;have h2:=(List.dropWhile_suffix (l:=lineL (sgnL r)) nb).length_le
     have h3:(lineL (sgnL r)).length<=(sgnL r).length:=by
      obtain⟨b,h, -⟩:=rdr_app ((sgnL r).takeWhile (· != 10));have h4:=congrArg List.length h;have h5:=(List.takeWhile_prefix (l:=sgnL r) (· != 10)).length_le;rw[List.length_append]at h4;unfold lineL;omega
     have h6:=sgnL_len r;omega
theorem cycleP_le{N:Nat}{r c r1:Tx}(h:cycleP N r= .ok (c,r1)):c.length<=r.length:=by
 unfold cycleP at h
 dsimp only at h
 have h3:(lineL (sgnL r)).length<=(sgnL r).length:=by
  obtain⟨b,h, -⟩:=rdr_app ((sgnL r).takeWhile (· != 10));have h4:=congrArg List.length h;have h5:=(List.takeWhile_prefix (l:=sgnL r) (· != 10)).length_le;rw[List.length_append]at h4;unfold lineL;omega
 have h6:=sgnL_len r
 split at h
 ·cases h;simp
 ·split at h
  ·cases h
  ·cases h
   have h7:(trimT ((lineL (sgnL r)).drop 1).dropLast).length<=(((lineL (sgnL r)).drop 1).dropLast).length:=trimT_length _;rw[List.length_dropLast,List.length_drop]at h7;omega
theorem splitC_few(c:UInt8): ∀s:Tx,(splitC c s).length<=s.length+1
 |[]=>by simp[splitC]
 | b::r=>by
   have ih:=splitC_few c r;rw[splitC];split
   ·simp only[List.length_cons];omega
   ·split
    ·simp
    ·rename_i x t h
     rw[h]at ih;simp only[List.length_cons]at ih ⊢; omega
theorem partsP_few{arch:Int}{N:Nat}: ∀{L:List Tx} {v:Tx} {acc l:List Ini},partsP arch N L v acc= .ok l->l.length<=acc.length+L.length
 |[],v,acc,l,h=>by cases h;simp
 | p::L,v,acc,l,h=>by
   rw[partsP]at h
   split at h
   ·have:=partsP_few h
    simp only[List.length_cons];omega
   ·split at h
    ·cases h
    ·have:=partsP_few h
     simp only[List.length_cons,List.length_append,List.length_nil]at this ⊢; omega
theorem initsP_few{arch:Int}{N:Nat}{r r1:Tx}{l:List Ini}(h:initsP arch N r= .ok (l,r1)):l.length<=r.length+1:=by
 unfold initsP at h
 dsimp only at h
 split at h
 ·cases h
 ·split at h
  ·cases h
  ·rename_i m hm
   cases h;have h1:=partsP_few hm;have h2:=splitC_few 59 (((sgnL r).takeWhile (· != 125)).drop 1);have h3:=(List.takeWhile_prefix (l:=sgnL r) (· != 125)).length_le;have h4:=sgnL_len r;rw[List.length_drop]at h2;simp only[List.length_nil]at h1;omega
def FewR(n k:Nat)(l:List (List Ins)):Prop:=l.length<=n/\ ∀r∈l,r.length<=k
theorem cellsP_few{arch:Int}{N n k:Nat}: ∀{L:List Tx} {v:Tx} {acc l:List (List Ins)},FewR n k acc->cellsP arch N L v acc= .ok l->FewR n (k+1) l
 |[],v,acc,l,ha,h=>by cases h;exact⟨ha.1,fun r hr=>Nat.le_succ_of_le (ha.2 r hr)⟩
 |c::L,v,[],l,ha,h=>by cases h;exact⟨Nat.zero_le _,fun r hr=>by cases hr⟩
 | c::L,v,x::acc,l,ha,h=>by
   have h0:acc.length+1<=n:=ha.1;have ha2:FewR (n-1) k acc:=⟨by omega,fun r hr=>ha.2 r (List.mem_cons_of_mem _ hr)⟩;have hx:=ha.2 x (List.mem_cons_self ..);rw[cellsP]at h
   split at h
   ·split at h
    ·cases h
    ·rename_i r hr
     cases h;obtain⟨i1,i2⟩:=cellsP_few ha2 hr;refine⟨by simp only[List.length_cons];omega,fun y hy=>?_⟩;rcases List.mem_cons.1 hy with rfl|hy
     ·omega
     ·exact i2 y hy
   ·split at h
    ·cases h
    ·split at h
     ·cases h
     ·rename_i r hr
      cases h;obtain⟨i1,i2⟩:=cellsP_few ha2 hr;refine⟨by simp only[List.length_cons];omega,fun y hy=>?_⟩;rcases List.mem_cons.1 hy with rfl|hy
      ·simp only[List.length_append,List.length_cons,List.length_nil];omega
      ·exact i2 y hy
theorem rowsP_few{arch:Int}{N m:Nat}: ∀{n k:Nat} {r:Tx} {acc l:List (List Ins)} {r1:Tx},FewR m k acc->rowsP arch N n r acc= .ok (l,r1)->FewR m (k+n) l
 |0,k,r,acc,l,r1,ha,h=>by cases h;exact ha
 | n+1,k,r,acc,l,r1,ha,h=>by
   rw[rowsP]at h
   try dsimp only at h
   split at h
   ·cases h;exact⟨ha.1,fun r hr=>Nat.le_trans (ha.2 r hr) (Nat.le_add_right _ _)⟩
   ·split at h
    ·cases h
    ·split at h
     ·cases h
     ·rename_i y hy
      obtain⟨i1,i2⟩:=rowsP_few (cellsP_few ha hy) h;exact⟨i1,fun r hr=>by have:=i2 r hr;omega⟩
theorem tableP_few{arch:Int}{N:Nat}{r r1:Tx}{l:List (List Ins)}(h:tableP arch N r= .ok (l,r1)):FewR (r.length+1) (r.length+1) l:=by
 unfold tableP at h
 dsimp only at h
 split at h
 ·cases h
 ·have h1:(cellsL (sgnL r)).length<=r.length+1:=by
   have h2:=splitC_few 124 (lineL (sgnL r)).dropLast
   have h3:(lineL (sgnL r)).length<=(sgnL r).length:=by
    obtain⟨b,h, -⟩:=rdr_app ((sgnL r).takeWhile (· != 10));have h4:=congrArg List.length h;have h5:=(List.takeWhile_prefix (l:=sgnL r) (· != 10)).length_le;rw[List.length_append]at h4;unfold lineL;omega
   have h6:=sgnL_len r;rw[List.length_dropLast]at h2;unfold cellsL;omega
  have h7:FewR (r.length+1) 0 (List.replicate (cellsL (sgnL r)).length ([]:List Ins)):=⟨by rw[List.length_replicate];exact h1,fun x hx=>by rw[List.eq_of_mem_replicate hx];exact Nat.le_refl _⟩;have:=rowsP_few h7 h
  rwa[Nat.zero_add]at this
end Go.Proofs.YtkbbgjloifmmbaaGreatDoor

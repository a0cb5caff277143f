/- What ReadBackP leans on, part 43. -/
import Derived.Test.YtkbbgjloifmmbaaGreatDoorRb41
import Derived.Test.YtkbbgjloifmmbaaGreatDoorRb42
set_option linter.unusedVariables false
set_option maxRecDepth 100000
set_option maxHeartbeats 6400000
namespace Go.Proofs.YtkbbgjloifmmbaaGreatDoor
open _root_.Go.Proofs.Tryz
open _root_.Go.Op renaming stringOp->anY
open _root_.Go.Value renaming string->aoM
open _root_.List renaming mem_of_getElem?->aou,getElem?_eq_getElem->amK
open _root_.Go.Lib renaming itoa->anj
open _root_.Bool renaming and_eq_true->am6
open _root_.Go.Calls renaming regrown_of->an1
open Go.RowKit Go.Sort
def yV(af:Int)(x:aF):Tx:=if x.thread= -1 then x.loc else anj x.thread++[58]++kS af x.au
def sJ(x:aF):Tx:=if x.aE=[]then anj x.n else x.aE
theorem Q9(af:Int)(x:aF):dI af x=yV af x++[61]++sJ x++[59,10]:=rfl
theorem ads(l:Tx)(b:Bool)(h:(tx l).toList.isEmpty=b):(b=true->l=[])/\(b=false->l≠[]):=by
 rw[aW]at h;subst h;cases l<;>simp
theorem bW{w0:World}{l:Tx}(s:Tx){w':World}(hE:Below w0.heap.size w0 w')(hb:bY w' w0.heap.size w0.heap.size bT [] l)(hl:l.length+s.length<=140737488355328):
 Calls prog 56 #[.pointer (some ⟨w0.heap.size,0,none⟩),.string (tx s)] w' fun e w''=>(e= .returned (.tuple #[.int .i64 s.length,.nilIface])/\bY w'' w0.heap.size w0.heap.size bT [] (l++s))/\Below w0.heap.size w0 w'':=
 (xA w0.heap.size w0.heap.size bT [] l s w' zW hb hl hE.size).mono fun e w'' ⟨h1,h2,h3,_⟩=>⟨⟨h1,h2⟩,hE.trans h3⟩
theorem YE{w0:World}{l:Tx}(s:Tx){w':World}(hE:Below w0.heap.size w0 w')(hb:bY w' w0.heap.size w0.heap.size bT [] l)(hl:l.length+s.length<=140737488355328):
 Calls prog 56 #[.pointer (some ⟨w0.heap.size,0,none⟩),.string (tx s)] w' fun e w''=>(e= .returned (.tuple #[.int .i64 s.length,.nilIface])/\bY w'' w0.heap.size w0.heap.size bT [] (l++s))/\Below w0.heap.size w0 w''/\Lib.OthersKept dR (some w0.heap.size) w' w'':=
 (xA w0.heap.size w0.heap.size bT [] l s w' zW hb hl hE.size).mono fun e w'' ⟨h1,h2,h3,h4⟩=>⟨⟨h1,h2⟩,hE.trans h3,h4⟩
theorem Own.others{w w':World}{B E size n c b:Nat}{a:Option Addr}{xs:List Value}(h:Own w B E size a n c xs)(hk:Lib.OthersKept dR (Option.some b) w w')(hb:b<B)(hE:E≠dR):Own w' B E size a n c xs:=by
 obtain⟨h1,h2⟩:=h;refine⟨h1,?_⟩;rcases h2 with⟨h2,h0⟩|⟨g,cap,cur,hv,tJ,hh,r⟩
 ·exact .inl ⟨h2,h0⟩
 ·exact .inr ⟨g,cap,cur,hv,tJ,hk g _ hh (by simp;omega) (fun c fz e=>by cases e;exact hE rfl),r⟩
theorem abh(t:ak)(w:World)(h:dw w t)(g:Gl w):Calls prog 23 #[vT t] w (ax w (.tuple #[.string (tx (iF t).1),.int .i64 (iF t).2])):=by
 have A:=al w (bC t);have b0:=eG.new w t;have HI:=hid (h.keep A);have HA:=hid A;have HG:=hid (g.below A);have CH:=Pg t _ (h.keep A);obtain⟨r,hr⟩: ∃r,bI t=r:=⟨_,rfl⟩;rw[hr]at CH;have CH:=hid CH;have HR:=hid hr;clear h A hr g;go_in
 go_upto_region 1 with(fail)
 generalize w.alloc (bC t)=W1 at*;obtain⟨c0,c1,c2,c3,c4,c5,c6,c7,c8,c9,c10,c11⟩:=b0.cells;go_wp2_with fail;refine CH.out.mono ?_;rintro e w2 ⟨rfl,E⟩;clear c0 c1 c2 c3 c4 c5 c6 c7 c8 c9 c10 c11 CH
 by_cases h0:r=0
 ·subst h0
  have G:=hid (Good.of HR.out);have b2:=b0.below E;have zy:=hid (HI.out.keep E);have nB:=hid (HG.out.below E);have HW:=hid (HA.out.trans (E.mono HA.out.size));have F0:=al w2 (.cells #[.pointer none,.slice none 0 0] bT);have B0:bY (w2.alloc (.cells #[.pointer none,.slice none 0 0] bT)) w2.heap.size w2.heap.size bT [] []:=bY.new w2 bT [];clear b0 HI HG E HA
  go_upto_region 6 with(fail)
  generalize w2.alloc (.cells #[.pointer none,.slice none 0 0] bT)=W3 at*;obtain⟨c0,c1,c2,c3,c4,c5,c6,c7,c8,c9,c10,c11⟩:=(b2.below F0).cells
  go_upto_if 22 with(fail)
  go_cut [6] (fun x wx=>x= .string (tx (je t))/\wx=W3)
  case first=>
   by_cases ha:t.af=2
   ·have z:(t.af==2)=true:=by simp;exact ha
    have HZ:=hid (show je t=[82,73,83,67,86,32] by unfold je;rw[if_pos ha]);clear ha;go_wp2_with fail
    go_meet
    exact⟨congrArg aoM (by rw[HZ.out];rfl),rfl⟩
   ·have z:(t.af==2)=false:=by simp;exact ha
    have HZ:=hid (show je t=[88,56,54,32] by unfold je;rw[if_neg ha]);clear ha;go_wp2_with fail
    go_meet
    exact⟨congrArg aoM (by rw[HZ.out];rfl),rfl⟩
  case rest=>
   obtain⟨rfl,rfl⟩:=hcut;have hl0:=Qn t
   have hname:t.name.length<=1024:=by
    have:=G.out.title;unfold eW at this;simp only[am6,decide_eq_true_eq]at this;exact this.2.1
   have Ql:t.aC.length<=262144:=by
    have:=G.out.gC;unfold eY at this;simp only[am6,decide_eq_true_eq]at this;exact this.1
   have k1: ∀w,(anY .add (tx (je t)) (tx t.name)).run prog w= .ok (.string (tx (je t++t.name))) w:=cQ _ _ (by omega);have k2: ∀w,(anY .add (tx (je t++t.name)) ⟨#[10]⟩).run prog w= .ok (.string (tx (rW t))) w:=cQ (je t++t.name) [10] (by simp;omega);have hh:=IJ G.out.title;obtain⟨hd,rZ⟩: ∃hd,rW t=hd:=⟨_,rfl⟩;rw[rZ]at k2 hh;have Gd:=hid rZ;have WR:=hid (bW hd F0 B0 (by simp;omega));clear rZ;go_wp2_with fail;refine WR.out.mono ?_;rintro e w4 ⟨⟨rfl,B1⟩,F1⟩;clear k1 k2 WR F0 B0 c0 c1 c2 c3 c4 c5 c6 c7 c8 c9 c10 c11;obtain⟨c0,c1,c2,c3,c4,c5,c6,c7,c8,c9,c10,c11⟩:=(b2.below F1).cells;rw[List.nil_append]at B1
   go_upto_if 31 with(fail)
   go_cut [6] (fun x wx=>bY wx w2.heap.size w2.heap.size bT [] (hd++jc t)/\Below w2.heap.size w2 wx)
   case first=>
    have HY:t.aC≠[]->hd++jc t=hd++([34]++t.aC++[34,10]):=fun hc=>by unfold jc;rw[if_neg hc]
    have HN:t.aC=[]->hd++jc t=hd:=fun hc=>by unfold jc;rw[if_pos hc];simp
    have HE: ∀b,(!(tx t.aC).toList.isEmpty)=b->(b=true->t.aC≠[])/\(b=false->t.aC=[]):=fun b hb=>by
     rw[aW]at hb;subst hb;cases hq:t.aC with
     |nil=>simp
     |cons a r=>simp
    have k1: ∀w,(anY .add ⟨#[34]⟩ (tx t.aC)).run prog w= .ok (.string (tx ([34]++t.aC))) w:=cQ [34] t.aC (by simp;omega);have k2: ∀w,(anY .add (tx ([34]++t.aC)) ⟨#[34,10]⟩).run prog w= .ok (.string (tx ([34]++t.aC++[34,10]))) w:=cQ ([34]++t.aC) [34,10] (by simp;omega);obtain⟨s1,hs1⟩: ∃s1,[34]++t.aC=s1:=⟨_,rfl⟩;have ams:s1.length<=262145:=by rw[<-hs1];simp;omega
    rw[hs1]at k1 k2 HY;obtain⟨s2,hs2⟩: ∃s2,s1++[34,10]=s2:=⟨_,rfl⟩;have amt:s2.length<=262147:=by rw[<-hs2];simp;omega
    rw[hs2]at k2 HY;have WR:=hid (bW s2 F1 B1 (by omega));have HY:=hid HY;have HN:=hid HN;have HE:=hid HE;clear hs1 hs2;go_wp2_with fail
    ·have HB:=hid (HE.out _ ‹(!(tx t.aC).toList.isEmpty)=true›)
     refine WR.out.mono ?_;rintro e w5 ⟨⟨rfl,B2⟩,F2⟩;have HK:=hid (show bY w5 w2.heap.size w2.heap.size bT [] (hd++jc t) by rw[HY.out (HB.out.1 rfl)];exact B2);go_wp2_with fail
     go_meet
     exact⟨HK.out,F2⟩
    ·have HB:=hid (HE.out _ ‹(!(tx t.aC).toList.isEmpty)=false›)
     have HK:=hid (show bY w4 w2.heap.size w2.heap.size bT [] (hd++jc t) by rw[HN.out (HB.out.2 rfl)];exact B1)
     go_meet
     exact⟨HK.out,F1⟩
   case rest=>
    obtain⟨B2,F2⟩:=hcut;have rS:=Ht G.out.gC;have hpl:=Uq G.out.title G.out.gC;have WR:=hid (bW [123,10] F2 B2 (by simp;omega));rw[show hd++jc t++[123,10]=pG t by unfold pG;rw[Gd.out]]at WR;obtain⟨p0,gU⟩: ∃p0,pG t=p0:=⟨_,rfl⟩;rw[gU]at WR hpl;have HP:=hid gU;have qV:=hid G.out.inits;clear gU c0 c1 c2 c3 c4 c5 c6 c7 c8 c9 c10 c11;go_wp2_with fail;refine WR.out.mono ?_;rintro e w6 ⟨⟨rfl,B3⟩,F3⟩;clear WR B2 F2 B1 F1;obtain⟨ni,hni⟩: ∃ni,t.init.length=ni:=⟨_,rfl⟩;have acA:ni<=1024:=by rw[<-hni];exact G.out.Ji
    have oz:=hid hni;obtain⟨c0,c1,c2,c3,c4,c5,c6,c7,c8,c9,c10,c11⟩:=(b2.below F3).cells;rw[hni]at c3;clear hni;go_wp2_with fail;clear c0 c1 c2 c3 c4 c5 c6 c7 c8 c9 c10 c11
    go_loopw [41] (fun i wr=> ∃(k:Nat) (l:Tx),k<=ni/\i= .int .i64 k/\l.length<=365600/\Below w2.heap.size w2 wr/\bY wr w2.heap.size w2.heap.size bT [] l/\Hid (l=p0++lM t k)) (fun i _=>ni-(intOf i).toNat)
    case atStart=>exact⟨0,p0,by omega,rfl,by omega,F3,B3,by simp[Hid,Rg]⟩
    case round=>
     clear F3 B3;obtain⟨k,l,hk,rfl,hl,F,B,HL⟩:=hrel
     by_cases hlt:k<ni
     ·obtain⟨x,hx⟩: ∃x,t.init[k]? =some x:=⟨_,amK (by rw[oz.out];exact hlt)⟩
      obtain⟨mE,p1,p2,p3,p4⟩:=(zy.out.init.below F).qi hx;have ix:=zy.out.init.idx qj lB k (by rw[oz.out];exact hlt) t.ic;rw[oz.out]at ix;have Gb:=hid (G.out.first x (aou hx));have hil:=qV.out (k+1);have hst:=Rf hx;have hxl:=Rc G.out.af G.out.c16 Gb.out;rw[Q9]at hxl;have HT:=hid (show l++(yV t.af x++[61]++sJ x++[59,10])=p0++lM t (k+1) by rw[HL.out,hst,Q9];simp);have hls:(l++(yV t.af x++[61]++sJ x++[59,10])).length<=365600:=by rw[HT.out];simp;omega
      have HWI:=hid (zy.out.wide x (aou hx));clear hx hst hil;have A4:=al wr (eK x);have x0:aG (wr.alloc (eK x)) wr.heap.size (fV x):=aG.new _ _ _
      go_upto_region 15 with(fail)
      generalize wr.alloc (eK x)=W4 at*;have B4:=B.below A4;have F4:=F.trans (A4.mono F.size);have uO:=hid x0;clear mE p1 p2 p3 p4 ix A4 F B;obtain⟨mE,p1,p2,p3,p4⟩:=wR.cells x0;obtain⟨c0, -⟩:=(b2.below F4).cells
      go_upto_if 49 with(fail)
      go_cut [9] (fun y wx=>y= .string (tx (yV t.af x))/\Below W4.heap.size W4 wx)
      case first=>
       rcases Ap G.out.af G.out.c16 Gb.out with⟨loc,nn,rfl,-, -⟩|⟨i,kk,v,nn,rfl,aci,-, Jd, -⟩
       ·go_wp2_with fail
        go_meet
        exact⟨rfl,Below.refl _ _⟩
       ·have z:((i:Int) != -1)=true:=bne_iff_ne.2 (by omega)
        have HZ:=hid (show yV t.af ⟨i,kk,[],v,nn⟩=anj (i:Int)++[58]++kS t.af kk from if_neg (show ¬((i:Int)= -1)from by omega));have hq:=Jj i aci;have hr:=KG Jd;have CA:=hid (fun(d:Nat) (os:Array Obj)=>jV (i:Int) (by omega) (by omega) (grow (redrawn W4 d) os) (nB.out.below (F4.trans ((below_regrown W4 d os).mono F4.size))));have CB:=hid (fun(d:Nat) (os:Array Obj)=>abi t.af kk Jd (grow (redrawn W4 d) os) (nB.out.below (F4.trans ((below_regrown W4 d os).mono F4.size))));obtain⟨q,QH⟩: ∃q,anj (i:Int)=q:=⟨_,rfl⟩;obtain⟨r,QK⟩: ∃r,kS t.af kk=r:=⟨_,rfl⟩;rw[QH]at CA hq HZ;rw[QK]at CB hr HZ;have k1: ∀w,(anY .add (tx q) ⟨#[58]⟩).run prog w= .ok (.string (tx (q++[58]))) w:=cQ q [58] (by simp;omega);have k2: ∀w,(anY .add (tx (q++[58])) (tx r)).run prog w= .ok (.string (tx (q++[58]++r))) w:=cQ (q++[58]) r (by simp;omega);obtain⟨s1,hs1⟩: ∃s1,q++[58]=s1:=⟨_,rfl⟩;rw[hs1]at k1 k2 HZ;obtain⟨s2,hs2⟩: ∃s2,s1++r=s2:=⟨_,rfl⟩;rw[hs2]at k2 HZ;clear hs1 hs2 QH QK Jd;go_wp2_with fail;have cA:=fun(d:Nat) (os:Array Obj)=>an1 (kB (CA.out d os))
        have cB:=fun(d:Nat) (os:Array Obj)=>an1 (kB (CB.out d os))
        have c0:=cell_regrown c0;have mE:=cell_regrown mE;have p1:=cell_regrown p1;have p2:=cell_regrown p2;have p3:=cell_regrown p3;have p4:=cell_regrown p4;refine wp_region_quiet_below (by kernel_rfl) (by kernel_rfl) ?_
        repeat(go_big_quiet_step (first|exact cA _ _|exact cB _ _))
        refine wpQuiet_nil ?_;intro _ hw';obtain⟨⟨dq,aV⟩,hw''⟩:=hw';subst hw'';have EQ:=hid (below_regrown W4 dq aV);go_wp2_with fail
        go_meet
        exact⟨congrArg aoM (by rw[HZ.out]),EQ.out⟩
      case rest=>
       obtain⟨rfl,E4⟩:=hcut;have B5:=B4.below E4;have F5:=F4.trans (E4.mono F4.size);clear mE p1 p2 p3 p4 c0;obtain⟨mE,p1,p2,p3,p4⟩:=wR.cells (uO.out.below E4);have XR:=hid (uO.out.below E4);clear uO E4 B4 F4
       go_upto_if 64 with(fail)
       go_cut [10] (fun y wx=>y= .string (tx (sJ x))/\Below wc.heap.size wc wx)
       case first=>
        have HE:=hid (ads x.aE);have HY:x.aE=[]->sJ x=anj x.n:=fun h=>by unfold sJ;rw[if_pos h]
        have HN:x.aE≠[]->sJ x=x.aE:=fun h=>by unfold sJ;rw[if_neg h]
        have FV:x.aE=[]-> -9223372036854775808<=x.n/\x.n<=9223372036854775807:=fun h=>by
         rcases Ap G.out.af G.out.c16 Gb.out with⟨loc,nn,rfl,-, h2⟩|⟨i,kk,v,nn,rfl,-, -, -, h3⟩
         ·have:=nZ h2;dsimp only;omega
         ·rcases h3 with⟨h4,-, -⟩|⟨-, h5⟩
          ·exact absurd h h4
          ·have:=nZ h5;dsimp only;omega
        have IT:=hid (fun(h:x.aE=[])=>jV x.n (FV h).1 (FV h).2 wc (nB.out.below F5));have HY:=hid HY;have HN:=hid HN;clear FV;go_wp2_with fail
        ·have HB:=hid ((HE.out _ ‹(tx x.aE).toList.isEmpty=true›).1 rfl)
         refine(IT.out HB.out).mono ?_;rintro e w7 ⟨rfl,E7⟩;have Xg:=hid E7;go_wp2_with fail
         go_meet
         exact⟨congrArg aoM (by rw[HY.out HB.out]),Xg.out⟩
        ·have HB:=hid ((HE.out _ ‹(tx x.aE).toList.isEmpty=false›).2 rfl)
         go_meet
         exact⟨congrArg aoM (by rw[HN.out HB.out]),Below.refl _ _⟩
       case rest=>
        obtain⟨rfl,E6⟩:=hcut;have B6:=B5.below E6;have F6:=F5.trans (E6.mono F5.size);clear mE p1 p2 p3 p4 XR E6 B5 F5;obtain⟨T,hT⟩: ∃T,yV t.af x=T:=⟨_,rfl⟩;obtain⟨D,hD⟩: ∃D,sJ x=D:=⟨_,rfl⟩;rw[hT,hD]at HT hls hxl;rw[hT,hD];have k1: ∀w,(anY .add (tx T) ⟨#[61]⟩).run prog w= .ok (.string (tx (T++[61]))) w:=cQ T [61] (by simp at hxl ⊢; omega);have k2: ∀w,(anY .add (tx (T++[61])) (tx D)).run prog w= .ok (.string (tx (T++[61]++D))) w:=cQ (T++[61]) D (by simp at hxl ⊢; omega);have k3: ∀w,(anY .add (tx (T++[61]++D)) ⟨#[59,10]⟩).run prog w= .ok (.string (tx (T++[61]++D++[59,10]))) w:=cQ (T++[61]++D) [59,10] (by simp at hxl ⊢; omega);obtain⟨s1,hs1⟩: ∃s1,T++[61]=s1:=⟨_,rfl⟩;rw[hs1]at k1 k2 k3 HT hls hxl;obtain⟨s2,hs2⟩: ∃s2,s1++D=s2:=⟨_,rfl⟩;rw[hs2]at k2 k3 HT hls hxl;obtain⟨s3,hs3⟩: ∃s3,s2++[59,10]=s3:=⟨_,rfl⟩;rw[hs3]at k3 HT hls hxl;have WR:=hid (bW s3 F6 B6 (by omega));obtain⟨l2,bN⟩: ∃l2,l++s3=l2:=⟨_,rfl⟩;rw[bN]at WR HT hls;clear hT hD hs1 hs2 hs3 bN;go_wp2_with fail;refine WR.out.mono ?_;rintro e w8 ⟨⟨rfl,B7⟩,F7⟩;go_wp2_with fail
        go_roundw
        case rel=>exact⟨k+1,l2,by omega,by go_num,hls,F7,B7,HT⟩
        case measure=>simp[intOf];omega
     ·have hkn:k=ni:=by omega
      have WR:=hid (bW [125,10] F B (by simp;omega));obtain⟨p1,r9⟩: ∃p1,l++[125,10]=p1:=⟨_,rfl⟩;rw[r9]at WR;have acC:p1.length<=365602:=by rw[<-r9];simp;omega
      obtain⟨m,hm⟩: ∃m,(ig t).length=m:=⟨_,rfl⟩;have HM:=hid hm
      have acv:m<=257:=by
       rw[<-hm,yT];have:=AM G.out.Ab;rw[vD];omega
      have Gg:=hid (show p1=p0++lM t t.init.length++[125,10] by rw[<-r9,HL.out,hkn,oz.out]);have CD:=hid (show mX t=p1++kC t m++eF t.af t.q t.node++[10] by rw[Pm,Gg.out,HP.out,<-yT,HM.out]);have hrl:=Vt G.out.c16 G.out.Ab;have xd:=hid hrl;clear hkn r9 hrl hl hm;go_wp2_with fail;refine WR.out.mono ?_;rintro e w7 ⟨⟨rfl,B7⟩,F7⟩;clear WR F B;have sP:=hid (abk t G.out.c1 G.out.c16 G.out.Ab w7 (zy.out.keep F7) (nB.out.below F7));obtain⟨c0,c1,c2,c3,c4,c5,c6,c7,c8,c9,c10,c11⟩:=(b2.below F7).cells;go_wp2_with fail;refine sP.out.mono ?_;rintro e w8 ⟨la,lc,rfl,o,E8⟩;rw[HM.out]at o⊢;have hw7:w2.heap.size<w7.heap.size:=B7.base.2;have B8:=B7.below E8;have F8:=F7.trans (E8.mono F7.size);clear E8 B7 F7 sP c0 c1 c2 c3 c4 c5 c6 c7 c8 c9 c10 c11;go_wp2_with fail
      go_loopw [80] (fun i wr=> ∃(j:Nat) (l:Tx),j<=m/\i= .int .i64 j/\l.length<=910000/\Below w2.heap.size w2 wr/\bh wr w7.heap.size la m lc (ig t)/\bY wr w2.heap.size w2.heap.size bT [] l/\Hid (l=p1++kC t j)) (fun i _=>m-(intOf i).toNat)
      case atStart=>exact⟨0,p1,by omega,rfl,by omega,F8,o,B8,by simp[Hid,Vv]⟩
      case round=>
       clear F8 B8 o;obtain⟨j,l,hj,rfl,hl,F,o,B,wW⟩:=hrel
       by_cases hjt:j<m
       ·obtain⟨s,hs⟩: ∃s,(ig t)[j]? =some s:=⟨_,amK (by rw[HM.out];exact hjt)⟩
        have TX:=bh.kY o (by rw[HM.out];omega);have mE:=TX.at hs;have ix:=TX.idx j (by rw[HM.out];exact hjt) lc;rw[HM.out]at ix;have nV:=Lb G.out.c16 (aou hs);have k2: ∀w,(anY .add (tx s) ⟨#[10]⟩).run prog w= .ok (.string (tx (s++[10]))) w:=cQ s [10] (by simp;omega);have HT:=hid (show l++(s++[10])=p1++kC t (j+1) by rw[wW.out,Vu hs];simp);have hrl:=xd.out (j+1);have cV:(l++(s++[10])).length<=910000:=by rw[HT.out];simp;omega
        obtain⟨s1,hs1⟩: ∃s1,s++[10]=s1:=⟨_,rfl⟩;rw[hs1]at k2 HT cV;have WR:=hid (YE s1 F B (by rw[List.length_append]at cV;omega));obtain⟨l2,bN⟩: ∃l2,l++s1=l2:=⟨_,rfl⟩;rw[bN]at WR HT cV;clear hs hs1 bN TX hrl nV;go_wp2_with fail;refine WR.out.mono ?_;rintro e w9 ⟨⟨rfl,B9⟩,F9,K9⟩;have o9:=Own.others o K9 hw7 (by decide);clear K9 o F B mE WR;go_wp2_with fail
        go_roundw
        case rel=>exact⟨j+1,l2,by omega,by go_num,cV,F9,o9,B9,HT⟩
        case measure=>simp[intOf];omega
       ·have AQ:j=m:=by omega
        obtain⟨c0,c1,c2,c3,c4,c5,c6,c7,c8,c9,c10,c11⟩:=(b2.below F).cells;have PC:=hid (aai t.af t.q t.node wr (zy.out.node.keep F) G.out.cond (nB.out.below F));have hcl:=VY G.out.cond;have mN:=hid (show mX t=l++(eF t.af t.q t.node++[10]) by rw[CD.out,wW.out,AQ];simp);obtain⟨d,hd⟩: ∃d,eF t.af t.q t.node=d:=⟨_,rfl⟩;rw[hd]at PC hcl mN;have k2: ∀w,(anY .add (tx d) ⟨#[10]⟩).run prog w= .ok (.string (tx (d++[10]))) w:=cQ d [10] (by simp;omega);obtain⟨d1,hd1⟩: ∃d1,d++[10]=d1:=⟨_,rfl⟩;have al5:d1.length<=102501:=by rw[<-hd1];simp;omega
        have Qm:d1≠[]:=by rw[<-hd1];simp
        rw[hd1]at k2 mN;have WR:=hid (fun(w':World) (hE:Below w2.heap.size w2 w') (hb:bY w' w2.heap.size w2.heap.size bT [] l)=>bW d1 hE hb (by omega));obtain⟨l2,bN⟩: ∃l2,l++d1=l2:=⟨_,rfl⟩;have Qx:l2≠[]:=by rw[<-bN];simp[Qm]
        rw[bN]at WR mN;obtain⟨n2,hn2⟩: ∃n2,l2.length=n2:=⟨_,rfl⟩;have ei:=hid hn2;have Mg:=hid Qx;clear hd hd1 bN hn2 AQ Qx Qm o;go_wp2_with fail;refine PC.out.mono ?_;rintro e w9 ⟨rfl,E9⟩;have B9:=B.below E9;have F9:=F.trans (E9.mono F.size);clear c0 c1 c2 c3 c4 c5 c6 c7 c8 c9 c10 c11 PC E9 B F;go_wp2_with fail;refine(WR.out _ F9 B9).mono ?_;rintro e Wt ⟨⟨rfl,LY⟩,L2⟩;clear WR F9 B9;have LN:=hid (YT w2.heap.size w2.heap.size bT [] l2 Wt LY);rw[ei.out]at LN;have ST:=hid (GK w2.heap.size w2.heap.size bT [] l2 Wt LY Mg.out);go_wp2_with fail;refine LN.out.mono ?_;rintro e w11 ⟨rfl,rfl⟩
        by_cases xW:262144<n2
        ·have HV:=hid (Kp HR.out (by rw[mN.out,ei.out];exact xW))
         go_wp2_with fail
         (try go_simp)
         go_ret2
         rw[HV.out];exact⟨rfl,HW.out.trans (L2.mono HW.out.size)⟩
        ·have HV:=hid (Ut HR.out (by rw[mN.out,ei.out];exact xW))
         go_wp2_with fail;refine ST.out.mono ?_;rintro e w12 ⟨rfl,WW⟩;go_wp2_with fail
         (try go_simp)
         go_ret2
         rw[HV.out,mN.out];exact⟨rfl,HW.out.trans ((L2.trans WW).mono HW.out.size)⟩
 ·have z:(r != 0)=true:=by simpa using h0
  have HV:=hid (Us HR.out h0);clear h0;go_wp2_with fail
  (try go_simp)
  go_ret2
  rw[HV.out];exact⟨rfl,HA.out.trans (E.mono HA.out.size)⟩
theorem af1{t:ak}(h:(iF t).2≠0):(iF t).1=[]:=by
 unfold iF at h⊢;split
 ·rfl
 ·split
  ·rfl
  ·rename_i h1 h2
   rw[if_neg h1,if_neg h2]at h;exact absurd rfl h
theorem af2(t:ak):(iF t).1.length<=262144:=by
 unfold iF;split
 ·simp
 ·split
  ·simp
  ·simp only;omega
theorem ad4(t:ak)(w:World)(h:dw w t)(_z:Gx t)(g:Gl w):Calls prog 6 #[vT t] w (ax w (.bool true)):=by
 have A1:=al w (bC t);have a0:=eG.new w t;have HA:=hid A1;have H1:=hid (h.keep A1);have HG:=hid (g.below A1);have AW:=hid YD;have PA:=hid (fun(w':World) (h:dw w' t) (g:Gl w')=>abh t w' h g);have RA:=hid (fun(w':World) (h:dw w' t) (g:Gl w')=>ahC t w' h g);have PR:=hid (fun(w':World) (g:Gl w')=>EV (iF t).1 (by have:=af2 t;omega) w' g);have OA:=hid (af1 (t:=t));have PB:=hid (aga (t:=t));have ST:=hid (fun(y:ak) (w':World) (h1:dw w' t) (h2:dw w' y)=>ahm t y w' h1 h2);obtain⟨pa,hpa⟩: ∃p,iF t=p:=⟨_,rfl⟩;rw[hpa]at PA RA OA PR PB;obtain⟨s,e1⟩:=pa
 dsimp only at PA RA OA PR PB
 clear h A1 g hpa;go_in
 go_upto_region 1 with(fail)
 generalize w.alloc (bC t)=W1 at*;obtain⟨p0,p1,p2,p3,p4,p5,p6,p7,p8,p9,jB,jC⟩:=a0.cells;go_wp2_with fail;refine(PA.out _ H1.out HG.out).mono ?_;rintro e w2 ⟨rfl,E⟩;clear p0 p1 p2 p3 p4 p5 p6 p7 p8 p9 jB jC
 by_cases hz:e1=0
 ·subst hz
  have PR:=hid (fun w g=>PB.out rfl▸PR.out w g);clear RA OA PA;go_wp2_with fail;refine(PR.out _ (HG.out.below E)).mono ?_;rintro e w3 ⟨E3,y,hy,rfl,hO⟩;have Iy:rE t y:=YK.2 hy.symm;have E:=E.trans (E3.mono E.size);have E4:=E.trans ((al w3 (bC y)).mono E.size);have HY:=hid ((hO.below (al w3 (bC y))).vO);have b0:=eG.new w3 y;have a4:=a0.below E4;obtain⟨q0,q1,q2,q3,q4,q5,q6,q7,q8,q9,oa,od⟩:=b0.cells;obtain⟨p0,p1,p2,p3,p4,p5,p6,p7,p8,p9,jB,jC⟩:=a4.cells;have Iy:=hid Iy;have hlt:=a4.lt;have ame:=b0.lt;clear E3 hy hO PB PR b0 a4 E;have E4:=hid E4;go_wp2_with fail;refine(ST.out y _ (H1.out.keep E4.out) HY.out).mono ?_;rintro e w5 ⟨bb,rfl,eJ,E5⟩;obtain rfl:bb=true:=eJ.2 Iy.out;have E:=E4.out.trans (E5.mono E4.out.size);have AW:=hid (AW.out _ (HG.out.below E));clear p0 p1 p2 p3 p4 p5 p6 p7 p8 p9 jB jC q0 q1 q2 q3 q4 q5 q6 q7 q8 q9 oa od eJ E5 ST;go_wp2_with fail;refine AW.out.mono ?_;rintro e w6 ⟨rfl,E6⟩;have E:=E.trans (E6.mono E.size);go_wp2_with fail
  (try go_simp)
  go_ret;exact⟨rfl,HA.out.trans (E.mono HA.out.size)⟩
 ·have z1:(e1 != 0)=true:=by simpa using hz
  have z2:(e1==e1)=true:=by simp
  have hs:=OA.out hz;have zs:(tx s).toList.isEmpty=true:=by rw[hs,aW];rfl
  have zs2:((tx s).toList==[])=true:=by rw[hs,aW];rfl
  clear PB PR OA hz hs;obtain⟨p0,p1,p2,p3,p4,p5,p6,p7,p8,p9,jB,jC⟩:=(a0.below E).cells;go_wp2_with fail;refine(RA.out _ (H1.out.keep E) (HG.out.below E)).mono ?_;rintro e w3 ⟨rfl,E3⟩;have E:=E.trans (E3.mono E.size);clear p0 p1 p2 p3 p4 p5 p6 p7 p8 p9 jB jC;have AW:=hid (AW.out _ (HG.out.below E));go_wp2_with fail;refine AW.out.mono ?_;rintro e w6 ⟨rfl,E6⟩;have E:=E.trans (E6.mono E.size);go_wp2_with fail
  (try go_simp)
  go_ret;exact⟨rfl,HA.out.trans (E.mono HA.out.size)⟩
end Go.Proofs.YtkbbgjloifmmbaaGreatDoor

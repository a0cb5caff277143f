/- What ReadBackP leans on, part 39. -/
import Derived.Test.YtkbbgjloifmmbaaGreatDoorRb38
set_option linter.unusedVariables false
set_option maxRecDepth 100000
set_option maxHeartbeats 6400000
namespace Go.Proofs.YtkbbgjloifmmbaaGreatDoor
open _root_.Go.Proofs.Tryz
open _root_.List renaming getElem?_eq_getElem->amK,mem_of_getElem?->aou,replicate->ao8,getElem?_eq_some_iff->ano,getElem?_map->ao7,length_map->ao3,getD_eq_getElem?_getD->apo,getElem?_eq_none->an8,length->aoQ
open _root_.Bool renaming noConfusion->aqm
open _root_.Nat renaming lt_succ_iff_lt_or_eq->an5,not_lt_zero->aoe
open _root_.Go.RowKit.Below renaming refl->apb
open _root_.Go.Op renaming stringOp->anY
open _root_.And renaming intro->aov
open _root_.Option.some renaming injEq->anK,inj->aoX
open Go.RowKit Go.Sort
attribute [local go_sem high] qa jX
theorem ahk(l m:List Cd)(a b:Option Addr)(c d:Nat)(w:World)(h1:bf nJ w a l)(h2:bf nJ w b m)(g1: ∀x∈l,qO w x)(g2: ∀x∈m,qO w x):
 Calls prog 38 #[.slice a l.length c,.slice b m.length d] w (ax w (.bool (decide (dG l=dG m)))):=by
 by_cases hlm:l.length=m.length
 ·obtain⟨n,hn⟩: ∃n,l.length=n:=⟨_,rfl⟩
  have hnn:n<=1000000000000000000:=by rw[<-hn];exact h1.len
  have HN:=hid hn;have HM:=hid (hlm.symm.trans hn);have H1:=hid h1;have H2:=hid h2;have G1:=hid g1;have G2:=hid g2;rw[hn];rw[HM.out];clear hn hlm h1 h2 g1 g2;go_in;go_wp2_with fail
  go_loopw [5] (fun i wr=> ∃j:Nat,j<=n/\i= .int .i64 j/\Below w.heap.size w wr/\Hid (∀k:Nat,k<j->(dG l)[k]? =(dG m)[k]?)) (fun i _=>n-(intOf i).toNat)
  case atStart=>exact⟨0,by omega,rfl,apb _ _,fun k hk=>absurd hk (aoe k)⟩
  case round=>
   obtain⟨j,hj,rfl,E,HJ⟩:=hrel
   by_cases hjt:j<n
   ·obtain⟨x,hx⟩: ∃x,l[j]? =some x:=⟨_,amK (by rw[HN.out];exact hjt)⟩
    obtain⟨y,hy⟩: ∃y,m[j]? =some y:=⟨_,amK (by rw[HM.out];exact hjt)⟩;have p0:=(H1.out.below E).cd hx;have q0:=(H2.out.below E).cd hy;have ix:=H1.out.mS j (by rw[HN.out];exact hjt) c;have iy:=H2.out.mS j (by rw[HM.out];exact hjt) d;rw[HN.out]at ix;rw[HM.out]at iy;have HX:=hid (aov hx hy);have IX:=hid (G1.out x (aou hx)).is;have IY:=hid (G2.out y (aou hy)).is;clear hx hy;obtain⟨nx,r8⟩: ∃nx,x.l.length=nx:=⟨_,rfl⟩;obtain⟨ny,hny⟩: ∃ny,y.l.length=ny:=⟨_,rfl⟩;have aml:nx<=1000000000000000000:=by rw[<-r8];exact IX.out.len
    rw[r8]at p0;rw[hny]at q0;have qX:=hid r8;have wY:=hid hny;clear r8 hny
    by_cases hxy:nx=ny
    ·have z:((nx:Int) != (ny:Int))=false:=by simp[hxy]
     subst hxy;go_wp2_with fail;have p0:=cell_regrown p0;have q0:=cell_regrown q0;refine wp_region_quiet_below (by kernel_rfl) (by kernel_rfl) ?_
     repeat(go_big_quiet_step (fail))
     refine wpQuiet_nil ?_;intro _ hw';obtain⟨⟨dq,aV⟩,hw''⟩:=hw';subst hw'';have EQ:=below_regrown wr dq aV;generalize grow (redrawn wr dq) aV=W5 at*;have E:=E.trans (EQ.mono E.size);clear p0 q0 EQ;go_wp2_with fail
     go_loopw [6] (fun i wr=> ∃k:Nat,k<=nx/\i= .int .i64 k/\Below w.heap.size w wr/\Hid (∀q:Nat,q<k->x.l[q]? =y.l[q]?)) (fun i _=>nx-(intOf i).toNat)
     case atStart=>exact⟨0,by omega,rfl,E,fun k hk=>absurd hk (aoe k)⟩
     case round=>
      clear E;obtain⟨k,hk,rfl,E,HK⟩:=hrel;have p0:=(H1.out.below E).cd HX.out.1;have q0:=(H2.out.below E).cd HX.out.2;rw[qX.out]at p0;rw[wY.out]at q0
      by_cases hkt:k<nx
      ·obtain⟨i,hi⟩: ∃i,x.l[k]? =some i:=⟨_,amK (by rw[qX.out];exact hkt)⟩
       obtain⟨i',hi'⟩: ∃i',y.l[k]? =some i':=⟨_,amK (by rw[wY.out];exact hkt)⟩;obtain⟨r0,r1,r2,r3,r4,r5,r6,r7⟩:=(IX.out.below E).cells hi;obtain⟨s0,s1,s2,s3,s4,s5,s6,s7⟩:=(IY.out.below E).cells hi';have jx:=IX.out.idx k (by rw[qX.out];exact hkt) x.c;have jy:=IY.out.idx k (by rw[wY.out];exact hkt) y.c;rw[qX.out]at jx;rw[wY.out]at jy;have HI:=hid (aov hi hi');clear hi hi';have DD:decide (i=i')=true\/decide (i=i')=false:=by cases decide (i=i')<;>simp
       rcases DD with hd|hd
       ·have mq:(!decide (i=i'))=false:=by rw[hd];rfl
        have fJ:=hid (show ∀q:Nat,q<k+1->x.l[q]? =y.l[q]? from fun q hq=>by
         rcases an5.1 hq with h|h
         ·exact HK.out q h
         ·subst h;rw[HI.out.1,HI.out.2,of_decide_eq_true hd])
        go_wp2_with fail;have p0:=cell_regrown p0;have q0:=cell_regrown q0;have r0:=cell_regrown r0;have r1:=cell_regrown r1;have r2:=cell_regrown r2;have r3:=cell_regrown r3;have r4:=cell_regrown r4;have r5:=cell_regrown r5;have r6:=cell_regrown r6;have r7:=cell_regrown r7;have s0:=cell_regrown s0;have s1:=cell_regrown s1;have s2:=cell_regrown s2;have s3:=cell_regrown s3;have s4:=cell_regrown s4;have s5:=cell_regrown s5;have s6:=cell_regrown s6;have s7:=cell_regrown s7;refine wp_region_quiet_below (by kernel_rfl) (by kernel_rfl) ?_
        repeat(go_big_quiet_step (fail))
        refine wpQuiet_nil ?_;intro _ hw';obtain⟨⟨dq,aV⟩,hw''⟩:=hw';subst hw'';have EQ:=below_regrown wr dq aV;generalize grow (redrawn wr dq) aV=W6 at*;have E:=E.trans (EQ.mono E.size);clear p0 q0 r0 r1 r2 r3 r4 r5 r6 r7 s0 s1 s2 s3 s4 s5 s6 s7 EQ jx jy;go_wp2_with fail
        go_roundw
        case rel=>exact⟨k+1,by omega,by go_num,E,fJ⟩
        case measure=>simp[intOf];omega
       ·have mq:(!decide (i=i'))=true:=by rw[hd];rfl
        have HZ:=hid (show decide (dG l=dG m)=false by
         rw[decide_eq_false_iff_not];intro e;have h1:=tu HX.out.1;have h2:=tu HX.out.2;rw[e,h2]at h1;simp only[anK]at h1;have h3:=HI.out.1;have h4:=HI.out.2;rw[h1]at h4;rw[h4]at h3;exact of_decide_eq_false hd (aoX h3).symm)
        go_wp2_with fail;have p0:=cell_regrown p0;have q0:=cell_regrown q0;have r0:=cell_regrown r0;have r1:=cell_regrown r1;have r2:=cell_regrown r2;have r3:=cell_regrown r3;have r4:=cell_regrown r4;have r5:=cell_regrown r5;have r6:=cell_regrown r6;have r7:=cell_regrown r7;have s0:=cell_regrown s0;have s1:=cell_regrown s1;have s2:=cell_regrown s2;have s3:=cell_regrown s3;have s4:=cell_regrown s4;have s5:=cell_regrown s5;have s6:=cell_regrown s6;have s7:=cell_regrown s7;refine wp_region_quiet_below (by kernel_rfl) (by kernel_rfl) ?_
        repeat(go_big_quiet_step (fail))
        refine wpQuiet_nil ?_;intro _ hw';obtain⟨⟨dq,aV⟩,hw''⟩:=hw';subst hw'';have EQ:=below_regrown wr dq aV;generalize grow (redrawn wr dq) aV=W6 at*;have E:=E.trans (EQ.mono E.size);clear p0 q0 r0 r1 r2 r3 r4 r5 r6 r7 s0 s1 s2 s3 s4 s5 s6 s7 EQ jx jy;go_wp2_with fail;go_ret;exact⟨aJ HZ.out.symm,E⟩
      ·have fc:=hid (show ∀q:Nat,q<j+1->(dG l)[q]? =(dG m)[q]? from fun q hq=>by
        rcases an5.1 hq with h|h
        ·exact HJ.out q h
        ·subst h
         rw[tu HX.out.1,tu HX.out.2];exact congrArg some (JV (by rw[qX.out,wY.out]) fun r hr=>HK.out r (by rw[qX.out]at hr;omega)))
       go_wp2_with fail
       go_roundw
       case rel=>exact⟨j+1,by omega,by go_num,E,fc⟩
       case measure=>simp[intOf];omega
    ·have z:((nx:Int) != (ny:Int))=true:=by simp;omega
     have HZ:=hid (show decide (dG l=dG m)=false by
      rw[decide_eq_false_iff_not];intro e;have h1:=tu HX.out.1;have h2:=tu HX.out.2;rw[e,h2]at h1;simp only[anK]at h1;exact hxy (by rw[<-qX.out,<-wY.out,h1]))
     clear hxy;go_wp2_with fail;have p0:=cell_regrown p0;have q0:=cell_regrown q0;refine wp_region_quiet_below (by kernel_rfl) (by kernel_rfl) ?_
     repeat(go_big_quiet_step (fail))
     refine wpQuiet_nil ?_;intro _ hw';obtain⟨⟨dq,aV⟩,hw''⟩:=hw';subst hw'';have EQ:=below_regrown wr dq aV;generalize grow (redrawn wr dq) aV=W5 at*;have E:=E.trans (EQ.mono E.size);go_wp2_with fail;go_ret;exact⟨aJ HZ.out.symm,E⟩
   ·obtain rfl:j=n:=by omega
    have HZ:=hid (show decide (dG l=dG m)=true by
     rw[decide_eq_true_eq];exact JV (by rw[vm,vm,HN.out,HM.out]) fun k hk=>HJ.out k (by rw[vm,HN.out]at hk;exact hk))
    go_wp2_with fail;go_ret;exact⟨aJ HZ.out.symm,E⟩
 ·have HZ:=hid (show decide (dG l=dG m)=false by rw[decide_eq_false_iff_not];intro e;have:=congrArg aoQ e;rw[vm,vm]at this;exact hlm this)
  have z:((l.length:Int) != m.length)=true:=by simp;omega
  clear hlm;go_in;go_wp2_with fail;go_ret;exact⟨aJ HZ.out.symm,apb _ _⟩
attribute [local go_sem high] aeX Pa
theorem ahl(l m:List aF)(a b:Option Addr)(c d:Nat)(w:World)(h1:bf fV w a l)(h2:bf fV w b m):
 Calls prog 37 #[.slice a l.length c,.slice b m.length d] w (ax w (.bool (decide (l=m)))):=by
 by_cases hlm:l.length=m.length
 ·obtain⟨n,hn⟩: ∃n,l.length=n:=⟨_,rfl⟩
  have hnn:n<=1000000000000000000:=by rw[<-hn];exact h1.len
  have HN:=hid hn;have HM:=hid (hlm.symm.trans hn);have H1:=hid h1;have H2:=hid h2;rw[hn];rw[HM.out];clear hn hlm h1 h2;go_in;go_wp2_with fail
  go_loopw [5] (fun i wr=> ∃j:Nat,j<=n/\i= .int .i64 j/\Below w.heap.size w wr/\Hid (∀k:Nat,k<j->l[k]? =m[k]?)) (fun i _=>n-(intOf i).toNat)
  case atStart=>exact⟨0,by omega,rfl,apb _ _,fun k hk=>absurd hk (aoe k)⟩
  case round=>
   obtain⟨j,hj,rfl,E,HJ⟩:=hrel
   by_cases hjt:j<n
   ·obtain⟨x,hx⟩: ∃x,l[j]? =some x:=⟨_,amK (by rw[HN.out];exact hjt)⟩
    obtain⟨y,hy⟩: ∃y,m[j]? =some y:=⟨_,amK (by rw[HM.out];exact hjt)⟩;obtain⟨r0,r1,r2,r3,r4⟩:=(H1.out.below E).qi hx;obtain⟨s0,s1,s2,s3,s4⟩:=(H2.out.below E).qi hy;have ix:=H1.out.idx qj lB j (by rw[HN.out];exact hjt) c;have iy:=H2.out.idx qj lB j (by rw[HM.out];exact hjt) d;rw[HN.out]at ix;rw[HM.out]at iy;have C3:=hid (aov hx hy);clear hx hy;have DD:decide (x=y)=true\/decide (x=y)=false:=by cases decide (x=y)<;>simp
    rcases DD with hd|hd
    ·have mq:(!decide (x=y))=false:=by rw[hd];rfl
     have fc:=hid (show ∀k:Nat,k<j+1->l[k]? =m[k]? from fun k hk=>by
      rcases an5.1 hk with h|h
      ·exact HJ.out k h
      ·subst h;rw[C3.out.1,C3.out.2,of_decide_eq_true hd])
     go_wp2_with fail;have r0:=cell_regrown r0;have r1:=cell_regrown r1;have r2:=cell_regrown r2;have r3:=cell_regrown r3;have r4:=cell_regrown r4;have s0:=cell_regrown s0;have s1:=cell_regrown s1;have s2:=cell_regrown s2;have s3:=cell_regrown s3;have s4:=cell_regrown s4;refine wp_region_quiet_below (by kernel_rfl) (by kernel_rfl) ?_
     repeat(go_big_quiet_step (fail))
     refine wpQuiet_nil ?_;intro _ hw';obtain⟨⟨dq,aV⟩,hw''⟩:=hw';subst hw'';have EQ:=below_regrown wr dq aV;generalize grow (redrawn wr dq) aV=W6 at*;have E:=E.trans (EQ.mono E.size);clear r0 r1 r2 r3 r4 s0 s1 s2 s3 s4 EQ ix iy;go_wp2_with fail
     go_roundw
     case rel=>exact⟨j+1,by omega,by go_num,E,fc⟩
     case measure=>simp[intOf];omega
    ·have mq:(!decide (x=y))=true:=by rw[hd];rfl
     have HZ:=hid (show decide (l=m)=false by
      rw[decide_eq_false_iff_not];intro h1;have h3:=C3.out.1;have h4:=C3.out.2;rw[h1,h4]at h3;exact of_decide_eq_false hd (aoX h3).symm)
     go_wp2_with fail;have r0:=cell_regrown r0;have r1:=cell_regrown r1;have r2:=cell_regrown r2;have r3:=cell_regrown r3;have r4:=cell_regrown r4;have s0:=cell_regrown s0;have s1:=cell_regrown s1;have s2:=cell_regrown s2;have s3:=cell_regrown s3;have s4:=cell_regrown s4;refine wp_region_quiet_below (by kernel_rfl) (by kernel_rfl) ?_
     repeat(go_big_quiet_step (fail))
     refine wpQuiet_nil ?_;intro _ hw';obtain⟨⟨dq,aV⟩,hw''⟩:=hw';subst hw'';have EQ:=below_regrown wr dq aV;generalize grow (redrawn wr dq) aV=W6 at*;have E:=E.trans (EQ.mono E.size);clear r0 r1 r2 r3 r4 s0 s1 s2 s3 s4 EQ ix iy;go_wp2_with fail;go_ret;exact⟨aJ HZ.out.symm,E⟩
   ·obtain rfl:j=n:=by omega
    have HZ:=hid (show decide (l=m)=true by
     rw[decide_eq_true_eq];exact JV (by rw[HN.out,HM.out]) fun k hk=>HJ.out k (by rw[HN.out]at hk;exact hk))
    go_wp2_with fail;go_ret;exact⟨aJ HZ.out.symm,E⟩
 ·have HZ:=hid (show decide (l=m)=false by rw[decide_eq_false_iff_not];intro e;exact hlm (congrArg aoQ e))
  have z:((l.length:Int) != m.length)=true:=by simp;omega
  clear hlm;go_in;go_wp2_with fail;go_ret;exact⟨aJ HZ.out.symm,apb _ _⟩
attribute [local go_sem high] vZ
theorem Nj{a b:List Nd}:dx a=dx b<->a.length=b.length/\ ∀(k:Nat) (x y:Nd),a[k]? =some x->b[k]? =some y->aL x=aL y:=by
 rw[zU,zU]
 constructor
 ·intro h
  have hl:=congrArg aoQ h;simp only[ao3]at hl;refine⟨hl,fun k x y hx hy=>?_⟩;have h2:(a.map aL)[k]? =(b.map aL)[k]? :=by rw[h]
  rw[ao7,ao7,hx,hy]at h2;simpa using h2
 ·rintro⟨hl,h⟩
  refine List.ext_getElem? fun k=>?_
  rw[ao7,ao7];cases hx:a[k]? with
  | none=>
    have:=List.getElem?_eq_none_iff.1 hx;rw[an8 (by omega)]
  | some x=>
    have:=(ano.1 hx).1;obtain⟨y,hy⟩: ∃y,b[k]? =some y:=⟨_,amK (by omega)⟩;rw[hy];simp[h k x y hx hy]
theorem agX: ∀(x y:Nd) (w:World),cH w x->cH w y->Calls prog 92 #[vN x,vN y] w (Gr w (aL x=aL y)):=by
 intro x
 induction x using Nd.ind with
 |h x ih=>
 intro y w h1 h2;have A1:=al w (aS x);have x0:=j5.new w x;have A2:=al (w.alloc (aS x)) (aS y);have y0:=j5.new (w.alloc (aS x)) y;rw[lz]at y0;have x0:=x0.below A2;have HA:=hid (A1.trans (A2.mono A1.size));have HX:=hid (h1.keep HA.out);have HY:=hid (h2.keep HA.out);have pR:=hid ih;clear h1 h2 A1 A2 ih;obtain⟨b1,dM⟩: ∃b,(x.kind != y.kind)=b:=⟨_,rfl⟩;obtain⟨b2,dH⟩: ∃b,(!decide (x.th=y.th))=b:=⟨_,rfl⟩;obtain⟨b3,gi⟩: ∃b,(x.val != y.val)=b:=⟨_,rfl⟩;obtain⟨b4,jT⟩: ∃b,((x.kids.length:Int) != y.kids.length)=b:=⟨_,rfl⟩;have HK:=hid (show b1=false<->x.kind=y.kind by rw[<-dM];simp);have ri:=hid (show b2=false<->x.th=y.th by rw[<-dH];simp);have Mw:=hid (show b3=false<->x.val=y.val by rw[<-gi];simp);have uK:=hid (show b4=false<->x.kids.length=y.kids.length by rw[<-jT];simp;omega);have HI:=hid (YI (x:=x) (y:=y));go_in
 go_upto_region 1 with(fail)
 generalize (w.alloc (aS x)).alloc (aS y)=W1 at*;obtain⟨p0,p1,p2,p3,p4,p5⟩:=x0.cells;obtain⟨q0,q1,q2,q3,q4,q5⟩:=y0.cells;have hx0:=x0.1;have hy0:=y0.1;have X0:=hid x0;have Y0:=hid y0;cases b1 with
 | true=>
   have HZ:=hid (show ¬aL x=aL y from fun h=>by
    have:=(HI.out.1 h).1;rw[<-HK.out]at this;cases this)
   clear dH gi jT x0 y0;go_wp2_with fail
   (try go_simp)
   go_ret;exact⟨false,rfl,⟨fun h=>aqm h,fun h=>absurd h HZ.out⟩,HA.out⟩
 | false=>
   cases b2 with
   | true=>
     have HZ:=hid (show ¬aL x=aL y from fun h=>by
      have:=(HI.out.1 h).2.1;rw[<-ri.out]at this;cases this)
     clear gi jT x0 y0;go_wp2_with fail
     (try go_simp)
     go_ret;exact⟨false,rfl,⟨fun h=>aqm h,fun h=>absurd h HZ.out⟩,HA.out⟩
   | false=>
     cases b3 with
     | true=>
       have HZ:=hid (show ¬aL x=aL y from fun h=>by
        have:=(HI.out.1 h).2.2.1;rw[<-Mw.out]at this;cases this)
       clear jT x0 y0;go_wp2_with fail
       (try go_simp)
       go_ret;exact⟨false,rfl,⟨fun h=>aqm h,fun h=>absurd h HZ.out⟩,HA.out⟩
     | false=>
       cases b4 with
       | true=>
         have HZ:=hid (show ¬aL x=aL y from fun h=>by
          have:=(Nj.1 (HI.out.1 h).2.2.2).1;rw[<-uK.out]at this;cases this)
         clear x0 y0;go_wp2_with fail
         (try go_simp)
         go_ret;exact⟨false,rfl,⟨fun h=>aqm h,fun h=>absurd h HZ.out⟩,HA.out⟩
       | false=>
         have cV:=uK.out.1 rfl;have wX:=hid cV
         have HB:=hid (show aL x=aL y<-> ∀(k:Nat) (u v:Nd),x.kids[k]? =some u->y.kids[k]? =some v->aL u=aL v by
          rw[HI.out,Nj];exact⟨fun h=>h.2.2.2.2,fun h=>⟨HK.out.1 rfl,ri.out.1 rfl,Mw.out.1 rfl,cV,h⟩⟩)
         obtain⟨n,hn⟩: ∃n,x.kids.length=n:=⟨_,rfl⟩;have HN:=hid hn;have HM:=hid (cV.symm.trans hn);have hnn:n<=1000000000000000000:=by rw[<-hn];exact HX.out.els.len
         rw[HM.out]at q5;rw[hn]at p5;rw[hn,HM.out]at jT;clear cV hn x0 y0;go_wp2_with fail;clear p0 p1 p2 p3 p4 p5 q0 q1 q2 q3 q4 q5 dM dH gi jT
         go_loopw [5] (fun i wr=> ∃j:Nat,j<=n/\i= .int .i64 j/\Below W1.heap.size W1 wr/\Hid (∀(k:Nat) (u v:Nd),k<j->x.kids[k]? =some u->y.kids[k]? =some v->aL u=aL v)) (fun i _=>n-(intOf i).toNat)
         case atStart=>exact⟨0,Nat.zero_le _,rfl,apb _ _,fun k u v hk=>absurd hk (aoe k)⟩
         case round=>
          obtain⟨j,hj,rfl,E,HJ⟩:=hrel;obtain⟨p0,p1,p2,p3,p4,p5⟩:=(X0.out.below E).cells;obtain⟨q0,q1,q2,q3,q4,q5⟩:=(Y0.out.below E).cells;rw[HM.out]at q5;rw[HN.out]at p5
          by_cases hjt:j<n
          ·obtain⟨u,hu⟩: ∃u,x.kids[j]? =some u:=⟨_,amK (by rw[HN.out];exact hjt)⟩
           obtain⟨v,hv⟩: ∃v,y.kids[j]? =some v:=⟨_,amK (by rw[HM.out];exact hjt)⟩
           go_upto_region 6 with(fail)
           clear p0 p1 p2 p3 p4 p5 q0 q1 q2 q3 q4 q5;have ED:Below W1.heap.size W1 (World.drew wr):=dc E;obtain⟨p0,p1,p2,p3,p4,p5⟩:=(X0.out.below ED).cells;obtain⟨q0,q1,q2,q3,q4,q5⟩:=(Y0.out.below ED).cells;rw[HM.out]at q5;rw[HN.out]at p5;have C4:=HX.out.keep ED;have C7:=HY.out.keep ED;obtain⟨r0,r1,r2,r3,r4,r5⟩:=C4.els.nd hu;obtain⟨s0,s1,s2,s3,s4,s5⟩:=C7.els.nd hv;have ix:=C4.els.idx nk ja j (by rw[HN.out];exact hjt) x.c;have iy:=C7.els.idx nk ja j (by rw[HM.out];exact hjt) y.c;rw[HN.out]at ix;rw[HM.out]at iy;have CY:=hid (fun(w2:World) (E2:Below (World.drew wr).heap.size (World.drew wr) w2)=>pR.out u (aou hu) v w2 ((C4.dm u (aou hu)).keep E2) ((C7.dm v (aou hv)).keep E2));have CV:=hid (aov hu hv);clear hu hv C4 C7
           go_region_with (go_at_call 92;refine(CY.out _ (apb _ _)).mono ?_;rintro e w2 ⟨bb,rfl,eJ,E2⟩)
           all_goals
            have qQ:=hid eJ;have E:=ED.trans (E2.mono ED.size);clear p0 p1 p2 p3 p4 p5 q0 q1 q2 q3 q4 q5 r0 r1 r2 r3 r4 r5 s0 s1 s2 s3 s4 s5 ix iy eJ E2 CY ED;cases bb with
            | true=>
              have fc:=hid (show ∀(k:Nat) (u v:Nd),k<j+1->x.kids[k]? =some u->y.kids[k]? =some v->aL u=aL v from fun k u' v' hk hu hv=>by
               rcases an5.1 hk with h|h
               ·exact HJ.out k u' v' h hu hv
               ·subst h
                rw[CV.out.1]at hu;rw[CV.out.2]at hv;cases hu;cases hv;exact qQ.out.1 rfl)
              go_wp2_with fail
              go_roundw
              case rel=>exact⟨j+1,by omega,by go_num,E,fc⟩
              case measure=>simp[intOf];omega
            | false=>
              have HZ:=hid (show ¬aL x=aL y from fun h=>by
               have:=HB.out.1 h j u v CV.out.1 CV.out.2;have:=qQ.out.2 this;cases this)
              go_wp2_with fail
              (try go_simp)
              go_ret;exact⟨false,rfl,⟨fun h=>aqm h,fun h=>absurd h HZ.out⟩,HA.out.trans (E.mono HA.out.size)⟩
          ·have hjn:j=n:=by omega
           have HZ:=hid (show aL x=aL y from HB.out.2 fun k u v hu hv=>HJ.out k u v (by have:=(ano.1 hu).1;rw[HN.out]at this;omega) hu hv);subst hjn;go_wp2_with fail
           (try go_simp)
           go_ret;exact⟨true,rfl,⟨fun _=>HZ.out,fun _=>rfl⟩,HA.out.trans (E.mono HA.out.size)⟩
abbrev ua(q:Int)(x:Nd):Obj:=.cells #[.int .i64 q,.int .i64 x.kind,.int .i64 x.th.thread,.int .i64 x.th.au,.string (tx x.th.loc),.int .i64 x.val,.slice x.a x.kids.length x.c] 30
theorem agW(p q:Int)(x y:Nd)(w:World)(h1:cH w x)(h2:cH w y):Calls prog 39 #[vC p x,vC q y] w (Gr w (p=q/\aL x=aL y)):=by
 have A1:=al w (ua p x);have A2:=al (w.alloc (ua p x)) (ua q y);have x0:=(aG.new w #[.int .i64 p,.int .i64 x.kind,.int .i64 x.th.thread,.int .i64 x.th.au,.string (tx x.th.loc),.int .i64 x.val,.slice x.a x.kids.length x.c] 30).below A2;have y0:=aG.new (w.alloc (ua p x)) #[.int .i64 q,.int .i64 y.kind,.int .i64 y.th.thread,.int .i64 y.th.au,.string (tx y.th.loc),.int .i64 y.val,.slice y.a y.kids.length y.c] 30;rw[lz]at y0;have HA:=hid (A1.trans (A2.mono A1.size));have AN:=hid (fun w2 (E:Below ((w.alloc (ua p x)).alloc (ua q y)).heap.size ((w.alloc (ua p x)).alloc (ua q y)) w2)=>agX x y w2 ((h1.keep HA.out).keep E) ((h2.keep HA.out).keep E));obtain⟨b1,dM⟩: ∃b,(p==q)=b:=⟨_,rfl⟩;have HK:=hid (show b1=true<->p=q by rw[<-dM];simp);have p0:=x0.get 0 _ rfl;have p1:=x0.get 1 _ rfl;have p2:=x0.get 2 _ rfl;have p3:=x0.get 3 _ rfl;have p4:=x0.get 4 _ rfl;have p5:=x0.get 5 _ rfl;have p6:=x0.get 6 _ rfl;have q0:=y0.get 0 _ rfl;have q1:=y0.get 1 _ rfl;have q2:=y0.get 2 _ rfl;have q3:=y0.get 3 _ rfl;have q4:=y0.get 4 _ rfl;have q5:=y0.get 5 _ rfl;have q6:=y0.get 6 _ rfl;clear h1 h2 A1 A2 x0 y0;cases b1 with
 | false=>
   have HZ:=hid (show ¬(p=q/\aL x=aL y)from fun h=>by have:=HK.out.2 h.1;cases this);go_in;go_wp2_with fail
   (try go_simp)
   go_ret;exact⟨false,rfl,⟨fun h=>aqm h,fun h=>absurd h HZ.out⟩,HA.out⟩
 | true=>
   go_in;go_wp2_with fail;refine(AN.out _ (apb _ _)).mono ?_;rintro e w2 ⟨bb,rfl,eJ,E2⟩;have qQ:=hid eJ;clear eJ;go_wp2_with fail
   (try go_simp)
   go_ret;exact⟨bb,rfl,⟨fun h=>⟨HK.out.1 (by first|rfl|trivial),qQ.out.1 h⟩,fun h=>qQ.out.2 h.2⟩,HA.out.trans (E2.mono HA.out.size)⟩
def rE(a b:ak):Prop:=a.af=b.af/\a.name=b.name/\a.aC=b.aC/\a.init=b.init/\dG a.code=dG b.code/\a.q=b.q/\aL a.node=aL b.node
theorem YK{a b:ak}:rE a b<->lA a=lA b:=by
 unfold rE lA sn
 constructor
 ·rintro⟨h1,h2,h3,h4,h5,h6,h7⟩;rw[h1,h2,h3,h4,h5,h6,h7]
 ·intro h
  simp only[ak.mk.injEq]at h;obtain⟨h1,h2,h3,-, -, h4,-, -, h5,h6,h7⟩:=h;refine⟨h1,h2,h3,h4,?_,h6,h7⟩;have:=congrArg (fun l=>l.map (·.l)) h5;simpa[Function.comp_def]using this
theorem ahm(a b:ak)(w:World)(h1:dw w a)(h2:dw w b):Calls prog 11 #[vT a,vT b] w (Gr w (rE a b)):=by
 have A1:=al w (bC a);have A2:=al (w.alloc (bC a)) (bC b);have a0:=(eG.new w a).below A2;have b0:=eG.new (w.alloc (bC a)) b;rw[lz]at b0;have HA:=hid (A1.trans (A2.mono A1.size));have H1:=hid (h1.keep HA.out);have H2:=hid (h2.keep HA.out);clear h1 h2 A1 A2;obtain⟨b1,dM⟩: ∃x,(a.af==b.af)=x:=⟨_,rfl⟩;obtain⟨b2,dH⟩: ∃x,((tx a.name).toList==(tx b.name).toList)=x:=⟨_,rfl⟩;obtain⟨b3,gi⟩: ∃x,((tx a.aC).toList==(tx b.aC).toList)=x:=⟨_,rfl⟩;obtain⟨b4,jT⟩: ∃x,decide (a.init=b.init)=x:=⟨_,rfl⟩;obtain⟨b5,jU⟩: ∃x,decide (dG a.code=dG b.code)=x:=⟨_,rfl⟩;have K1:=hid (show b1=true<->a.af=b.af by rw[<-dM];simp);have K2:=hid (show b2=true<->a.name=b.name by rw[<-dH,jG];simp);have K3:=hid (show b3=true<->a.aC=b.aC by rw[<-gi,jG];simp);have K4:=hid (show b4=true<->a.init=b.init by rw[<-jT];simp);have K5:=hid (show b5=true<->dG a.code=dG b.code by rw[<-jU];simp);have SI:=hid (fun(w':World) (h1:bf fV w' a.ia a.init) (h2:bf fV w' b.ia b.init)=>ahl a.init b.init a.ia b.ia a.ic b.ic w' h1 h2);have SC:=hid (fun(w':World) (h1:dw w' a) (h2:dw w' b)=>ahk a.code b.code a.ca b.ca a.cc b.cc w' h1.code h2.code h1.rows h2.rows);have SA:=hid (fun(w':World) (h1:dw w' a) (h2:dw w' b)=>agW a.q b.q a.node b.node w' h1.node h2.node);rw[jT]at SI;rw[jU]at SC;clear jT jU;go_in
 go_upto_region 1 with(fail)
 generalize (w.alloc (bC a)).alloc (bC b)=W1 at*;obtain⟨p0,p1,p2,p3,p4,p5,p6,p7,p8,p9,jB,jC⟩:=a0.cells;obtain⟨q0,q1,q2,q3,q4,q5,q6,q7,q8,q9,oa,od⟩:=b0.cells;cases b1 with
 | false=>
   have HZ:=hid (show ¬rE a b from fun h=>by have:=K1.out.2 h.1;cases this);clear dH gi;go_wp2_with fail
   (try go_simp)
   go_ret;exact⟨false,rfl,⟨fun h=>aqm h,fun h=>absurd h HZ.out⟩,HA.out⟩
 | true=>
   cases b2 with
   | false=>
     have HZ:=hid (show ¬rE a b from fun h=>by have:=K2.out.2 h.2.1;cases this);clear gi;go_wp2_with fail
     (try go_simp)
     go_ret;exact⟨false,rfl,⟨fun h=>aqm h,fun h=>absurd h HZ.out⟩,HA.out⟩
   | true=>
     cases b3 with
     | false=>
       have HZ:=hid (show ¬rE a b from fun h=>by have:=K3.out.2 h.2.2.1;cases this);go_wp2_with fail
       (try go_simp)
       go_ret;exact⟨false,rfl,⟨fun h=>aqm h,fun h=>absurd h HZ.out⟩,HA.out⟩
     | true=>
       go_wp2_with fail;refine(SI.out _ H1.out.init H2.out.init).mono ?_;rintro e w2 ⟨rfl,E⟩;clear p0 p1 p2 p3 p4 p5 p6 p7 p8 p9 jB jC q0 q1 q2 q3 q4 q5 q6 q7 q8 q9 oa od;obtain⟨p0,p1,p2,p3,p4,p5,p6,p7,p8,p9,jB,jC⟩:=(a0.below E).cells;obtain⟨q0,q1,q2,q3,q4,q5,q6,q7,q8,q9,oa,od⟩:=(b0.below E).cells;cases b4 with
       | false=>
         have HZ:=hid (show ¬rE a b from fun h=>by have:=K4.out.2 h.2.2.2.1;cases this);go_wp2_with fail
         (try go_simp)
         go_ret;exact⟨false,rfl,⟨fun h=>aqm h,fun h=>absurd h HZ.out⟩,HA.out.trans (E.mono HA.out.size)⟩
       | true=>
         go_wp2_with fail;refine(SC.out _ (H1.out.keep E) (H2.out.keep E)).mono ?_;rintro e w3 ⟨rfl,E3⟩;have E:=E.trans (E3.mono E.size);clear p0 p1 p2 p3 p4 p5 p6 p7 p8 p9 jB jC q0 q1 q2 q3 q4 q5 q6 q7 q8 q9 oa od E3;obtain⟨p0,p1,p2,p3,p4,p5,p6,p7,p8,p9,jB,jC⟩:=(a0.below E).cells;obtain⟨q0,q1,q2,q3,q4,q5,q6,q7,q8,q9,oa,od⟩:=(b0.below E).cells;cases b5 with
         | false=>
           have HZ:=hid (show ¬rE a b from fun h=>by have:=K5.out.2 h.2.2.2.2.1;cases this);go_wp2_with fail
           (try go_simp)
           go_ret;exact⟨false,rfl,⟨fun h=>aqm h,fun h=>absurd h HZ.out⟩,HA.out.trans (E.mono HA.out.size)⟩
         | true=>
           go_wp2_with fail;refine(SA.out _ (H1.out.keep E) (H2.out.keep E)).mono ?_;rintro e w4 ⟨bb,rfl,eJ,E4⟩;have E:=E.trans (E4.mono E.size);have qQ:=hid eJ;clear p0 p1 p2 p3 p4 p5 p6 p7 p8 p9 jB jC q0 q1 q2 q3 q4 q5 q6 q7 q8 q9 oa od E4 eJ;go_wp2_with fail
           (try go_simp)
           go_ret;exact⟨bb,rfl,⟨fun h=>⟨K1.out.1 (by first|rfl|trivial),K2.out.1 (by first|rfl|trivial),K3.out.1 (by first|rfl|trivial),K4.out.1 (by first|rfl|trivial),K5.out.1 (by first|rfl|trivial),(qQ.out.1 h).1,(qQ.out.1 h).2⟩,fun h=>qQ.out.2 ⟨h.2.2.2.2.2.1,h.2.2.2.2.2.2⟩⟩,HA.out.trans (E.mono HA.out.size)⟩
theorem Wk{t:ak}(h:bI t=0):aH t.af=true/\(eW t.name&&eY t.aC)=true/\cg t=0/\dW t=0/\iA t=0/\(gH t).length<=64:=by
 cases h1:aH t.af with
 |false=>rw[Lo h1]at h;cases h
 | true=>
   cases h2:(eW t.name&&eY t.aC)with
   |false=>rw[yZ h1 h2]at h;cases h
   | true=>
     by_cases h3:cg t=0
     ·by_cases h4:dW t=0
      ·rw[Lp h1 h2 h3 h4]at h
       by_cases h5:iA t=0
       ·rw[if_neg (by simpa using h5)]at h
        by_cases h6:64<(gH t).length
        ·rw[if_pos h6]at h;cases h
        ·exact⟨rfl,rfl,h3,h4,h5,by omega⟩
       ·rw[if_pos h5]at h;exact absurd h h5
      ·rw[Lr h1 h2 h3 h4]at h;exact absurd h h4
     ·rw[Lu h1 h2 h3]at h;exact absurd h h3
def Yf(w:World)(l:List Tx)(r:Int)(e:Ending)(w':World):Prop:=
 ∃a c,e= .returned (.tuple #[.slice a l.length c,.int .i64 r])/\bh w' w.heap.size a l.length c l/\Below w.heap.size w w'
def Ye(w:World)(l:List Tx)(e:Ending)(w':World):Prop:=
 ∃a c,e= .returned (.slice a l.length c)/\bh w' w.heap.size a l.length c l/\Below w.heap.size w w'
theorem ahu(s:Tx)(n:Nat)(hs:s.length<=1000000)(hn:n<=1000000)(w:World):
 Calls prog 128 #[.string (tx s),.int .i64 n] w (ax w (.string (tx (lP n s)))):=by
 obtain⟨m,hm⟩: ∃m,s.length=m:=⟨_,rfl⟩;have HM:=hid hm;rw[hm]at hs;clear hm;go_in;go_wp2_with fail
 go_loopw [0] (fun v wr=> ∃(j:Nat) (l:Tx),j<=n-m/\v= .string (tx l)/\(tx l).size=m+j/\Below w.heap.size w wr/\Hid (l=s++ao8 j 32)) (fun v _=>n-(match v with| .string b=>b.size|_=>0))
 case atStart=>exact⟨0,s,by omega,rfl,by rw[aP,HM.out];rfl,apb _ _,by simp[Hid]⟩
 case round=>
  obtain⟨j,l,hj,rfl,hl,E,HL⟩:=hrel
  by_cases hlt:m+j<n
  ·have cV:l.length=m+j:=by rw[<-aP,hl]
   have cc: ∀w,(anY .add (tx l) ⟨#[32]⟩).run prog w= .ok (.string (tx (l++[32]))) w:=cQ l [32] (by rw[cV];simp;omega);obtain⟨l2,bN⟩: ∃l2,l++[32]=l2:=⟨_,rfl⟩;rw[bN]at cc;have wW:=hid (show l2=s++ao8 (j+1) 32 by rw[<-bN,HL.out,List.append_assoc,List.replicate_succ']);have hsz:(tx l2).size=m+(j+1):=by rw[aP,<-bN,List.length_append,cV];rfl
   clear bN cV;go_wp2_with fail
   go_roundw
   case rel=>exact⟨j+1,l2,by omega,rfl,hsz,E,wW⟩
   case measure=>simp only[hsz,hl];omega
  ·have HZ:=hid (show lP n s=l by unfold lP;rw[HM.out,HL.out,show n-m=j by omega])
   go_wp2_with fail;go_ret;rw[HZ.out];exact⟨rfl,E⟩
theorem yY{s:Tx}{n:Nat}(h:s.length=n):(tx s).size=n:=by rw[aP,h]
theorem UK(t:ak)(k line:Nat)(x:Cd)(hx:t.code[k]? =some x)(hk:k<100)(hl:line<=100000)(w:World)(h:dw w t)(g:Gl w):
 Calls prog 127 #[vT t,.int .i64 k,.int .i64 line] w (ax w (.string (tx ((cm t.af k x.l).getD line [])))):=by
 have A:=al w (bC t);have b0:=eG.new w t;have HI:=hid (h.keep A);have HA:=hid A;have HG:=hid (g.below A);have HX:=hid hx;clear h A g hx
 by_cases h0:line=0
 ·subst h0
  have HZ:=hid (show(cm t.af k x.l).getD 0 []=[80]++cR k from rfl)
  have cc: ∀w,(anY .add ⟨#[80]⟩ (tx (cR k))).run prog w= .ok (.string (tx ([80]++cR k))) w:=cQ [80] (cR k) (by
   have:(cR k).length<=4:=by unfold cR;split<;>(try split)<;>(try split)<;>simp
   simp;omega)
  obtain⟨r,hr⟩: ∃r,[80]++cR k=r:=⟨_,rfl⟩;rw[hr]at cc HZ;clear hr;go_in
  go_wp2_with (go_at_call 57;refine(vR k hk _).mono ?_;rintro e w' ⟨rfl,rfl⟩)
  go_ret;rw[HZ.out];exact⟨rfl,HA.out⟩
 ·have z0:((line:Int)==0)=false:=by simp;omega
  go_in
  go_upto_region 1 with(fail)
  generalize w.alloc (bC t)=W1 at*;obtain⟨c0,c1,c2,c3,c4,c5,c6,c7,c8,c9,c10,c11⟩:=b0.cells;have p0:=HI.out.code.cd HX.out;have ix:=HI.out.code.mS k (ano.1 HX.out).1 t.cc;have hxl:=(HI.out.rows x (aou HX.out)).is.len
  by_cases hlt:x.l.length<line
  ·have HZ:=hid (show(cm t.af k x.l).getD line []=[] by
    unfold cm;rw[apo,an8 (by simp;omega)];rfl)
   go_wp2_with fail;go_ret;rw[HZ.out];exact⟨rfl,HA.out⟩
  ·obtain⟨j,hj⟩: ∃j,line=j+1:=⟨line-1,by omega⟩
   obtain⟨i,hi⟩: ∃i,x.l[j]? =some i:=⟨_,amK (by omega)⟩;have kr:=HI.out.rows x (aou HX.out);obtain⟨q0,q1,q2,q3,q4,q5,q6,q7⟩:=kr.is.cells hi;have vS:=kr.is.idx j (by omega) x.c;rw[show(j:Int)=(line:Int)-1 by omega]at vS;have hb:=kr.nY i (aou hi)
   have HZ:=hid (show(cm t.af k x.l).getD line []=(dL t.af i).1 by
    rw[hj];unfold cm;rw[apo,List.getElem?_cons_succ,ao7,hi];rfl)
   have CK:=hid (fun d os=>aho t.af i hb.1 hb.2 (grow (redrawn W1 d) os) (HG.out.below (below_regrown W1 d os)));generalize dL t.af i=r at*;clear hj hi hb;go_wp2_with fail;have cA:=fun(d:Nat) (os:Array Obj)=>Calls.regrown_of (kB (CK.out d os))
   have c0:=cell_regrown c0;have c4:=cell_regrown c4;have p0:=cell_regrown p0;have q0:=cell_regrown q0;have q1:=cell_regrown q1;have q2:=cell_regrown q2;have q3:=cell_regrown q3;have q4:=cell_regrown q4;have q5:=cell_regrown q5;have q6:=cell_regrown q6;have q7:=cell_regrown q7;refine wp_region_quiet_below (by kernel_rfl) (by kernel_rfl) ?_
   repeat(go_big_quiet_step (exact cA _ _))
   refine wpQuiet_nil ?_;intro _ hw';obtain⟨⟨dq,aV⟩,hw''⟩:=hw';subst hw'';have EQ:=below_regrown W1 dq aV;go_wp2_with fail;go_ret;rw[HZ.out];exact⟨rfl,HA.out.trans (EQ.mono HA.out.size)⟩
theorem aa5:Builder.Extra prog Tryz.amw where
 sizeBuilder:=by kernel_rfl
 liesBuilder:=by kernel_rfl
 t5:=underlying5
 a5:=isAgg5
 z5:=sizeOf5
 v5:=zeroValue5
 infoByte:=by kernel_rfl
 cellsByte:=by kernel_rfl
 sizeByte:=by kernel_rfl
 neB5:=by decide
theorem ai4(z:Int)(n:Nat)(hz:z=n)(hn:n<=1000)(w:World):Calls prog 209 #[.string ⟨#[32]⟩,.int .i64 z] w (ax w (.string (tx (ao8 n 32)))):=by
 subst hz;refine(Any.strings_Repeat Tryz.amv aa5 ⟨#[32]⟩ n w (by omega) (by show 1*n<=_;omega)).mono fun e w' hh=>⟨?_,hh.2⟩
 rw[hh.1];have:=Lib.repeatL_replicate 32 1 n;rw[Nat.mul_one]at this;rw[show(⟨#[32]⟩:ByteArray).data.toList=ao8 1 32 from rfl,this];rfl
abbrev bT:TypeId:=96
theorem abe(ws:List Nat)(cs:List Tx)(aw ac:Option Addr)(cw cc n:Nat)(w:World)(hw:gz w aw (ws.map fun m:Nat=>(m:Int)))(hc:cP w ac cs)
 (hwn:ws.length=n) (hcn:cs.length=n) (h1:1<=n) (xR:n<=16) (hle: ∀(k m:Nat) (s:Tx),ws[k]? =some m->cs[k]? =some s->s.length<=m/\m<=70):
 Calls prog 125 #[.slice aw n cw,.slice ac n cc] w (ax w (.string (tx ([32]++dV (kA ws cs)++[32,59])))):=by
 have A:=al w (.cells #[.pointer none,.slice none 0 0] bT);have b0:bY (w.alloc (.cells #[.pointer none,.slice none 0 0] bT)) w.heap.size w.heap.size bT [] []:=bY.new w bT [];have HW:=hid hw;have HC:=hid hc;have HN:=hid (aov hwn (aov hcn hle));have hpl:(kA ws cs).length=n:=by rw[aft (by omega),hcn]
 have D7: ∀s∈kA ws cs,s.length<=70:=by
  intro s hs;obtain⟨k,hk⟩:=List.mem_iff_getElem?.1 hs;have hlt:=(ano.1 hk).1;rw[TQ (amK (by omega)) (amK (by omega))]at hk;have:=hle k _ _ (amK (by omega)) (amK (by omega));simp only[anK]at hk;subst hk;rw[Kh];omega
 have hjl: ∀k,(ng (kA ws cs) k).length<=1300:=fun k=>by
  have:=adw (k:=k) D7;rw[hpl]at this;have h2:n*73<=16*73:=Nat.mul_le_mul_right _ xR;omega
 obtain⟨r,hr⟩: ∃r,[32]++dV (kA ws cs)++[32,59]=r:=⟨_,rfl⟩;rw[hr];have HR:=hid hr;have HJ:=hid hjl;have HP:=hid hpl;have alQ:=hid D7;clear hw hc hwn hcn hle hpl D7 hjl hr;go_in
 go_upto_region 2 with(fail)
 generalize w.alloc (.cells #[.pointer none,.slice none 0 0] bT)=W1 at*;go_wp2_with fail
 go_loopw [10] (fun i wr=> ∃(k:Nat) (l:Tx),k<=n/\i= .int .i64 k/\Below w.heap.size w wr/\bY wr w.heap.size w.heap.size bT [] l/\l.length<=1300/\Hid (l=ng (kA ws cs) k)) (fun i _=>n-(intOf i).toNat)
 case atStart=>exact⟨0,[],by omega,rfl,A,b0,by simp,rfl⟩
 case round=>
  clear A b0;obtain⟨k,l,hk,rfl,E,b,hl,HL⟩:=hrel
  by_cases hlt:k<n
  ·obtain⟨m,hm⟩: ∃m,ws[k]? =some m:=⟨_,amK (by rw[HN.out.1];exact hlt)⟩
   obtain⟨s,hs⟩: ∃s,cs[k]? =some s:=⟨_,amK (by rw[HN.out.2.1];exact hlt)⟩;have hsm:=HN.out.2.2 k m s hm hs;have hpa:=TQ hm hs;have kN:lP m s=s++ao8 (m-s.length) 32:=rfl;rw[kN]at hpa;obtain⟨ls,hls⟩: ∃ls,s.length=ls:=⟨_,rfl⟩;have hsz:=yY hls;rw[hls]at hsm hpa;have Ml:=hid hpa;have HLS:=hid hls;have p0:=(HC.out.below E).at hs;have ix:=(HC.out.below E).idx k (by rw[HN.out.2.1];exact hlt) cc;rw[HN.out.2.1]at ix;have TI:=HW.out.below E;have iw:=TI.idx mA k (by rw[ao3,HN.out.1];exact hlt) cw;rw[ao3,HN.out.1]at iw
   have PW:=hid (show ∀w':World,Below w.heap.size w w'->w'.cell? ⟨bk aw,fo aw+k,none⟩=some (.int .i64 (m:Int))from fun w' E'=>by
    have pw:=(HW.out.below E').cell k (by rw[ao3,HN.out.1];exact hlt)
    rw[show(ws.map fun m:Nat=>(m:Int))[k]'(by rw[ao3,HN.out.1];exact hlt)=(m:Int)from by
     rw[List.getElem_map];rw[amK (by rw[HN.out.1];exact hlt)]at hm;rw[aoX hm]]at pw
    exact pw)
   have pw:=PW.out wr E;have c1: ∀w,(anY .add ⟨#[32]⟩ (tx s)).run prog w= .ok (.string (tx (32::s))) w:=cQ [32] s (by rw[hls];simp;omega);have c2: ∀w,(anY .add (tx (32::s)) (tx (ao8 (m-ls) 32))).run prog w= .ok (.string (tx (32::(s++ao8 (m-ls) 32)))) w:=cQ (32::s) (ao8 (m-ls) 32) (by simp[hls];omega);have RP:=hid (fun(w:World)=>ai4 ((m:Int)-ls) (m-ls) (by omega) (by omega) w);obtain⟨p,hp⟩: ∃p,32::(s++ao8 (m-ls) 32)=p:=⟨_,rfl⟩;have amo:p.length<=71:=by rw[<-hp];simp[hls];omega
   rw[hp]at c2;have oG:=hid hp;clear hm hs hpa kN hls TI hp
   by_cases hk0:k=0
   ·have z0:decide ((0:Int)<(k:Int))=false:=by simp;omega
    have z1:decide (0<k)=false:=by simp;omega
    have HT:=hid (show l++p=ng (kA ws cs) (k+1) by
     have h1:=HL.out;have h2:=Ml.out;rw[hk0]at h1 h2⊢;rw[h1,<-oG.out,adv h2])
    have bN:=HJ.out (k+1);rw[<-HT.out]at bN;have BW:=hid (fun(w':World) (h:bY w' w.heap.size w.heap.size bT [] l) (h2:w.heap.size<=w'.heap.size)=>xA w.heap.size w.heap.size bT [] l p w' zW h (by omega) h2);obtain⟨l2,AR⟩: ∃l2,l++p=l2:=⟨_,rfl⟩;rw[AR]at BW HT bN;clear AR hk0;go_wp2_with fail;refine(RP.out _).mono ?_;rintro e w2 ⟨rfl,E2⟩;have b2:=b.below E2;have E3:=E.trans (E2.mono E.size);clear b E E2 p0 pw ix iw;go_wp2_with fail;refine(BW.out _ b2 E3.size).mono ?_;rintro e w3 ⟨rfl,b3,E4, -⟩;have E5:=E3.trans E4;clear b2 E3 E4 BW;go_wp2_with fail
    go_roundw
    case rel=>exact⟨k+1,l2,by omega,by go_num,E5,b3,bN,HT⟩
    case measure=>simp[intOf];omega
   ·have HT:=hid (show(l++[32,124])++p=ng (kA ws cs) (k+1) by rw[HL.out,<-oG.out,adx Ml.out hk0])
    have bN:=HJ.out (k+1);rw[<-HT.out]at bN;have BA:=hid (fun(w':World) (h:bY w' w.heap.size w.heap.size bT [] l) (h2:w.heap.size<=w'.heap.size)=>xA w.heap.size w.heap.size bT [] l [32,124] w' zW h (by simp;omega) h2);obtain⟨l1,I1⟩: ∃l1,l++[32,124]=l1:=⟨_,rfl⟩;have jt:l1.length<=1302:=by rw[<-I1];simp;omega
    rw[I1]at BA HT bN;have BW:=hid (fun(w':World) (h:bY w' w.heap.size w.heap.size bT [] l1) (h2:w.heap.size<=w'.heap.size)=>xA w.heap.size w.heap.size bT [] l1 p w' zW h (by omega) h2);obtain⟨l2,AR⟩: ∃l2,l1++p=l2:=⟨_,rfl⟩;rw[AR]at BW HT bN;clear AR I1;go_wp2_with fail;refine(BA.out _ b E.size).mono ?_;rintro e w1 ⟨rfl,b1,E1, -⟩;have E0:=E.trans E1;clear pw p0 ix b E E1 BA;have pw:=PW.out w1 E0;go_wp2_with fail;refine(RP.out _).mono ?_;rintro e w2 ⟨rfl,E2⟩;have b2:=b1.below E2;have E3:=E0.trans (E2.mono E0.size);clear b1 E0 E2 pw iw;go_wp2_with fail;refine(BW.out _ b2 E3.size).mono ?_;rintro e w3 ⟨rfl,b3,E4, -⟩;have E5:=E3.trans E4;clear b2 E3 E4 BW;go_wp2_with fail
    go_roundw
    case rel=>exact⟨k+1,l2,by omega,by go_num,E5,b3,bN,HT⟩
    case measure=>simp[intOf];omega
  ·have hkn:k=n:=by omega
   subst hkn
   have HT:=hid (show l=[32]++dV (kA ws cs) by
    rw[HL.out];unfold ng;rw[if_neg (by omega),List.take_of_length_le (by rw[HP.out];omega)])
   have hne:l≠[]:=by rw[HT.out];simp
   have ST:=hid (GK w.heap.size w.heap.size bT [] l wr b hne);have NC: ∀w,(anY .add (tx l) ⟨#[32,59]⟩).run prog w= .ok (.string (tx (l++[32,59]))) w:=cQ l [32,59] (by simp;omega);clear hne b;go_wp2_with fail;refine ST.out.mono ?_;rintro e w2 ⟨rfl,E2⟩;go_wp2_with fail
   (try go_simp)
   go_ret;rw[show r=l++[32,59] by rw[<-HR.out,HT.out]];exact⟨rfl,E.trans E2⟩
end Go.Proofs.YtkbbgjloifmmbaaGreatDoor

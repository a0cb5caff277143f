/- The walk of SameNode (document). Conditions: the nodes lie in memory as read; few of them. Equality of lines of an initial state. Lemmas of this claim's own; no condition. The walk of SameTest (document). Conditions: the tests lie in memory as read; few nodes. The walk of the law FilePrints. Conditions: the test lies in memory as read; the library's variables as laid. A table's lines: what bytes stand in cells; bars stand below one another. Plain lists; no program, no condition. Texts taken apart at a byte; lines of a text. Plain lists; no program, no condition. -/
import Derived.Test.YthaibjefnclkjaaGreatDoorAp37
import Derived.Deep.LoopGhost
set_option linter.unusedVariables false
set_option maxRecDepth 100000
set_option maxHeartbeats 6400000
namespace Go.Proofs.YthaibjefnclkjaaGreatDoor
open Go.RowKit Go.Sort
attribute [local go_sem high] neqTh
abbrev OwnNd (w:World) (B:Nat) (a:Option Addr) (n c:Nat) (l:List Nd):Prop:=Own w B 35 6 a n c (flat cN l)
def RetB (w:World) (P:Prop) (e:Ending) (w':World):Prop:=∃ b:Bool,e = .returned (.bool b)∧(b=true↔P)∧Below w.heap.size w w'
theorem BxN.step {w w' : World} {b : Nat} {x : Nd} {sa a' : Option Addr} (h : BxN w b x) (hs : Step w w' sa a') (hne : sa = none ∨ b ≠ bk sa) : BxN w' b x := by
  refine ⟨Nat.lt_of_lt_of_le h.1 hs.grown.size, fun k hk => ?_⟩
  rw [← h.2 k hk]
  obtain ⟨v, hv⟩ : ∃ v, w.cell? ⟨b, k, none⟩ = some v := ⟨_, (h.2 k hk).trans (List.getElem?_eq_getElem (by rw [cN_len]; exact hk))⟩
  rw [hv]
  refine hs.grown.cell hv ?_
  cases sa with
  | none => simp
  | some y => rcases hne with h2 | h2
              · cases h2
              · simpa [bk] using h2
theorem Own.litNd (w:World) (x:Nd):OwnNd (w.alloc (mkN x)) w.heap.size (Option.some ⟨w.heap.size,0,none⟩) 1 1 [x]:=by
 have h:=World.ownsRow_lit w (e:=35) #[.int .i64 x.kind,.int .i64 x.th.thread,.int .i64 x.th.reg,.string (tx x.th.loc),.int .i64 x.val,.slice x.a x.kids.length x.c] 1 (Nat.le_refl w.heap.size) (size:=6) (by unfold maxLen;omega) (by simp)
 exact h
theorem r11SameNode (x y:Nd) (w:World) (h1:NdIn w x) (h2:NdIn w y) (c1:cntN x≤1024) (c2:cntN y≤1024) :
  Calls Tryz.prog 39 #[vN x,vN y] w (RetB w (bareN x=bareN y)):=by
 have A1:=al w (mkN x)
 have x0:=BxN.new w x
 have A2:=al (w.alloc (mkN x)) (mkN y)
 have y0:=BxN.new (w.alloc (mkN x)) y
 rw [alloc_size] at y0
 have x0:=x0.below A2
 have HA:=hid (A1.trans (A2.mono A1.size))
 have HX:=hid (h1.keep HA.out);have HY:=hid (h2.keep HA.out)
 clear h1 h2 A1 A2
 go_enter Tryz.func39,Tryz.ntmps39
 go_upto_region 1 with (fail)
 generalize (w.alloc (mkN x)).alloc (mkN y)=W1 at *
 obtain ⟨p0,p1,p2,p3,p4,p5⟩:=x0.cells
 obtain ⟨q0,q1,q2,q3,q4,q5⟩:=y0.cells
 have hx0:=x0.1;have hy0:=y0.1
 go_cut [5,6] (fun s5 s6 wx=>∃ (a1 a2:Option Addr),s5 = .slice a1 1 1∧s6 = .slice a2 1 1∧OwnNd wx W1.heap.size a1 1 1 [x]∧OwnNd wx W1.heap.size a2 1 1 [y]∧Below W1.heap.size W1 wx∧Apart a1 a2)
 case first =>
  go_region
  all_goals
   go_wp2_with fail
   go_meet
  ·refine ⟨some ⟨W1.heap.size,0,none⟩,some ⟨W1.heap.size+1,0,none⟩,rfl,rfl,?_,?_,?_,.inr (.inr (by simp))⟩
   ·exact Own.below (Own.below (Own.litNd W1 x) (al _ (mkN y))) (below_drewN _ 1)
   ·have h:=Own.litNd (W1.alloc (mkN x)) y
    rw [alloc_size] at h
    exact Own.below (Own.mono h (by omega)) (below_drewN _ 1)
   ·exact bel_drew (bel_alloc (al _ _) _)
  ·refine ⟨some ⟨W1.heap.size+1,0,none⟩,some ⟨W1.heap.size,0,none⟩,rfl,rfl,?_,?_,?_,.inr (.inr (by simp))⟩
   ·have h:=Own.litNd (W1.alloc (mkN y)) x
    rw [alloc_size] at h
    exact Own.below (Own.mono h (by omega)) (below_drewN _ 1)
   ·exact Own.below (Own.below (Own.litNd W1 y) (al _ (mkN x))) (below_drewN _ 1)
   ·exact bel_drew (bel_alloc (al _ _) _)
 case rest =>
  obtain ⟨a1,a2,rfl,rfl,o1,o2,E,AP⟩:=hcut
  clear p0 p1 p2 p3 p4 p5 q0 q1 q2 q3 q4 q5 hx0 hy0 x0 y0
  have HIX:=hid (show ∀ k∈[x],NdIn W1 k from fun k hk=>by rcases List.mem_singleton.1 hk with rfl;exact HX.out)
  have HIY:=hid (show ∀ k∈[y],NdIn W1 k from fun k hk=>by rcases List.mem_singleton.1 hk with rfl;exact HY.out)
  go_wp2_with fail
  go_loopg [5,6] (cntN x) (fun g s5 s6 wr=>∃ (n:Nat) (a1:Option Addr) (d1:Nat) (a2:Option Addr) (d2:Nat) (X Y:List Nd),s5 = .slice a1 n d1∧s6 = .slice a2 n d2∧X.length=n∧Y.length=n∧cntL X=g∧g≤1024∧cntL Y≤1024∧OwnNd wr W1.heap.size a1 n d1 X∧OwnNd wr W1.heap.size a2 n d2 Y∧Apart a1 a2∧Below W1.heap.size W1 wr∧Hid (∀ k∈X,NdIn W1 k)∧Hid (∀ k∈Y,NdIn W1 k)∧Hid (bareL X=bareL Y↔bareN x=bareN y))
  case atStart=>exact ⟨1,a1,1,a2,1,[x],[y],rfl,rfl,rfl,rfl,cntL_one x,c1,by rw [cntL_one];exact c2,o1,o2,AP,E,HIX,HIY,by show _↔_;rw [bareL_cons,bareL_cons,bareL_nil];simp⟩
  case round =>
   clear o1 o2 E AP HIX HIY
   obtain ⟨n,a1,d1,a2,d2,X,Y,rfl,rfl,hX,hY,hg,hg2,hgY,o1,o2,AP,E,HIX,HIY,HB⟩:=hrel
   cases n with
   | zero =>
    have HZ:=hid (show bareN x=bareN y by
     rw [← HB.out,List.eq_nil_of_length_eq_zero hX,List.eq_nil_of_length_eq_zero hY])
    go_wp2_with fail
    (try go_simp)
    go_ret
    exact ⟨true,rfl,⟨fun _=>HZ.out,fun _=>rfl⟩,HA.out.trans (E.mono HA.out.size)⟩
   | succ n =>
    obtain ⟨p,hp⟩ : ∃ p,X[n]? = some p:=⟨_,List.getElem?_eq_getElem (by omega)⟩
    obtain ⟨q,hq⟩ : ∃ q,Y[n]? = some q:=⟨_,List.getElem?_eq_getElem (by omega)⟩
    have hXs:=last_split hX hp
    have hYs:=last_split hY hq
    have HST:=hid (stack_step (p:=p) (q:=q) (show (X.take n).length=(Y.take n).length by rw [List.length_take,List.length_take];omega))
    have HNP:=hid (HIX.out p (List.mem_of_getElem? hp))
    have HNQ:=hid (HIY.out q (List.mem_of_getElem? hq))
    have hcx:cntL (X.take n)+cntN p=cntL X:=by conv=>rhs;rw [hXs];rw [cntL_app,cntL_one]
    have hcy:cntL (Y.take n)+cntN q=cntL Y:=by conv=>rhs;rw [hYs];rw [cntL_app,cntL_one]
    have hXl:=cntL_len X;have hYl:=cntL_len Y
    have e1:=(Own.els o1 cN_len (by omega) (by omega)).1
    have e2:=(Own.els o2 cN_len (by omega) (by omega)).1
    obtain ⟨p0,p1,p2,p3,p4,p5⟩:=e1.nd hp
    obtain ⟨q0,q1,q2,q3,q4,q5⟩:=e2.nd hq
    have ix:=e1.idx ndl cN_len n (by omega) d1
    have iy:=e2.idx ndl cN_len n (by omega) d2
    rw [hX] at ix
    rw [hY] at iy
    have HXS:=hid hXs;have HYS:=hid hYs
    clear hXs hYs hp hq
    have hb1:=(Own.lt o1 (Own.some o1 (by omega))).2
    have hb2:=(Own.lt o2 (Own.some o2 (by omega))).2
    have z0:decide ((0:Int)<(n:Int)+1)=true:=decide_eq_true (by omega)
    have hd1:=o1.cap.1;have hd2:=o2.cap.1
    have hwm:=o1.cap.2.1
    go_upto_region 4 with (fail)
    go_cut [8,9] (fun s8 s9 wx=>∃ (u1 u2:Nat),s8 = .pointer (some ⟨u1,0,none⟩)∧s9 = .pointer (some ⟨u2,0,none⟩)∧BxN wx u1 p∧BxN wx u2 q∧Below wr.heap.size wr wx∧wr.heap.size≤u1∧wr.heap.size≤u2)
    case first =>
     go_region
     all_goals
      go_wp2_with fail
      go_meet
     ·refine ⟨wr.heap.size,wr.heap.size+1,rfl,rfl,?_,?_,bel_drew (bel_alloc (al _ _) _),by omega,by omega⟩
      ·exact ((BxN.new wr p).below (al _ (mkN q))).below (below_drewN _ 1)
      ·have h:=BxN.new (wr.alloc (mkN p)) q
       rw [alloc_size] at h
       exact h.below (below_drewN _ 1)
     ·refine ⟨wr.heap.size+1,wr.heap.size,rfl,rfl,?_,?_,bel_drew (bel_alloc (al _ _) _),by omega,by omega⟩
      ·have h:=BxN.new (wr.alloc (mkN q)) p
       rw [alloc_size] at h
       exact h.below (below_drewN _ 1)
      ·exact ((BxN.new wr q).below (al _ (mkN p))).below (below_drewN _ 1)
    case rest =>
     obtain ⟨u1,u2,rfl,rfl,B1,B2,E4,hu1,hu2⟩:=hcut
     have o1:=Own.below o1 E4
     have o2:=Own.below o2 E4
     have E:=E.trans (E4.mono E.size)
     have r1:=run_cut_to ndl a1 (n+1) d1 n (by omega) .i64
     have r2:=run_cut_to ndl a2 (n+1) d2 n (by omega) .i64
     have hv2:a1=none∨u2≠bk a1:=.inr (by omega)
     clear p0 p1 p2 p3 p4 p5 q0 q1 q2 q3 q4 q5 ix iy e1 e2 hb1 hb2 E4 hu1 hu2
     go_wp2_with fail
     refine wp_region_quiet_below (by kernel_rfl) (by kernel_rfl) ?_
     repeat (go_big_quiet_step (fail))
     refine wpQuiet_nil ?_
     intro _ hw'
     obtain ⟨⟨dq,osq⟩,hw''⟩:=hw'
     subst hw''
     have EQ:=below_regrown wc dq osq
     generalize grow (redrawn wc dq) osq=W5 at *
     have E:=E.trans (EQ.mono E.size)
     have o1:=Own.frontL cN_len (Own.below o1 EQ) hX.symm (Nat.le_succ n)
     have o2:=Own.frontL cN_len (Own.below o2 EQ) hY.symm (Nat.le_succ n)
     obtain ⟨p0,p1,p2,p3,p4,p5⟩:=(B1.below EQ).cells
     obtain ⟨q0,q1,q2,q3,q4,q5⟩:=(B2.below EQ).cells
     have HB1:=hid (B1.below EQ);have HB2:=hid (B2.below EQ)
     have HYN:=hid (show bareL X=bareL Y↔(p.kind=q.kind∧p.th=q.th∧p.val=q.val∧p.kids.length=q.kids.length)∧bareL (X.take n++p.kids)=bareL (Y.take n++q.kids) by
      rw [← HST.out,← HXS.out,← HYS.out])
     have hmxy:2 * n+p.kids.length+q.kids.length≤4096:=by
      have:=cntL_len p.kids;have:=cntL_len q.kids
      have:=cntN_eq p;have:=cntN_eq q
      omega
     have hpk:cntL (X.take n++p.kids)+1=cntL X:=by rw [cntL_app,← hcx,cntN_eq p];omega
     have hqk:cntL (Y.take n++q.kids)+1=cntL Y:=by rw [cntL_app,← hcy,cntN_eq q];omega
     have hTX:(X.take n).length=n:=by rw [List.length_take];omega
     have hTY:(Y.take n).length=n:=by rw [List.length_take];omega
     have HIX2:=hid (show ∀ k∈X.take n++p.kids,NdIn W1 k from fun k hk=>by
      rcases List.mem_append.1 hk with h|h
      ·exact HIX.out k (List.mem_of_mem_take h)
      ·exact HNP.out.kid k h)
     have HIY2:=hid (show ∀ k∈Y.take n++q.kids,NdIn W1 k from fun k hk=>by
      rcases List.mem_append.1 hk with h|h
      ·exact HIY.out k (List.mem_of_mem_take h)
      ·exact HNQ.out.kid k h)
     clear EQ r1 r2 B1 B2 hcx hcy HIX HIY HXS HYS HST
     obtain ⟨b1,hb1⟩ : ∃ b,(p.kind != q.kind)=b:=⟨_,rfl⟩
     obtain ⟨b2,hb2⟩ : ∃ b,(!decide (p.th=q.th))=b:=⟨_,rfl⟩
     obtain ⟨b3,hb3⟩ : ∃ b,(p.val != q.val)=b:=⟨_,rfl⟩
     obtain ⟨b4,hb4⟩ : ∃ b,((p.kids.length:Int)!=q.kids.length)=b:=⟨_,rfl⟩
     have HK:=hid (show b1=false↔p.kind=q.kind by rw [← hb1];simp)
     have HTH:=hid (show b2=false↔p.th=q.th by rw [← hb2];simp)
     have HVA:=hid (show b3=false↔p.val=q.val by rw [← hb3];simp)
     have HLE:=hid (show b4=false↔p.kids.length=q.kids.length by rw [← hb4];simp;omega)
     cases b1 with
     | true =>
      have HZ:=hid (show ¬ bareN x=bareN y from fun h=>by
       have:=(HYN.out.1 (HB.out.2 h)).1.1
       rw [← HK.out] at this;cases this)
      clear hb2 hb3 hb4
      go_wp2_with fail
      (try go_simp)
      go_ret
      exact ⟨false,rfl,⟨fun h=>Bool.noConfusion h,fun h=>absurd h HZ.out⟩,HA.out.trans (E.mono HA.out.size)⟩
     | false =>
      cases b2 with
      | true =>
       have HZ:=hid (show ¬ bareN x=bareN y from fun h=>by
        have:=(HYN.out.1 (HB.out.2 h)).1.2.1
        rw [← HTH.out] at this;cases this)
       clear hb3 hb4
       go_wp2_with fail
       (try go_simp)
       go_ret
       exact ⟨false,rfl,⟨fun h=>Bool.noConfusion h,fun h=>absurd h HZ.out⟩,HA.out.trans (E.mono HA.out.size)⟩
      | false =>
       cases b3 with
       | true =>
        have HZ:=hid (show ¬ bareN x=bareN y from fun h=>by
         have:=(HYN.out.1 (HB.out.2 h)).1.2.2.1
         rw [← HVA.out] at this;cases this)
        clear hb4
        go_wp2_with fail
        (try go_simp)
        go_ret
        exact ⟨false,rfl,⟨fun h=>Bool.noConfusion h,fun h=>absurd h HZ.out⟩,HA.out.trans (E.mono HA.out.size)⟩
       | false =>
        cases b4 with
        | true =>
         have HZ:=hid (show ¬ bareN x=bareN y from fun h=>by
          have:=(HYN.out.1 (HB.out.2 h)).1.2.2.2
          rw [← HLE.out] at this;cases this)
         go_wp2_with fail
         (try go_simp)
         go_ret
         exact ⟨false,rfl,⟨fun h=>Bool.noConfusion h,fun h=>absurd h HZ.out⟩,HA.out.trans (E.mono HA.out.size)⟩
        | false =>
         have HB3:=hid (show bareL (X.take n++p.kids)=bareL (Y.take n++q.kids)↔bareN x=bareN y by
          rw [← HB.out,HYN.out]
          exact ⟨fun h=>⟨⟨HK.out.1 rfl,HTH.out.1 rfl,HVA.out.1 rfl,HLE.out.1 rfl⟩,h⟩,fun h=>h.2⟩)
         have hll:=HLE.out.1 rfl
         have er:=(HNP.out.els.below E).row
         have hfl:=flat_ok cN_len p.kids p.kids.length rfl
         have HHLL:=hid hll
         clear hll
         go_wp2_with (at_builtin;go_loud (refine wpList_app ndl (.tmp 62) (.tmp 64) rfl rfl rfl o1 rfl er hfl (flat_oneCell cN_one _) E E.size (by omega) (by unfold maxLen;omega) ?_))
         intro a6 c6 w6 o6 g6 E6
         have oX:OwnNd w6 W1.heap.size a6 (n+p.kids.length) c6 (X.take n++p.kids):=by unfold OwnNd;rw [flat_app];exact o6
         obtain ⟨oY,AP2⟩:=Own.step o2 g6.step AP.symm
         have D2:=HB2.out.step g6.step hv2
         obtain ⟨q0,q1,q2,q3,q4,q5⟩:=D2.cells
         have er2:=(HNQ.out.els.below E6).row
         have hfl2:=flat_ok cN_len q.kids q.kids.length rfl
         clear o1 o2 o6 g6 E p0 p1 p2 p3 p4 p5 D2 er hfl AP
         go_wp2_with (at_builtin;go_loud (refine wpList_app ndl (.tmp 66) (.tmp 68) rfl rfl rfl oY rfl er2 hfl2 (flat_oneCell cN_one _) E6 E6.size (by omega) (by unfold maxLen;omega) ?_))
         intro a7 c7 w7 o7 g7 E7
         have oY2:OwnNd w7 W1.heap.size a7 (n+q.kids.length) c7 (Y.take n++q.kids):=by unfold OwnNd;rw [flat_app];exact o7
         obtain ⟨oX2,AP3⟩:=Own.step oX g7.step AP2.symm
         have hl7:=HHLL.out
         clear oX oY o7 g7 E6 q0 q1 q2 q3 q4 q5 er2 hfl2 AP2
         go_wp2_with fail
         go_roundg (cntL (X.take n++p.kids))
         case measure=>omega
         case rel=>exact ⟨n+p.kids.length,a6,c6,a7,c7,_,_,rfl,by rw [hl7],by rw [List.length_append,hTX],by rw [List.length_append,hTY,hl7],rfl,by omega,by omega,oX2,by rw [hl7];exact oY2,AP3,E7,HIX2,HIY2,HB3⟩
theorem ini_ext (x y:Ini):(x=y)↔(x.thread=y.thread∧x.reg=y.reg∧x.loc=y.loc∧x.vloc=y.vloc∧x.n=y.n):=by
 cases x;cases y;simp
theorem eqIni (x y:Ini) (w:World):(binOp .eql 64 (vIni x) (vIni y)).run Tryz.prog w = .ok (.bool (decide (x=y))) w:=by
 have hS:Tryz.prog.underlying 64=some (.struct (Tryz.prog.fieldsOf 64)):=by kernel_rfl
 have hp:Tryz.prog.stoodInHeld 64=false:=by kernel_rfl
 have hS2:Tryz.prog.underlying 62=some (.struct (Tryz.prog.fieldsOf 62)):=by kernel_rfl
 have hp2:Tryz.prog.stoodInHeld 62=false:=by kernel_rfl
 have a3:=Tryz.isAgg3;have z3:=Tryz.sizeOf3;have u3:=Tryz.underlying3
 have a4:=Tryz.isAgg9;have z4:=Tryz.sizeOf9;have u4:=Tryz.underlying9
 have a5:=Tryz.isAgg62;have z5:=Tryz.sizeOf62;have u5:=Tryz.underlying62
 rw [run_eql_struct,show (10000:Nat)=9999+1 from rfl,run_equalIn_agg w 9999 64 _ _ hS hp]
 simp only [Program.fieldsOf,Tryz.underlying64]
 have hin : ∀ w,(Op.equalIn 9999 62 (.agg #[.string (tx x.vloc),.int .i64 x.n]) (.agg #[.string (tx y.vloc),.int .i64 y.n])).run Tryz.prog w = .ok (decide (x.vloc=y.vloc∧x.n=y.n)) w:=fun w=>by
  rw [show (9999:Nat)=9998+1 from rfl,run_equalIn_agg w 9998 62 _ _ hS2 hp2]
  simp only [Program.fieldsOf,Tryz.underlying62]
  go_simp
  simp only [tx_toList]
  by_cases h1:x.vloc=y.vloc <;> by_cases h2:x.n=y.n <;> simp [h1,h2]
 go_simp
 rw [show decide (x=y)=decide (x.thread=y.thread∧x.reg=y.reg∧x.loc=y.loc∧x.vloc=y.vloc∧x.n=y.n) from decide_eq_decide.2 (ini_ext x y)]
 simp only [tx_toList]
 by_cases h1:x.thread=y.thread <;> by_cases h2:x.reg=y.reg <;> by_cases h6:x.loc=y.loc <;> by_cases h7:x.vloc=y.vloc <;> by_cases h8:x.n=y.n <;> simp [h1,h2,h6,h7,h8]
theorem neqIni (x y:Ini) (w:World):(binOp .neq 64 (vIni x) (vIni y)).run Tryz.prog w = .ok (.bool (!decide (x=y))) w:=by
 have h:=eqIni x y w
 rw [run_eql_struct] at h
 rw [run_neq_struct]
 generalize (Op.equalIn 10000 64 (.agg #[.int .i64 x.thread,.int .i64 x.reg,.string (tx x.loc),.string (tx x.vloc),.int .i64 x.n]) (.agg #[.int .i64 y.thread,.int .i64 y.reg,.string (tx y.loc),.string (tx y.vloc),.int .i64 y.n])).run Tryz.prog w=r at *
 cases r with
 | ok b w'=>simp [Result.andThen] at h ⊢;obtain ⟨rfl,rfl⟩:=h;exact ⟨rfl,rfl⟩
 | halt x w'=>simp [Result.andThen] at h
attribute [local go_sem high] neqIni
def SameT (a b:Tst):Prop:=a.arch=b.arch∧a.name=b.name∧a.cycle=b.cycle∧a.init.length=b.init.length∧codL a.code=codL b.code∧a.q=b.q∧a.init=b.init∧bareN a.node=bareN b.node
theorem eq_tx (a b:Tx) (c:Bool) (h:((tx a).toList==(tx b).toList)=c):(c=true↔a=b):=by rw [← h,tx_beq];simp
theorem r11SameTest (a b:Tst) (w:World) (h1:TsIn w a) (h2:TsIn w b) (c1:cntN a.node≤1024) (c2:cntN b.node≤1024) :
  Calls Tryz.prog 15 #[vT a,vT b] w (RetB w (SameT a b)):=by
 have A1:=al w (mkT a)
 have A2:=al (w.alloc (mkT a)) (mkT b)
 have a0:=(BxT.new w a).below A2
 have b0:=BxT.new (w.alloc (mkT a)) b
 rw [alloc_size] at b0
 have HA:=hid (A1.trans (A2.mono A1.size))
 have H1:=hid (h1.keep HA.out);have H2:=hid (h2.keep HA.out)
 have SN:=hid (fun (w':World) (h1:NdIn w' a.node) (h2:NdIn w' b.node)=>r11SameNode a.node b.node w' h1 h2 c1 c2)
 clear h1 h2 A1 A2
 obtain ⟨b1,hb1⟩ : ∃ x,(a.arch != b.arch)=x:=⟨_,rfl⟩
 obtain ⟨b2,hb2⟩ : ∃ x,((tx a.name).toList==(tx b.name).toList)=x:=⟨_,rfl⟩
 obtain ⟨b3,hb3⟩ : ∃ x,((tx a.cycle).toList==(tx b.cycle).toList)=x:=⟨_,rfl⟩
 obtain ⟨b4,hb4⟩ : ∃ x,((a.init.length:Int)!=b.init.length)=x:=⟨_,rfl⟩
 obtain ⟨b6,hb6⟩ : ∃ x,(a.q != b.q)=x:=⟨_,rfl⟩
 have K1:=hid (show b1=false↔a.arch=b.arch by rw [← hb1];simp)
 have K2:=hid (eq_tx _ _ _ hb2)
 have K3:=hid (eq_tx _ _ _ hb3)
 have K4:=hid (show b4=false↔a.init.length=b.init.length by rw [← hb4];simp;omega)
 have K6:=hid (show b6=false↔a.q=b.q by rw [← hb6];simp)
 go_enter Tryz.func15,Tryz.ntmps15
 go_upto_region 1 with (fail)
 generalize (w.alloc (mkT a)).alloc (mkT b)=W1 at *
 obtain ⟨p0,p1,p2,p3,p4,p5,p6,p7,p8,p9,p10,p11⟩:=a0.cells
 obtain ⟨q0,q1,q2,q3,q4,q5,q6,q7,q8,q9,q10,q11⟩:=b0.cells
 have SC:=hid (r11SameCode a.code b.code a.ca b.ca a.cc b.cc W1 H1.out.code H2.out.code H1.out.rows H2.out.rows)
 cases b1 with
 | true =>
  have HZ:=hid (show ¬ SameT a b from fun h=>by have:=K1.out.2 h.1;cases this)
  clear hb2 hb3 hb4 hb6
  go_wp2_with fail
  (try go_simp)
  go_ret
  exact ⟨false,rfl,⟨fun h=>Bool.noConfusion h,fun h=>absurd h HZ.out⟩,HA.out⟩
 | false =>
  have F1:=hid (K1.out.1 rfl)
  cases b2 with
  | false =>
   have HZ:=hid (show ¬ SameT a b from fun h=>by have:=K2.out.2 h.2.1;cases this)
   clear hb3 hb4 hb6
   go_wp2_with fail
   (try go_simp)
   go_ret
   exact ⟨false,rfl,⟨fun h=>Bool.noConfusion h,fun h=>absurd h HZ.out⟩,HA.out⟩
  | true =>
   have F2:=hid (K2.out.1 rfl)
   cases b3 with
   | false =>
    have HZ:=hid (show ¬ SameT a b from fun h=>by have:=K3.out.2 h.2.2.1;cases this)
    clear hb4 hb6
    go_wp2_with fail
    (try go_simp)
    go_ret
    exact ⟨false,rfl,⟨fun h=>Bool.noConfusion h,fun h=>absurd h HZ.out⟩,HA.out⟩
   | true =>
    have F3:=hid (K3.out.1 rfl)
    cases b4 with
    | true =>
     have HZ:=hid (show ¬ SameT a b from fun h=>by have:=K4.out.2 h.2.2.2.1;cases this)
     clear hb6
     go_wp2_with fail
     (try go_simp)
     go_ret
     exact ⟨false,rfl,⟨fun h=>Bool.noConfusion h,fun h=>absurd h HZ.out⟩,HA.out⟩
    | false =>
     have F4:=hid (K4.out.1 rfl)
     obtain ⟨b5,hb5⟩ : ∃ x,decide (codL a.code=codL b.code)=x:=⟨_,rfl⟩
     have K5:=hid (show b5=true↔codL a.code=codL b.code by rw [← hb5];simp)
     rw [hb5] at SC
     clear hb5
     go_wp2_with fail
     refine SC.out.mono ?_
     rintro e w2 ⟨rfl,E⟩
     clear p0 p1 p2 p3 p4 p5 p6 p7 p8 p9 p10 p11 q0 q1 q2 q3 q4 q5 q6 q7 q8 q9 q10 q11 SC
     obtain ⟨p0,p1,p2,p3,p4,p5,p6,p7,p8,p9,p10,p11⟩:=(a0.below E).cells
     obtain ⟨q0,q1,q2,q3,q4,q5,q6,q7,q8,q9,q10,q11⟩:=(b0.below E).cells
     cases b5 with
     | false =>
      have HZ:=hid (show ¬ SameT a b from fun h=>by have:=K5.out.2 h.2.2.2.2.1;cases this)
      clear hb6
      go_wp2_with fail
      (try go_simp)
      go_ret
      exact ⟨false,rfl,⟨fun h=>Bool.noConfusion h,fun h=>absurd h HZ.out⟩,HA.out.trans (E.mono HA.out.size)⟩
     | true =>
      have F5:=hid (K5.out.1 rfl)
      cases b6 with
      | true =>
       have HZ:=hid (show ¬ SameT a b from fun h=>by have:=K6.out.2 h.2.2.2.2.2.1;cases this)
       go_wp2_with fail
       (try go_simp)
       go_ret
       exact ⟨false,rfl,⟨fun h=>Bool.noConfusion h,fun h=>absurd h HZ.out⟩,HA.out.trans (E.mono HA.out.size)⟩
      | false =>
       have F6:=hid (K6.out.1 rfl)
       have hlen:=F4.out
       obtain ⟨n,hn⟩ : ∃ n,a.init.length=n:=⟨_,rfl⟩
       have HN:=hid hn
       have HM:=hid (hlen.symm.trans hn)
       have hn1:n≤1000000000000000000:=by rw [← hn];exact H1.out.init.len
       have HE:=hid E
       rw [hn] at p3
       rw [HM.out] at q3
       clear hn hlen
       go_wp2_with fail
       clear p0 p1 p2 p3 p4 p5 p6 p7 p8 p9 p10 p11 q0 q1 q2 q3 q4 q5 q6 q7 q8 q9 q10 q11
       go_loopw [5] (fun i wr=>∃ j:Nat,j≤n∧i = .int .i64 j∧Below W1.heap.size W1 wr∧Hid (∀ k:Nat,k<j→a.init[k]? = b.init[k]?)) (fun i _=>n-(intOf i).toNat)
       case atStart=>exact ⟨0,by omega,rfl,E,fun k hk=>absurd hk (Nat.not_lt_zero k)⟩
       case round =>
        clear E
        obtain ⟨j,hj,rfl,E,HJ⟩:=hrel
        obtain ⟨p0,p1,p2,p3,p4,p5,p6,p7,p8,p9,p10,p11⟩:=(a0.below E).cells
        obtain ⟨q0,q1,q2,q3,q4,q5,q6,q7,q8,q9,q10,q11⟩:=(b0.below E).cells
        rw [HN.out] at p3
        rw [HM.out] at q3
        by_cases hjt:j<n
        ·obtain ⟨x,hx⟩ : ∃ x,a.init[j]? = some x:=⟨_,List.getElem?_eq_getElem (by rw [HN.out];exact hjt)⟩
         obtain ⟨y,hy⟩ : ∃ y,b.init[j]? = some y:=⟨_,List.getElem?_eq_getElem (by rw [HM.out];exact hjt)⟩
         obtain ⟨r0,r1,r2,r3,r4⟩:=(H1.out.init.below E).ini hx
         obtain ⟨s0,s1,s2,s3,s4⟩:=(H2.out.init.below E).ini hy
         have ix:=H1.out.init.idx inil cIni_len j (by rw [HN.out];exact hjt) a.ic
         have iy:=H2.out.init.idx inil cIni_len j (by rw [HM.out];exact hjt) b.ic
         rw [HN.out] at ix
         rw [HM.out] at iy
         have HXY:=hid (And.intro hx hy)
         clear hx hy
         have DD:decide (x=y)=true∨decide (x=y)=false:=by cases decide (x=y) <;> simp
         rcases DD with hd|hd
         ·have hd2:(!decide (x=y))=false:=by rw [hd];rfl
          have HJ2:=hid (show ∀ k:Nat,k<j+1→a.init[k]? = b.init[k]? from fun k hk=>by
           rcases Nat.lt_succ_iff_lt_or_eq.1 hk with h|h
           ·exact HJ.out k h
           ·subst h;rw [HXY.out.1,HXY.out.2,of_decide_eq_true hd])
          go_wp2_with fail
          have p3:=cell_regrown p3;have q3:=cell_regrown q3;have r0:=cell_regrown r0;have r1:=cell_regrown r1;have r2:=cell_regrown r2;have r3:=cell_regrown r3;have r4:=cell_regrown r4;have s0:=cell_regrown s0;have s1:=cell_regrown s1;have s2:=cell_regrown s2;have s3:=cell_regrown s3;have s4:=cell_regrown s4
          refine wp_region_quiet_below (by kernel_rfl) (by kernel_rfl) ?_
          repeat (go_big_quiet_step (fail))
          refine wpQuiet_nil ?_
          intro _ hw'
          obtain ⟨⟨dq,osq⟩,hw''⟩:=hw'
          subst hw''
          have EQ:=below_regrown wr dq osq
          generalize grow (redrawn wr dq) osq=W6 at *
          have E:=E.trans (EQ.mono E.size)
          clear p3 q3 r0 r1 r2 r3 r4 s0 s1 s2 s3 s4 EQ ix iy
          go_wp2_with fail
          go_roundw
          case rel=>exact ⟨j+1,by omega,by go_num,E,HJ2⟩
          case measure=>simp [intOf];omega
         ·have hd2:(!decide (x=y))=true:=by rw [hd];rfl
          have HZ:=hid (show ¬ SameT a b from fun h=>by
           have h1:=h.2.2.2.2.2.2.1
           have h3:=HXY.out.1;have h4:=HXY.out.2
           rw [h1,h4] at h3
           exact of_decide_eq_false hd (Option.some.inj h3).symm)
          go_wp2_with fail
          have p3:=cell_regrown p3;have q3:=cell_regrown q3;have r0:=cell_regrown r0;have r1:=cell_regrown r1;have r2:=cell_regrown r2;have r3:=cell_regrown r3;have r4:=cell_regrown r4;have s0:=cell_regrown s0;have s1:=cell_regrown s1;have s2:=cell_regrown s2;have s3:=cell_regrown s3;have s4:=cell_regrown s4
          refine wp_region_quiet_below (by kernel_rfl) (by kernel_rfl) ?_
          repeat (go_big_quiet_step (fail))
          refine wpQuiet_nil ?_
          intro _ hw'
          obtain ⟨⟨dq,osq⟩,hw''⟩:=hw'
          subst hw''
          have EQ:=below_regrown wr dq osq
          generalize grow (redrawn wr dq) osq=W6 at *
          have E:=E.trans (EQ.mono E.size)
          clear p3 q3 r0 r1 r2 r3 r4 s0 s1 s2 s3 s4 EQ ix iy
          go_wp2_with fail
          (try go_simp)
          go_ret
          exact ⟨false,rfl,⟨fun h=>Bool.noConfusion h,fun h=>absurd h HZ.out⟩,HA.out.trans (E.mono HA.out.size)⟩
        ·have hjn:j=n:=by omega
         have HIN:=hid (show a.init=b.init from list_eq_of (by rw [HN.out,HM.out]) fun k hk=>HJ.out k (by rw [HN.out] at hk;omega))
         have SN:=hid (SN.out wr (H1.out.node.keep E) (H2.out.node.keep E))
         clear hjn
         go_wp2_with fail
         refine SN.out.mono ?_
         rintro e w7 ⟨bb,rfl,hbb,E7⟩
         have HBB:=hid hbb
         clear hbb
         go_wp2_with fail
         (try go_simp)
         go_ret
         exact ⟨bb,rfl,⟨fun h=>⟨F1.out,F2.out,F3.out,F4.out,F5.out,F6.out,HIN.out,HBB.out.1 h⟩,fun h=>HBB.out.2 h.2.2.2.2.2.2.2⟩,HA.out.trans ((E.trans (E7.mono E.size)).mono HA.out.size)⟩
theorem printE_ok {t:Tst} (h:(printE t).2=0):tstE t=0:=by
 unfold printE at h
 by_cases h1:tstE t=0
 ·exact h1
 ·rw [if_pos h1] at h;exact h
end Go.Proofs.YthaibjefnclkjaaGreatDoor
namespace Go.Proofs.YthaibjefnclkjaaGreatDoor
def cellC (b:UInt8):Bool:=decide (32≤b.toNat)&&(decide (b.toNat≤122)&&(decide (b.toNat≠59)&&decide (b.toNat≠34)))
def CellB (s:Tx):Prop:=∀ b∈s,cellC b=true
theorem CellB.nil:CellB []:=fun b hb=>by simp at hb
theorem CellB.app {a b:Tx} (h1:CellB a) (h2:CellB b):CellB (a++b):=fun c hc=>(List.mem_append.1 hc).elim (h1 c) (h2 c)
theorem CellB.cons {c:UInt8} {b:Tx} (h1:cellC c=true) (h2:CellB b):CellB (c::b):=fun d hd=>by
 rcases List.mem_cons.1 hd with rfl|h
 ·exact h1
 ·exact h2 d h
theorem CellB.lit {l:Tx} (h:l.all cellC=true):CellB l:=fun b hb=>List.all_eq_true.1 h b hb
theorem u8_all {p:UInt8→Bool} (h : ∀ n:Fin 256,p (UInt8.ofNat n.val)=true) (c:UInt8):p c=true:=by
 have:=h ⟨c.toNat,c.toNat_lt⟩
 simpa using this
theorem nameC_cell (c:UInt8) (h:nameC c=true):cellC c=true:=by
 have:=u8_all (p:=fun c=>!nameC c || cellC c) (by decide +kernel) c
 rw [h] at this
 simpa using this
theorem dgt_cell (n:Nat):cellC (dgt n)=true:=by
 have key : ∀ k:Fin 10,cellC (UInt8.ofNat (48+k.val))=true:=by decide
 exact key ⟨n % 10,Nat.mod_lt _ (by omega)⟩
theorem decN_cell (n:Nat):CellB (decN n):=by
 unfold decN
 split
 ·exact (CellB.nil).cons (dgt_cell _)
 ·split
  ·exact ((CellB.nil).cons (dgt_cell _)).cons (dgt_cell _)
  ·split
   ·exact (((CellB.nil).cons (dgt_cell _)).cons (dgt_cell _)).cons (dgt_cell _)
   ·exact ((((CellB.nil).cons (dgt_cell _)).cons (dgt_cell _)).cons (dgt_cell _)).cons (dgt_cell _)
theorem decI_cell (n:Int):CellB (decI n):=by
 unfold decI
 split
 ·exact (decN_cell _).cons (by decide)
 ·exact decN_cell _
theorem regT_cell (n:Nat):CellB (regT n):=(decN_cell n).cons (by decide)
theorem rT_cell (n:Int):CellB (rT n):=regT_cell _
theorem regX_cell_fin : ∀ n:Fin 16,(regX n.val).all cellC=true:=by decide +kernel
theorem regX_cell (n:Nat):CellB (regX n):=by
 by_cases h:n<16
 ·exact CellB.lit (regX_cell_fin ⟨n,h⟩)
 ·unfold regX
  rw [List.getD_eq_getElem?_getD,List.getElem?_eq_none (by simp [namesX];omega)]
  exact CellB.nil
theorem nameB_cell {s:Tx} (h:nameB s=true):CellB s:=by
 cases s with
 | nil=>exact CellB.nil
 | cons c r =>
  unfold nameB at h
  simp only [Bool.and_eq_true,decide_eq_true_eq] at h
  refine CellB.cons (nameC_cell c ?_) fun b hb=>nameC_cell b (List.all_eq_true.1 h.2 b hb)
  unfold nameC;rw [h.1.2];rfl
theorem dec_cell (u:Nat):CellB (Lib.decDigits u):=by
 have key : ∀ k:Fin 10,cellC (UInt8.ofNat (48+k.val))=true:=by decide
 induction u using Nat.strongRecOn with
 | _ u ih =>
  rw [Lib.decDigits]
  by_cases h:u<10
  ·rw [dif_pos h]
   exact (CellB.nil).cons (key ⟨u,h⟩)
  ·rw [dif_neg h]
   exact (ih _ (by omega)).app ((CellB.nil).cons (key ⟨u % 10,Nat.mod_lt _ (by omega)⟩))
theorem itoa_cell (n:Int):CellB (Lib.itoa n):=by
 unfold Lib.itoa
 split
 ·exact (dec_cell _).cons (by decide)
 ·exact dec_cell _
theorem fpart_cell (n:Int):CellB (fpart n):=by
 unfold fpart
 split
 ·exact CellB.lit (by decide)
 ·split
  ·exact CellB.lit (by decide)
  ·exact CellB.lit (by decide)
theorem printX_cell {i:Ins} (h:checkX i=true):CellB (printX i):=by
 unfold checkX okX at h
 unfold printX
 by_cases h1:i.op=1
 ·rw [if_pos h1] at h ⊢
  simp only [Bool.and_eq_true] at h
  exact (((CellB.lit (by decide)).app (nameB_cell h.1.1)).app (CellB.lit (by decide))).app (itoa_cell _)
 ·rw [if_neg h1] at h ⊢
  by_cases h2:i.op=2
  ·rw [if_pos h2] at h ⊢
   simp only [Bool.and_eq_true] at h
   exact (((CellB.lit (by decide)).app (nameB_cell h.1.1)).app (CellB.lit (by decide))).app (regX_cell _)
  ·rw [if_neg h2] at h ⊢
   by_cases h3:i.op=3
   ·rw [if_pos h3] at h ⊢
    simp only [Bool.and_eq_true] at h
    exact ((((CellB.lit (by decide)).app (regX_cell _)).app (CellB.lit (by decide))).app (nameB_cell h.1.1)).app (CellB.lit (by decide))
   ·rw [if_neg h3] at h ⊢
    by_cases h4:i.op=4
    ·rw [if_pos h4] at h ⊢
     simp only [Bool.and_eq_true] at h
     exact (((CellB.lit (by decide)).app (regX_cell _)).app (CellB.lit (by decide))).app (itoa_cell _)
    ·rw [if_neg h4];exact CellB.lit (by decide)
theorem printI_cell {i:Ins} (h:checkI i=true):CellB (printI i):=by
 unfold checkI at h
 simp only [Bool.and_eq_true] at h
 obtain ⟨⟨⟨⟨ho,-⟩,hd⟩,ha⟩,hb⟩:=h
 have hl:i.op=11∨i.op=12→CellB i.label:=fun e=>by
  unfold okI at ho
  rw [if_neg (by omega),if_pos e] at ho
  exact nameB_cell ho
 have L : ∀ {l:Tx},l.all cellC=true→CellB l:=fun h=>CellB.lit h
 unfold printI
 by_cases e1:i.op=6
 ·rw [if_pos e1];exact (((((L (by decide)).app (rT_cell _)).app (L (by decide))).app (rT_cell _)).app (L (by decide)))
 rw [if_neg e1]
 by_cases e2:i.op=7
 ·rw [if_pos e2];exact (((((L (by decide)).app (rT_cell _)).app (L (by decide))).app (rT_cell _)).app (L (by decide)))
 rw [if_neg e2]
 by_cases e3:i.op=8
 ·rw [if_pos e3];exact (((((L (by decide)).app (rT_cell _)).app (L (by decide))).app (rT_cell _)).app (L (by decide))).app (decI_cell _)
 rw [if_neg e3]
 by_cases e4:i.op=9
 ·rw [if_pos e4];exact (((((L (by decide)).app (rT_cell _)).app (L (by decide))).app (rT_cell _)).app (L (by decide))).app (rT_cell _)
 rw [if_neg e4]
 by_cases e5:i.op=10
 ·rw [if_pos e5];exact (((((L (by decide)).app (rT_cell _)).app (L (by decide))).app (rT_cell _)).app (L (by decide))).app (rT_cell _)
 rw [if_neg e5]
 by_cases e6:i.op=11
 ·rw [if_pos e6];exact (((((L (by decide)).app (rT_cell _)).app (L (by decide))).app (rT_cell _)).app (L (by decide))).app (hl (.inl e6))
 rw [if_neg e6]
 by_cases e7:i.op=12
 ·rw [if_pos e7];exact (hl (.inr e7)).app (L (by decide))
 rw [if_neg e7]
 split
 ·exact L (by decide)
 ·exact (((L (by decide)).app (fpart_cell _)).app (L (by decide))).app (fpart_cell _)
theorem cellI_cell (arch:Int) (i:Ins):CellB (cellI arch i).1:=by
 unfold cellI
 split
 ·split
  ·rename_i h;exact printX_cell h
  ·exact CellB.nil
 ·split
  ·split
   ·rename_i h;exact printI_cell h
   ·exact CellB.nil
  ·exact CellB.nil
theorem colT_cell (arch:Int) (k:Nat) (l:List Ins) : ∀ s∈colT arch k l,CellB s:=by
 intro s hs
 unfold colT at hs
 rcases List.mem_cons.1 hs with rfl|hs
 ·exact (decN_cell k).cons (by decide)
 ·obtain ⟨i,-,rfl⟩:=List.mem_map.1 hs
  exact cellI_cell arch i
theorem colT_cellD (arch:Int) (k:Nat) (l:List Ins) (j:Nat):CellB ((colT arch k l).getD j []):=by
 rw [List.getD_eq_getElem?_getD]
 cases h:(colT arch k l)[j]? with
 | none=>exact CellB.nil
 | some s=>exact colT_cell arch k l s (List.mem_of_getElem? h)
theorem padT_cell {n:Nat} {s:Tx} (h:CellB s):CellB (padT n s):=h.app fun b hb=>by
 have:=(List.mem_replicate.1 hb).2
 subst this;decide
theorem rowT_cell (i:Nat) (t:Tst) : ∀ s∈rowT i t,CellB s:=by
 intro s hs
 obtain ⟨k,hk⟩:=List.mem_iff_getElem?.1 hs
 have hlt:k<t.code.length:=by rw [← rowT_length i t];exact (List.getElem?_eq_some_iff.1 hk).1
 rw [rowT_at i (List.getElem?_eq_getElem hlt)] at hk
 simp only [Option.some.injEq] at hk
 subst hk
 exact padT_cell (colT_cellD _ _ _ _)
theorem split_at {c:UInt8} : ∀ {a b r s:Tx},a++c::r=b++c::s→c∉a→c∉b→a=b∧r=s
 | [],[],r,s,h,_,_=>by simp at h;exact ⟨rfl,h⟩
 | [],y::b,r,s,h,_,hb=>by simp at h;exact absurd (by simp [h.1]) hb
 | x::a,[],r,s,h,ha,_=>by simp at h;exact absurd (by simp [h.1]) ha
 | x::a,y::b,r,s,h,ha,hb=>by
  simp only [List.cons_append,List.cons.injEq] at h
  obtain ⟨h1,h2⟩:=split_at h.2 (fun m=>ha (by simp [m])) (fun m=>hb (by simp [m]))
  exact ⟨by rw [h.1,h1],h2⟩
theorem lines_inj {p:UInt8→Prop} : ∀ {L M:List Tx} {r s:Tx},(∀ l∈L,(10:UInt8)∉l∧∃ c t,l=c::t∧p c)→(∀ l∈M,(10:UInt8)∉l∧∃ c t,l=c::t∧p c) →
  (∃ c t,r=c::t∧¬ p c)→(∃ c t,s=c::t∧¬ p c)→(L.flatMap fun l=>l++[10])++r=(M.flatMap fun l=>l++[10])++s→L=M∧r=s
 | [],[],r,s,_,_,_,_,h=>⟨rfl,by simpa using h⟩
 | [],y::M,r,s,_,hM,hr,_,h=>by
  obtain ⟨-,c,t,e,hp⟩:=hM y (by simp)
  obtain ⟨d,u,e2,hn⟩:=hr
  rw [e,e2] at h
  simp only [List.flatMap_nil,List.nil_append,List.flatMap_cons,List.cons_append,List.cons.injEq] at h
  rw [h.1] at hn
  exact absurd hp hn
 | x::L,[],r,s,hL,_,_,hs,h=>by
  obtain ⟨-,c,t,e,hp⟩:=hL x (by simp)
  obtain ⟨d,u,e2,hn⟩:=hs
  rw [e,e2] at h
  simp only [List.flatMap_nil,List.nil_append,List.flatMap_cons,List.cons_append,List.cons.injEq] at h
  rw [← h.1] at hn
  exact absurd hp hn
 | x::L,y::M,r,s,hL,hM,hr,hs,h=>by
  simp only [List.flatMap_cons,List.append_assoc,List.singleton_append] at h
  obtain ⟨h1,h2⟩:=split_at h (hL x (by simp)).1 (hM y (by simp)).1
  obtain ⟨h3,h4⟩:=lines_inj (fun l hl=>hL l (by simp [hl])) (fun l hl=>hM l (by simp [hl])) hr hs h2
  exact ⟨by rw [h1,h3],h4⟩
theorem show_no {lo:Nat} {s:Tx} (h:showB lo s=true) (hlo:11≤lo):(10:UInt8)∉s∧(34:UInt8)∉s:=by
 unfold showB at h
 rw [List.all_eq_true] at h
 constructor
 ·intro m
  have:=h 10 m
  unfold showC at this
  simp only [Bool.and_eq_true,decide_eq_true_eq] at this
  have h2:(10:UInt8).toNat=10:=rfl
  omega
 ·intro m
  have:=h 34 m
  unfold showC at this
  simp only [Bool.and_eq_true,decide_eq_true_eq] at this
  exact this.2.2 rfl
def head0' (arch:Int):Tx:=if arch=2 then [82,73,83,67,86,32] else [88,56,54,32]
theorem head_inj {a b:Int} {x y:Tx} (ha:archB a=true) (hb:archB b=true) (h:head0' a++x=head0' b++y):a=b∧x=y:=by
 unfold archB at ha hb
 simp only [Bool.or_eq_true,decide_eq_true_eq] at ha hb
 unfold head0' at h
 rcases ha with rfl|rfl <;> rcases hb with rfl|rfl <;> simp at h
 ·exact ⟨rfl,h⟩
 ·exact ⟨rfl,h⟩
theorem cyc_inj {x y r s:Tx} (hx:(34:UInt8)∉x) (hy:(34:UInt8)∉y) (h:(if x = [] then [] else [34]++x++[34,10])++123::r=(if y = [] then [] else [34]++y++[34,10])++123::s):x=y∧r=s:=by
 by_cases h1:x = []
 ·by_cases h2:y = []
  ·rw [if_pos h1,if_pos h2] at h
   simp at h
   exact ⟨by rw [h1,h2],h⟩
  ·rw [if_pos h1,if_neg h2] at h;simp at h
 ·by_cases h2:y = []
  ·rw [if_neg h1,if_pos h2] at h;simp at h
  ·rw [if_neg h1,if_neg h2] at h
   simp only [List.append_assoc,List.cons_append,List.nil_append,List.cons.injEq,true_and] at h
   obtain ⟨h3,h4⟩:=split_at h hx hy
   simp at h4
   exact ⟨h3,h4⟩
end Go.Proofs.YthaibjefnclkjaaGreatDoor

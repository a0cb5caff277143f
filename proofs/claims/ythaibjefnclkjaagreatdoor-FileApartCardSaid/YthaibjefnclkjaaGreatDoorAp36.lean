/- The walk of Print (program). Conditions: the test lies in memory as read; the library's variables as laid. The walks of small and awake of the statements. Condition: the library's variables as laid. The walks of awake and of the law FileCells. Condition: the library's variables as laid. A test without its places in memory: what it is does not hang on them. Plain lists; no program, no condition. The walk of Copy of the statements. Condition: the test lies in memory as read; its lists are no longer than memory. -/
import Derived.Test.YthaibjefnclkjaaGreatDoorAp35
set_option linter.unusedVariables false
set_option maxRecDepth 100000
set_option maxHeartbeats 6400000
namespace Go.Proofs.YthaibjefnclkjaaGreatDoor
open Go.RowKit Go.Sort
def thI (arch:Int) (x:Ini):Tx:=if x.thread = -1 then x.loc else Lib.itoa x.thread++[58]++regT' arch x.reg
def vaI (x:Ini):Tx:=if x.vloc = [] then Lib.itoa x.n else x.vloc
theorem initT_eq (arch:Int) (x:Ini):initT arch x=thI arch x++[61]++vaI x++[59,10]:=rfl
theorem isEmpty_tx (l:Tx) (b:Bool) (h:(tx l).toList.isEmpty=b):(b=true→l = [])∧(b=false→l≠[]):=by
 rw [tx_toList] at h
 subst h
 cases l <;> simp
theorem bW {w0:World} {l:Tx} (s:Tx) {w':World} (hE:Below w0.heap.size w0 w') (hb:Bld w' w0.heap.size w0.heap.size bT [] l) (hl:l.length+s.length≤140737488355328) :
  Calls Tryz.prog 29 #[.pointer (some ⟨w0.heap.size,0,none⟩),.string (tx s)] w' fun e w''=>(e = .returned (.tuple #[.int .i64 s.length,.nilIface])∧Bld w'' w0.heap.size w0.heap.size bT [] (l++s))∧Below w0.heap.size w0 w'' :=
 (bldWrite w0.heap.size w0.heap.size bT [] l s w' bldT2 hb hl hE.size).mono fun e w'' ⟨h1,h2,h3,_⟩=>⟨⟨h1,h2⟩,hE.trans h3⟩
theorem bWo {w0:World} {l:Tx} (s:Tx) {w':World} (hE:Below w0.heap.size w0 w') (hb:Bld w' w0.heap.size w0.heap.size bT [] l) (hl:l.length+s.length≤140737488355328) :
  Calls Tryz.prog 29 #[.pointer (some ⟨w0.heap.size,0,none⟩),.string (tx s)] w' fun e w''=>(e = .returned (.tuple #[.int .i64 s.length,.nilIface])∧Bld w'' w0.heap.size w0.heap.size bT [] (l++s))∧Below w0.heap.size w0 w''∧Lib.OthersKept u8T (some w0.heap.size) w' w'' :=
 (bldWrite w0.heap.size w0.heap.size bT [] l s w' bldT2 hb hl hE.size).mono fun e w'' ⟨h1,h2,h3,h4⟩=>⟨⟨h1,h2⟩,hE.trans h3,h4⟩
theorem Own.others {w w':World} {B E size n c b:Nat} {a:Option Addr} {xs:List Value} (h:Own w B E size a n c xs) (hk:Lib.OthersKept u8T (Option.some b) w w') (hb:b<B) (hE:E≠u8T):Own w' B E size a n c xs:=by
 obtain ⟨h1,h2⟩:=h
 refine ⟨h1,?_⟩
 rcases h2 with ⟨h2,h0⟩|⟨g,cap,cur,hv,hbg,hh,r⟩
 ·exact .inl ⟨h2,h0⟩
 ·exact .inr ⟨g,cap,cur,hv,hbg,hk g _ hh (by simp;omega) (fun c fz e=>by cases e;exact hE rfl),r⟩
theorem filePrint (t:Tst) (w:World) (h:TsIn w t) (g:Gl w):Calls Tryz.prog 13 #[vT t] w (Ret w (.tuple #[.string (tx (printE t).1),.int .i64 (printE t).2])):=by
 have A:=al w (mkT t)
 have b0:=BxT.new w t
 have HI:=hid (h.keep A)
 have HA:=hid A
 have HG:=hid (g.below A)
 have CH:=fileCheck t _ (h.keep A)
 obtain ⟨r,hr⟩ : ∃ r,tstE t=r:=⟨_,rfl⟩
 rw [hr] at CH
 have CH:=hid CH
 have HR:=hid hr
 clear h A hr g
 go_enter Tryz.func13,Tryz.ntmps13
 go_upto_region 1 with (fail)
 generalize w.alloc (mkT t)=W1 at *
 obtain ⟨c0,c1,c2,c3,c4,c5,c6,c7,c8,c9,c10,c11⟩:=b0.cells
 go_wp2_with fail
 refine CH.out.mono ?_
 rintro e w2 ⟨rfl,E⟩
 clear c0 c1 c2 c3 c4 c5 c6 c7 c8 c9 c10 c11 CH
 by_cases h0:r=0
 ·subst h0
  have G:=hid (Good.of HR.out)
  have b2:=b0.below E
  have HI2:=hid (HI.out.keep E)
  have HG2:=hid (HG.out.below E)
  have HW:=hid (HA.out.trans (E.mono HA.out.size))
  have F0:=al w2 (.cells #[.pointer none,.slice none 0 0] bT)
  have B0:Bld (w2.alloc (.cells #[.pointer none,.slice none 0 0] bT)) w2.heap.size w2.heap.size bT [] []:=Bld.new w2 bT []
  clear b0 HI HG E HA
  go_upto_region 6 with (fail)
  generalize w2.alloc (.cells #[.pointer none,.slice none 0 0] bT)=W3 at *
  obtain ⟨c0,c1,c2,c3,c4,c5,c6,c7,c8,c9,c10,c11⟩:=(b2.below F0).cells
  go_upto_if 22 with (fail)
  go_cut [6] (fun x wx=>x = .string (tx (head0 t))∧wx=W3)
  case first =>
   by_cases ha:t.arch=2
   ·have z:(t.arch==2)=true:=by simp;exact ha
    have HZ:=hid (show head0 t = [82,73,83,67,86,32] by unfold head0;rw [if_pos ha])
    clear ha
    go_wp2_with fail
    go_meet
    exact ⟨congrArg Value.string (by rw [HZ.out];rfl),rfl⟩
   ·have z:(t.arch==2)=false:=by simp;exact ha
    have HZ:=hid (show head0 t = [88,56,54,32] by unfold head0;rw [if_neg ha])
    clear ha
    go_wp2_with fail
    go_meet
    exact ⟨congrArg Value.string (by rw [HZ.out];rfl),rfl⟩
  case rest =>
   obtain ⟨rfl,rfl⟩:=hcut
   have hl0:=head0_len t
   have hname:t.name.length≤1024:=by
    have:=G.out.title
    unfold titleB at this
    simp only [Bool.and_eq_true,decide_eq_true_eq] at this
    exact this.2.1
   have hcyc:t.cycle.length≤262144:=by
    have:=G.out.cyc
    unfold cycleB at this
    simp only [Bool.and_eq_true,decide_eq_true_eq] at this
    exact this.1
   have k1 : ∀ w,(Op.stringOp .add (tx (head0 t)) (tx t.name)).run Tryz.prog w = .ok (.string (tx (head0 t++t.name))) w:=run_cat _ _ (by omega)
   have k2 : ∀ w,(Op.stringOp .add (tx (head0 t++t.name)) ⟨#[10]⟩).run Tryz.prog w = .ok (.string (tx (headT t))) w:=run_cat (head0 t++t.name) [10] (by simp;omega)
   have hh:=headT_len G.out.title
   obtain ⟨hd,hhd⟩ : ∃ hd,headT t=hd:=⟨_,rfl⟩
   rw [hhd] at k2 hh
   have HHD:=hid hhd
   have WR:=hid (bW hd F0 B0 (by simp;omega))
   clear hhd
   go_wp2_with fail
   refine WR.out.mono ?_
   rintro e w4 ⟨⟨rfl,B1⟩,F1⟩
   clear k1 k2 WR F0 B0 c0 c1 c2 c3 c4 c5 c6 c7 c8 c9 c10 c11
   obtain ⟨c0,c1,c2,c3,c4,c5,c6,c7,c8,c9,c10,c11⟩:=(b2.below F1).cells
   rw [List.nil_append] at B1
   go_upto_if 31 with (fail)
   go_cut [6] (fun x wx=>Bld wx w2.heap.size w2.heap.size bT [] (hd++cycT t)∧Below w2.heap.size w2 wx)
   case first =>
    have HY:t.cycle≠[]→hd++cycT t=hd++([34]++t.cycle++[34,10]):=fun hc=>by unfold cycT;rw [if_neg hc]
    have HN:t.cycle = []→hd++cycT t=hd:=fun hc=>by unfold cycT;rw [if_pos hc];simp
    have HE : ∀ b,(!(tx t.cycle).toList.isEmpty)=b→(b=true→t.cycle≠[])∧(b=false→t.cycle = []):=fun b hb=>by
     rw [tx_toList] at hb
     subst hb
     cases hq:t.cycle with
     | nil=>simp
     | cons a r=>simp
    have k1 : ∀ w,(Op.stringOp .add ⟨#[34]⟩ (tx t.cycle)).run Tryz.prog w = .ok (.string (tx ([34]++t.cycle))) w:=run_cat [34] t.cycle (by simp;omega)
    have k2 : ∀ w,(Op.stringOp .add (tx ([34]++t.cycle)) ⟨#[34,10]⟩).run Tryz.prog w = .ok (.string (tx ([34]++t.cycle++[34,10]))) w:=run_cat ([34]++t.cycle) [34,10] (by simp;omega)
    obtain ⟨s1,hs1⟩ : ∃ s1,[34]++t.cycle=s1:=⟨_,rfl⟩
    have hs1l:s1.length≤262145:=by rw [← hs1];simp;omega
    rw [hs1] at k1 k2 HY
    obtain ⟨s2,hs2⟩ : ∃ s2,s1++[34,10]=s2:=⟨_,rfl⟩
    have hs2l:s2.length≤262147:=by rw [← hs2];simp;omega
    rw [hs2] at k2 HY
    have WR:=hid (bW s2 F1 B1 (by omega))
    have HY:=hid HY;have HN:=hid HN;have HE:=hid HE
    clear hs1 hs2
    go_wp2_with fail
    ·have HB:=hid (HE.out _ ‹(!(tx t.cycle).toList.isEmpty)=true›)
     refine WR.out.mono ?_
     rintro e w5 ⟨⟨rfl,B2⟩,F2⟩
     have HK:=hid (show Bld w5 w2.heap.size w2.heap.size bT [] (hd++cycT t) by rw [HY.out (HB.out.1 rfl)];exact B2)
     go_wp2_with fail
     go_meet
     exact ⟨HK.out,F2⟩
    ·have HB:=hid (HE.out _ ‹(!(tx t.cycle).toList.isEmpty)=false›)
     have HK:=hid (show Bld w4 w2.heap.size w2.heap.size bT [] (hd++cycT t) by rw [HN.out (HB.out.2 rfl)];exact B1)
     go_meet
     exact ⟨HK.out,F1⟩
   case rest =>
    obtain ⟨B2,F2⟩:=hcut
    have hcy:=cycT_len G.out.cyc
    have hpl:=preT_len G.out.title G.out.cyc
    have WR:=hid (bW [123,10] F2 B2 (by simp;omega))
    rw [show hd++cycT t++[123,10]=preT t by unfold preT;rw [HHD.out]] at WR
    obtain ⟨p0,hp0⟩ : ∃ p0,preT t=p0:=⟨_,rfl⟩
    rw [hp0] at WR hpl
    have HP:=hid hp0
    have HIN:=hid G.out.inits
    clear hp0 c0 c1 c2 c3 c4 c5 c6 c7 c8 c9 c10 c11
    go_wp2_with fail
    refine WR.out.mono ?_
    rintro e w6 ⟨⟨rfl,B3⟩,F3⟩
    clear WR B2 F2 B1 F1
    obtain ⟨ni,hni⟩ : ∃ ni,t.init.length=ni:=⟨_,rfl⟩
    have hni1:ni≤1024:=by rw [← hni];exact G.out.i1024
    have HNI:=hid hni
    obtain ⟨c0,c1,c2,c3,c4,c5,c6,c7,c8,c9,c10,c11⟩:=(b2.below F3).cells
    rw [hni] at c3
    clear hni
    go_wp2_with fail
    clear c0 c1 c2 c3 c4 c5 c6 c7 c8 c9 c10 c11
    go_loopw [41] (fun i wr=>∃ (k:Nat) (l:Tx),k≤ni∧i = .int .i64 k∧l.length≤365600∧Below w2.heap.size w2 wr∧Bld wr w2.heap.size w2.heap.size bT [] l∧Hid (l=p0++initsK t k)) (fun i _=>ni-(intOf i).toNat)
    case atStart=>exact ⟨0,p0,by omega,rfl,by omega,F3,B3,by simp [Hid,initsK_zero]⟩
    case round =>
     clear F3 B3
     obtain ⟨k,l,hk,rfl,hl,F,B,HL⟩:=hrel
     by_cases hlt:k<ni
     ·obtain ⟨x,hx⟩ : ∃ x,t.init[k]? = some x:=⟨_,List.getElem?_eq_getElem (by rw [HNI.out];exact hlt)⟩
      obtain ⟨p0',p1,p2,p3,p4⟩:=(HI2.out.init.below F).ini hx
      have ix:=HI2.out.init.idx inil cIni_len k (by rw [HNI.out];exact hlt) t.ic
      rw [HNI.out] at ix
      have HFB:=hid (G.out.first x (List.mem_of_getElem? hx))
      have hil:=HIN.out (k+1)
      have hst:=initsK_step hx
      have hxl:=initT_len G.out.arch G.out.c16 HFB.out
      rw [initT_eq] at hxl
      have HT:=hid (show l++(thI t.arch x++[61]++vaI x++[59,10])=p0++initsK t (k+1) by rw [HL.out,hst,initT_eq];simp)
      have hls:(l++(thI t.arch x++[61]++vaI x++[59,10])).length≤365600:=by rw [HT.out];simp;omega
      have HWI:=hid (HI2.out.wide x (List.mem_of_getElem? hx))
      clear hx hst hil
      have A4:=al wr (mkIni x)
      have x0:BxL (wr.alloc (mkIni x)) wr.heap.size (cIni x):=BxL.new _ _ _
      go_upto_region 15 with (fail)
      generalize wr.alloc (mkIni x)=W4 at *
      have B4:=B.below A4
      have F4:=F.trans (A4.mono F.size)
      have HX0:=hid x0
      clear p0' p1 p2 p3 p4 ix A4 F B
      obtain ⟨p0',p1,p2,p3,p4⟩:=BxIni.cells x0
      obtain ⟨c0,-⟩:=(b2.below F4).cells
      go_upto_if 49 with (fail)
      go_cut [9] (fun y wx=>y = .string (tx (thI t.arch x))∧Below W4.heap.size W4 wx)
      case first =>
       rcases firstB_cases G.out.arch G.out.c16 HFB.out with ⟨loc,nn,rfl,-,-⟩|⟨i,kk,v,nn,rfl,hi16,-,hrk,-⟩
       ·go_wp2_with fail
        go_meet
        exact ⟨rfl,Below.refl _ _⟩
       ·have z:((i:Int)!=-1)=true:=bne_iff_ne.2 (by omega)
        have HZ:=hid (show thI t.arch ⟨i,kk,[],v,nn⟩=Lib.itoa (i:Int)++[58]++regT' t.arch kk from if_neg (show ¬ ((i:Int) = -1) from by omega))
        have hq:=i16_len i hi16
        have hr:=regK_len hrk
        have CA:=hid (fun (d:Nat) (os:Array Obj)=>itoa_any (i:Int) (by omega) (by omega) (grow (redrawn W4 d) os) (HG2.out.below (F4.trans ((below_regrown W4 d os).mono F4.size))))
        have CB:=hid (fun (d:Nat) (os:Array Obj)=>fileReg t.arch kk hrk (grow (redrawn W4 d) os) (HG2.out.below (F4.trans ((below_regrown W4 d os).mono F4.size))))
        obtain ⟨q,hqe⟩ : ∃ q,Lib.itoa (i:Int)=q:=⟨_,rfl⟩
        obtain ⟨r,hre⟩ : ∃ r,regT' t.arch kk=r:=⟨_,rfl⟩
        rw [hqe] at CA hq HZ
        rw [hre] at CB hr HZ
        have k1 : ∀ w,(Op.stringOp .add (tx q) ⟨#[58]⟩).run Tryz.prog w = .ok (.string (tx (q++[58]))) w:=run_cat q [58] (by simp;omega)
        have k2 : ∀ w,(Op.stringOp .add (tx (q++[58])) (tx r)).run Tryz.prog w = .ok (.string (tx (q++[58]++r))) w:=run_cat (q++[58]) r (by simp;omega)
        obtain ⟨s1,hs1⟩ : ∃ s1,q++[58]=s1:=⟨_,rfl⟩
        rw [hs1] at k1 k2 HZ
        obtain ⟨s2,hs2⟩ : ∃ s2,s1++r=s2:=⟨_,rfl⟩
        rw [hs2] at k2 HZ
        clear hs1 hs2 hqe hre hrk
        go_wp2_with fail
        have cA:=fun (d:Nat) (os:Array Obj)=>Calls.regrown_of (retc' (CA.out d os))
        have cB:=fun (d:Nat) (os:Array Obj)=>Calls.regrown_of (retc' (CB.out d os))
        have c0:=cell_regrown c0
        have p0':=cell_regrown p0';have p1:=cell_regrown p1;have p2:=cell_regrown p2;have p3:=cell_regrown p3;have p4:=cell_regrown p4
        refine wp_region_quiet_below (by kernel_rfl) (by kernel_rfl) ?_
        repeat (go_big_quiet_step (first|exact cA _ _|exact cB _ _))
        refine wpQuiet_nil ?_
        intro _ hw'
        obtain ⟨⟨dq,osq⟩,hw''⟩:=hw'
        subst hw''
        have EQ:=hid (below_regrown W4 dq osq)
        go_wp2_with fail
        go_meet
        exact ⟨congrArg Value.string (by rw [HZ.out]),EQ.out⟩
      case rest =>
       obtain ⟨rfl,E4⟩:=hcut
       have B5:=B4.below E4
       have F5:=F4.trans (E4.mono F4.size)
       clear p0' p1 p2 p3 p4 c0
       obtain ⟨p0',p1,p2,p3,p4⟩:=BxIni.cells (HX0.out.below E4)
       have HX1:=hid (HX0.out.below E4)
       clear HX0 E4 B4 F4
       go_upto_if 64 with (fail)
       go_cut [10] (fun y wx=>y = .string (tx (vaI x))∧Below wc.heap.size wc wx)
       case first =>
        have HE:=hid (isEmpty_tx x.vloc)
        have HY:x.vloc = []→vaI x=Lib.itoa x.n:=fun h=>by unfold vaI;rw [if_pos h]
        have HN:x.vloc≠[]→vaI x=x.vloc:=fun h=>by unfold vaI;rw [if_neg h]
        have H32:x.vloc = []→-9223372036854775808≤x.n∧x.n≤9223372036854775807:=fun h=>by
         rcases firstB_cases G.out.arch G.out.c16 HFB.out with ⟨loc,nn,rfl,-,h2⟩|⟨i,kk,v,nn,rfl,-,-,-,h3⟩
         ·have:=n32B_spec h2;dsimp only;omega
         ·rcases h3 with ⟨h4,-,-⟩|⟨-,h5⟩
          ·exact absurd h h4
          ·have:=n32B_spec h5;dsimp only;omega
        have IT:=hid (fun (h:x.vloc = [])=>itoa_any x.n (H32 h).1 (H32 h).2 wc (HG2.out.below F5))
        have HY:=hid HY;have HN:=hid HN
        clear H32
        go_wp2_with fail
        ·have HB:=hid ((HE.out _ ‹(tx x.vloc).toList.isEmpty=true›).1 rfl)
         refine (IT.out HB.out).mono ?_
         rintro e w7 ⟨rfl,E7⟩
         have HE7:=hid E7
         go_wp2_with fail
         go_meet
         exact ⟨congrArg Value.string (by rw [HY.out HB.out]),HE7.out⟩
        ·have HB:=hid ((HE.out _ ‹(tx x.vloc).toList.isEmpty=false›).2 rfl)
         go_meet
         exact ⟨congrArg Value.string (by rw [HN.out HB.out]),Below.refl _ _⟩
       case rest =>
        obtain ⟨rfl,E6⟩:=hcut
        have B6:=B5.below E6
        have F6:=F5.trans (E6.mono F5.size)
        clear p0' p1 p2 p3 p4 HX1 E6 B5 F5
        obtain ⟨T,hT⟩ : ∃ T,thI t.arch x=T:=⟨_,rfl⟩
        obtain ⟨D,hD⟩ : ∃ D,vaI x=D:=⟨_,rfl⟩
        rw [hT,hD] at HT hls hxl
        rw [hT,hD]
        have k1 : ∀ w,(Op.stringOp .add (tx T) ⟨#[61]⟩).run Tryz.prog w = .ok (.string (tx (T++[61]))) w:=run_cat T [61] (by simp at hxl ⊢;omega)
        have k2 : ∀ w,(Op.stringOp .add (tx (T++[61])) (tx D)).run Tryz.prog w = .ok (.string (tx (T++[61]++D))) w:=run_cat (T++[61]) D (by simp at hxl ⊢;omega)
        have k3 : ∀ w,(Op.stringOp .add (tx (T++[61]++D)) ⟨#[59,10]⟩).run Tryz.prog w = .ok (.string (tx (T++[61]++D++[59,10]))) w:=run_cat (T++[61]++D) [59,10] (by simp at hxl ⊢;omega)
        obtain ⟨s1,hs1⟩ : ∃ s1,T++[61]=s1:=⟨_,rfl⟩
        rw [hs1] at k1 k2 k3 HT hls hxl
        obtain ⟨s2,hs2⟩ : ∃ s2,s1++D=s2:=⟨_,rfl⟩
        rw [hs2] at k2 k3 HT hls hxl
        obtain ⟨s3,hs3⟩ : ∃ s3,s2++[59,10]=s3:=⟨_,rfl⟩
        rw [hs3] at k3 HT hls hxl
        have WR:=hid (bW s3 F6 B6 (by omega))
        obtain ⟨l2,hl2⟩ : ∃ l2,l++s3=l2:=⟨_,rfl⟩
        rw [hl2] at WR HT hls
        clear hT hD hs1 hs2 hs3 hl2
        go_wp2_with fail
        refine WR.out.mono ?_
        rintro e w8 ⟨⟨rfl,B7⟩,F7⟩
        go_wp2_with fail
        go_roundw
        case rel=>exact ⟨k+1,l2,by omega,by go_num,hls,F7,B7,HT⟩
        case measure=>simp [intOf];omega
     ·have hkn:k=ni:=by omega
      have WR:=hid (bW [125,10] F B (by simp;omega))
      obtain ⟨p1,hp1⟩ : ∃ p1,l++[125,10]=p1:=⟨_,rfl⟩
      rw [hp1] at WR
      have hpl1:p1.length≤365602:=by rw [← hp1];simp;omega
      obtain ⟨m,hm⟩ : ∃ m,(tableT t).length=m:=⟨_,rfl⟩
      have HM:=hid hm
      have hm257:m≤257:=by
       rw [← hm,tableT_length]
       have:=highL_le G.out.c256
       rw [highT_eq];omega
      have HP1:=hid (show p1=p0++initsK t t.init.length++[125,10] by rw [← hp1,HL.out,hkn,HNI.out])
      have HFT:=hid (show fileT t=p1++rowsK t m++textC t.arch t.q t.node++[10] by rw [fileT_eq,HP1.out,HP.out,← tableT_length,HM.out])
      have hrl:=rowsK_le G.out.c16 G.out.c256
      have HRL:=hid hrl
      clear hkn hp1 hrl hl hm
      go_wp2_with fail
      refine WR.out.mono ?_
      rintro e w7 ⟨⟨rfl,B7⟩,F7⟩
      clear WR F B
      have HTB:=hid (fileTable0 t G.out.c1 G.out.c16 G.out.c256 w7 (HI2.out.keep F7) (HG2.out.below F7))
      obtain ⟨c0,c1,c2,c3,c4,c5,c6,c7,c8,c9,c10,c11⟩:=(b2.below F7).cells
      go_wp2_with fail
      refine HTB.out.mono ?_
      rintro e w8 ⟨la,lc,rfl,o,E8⟩
      rw [HM.out] at o ⊢
      have hw7:w2.heap.size<w7.heap.size:=B7.base.2
      have B8:=B7.below E8
      have F8:=F7.trans (E8.mono F7.size)
      clear E8 B7 F7 HTB c0 c1 c2 c3 c4 c5 c6 c7 c8 c9 c10 c11
      go_wp2_with fail
      go_loopw [80] (fun i wr=>∃ (j:Nat) (l:Tx),j≤m∧i = .int .i64 j∧l.length≤910000∧Below w2.heap.size w2 wr∧OwnS wr w7.heap.size la m lc (tableT t)∧Bld wr w2.heap.size w2.heap.size bT [] l∧Hid (l=p1++rowsK t j)) (fun i _=>m-(intOf i).toNat)
      case atStart=>exact ⟨0,p1,by omega,rfl,by omega,F8,o,B8,by simp [Hid,rowsK_zero]⟩
      case round =>
       clear F8 B8 o
       obtain ⟨j,l,hj,rfl,hl,F,o,B,HL2⟩:=hrel
       by_cases hjt:j<m
       ·obtain ⟨s,hs⟩ : ∃ s,(tableT t)[j]? = some s:=⟨_,List.getElem?_eq_getElem (by rw [HM.out];exact hjt)⟩
        have TX:=OwnS.txs o (by rw [HM.out];omega)
        have p0':=TX.at hs
        have ix:=TX.idx j (by rw [HM.out];exact hjt) lc
        rw [HM.out] at ix
        have hsl:=tableT_le G.out.c16 (List.mem_of_getElem? hs)
        have k2 : ∀ w,(Op.stringOp .add (tx s) ⟨#[10]⟩).run Tryz.prog w = .ok (.string (tx (s++[10]))) w:=run_cat s [10] (by simp;omega)
        have HT:=hid (show l++(s++[10])=p1++rowsK t (j+1) by rw [HL2.out,rowsK_step hs];simp)
        have hrl:=HRL.out (j+1)
        have hll:(l++(s++[10])).length≤910000:=by rw [HT.out];simp;omega
        obtain ⟨s1,hs1⟩ : ∃ s1,s++[10]=s1:=⟨_,rfl⟩
        rw [hs1] at k2 HT hll
        have WR:=hid (bWo s1 F B (by rw [List.length_append] at hll;omega))
        obtain ⟨l2,hl2⟩ : ∃ l2,l++s1=l2:=⟨_,rfl⟩
        rw [hl2] at WR HT hll
        clear hs hs1 hl2 TX hrl hsl
        go_wp2_with fail
        refine WR.out.mono ?_
        rintro e w9 ⟨⟨rfl,B9⟩,F9,K9⟩
        have o9:=Own.others o K9 hw7 (by decide)
        clear K9 o F B p0' WR
        go_wp2_with fail
        go_roundw
        case rel=>exact ⟨j+1,l2,by omega,by go_num,hll,F9,o9,B9,HT⟩
        case measure=>simp [intOf];omega
       ·have hjm:j=m:=by omega
        obtain ⟨c0,c1,c2,c3,c4,c5,c6,c7,c8,c9,c10,c11⟩:=(b2.below F).cells
        have PC:=hid (condPrint_yes t.arch t.q t.node wr (HI2.out.node.keep F) G.out.cond (HG2.out.below F))
        have hcl:=textC_len2 G.out.cond
        have HFT2:=hid (show fileT t=l++(textC t.arch t.q t.node++[10]) by rw [HFT.out,HL2.out,hjm];simp)
        obtain ⟨d,hd⟩ : ∃ d,textC t.arch t.q t.node=d:=⟨_,rfl⟩
        rw [hd] at PC hcl HFT2
        have k2 : ∀ w,(Op.stringOp .add (tx d) ⟨#[10]⟩).run Tryz.prog w = .ok (.string (tx (d++[10]))) w:=run_cat d [10] (by simp;omega)
        obtain ⟨d1,hd1⟩ : ∃ d1,d++[10]=d1:=⟨_,rfl⟩
        have hd1l:d1.length≤102501:=by rw [← hd1];simp;omega
        have hd1n:d1≠[]:=by rw [← hd1];simp
        rw [hd1] at k2 HFT2
        have WR:=hid (fun (w':World) (hE:Below w2.heap.size w2 w') (hb:Bld w' w2.heap.size w2.heap.size bT [] l)=>bW d1 hE hb (by omega))
        obtain ⟨l2,hl2⟩ : ∃ l2,l++d1=l2:=⟨_,rfl⟩
        have hl2n:l2≠[]:=by rw [← hl2];simp [hd1n]
        rw [hl2] at WR HFT2
        obtain ⟨n2,hn2⟩ : ∃ n2,l2.length=n2:=⟨_,rfl⟩
        have HN2:=hid hn2
        have HNE:=hid hl2n
        clear hd hd1 hl2 hn2 hjm hl2n hd1n o
        go_wp2_with fail
        refine PC.out.mono ?_
        rintro e w9 ⟨rfl,E9⟩
        have B9:=B.below E9
        have F9:=F.trans (E9.mono F.size)
        clear c0 c1 c2 c3 c4 c5 c6 c7 c8 c9 c10 c11 PC E9 B F
        go_wp2_with fail
        refine (WR.out _ F9 B9).mono ?_
        rintro e w10 ⟨⟨rfl,B10⟩,F10⟩
        clear WR F9 B9
        have LN:=hid (bldLen w2.heap.size w2.heap.size bT [] l2 w10 B10)
        rw [HN2.out] at LN
        have ST:=hid (bldString w2.heap.size w2.heap.size bT [] l2 w10 B10 HNE.out)
        go_wp2_with fail
        refine LN.out.mono ?_
        rintro e w11 ⟨rfl,rfl⟩
        by_cases hbig:262144<n2
        ·have HV:=hid (printE_long HR.out (by rw [HFT2.out,HN2.out];exact hbig))
         go_wp2_with fail
         (try go_simp)
         go_ret2
         rw [HV.out]
         exact ⟨rfl,HW.out.trans (F10.mono HW.out.size)⟩
        ·have HV:=hid (printE_yes HR.out (by rw [HFT2.out,HN2.out];exact hbig))
         go_wp2_with fail
         refine ST.out.mono ?_
         rintro e w12 ⟨rfl,F12⟩
         go_wp2_with fail
         (try go_simp)
         go_ret2
         rw [HV.out,HFT2.out]
         exact ⟨rfl,HW.out.trans ((F10.trans F12).mono HW.out.size)⟩
 ·have z:(r != 0)=true:=by simpa using h0
  have HV:=hid (printE_no HR.out h0)
  clear h0
  go_wp2_with fail
  (try go_simp)
  go_ret2
  rw [HV.out]
  exact ⟨rfl,HA.out.trans (E.mono HA.out.size)⟩
def ins5:Ins:=⟨5,0,0,0,0,[],[],0⟩
def tS (a b:Option Addr):Tst:=⟨1,[116],[],none,0,[],a,2,[⟨b,1,[ins5]⟩,⟨none,0,[]⟩],1,.mk 1 zTh 0 none 0 []⟩
theorem ndS_cond (arch:Int) (h:arch=1∨arch=2):condE arch 1 (.mk 1 zTh 0 none 0 [])=0:=by
 unfold condE
 rw [walkN_eq]
 rcases h with rfl|rfl <;> simp [archB,mayN,Nd.kind,Nd.kids,Nd.th,Nd.val,walkL_nil]
theorem ndS_text (arch:Int):textC arch 1 (.mk 1 zTh 0 none 0 []) = [101,120,105,115,116,115,32,40,116,114,117,101,41]:=by
 unfold textC
 rw [textN_eq];rfl
theorem ndS_things:thingsC 1 (.mk 1 zTh 0 none 0 []) = []:=by
 unfold thingsC
 rw [if_pos (ndS_cond 2 (.inr rfl))]
 unfold thingsN
 rw [gatherN,if_neg (by decide),gatherL]
theorem tS_ok (a b:Option Addr):tstE (tS a b)=0:=by
 have h1:archB (tS a b).arch=true:=rfl
 have h2:titleB (tS a b).name=true:=by show titleB [116]=true;decide
 have h3:cycleB (tS a b).cycle=true:=by show cycleB []=true;decide
 have h4:codedE (tS a b)=0:=by
  show (if (2:Nat)<1∨16<(2:Nat) then 2 else _)=_
  rw [if_neg (by decide)]
  rfl
 have h5:begunE (tS a b)=0:=rfl
 have h6:condE (tS a b).arch (tS a b).q (tS a b).node=0:=ndS_cond 1 (.inl rfl)
 have h7:askT (tS a b) = []:=ndS_things
 have h8:namesT (tS a b) = []:=by
  unfold namesT rawT
  rw [h7];rfl
 unfold tstE
 rw [h1,h2,h3,h4,h5,h6,h7,h8]
 rfl
theorem tS_text (a b:Option Addr):fileT (tS a b) = [88,56,54,32,116,10,123,10,125,10,32,80,48,32,32,32,32,32,124,32,80,49,32,59,10,32,77,70,69,78,67,69,32,124,32,32,32,32,59,10,101,120,105,115,116,115,32,40,116,114,117,101,41,10]:=by
 unfold fileT
 rw [show textC (tS a b).arch (tS a b).q (tS a b).node=_ from ndS_text 1]
 rfl
theorem tS_print (a b:Option Addr):printE (tS a b)=([88,56,54,32,116,10,123,10,125,10,32,80,48,32,32,32,32,32,124,32,80,49,32,59,10,32,77,70,69,78,67,69,32,124,32,32,32,32,59,10,101,120,105,115,116,115,32,40,116,114,117,101,41,10],0):=by
 unfold printE
 rw [tS_ok,if_neg (by simp),tS_text,if_neg (by decide)]
theorem tsS_in {w:World} {a b:Option Addr} (h1:Els cCd w a [⟨b,1,[ins5]⟩,⟨none,0,[]⟩]) (h2:Is w b [ins5]):TsIn w (tS a b) :=
 ⟨by simp [tS],by simp [tS],Els.nil _ _,by simp [tS],by simp [tS],by simp [tS],h1,by simp [tS],fun x hx=>by
  rcases List.mem_cons.1 hx with rfl|hx
  ·exact ⟨h2,by simp,by simp [ins5]⟩
  ·rcases List.mem_singleton.1 hx with rfl
   exact ⟨Is.nil _ _,by simp,by simp⟩,⟨_,(by show ([]:Tx).length≤_;simp),Els.nil _ _,(by show (0:Nat)≤0;omega),fun k hk=>absurd (show k∈([]:List Nd) from hk) (by simp)⟩⟩
theorem small13 (w:World):Calls Tryz.prog 28 #[] w fun e w'=>∃ a b,e = .returned (vT (tS a b))∧TsIn w' (tS a b)∧Below w.heap.size w w':=by
 go_enter Tryz.func28,Tryz.ntmps28
 go_wp2_with fail
 have A1:=al w (.cells #[.int .i64 1,.string ⟨#[116]⟩,.string ⟨#[]⟩,.slice none 0 0,.slice (some ⟨w.heap.size+1+1,0,none⟩) 2 2,.int .i64 1,.int .i64 1,.int .i64 0,.int .i64 0,.string ⟨#[]⟩,.int .i64 0,.slice none 0 0] 39)
 obtain ⟨W1,hW1⟩ : ∃ W1,w.alloc (.cells #[.int .i64 1,.string ⟨#[116]⟩,.string ⟨#[]⟩,.slice none 0 0,.slice (some ⟨w.heap.size+1+1,0,none⟩) 2 2,.int .i64 1,.int .i64 1,.int .i64 0,.int .i64 0,.string ⟨#[]⟩,.int .i64 0,.slice none 0 0] 39)=W1:=⟨_,rfl⟩
 have hs1:W1.heap.size=w.heap.size+1:=by rw [← hW1];exact alloc_size _ _
 have r2:=row_new W1 [.int .i64 5,.int .i64 0,.int .i64 0,.int .i64 0,.int .i64 0,.string ⟨#[]⟩,.string ⟨#[]⟩,.int .i64 0] 23
 have A2:=al W1 (.cells [.int .i64 5,.int .i64 0,.int .i64 0,.int .i64 0,.int .i64 0,.string ⟨#[]⟩,.string ⟨#[]⟩,.int .i64 0].toArray 23)
 rw [hW1] at A1
 obtain ⟨W2,hW2⟩ : ∃ W2,W1.alloc (.cells [.int .i64 5,.int .i64 0,.int .i64 0,.int .i64 0,.int .i64 0,.string ⟨#[]⟩,.string ⟨#[]⟩,.int .i64 0].toArray 23)=W2:=⟨_,rfl⟩
 have hs2:W2.heap.size=w.heap.size+1+1:=by rw [← hW2,alloc_size,hs1]
 rw [hW2] at r2 A2
 have r3:=row_new W2 [.slice (some ⟨w.heap.size+1,0,none⟩) 1 1,.slice none 0 0] 49
 have A3:=al W2 (.cells [.slice (some ⟨w.heap.size+1,0,none⟩) 1 1,.slice none 0 0].toArray 49)
 have b1:BxL W1 w.heap.size [Value.int .i64 1,.string ⟨#[116]⟩,.string ⟨#[]⟩,.slice none 0 0,.slice (some ⟨w.heap.size+1+1,0,none⟩) 2 2,.int .i64 1,.int .i64 1,.int .i64 0,.int .i64 0,.string ⟨#[]⟩,.int .i64 0,.slice none 0 0]:=by rw [← hW1];exact BxL.new w _ _
 have b3:=(b1.below A2).below A3
 have r2:=r2.below A3
 rw [hs1] at r2
 rw [hs2] at r3
 have E:=A1.trans ((A2.trans (A3.mono A2.size)).mono A1.size)
 have hW3:((w.alloc (.cells #[.int .i64 1,.string ⟨#[116]⟩,.string ⟨#[]⟩,.slice none 0 0,.slice (some ⟨w.heap.size+1+1,0,none⟩) 2 2,.int .i64 1,.int .i64 1,.int .i64 0,.int .i64 0,.string ⟨#[]⟩,.int .i64 0,.slice none 0 0] 39)).alloc (.cells #[.int .i64 5,.int .i64 0,.int .i64 0,.int .i64 0,.int .i64 0,.string ⟨#[]⟩,.string ⟨#[]⟩,.int .i64 0] 23)).alloc (.cells #[.slice (some ⟨w.heap.size+1,0,none⟩) 1 1,.slice none 0 0] 49)=W2.alloc (.cells [.slice (some ⟨w.heap.size+1,0,none⟩) 1 1,.slice none 0 0].toArray 49):=by rw [← hW2,← hW1]
 rw [hW3]
 have d0:=b3.get 0 _ rfl
 have d1:=b3.get 1 _ rfl
 have d2:=b3.get 2 _ rfl
 have d3:=b3.get 3 _ rfl
 have d4:=b3.get 4 _ rfl
 have d5:=b3.get 5 _ rfl
 have d6:=b3.get 6 _ rfl
 have d7:=b3.get 7 _ rfl
 have d8:=b3.get 8 _ rfl
 have d9:=b3.get 9 _ rfl
 have d10:=b3.get 10 _ rfl
 have d11:=b3.get 11 _ rfl
 generalize W2.alloc (.cells [.slice (some ⟨w.heap.size+1,0,none⟩) 1 1,.slice none 0 0].toArray 49)=W3 at *
 clear hW3 hW2 hW1 b1 b3
 refine bodyPost_ret (by simp [results,Tryz.results28,go_sem,d0,d1,d2,d3,d4,d5,d6,d7,d8,d9,d10,d11];rfl) rfl ?_
 refine ⟨some ⟨w.heap.size+1+1,0,none⟩,some ⟨w.heap.size+1,0,none⟩,rfl,tsS_in ⟨r3,by simp⟩ ⟨r2,by simp⟩,E⟩
theorem awake13 (w:World) (g:Gl w):Calls Tryz.prog 11 #[] w (Ret w (.bool true)):=by
 have SM:=hid (small13 w)
 have HG:=hid g
 have FP:=hid (fun (a b:Option Addr) (w':World) (h:TsIn w' (tS a b)) (g:Gl w')=>(show Calls Tryz.prog 13 #[vT (tS a b)] w' (Ret w' (.tuple #[.string ⟨#[88,56,54,32,116,10,123,10,125,10,32,80,48,32,32,32,32,32,124,32,80,49,32,59,10,32,77,70,69,78,67,69,32,124,32,32,32,32,59,10,101,120,105,115,116,115,32,40,116,114,117,101,41,10]⟩,.int .i64 0])) from by
  have h1:=filePrint (tS a b) w' h g
  rw [tS_print] at h1
  exact h1))
 clear g
 go_enter Tryz.func11,Tryz.ntmps11
 go_wp2_with fail
 refine SM.out.mono ?_
 rintro e w1 ⟨a,b,rfl,h,E⟩
 have F1:=hid (FP.out a b w1 h (HG.out.below E))
 obtain ⟨v,hv⟩ : ∃ v,vT (tS a b)=v:=⟨_,rfl⟩
 rw [hv] at F1 ⊢
 go_wp2_with fail
 refine F1.out.mono ?_
 rintro e w2 ⟨rfl,E2⟩
 go_wp2_with fail
 (try go_simp)
 go_ret
 exact ⟨rfl,E.trans (E2.mono E.size)⟩
end Go.Proofs.YthaibjefnclkjaaGreatDoor
namespace Go.Proofs.YthaibjefnclkjaaGreatDoor
def bareC (l:List Cd):List Cd:=l.map fun x=>⟨none,0,x.l⟩
def bare (t:Tst):Tst:=⟨t.arch,t.name,t.cycle,none,0,t.init,none,0,bareC t.code,t.q,t.node⟩
theorem bareC_eq {l r:List Cd} (h:l.map (·.l)=r.map (·.l)):bareC l=bareC r:=by
 unfold bareC
 have:=congrArg (List.map fun (x:List Ins)=>(⟨none,0,x⟩:Cd)) h
 rw [List.map_map,List.map_map] at this
 exact this
theorem colsT_bare (t:Tst):colsT (bare t)=colsT t:=by
 unfold colsT
 rw [show (bare t).code=bareC t.code from rfl]
 unfold bareC
 refine List.ext_getElem? fun k=>?_
 rw [List.getElem?_mapIdx,List.getElem?_mapIdx,List.getElem?_map]
 cases t.code[k]? <;> rfl
theorem highT_bare (t:Tst):highT (bare t)=highT t:=by
 unfold highT
 rw [show (bare t).code=bareC t.code from rfl]
 unfold bareC
 rw [List.foldl_map]
theorem lineT_bare (i:Nat) (t:Tst):lineT i (bare t)=lineT i t:=by unfold lineT;rw [colsT_bare]
theorem tableT_bare (t:Tst):tableT (bare t)=tableT t:=by
 unfold tableT;rw [highT_bare]
 exact List.map_congr_left fun i _=>lineT_bare i t
end Go.Proofs.YthaibjefnclkjaaGreatDoor
namespace Go.Proofs.YthaibjefnclkjaaGreatDoor
open Go.RowKit Go.Sort
structure TsSz (t:Tst):Prop where
 init:t.init.length * 56≤140737488351232
 code:t.code.length * 24≤140737488351232
 rows : ∀ x∈t.code,x.l.length * 80≤140737488351232
theorem Blk.set {w:World} {b:Nat} {l:List Value} {T:TypeId} (h:Blk w b l T) (k:Nat) (v:Value):Blk (w.setCell ⟨b,k,none⟩ v) b (l.set k v) T:=by
 unfold Blk at h ⊢
 simp [World.setCell,Array.getElem?_modify,h]
theorem Blk.step {w w':World} {b:Nat} {l:List Value} {T:TypeId} (h:Blk w b l T) {B E m n c:Nat} {a:Option Addr} {xs:List Value} (o:Own w B E m a n c xs) (hne:E≠T) (hg:w.grownBy w' (a.map (·.block))):Blk w' b l T:=by
 unfold Blk at h ⊢
 rw [hg.block b (Array.getElem?_eq_some_iff.1 h).1 (fun e=>by
  obtain ⟨cs,fz,h1⟩:=own_kind o b e.symm
  rw [h] at h1
  simp only [Option.some.injEq,Obj.cells.injEq] at h1
  exact hne h1.2.1.symm)]
 exact h
def CdsOk (w:World) (B:Nat) (R:List Cd):Prop:=∀ x∈R,Own w B 23 8 x.a x.l.length x.c (insC x.l)
theorem CdsOk.below {w w':World} {B:Nat} {R:List Cd} (h:CdsOk w B R) (hb:Below w.heap.size w w'):CdsOk w' B R:=fun x hx=>Own.below (h x hx) hb
theorem CdsOk.kept {w w':World} {B:Nat} {R:List Cd} (h:CdsOk w B R) {B' E' m' n' c':Nat} {a:Option Addr} {xs:List Value} (o:Own w B' E' m' a n' c' xs) (hne:E'≠23) (hg:w.grownBy w' (a.map (·.block))):CdsOk w' B R :=
 fun x hx=>Own.kept (h x hx) hg (own_types o (h x hx) hne)
theorem flat_ok {α:Type} {enc:α→List Value} {m:Nat} (hm : ∀ x,(enc x).length=m) (l:List α) (n:Nat) (h:l.length=n):(flat enc l).length=n * m:=by rw [flat_length hm,h]
end Go.Proofs.YthaibjefnclkjaaGreatDoor

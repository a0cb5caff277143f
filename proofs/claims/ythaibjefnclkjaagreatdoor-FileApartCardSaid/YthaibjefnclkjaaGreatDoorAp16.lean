/- The walks of kid, text and Print of a condition (the document's answer 08). Conditions: the nodes lie in memory as read and may be; the library's variables as the program's text lays them. The walk of Print of a condition (the document's answer 08). Conditions: the nodes lie in memory as read; the library's variables as the program's text lays them. The walks of things, Clone of things, and Things (cond). Conditions: the nodes lie in memory as read. The walks of Things (cond) and of Before, gather, Things (the document's answer 08). Conditions: the nodes lie in memory as read. -/
import Derived.Test.YthaibjefnclkjaaGreatDoorAp15
import Derived.Test.YthaibjefnclkjaaGreatDoorAp13
set_option linter.unusedVariables false
set_option maxRecDepth 100000
set_option maxHeartbeats 6400000
namespace Go.Proofs.YthaibjefnclkjaaGreatDoor
open Go.RowKit Go.Sort
def TextOf (arch:Int) (x:Nd):Prop:=∀ w,NdIn w x→Gl w→Calls Tryz.prog 73 #[.int .i64 arch,vN x] w (Ret w (.string (tx (textN arch x))))
theorem r08Kid (arch : Int) (x : Nd) (and : Bool) (H : TextOf arch x) (hl : (textN arch x).length ≤ 200000) (w : World) (hI : NdIn w x) (g : Gl w) :
    Calls Tryz.prog 115 #[.int .i64 arch, vN x, .bool and, .bool true] w (Ret w (.string (tx (inB (weak and x.kind) (textN arch x))))) := by
  have B := al w (mkN x)
  have b0 := BxN.new w x
  have H1 := H (w.alloc (mkN x)) (hI.keep B) (g.below B)
  obtain ⟨s, hs⟩ : ∃ s, textN arch x = s := ⟨_, rfl⟩
  rw [hs] at H1 hl ⊢
  have hc1 : ∃ t1 : Tx, 40 :: s = t1 := ⟨_, rfl⟩
  obtain ⟨t1, ht1⟩ := hc1
  obtain ⟨t2, ht2⟩ : ∃ t2 : Tx, t1 ++ [41] = t2 := ⟨_, rfl⟩
  have n1 : t1.length ≤ 200001 := by rw [← ht1]; simp <;> omega
  have c1 : ∀ w, (Op.stringOp .add ⟨#[40]⟩ (tx s)).run Tryz.prog w = .ok (.string (tx t1)) w := fun w => by rw [← ht1]; exact run_cat [40] s (by simp only [List.length_singleton]; omega) w
  have c2 : ∀ w, (Op.stringOp .add (tx t1) ⟨#[41]⟩).run Tryz.prog w = .ok (.string (tx t2)) w := fun w => by rw [← ht2]; exact run_cat t1 [41] (by simp <;> omega) w
  have hY : inB true s = t2 := by unfold inB; rw [if_pos rfl, ← ht2, ← ht1]
  have hN : inB false s = s := rfl
  have HY := hid hY; have HN := hid hN
  have H1 := hid H1
  have hk := weak and x.kind
  clear hs ht1 ht2 hY hN H hI g hk
  have go1 : ∀ (b : Bool), weak and x.kind = b → (b = true → ((x.kind == 4) = true ∧ and = true) ∨ ((x.kind == 4) = false ∧ (x.kind == 5) = true)) → (b = false → ((x.kind == 4) = true ∧ and = false ∧ (x.kind == 5) = false) ∨ ((x.kind == 4) = false ∧ (x.kind == 5) = false)) →
      Calls Tryz.prog 115 #[.int .i64 arch, vN x, .bool and, .bool true] w (Ret w (.string (tx (inB (weak and x.kind) s)))) := by
    intro b hb h1 h2
    rw [hb]
    clear hb
    cases b
    · have h2 := h2 rfl
      clear h1
      rw [HN.out]
      rcases h2 with ⟨z4, rfl, z5⟩ | ⟨z4, z5⟩
      all_goals
        go_enter Tryz.func115, Tryz.ntmps115
        go_wp2_with fail
        refine H1.out.mono ?_
        rintro e w1 ⟨rfl, E1⟩
        obtain ⟨q0, q1, q2, q3, q4, q5⟩ := (b0.below E1).cells
        have B := B.trans (E1.mono B.size)
        go_wp2_with fail
        go_ret
        exact ⟨rfl, blN⟩
    · have h1 := h1 rfl
      clear h2
      rw [HY.out]
      rcases h1 with ⟨z4, rfl⟩ | ⟨z4, z5⟩
      all_goals
        go_enter Tryz.func115, Tryz.ntmps115
        go_wp2_with fail
        refine H1.out.mono ?_
        rintro e w1 ⟨rfl, E1⟩
        obtain ⟨q0, q1, q2, q3, q4, q5⟩ := (b0.below E1).cells
        have B := B.trans (E1.mono B.size)
        go_wp2_with fail
        go_ret
        exact ⟨rfl, blN⟩
  refine go1 _ rfl (fun h => ?_) (fun h => ?_)
  · unfold weak at h
    by_cases h4 : x.kind = 4
    · left; rw [h4] at h ⊢; simp at h; exact ⟨rfl, h⟩
    · right; simp [h4] at h ⊢; exact h
  · unfold weak at h
    by_cases h4 : x.kind = 4
    · left; rw [h4] at h ⊢; simp at h; exact ⟨rfl, h, rfl⟩
    · right; simp [h4] at h ⊢; exact h
theorem r08Text_1 (arch:Int) (x:Nd) (hk:x.kind=1) (w:World):Calls Tryz.prog 73 #[.int .i64 arch,vN x] w (Ret w (.string (tx (textN arch x)))):=by
 have B:=al w (mkN x)
 have z1:(x.kind==1)=true:=by simpa using hk
 have E:=hid (show textN arch x = [116,114,117,101] by rw [textN_eq,if_pos hk])
 clear hk
 go_enter Tryz.func73,Tryz.ntmps73
 go_wp2_with fail
 go_ret
 exact ⟨ret_str (by rw [E.out];rfl),blN⟩
theorem r08Text_2 (arch:Int) (x:Nd) (hk:x.kind=2) (ht:thingB arch x.th=true) (hv:n32B x.val=true) (w:World) (g:Gl w):Calls Tryz.prog 73 #[.int .i64 arch,vN x] w (Ret w (.string (tx (textN arch x)))):=by
 have B:=al w (.cells #[.int .i64 x.kind,.int .i64 x.th.thread,.int .i64 x.th.reg,.string (tx x.th.loc),.int .i64 x.val,.slice x.a x.kids.length x.c] 35)
 have b0:=BxL.new w #[.int .i64 x.kind,.int .i64 x.th.thread,.int .i64 x.th.reg,.string (tx x.th.loc),.int .i64 x.val,.slice x.a x.kids.length x.c] 35
 have g:=g.below B
 have z1:(x.kind==1)=false:=by rw [hk];rfl
 have z2:(x.kind==2)=true:=by rw [hk];rfl
 have hvb:=n32B_spec hv
 have l1:=thText_len ht
 have l2:=itoa_len hv
 obtain ⟨s1,hs1⟩ : ∃ s1,thText arch x.th=s1:=⟨_,rfl⟩
 obtain ⟨s2,hs2⟩ : ∃ s2,Lib.itoa x.val=s2:=⟨_,rfl⟩
 rw [hs1] at l1;rw [hs2] at l2
 have TT:=hid (show ∀ w,Gl w→Calls Tryz.prog 114 #[.int .i64 arch,vTh x.th] w (Ret w (.string (tx s1))) from fun w g=>hs1▸r08ThText arch x.th ht w g)
 have IT:=hid (show ∀ (w:World),Gl w→Calls Tryz.prog 30 #[.int .i64 x.val] w (Ret w (.string (tx s2))) from fun w g=>hs2▸itoa_any x.val (by omega) (by omega) w g)
 obtain ⟨t1,ht1⟩ : ∃ t:Tx,s1++[61]=t:=⟨_,rfl⟩
 have n1:t1.length≤33:=by rw [← ht1];simp;omega
 have c1 : ∀ w,(Op.stringOp .add (tx s1) ⟨#[61]⟩).run Tryz.prog w = .ok (.string (tx t1)) w:=run_catT s1 [61] t1 ht1 (by omega)
 obtain ⟨t2,ht2⟩ : ∃ t:Tx,t1++s2=t:=⟨_,rfl⟩
 have n2:t2.length≤60:=by rw [← ht2];simp;omega
 have c2 : ∀ w,(Op.stringOp .add (tx t1) (tx s2)).run Tryz.prog w = .ok (.string (tx t2)) w:=run_catT t1 s2 t2 ht2 (by omega)
 have E:=hid (show textN arch x=t2 by rw [textN_eq,if_neg (by omega),if_pos hk];unfold atomT;rw [hs1,hs2,ht1,ht2])
 have QQ:=hid (And.intro B (And.intro b0 g))
 clear hs1 hs2 B b0 g l1 l2 ht1 ht2 n1 n2 hk ht hv hvb
 go_enter Tryz.func73,Tryz.ntmps73
 go_wp2_with fail
 obtain ⟨B,b0,g⟩:=QQ.out
 generalize w.alloc (.cells #[.int .i64 x.kind,.int .i64 x.th.thread,.int .i64 x.th.reg,.string (tx x.th.loc),.int .i64 x.val,.slice x.a x.kids.length x.c] 35)=W at *
 have q1:=b0.get 1 _ rfl;have q2:=b0.get 2 _ rfl;have q3:=b0.get 3 _ rfl;have q4:=b0.get 4 _ rfl
 have q1:=cell_regrown q1;have q2:=cell_regrown q2;have q3:=cell_regrown q3;have q4:=cell_regrown q4
 have cA:=fun (d:Nat) (os:Array Obj)=>Calls.regrown_of (retc' (IT.out (grow (redrawn W d) os) (g.below (below_regrown W d os))))
 have cB:=fun (d:Nat) (os:Array Obj)=>Calls.regrown_of (retc' (TT.out (grow (redrawn W d) os) (g.below (below_regrown W d os))))
 clear QQ b0
 refine wp_region_quiet_below (by kernel_rfl) (by kernel_rfl) ?_
 repeat (go_big_quiet_step (first|exact cA _ _|exact cB _ _))
 refine wpQuiet_nil ?_
 intro _ hw'
 obtain ⟨⟨dq,osq⟩,hw''⟩:=hw'
 subst hw''
 have EQ':=below_regrown W dq osq
 have EZ:=B.trans (EQ'.mono B.size)
 generalize grow (redrawn W dq) osq=wq at *
 go_wp2_with fail
 go_ret
 exact ⟨ret_str (by rw [E.out]),EZ⟩
theorem r08Text_3 (arch:Int) (x y:Nd) (hk:x.kind=3) (hy:x.kids = [y]) (hl:(textN arch y).length≤190000) (H:TextOf arch y) (w:World) (hI:NdIn w x) (g:Gl w):Calls Tryz.prog 73 #[.int .i64 arch,vN x] w (Ret w (.string (tx (textN arch x)))):=by
 have B:=al w (mkN x)
 have z1:(x.kind==1)=false:=by rw [hk];rfl
 have z2:(x.kind==2)=false:=by rw [hk];rfl
 have z3:(x.kind==3)=true:=by rw [hk];rfl
 have hI1:=hI.keep B
 have h0:x.kids[0]? = some y:=by rw [hy];rfl
 have hlk:0<x.kids.length:=by rw [hy];simp
 obtain ⟨p0,p1,p2,p3,p4,p5⟩:=hI1.els.nd h0
 have ix:=hI1.els.idx ndl cN_len 0 hlk x.c
 have KD:=r08Kid arch y true H (by omega) (w.alloc (mkN x)) (hI1.kid y (by rw [hy];simp)) (g.below B)
 simp only [Nat.zero_mul,Nat.add_zero,Int.ofNat_zero] at p0 p1 p2 p3 p4 p5 ix
 have l1:=inB_len (weak true y.kind) (textN arch y)
 obtain ⟨s1,hs1⟩ : ∃ s1,inB (weak true y.kind) (textN arch y)=s1:=⟨_,rfl⟩
 rw [hs1] at KD l1
 obtain ⟨t1,ht1⟩ : ∃ t:Tx,126::s1=t:=⟨_,rfl⟩
 have c1 : ∀ w,(Op.stringOp .add ⟨#[126]⟩ (tx s1)).run Tryz.prog w = .ok (.string (tx t1)) w:=fun w=>by rw [← ht1];exact run_cat [126] s1 (by simp;omega) w
 have E:=hid (show textN arch x=t1 by rw [textN_eq,if_neg (by omega),if_neg (by omega),if_pos hk,hy,textL_cons,textR_nil,List.append_nil,hs1,ht1])
 have KD:=hid KD
 clear hs1 ht1 hk hy h0 hI hI1 g H
 go_enter Tryz.func73,Tryz.ntmps73
 go_wp2_with fail
 refine KD.out.mono ?_
 rintro e w1 ⟨rfl,E1⟩
 have B:=B.trans (E1.mono B.size)
 clear p0 p1 p2 p3 p4 p5 ix
 go_wp2_with fail
 go_ret
 exact ⟨ret_str (by rw [E.out]),blN⟩
theorem r08Text_4 (arch:Int) (x:Nd) (hk:x.kind=4) (hn:cntN x≤1024) (ho : ∀ y∈x.kids,OkN arch y) (H : ∀ y∈x.kids,TextOf arch y) (w:World) (hI:NdIn w x) (g:Gl w):Calls Tryz.prog 73 #[.int .i64 arch,vN x] w (Ret w (.string (tx (textN arch x)))):=by
 have B:=al w (mkN x)
 have b0:=BxL.new w #[.int .i64 x.kind,.int .i64 x.th.thread,.int .i64 x.th.reg,.string (tx x.th.loc),.int .i64 x.val,.slice x.a x.kids.length x.c] 35
 have z1:(x.kind==1)=false:=by rw [hk];rfl
 have z2:(x.kind==2)=false:=by rw [hk];rfl
 have z3:(x.kind==3)=false:=by rw [hk];rfl
 have z4:(x.kind==4)=true:=by rw [hk];rfl
 have z5:(x.kind==5)=false:=by rw [hk];rfl
 have E:=hid (show textN arch x=textL arch true sepA x.kids by rw [textN_eq,if_neg (by omega),if_neg (by omega),if_neg (by omega),if_pos hk])
 have hll:=textL_len (arch:=arch) (and:=true) (sep:=sepA) (by simp [sepA]) (l:=x.kids) ho
 have hcnt:=cntN_eq x
 have HB:=hid B
 have HI1:=hid (hI.keep B)
 have HG:=hid (g.below B)
 have HH:=hid H
 have HO:=hid ho
 clear hk hI g H ho B
 go_enter Tryz.func73,Tryz.ntmps73
 go_upto_region 1 with (fail)
 have B:=HB.out
 have hI1:=HI1.out
 have g:=HG.out
 generalize w.alloc (.cells #[.int .i64 x.kind,.int .i64 x.th.thread,.int .i64 x.th.reg,.string (tx x.th.loc),.int .i64 x.val,.slice x.a x.kids.length x.c] 35)=W at *
 have q0:=b0.get 0 _ rfl;have q5:=b0.get 5 _ rfl
 have hI1:=hid hI1;have g:=hid g;have b0:=hid b0
 clear HI1 HG HB
 go_wp2_with fail
 clear q0 q5
 go_loopw [5,6] (fun s i wr=>∃ (k:Nat) (t:Tx),k≤x.kids.length∧i = .int .i64 k∧s = .string (tx t)∧Below W.heap.size W wr∧Hid (t=textL arch true sepA (x.kids.take k))) (fun _ i _=>x.kids.length-(intOf i).toNat)
 case atStart=>exact ⟨0,[],Nat.zero_le _,rfl,rfl,Below.refl _ _,hid (by rw [List.take_zero,textL_nil])⟩
 case round =>
  obtain ⟨k,t,hk,rfl,rfl,ER,HT⟩:=hrel
  have br:=b0.out.below ER
  have q0:=br.get 0 _ rfl;have q5:=br.get 5 _ rfl
  by_cases hlk:k<x.kids.length
  ·obtain ⟨y,hy⟩ : ∃ y,x.kids[k]? = some y:=⟨_,List.getElem?_eq_getElem hlk⟩
   have hym:=List.mem_of_getElem? hy
   have hIr:=hI1.out.keep ER
   obtain ⟨p0,p1,p2,p3,p4,p5⟩:=hIr.els.nd hy
   have ix:=hIr.els.idx ndl cN_len k hlk x.c
   have hkl:=hIr.els.len
   have htk:=textL_take (arch:=arch) (and:=true) (sep:=sepA) hy
   have hlen:=textL_len (arch:=arch) (and:=true) (sep:=sepA) (by simp [sepA]) (l:=x.kids.take k) (fun z hz=>HO.out z (List.mem_of_mem_take hz))
   have hlen2:cntL (x.kids.take k)≤cntL x.kids:=by
    have:=cntL_app (x.kids.take k) (x.kids.drop k);rw [List.take_append_drop] at this;omega
   rw [← HT.out] at hlen htk
   have htn:=textN_len (HO.out y hym)
   have hcy:=cntL_mem hym
   have l1:=inB_len (weak true y.kind) (textN arch y)
   have KD:=hid (show ∀ w,NdIn w y→Gl w→Calls Tryz.prog 115 #[.int .i64 arch,vN y,.bool true,.bool true] w (Ret w (.string (tx (inB (weak true y.kind) (textN arch y))))) from fun w hI g=>r08Kid arch y true (HH.out y hym) (by omega) w hI g)
   obtain ⟨s1,hs1⟩ : ∃ s1,inB (weak true y.kind) (textN arch y)=s1:=⟨_,rfl⟩
   rw [hs1] at KD l1 htk
   have HIY:=hid (hIr.kid y hym)
   have HGR:=hid (g.out.below ER)
   clear hs1 hIr hym hy br
   by_cases h0:k=0
   ·subst h0
    rw [if_pos rfl,List.append_nil] at htk
    obtain ⟨t2,ht2⟩ : ∃ t2:Tx,t++s1=t2:=⟨_,rfl⟩
    have c2 : ∀ w,(Op.stringOp .add (tx t) (tx s1)).run Tryz.prog w = .ok (.string (tx t2)) w:=fun w=>by rw [← ht2];exact run_cat t s1 (by omega) w
    rw [ht2] at htk
    have HT2:=hid htk.symm
    simp only [Nat.zero_mul,Nat.add_zero,Int.ofNat_zero] at p0 p1 p2 p3 p4 p5 ix
    clear htk ht2 HT hk
    go_wp2_with fail
    have cA:=fun (d:Nat) (os:Array Obj)=>Calls.regrown_of (retc' (KD.out (grow (redrawn wr d) os) (HIY.out.keep (below_regrown wr d os)) (HGR.out.below (below_regrown wr d os))))
    have q0:=cell_regrown q0;have q5:=cell_regrown q5;have p0:=cell_regrown p0;have p1:=cell_regrown p1;have p2:=cell_regrown p2;have p3:=cell_regrown p3;have p4:=cell_regrown p4;have p5:=cell_regrown p5
    refine wp_region_quiet_below (by kernel_rfl) (by kernel_rfl) ?_
    repeat (go_big_quiet_step (exact cA _ _))
    refine wpQuiet_nil ?_
    intro _ hw'
    obtain ⟨⟨dq,osq⟩,hw''⟩:=hw'
    subst hw''
    have EQ':=below_regrown wr dq osq
    have ER:=ER.trans (EQ'.mono ER.size)
    generalize grow (redrawn wr dq) osq=wq at *
    clear q0 q5 p0 p1 p2 p3 p4 p5 cA ix
    go_wp2_with fail
    go_roundw
    case rel=>exact ⟨1,t2,by omega,by go_num,rfl,ER,HT2⟩
    case measure=>simp [intOf];omega
   ·have h0':0<k:=by omega
    have zk:(0:Int)<k:=by omega
    rw [if_neg h0] at htk
    obtain ⟨t1,ht1⟩ : ∃ t1:Tx,t++sepA=t1:=⟨_,rfl⟩
    have hl1:t1.length=t.length+4:=by rw [← ht1];simp [sepA]
    have c1 : ∀ w,(Op.stringOp .add (tx t) ⟨#[32,47,92,32]⟩).run Tryz.prog w = .ok (.string (tx t1)) w:=fun w=>by rw [← ht1];exact run_cat t sepA (by simp [sepA];omega) w
    obtain ⟨t2,ht2⟩ : ∃ t2:Tx,t1++s1=t2:=⟨_,rfl⟩
    have c2 : ∀ w,(Op.stringOp .add (tx t1) (tx s1)).run Tryz.prog w = .ok (.string (tx t2)) w:=fun w=>by rw [← ht2];exact run_cat t1 s1 (by omega) w
    rw [ht1,ht2] at htk
    have HT2:=hid htk.symm
    clear htk ht1 ht2 HT h0
    go_wp2_with fail
    have cA:=fun (d:Nat) (os:Array Obj)=>Calls.regrown_of (retc' (KD.out (grow (redrawn wr d) os) (HIY.out.keep (below_regrown wr d os)) (HGR.out.below (below_regrown wr d os))))
    have q0:=cell_regrown q0;have q5:=cell_regrown q5;have p0:=cell_regrown p0;have p1:=cell_regrown p1;have p2:=cell_regrown p2;have p3:=cell_regrown p3;have p4:=cell_regrown p4;have p5:=cell_regrown p5
    refine wp_region_quiet_below (by kernel_rfl) (by kernel_rfl) ?_
    repeat (go_big_quiet_step (exact cA _ _))
    refine wpQuiet_nil ?_
    intro _ hw'
    obtain ⟨⟨dq,osq⟩,hw''⟩:=hw'
    subst hw''
    have EQ':=below_regrown wr dq osq
    have ER:=ER.trans (EQ'.mono ER.size)
    generalize grow (redrawn wr dq) osq=wq at *
    clear q0 q5 p0 p1 p2 p3 p4 p5 cA ix
    go_wp2_with fail
    go_roundw
    case rel=>exact ⟨k+1,t2,by omega,by go_num,rfl,ER,HT2⟩
    case measure=>simp [intOf];omega
  ·obtain rfl:k=x.kids.length:=by omega
   have HT2:=hid (show textN arch x=t by rw [E.out,HT.out,List.take_length])
   clear HT
   go_wp2_with fail
   go_ret
   exact ⟨ret_str (by rw [HT2.out]),B.trans (ER.mono B.size)⟩
theorem r08Text_5 (arch:Int) (x:Nd) (hk:x.kind=5) (hn:cntN x≤1024) (ho : ∀ y∈x.kids,OkN arch y) (H : ∀ y∈x.kids,TextOf arch y) (w:World) (hI:NdIn w x) (g:Gl w):Calls Tryz.prog 73 #[.int .i64 arch,vN x] w (Ret w (.string (tx (textN arch x)))):=by
 have B:=al w (mkN x)
 have b0:=BxL.new w #[.int .i64 x.kind,.int .i64 x.th.thread,.int .i64 x.th.reg,.string (tx x.th.loc),.int .i64 x.val,.slice x.a x.kids.length x.c] 35
 have z1:(x.kind==1)=false:=by rw [hk];rfl
 have z2:(x.kind==2)=false:=by rw [hk];rfl
 have z3:(x.kind==3)=false:=by rw [hk];rfl
 have z4:(x.kind==4)=false:=by rw [hk];rfl
 have z5:(x.kind==5)=true:=by rw [hk];rfl
 have E:=hid (show textN arch x=textL arch false sepO x.kids by rw [textN_eq,if_neg (by omega),if_neg (by omega),if_neg (by omega),if_neg (by omega)])
 have hll:=textL_len (arch:=arch) (and:=false) (sep:=sepO) (by simp [sepO]) (l:=x.kids) ho
 have hcnt:=cntN_eq x
 have HB:=hid B
 have HI1:=hid (hI.keep B)
 have HG:=hid (g.below B)
 have HH:=hid H
 have HO:=hid ho
 clear hk hI g H ho B
 go_enter Tryz.func73,Tryz.ntmps73
 go_upto_region 1 with (fail)
 have B:=HB.out
 have hI1:=HI1.out
 have g:=HG.out
 generalize w.alloc (.cells #[.int .i64 x.kind,.int .i64 x.th.thread,.int .i64 x.th.reg,.string (tx x.th.loc),.int .i64 x.val,.slice x.a x.kids.length x.c] 35)=W at *
 have q0:=b0.get 0 _ rfl;have q5:=b0.get 5 _ rfl
 have hI1:=hid hI1;have g:=hid g;have b0:=hid b0
 clear HI1 HG HB
 go_wp2_with fail
 clear q0 q5
 go_loopw [5,6] (fun s i wr=>∃ (k:Nat) (t:Tx),k≤x.kids.length∧i = .int .i64 k∧s = .string (tx t)∧Below W.heap.size W wr∧Hid (t=textL arch false sepO (x.kids.take k))) (fun _ i _=>x.kids.length-(intOf i).toNat)
 case atStart=>exact ⟨0,[],Nat.zero_le _,rfl,rfl,Below.refl _ _,hid (by rw [List.take_zero,textL_nil])⟩
 case round =>
  obtain ⟨k,t,hk,rfl,rfl,ER,HT⟩:=hrel
  have br:=b0.out.below ER
  have q0:=br.get 0 _ rfl;have q5:=br.get 5 _ rfl
  by_cases hlk:k<x.kids.length
  ·obtain ⟨y,hy⟩ : ∃ y,x.kids[k]? = some y:=⟨_,List.getElem?_eq_getElem hlk⟩
   have hym:=List.mem_of_getElem? hy
   have hIr:=hI1.out.keep ER
   obtain ⟨p0,p1,p2,p3,p4,p5⟩:=hIr.els.nd hy
   have ix:=hIr.els.idx ndl cN_len k hlk x.c
   have hkl:=hIr.els.len
   have htk:=textL_take (arch:=arch) (and:=false) (sep:=sepO) hy
   have hlen:=textL_len (arch:=arch) (and:=false) (sep:=sepO) (by simp [sepO]) (l:=x.kids.take k) (fun z hz=>HO.out z (List.mem_of_mem_take hz))
   have hlen2:cntL (x.kids.take k)≤cntL x.kids:=by
    have:=cntL_app (x.kids.take k) (x.kids.drop k);rw [List.take_append_drop] at this;omega
   rw [← HT.out] at hlen htk
   have htn:=textN_len (HO.out y hym)
   have hcy:=cntL_mem hym
   have l1:=inB_len (weak false y.kind) (textN arch y)
   have KD:=hid (show ∀ w,NdIn w y→Gl w→Calls Tryz.prog 115 #[.int .i64 arch,vN y,.bool false,.bool true] w (Ret w (.string (tx (inB (weak false y.kind) (textN arch y))))) from fun w hI g=>r08Kid arch y false (HH.out y hym) (by omega) w hI g)
   obtain ⟨s1,hs1⟩ : ∃ s1,inB (weak false y.kind) (textN arch y)=s1:=⟨_,rfl⟩
   rw [hs1] at KD l1 htk
   have HIY:=hid (hIr.kid y hym)
   have HGR:=hid (g.out.below ER)
   clear hs1 hIr hym hy br
   by_cases h0:k=0
   ·subst h0
    rw [if_pos rfl,List.append_nil] at htk
    obtain ⟨t2,ht2⟩ : ∃ t2:Tx,t++s1=t2:=⟨_,rfl⟩
    have c2 : ∀ w,(Op.stringOp .add (tx t) (tx s1)).run Tryz.prog w = .ok (.string (tx t2)) w:=fun w=>by rw [← ht2];exact run_cat t s1 (by omega) w
    rw [ht2] at htk
    have HT2:=hid htk.symm
    simp only [Nat.zero_mul,Nat.add_zero,Int.ofNat_zero] at p0 p1 p2 p3 p4 p5 ix
    clear htk ht2 HT hk
    go_wp2_with fail
    have cA:=fun (d:Nat) (os:Array Obj)=>Calls.regrown_of (retc' (KD.out (grow (redrawn wr d) os) (HIY.out.keep (below_regrown wr d os)) (HGR.out.below (below_regrown wr d os))))
    have q0:=cell_regrown q0;have q5:=cell_regrown q5;have p0:=cell_regrown p0;have p1:=cell_regrown p1;have p2:=cell_regrown p2;have p3:=cell_regrown p3;have p4:=cell_regrown p4;have p5:=cell_regrown p5
    refine wp_region_quiet_below (by kernel_rfl) (by kernel_rfl) ?_
    repeat (go_big_quiet_step (exact cA _ _))
    refine wpQuiet_nil ?_
    intro _ hw'
    obtain ⟨⟨dq,osq⟩,hw''⟩:=hw'
    subst hw''
    have EQ':=below_regrown wr dq osq
    have ER:=ER.trans (EQ'.mono ER.size)
    generalize grow (redrawn wr dq) osq=wq at *
    clear q0 q5 p0 p1 p2 p3 p4 p5 cA ix
    go_wp2_with fail
    go_roundw
    case rel=>exact ⟨1,t2,by omega,by go_num,rfl,ER,HT2⟩
    case measure=>simp [intOf];omega
   ·have h0':0<k:=by omega
    have zk:(0:Int)<k:=by omega
    rw [if_neg h0] at htk
    obtain ⟨t1,ht1⟩ : ∃ t1:Tx,t++sepO=t1:=⟨_,rfl⟩
    have hl1:t1.length=t.length+4:=by rw [← ht1];simp [sepO]
    have c1 : ∀ w,(Op.stringOp .add (tx t) ⟨#[32,92,47,32]⟩).run Tryz.prog w = .ok (.string (tx t1)) w:=fun w=>by rw [← ht1];exact run_cat t sepO (by simp [sepO];omega) w
    obtain ⟨t2,ht2⟩ : ∃ t2:Tx,t1++s1=t2:=⟨_,rfl⟩
    have c2 : ∀ w,(Op.stringOp .add (tx t1) (tx s1)).run Tryz.prog w = .ok (.string (tx t2)) w:=fun w=>by rw [← ht2];exact run_cat t1 s1 (by omega) w
    rw [ht1,ht2] at htk
    have HT2:=hid htk.symm
    clear htk ht1 ht2 HT h0
    go_wp2_with fail
    have cA:=fun (d:Nat) (os:Array Obj)=>Calls.regrown_of (retc' (KD.out (grow (redrawn wr d) os) (HIY.out.keep (below_regrown wr d os)) (HGR.out.below (below_regrown wr d os))))
    have q0:=cell_regrown q0;have q5:=cell_regrown q5;have p0:=cell_regrown p0;have p1:=cell_regrown p1;have p2:=cell_regrown p2;have p3:=cell_regrown p3;have p4:=cell_regrown p4;have p5:=cell_regrown p5
    refine wp_region_quiet_below (by kernel_rfl) (by kernel_rfl) ?_
    repeat (go_big_quiet_step (exact cA _ _))
    refine wpQuiet_nil ?_
    intro _ hw'
    obtain ⟨⟨dq,osq⟩,hw''⟩:=hw'
    subst hw''
    have EQ':=below_regrown wr dq osq
    have ER:=ER.trans (EQ'.mono ER.size)
    generalize grow (redrawn wr dq) osq=wq at *
    clear q0 q5 p0 p1 p2 p3 p4 p5 cA ix
    go_wp2_with fail
    go_roundw
    case rel=>exact ⟨k+1,t2,by omega,by go_num,rfl,ER,HT2⟩
    case measure=>simp [intOf];omega
  ·obtain rfl:k=x.kids.length:=by omega
   have HT2:=hid (show textN arch x=t by rw [E.out,HT.out,List.take_length])
   clear HT
   go_wp2_with fail
   go_ret
   exact ⟨ret_str (by rw [HT2.out]),B.trans (ER.mono B.size)⟩
theorem r08Text (arch:Int) : ∀ (x:Nd),OkN arch x→cntN x≤1024→TextOf arch x:=by
 intro x
 induction x using Nd.ind with
 | h x ih =>
  intro ho hn w hI g
  have hc:=cntN_eq x
  have hkid : ∀ y∈x.kids,TextOf arch y:=fun y hy=>ih y hy (ho.kid y hy) (by have:=cntL_mem hy;omega)
  rcases mayN_kind ho.may with ⟨h1,h2⟩|⟨h1,h2,h3,h4⟩|⟨h1,h2⟩|⟨h1,h2⟩|⟨h1,h2⟩
  ·exact r08Text_1 arch x h1 w
  ·exact r08Text_2 arch x h1 h2 h3 w g
  ·obtain ⟨y,hy⟩ : ∃ y,x.kids = [y]:=List.length_eq_one_iff.1 h2
   have hym:y∈x.kids:=by rw [hy];simp
   have:=textN_len (ho.kid y hym)
   have:=cntL_mem hym
   exact r08Text_3 arch x y h1 hy (by omega) (hkid y hym) w hI g
  ·exact r08Text_4 arch x h1 hn ho.kid hkid w hI g
  ·exact r08Text_5 arch x h1 hn ho.kid hkid w hI g
abbrev cC (q:Int) (x:Nd):List Value:=[.int .i64 q,.int .i64 x.kind,.int .i64 x.th.thread,.int .i64 x.th.reg,.string (tx x.th.loc),.int .i64 x.val,.slice x.a x.kids.length x.c]
theorem BxL.cC {w:World} {b:Nat} {q:Int} {x:Nd} (h:BxL w b (cC q x)):w.cell? ⟨b,0,none⟩=some (.int .i64 q)∧w.cell? ⟨b,1,none⟩=some (.int .i64 x.kind)∧w.cell? ⟨b,2,none⟩=some (.int .i64 x.th.thread)∧w.cell? ⟨b,3,none⟩=some (.int .i64 x.th.reg)∧w.cell? ⟨b,4,none⟩=some (.string (tx x.th.loc))∧w.cell? ⟨b,5,none⟩=some (.int .i64 x.val)∧w.cell? ⟨b,6,none⟩=some (.slice x.a x.kids.length x.c) :=
 ⟨h.get 0 _ rfl,h.get 1 _ rfl,h.get 2 _ rfl,h.get 3 _ rfl,h.get 4 _ rfl,h.get 5 _ rfl,h.get 6 _ rfl⟩
theorem r08Print_yes (arch q:Int) (x:Nd) (w:World) (hI:NdIn w x) (he:condE arch q x=0) (g:Gl w) :
  Calls Tryz.prog 37 #[.int .i64 arch,vC q x] w (Ret w (.tuple #[.string (tx (textC arch q x)),.int .i64 0])):=by
 obtain ⟨-,hq1,hq2,ho,hn⟩:=cond_ok he
 have B:=al w (mkC q x)
 have b0:BxL (w.alloc (mkC q x)) w.heap.size (cC q x):=BxL.new w _ _
 have CH:=r08Check arch q x (w.alloc (mkC q x)) (hI.keep B)
 rw [he] at CH
 have hl:=textN_len ho
 have TX:=hid (show ∀ w,NdIn w x→Gl w→Calls Tryz.prog 73 #[.int .i64 arch,vN x] w (Ret w (.string (tx (textN arch x)))) from r08Text arch x ho hn)
 have HI:=hid (hI.keep B);have HG:=hid (g.below B)
 obtain ⟨s,hs⟩ : ∃ s,textN arch x=s:=⟨_,rfl⟩
 rw [hs] at TX hl
 obtain ⟨t1,ht1⟩ : ∃ t1:Tx,headC q++s=t1:=⟨_,rfl⟩
 have hh:(headC q).length≤9:=by unfold headC;split <;> (try split) <;> simp
 have n1:t1.length≤110000:=by rw [← ht1];simp;omega
 obtain ⟨t2,ht2⟩ : ∃ t2:Tx,t1++[41]=t2:=⟨_,rfl⟩
 have c1 : ∀ w,(Op.stringOp .add (tx (headC q)) (tx s)).run Tryz.prog w = .ok (.string (tx t1)) w:=fun w=>by rw [← ht1];exact run_cat (headC q) s (by omega) w
 have c2 : ∀ w,(Op.stringOp .add (tx t1) ⟨#[41]⟩).run Tryz.prog w = .ok (.string (tx t2)) w:=fun w=>by rw [← ht2];exact run_cat t1 [41] (by simp;omega) w
 have E:=hid (show textC arch q x=t2 by unfold textC;rw [hs,ht1,ht2])
 have CH:=hid CH
 clear hs ht1 ht2 hI g he ho hn hl hh n1
 have hq:q=1∨q=2∨q=3:=by omega
 rcases hq with rfl|rfl|rfl
 all_goals
  first
  | (have c1' : ∀ w,(Op.stringOp .add ⟨#[101,120,105,115,116,115,32,40]⟩ (tx s)).run Tryz.prog w = .ok (.string (tx t1)) w:=c1)
  | (have c1' : ∀ w,(Op.stringOp .add ⟨#[126,101,120,105,115,116,115,32,40]⟩ (tx s)).run Tryz.prog w = .ok (.string (tx t1)) w:=c1)
  | (have c1' : ∀ w,(Op.stringOp .add ⟨#[102,111,114,97,108,108,32,40]⟩ (tx s)).run Tryz.prog w = .ok (.string (tx t1)) w:=c1)
  clear c1
  go_enter Tryz.func37,Tryz.ntmps37
  go_wp2_with fail
  refine CH.out.mono ?_
  rintro e1 w1 ⟨rfl,E1⟩
  obtain ⟨q0,q1,q2,q3,q4,q5,q6⟩:=(b0.below E1).cC
  have hI:=HI.out.keep E1;have g:=HG.out.below E1
  have B:=B.trans (E1.mono B.size)
  go_wp2_with fail
  refine (TX.out _ hI g).mono ?_
  rintro e2 w2 ⟨rfl,E2⟩
  have B:=B.trans (E2.mono B.size)
  clear q0 q1 q2 q3 q4 q5 q6 hI g
  go_wp2_with fail
  go_ret2
  exact ⟨ret_spair (by rw [E.out]) rfl,B⟩
theorem cmpct_map {α β:Type} [DecidableEq α] [DecidableEq β] (f:α→β) (hf : ∀ a b,f a=f b→a=b) : ∀ l:List α,cmpct (l.map f)=(cmpct l).map f
 | []=>rfl
 | [x]=>rfl
 | x::y::r=>by
  have ih:=cmpct_map f hf (y::r)
  simp only [List.map_cons] at ih ⊢
  rw [cmpct_cons,cmpct_cons,ih]
  by_cases h:x=y
  ·rw [if_pos h,if_pos (by rw [h])]
  ·rw [if_neg h,if_neg (fun e=>h (hf _ _ e))];rfl
theorem flat_eV (d:List VTh):flat eV d=flat cTh (d.map (·.1)):=by
 unfold flat;rw [List.flatMap_map]
theorem Own.lit0' (w:World) (E size:Nat):Own (w.alloc (.cells #[] E)) w.heap.size E size (Option.some ⟨w.heap.size,0,none⟩) 0 0 [] :=
 World.ownsRow_lit w #[] 0 (Nat.le_refl _) (by unfold maxLen;omega) (by simp)
def RetTh (w:World) (l:List Th) (e:Ending) (w':World):Prop :=
 ∃ a c,e = .returned (.slice a l.length c)∧OwnT w' w.heap.size a l.length c l∧Below w.heap.size w w'
theorem cloneTh (l:List Th) (a:Option Addr) (c:Nat) (w:World) (h:Els cTh w a l) (hl:l.length≤1000000) :
  Calls Tryz.prog 128 #[.slice a l.length c] w (RetTh w l):=by
 obtain ⟨n,hn⟩ : ∃ n,l.length=n:=⟨_,rfl⟩
 have HN:=hid hn
 rw [hn] at hl
 unfold RetTh
 rw [hn]
 cases a with
 | none =>
  have hl0:l = []:=by
   by_cases e:l = []
   ·exact e
   ·have:=h.row.head (by intro e2;have:=congrArg List.length e2;rw [flat_length cTh_len] at this;simp only [List.length_nil] at this;exact e (List.eq_nil_of_length_eq_zero (by omega)))
    cases this
  subst hl0
  have hn0:n=0:=hn.symm
  subst hn0
  have ze : ∀ w,(binOp .eql 78 (.slice none 0 c) (.slice none 0 0)).run Tryz.prog w = .ok (.bool true) w:=fun w=>rfl
  clear hn h
  go_enter Tryz.func128,Tryz.ntmps128
  go_wp2_with fail
  go_ret
  exact ⟨none,0,rfl,Own.nil _ _ _ _,Below.refl _ _⟩
 | some p =>
  have ze : ∀ w,(binOp .eql 78 (.slice (some p) n c) (.slice none 0 0)).run Tryz.prog w = .ok (.bool false) w:=fun w=>rfl
  have A:=al w (.cells #[] 32)
  have o0:=Own.lit0' w 32 3
  have hA:=h.below A
  have hrl:(flat cTh l).length=n * 3:=by rw [flat_length cTh_len,hn]
  clear hn h
  go_enter Tryz.func128,Tryz.ntmps128
  go_wp2_with (at_builtin;go_loud (refine wpList_app thl (.tmp 5) (.tmp 6) rfl rfl rfl o0 rfl hA.row hrl (flat_oneCell cTh_one l) A A.size (by omega) (by unfold maxLen;omega) ?_))
  intro a1 c1 w1 o1 g1 E1
  have o2:OwnT w1 w.heap.size a1 n c1 l:=by simpa [OwnT] using o1
  have HO:=hid (And.intro o2 E1)
  clear o0 A hA o1 g1 E1 o2
  go_wp2_with fail
  go_ret
  exact ⟨a1,c1,rfl,HO.out.1,HO.out.2⟩
theorem condThings (x:Nd) (w:World) (hI:NdIn w x) (ho:OkN 2 x) (hc:cntN x≤1024) :
  Calls Tryz.prog 129 #[vN x] w (RetTh w (thingsN x)):=by
 have A:=al w (mkN x)
 have b0:=BxN.new w x
 have L:=al (w.alloc (mkN x)) (.cells #[.slice none 0 0] 78)
 have hLB:LB ((w.alloc (mkN x)).alloc (.cells #[.slice none 0 0] 78)) (w.alloc (mkN x)).heap.size (w.alloc (mkN x)).heap.size [] :=
  ⟨none,0,Blk.new _ _ _,Own.nil _ _ _ _,Nat.le_refl _⟩
 have CA:=condAtoms x (w.alloc (mkN x)) _ (w.alloc (mkN x)).heap.size [] (hI.keep A) L hLB (by simp;omega)
 rw [List.nil_append] at CA
 have hsz:(w.alloc (mkN x)).heap.size=w.heap.size+1:=by simp
 have HV:=atoms_ok ho
 have hal:=atomsN_len x
 have hval:=toV_val (atomsN x) HV
 have hst:=sorted_things ho (fun x y=>!ltOf cfV y x) (fun a b=>by rw [ltOf_bef])
 obtain ⟨d,hd⟩ : ∃ d,toV (atomsN x) HV=d:=⟨_,rfl⟩
 rw [hd] at hval hst
 have hdl:(atomsN x).length=d.length:=by rw [← hval,List.length_map]
 have HQ:=hid (And.intro hval (And.intro hst hdl))
 have CA:=hid CA
 rw [hsz] at CA
 clear hI hd hLB L A hsz hval hst
 go_enter Tryz.func129,Tryz.ntmps129
 go_wp2_with fail
 refine CA.out.mono ?_
 rintro e w1 ⟨rfl,hL,hB,K⟩
 obtain ⟨a,c,bL,oL,hle⟩:=hL
 have c0:=bL.get 0 _ rfl
 obtain ⟨hval,hst,-⟩:=HQ.out
 rw [hdl] at c0 oL
 have oL:Own w1 (w.alloc (mkN x)).heap.size 32 3 a d.length c (flat eV d):=by rw [flat_eV,hval];exact oL
 have ST:=hid (sortTh d w1 _ a c oL (by omega))
 have HOL:=hid oL
 have HBL:=hid bL
 have HB:=hid hB
 clear oL bL hB K hle CA HQ hval
 go_wp2_with fail
 refine ST.out.mono ?_
 rintro e w2 ⟨rfl,oS,sS⟩
 have hka:=own_kind HOL.out
 have bL2:Blk w2 (w.heap.size+1) [.slice a (atomsN x).length c] 78:=by
  have h1:=HBL.out
  have hl:=h1.lt
  unfold Blk at h1 ⊢
  rw [sS.grown.block _ hl (fun e=>by
   obtain ⟨cs,fz,hh⟩:=hka _ e.symm
   rw [h1] at hh
   simp at hh)]
  exact h1
 have c2:=bL2.get 0 _ rfl
 rw [hdl] at c2
 have hlen:((sortV d).map (·.1)).length=d.length:=by rw [List.length_map];exact List.length_mergeSort d
 rw [flat_eV] at oS
 have B2:=sS.below HOL.out HB.out HB.out.size
 have CT:=compactTh ((sortV d).map (·.1)) w2 _ a c (by rw [hlen];exact oS) B2.size (by rw [hlen];omega)
 rw [cmpct_map _ (fun a b h=>Subtype.ext h),hst,hlen] at CT
 have CT:=hid CT
 have HOS:=hid oS
 have HLE:=hid hlen
 have HB2:=hid B2
 clear c0 oS sS hka bL2 HBL ST hst hlen B2
 go_wp2_with fail
 refine CT.out.mono ?_
 rintro e w3 ⟨rfl,o3,s3⟩
 have B3:=s3.below HOS.out HB2.out HB2.out.size
 have BZ:Below w.heap.size w w3:=(al w (mkN x)).trans (B3.mono (al w (mkN x)).size)
 have oZ:OwnT w3 w.heap.size a (thingsN x).length c (thingsN x):=Own.mono o3 (by simp)
 have HZ:=hid (And.intro oZ BZ)
 clear o3 s3 B3 BZ oZ c2 CT HOS
 go_wp2_with fail
 go_ret
 exact ⟨a,c,rfl,HZ.out.1,HZ.out.2⟩
attribute [local go_sem high] eqTh neqTh
def RetThE (w:World) (l:List Th) (r:Int) (e:Ending) (w':World):Prop :=
 ∃ a c,e = .returned (.tuple #[.slice a l.length c,.int .i64 r])∧OwnT w' w.heap.size a l.length c l∧Below w.heap.size w w'
theorem RetThE.none {w w':World} {l:List Th} {r:Int} {e:Ending} (hl:l = []) (he:e = .returned (.tuple #[.slice Option.none 0 0,.int .i64 r])) (hb:Below w.heap.size w w'):RetThE w l r e w':=by
 subst hl;exact ⟨Option.none,0,he,Own.nil _ _ _ _,hb⟩
theorem condThingsC (q:Int) (x:Nd) (w:World) (hI:NdIn w x):Calls Tryz.prog 89 #[vC q x] w (RetThE w (thingsC q x) (condE 2 q x)):=by
 have B:=al w (mkC q x)
 have b0:BxL (w.alloc (mkC q x)) w.heap.size (cC q x):=BxL.new w _ _
 have CH:=condCheck 2 q x (w.alloc (mkC q x)) (hI.keep B)
 obtain ⟨r,hr⟩ : ∃ r,condE 2 q x=r:=⟨_,rfl⟩
 rw [hr] at CH ⊢
 by_cases h0:r=0
 ·subst h0
  obtain ⟨-,hq1,hq2,ho,hn⟩:=cond_ok hr
  have hT:=hid (show thingsC q x=thingsN x by unfold thingsC;rw [if_pos hr])
  have CH:=hid CH
  have HI:=hid (hI.keep B)
  have HO:=hid ho
  obtain ⟨-,-,-,htl⟩:=things_ok ho
  clear hr hI ho
  go_enter Tryz.func89,Tryz.ntmps89
  go_wp2_with fail
  refine CH.out.mono ?_
  rintro e1 w1 ⟨rfl,E1⟩
  obtain ⟨q0,q1,q2,q3,q4,q5,q6⟩:=(b0.below E1).cC
  have hI:=HI.out.keep E1
  have B:=B.trans (E1.mono B.size)
  have TH:=hid (condThings x w1 hI HO.out hn)
  clear E1 CH HI hI
  go_wp2_with fail
  refine TH.out.mono ?_
  rintro e2 w2 ⟨a,c,rfl,o2,E2⟩
  have els:=(Own.els o2 cTh_len (by omega) (by omega)).1
  have CL:=hid (cloneTh _ a c w2 els (by omega))
  have B2:=B.trans (E2.mono B.size)
  clear q0 q1 q2 q3 q4 q5 q6 o2 els TH E2
  go_wp2_with fail
  refine CL.out.mono ?_
  rintro e3 w3 ⟨a3,c3,rfl,o3,E3⟩
  have B3:=B2.trans (E3.mono B2.size)
  have HZ:=hid (And.intro (Own.mono o3 B2.size) B3)
  clear o3 E3 B3 CL
  go_wp2_with fail
  go_ret2
  rw [hT.out]
  exact ⟨a3,c3,rfl,HZ.out.1,HZ.out.2⟩
 ·have hT:=hid (show thingsC q x = [] by unfold thingsC;rw [if_neg (by rw [hr];exact h0)])
  have z:(r != 0)=true:=by simpa using h0
  have CH:=hid CH
  clear hr hI h0
  go_enter Tryz.func89,Tryz.ntmps89
  go_wp2_with fail
  refine CH.out.mono ?_
  rintro e1 w1 ⟨rfl,E1⟩
  have B:=B.trans (E1.mono B.size)
  go_wp2_with fail
  go_ret2
  exact RetThE.none hT.out rfl B
theorem bytesLess_ltX : ∀ a b:Tx,Op.bytesLess a b=ltX a b
 | [],[]=>rfl
 | [],_::_=>rfl
 | _::_,[]=>rfl
 | a::x,b::y=>by
  unfold Op.bytesLess ltX
  by_cases h:a<b
  ·rw [if_pos h,decide_eq_true h];rfl
  ·rw [if_neg h,decide_eq_false h,Bool.false_or]
   by_cases h2:b<a
   ·rw [if_pos h2]
    have:(a==b)=false:=by
     rw [beq_eq_false_iff_ne];intro e;subst e;exact h h2
    rw [this];rfl
   ·rw [if_neg h2,u8_lt_tri h h2,beq_self_eq_true,Bool.true_and];exact bytesLess_ltX x y
theorem run_ltX (a b:Tx) : ∀ w,(Op.stringOp .lss (tx a) (tx b)).run Tryz.prog w = .ok (.bool (ltX a b)) w:=fun w=>by
 simp [Op.stringOp,tx_toList,bytesLess_ltX]
theorem r08Before (x y:VTh) (w:World):Calls Tryz.prog 157 #[vTh x.1,vTh y.1] w (Ret w (.bool (befT x.1 y.1))):=by
 have hx:=vth_cases x;have hy:=vth_cases y
 obtain ⟨⟨t1,r1,l1⟩,p1⟩:=x
 obtain ⟨⟨t2,r2,l2⟩,p2⟩:=y
 simp only at hx hy ⊢
 clear p1 p2
 have B:=bel_alloc (al w (mkTh ⟨t1,r1,l1⟩)) (mkTh ⟨t2,r2,l2⟩)
 have hlx:=run_ltX l1 l2
 have hc:(t1 = -1∧t2 = -1∧r1=r2∧befT ⟨t1,r1,l1⟩ ⟨t2,r2,l2⟩=ltX l1 l2)∨(t1 = -1∧0≤t2∧befT ⟨t1,r1,l1⟩ ⟨t2,r2,l2⟩=false)∨(0≤t1∧t2 = -1∧befT ⟨t1,r1,l1⟩ ⟨t2,r2,l2⟩=true)∨(0≤t1∧0≤t2∧t1≠t2∧befT ⟨t1,r1,l1⟩ ⟨t2,r2,l2⟩=decide (t1<t2))∨(0≤t1∧0≤t2∧t1=t2∧r1≠r2∧befT ⟨t1,r1,l1⟩ ⟨t2,r2,l2⟩=decide (r1<r2))∨(0≤t1∧0≤t2∧t1=t2∧r1=r2∧befT ⟨t1,r1,l1⟩ ⟨t2,r2,l2⟩=ltX l1 l2):=by
  unfold befT
  simp only
  by_cases a1:t1 = -1
  ·by_cases b1:t2 = -1
   ·left;refine ⟨a1,b1,by omega,?_⟩
    rw [if_neg (by simp [a1,b1]),if_neg (by simp [a1,b1]),if_neg (by omega)]
   ·right;left;refine ⟨a1,by omega,?_⟩
    rw [if_pos (by simp [a1,b1])];simpa using b1
  ·by_cases b1:t2 = -1
   ·right;right;left;refine ⟨by omega,b1,?_⟩
    rw [if_pos (by simp [a1,b1])];simpa using b1
   ·right;right;right
    have n1 : ¬ ((t1 = -1)≠(t2 = -1)):=by simp [a1,b1]
    rw [if_neg (c:=(t1 = -1)≠(t2 = -1)) n1]
    by_cases h:t1=t2
    ·by_cases h2:r1=r2
     ·right;right;refine ⟨by omega,by omega,h,h2,?_⟩;rw [if_neg (by omega),if_neg (by omega)]
     ·right;left;refine ⟨by omega,by omega,h,h2,?_⟩;rw [if_neg (by omega),if_pos h2]
    ·left;refine ⟨by omega,by omega,h,?_⟩;rw [if_pos h]
 clear hx hy
 rcases hc with ⟨a1,b1,h,e⟩|⟨a1,b1,e⟩|⟨a1,b1,e⟩|⟨a1,b1,h,e⟩|⟨a1,b1,h,h2,e⟩|⟨a1,b1,h,h2,e⟩
 ·rw [e];clear e
  subst a1 b1 h
  go_enter Tryz.func157,Tryz.ntmps157
  go_wp2_with fail
  go_ret
  exact ⟨ret_bool (by rw [tx_toList,tx_toList,bytesLess_ltX]),blN⟩
 ·rw [e];clear e
  subst a1
  have z2:(t2==-1)=false:=by simp;omega
  go_enter Tryz.func157,Tryz.ntmps157
  go_wp2_with fail
  go_ret
  exact ⟨rfl,blN⟩
 ·rw [e];clear e
  subst b1
  have z2:(t1==-1)=false:=by simp;omega
  go_enter Tryz.func157,Tryz.ntmps157
  go_wp2_with fail
  go_ret
  exact ⟨rfl,blN⟩
 ·rw [e];clear e
  have z1:(t1==-1)=false:=by simp;omega
  have z2:(t2==-1)=false:=by simp;omega
  have z3:(t1 != t2)=true:=by simpa using h
  clear h
  go_enter Tryz.func157,Tryz.ntmps157
  go_wp2_with fail
  go_ret
  exact ⟨rfl,blN⟩
 ·rw [e];clear e
  subst h
  have z1:(t1==-1)=false:=by simp;omega
  have z3:(t1 != t1)=false:=by simp
  have z4:(r1 != r2)=true:=by simpa using h2
  clear h2
  go_enter Tryz.func157,Tryz.ntmps157
  go_wp2_with fail
  go_ret
  exact ⟨rfl,blN⟩
 ·rw [e];clear e
  subst h h2
  have z1:(t1==-1)=false:=by simp;omega
  have z3:(t1 != t1)=false:=by simp
  have z4:(r1 != r1)=false:=by simp
  go_enter Tryz.func157,Tryz.ntmps157
  go_wp2_with fail
  go_ret
  exact ⟨ret_bool (by rw [tx_toList,tx_toList,bytesLess_ltX]),blN⟩
end Go.Proofs.YthaibjefnclkjaaGreatDoor

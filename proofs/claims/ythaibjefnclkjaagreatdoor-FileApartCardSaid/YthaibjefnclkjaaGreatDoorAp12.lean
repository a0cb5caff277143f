/- The walks of Reg and Print of x86 instructions (the program's). Conditions: the library's variables and the registers' names as the program's text lays them. The walks of (*walker).node and Check of a condition (the program's). Conditions: the nodes lie in memory as read. The walk of Check of a condition (the program's). Condition: the nodes lie in memory as read. -/
import Derived.Test.YthaibjefnclkjaaGreatDoorAp10
import Derived.Test.YthaibjefnclkjaaGreatDoorAp11
import Derived.Lib.QuietBelow
import Derived.Test.YthaibjefnclkjaaGreatDoorAp9
set_option linter.unusedVariables false
set_option maxRecDepth 100000
set_option maxHeartbeats 6400000
namespace Go.Proofs.YthaibjefnclkjaaGreatDoor
open Go.RowKit Go.Sort
theorem retc' {P:Program} {f:FuncId} {args:Array Value} {w:World} {v:Value} (h:Calls P f args w (Ret w v)):Calls P f args w fun e w'=>e = .returned v∧Below w.heap.size w w':=h
theorem rX_nat (k:Nat):rX (k:Int)=regX k:=by unfold rX;rw [Int.toNat_natCast]
theorem checkX_spec {i:Ins} (h:checkX i=true):okX i=true∧i=wantX i:=by
 unfold checkX at h
 simpa only [Bool.and_eq_true,decide_eq_true_eq] using h
theorem n32B_spec {n:Int} (h:n32B n=true) : -2147483648≤n∧n≤2147483647:=by
 unfold n32B at h;simpa only [Bool.and_eq_true,decide_eq_true_eq] using h
theorem itoa_len {n:Int} (h:n32B n=true):(Lib.itoa n).length≤21:=Lib.itoa_length_le n (by have:=n32B_spec h;omega) (by have:=n32B_spec h;omega)
theorem xReg (k:Nat) (h:k<15) (w:World) (g:Gl w):Calls Tryz.prog 68 #[.int .i64 k] w (RetQ w (.tuple #[.string (tx (regX k)),.int .i64 0])):=by
 have c0:=g.regs k h
 have h0:(0:Int)≤(k:Int):=by omega
 have h1:(k:Int)<15:=by omega
 go_enter Tryz.func68,Tryz.ntmps68
 go_wp2_with fail
 go_ret2
 exact ⟨rfl,(by repeat (first|exact QW.refl _|refine QW.d ?_ _))⟩
theorem xPrint_1 (loc:Tx) (hn:nameB loc=true) (imm:Int) (hb:n32B imm=true) (hc:checkX ⟨1,0,0,0,imm,loc,[],0⟩=true) (w:World) (g:Gl w) :
  Calls Tryz.prog 23 #[vI ⟨1,0,0,0,imm,loc,[],0⟩] w (Ret w (.tuple #[.string (tx (printX ⟨1,0,0,0,imm,loc,[],0⟩)),.int .i64 0])):=by
 have E1:=al w (mkI ⟨1,0,0,0,imm,loc,[],0⟩)
 have b0:=BxI.new w ⟨1,0,0,0,imm,loc,[],0⟩
 have g:=g.below E1
 have HE:=hid (errX_yes hc)
 have ll:=(nameB_cl hn).2
 have li:=itoa_len hb;have hbs:=n32B_spec hb
 have HLL:(⟨1,0,0,0,imm,loc,[],0⟩:Ins).loc.length≤9223372036854775807:=by simp <;> omega
 obtain ⟨t1,ht1⟩ : ∃ t:Tx,[77,79,86,32,91]++(loc)=t:=⟨_,rfl⟩
 have n1:t1.length=_:=(congrArg List.length ht1).symm.trans List.length_append
 have m1:t1.length≤100:=by rw [n1];(try simp only [List.length_cons,List.length_nil]);omega
 have c1 : ∀ w,(Op.stringOp .add ⟨#[77,79,86,32,91]⟩ (tx (loc))).run Tryz.prog w = .ok (.string (tx t1)) w:=run_catT [77,79,86,32,91] (loc) t1 ht1 (by omega)
 clear n1
 obtain ⟨t2,ht2⟩ : ∃ t:Tx,t1++[93,44,36]=t:=⟨_,rfl⟩
 have n2:t2.length=_:=(congrArg List.length ht2).symm.trans List.length_append
 have m2:t2.length≤150:=by rw [n2];(try simp only [List.length_cons,List.length_nil]);omega
 have c2 : ∀ w,(Op.stringOp .add (tx t1) ⟨#[93,44,36]⟩).run Tryz.prog w = .ok (.string (tx t2)) w:=run_catT t1 [93,44,36] t2 ht2 (by omega)
 clear n2
 obtain ⟨t3,ht3⟩ : ∃ t:Tx,t2++(Lib.itoa imm)=t:=⟨_,rfl⟩
 have n3:t3.length=_:=(congrArg List.length ht3).symm.trans List.length_append
 have m3:t3.length≤200:=by rw [n3];(try simp only [List.length_cons,List.length_nil]);omega
 have c3 : ∀ w,(Op.stringOp .add (tx t2) (tx (Lib.itoa imm))).run Tryz.prog w = .ok (.string (tx t3)) w:=run_catT t2 (Lib.itoa imm) t3 ht3 (by omega)
 clear n3
 have HP:=hid (show printX ⟨1,0,0,0,imm,loc,[],0⟩=t3 by rw [← ht3,← ht2,← ht1];rfl)
 clear ht1 ht2 ht3 hc hn hb
 go_enter Tryz.func23,Tryz.ntmps23
 go_wp2_with fail
 refine (xCheck ⟨1,0,0,0,imm,loc,[],0⟩ HLL _).mono ?_
 rintro x w1 ⟨rfl,E⟩
 rw [HE.out]
 have bb:=b0.below E;have g:=g.below E
 have B:=E1.trans (E.mono E1.size)
 obtain ⟨q0,q1,q2,q3,q4,q5,q6,q7⟩:=bb.cells
 clear b0 bb E1 E
 go_wp2_with fail
 have cA:=fun (d:Nat) (os:Array Obj)=>Calls.regrown_of (retc' (itoa_any imm (by omega) (by omega) (grow (redrawn w1 d) os) (g.below (below_regrown w1 d os))))
 have q1:=cell_regrown q1;have q2:=cell_regrown q2;have q4:=cell_regrown q4;have q5:=cell_regrown q5
 refine wp_region_quiet_below (by kernel_rfl) (by kernel_rfl) ?_
 repeat (go_big_quiet_step (exact cA _ _))
 refine wpQuiet_nil ?_
 intro _ hw'
 obtain ⟨⟨dq,osq⟩,hw''⟩:=hw'
 subst hw''
 have EQ':=below_regrown w1 dq osq
 have EZ:=B.trans (EQ'.mono B.size)
 generalize grow (redrawn w1 dq) osq=wq at *
 go_wp2_with fail
 go_ret2
 exact ⟨ret_spair (by rw [HP.out]) rfl,EZ⟩
theorem xPrint_2 (loc:Tx) (hn:nameB loc=true) (a:Nat) (ha:a<15) (hc:checkX ⟨2,0,(a:Int),0,0,loc,[],0⟩=true) (w:World) (g:Gl w) :
  Calls Tryz.prog 23 #[vI ⟨2,0,(a:Int),0,0,loc,[],0⟩] w (Ret w (.tuple #[.string (tx (printX ⟨2,0,(a:Int),0,0,loc,[],0⟩)),.int .i64 0])):=by
 have E1:=al w (mkI ⟨2,0,(a:Int),0,0,loc,[],0⟩)
 have b0:=BxI.new w ⟨2,0,(a:Int),0,0,loc,[],0⟩
 have g:=g.below E1
 have HE:=hid (errX_yes hc)
 have ll:=(nameB_cl hn).2
 have la:=regX_len ha;have h0:(0:Int)≤(a:Int):=by omega
 have h1:(a:Int)<15:=by omega
 have HLL:(⟨2,0,(a:Int),0,0,loc,[],0⟩:Ins).loc.length≤9223372036854775807:=by simp <;> omega
 obtain ⟨t1,ht1⟩ : ∃ t:Tx,[77,79,86,32,91]++(loc)=t:=⟨_,rfl⟩
 have n1:t1.length=_:=(congrArg List.length ht1).symm.trans List.length_append
 have m1:t1.length≤100:=by rw [n1];(try simp only [List.length_cons,List.length_nil]);omega
 have c1 : ∀ w,(Op.stringOp .add ⟨#[77,79,86,32,91]⟩ (tx (loc))).run Tryz.prog w = .ok (.string (tx t1)) w:=run_catT [77,79,86,32,91] (loc) t1 ht1 (by omega)
 clear n1
 obtain ⟨t2,ht2⟩ : ∃ t:Tx,t1++[93,44]=t:=⟨_,rfl⟩
 have n2:t2.length=_:=(congrArg List.length ht2).symm.trans List.length_append
 have m2:t2.length≤150:=by rw [n2];(try simp only [List.length_cons,List.length_nil]);omega
 have c2 : ∀ w,(Op.stringOp .add (tx t1) ⟨#[93,44]⟩).run Tryz.prog w = .ok (.string (tx t2)) w:=run_catT t1 [93,44] t2 ht2 (by omega)
 clear n2
 obtain ⟨t3,ht3⟩ : ∃ t:Tx,t2++(regX a)=t:=⟨_,rfl⟩
 have n3:t3.length=_:=(congrArg List.length ht3).symm.trans List.length_append
 have m3:t3.length≤200:=by rw [n3];(try simp only [List.length_cons,List.length_nil]);omega
 have c3 : ∀ w,(Op.stringOp .add (tx t2) (tx (regX a))).run Tryz.prog w = .ok (.string (tx t3)) w:=run_catT t2 (regX a) t3 ht3 (by omega)
 clear n3
 have HP:=hid (show printX ⟨2,0,(a:Int),0,0,loc,[],0⟩=t3 by rw [← ht3,← ht2,← ht1];simp [printX,rX_nat])
 clear ht1 ht2 ht3 hc hn
 go_enter Tryz.func23,Tryz.ntmps23
 go_wp2_with fail
 refine (xCheck ⟨2,0,(a:Int),0,0,loc,[],0⟩ HLL _).mono ?_
 rintro x w1 ⟨rfl,E⟩
 rw [HE.out]
 have bb:=b0.below E;have g:=g.below E
 have B:=E1.trans (E.mono E1.size)
 obtain ⟨q0,q1,q2,q3,q4,q5,q6,q7⟩:=bb.cells
 clear b0 bb E1 E
 go_wp2_with fail
 have q9:=g.regs a ha
 have q1:=cell_regrown q1;have q2:=cell_regrown q2;have q4:=cell_regrown q4;have q5:=cell_regrown q5;have q9:=cell_regrown q9
 refine wp_region_quiet_below (by kernel_rfl) (by kernel_rfl) ?_
 repeat (go_big_quiet_step (fail))
 refine wpQuiet_nil ?_
 intro _ hw'
 obtain ⟨⟨dq,osq⟩,hw''⟩:=hw'
 subst hw''
 have EQ':=below_regrown w1 dq osq
 have EZ:=B.trans (EQ'.mono B.size)
 generalize grow (redrawn w1 dq) osq=wq at *
 go_wp2_with fail
 go_ret2
 exact ⟨ret_spair (by rw [HP.out]) rfl,EZ⟩
theorem xPrint_3 (loc:Tx) (hn:nameB loc=true) (a:Nat) (ha:a<15) (hc:checkX ⟨3,(a:Int),0,0,0,loc,[],0⟩=true) (w:World) (g:Gl w) :
  Calls Tryz.prog 23 #[vI ⟨3,(a:Int),0,0,0,loc,[],0⟩] w (Ret w (.tuple #[.string (tx (printX ⟨3,(a:Int),0,0,0,loc,[],0⟩)),.int .i64 0])):=by
 have E1:=al w (mkI ⟨3,(a:Int),0,0,0,loc,[],0⟩)
 have b0:=BxI.new w ⟨3,(a:Int),0,0,0,loc,[],0⟩
 have g:=g.below E1
 have HE:=hid (errX_yes hc)
 have ll:=(nameB_cl hn).2
 have la:=regX_len ha;have h0:(0:Int)≤(a:Int):=by omega
 have h1:(a:Int)<15:=by omega
 have HLL:(⟨3,(a:Int),0,0,0,loc,[],0⟩:Ins).loc.length≤9223372036854775807:=by simp <;> omega
 obtain ⟨t1,ht1⟩ : ∃ t:Tx,[77,79,86,32]++(regX a)=t:=⟨_,rfl⟩
 have n1:t1.length=_:=(congrArg List.length ht1).symm.trans List.length_append
 have m1:t1.length≤100:=by rw [n1];(try simp only [List.length_cons,List.length_nil]);omega
 have c1 : ∀ w,(Op.stringOp .add ⟨#[77,79,86,32]⟩ (tx (regX a))).run Tryz.prog w = .ok (.string (tx t1)) w:=run_catT [77,79,86,32] (regX a) t1 ht1 (by omega)
 clear n1
 obtain ⟨t2,ht2⟩ : ∃ t:Tx,t1++[44,91]=t:=⟨_,rfl⟩
 have n2:t2.length=_:=(congrArg List.length ht2).symm.trans List.length_append
 have m2:t2.length≤150:=by rw [n2];(try simp only [List.length_cons,List.length_nil]);omega
 have c2 : ∀ w,(Op.stringOp .add (tx t1) ⟨#[44,91]⟩).run Tryz.prog w = .ok (.string (tx t2)) w:=run_catT t1 [44,91] t2 ht2 (by omega)
 clear n2
 obtain ⟨t3,ht3⟩ : ∃ t:Tx,t2++(loc)=t:=⟨_,rfl⟩
 have n3:t3.length=_:=(congrArg List.length ht3).symm.trans List.length_append
 have m3:t3.length≤200:=by rw [n3];(try simp only [List.length_cons,List.length_nil]);omega
 have c3 : ∀ w,(Op.stringOp .add (tx t2) (tx (loc))).run Tryz.prog w = .ok (.string (tx t3)) w:=run_catT t2 (loc) t3 ht3 (by omega)
 clear n3
 obtain ⟨t4,ht4⟩ : ∃ t:Tx,t3++[93]=t:=⟨_,rfl⟩
 have n4:t4.length=_:=(congrArg List.length ht4).symm.trans List.length_append
 have m4:t4.length≤250:=by rw [n4];(try simp only [List.length_cons,List.length_nil]);omega
 have c4 : ∀ w,(Op.stringOp .add (tx t3) ⟨#[93]⟩).run Tryz.prog w = .ok (.string (tx t4)) w:=run_catT t3 [93] t4 ht4 (by omega)
 clear n4
 have HP:=hid (show printX ⟨3,(a:Int),0,0,0,loc,[],0⟩=t4 by rw [← ht4,← ht3,← ht2,← ht1];simp [printX,rX_nat])
 clear ht1 ht2 ht3 ht4 hc hn
 go_enter Tryz.func23,Tryz.ntmps23
 go_wp2_with fail
 refine (xCheck ⟨3,(a:Int),0,0,0,loc,[],0⟩ HLL _).mono ?_
 rintro x w1 ⟨rfl,E⟩
 rw [HE.out]
 have bb:=b0.below E;have g:=g.below E
 have B:=E1.trans (E.mono E1.size)
 obtain ⟨q0,q1,q2,q3,q4,q5,q6,q7⟩:=bb.cells
 clear b0 bb E1 E
 go_wp2_with fail
 have q9:=g.regs a ha
 have q1:=cell_regrown q1;have q2:=cell_regrown q2;have q4:=cell_regrown q4;have q5:=cell_regrown q5;have q9:=cell_regrown q9
 refine wp_region_quiet_below (by kernel_rfl) (by kernel_rfl) ?_
 repeat (go_big_quiet_step (fail))
 refine wpQuiet_nil ?_
 intro _ hw'
 obtain ⟨⟨dq,osq⟩,hw''⟩:=hw'
 subst hw''
 have EQ':=below_regrown w1 dq osq
 have EZ:=B.trans (EQ'.mono B.size)
 generalize grow (redrawn w1 dq) osq=wq at *
 go_wp2_with fail
 go_ret2
 exact ⟨ret_spair (by rw [HP.out]) rfl,EZ⟩
theorem xPrint_4 (imm:Int) (hb:n32B imm=true) (a:Nat) (ha:a<15) (hc:checkX ⟨4,(a:Int),0,0,imm,[],[],0⟩=true) (w:World) (g:Gl w) :
  Calls Tryz.prog 23 #[vI ⟨4,(a:Int),0,0,imm,[],[],0⟩] w (Ret w (.tuple #[.string (tx (printX ⟨4,(a:Int),0,0,imm,[],[],0⟩)),.int .i64 0])):=by
 have E1:=al w (mkI ⟨4,(a:Int),0,0,imm,[],[],0⟩)
 have b0:=BxI.new w ⟨4,(a:Int),0,0,imm,[],[],0⟩
 have g:=g.below E1
 have HE:=hid (errX_yes hc)
 have li:=itoa_len hb;have hbs:=n32B_spec hb
 have la:=regX_len ha;have h0:(0:Int)≤(a:Int):=by omega
 have h1:(a:Int)<15:=by omega
 have HLL:(⟨4,(a:Int),0,0,imm,[],[],0⟩:Ins).loc.length≤9223372036854775807:=by simp
 obtain ⟨t1,ht1⟩ : ∃ t:Tx,[77,79,86,32]++(regX a)=t:=⟨_,rfl⟩
 have n1:t1.length=_:=(congrArg List.length ht1).symm.trans List.length_append
 have m1:t1.length≤100:=by rw [n1];(try simp only [List.length_cons,List.length_nil]);omega
 have c1 : ∀ w,(Op.stringOp .add ⟨#[77,79,86,32]⟩ (tx (regX a))).run Tryz.prog w = .ok (.string (tx t1)) w:=run_catT [77,79,86,32] (regX a) t1 ht1 (by omega)
 clear n1
 obtain ⟨t2,ht2⟩ : ∃ t:Tx,t1++[44,36]=t:=⟨_,rfl⟩
 have n2:t2.length=_:=(congrArg List.length ht2).symm.trans List.length_append
 have m2:t2.length≤150:=by rw [n2];(try simp only [List.length_cons,List.length_nil]);omega
 have c2 : ∀ w,(Op.stringOp .add (tx t1) ⟨#[44,36]⟩).run Tryz.prog w = .ok (.string (tx t2)) w:=run_catT t1 [44,36] t2 ht2 (by omega)
 clear n2
 obtain ⟨t3,ht3⟩ : ∃ t:Tx,t2++(Lib.itoa imm)=t:=⟨_,rfl⟩
 have n3:t3.length=_:=(congrArg List.length ht3).symm.trans List.length_append
 have m3:t3.length≤200:=by rw [n3];(try simp only [List.length_cons,List.length_nil]);omega
 have c3 : ∀ w,(Op.stringOp .add (tx t2) (tx (Lib.itoa imm))).run Tryz.prog w = .ok (.string (tx t3)) w:=run_catT t2 (Lib.itoa imm) t3 ht3 (by omega)
 clear n3
 have HP:=hid (show printX ⟨4,(a:Int),0,0,imm,[],[],0⟩=t3 by rw [← ht3,← ht2,← ht1];simp [printX,rX_nat])
 clear ht1 ht2 ht3 hc hb
 go_enter Tryz.func23,Tryz.ntmps23
 go_wp2_with fail
 refine (xCheck ⟨4,(a:Int),0,0,imm,[],[],0⟩ HLL _).mono ?_
 rintro x w1 ⟨rfl,E⟩
 rw [HE.out]
 have bb:=b0.below E;have g:=g.below E
 have B:=E1.trans (E.mono E1.size)
 obtain ⟨q0,q1,q2,q3,q4,q5,q6,q7⟩:=bb.cells
 clear b0 bb E1 E
 go_wp2_with fail
 have cA:=fun (d:Nat) (os:Array Obj)=>Calls.regrown_of (retc' (itoa_any imm (by omega) (by omega) (grow (redrawn w1 d) os) (g.below (below_regrown w1 d os))))
 have q9:=g.regs a ha
 have q1:=cell_regrown q1;have q2:=cell_regrown q2;have q4:=cell_regrown q4;have q5:=cell_regrown q5;have q9:=cell_regrown q9
 refine wp_region_quiet_below (by kernel_rfl) (by kernel_rfl) ?_
 repeat (go_big_quiet_step (exact cA _ _))
 refine wpQuiet_nil ?_
 intro _ hw'
 obtain ⟨⟨dq,osq⟩,hw''⟩:=hw'
 subst hw''
 have EQ':=below_regrown w1 dq osq
 have EZ:=B.trans (EQ'.mono B.size)
 generalize grow (redrawn w1 dq) osq=wq at *
 go_wp2_with fail
 go_ret2
 exact ⟨ret_spair (by rw [HP.out]) rfl,EZ⟩
theorem xPrint_5 (w:World) :
  Calls Tryz.prog 23 #[vI ⟨5,0,0,0,0,[],[],0⟩] w (Ret w (.tuple #[.string (tx (printX ⟨5,0,0,0,0,[],[],0⟩)),.int .i64 0])):=by
 have E1:=al w (mkI ⟨5,0,0,0,0,[],[],0⟩)
 have b0:=BxI.new w ⟨5,0,0,0,0,[],[],0⟩
 have HE:=hid (errX_yes (show checkX ⟨5,0,0,0,0,[],[],0⟩=true from rfl))
 go_enter Tryz.func23,Tryz.ntmps23
 go_wp2_with fail
 refine (xCheck ⟨5,0,0,0,0,[],[],0⟩ (by simp) _).mono ?_
 rintro x w1 ⟨rfl,E⟩
 rw [HE.out]
 have bb:=b0.below E
 have B:=E1.trans (E.mono E1.size)
 obtain ⟨q0,q1,q2,q3,q4,q5,q6,q7⟩:=bb.cells
 clear b0 bb E1 E
 go_wp2_with fail
 go_ret2
 exact ⟨rfl,B⟩
theorem xPrint_no (i:Ins) (hl:i.loc.length≤9223372036854775807) (hc:checkX i=false) (w:World) :
  Calls Tryz.prog 23 #[vI i] w (Ret w (.tuple #[.string (tx []),.int .i64 91])):=by
 have E1:=al w (mkI i)
 have b0:=BxI.new w i
 have HE:=hid (errX_no hc)
 have XC:=hid (xCheck i hl)
 clear hc hl
 go_enter Tryz.func23,Tryz.ntmps23
 go_wp2_with fail
 refine (XC.out _).mono ?_
 rintro x w1 ⟨rfl,E⟩
 rw [HE.out]
 have B:=E1.trans (E.mono E1.size)
 go_wp2_with fail
 go_ret2
 exact ⟨rfl,B⟩
theorem okX_cases {i:Ins} (h:checkX i=true):(∃ imm loc,i=⟨1,0,0,0,imm,loc,[],0⟩∧nameB loc=true∧n32B imm=true)∨(∃ (a:Nat) (loc:Tx),i=⟨2,0,(a:Int),0,0,loc,[],0⟩∧nameB loc=true∧a<15)∨(∃ (a:Nat) (loc:Tx),i=⟨3,(a:Int),0,0,0,loc,[],0⟩∧nameB loc=true∧a<15)∨(∃ (a:Nat) (imm:Int),i=⟨4,(a:Int),0,0,imm,[],[],0⟩∧n32B imm=true∧a<15)∨i=⟨5,0,0,0,0,[],[],0⟩:=by
 obtain ⟨ho,hw⟩:=checkX_spec h
 unfold okX at ho
 unfold wantX at hw
 by_cases h1:i.op=1
 ·rw [if_pos h1] at ho hw
  simp only [Bool.and_eq_true] at ho
  exact .inl ⟨_,_,hw,ho.1,ho.2⟩
 rw [if_neg h1] at ho hw
 by_cases h2:i.op=2
 ·rw [if_pos h2] at ho hw
  simp only [Bool.and_eq_true] at ho
  obtain ⟨k,hk,e⟩:=regXB_nat ho.2
  rw [e] at hw
  exact .inr (.inl ⟨k,_,hw,ho.1,hk⟩)
 rw [if_neg h2] at ho hw
 by_cases h3:i.op=3
 ·rw [if_pos h3] at ho hw
  simp only [Bool.and_eq_true] at ho
  obtain ⟨k,hk,e⟩:=regXB_nat ho.2
  rw [e] at hw
  exact .inr (.inr (.inl ⟨k,_,hw,ho.1,hk⟩))
 rw [if_neg h3] at ho hw
 by_cases h4:i.op=4
 ·rw [if_pos h4] at ho hw
  simp only [Bool.and_eq_true] at ho
  obtain ⟨k,hk,e⟩:=regXB_nat ho.1
  rw [e] at hw
  exact .inr (.inr (.inr (.inl ⟨k,_,hw,ho.2,hk⟩)))
 rw [if_neg h4] at ho hw
 simp only [decide_eq_true_eq] at ho
 rw [ho] at hw
 exact .inr (.inr (.inr (.inr hw)))
theorem xPrint_yes (i:Ins) (hc:checkX i=true) (w:World) (g:Gl w) :
  Calls Tryz.prog 23 #[vI i] w (Ret w (.tuple #[.string (tx (printX i)),.int .i64 0])):=by
 rcases okX_cases hc with ⟨imm,loc,rfl,hn,hb⟩|⟨a,loc,rfl,hn,ha⟩|⟨a,loc,rfl,hn,ha⟩|⟨a,imm,rfl,hb,ha⟩|rfl
 ·exact xPrint_1 loc hn imm hb hc w g
 ·exact xPrint_2 loc hn a ha hc w g
 ·exact xPrint_3 loc hn a ha hc w g
 ·exact xPrint_4 imm hb a ha hc w g
 ·exact xPrint_5 w
abbrev wkC (arch:Int) (seen:Nat) (err:Int):List Value:=[.int .i64 arch,.int .i64 seen,.int .i64 err]
abbrev OwnW (w:World) (B bw:Nat) (arch:Int) (seen:Nat) (err:Int):Prop:=Own w B 112 3 (Option.some ⟨bw,0,none⟩) 1 1 (wkC arch seen err)
theorem OwnW.cells {w:World} {B bw:Nat} {arch err:Int} {seen:Nat} (h:OwnW w B bw arch seen err):w.cell? ⟨bw,0,none⟩=Option.some (.int .i64 arch)∧w.cell? ⟨bw,1,none⟩=Option.some (.int .i64 seen)∧w.cell? ⟨bw,2,none⟩=Option.some (.int .i64 err)∧w.frozen? ⟨bw,1,none⟩=false∧w.frozen? ⟨bw,2,none⟩=false:=by
 have f1:=Own.frozen h (by simp) 1;have f2:=Own.frozen h (by simp) 2
 have c0:=(Own.row h).cell 0 (by simp);have c1:=(Own.row h).cell 1 (by simp);have c2:=(Own.row h).cell 2 (by simp)
 simp only [bk_some,fo_some,Nat.zero_add] at f1 f2 c0 c1 c2
 exact ⟨c0,c1,c2,f1,f2⟩
theorem BxL.step {w w':World} {b bw:Nat} {l:List Value} (h:BxL w b l) (hs:Step w w' (Option.some ⟨bw,0,none⟩) (Option.some ⟨bw,0,none⟩)) (hne:b≠bw):BxL w' b l:=by
 refine ⟨Nat.lt_of_lt_of_le h.1 hs.grown.size,fun k hk=>?_⟩
 have h1:=h.2 k hk
 rw [List.getElem?_eq_getElem hk] at h1 ⊢
 exact hs.grown.cell h1 (by simpa using hne)
def RetNode (w0 w:World) (bw:Nat) (arch:Int) (p:Nat × Int) (e:Ending) (w':World):Prop :=
 e = .returned (.bool (p.2==0))∧Step w w' (some ⟨bw,0,none⟩) (some ⟨bw,0,none⟩)∧∃ s,OwnW w' w0.heap.size bw arch s p.2∧(p.2=0→s=p.1)
theorem step_below {w w':World} {bw:Nat} (h:Below w.heap.size w w'):Step w w' (some ⟨bw,0,none⟩) (some ⟨bw,0,none⟩) :=
 ⟨⟨h.os,h.tape,h.output,h.size,fun k hk _=>h.block k hk⟩,.inl rfl⟩
theorem condNode (arch:Int) : ∀ (x:Nd) (met deep bw:Nat) (w0 w:World),NdIn w0 x→Below w0.heap.size w0 w→OwnW w w0.heap.size bw arch met 0→met≤1024→deep≤64 →
  Calls Tryz.prog 88 #[.pointer (some ⟨bw,0,none⟩),vN x,.int .i64 deep] w (RetNode w0 w bw arch (walkN arch x met deep)):=by
 intro x
 induction x using Nd.ind with
 | h x ih =>
 intro met deep bw w0 w hI hB hO hm hd
 obtain ⟨p,hp⟩ : ∃ p,walkN arch x met deep=p:=⟨_,rfl⟩
 have hq:=hp
 rw [walkN_eq] at hq
 rw [hp]
 clear hp
 have hbw:w0.heap.size≤bw∧bw<w.heap.size:=by have:=Own.lt hO (by simp);simpa using this
 have B:=al w (mkN x)
 have b0:BxL (w.alloc (mkN x)) w.heap.size (cN x):=BxL.new w _ _
 have oB:=Own.below hO B
 have stB:Step w (w.alloc (mkN x)) (some ⟨bw,0,none⟩) (some ⟨bw,0,none⟩):=step_below B
 have hlt:w.heap.size<(w.alloc (mkN x)).heap.size:=by simp
 have HI:=hid hI
 have HIH:=hid ih
 have HB:=hid hB
 have HO:=hid hO
 have HQ0:=hid hq
 clear hI ih hB hO hq B
 go_enter Tryz.func88,Tryz.ntmps88
 go_upto_region 1 with (fail)
 generalize w.alloc (mkN x)=W0 at *
 obtain ⟨c0,c1,c2,f1,f2⟩:=OwnW.cells oB
 obtain ⟨o1,st1⟩:=Own.set oB (by simp) 1 (.int .i64 ((met:Int)+1))
 simp only [bk_some,fo_some,Nat.zero_add] at o1 st1
 have b1:=b0.step st1 (by omega)
 have st1:=stB.trans st1
 have o1:OwnW (W0.setCell ⟨bw,1,none⟩ (.int .i64 ((met:Int)+1))) w0.heap.size bw arch (met+1) 0:=o1
 clear b0 oB stB
 have QQ:=hid (And.intro b1 (And.intro st1 o1))
 clear b1 st1 o1
 have hm9:(met:Int)≤1024:=by omega
 go_upto_region 2 with (fail)
 generalize hW1:W0.setCell ⟨bw,1,none⟩ (.int .i64 ((met:Int)+1))=W1 at *
 clear hW1
 obtain ⟨b1,st1,o1⟩:=QQ.out
 clear QQ c0 c1 c2 f1 f2
 obtain ⟨k0,k1,k2,j1,j2⟩:=OwnW.cells o1
 have hq:=HQ0.out
 clear HQ0
 by_cases h1:1024≤met∨64≤deep
 ·rw [if_pos h1] at hq
  have HQ:=hid hq.symm
  clear hq
  obtain ⟨o2,st2⟩:=Own.set o1 (by simp) 2 (.int .i64 2)
  simp only [bk_some,fo_some,Nat.zero_add] at o2 st2
  have o2:OwnW (W1.setCell ⟨bw,2,none⟩ (.int .i64 2)) w0.heap.size bw arch (met+1) 2:=o2
  have st2:=st1.trans st2
  clear b1 st1 o1
  by_cases h2:1024≤met
  ·have z2:(1024:Int)≤met:=by omega
   clear h1
   go_wp2_with fail
   go_ret
   exact ⟨ret_bool (by rw [HQ.out];rfl),st2,_,by rw [HQ.out];exact o2,fun h=>by rw [HQ.out] at h;cases h⟩
  ·have z2:(met:Int)<1024:=by omega
   have h3:64≤deep:=by omega
   clear h1
   go_wp2_with fail
   go_ret
   exact ⟨ret_bool (by rw [HQ.out];rfl),st2,_,by rw [HQ.out];exact o2,fun h=>by rw [HQ.out] at h;cases h⟩
 ·rw [if_neg h1] at hq
  have h2:met<1024:=by omega
  have h3:deep<64:=by omega
  clear h1
  obtain ⟨mb,hmb⟩ : ∃ mb,mayN arch x.kind x.th x.val x.kids.length=mb:=⟨_,rfl⟩
  rw [hmb] at hq
  have CM:=hid (show ∀ w,Calls Tryz.prog 127 #[.int .i64 arch,vN x] w (Ret w (.bool mb)) from fun w=>hmb▸condMay arch x HI.out.loc w)
  clear hmb
  have HQ:=hid hq
  clear hq
  have RR:=hid (And.intro b1 (And.intro st1 o1))
  have q0:=b1.get 0 _ rfl;have q1:=b1.get 1 _ rfl;have q2:=b1.get 2 _ rfl;have q3:=b1.get 3 _ rfl;have q4:=b1.get 4 _ rfl;have q5:=b1.get 5 _ rfl
  clear b1 st1 o1
  go_wp2_with fail
  have cA:=fun (d:Nat) (os:Array Obj)=>Calls.regrown_of (retc' (CM.out (grow (redrawn W1 d) os)))
  have q0:=cell_regrown q0;have q1:=cell_regrown q1;have q2:=cell_regrown q2;have q3:=cell_regrown q3;have q4:=cell_regrown q4;have q5:=cell_regrown q5;have k0:=cell_regrown k0
  refine wp_region_quiet_below (by kernel_rfl) (by kernel_rfl) ?_
  repeat (go_big_quiet_step (exact cA _ _))
  refine wpQuiet_nil ?_
  intro _ hw'
  obtain ⟨⟨dq,osq⟩,hw''⟩:=hw'
  subst hw''
  have EQ':=below_regrown W1 dq osq
  generalize grow (redrawn W1 dq) osq=wq at *
  obtain ⟨b1,st1,o1⟩:=RR.out
  have b1:=b1.below EQ'
  have o1:=Own.below o1 EQ'
  have st1:=st1.trans (step_below EQ')
  clear q0 q1 q2 q3 q4 q5 k0 k1 k2 j1 j2 cA RR EQ'
  have hqq:=HQ.out
  clear HQ
  cases mb
  ·have HQ:=hid (show p=(met,(80:Int)) by simpa using hqq.symm)
   clear hqq
   obtain ⟨k0,k1,k2,j1,j2⟩:=OwnW.cells o1
   obtain ⟨o2,st2⟩:=Own.set o1 (by simp) 2 (.int .i64 80)
   simp only [bk_some,fo_some,Nat.zero_add] at o2 st2
   have o2:OwnW (wq.setCell ⟨bw,2,none⟩ (.int .i64 80)) w0.heap.size bw arch (met+1) 80:=o2
   have st2:=st1.trans st2
   clear b1 st1 o1
   go_wp2_with fail
   go_ret
   exact ⟨ret_bool (by rw [HQ.out];rfl),st2,_,by rw [HQ.out];exact o2,fun h=>by rw [HQ.out] at h;cases h⟩
  ·have HQ:=hid (show walkL arch x.kids (met+1) (deep+1)=p by simpa using hqq)
   clear hqq
   simp only [Bool.not_true]
   obtain ⟨b,hb⟩ : ∃ b,w.heap.size=b:=⟨_,rfl⟩
   rw [hb] at b1 hlt ⊢
   have hbb:b≠bw:=by omega
   clear hb
   have q5:=b1.get 5 _ rfl
   go_wp2_with fail
   clear q5
   go_loopw [43] (fun i wr=>∃ k m:Nat,k≤x.kids.length∧i = .int .i64 k∧m≤1024∧Step w wr (some ⟨bw,0,none⟩) (some ⟨bw,0,none⟩)∧BxL wr b (cN x)∧OwnW wr w0.heap.size bw arch m 0∧Hid (RestN arch (x.kids.drop k) m (deep+1) p)) (fun i _=>x.kids.length-(intOf i).toNat)
   case atStart=>exact ⟨0,met+1,Nat.zero_le _,rfl,by omega,st1,b1,o1,HQ.out⟩
   case round =>
    obtain ⟨k,m,hk,rfl,hm1,st,br,oW,HR⟩:=hrel
    have q5:=br.get 5 _ rfl
    have hbr:=st.below HO.out HB.out HB.out.size
    have hIr:=HI.out.keep hbr
    by_cases hlk:k<x.kids.length
    ·obtain ⟨y,hy⟩ : ∃ y,x.kids[k]? = some y:=⟨_,List.getElem?_eq_getElem hlk⟩
     obtain ⟨p0,p1,p2,p3,p4,p5⟩:=hIr.els.nd hy
     have ix:=hIr.els.idx ndl cN_len k hlk x.c
     have hkl:=hIr.els.len
     have oA:=Own.below oW (al wr (mkN y))
     have bA:=br.below (al wr (mkN y))
     have sA:=st.trans (step_below (al wr (mkN y)))
     have CY:=HIH.out y (List.mem_of_getElem? hy) m (deep+1) bw w0 (wr.alloc (mkN y)) (HI.out.kid y (List.mem_of_getElem? hy)) (hbr.alloc hbr.size _) oA hm1 (by omega)
     have hle:=walk_le arch y m (deep+1) hm1
     have hst:=HR.out
     unfold RestN at hst
     rw [walkL_drop hy] at hst
     rw [show ((deep+1:Nat):Int)=(deep:Int)+1 by omega] at CY
     generalize walkN arch y m (deep+1)=r at *
     obtain ⟨m2,e2⟩:=r
     simp only at hst hle
     have CY:=hid CY
     clear hy hIr HR br oW oA st
     by_cases he:e2=0
     ·subst he
      rw [if_pos rfl] at hst
      have HST:=hid (show RestN arch (x.kids.drop (k+1)) m2 (deep+1) p from hst)
      clear hst
      go_wp2_with fail
      refine CY.out.mono ?_
      rintro e w2 ⟨rfl,s2,s,oS,hs⟩
      obtain rfl:=hs rfl
      have b2:=bA.step s2 hbb
      have st:=sA.trans s2
      clear q5 p0 p1 p2 p3 p4 p5 ix sA bA s2
      go_wp2_with fail
      go_roundw
      case rel=>exact ⟨k+1,s,by omega,by go_num,hle,st,b2,oS,HST⟩
      case measure=>simp [intOf];omega
     ·rw [if_neg he] at hst
      have ze:(e2==0)=false:=by simpa using he
      have HST:=hid hst.symm
      clear hst he
      go_wp2_with fail
      refine CY.out.mono ?_
      rintro e w2 ⟨rfl,s2,s,oS,-⟩
      have st:=sA.trans s2
      simp only [ze]
      clear q5 p0 p1 p2 p3 p4 p5 ix sA bA s2
      go_wp2_with fail
      go_ret
      exact ⟨ret_bool (by rw [HST.out];exact ze.symm),st,s,by rw [HST.out];exact oS,fun h=>by rw [HST.out] at h;rw [show e2=0 from h] at ze;cases ze⟩
    ·obtain rfl:k=x.kids.length:=by omega
     have hst:=HR.out
     unfold RestN at hst
     rw [List.drop_length,walkL_nil] at hst
     have HST:=hid hst.symm
     clear hst HR
     go_wp2_with fail
     go_ret
     exact ⟨ret_bool (by rw [HST.out];rfl),st,m,by rw [HST.out];exact oW,fun _=>by rw [HST.out]⟩
theorem condCheck (arch q:Int) (x:Nd) (w:World) (hI:NdIn w x) :
  Calls Tryz.prog 48 #[.int .i64 arch,vC q x] w (Ret w (.int .i64 (condE arch q x))):=by
 have B:=al w (mkC q x)
 obtain ⟨ab,hab⟩ : ∃ ab,archB arch=ab:=⟨_,rfl⟩
 have CA:=hid (show ∀ w,Calls Tryz.prog 87 #[.int .i64 arch] w fun e w'=>e = .returned (.bool ab)∧w=w' from fun w=>hab▸condKnown arch w)
 cases ab
 ·have HE:=hid (condE_arch (q:=q) (x:=x) hab)
  clear hab
  go_enter Tryz.func48,Tryz.ntmps48
  go_wp2_with (go_at_call 87;refine (CA.out _).mono ?_;rintro e w' ⟨rfl,rfl⟩)
  go_ret
  exact ⟨ret_int HE.out.symm,blN⟩
 ·by_cases h1:q<1
  ·have HE:=hid (condE_bad (x:=x) hab (.inl h1))
   clear hab
   go_enter Tryz.func48,Tryz.ntmps48
   go_wp2_with (go_at_call 87;refine (CA.out _).mono ?_;rintro e w' ⟨rfl,rfl⟩)
   go_ret
   exact ⟨ret_int HE.out.symm,blN⟩
  by_cases h2:q≤3
  ·have h1:1≤q:=by omega
   have B2:=al (w.alloc (mkC q x)) (.cells #[.int .i64 arch,.int .i64 0,.int .i64 0] 112)
   have oW:OwnW ((w.alloc (mkC q x)).alloc (.cells #[.int .i64 arch,.int .i64 0,.int .i64 0] 112)) (w.alloc (mkC q x)).heap.size (w.alloc (mkC q x)).heap.size arch 0 0 :=
    World.ownsRow_lit (w.alloc (mkC q x)) #[.int .i64 arch,.int .i64 0,.int .i64 0] 1 (Nat.le_refl _) (by unfold maxLen;omega) (by simp)
   have CW:=condNode arch x 0 0 (w.alloc (mkC q x)).heap.size (w.alloc (mkC q x)) _ (hI.keep B) B2 oW (by omega) (by omega)
   have HE:=hid (condE_q (x:=x) hab h1 h2)
   generalize walkN arch x 0 0=r at *
   obtain ⟨m2,e2⟩:=r
   have hsz:(w.alloc (mkC q x)).heap.size=w.heap.size+1:=by simp
   have CW:=hid CW
   have HO:=hid oW
   have HS:=hid hsz
   rw [hsz] at CW
   clear hab hI oW hsz
   go_enter Tryz.func48,Tryz.ntmps48
   go_wp2_with (go_at_call 87;refine (CA.out _).mono ?_;rintro e w' ⟨rfl,rfl⟩)
   refine CW.out.mono ?_
   rintro e w2 ⟨rfl,s2,s,oS,-⟩
   have hO:=HO.out
   rw [HS.out] at hO
   have B3:=s2.below hO (by rw [← HS.out];exact B2) (by simp)
   have B:=B.trans (B3.mono (by simp))
   obtain ⟨c0,c1,c2,f1,f2⟩:=OwnW.cells oS
   clear oS s2 B2 B3 hO
   go_wp2_with fail
   go_ret
   exact ⟨ret_int HE.out.symm,blN⟩
  ·have HE:=hid (condE_bad (q:=q) (x:=x) hab (.inr (by omega)))
   have h1:1≤q:=by omega
   clear hab
   go_enter Tryz.func48,Tryz.ntmps48
   go_wp2_with (go_at_call 87;refine (CA.out _).mono ?_;rintro e w' ⟨rfl,rfl⟩)
   go_ret
   exact ⟨ret_int HE.out.symm,blN⟩
end Go.Proofs.YthaibjefnclkjaaGreatDoor

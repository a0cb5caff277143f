/- The walk of Print (the program's). Condition: the library's table as the program's text lays it. -/
import Derived.Test.YthaibjefnclkjaaGreatDoorAp3
set_option linter.unusedVariables false
set_option maxRecDepth 100000
set_option maxHeartbeats 6400000
namespace Go.Proofs.YthaibjefnclkjaaGreatDoor
open Go.RowKit
attribute [local go_sem high] eqI neqI
theorem run_catT (a b t:Tx) (ht:a++b=t) (h:t.length≤1000) : ∀ w,(Op.stringOp .add (tx a) (tx b)).run Tryz.prog w = .ok (.string (tx t)) w:=by
 subst ht;exact run_cat a b (by simp at h;omega)
theorem progRegZ (z:Int) (h:regB z=true) (w:World):Calls Tryz.prog 59 #[.int .i64 z] w fun e w'=>e = .returned (.tuple #[.string (tx (rT z)),.int .i64 0])∧w=w':=by
 obtain ⟨n,hn,rfl⟩:=regB_nat h
 exact progReg n hn w
theorem refRegZ (z:Int) (h:regB z=true) (w:World):Calls Tryz.prog 64 #[.int .i64 z] w fun e w'=>e = .returned (.tuple #[.string (tx (rT z)),.int .i64 0])∧w=w':=by
 obtain ⟨n,hn,rfl⟩:=regB_nat h
 exact refReg n hn w
theorem rT_len {z:Int} (h:regB z=true):(rT z).length≤5:=by
 obtain ⟨n,hn,rfl⟩:=regB_nat h
 unfold rT;simpa using regT_len hn
theorem checkI_spec {i:Ins} (h:checkI i=true):okI i=true∧i=wantI i∧regB i.d=true∧regB i.a=true∧regB i.b=true:=by
 unfold checkI at h
 simp only [Bool.and_eq_true,decide_eq_true_eq] at h
 exact ⟨h.1.1.1.1,h.1.1.1.2,h.1.1.2,h.1.2,h.2⟩
theorem progPrint_lw (d:Int) (a:Int) (hd:regB d=true) (ha:regB a=true) (hc:checkI ⟨6,d,a,0,0,[],[],0⟩=true) (w:World) (g:Gl w) :
  Calls Tryz.prog 24 #[vI ⟨6,d,a,0,0,[],[],0⟩] w (Ret w (.tuple #[.string (tx (printI ⟨6,d,a,0,0,[],[],0⟩)),.int .i64 0])):=by
 have E1:=al w (mkI ⟨6,d,a,0,0,[],[],0⟩)
 have b0:=BxI.new w ⟨6,d,a,0,0,[],[],0⟩
 have g:=g.below E1
 have HE:=hid (errI_yes hc)
 have r0:regB 0=true:=by decide
 have ld:=rT_len hd;have Rd:=hid hd
 have la:=rT_len ha;have Ra:=hid ha
 obtain ⟨t1,ht1⟩ : ∃ t:Tx,[108,119,32]++(rT d)=t:=⟨_,rfl⟩
 have n1:t1.length=_:=(congrArg List.length ht1).symm.trans List.length_append
 have m1:t1.length≤100:=by rw [n1];(try simp only [List.length_cons,List.length_nil]);omega
 have c1 : ∀ w,(Op.stringOp .add ⟨#[108,119,32]⟩ (tx (rT d))).run Tryz.prog w = .ok (.string (tx t1)) w:=run_catT [108,119,32] (rT d) t1 ht1 (by omega)
 clear n1
 obtain ⟨t2,ht2⟩ : ∃ t:Tx,t1++[44,48,40]=t:=⟨_,rfl⟩
 have n2:t2.length=_:=(congrArg List.length ht2).symm.trans List.length_append
 have m2:t2.length≤150:=by rw [n2];(try simp only [List.length_cons,List.length_nil]);omega
 have c2 : ∀ w,(Op.stringOp .add (tx t1) ⟨#[44,48,40]⟩).run Tryz.prog w = .ok (.string (tx t2)) w:=run_catT t1 [44,48,40] t2 ht2 (by omega)
 clear n2
 obtain ⟨t3,ht3⟩ : ∃ t:Tx,t2++(rT a)=t:=⟨_,rfl⟩
 have n3:t3.length=_:=(congrArg List.length ht3).symm.trans List.length_append
 have m3:t3.length≤200:=by rw [n3];(try simp only [List.length_cons,List.length_nil]);omega
 have c3 : ∀ w,(Op.stringOp .add (tx t2) (tx (rT a))).run Tryz.prog w = .ok (.string (tx t3)) w:=run_catT t2 (rT a) t3 ht3 (by omega)
 clear n3
 obtain ⟨t4,ht4⟩ : ∃ t:Tx,t3++[41]=t:=⟨_,rfl⟩
 have n4:t4.length=_:=(congrArg List.length ht4).symm.trans List.length_append
 have m4:t4.length≤250:=by rw [n4];(try simp only [List.length_cons,List.length_nil]);omega
 have c4 : ∀ w,(Op.stringOp .add (tx t3) ⟨#[41]⟩).run Tryz.prog w = .ok (.string (tx t4)) w:=run_catT t3 [41] t4 ht4 (by omega)
 clear n4
 have HP:=hid (show printI ⟨6,d,a,0,0,[],[],0⟩=t4 by rw [← ht4,← ht3,← ht2,← ht1];rfl)
 clear ht1 ht2 ht3 ht4
 clear hc hd ha
 go_enter Tryz.func24,Tryz.ntmps24
 go_wp2_with fail
 refine (progCheck ⟨6,d,a,0,0,[],[],0⟩ (by simp) _).mono ?_
 rintro x w1 ⟨rfl,E⟩
 rw [HE.out]
 have bb:=b0.below E;have g:=g.below E
 have B:=E1.trans (E.mono E1.size)
 obtain ⟨q0,q1,q2,q3,q4,q5,q6,q7⟩:=bb.cells
 clear b0 bb E1 E
 go_wp2_with fail
 refine (progRegZ d Rd.out _).mono ?_
 rintro x w2 ⟨rfl,rfl⟩
 go_wp2_with fail
 refine (progRegZ a Ra.out _).mono ?_
 rintro x w2 ⟨rfl,rfl⟩
 go_wp2_with fail
 refine (progRegZ 0 r0 _).mono ?_
 rintro x w2 ⟨rfl,rfl⟩
 go_wp2_with fail
 go_ret2
 exact ⟨ret_spair (by rw [HP.out]) rfl,B⟩
theorem progPrint_sw (a:Int) (b:Int) (ha:regB a=true) (hb:regB b=true) (hc:checkI ⟨7,0,a,b,0,[],[],0⟩=true) (w:World) (g:Gl w) :
  Calls Tryz.prog 24 #[vI ⟨7,0,a,b,0,[],[],0⟩] w (Ret w (.tuple #[.string (tx (printI ⟨7,0,a,b,0,[],[],0⟩)),.int .i64 0])):=by
 have E1:=al w (mkI ⟨7,0,a,b,0,[],[],0⟩)
 have b0:=BxI.new w ⟨7,0,a,b,0,[],[],0⟩
 have g:=g.below E1
 have HE:=hid (errI_yes hc)
 have r0:regB 0=true:=by decide
 have la:=rT_len ha;have Ra:=hid ha
 have lb:=rT_len hb;have Rb:=hid hb
 obtain ⟨t1,ht1⟩ : ∃ t:Tx,[115,119,32]++(rT b)=t:=⟨_,rfl⟩
 have n1:t1.length=_:=(congrArg List.length ht1).symm.trans List.length_append
 have m1:t1.length≤100:=by rw [n1];(try simp only [List.length_cons,List.length_nil]);omega
 have c1 : ∀ w,(Op.stringOp .add ⟨#[115,119,32]⟩ (tx (rT b))).run Tryz.prog w = .ok (.string (tx t1)) w:=run_catT [115,119,32] (rT b) t1 ht1 (by omega)
 clear n1
 obtain ⟨t2,ht2⟩ : ∃ t:Tx,t1++[44,48,40]=t:=⟨_,rfl⟩
 have n2:t2.length=_:=(congrArg List.length ht2).symm.trans List.length_append
 have m2:t2.length≤150:=by rw [n2];(try simp only [List.length_cons,List.length_nil]);omega
 have c2 : ∀ w,(Op.stringOp .add (tx t1) ⟨#[44,48,40]⟩).run Tryz.prog w = .ok (.string (tx t2)) w:=run_catT t1 [44,48,40] t2 ht2 (by omega)
 clear n2
 obtain ⟨t3,ht3⟩ : ∃ t:Tx,t2++(rT a)=t:=⟨_,rfl⟩
 have n3:t3.length=_:=(congrArg List.length ht3).symm.trans List.length_append
 have m3:t3.length≤200:=by rw [n3];(try simp only [List.length_cons,List.length_nil]);omega
 have c3 : ∀ w,(Op.stringOp .add (tx t2) (tx (rT a))).run Tryz.prog w = .ok (.string (tx t3)) w:=run_catT t2 (rT a) t3 ht3 (by omega)
 clear n3
 obtain ⟨t4,ht4⟩ : ∃ t:Tx,t3++[41]=t:=⟨_,rfl⟩
 have n4:t4.length=_:=(congrArg List.length ht4).symm.trans List.length_append
 have m4:t4.length≤250:=by rw [n4];(try simp only [List.length_cons,List.length_nil]);omega
 have c4 : ∀ w,(Op.stringOp .add (tx t3) ⟨#[41]⟩).run Tryz.prog w = .ok (.string (tx t4)) w:=run_catT t3 [41] t4 ht4 (by omega)
 clear n4
 have HP:=hid (show printI ⟨7,0,a,b,0,[],[],0⟩=t4 by rw [← ht4,← ht3,← ht2,← ht1];rfl)
 clear ht1 ht2 ht3 ht4
 clear hc ha hb
 go_enter Tryz.func24,Tryz.ntmps24
 go_wp2_with fail
 refine (progCheck ⟨7,0,a,b,0,[],[],0⟩ (by simp) _).mono ?_
 rintro x w1 ⟨rfl,E⟩
 rw [HE.out]
 have bb:=b0.below E;have g:=g.below E
 have B:=E1.trans (E.mono E1.size)
 obtain ⟨q0,q1,q2,q3,q4,q5,q6,q7⟩:=bb.cells
 clear b0 bb E1 E
 go_wp2_with fail
 refine (progRegZ 0 r0 _).mono ?_
 rintro x w2 ⟨rfl,rfl⟩
 go_wp2_with fail
 refine (progRegZ a Ra.out _).mono ?_
 rintro x w2 ⟨rfl,rfl⟩
 go_wp2_with fail
 refine (progRegZ b Rb.out _).mono ?_
 rintro x w2 ⟨rfl,rfl⟩
 go_wp2_with fail
 go_ret2
 exact ⟨ret_spair (by rw [HP.out]) rfl,B⟩
theorem progPrint_ori (d:Int) (a:Int) (imm:Int) (hd:regB d=true) (ha:regB a=true) (h1 : -2048≤imm) (h2:imm≤2047) (hc:checkI ⟨8,d,a,0,imm,[],[],0⟩=true) (w:World) (g:Gl w) :
  Calls Tryz.prog 24 #[vI ⟨8,d,a,0,imm,[],[],0⟩] w (Ret w (.tuple #[.string (tx (printI ⟨8,d,a,0,imm,[],[],0⟩)),.int .i64 0])):=by
 have E1:=al w (mkI ⟨8,d,a,0,imm,[],[],0⟩)
 have b0:=BxI.new w ⟨8,d,a,0,imm,[],[],0⟩
 have g:=g.below E1
 have HE:=hid (errI_yes hc)
 have r0:regB 0=true:=by decide
 have ld:=rT_len hd;have Rd:=hid hd
 have la:=rT_len ha;have Ra:=hid ha
 have li:=decI_len imm
 have hi:=itoa_decI (n:=imm) (by omega) (by omega)
 have HI:=hid hi;clear hi
 obtain ⟨t1,ht1⟩ : ∃ t:Tx,[111,114,105,32]++(rT d)=t:=⟨_,rfl⟩
 have n1:t1.length=_:=(congrArg List.length ht1).symm.trans List.length_append
 have m1:t1.length≤100:=by rw [n1];(try simp only [List.length_cons,List.length_nil]);omega
 have c1 : ∀ w,(Op.stringOp .add ⟨#[111,114,105,32]⟩ (tx (rT d))).run Tryz.prog w = .ok (.string (tx t1)) w:=run_catT [111,114,105,32] (rT d) t1 ht1 (by omega)
 clear n1
 obtain ⟨t2,ht2⟩ : ∃ t:Tx,t1++[44]=t:=⟨_,rfl⟩
 have n2:t2.length=_:=(congrArg List.length ht2).symm.trans List.length_append
 have m2:t2.length≤150:=by rw [n2];(try simp only [List.length_cons,List.length_nil]);omega
 have c2 : ∀ w,(Op.stringOp .add (tx t1) ⟨#[44]⟩).run Tryz.prog w = .ok (.string (tx t2)) w:=run_catT t1 [44] t2 ht2 (by omega)
 clear n2
 obtain ⟨t3,ht3⟩ : ∃ t:Tx,t2++(rT a)=t:=⟨_,rfl⟩
 have n3:t3.length=_:=(congrArg List.length ht3).symm.trans List.length_append
 have m3:t3.length≤200:=by rw [n3];(try simp only [List.length_cons,List.length_nil]);omega
 have c3 : ∀ w,(Op.stringOp .add (tx t2) (tx (rT a))).run Tryz.prog w = .ok (.string (tx t3)) w:=run_catT t2 (rT a) t3 ht3 (by omega)
 clear n3
 obtain ⟨t4,ht4⟩ : ∃ t:Tx,t3++[44]=t:=⟨_,rfl⟩
 have n4:t4.length=_:=(congrArg List.length ht4).symm.trans List.length_append
 have m4:t4.length≤250:=by rw [n4];(try simp only [List.length_cons,List.length_nil]);omega
 have c4 : ∀ w,(Op.stringOp .add (tx t3) ⟨#[44]⟩).run Tryz.prog w = .ok (.string (tx t4)) w:=run_catT t3 [44] t4 ht4 (by omega)
 clear n4
 obtain ⟨t5,ht5⟩ : ∃ t:Tx,t4++(decI imm)=t:=⟨_,rfl⟩
 have n5:t5.length=_:=(congrArg List.length ht5).symm.trans List.length_append
 have m5:t5.length≤300:=by rw [n5];(try simp only [List.length_cons,List.length_nil]);omega
 have c5 : ∀ w,(Op.stringOp .add (tx t4) (tx (decI imm))).run Tryz.prog w = .ok (.string (tx t5)) w:=run_catT t4 (decI imm) t5 ht5 (by omega)
 clear n5
 have HP:=hid (show printI ⟨8,d,a,0,imm,[],[],0⟩=t5 by rw [← ht5,← ht4,← ht3,← ht2,← ht1];rfl)
 clear ht1 ht2 ht3 ht4 ht5
 clear hc hd ha
 go_enter Tryz.func24,Tryz.ntmps24
 go_wp2_with fail
 refine (progCheck ⟨8,d,a,0,imm,[],[],0⟩ (by simp) _).mono ?_
 rintro x w1 ⟨rfl,E⟩
 rw [HE.out]
 have bb:=b0.below E;have g:=g.below E
 have B:=E1.trans (E.mono E1.size)
 obtain ⟨q0,q1,q2,q3,q4,q5,q6,q7⟩:=bb.cells
 clear b0 bb E1 E
 go_wp2_with fail
 refine (progRegZ d Rd.out _).mono ?_
 rintro x w2 ⟨rfl,rfl⟩
 go_wp2_with fail
 refine (progRegZ a Ra.out _).mono ?_
 rintro x w2 ⟨rfl,rfl⟩
 go_wp2_with fail
 refine (progRegZ 0 r0 _).mono ?_
 rintro x w2 ⟨rfl,rfl⟩
 go_wp2_with fail
 refine (itoa_any imm (by omega) (by omega) _ g).mono ?_
 rintro x w3 ⟨rfl,E⟩
 rw [HI.out]
 have B:=B.trans (E.mono B.size)
 go_wp2_with fail
 go_ret2
 exact ⟨ret_spair (by rw [HP.out]) rfl,B⟩
theorem progPrint_xor (d:Int) (a:Int) (b:Int) (hd:regB d=true) (ha:regB a=true) (hb:regB b=true) (hc:checkI ⟨9,d,a,b,0,[],[],0⟩=true) (w:World) (g:Gl w) :
  Calls Tryz.prog 24 #[vI ⟨9,d,a,b,0,[],[],0⟩] w (Ret w (.tuple #[.string (tx (printI ⟨9,d,a,b,0,[],[],0⟩)),.int .i64 0])):=by
 have E1:=al w (mkI ⟨9,d,a,b,0,[],[],0⟩)
 have b0:=BxI.new w ⟨9,d,a,b,0,[],[],0⟩
 have g:=g.below E1
 have HE:=hid (errI_yes hc)
 have r0:regB 0=true:=by decide
 have ld:=rT_len hd;have Rd:=hid hd
 have la:=rT_len ha;have Ra:=hid ha
 have lb:=rT_len hb;have Rb:=hid hb
 obtain ⟨t1,ht1⟩ : ∃ t:Tx,[120,111,114,32]++(rT d)=t:=⟨_,rfl⟩
 have n1:t1.length=_:=(congrArg List.length ht1).symm.trans List.length_append
 have m1:t1.length≤100:=by rw [n1];(try simp only [List.length_cons,List.length_nil]);omega
 have c1 : ∀ w,(Op.stringOp .add ⟨#[120,111,114,32]⟩ (tx (rT d))).run Tryz.prog w = .ok (.string (tx t1)) w:=run_catT [120,111,114,32] (rT d) t1 ht1 (by omega)
 clear n1
 obtain ⟨t2,ht2⟩ : ∃ t:Tx,t1++[44]=t:=⟨_,rfl⟩
 have n2:t2.length=_:=(congrArg List.length ht2).symm.trans List.length_append
 have m2:t2.length≤150:=by rw [n2];(try simp only [List.length_cons,List.length_nil]);omega
 have c2 : ∀ w,(Op.stringOp .add (tx t1) ⟨#[44]⟩).run Tryz.prog w = .ok (.string (tx t2)) w:=run_catT t1 [44] t2 ht2 (by omega)
 clear n2
 obtain ⟨t3,ht3⟩ : ∃ t:Tx,t2++(rT a)=t:=⟨_,rfl⟩
 have n3:t3.length=_:=(congrArg List.length ht3).symm.trans List.length_append
 have m3:t3.length≤200:=by rw [n3];(try simp only [List.length_cons,List.length_nil]);omega
 have c3 : ∀ w,(Op.stringOp .add (tx t2) (tx (rT a))).run Tryz.prog w = .ok (.string (tx t3)) w:=run_catT t2 (rT a) t3 ht3 (by omega)
 clear n3
 obtain ⟨t4,ht4⟩ : ∃ t:Tx,t3++[44]=t:=⟨_,rfl⟩
 have n4:t4.length=_:=(congrArg List.length ht4).symm.trans List.length_append
 have m4:t4.length≤250:=by rw [n4];(try simp only [List.length_cons,List.length_nil]);omega
 have c4 : ∀ w,(Op.stringOp .add (tx t3) ⟨#[44]⟩).run Tryz.prog w = .ok (.string (tx t4)) w:=run_catT t3 [44] t4 ht4 (by omega)
 clear n4
 obtain ⟨t5,ht5⟩ : ∃ t:Tx,t4++(rT b)=t:=⟨_,rfl⟩
 have n5:t5.length=_:=(congrArg List.length ht5).symm.trans List.length_append
 have m5:t5.length≤300:=by rw [n5];(try simp only [List.length_cons,List.length_nil]);omega
 have c5 : ∀ w,(Op.stringOp .add (tx t4) (tx (rT b))).run Tryz.prog w = .ok (.string (tx t5)) w:=run_catT t4 (rT b) t5 ht5 (by omega)
 clear n5
 have HP:=hid (show printI ⟨9,d,a,b,0,[],[],0⟩=t5 by rw [← ht5,← ht4,← ht3,← ht2,← ht1];rfl)
 clear ht1 ht2 ht3 ht4 ht5
 clear hc hd ha hb
 go_enter Tryz.func24,Tryz.ntmps24
 go_wp2_with fail
 refine (progCheck ⟨9,d,a,b,0,[],[],0⟩ (by simp) _).mono ?_
 rintro x w1 ⟨rfl,E⟩
 rw [HE.out]
 have bb:=b0.below E;have g:=g.below E
 have B:=E1.trans (E.mono E1.size)
 obtain ⟨q0,q1,q2,q3,q4,q5,q6,q7⟩:=bb.cells
 clear b0 bb E1 E
 go_wp2_with fail
 refine (progRegZ d Rd.out _).mono ?_
 rintro x w2 ⟨rfl,rfl⟩
 go_wp2_with fail
 refine (progRegZ a Ra.out _).mono ?_
 rintro x w2 ⟨rfl,rfl⟩
 go_wp2_with fail
 refine (progRegZ b Rb.out _).mono ?_
 rintro x w2 ⟨rfl,rfl⟩
 go_wp2_with fail
 go_ret2
 exact ⟨ret_spair (by rw [HP.out]) rfl,B⟩
theorem progPrint_add (d:Int) (a:Int) (b:Int) (hd:regB d=true) (ha:regB a=true) (hb:regB b=true) (hc:checkI ⟨10,d,a,b,0,[],[],0⟩=true) (w:World) (g:Gl w) :
  Calls Tryz.prog 24 #[vI ⟨10,d,a,b,0,[],[],0⟩] w (Ret w (.tuple #[.string (tx (printI ⟨10,d,a,b,0,[],[],0⟩)),.int .i64 0])):=by
 have E1:=al w (mkI ⟨10,d,a,b,0,[],[],0⟩)
 have b0:=BxI.new w ⟨10,d,a,b,0,[],[],0⟩
 have g:=g.below E1
 have HE:=hid (errI_yes hc)
 have r0:regB 0=true:=by decide
 have ld:=rT_len hd;have Rd:=hid hd
 have la:=rT_len ha;have Ra:=hid ha
 have lb:=rT_len hb;have Rb:=hid hb
 obtain ⟨t1,ht1⟩ : ∃ t:Tx,[97,100,100,32]++(rT d)=t:=⟨_,rfl⟩
 have n1:t1.length=_:=(congrArg List.length ht1).symm.trans List.length_append
 have m1:t1.length≤100:=by rw [n1];(try simp only [List.length_cons,List.length_nil]);omega
 have c1 : ∀ w,(Op.stringOp .add ⟨#[97,100,100,32]⟩ (tx (rT d))).run Tryz.prog w = .ok (.string (tx t1)) w:=run_catT [97,100,100,32] (rT d) t1 ht1 (by omega)
 clear n1
 obtain ⟨t2,ht2⟩ : ∃ t:Tx,t1++[44]=t:=⟨_,rfl⟩
 have n2:t2.length=_:=(congrArg List.length ht2).symm.trans List.length_append
 have m2:t2.length≤150:=by rw [n2];(try simp only [List.length_cons,List.length_nil]);omega
 have c2 : ∀ w,(Op.stringOp .add (tx t1) ⟨#[44]⟩).run Tryz.prog w = .ok (.string (tx t2)) w:=run_catT t1 [44] t2 ht2 (by omega)
 clear n2
 obtain ⟨t3,ht3⟩ : ∃ t:Tx,t2++(rT a)=t:=⟨_,rfl⟩
 have n3:t3.length=_:=(congrArg List.length ht3).symm.trans List.length_append
 have m3:t3.length≤200:=by rw [n3];(try simp only [List.length_cons,List.length_nil]);omega
 have c3 : ∀ w,(Op.stringOp .add (tx t2) (tx (rT a))).run Tryz.prog w = .ok (.string (tx t3)) w:=run_catT t2 (rT a) t3 ht3 (by omega)
 clear n3
 obtain ⟨t4,ht4⟩ : ∃ t:Tx,t3++[44]=t:=⟨_,rfl⟩
 have n4:t4.length=_:=(congrArg List.length ht4).symm.trans List.length_append
 have m4:t4.length≤250:=by rw [n4];(try simp only [List.length_cons,List.length_nil]);omega
 have c4 : ∀ w,(Op.stringOp .add (tx t3) ⟨#[44]⟩).run Tryz.prog w = .ok (.string (tx t4)) w:=run_catT t3 [44] t4 ht4 (by omega)
 clear n4
 obtain ⟨t5,ht5⟩ : ∃ t:Tx,t4++(rT b)=t:=⟨_,rfl⟩
 have n5:t5.length=_:=(congrArg List.length ht5).symm.trans List.length_append
 have m5:t5.length≤300:=by rw [n5];(try simp only [List.length_cons,List.length_nil]);omega
 have c5 : ∀ w,(Op.stringOp .add (tx t4) (tx (rT b))).run Tryz.prog w = .ok (.string (tx t5)) w:=run_catT t4 (rT b) t5 ht5 (by omega)
 clear n5
 have HP:=hid (show printI ⟨10,d,a,b,0,[],[],0⟩=t5 by rw [← ht5,← ht4,← ht3,← ht2,← ht1];rfl)
 clear ht1 ht2 ht3 ht4 ht5
 clear hc hd ha hb
 go_enter Tryz.func24,Tryz.ntmps24
 go_wp2_with fail
 refine (progCheck ⟨10,d,a,b,0,[],[],0⟩ (by simp) _).mono ?_
 rintro x w1 ⟨rfl,E⟩
 rw [HE.out]
 have bb:=b0.below E;have g:=g.below E
 have B:=E1.trans (E.mono E1.size)
 obtain ⟨q0,q1,q2,q3,q4,q5,q6,q7⟩:=bb.cells
 clear b0 bb E1 E
 go_wp2_with fail
 refine (progRegZ d Rd.out _).mono ?_
 rintro x w2 ⟨rfl,rfl⟩
 go_wp2_with fail
 refine (progRegZ a Ra.out _).mono ?_
 rintro x w2 ⟨rfl,rfl⟩
 go_wp2_with fail
 refine (progRegZ b Rb.out _).mono ?_
 rintro x w2 ⟨rfl,rfl⟩
 go_wp2_with fail
 go_ret2
 exact ⟨ret_spair (by rw [HP.out]) rfl,B⟩
theorem progPrint_bne (a:Int) (b:Int) (label:Tx) (ha:regB a=true) (hb:regB b=true) (h1:nameB label=true) (hc:checkI ⟨11,0,a,b,0,[],label,0⟩=true) (w:World) (g:Gl w) :
  Calls Tryz.prog 24 #[vI ⟨11,0,a,b,0,[],label,0⟩] w (Ret w (.tuple #[.string (tx (printI ⟨11,0,a,b,0,[],label,0⟩)),.int .i64 0])):=by
 have E1:=al w (mkI ⟨11,0,a,b,0,[],label,0⟩)
 have b0:=BxI.new w ⟨11,0,a,b,0,[],label,0⟩
 have g:=g.below E1
 have HE:=hid (errI_yes hc)
 have r0:regB 0=true:=by decide
 have la:=rT_len ha;have Ra:=hid ha
 have lb:=rT_len hb;have Rb:=hid hb
 have ll:=(nameB_cl h1).2
 have HL:=hid h1
 obtain ⟨t1,ht1⟩ : ∃ t:Tx,[98,110,101,32]++(rT a)=t:=⟨_,rfl⟩
 have n1:t1.length=_:=(congrArg List.length ht1).symm.trans List.length_append
 have m1:t1.length≤100:=by rw [n1];(try simp only [List.length_cons,List.length_nil]);omega
 have c1 : ∀ w,(Op.stringOp .add ⟨#[98,110,101,32]⟩ (tx (rT a))).run Tryz.prog w = .ok (.string (tx t1)) w:=run_catT [98,110,101,32] (rT a) t1 ht1 (by omega)
 clear n1
 obtain ⟨t2,ht2⟩ : ∃ t:Tx,t1++[44]=t:=⟨_,rfl⟩
 have n2:t2.length=_:=(congrArg List.length ht2).symm.trans List.length_append
 have m2:t2.length≤150:=by rw [n2];(try simp only [List.length_cons,List.length_nil]);omega
 have c2 : ∀ w,(Op.stringOp .add (tx t1) ⟨#[44]⟩).run Tryz.prog w = .ok (.string (tx t2)) w:=run_catT t1 [44] t2 ht2 (by omega)
 clear n2
 obtain ⟨t3,ht3⟩ : ∃ t:Tx,t2++(rT b)=t:=⟨_,rfl⟩
 have n3:t3.length=_:=(congrArg List.length ht3).symm.trans List.length_append
 have m3:t3.length≤200:=by rw [n3];(try simp only [List.length_cons,List.length_nil]);omega
 have c3 : ∀ w,(Op.stringOp .add (tx t2) (tx (rT b))).run Tryz.prog w = .ok (.string (tx t3)) w:=run_catT t2 (rT b) t3 ht3 (by omega)
 clear n3
 obtain ⟨t4,ht4⟩ : ∃ t:Tx,t3++[44]=t:=⟨_,rfl⟩
 have n4:t4.length=_:=(congrArg List.length ht4).symm.trans List.length_append
 have m4:t4.length≤250:=by rw [n4];(try simp only [List.length_cons,List.length_nil]);omega
 have c4 : ∀ w,(Op.stringOp .add (tx t3) ⟨#[44]⟩).run Tryz.prog w = .ok (.string (tx t4)) w:=run_catT t3 [44] t4 ht4 (by omega)
 clear n4
 obtain ⟨t5,ht5⟩ : ∃ t:Tx,t4++label=t:=⟨_,rfl⟩
 have n5:t5.length=_:=(congrArg List.length ht5).symm.trans List.length_append
 have m5:t5.length≤300:=by rw [n5];(try simp only [List.length_cons,List.length_nil]);omega
 have c5 : ∀ w,(Op.stringOp .add (tx t4) (tx label)).run Tryz.prog w = .ok (.string (tx t5)) w:=run_catT t4 label t5 ht5 (by omega)
 clear n5
 have HP:=hid (show printI ⟨11,0,a,b,0,[],label,0⟩=t5 by rw [← ht5,← ht4,← ht3,← ht2,← ht1];rfl)
 clear ht1 ht2 ht3 ht4 ht5
 clear hc ha hb h1
 go_enter Tryz.func24,Tryz.ntmps24
 go_wp2_with fail
 refine (progCheck ⟨11,0,a,b,0,[],label,0⟩ (by simp;omega) _).mono ?_
 rintro x w1 ⟨rfl,E⟩
 rw [HE.out]
 have bb:=b0.below E;have g:=g.below E
 have B:=E1.trans (E.mono E1.size)
 obtain ⟨q0,q1,q2,q3,q4,q5,q6,q7⟩:=bb.cells
 clear b0 bb E1 E
 go_wp2_with fail
 refine (progRegZ 0 r0 _).mono ?_
 rintro x w2 ⟨rfl,rfl⟩
 go_wp2_with fail
 refine (progRegZ a Ra.out _).mono ?_
 rintro x w2 ⟨rfl,rfl⟩
 go_wp2_with fail
 refine (progRegZ b Rb.out _).mono ?_
 rintro x w2 ⟨rfl,rfl⟩
 go_wp2_with fail
 go_ret2
 exact ⟨ret_spair (by rw [HP.out]) rfl,B⟩
theorem progPrint_label (label:Tx) (h1:nameB label=true) (hc:checkI ⟨12,0,0,0,0,[],label,0⟩=true) (w:World) (g:Gl w) :
  Calls Tryz.prog 24 #[vI ⟨12,0,0,0,0,[],label,0⟩] w (Ret w (.tuple #[.string (tx (printI ⟨12,0,0,0,0,[],label,0⟩)),.int .i64 0])):=by
 have E1:=al w (mkI ⟨12,0,0,0,0,[],label,0⟩)
 have b0:=BxI.new w ⟨12,0,0,0,0,[],label,0⟩
 have g:=g.below E1
 have HE:=hid (errI_yes hc)
 have r0:regB 0=true:=by decide
 have ll:=(nameB_cl h1).2
 have HL:=hid h1
 obtain ⟨t1,ht1⟩ : ∃ t:Tx,label++[58]=t:=⟨_,rfl⟩
 have n1:t1.length=_:=(congrArg List.length ht1).symm.trans List.length_append
 have m1:t1.length≤100:=by rw [n1];(try simp only [List.length_cons,List.length_nil]);omega
 have c1 : ∀ w,(Op.stringOp .add (tx label) ⟨#[58]⟩).run Tryz.prog w = .ok (.string (tx t1)) w:=run_catT label [58] t1 ht1 (by omega)
 clear n1
 have HP:=hid (show printI ⟨12,0,0,0,0,[],label,0⟩=t1 by rw [← ht1];rfl)
 clear ht1
 clear hc h1
 go_enter Tryz.func24,Tryz.ntmps24
 go_wp2_with fail
 refine (progCheck ⟨12,0,0,0,0,[],label,0⟩ (by simp;omega) _).mono ?_
 rintro x w1 ⟨rfl,E⟩
 rw [HE.out]
 have bb:=b0.below E;have g:=g.below E
 have B:=E1.trans (E.mono E1.size)
 obtain ⟨q0,q1,q2,q3,q4,q5,q6,q7⟩:=bb.cells
 clear b0 bb E1 E
 go_wp2_with fail
 refine (progRegZ 0 r0 _).mono ?_
 rintro x w2 ⟨rfl,rfl⟩
 go_wp2_with fail
 refine (progRegZ 0 r0 _).mono ?_
 rintro x w2 ⟨rfl,rfl⟩
 go_wp2_with fail
 refine (progRegZ 0 r0 _).mono ?_
 rintro x w2 ⟨rfl,rfl⟩
 go_wp2_with fail
 go_ret2
 exact ⟨ret_spair (by rw [HP.out]) rfl,B⟩
theorem progPrint_fence (fence:Int) (h1:2≤fence) (h2:fence≤11) (hc:checkI ⟨13,0,0,0,0,[],[],fence⟩=true) (w:World) (g:Gl w) :
  Calls Tryz.prog 24 #[vI ⟨13,0,0,0,0,[],[],fence⟩] w (Ret w (.tuple #[.string (tx (printI ⟨13,0,0,0,0,[],[],fence⟩)),.int .i64 0])):=by
 have E1:=al w (mkI ⟨13,0,0,0,0,[],[],fence⟩)
 have b0:=BxI.new w ⟨13,0,0,0,0,[],[],fence⟩
 have g:=g.below E1
 have HE:=hid (errI_yes hc)
 have r0:regB 0=true:=by decide
 clear hc
 go_enter Tryz.func24,Tryz.ntmps24
 go_wp2_with fail
 refine (progCheck ⟨13,0,0,0,0,[],[],fence⟩ (by simp) _).mono ?_
 rintro x w1 ⟨rfl,E⟩
 rw [HE.out]
 have bb:=b0.below E;have g:=g.below E
 have B:=E1.trans (E.mono E1.size)
 obtain ⟨q0,q1,q2,q3,q4,q5,q6,q7⟩:=bb.cells
 clear b0 bb E1 E
 go_wp2_with fail
 refine (progRegZ 0 r0 _).mono ?_
 rintro x w2 ⟨rfl,rfl⟩
 go_wp2_with fail
 refine (progRegZ 0 r0 _).mono ?_
 rintro x w2 ⟨rfl,rfl⟩
 go_wp2_with fail
 refine (progRegZ 0 r0 _).mono ?_
 rintro x w2 ⟨rfl,rfl⟩
 go_wp2_with fail
 refine (progFenced fence h1 h2 _).mono ?_
 rintro x w3 ⟨rfl,E⟩
 have B:=B.trans (E.mono B.size)
 have HP:=hid (show printI ⟨13,0,0,0,0,[],[],fence⟩=fenceT fence from rfl)
 generalize fenceT fence=t1 at *
 go_wp2_with fail
 go_ret2
 exact ⟨ret_spair (by rw [HP.out]) rfl,B⟩
theorem progPrint_yes (i:Ins) (h:checkI i=true) (w:World) (g:Gl w):Calls Tryz.prog 24 #[vI i] w (Ret w (.tuple #[.string (tx (printI i)),.int .i64 0])):=by
 obtain ⟨ho,hw,hd,ha,hb⟩:=checkI_spec h
 obtain ⟨op,d,a,b,imm,loc,label,fence⟩:=i
 unfold wantI at hw
 unfold okI at ho
 simp only at ho hw hd ha hb
 by_cases h6:op=6
 ·subst h6
  simp at hw ho
  obtain ⟨rfl,rfl,rfl,rfl,rfl⟩:=hw
  exact progPrint_lw d a hd ha h w g
 by_cases h7:op=7
 ·subst h7
  simp at hw ho
  obtain ⟨rfl,rfl,rfl,rfl,rfl⟩:=hw
  exact progPrint_sw a b ha hb h w g
 by_cases h8:op=8
 ·subst h8
  simp at hw ho
  obtain ⟨rfl,rfl,rfl,rfl⟩:=hw
  exact progPrint_ori d a imm hd ha ho.1 ho.2 h w g
 by_cases h9:op=9
 ·subst h9
  simp at hw ho
  obtain ⟨rfl,rfl,rfl,rfl⟩:=hw
  exact progPrint_xor d a b hd ha hb h w g
 by_cases h10:op=10
 ·subst h10
  simp at hw ho
  obtain ⟨rfl,rfl,rfl,rfl⟩:=hw
  exact progPrint_add d a b hd ha hb h w g
 by_cases h11:op=11
 ·subst h11
  simp at hw ho
  obtain ⟨rfl,rfl,rfl,rfl⟩:=hw
  exact progPrint_bne a b label ha hb ho h w g
 by_cases h12:op=12
 ·subst h12
  simp at hw ho
  obtain ⟨rfl,rfl,rfl,rfl,rfl,rfl⟩:=hw
  exact progPrint_label label ho h w g
 by_cases h13:op=13
 ·subst h13
  simp at hw ho
  obtain ⟨rfl,rfl,rfl,rfl,rfl,rfl⟩:=hw
  exact progPrint_fence fence ho.1 ho.2 h w g
 exfalso
 rw [if_neg h8,if_neg (by omega),if_neg h13] at ho
 simp at ho
 omega
theorem progPrint_no (i:Ins) (hl:i.label.length≤9223372036854775807) (h:checkI i=false) (w:World):Calls Tryz.prog 24 #[vI i] w (Ret w (.tuple #[.string (tx []),.int .i64 91])):=by
 have E1:=al w (mkI i)
 have b0:=BxI.new w i
 have HE:=hid (errI_no h)
 clear h
 go_enter Tryz.func24,Tryz.ntmps24
 go_wp2_with fail
 refine (progCheck i hl _).mono ?_
 rintro x w1 ⟨rfl,E⟩
 rw [HE.out]
 go_wp2_with fail
 go_ret2
 exact ⟨rfl,E1.trans (E.mono E1.size)⟩
end Go.Proofs.YthaibjefnclkjaaGreatDoor

/- The walk of Print (the document's answer). Condition: the library's table as the program's text lays it. The walks of Cell (program and document), shown, Titled, cycled. Conditions: texts of a machine's length; the library's variables as laid. -/
import Derived.Test.YthaibjefnclkjaaGreatDoorAp21
set_option linter.unusedVariables false
set_option maxRecDepth 100000
set_option maxHeartbeats 12800000
namespace Go.Proofs.YthaibjefnclkjaaGreatDoor
open Go.RowKit
attribute [local go_sem high] eqI neqI
theorem fpart_len (n:Int):(fpart n).length≤2:=by unfold fpart;split <;> (try split) <;> simp
theorem refPrint_fence2 (hc:checkI ⟨13,0,0,0,0,[],[],2⟩=true) (w:World) (g:Gl w) :
  Calls Tryz.prog 27 #[vI ⟨13,0,0,0,0,[],[],2⟩] w (Ret w (.tuple #[.string (tx (printI ⟨13,0,0,0,0,[],[],2⟩)),.int .i64 0])):=by
 have E1:=al w (mkI ⟨13,0,0,0,0,[],[],2⟩)
 have b0:=BxI.new w ⟨13,0,0,0,0,[],[],2⟩
 have HE:=hid (errI_yes hc)
 have r0:regB 0=true:=by decide
 clear hc
 go_enter Tryz.func27,Tryz.ntmps27
 go_wp2_with fail
 refine (refCheck ⟨13,0,0,0,0,[],[],2⟩ (by simp) _).mono ?_
 rintro x w1 ⟨rfl,E⟩
 rw [HE.out]
 have bb:=b0.below E
 have B:=E1.trans (E.mono E1.size)
 obtain ⟨q0,q1,q2,q3,q4,q5,q6,q7⟩:=bb.cells
 clear b0 bb E1 E
 go_wp2_with fail
 refine (refRegZ 0 r0 _).mono ?_
 rintro x w2 ⟨rfl,rfl⟩
 go_wp2_with fail
 refine (refRegZ 0 r0 _).mono ?_
 rintro x w2 ⟨rfl,rfl⟩
 go_wp2_with fail
 refine (refRegZ 0 r0 _).mono ?_
 rintro x w2 ⟨rfl,rfl⟩
 go_wp2_with fail
 go_ret2
 exact ⟨rfl,B⟩
theorem refPrint_fence3 (fence:Int) (h1:3≤fence) (h2:fence≤11) (hc:checkI ⟨13,0,0,0,0,[],[],fence⟩=true) (w:World) (g:Gl w) :
  Calls Tryz.prog 27 #[vI ⟨13,0,0,0,0,[],[],fence⟩] w (Ret w (.tuple #[.string (tx (printI ⟨13,0,0,0,0,[],[],fence⟩)),.int .i64 0])):=by
 have E1:=al w (mkI ⟨13,0,0,0,0,[],[],fence⟩)
 have b0:=BxI.new w ⟨13,0,0,0,0,[],[],fence⟩
 have HE:=hid (errI_yes hc)
 have r0:regB 0=true:=by decide
 have z2:(fence==2)=false:=by simp;omega
 have HP:=hid (show printI ⟨13,0,0,0,0,[],[],fence⟩ = [102,101,110,99,101,32]++fpart ((fence-3) / 3)++[44]++fpart (fence % 3) by
  unfold printI;simp only
  rw [if_neg (by decide),if_neg (by decide),if_neg (by decide),if_neg (by decide),if_neg (by decide),if_neg (by decide),if_neg (by decide),if_neg (by omega),show (fence-3) % 3=fence % 3 by omega])
 have c1:=run_cat [102,101,110,99,101,32] (fpart ((fence-3) / 3)) (by have:=fpart_len ((fence-3) / 3);simp;omega)
 have c2:=run_cat ([102,101,110,99,101,32]++fpart ((fence-3) / 3)) [44] (by have:=fpart_len ((fence-3) / 3);simp;omega)
 have c3:=run_cat ([102,101,110,99,101,32]++fpart ((fence-3) / 3)++[44]) (fpart (fence % 3)) (by have h1:=fpart_len ((fence-3) / 3);have h2:=fpart_len (fence % 3);simp only [List.length_append,List.length_cons,List.length_nil];omega)
 have P1:=hid (fun w=>refPart ((fence-3) / 3) w)
 have P2:=hid (fun w=>refPart (fence % 3) w)
 have v0:=h1
 generalize hf1 : [102,101,110,99,101,32]++fpart ((fence-3) / 3)=f1 at *
 generalize hf2:f1++[44]=f2 at *
 generalize hf3:f2++fpart (fence % 3)=f3 at *
 generalize hp1:fpart ((fence-3) / 3)=p1 at *
 generalize hp2:fpart (fence % 3)=p2 at *
 have c1 : ∀ w,(Op.stringOp .add ⟨#[102,101,110,99,101,32]⟩ (tx p1)).run Tryz.prog w = .ok (.string (tx f1)) w:=c1
 have c2 : ∀ w,(Op.stringOp .add (tx f1) ⟨#[44]⟩).run Tryz.prog w = .ok (.string (tx f2)) w:=c2
 clear hc hf1 hf2 hf3 hp1 hp2
 go_enter Tryz.func27,Tryz.ntmps27
 go_wp2_with fail
 refine (refCheck ⟨13,0,0,0,0,[],[],fence⟩ (by simp) _).mono ?_
 rintro x w1 ⟨rfl,E⟩
 rw [HE.out]
 have bb:=b0.below E
 have B:=E1.trans (E.mono E1.size)
 obtain ⟨q0,q1,q2,q3,q4,q5,q6,q7⟩:=bb.cells
 clear b0 bb E1 E
 go_wp2_with fail
 refine (refRegZ 0 r0 _).mono ?_
 rintro x w2 ⟨rfl,rfl⟩
 go_wp2_with fail
 refine (refRegZ 0 r0 _).mono ?_
 rintro x w2 ⟨rfl,rfl⟩
 go_wp2_with fail
 refine (refRegZ 0 r0 _).mono ?_
 rintro x w2 ⟨rfl,rfl⟩
 go_wp2_with fail
 refine (P1.out _).mono ?_
 rintro x w2 ⟨rfl,rfl⟩
 go_wp2_with fail
 refine (P2.out _).mono ?_
 rintro x w2 ⟨rfl,rfl⟩
 go_wp2_with fail
 go_ret2
 exact ⟨ret_spair (by rw [HP.out]) rfl,B⟩
theorem refPrint_fence (fence:Int) (h1:2≤fence) (h2:fence≤11) (hc:checkI ⟨13,0,0,0,0,[],[],fence⟩=true) (w:World) (g:Gl w) :
  Calls Tryz.prog 27 #[vI ⟨13,0,0,0,0,[],[],fence⟩] w (Ret w (.tuple #[.string (tx (printI ⟨13,0,0,0,0,[],[],fence⟩)),.int .i64 0])):=by
 by_cases h:fence=2
 ·subst h;exact refPrint_fence2 hc w g
 ·exact refPrint_fence3 fence (by omega) h2 hc w g
theorem refPrint_lw (d:Int) (a:Int) (hd:regB d=true) (ha:regB a=true) (hc:checkI ⟨6,d,a,0,0,[],[],0⟩=true) (w:World) (g:Gl w) :
  Calls Tryz.prog 27 #[vI ⟨6,d,a,0,0,[],[],0⟩] w (Ret w (.tuple #[.string (tx (printI ⟨6,d,a,0,0,[],[],0⟩)),.int .i64 0])):=by
 have E1:=al w (mkI ⟨6,d,a,0,0,[],[],0⟩)
 have b0:=BxI.new w ⟨6,d,a,0,0,[],[],0⟩
 have g:=g.below E1
 have HE:=hid (errI_yes hc)
 have r0:regB 0=true:=by decide
 have ld:=rT_len hd;have Rd:=hid hd
 have la:=rT_len ha;have Ra:=hid ha
 obtain ⟨t1,ht1⟩ : ∃ t:Tx,[108,119,32]++(rT d)=t:=⟨_,rfl⟩
 have n1:t1.length=_:=(congrArg List.length ht1).symm.trans List.length_append
 have m1:t1.length≤100:=by rw [n1];(try simp only [List.length_cons,List.length_nil]);omega
 have c1 : ∀ w,(Op.stringOp .add ⟨#[108,119,32]⟩ (tx (rT d))).run Tryz.prog w = .ok (.string (tx t1)) w:=run_catT [108,119,32] (rT d) t1 ht1 (by omega)
 clear n1
 obtain ⟨t2,ht2⟩ : ∃ t:Tx,t1++[44,48,40]=t:=⟨_,rfl⟩
 have n2:t2.length=_:=(congrArg List.length ht2).symm.trans List.length_append
 have m2:t2.length≤150:=by rw [n2];(try simp only [List.length_cons,List.length_nil]);omega
 have c2 : ∀ w,(Op.stringOp .add (tx t1) ⟨#[44,48,40]⟩).run Tryz.prog w = .ok (.string (tx t2)) w:=run_catT t1 [44,48,40] t2 ht2 (by omega)
 clear n2
 obtain ⟨t3,ht3⟩ : ∃ t:Tx,t2++(rT a)=t:=⟨_,rfl⟩
 have n3:t3.length=_:=(congrArg List.length ht3).symm.trans List.length_append
 have m3:t3.length≤200:=by rw [n3];(try simp only [List.length_cons,List.length_nil]);omega
 have c3 : ∀ w,(Op.stringOp .add (tx t2) (tx (rT a))).run Tryz.prog w = .ok (.string (tx t3)) w:=run_catT t2 (rT a) t3 ht3 (by omega)
 clear n3
 obtain ⟨t4,ht4⟩ : ∃ t:Tx,t3++[41]=t:=⟨_,rfl⟩
 have n4:t4.length=_:=(congrArg List.length ht4).symm.trans List.length_append
 have m4:t4.length≤250:=by rw [n4];(try simp only [List.length_cons,List.length_nil]);omega
 have c4 : ∀ w,(Op.stringOp .add (tx t3) ⟨#[41]⟩).run Tryz.prog w = .ok (.string (tx t4)) w:=run_catT t3 [41] t4 ht4 (by omega)
 clear n4
 have HP:=hid (show printI ⟨6,d,a,0,0,[],[],0⟩=t4 by rw [← ht4,← ht3,← ht2,← ht1];rfl)
 clear ht1 ht2 ht3 ht4
 clear hc hd ha
 go_enter Tryz.func27,Tryz.ntmps27
 go_wp2_with fail
 refine (refCheck ⟨6,d,a,0,0,[],[],0⟩ (by simp) _).mono ?_
 rintro x w1 ⟨rfl,E⟩
 rw [HE.out]
 have bb:=b0.below E;have g:=g.below E
 have B:=E1.trans (E.mono E1.size)
 obtain ⟨q0,q1,q2,q3,q4,q5,q6,q7⟩:=bb.cells
 clear b0 bb E1 E
 go_wp2_with fail
 refine (refRegZ d Rd.out _).mono ?_
 rintro x w2 ⟨rfl,rfl⟩
 go_wp2_with fail
 refine (refRegZ a Ra.out _).mono ?_
 rintro x w2 ⟨rfl,rfl⟩
 go_wp2_with fail
 refine (refRegZ 0 r0 _).mono ?_
 rintro x w2 ⟨rfl,rfl⟩
 go_wp2_with fail
 go_ret2
 exact ⟨ret_spair (by rw [HP.out]) rfl,B⟩
theorem refPrint_sw (a:Int) (b:Int) (ha:regB a=true) (hb:regB b=true) (hc:checkI ⟨7,0,a,b,0,[],[],0⟩=true) (w:World) (g:Gl w) :
  Calls Tryz.prog 27 #[vI ⟨7,0,a,b,0,[],[],0⟩] w (Ret w (.tuple #[.string (tx (printI ⟨7,0,a,b,0,[],[],0⟩)),.int .i64 0])):=by
 have E1:=al w (mkI ⟨7,0,a,b,0,[],[],0⟩)
 have b0:=BxI.new w ⟨7,0,a,b,0,[],[],0⟩
 have g:=g.below E1
 have HE:=hid (errI_yes hc)
 have r0:regB 0=true:=by decide
 have la:=rT_len ha;have Ra:=hid ha
 have lb:=rT_len hb;have Rb:=hid hb
 obtain ⟨t1,ht1⟩ : ∃ t:Tx,[115,119,32]++(rT b)=t:=⟨_,rfl⟩
 have n1:t1.length=_:=(congrArg List.length ht1).symm.trans List.length_append
 have m1:t1.length≤100:=by rw [n1];(try simp only [List.length_cons,List.length_nil]);omega
 have c1 : ∀ w,(Op.stringOp .add ⟨#[115,119,32]⟩ (tx (rT b))).run Tryz.prog w = .ok (.string (tx t1)) w:=run_catT [115,119,32] (rT b) t1 ht1 (by omega)
 clear n1
 obtain ⟨t2,ht2⟩ : ∃ t:Tx,t1++[44,48,40]=t:=⟨_,rfl⟩
 have n2:t2.length=_:=(congrArg List.length ht2).symm.trans List.length_append
 have m2:t2.length≤150:=by rw [n2];(try simp only [List.length_cons,List.length_nil]);omega
 have c2 : ∀ w,(Op.stringOp .add (tx t1) ⟨#[44,48,40]⟩).run Tryz.prog w = .ok (.string (tx t2)) w:=run_catT t1 [44,48,40] t2 ht2 (by omega)
 clear n2
 obtain ⟨t3,ht3⟩ : ∃ t:Tx,t2++(rT a)=t:=⟨_,rfl⟩
 have n3:t3.length=_:=(congrArg List.length ht3).symm.trans List.length_append
 have m3:t3.length≤200:=by rw [n3];(try simp only [List.length_cons,List.length_nil]);omega
 have c3 : ∀ w,(Op.stringOp .add (tx t2) (tx (rT a))).run Tryz.prog w = .ok (.string (tx t3)) w:=run_catT t2 (rT a) t3 ht3 (by omega)
 clear n3
 obtain ⟨t4,ht4⟩ : ∃ t:Tx,t3++[41]=t:=⟨_,rfl⟩
 have n4:t4.length=_:=(congrArg List.length ht4).symm.trans List.length_append
 have m4:t4.length≤250:=by rw [n4];(try simp only [List.length_cons,List.length_nil]);omega
 have c4 : ∀ w,(Op.stringOp .add (tx t3) ⟨#[41]⟩).run Tryz.prog w = .ok (.string (tx t4)) w:=run_catT t3 [41] t4 ht4 (by omega)
 clear n4
 have HP:=hid (show printI ⟨7,0,a,b,0,[],[],0⟩=t4 by rw [← ht4,← ht3,← ht2,← ht1];rfl)
 clear ht1 ht2 ht3 ht4
 clear hc ha hb
 go_enter Tryz.func27,Tryz.ntmps27
 go_wp2_with fail
 refine (refCheck ⟨7,0,a,b,0,[],[],0⟩ (by simp) _).mono ?_
 rintro x w1 ⟨rfl,E⟩
 rw [HE.out]
 have bb:=b0.below E;have g:=g.below E
 have B:=E1.trans (E.mono E1.size)
 obtain ⟨q0,q1,q2,q3,q4,q5,q6,q7⟩:=bb.cells
 clear b0 bb E1 E
 go_wp2_with fail
 refine (refRegZ 0 r0 _).mono ?_
 rintro x w2 ⟨rfl,rfl⟩
 go_wp2_with fail
 refine (refRegZ a Ra.out _).mono ?_
 rintro x w2 ⟨rfl,rfl⟩
 go_wp2_with fail
 refine (refRegZ b Rb.out _).mono ?_
 rintro x w2 ⟨rfl,rfl⟩
 go_wp2_with fail
 go_ret2
 exact ⟨ret_spair (by rw [HP.out]) rfl,B⟩
theorem refPrint_ori (d:Int) (a:Int) (imm:Int) (hd:regB d=true) (ha:regB a=true) (h1 : -2048≤imm) (h2:imm≤2047) (hc:checkI ⟨8,d,a,0,imm,[],[],0⟩=true) (w:World) (g:Gl w) :
  Calls Tryz.prog 27 #[vI ⟨8,d,a,0,imm,[],[],0⟩] w (Ret w (.tuple #[.string (tx (printI ⟨8,d,a,0,imm,[],[],0⟩)),.int .i64 0])):=by
 have E1:=al w (mkI ⟨8,d,a,0,imm,[],[],0⟩)
 have b0:=BxI.new w ⟨8,d,a,0,imm,[],[],0⟩
 have g:=g.below E1
 have HE:=hid (errI_yes hc)
 have r0:regB 0=true:=by decide
 have ld:=rT_len hd;have Rd:=hid hd
 have la:=rT_len ha;have Ra:=hid ha
 have li:=decI_len imm
 have hi:=itoa_decI (n:=imm) (by omega) (by omega)
 have HI:=hid hi;clear hi
 obtain ⟨t1,ht1⟩ : ∃ t:Tx,[111,114,105,32]++(rT d)=t:=⟨_,rfl⟩
 have n1:t1.length=_:=(congrArg List.length ht1).symm.trans List.length_append
 have m1:t1.length≤100:=by rw [n1];(try simp only [List.length_cons,List.length_nil]);omega
 have c1 : ∀ w,(Op.stringOp .add ⟨#[111,114,105,32]⟩ (tx (rT d))).run Tryz.prog w = .ok (.string (tx t1)) w:=run_catT [111,114,105,32] (rT d) t1 ht1 (by omega)
 clear n1
 obtain ⟨t2,ht2⟩ : ∃ t:Tx,t1++[44]=t:=⟨_,rfl⟩
 have n2:t2.length=_:=(congrArg List.length ht2).symm.trans List.length_append
 have m2:t2.length≤150:=by rw [n2];(try simp only [List.length_cons,List.length_nil]);omega
 have c2 : ∀ w,(Op.stringOp .add (tx t1) ⟨#[44]⟩).run Tryz.prog w = .ok (.string (tx t2)) w:=run_catT t1 [44] t2 ht2 (by omega)
 clear n2
 obtain ⟨t3,ht3⟩ : ∃ t:Tx,t2++(rT a)=t:=⟨_,rfl⟩
 have n3:t3.length=_:=(congrArg List.length ht3).symm.trans List.length_append
 have m3:t3.length≤200:=by rw [n3];(try simp only [List.length_cons,List.length_nil]);omega
 have c3 : ∀ w,(Op.stringOp .add (tx t2) (tx (rT a))).run Tryz.prog w = .ok (.string (tx t3)) w:=run_catT t2 (rT a) t3 ht3 (by omega)
 clear n3
 obtain ⟨t4,ht4⟩ : ∃ t:Tx,t3++[44]=t:=⟨_,rfl⟩
 have n4:t4.length=_:=(congrArg List.length ht4).symm.trans List.length_append
 have m4:t4.length≤250:=by rw [n4];(try simp only [List.length_cons,List.length_nil]);omega
 have c4 : ∀ w,(Op.stringOp .add (tx t3) ⟨#[44]⟩).run Tryz.prog w = .ok (.string (tx t4)) w:=run_catT t3 [44] t4 ht4 (by omega)
 clear n4
 obtain ⟨t5,ht5⟩ : ∃ t:Tx,t4++(decI imm)=t:=⟨_,rfl⟩
 have n5:t5.length=_:=(congrArg List.length ht5).symm.trans List.length_append
 have m5:t5.length≤300:=by rw [n5];(try simp only [List.length_cons,List.length_nil]);omega
 have c5 : ∀ w,(Op.stringOp .add (tx t4) (tx (decI imm))).run Tryz.prog w = .ok (.string (tx t5)) w:=run_catT t4 (decI imm) t5 ht5 (by omega)
 clear n5
 have HP:=hid (show printI ⟨8,d,a,0,imm,[],[],0⟩=t5 by rw [← ht5,← ht4,← ht3,← ht2,← ht1];rfl)
 clear ht1 ht2 ht3 ht4 ht5
 clear hc hd ha
 go_enter Tryz.func27,Tryz.ntmps27
 go_wp2_with fail
 refine (refCheck ⟨8,d,a,0,imm,[],[],0⟩ (by simp) _).mono ?_
 rintro x w1 ⟨rfl,E⟩
 rw [HE.out]
 have bb:=b0.below E;have g:=g.below E
 have B:=E1.trans (E.mono E1.size)
 obtain ⟨q0,q1,q2,q3,q4,q5,q6,q7⟩:=bb.cells
 clear b0 bb E1 E
 go_wp2_with fail
 refine (refRegZ d Rd.out _).mono ?_
 rintro x w2 ⟨rfl,rfl⟩
 go_wp2_with fail
 refine (refRegZ a Ra.out _).mono ?_
 rintro x w2 ⟨rfl,rfl⟩
 go_wp2_with fail
 refine (refRegZ 0 r0 _).mono ?_
 rintro x w2 ⟨rfl,rfl⟩
 go_wp2_with fail
 refine (itoa_any imm (by omega) (by omega) _ g).mono ?_
 rintro x w3 ⟨rfl,E⟩
 rw [HI.out]
 have B:=B.trans (E.mono B.size)
 go_wp2_with fail
 go_ret2
 exact ⟨ret_spair (by rw [HP.out]) rfl,B⟩
theorem refPrint_xor (d:Int) (a:Int) (b:Int) (hd:regB d=true) (ha:regB a=true) (hb:regB b=true) (hc:checkI ⟨9,d,a,b,0,[],[],0⟩=true) (w:World) (g:Gl w) :
  Calls Tryz.prog 27 #[vI ⟨9,d,a,b,0,[],[],0⟩] w (Ret w (.tuple #[.string (tx (printI ⟨9,d,a,b,0,[],[],0⟩)),.int .i64 0])):=by
 have E1:=al w (mkI ⟨9,d,a,b,0,[],[],0⟩)
 have b0:=BxI.new w ⟨9,d,a,b,0,[],[],0⟩
 have g:=g.below E1
 have HE:=hid (errI_yes hc)
 have r0:regB 0=true:=by decide
 have ld:=rT_len hd;have Rd:=hid hd
 have la:=rT_len ha;have Ra:=hid ha
 have lb:=rT_len hb;have Rb:=hid hb
 obtain ⟨t1,ht1⟩ : ∃ t:Tx,[120,111,114,32]++(rT d)=t:=⟨_,rfl⟩
 have n1:t1.length=_:=(congrArg List.length ht1).symm.trans List.length_append
 have m1:t1.length≤100:=by rw [n1];(try simp only [List.length_cons,List.length_nil]);omega
 have c1 : ∀ w,(Op.stringOp .add ⟨#[120,111,114,32]⟩ (tx (rT d))).run Tryz.prog w = .ok (.string (tx t1)) w:=run_catT [120,111,114,32] (rT d) t1 ht1 (by omega)
 clear n1
 obtain ⟨t2,ht2⟩ : ∃ t:Tx,t1++[44]=t:=⟨_,rfl⟩
 have n2:t2.length=_:=(congrArg List.length ht2).symm.trans List.length_append
 have m2:t2.length≤150:=by rw [n2];(try simp only [List.length_cons,List.length_nil]);omega
 have c2 : ∀ w,(Op.stringOp .add (tx t1) ⟨#[44]⟩).run Tryz.prog w = .ok (.string (tx t2)) w:=run_catT t1 [44] t2 ht2 (by omega)
 clear n2
 obtain ⟨t3,ht3⟩ : ∃ t:Tx,t2++(rT a)=t:=⟨_,rfl⟩
 have n3:t3.length=_:=(congrArg List.length ht3).symm.trans List.length_append
 have m3:t3.length≤200:=by rw [n3];(try simp only [List.length_cons,List.length_nil]);omega
 have c3 : ∀ w,(Op.stringOp .add (tx t2) (tx (rT a))).run Tryz.prog w = .ok (.string (tx t3)) w:=run_catT t2 (rT a) t3 ht3 (by omega)
 clear n3
 obtain ⟨t4,ht4⟩ : ∃ t:Tx,t3++[44]=t:=⟨_,rfl⟩
 have n4:t4.length=_:=(congrArg List.length ht4).symm.trans List.length_append
 have m4:t4.length≤250:=by rw [n4];(try simp only [List.length_cons,List.length_nil]);omega
 have c4 : ∀ w,(Op.stringOp .add (tx t3) ⟨#[44]⟩).run Tryz.prog w = .ok (.string (tx t4)) w:=run_catT t3 [44] t4 ht4 (by omega)
 clear n4
 obtain ⟨t5,ht5⟩ : ∃ t:Tx,t4++(rT b)=t:=⟨_,rfl⟩
 have n5:t5.length=_:=(congrArg List.length ht5).symm.trans List.length_append
 have m5:t5.length≤300:=by rw [n5];(try simp only [List.length_cons,List.length_nil]);omega
 have c5 : ∀ w,(Op.stringOp .add (tx t4) (tx (rT b))).run Tryz.prog w = .ok (.string (tx t5)) w:=run_catT t4 (rT b) t5 ht5 (by omega)
 clear n5
 have HP:=hid (show printI ⟨9,d,a,b,0,[],[],0⟩=t5 by rw [← ht5,← ht4,← ht3,← ht2,← ht1];rfl)
 clear ht1 ht2 ht3 ht4 ht5
 clear hc hd ha hb
 go_enter Tryz.func27,Tryz.ntmps27
 go_wp2_with fail
 refine (refCheck ⟨9,d,a,b,0,[],[],0⟩ (by simp) _).mono ?_
 rintro x w1 ⟨rfl,E⟩
 rw [HE.out]
 have bb:=b0.below E;have g:=g.below E
 have B:=E1.trans (E.mono E1.size)
 obtain ⟨q0,q1,q2,q3,q4,q5,q6,q7⟩:=bb.cells
 clear b0 bb E1 E
 go_wp2_with fail
 refine (refRegZ d Rd.out _).mono ?_
 rintro x w2 ⟨rfl,rfl⟩
 go_wp2_with fail
 refine (refRegZ a Ra.out _).mono ?_
 rintro x w2 ⟨rfl,rfl⟩
 go_wp2_with fail
 refine (refRegZ b Rb.out _).mono ?_
 rintro x w2 ⟨rfl,rfl⟩
 go_wp2_with fail
 go_ret2
 exact ⟨ret_spair (by rw [HP.out]) rfl,B⟩
theorem refPrint_add (d:Int) (a:Int) (b:Int) (hd:regB d=true) (ha:regB a=true) (hb:regB b=true) (hc:checkI ⟨10,d,a,b,0,[],[],0⟩=true) (w:World) (g:Gl w) :
  Calls Tryz.prog 27 #[vI ⟨10,d,a,b,0,[],[],0⟩] w (Ret w (.tuple #[.string (tx (printI ⟨10,d,a,b,0,[],[],0⟩)),.int .i64 0])):=by
 have E1:=al w (mkI ⟨10,d,a,b,0,[],[],0⟩)
 have b0:=BxI.new w ⟨10,d,a,b,0,[],[],0⟩
 have g:=g.below E1
 have HE:=hid (errI_yes hc)
 have r0:regB 0=true:=by decide
 have ld:=rT_len hd;have Rd:=hid hd
 have la:=rT_len ha;have Ra:=hid ha
 have lb:=rT_len hb;have Rb:=hid hb
 obtain ⟨t1,ht1⟩ : ∃ t:Tx,[97,100,100,32]++(rT d)=t:=⟨_,rfl⟩
 have n1:t1.length=_:=(congrArg List.length ht1).symm.trans List.length_append
 have m1:t1.length≤100:=by rw [n1];(try simp only [List.length_cons,List.length_nil]);omega
 have c1 : ∀ w,(Op.stringOp .add ⟨#[97,100,100,32]⟩ (tx (rT d))).run Tryz.prog w = .ok (.string (tx t1)) w:=run_catT [97,100,100,32] (rT d) t1 ht1 (by omega)
 clear n1
 obtain ⟨t2,ht2⟩ : ∃ t:Tx,t1++[44]=t:=⟨_,rfl⟩
 have n2:t2.length=_:=(congrArg List.length ht2).symm.trans List.length_append
 have m2:t2.length≤150:=by rw [n2];(try simp only [List.length_cons,List.length_nil]);omega
 have c2 : ∀ w,(Op.stringOp .add (tx t1) ⟨#[44]⟩).run Tryz.prog w = .ok (.string (tx t2)) w:=run_catT t1 [44] t2 ht2 (by omega)
 clear n2
 obtain ⟨t3,ht3⟩ : ∃ t:Tx,t2++(rT a)=t:=⟨_,rfl⟩
 have n3:t3.length=_:=(congrArg List.length ht3).symm.trans List.length_append
 have m3:t3.length≤200:=by rw [n3];(try simp only [List.length_cons,List.length_nil]);omega
 have c3 : ∀ w,(Op.stringOp .add (tx t2) (tx (rT a))).run Tryz.prog w = .ok (.string (tx t3)) w:=run_catT t2 (rT a) t3 ht3 (by omega)
 clear n3
 obtain ⟨t4,ht4⟩ : ∃ t:Tx,t3++[44]=t:=⟨_,rfl⟩
 have n4:t4.length=_:=(congrArg List.length ht4).symm.trans List.length_append
 have m4:t4.length≤250:=by rw [n4];(try simp only [List.length_cons,List.length_nil]);omega
 have c4 : ∀ w,(Op.stringOp .add (tx t3) ⟨#[44]⟩).run Tryz.prog w = .ok (.string (tx t4)) w:=run_catT t3 [44] t4 ht4 (by omega)
 clear n4
 obtain ⟨t5,ht5⟩ : ∃ t:Tx,t4++(rT b)=t:=⟨_,rfl⟩
 have n5:t5.length=_:=(congrArg List.length ht5).symm.trans List.length_append
 have m5:t5.length≤300:=by rw [n5];(try simp only [List.length_cons,List.length_nil]);omega
 have c5 : ∀ w,(Op.stringOp .add (tx t4) (tx (rT b))).run Tryz.prog w = .ok (.string (tx t5)) w:=run_catT t4 (rT b) t5 ht5 (by omega)
 clear n5
 have HP:=hid (show printI ⟨10,d,a,b,0,[],[],0⟩=t5 by rw [← ht5,← ht4,← ht3,← ht2,← ht1];rfl)
 clear ht1 ht2 ht3 ht4 ht5
 clear hc hd ha hb
 go_enter Tryz.func27,Tryz.ntmps27
 go_wp2_with fail
 refine (refCheck ⟨10,d,a,b,0,[],[],0⟩ (by simp) _).mono ?_
 rintro x w1 ⟨rfl,E⟩
 rw [HE.out]
 have bb:=b0.below E;have g:=g.below E
 have B:=E1.trans (E.mono E1.size)
 obtain ⟨q0,q1,q2,q3,q4,q5,q6,q7⟩:=bb.cells
 clear b0 bb E1 E
 go_wp2_with fail
 refine (refRegZ d Rd.out _).mono ?_
 rintro x w2 ⟨rfl,rfl⟩
 go_wp2_with fail
 refine (refRegZ a Ra.out _).mono ?_
 rintro x w2 ⟨rfl,rfl⟩
 go_wp2_with fail
 refine (refRegZ b Rb.out _).mono ?_
 rintro x w2 ⟨rfl,rfl⟩
 go_wp2_with fail
 go_ret2
 exact ⟨ret_spair (by rw [HP.out]) rfl,B⟩
theorem refPrint_bne (a:Int) (b:Int) (label:Tx) (ha:regB a=true) (hb:regB b=true) (h1:nameB label=true) (hc:checkI ⟨11,0,a,b,0,[],label,0⟩=true) (w:World) (g:Gl w) :
  Calls Tryz.prog 27 #[vI ⟨11,0,a,b,0,[],label,0⟩] w (Ret w (.tuple #[.string (tx (printI ⟨11,0,a,b,0,[],label,0⟩)),.int .i64 0])):=by
 have E1:=al w (mkI ⟨11,0,a,b,0,[],label,0⟩)
 have b0:=BxI.new w ⟨11,0,a,b,0,[],label,0⟩
 have g:=g.below E1
 have HE:=hid (errI_yes hc)
 have r0:regB 0=true:=by decide
 have la:=rT_len ha;have Ra:=hid ha
 have lb:=rT_len hb;have Rb:=hid hb
 have ll:=(nameB_cl h1).2
 have HL:=hid h1
 obtain ⟨t1,ht1⟩ : ∃ t:Tx,[98,110,101,32]++(rT a)=t:=⟨_,rfl⟩
 have n1:t1.length=_:=(congrArg List.length ht1).symm.trans List.length_append
 have m1:t1.length≤100:=by rw [n1];(try simp only [List.length_cons,List.length_nil]);omega
 have c1 : ∀ w,(Op.stringOp .add ⟨#[98,110,101,32]⟩ (tx (rT a))).run Tryz.prog w = .ok (.string (tx t1)) w:=run_catT [98,110,101,32] (rT a) t1 ht1 (by omega)
 clear n1
 obtain ⟨t2,ht2⟩ : ∃ t:Tx,t1++[44]=t:=⟨_,rfl⟩
 have n2:t2.length=_:=(congrArg List.length ht2).symm.trans List.length_append
 have m2:t2.length≤150:=by rw [n2];(try simp only [List.length_cons,List.length_nil]);omega
 have c2 : ∀ w,(Op.stringOp .add (tx t1) ⟨#[44]⟩).run Tryz.prog w = .ok (.string (tx t2)) w:=run_catT t1 [44] t2 ht2 (by omega)
 clear n2
 obtain ⟨t3,ht3⟩ : ∃ t:Tx,t2++(rT b)=t:=⟨_,rfl⟩
 have n3:t3.length=_:=(congrArg List.length ht3).symm.trans List.length_append
 have m3:t3.length≤200:=by rw [n3];(try simp only [List.length_cons,List.length_nil]);omega
 have c3 : ∀ w,(Op.stringOp .add (tx t2) (tx (rT b))).run Tryz.prog w = .ok (.string (tx t3)) w:=run_catT t2 (rT b) t3 ht3 (by omega)
 clear n3
 obtain ⟨t4,ht4⟩ : ∃ t:Tx,t3++[44]=t:=⟨_,rfl⟩
 have n4:t4.length=_:=(congrArg List.length ht4).symm.trans List.length_append
 have m4:t4.length≤250:=by rw [n4];(try simp only [List.length_cons,List.length_nil]);omega
 have c4 : ∀ w,(Op.stringOp .add (tx t3) ⟨#[44]⟩).run Tryz.prog w = .ok (.string (tx t4)) w:=run_catT t3 [44] t4 ht4 (by omega)
 clear n4
 obtain ⟨t5,ht5⟩ : ∃ t:Tx,t4++label=t:=⟨_,rfl⟩
 have n5:t5.length=_:=(congrArg List.length ht5).symm.trans List.length_append
 have m5:t5.length≤300:=by rw [n5];(try simp only [List.length_cons,List.length_nil]);omega
 have c5 : ∀ w,(Op.stringOp .add (tx t4) (tx label)).run Tryz.prog w = .ok (.string (tx t5)) w:=run_catT t4 label t5 ht5 (by omega)
 clear n5
 have HP:=hid (show printI ⟨11,0,a,b,0,[],label,0⟩=t5 by rw [← ht5,← ht4,← ht3,← ht2,← ht1];rfl)
 clear ht1 ht2 ht3 ht4 ht5
 clear hc ha hb h1
 go_enter Tryz.func27,Tryz.ntmps27
 go_wp2_with fail
 refine (refCheck ⟨11,0,a,b,0,[],label,0⟩ (by simp;omega) _).mono ?_
 rintro x w1 ⟨rfl,E⟩
 rw [HE.out]
 have bb:=b0.below E;have g:=g.below E
 have B:=E1.trans (E.mono E1.size)
 obtain ⟨q0,q1,q2,q3,q4,q5,q6,q7⟩:=bb.cells
 clear b0 bb E1 E
 go_wp2_with fail
 refine (refRegZ 0 r0 _).mono ?_
 rintro x w2 ⟨rfl,rfl⟩
 go_wp2_with fail
 refine (refRegZ a Ra.out _).mono ?_
 rintro x w2 ⟨rfl,rfl⟩
 go_wp2_with fail
 refine (refRegZ b Rb.out _).mono ?_
 rintro x w2 ⟨rfl,rfl⟩
 go_wp2_with fail
 go_ret2
 exact ⟨ret_spair (by rw [HP.out]) rfl,B⟩
theorem refPrint_label (label:Tx) (h1:nameB label=true) (hc:checkI ⟨12,0,0,0,0,[],label,0⟩=true) (w:World) (g:Gl w) :
  Calls Tryz.prog 27 #[vI ⟨12,0,0,0,0,[],label,0⟩] w (Ret w (.tuple #[.string (tx (printI ⟨12,0,0,0,0,[],label,0⟩)),.int .i64 0])):=by
 have E1:=al w (mkI ⟨12,0,0,0,0,[],label,0⟩)
 have b0:=BxI.new w ⟨12,0,0,0,0,[],label,0⟩
 have g:=g.below E1
 have HE:=hid (errI_yes hc)
 have r0:regB 0=true:=by decide
 have ll:=(nameB_cl h1).2
 have HL:=hid h1
 obtain ⟨t1,ht1⟩ : ∃ t:Tx,label++[58]=t:=⟨_,rfl⟩
 have n1:t1.length=_:=(congrArg List.length ht1).symm.trans List.length_append
 have m1:t1.length≤100:=by rw [n1];(try simp only [List.length_cons,List.length_nil]);omega
 have c1 : ∀ w,(Op.stringOp .add (tx label) ⟨#[58]⟩).run Tryz.prog w = .ok (.string (tx t1)) w:=run_catT label [58] t1 ht1 (by omega)
 clear n1
 have HP:=hid (show printI ⟨12,0,0,0,0,[],label,0⟩=t1 by rw [← ht1];rfl)
 clear ht1
 clear hc h1
 go_enter Tryz.func27,Tryz.ntmps27
 go_wp2_with fail
 refine (refCheck ⟨12,0,0,0,0,[],label,0⟩ (by simp;omega) _).mono ?_
 rintro x w1 ⟨rfl,E⟩
 rw [HE.out]
 have bb:=b0.below E;have g:=g.below E
 have B:=E1.trans (E.mono E1.size)
 obtain ⟨q0,q1,q2,q3,q4,q5,q6,q7⟩:=bb.cells
 clear b0 bb E1 E
 go_wp2_with fail
 refine (refRegZ 0 r0 _).mono ?_
 rintro x w2 ⟨rfl,rfl⟩
 go_wp2_with fail
 refine (refRegZ 0 r0 _).mono ?_
 rintro x w2 ⟨rfl,rfl⟩
 go_wp2_with fail
 refine (refRegZ 0 r0 _).mono ?_
 rintro x w2 ⟨rfl,rfl⟩
 go_wp2_with fail
 go_ret2
 exact ⟨ret_spair (by rw [HP.out]) rfl,B⟩
theorem refPrint_yes (i:Ins) (h:checkI i=true) (w:World) (g:Gl w):Calls Tryz.prog 27 #[vI i] w (Ret w (.tuple #[.string (tx (printI i)),.int .i64 0])):=by
 obtain ⟨ho,hw,hd,ha,hb⟩:=checkI_spec h
 obtain ⟨op,d,a,b,imm,loc,label,fence⟩:=i
 unfold wantI at hw
 unfold okI at ho
 simp only at ho hw hd ha hb
 by_cases h6:op=6
 ·subst h6
  simp at hw ho
  obtain ⟨rfl,rfl,rfl,rfl,rfl⟩:=hw
  exact refPrint_lw d a hd ha h w g
 by_cases h7:op=7
 ·subst h7
  simp at hw ho
  obtain ⟨rfl,rfl,rfl,rfl,rfl⟩:=hw
  exact refPrint_sw a b ha hb h w g
 by_cases h8:op=8
 ·subst h8
  simp at hw ho
  obtain ⟨rfl,rfl,rfl,rfl⟩:=hw
  exact refPrint_ori d a imm hd ha ho.1 ho.2 h w g
 by_cases h9:op=9
 ·subst h9
  simp at hw ho
  obtain ⟨rfl,rfl,rfl,rfl⟩:=hw
  exact refPrint_xor d a b hd ha hb h w g
 by_cases h10:op=10
 ·subst h10
  simp at hw ho
  obtain ⟨rfl,rfl,rfl,rfl⟩:=hw
  exact refPrint_add d a b hd ha hb h w g
 by_cases h11:op=11
 ·subst h11
  simp at hw ho
  obtain ⟨rfl,rfl,rfl,rfl⟩:=hw
  exact refPrint_bne a b label ha hb ho h w g
 by_cases h12:op=12
 ·subst h12
  simp at hw ho
  obtain ⟨rfl,rfl,rfl,rfl,rfl,rfl⟩:=hw
  exact refPrint_label label ho h w g
 by_cases h13:op=13
 ·subst h13
  simp at hw ho
  obtain ⟨rfl,rfl,rfl,rfl,rfl,rfl⟩:=hw
  exact refPrint_fence fence ho.1 ho.2 h w g
 exfalso
 rw [if_neg h8,if_neg (by omega),if_neg h13] at ho
 simp at ho
 omega
theorem refPrint_no (i:Ins) (hl:i.label.length≤9223372036854775807) (h:checkI i=false) (w:World):Calls Tryz.prog 27 #[vI i] w (Ret w (.tuple #[.string (tx []),.int .i64 91])):=by
 have E1:=al w (mkI i)
 have b0:=BxI.new w i
 have HE:=hid (errI_no h)
 clear h
 go_enter Tryz.func27,Tryz.ntmps27
 go_wp2_with fail
 refine (refCheck i hl _).mono ?_
 rintro x w1 ⟨rfl,E⟩
 rw [HE.out]
 go_wp2_with fail
 go_ret2
 exact ⟨rfl,E1.trans (E.mono E1.size)⟩
end Go.Proofs.YthaibjefnclkjaaGreatDoor
namespace Go.Proofs.YthaibjefnclkjaaGreatDoor
open Go.RowKit Go.Sort
theorem cellI_x {i:Ins} : cellI 1 i=(if checkX i then (printX i,0) else ([],91)):=by unfold cellI;rw [if_pos rfl]
theorem cellI_r {i:Ins} : cellI 2 i=(if checkI i then (printI i,0) else ([],91)):=by unfold cellI;rw [if_neg (by omega),if_pos rfl]
theorem cellI_n {arch:Int} {i:Ins} (h1:arch≠1) (h2:arch≠2):cellI arch i=([],5):=by unfold cellI;rw [if_neg h1,if_neg h2]
@[reducible] def vP (p:Tx × Int):Value:=.tuple #[.string (tx p.1),.int .i64 p.2]
theorem xPrint (i:Ins) (hl:i.loc.length≤9223372036854775807) (w:World) (g:Gl w):Calls Tryz.prog 23 #[vI i] w (Ret w (vP (cellI 1 i))):=by
 rw [cellI_x]
 cases h:checkX i
 ·exact xPrint_no i hl h w
 ·exact xPrint_yes i h w g
theorem r9Print (i:Ins) (hl:i.loc.length≤9223372036854775807) (w:World) (g:Gl w):Calls Tryz.prog 26 #[vI i] w (Ret w (vP (cellI 1 i))):=by
 rw [cellI_x]
 cases h:checkX i
 ·exact r9Print_no i hl h w
 ·exact r9Print_yes i h w g
theorem rPrint (i:Ins) (hl:i.label.length≤9223372036854775807) (w:World) (g:Gl w):Calls Tryz.prog 24 #[vI i] w (Ret w (vP (cellI 2 i))):=by
 rw [cellI_r]
 cases h:checkI i
 ·exact progPrint_no i hl h w
 ·exact progPrint_yes i h w g
theorem r10Print (i:Ins) (hl:i.label.length≤9223372036854775807) (w:World) (g:Gl w):Calls Tryz.prog 27 #[vI i] w (Ret w (vP (cellI 2 i))):=by
 rw [cellI_r]
 cases h:checkI i
 ·exact refPrint_no i hl h w
 ·exact refPrint_yes i h w g
theorem fileCell (arch:Int) (i:Ins) (h1:i.loc.length≤9223372036854775807) (h2:i.label.length≤9223372036854775807) (w:World) (g:Gl w) :
  Calls Tryz.prog 9 #[.int .i64 arch,vI i] w (Ret w (vP (cellI arch i))):=by
 have B:=al w (mkI i)
 have b0:=BxI.new w i
 by_cases ha:arch=1
 ·subst ha
  have PR:=xPrint i h1 _ (g.below B)
  generalize cellI 1 i=p at *
  have PR:=hid PR
  obtain ⟨c0,c1,c2,c3,c4,c5,c6,c7⟩:=b0.cells
  go_enter Tryz.func9,Tryz.ntmps9
  go_wp2_with fail
  refine PR.out.mono ?_
  rintro e w1 ⟨rfl,E⟩
  have B:=B.trans (E.mono B.size)
  go_wp2_with fail
  go_ret2
  exact ⟨rfl,B⟩
 ·by_cases hb:arch=2
  ·subst hb
   have PR:=rPrint i h2 _ (g.below B)
   generalize cellI 2 i=p at *
   have PR:=hid PR
   obtain ⟨c0,c1,c2,c3,c4,c5,c6,c7⟩:=b0.cells
   go_enter Tryz.func9,Tryz.ntmps9
   go_wp2_with fail
   refine PR.out.mono ?_
   rintro e w1 ⟨rfl,E⟩
   have B:=B.trans (E.mono B.size)
   go_wp2_with fail
   go_ret2
   exact ⟨rfl,B⟩
  ·have z1:(arch==1)=false:=by simpa using ha
   have z2:(arch==2)=false:=by simpa using hb
   rw [cellI_n ha hb]
   clear ha hb g h1 h2
   go_enter Tryz.func9,Tryz.ntmps9
   go_wp2_with fail
   go_ret2
   exact ⟨rfl,blN⟩
theorem r13Cell (arch:Int) (i:Ins) (h1:i.loc.length≤9223372036854775807) (h2:i.label.length≤9223372036854775807) (w:World) (g:Gl w) :
  Calls Tryz.prog 10 #[.int .i64 arch,vI i] w (Ret w (vP (cellI arch i))):=by
 have B:=al w (mkI i)
 have b0:=BxI.new w i
 by_cases ha:arch=1
 ·subst ha
  have PR:=r9Print i h1 _ (g.below B)
  generalize cellI 1 i=p at *
  have PR:=hid PR
  obtain ⟨c0,c1,c2,c3,c4,c5,c6,c7⟩:=b0.cells
  have KN:=hid (show ∀ w,Calls Tryz.prog 25 #[.int .i64 1] w fun e w'=>e = .returned (.bool true)∧w=w' from fun w=>(show archB 1=true by rfl)▸r13Known 1 w)
  go_enter Tryz.func10,Tryz.ntmps10
  go_wp2_with (go_at_call 25;refine (KN.out _).mono ?_;rintro e w' ⟨rfl,rfl⟩)
  refine PR.out.mono ?_
  rintro e w1 ⟨rfl,E⟩
  have B:=B.trans (E.mono B.size)
  go_wp2_with fail
  go_ret2
  exact ⟨rfl,B⟩
 ·by_cases hb:arch=2
  ·subst hb
   have PR:=r10Print i h2 _ (g.below B)
   generalize cellI 2 i=p at *
   have PR:=hid PR
   obtain ⟨c0,c1,c2,c3,c4,c5,c6,c7⟩:=b0.cells
   have KN:=hid (show ∀ w,Calls Tryz.prog 25 #[.int .i64 2] w fun e w'=>e = .returned (.bool true)∧w=w' from fun w=>(show archB 2=true by rfl)▸r13Known 2 w)
   go_enter Tryz.func10,Tryz.ntmps10
   go_wp2_with (go_at_call 25;refine (KN.out _).mono ?_;rintro e w' ⟨rfl,rfl⟩)
   refine PR.out.mono ?_
   rintro e w1 ⟨rfl,E⟩
   have B:=B.trans (E.mono B.size)
   go_wp2_with fail
   go_ret2
   exact ⟨rfl,B⟩
  ·have z1:(arch==1)=false:=by simpa using ha
   have z2:(arch==2)=false:=by simpa using hb
   rw [cellI_n ha hb]
   have KN:=hid (show ∀ w,Calls Tryz.prog 25 #[.int .i64 arch] w fun e w'=>e = .returned (.bool false)∧w=w' from fun w=>(show archB arch=false by unfold archB;simp [ha,hb])▸r13Known arch w)
   clear ha hb g h1 h2
   go_enter Tryz.func10,Tryz.ntmps10
   go_wp2_with (go_at_call 25;refine (KN.out _).mono ?_;rintro e w' ⟨rfl,rfl⟩)
   go_ret2
   exact ⟨rfl,blN⟩
theorem showC_nat (lo:Nat) (c:UInt8):showC lo c=(decide (lo≤c.toNat)&&(decide (c.toNat≤126)&&decide (c.toNat≠34))):=rfl
theorem fileShown (lo : Nat) (h0 : 1 ≤ lo) (h1 : lo ≤ 34) (l : Tx) (hl : l.length ≤ 9223372036854775807) (w : World) : Calls Tryz.prog 44 #[.string (tx l), .int .u8 lo] w fun e w' => e = .returned (.bool (showB lo l)) ∧ w = w' := by
  obtain ⟨n, hn⟩ : ∃ n, (tx l).size = n := ⟨_, rfl⟩
  have hln : l.length = n := by rw [← hn, tx_size]
  have HN := hid hln
  rw [hln] at hl
  clear hln
  go_enter Tryz.func44, Tryz.ntmps44
  go_wp2_with fail
  go_loop [5] (fun i => ∃ k : Nat, k ≤ n ∧ i = .int .i64 k ∧ Hid (∀ (i : Nat) (x : UInt8), i < k → l[i]? = some x → showC lo x = true)) (fun i => n - (intOf i).toNat)
  case atStart => exact ⟨0, by omega, rfl, fun i x hi => absurd hi (Nat.not_lt_zero i)⟩
  case round =>
    obtain ⟨k, hk, rfl, HM⟩ := hrel
    by_cases hlt : k < n
    · obtain ⟨x, hx⟩ : ∃ x, l[k]? = some x := ⟨_, List.getElem?_eq_getElem (by rw [HN.out]; exact hlt)⟩
      have ix := run_ix l k x hx
      have hlt' : x.toNat < 256 := x.toNat_lt
      obtain ⟨m, hm⟩ : ∃ m, x.toNat = m := ⟨_, rfl⟩
      have HC := hid (show showC lo x = (decide (lo ≤ m) && (decide (m ≤ 126) && decide (m ≠ 34))) by rw [showC_nat, hm])
      rw [hm] at ix hlt'
      have HF := hid (fun h => showB_step (lo := lo) (l := l) (k := k) (c := x) hx h)
      have HM2 : showC lo x = true → Hid (∀ (i : Nat) (y : UInt8), i < k + 1 → l[i]? = some y → showC lo y = true) := fun hx' i y hi hy => by
        rcases Nat.lt_succ_iff_lt_or_eq.1 hi with h | h
        · exact HM.out i y h hy
        · subst h; rw [hx] at hy; cases hy; exact hx'
      have HM2 := hid HM2
      clear hm hx HM
      have hp : m < lo ∨ (lo ≤ m ∧ m = 34) ∨ (lo ≤ m ∧ m ≤ 126 ∧ m ≠ 34) ∨ 126 < m := by omega
      rcases hp with h | ⟨h, h'⟩ | ⟨h, h', h''⟩ | h
      all_goals
        (try (have z34 : ((m : Int) == 34) = false := by simp; omega))
        (try subst h')
        go_wp2_with fail
        first
        | (go_round
           case rel => exact ⟨k + 1, by omega, by go_num, HM2.out (by rw [HC.out]; simp <;> omega)⟩
           case measure => simp [intOf]; omega)
        | (go_ret
           exact ⟨ret_bool ((fun h => h.symm) (HF.out (by rw [HC.out]; simp <;> omega))), rfl⟩)
    · have HS := hid (showB_done (lo := lo) (l := l) (fun i x hi => HM.out i x (by
            have h1 := (List.getElem?_eq_some_iff.1 hi).1
            have := HN.out
            omega) hi))
      go_wp2_with fail
      go_ret
      exact ⟨ret_bool HS.out.symm, rfl⟩
theorem r11Titled (l : Tx) (hl : l.length ≤ 9223372036854775807) (w : World) : Calls Tryz.prog 50 #[.string (tx l)] w fun e w' => e = .returned (.bool (titleB l)) ∧ w = w' := by
  obtain ⟨n, hn⟩ : ∃ n, (tx l).size = n := ⟨_, rfl⟩
  have hln : l.length = n := by rw [← hn, tx_size]
  have HN := hid hln
  rw [hln] at hl
  clear hln
  by_cases hb : n < 1 ∨ 1024 < n
  · have HF := hid (show titleB l = false by unfold titleB; rw [HN.out]; rcases hb with h | h <;> simp <;> omega)
    rcases hb with h | h
    all_goals
      go_enter Tryz.func50, Tryz.ntmps50
      go_wp2_with fail
      go_ret
      exact ⟨ret_bool HF.out.symm, rfl⟩
  have hb1 : 1 ≤ n := by omega
  have hb2 : n ≤ 1024 := by omega
  have HT := hid (show titleB l = showB 33 l by unfold titleB; rw [HN.out, decide_eq_true hb1, decide_eq_true hb2]; rfl)
  clear hb
  go_enter Tryz.func50, Tryz.ntmps50
  go_wp2_with fail
  go_loop [3] (fun i => ∃ k : Nat, k ≤ n ∧ i = .int .i64 k ∧ Hid (∀ (i : Nat) (x : UInt8), i < k → l[i]? = some x → showC 33 x = true)) (fun i => n - (intOf i).toNat)
  case atStart => exact ⟨0, by omega, rfl, fun i x hi => absurd hi (Nat.not_lt_zero i)⟩
  case round =>
    obtain ⟨k, hk, rfl, HM⟩ := hrel
    by_cases hlt : k < n
    · obtain ⟨x, hx⟩ : ∃ x, l[k]? = some x := ⟨_, List.getElem?_eq_getElem (by rw [HN.out]; exact hlt)⟩
      have ix := run_ix l k x hx
      have hlt' : x.toNat < 256 := x.toNat_lt
      obtain ⟨m, hm⟩ : ∃ m, x.toNat = m := ⟨_, rfl⟩
      have HC := hid (show showC 33 x = (decide (33 ≤ m) && (decide (m ≤ 126) && decide (m ≠ 34))) by rw [showC_nat, hm])
      rw [hm] at ix hlt'
      have HF := hid (fun h => showB_step (lo := 33) (l := l) (k := k) (c := x) hx h)
      have HM2 : showC 33 x = true → Hid (∀ (i : Nat) (y : UInt8), i < k + 1 → l[i]? = some y → showC 33 y = true) := fun hx' i y hi hy => by
        rcases Nat.lt_succ_iff_lt_or_eq.1 hi with h | h
        · exact HM.out i y h hy
        · subst h; rw [hx] at hy; cases hy; exact hx'
      have HM2 := hid HM2
      clear hm hx HM
      have hp : m < 33 ∨ (33 ≤ m ∧ m = 34) ∨ (33 ≤ m ∧ m ≤ 126 ∧ m ≠ 34) ∨ 126 < m := by omega
      rcases hp with h | ⟨h, h'⟩ | ⟨h, h', h''⟩ | h
      all_goals
        (try (have z34 : ((m : Int) == 34) = false := by simp; omega))
        (try subst h')
        go_wp2_with fail
        first
        | (go_round
           case rel => exact ⟨k + 1, by omega, by go_num, HM2.out (by rw [HC.out]; simp <;> omega)⟩
           case measure => simp [intOf]; omega)
        | (go_ret
           exact ⟨ret_bool ((fun h => (HT.out.trans h).symm) (HF.out (by rw [HC.out]; simp <;> omega))), rfl⟩)
    · have HS := hid (showB_done (lo := 33) (l := l) (fun i x hi => HM.out i x (by
            have h1 := (List.getElem?_eq_some_iff.1 hi).1
            have := HN.out
            omega) hi))
      go_wp2_with fail
      go_ret
      exact ⟨ret_bool (HT.out.trans HS.out).symm, rfl⟩
end Go.Proofs.YthaibjefnclkjaaGreatDoor

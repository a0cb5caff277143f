/- The walks of names, Reg and Print of x86 instructions (the document's answer). Conditions: the library's variables as the program's text lays them. The walks of names and register (cond), of Reg and ThingText (the document's answer 08). Conditions: the library's variables as the program's text lays them. -/
import Derived.Test.YthaibjefnclkjaaGreatDoorAp14
import Derived.Test.YthaibjefnclkjaaGreatDoorAp12
import Derived.Deep.RegionHeld3
set_option linter.unusedVariables false
set_option maxRecDepth 100000
set_option maxHeartbeats 6400000
namespace Go.Proofs.YthaibjefnclkjaaGreatDoor
open Go.RowKit Go.Sort
theorem namesX_get {k:Nat} (h:k<15) (h':k<namesX.length):namesX[k]=regX k:=by
 unfold regX;rw [List.getD_eq_getElem?_getD,List.getElem?_eq_getElem h'];rfl
structure NamesX (w:World) (a:Option Addr):Prop where
 txs:Txs w a namesX
theorem NamesX.cell {w:World} {a:Option Addr} (h:NamesX w a) {k:Nat} (hk:k<15):w.cell? ⟨bk a,fo a+k,none⟩=some (.string (tx (regX k))):=by
 rw [h.txs.cell k (show k<namesX.length from hk),namesX_get hk]
theorem NamesX.idx {w:World} {a:Option Addr} (h:NamesX w a) {k:Nat} (hk:k<15) : ∀ w',(Instr.indexAt 44 (.slice a 15 15) (.int .i64 k)).run Tryz.prog w' = .ok (.pointer (some ⟨bk a,fo a+k,none⟩)) w':=h.txs.idx k hk 15
theorem NamesX.below {w w':World} {a:Option Addr} (h:NamesX w a) (hb:Below w.heap.size w w'):NamesX w' a:=⟨h.txs.below hb⟩
theorem r9Names (w:World):Calls Tryz.prog 62 #[] w fun e w'=>∃ a,e = .returned (.slice a 15 15)∧NamesX w' a∧Below w.heap.size w w':=by
 have E:=al w (.cells #[.string ⟨#[69,65,88]⟩,.string ⟨#[69,66,88]⟩,.string ⟨#[69,67,88]⟩,.string ⟨#[69,68,88]⟩,.string ⟨#[69,83,73]⟩,.string ⟨#[69,68,73]⟩,.string ⟨#[69,66,80]⟩,.string ⟨#[82,56,68]⟩,.string ⟨#[82,57,68]⟩,.string ⟨#[82,49,48,68]⟩,.string ⟨#[82,49,49,68]⟩,.string ⟨#[82,49,50,68]⟩,.string ⟨#[82,49,51,68]⟩,.string ⟨#[82,49,52,68]⟩,.string ⟨#[82,49,53,68]⟩] 9)
 go_enter Tryz.func62,Tryz.ntmps62
 go_wp2_with fail
 go_ret
 refine ⟨_,rfl,⟨⟨⟨fun _=>rfl,fun i hi=>?_⟩,by decide⟩⟩,E⟩
 simp only [World.cell?,bk_some,fo_some,heap_alloc_new,Nat.zero_add]
 rw [if_neg (by simp)]
 exact List.getElem?_toArray
theorem r9Reg (k:Nat) (h:k<15) (w:World):Calls Tryz.prog 71 #[.int .i64 k] w (Ret w (.tuple #[.string (tx (regX k)),.int .i64 0])):=by
 have h0:(0:Int)≤(k:Int):=by omega
 have h1:(k:Int)<15:=by omega
 go_enter Tryz.func71,Tryz.ntmps71
 go_wp2_with fail
 refine (r9Names _).mono ?_
 rintro e w1 ⟨a,rfl,T,B⟩
 have ix:=T.idx h
 have cx:=T.cell h
 go_wp2_with fail
 go_ret2
 exact ⟨rfl,B⟩
theorem r9Print_1 (loc:Tx) (hn:nameB loc=true) (imm:Int) (hb:n32B imm=true) (hc:checkX ⟨1,0,0,0,imm,loc,[],0⟩=true) (w:World) (g:Gl w) :
  Calls Tryz.prog 26 #[vI ⟨1,0,0,0,imm,loc,[],0⟩] w (Ret w (.tuple #[.string (tx (printX ⟨1,0,0,0,imm,loc,[],0⟩)),.int .i64 0])):=by
 have E1:=al w (mkI ⟨1,0,0,0,imm,loc,[],0⟩)
 have b0:=BxI.new w ⟨1,0,0,0,imm,loc,[],0⟩
 have g:=g.below E1
 have HE:=hid (errX_yes hc)
 have ll:=(nameB_cl hn).2
 have li:=itoa_len hb;have hbs:=n32B_spec hb
 have HLL:(⟨1,0,0,0,imm,loc,[],0⟩:Ins).loc.length≤9223372036854775807:=by simp <;> omega
 obtain ⟨t1,ht1⟩ : ∃ t:Tx,[77,79,86,32,91]++(loc)=t:=⟨_,rfl⟩
 have n1:t1.length=_:=(congrArg List.length ht1).symm.trans List.length_append
 have m1:t1.length≤100:=by rw [n1];(try simp only [List.length_cons,List.length_nil]);omega
 have c1 : ∀ w,(Op.stringOp .add ⟨#[77,79,86,32,91]⟩ (tx (loc))).run Tryz.prog w = .ok (.string (tx t1)) w:=run_catT [77,79,86,32,91] (loc) t1 ht1 (by omega)
 clear n1
 obtain ⟨t2,ht2⟩ : ∃ t:Tx,t1++[93,44,36]=t:=⟨_,rfl⟩
 have n2:t2.length=_:=(congrArg List.length ht2).symm.trans List.length_append
 have m2:t2.length≤150:=by rw [n2];(try simp only [List.length_cons,List.length_nil]);omega
 have c2 : ∀ w,(Op.stringOp .add (tx t1) ⟨#[93,44,36]⟩).run Tryz.prog w = .ok (.string (tx t2)) w:=run_catT t1 [93,44,36] t2 ht2 (by omega)
 clear n2
 obtain ⟨t3,ht3⟩ : ∃ t:Tx,t2++(Lib.itoa imm)=t:=⟨_,rfl⟩
 have n3:t3.length=_:=(congrArg List.length ht3).symm.trans List.length_append
 have m3:t3.length≤200:=by rw [n3];(try simp only [List.length_cons,List.length_nil]);omega
 have c3 : ∀ w,(Op.stringOp .add (tx t2) (tx (Lib.itoa imm))).run Tryz.prog w = .ok (.string (tx t3)) w:=run_catT t2 (Lib.itoa imm) t3 ht3 (by omega)
 clear n3
 have HP:=hid (show printX ⟨1,0,0,0,imm,loc,[],0⟩=t3 by rw [← ht3,← ht2,← ht1];rfl)
 clear ht1 ht2 ht3 hc hn hb
 go_enter Tryz.func26,Tryz.ntmps26
 go_wp2_with fail
 refine (r9Check ⟨1,0,0,0,imm,loc,[],0⟩ HLL _).mono ?_
 rintro x w1 ⟨rfl,E⟩
 rw [HE.out]
 have bb:=b0.below E;have g:=g.below E
 have B:=E1.trans (E.mono E1.size)
 obtain ⟨q0,q1,q2,q3,q4,q5,q6,q7⟩:=bb.cells
 clear b0 bb E1 E
 go_wp2_with fail
 have cA:=fun (d:Nat) (os:Array Obj)=>Calls.regrown_of (retc' (itoa_any imm (by omega) (by omega) (grow (redrawn w1 d) os) (g.below (below_regrown w1 d os))))
 have q1:=cell_regrown q1;have q2:=cell_regrown q2;have q4:=cell_regrown q4;have q5:=cell_regrown q5
 refine wp_region_quiet_below (by kernel_rfl) (by kernel_rfl) ?_
 repeat (go_big_quiet_step (exact cA _ _))
 refine wpQuiet_nil ?_
 intro _ hw'
 obtain ⟨⟨dq,osq⟩,hw''⟩:=hw'
 subst hw''
 have EQ':=below_regrown w1 dq osq
 have EZ:=B.trans (EQ'.mono B.size)
 generalize grow (redrawn w1 dq) osq=wq at *
 go_wp2_with fail
 go_ret2
 exact ⟨ret_spair (by rw [HP.out]) rfl,EZ⟩
theorem r9Print_2 (loc:Tx) (hn:nameB loc=true) (a:Nat) (ha:a<15) (hc:checkX ⟨2,0,(a:Int),0,0,loc,[],0⟩=true) (w:World) (g:Gl w) :
  Calls Tryz.prog 26 #[vI ⟨2,0,(a:Int),0,0,loc,[],0⟩] w (Ret w (.tuple #[.string (tx (printX ⟨2,0,(a:Int),0,0,loc,[],0⟩)),.int .i64 0])):=by
 have E1:=al w (mkI ⟨2,0,(a:Int),0,0,loc,[],0⟩)
 have b0:=BxI.new w ⟨2,0,(a:Int),0,0,loc,[],0⟩
 have g:=g.below E1
 have HE:=hid (errX_yes hc)
 have ll:=(nameB_cl hn).2
 have la:=regX_len ha;have h0:(0:Int)≤(a:Int):=by omega
 have h1:(a:Int)<15:=by omega
 have HLL:(⟨2,0,(a:Int),0,0,loc,[],0⟩:Ins).loc.length≤9223372036854775807:=by simp <;> omega
 obtain ⟨t1,ht1⟩ : ∃ t:Tx,[77,79,86,32,91]++(loc)=t:=⟨_,rfl⟩
 have n1:t1.length=_:=(congrArg List.length ht1).symm.trans List.length_append
 have m1:t1.length≤100:=by rw [n1];(try simp only [List.length_cons,List.length_nil]);omega
 have c1 : ∀ w,(Op.stringOp .add ⟨#[77,79,86,32,91]⟩ (tx (loc))).run Tryz.prog w = .ok (.string (tx t1)) w:=run_catT [77,79,86,32,91] (loc) t1 ht1 (by omega)
 clear n1
 obtain ⟨t2,ht2⟩ : ∃ t:Tx,t1++[93,44]=t:=⟨_,rfl⟩
 have n2:t2.length=_:=(congrArg List.length ht2).symm.trans List.length_append
 have m2:t2.length≤150:=by rw [n2];(try simp only [List.length_cons,List.length_nil]);omega
 have c2 : ∀ w,(Op.stringOp .add (tx t1) ⟨#[93,44]⟩).run Tryz.prog w = .ok (.string (tx t2)) w:=run_catT t1 [93,44] t2 ht2 (by omega)
 clear n2
 obtain ⟨t3,ht3⟩ : ∃ t:Tx,t2++(regX a)=t:=⟨_,rfl⟩
 have n3:t3.length=_:=(congrArg List.length ht3).symm.trans List.length_append
 have m3:t3.length≤200:=by rw [n3];(try simp only [List.length_cons,List.length_nil]);omega
 have c3 : ∀ w,(Op.stringOp .add (tx t2) (tx (regX a))).run Tryz.prog w = .ok (.string (tx t3)) w:=run_catT t2 (regX a) t3 ht3 (by omega)
 clear n3
 have HP:=hid (show printX ⟨2,0,(a:Int),0,0,loc,[],0⟩=t3 by rw [← ht3,← ht2,← ht1];simp [printX,rX_nat])
 clear ht1 ht2 ht3 hc hn
 go_enter Tryz.func26,Tryz.ntmps26
 go_wp2_with fail
 refine (r9Check ⟨2,0,(a:Int),0,0,loc,[],0⟩ HLL _).mono ?_
 rintro x w1 ⟨rfl,E⟩
 rw [HE.out]
 have bb:=b0.below E;have g:=g.below E
 have B:=E1.trans (E.mono E1.size)
 obtain ⟨q0,q1,q2,q3,q4,q5,q6,q7⟩:=bb.cells
 clear b0 bb E1 E
 go_wp2_with fail
 obtain ⟨wo,hwo⟩ : ∃ wo:World,wo=w1.drew:=⟨_,rfl⟩
 have B:Below w.heap.size w wo:=by rw [hwo];exact bel_drew B
 have g:Gl wo:=by rw [hwo];exact g.below (below_drewN w1 1)
 have q2:wo.cell? ⟨w.heap.size,2,none⟩=some (.int .i64 (a:Int)):=by rw [hwo];simpa using q2
 have q5:wo.cell? ⟨w.heap.size,5,none⟩=some (.string (tx loc)):=by rw [hwo];simpa using q5
 subst hwo
 have HA:=hid ha
 clear ha
 clear HE ll la HLL m1 m2 m3 q0 q1 q3 q4 q6 q7
 go_region_with
  (first
   | (go_at_call 62;refine (r9Names _).mono ?_;rintro e w4 ⟨an,rfl,T,E4⟩;have ix:=T.idx HA.out;have cx:=T.cell HA.out;have q2:=(E4.cell (cell?_lt q2)).trans q2;have q5:=(E4.cell (cell?_lt q5)).trans q5;have B:=ext_trans B E4;have g:=g.below E4;clear E4 T)
   | (go_at_call 30;refine (itoa_any imm (by omega) (by omega) _ g).mono ?_;rintro e w5 ⟨rfl,E5⟩;have q2:=(E5.cell (cell?_lt q2)).trans q2;have q5:=(E5.cell (cell?_lt q5)).trans q5;(try (have cx:=(E5.cell (cell?_lt cx)).trans cx));have B:=ext_trans B E5;have g:=g.below E5;clear E5))
 all_goals
  go_wp2_with fail
  (try go_simp)
  go_ret2
  exact ⟨ret_spair (by rw [HP.out]) rfl,by with_reducible assumption⟩
theorem r9Print_3 (loc:Tx) (hn:nameB loc=true) (a:Nat) (ha:a<15) (hc:checkX ⟨3,(a:Int),0,0,0,loc,[],0⟩=true) (w:World) (g:Gl w) :
  Calls Tryz.prog 26 #[vI ⟨3,(a:Int),0,0,0,loc,[],0⟩] w (Ret w (.tuple #[.string (tx (printX ⟨3,(a:Int),0,0,0,loc,[],0⟩)),.int .i64 0])):=by
 have E1:=al w (mkI ⟨3,(a:Int),0,0,0,loc,[],0⟩)
 have b0:=BxI.new w ⟨3,(a:Int),0,0,0,loc,[],0⟩
 have g:=g.below E1
 have HE:=hid (errX_yes hc)
 have ll:=(nameB_cl hn).2
 have la:=regX_len ha;have h0:(0:Int)≤(a:Int):=by omega
 have h1:(a:Int)<15:=by omega
 have HLL:(⟨3,(a:Int),0,0,0,loc,[],0⟩:Ins).loc.length≤9223372036854775807:=by simp <;> omega
 obtain ⟨t1,ht1⟩ : ∃ t:Tx,[77,79,86,32]++(regX a)=t:=⟨_,rfl⟩
 have n1:t1.length=_:=(congrArg List.length ht1).symm.trans List.length_append
 have m1:t1.length≤100:=by rw [n1];(try simp only [List.length_cons,List.length_nil]);omega
 have c1 : ∀ w,(Op.stringOp .add ⟨#[77,79,86,32]⟩ (tx (regX a))).run Tryz.prog w = .ok (.string (tx t1)) w:=run_catT [77,79,86,32] (regX a) t1 ht1 (by omega)
 clear n1
 obtain ⟨t2,ht2⟩ : ∃ t:Tx,t1++[44,91]=t:=⟨_,rfl⟩
 have n2:t2.length=_:=(congrArg List.length ht2).symm.trans List.length_append
 have m2:t2.length≤150:=by rw [n2];(try simp only [List.length_cons,List.length_nil]);omega
 have c2 : ∀ w,(Op.stringOp .add (tx t1) ⟨#[44,91]⟩).run Tryz.prog w = .ok (.string (tx t2)) w:=run_catT t1 [44,91] t2 ht2 (by omega)
 clear n2
 obtain ⟨t3,ht3⟩ : ∃ t:Tx,t2++(loc)=t:=⟨_,rfl⟩
 have n3:t3.length=_:=(congrArg List.length ht3).symm.trans List.length_append
 have m3:t3.length≤200:=by rw [n3];(try simp only [List.length_cons,List.length_nil]);omega
 have c3 : ∀ w,(Op.stringOp .add (tx t2) (tx (loc))).run Tryz.prog w = .ok (.string (tx t3)) w:=run_catT t2 (loc) t3 ht3 (by omega)
 clear n3
 obtain ⟨t4,ht4⟩ : ∃ t:Tx,t3++[93]=t:=⟨_,rfl⟩
 have n4:t4.length=_:=(congrArg List.length ht4).symm.trans List.length_append
 have m4:t4.length≤250:=by rw [n4];(try simp only [List.length_cons,List.length_nil]);omega
 have c4 : ∀ w,(Op.stringOp .add (tx t3) ⟨#[93]⟩).run Tryz.prog w = .ok (.string (tx t4)) w:=run_catT t3 [93] t4 ht4 (by omega)
 clear n4
 have HP:=hid (show printX ⟨3,(a:Int),0,0,0,loc,[],0⟩=t4 by rw [← ht4,← ht3,← ht2,← ht1];simp [printX,rX_nat])
 clear ht1 ht2 ht3 ht4 hc hn
 go_enter Tryz.func26,Tryz.ntmps26
 go_wp2_with fail
 refine (r9Check ⟨3,(a:Int),0,0,0,loc,[],0⟩ HLL _).mono ?_
 rintro x w1 ⟨rfl,E⟩
 rw [HE.out]
 have bb:=b0.below E;have g:=g.below E
 have B:=E1.trans (E.mono E1.size)
 obtain ⟨q0,q1,q2,q3,q4,q5,q6,q7⟩:=bb.cells
 clear b0 bb E1 E
 go_wp2_with fail
 obtain ⟨wo,hwo⟩ : ∃ wo:World,wo=w1.drew:=⟨_,rfl⟩
 have B:Below w.heap.size w wo:=by rw [hwo];exact bel_drew B
 have g:Gl wo:=by rw [hwo];exact g.below (below_drewN w1 1)
 have q1:wo.cell? ⟨w.heap.size,1,none⟩=some (.int .i64 (a:Int)):=by rw [hwo];simpa using q1
 have q5:wo.cell? ⟨w.heap.size,5,none⟩=some (.string (tx loc)):=by rw [hwo];simpa using q5
 subst hwo
 have HA:=hid ha
 clear ha
 clear HE ll la HLL m1 m2 m3 m4 q0 q2 q3 q4 q6 q7
 go_region_with
  (first
   | (go_at_call 62;refine (r9Names _).mono ?_;rintro e w4 ⟨an,rfl,T,E4⟩;have ix:=T.idx HA.out;have cx:=T.cell HA.out;have q1:=(E4.cell (cell?_lt q1)).trans q1;have q5:=(E4.cell (cell?_lt q5)).trans q5;have B:=ext_trans B E4;have g:=g.below E4;clear E4 T)
   | (go_at_call 30;refine (itoa_any imm (by omega) (by omega) _ g).mono ?_;rintro e w5 ⟨rfl,E5⟩;have q1:=(E5.cell (cell?_lt q1)).trans q1;have q5:=(E5.cell (cell?_lt q5)).trans q5;(try (have cx:=(E5.cell (cell?_lt cx)).trans cx));have B:=ext_trans B E5;have g:=g.below E5;clear E5))
 all_goals
  go_wp2_with fail
  (try go_simp)
  go_ret2
  exact ⟨ret_spair (by rw [HP.out]) rfl,by with_reducible assumption⟩
theorem r9Print_4 (imm:Int) (hb:n32B imm=true) (a:Nat) (ha:a<15) (hc:checkX ⟨4,(a:Int),0,0,imm,[],[],0⟩=true) (w:World) (g:Gl w) :
  Calls Tryz.prog 26 #[vI ⟨4,(a:Int),0,0,imm,[],[],0⟩] w (Ret w (.tuple #[.string (tx (printX ⟨4,(a:Int),0,0,imm,[],[],0⟩)),.int .i64 0])):=by
 have E1:=al w (mkI ⟨4,(a:Int),0,0,imm,[],[],0⟩)
 have b0:=BxI.new w ⟨4,(a:Int),0,0,imm,[],[],0⟩
 have g:=g.below E1
 have HE:=hid (errX_yes hc)
 have li:=itoa_len hb;have hbs:=n32B_spec hb
 have la:=regX_len ha;have h0:(0:Int)≤(a:Int):=by omega
 have h1:(a:Int)<15:=by omega
 have HLL:(⟨4,(a:Int),0,0,imm,[],[],0⟩:Ins).loc.length≤9223372036854775807:=by simp
 obtain ⟨t1,ht1⟩ : ∃ t:Tx,[77,79,86,32]++(regX a)=t:=⟨_,rfl⟩
 have n1:t1.length=_:=(congrArg List.length ht1).symm.trans List.length_append
 have m1:t1.length≤100:=by rw [n1];(try simp only [List.length_cons,List.length_nil]);omega
 have c1 : ∀ w,(Op.stringOp .add ⟨#[77,79,86,32]⟩ (tx (regX a))).run Tryz.prog w = .ok (.string (tx t1)) w:=run_catT [77,79,86,32] (regX a) t1 ht1 (by omega)
 clear n1
 obtain ⟨t2,ht2⟩ : ∃ t:Tx,t1++[44,36]=t:=⟨_,rfl⟩
 have n2:t2.length=_:=(congrArg List.length ht2).symm.trans List.length_append
 have m2:t2.length≤150:=by rw [n2];(try simp only [List.length_cons,List.length_nil]);omega
 have c2 : ∀ w,(Op.stringOp .add (tx t1) ⟨#[44,36]⟩).run Tryz.prog w = .ok (.string (tx t2)) w:=run_catT t1 [44,36] t2 ht2 (by omega)
 clear n2
 obtain ⟨t3,ht3⟩ : ∃ t:Tx,t2++(Lib.itoa imm)=t:=⟨_,rfl⟩
 have n3:t3.length=_:=(congrArg List.length ht3).symm.trans List.length_append
 have m3:t3.length≤200:=by rw [n3];(try simp only [List.length_cons,List.length_nil]);omega
 have c3 : ∀ w,(Op.stringOp .add (tx t2) (tx (Lib.itoa imm))).run Tryz.prog w = .ok (.string (tx t3)) w:=run_catT t2 (Lib.itoa imm) t3 ht3 (by omega)
 clear n3
 have HP:=hid (show printX ⟨4,(a:Int),0,0,imm,[],[],0⟩=t3 by rw [← ht3,← ht2,← ht1];simp [printX,rX_nat])
 clear ht1 ht2 ht3 hc hb
 go_enter Tryz.func26,Tryz.ntmps26
 go_wp2_with fail
 refine (r9Check ⟨4,(a:Int),0,0,imm,[],[],0⟩ HLL _).mono ?_
 rintro x w1 ⟨rfl,E⟩
 rw [HE.out]
 have bb:=b0.below E;have g:=g.below E
 have B:=E1.trans (E.mono E1.size)
 obtain ⟨q0,q1,q2,q3,q4,q5,q6,q7⟩:=bb.cells
 clear b0 bb E1 E
 go_wp2_with fail
 obtain ⟨wo,hwo⟩ : ∃ wo:World,wo=w1.drew:=⟨_,rfl⟩
 have B:Below w.heap.size w wo:=by rw [hwo];exact bel_drew B
 have g:Gl wo:=by rw [hwo];exact g.below (below_drewN w1 1)
 have q1:wo.cell? ⟨w.heap.size,1,none⟩=some (.int .i64 (a:Int)):=by rw [hwo];simpa using q1
 have q4:wo.cell? ⟨w.heap.size,4,none⟩=some (.int .i64 imm):=by rw [hwo];simpa using q4
 subst hwo
 have HA:=hid ha
 clear ha
 clear HE li la HLL m1 m2 m3 q0 q2 q3 q5 q6 q7
 go_region_with
  (first
   | (go_at_call 62;refine (r9Names _).mono ?_;rintro e w4 ⟨an,rfl,T,E4⟩;have ix:=T.idx HA.out;have cx:=T.cell HA.out;have q1:=(E4.cell (cell?_lt q1)).trans q1;have q4:=(E4.cell (cell?_lt q4)).trans q4;have B:=ext_trans B E4;have g:=g.below E4;clear E4 T)
   | (go_at_call 30;refine (itoa_any imm (by omega) (by omega) _ g).mono ?_;rintro e w5 ⟨rfl,E5⟩;have q1:=(E5.cell (cell?_lt q1)).trans q1;have q4:=(E5.cell (cell?_lt q4)).trans q4;(try (have cx:=(E5.cell (cell?_lt cx)).trans cx));have B:=ext_trans B E5;have g:=g.below E5;clear E5))
 all_goals
  go_wp2_with fail
  (try go_simp)
  go_ret2
  exact ⟨ret_spair (by rw [HP.out]) rfl,by with_reducible assumption⟩
theorem r9Print_5 (w:World) :
  Calls Tryz.prog 26 #[vI ⟨5,0,0,0,0,[],[],0⟩] w (Ret w (.tuple #[.string (tx (printX ⟨5,0,0,0,0,[],[],0⟩)),.int .i64 0])):=by
 have E1:=al w (mkI ⟨5,0,0,0,0,[],[],0⟩)
 have b0:=BxI.new w ⟨5,0,0,0,0,[],[],0⟩
 have HE:=hid (errX_yes (show checkX ⟨5,0,0,0,0,[],[],0⟩=true from rfl))
 go_enter Tryz.func26,Tryz.ntmps26
 go_wp2_with fail
 refine (r9Check ⟨5,0,0,0,0,[],[],0⟩ (by simp) _).mono ?_
 rintro x w1 ⟨rfl,E⟩
 rw [HE.out]
 have bb:=b0.below E
 have B:=E1.trans (E.mono E1.size)
 obtain ⟨q0,q1,q2,q3,q4,q5,q6,q7⟩:=bb.cells
 clear b0 bb E1 E
 go_wp2_with fail
 go_ret2
 exact ⟨rfl,B⟩
theorem r9Print_no (i:Ins) (hl:i.loc.length≤9223372036854775807) (hc:checkX i=false) (w:World) :
  Calls Tryz.prog 26 #[vI i] w (Ret w (.tuple #[.string (tx []),.int .i64 91])):=by
 have E1:=al w (mkI i)
 have b0:=BxI.new w i
 have HE:=hid (errX_no hc)
 have XC:=hid (r9Check i hl)
 clear hc hl
 go_enter Tryz.func26,Tryz.ntmps26
 go_wp2_with fail
 refine (XC.out _).mono ?_
 rintro x w1 ⟨rfl,E⟩
 rw [HE.out]
 have B:=E1.trans (E.mono E1.size)
 go_wp2_with fail
 go_ret2
 exact ⟨rfl,B⟩
theorem r9Print_yes (i:Ins) (hc:checkX i=true) (w:World) (g:Gl w) :
  Calls Tryz.prog 26 #[vI i] w (Ret w (.tuple #[.string (tx (printX i)),.int .i64 0])):=by
 rcases okX_cases hc with ⟨imm,loc,rfl,hn,hb⟩|⟨a,loc,rfl,hn,ha⟩|⟨a,loc,rfl,hn,ha⟩|⟨a,imm,rfl,hb,ha⟩|rfl
 ·exact r9Print_1 loc hn imm hb hc w g
 ·exact r9Print_2 loc hn a ha hc w g
 ·exact r9Print_3 loc hn a ha hc w g
 ·exact r9Print_4 imm hb a ha hc w g
 ·exact r9Print_5 w
theorem condNames (w:World):Calls Tryz.prog 143 #[] w fun e w'=>∃ a,e = .returned (.slice a 15 15)∧NamesX w' a∧Below w.heap.size w w':=by
 have E:=al w (.cells #[.string ⟨#[69,65,88]⟩,.string ⟨#[69,66,88]⟩,.string ⟨#[69,67,88]⟩,.string ⟨#[69,68,88]⟩,.string ⟨#[69,83,73]⟩,.string ⟨#[69,68,73]⟩,.string ⟨#[69,66,80]⟩,.string ⟨#[82,56,68]⟩,.string ⟨#[82,57,68]⟩,.string ⟨#[82,49,48,68]⟩,.string ⟨#[82,49,49,68]⟩,.string ⟨#[82,49,50,68]⟩,.string ⟨#[82,49,51,68]⟩,.string ⟨#[82,49,52,68]⟩,.string ⟨#[82,49,53,68]⟩] 9)
 go_enter Tryz.func143,Tryz.ntmps143
 go_wp2_with fail
 go_ret
 refine ⟨_,rfl,⟨⟨⟨fun _=>rfl,fun i hi=>?_⟩,by decide⟩⟩,E⟩
 simp only [World.cell?,bk_some,fo_some,heap_alloc_new,Nat.zero_add]
 rw [if_neg (by simp)]
 exact List.getElem?_toArray
theorem condRegister (arch:Int) (k:Nat) (hk:(k:Int)<regsN arch) (w:World):Calls Tryz.prog 108 #[.int .i64 arch,.int .i64 k] w (Ret w (.string (tx (regA arch k)))):=by
 by_cases h1:arch=1
 ·subst h1
  have h15:k<15:=by unfold regsN at hk;rw [if_pos rfl] at hk;omega
  have h0:(0:Int)≤(k:Int):=by omega
  have h1:(k:Int)<15:=by omega
  have e:regA 1 k=regX k:=rfl
  rw [e]
  clear e hk
  go_enter Tryz.func108,Tryz.ntmps108
  go_wp2_with fail
  refine (condNames _).mono ?_
  rintro e w1 ⟨a,rfl,T,B⟩
  have ix:=T.idx h15
  have cx:=T.cell h15
  go_wp2_with fail
  go_ret
  exact ⟨rfl,B⟩
 ·have z1:(arch==1)=false:=by simpa using h1
  have e:regA arch k=regT k:=by unfold regA;rw [if_neg h1]
  have h32:k<32:=by unfold regsN at hk;rw [if_neg h1] at hk;omega
  rw [e]
  have cx:=cat_x k
  clear e hk h1
  go_enter Tryz.func108,Tryz.ntmps108
  go_wp2_with (go_at_call 30;refine (itoa_small k (by omega) _).mono ?_;rintro e w' ⟨rfl,rfl⟩)
  go_ret
  exact ⟨rfl,Below.refl _ _⟩
theorem cat_R (k:Nat) (h:k<100) : ∀ w,(Op.stringOp .add ⟨#[82]⟩ (tx (decN k))).run Tryz.prog w = .ok (.string (tx (82::decN k))) w:=run_cat [82] (decN k) (by have:=decN_len k;simp;omega)
theorem cat_RD (k:Nat) (h:k<100) : ∀ w,(Op.stringOp .add (tx (82::decN k)) ⟨#[68]⟩).run Tryz.prog w = .ok (.string (tx (82::decN k++[68]))) w:=run_cat (82::decN k) [68] (by have:=decN_len k;simp;omega)
theorem regX_hi_fin : ∀ k:Fin 15,7≤k.val→82::decN (k.val+1)++[68]=regX k.val:=by decide +kernel
theorem r08Reg (arch:Int) (k:Nat) (hk:(k:Int)<regsN arch) (w:World):Calls Tryz.prog 145 #[.int .i64 arch,.int .i64 k] w (RetQ w (.string (tx (regA arch k)))):=by
 by_cases h1:arch=1
 ·subst h1
  have h15:k<15:=by unfold regsN at hk;rw [if_pos rfl] at hk;omega
  have e:regA 1 k=regX k:=rfl
  rw [e]
  clear e hk
  by_cases h7:7≤k
  ·have e:=regX_hi_fin ⟨k,h15⟩ h7
   have z7:(7:Int)≤k:=by omega
   have c1:=cat_R (k+1) (by omega)
   simp only at e
   have c2 : ∀ w,(Op.stringOp .add (tx (82::decN (k+1))) ⟨#[68]⟩).run Tryz.prog w = .ok (.string (tx (regX k))) w:=fun w=>by rw [← e];exact cat_RD (k+1) (by omega) w
   have hI:=itoa_small (k+1) (by omega)
   rw [show ((k+1:Nat):Int)=(k:Int)+1 by omega] at hI
   have hI:=hid hI
   clear e
   have hkk:(k:Int)+1≤100:=by omega
   go_enter Tryz.func145,Tryz.ntmps145
   go_wp2_with (go_at_call 30;refine (hI.out _).mono ?_;rintro e w' ⟨rfl,rfl⟩)
   go_ret
   exact ⟨rfl,(by repeat (first|exact QW.refl _|refine QW.d ?_ _))⟩
  ·have h:k=0∨k=1∨k=2∨k=3∨k=4∨k=5∨k=6:=by omega
   clear h15 h7
   rcases h with rfl|rfl|rfl|rfl|rfl|rfl|rfl
   all_goals
    go_enter Tryz.func145,Tryz.ntmps145
    go_wp2_with fail
    go_ret
    exact ⟨ret_str (by decide +kernel),(by repeat (first|exact QW.refl _|refine QW.d ?_ _))⟩
 ·have z1:(arch != 1)=true:=by simpa using h1
  have e:regA arch k=regT k:=by unfold regA;rw [if_neg h1]
  have h32:k<32:=by unfold regsN at hk;rw [if_neg h1] at hk;omega
  rw [e]
  have cx:=cat_x k
  clear e hk h1
  go_enter Tryz.func145,Tryz.ntmps145
  go_wp2_with (go_at_call 30;refine (itoa_small k (by omega) _).mono ?_;rintro e w' ⟨rfl,rfl⟩)
  go_ret
  exact ⟨rfl,(by repeat (first|exact QW.refl _|refine QW.d ?_ _))⟩
theorem thText_loc {arch:Int} {t:Th} (h:t.thread = -1):thText arch t=t.loc:=by unfold thText;rw [if_pos h]
theorem thText_reg {arch:Int} (i k:Nat):thText arch ⟨i,k,[]⟩=Lib.itoa i++[58]++regA arch k:=by
 unfold thText;rw [if_neg (by simp only;omega)];simp
theorem r08ThText (arch:Int) (t:Th) (h:thingB arch t=true) (w:World) (g:Gl w):Calls Tryz.prog 114 #[.int .i64 arch,vTh t] w (Ret w (.string (tx (thText arch t)))):=by
 rcases thingB_cases h with ⟨h1,h2,h3⟩|⟨i,k,rfl,hi,hk⟩
 ·obtain ⟨th,rg,loc⟩:=t
  simp only at h1
  subst h1
  have B:=al w (mkTh ⟨-1,rg,loc⟩)
  clear h h2 h3
  go_enter Tryz.func114,Tryz.ntmps114
  go_wp2_with fail
  go_ret
  exact ⟨rfl,blN⟩
 ·have B:=al w (.cells #[.int .i64 i,.int .i64 k,.string (tx [])] 32)
  have b0:=BxL.new w #[.int .i64 i,.int .i64 k,.string (tx [])] 32
  have g:=g.below B
  have z1:((i:Int)==-1)=false:=by simp <;> omega
  have l1:=Lib.itoa_length_le (i:Int) (by omega) (by omega)
  have l2:=regA_len (arch:=arch) (k:=k) hk
  obtain ⟨s1,hs1⟩ : ∃ s1,Lib.itoa (i:Int)=s1:=⟨_,rfl⟩
  obtain ⟨s2,hs2⟩ : ∃ s2,regA arch k=s2:=⟨_,rfl⟩
  rw [hs1] at l1;rw [hs2] at l2
  have IT:=hid (show ∀ (w:World),Gl w→Calls Tryz.prog 30 #[.int .i64 i] w (Ret w (.string (tx s1))) from fun w g=>hs1▸itoa_any (i:Int) (by omega) (by omega) w g)
  have RG:=hid (show ∀ (w:World),Calls Tryz.prog 145 #[.int .i64 arch,.int .i64 k] w (Ret w (.string (tx s2))) from fun w=>(r08Reg arch k hk w).mono fun e w' hh=>⟨by rw [hh.1,hs2],hh.2.below⟩)
  obtain ⟨t1,ht1⟩ : ∃ t:Tx,s1++[58]=t:=⟨_,rfl⟩
  have n1:t1.length≤22:=by rw [← ht1];simp;omega
  have c1 : ∀ w,(Op.stringOp .add (tx s1) ⟨#[58]⟩).run Tryz.prog w = .ok (.string (tx t1)) w:=run_catT s1 [58] t1 ht1 (by omega)
  obtain ⟨t2,ht2⟩ : ∃ t:Tx,t1++s2=t:=⟨_,rfl⟩
  have n2:t2.length≤30:=by rw [← ht2];simp;omega
  have c2 : ∀ w,(Op.stringOp .add (tx t1) (tx s2)).run Tryz.prog w = .ok (.string (tx t2)) w:=run_catT t1 s2 t2 ht2 (by omega)
  have E:=hid (show thText arch ⟨i,k,[]⟩=t2 by rw [thText_reg,hs1,hs2,ht1,ht2])
  have QQ:=hid (And.intro B (And.intro b0 g))
  clear hs1 hs2 h B b0 g l1 l2 ht1 ht2 n1 n2
  go_enter Tryz.func114,Tryz.ntmps114
  go_wp2_with fail
  obtain ⟨B,b0,g⟩:=QQ.out
  generalize w.alloc (.cells #[.int .i64 i,.int .i64 k,.string (tx [])] 32)=W at *
  have q0:=b0.get 0 _ rfl;have q1:=b0.get 1 _ rfl
  have q0:=cell_regrown q0;have q1:=cell_regrown q1
  have cA:=fun (d:Nat) (os:Array Obj)=>Calls.regrown_of (retc' (IT.out (grow (redrawn W d) os) (g.below (below_regrown W d os))))
  have cB:=fun (d:Nat) (os:Array Obj)=>Calls.regrown_of (retc' (RG.out (grow (redrawn W d) os)))
  clear QQ b0
  refine wp_region_quiet_below (by kernel_rfl) (by kernel_rfl) ?_
  repeat (go_big_quiet_step (first|exact cA _ _|exact cB _ _))
  refine wpQuiet_nil ?_
  intro _ hw'
  obtain ⟨⟨dq,osq⟩,hw''⟩:=hw'
  subst hw''
  have EQ':=below_regrown W dq osq
  have EZ:=B.trans (EQ'.mono B.size)
  generalize grow (redrawn W dq) osq=wq at *
  go_wp2_with fail
  go_ret
  exact ⟨ret_str (by rw [E.out]),EZ⟩
end Go.Proofs.YthaibjefnclkjaaGreatDoor

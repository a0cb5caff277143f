/- The walks of register (program), Reg and first (document). Conditions: a line that may be; the library's variables as laid. A file's text, part by part, and how long the parts are. Plain lists; no program, no condition. -/
import Derived.Test.YthaibjefnclkjaaGreatDoorAp30
import Derived.Test.YthaibjefnclkjaaGreatDoorAp31
set_option linter.unusedVariables false
set_option maxRecDepth 100000
set_option maxHeartbeats 1600000
namespace Go.Proofs.YthaibjefnclkjaaGreatDoor
open Go.RowKit Go.Sort
theorem r9Reg_no (n:Int) (h:15≤n) (w:World):Calls Tryz.prog 71 #[.int .i64 n] w (Ret w (.tuple #[.string (tx []),.int .i64 90])):=by
 have h0:decide (n<0)=false:=by simp;omega
 have h1:decide (15≤n)=true:=by simp;omega
 go_enter Tryz.func71,Tryz.ntmps71
 go_wp2_with fail
 (try go_simp)
 go_ret2
 exact ⟨rfl,Below.refl _ _⟩
def regK (arch:Int) (k:Nat):Prop:=(arch=1∧k<15)∨(arch=2∧k<32)
theorem regK_len {arch:Int} {k:Nat} (h:regK arch k):(regT' arch k).length≤5:=by
 unfold regT'
 rcases h with ⟨h1,h2⟩|⟨h1,h2⟩
 ·rw [if_neg (by omega),rX_nat];have:=regX_len h2;omega
 ·rw [if_pos h1];unfold rT;rw [Int.toNat_natCast];exact regT_len h2
theorem fileReg (arch:Int) (k:Nat) (h:regK arch k) (w:World) (g:Gl w):Calls Tryz.prog 31 #[.int .i64 arch,.int .i64 k] w (Ret w (.string (tx (regT' arch k)))):=by
 rcases h with ⟨h1,h2⟩|⟨h1,h2⟩
 ·have CK:=hid (xReg k h2 w g)
  have HZ:=hid (show regT' arch k=regX k by unfold regT';rw [if_neg (by omega),rX_nat])
  have z:(arch==1)=true:=by simp;omega
  clear h1 g
  go_enter Tryz.func31,Tryz.ntmps31
  go_wp2_with fail
  refine CK.out.mono ?_
  rintro e w2 ⟨rfl,E⟩
  go_wp2_with fail
  (try go_simp)
  go_ret
  rw [HZ.out]
  exact ⟨rfl,E.below⟩
 ·have CK:=hid (progReg k h2 w)
  have HZ:=hid (show regT' arch k=regT k by unfold regT';rw [if_pos h1];unfold rT;rw [Int.toNat_natCast])
  have z:(arch==1)=false:=by simp;omega
  clear h1 g
  go_enter Tryz.func31,Tryz.ntmps31
  go_wp2_with fail
  refine CK.out.mono ?_
  rintro e w2 ⟨rfl,rfl⟩
  go_wp2_with fail
  (try go_simp)
  go_ret
  rw [HZ.out]
  exact ⟨rfl,Below.refl _ _⟩
theorem firstB_cases {arch:Int} {n:Nat} {x:Ini} (ha:archB arch=true) (hn:n≤16) (h:firstB arch n x=true) :
  (∃ loc nn,x=⟨-1,0,loc,[],nn⟩∧nameB loc=true∧n32B nn=true)∨(∃ (i k:Nat) (v:Tx) (nn:Int),x=⟨i,k,[],v,nn⟩∧i<16∧i<n∧regK arch k∧((v≠[]∧nameB v=true∧nn=0)∨(v = []∧n32B nn=true))):=by
 obtain ⟨th,rg,loc,v,nn⟩:=x
 unfold firstB at h
 simp only at h
 by_cases h1:th = -1
 ·rw [if_pos h1] at h
  simp only [Bool.and_eq_true,decide_eq_true_eq] at h
  exact .inl ⟨loc,nn,by rw [h1,h.2.1,h.2.2.1],h.1,h.2.2.2⟩
 rw [if_neg h1] at h
 by_cases h2:th<0∨(n:Int)≤th∨loc≠[]
 ·rw [if_pos h2] at h;cases h
 rw [if_neg h2] at h
 have h2a:0≤th:=by omega
 have h2b:th<(n:Int):=by omega
 have h2c:loc = []:=by
  by_cases e:loc = []
  ·exact e
  ·exact absurd (.inr (.inr e)) h2
 unfold archB at ha
 simp only [Bool.or_eq_true,decide_eq_true_eq] at ha
 by_cases h3:(if arch=2 then rg<1∨31<rg else rg<0∨14<rg)
 ·rw [if_pos h3] at h;cases h
 rw [if_neg h3] at h
 have hk:regK arch rg.toNat∧0≤rg:=by
  rcases ha with ha|ha
  ·rw [if_neg (by omega)] at h3
   exact ⟨.inl ⟨ha,by omega⟩,by omega⟩
  ·rw [if_pos ha] at h3
   exact ⟨.inr ⟨ha,by omega⟩,by omega⟩
 refine .inr ⟨th.toNat,rg.toNat,v,nn,?_,by omega,by omega,hk.1,?_⟩
 ·rw [h2c,show ((th.toNat:Nat):Int)=th by omega,show ((rg.toNat:Nat):Int)=rg by have:=hk.2;omega]
 ·by_cases hv:v = []
  ·rw [if_neg (by simpa using hv)] at h;exact .inr ⟨hv,h⟩
  ·rw [if_pos hv] at h
   simp only [Bool.and_eq_true,decide_eq_true_eq] at h
   exact .inl ⟨hv,h.1,h.2⟩
theorem i16_len (i:Nat) (h:i<16):(Lib.itoa (i:Int)).length≤21:=Lib.itoa_length_le (i:Int) (by omega) (by omega)
theorem initT_len {arch:Int} {n:Nat} {x:Ini} (ha:archB arch=true) (hn:n≤16) (h:firstB arch n x=true):(initT arch x).length≤100:=by
 rcases firstB_cases ha hn h with ⟨loc,nn,rfl,h1,h2⟩|⟨i,k,v,nn,rfl,h1,-,h2,h3⟩
 ·unfold initT
  have a:=(nameB_cl h1).2;have b:=itoa_len h2
  simp only [if_true,List.length_append,List.length_cons,List.length_nil];omega
 ·unfold initT
  have a:=i16_len i h1;have b:=regK_len h2
  simp only [if_neg (show ¬ ((i:Int) = -1) by omega)]
  rcases h3 with ⟨h4,h5,-⟩|⟨h4,h5⟩
  ·have c:=(nameB_cl h5).2
   simp only [if_neg h4,List.length_append,List.length_cons,List.length_nil];omega
  ·have c:=itoa_len h5
   simp only [if_pos h4,List.length_append,List.length_cons,List.length_nil];omega
theorem alloc_size (w:World) (o:Obj):(w.alloc o).heap.size=w.heap.size+1:=by simp
theorem BxIni.cells {w:World} {b:Nat} {x:Ini} (h:BxL w b (cIni x)):w.cell? ⟨b,0,none⟩=some (.int .i64 x.thread)∧w.cell? ⟨b,1,none⟩=some (.int .i64 x.reg)∧w.cell? ⟨b,2,none⟩=some (.string (tx x.loc))∧w.cell? ⟨b,3,none⟩=some (.string (tx x.vloc))∧w.cell? ⟨b,4,none⟩=some (.int .i64 x.n) :=
 ⟨h.get 0 _ rfl,h.get 1 _ rfl,h.get 2 _ rfl,h.get 3 _ rfl,h.get 4 _ rfl⟩
theorem r13First_loc (t:Tst) (loc:Tx) (nn:Int) (h1:nameB loc=true) (h2:n32B nn=true) (w:World) (g:Gl w) :
  Calls Tryz.prog 36 #[vT t,vIni ⟨-1,0,loc,[],nn⟩] w (Ret w (.string (tx (initT t.arch ⟨-1,0,loc,[],nn⟩)))):=by
 have A:=(al w (mkT t)).trans ((al (w.alloc (mkT t)) (mkIni ⟨-1,0,loc,[],nn⟩)).mono (al w (mkT t)).size)
 have b0:=(BxT.new w t).below (al _ (mkIni ⟨-1,0,loc,[],nn⟩))
 have x0:BxL ((w.alloc (mkT t)).alloc (mkIni ⟨-1,0,loc,[],nn⟩)) (w.alloc (mkT t)).heap.size (cIni ⟨-1,0,loc,[],nn⟩):=BxL.new _ _ _
 rw [alloc_size] at x0
 have l1:=(nameB_cl h1).2;have l2:=itoa_len h2;have b2:=n32B_spec h2
 obtain ⟨d,hd⟩ : ∃ d,Lib.itoa nn=d:=⟨_,rfl⟩
 have IT:=hid (itoa_any nn (by omega) (by omega) _ (g.below A))
 rw [hd] at IT l2
 obtain ⟨t1,ht1⟩ : ∃ t:Tx,loc++[61]=t:=⟨_,rfl⟩
 have n1:t1.length=_:=(congrArg List.length ht1).symm.trans List.length_append
 have m1:t1.length≤80:=by rw [n1];(try simp only [List.length_cons,List.length_nil]);omega
 have c1 : ∀ w,(Op.stringOp .add (tx loc) ⟨#[61]⟩).run Tryz.prog w = .ok (.string (tx t1)) w:=run_catT loc [61] t1 ht1 (by omega)
 clear n1
 obtain ⟨t2,ht2⟩ : ∃ t:Tx,t1++d=t:=⟨_,rfl⟩
 have n2:t2.length=_:=(congrArg List.length ht2).symm.trans List.length_append
 have m2:t2.length≤120:=by rw [n2];(try simp only [List.length_cons,List.length_nil]);omega
 have c2 : ∀ w,(Op.stringOp .add (tx t1) (tx d)).run Tryz.prog w = .ok (.string (tx t2)) w:=run_catT t1 d t2 ht2 (by omega)
 clear n2
 obtain ⟨t3,ht3⟩ : ∃ t:Tx,t2++[59,10]=t:=⟨_,rfl⟩
 have n3:t3.length=_:=(congrArg List.length ht3).symm.trans List.length_append
 have m3:t3.length≤160:=by rw [n3];(try simp only [List.length_cons,List.length_nil]);omega
 have c3 : ∀ w,(Op.stringOp .add (tx t2) ⟨#[59,10]⟩).run Tryz.prog w = .ok (.string (tx t3)) w:=run_catT t2 [59,10] t3 ht3 (by omega)
 clear n3
 have HZ:=hid (show initT t.arch ⟨-1,0,loc,[],nn⟩=t3 by unfold initT;simp only [if_true];rw [hd,← ht3,← ht2,← ht1])
 clear ht1 ht2 ht3
 rw [HZ.out]
 have z5:((tx ([]:Tx)).toList==([]:List UInt8))=true:=by rw [tx_toList];rfl
 have z6:(tx ([]:Tx)).toList.isEmpty=true:=by rw [tx_toList];rfl
 have z7:((tx ([]:Tx)).toList != ([]:List UInt8))=false:=by rw [tx_toList];rfl
 clear hd g h1 h2
 go_enter Tryz.func36,Tryz.ntmps36
 go_upto_region 1 with (fail)
 generalize (w.alloc (mkT t)).alloc (mkIni ⟨-1,0,loc,[],nn⟩)=W1 at *
 obtain ⟨p0,p1,p2,p3,p4⟩:=BxIni.cells x0
 go_wp2_with fail
 refine IT.out.mono ?_
 rintro e w2 ⟨rfl,E⟩
 go_wp2_with fail
 go_ret
 exact ⟨rfl,A.trans (E.mono A.size)⟩
theorem r13First_1v (t:Tst) (ha:t.arch=1) (i k:Nat) (hi:i<16) (hk:k<15) (v:Tx) (hv:v≠[]) (h2:nameB v=true) (w:World) (g:Gl w) :
  Calls Tryz.prog 36 #[vT t,vIni ⟨i,k,[],v,0⟩] w (Ret w (.string (tx (initT t.arch ⟨i,k,[],v,0⟩)))):=by
 have A:=(al w (mkT t)).trans ((al (w.alloc (mkT t)) (mkIni ⟨i,k,[],v,0⟩)).mono (al w (mkT t)).size)
 have b0:=(BxT.new w t).below (al _ (mkIni ⟨i,k,[],v,0⟩))
 have x0:BxL ((w.alloc (mkT t)).alloc (mkIni ⟨i,k,[],v,0⟩)) (w.alloc (mkT t)).heap.size (cIni ⟨i,k,[],v,0⟩):=BxL.new _ _ _
 rw [alloc_size] at x0
 have HR:=hid (show regK t.arch k from .inl ⟨ha,hk⟩)
 have l3:=regK_len HR.out
 have l1:=i16_len i hi
 have hi0 : ¬ ((i:Int) = -1):=by omega
 have l2:=(nameB_cl h2).2
 obtain ⟨d,hd⟩ : ∃ d,v=d:=⟨_,rfl⟩
 rw [hd] at l2
 obtain ⟨q,hq⟩ : ∃ q,Lib.itoa (i:Int)=q:=⟨_,rfl⟩
 obtain ⟨r,hr⟩ : ∃ r,regT' t.arch k=r:=⟨_,rfl⟩
 rw [hq] at l1
 rw [hr] at l3
 have HG:=hid (g.below A)
 have IQ:=hid (fun (w':World) (g:Gl w')=>itoa_any (i:Int) (by omega) (by omega) w' g)
 rw [hq] at IQ
 obtain ⟨t1,ht1⟩ : ∃ t:Tx,q++[58]=t:=⟨_,rfl⟩
 have n1:t1.length=_:=(congrArg List.length ht1).symm.trans List.length_append
 have m1:t1.length≤80:=by rw [n1];(try simp only [List.length_cons,List.length_nil]);omega
 have c1 : ∀ w,(Op.stringOp .add (tx q) ⟨#[58]⟩).run Tryz.prog w = .ok (.string (tx t1)) w:=run_catT q [58] t1 ht1 (by omega)
 clear n1
 obtain ⟨t2,ht2⟩ : ∃ t:Tx,t1++r=t:=⟨_,rfl⟩
 have n2:t2.length=_:=(congrArg List.length ht2).symm.trans List.length_append
 have m2:t2.length≤120:=by rw [n2];(try simp only [List.length_cons,List.length_nil]);omega
 have c2 : ∀ w,(Op.stringOp .add (tx t1) (tx r)).run Tryz.prog w = .ok (.string (tx t2)) w:=run_catT t1 r t2 ht2 (by omega)
 clear n2
 obtain ⟨t3,ht3⟩ : ∃ t:Tx,t2++[61]=t:=⟨_,rfl⟩
 have n3:t3.length=_:=(congrArg List.length ht3).symm.trans List.length_append
 have m3:t3.length≤160:=by rw [n3];(try simp only [List.length_cons,List.length_nil]);omega
 have c3 : ∀ w,(Op.stringOp .add (tx t2) ⟨#[61]⟩).run Tryz.prog w = .ok (.string (tx t3)) w:=run_catT t2 [61] t3 ht3 (by omega)
 clear n3
 obtain ⟨t4,ht4⟩ : ∃ t:Tx,t3++d=t:=⟨_,rfl⟩
 have n4:t4.length=_:=(congrArg List.length ht4).symm.trans List.length_append
 have m4:t4.length≤200:=by rw [n4];(try simp only [List.length_cons,List.length_nil]);omega
 have c4 : ∀ w,(Op.stringOp .add (tx t3) (tx d)).run Tryz.prog w = .ok (.string (tx t4)) w:=run_catT t3 d t4 ht4 (by omega)
 clear n4
 obtain ⟨t5,ht5⟩ : ∃ t:Tx,t4++[59,10]=t:=⟨_,rfl⟩
 have n5:t5.length=_:=(congrArg List.length ht5).symm.trans List.length_append
 have m5:t5.length≤240:=by rw [n5];(try simp only [List.length_cons,List.length_nil]);omega
 have c5 : ∀ w,(Op.stringOp .add (tx t4) ⟨#[59,10]⟩).run Tryz.prog w = .ok (.string (tx t5)) w:=run_catT t4 [59,10] t5 ht5 (by omega)
 clear n5
 have HZ:=hid (show initT t.arch ⟨i,k,[],v,0⟩=t5 by unfold initT;simp only [if_neg hi0,if_neg hv];rw [hq,hr,hd,← ht5,← ht4,← ht3,← ht2,← ht1])
 clear ht1 ht2 ht3 ht4 ht5
 have R9:=hid (r9Reg k hk)
 have za:(t.arch==2)=false:=by simp;omega
 rw [show regX k=r by rw [← hr];unfold regT';rw [if_neg (by omega),rX_nat]] at R9
 have z5:((tx v).toList==([]:List UInt8))=false:=by rw [tx_toList];simpa using hv
 have z6:(tx v).toList.isEmpty=false:=by rw [tx_toList];cases v <;> simp at *
 have z7:((tx v).toList != ([]:List UInt8))=true:=by rw [tx_toList];simpa using hv
 rw [HZ.out]
 subst hd
 clear hv g h2 hq hr ha hi0
 go_enter Tryz.func36,Tryz.ntmps36
 go_upto_region 1 with (fail)
 generalize (w.alloc (mkT t)).alloc (mkIni ⟨i,k,[],v,0⟩)=W1 at *
 obtain ⟨p0,p1,p2,p3,p4⟩:=BxIni.cells x0
 obtain ⟨c0,-⟩:=b0.cells
 go_wp2_with fail
 refine (R9.out _).mono ?_
 rintro e w2 ⟨rfl,E⟩
 clear p0 p1 p2 p3 p4 c0
 obtain ⟨p0,p1,p2,p3,p4⟩:=BxIni.cells (x0.below E)
 obtain ⟨c0,-⟩:=(b0.below E).cells
 go_wp2_with fail
 refine (IQ.out _ (HG.out.below E)).mono ?_
 rintro e w4 ⟨rfl,E4⟩
 have E:=E.trans (E4.mono E.size)
 clear p0 p1 p2 p3 p4 c0
 obtain ⟨p0,p1,p2,p3,p4⟩:=BxIni.cells (x0.below E)
 go_wp2_with fail
 (try go_simp)
 go_ret
 exact ⟨rfl,A.trans (E.mono A.size)⟩
theorem r13First_1n (t:Tst) (ha:t.arch=1) (i k:Nat) (hi:i<16) (hk:k<15) (nn:Int) (h2:n32B nn=true) (w:World) (g:Gl w) :
  Calls Tryz.prog 36 #[vT t,vIni ⟨i,k,[],[],nn⟩] w (Ret w (.string (tx (initT t.arch ⟨i,k,[],[],nn⟩)))):=by
 have A:=(al w (mkT t)).trans ((al (w.alloc (mkT t)) (mkIni ⟨i,k,[],[],nn⟩)).mono (al w (mkT t)).size)
 have b0:=(BxT.new w t).below (al _ (mkIni ⟨i,k,[],[],nn⟩))
 have x0:BxL ((w.alloc (mkT t)).alloc (mkIni ⟨i,k,[],[],nn⟩)) (w.alloc (mkT t)).heap.size (cIni ⟨i,k,[],[],nn⟩):=BxL.new _ _ _
 rw [alloc_size] at x0
 have HR:=hid (show regK t.arch k from .inl ⟨ha,hk⟩)
 have l3:=regK_len HR.out
 have l1:=i16_len i hi
 have hi0 : ¬ ((i:Int) = -1):=by omega
 have l2:=itoa_len h2;have b2:=n32B_spec h2
 obtain ⟨d,hd⟩ : ∃ d,Lib.itoa nn=d:=⟨_,rfl⟩
 rw [hd] at l2
 obtain ⟨q,hq⟩ : ∃ q,Lib.itoa (i:Int)=q:=⟨_,rfl⟩
 obtain ⟨r,hr⟩ : ∃ r,regT' t.arch k=r:=⟨_,rfl⟩
 rw [hq] at l1
 rw [hr] at l3
 have HG:=hid (g.below A)
 have IQ:=hid (fun (w':World) (g:Gl w')=>itoa_any (i:Int) (by omega) (by omega) w' g)
 rw [hq] at IQ
 have IT:=hid (fun (w':World) (g:Gl w')=>itoa_any nn (by omega) (by omega) w' g)
 rw [hd] at IT
 obtain ⟨t1,ht1⟩ : ∃ t:Tx,q++[58]=t:=⟨_,rfl⟩
 have n1:t1.length=_:=(congrArg List.length ht1).symm.trans List.length_append
 have m1:t1.length≤80:=by rw [n1];(try simp only [List.length_cons,List.length_nil]);omega
 have c1 : ∀ w,(Op.stringOp .add (tx q) ⟨#[58]⟩).run Tryz.prog w = .ok (.string (tx t1)) w:=run_catT q [58] t1 ht1 (by omega)
 clear n1
 obtain ⟨t2,ht2⟩ : ∃ t:Tx,t1++r=t:=⟨_,rfl⟩
 have n2:t2.length=_:=(congrArg List.length ht2).symm.trans List.length_append
 have m2:t2.length≤120:=by rw [n2];(try simp only [List.length_cons,List.length_nil]);omega
 have c2 : ∀ w,(Op.stringOp .add (tx t1) (tx r)).run Tryz.prog w = .ok (.string (tx t2)) w:=run_catT t1 r t2 ht2 (by omega)
 clear n2
 obtain ⟨t3,ht3⟩ : ∃ t:Tx,t2++[61]=t:=⟨_,rfl⟩
 have n3:t3.length=_:=(congrArg List.length ht3).symm.trans List.length_append
 have m3:t3.length≤160:=by rw [n3];(try simp only [List.length_cons,List.length_nil]);omega
 have c3 : ∀ w,(Op.stringOp .add (tx t2) ⟨#[61]⟩).run Tryz.prog w = .ok (.string (tx t3)) w:=run_catT t2 [61] t3 ht3 (by omega)
 clear n3
 obtain ⟨t4,ht4⟩ : ∃ t:Tx,t3++d=t:=⟨_,rfl⟩
 have n4:t4.length=_:=(congrArg List.length ht4).symm.trans List.length_append
 have m4:t4.length≤200:=by rw [n4];(try simp only [List.length_cons,List.length_nil]);omega
 have c4 : ∀ w,(Op.stringOp .add (tx t3) (tx d)).run Tryz.prog w = .ok (.string (tx t4)) w:=run_catT t3 d t4 ht4 (by omega)
 clear n4
 obtain ⟨t5,ht5⟩ : ∃ t:Tx,t4++[59,10]=t:=⟨_,rfl⟩
 have n5:t5.length=_:=(congrArg List.length ht5).symm.trans List.length_append
 have m5:t5.length≤240:=by rw [n5];(try simp only [List.length_cons,List.length_nil]);omega
 have c5 : ∀ w,(Op.stringOp .add (tx t4) ⟨#[59,10]⟩).run Tryz.prog w = .ok (.string (tx t5)) w:=run_catT t4 [59,10] t5 ht5 (by omega)
 clear n5
 have HZ:=hid (show initT t.arch ⟨i,k,[],[],nn⟩=t5 by unfold initT;simp only [if_neg hi0,if_true];rw [hq,hr,hd,← ht5,← ht4,← ht3,← ht2,← ht1])
 clear ht1 ht2 ht3 ht4 ht5
 have R9:=hid (r9Reg k hk)
 have za:(t.arch==2)=false:=by simp;omega
 rw [show regX k=r by rw [← hr];unfold regT';rw [if_neg (by omega),rX_nat]] at R9
 have z5:((tx ([]:Tx)).toList==([]:List UInt8))=true:=by rw [tx_toList];rfl
 have z6:(tx ([]:Tx)).toList.isEmpty=true:=by rw [tx_toList];rfl
 have z7:((tx ([]:Tx)).toList != ([]:List UInt8))=false:=by rw [tx_toList];rfl
 rw [HZ.out]
 clear hd g h2 hq hr ha hi0
 go_enter Tryz.func36,Tryz.ntmps36
 go_upto_region 1 with (fail)
 generalize (w.alloc (mkT t)).alloc (mkIni ⟨i,k,[],[],nn⟩)=W1 at *
 obtain ⟨p0,p1,p2,p3,p4⟩:=BxIni.cells x0
 obtain ⟨c0,-⟩:=b0.cells
 go_wp2_with fail
 refine (R9.out _).mono ?_
 rintro e w2 ⟨rfl,E⟩
 clear p0 p1 p2 p3 p4 c0
 obtain ⟨p0,p1,p2,p3,p4⟩:=BxIni.cells (x0.below E)
 obtain ⟨c0,-⟩:=(b0.below E).cells
 go_wp2_with fail
 refine (IQ.out _ (HG.out.below E)).mono ?_
 rintro e w4 ⟨rfl,E4⟩
 have E:=E.trans (E4.mono E.size)
 clear p0 p1 p2 p3 p4 c0
 obtain ⟨p0,p1,p2,p3,p4⟩:=BxIni.cells (x0.below E)
 go_wp2_with fail
 refine (IT.out _ (HG.out.below E)).mono ?_
 rintro e w5 ⟨rfl,E5⟩
 have E:=E.trans (E5.mono E.size)
 go_wp2_with fail
 (try go_simp)
 go_ret
 exact ⟨rfl,A.trans (E.mono A.size)⟩
theorem r13First_2v (t:Tst) (ha:t.arch=2) (i k:Nat) (hi:i<16) (hk:k<32) (v:Tx) (hv:v≠[]) (h2:nameB v=true) (w:World) (g:Gl w) :
  Calls Tryz.prog 36 #[vT t,vIni ⟨i,k,[],v,0⟩] w (Ret w (.string (tx (initT t.arch ⟨i,k,[],v,0⟩)))):=by
 have A:=(al w (mkT t)).trans ((al (w.alloc (mkT t)) (mkIni ⟨i,k,[],v,0⟩)).mono (al w (mkT t)).size)
 have b0:=(BxT.new w t).below (al _ (mkIni ⟨i,k,[],v,0⟩))
 have x0:BxL ((w.alloc (mkT t)).alloc (mkIni ⟨i,k,[],v,0⟩)) (w.alloc (mkT t)).heap.size (cIni ⟨i,k,[],v,0⟩):=BxL.new _ _ _
 rw [alloc_size] at x0
 have HR:=hid (show regK t.arch k from .inr ⟨ha,hk⟩)
 have l3:=regK_len HR.out
 have l1:=i16_len i hi
 have hi0 : ¬ ((i:Int) = -1):=by omega
 have l2:=(nameB_cl h2).2
 obtain ⟨d,hd⟩ : ∃ d,v=d:=⟨_,rfl⟩
 rw [hd] at l2
 obtain ⟨q,hq⟩ : ∃ q,Lib.itoa (i:Int)=q:=⟨_,rfl⟩
 obtain ⟨r,hr⟩ : ∃ r,regT' t.arch k=r:=⟨_,rfl⟩
 rw [hq] at l1
 rw [hr] at l3
 have HG:=hid (g.below A)
 have IQ:=hid (fun (w':World) (g:Gl w')=>itoa_any (i:Int) (by omega) (by omega) w' g)
 rw [hq] at IQ
 obtain ⟨t1,ht1⟩ : ∃ t:Tx,q++[58]=t:=⟨_,rfl⟩
 have n1:t1.length=_:=(congrArg List.length ht1).symm.trans List.length_append
 have m1:t1.length≤80:=by rw [n1];(try simp only [List.length_cons,List.length_nil]);omega
 have c1 : ∀ w,(Op.stringOp .add (tx q) ⟨#[58]⟩).run Tryz.prog w = .ok (.string (tx t1)) w:=run_catT q [58] t1 ht1 (by omega)
 clear n1
 obtain ⟨t2,ht2⟩ : ∃ t:Tx,t1++r=t:=⟨_,rfl⟩
 have n2:t2.length=_:=(congrArg List.length ht2).symm.trans List.length_append
 have m2:t2.length≤120:=by rw [n2];(try simp only [List.length_cons,List.length_nil]);omega
 have c2 : ∀ w,(Op.stringOp .add (tx t1) (tx r)).run Tryz.prog w = .ok (.string (tx t2)) w:=run_catT t1 r t2 ht2 (by omega)
 clear n2
 obtain ⟨t3,ht3⟩ : ∃ t:Tx,t2++[61]=t:=⟨_,rfl⟩
 have n3:t3.length=_:=(congrArg List.length ht3).symm.trans List.length_append
 have m3:t3.length≤160:=by rw [n3];(try simp only [List.length_cons,List.length_nil]);omega
 have c3 : ∀ w,(Op.stringOp .add (tx t2) ⟨#[61]⟩).run Tryz.prog w = .ok (.string (tx t3)) w:=run_catT t2 [61] t3 ht3 (by omega)
 clear n3
 obtain ⟨t4,ht4⟩ : ∃ t:Tx,t3++d=t:=⟨_,rfl⟩
 have n4:t4.length=_:=(congrArg List.length ht4).symm.trans List.length_append
 have m4:t4.length≤200:=by rw [n4];(try simp only [List.length_cons,List.length_nil]);omega
 have c4 : ∀ w,(Op.stringOp .add (tx t3) (tx d)).run Tryz.prog w = .ok (.string (tx t4)) w:=run_catT t3 d t4 ht4 (by omega)
 clear n4
 obtain ⟨t5,ht5⟩ : ∃ t:Tx,t4++[59,10]=t:=⟨_,rfl⟩
 have n5:t5.length=_:=(congrArg List.length ht5).symm.trans List.length_append
 have m5:t5.length≤240:=by rw [n5];(try simp only [List.length_cons,List.length_nil]);omega
 have c5 : ∀ w,(Op.stringOp .add (tx t4) ⟨#[59,10]⟩).run Tryz.prog w = .ok (.string (tx t5)) w:=run_catT t4 [59,10] t5 ht5 (by omega)
 clear n5
 have HZ:=hid (show initT t.arch ⟨i,k,[],v,0⟩=t5 by unfold initT;simp only [if_neg hi0,if_neg hv];rw [hq,hr,hd,← ht5,← ht4,← ht3,← ht2,← ht1])
 clear ht1 ht2 ht3 ht4 ht5
 obtain ⟨s9,e9,-,R9⟩ : ∃ (s:Tx) (e:Int),(k<15→s=regX k)∧∀ w,Calls Tryz.prog 71 #[.int .i64 k] w (Ret w (.tuple #[.string (tx s),.int .i64 e])):=by
  by_cases h:k<15
  ·exact ⟨_,_,fun _=>rfl,r9Reg k h⟩
  ·exact ⟨_,_,fun h'=>absurd h' h,r9Reg_no k (by omega)⟩
 have R9:=hid R9
 have RT:=hid (refReg k hk)
 have za:(t.arch==2)=true:=by simp;omega
 rw [show regT k=r by rw [← hr];unfold regT';rw [if_pos ha];unfold rT;rw [Int.toNat_natCast]] at RT
 have z5:((tx v).toList==([]:List UInt8))=false:=by rw [tx_toList];simpa using hv
 have z6:(tx v).toList.isEmpty=false:=by rw [tx_toList];cases v <;> simp at *
 have z7:((tx v).toList != ([]:List UInt8))=true:=by rw [tx_toList];simpa using hv
 rw [HZ.out]
 subst hd
 clear hv g h2 hq hr ha hi0
 go_enter Tryz.func36,Tryz.ntmps36
 go_upto_region 1 with (fail)
 generalize (w.alloc (mkT t)).alloc (mkIni ⟨i,k,[],v,0⟩)=W1 at *
 obtain ⟨p0,p1,p2,p3,p4⟩:=BxIni.cells x0
 obtain ⟨c0,-⟩:=b0.cells
 go_wp2_with fail
 refine (R9.out _).mono ?_
 rintro e w2 ⟨rfl,E⟩
 clear p0 p1 p2 p3 p4 c0
 obtain ⟨p0,p1,p2,p3,p4⟩:=BxIni.cells (x0.below E)
 obtain ⟨c0,-⟩:=(b0.below E).cells
 go_wp2_with fail
 refine (RT.out _).mono ?_
 rintro e w3 ⟨rfl,rfl⟩
 go_wp2_with fail
 refine (IQ.out _ (HG.out.below E)).mono ?_
 rintro e w4 ⟨rfl,E4⟩
 have E:=E.trans (E4.mono E.size)
 clear p0 p1 p2 p3 p4 c0
 obtain ⟨p0,p1,p2,p3,p4⟩:=BxIni.cells (x0.below E)
 go_wp2_with fail
 (try go_simp)
 go_ret
 exact ⟨rfl,A.trans (E.mono A.size)⟩
theorem r13First_2n (t:Tst) (ha:t.arch=2) (i k:Nat) (hi:i<16) (hk:k<32) (nn:Int) (h2:n32B nn=true) (w:World) (g:Gl w) :
  Calls Tryz.prog 36 #[vT t,vIni ⟨i,k,[],[],nn⟩] w (Ret w (.string (tx (initT t.arch ⟨i,k,[],[],nn⟩)))):=by
 have A:=(al w (mkT t)).trans ((al (w.alloc (mkT t)) (mkIni ⟨i,k,[],[],nn⟩)).mono (al w (mkT t)).size)
 have b0:=(BxT.new w t).below (al _ (mkIni ⟨i,k,[],[],nn⟩))
 have x0:BxL ((w.alloc (mkT t)).alloc (mkIni ⟨i,k,[],[],nn⟩)) (w.alloc (mkT t)).heap.size (cIni ⟨i,k,[],[],nn⟩):=BxL.new _ _ _
 rw [alloc_size] at x0
 have HR:=hid (show regK t.arch k from .inr ⟨ha,hk⟩)
 have l3:=regK_len HR.out
 have l1:=i16_len i hi
 have hi0 : ¬ ((i:Int) = -1):=by omega
 have l2:=itoa_len h2;have b2:=n32B_spec h2
 obtain ⟨d,hd⟩ : ∃ d,Lib.itoa nn=d:=⟨_,rfl⟩
 rw [hd] at l2
 obtain ⟨q,hq⟩ : ∃ q,Lib.itoa (i:Int)=q:=⟨_,rfl⟩
 obtain ⟨r,hr⟩ : ∃ r,regT' t.arch k=r:=⟨_,rfl⟩
 rw [hq] at l1
 rw [hr] at l3
 have HG:=hid (g.below A)
 have IQ:=hid (fun (w':World) (g:Gl w')=>itoa_any (i:Int) (by omega) (by omega) w' g)
 rw [hq] at IQ
 have IT:=hid (fun (w':World) (g:Gl w')=>itoa_any nn (by omega) (by omega) w' g)
 rw [hd] at IT
 obtain ⟨t1,ht1⟩ : ∃ t:Tx,q++[58]=t:=⟨_,rfl⟩
 have n1:t1.length=_:=(congrArg List.length ht1).symm.trans List.length_append
 have m1:t1.length≤80:=by rw [n1];(try simp only [List.length_cons,List.length_nil]);omega
 have c1 : ∀ w,(Op.stringOp .add (tx q) ⟨#[58]⟩).run Tryz.prog w = .ok (.string (tx t1)) w:=run_catT q [58] t1 ht1 (by omega)
 clear n1
 obtain ⟨t2,ht2⟩ : ∃ t:Tx,t1++r=t:=⟨_,rfl⟩
 have n2:t2.length=_:=(congrArg List.length ht2).symm.trans List.length_append
 have m2:t2.length≤120:=by rw [n2];(try simp only [List.length_cons,List.length_nil]);omega
 have c2 : ∀ w,(Op.stringOp .add (tx t1) (tx r)).run Tryz.prog w = .ok (.string (tx t2)) w:=run_catT t1 r t2 ht2 (by omega)
 clear n2
 obtain ⟨t3,ht3⟩ : ∃ t:Tx,t2++[61]=t:=⟨_,rfl⟩
 have n3:t3.length=_:=(congrArg List.length ht3).symm.trans List.length_append
 have m3:t3.length≤160:=by rw [n3];(try simp only [List.length_cons,List.length_nil]);omega
 have c3 : ∀ w,(Op.stringOp .add (tx t2) ⟨#[61]⟩).run Tryz.prog w = .ok (.string (tx t3)) w:=run_catT t2 [61] t3 ht3 (by omega)
 clear n3
 obtain ⟨t4,ht4⟩ : ∃ t:Tx,t3++d=t:=⟨_,rfl⟩
 have n4:t4.length=_:=(congrArg List.length ht4).symm.trans List.length_append
 have m4:t4.length≤200:=by rw [n4];(try simp only [List.length_cons,List.length_nil]);omega
 have c4 : ∀ w,(Op.stringOp .add (tx t3) (tx d)).run Tryz.prog w = .ok (.string (tx t4)) w:=run_catT t3 d t4 ht4 (by omega)
 clear n4
 obtain ⟨t5,ht5⟩ : ∃ t:Tx,t4++[59,10]=t:=⟨_,rfl⟩
 have n5:t5.length=_:=(congrArg List.length ht5).symm.trans List.length_append
 have m5:t5.length≤240:=by rw [n5];(try simp only [List.length_cons,List.length_nil]);omega
 have c5 : ∀ w,(Op.stringOp .add (tx t4) ⟨#[59,10]⟩).run Tryz.prog w = .ok (.string (tx t5)) w:=run_catT t4 [59,10] t5 ht5 (by omega)
 clear n5
 have HZ:=hid (show initT t.arch ⟨i,k,[],[],nn⟩=t5 by unfold initT;simp only [if_neg hi0,if_true];rw [hq,hr,hd,← ht5,← ht4,← ht3,← ht2,← ht1])
 clear ht1 ht2 ht3 ht4 ht5
 obtain ⟨s9,e9,-,R9⟩ : ∃ (s:Tx) (e:Int),(k<15→s=regX k)∧∀ w,Calls Tryz.prog 71 #[.int .i64 k] w (Ret w (.tuple #[.string (tx s),.int .i64 e])):=by
  by_cases h:k<15
  ·exact ⟨_,_,fun _=>rfl,r9Reg k h⟩
  ·exact ⟨_,_,fun h'=>absurd h' h,r9Reg_no k (by omega)⟩
 have R9:=hid R9
 have RT:=hid (refReg k hk)
 have za:(t.arch==2)=true:=by simp;omega
 rw [show regT k=r by rw [← hr];unfold regT';rw [if_pos ha];unfold rT;rw [Int.toNat_natCast]] at RT
 have z5:((tx ([]:Tx)).toList==([]:List UInt8))=true:=by rw [tx_toList];rfl
 have z6:(tx ([]:Tx)).toList.isEmpty=true:=by rw [tx_toList];rfl
 have z7:((tx ([]:Tx)).toList != ([]:List UInt8))=false:=by rw [tx_toList];rfl
 rw [HZ.out]
 clear hd g h2 hq hr ha hi0
 go_enter Tryz.func36,Tryz.ntmps36
 go_upto_region 1 with (fail)
 generalize (w.alloc (mkT t)).alloc (mkIni ⟨i,k,[],[],nn⟩)=W1 at *
 obtain ⟨p0,p1,p2,p3,p4⟩:=BxIni.cells x0
 obtain ⟨c0,-⟩:=b0.cells
 go_wp2_with fail
 refine (R9.out _).mono ?_
 rintro e w2 ⟨rfl,E⟩
 clear p0 p1 p2 p3 p4 c0
 obtain ⟨p0,p1,p2,p3,p4⟩:=BxIni.cells (x0.below E)
 obtain ⟨c0,-⟩:=(b0.below E).cells
 go_wp2_with fail
 refine (RT.out _).mono ?_
 rintro e w3 ⟨rfl,rfl⟩
 go_wp2_with fail
 refine (IQ.out _ (HG.out.below E)).mono ?_
 rintro e w4 ⟨rfl,E4⟩
 have E:=E.trans (E4.mono E.size)
 clear p0 p1 p2 p3 p4 c0
 obtain ⟨p0,p1,p2,p3,p4⟩:=BxIni.cells (x0.below E)
 go_wp2_with fail
 refine (IT.out _ (HG.out.below E)).mono ?_
 rintro e w5 ⟨rfl,E5⟩
 have E:=E.trans (E5.mono E.size)
 go_wp2_with fail
 (try go_simp)
 go_ret
 exact ⟨rfl,A.trans (E.mono A.size)⟩
theorem r13First (t:Tst) (x:Ini) (ha:archB t.arch=true) (hn:t.code.length≤16) (h:firstB t.arch t.code.length x=true) (w:World) (g:Gl w) :
  Calls Tryz.prog 36 #[vT t,vIni x] w (Ret w (.string (tx (initT t.arch x)))):=by
 rcases firstB_cases ha hn h with ⟨loc,nn,rfl,h1,h2⟩|⟨i,k,v,nn,rfl,h1,-,h2,h3⟩
 ·exact r13First_loc t loc nn h1 h2 w g
 ·rcases h2 with ⟨h2,hk⟩|⟨h2,hk⟩
  ·rcases h3 with ⟨h4,h5,rfl⟩|⟨rfl,h5⟩
   ·exact r13First_1v t h2 i k h1 hk v h4 h5 w g
   ·exact r13First_1n t h2 i k h1 hk nn h5 w g
  ·rcases h3 with ⟨h4,h5,rfl⟩|⟨rfl,h5⟩
   ·exact r13First_2v t h2 i k h1 hk v h4 h5 w g
   ·exact r13First_2n t h2 i k h1 hk nn h5 w g
end Go.Proofs.YthaibjefnclkjaaGreatDoor
namespace Go.Proofs.YthaibjefnclkjaaGreatDoor
def preT (t:Tst):Tx:=headT t++cycT t++[123,10]
def initsK (t:Tst) (k:Nat):Tx:=(t.init.take k).flatMap (initT t.arch)
theorem initsK_zero (t:Tst):initsK t 0 = []:=rfl
theorem initsK_step {t:Tst} {k:Nat} {x:Ini} (h:t.init[k]? = some x):initsK t (k+1)=initsK t k++initT t.arch x:=by
 unfold initsK;rw [take_snoc h,List.flatMap_append];simp
theorem initsK_le {t:Tst} (h : ∀ x∈t.init,(initT t.arch x).length≤100) (k:Nat):(initsK t k).length≤100 * t.init.length:=by
 have key : ∀ l:List Ini,(∀ x∈l,(initT t.arch x).length≤100)→(l.flatMap (initT t.arch)).length≤100 * l.length:=by
  intro l
  induction l with
  | nil=>intro _;simp
  | cons x r ih =>
   intro hl
   have h1:=hl x (by simp);have h2:=ih fun y hy=>hl y (by simp [hy])
   simp only [List.flatMap_cons,List.length_append,List.length_cons];omega
 have:=key (t.init.take k) fun x hx=>h x (List.mem_of_mem_take hx)
 unfold initsK
 have h2:(t.init.take k).length≤t.init.length:=by rw [List.length_take];omega
 omega
def rowsK (t:Tst) (k:Nat):Tx:=((tableT t).take k).flatMap fun l=>l++[10]
theorem rowsK_zero (t:Tst):rowsK t 0 = []:=rfl
theorem rowsK_step {t:Tst} {k:Nat} {x:Tx} (h:(tableT t)[k]? = some x):rowsK t (k+1)=rowsK t k++x++[10]:=by
 unfold rowsK;rw [take_snoc h,List.flatMap_append];simp
theorem tableT_length (t:Tst):(tableT t).length=highT t+1:=by rw [tableT_eq,linesT_length]
theorem tableT_at {t:Tst} {k:Nat} (h:k<highT t+1):(tableT t)[k]? = some (lineT k t):=by
 unfold tableT;rw [List.getElem?_map,List.getElem?_range h];rfl
theorem lineT_len (t:Tst) (k:Nat) (hc:t.code.length≤16):(lineT k t).length≤2100:=by
 have:=bar_take_le k t t.code.length hc
 rw [List.take_of_length_le (by rw [rowT_length];omega)] at this
 rw [lineT_eq]
 simp only [List.length_append,List.length_cons,List.length_nil];omega
theorem tableT_le {t:Tst} (hc:t.code.length≤16) {x:Tx} (h:x∈tableT t):x.length≤2100:=by
 unfold tableT at h
 obtain ⟨k,-,rfl⟩:=List.mem_map.1 h
 exact lineT_len t k hc
theorem rowsK_le {t:Tst} (hc:t.code.length≤16) (hr : ∀ x∈t.code,x.l.length≤256) (k:Nat):(rowsK t k).length≤540000:=by
 have key : ∀ l:List Tx,(∀ x∈l,x.length≤2100)→(l.flatMap fun l=>l++[10]).length≤2101 * l.length:=by
  intro l
  induction l with
  | nil=>intro _;simp
  | cons x r ih =>
   intro hl
   have h1:=hl x (by simp);have h2:=ih fun y hy=>hl y (by simp [hy])
   simp only [List.flatMap_cons,List.length_append,List.length_cons,List.length_nil];omega
 have h1:=key ((tableT t).take k) fun x hx=>tableT_le hc (List.mem_of_mem_take hx)
 have h2:((tableT t).take k).length≤257:=by
  rw [List.length_take,tableT_length]
  have:=highL_le hr
  rw [highT_eq];omega
 unfold rowsK
 omega
theorem rowsK_mono (t:Tst) {j k:Nat} (h:j≤k):(rowsK t j).length≤(rowsK t k).length:=by
 obtain ⟨d,rfl⟩:=Nat.exists_eq_add_of_le h
 unfold rowsK
 rw [List.take_add,List.flatMap_append,List.length_append]
 omega
theorem fileT_eq (t:Tst):fileT t=preT t++initsK t t.init.length++[125,10]++rowsK t (highT t+1)++textC t.arch t.q t.node++[10]:=by
 unfold fileT preT initsK rowsK
 rw [List.take_length,List.take_of_length_le (by rw [tableT_length];omega)]
theorem headT_len {t:Tst} (h:titleB t.name=true):(headT t).length≤1031:=by
 unfold titleB at h
 simp only [Bool.and_eq_true,decide_eq_true_eq] at h
 have:=h.2.1
 unfold headT
 split <;> (simp only [List.length_append,List.length_cons,List.length_nil];omega)
theorem cycT_len {t:Tst} (h:cycleB t.cycle=true):(cycT t).length≤262147:=by
 unfold cycleB at h
 simp only [Bool.and_eq_true,decide_eq_true_eq] at h
 have:=h.1
 unfold cycT
 split
 ·simp
 ·simp only [List.length_append,List.length_cons,List.length_nil];omega
theorem textC_len2 {arch q:Int} {x:Nd} (h:condE arch q x=0):(textC arch q x).length≤102500:=by
 obtain ⟨-,-,-,ho,hn⟩:=cond_ok h
 have:=textN_len ho
 have h2:(headC q).length≤9:=by unfold headC;split <;> (try split) <;> simp
 unfold textC
 simp only [List.length_append,List.length_cons,List.length_nil];omega
theorem preT_len {t:Tst} (h1:titleB t.name=true) (h2:cycleB t.cycle=true):(preT t).length≤263200:=by
 have a:=headT_len h1;have b:=cycT_len h2
 unfold preT
 simp only [List.length_append,List.length_cons,List.length_nil];omega
end Go.Proofs.YthaibjefnclkjaaGreatDoor

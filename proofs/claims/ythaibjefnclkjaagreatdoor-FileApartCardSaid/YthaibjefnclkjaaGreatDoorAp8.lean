/- The walks of known, registers, thing and may (cond), and of the document's. Conditions: lengths that an int holds. The walks of may (cond) and node (the document's answer 08). Conditions: lengths that an int holds. The library's contracts at this program's numbers: layings, written by the shelf's own command. -/
import Derived.Test.YthaibjefnclkjaaGreatDoorAp4
import Derived.Test.YthaibjefnclkjaaGreatDoorAp7
import Derived.Shelf.Sort.Plain
import Derived.Shelf.Slices.In.SortNone
import Derived.Shelf.Slices.CompactS
import Derived.Shelf.Slices.Clone
import Derived.Shelf.SlSortCmp.NoneTotal
import Derived.Shelf.SlicesE.Clone
import Derived.Shelf.Strings.Repeat
set_option linter.unusedVariables false
set_option maxRecDepth 100000
set_option maxHeartbeats 3200000
namespace Go.Proofs.YthaibjefnclkjaaGreatDoor
open Go.RowKit
attribute [local go_sem high] eqTh neqTh
theorem bel_drewN {w w':World} (h:Below w.heap.size w w') (n:Nat):Below w.heap.size w (w'.drewN n):=h.trans ((below_drewN w' n).mono h.size)
theorem blN {n:Nat} {w w':World} (h:Below n w w':=by repeat (first|with_reducible assumption|with_reducible exact Below.refl _ _|with_reducible refine bel_alloc ?_ _|with_reducible refine bel_drew ?_|with_reducible refine bel_drewN ?_ _|with_reducible refine bel_set ?_ (by dsimp only;omega) _)):Below n w w':=h
theorem regsN_bd (arch:Int):15≤regsN arch∧regsN arch≤32:=by unfold regsN;split <;> omega
abbrev mkTh (t:Th):Obj:=.cells #[.int .i64 t.thread,.int .i64 t.reg,.string (tx t.loc)] 32
theorem condKnown (arch:Int) (w:World):Calls Tryz.prog 87 #[.int .i64 arch] w fun e w'=>e = .returned (.bool (archB arch))∧w=w':=by
 by_cases h1:arch=1
 ·subst h1
  go_enter Tryz.func87,Tryz.ntmps87
  go_wp2
  go_ret
  exact ⟨rfl,rfl⟩
 ·have z1:(arch==1)=false:=by simpa using h1
  have e:archB arch=(arch==2):=by unfold archB;rw [decide_eq_false h1,Bool.false_or];rw [Bool.eq_iff_iff];simp
  have E:=hid e
  clear e h1
  go_enter Tryz.func87,Tryz.ntmps87
  go_wp2
  go_ret
  exact ⟨ret_bool E.out.symm,rfl⟩
theorem r08Known (arch:Int) (w:World):Calls Tryz.prog 112 #[.int .i64 arch] w fun e w'=>e = .returned (.bool (archB arch))∧w=w':=by
 by_cases h1:arch=1
 ·subst h1
  go_enter Tryz.func112,Tryz.ntmps112
  go_wp2
  go_ret
  exact ⟨rfl,rfl⟩
 ·have z1:(arch==1)=false:=by simpa using h1
  have e:archB arch=(arch==2):=by unfold archB;rw [decide_eq_false h1,Bool.false_or];rw [Bool.eq_iff_iff];simp
  have E:=hid e
  clear e h1
  go_enter Tryz.func112,Tryz.ntmps112
  go_wp2
  go_ret
  exact ⟨ret_bool E.out.symm,rfl⟩
theorem fileKnown (arch:Int) (w:World):Calls Tryz.prog 43 #[.int .i64 arch] w fun e w'=>e = .returned (.bool (archB arch))∧w=w':=by
 by_cases h1:arch=1
 ·subst h1
  go_enter Tryz.func43,Tryz.ntmps43
  go_wp2
  go_ret
  exact ⟨rfl,rfl⟩
 ·have z1:(arch==1)=false:=by simpa using h1
  have e:archB arch=(arch==2):=by unfold archB;rw [decide_eq_false h1,Bool.false_or];rw [Bool.eq_iff_iff];simp
  have E:=hid e
  clear e h1
  go_enter Tryz.func43,Tryz.ntmps43
  go_wp2
  go_ret
  exact ⟨ret_bool E.out.symm,rfl⟩
theorem r13Known (arch:Int) (w:World):Calls Tryz.prog 25 #[.int .i64 arch] w fun e w'=>e = .returned (.bool (archB arch))∧w=w':=by
 by_cases h1:arch=1
 ·subst h1
  go_enter Tryz.func25,Tryz.ntmps25
  go_wp2
  go_ret
  exact ⟨rfl,rfl⟩
 ·have z1:(arch==1)=false:=by simpa using h1
  have e:archB arch=(arch==2):=by unfold archB;rw [decide_eq_false h1,Bool.false_or];rw [Bool.eq_iff_iff];simp
  have E:=hid e
  clear e h1
  go_enter Tryz.func25,Tryz.ntmps25
  go_wp2
  go_ret
  exact ⟨ret_bool E.out.symm,rfl⟩
theorem condRegs (arch:Int) (w:World):Calls Tryz.prog 192 #[.int .i64 arch] w fun e w'=>e = .returned (.int .i64 (regsN arch))∧w=w':=by
 by_cases h1:arch=1
 ·subst h1
  go_enter Tryz.func192,Tryz.ntmps192
  go_wp2
  go_ret
  exact ⟨rfl,rfl⟩
 ·have z1:(arch==1)=false:=by simpa using h1
  have E:=hid (show regsN arch=32 by unfold regsN;rw [if_neg h1])
  clear h1
  go_enter Tryz.func192,Tryz.ntmps192
  go_wp2
  go_ret
  exact ⟨ret_int E.out.symm,rfl⟩
theorem r08Regs (arch:Int) (w:World):Calls Tryz.prog 199 #[.int .i64 arch] w fun e w'=>e = .returned (.int .i64 (regsN arch))∧w=w':=by
 by_cases h1:arch=1
 ·subst h1
  go_enter Tryz.func199,Tryz.ntmps199
  go_wp2
  go_ret
  exact ⟨rfl,rfl⟩
 ·have z1:(arch==1)=false:=by simpa using h1
  have E:=hid (show regsN arch=32 by unfold regsN;rw [if_neg h1])
  clear h1
  go_enter Tryz.func199,Tryz.ntmps199
  go_wp2
  go_ret
  exact ⟨ret_int E.out.symm,rfl⟩
theorem condThing (arch:Int) (t:Th) (hl:t.loc.length≤9223372036854775807) (w:World):Calls Tryz.prog 162 #[.int .i64 arch,vTh t] w (Ret w (.bool (thingB arch t))):=by
 obtain ⟨th,rg,loc⟩:=t
 have B:=al w (mkTh ⟨th,rg,loc⟩)
 have hR:=regsN_bd arch
 by_cases h1:th = -1
 ·subst h1
  by_cases h2:rg=0
  ·subst h2
   have E:=hid (show thingB arch ⟨-1,0,loc⟩=nameB loc by simp [thingB])
   go_enter Tryz.func162,Tryz.ntmps162
   go_wp2_with (go_at_call 191;refine (condNamed loc hl _).mono ?_;rintro e w' ⟨rfl,rfl⟩)
   go_ret
   exact ⟨ret_bool E.out.symm,blN⟩
  ·have E:=hid (show thingB arch ⟨-1,rg,loc⟩=false by simp [thingB,h2])
   have z2:(rg==0)=false:=by simpa using h2
   clear h2
   go_enter Tryz.func162,Tryz.ntmps162
   go_wp2_with fail
   go_ret
   exact ⟨ret_bool E.out.symm,blN⟩
 ·have z1:(th==-1)=false:=by simpa using h1
  have hT:thingB arch ⟨th,rg,loc⟩=(decide (0≤th)&&decide (th<16)&&decide (0≤rg)&&decide (rg<regsN arch)&&decide (loc = [])):=by unfold thingB;simp only;rw [if_neg h1]
  obtain ⟨R,hRR⟩ : ∃ R,regsN arch=R:=⟨_,rfl⟩
  have RG:=hid (show ∀ w,Calls Tryz.prog 192 #[.int .i64 arch] w fun e w'=>e = .returned (.int .i64 R)∧w'=w from fun w=>(condRegs arch w).mono fun e w' hh=>⟨by rw [hh.1,hRR],hh.2.symm⟩)
  rw [hRR] at hT hR
  clear hRR h1
  by_cases cd1:th<0
  ·have d1:decide (0≤th)=false:=decide_eq_false (by omega)
   have nd1 : ¬ (0≤th):=by omega
   have E:=hid (show thingB arch ⟨th,rg,loc⟩=false by rw [hT];simp [*])
   clear hT
   go_enter Tryz.func162,Tryz.ntmps162
   go_wp2_with fail
   go_quiet ((go_at_call 192;exact Calls.quiet_of_same (RG.out _)))
   go_wp2_with fail
   go_ret
   exact ⟨ret_bool E.out.symm,blN⟩
  have d1:decide (0≤th)=true:=decide_eq_true (by omega)
  have pd1:0≤th:=by omega
  by_cases cd2:16≤th
  ·have d2:decide (th<16)=false:=decide_eq_false (by omega)
   have nd2 : ¬ (th<16):=by omega
   have E:=hid (show thingB arch ⟨th,rg,loc⟩=false by rw [hT];simp [*])
   clear hT
   go_enter Tryz.func162,Tryz.ntmps162
   go_wp2_with fail
   go_quiet ((go_at_call 192;exact Calls.quiet_of_same (RG.out _)))
   go_wp2_with fail
   go_ret
   exact ⟨ret_bool E.out.symm,blN⟩
  have d2:decide (th<16)=true:=decide_eq_true (by omega)
  have pd2:th<16:=by omega
  by_cases cd3:rg<0
  ·have d3:decide (0≤rg)=false:=decide_eq_false (by omega)
   have nd3 : ¬ (0≤rg):=by omega
   have E:=hid (show thingB arch ⟨th,rg,loc⟩=false by rw [hT];simp [*])
   clear hT
   go_enter Tryz.func162,Tryz.ntmps162
   go_wp2_with fail
   go_quiet ((go_at_call 192;exact Calls.quiet_of_same (RG.out _)))
   go_wp2_with fail
   go_ret
   exact ⟨ret_bool E.out.symm,blN⟩
  have d3:decide (0≤rg)=true:=decide_eq_true (by omega)
  have pd3:0≤rg:=by omega
  by_cases cd4:R≤rg
  ·have d4:decide (rg<R)=false:=decide_eq_false (by omega)
   have nd4 : ¬ (rg<R):=by omega
   have E:=hid (show thingB arch ⟨th,rg,loc⟩=false by rw [hT];simp [*])
   clear hT
   go_enter Tryz.func162,Tryz.ntmps162
   go_wp2_with fail
   go_quiet ((go_at_call 192;exact Calls.quiet_of_same (RG.out _)))
   go_wp2_with fail
   go_ret
   exact ⟨ret_bool E.out.symm,blN⟩
  have d4:decide (rg<R)=true:=decide_eq_true (by omega)
  have pd4:rg<R:=by omega
  by_cases hl0:loc = []
  ·subst hl0
   have z5:((tx []).toList==([]:List UInt8))=true:=by rw [tx_toList];rfl
   have E:=hid (show thingB arch ⟨th,rg,[]⟩=true by rw [hT];simp [*])
   clear hT
   go_enter Tryz.func162,Tryz.ntmps162
   go_wp2_with fail
   go_quiet ((go_at_call 192;exact Calls.quiet_of_same (RG.out _)))
   go_wp2_with fail
   go_ret
   exact ⟨ret_bool E.out.symm,blN⟩
  ·have z5:((tx loc).toList==([]:List UInt8))=false:=by rw [tx_toList];simpa using hl0
   have z6:(tx loc).toList.isEmpty=false:=by rw [tx_toList];cases loc <;> simp at *
   have E:=hid (show thingB arch ⟨th,rg,loc⟩=false by rw [hT];simp [*])
   clear hT
   go_enter Tryz.func162,Tryz.ntmps162
   go_wp2_with fail
   go_quiet ((go_at_call 192;exact Calls.quiet_of_same (RG.out _)))
   go_wp2_with fail
   go_ret
   exact ⟨ret_bool E.out.symm,blN⟩
theorem r08Thing (arch:Int) (t:Th) (hl:t.loc.length≤9223372036854775807) (w:World):Calls Tryz.prog 179 #[.int .i64 arch,vTh t] w (Ret w (.bool (thingB arch t))):=by
 obtain ⟨th,rg,loc⟩:=t
 have B:=al w (mkTh ⟨th,rg,loc⟩)
 have hR:=regsN_bd arch
 by_cases h1:th = -1
 ·subst h1
  by_cases h2:rg=0
  ·subst h2
   have E:=hid (show thingB arch ⟨-1,0,loc⟩=nameB loc by simp [thingB])
   go_enter Tryz.func179,Tryz.ntmps179
   go_wp2_with (go_at_call 198;refine (r08Named loc hl _).mono ?_;rintro e w' ⟨rfl,rfl⟩)
   go_ret
   exact ⟨ret_bool E.out.symm,blN⟩
  ·have E:=hid (show thingB arch ⟨-1,rg,loc⟩=false by simp [thingB,h2])
   have z2:(rg==0)=false:=by simpa using h2
   clear h2
   go_enter Tryz.func179,Tryz.ntmps179
   go_wp2_with fail
   go_ret
   exact ⟨ret_bool E.out.symm,blN⟩
 ·have z1:(th==-1)=false:=by simpa using h1
  have hT:thingB arch ⟨th,rg,loc⟩=(decide (0≤th)&&decide (th<16)&&decide (0≤rg)&&decide (rg<regsN arch)&&decide (loc = [])):=by unfold thingB;simp only;rw [if_neg h1]
  obtain ⟨R,hRR⟩ : ∃ R,regsN arch=R:=⟨_,rfl⟩
  have RG:=hid (show ∀ w,Calls Tryz.prog 199 #[.int .i64 arch] w fun e w'=>e = .returned (.int .i64 R)∧w'=w from fun w=>(r08Regs arch w).mono fun e w' hh=>⟨by rw [hh.1,hRR],hh.2.symm⟩)
  rw [hRR] at hT hR
  clear hRR h1
  by_cases cd1:th<0
  ·have d1:decide (0≤th)=false:=decide_eq_false (by omega)
   have nd1 : ¬ (0≤th):=by omega
   have E:=hid (show thingB arch ⟨th,rg,loc⟩=false by rw [hT];simp [*])
   clear hT
   go_enter Tryz.func179,Tryz.ntmps179
   go_wp2_with fail
   go_quiet ((go_at_call 199;exact Calls.quiet_of_same (RG.out _)))
   go_wp2_with fail
   go_ret
   exact ⟨ret_bool E.out.symm,blN⟩
  have d1:decide (0≤th)=true:=decide_eq_true (by omega)
  have pd1:0≤th:=by omega
  by_cases cd2:16≤th
  ·have d2:decide (th<16)=false:=decide_eq_false (by omega)
   have nd2 : ¬ (th<16):=by omega
   have E:=hid (show thingB arch ⟨th,rg,loc⟩=false by rw [hT];simp [*])
   clear hT
   go_enter Tryz.func179,Tryz.ntmps179
   go_wp2_with fail
   go_quiet ((go_at_call 199;exact Calls.quiet_of_same (RG.out _)))
   go_wp2_with fail
   go_ret
   exact ⟨ret_bool E.out.symm,blN⟩
  have d2:decide (th<16)=true:=decide_eq_true (by omega)
  have pd2:th<16:=by omega
  by_cases cd3:rg<0
  ·have d3:decide (0≤rg)=false:=decide_eq_false (by omega)
   have nd3 : ¬ (0≤rg):=by omega
   have E:=hid (show thingB arch ⟨th,rg,loc⟩=false by rw [hT];simp [*])
   clear hT
   go_enter Tryz.func179,Tryz.ntmps179
   go_wp2_with fail
   go_quiet ((go_at_call 199;exact Calls.quiet_of_same (RG.out _)))
   go_wp2_with fail
   go_ret
   exact ⟨ret_bool E.out.symm,blN⟩
  have d3:decide (0≤rg)=true:=decide_eq_true (by omega)
  have pd3:0≤rg:=by omega
  by_cases cd4:R≤rg
  ·have d4:decide (rg<R)=false:=decide_eq_false (by omega)
   have nd4 : ¬ (rg<R):=by omega
   have E:=hid (show thingB arch ⟨th,rg,loc⟩=false by rw [hT];simp [*])
   clear hT
   go_enter Tryz.func179,Tryz.ntmps179
   go_wp2_with fail
   go_quiet ((go_at_call 199;exact Calls.quiet_of_same (RG.out _)))
   go_wp2_with fail
   go_ret
   exact ⟨ret_bool E.out.symm,blN⟩
  have d4:decide (rg<R)=true:=decide_eq_true (by omega)
  have pd4:rg<R:=by omega
  by_cases hl0:loc = []
  ·subst hl0
   have z5:((tx []).toList==([]:List UInt8))=true:=by rw [tx_toList];rfl
   have E:=hid (show thingB arch ⟨th,rg,[]⟩=true by rw [hT];simp [*])
   clear hT
   go_enter Tryz.func179,Tryz.ntmps179
   go_wp2_with fail
   go_quiet ((go_at_call 199;exact Calls.quiet_of_same (RG.out _)))
   go_wp2_with fail
   go_ret
   exact ⟨ret_bool E.out.symm,blN⟩
  ·have z5:((tx loc).toList==([]:List UInt8))=false:=by rw [tx_toList];simpa using hl0
   have z6:(tx loc).toList.isEmpty=false:=by rw [tx_toList];cases loc <;> simp at *
   have E:=hid (show thingB arch ⟨th,rg,loc⟩=false by rw [hT];simp [*])
   clear hT
   go_enter Tryz.func179,Tryz.ntmps179
   go_wp2_with fail
   go_quiet ((go_at_call 199;exact Calls.quiet_of_same (RG.out _)))
   go_wp2_with fail
   go_ret
   exact ⟨ret_bool E.out.symm,blN⟩
attribute [local go_sem high] eqTh neqTh
theorem mayN_2 (arch:Int) (t:Th) (v:Int) (n:Nat):mayN arch 2 t v n=(thingB arch t&&n32B v&&decide (n=0)):=rfl
theorem mayN_no {arch k:Int} {t:Th} {v:Int} {n:Nat} (hk:k≠2) (h:t≠zTh∨v≠0):mayN arch k t v n=false:=by
 unfold mayN;rw [if_neg hk]
 rcases h with h|h
 ·rw [decide_eq_false h];simp
 ·rw [decide_eq_false h];simp
theorem mayN_z {arch k:Int} {n:Nat} (hk:k≠2):mayN arch k zTh 0 n=(if k=1 then decide (n=0) else if k=3 then decide (n=1) else if k=4∨k=5 then decide (2≤n) else false):=by
 unfold mayN;rw [if_neg hk];simp
theorem neq_zTh (t:Th) (w:World):(binOp .neq 32 (vTh t) (.agg #[.int .i64 0,.int .i64 0,.string ⟨#[]⟩])).run Tryz.prog w = .ok (.bool (!decide (t=zTh))) w:=neqTh t zTh w
theorem condMay_2 (arch:Int) (t:Th) (v:Int) (a:Option Addr) (n c:Nat) (hl:t.loc.length≤9223372036854775807) (w:World):Calls Tryz.prog 127 #[.int .i64 arch,.agg #[.int .i64 2,.int .i64 t.thread,.int .i64 t.reg,.string (tx t.loc),.int .i64 v,.slice a n c]] w (Ret w (.bool (mayN arch 2 t v n))):=by
 have B:=al w (.cells #[.int .i64 2,.int .i64 t.thread,.int .i64 t.reg,.string (tx t.loc),.int .i64 v,.slice a n c] 35)
 have b0:=BxL.new w #[.int .i64 2,.int .i64 t.thread,.int .i64 t.reg,.string (tx t.loc),.int .i64 v,.slice a n c] 35
 obtain ⟨b1,hb1⟩ : ∃ b1,thingB arch t=b1:=⟨_,rfl⟩
 obtain ⟨b2,hb2⟩ : ∃ b2,n32B v=b2:=⟨_,rfl⟩
 have CT:=hid (show ∀ w,Calls Tryz.prog 162 #[.int .i64 arch,vTh t] w (Ret w (.bool b1)) from fun w=>hb1▸condThing arch t hl w)
 have CB:=hid (show ∀ w,Calls Tryz.prog 163 #[.int .i64 v] w fun e w'=>e = .returned (.bool b2)∧w=w' from fun w=>hb2▸condNumber v w)
 have hE:=mayN_2 arch t v n
 rw [hb1,hb2] at hE
 clear hb1 hb2
 by_cases h0:n=0
 ·subst h0
  cases b1 <;> cases b2
  all_goals
   have HE:=hid hE;clear hE
   simp only [Bool.and_true,Bool.and_false,decide_true] at HE
   go_enter Tryz.func127,Tryz.ntmps127
   go_wp2_with (first|(go_at_call 162;refine (CT.out _).mono ?_;rintro e w1 ⟨rfl,E1⟩;have b1':=b0.below E1;have q4:=b1'.get 4 _ rfl;have q5:=b1'.get 5 _ rfl;have B:=B.trans (E1.mono B.size);clear b1' E1)|(go_at_call 163;refine (CB.out _).mono ?_;rintro e w2 ⟨rfl,rfl⟩))
   go_ret
   exact ⟨ret_bool HE.out.symm,blN⟩
 ·have z0:((n:Int)==0)=false:=by simpa using h0
  rw [decide_eq_false h0] at hE
  clear h0
  cases b1 <;> cases b2
  all_goals
   have HE:=hid hE;clear hE
   simp only [Bool.and_true,Bool.and_false] at HE
   go_enter Tryz.func127,Tryz.ntmps127
   go_wp2_with (first|(go_at_call 162;refine (CT.out _).mono ?_;rintro e w1 ⟨rfl,E1⟩;have b1':=b0.below E1;have q4:=b1'.get 4 _ rfl;have q5:=b1'.get 5 _ rfl;have B:=B.trans (E1.mono B.size);clear b1' E1)|(go_at_call 163;refine (CB.out _).mono ?_;rintro e w2 ⟨rfl,rfl⟩))
   go_ret
   exact ⟨ret_bool HE.out.symm,blN⟩
theorem condMay_no (arch:Int) (k:Int) (t:Th) (v:Int) (a:Option Addr) (n c:Nat) (hl:t.loc.length≤9223372036854775807) (hk:k≠2) (h:t≠zTh∨v≠0) (w:World):Calls Tryz.prog 127 #[.int .i64 arch,.agg #[.int .i64 k,.int .i64 t.thread,.int .i64 t.reg,.string (tx t.loc),.int .i64 v,.slice a n c]] w (Ret w (.bool (mayN arch k t v n))):=by
 have B:=al w (.cells #[.int .i64 k,.int .i64 t.thread,.int .i64 t.reg,.string (tx t.loc),.int .i64 v,.slice a n c] 35)
 have HE:=hid (mayN_no (arch:=arch) (n:=n) hk h)
 have NZ:=neq_zTh t
 have zk:(k==2)=false:=by simpa using hk
 have zk2:(k != 2)=true:=by simpa using hk
 clear hk
 by_cases ht:t=zTh
 ·have hv:v≠0:=by rcases h with h|h;exact absurd ht h;exact h
  have zv:(v != 0)=true:=by simpa using hv
  rw [decide_eq_true ht] at NZ
  clear h ht hv
  go_enter Tryz.func127,Tryz.ntmps127
  go_wp2_with fail
  go_ret
  exact ⟨ret_bool HE.out.symm,blN⟩
 ·rw [decide_eq_false ht] at NZ
  clear h ht
  go_enter Tryz.func127,Tryz.ntmps127
  go_wp2_with fail
  go_ret
  exact ⟨ret_bool HE.out.symm,blN⟩
theorem condMay_z (arch k:Int) (a:Option Addr) (n c:Nat) (hk:k≠2) (w:World):Calls Tryz.prog 127 #[.int .i64 arch,.agg #[.int .i64 k,.int .i64 0,.int .i64 0,.string ⟨#[]⟩,.int .i64 0,.slice a n c]] w (Ret w (.bool (mayN arch k zTh 0 n))):=by
 have B:=al w (.cells #[.int .i64 k,.int .i64 0,.int .i64 0,.string ⟨#[]⟩,.int .i64 0,.slice a n c] 35)
 have hE:=mayN_z (arch:=arch) (n:=n) hk
 have NZ:=neq_zTh zTh
 rw [decide_eq_true rfl] at NZ
 have NZ : ∀ w,(binOp .neq 32 (.agg #[.int .i64 0,.int .i64 0,.string ⟨#[]⟩]) (.agg #[.int .i64 0,.int .i64 0,.string ⟨#[]⟩])).run Tryz.prog w = .ok (.bool false) w:=NZ
 have zk:(k==2)=false:=by simpa using hk
 have zk2:(k != 2)=true:=by simpa using hk
 by_cases h1:k=1
 ·subst h1
  have e:mayN arch 1 zTh 0 n=((n:Int)==0):=by rw [hE,if_pos rfl,Bool.eq_iff_iff];simp
  have HE:=hid e
  clear e hE hk zk zk2
  go_enter Tryz.func127,Tryz.ntmps127
  go_wp2_with fail
  go_ret
  exact ⟨ret_bool HE.out.symm,blN⟩
 by_cases h3:k=3
 ·subst h3
  have e:mayN arch 3 zTh 0 n=((n:Int)==1):=by rw [hE,if_neg (by omega),if_pos rfl,Bool.eq_iff_iff];simp;omega
  have HE:=hid e
  clear e hE hk zk zk2 h1
  go_enter Tryz.func127,Tryz.ntmps127
  go_wp2_with fail
  go_ret
  exact ⟨ret_bool HE.out.symm,blN⟩
 by_cases h45:k=4∨k=5
 ·have e:mayN arch k zTh 0 n=decide (2≤n):=by rw [hE,if_neg h1,if_neg h3,if_pos h45]
  clear hE hk zk zk2 h1 h3
  rcases h45 with rfl|rfl
  all_goals
   by_cases hn:2≤n
   ·rw [decide_eq_true hn] at e
    have zn:decide ((2:Int)≤n)=true:=decide_eq_true (by omega)
    have HE:=hid e
    clear e
    go_enter Tryz.func127,Tryz.ntmps127
    go_wp2_with fail
    go_ret
    exact ⟨ret_bool (by rw [HE.out]),blN⟩
   ·rw [decide_eq_false hn] at e
    have zn:decide ((2:Int)≤n)=false:=decide_eq_false (by omega)
    have HE:=hid e
    clear e
    go_enter Tryz.func127,Tryz.ntmps127
    go_wp2_with fail
    go_ret
    exact ⟨ret_bool (by rw [HE.out]),blN⟩
 ·have HE:=hid (show mayN arch k zTh 0 n=false by rw [hE,if_neg h1,if_neg h3,if_neg h45])
  have z1:(k==1)=false:=by simpa using h1
  have z3:(k==3)=false:=by simpa using h3
  have z4:(k==4)=false:=by simp;omega
  have z5:(k==5)=false:=by simp;omega
  clear hE hk h1 h3 h45
  go_enter Tryz.func127,Tryz.ntmps127
  go_wp2_with fail
  go_ret
  exact ⟨ret_bool HE.out.symm,blN⟩
theorem condMay (arch:Int) (x:Nd) (hl:x.th.loc.length≤9223372036854775807) (w:World):Calls Tryz.prog 127 #[.int .i64 arch,vN x] w (Ret w (.bool (mayN arch x.kind x.th x.val x.kids.length))):=by
 unfold vN
 generalize x.kind=k
 generalize x.th=t at *
 generalize x.val=v
 by_cases h2:k=2
 ·subst h2;exact condMay_2 arch t v x.a x.kids.length x.c hl w
 by_cases hz:t=zTh∧v=0
 ·obtain ⟨rfl,rfl⟩:=hz
  exact condMay_z arch k x.a x.kids.length x.c h2 w
 ·exact condMay_no arch k t v x.a x.kids.length x.c hl h2 (by by_cases ht:t=zTh;exact .inr (fun hv=>hz ⟨ht,hv⟩);exact .inl ht) w
theorem r08Node_2 (arch:Int) (t:Th) (v:Int) (a:Option Addr) (n c:Nat) (hl:t.loc.length≤9223372036854775807) (w:World):Calls Tryz.prog 144 #[.int .i64 arch,.agg #[.int .i64 2,.int .i64 t.thread,.int .i64 t.reg,.string (tx t.loc),.int .i64 v,.slice a n c]] w (Ret w (.bool (mayN arch 2 t v n))):=by
 have B:=al w (.cells #[.int .i64 2,.int .i64 t.thread,.int .i64 t.reg,.string (tx t.loc),.int .i64 v,.slice a n c] 35)
 have b0:=BxL.new w #[.int .i64 2,.int .i64 t.thread,.int .i64 t.reg,.string (tx t.loc),.int .i64 v,.slice a n c] 35
 have b0:=b0.below (al _ (.cells #[.int .i64 0,.int .i64 0,.string ⟨#[]⟩] 32))
 have B:=bel_alloc B (.cells #[.int .i64 0,.int .i64 0,.string ⟨#[]⟩] 32)
 obtain ⟨b1,hb1⟩ : ∃ b1,thingB arch t=b1:=⟨_,rfl⟩
 obtain ⟨b2,hb2⟩ : ∃ b2,n32B v=b2:=⟨_,rfl⟩
 have CT:=hid (show ∀ w,Calls Tryz.prog 179 #[.int .i64 arch,vTh t] w (Ret w (.bool b1)) from fun w=>hb1▸r08Thing arch t hl w)
 have CB:=hid (show ∀ w,Calls Tryz.prog 180 #[.int .i64 v] w fun e w'=>e = .returned (.bool b2)∧w=w' from fun w=>hb2▸r08Number v w)
 have hE:=mayN_2 arch t v n
 rw [hb1,hb2] at hE
 clear hb1 hb2
 by_cases h0:n=0
 ·subst h0
  cases b1 <;> cases b2
  all_goals
   have HE:=hid hE;clear hE
   simp only [Bool.and_true,Bool.and_false,decide_true] at HE
   go_enter Tryz.func144,Tryz.ntmps144
   go_wp2_with (first|(go_at_call 179;refine (CT.out _).mono ?_;rintro e w1 ⟨rfl,E1⟩;have b1':=b0.below E1;have q4:=b1'.get 4 _ rfl;have q5:=b1'.get 5 _ rfl;have B:=B.trans (E1.mono B.size);clear b1' E1)|(go_at_call 180;refine (CB.out _).mono ?_;rintro e w2 ⟨rfl,rfl⟩))
   go_ret
   exact ⟨ret_bool HE.out.symm,blN⟩
 ·have z0:((n:Int)==0)=false:=by simpa using h0
  rw [decide_eq_false h0] at hE
  clear h0
  cases b1 <;> cases b2
  all_goals
   have HE:=hid hE;clear hE
   simp only [Bool.and_true,Bool.and_false] at HE
   go_enter Tryz.func144,Tryz.ntmps144
   go_wp2_with (first|(go_at_call 179;refine (CT.out _).mono ?_;rintro e w1 ⟨rfl,E1⟩;have b1':=b0.below E1;have q4:=b1'.get 4 _ rfl;have q5:=b1'.get 5 _ rfl;have B:=B.trans (E1.mono B.size);clear b1' E1)|(go_at_call 180;refine (CB.out _).mono ?_;rintro e w2 ⟨rfl,rfl⟩))
   go_ret
   exact ⟨ret_bool HE.out.symm,blN⟩
theorem r08Node_no (arch:Int) (k:Int) (t:Th) (v:Int) (a:Option Addr) (n c:Nat) (hl:t.loc.length≤9223372036854775807) (hk:k≠2) (h:t≠zTh∨v≠0) (w:World):Calls Tryz.prog 144 #[.int .i64 arch,.agg #[.int .i64 k,.int .i64 t.thread,.int .i64 t.reg,.string (tx t.loc),.int .i64 v,.slice a n c]] w (Ret w (.bool (mayN arch k t v n))):=by
 have B:=al w (.cells #[.int .i64 k,.int .i64 t.thread,.int .i64 t.reg,.string (tx t.loc),.int .i64 v,.slice a n c] 35)
 have HE:=hid (mayN_no (arch:=arch) (n:=n) hk h)
 have NZ:=neq_zTh t
 have zk:(k==2)=false:=by simpa using hk
 have zk2:(k != 2)=true:=by simpa using hk
 clear hk
 by_cases ht:t=zTh
 ·have hv:v≠0:=by rcases h with h|h;exact absurd ht h;exact h
  have zv:(v != 0)=true:=by simpa using hv
  rw [decide_eq_true ht] at NZ
  clear h ht hv
  go_enter Tryz.func144,Tryz.ntmps144
  go_wp2_with fail
  go_ret
  exact ⟨ret_bool HE.out.symm,blN⟩
 ·rw [decide_eq_false ht] at NZ
  clear h ht
  go_enter Tryz.func144,Tryz.ntmps144
  go_wp2_with fail
  go_ret
  exact ⟨ret_bool HE.out.symm,blN⟩
theorem r08Node_z (arch k:Int) (a:Option Addr) (n c:Nat) (hk:k≠2) (w:World):Calls Tryz.prog 144 #[.int .i64 arch,.agg #[.int .i64 k,.int .i64 0,.int .i64 0,.string ⟨#[]⟩,.int .i64 0,.slice a n c]] w (Ret w (.bool (mayN arch k zTh 0 n))):=by
 have B:=al w (.cells #[.int .i64 k,.int .i64 0,.int .i64 0,.string ⟨#[]⟩,.int .i64 0,.slice a n c] 35)
 have hE:=mayN_z (arch:=arch) (n:=n) hk
 have NZ:=neq_zTh zTh
 rw [decide_eq_true rfl] at NZ
 have NZ : ∀ w,(binOp .neq 32 (.agg #[.int .i64 0,.int .i64 0,.string ⟨#[]⟩]) (.agg #[.int .i64 0,.int .i64 0,.string ⟨#[]⟩])).run Tryz.prog w = .ok (.bool false) w:=NZ
 have zk:(k==2)=false:=by simpa using hk
 have zk2:(k != 2)=true:=by simpa using hk
 by_cases h1:k=1
 ·subst h1
  have e:mayN arch 1 zTh 0 n=((n:Int)==0):=by rw [hE,if_pos rfl,Bool.eq_iff_iff];simp
  have HE:=hid e
  clear e hE hk zk zk2
  go_enter Tryz.func144,Tryz.ntmps144
  go_wp2_with fail
  go_ret
  exact ⟨ret_bool HE.out.symm,blN⟩
 by_cases h3:k=3
 ·subst h3
  have e:mayN arch 3 zTh 0 n=((n:Int)==1):=by rw [hE,if_neg (by omega),if_pos rfl,Bool.eq_iff_iff];simp;omega
  have HE:=hid e
  clear e hE hk zk zk2 h1
  go_enter Tryz.func144,Tryz.ntmps144
  go_wp2_with fail
  go_ret
  exact ⟨ret_bool HE.out.symm,blN⟩
 by_cases h45:k=4∨k=5
 ·have e:mayN arch k zTh 0 n=decide (2≤n):=by rw [hE,if_neg h1,if_neg h3,if_pos h45]
  clear hE hk zk zk2 h1 h3
  rcases h45 with rfl|rfl
  all_goals
   by_cases hn:2≤n
   ·rw [decide_eq_true hn] at e
    have zn:decide ((2:Int)≤n)=true:=decide_eq_true (by omega)
    have HE:=hid e
    clear e
    go_enter Tryz.func144,Tryz.ntmps144
    go_wp2_with fail
    go_ret
    exact ⟨ret_bool (by rw [HE.out]),blN⟩
   ·rw [decide_eq_false hn] at e
    have zn:decide ((2:Int)≤n)=false:=decide_eq_false (by omega)
    have HE:=hid e
    clear e
    go_enter Tryz.func144,Tryz.ntmps144
    go_wp2_with fail
    go_ret
    exact ⟨ret_bool (by rw [HE.out]),blN⟩
 ·have HE:=hid (show mayN arch k zTh 0 n=false by rw [hE,if_neg h1,if_neg h3,if_neg h45])
  have z1:(k==1)=false:=by simpa using h1
  have z3:(k==3)=false:=by simpa using h3
  have z4:(k==4)=false:=by simp;omega
  have z5:(k==5)=false:=by simp;omega
  clear hE hk h1 h3 h45
  go_enter Tryz.func144,Tryz.ntmps144
  go_wp2_with fail
  go_ret
  exact ⟨ret_bool HE.out.symm,blN⟩
theorem r08Node (arch:Int) (x:Nd) (hl:x.th.loc.length≤9223372036854775807) (w:World):Calls Tryz.prog 144 #[.int .i64 arch,vN x] w (Ret w (.bool (mayN arch x.kind x.th x.val x.kids.length))):=by
 unfold vN
 generalize x.kind=k
 generalize x.th=t at *
 generalize x.val=v
 by_cases h2:k=2
 ·subst h2;exact r08Node_2 arch t v x.a x.kids.length x.c hl w
 by_cases hz:t=zTh∧v=0
 ·obtain ⟨rfl,rfl⟩:=hz
  exact r08Node_z arch k x.a x.kids.length x.c h2 w
 ·exact r08Node_no arch k t v x.a x.kids.length x.c hl h2 (by by_cases ht:t=zTh;exact .inr (fun hv=>hz ⟨ht,hv⟩);exact .inl ht) w
end Go.Proofs.YthaibjefnclkjaaGreatDoor
namespace Go.Proofs.YthaibjefnclkjaaGreatDoor
open Go.Shelf
def Tryz.l190_ren:Go.Shelf.Ren:=⟨fun|190=>74|125=>117|258=>116|128=>155|129=>156|302=>146|303=>147|304=>148|305=>149|306=>150|307=>151|308=>152|309=>153|310=>154|333=>181|329=>182|330=>183|334=>184|335=>185|336=>186|344=>200|n=>n,fun|31=>44|9=>9|3=>3|46=>128|0=>0|51=>161|53=>144|4=>4|183=>155|182=>154|131=>135|5=>5|218=>177|222=>181|228=>192|229=>193|n=>n,fun|n=>n⟩
theorem Tryz.l190:Go.Proofs.Lays.n190 Tryz.prog Tryz.l190_ren:={
 mixed:=by kernel_rfl
 f125:=Tryz.func117.trans (congrArg some (by kernel_rfl))
 f128:=Tryz.func155.trans (congrArg some (by kernel_rfl))
 f129:=Tryz.func156.trans (congrArg some (by kernel_rfl))
 f190:=Tryz.func74.trans (congrArg some (by kernel_rfl))
 f258:=Tryz.func116.trans (congrArg some (by kernel_rfl))
 f302:=Tryz.func146.trans (congrArg some (by kernel_rfl))
 f303:=Tryz.func147.trans (congrArg some (by kernel_rfl))
 f304:=Tryz.func148.trans (congrArg some (by kernel_rfl))
 f305:=Tryz.func149.trans (congrArg some (by kernel_rfl))
 f306:=Tryz.func150.trans (congrArg some (by kernel_rfl))
 f307:=Tryz.func151.trans (congrArg some (by kernel_rfl))
 f308:=Tryz.func152.trans (congrArg some (by kernel_rfl))
 f309:=Tryz.func153.trans (congrArg some (by kernel_rfl))
 f310:=Tryz.func154.trans (congrArg some (by kernel_rfl))
 f329:=Tryz.func182.trans (congrArg some (by kernel_rfl))
 f330:=Tryz.func183.trans (congrArg some (by kernel_rfl))
 f333:=Tryz.func181.trans (congrArg some (by kernel_rfl))
 f334:=Tryz.func184.trans (congrArg some (by kernel_rfl))
 f335:=Tryz.func185.trans (congrArg some (by kernel_rfl))
 f336:=Tryz.func186.trans (congrArg some (by kernel_rfl))
 f344:=Tryz.func200.trans (congrArg some (by kernel_rfl))
 t0:=Tryz.underlying0
 a0:=Tryz.isAgg0
 z0:=Tryz.sizeOf0
 v0:=Tryz.zeroValue0
 t3:=Tryz.underlying3
 a3:=Tryz.isAgg3
 z3:=Tryz.sizeOf3
 v3:=Tryz.zeroValue3
 t4:=Tryz.underlying4
 a4:=Tryz.isAgg4
 z4:=Tryz.sizeOf4
 v4:=Tryz.zeroValue4
 t5:=Tryz.underlying5
 a5:=Tryz.isAgg5
 z5:=Tryz.sizeOf5
 v5:=Tryz.zeroValue5
 t9:=Tryz.underlying9
 a9:=Tryz.isAgg9
 z9:=Tryz.sizeOf9
 v9:=Tryz.zeroValue9
 t31:=Tryz.underlying44
 a31:=Tryz.isAgg44
 z31:=Tryz.sizeOf44
 v31:=Tryz.zeroValue44
 t46:=Tryz.underlying128
 a46:=Tryz.isAgg128
 z46:=Tryz.sizeOf128
 v46:=Tryz.zeroValue128
 t51:=Tryz.underlying161
 a51:=Tryz.isAgg161
 z51:=Tryz.sizeOf161
 v51:=Tryz.zeroValue161
 t53:=Tryz.underlying144
 a53:=Tryz.isAgg144
 z53:=Tryz.sizeOf144
 v53:=Tryz.zeroValue144
 t131:=Tryz.underlying135
 a131:=Tryz.isAgg135
 z131:=Tryz.sizeOf135
 v131:=Tryz.zeroValue135
 t182:=Tryz.underlying154
 a182:=Tryz.isAgg154
 z182:=Tryz.sizeOf154
 v182:=Tryz.zeroValue154
 t183:=Tryz.underlying155
 a183:=Tryz.isAgg155
 z183:=Tryz.sizeOf155
 v183:=Tryz.zeroValue155
 t218:=Tryz.underlying177
 a218:=Tryz.isAgg177
 z218:=Tryz.sizeOf177
 v218:=Tryz.zeroValue177
 t222:=Tryz.underlying181
 a222:=Tryz.isAgg181
 z222:=Tryz.sizeOf181
 v222:=Tryz.zeroValue181
 t228:=Tryz.underlying192
 a228:=Tryz.isAgg192
 z228:=Tryz.sizeOf192
 v228:=Tryz.zeroValue192
 t229:=Tryz.underlying193
 a229:=Tryz.isAgg193
 z229:=Tryz.sizeOf193
 v229:=Tryz.zeroValue193 }
def Tryz.l194_ren:Go.Shelf.Ren:=⟨fun|194=>75|n=>n,fun|31=>44|9=>9|3=>3|4=>4|0=>0|n=>n,fun|n=>n⟩
theorem Tryz.l194:Go.Proofs.Lays.n194 Tryz.prog Tryz.l194_ren:={
 mixed:=by kernel_rfl
 f194:=Tryz.func75.trans (congrArg some (by kernel_rfl))
 t0:=Tryz.underlying0
 a0:=Tryz.isAgg0
 z0:=Tryz.sizeOf0
 v0:=Tryz.zeroValue0
 t3:=Tryz.underlying3
 a3:=Tryz.isAgg3
 z3:=Tryz.sizeOf3
 v3:=Tryz.zeroValue3
 t4:=Tryz.underlying4
 a4:=Tryz.isAgg4
 z4:=Tryz.sizeOf4
 v4:=Tryz.zeroValue4
 t9:=Tryz.underlying9
 a9:=Tryz.isAgg9
 z9:=Tryz.sizeOf9
 v9:=Tryz.zeroValue9
 t31:=Tryz.underlying44
 a31:=Tryz.isAgg44
 z31:=Tryz.sizeOf44
 v31:=Tryz.zeroValue44 }
def Tryz.lsfT_ren:Go.Shelf.Ren:=⟨fun|6=>166|15=>117|14=>193|28=>155|29=>156|20=>204|21=>205|22=>206|23=>207|24=>208|25=>209|26=>210|27=>211|46=>216|47=>182|48=>183|49=>217|50=>218|57=>220|n=>n,fun|22=>78|24=>32|25=>168|3=>3|39=>128|0=>0|53=>161|55=>144|4=>4|46=>155|45=>154|50=>135|5=>5|9=>9|66=>177|70=>181|76=>192|77=>193|n=>n,fun|n=>n⟩
theorem Tryz.lsfT:Go.Proofs.SlLaysF0.n6 Tryz.prog Tryz.lsfT_ren:={
 mixed:=by kernel_rfl
 f6:=⟨Tryz.f166.name,by decide,Tryz.func166.trans (congrArg some (by kernel_rfl))⟩
 f14:=⟨Tryz.f193.name,by decide,Tryz.func193.trans (congrArg some (by kernel_rfl))⟩
 f15:=Tryz.func117.trans (congrArg some (by kernel_rfl))
 f20:=⟨Tryz.f204.name,by decide,Tryz.func204.trans (congrArg some (by kernel_rfl))⟩
 f21:=⟨Tryz.f205.name,by decide,Tryz.func205.trans (congrArg some (by kernel_rfl))⟩
 f22:=⟨Tryz.f206.name,by decide,Tryz.func206.trans (congrArg some (by kernel_rfl))⟩
 f23:=⟨Tryz.f207.name,by decide,Tryz.func207.trans (congrArg some (by kernel_rfl))⟩
 f24:=⟨Tryz.f208.name,by decide,Tryz.func208.trans (congrArg some (by kernel_rfl))⟩
 f25:=⟨Tryz.f209.name,by decide,Tryz.func209.trans (congrArg some (by kernel_rfl))⟩
 f26:=⟨Tryz.f210.name,by decide,Tryz.func210.trans (congrArg some (by kernel_rfl))⟩
 f27:=⟨Tryz.f211.name,by decide,Tryz.func211.trans (congrArg some (by kernel_rfl))⟩
 f28:=Tryz.func155.trans (congrArg some (by kernel_rfl))
 f29:=Tryz.func156.trans (congrArg some (by kernel_rfl))
 f46:=⟨Tryz.f216.name,by decide,Tryz.func216.trans (congrArg some (by kernel_rfl))⟩
 f47:=Tryz.func182.trans (congrArg some (by kernel_rfl))
 f48:=Tryz.func183.trans (congrArg some (by kernel_rfl))
 f49:=⟨Tryz.f217.name,by decide,Tryz.func217.trans (congrArg some (by kernel_rfl))⟩
 f50:=⟨Tryz.f218.name,by decide,Tryz.func218.trans (congrArg some (by kernel_rfl))⟩
 f57:=⟨Tryz.f220.name,by decide,Tryz.func220.trans (congrArg some (by kernel_rfl))⟩
 t0:=Tryz.underlying0
 a0:=Tryz.isAgg0
 z0:=Tryz.sizeOf0
 v0:=Tryz.zeroValue0
 t3:=Tryz.underlying3
 a3:=Tryz.isAgg3
 z3:=Tryz.sizeOf3
 v3:=Tryz.zeroValue3
 t4:=Tryz.underlying4
 a4:=Tryz.isAgg4
 z4:=Tryz.sizeOf4
 v4:=Tryz.zeroValue4
 t5:=Tryz.underlying5
 a5:=Tryz.isAgg5
 z5:=Tryz.sizeOf5
 v5:=Tryz.zeroValue5
 t9:=Tryz.underlying9
 a9:=Tryz.isAgg9
 z9:=Tryz.sizeOf9
 v9:=Tryz.zeroValue9
 t22:=Tryz.underlying78
 a22:=Tryz.isAgg78
 z22:=Tryz.sizeOf78
 v22:=Tryz.zeroValue78
 t25:=Tryz.underlying168
 a25:=Tryz.isAgg168
 z25:=Tryz.sizeOf168
 v25:=Tryz.zeroValue168
 t39:=Tryz.underlying128
 a39:=Tryz.isAgg128
 z39:=Tryz.sizeOf128
 v39:=Tryz.zeroValue128
 t45:=Tryz.underlying154
 a45:=Tryz.isAgg154
 z45:=Tryz.sizeOf154
 v45:=Tryz.zeroValue154
 t46:=Tryz.underlying155
 a46:=Tryz.isAgg155
 z46:=Tryz.sizeOf155
 v46:=Tryz.zeroValue155
 t50:=Tryz.underlying135
 a50:=Tryz.isAgg135
 z50:=Tryz.sizeOf135
 v50:=Tryz.zeroValue135
 t53:=Tryz.underlying161
 a53:=Tryz.isAgg161
 z53:=Tryz.sizeOf161
 v53:=Tryz.zeroValue161
 t55:=Tryz.underlying144
 a55:=Tryz.isAgg144
 z55:=Tryz.sizeOf144
 v55:=Tryz.zeroValue144
 t66:=Tryz.underlying177
 a66:=Tryz.isAgg177
 z66:=Tryz.sizeOf177
 v66:=Tryz.zeroValue177
 t70:=Tryz.underlying181
 a70:=Tryz.isAgg181
 z70:=Tryz.sizeOf181
 v70:=Tryz.zeroValue181
 t76:=Tryz.underlying192
 a76:=Tryz.isAgg192
 z76:=Tryz.sizeOf192
 v76:=Tryz.zeroValue192
 t77:=Tryz.underlying193
 a77:=Tryz.isAgg193
 z77:=Tryz.sizeOf193
 v77:=Tryz.zeroValue193 }
def Tryz.l105_ren:Go.Shelf.Ren:=⟨fun|105=>106|212=>140|99=>141|165=>142|166=>29|170=>34|169=>35|263=>175|264=>176|206=>177|240=>66|241=>178|276=>104|277=>197|n=>n,fun|9=>9|3=>3|4=>4|20=>20|0=>0|46=>128|109=>149|5=>5|72=>56|76=>59|51=>161|146=>173|53=>144|148=>175|70=>53|37=>54|75=>58|127=>94|164=>117|80=>70|n=>n,fun|n=>n⟩
theorem Tryz.l105:Go.Proofs.Lays.n105 Tryz.prog Tryz.l105_ren:={
 mixed:=by kernel_rfl
 f99:=Tryz.func141.trans (congrArg some (by kernel_rfl))
 f105:=Tryz.func106.trans (congrArg some (by kernel_rfl))
 f165:=Tryz.func142.trans (congrArg some (by kernel_rfl))
 f166:=Tryz.func29.trans (congrArg some (by kernel_rfl))
 f169:=Tryz.func35.trans (congrArg some (by kernel_rfl))
 f170:=Tryz.func34.trans (congrArg some (by kernel_rfl))
 f206:=Tryz.func177.trans (congrArg some (by kernel_rfl))
 f212:=Tryz.func140.trans (congrArg some (by kernel_rfl))
 f240:=Tryz.func66.trans (congrArg some (by kernel_rfl))
 f241:=Tryz.func178.trans (congrArg some (by kernel_rfl))
 f263:=Tryz.func175.trans (congrArg some (by kernel_rfl))
 f264:=Tryz.func176.trans (congrArg some (by kernel_rfl))
 f276:=Tryz.func104.trans (congrArg some (by kernel_rfl))
 f277:=Tryz.func197.trans (congrArg some (by kernel_rfl))
 t0:=Tryz.underlying0
 a0:=Tryz.isAgg0
 z0:=Tryz.sizeOf0
 v0:=Tryz.zeroValue0
 t3:=Tryz.underlying3
 a3:=Tryz.isAgg3
 z3:=Tryz.sizeOf3
 v3:=Tryz.zeroValue3
 t4:=Tryz.underlying4
 a4:=Tryz.isAgg4
 z4:=Tryz.sizeOf4
 v4:=Tryz.zeroValue4
 t5:=Tryz.underlying5
 a5:=Tryz.isAgg5
 z5:=Tryz.sizeOf5
 v5:=Tryz.zeroValue5
 t9:=Tryz.underlying9
 a9:=Tryz.isAgg9
 z9:=Tryz.sizeOf9
 v9:=Tryz.zeroValue9
 t20:=Tryz.underlying20
 a20:=Tryz.isAgg20
 z20:=Tryz.sizeOf20
 v20:=Tryz.zeroValue20
 t37:=Tryz.underlying54
 a37:=Tryz.isAgg54
 z37:=Tryz.sizeOf54
 v37:=Tryz.zeroValue54
 t46:=Tryz.underlying128
 a46:=Tryz.isAgg128
 z46:=Tryz.sizeOf128
 v46:=Tryz.zeroValue128
 t51:=Tryz.underlying161
 a51:=Tryz.isAgg161
 z51:=Tryz.sizeOf161
 v51:=Tryz.zeroValue161
 t53:=Tryz.underlying144
 a53:=Tryz.isAgg144
 z53:=Tryz.sizeOf144
 v53:=Tryz.zeroValue144
 t70:=Tryz.underlying53
 a70:=Tryz.isAgg53
 z70:=Tryz.sizeOf53
 v70:=Tryz.zeroValue53
 t72:=Tryz.underlying56
 a72:=Tryz.isAgg56
 z72:=Tryz.sizeOf56
 v72:=Tryz.zeroValue56
 t75:=Tryz.underlying58
 a75:=Tryz.isAgg58
 z75:=Tryz.sizeOf58
 v75:=Tryz.zeroValue58
 t76:=Tryz.underlying59
 a76:=Tryz.isAgg59
 z76:=Tryz.sizeOf59
 v76:=Tryz.zeroValue59
 t109:=Tryz.underlying149
 a109:=Tryz.isAgg149
 z109:=Tryz.sizeOf149
 v109:=Tryz.zeroValue149
 t127:=Tryz.underlying94
 a127:=Tryz.isAgg94
 z127:=Tryz.sizeOf94
 v127:=Tryz.zeroValue94
 t146:=Tryz.underlying173
 a146:=Tryz.isAgg173
 z146:=Tryz.sizeOf173
 v146:=Tryz.zeroValue173
 t148:=Tryz.underlying175
 a148:=Tryz.isAgg175
 z148:=Tryz.sizeOf175
 v148:=Tryz.zeroValue175
 t164:=Tryz.underlying117
 a164:=Tryz.isAgg117
 z164:=Tryz.sizeOf117
 v164:=Tryz.zeroValue117 }
end Go.Proofs.YthaibjefnclkjaaGreatDoor

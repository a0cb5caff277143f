/- The walk of Check (the document's answer) at sums, exclusive ors, fences and others. Condition: lengths that an int holds. -/
import Derived.Test.YthaibjefnclkjaaGreatDoorAp18
set_option linter.unusedVariables false
set_option maxRecDepth 100000
set_option maxHeartbeats 6400000
namespace Go.Proofs.YthaibjefnclkjaaGreatDoor
open Go.RowKit
theorem refCheck_xor_e (d a b imm:Int) (loc label:Tx) (fence:Int) (he:(⟨9,d,a,b,imm,loc,label,fence⟩:Ins)≠⟨9,d,a,b,0,[],[],0⟩) (w:World):Calls Tryz.prog 63 #[vI ⟨9,d,a,b,imm,loc,label,fence⟩] w (Ret w (.int .i64 (errI ⟨9,d,a,b,imm,loc,label,fence⟩))):=by
 have hc:checkI ⟨9,d,a,b,imm,loc,label,fence⟩=(okI ⟨9,d,a,b,imm,loc,label,fence⟩&&decide ((⟨9,d,a,b,imm,loc,label,fence⟩:Ins)=⟨9,d,a,b,0,[],[],0⟩)&&regB d&&regB a&&regB b):=rfl
 have ho:okI ⟨9,d,a,b,imm,loc,label,fence⟩=true:=rfl
 have hNE : ∀ w,(binOp .neq 23 (.agg #[.int .i64 9,.int .i64 d,.int .i64 a,.int .i64 b,.int .i64 imm,.string (tx loc),.string (tx label),.int .i64 fence]) (.agg #[.int .i64 9,.int .i64 d,.int .i64 a,.int .i64 b,.int .i64 0,.string ⟨#[]⟩,.string ⟨#[]⟩,.int .i64 0])).run Tryz.prog w = .ok (.bool true) w:=fun w=>by
  have:=neqI ⟨9,d,a,b,imm,loc,label,fence⟩ ⟨9,d,a,b,0,[],[],0⟩ w
  rw [decide_eq_false he] at this
  exact this
 have HE:=hid (errI_no (by rw [hc,ho,decide_eq_false he];simp))
 have H1:=hid (rfl:(0:Nat)=0)
 have H2:=hid (rfl:(0:Nat)=0)
 have H3:=hid (rfl:(0:Nat)=0)
 have HM:=hid (rfl:(0:Nat)=0)
 have hl:label.length≤label.length:=Nat.le_refl _
 clear hc ho he
 go_enter Tryz.func63,Tryz.ntmps63
 go_wp2_with (first|(go_at_call 103;refine (refIsReg _ _).mono ?_;rintro e w' ⟨rfl,rfl⟩;(try rw [H1.out]);(try rw [H2.out]);(try rw [H3.out]))|(go_at_call 102;refine (refIsName label hl _).mono ?_;rintro e w' ⟨rfl,rfl⟩;rw [HM.out]))
 go_ret
 exact ⟨ret_int HE.out.symm,blA⟩
theorem refCheck_xor_d (d a b imm:Int) (loc label:Tx) (fence:Int) (he:(⟨9,d,a,b,imm,loc,label,fence⟩:Ins)=⟨9,d,a,b,0,[],[],0⟩) (h1:regB d=false) (w:World):Calls Tryz.prog 63 #[vI ⟨9,d,a,b,imm,loc,label,fence⟩] w (Ret w (.int .i64 (errI ⟨9,d,a,b,imm,loc,label,fence⟩))):=by
 have hc:checkI ⟨9,d,a,b,imm,loc,label,fence⟩=(okI ⟨9,d,a,b,imm,loc,label,fence⟩&&decide ((⟨9,d,a,b,imm,loc,label,fence⟩:Ins)=⟨9,d,a,b,0,[],[],0⟩)&&regB d&&regB a&&regB b):=rfl
 have ho:okI ⟨9,d,a,b,imm,loc,label,fence⟩=true:=rfl
 have hNE : ∀ w,(binOp .neq 23 (.agg #[.int .i64 9,.int .i64 d,.int .i64 a,.int .i64 b,.int .i64 imm,.string (tx loc),.string (tx label),.int .i64 fence]) (.agg #[.int .i64 9,.int .i64 d,.int .i64 a,.int .i64 b,.int .i64 0,.string ⟨#[]⟩,.string ⟨#[]⟩,.int .i64 0])).run Tryz.prog w = .ok (.bool false) w:=fun w=>by
  have:=neqI ⟨9,d,a,b,imm,loc,label,fence⟩ ⟨9,d,a,b,0,[],[],0⟩ w
  rw [decide_eq_true he] at this
  exact this
 have HE:=hid (errI_no (by rw [hc,ho,h1];simp))
 have H1:=hid h1
 have H2:=hid (rfl:(0:Nat)=0)
 have H3:=hid (rfl:(0:Nat)=0)
 have HM:=hid (rfl:(0:Nat)=0)
 have hl:label.length≤label.length:=Nat.le_refl _
 clear hc ho he h1
 go_enter Tryz.func63,Tryz.ntmps63
 go_wp2_with (first|(go_at_call 103;refine (refIsReg _ _).mono ?_;rintro e w' ⟨rfl,rfl⟩;(try rw [H1.out]);(try rw [H2.out]);(try rw [H3.out]))|(go_at_call 102;refine (refIsName label hl _).mono ?_;rintro e w' ⟨rfl,rfl⟩;rw [HM.out]))
 go_ret
 exact ⟨ret_int HE.out.symm,blA⟩
theorem refCheck_xor_a (d a b imm:Int) (loc label:Tx) (fence:Int) (he:(⟨9,d,a,b,imm,loc,label,fence⟩:Ins)=⟨9,d,a,b,0,[],[],0⟩) (h1:regB d=true) (h2:regB a=false) (w:World):Calls Tryz.prog 63 #[vI ⟨9,d,a,b,imm,loc,label,fence⟩] w (Ret w (.int .i64 (errI ⟨9,d,a,b,imm,loc,label,fence⟩))):=by
 have hc:checkI ⟨9,d,a,b,imm,loc,label,fence⟩=(okI ⟨9,d,a,b,imm,loc,label,fence⟩&&decide ((⟨9,d,a,b,imm,loc,label,fence⟩:Ins)=⟨9,d,a,b,0,[],[],0⟩)&&regB d&&regB a&&regB b):=rfl
 have ho:okI ⟨9,d,a,b,imm,loc,label,fence⟩=true:=rfl
 have hNE : ∀ w,(binOp .neq 23 (.agg #[.int .i64 9,.int .i64 d,.int .i64 a,.int .i64 b,.int .i64 imm,.string (tx loc),.string (tx label),.int .i64 fence]) (.agg #[.int .i64 9,.int .i64 d,.int .i64 a,.int .i64 b,.int .i64 0,.string ⟨#[]⟩,.string ⟨#[]⟩,.int .i64 0])).run Tryz.prog w = .ok (.bool false) w:=fun w=>by
  have:=neqI ⟨9,d,a,b,imm,loc,label,fence⟩ ⟨9,d,a,b,0,[],[],0⟩ w
  rw [decide_eq_true he] at this
  exact this
 have HE:=hid (errI_no (by rw [hc,ho,h2];simp))
 have H1:=hid h1
 have H2:=hid h2
 have H3:=hid (rfl:(0:Nat)=0)
 have HM:=hid (rfl:(0:Nat)=0)
 have hl:label.length≤label.length:=Nat.le_refl _
 clear hc ho he h1 h2
 go_enter Tryz.func63,Tryz.ntmps63
 go_wp2_with (first|(go_at_call 103;refine (refIsReg _ _).mono ?_;rintro e w' ⟨rfl,rfl⟩;(try rw [H1.out]);(try rw [H2.out]);(try rw [H3.out]))|(go_at_call 102;refine (refIsName label hl _).mono ?_;rintro e w' ⟨rfl,rfl⟩;rw [HM.out]))
 go_ret
 exact ⟨ret_int HE.out.symm,blA⟩
theorem refCheck_xor_b (d a b imm:Int) (loc label:Tx) (fence:Int) (he:(⟨9,d,a,b,imm,loc,label,fence⟩:Ins)=⟨9,d,a,b,0,[],[],0⟩) (h1:regB d=true) (h2:regB a=true) (h3:regB b=false) (w:World):Calls Tryz.prog 63 #[vI ⟨9,d,a,b,imm,loc,label,fence⟩] w (Ret w (.int .i64 (errI ⟨9,d,a,b,imm,loc,label,fence⟩))):=by
 have hc:checkI ⟨9,d,a,b,imm,loc,label,fence⟩=(okI ⟨9,d,a,b,imm,loc,label,fence⟩&&decide ((⟨9,d,a,b,imm,loc,label,fence⟩:Ins)=⟨9,d,a,b,0,[],[],0⟩)&&regB d&&regB a&&regB b):=rfl
 have ho:okI ⟨9,d,a,b,imm,loc,label,fence⟩=true:=rfl
 have hNE : ∀ w,(binOp .neq 23 (.agg #[.int .i64 9,.int .i64 d,.int .i64 a,.int .i64 b,.int .i64 imm,.string (tx loc),.string (tx label),.int .i64 fence]) (.agg #[.int .i64 9,.int .i64 d,.int .i64 a,.int .i64 b,.int .i64 0,.string ⟨#[]⟩,.string ⟨#[]⟩,.int .i64 0])).run Tryz.prog w = .ok (.bool false) w:=fun w=>by
  have:=neqI ⟨9,d,a,b,imm,loc,label,fence⟩ ⟨9,d,a,b,0,[],[],0⟩ w
  rw [decide_eq_true he] at this
  exact this
 have HE:=hid (errI_no (by rw [hc,ho,h3];simp))
 have H1:=hid h1
 have H2:=hid h2
 have H3:=hid h3
 have HM:=hid (rfl:(0:Nat)=0)
 have hl:label.length≤label.length:=Nat.le_refl _
 clear hc ho he h1 h2 h3
 go_enter Tryz.func63,Tryz.ntmps63
 go_wp2_with (first|(go_at_call 103;refine (refIsReg _ _).mono ?_;rintro e w' ⟨rfl,rfl⟩;(try rw [H1.out]);(try rw [H2.out]);(try rw [H3.out]))|(go_at_call 102;refine (refIsName label hl _).mono ?_;rintro e w' ⟨rfl,rfl⟩;rw [HM.out]))
 go_ret
 exact ⟨ret_int HE.out.symm,blA⟩
theorem refCheck_xor_y (d a b imm:Int) (loc label:Tx) (fence:Int) (he:(⟨9,d,a,b,imm,loc,label,fence⟩:Ins)=⟨9,d,a,b,0,[],[],0⟩) (h1:regB d=true) (h2:regB a=true) (h3:regB b=true) (w:World):Calls Tryz.prog 63 #[vI ⟨9,d,a,b,imm,loc,label,fence⟩] w (Ret w (.int .i64 (errI ⟨9,d,a,b,imm,loc,label,fence⟩))):=by
 have hc:checkI ⟨9,d,a,b,imm,loc,label,fence⟩=(okI ⟨9,d,a,b,imm,loc,label,fence⟩&&decide ((⟨9,d,a,b,imm,loc,label,fence⟩:Ins)=⟨9,d,a,b,0,[],[],0⟩)&&regB d&&regB a&&regB b):=rfl
 have ho:okI ⟨9,d,a,b,imm,loc,label,fence⟩=true:=rfl
 have hNE : ∀ w,(binOp .neq 23 (.agg #[.int .i64 9,.int .i64 d,.int .i64 a,.int .i64 b,.int .i64 imm,.string (tx loc),.string (tx label),.int .i64 fence]) (.agg #[.int .i64 9,.int .i64 d,.int .i64 a,.int .i64 b,.int .i64 0,.string ⟨#[]⟩,.string ⟨#[]⟩,.int .i64 0])).run Tryz.prog w = .ok (.bool false) w:=fun w=>by
  have:=neqI ⟨9,d,a,b,imm,loc,label,fence⟩ ⟨9,d,a,b,0,[],[],0⟩ w
  rw [decide_eq_true he] at this
  exact this
 have HE:=hid (errI_yes (by rw [hc,ho,decide_eq_true he,h1,h2,h3];rfl))
 have H1:=hid h1
 have H2:=hid h2
 have H3:=hid h3
 have HM:=hid (rfl:(0:Nat)=0)
 have hl:label.length≤label.length:=Nat.le_refl _
 clear hc ho he h1 h2 h3
 go_enter Tryz.func63,Tryz.ntmps63
 go_wp2_with (first|(go_at_call 103;refine (refIsReg _ _).mono ?_;rintro e w' ⟨rfl,rfl⟩;(try rw [H1.out]);(try rw [H2.out]);(try rw [H3.out]))|(go_at_call 102;refine (refIsName label hl _).mono ?_;rintro e w' ⟨rfl,rfl⟩;rw [HM.out]))
 go_ret
 exact ⟨ret_int HE.out.symm,blA⟩
theorem refCheck_xor (d a b imm:Int) (loc label:Tx) (fence:Int) (w:World):Calls Tryz.prog 63 #[vI ⟨9,d,a,b,imm,loc,label,fence⟩] w (Ret w (.int .i64 (errI ⟨9,d,a,b,imm,loc,label,fence⟩))):=by
 by_cases he:(⟨9,d,a,b,imm,loc,label,fence⟩:Ins)=⟨9,d,a,b,0,[],[],0⟩
 ·cases h1:regB d
  ·exact refCheck_xor_d d a b imm loc label fence he h1 w
  cases h2:regB a
  ·exact refCheck_xor_a d a b imm loc label fence he h1 h2 w
  cases h3:regB b
  ·exact refCheck_xor_b d a b imm loc label fence he h1 h2 h3 w
  ·exact refCheck_xor_y d a b imm loc label fence he h1 h2 h3 w
 ·exact refCheck_xor_e d a b imm loc label fence he w
theorem refCheck_add_e (d a b imm:Int) (loc label:Tx) (fence:Int) (he:(⟨10,d,a,b,imm,loc,label,fence⟩:Ins)≠⟨10,d,a,b,0,[],[],0⟩) (w:World):Calls Tryz.prog 63 #[vI ⟨10,d,a,b,imm,loc,label,fence⟩] w (Ret w (.int .i64 (errI ⟨10,d,a,b,imm,loc,label,fence⟩))):=by
 have hc:checkI ⟨10,d,a,b,imm,loc,label,fence⟩=(okI ⟨10,d,a,b,imm,loc,label,fence⟩&&decide ((⟨10,d,a,b,imm,loc,label,fence⟩:Ins)=⟨10,d,a,b,0,[],[],0⟩)&&regB d&&regB a&&regB b):=rfl
 have ho:okI ⟨10,d,a,b,imm,loc,label,fence⟩=true:=rfl
 have hNE : ∀ w,(binOp .neq 23 (.agg #[.int .i64 10,.int .i64 d,.int .i64 a,.int .i64 b,.int .i64 imm,.string (tx loc),.string (tx label),.int .i64 fence]) (.agg #[.int .i64 10,.int .i64 d,.int .i64 a,.int .i64 b,.int .i64 0,.string ⟨#[]⟩,.string ⟨#[]⟩,.int .i64 0])).run Tryz.prog w = .ok (.bool true) w:=fun w=>by
  have:=neqI ⟨10,d,a,b,imm,loc,label,fence⟩ ⟨10,d,a,b,0,[],[],0⟩ w
  rw [decide_eq_false he] at this
  exact this
 have HE:=hid (errI_no (by rw [hc,ho,decide_eq_false he];simp))
 have H1:=hid (rfl:(0:Nat)=0)
 have H2:=hid (rfl:(0:Nat)=0)
 have H3:=hid (rfl:(0:Nat)=0)
 have HM:=hid (rfl:(0:Nat)=0)
 have hl:label.length≤label.length:=Nat.le_refl _
 clear hc ho he
 go_enter Tryz.func63,Tryz.ntmps63
 go_wp2_with (first|(go_at_call 103;refine (refIsReg _ _).mono ?_;rintro e w' ⟨rfl,rfl⟩;(try rw [H1.out]);(try rw [H2.out]);(try rw [H3.out]))|(go_at_call 102;refine (refIsName label hl _).mono ?_;rintro e w' ⟨rfl,rfl⟩;rw [HM.out]))
 go_ret
 exact ⟨ret_int HE.out.symm,blA⟩
theorem refCheck_add_d (d a b imm:Int) (loc label:Tx) (fence:Int) (he:(⟨10,d,a,b,imm,loc,label,fence⟩:Ins)=⟨10,d,a,b,0,[],[],0⟩) (h1:regB d=false) (w:World):Calls Tryz.prog 63 #[vI ⟨10,d,a,b,imm,loc,label,fence⟩] w (Ret w (.int .i64 (errI ⟨10,d,a,b,imm,loc,label,fence⟩))):=by
 have hc:checkI ⟨10,d,a,b,imm,loc,label,fence⟩=(okI ⟨10,d,a,b,imm,loc,label,fence⟩&&decide ((⟨10,d,a,b,imm,loc,label,fence⟩:Ins)=⟨10,d,a,b,0,[],[],0⟩)&&regB d&&regB a&&regB b):=rfl
 have ho:okI ⟨10,d,a,b,imm,loc,label,fence⟩=true:=rfl
 have hNE : ∀ w,(binOp .neq 23 (.agg #[.int .i64 10,.int .i64 d,.int .i64 a,.int .i64 b,.int .i64 imm,.string (tx loc),.string (tx label),.int .i64 fence]) (.agg #[.int .i64 10,.int .i64 d,.int .i64 a,.int .i64 b,.int .i64 0,.string ⟨#[]⟩,.string ⟨#[]⟩,.int .i64 0])).run Tryz.prog w = .ok (.bool false) w:=fun w=>by
  have:=neqI ⟨10,d,a,b,imm,loc,label,fence⟩ ⟨10,d,a,b,0,[],[],0⟩ w
  rw [decide_eq_true he] at this
  exact this
 have HE:=hid (errI_no (by rw [hc,ho,h1];simp))
 have H1:=hid h1
 have H2:=hid (rfl:(0:Nat)=0)
 have H3:=hid (rfl:(0:Nat)=0)
 have HM:=hid (rfl:(0:Nat)=0)
 have hl:label.length≤label.length:=Nat.le_refl _
 clear hc ho he h1
 go_enter Tryz.func63,Tryz.ntmps63
 go_wp2_with (first|(go_at_call 103;refine (refIsReg _ _).mono ?_;rintro e w' ⟨rfl,rfl⟩;(try rw [H1.out]);(try rw [H2.out]);(try rw [H3.out]))|(go_at_call 102;refine (refIsName label hl _).mono ?_;rintro e w' ⟨rfl,rfl⟩;rw [HM.out]))
 go_ret
 exact ⟨ret_int HE.out.symm,blA⟩
theorem refCheck_add_a (d a b imm:Int) (loc label:Tx) (fence:Int) (he:(⟨10,d,a,b,imm,loc,label,fence⟩:Ins)=⟨10,d,a,b,0,[],[],0⟩) (h1:regB d=true) (h2:regB a=false) (w:World):Calls Tryz.prog 63 #[vI ⟨10,d,a,b,imm,loc,label,fence⟩] w (Ret w (.int .i64 (errI ⟨10,d,a,b,imm,loc,label,fence⟩))):=by
 have hc:checkI ⟨10,d,a,b,imm,loc,label,fence⟩=(okI ⟨10,d,a,b,imm,loc,label,fence⟩&&decide ((⟨10,d,a,b,imm,loc,label,fence⟩:Ins)=⟨10,d,a,b,0,[],[],0⟩)&&regB d&&regB a&&regB b):=rfl
 have ho:okI ⟨10,d,a,b,imm,loc,label,fence⟩=true:=rfl
 have hNE : ∀ w,(binOp .neq 23 (.agg #[.int .i64 10,.int .i64 d,.int .i64 a,.int .i64 b,.int .i64 imm,.string (tx loc),.string (tx label),.int .i64 fence]) (.agg #[.int .i64 10,.int .i64 d,.int .i64 a,.int .i64 b,.int .i64 0,.string ⟨#[]⟩,.string ⟨#[]⟩,.int .i64 0])).run Tryz.prog w = .ok (.bool false) w:=fun w=>by
  have:=neqI ⟨10,d,a,b,imm,loc,label,fence⟩ ⟨10,d,a,b,0,[],[],0⟩ w
  rw [decide_eq_true he] at this
  exact this
 have HE:=hid (errI_no (by rw [hc,ho,h2];simp))
 have H1:=hid h1
 have H2:=hid h2
 have H3:=hid (rfl:(0:Nat)=0)
 have HM:=hid (rfl:(0:Nat)=0)
 have hl:label.length≤label.length:=Nat.le_refl _
 clear hc ho he h1 h2
 go_enter Tryz.func63,Tryz.ntmps63
 go_wp2_with (first|(go_at_call 103;refine (refIsReg _ _).mono ?_;rintro e w' ⟨rfl,rfl⟩;(try rw [H1.out]);(try rw [H2.out]);(try rw [H3.out]))|(go_at_call 102;refine (refIsName label hl _).mono ?_;rintro e w' ⟨rfl,rfl⟩;rw [HM.out]))
 go_ret
 exact ⟨ret_int HE.out.symm,blA⟩
theorem refCheck_add_b (d a b imm:Int) (loc label:Tx) (fence:Int) (he:(⟨10,d,a,b,imm,loc,label,fence⟩:Ins)=⟨10,d,a,b,0,[],[],0⟩) (h1:regB d=true) (h2:regB a=true) (h3:regB b=false) (w:World):Calls Tryz.prog 63 #[vI ⟨10,d,a,b,imm,loc,label,fence⟩] w (Ret w (.int .i64 (errI ⟨10,d,a,b,imm,loc,label,fence⟩))):=by
 have hc:checkI ⟨10,d,a,b,imm,loc,label,fence⟩=(okI ⟨10,d,a,b,imm,loc,label,fence⟩&&decide ((⟨10,d,a,b,imm,loc,label,fence⟩:Ins)=⟨10,d,a,b,0,[],[],0⟩)&&regB d&&regB a&&regB b):=rfl
 have ho:okI ⟨10,d,a,b,imm,loc,label,fence⟩=true:=rfl
 have hNE : ∀ w,(binOp .neq 23 (.agg #[.int .i64 10,.int .i64 d,.int .i64 a,.int .i64 b,.int .i64 imm,.string (tx loc),.string (tx label),.int .i64 fence]) (.agg #[.int .i64 10,.int .i64 d,.int .i64 a,.int .i64 b,.int .i64 0,.string ⟨#[]⟩,.string ⟨#[]⟩,.int .i64 0])).run Tryz.prog w = .ok (.bool false) w:=fun w=>by
  have:=neqI ⟨10,d,a,b,imm,loc,label,fence⟩ ⟨10,d,a,b,0,[],[],0⟩ w
  rw [decide_eq_true he] at this
  exact this
 have HE:=hid (errI_no (by rw [hc,ho,h3];simp))
 have H1:=hid h1
 have H2:=hid h2
 have H3:=hid h3
 have HM:=hid (rfl:(0:Nat)=0)
 have hl:label.length≤label.length:=Nat.le_refl _
 clear hc ho he h1 h2 h3
 go_enter Tryz.func63,Tryz.ntmps63
 go_wp2_with (first|(go_at_call 103;refine (refIsReg _ _).mono ?_;rintro e w' ⟨rfl,rfl⟩;(try rw [H1.out]);(try rw [H2.out]);(try rw [H3.out]))|(go_at_call 102;refine (refIsName label hl _).mono ?_;rintro e w' ⟨rfl,rfl⟩;rw [HM.out]))
 go_ret
 exact ⟨ret_int HE.out.symm,blA⟩
theorem refCheck_add_y (d a b imm:Int) (loc label:Tx) (fence:Int) (he:(⟨10,d,a,b,imm,loc,label,fence⟩:Ins)=⟨10,d,a,b,0,[],[],0⟩) (h1:regB d=true) (h2:regB a=true) (h3:regB b=true) (w:World):Calls Tryz.prog 63 #[vI ⟨10,d,a,b,imm,loc,label,fence⟩] w (Ret w (.int .i64 (errI ⟨10,d,a,b,imm,loc,label,fence⟩))):=by
 have hc:checkI ⟨10,d,a,b,imm,loc,label,fence⟩=(okI ⟨10,d,a,b,imm,loc,label,fence⟩&&decide ((⟨10,d,a,b,imm,loc,label,fence⟩:Ins)=⟨10,d,a,b,0,[],[],0⟩)&&regB d&&regB a&&regB b):=rfl
 have ho:okI ⟨10,d,a,b,imm,loc,label,fence⟩=true:=rfl
 have hNE : ∀ w,(binOp .neq 23 (.agg #[.int .i64 10,.int .i64 d,.int .i64 a,.int .i64 b,.int .i64 imm,.string (tx loc),.string (tx label),.int .i64 fence]) (.agg #[.int .i64 10,.int .i64 d,.int .i64 a,.int .i64 b,.int .i64 0,.string ⟨#[]⟩,.string ⟨#[]⟩,.int .i64 0])).run Tryz.prog w = .ok (.bool false) w:=fun w=>by
  have:=neqI ⟨10,d,a,b,imm,loc,label,fence⟩ ⟨10,d,a,b,0,[],[],0⟩ w
  rw [decide_eq_true he] at this
  exact this
 have HE:=hid (errI_yes (by rw [hc,ho,decide_eq_true he,h1,h2,h3];rfl))
 have H1:=hid h1
 have H2:=hid h2
 have H3:=hid h3
 have HM:=hid (rfl:(0:Nat)=0)
 have hl:label.length≤label.length:=Nat.le_refl _
 clear hc ho he h1 h2 h3
 go_enter Tryz.func63,Tryz.ntmps63
 go_wp2_with (first|(go_at_call 103;refine (refIsReg _ _).mono ?_;rintro e w' ⟨rfl,rfl⟩;(try rw [H1.out]);(try rw [H2.out]);(try rw [H3.out]))|(go_at_call 102;refine (refIsName label hl _).mono ?_;rintro e w' ⟨rfl,rfl⟩;rw [HM.out]))
 go_ret
 exact ⟨ret_int HE.out.symm,blA⟩
theorem refCheck_add (d a b imm:Int) (loc label:Tx) (fence:Int) (w:World):Calls Tryz.prog 63 #[vI ⟨10,d,a,b,imm,loc,label,fence⟩] w (Ret w (.int .i64 (errI ⟨10,d,a,b,imm,loc,label,fence⟩))):=by
 by_cases he:(⟨10,d,a,b,imm,loc,label,fence⟩:Ins)=⟨10,d,a,b,0,[],[],0⟩
 ·cases h1:regB d
  ·exact refCheck_add_d d a b imm loc label fence he h1 w
  cases h2:regB a
  ·exact refCheck_add_a d a b imm loc label fence he h1 h2 w
  cases h3:regB b
  ·exact refCheck_add_b d a b imm loc label fence he h1 h2 h3 w
  ·exact refCheck_add_y d a b imm loc label fence he h1 h2 h3 w
 ·exact refCheck_add_e d a b imm loc label fence he w
theorem refCheck_fence_lo (d a b imm:Int) (loc label:Tx) (fence:Int) (h:fence<2) (w:World):Calls Tryz.prog 63 #[vI ⟨13,d,a,b,imm,loc,label,fence⟩] w (Ret w (.int .i64 (errI ⟨13,d,a,b,imm,loc,label,fence⟩))):=by
 have z1:decide (2≤fence)=false:=by simp;omega
 have HE:=hid (errI_no (i:=⟨13,d,a,b,imm,loc,label,fence⟩) (show checkI ⟨13,d,a,b,imm,loc,label,fence⟩=false by unfold checkI;rw [show okI ⟨13,d,a,b,imm,loc,label,fence⟩=false from (by show (decide (2≤fence)&&decide (fence≤11))=false;simp;omega)];rfl))
 have H1:=hid (rfl:(0:Nat)=0);have H2:=H1;have H3:=H1;have HM:=H1
 have hl:label.length≤label.length:=Nat.le_refl _
 go_enter Tryz.func63,Tryz.ntmps63
 go_wp2_with (first|(go_at_call 103;refine (refIsReg _ _).mono ?_;rintro e w' ⟨rfl,rfl⟩;(try rw [H1.out]);(try rw [H2.out]);(try rw [H3.out]))|(go_at_call 102;refine (refIsName label hl _).mono ?_;rintro e w' ⟨rfl,rfl⟩;rw [HM.out]))
 go_ret
 exact ⟨ret_int HE.out.symm,blA⟩
theorem refCheck_fence_hi (d a b imm:Int) (loc label:Tx) (fence:Int) (h:11<fence) (w:World):Calls Tryz.prog 63 #[vI ⟨13,d,a,b,imm,loc,label,fence⟩] w (Ret w (.int .i64 (errI ⟨13,d,a,b,imm,loc,label,fence⟩))):=by
 have z1:decide (2≤fence)=true:=by simp;omega
 have z2:decide (fence≤11)=false:=by simp;omega
 have HE:=hid (errI_no (i:=⟨13,d,a,b,imm,loc,label,fence⟩) (show checkI ⟨13,d,a,b,imm,loc,label,fence⟩=false by unfold checkI;rw [show okI ⟨13,d,a,b,imm,loc,label,fence⟩=false from (by show (decide (2≤fence)&&decide (fence≤11))=false;simp;omega)];rfl))
 have H1:=hid (rfl:(0:Nat)=0);have H2:=H1;have H3:=H1;have HM:=H1
 have hl:label.length≤label.length:=Nat.le_refl _
 go_enter Tryz.func63,Tryz.ntmps63
 go_wp2_with (first|(go_at_call 103;refine (refIsReg _ _).mono ?_;rintro e w' ⟨rfl,rfl⟩;(try rw [H1.out]);(try rw [H2.out]);(try rw [H3.out]))|(go_at_call 102;refine (refIsName label hl _).mono ?_;rintro e w' ⟨rfl,rfl⟩;rw [HM.out]))
 go_ret
 exact ⟨ret_int HE.out.symm,blA⟩
theorem refCheck_fence_in_e (d a b imm:Int) (loc label:Tx) (fence:Int) (g1:2≤fence) (g2:fence≤11) (he:(⟨13,d,a,b,imm,loc,label,fence⟩:Ins)≠⟨13,0,0,0,0,[],[],fence⟩) (w:World):Calls Tryz.prog 63 #[vI ⟨13,d,a,b,imm,loc,label,fence⟩] w (Ret w (.int .i64 (errI ⟨13,d,a,b,imm,loc,label,fence⟩))):=by
 have z1:decide (2≤fence)=true:=by simp;omega
 have z2:decide (fence≤11)=true:=by simp;omega
 have hc:checkI ⟨13,d,a,b,imm,loc,label,fence⟩=(okI ⟨13,d,a,b,imm,loc,label,fence⟩&&decide ((⟨13,d,a,b,imm,loc,label,fence⟩:Ins)=⟨13,0,0,0,0,[],[],fence⟩)&&regB d&&regB a&&regB b):=rfl
 have ho:okI ⟨13,d,a,b,imm,loc,label,fence⟩=true:=(by show (decide (2≤fence)&&decide (fence≤11))=true;simp;omega)
 have hNE : ∀ w,(binOp .neq 23 (.agg #[.int .i64 13,.int .i64 d,.int .i64 a,.int .i64 b,.int .i64 imm,.string (tx loc),.string (tx label),.int .i64 fence]) (.agg #[.int .i64 13,.int .i64 0,.int .i64 0,.int .i64 0,.int .i64 0,.string ⟨#[]⟩,.string ⟨#[]⟩,.int .i64 fence])).run Tryz.prog w = .ok (.bool true) w:=fun w=>by
  have:=neqI ⟨13,d,a,b,imm,loc,label,fence⟩ ⟨13,0,0,0,0,[],[],fence⟩ w
  rw [decide_eq_false he] at this
  exact this
 have HE:=hid (errI_no (by rw [hc,ho,decide_eq_false he];simp))
 have H1:=hid (rfl:(0:Nat)=0)
 have H2:=hid (rfl:(0:Nat)=0)
 have H3:=hid (rfl:(0:Nat)=0)
 have HM:=hid (rfl:(0:Nat)=0)
 have hl:label.length≤label.length:=Nat.le_refl _
 clear hc ho he
 go_enter Tryz.func63,Tryz.ntmps63
 go_wp2_with (first|(go_at_call 103;refine (refIsReg _ _).mono ?_;rintro e w' ⟨rfl,rfl⟩;(try rw [H1.out]);(try rw [H2.out]);(try rw [H3.out]))|(go_at_call 102;refine (refIsName label hl _).mono ?_;rintro e w' ⟨rfl,rfl⟩;rw [HM.out]))
 go_ret
 exact ⟨ret_int HE.out.symm,blA⟩
theorem refCheck_fence_in_d (d a b imm:Int) (loc label:Tx) (fence:Int) (g1:2≤fence) (g2:fence≤11) (he:(⟨13,d,a,b,imm,loc,label,fence⟩:Ins)=⟨13,0,0,0,0,[],[],fence⟩) (h1:regB d=false) (w:World):Calls Tryz.prog 63 #[vI ⟨13,d,a,b,imm,loc,label,fence⟩] w (Ret w (.int .i64 (errI ⟨13,d,a,b,imm,loc,label,fence⟩))):=by
 have z1:decide (2≤fence)=true:=by simp;omega
 have z2:decide (fence≤11)=true:=by simp;omega
 have hc:checkI ⟨13,d,a,b,imm,loc,label,fence⟩=(okI ⟨13,d,a,b,imm,loc,label,fence⟩&&decide ((⟨13,d,a,b,imm,loc,label,fence⟩:Ins)=⟨13,0,0,0,0,[],[],fence⟩)&&regB d&&regB a&&regB b):=rfl
 have ho:okI ⟨13,d,a,b,imm,loc,label,fence⟩=true:=(by show (decide (2≤fence)&&decide (fence≤11))=true;simp;omega)
 have hNE : ∀ w,(binOp .neq 23 (.agg #[.int .i64 13,.int .i64 d,.int .i64 a,.int .i64 b,.int .i64 imm,.string (tx loc),.string (tx label),.int .i64 fence]) (.agg #[.int .i64 13,.int .i64 0,.int .i64 0,.int .i64 0,.int .i64 0,.string ⟨#[]⟩,.string ⟨#[]⟩,.int .i64 fence])).run Tryz.prog w = .ok (.bool false) w:=fun w=>by
  have:=neqI ⟨13,d,a,b,imm,loc,label,fence⟩ ⟨13,0,0,0,0,[],[],fence⟩ w
  rw [decide_eq_true he] at this
  exact this
 have HE:=hid (errI_no (by rw [hc,ho,h1];simp))
 have H1:=hid h1
 have H2:=hid (rfl:(0:Nat)=0)
 have H3:=hid (rfl:(0:Nat)=0)
 have HM:=hid (rfl:(0:Nat)=0)
 have hl:label.length≤label.length:=Nat.le_refl _
 clear hc ho he h1
 go_enter Tryz.func63,Tryz.ntmps63
 go_wp2_with (first|(go_at_call 103;refine (refIsReg _ _).mono ?_;rintro e w' ⟨rfl,rfl⟩;(try rw [H1.out]);(try rw [H2.out]);(try rw [H3.out]))|(go_at_call 102;refine (refIsName label hl _).mono ?_;rintro e w' ⟨rfl,rfl⟩;rw [HM.out]))
 go_ret
 exact ⟨ret_int HE.out.symm,blA⟩
theorem refCheck_fence_in_a (d a b imm:Int) (loc label:Tx) (fence:Int) (g1:2≤fence) (g2:fence≤11) (he:(⟨13,d,a,b,imm,loc,label,fence⟩:Ins)=⟨13,0,0,0,0,[],[],fence⟩) (h1:regB d=true) (h2:regB a=false) (w:World):Calls Tryz.prog 63 #[vI ⟨13,d,a,b,imm,loc,label,fence⟩] w (Ret w (.int .i64 (errI ⟨13,d,a,b,imm,loc,label,fence⟩))):=by
 have z1:decide (2≤fence)=true:=by simp;omega
 have z2:decide (fence≤11)=true:=by simp;omega
 have hc:checkI ⟨13,d,a,b,imm,loc,label,fence⟩=(okI ⟨13,d,a,b,imm,loc,label,fence⟩&&decide ((⟨13,d,a,b,imm,loc,label,fence⟩:Ins)=⟨13,0,0,0,0,[],[],fence⟩)&&regB d&&regB a&&regB b):=rfl
 have ho:okI ⟨13,d,a,b,imm,loc,label,fence⟩=true:=(by show (decide (2≤fence)&&decide (fence≤11))=true;simp;omega)
 have hNE : ∀ w,(binOp .neq 23 (.agg #[.int .i64 13,.int .i64 d,.int .i64 a,.int .i64 b,.int .i64 imm,.string (tx loc),.string (tx label),.int .i64 fence]) (.agg #[.int .i64 13,.int .i64 0,.int .i64 0,.int .i64 0,.int .i64 0,.string ⟨#[]⟩,.string ⟨#[]⟩,.int .i64 fence])).run Tryz.prog w = .ok (.bool false) w:=fun w=>by
  have:=neqI ⟨13,d,a,b,imm,loc,label,fence⟩ ⟨13,0,0,0,0,[],[],fence⟩ w
  rw [decide_eq_true he] at this
  exact this
 have HE:=hid (errI_no (by rw [hc,ho,h2];simp))
 have H1:=hid h1
 have H2:=hid h2
 have H3:=hid (rfl:(0:Nat)=0)
 have HM:=hid (rfl:(0:Nat)=0)
 have hl:label.length≤label.length:=Nat.le_refl _
 clear hc ho he h1 h2
 go_enter Tryz.func63,Tryz.ntmps63
 go_wp2_with (first|(go_at_call 103;refine (refIsReg _ _).mono ?_;rintro e w' ⟨rfl,rfl⟩;(try rw [H1.out]);(try rw [H2.out]);(try rw [H3.out]))|(go_at_call 102;refine (refIsName label hl _).mono ?_;rintro e w' ⟨rfl,rfl⟩;rw [HM.out]))
 go_ret
 exact ⟨ret_int HE.out.symm,blA⟩
theorem refCheck_fence_in_b (d a b imm:Int) (loc label:Tx) (fence:Int) (g1:2≤fence) (g2:fence≤11) (he:(⟨13,d,a,b,imm,loc,label,fence⟩:Ins)=⟨13,0,0,0,0,[],[],fence⟩) (h1:regB d=true) (h2:regB a=true) (h3:regB b=false) (w:World):Calls Tryz.prog 63 #[vI ⟨13,d,a,b,imm,loc,label,fence⟩] w (Ret w (.int .i64 (errI ⟨13,d,a,b,imm,loc,label,fence⟩))):=by
 have z1:decide (2≤fence)=true:=by simp;omega
 have z2:decide (fence≤11)=true:=by simp;omega
 have hc:checkI ⟨13,d,a,b,imm,loc,label,fence⟩=(okI ⟨13,d,a,b,imm,loc,label,fence⟩&&decide ((⟨13,d,a,b,imm,loc,label,fence⟩:Ins)=⟨13,0,0,0,0,[],[],fence⟩)&&regB d&&regB a&&regB b):=rfl
 have ho:okI ⟨13,d,a,b,imm,loc,label,fence⟩=true:=(by show (decide (2≤fence)&&decide (fence≤11))=true;simp;omega)
 have hNE : ∀ w,(binOp .neq 23 (.agg #[.int .i64 13,.int .i64 d,.int .i64 a,.int .i64 b,.int .i64 imm,.string (tx loc),.string (tx label),.int .i64 fence]) (.agg #[.int .i64 13,.int .i64 0,.int .i64 0,.int .i64 0,.int .i64 0,.string ⟨#[]⟩,.string ⟨#[]⟩,.int .i64 fence])).run Tryz.prog w = .ok (.bool false) w:=fun w=>by
  have:=neqI ⟨13,d,a,b,imm,loc,label,fence⟩ ⟨13,0,0,0,0,[],[],fence⟩ w
  rw [decide_eq_true he] at this
  exact this
 have HE:=hid (errI_no (by rw [hc,ho,h3];simp))
 have H1:=hid h1
 have H2:=hid h2
 have H3:=hid h3
 have HM:=hid (rfl:(0:Nat)=0)
 have hl:label.length≤label.length:=Nat.le_refl _
 clear hc ho he h1 h2 h3
 go_enter Tryz.func63,Tryz.ntmps63
 go_wp2_with (first|(go_at_call 103;refine (refIsReg _ _).mono ?_;rintro e w' ⟨rfl,rfl⟩;(try rw [H1.out]);(try rw [H2.out]);(try rw [H3.out]))|(go_at_call 102;refine (refIsName label hl _).mono ?_;rintro e w' ⟨rfl,rfl⟩;rw [HM.out]))
 go_ret
 exact ⟨ret_int HE.out.symm,blA⟩
theorem refCheck_fence_in_y (d a b imm:Int) (loc label:Tx) (fence:Int) (g1:2≤fence) (g2:fence≤11) (he:(⟨13,d,a,b,imm,loc,label,fence⟩:Ins)=⟨13,0,0,0,0,[],[],fence⟩) (h1:regB d=true) (h2:regB a=true) (h3:regB b=true) (w:World):Calls Tryz.prog 63 #[vI ⟨13,d,a,b,imm,loc,label,fence⟩] w (Ret w (.int .i64 (errI ⟨13,d,a,b,imm,loc,label,fence⟩))):=by
 have z1:decide (2≤fence)=true:=by simp;omega
 have z2:decide (fence≤11)=true:=by simp;omega
 have hc:checkI ⟨13,d,a,b,imm,loc,label,fence⟩=(okI ⟨13,d,a,b,imm,loc,label,fence⟩&&decide ((⟨13,d,a,b,imm,loc,label,fence⟩:Ins)=⟨13,0,0,0,0,[],[],fence⟩)&&regB d&&regB a&&regB b):=rfl
 have ho:okI ⟨13,d,a,b,imm,loc,label,fence⟩=true:=(by show (decide (2≤fence)&&decide (fence≤11))=true;simp;omega)
 have hNE : ∀ w,(binOp .neq 23 (.agg #[.int .i64 13,.int .i64 d,.int .i64 a,.int .i64 b,.int .i64 imm,.string (tx loc),.string (tx label),.int .i64 fence]) (.agg #[.int .i64 13,.int .i64 0,.int .i64 0,.int .i64 0,.int .i64 0,.string ⟨#[]⟩,.string ⟨#[]⟩,.int .i64 fence])).run Tryz.prog w = .ok (.bool false) w:=fun w=>by
  have:=neqI ⟨13,d,a,b,imm,loc,label,fence⟩ ⟨13,0,0,0,0,[],[],fence⟩ w
  rw [decide_eq_true he] at this
  exact this
 have HE:=hid (errI_yes (by rw [hc,ho,decide_eq_true he,h1,h2,h3];rfl))
 have H1:=hid h1
 have H2:=hid h2
 have H3:=hid h3
 have HM:=hid (rfl:(0:Nat)=0)
 have hl:label.length≤label.length:=Nat.le_refl _
 clear hc ho he h1 h2 h3
 go_enter Tryz.func63,Tryz.ntmps63
 go_wp2_with (first|(go_at_call 103;refine (refIsReg _ _).mono ?_;rintro e w' ⟨rfl,rfl⟩;(try rw [H1.out]);(try rw [H2.out]);(try rw [H3.out]))|(go_at_call 102;refine (refIsName label hl _).mono ?_;rintro e w' ⟨rfl,rfl⟩;rw [HM.out]))
 go_ret
 exact ⟨ret_int HE.out.symm,blA⟩
theorem refCheck_fence_in (d a b imm:Int) (loc label:Tx) (fence:Int) (g1:2≤fence) (g2:fence≤11) (w:World):Calls Tryz.prog 63 #[vI ⟨13,d,a,b,imm,loc,label,fence⟩] w (Ret w (.int .i64 (errI ⟨13,d,a,b,imm,loc,label,fence⟩))):=by
 by_cases he:(⟨13,d,a,b,imm,loc,label,fence⟩:Ins)=⟨13,0,0,0,0,[],[],fence⟩
 ·cases h1:regB d
  ·exact refCheck_fence_in_d d a b imm loc label fence g1 g2 he h1 w
  cases h2:regB a
  ·exact refCheck_fence_in_a d a b imm loc label fence g1 g2 he h1 h2 w
  cases h3:regB b
  ·exact refCheck_fence_in_b d a b imm loc label fence g1 g2 he h1 h2 h3 w
  ·exact refCheck_fence_in_y d a b imm loc label fence g1 g2 he h1 h2 h3 w
 ·exact refCheck_fence_in_e d a b imm loc label fence g1 g2 he w
theorem refCheck_no (d a b imm:Int) (loc label:Tx) (fence:Int) (op:Int) (h:op<6∨13<op) (w:World):Calls Tryz.prog 63 #[vI ⟨op,d,a,b,imm,loc,label,fence⟩] w (Ret w (.int .i64 (errI ⟨op,d,a,b,imm,loc,label,fence⟩))):=by
 have z6:(op==6)=false:=by simp;omega
 have z7:(op==7)=false:=by simp;omega
 have z8:(op==8)=false:=by simp;omega
 have z9:(op==9)=false:=by simp;omega
 have z10:(op==10)=false:=by simp;omega
 have z11:(op==11)=false:=by simp;omega
 have z12:(op==12)=false:=by simp;omega
 have z13:(op==13)=false:=by simp;omega
 have HE:=hid (errI_no (i:=⟨op,d,a,b,imm,loc,label,fence⟩) (show checkI ⟨op,d,a,b,imm,loc,label,fence⟩=false by unfold checkI;rw [show okI ⟨op,d,a,b,imm,loc,label,fence⟩=false from (by unfold okI;simp only;rw [if_neg (by omega),if_neg (by omega),if_neg (by omega)];simp;omega)];rfl))
 have H1:=hid (rfl:(0:Nat)=0);have H2:=H1;have H3:=H1;have HM:=H1
 have hl:label.length≤label.length:=Nat.le_refl _
 go_enter Tryz.func63,Tryz.ntmps63
 go_wp2_with (first|(go_at_call 103;refine (refIsReg _ _).mono ?_;rintro e w' ⟨rfl,rfl⟩;(try rw [H1.out]);(try rw [H2.out]);(try rw [H3.out]))|(go_at_call 102;refine (refIsName label hl _).mono ?_;rintro e w' ⟨rfl,rfl⟩;rw [HM.out]))
 go_ret
 exact ⟨ret_int HE.out.symm,blA⟩
end Go.Proofs.YthaibjefnclkjaaGreatDoor

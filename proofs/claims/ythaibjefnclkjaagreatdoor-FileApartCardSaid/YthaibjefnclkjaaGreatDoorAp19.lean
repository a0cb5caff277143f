/- The walk of Check (the document's answer) at reads, writes and ors. Condition: lengths that an int holds. -/
import Derived.Test.YthaibjefnclkjaaGreatDoorAp18
set_option linter.unusedVariables false
set_option maxRecDepth 100000
set_option maxHeartbeats 6400000
namespace Go.Proofs.YthaibjefnclkjaaGreatDoor
open Go.RowKit
theorem refCheck_lw_e (d a b imm:Int) (loc label:Tx) (fence:Int) (he:(⟨6,d,a,b,imm,loc,label,fence⟩:Ins)≠⟨6,d,a,0,0,[],[],0⟩) (w:World):Calls Tryz.prog 63 #[vI ⟨6,d,a,b,imm,loc,label,fence⟩] w (Ret w (.int .i64 (errI ⟨6,d,a,b,imm,loc,label,fence⟩))):=by
 have hc:checkI ⟨6,d,a,b,imm,loc,label,fence⟩=(okI ⟨6,d,a,b,imm,loc,label,fence⟩&&decide ((⟨6,d,a,b,imm,loc,label,fence⟩:Ins)=⟨6,d,a,0,0,[],[],0⟩)&&regB d&&regB a&&regB b):=rfl
 have ho:okI ⟨6,d,a,b,imm,loc,label,fence⟩=true:=rfl
 have hNE : ∀ w,(binOp .neq 23 (.agg #[.int .i64 6,.int .i64 d,.int .i64 a,.int .i64 b,.int .i64 imm,.string (tx loc),.string (tx label),.int .i64 fence]) (.agg #[.int .i64 6,.int .i64 d,.int .i64 a,.int .i64 0,.int .i64 0,.string ⟨#[]⟩,.string ⟨#[]⟩,.int .i64 0])).run Tryz.prog w = .ok (.bool true) w:=fun w=>by
  have:=neqI ⟨6,d,a,b,imm,loc,label,fence⟩ ⟨6,d,a,0,0,[],[],0⟩ w
  rw [decide_eq_false he] at this
  exact this
 have HE:=hid (errI_no (by rw [hc,ho,decide_eq_false he];simp))
 have H1:=hid (rfl:(0:Nat)=0)
 have H2:=hid (rfl:(0:Nat)=0)
 have H3:=hid (rfl:(0:Nat)=0)
 have HM:=hid (rfl:(0:Nat)=0)
 have hl:label.length≤label.length:=Nat.le_refl _
 clear hc ho he
 go_enter Tryz.func63,Tryz.ntmps63
 go_wp2_with (first|(go_at_call 103;refine (refIsReg _ _).mono ?_;rintro e w' ⟨rfl,rfl⟩;(try rw [H1.out]);(try rw [H2.out]);(try rw [H3.out]))|(go_at_call 102;refine (refIsName label hl _).mono ?_;rintro e w' ⟨rfl,rfl⟩;rw [HM.out]))
 go_ret
 exact ⟨ret_int HE.out.symm,blA⟩
theorem refCheck_lw_d (d a b imm:Int) (loc label:Tx) (fence:Int) (he:(⟨6,d,a,b,imm,loc,label,fence⟩:Ins)=⟨6,d,a,0,0,[],[],0⟩) (h1:regB d=false) (w:World):Calls Tryz.prog 63 #[vI ⟨6,d,a,b,imm,loc,label,fence⟩] w (Ret w (.int .i64 (errI ⟨6,d,a,b,imm,loc,label,fence⟩))):=by
 have hc:checkI ⟨6,d,a,b,imm,loc,label,fence⟩=(okI ⟨6,d,a,b,imm,loc,label,fence⟩&&decide ((⟨6,d,a,b,imm,loc,label,fence⟩:Ins)=⟨6,d,a,0,0,[],[],0⟩)&&regB d&&regB a&&regB b):=rfl
 have ho:okI ⟨6,d,a,b,imm,loc,label,fence⟩=true:=rfl
 have hNE : ∀ w,(binOp .neq 23 (.agg #[.int .i64 6,.int .i64 d,.int .i64 a,.int .i64 b,.int .i64 imm,.string (tx loc),.string (tx label),.int .i64 fence]) (.agg #[.int .i64 6,.int .i64 d,.int .i64 a,.int .i64 0,.int .i64 0,.string ⟨#[]⟩,.string ⟨#[]⟩,.int .i64 0])).run Tryz.prog w = .ok (.bool false) w:=fun w=>by
  have:=neqI ⟨6,d,a,b,imm,loc,label,fence⟩ ⟨6,d,a,0,0,[],[],0⟩ w
  rw [decide_eq_true he] at this
  exact this
 have HE:=hid (errI_no (by rw [hc,ho,h1];simp))
 have H1:=hid h1
 have H2:=hid (rfl:(0:Nat)=0)
 have H3:=hid (rfl:(0:Nat)=0)
 have HM:=hid (rfl:(0:Nat)=0)
 have hl:label.length≤label.length:=Nat.le_refl _
 clear hc ho he h1
 go_enter Tryz.func63,Tryz.ntmps63
 go_wp2_with (first|(go_at_call 103;refine (refIsReg _ _).mono ?_;rintro e w' ⟨rfl,rfl⟩;(try rw [H1.out]);(try rw [H2.out]);(try rw [H3.out]))|(go_at_call 102;refine (refIsName label hl _).mono ?_;rintro e w' ⟨rfl,rfl⟩;rw [HM.out]))
 go_ret
 exact ⟨ret_int HE.out.symm,blA⟩
theorem refCheck_lw_a (d a b imm:Int) (loc label:Tx) (fence:Int) (he:(⟨6,d,a,b,imm,loc,label,fence⟩:Ins)=⟨6,d,a,0,0,[],[],0⟩) (h1:regB d=true) (h2:regB a=false) (w:World):Calls Tryz.prog 63 #[vI ⟨6,d,a,b,imm,loc,label,fence⟩] w (Ret w (.int .i64 (errI ⟨6,d,a,b,imm,loc,label,fence⟩))):=by
 have hc:checkI ⟨6,d,a,b,imm,loc,label,fence⟩=(okI ⟨6,d,a,b,imm,loc,label,fence⟩&&decide ((⟨6,d,a,b,imm,loc,label,fence⟩:Ins)=⟨6,d,a,0,0,[],[],0⟩)&&regB d&&regB a&&regB b):=rfl
 have ho:okI ⟨6,d,a,b,imm,loc,label,fence⟩=true:=rfl
 have hNE : ∀ w,(binOp .neq 23 (.agg #[.int .i64 6,.int .i64 d,.int .i64 a,.int .i64 b,.int .i64 imm,.string (tx loc),.string (tx label),.int .i64 fence]) (.agg #[.int .i64 6,.int .i64 d,.int .i64 a,.int .i64 0,.int .i64 0,.string ⟨#[]⟩,.string ⟨#[]⟩,.int .i64 0])).run Tryz.prog w = .ok (.bool false) w:=fun w=>by
  have:=neqI ⟨6,d,a,b,imm,loc,label,fence⟩ ⟨6,d,a,0,0,[],[],0⟩ w
  rw [decide_eq_true he] at this
  exact this
 have HE:=hid (errI_no (by rw [hc,ho,h2];simp))
 have H1:=hid h1
 have H2:=hid h2
 have H3:=hid (rfl:(0:Nat)=0)
 have HM:=hid (rfl:(0:Nat)=0)
 have hl:label.length≤label.length:=Nat.le_refl _
 clear hc ho he h1 h2
 go_enter Tryz.func63,Tryz.ntmps63
 go_wp2_with (first|(go_at_call 103;refine (refIsReg _ _).mono ?_;rintro e w' ⟨rfl,rfl⟩;(try rw [H1.out]);(try rw [H2.out]);(try rw [H3.out]))|(go_at_call 102;refine (refIsName label hl _).mono ?_;rintro e w' ⟨rfl,rfl⟩;rw [HM.out]))
 go_ret
 exact ⟨ret_int HE.out.symm,blA⟩
theorem refCheck_lw_b (d a b imm:Int) (loc label:Tx) (fence:Int) (he:(⟨6,d,a,b,imm,loc,label,fence⟩:Ins)=⟨6,d,a,0,0,[],[],0⟩) (h1:regB d=true) (h2:regB a=true) (h3:regB b=false) (w:World):Calls Tryz.prog 63 #[vI ⟨6,d,a,b,imm,loc,label,fence⟩] w (Ret w (.int .i64 (errI ⟨6,d,a,b,imm,loc,label,fence⟩))):=by
 have hc:checkI ⟨6,d,a,b,imm,loc,label,fence⟩=(okI ⟨6,d,a,b,imm,loc,label,fence⟩&&decide ((⟨6,d,a,b,imm,loc,label,fence⟩:Ins)=⟨6,d,a,0,0,[],[],0⟩)&&regB d&&regB a&&regB b):=rfl
 have ho:okI ⟨6,d,a,b,imm,loc,label,fence⟩=true:=rfl
 have hNE : ∀ w,(binOp .neq 23 (.agg #[.int .i64 6,.int .i64 d,.int .i64 a,.int .i64 b,.int .i64 imm,.string (tx loc),.string (tx label),.int .i64 fence]) (.agg #[.int .i64 6,.int .i64 d,.int .i64 a,.int .i64 0,.int .i64 0,.string ⟨#[]⟩,.string ⟨#[]⟩,.int .i64 0])).run Tryz.prog w = .ok (.bool false) w:=fun w=>by
  have:=neqI ⟨6,d,a,b,imm,loc,label,fence⟩ ⟨6,d,a,0,0,[],[],0⟩ w
  rw [decide_eq_true he] at this
  exact this
 have HE:=hid (errI_no (by rw [hc,ho,h3];simp))
 have H1:=hid h1
 have H2:=hid h2
 have H3:=hid h3
 have HM:=hid (rfl:(0:Nat)=0)
 have hl:label.length≤label.length:=Nat.le_refl _
 clear hc ho he h1 h2 h3
 go_enter Tryz.func63,Tryz.ntmps63
 go_wp2_with (first|(go_at_call 103;refine (refIsReg _ _).mono ?_;rintro e w' ⟨rfl,rfl⟩;(try rw [H1.out]);(try rw [H2.out]);(try rw [H3.out]))|(go_at_call 102;refine (refIsName label hl _).mono ?_;rintro e w' ⟨rfl,rfl⟩;rw [HM.out]))
 go_ret
 exact ⟨ret_int HE.out.symm,blA⟩
theorem refCheck_lw_y (d a b imm:Int) (loc label:Tx) (fence:Int) (he:(⟨6,d,a,b,imm,loc,label,fence⟩:Ins)=⟨6,d,a,0,0,[],[],0⟩) (h1:regB d=true) (h2:regB a=true) (h3:regB b=true) (w:World):Calls Tryz.prog 63 #[vI ⟨6,d,a,b,imm,loc,label,fence⟩] w (Ret w (.int .i64 (errI ⟨6,d,a,b,imm,loc,label,fence⟩))):=by
 have hc:checkI ⟨6,d,a,b,imm,loc,label,fence⟩=(okI ⟨6,d,a,b,imm,loc,label,fence⟩&&decide ((⟨6,d,a,b,imm,loc,label,fence⟩:Ins)=⟨6,d,a,0,0,[],[],0⟩)&&regB d&&regB a&&regB b):=rfl
 have ho:okI ⟨6,d,a,b,imm,loc,label,fence⟩=true:=rfl
 have hNE : ∀ w,(binOp .neq 23 (.agg #[.int .i64 6,.int .i64 d,.int .i64 a,.int .i64 b,.int .i64 imm,.string (tx loc),.string (tx label),.int .i64 fence]) (.agg #[.int .i64 6,.int .i64 d,.int .i64 a,.int .i64 0,.int .i64 0,.string ⟨#[]⟩,.string ⟨#[]⟩,.int .i64 0])).run Tryz.prog w = .ok (.bool false) w:=fun w=>by
  have:=neqI ⟨6,d,a,b,imm,loc,label,fence⟩ ⟨6,d,a,0,0,[],[],0⟩ w
  rw [decide_eq_true he] at this
  exact this
 have HE:=hid (errI_yes (by rw [hc,ho,decide_eq_true he,h1,h2,h3];rfl))
 have H1:=hid h1
 have H2:=hid h2
 have H3:=hid h3
 have HM:=hid (rfl:(0:Nat)=0)
 have hl:label.length≤label.length:=Nat.le_refl _
 clear hc ho he h1 h2 h3
 go_enter Tryz.func63,Tryz.ntmps63
 go_wp2_with (first|(go_at_call 103;refine (refIsReg _ _).mono ?_;rintro e w' ⟨rfl,rfl⟩;(try rw [H1.out]);(try rw [H2.out]);(try rw [H3.out]))|(go_at_call 102;refine (refIsName label hl _).mono ?_;rintro e w' ⟨rfl,rfl⟩;rw [HM.out]))
 go_ret
 exact ⟨ret_int HE.out.symm,blA⟩
theorem refCheck_lw (d a b imm:Int) (loc label:Tx) (fence:Int) (w:World):Calls Tryz.prog 63 #[vI ⟨6,d,a,b,imm,loc,label,fence⟩] w (Ret w (.int .i64 (errI ⟨6,d,a,b,imm,loc,label,fence⟩))):=by
 by_cases he:(⟨6,d,a,b,imm,loc,label,fence⟩:Ins)=⟨6,d,a,0,0,[],[],0⟩
 ·cases h1:regB d
  ·exact refCheck_lw_d d a b imm loc label fence he h1 w
  cases h2:regB a
  ·exact refCheck_lw_a d a b imm loc label fence he h1 h2 w
  cases h3:regB b
  ·exact refCheck_lw_b d a b imm loc label fence he h1 h2 h3 w
  ·exact refCheck_lw_y d a b imm loc label fence he h1 h2 h3 w
 ·exact refCheck_lw_e d a b imm loc label fence he w
theorem refCheck_sw_e (d a b imm:Int) (loc label:Tx) (fence:Int) (he:(⟨7,d,a,b,imm,loc,label,fence⟩:Ins)≠⟨7,0,a,b,0,[],[],0⟩) (w:World):Calls Tryz.prog 63 #[vI ⟨7,d,a,b,imm,loc,label,fence⟩] w (Ret w (.int .i64 (errI ⟨7,d,a,b,imm,loc,label,fence⟩))):=by
 have hc:checkI ⟨7,d,a,b,imm,loc,label,fence⟩=(okI ⟨7,d,a,b,imm,loc,label,fence⟩&&decide ((⟨7,d,a,b,imm,loc,label,fence⟩:Ins)=⟨7,0,a,b,0,[],[],0⟩)&&regB d&&regB a&&regB b):=rfl
 have ho:okI ⟨7,d,a,b,imm,loc,label,fence⟩=true:=rfl
 have hNE : ∀ w,(binOp .neq 23 (.agg #[.int .i64 7,.int .i64 d,.int .i64 a,.int .i64 b,.int .i64 imm,.string (tx loc),.string (tx label),.int .i64 fence]) (.agg #[.int .i64 7,.int .i64 0,.int .i64 a,.int .i64 b,.int .i64 0,.string ⟨#[]⟩,.string ⟨#[]⟩,.int .i64 0])).run Tryz.prog w = .ok (.bool true) w:=fun w=>by
  have:=neqI ⟨7,d,a,b,imm,loc,label,fence⟩ ⟨7,0,a,b,0,[],[],0⟩ w
  rw [decide_eq_false he] at this
  exact this
 have HE:=hid (errI_no (by rw [hc,ho,decide_eq_false he];simp))
 have H1:=hid (rfl:(0:Nat)=0)
 have H2:=hid (rfl:(0:Nat)=0)
 have H3:=hid (rfl:(0:Nat)=0)
 have HM:=hid (rfl:(0:Nat)=0)
 have hl:label.length≤label.length:=Nat.le_refl _
 clear hc ho he
 go_enter Tryz.func63,Tryz.ntmps63
 go_wp2_with (first|(go_at_call 103;refine (refIsReg _ _).mono ?_;rintro e w' ⟨rfl,rfl⟩;(try rw [H1.out]);(try rw [H2.out]);(try rw [H3.out]))|(go_at_call 102;refine (refIsName label hl _).mono ?_;rintro e w' ⟨rfl,rfl⟩;rw [HM.out]))
 go_ret
 exact ⟨ret_int HE.out.symm,blA⟩
theorem refCheck_sw_d (d a b imm:Int) (loc label:Tx) (fence:Int) (he:(⟨7,d,a,b,imm,loc,label,fence⟩:Ins)=⟨7,0,a,b,0,[],[],0⟩) (h1:regB d=false) (w:World):Calls Tryz.prog 63 #[vI ⟨7,d,a,b,imm,loc,label,fence⟩] w (Ret w (.int .i64 (errI ⟨7,d,a,b,imm,loc,label,fence⟩))):=by
 have hc:checkI ⟨7,d,a,b,imm,loc,label,fence⟩=(okI ⟨7,d,a,b,imm,loc,label,fence⟩&&decide ((⟨7,d,a,b,imm,loc,label,fence⟩:Ins)=⟨7,0,a,b,0,[],[],0⟩)&&regB d&&regB a&&regB b):=rfl
 have ho:okI ⟨7,d,a,b,imm,loc,label,fence⟩=true:=rfl
 have hNE : ∀ w,(binOp .neq 23 (.agg #[.int .i64 7,.int .i64 d,.int .i64 a,.int .i64 b,.int .i64 imm,.string (tx loc),.string (tx label),.int .i64 fence]) (.agg #[.int .i64 7,.int .i64 0,.int .i64 a,.int .i64 b,.int .i64 0,.string ⟨#[]⟩,.string ⟨#[]⟩,.int .i64 0])).run Tryz.prog w = .ok (.bool false) w:=fun w=>by
  have:=neqI ⟨7,d,a,b,imm,loc,label,fence⟩ ⟨7,0,a,b,0,[],[],0⟩ w
  rw [decide_eq_true he] at this
  exact this
 have HE:=hid (errI_no (by rw [hc,ho,h1];simp))
 have H1:=hid h1
 have H2:=hid (rfl:(0:Nat)=0)
 have H3:=hid (rfl:(0:Nat)=0)
 have HM:=hid (rfl:(0:Nat)=0)
 have hl:label.length≤label.length:=Nat.le_refl _
 clear hc ho he h1
 go_enter Tryz.func63,Tryz.ntmps63
 go_wp2_with (first|(go_at_call 103;refine (refIsReg _ _).mono ?_;rintro e w' ⟨rfl,rfl⟩;(try rw [H1.out]);(try rw [H2.out]);(try rw [H3.out]))|(go_at_call 102;refine (refIsName label hl _).mono ?_;rintro e w' ⟨rfl,rfl⟩;rw [HM.out]))
 go_ret
 exact ⟨ret_int HE.out.symm,blA⟩
theorem refCheck_sw_a (d a b imm:Int) (loc label:Tx) (fence:Int) (he:(⟨7,d,a,b,imm,loc,label,fence⟩:Ins)=⟨7,0,a,b,0,[],[],0⟩) (h1:regB d=true) (h2:regB a=false) (w:World):Calls Tryz.prog 63 #[vI ⟨7,d,a,b,imm,loc,label,fence⟩] w (Ret w (.int .i64 (errI ⟨7,d,a,b,imm,loc,label,fence⟩))):=by
 have hc:checkI ⟨7,d,a,b,imm,loc,label,fence⟩=(okI ⟨7,d,a,b,imm,loc,label,fence⟩&&decide ((⟨7,d,a,b,imm,loc,label,fence⟩:Ins)=⟨7,0,a,b,0,[],[],0⟩)&&regB d&&regB a&&regB b):=rfl
 have ho:okI ⟨7,d,a,b,imm,loc,label,fence⟩=true:=rfl
 have hNE : ∀ w,(binOp .neq 23 (.agg #[.int .i64 7,.int .i64 d,.int .i64 a,.int .i64 b,.int .i64 imm,.string (tx loc),.string (tx label),.int .i64 fence]) (.agg #[.int .i64 7,.int .i64 0,.int .i64 a,.int .i64 b,.int .i64 0,.string ⟨#[]⟩,.string ⟨#[]⟩,.int .i64 0])).run Tryz.prog w = .ok (.bool false) w:=fun w=>by
  have:=neqI ⟨7,d,a,b,imm,loc,label,fence⟩ ⟨7,0,a,b,0,[],[],0⟩ w
  rw [decide_eq_true he] at this
  exact this
 have HE:=hid (errI_no (by rw [hc,ho,h2];simp))
 have H1:=hid h1
 have H2:=hid h2
 have H3:=hid (rfl:(0:Nat)=0)
 have HM:=hid (rfl:(0:Nat)=0)
 have hl:label.length≤label.length:=Nat.le_refl _
 clear hc ho he h1 h2
 go_enter Tryz.func63,Tryz.ntmps63
 go_wp2_with (first|(go_at_call 103;refine (refIsReg _ _).mono ?_;rintro e w' ⟨rfl,rfl⟩;(try rw [H1.out]);(try rw [H2.out]);(try rw [H3.out]))|(go_at_call 102;refine (refIsName label hl _).mono ?_;rintro e w' ⟨rfl,rfl⟩;rw [HM.out]))
 go_ret
 exact ⟨ret_int HE.out.symm,blA⟩
theorem refCheck_sw_b (d a b imm:Int) (loc label:Tx) (fence:Int) (he:(⟨7,d,a,b,imm,loc,label,fence⟩:Ins)=⟨7,0,a,b,0,[],[],0⟩) (h1:regB d=true) (h2:regB a=true) (h3:regB b=false) (w:World):Calls Tryz.prog 63 #[vI ⟨7,d,a,b,imm,loc,label,fence⟩] w (Ret w (.int .i64 (errI ⟨7,d,a,b,imm,loc,label,fence⟩))):=by
 have hc:checkI ⟨7,d,a,b,imm,loc,label,fence⟩=(okI ⟨7,d,a,b,imm,loc,label,fence⟩&&decide ((⟨7,d,a,b,imm,loc,label,fence⟩:Ins)=⟨7,0,a,b,0,[],[],0⟩)&&regB d&&regB a&&regB b):=rfl
 have ho:okI ⟨7,d,a,b,imm,loc,label,fence⟩=true:=rfl
 have hNE : ∀ w,(binOp .neq 23 (.agg #[.int .i64 7,.int .i64 d,.int .i64 a,.int .i64 b,.int .i64 imm,.string (tx loc),.string (tx label),.int .i64 fence]) (.agg #[.int .i64 7,.int .i64 0,.int .i64 a,.int .i64 b,.int .i64 0,.string ⟨#[]⟩,.string ⟨#[]⟩,.int .i64 0])).run Tryz.prog w = .ok (.bool false) w:=fun w=>by
  have:=neqI ⟨7,d,a,b,imm,loc,label,fence⟩ ⟨7,0,a,b,0,[],[],0⟩ w
  rw [decide_eq_true he] at this
  exact this
 have HE:=hid (errI_no (by rw [hc,ho,h3];simp))
 have H1:=hid h1
 have H2:=hid h2
 have H3:=hid h3
 have HM:=hid (rfl:(0:Nat)=0)
 have hl:label.length≤label.length:=Nat.le_refl _
 clear hc ho he h1 h2 h3
 go_enter Tryz.func63,Tryz.ntmps63
 go_wp2_with (first|(go_at_call 103;refine (refIsReg _ _).mono ?_;rintro e w' ⟨rfl,rfl⟩;(try rw [H1.out]);(try rw [H2.out]);(try rw [H3.out]))|(go_at_call 102;refine (refIsName label hl _).mono ?_;rintro e w' ⟨rfl,rfl⟩;rw [HM.out]))
 go_ret
 exact ⟨ret_int HE.out.symm,blA⟩
theorem refCheck_sw_y (d a b imm:Int) (loc label:Tx) (fence:Int) (he:(⟨7,d,a,b,imm,loc,label,fence⟩:Ins)=⟨7,0,a,b,0,[],[],0⟩) (h1:regB d=true) (h2:regB a=true) (h3:regB b=true) (w:World):Calls Tryz.prog 63 #[vI ⟨7,d,a,b,imm,loc,label,fence⟩] w (Ret w (.int .i64 (errI ⟨7,d,a,b,imm,loc,label,fence⟩))):=by
 have hc:checkI ⟨7,d,a,b,imm,loc,label,fence⟩=(okI ⟨7,d,a,b,imm,loc,label,fence⟩&&decide ((⟨7,d,a,b,imm,loc,label,fence⟩:Ins)=⟨7,0,a,b,0,[],[],0⟩)&&regB d&&regB a&&regB b):=rfl
 have ho:okI ⟨7,d,a,b,imm,loc,label,fence⟩=true:=rfl
 have hNE : ∀ w,(binOp .neq 23 (.agg #[.int .i64 7,.int .i64 d,.int .i64 a,.int .i64 b,.int .i64 imm,.string (tx loc),.string (tx label),.int .i64 fence]) (.agg #[.int .i64 7,.int .i64 0,.int .i64 a,.int .i64 b,.int .i64 0,.string ⟨#[]⟩,.string ⟨#[]⟩,.int .i64 0])).run Tryz.prog w = .ok (.bool false) w:=fun w=>by
  have:=neqI ⟨7,d,a,b,imm,loc,label,fence⟩ ⟨7,0,a,b,0,[],[],0⟩ w
  rw [decide_eq_true he] at this
  exact this
 have HE:=hid (errI_yes (by rw [hc,ho,decide_eq_true he,h1,h2,h3];rfl))
 have H1:=hid h1
 have H2:=hid h2
 have H3:=hid h3
 have HM:=hid (rfl:(0:Nat)=0)
 have hl:label.length≤label.length:=Nat.le_refl _
 clear hc ho he h1 h2 h3
 go_enter Tryz.func63,Tryz.ntmps63
 go_wp2_with (first|(go_at_call 103;refine (refIsReg _ _).mono ?_;rintro e w' ⟨rfl,rfl⟩;(try rw [H1.out]);(try rw [H2.out]);(try rw [H3.out]))|(go_at_call 102;refine (refIsName label hl _).mono ?_;rintro e w' ⟨rfl,rfl⟩;rw [HM.out]))
 go_ret
 exact ⟨ret_int HE.out.symm,blA⟩
theorem refCheck_sw (d a b imm:Int) (loc label:Tx) (fence:Int) (w:World):Calls Tryz.prog 63 #[vI ⟨7,d,a,b,imm,loc,label,fence⟩] w (Ret w (.int .i64 (errI ⟨7,d,a,b,imm,loc,label,fence⟩))):=by
 by_cases he:(⟨7,d,a,b,imm,loc,label,fence⟩:Ins)=⟨7,0,a,b,0,[],[],0⟩
 ·cases h1:regB d
  ·exact refCheck_sw_d d a b imm loc label fence he h1 w
  cases h2:regB a
  ·exact refCheck_sw_a d a b imm loc label fence he h1 h2 w
  cases h3:regB b
  ·exact refCheck_sw_b d a b imm loc label fence he h1 h2 h3 w
  ·exact refCheck_sw_y d a b imm loc label fence he h1 h2 h3 w
 ·exact refCheck_sw_e d a b imm loc label fence he w
theorem refCheck_ori_lo (d a b imm:Int) (loc label:Tx) (fence:Int) (h:imm < -2048) (w:World):Calls Tryz.prog 63 #[vI ⟨8,d,a,b,imm,loc,label,fence⟩] w (Ret w (.int .i64 (errI ⟨8,d,a,b,imm,loc,label,fence⟩))):=by
 have z1:decide (-2048≤imm)=false:=by simp;omega
 have HE:=hid (errI_no (i:=⟨8,d,a,b,imm,loc,label,fence⟩) (show checkI ⟨8,d,a,b,imm,loc,label,fence⟩=false by unfold checkI;rw [show okI ⟨8,d,a,b,imm,loc,label,fence⟩=false from (by show (decide (-2048≤imm)&&decide (imm≤2047))=false;simp;omega)];rfl))
 have H1:=hid (rfl:(0:Nat)=0);have H2:=H1;have H3:=H1;have HM:=H1
 have hl:label.length≤label.length:=Nat.le_refl _
 go_enter Tryz.func63,Tryz.ntmps63
 go_wp2_with (first|(go_at_call 103;refine (refIsReg _ _).mono ?_;rintro e w' ⟨rfl,rfl⟩;(try rw [H1.out]);(try rw [H2.out]);(try rw [H3.out]))|(go_at_call 102;refine (refIsName label hl _).mono ?_;rintro e w' ⟨rfl,rfl⟩;rw [HM.out]))
 go_ret
 exact ⟨ret_int HE.out.symm,blA⟩
theorem refCheck_ori_hi (d a b imm:Int) (loc label:Tx) (fence:Int) (h:2047<imm) (w:World):Calls Tryz.prog 63 #[vI ⟨8,d,a,b,imm,loc,label,fence⟩] w (Ret w (.int .i64 (errI ⟨8,d,a,b,imm,loc,label,fence⟩))):=by
 have z1:decide (-2048≤imm)=true:=by simp;omega
 have z2:decide (imm≤2047)=false:=by simp;omega
 have HE:=hid (errI_no (i:=⟨8,d,a,b,imm,loc,label,fence⟩) (show checkI ⟨8,d,a,b,imm,loc,label,fence⟩=false by unfold checkI;rw [show okI ⟨8,d,a,b,imm,loc,label,fence⟩=false from (by show (decide (-2048≤imm)&&decide (imm≤2047))=false;simp;omega)];rfl))
 have H1:=hid (rfl:(0:Nat)=0);have H2:=H1;have H3:=H1;have HM:=H1
 have hl:label.length≤label.length:=Nat.le_refl _
 go_enter Tryz.func63,Tryz.ntmps63
 go_wp2_with (first|(go_at_call 103;refine (refIsReg _ _).mono ?_;rintro e w' ⟨rfl,rfl⟩;(try rw [H1.out]);(try rw [H2.out]);(try rw [H3.out]))|(go_at_call 102;refine (refIsName label hl _).mono ?_;rintro e w' ⟨rfl,rfl⟩;rw [HM.out]))
 go_ret
 exact ⟨ret_int HE.out.symm,blA⟩
theorem refCheck_ori_in_e (d a b imm:Int) (loc label:Tx) (fence:Int) (g1 : -2048≤imm) (g2:imm≤2047) (he:(⟨8,d,a,b,imm,loc,label,fence⟩:Ins)≠⟨8,d,a,0,imm,[],[],0⟩) (w:World):Calls Tryz.prog 63 #[vI ⟨8,d,a,b,imm,loc,label,fence⟩] w (Ret w (.int .i64 (errI ⟨8,d,a,b,imm,loc,label,fence⟩))):=by
 have z1:decide (-2048≤imm)=true:=by simp;omega
 have z2:decide (imm≤2047)=true:=by simp;omega
 have hc:checkI ⟨8,d,a,b,imm,loc,label,fence⟩=(okI ⟨8,d,a,b,imm,loc,label,fence⟩&&decide ((⟨8,d,a,b,imm,loc,label,fence⟩:Ins)=⟨8,d,a,0,imm,[],[],0⟩)&&regB d&&regB a&&regB b):=rfl
 have ho:okI ⟨8,d,a,b,imm,loc,label,fence⟩=true:=(by show (decide (-2048≤imm)&&decide (imm≤2047))=true;simp;omega)
 have hNE : ∀ w,(binOp .neq 23 (.agg #[.int .i64 8,.int .i64 d,.int .i64 a,.int .i64 b,.int .i64 imm,.string (tx loc),.string (tx label),.int .i64 fence]) (.agg #[.int .i64 8,.int .i64 d,.int .i64 a,.int .i64 0,.int .i64 imm,.string ⟨#[]⟩,.string ⟨#[]⟩,.int .i64 0])).run Tryz.prog w = .ok (.bool true) w:=fun w=>by
  have:=neqI ⟨8,d,a,b,imm,loc,label,fence⟩ ⟨8,d,a,0,imm,[],[],0⟩ w
  rw [decide_eq_false he] at this
  exact this
 have HE:=hid (errI_no (by rw [hc,ho,decide_eq_false he];simp))
 have H1:=hid (rfl:(0:Nat)=0)
 have H2:=hid (rfl:(0:Nat)=0)
 have H3:=hid (rfl:(0:Nat)=0)
 have HM:=hid (rfl:(0:Nat)=0)
 have hl:label.length≤label.length:=Nat.le_refl _
 clear hc ho he
 go_enter Tryz.func63,Tryz.ntmps63
 go_wp2_with (first|(go_at_call 103;refine (refIsReg _ _).mono ?_;rintro e w' ⟨rfl,rfl⟩;(try rw [H1.out]);(try rw [H2.out]);(try rw [H3.out]))|(go_at_call 102;refine (refIsName label hl _).mono ?_;rintro e w' ⟨rfl,rfl⟩;rw [HM.out]))
 go_ret
 exact ⟨ret_int HE.out.symm,blA⟩
theorem refCheck_ori_in_d (d a b imm:Int) (loc label:Tx) (fence:Int) (g1 : -2048≤imm) (g2:imm≤2047) (he:(⟨8,d,a,b,imm,loc,label,fence⟩:Ins)=⟨8,d,a,0,imm,[],[],0⟩) (h1:regB d=false) (w:World):Calls Tryz.prog 63 #[vI ⟨8,d,a,b,imm,loc,label,fence⟩] w (Ret w (.int .i64 (errI ⟨8,d,a,b,imm,loc,label,fence⟩))):=by
 have z1:decide (-2048≤imm)=true:=by simp;omega
 have z2:decide (imm≤2047)=true:=by simp;omega
 have hc:checkI ⟨8,d,a,b,imm,loc,label,fence⟩=(okI ⟨8,d,a,b,imm,loc,label,fence⟩&&decide ((⟨8,d,a,b,imm,loc,label,fence⟩:Ins)=⟨8,d,a,0,imm,[],[],0⟩)&&regB d&&regB a&&regB b):=rfl
 have ho:okI ⟨8,d,a,b,imm,loc,label,fence⟩=true:=(by show (decide (-2048≤imm)&&decide (imm≤2047))=true;simp;omega)
 have hNE : ∀ w,(binOp .neq 23 (.agg #[.int .i64 8,.int .i64 d,.int .i64 a,.int .i64 b,.int .i64 imm,.string (tx loc),.string (tx label),.int .i64 fence]) (.agg #[.int .i64 8,.int .i64 d,.int .i64 a,.int .i64 0,.int .i64 imm,.string ⟨#[]⟩,.string ⟨#[]⟩,.int .i64 0])).run Tryz.prog w = .ok (.bool false) w:=fun w=>by
  have:=neqI ⟨8,d,a,b,imm,loc,label,fence⟩ ⟨8,d,a,0,imm,[],[],0⟩ w
  rw [decide_eq_true he] at this
  exact this
 have HE:=hid (errI_no (by rw [hc,ho,h1];simp))
 have H1:=hid h1
 have H2:=hid (rfl:(0:Nat)=0)
 have H3:=hid (rfl:(0:Nat)=0)
 have HM:=hid (rfl:(0:Nat)=0)
 have hl:label.length≤label.length:=Nat.le_refl _
 clear hc ho he h1
 go_enter Tryz.func63,Tryz.ntmps63
 go_wp2_with (first|(go_at_call 103;refine (refIsReg _ _).mono ?_;rintro e w' ⟨rfl,rfl⟩;(try rw [H1.out]);(try rw [H2.out]);(try rw [H3.out]))|(go_at_call 102;refine (refIsName label hl _).mono ?_;rintro e w' ⟨rfl,rfl⟩;rw [HM.out]))
 go_ret
 exact ⟨ret_int HE.out.symm,blA⟩
theorem refCheck_ori_in_a (d a b imm:Int) (loc label:Tx) (fence:Int) (g1 : -2048≤imm) (g2:imm≤2047) (he:(⟨8,d,a,b,imm,loc,label,fence⟩:Ins)=⟨8,d,a,0,imm,[],[],0⟩) (h1:regB d=true) (h2:regB a=false) (w:World):Calls Tryz.prog 63 #[vI ⟨8,d,a,b,imm,loc,label,fence⟩] w (Ret w (.int .i64 (errI ⟨8,d,a,b,imm,loc,label,fence⟩))):=by
 have z1:decide (-2048≤imm)=true:=by simp;omega
 have z2:decide (imm≤2047)=true:=by simp;omega
 have hc:checkI ⟨8,d,a,b,imm,loc,label,fence⟩=(okI ⟨8,d,a,b,imm,loc,label,fence⟩&&decide ((⟨8,d,a,b,imm,loc,label,fence⟩:Ins)=⟨8,d,a,0,imm,[],[],0⟩)&&regB d&&regB a&&regB b):=rfl
 have ho:okI ⟨8,d,a,b,imm,loc,label,fence⟩=true:=(by show (decide (-2048≤imm)&&decide (imm≤2047))=true;simp;omega)
 have hNE : ∀ w,(binOp .neq 23 (.agg #[.int .i64 8,.int .i64 d,.int .i64 a,.int .i64 b,.int .i64 imm,.string (tx loc),.string (tx label),.int .i64 fence]) (.agg #[.int .i64 8,.int .i64 d,.int .i64 a,.int .i64 0,.int .i64 imm,.string ⟨#[]⟩,.string ⟨#[]⟩,.int .i64 0])).run Tryz.prog w = .ok (.bool false) w:=fun w=>by
  have:=neqI ⟨8,d,a,b,imm,loc,label,fence⟩ ⟨8,d,a,0,imm,[],[],0⟩ w
  rw [decide_eq_true he] at this
  exact this
 have HE:=hid (errI_no (by rw [hc,ho,h2];simp))
 have H1:=hid h1
 have H2:=hid h2
 have H3:=hid (rfl:(0:Nat)=0)
 have HM:=hid (rfl:(0:Nat)=0)
 have hl:label.length≤label.length:=Nat.le_refl _
 clear hc ho he h1 h2
 go_enter Tryz.func63,Tryz.ntmps63
 go_wp2_with (first|(go_at_call 103;refine (refIsReg _ _).mono ?_;rintro e w' ⟨rfl,rfl⟩;(try rw [H1.out]);(try rw [H2.out]);(try rw [H3.out]))|(go_at_call 102;refine (refIsName label hl _).mono ?_;rintro e w' ⟨rfl,rfl⟩;rw [HM.out]))
 go_ret
 exact ⟨ret_int HE.out.symm,blA⟩
theorem refCheck_ori_in_b (d a b imm:Int) (loc label:Tx) (fence:Int) (g1 : -2048≤imm) (g2:imm≤2047) (he:(⟨8,d,a,b,imm,loc,label,fence⟩:Ins)=⟨8,d,a,0,imm,[],[],0⟩) (h1:regB d=true) (h2:regB a=true) (h3:regB b=false) (w:World):Calls Tryz.prog 63 #[vI ⟨8,d,a,b,imm,loc,label,fence⟩] w (Ret w (.int .i64 (errI ⟨8,d,a,b,imm,loc,label,fence⟩))):=by
 have z1:decide (-2048≤imm)=true:=by simp;omega
 have z2:decide (imm≤2047)=true:=by simp;omega
 have hc:checkI ⟨8,d,a,b,imm,loc,label,fence⟩=(okI ⟨8,d,a,b,imm,loc,label,fence⟩&&decide ((⟨8,d,a,b,imm,loc,label,fence⟩:Ins)=⟨8,d,a,0,imm,[],[],0⟩)&&regB d&&regB a&&regB b):=rfl
 have ho:okI ⟨8,d,a,b,imm,loc,label,fence⟩=true:=(by show (decide (-2048≤imm)&&decide (imm≤2047))=true;simp;omega)
 have hNE : ∀ w,(binOp .neq 23 (.agg #[.int .i64 8,.int .i64 d,.int .i64 a,.int .i64 b,.int .i64 imm,.string (tx loc),.string (tx label),.int .i64 fence]) (.agg #[.int .i64 8,.int .i64 d,.int .i64 a,.int .i64 0,.int .i64 imm,.string ⟨#[]⟩,.string ⟨#[]⟩,.int .i64 0])).run Tryz.prog w = .ok (.bool false) w:=fun w=>by
  have:=neqI ⟨8,d,a,b,imm,loc,label,fence⟩ ⟨8,d,a,0,imm,[],[],0⟩ w
  rw [decide_eq_true he] at this
  exact this
 have HE:=hid (errI_no (by rw [hc,ho,h3];simp))
 have H1:=hid h1
 have H2:=hid h2
 have H3:=hid h3
 have HM:=hid (rfl:(0:Nat)=0)
 have hl:label.length≤label.length:=Nat.le_refl _
 clear hc ho he h1 h2 h3
 go_enter Tryz.func63,Tryz.ntmps63
 go_wp2_with (first|(go_at_call 103;refine (refIsReg _ _).mono ?_;rintro e w' ⟨rfl,rfl⟩;(try rw [H1.out]);(try rw [H2.out]);(try rw [H3.out]))|(go_at_call 102;refine (refIsName label hl _).mono ?_;rintro e w' ⟨rfl,rfl⟩;rw [HM.out]))
 go_ret
 exact ⟨ret_int HE.out.symm,blA⟩
theorem refCheck_ori_in_y (d a b imm:Int) (loc label:Tx) (fence:Int) (g1 : -2048≤imm) (g2:imm≤2047) (he:(⟨8,d,a,b,imm,loc,label,fence⟩:Ins)=⟨8,d,a,0,imm,[],[],0⟩) (h1:regB d=true) (h2:regB a=true) (h3:regB b=true) (w:World):Calls Tryz.prog 63 #[vI ⟨8,d,a,b,imm,loc,label,fence⟩] w (Ret w (.int .i64 (errI ⟨8,d,a,b,imm,loc,label,fence⟩))):=by
 have z1:decide (-2048≤imm)=true:=by simp;omega
 have z2:decide (imm≤2047)=true:=by simp;omega
 have hc:checkI ⟨8,d,a,b,imm,loc,label,fence⟩=(okI ⟨8,d,a,b,imm,loc,label,fence⟩&&decide ((⟨8,d,a,b,imm,loc,label,fence⟩:Ins)=⟨8,d,a,0,imm,[],[],0⟩)&&regB d&&regB a&&regB b):=rfl
 have ho:okI ⟨8,d,a,b,imm,loc,label,fence⟩=true:=(by show (decide (-2048≤imm)&&decide (imm≤2047))=true;simp;omega)
 have hNE : ∀ w,(binOp .neq 23 (.agg #[.int .i64 8,.int .i64 d,.int .i64 a,.int .i64 b,.int .i64 imm,.string (tx loc),.string (tx label),.int .i64 fence]) (.agg #[.int .i64 8,.int .i64 d,.int .i64 a,.int .i64 0,.int .i64 imm,.string ⟨#[]⟩,.string ⟨#[]⟩,.int .i64 0])).run Tryz.prog w = .ok (.bool false) w:=fun w=>by
  have:=neqI ⟨8,d,a,b,imm,loc,label,fence⟩ ⟨8,d,a,0,imm,[],[],0⟩ w
  rw [decide_eq_true he] at this
  exact this
 have HE:=hid (errI_yes (by rw [hc,ho,decide_eq_true he,h1,h2,h3];rfl))
 have H1:=hid h1
 have H2:=hid h2
 have H3:=hid h3
 have HM:=hid (rfl:(0:Nat)=0)
 have hl:label.length≤label.length:=Nat.le_refl _
 clear hc ho he h1 h2 h3
 go_enter Tryz.func63,Tryz.ntmps63
 go_wp2_with (first|(go_at_call 103;refine (refIsReg _ _).mono ?_;rintro e w' ⟨rfl,rfl⟩;(try rw [H1.out]);(try rw [H2.out]);(try rw [H3.out]))|(go_at_call 102;refine (refIsName label hl _).mono ?_;rintro e w' ⟨rfl,rfl⟩;rw [HM.out]))
 go_ret
 exact ⟨ret_int HE.out.symm,blA⟩
theorem refCheck_ori_in (d a b imm:Int) (loc label:Tx) (fence:Int) (g1 : -2048≤imm) (g2:imm≤2047) (w:World):Calls Tryz.prog 63 #[vI ⟨8,d,a,b,imm,loc,label,fence⟩] w (Ret w (.int .i64 (errI ⟨8,d,a,b,imm,loc,label,fence⟩))):=by
 by_cases he:(⟨8,d,a,b,imm,loc,label,fence⟩:Ins)=⟨8,d,a,0,imm,[],[],0⟩
 ·cases h1:regB d
  ·exact refCheck_ori_in_d d a b imm loc label fence g1 g2 he h1 w
  cases h2:regB a
  ·exact refCheck_ori_in_a d a b imm loc label fence g1 g2 he h1 h2 w
  cases h3:regB b
  ·exact refCheck_ori_in_b d a b imm loc label fence g1 g2 he h1 h2 h3 w
  ·exact refCheck_ori_in_y d a b imm loc label fence g1 g2 he h1 h2 h3 w
 ·exact refCheck_ori_in_e d a b imm loc label fence g1 g2 he w
end Go.Proofs.YthaibjefnclkjaaGreatDoor

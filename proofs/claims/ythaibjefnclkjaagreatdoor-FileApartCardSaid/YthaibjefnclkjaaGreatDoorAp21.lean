/- The walk of Check (the document's answer) at branches and labels. Condition: lengths that an int holds. The walk of Check (the document's answer). Condition: lengths that an int holds. -/
import Derived.Test.YthaibjefnclkjaaGreatDoorAp19
import Derived.Test.YthaibjefnclkjaaGreatDoorAp20
set_option linter.unusedVariables false
set_option maxRecDepth 100000
set_option maxHeartbeats 6400000
namespace Go.Proofs.YthaibjefnclkjaaGreatDoor
open Go.RowKit
theorem refCheck_bne_e (d a b imm:Int) (loc label:Tx) (fence:Int) (hl:label.length≤9223372036854775807) (hm:nameB label=true) (he:(⟨11,d,a,b,imm,loc,label,fence⟩:Ins)≠⟨11,0,a,b,0,[],label,0⟩) (w:World):Calls Tryz.prog 63 #[vI ⟨11,d,a,b,imm,loc,label,fence⟩] w (Ret w (.int .i64 (errI ⟨11,d,a,b,imm,loc,label,fence⟩))):=by
 have hc:checkI ⟨11,d,a,b,imm,loc,label,fence⟩=(okI ⟨11,d,a,b,imm,loc,label,fence⟩&&decide ((⟨11,d,a,b,imm,loc,label,fence⟩:Ins)=⟨11,0,a,b,0,[],label,0⟩)&&regB d&&regB a&&regB b):=rfl
 have ho:okI ⟨11,d,a,b,imm,loc,label,fence⟩=true:=hm
 have hNE : ∀ w,(binOp .neq 23 (.agg #[.int .i64 11,.int .i64 d,.int .i64 a,.int .i64 b,.int .i64 imm,.string (tx loc),.string (tx label),.int .i64 fence]) (.agg #[.int .i64 11,.int .i64 0,.int .i64 a,.int .i64 b,.int .i64 0,.string ⟨#[]⟩,.string (tx label),.int .i64 0])).run Tryz.prog w = .ok (.bool true) w:=fun w=>by
  have:=neqI ⟨11,d,a,b,imm,loc,label,fence⟩ ⟨11,0,a,b,0,[],label,0⟩ w
  rw [decide_eq_false he] at this
  exact this
 have HE:=hid (errI_no (by rw [hc,ho,decide_eq_false he];simp))
 have H1:=hid (rfl:(0:Nat)=0)
 have H2:=hid (rfl:(0:Nat)=0)
 have H3:=hid (rfl:(0:Nat)=0)
 have HM:=hid hm
 clear hc ho he hm
 go_enter Tryz.func63,Tryz.ntmps63
 go_wp2_with (first|(go_at_call 103;refine (refIsReg _ _).mono ?_;rintro e w' ⟨rfl,rfl⟩;(try rw [H1.out]);(try rw [H2.out]);(try rw [H3.out]))|(go_at_call 102;refine (refIsName label hl _).mono ?_;rintro e w' ⟨rfl,rfl⟩;rw [HM.out]))
 go_ret
 exact ⟨ret_int HE.out.symm,blA⟩
theorem refCheck_bne_d (d a b imm:Int) (loc label:Tx) (fence:Int) (hl:label.length≤9223372036854775807) (hm:nameB label=true) (he:(⟨11,d,a,b,imm,loc,label,fence⟩:Ins)=⟨11,0,a,b,0,[],label,0⟩) (h1:regB d=false) (w:World):Calls Tryz.prog 63 #[vI ⟨11,d,a,b,imm,loc,label,fence⟩] w (Ret w (.int .i64 (errI ⟨11,d,a,b,imm,loc,label,fence⟩))):=by
 have hc:checkI ⟨11,d,a,b,imm,loc,label,fence⟩=(okI ⟨11,d,a,b,imm,loc,label,fence⟩&&decide ((⟨11,d,a,b,imm,loc,label,fence⟩:Ins)=⟨11,0,a,b,0,[],label,0⟩)&&regB d&&regB a&&regB b):=rfl
 have ho:okI ⟨11,d,a,b,imm,loc,label,fence⟩=true:=hm
 have hNE : ∀ w,(binOp .neq 23 (.agg #[.int .i64 11,.int .i64 d,.int .i64 a,.int .i64 b,.int .i64 imm,.string (tx loc),.string (tx label),.int .i64 fence]) (.agg #[.int .i64 11,.int .i64 0,.int .i64 a,.int .i64 b,.int .i64 0,.string ⟨#[]⟩,.string (tx label),.int .i64 0])).run Tryz.prog w = .ok (.bool false) w:=fun w=>by
  have:=neqI ⟨11,d,a,b,imm,loc,label,fence⟩ ⟨11,0,a,b,0,[],label,0⟩ w
  rw [decide_eq_true he] at this
  exact this
 have HE:=hid (errI_no (by rw [hc,ho,h1];simp))
 have H1:=hid h1
 have H2:=hid (rfl:(0:Nat)=0)
 have H3:=hid (rfl:(0:Nat)=0)
 have HM:=hid hm
 clear hc ho he h1 hm
 go_enter Tryz.func63,Tryz.ntmps63
 go_wp2_with (first|(go_at_call 103;refine (refIsReg _ _).mono ?_;rintro e w' ⟨rfl,rfl⟩;(try rw [H1.out]);(try rw [H2.out]);(try rw [H3.out]))|(go_at_call 102;refine (refIsName label hl _).mono ?_;rintro e w' ⟨rfl,rfl⟩;rw [HM.out]))
 go_ret
 exact ⟨ret_int HE.out.symm,blA⟩
theorem refCheck_bne_a (d a b imm:Int) (loc label:Tx) (fence:Int) (hl:label.length≤9223372036854775807) (hm:nameB label=true) (he:(⟨11,d,a,b,imm,loc,label,fence⟩:Ins)=⟨11,0,a,b,0,[],label,0⟩) (h1:regB d=true) (h2:regB a=false) (w:World):Calls Tryz.prog 63 #[vI ⟨11,d,a,b,imm,loc,label,fence⟩] w (Ret w (.int .i64 (errI ⟨11,d,a,b,imm,loc,label,fence⟩))):=by
 have hc:checkI ⟨11,d,a,b,imm,loc,label,fence⟩=(okI ⟨11,d,a,b,imm,loc,label,fence⟩&&decide ((⟨11,d,a,b,imm,loc,label,fence⟩:Ins)=⟨11,0,a,b,0,[],label,0⟩)&&regB d&&regB a&&regB b):=rfl
 have ho:okI ⟨11,d,a,b,imm,loc,label,fence⟩=true:=hm
 have hNE : ∀ w,(binOp .neq 23 (.agg #[.int .i64 11,.int .i64 d,.int .i64 a,.int .i64 b,.int .i64 imm,.string (tx loc),.string (tx label),.int .i64 fence]) (.agg #[.int .i64 11,.int .i64 0,.int .i64 a,.int .i64 b,.int .i64 0,.string ⟨#[]⟩,.string (tx label),.int .i64 0])).run Tryz.prog w = .ok (.bool false) w:=fun w=>by
  have:=neqI ⟨11,d,a,b,imm,loc,label,fence⟩ ⟨11,0,a,b,0,[],label,0⟩ w
  rw [decide_eq_true he] at this
  exact this
 have HE:=hid (errI_no (by rw [hc,ho,h2];simp))
 have H1:=hid h1
 have H2:=hid h2
 have H3:=hid (rfl:(0:Nat)=0)
 have HM:=hid hm
 clear hc ho he h1 h2 hm
 go_enter Tryz.func63,Tryz.ntmps63
 go_wp2_with (first|(go_at_call 103;refine (refIsReg _ _).mono ?_;rintro e w' ⟨rfl,rfl⟩;(try rw [H1.out]);(try rw [H2.out]);(try rw [H3.out]))|(go_at_call 102;refine (refIsName label hl _).mono ?_;rintro e w' ⟨rfl,rfl⟩;rw [HM.out]))
 go_ret
 exact ⟨ret_int HE.out.symm,blA⟩
theorem refCheck_bne_b (d a b imm:Int) (loc label:Tx) (fence:Int) (hl:label.length≤9223372036854775807) (hm:nameB label=true) (he:(⟨11,d,a,b,imm,loc,label,fence⟩:Ins)=⟨11,0,a,b,0,[],label,0⟩) (h1:regB d=true) (h2:regB a=true) (h3:regB b=false) (w:World):Calls Tryz.prog 63 #[vI ⟨11,d,a,b,imm,loc,label,fence⟩] w (Ret w (.int .i64 (errI ⟨11,d,a,b,imm,loc,label,fence⟩))):=by
 have hc:checkI ⟨11,d,a,b,imm,loc,label,fence⟩=(okI ⟨11,d,a,b,imm,loc,label,fence⟩&&decide ((⟨11,d,a,b,imm,loc,label,fence⟩:Ins)=⟨11,0,a,b,0,[],label,0⟩)&&regB d&&regB a&&regB b):=rfl
 have ho:okI ⟨11,d,a,b,imm,loc,label,fence⟩=true:=hm
 have hNE : ∀ w,(binOp .neq 23 (.agg #[.int .i64 11,.int .i64 d,.int .i64 a,.int .i64 b,.int .i64 imm,.string (tx loc),.string (tx label),.int .i64 fence]) (.agg #[.int .i64 11,.int .i64 0,.int .i64 a,.int .i64 b,.int .i64 0,.string ⟨#[]⟩,.string (tx label),.int .i64 0])).run Tryz.prog w = .ok (.bool false) w:=fun w=>by
  have:=neqI ⟨11,d,a,b,imm,loc,label,fence⟩ ⟨11,0,a,b,0,[],label,0⟩ w
  rw [decide_eq_true he] at this
  exact this
 have HE:=hid (errI_no (by rw [hc,ho,h3];simp))
 have H1:=hid h1
 have H2:=hid h2
 have H3:=hid h3
 have HM:=hid hm
 clear hc ho he h1 h2 h3 hm
 go_enter Tryz.func63,Tryz.ntmps63
 go_wp2_with (first|(go_at_call 103;refine (refIsReg _ _).mono ?_;rintro e w' ⟨rfl,rfl⟩;(try rw [H1.out]);(try rw [H2.out]);(try rw [H3.out]))|(go_at_call 102;refine (refIsName label hl _).mono ?_;rintro e w' ⟨rfl,rfl⟩;rw [HM.out]))
 go_ret
 exact ⟨ret_int HE.out.symm,blA⟩
theorem refCheck_bne_y (d a b imm:Int) (loc label:Tx) (fence:Int) (hl:label.length≤9223372036854775807) (hm:nameB label=true) (he:(⟨11,d,a,b,imm,loc,label,fence⟩:Ins)=⟨11,0,a,b,0,[],label,0⟩) (h1:regB d=true) (h2:regB a=true) (h3:regB b=true) (w:World):Calls Tryz.prog 63 #[vI ⟨11,d,a,b,imm,loc,label,fence⟩] w (Ret w (.int .i64 (errI ⟨11,d,a,b,imm,loc,label,fence⟩))):=by
 have hc:checkI ⟨11,d,a,b,imm,loc,label,fence⟩=(okI ⟨11,d,a,b,imm,loc,label,fence⟩&&decide ((⟨11,d,a,b,imm,loc,label,fence⟩:Ins)=⟨11,0,a,b,0,[],label,0⟩)&&regB d&&regB a&&regB b):=rfl
 have ho:okI ⟨11,d,a,b,imm,loc,label,fence⟩=true:=hm
 have hNE : ∀ w,(binOp .neq 23 (.agg #[.int .i64 11,.int .i64 d,.int .i64 a,.int .i64 b,.int .i64 imm,.string (tx loc),.string (tx label),.int .i64 fence]) (.agg #[.int .i64 11,.int .i64 0,.int .i64 a,.int .i64 b,.int .i64 0,.string ⟨#[]⟩,.string (tx label),.int .i64 0])).run Tryz.prog w = .ok (.bool false) w:=fun w=>by
  have:=neqI ⟨11,d,a,b,imm,loc,label,fence⟩ ⟨11,0,a,b,0,[],label,0⟩ w
  rw [decide_eq_true he] at this
  exact this
 have HE:=hid (errI_yes (by rw [hc,ho,decide_eq_true he,h1,h2,h3];rfl))
 have H1:=hid h1
 have H2:=hid h2
 have H3:=hid h3
 have HM:=hid hm
 clear hc ho he h1 h2 h3 hm
 go_enter Tryz.func63,Tryz.ntmps63
 go_wp2_with (first|(go_at_call 103;refine (refIsReg _ _).mono ?_;rintro e w' ⟨rfl,rfl⟩;(try rw [H1.out]);(try rw [H2.out]);(try rw [H3.out]))|(go_at_call 102;refine (refIsName label hl _).mono ?_;rintro e w' ⟨rfl,rfl⟩;rw [HM.out]))
 go_ret
 exact ⟨ret_int HE.out.symm,blA⟩
theorem refCheck_bne (d a b imm:Int) (loc label:Tx) (fence:Int) (hl:label.length≤9223372036854775807) (hm:nameB label=true) (w:World):Calls Tryz.prog 63 #[vI ⟨11,d,a,b,imm,loc,label,fence⟩] w (Ret w (.int .i64 (errI ⟨11,d,a,b,imm,loc,label,fence⟩))):=by
 by_cases he:(⟨11,d,a,b,imm,loc,label,fence⟩:Ins)=⟨11,0,a,b,0,[],label,0⟩
 ·cases h1:regB d
  ·exact refCheck_bne_d d a b imm loc label fence hl hm he h1 w
  cases h2:regB a
  ·exact refCheck_bne_a d a b imm loc label fence hl hm he h1 h2 w
  cases h3:regB b
  ·exact refCheck_bne_b d a b imm loc label fence hl hm he h1 h2 h3 w
  ·exact refCheck_bne_y d a b imm loc label fence hl hm he h1 h2 h3 w
 ·exact refCheck_bne_e d a b imm loc label fence hl hm he w
theorem refCheck_bne_no (d a b imm:Int) (loc label:Tx) (fence:Int) (hl:label.length≤9223372036854775807) (hm:nameB label=false) (w:World):Calls Tryz.prog 63 #[vI ⟨11,d,a,b,imm,loc,label,fence⟩] w (Ret w (.int .i64 (errI ⟨11,d,a,b,imm,loc,label,fence⟩))):=by
 have HE:=hid (errI_no (i:=⟨11,d,a,b,imm,loc,label,fence⟩) (show checkI ⟨11,d,a,b,imm,loc,label,fence⟩=false by unfold checkI;rw [show okI ⟨11,d,a,b,imm,loc,label,fence⟩=false from hm];rfl))
 have H1:=hid (rfl:(0:Nat)=0);have H2:=H1;have H3:=H1;have HM:=hid hm
 go_enter Tryz.func63,Tryz.ntmps63
 go_wp2_with (first|(go_at_call 103;refine (refIsReg _ _).mono ?_;rintro e w' ⟨rfl,rfl⟩;(try rw [H1.out]);(try rw [H2.out]);(try rw [H3.out]))|(go_at_call 102;refine (refIsName label hl _).mono ?_;rintro e w' ⟨rfl,rfl⟩;rw [HM.out]))
 go_ret
 exact ⟨ret_int HE.out.symm,blA⟩
theorem refCheck_label_e (d a b imm:Int) (loc label:Tx) (fence:Int) (hl:label.length≤9223372036854775807) (hm:nameB label=true) (he:(⟨12,d,a,b,imm,loc,label,fence⟩:Ins)≠⟨12,0,0,0,0,[],label,0⟩) (w:World):Calls Tryz.prog 63 #[vI ⟨12,d,a,b,imm,loc,label,fence⟩] w (Ret w (.int .i64 (errI ⟨12,d,a,b,imm,loc,label,fence⟩))):=by
 have hc:checkI ⟨12,d,a,b,imm,loc,label,fence⟩=(okI ⟨12,d,a,b,imm,loc,label,fence⟩&&decide ((⟨12,d,a,b,imm,loc,label,fence⟩:Ins)=⟨12,0,0,0,0,[],label,0⟩)&&regB d&&regB a&&regB b):=rfl
 have ho:okI ⟨12,d,a,b,imm,loc,label,fence⟩=true:=hm
 have hNE : ∀ w,(binOp .neq 23 (.agg #[.int .i64 12,.int .i64 d,.int .i64 a,.int .i64 b,.int .i64 imm,.string (tx loc),.string (tx label),.int .i64 fence]) (.agg #[.int .i64 12,.int .i64 0,.int .i64 0,.int .i64 0,.int .i64 0,.string ⟨#[]⟩,.string (tx label),.int .i64 0])).run Tryz.prog w = .ok (.bool true) w:=fun w=>by
  have:=neqI ⟨12,d,a,b,imm,loc,label,fence⟩ ⟨12,0,0,0,0,[],label,0⟩ w
  rw [decide_eq_false he] at this
  exact this
 have HE:=hid (errI_no (by rw [hc,ho,decide_eq_false he];simp))
 have H1:=hid (rfl:(0:Nat)=0)
 have H2:=hid (rfl:(0:Nat)=0)
 have H3:=hid (rfl:(0:Nat)=0)
 have HM:=hid hm
 clear hc ho he hm
 go_enter Tryz.func63,Tryz.ntmps63
 go_wp2_with (first|(go_at_call 103;refine (refIsReg _ _).mono ?_;rintro e w' ⟨rfl,rfl⟩;(try rw [H1.out]);(try rw [H2.out]);(try rw [H3.out]))|(go_at_call 102;refine (refIsName label hl _).mono ?_;rintro e w' ⟨rfl,rfl⟩;rw [HM.out]))
 go_ret
 exact ⟨ret_int HE.out.symm,blA⟩
theorem refCheck_label_d (d a b imm:Int) (loc label:Tx) (fence:Int) (hl:label.length≤9223372036854775807) (hm:nameB label=true) (he:(⟨12,d,a,b,imm,loc,label,fence⟩:Ins)=⟨12,0,0,0,0,[],label,0⟩) (h1:regB d=false) (w:World):Calls Tryz.prog 63 #[vI ⟨12,d,a,b,imm,loc,label,fence⟩] w (Ret w (.int .i64 (errI ⟨12,d,a,b,imm,loc,label,fence⟩))):=by
 have hc:checkI ⟨12,d,a,b,imm,loc,label,fence⟩=(okI ⟨12,d,a,b,imm,loc,label,fence⟩&&decide ((⟨12,d,a,b,imm,loc,label,fence⟩:Ins)=⟨12,0,0,0,0,[],label,0⟩)&&regB d&&regB a&&regB b):=rfl
 have ho:okI ⟨12,d,a,b,imm,loc,label,fence⟩=true:=hm
 have hNE : ∀ w,(binOp .neq 23 (.agg #[.int .i64 12,.int .i64 d,.int .i64 a,.int .i64 b,.int .i64 imm,.string (tx loc),.string (tx label),.int .i64 fence]) (.agg #[.int .i64 12,.int .i64 0,.int .i64 0,.int .i64 0,.int .i64 0,.string ⟨#[]⟩,.string (tx label),.int .i64 0])).run Tryz.prog w = .ok (.bool false) w:=fun w=>by
  have:=neqI ⟨12,d,a,b,imm,loc,label,fence⟩ ⟨12,0,0,0,0,[],label,0⟩ w
  rw [decide_eq_true he] at this
  exact this
 have HE:=hid (errI_no (by rw [hc,ho,h1];simp))
 have H1:=hid h1
 have H2:=hid (rfl:(0:Nat)=0)
 have H3:=hid (rfl:(0:Nat)=0)
 have HM:=hid hm
 clear hc ho he h1 hm
 go_enter Tryz.func63,Tryz.ntmps63
 go_wp2_with (first|(go_at_call 103;refine (refIsReg _ _).mono ?_;rintro e w' ⟨rfl,rfl⟩;(try rw [H1.out]);(try rw [H2.out]);(try rw [H3.out]))|(go_at_call 102;refine (refIsName label hl _).mono ?_;rintro e w' ⟨rfl,rfl⟩;rw [HM.out]))
 go_ret
 exact ⟨ret_int HE.out.symm,blA⟩
theorem refCheck_label_a (d a b imm:Int) (loc label:Tx) (fence:Int) (hl:label.length≤9223372036854775807) (hm:nameB label=true) (he:(⟨12,d,a,b,imm,loc,label,fence⟩:Ins)=⟨12,0,0,0,0,[],label,0⟩) (h1:regB d=true) (h2:regB a=false) (w:World):Calls Tryz.prog 63 #[vI ⟨12,d,a,b,imm,loc,label,fence⟩] w (Ret w (.int .i64 (errI ⟨12,d,a,b,imm,loc,label,fence⟩))):=by
 have hc:checkI ⟨12,d,a,b,imm,loc,label,fence⟩=(okI ⟨12,d,a,b,imm,loc,label,fence⟩&&decide ((⟨12,d,a,b,imm,loc,label,fence⟩:Ins)=⟨12,0,0,0,0,[],label,0⟩)&&regB d&&regB a&&regB b):=rfl
 have ho:okI ⟨12,d,a,b,imm,loc,label,fence⟩=true:=hm
 have hNE : ∀ w,(binOp .neq 23 (.agg #[.int .i64 12,.int .i64 d,.int .i64 a,.int .i64 b,.int .i64 imm,.string (tx loc),.string (tx label),.int .i64 fence]) (.agg #[.int .i64 12,.int .i64 0,.int .i64 0,.int .i64 0,.int .i64 0,.string ⟨#[]⟩,.string (tx label),.int .i64 0])).run Tryz.prog w = .ok (.bool false) w:=fun w=>by
  have:=neqI ⟨12,d,a,b,imm,loc,label,fence⟩ ⟨12,0,0,0,0,[],label,0⟩ w
  rw [decide_eq_true he] at this
  exact this
 have HE:=hid (errI_no (by rw [hc,ho,h2];simp))
 have H1:=hid h1
 have H2:=hid h2
 have H3:=hid (rfl:(0:Nat)=0)
 have HM:=hid hm
 clear hc ho he h1 h2 hm
 go_enter Tryz.func63,Tryz.ntmps63
 go_wp2_with (first|(go_at_call 103;refine (refIsReg _ _).mono ?_;rintro e w' ⟨rfl,rfl⟩;(try rw [H1.out]);(try rw [H2.out]);(try rw [H3.out]))|(go_at_call 102;refine (refIsName label hl _).mono ?_;rintro e w' ⟨rfl,rfl⟩;rw [HM.out]))
 go_ret
 exact ⟨ret_int HE.out.symm,blA⟩
theorem refCheck_label_b (d a b imm:Int) (loc label:Tx) (fence:Int) (hl:label.length≤9223372036854775807) (hm:nameB label=true) (he:(⟨12,d,a,b,imm,loc,label,fence⟩:Ins)=⟨12,0,0,0,0,[],label,0⟩) (h1:regB d=true) (h2:regB a=true) (h3:regB b=false) (w:World):Calls Tryz.prog 63 #[vI ⟨12,d,a,b,imm,loc,label,fence⟩] w (Ret w (.int .i64 (errI ⟨12,d,a,b,imm,loc,label,fence⟩))):=by
 have hc:checkI ⟨12,d,a,b,imm,loc,label,fence⟩=(okI ⟨12,d,a,b,imm,loc,label,fence⟩&&decide ((⟨12,d,a,b,imm,loc,label,fence⟩:Ins)=⟨12,0,0,0,0,[],label,0⟩)&&regB d&&regB a&&regB b):=rfl
 have ho:okI ⟨12,d,a,b,imm,loc,label,fence⟩=true:=hm
 have hNE : ∀ w,(binOp .neq 23 (.agg #[.int .i64 12,.int .i64 d,.int .i64 a,.int .i64 b,.int .i64 imm,.string (tx loc),.string (tx label),.int .i64 fence]) (.agg #[.int .i64 12,.int .i64 0,.int .i64 0,.int .i64 0,.int .i64 0,.string ⟨#[]⟩,.string (tx label),.int .i64 0])).run Tryz.prog w = .ok (.bool false) w:=fun w=>by
  have:=neqI ⟨12,d,a,b,imm,loc,label,fence⟩ ⟨12,0,0,0,0,[],label,0⟩ w
  rw [decide_eq_true he] at this
  exact this
 have HE:=hid (errI_no (by rw [hc,ho,h3];simp))
 have H1:=hid h1
 have H2:=hid h2
 have H3:=hid h3
 have HM:=hid hm
 clear hc ho he h1 h2 h3 hm
 go_enter Tryz.func63,Tryz.ntmps63
 go_wp2_with (first|(go_at_call 103;refine (refIsReg _ _).mono ?_;rintro e w' ⟨rfl,rfl⟩;(try rw [H1.out]);(try rw [H2.out]);(try rw [H3.out]))|(go_at_call 102;refine (refIsName label hl _).mono ?_;rintro e w' ⟨rfl,rfl⟩;rw [HM.out]))
 go_ret
 exact ⟨ret_int HE.out.symm,blA⟩
theorem refCheck_label_y (d a b imm:Int) (loc label:Tx) (fence:Int) (hl:label.length≤9223372036854775807) (hm:nameB label=true) (he:(⟨12,d,a,b,imm,loc,label,fence⟩:Ins)=⟨12,0,0,0,0,[],label,0⟩) (h1:regB d=true) (h2:regB a=true) (h3:regB b=true) (w:World):Calls Tryz.prog 63 #[vI ⟨12,d,a,b,imm,loc,label,fence⟩] w (Ret w (.int .i64 (errI ⟨12,d,a,b,imm,loc,label,fence⟩))):=by
 have hc:checkI ⟨12,d,a,b,imm,loc,label,fence⟩=(okI ⟨12,d,a,b,imm,loc,label,fence⟩&&decide ((⟨12,d,a,b,imm,loc,label,fence⟩:Ins)=⟨12,0,0,0,0,[],label,0⟩)&&regB d&&regB a&&regB b):=rfl
 have ho:okI ⟨12,d,a,b,imm,loc,label,fence⟩=true:=hm
 have hNE : ∀ w,(binOp .neq 23 (.agg #[.int .i64 12,.int .i64 d,.int .i64 a,.int .i64 b,.int .i64 imm,.string (tx loc),.string (tx label),.int .i64 fence]) (.agg #[.int .i64 12,.int .i64 0,.int .i64 0,.int .i64 0,.int .i64 0,.string ⟨#[]⟩,.string (tx label),.int .i64 0])).run Tryz.prog w = .ok (.bool false) w:=fun w=>by
  have:=neqI ⟨12,d,a,b,imm,loc,label,fence⟩ ⟨12,0,0,0,0,[],label,0⟩ w
  rw [decide_eq_true he] at this
  exact this
 have HE:=hid (errI_yes (by rw [hc,ho,decide_eq_true he,h1,h2,h3];rfl))
 have H1:=hid h1
 have H2:=hid h2
 have H3:=hid h3
 have HM:=hid hm
 clear hc ho he h1 h2 h3 hm
 go_enter Tryz.func63,Tryz.ntmps63
 go_wp2_with (first|(go_at_call 103;refine (refIsReg _ _).mono ?_;rintro e w' ⟨rfl,rfl⟩;(try rw [H1.out]);(try rw [H2.out]);(try rw [H3.out]))|(go_at_call 102;refine (refIsName label hl _).mono ?_;rintro e w' ⟨rfl,rfl⟩;rw [HM.out]))
 go_ret
 exact ⟨ret_int HE.out.symm,blA⟩
theorem refCheck_label (d a b imm:Int) (loc label:Tx) (fence:Int) (hl:label.length≤9223372036854775807) (hm:nameB label=true) (w:World):Calls Tryz.prog 63 #[vI ⟨12,d,a,b,imm,loc,label,fence⟩] w (Ret w (.int .i64 (errI ⟨12,d,a,b,imm,loc,label,fence⟩))):=by
 by_cases he:(⟨12,d,a,b,imm,loc,label,fence⟩:Ins)=⟨12,0,0,0,0,[],label,0⟩
 ·cases h1:regB d
  ·exact refCheck_label_d d a b imm loc label fence hl hm he h1 w
  cases h2:regB a
  ·exact refCheck_label_a d a b imm loc label fence hl hm he h1 h2 w
  cases h3:regB b
  ·exact refCheck_label_b d a b imm loc label fence hl hm he h1 h2 h3 w
  ·exact refCheck_label_y d a b imm loc label fence hl hm he h1 h2 h3 w
 ·exact refCheck_label_e d a b imm loc label fence hl hm he w
theorem refCheck_label_no (d a b imm:Int) (loc label:Tx) (fence:Int) (hl:label.length≤9223372036854775807) (hm:nameB label=false) (w:World):Calls Tryz.prog 63 #[vI ⟨12,d,a,b,imm,loc,label,fence⟩] w (Ret w (.int .i64 (errI ⟨12,d,a,b,imm,loc,label,fence⟩))):=by
 have HE:=hid (errI_no (i:=⟨12,d,a,b,imm,loc,label,fence⟩) (show checkI ⟨12,d,a,b,imm,loc,label,fence⟩=false by unfold checkI;rw [show okI ⟨12,d,a,b,imm,loc,label,fence⟩=false from hm];rfl))
 have H1:=hid (rfl:(0:Nat)=0);have H2:=H1;have H3:=H1;have HM:=hid hm
 go_enter Tryz.func63,Tryz.ntmps63
 go_wp2_with (first|(go_at_call 103;refine (refIsReg _ _).mono ?_;rintro e w' ⟨rfl,rfl⟩;(try rw [H1.out]);(try rw [H2.out]);(try rw [H3.out]))|(go_at_call 102;refine (refIsName label hl _).mono ?_;rintro e w' ⟨rfl,rfl⟩;rw [HM.out]))
 go_ret
 exact ⟨ret_int HE.out.symm,blA⟩
theorem refCheck (i:Ins) (hl:i.label.length≤9223372036854775807) (w:World):Calls Tryz.prog 63 #[vI i] w (Ret w (.int .i64 (errI i))):=by
 obtain ⟨op,d,a,b,imm,loc,label,fence⟩:=i
 by_cases h6:op=6
 ·subst h6;exact refCheck_lw d a b imm loc label fence w
 by_cases h7:op=7
 ·subst h7;exact refCheck_sw d a b imm loc label fence w
 by_cases h8:op=8
 ·subst h8
  by_cases h1:imm < -2048
  ·exact refCheck_ori_lo d a b imm loc label fence h1 w
  ·by_cases h2:imm≤2047
   ·exact refCheck_ori_in d a b imm loc label fence (by omega) h2 w
   ·exact refCheck_ori_hi d a b imm loc label fence (by omega) w
 by_cases h9:op=9
 ·subst h9;exact refCheck_xor d a b imm loc label fence w
 by_cases h10:op=10
 ·subst h10;exact refCheck_add d a b imm loc label fence w
 by_cases h11:op=11
 ·subst h11
  cases hm:nameB label
  ·exact refCheck_bne_no d a b imm loc label fence hl hm w
  ·exact refCheck_bne d a b imm loc label fence hl hm w
 by_cases h12:op=12
 ·subst h12
  cases hm:nameB label
  ·exact refCheck_label_no d a b imm loc label fence hl hm w
  ·exact refCheck_label d a b imm loc label fence hl hm w
 by_cases h13:op=13
 ·subst h13
  by_cases h1:fence<2
  ·exact refCheck_fence_lo d a b imm loc label fence h1 w
  ·by_cases h2:fence≤11
   ·exact refCheck_fence_in d a b imm loc label fence (by omega) h2 w
   ·exact refCheck_fence_hi d a b imm loc label fence (by omega) w
 exact refCheck_no d a b imm loc label fence op (by omega) w
end Go.Proofs.YthaibjefnclkjaaGreatDoor

/- The walk of Check of x86 instructions (the document's answer). Condition: lengths that an int holds. -/
import Derived.Test.YthaibjefnclkjaaGreatDoorAp7
set_option linter.unusedVariables false
set_option maxRecDepth 100000
set_option maxHeartbeats 6400000
namespace Go.Proofs.YthaibjefnclkjaaGreatDoor
open Go.RowKit
theorem r9Check_1_0 (d a b imm:Int) (loc label:Tx) (fence:Int) (hl:loc.length≤9223372036854775807) (h0:nameB loc=false) (w:World):Calls Tryz.prog 61 #[vI ⟨1,d,a,b,imm,loc,label,fence⟩] w (Ret w (.int .i64 (errX ⟨1,d,a,b,imm,loc,label,fence⟩))):=by
 have hc:checkX ⟨1,d,a,b,imm,loc,label,fence⟩=(okX ⟨1,d,a,b,imm,loc,label,fence⟩&&decide ((⟨1,d,a,b,imm,loc,label,fence⟩:Ins)=⟨1,0,0,0,imm,loc,[],0⟩)):=rfl
 have HE:=hid (errX_no (show checkX ⟨1,d,a,b,imm,loc,label,fence⟩=false by rw [hc];simp [okX,h0]))
 have H0:=hid h0
 clear hc h0
 go_enter Tryz.func61,Tryz.ntmps61
 go_wp2_with (first|(go_at_call 99;refine (r09Named loc hl _).mono ?_;rintro e w' ⟨rfl,rfl⟩;rw [H0.out]))
 go_ret
 exact ⟨ret_int HE.out.symm,blA⟩
theorem r9Check_1_1 (d a b imm:Int) (loc label:Tx) (fence:Int) (hl:loc.length≤9223372036854775807) (h0:nameB loc=true) (h1:n32B imm=false) (w:World):Calls Tryz.prog 61 #[vI ⟨1,d,a,b,imm,loc,label,fence⟩] w (Ret w (.int .i64 (errX ⟨1,d,a,b,imm,loc,label,fence⟩))):=by
 have hc:checkX ⟨1,d,a,b,imm,loc,label,fence⟩=(okX ⟨1,d,a,b,imm,loc,label,fence⟩&&decide ((⟨1,d,a,b,imm,loc,label,fence⟩:Ins)=⟨1,0,0,0,imm,loc,[],0⟩)):=rfl
 have HE:=hid (errX_no (show checkX ⟨1,d,a,b,imm,loc,label,fence⟩=false by rw [hc];simp [okX,h0,h1]))
 have H0:=hid h0
 have H1:=hid h1
 clear hc h0 h1
 go_enter Tryz.func61,Tryz.ntmps61
 go_wp2_with (first|(go_at_call 99;refine (r09Named loc hl _).mono ?_;rintro e w' ⟨rfl,rfl⟩;rw [H0.out])|(go_at_call 100;refine (r09Number imm _).mono ?_;rintro e w' ⟨rfl,rfl⟩;rw [H1.out]))
 go_ret
 exact ⟨ret_int HE.out.symm,blA⟩
theorem r9Check_1_e (d a b imm:Int) (loc label:Tx) (fence:Int) (hl:loc.length≤9223372036854775807) (h0:nameB loc=true) (h1:n32B imm=true) (he:(⟨1,d,a,b,imm,loc,label,fence⟩:Ins)≠⟨1,0,0,0,imm,loc,[],0⟩) (w:World):Calls Tryz.prog 61 #[vI ⟨1,d,a,b,imm,loc,label,fence⟩] w (Ret w (.int .i64 (errX ⟨1,d,a,b,imm,loc,label,fence⟩))):=by
 have hc:checkX ⟨1,d,a,b,imm,loc,label,fence⟩=(okX ⟨1,d,a,b,imm,loc,label,fence⟩&&decide ((⟨1,d,a,b,imm,loc,label,fence⟩:Ins)=⟨1,0,0,0,imm,loc,[],0⟩)):=rfl
 have hNE : ∀ w,(binOp .neq 23 (.agg #[.int .i64 1,.int .i64 0,.int .i64 0,.int .i64 0,.int .i64 imm,.string (tx loc),.string ⟨#[]⟩,.int .i64 0]) (.agg #[.int .i64 1,.int .i64 d,.int .i64 a,.int .i64 b,.int .i64 imm,.string (tx loc),.string (tx label),.int .i64 fence])).run Tryz.prog w = .ok (.bool true) w:=fun w=>by
  have:=neqI ⟨1,0,0,0,imm,loc,[],0⟩ ⟨1,d,a,b,imm,loc,label,fence⟩ w
  rw [decide_eq_false (Ne.symm he)] at this
  exact this
 have HE:=hid (errX_no (show checkX ⟨1,d,a,b,imm,loc,label,fence⟩=false by rw [hc,decide_eq_false he];simp))
 have H0:=hid h0
 have H1:=hid h1
 clear hc he h0 h1
 go_enter Tryz.func61,Tryz.ntmps61
 go_wp2_with (first|(go_at_call 99;refine (r09Named loc hl _).mono ?_;rintro e w' ⟨rfl,rfl⟩;rw [H0.out])|(go_at_call 100;refine (r09Number imm _).mono ?_;rintro e w' ⟨rfl,rfl⟩;rw [H1.out]))
 go_ret
 exact ⟨ret_int HE.out.symm,blA⟩
theorem r9Check_1_y (d a b imm:Int) (loc label:Tx) (fence:Int) (hl:loc.length≤9223372036854775807) (h0:nameB loc=true) (h1:n32B imm=true) (he:(⟨1,d,a,b,imm,loc,label,fence⟩:Ins)=⟨1,0,0,0,imm,loc,[],0⟩) (w:World):Calls Tryz.prog 61 #[vI ⟨1,d,a,b,imm,loc,label,fence⟩] w (Ret w (.int .i64 (errX ⟨1,d,a,b,imm,loc,label,fence⟩))):=by
 have hc:checkX ⟨1,d,a,b,imm,loc,label,fence⟩=(okX ⟨1,d,a,b,imm,loc,label,fence⟩&&decide ((⟨1,d,a,b,imm,loc,label,fence⟩:Ins)=⟨1,0,0,0,imm,loc,[],0⟩)):=rfl
 have hNE : ∀ w,(binOp .neq 23 (.agg #[.int .i64 1,.int .i64 0,.int .i64 0,.int .i64 0,.int .i64 imm,.string (tx loc),.string ⟨#[]⟩,.int .i64 0]) (.agg #[.int .i64 1,.int .i64 d,.int .i64 a,.int .i64 b,.int .i64 imm,.string (tx loc),.string (tx label),.int .i64 fence])).run Tryz.prog w = .ok (.bool false) w:=fun w=>by
  have:=neqI ⟨1,0,0,0,imm,loc,[],0⟩ ⟨1,d,a,b,imm,loc,label,fence⟩ w
  rw [decide_eq_true he.symm] at this
  exact this
 have HE:=hid (errX_yes (show checkX ⟨1,d,a,b,imm,loc,label,fence⟩=true by rw [hc,decide_eq_true he];simp [okX,h0,h1]))
 have H0:=hid h0
 have H1:=hid h1
 clear hc he h0 h1
 go_enter Tryz.func61,Tryz.ntmps61
 go_wp2_with (first|(go_at_call 99;refine (r09Named loc hl _).mono ?_;rintro e w' ⟨rfl,rfl⟩;rw [H0.out])|(go_at_call 100;refine (r09Number imm _).mono ?_;rintro e w' ⟨rfl,rfl⟩;rw [H1.out]))
 go_ret
 exact ⟨ret_int HE.out.symm,blA⟩
theorem r9Check_2_0 (d a b imm:Int) (loc label:Tx) (fence:Int) (hl:loc.length≤9223372036854775807) (h0:nameB loc=false) (w:World):Calls Tryz.prog 61 #[vI ⟨2,d,a,b,imm,loc,label,fence⟩] w (Ret w (.int .i64 (errX ⟨2,d,a,b,imm,loc,label,fence⟩))):=by
 have hc:checkX ⟨2,d,a,b,imm,loc,label,fence⟩=(okX ⟨2,d,a,b,imm,loc,label,fence⟩&&decide ((⟨2,d,a,b,imm,loc,label,fence⟩:Ins)=⟨2,0,a,0,0,loc,[],0⟩)):=rfl
 have HE:=hid (errX_no (show checkX ⟨2,d,a,b,imm,loc,label,fence⟩=false by rw [hc];simp [okX,h0]))
 have H0:=hid h0
 clear hc h0
 go_enter Tryz.func61,Tryz.ntmps61
 go_wp2_with (first|(go_at_call 99;refine (r09Named loc hl _).mono ?_;rintro e w' ⟨rfl,rfl⟩;rw [H0.out]))
 go_ret
 exact ⟨ret_int HE.out.symm,blA⟩
theorem r9Check_2_1 (d a b imm:Int) (loc label:Tx) (fence:Int) (hl:loc.length≤9223372036854775807) (h0:nameB loc=true) (h1:regXB a=false) (w:World):Calls Tryz.prog 61 #[vI ⟨2,d,a,b,imm,loc,label,fence⟩] w (Ret w (.int .i64 (errX ⟨2,d,a,b,imm,loc,label,fence⟩))):=by
 have hc:checkX ⟨2,d,a,b,imm,loc,label,fence⟩=(okX ⟨2,d,a,b,imm,loc,label,fence⟩&&decide ((⟨2,d,a,b,imm,loc,label,fence⟩:Ins)=⟨2,0,a,0,0,loc,[],0⟩)):=rfl
 have HE:=hid (errX_no (show checkX ⟨2,d,a,b,imm,loc,label,fence⟩=false by rw [hc];simp [okX,h0,h1]))
 have H0:=hid h0
 have H1:=hid h1
 clear hc h0 h1
 go_enter Tryz.func61,Tryz.ntmps61
 go_wp2_with (first|(go_at_call 99;refine (r09Named loc hl _).mono ?_;rintro e w' ⟨rfl,rfl⟩;rw [H0.out])|(go_at_call 101;refine (r09Reg0 a _).mono ?_;rintro e w' ⟨rfl,rfl⟩;rw [H1.out]))
 go_ret
 exact ⟨ret_int HE.out.symm,blA⟩
theorem r9Check_2_e (d a b imm:Int) (loc label:Tx) (fence:Int) (hl:loc.length≤9223372036854775807) (h0:nameB loc=true) (h1:regXB a=true) (he:(⟨2,d,a,b,imm,loc,label,fence⟩:Ins)≠⟨2,0,a,0,0,loc,[],0⟩) (w:World):Calls Tryz.prog 61 #[vI ⟨2,d,a,b,imm,loc,label,fence⟩] w (Ret w (.int .i64 (errX ⟨2,d,a,b,imm,loc,label,fence⟩))):=by
 have hc:checkX ⟨2,d,a,b,imm,loc,label,fence⟩=(okX ⟨2,d,a,b,imm,loc,label,fence⟩&&decide ((⟨2,d,a,b,imm,loc,label,fence⟩:Ins)=⟨2,0,a,0,0,loc,[],0⟩)):=rfl
 have hNE : ∀ w,(binOp .neq 23 (.agg #[.int .i64 2,.int .i64 0,.int .i64 a,.int .i64 0,.int .i64 0,.string (tx loc),.string ⟨#[]⟩,.int .i64 0]) (.agg #[.int .i64 2,.int .i64 d,.int .i64 a,.int .i64 b,.int .i64 imm,.string (tx loc),.string (tx label),.int .i64 fence])).run Tryz.prog w = .ok (.bool true) w:=fun w=>by
  have:=neqI ⟨2,0,a,0,0,loc,[],0⟩ ⟨2,d,a,b,imm,loc,label,fence⟩ w
  rw [decide_eq_false (Ne.symm he)] at this
  exact this
 have HE:=hid (errX_no (show checkX ⟨2,d,a,b,imm,loc,label,fence⟩=false by rw [hc,decide_eq_false he];simp))
 have H0:=hid h0
 have H1:=hid h1
 clear hc he h0 h1
 go_enter Tryz.func61,Tryz.ntmps61
 go_wp2_with (first|(go_at_call 99;refine (r09Named loc hl _).mono ?_;rintro e w' ⟨rfl,rfl⟩;rw [H0.out])|(go_at_call 101;refine (r09Reg0 a _).mono ?_;rintro e w' ⟨rfl,rfl⟩;rw [H1.out]))
 go_ret
 exact ⟨ret_int HE.out.symm,blA⟩
theorem r9Check_2_y (d a b imm:Int) (loc label:Tx) (fence:Int) (hl:loc.length≤9223372036854775807) (h0:nameB loc=true) (h1:regXB a=true) (he:(⟨2,d,a,b,imm,loc,label,fence⟩:Ins)=⟨2,0,a,0,0,loc,[],0⟩) (w:World):Calls Tryz.prog 61 #[vI ⟨2,d,a,b,imm,loc,label,fence⟩] w (Ret w (.int .i64 (errX ⟨2,d,a,b,imm,loc,label,fence⟩))):=by
 have hc:checkX ⟨2,d,a,b,imm,loc,label,fence⟩=(okX ⟨2,d,a,b,imm,loc,label,fence⟩&&decide ((⟨2,d,a,b,imm,loc,label,fence⟩:Ins)=⟨2,0,a,0,0,loc,[],0⟩)):=rfl
 have hNE : ∀ w,(binOp .neq 23 (.agg #[.int .i64 2,.int .i64 0,.int .i64 a,.int .i64 0,.int .i64 0,.string (tx loc),.string ⟨#[]⟩,.int .i64 0]) (.agg #[.int .i64 2,.int .i64 d,.int .i64 a,.int .i64 b,.int .i64 imm,.string (tx loc),.string (tx label),.int .i64 fence])).run Tryz.prog w = .ok (.bool false) w:=fun w=>by
  have:=neqI ⟨2,0,a,0,0,loc,[],0⟩ ⟨2,d,a,b,imm,loc,label,fence⟩ w
  rw [decide_eq_true he.symm] at this
  exact this
 have HE:=hid (errX_yes (show checkX ⟨2,d,a,b,imm,loc,label,fence⟩=true by rw [hc,decide_eq_true he];simp [okX,h0,h1]))
 have H0:=hid h0
 have H1:=hid h1
 clear hc he h0 h1
 go_enter Tryz.func61,Tryz.ntmps61
 go_wp2_with (first|(go_at_call 99;refine (r09Named loc hl _).mono ?_;rintro e w' ⟨rfl,rfl⟩;rw [H0.out])|(go_at_call 101;refine (r09Reg0 a _).mono ?_;rintro e w' ⟨rfl,rfl⟩;rw [H1.out]))
 go_ret
 exact ⟨ret_int HE.out.symm,blA⟩
theorem r9Check_3_0 (d a b imm:Int) (loc label:Tx) (fence:Int) (hl:loc.length≤9223372036854775807) (h0:regXB d=false) (w:World):Calls Tryz.prog 61 #[vI ⟨3,d,a,b,imm,loc,label,fence⟩] w (Ret w (.int .i64 (errX ⟨3,d,a,b,imm,loc,label,fence⟩))):=by
 have hc:checkX ⟨3,d,a,b,imm,loc,label,fence⟩=(okX ⟨3,d,a,b,imm,loc,label,fence⟩&&decide ((⟨3,d,a,b,imm,loc,label,fence⟩:Ins)=⟨3,d,0,0,0,loc,[],0⟩)):=rfl
 have HE:=hid (errX_no (show checkX ⟨3,d,a,b,imm,loc,label,fence⟩=false by rw [hc];simp [okX,h0]))
 have H0:=hid h0
 clear hc h0
 go_enter Tryz.func61,Tryz.ntmps61
 go_wp2_with (first|(go_at_call 101;refine (r09Reg0 d _).mono ?_;rintro e w' ⟨rfl,rfl⟩;rw [H0.out]))
 go_ret
 exact ⟨ret_int HE.out.symm,blA⟩
theorem r9Check_3_1 (d a b imm:Int) (loc label:Tx) (fence:Int) (hl:loc.length≤9223372036854775807) (h0:regXB d=true) (h1:nameB loc=false) (w:World):Calls Tryz.prog 61 #[vI ⟨3,d,a,b,imm,loc,label,fence⟩] w (Ret w (.int .i64 (errX ⟨3,d,a,b,imm,loc,label,fence⟩))):=by
 have hc:checkX ⟨3,d,a,b,imm,loc,label,fence⟩=(okX ⟨3,d,a,b,imm,loc,label,fence⟩&&decide ((⟨3,d,a,b,imm,loc,label,fence⟩:Ins)=⟨3,d,0,0,0,loc,[],0⟩)):=rfl
 have HE:=hid (errX_no (show checkX ⟨3,d,a,b,imm,loc,label,fence⟩=false by rw [hc];simp [okX,h0,h1]))
 have H0:=hid h0
 have H1:=hid h1
 clear hc h0 h1
 go_enter Tryz.func61,Tryz.ntmps61
 go_wp2_with (first|(go_at_call 101;refine (r09Reg0 d _).mono ?_;rintro e w' ⟨rfl,rfl⟩;rw [H0.out])|(go_at_call 99;refine (r09Named loc hl _).mono ?_;rintro e w' ⟨rfl,rfl⟩;rw [H1.out]))
 go_ret
 exact ⟨ret_int HE.out.symm,blA⟩
theorem r9Check_3_e (d a b imm:Int) (loc label:Tx) (fence:Int) (hl:loc.length≤9223372036854775807) (h0:regXB d=true) (h1:nameB loc=true) (he:(⟨3,d,a,b,imm,loc,label,fence⟩:Ins)≠⟨3,d,0,0,0,loc,[],0⟩) (w:World):Calls Tryz.prog 61 #[vI ⟨3,d,a,b,imm,loc,label,fence⟩] w (Ret w (.int .i64 (errX ⟨3,d,a,b,imm,loc,label,fence⟩))):=by
 have hc:checkX ⟨3,d,a,b,imm,loc,label,fence⟩=(okX ⟨3,d,a,b,imm,loc,label,fence⟩&&decide ((⟨3,d,a,b,imm,loc,label,fence⟩:Ins)=⟨3,d,0,0,0,loc,[],0⟩)):=rfl
 have hNE : ∀ w,(binOp .neq 23 (.agg #[.int .i64 3,.int .i64 d,.int .i64 0,.int .i64 0,.int .i64 0,.string (tx loc),.string ⟨#[]⟩,.int .i64 0]) (.agg #[.int .i64 3,.int .i64 d,.int .i64 a,.int .i64 b,.int .i64 imm,.string (tx loc),.string (tx label),.int .i64 fence])).run Tryz.prog w = .ok (.bool true) w:=fun w=>by
  have:=neqI ⟨3,d,0,0,0,loc,[],0⟩ ⟨3,d,a,b,imm,loc,label,fence⟩ w
  rw [decide_eq_false (Ne.symm he)] at this
  exact this
 have HE:=hid (errX_no (show checkX ⟨3,d,a,b,imm,loc,label,fence⟩=false by rw [hc,decide_eq_false he];simp))
 have H0:=hid h0
 have H1:=hid h1
 clear hc he h0 h1
 go_enter Tryz.func61,Tryz.ntmps61
 go_wp2_with (first|(go_at_call 101;refine (r09Reg0 d _).mono ?_;rintro e w' ⟨rfl,rfl⟩;rw [H0.out])|(go_at_call 99;refine (r09Named loc hl _).mono ?_;rintro e w' ⟨rfl,rfl⟩;rw [H1.out]))
 go_ret
 exact ⟨ret_int HE.out.symm,blA⟩
theorem r9Check_3_y (d a b imm:Int) (loc label:Tx) (fence:Int) (hl:loc.length≤9223372036854775807) (h0:regXB d=true) (h1:nameB loc=true) (he:(⟨3,d,a,b,imm,loc,label,fence⟩:Ins)=⟨3,d,0,0,0,loc,[],0⟩) (w:World):Calls Tryz.prog 61 #[vI ⟨3,d,a,b,imm,loc,label,fence⟩] w (Ret w (.int .i64 (errX ⟨3,d,a,b,imm,loc,label,fence⟩))):=by
 have hc:checkX ⟨3,d,a,b,imm,loc,label,fence⟩=(okX ⟨3,d,a,b,imm,loc,label,fence⟩&&decide ((⟨3,d,a,b,imm,loc,label,fence⟩:Ins)=⟨3,d,0,0,0,loc,[],0⟩)):=rfl
 have hNE : ∀ w,(binOp .neq 23 (.agg #[.int .i64 3,.int .i64 d,.int .i64 0,.int .i64 0,.int .i64 0,.string (tx loc),.string ⟨#[]⟩,.int .i64 0]) (.agg #[.int .i64 3,.int .i64 d,.int .i64 a,.int .i64 b,.int .i64 imm,.string (tx loc),.string (tx label),.int .i64 fence])).run Tryz.prog w = .ok (.bool false) w:=fun w=>by
  have:=neqI ⟨3,d,0,0,0,loc,[],0⟩ ⟨3,d,a,b,imm,loc,label,fence⟩ w
  rw [decide_eq_true he.symm] at this
  exact this
 have HE:=hid (errX_yes (show checkX ⟨3,d,a,b,imm,loc,label,fence⟩=true by rw [hc,decide_eq_true he];simp [okX,h0,h1]))
 have H0:=hid h0
 have H1:=hid h1
 clear hc he h0 h1
 go_enter Tryz.func61,Tryz.ntmps61
 go_wp2_with (first|(go_at_call 101;refine (r09Reg0 d _).mono ?_;rintro e w' ⟨rfl,rfl⟩;rw [H0.out])|(go_at_call 99;refine (r09Named loc hl _).mono ?_;rintro e w' ⟨rfl,rfl⟩;rw [H1.out]))
 go_ret
 exact ⟨ret_int HE.out.symm,blA⟩
theorem r9Check_4_0 (d a b imm:Int) (loc label:Tx) (fence:Int) (hl:loc.length≤9223372036854775807) (h0:regXB d=false) (w:World):Calls Tryz.prog 61 #[vI ⟨4,d,a,b,imm,loc,label,fence⟩] w (Ret w (.int .i64 (errX ⟨4,d,a,b,imm,loc,label,fence⟩))):=by
 have hc:checkX ⟨4,d,a,b,imm,loc,label,fence⟩=(okX ⟨4,d,a,b,imm,loc,label,fence⟩&&decide ((⟨4,d,a,b,imm,loc,label,fence⟩:Ins)=⟨4,d,0,0,imm,[],[],0⟩)):=rfl
 have HE:=hid (errX_no (show checkX ⟨4,d,a,b,imm,loc,label,fence⟩=false by rw [hc];simp [okX,h0]))
 have H0:=hid h0
 clear hc h0
 go_enter Tryz.func61,Tryz.ntmps61
 go_wp2_with (first|(go_at_call 101;refine (r09Reg0 d _).mono ?_;rintro e w' ⟨rfl,rfl⟩;rw [H0.out]))
 go_ret
 exact ⟨ret_int HE.out.symm,blA⟩
theorem r9Check_4_1 (d a b imm:Int) (loc label:Tx) (fence:Int) (hl:loc.length≤9223372036854775807) (h0:regXB d=true) (h1:n32B imm=false) (w:World):Calls Tryz.prog 61 #[vI ⟨4,d,a,b,imm,loc,label,fence⟩] w (Ret w (.int .i64 (errX ⟨4,d,a,b,imm,loc,label,fence⟩))):=by
 have hc:checkX ⟨4,d,a,b,imm,loc,label,fence⟩=(okX ⟨4,d,a,b,imm,loc,label,fence⟩&&decide ((⟨4,d,a,b,imm,loc,label,fence⟩:Ins)=⟨4,d,0,0,imm,[],[],0⟩)):=rfl
 have HE:=hid (errX_no (show checkX ⟨4,d,a,b,imm,loc,label,fence⟩=false by rw [hc];simp [okX,h0,h1]))
 have H0:=hid h0
 have H1:=hid h1
 clear hc h0 h1
 go_enter Tryz.func61,Tryz.ntmps61
 go_wp2_with (first|(go_at_call 101;refine (r09Reg0 d _).mono ?_;rintro e w' ⟨rfl,rfl⟩;rw [H0.out])|(go_at_call 100;refine (r09Number imm _).mono ?_;rintro e w' ⟨rfl,rfl⟩;rw [H1.out]))
 go_ret
 exact ⟨ret_int HE.out.symm,blA⟩
theorem r9Check_4_e (d a b imm:Int) (loc label:Tx) (fence:Int) (hl:loc.length≤9223372036854775807) (h0:regXB d=true) (h1:n32B imm=true) (he:(⟨4,d,a,b,imm,loc,label,fence⟩:Ins)≠⟨4,d,0,0,imm,[],[],0⟩) (w:World):Calls Tryz.prog 61 #[vI ⟨4,d,a,b,imm,loc,label,fence⟩] w (Ret w (.int .i64 (errX ⟨4,d,a,b,imm,loc,label,fence⟩))):=by
 have hc:checkX ⟨4,d,a,b,imm,loc,label,fence⟩=(okX ⟨4,d,a,b,imm,loc,label,fence⟩&&decide ((⟨4,d,a,b,imm,loc,label,fence⟩:Ins)=⟨4,d,0,0,imm,[],[],0⟩)):=rfl
 have hNE : ∀ w,(binOp .neq 23 (.agg #[.int .i64 4,.int .i64 d,.int .i64 0,.int .i64 0,.int .i64 imm,.string ⟨#[]⟩,.string ⟨#[]⟩,.int .i64 0]) (.agg #[.int .i64 4,.int .i64 d,.int .i64 a,.int .i64 b,.int .i64 imm,.string (tx loc),.string (tx label),.int .i64 fence])).run Tryz.prog w = .ok (.bool true) w:=fun w=>by
  have:=neqI ⟨4,d,0,0,imm,[],[],0⟩ ⟨4,d,a,b,imm,loc,label,fence⟩ w
  rw [decide_eq_false (Ne.symm he)] at this
  exact this
 have HE:=hid (errX_no (show checkX ⟨4,d,a,b,imm,loc,label,fence⟩=false by rw [hc,decide_eq_false he];simp))
 have H0:=hid h0
 have H1:=hid h1
 clear hc he h0 h1
 go_enter Tryz.func61,Tryz.ntmps61
 go_wp2_with (first|(go_at_call 101;refine (r09Reg0 d _).mono ?_;rintro e w' ⟨rfl,rfl⟩;rw [H0.out])|(go_at_call 100;refine (r09Number imm _).mono ?_;rintro e w' ⟨rfl,rfl⟩;rw [H1.out]))
 go_ret
 exact ⟨ret_int HE.out.symm,blA⟩
theorem r9Check_4_y (d a b imm:Int) (loc label:Tx) (fence:Int) (hl:loc.length≤9223372036854775807) (h0:regXB d=true) (h1:n32B imm=true) (he:(⟨4,d,a,b,imm,loc,label,fence⟩:Ins)=⟨4,d,0,0,imm,[],[],0⟩) (w:World):Calls Tryz.prog 61 #[vI ⟨4,d,a,b,imm,loc,label,fence⟩] w (Ret w (.int .i64 (errX ⟨4,d,a,b,imm,loc,label,fence⟩))):=by
 have hc:checkX ⟨4,d,a,b,imm,loc,label,fence⟩=(okX ⟨4,d,a,b,imm,loc,label,fence⟩&&decide ((⟨4,d,a,b,imm,loc,label,fence⟩:Ins)=⟨4,d,0,0,imm,[],[],0⟩)):=rfl
 have hNE : ∀ w,(binOp .neq 23 (.agg #[.int .i64 4,.int .i64 d,.int .i64 0,.int .i64 0,.int .i64 imm,.string ⟨#[]⟩,.string ⟨#[]⟩,.int .i64 0]) (.agg #[.int .i64 4,.int .i64 d,.int .i64 a,.int .i64 b,.int .i64 imm,.string (tx loc),.string (tx label),.int .i64 fence])).run Tryz.prog w = .ok (.bool false) w:=fun w=>by
  have:=neqI ⟨4,d,0,0,imm,[],[],0⟩ ⟨4,d,a,b,imm,loc,label,fence⟩ w
  rw [decide_eq_true he.symm] at this
  exact this
 have HE:=hid (errX_yes (show checkX ⟨4,d,a,b,imm,loc,label,fence⟩=true by rw [hc,decide_eq_true he];simp [okX,h0,h1]))
 have H0:=hid h0
 have H1:=hid h1
 clear hc he h0 h1
 go_enter Tryz.func61,Tryz.ntmps61
 go_wp2_with (first|(go_at_call 101;refine (r09Reg0 d _).mono ?_;rintro e w' ⟨rfl,rfl⟩;rw [H0.out])|(go_at_call 100;refine (r09Number imm _).mono ?_;rintro e w' ⟨rfl,rfl⟩;rw [H1.out]))
 go_ret
 exact ⟨ret_int HE.out.symm,blA⟩
theorem r9Check_5_e (d a b imm:Int) (loc label:Tx) (fence:Int) (hl:loc.length≤9223372036854775807) (he:(⟨5,d,a,b,imm,loc,label,fence⟩:Ins)≠⟨5,0,0,0,0,[],[],0⟩) (w:World):Calls Tryz.prog 61 #[vI ⟨5,d,a,b,imm,loc,label,fence⟩] w (Ret w (.int .i64 (errX ⟨5,d,a,b,imm,loc,label,fence⟩))):=by
 have hc:checkX ⟨5,d,a,b,imm,loc,label,fence⟩=(okX ⟨5,d,a,b,imm,loc,label,fence⟩&&decide ((⟨5,d,a,b,imm,loc,label,fence⟩:Ins)=⟨5,0,0,0,0,[],[],0⟩)):=rfl
 have hNE : ∀ w,(binOp .neq 23 (.agg #[.int .i64 5,.int .i64 0,.int .i64 0,.int .i64 0,.int .i64 0,.string ⟨#[]⟩,.string ⟨#[]⟩,.int .i64 0]) (.agg #[.int .i64 5,.int .i64 d,.int .i64 a,.int .i64 b,.int .i64 imm,.string (tx loc),.string (tx label),.int .i64 fence])).run Tryz.prog w = .ok (.bool true) w:=fun w=>by
  have:=neqI ⟨5,0,0,0,0,[],[],0⟩ ⟨5,d,a,b,imm,loc,label,fence⟩ w
  rw [decide_eq_false (Ne.symm he)] at this
  exact this
 have HE:=hid (errX_no (show checkX ⟨5,d,a,b,imm,loc,label,fence⟩=false by rw [hc,decide_eq_false he];simp))
 clear hc he
 go_enter Tryz.func61,Tryz.ntmps61
 go_wp2_with fail
 go_ret
 exact ⟨ret_int HE.out.symm,blA⟩
theorem r9Check_5_y (d a b imm:Int) (loc label:Tx) (fence:Int) (hl:loc.length≤9223372036854775807) (he:(⟨5,d,a,b,imm,loc,label,fence⟩:Ins)=⟨5,0,0,0,0,[],[],0⟩) (w:World):Calls Tryz.prog 61 #[vI ⟨5,d,a,b,imm,loc,label,fence⟩] w (Ret w (.int .i64 (errX ⟨5,d,a,b,imm,loc,label,fence⟩))):=by
 have hc:checkX ⟨5,d,a,b,imm,loc,label,fence⟩=(okX ⟨5,d,a,b,imm,loc,label,fence⟩&&decide ((⟨5,d,a,b,imm,loc,label,fence⟩:Ins)=⟨5,0,0,0,0,[],[],0⟩)):=rfl
 have hNE : ∀ w,(binOp .neq 23 (.agg #[.int .i64 5,.int .i64 0,.int .i64 0,.int .i64 0,.int .i64 0,.string ⟨#[]⟩,.string ⟨#[]⟩,.int .i64 0]) (.agg #[.int .i64 5,.int .i64 d,.int .i64 a,.int .i64 b,.int .i64 imm,.string (tx loc),.string (tx label),.int .i64 fence])).run Tryz.prog w = .ok (.bool false) w:=fun w=>by
  have:=neqI ⟨5,0,0,0,0,[],[],0⟩ ⟨5,d,a,b,imm,loc,label,fence⟩ w
  rw [decide_eq_true he.symm] at this
  exact this
 have HE:=hid (errX_yes (show checkX ⟨5,d,a,b,imm,loc,label,fence⟩=true by rw [hc,decide_eq_true he];simp [okX]))
 clear hc he
 go_enter Tryz.func61,Tryz.ntmps61
 go_wp2_with fail
 go_ret
 exact ⟨ret_int HE.out.symm,blA⟩
theorem r9Check_no (op d a b imm:Int) (loc label:Tx) (fence:Int) (ho:op<1∨5<op) (w:World):Calls Tryz.prog 61 #[vI ⟨op,d,a,b,imm,loc,label,fence⟩] w (Ret w (.int .i64 (errX ⟨op,d,a,b,imm,loc,label,fence⟩))):=by
 have hc:checkX ⟨op,d,a,b,imm,loc,label,fence⟩=false:=by
  unfold checkX okX;simp only;rw [if_neg (by omega),if_neg (by omega),if_neg (by omega),if_neg (by omega),decide_eq_false (by omega)];rfl
 have HE:=hid (errX_no hc)
 clear hc
 have z1:(op==1)=false:=by simp;omega
 have z2:(op==2)=false:=by simp;omega
 have z3:(op==3)=false:=by simp;omega
 have z4:(op==4)=false:=by simp;omega
 have z5:(op==5)=false:=by simp;omega
 clear ho
 go_enter Tryz.func61,Tryz.ntmps61
 go_wp2_with fail
 go_ret
 exact ⟨ret_int HE.out.symm,blA⟩
theorem r9Check (i:Ins) (hl:i.loc.length≤9223372036854775807) (w:World):Calls Tryz.prog 61 #[vI i] w (Ret w (.int .i64 (errX i))):=by
 obtain ⟨op,d,a,b,imm,loc,label,fence⟩:=i
 by_cases h1:op=1
 ·subst h1
  cases t0:nameB loc
  ·exact r9Check_1_0 d a b imm loc label fence hl t0 w
  cases t1:n32B imm
  ·exact r9Check_1_1 d a b imm loc label fence hl t0 t1 w
  by_cases he:(⟨1,d,a,b,imm,loc,label,fence⟩:Ins)=⟨1,0,0,0,imm,loc,[],0⟩
  ·exact r9Check_1_y d a b imm loc label fence hl t0 t1 he w
  ·exact r9Check_1_e d a b imm loc label fence hl t0 t1 he w
 by_cases h2:op=2
 ·subst h2
  cases t0:nameB loc
  ·exact r9Check_2_0 d a b imm loc label fence hl t0 w
  cases t1:regXB a
  ·exact r9Check_2_1 d a b imm loc label fence hl t0 t1 w
  by_cases he:(⟨2,d,a,b,imm,loc,label,fence⟩:Ins)=⟨2,0,a,0,0,loc,[],0⟩
  ·exact r9Check_2_y d a b imm loc label fence hl t0 t1 he w
  ·exact r9Check_2_e d a b imm loc label fence hl t0 t1 he w
 by_cases h3:op=3
 ·subst h3
  cases t0:regXB d
  ·exact r9Check_3_0 d a b imm loc label fence hl t0 w
  cases t1:nameB loc
  ·exact r9Check_3_1 d a b imm loc label fence hl t0 t1 w
  by_cases he:(⟨3,d,a,b,imm,loc,label,fence⟩:Ins)=⟨3,d,0,0,0,loc,[],0⟩
  ·exact r9Check_3_y d a b imm loc label fence hl t0 t1 he w
  ·exact r9Check_3_e d a b imm loc label fence hl t0 t1 he w
 by_cases h4:op=4
 ·subst h4
  cases t0:regXB d
  ·exact r9Check_4_0 d a b imm loc label fence hl t0 w
  cases t1:n32B imm
  ·exact r9Check_4_1 d a b imm loc label fence hl t0 t1 w
  by_cases he:(⟨4,d,a,b,imm,loc,label,fence⟩:Ins)=⟨4,d,0,0,imm,[],[],0⟩
  ·exact r9Check_4_y d a b imm loc label fence hl t0 t1 he w
  ·exact r9Check_4_e d a b imm loc label fence hl t0 t1 he w
 by_cases h5:op=5
 ·subst h5
  by_cases he:(⟨5,d,a,b,imm,loc,label,fence⟩:Ins)=⟨5,0,0,0,0,[],[],0⟩
  ·exact r9Check_5_y d a b imm loc label fence hl  he w
  ·exact r9Check_5_e d a b imm loc label fence hl  he w
 exact r9Check_no op d a b imm loc label fence (by omega) w
end Go.Proofs.YthaibjefnclkjaaGreatDoor

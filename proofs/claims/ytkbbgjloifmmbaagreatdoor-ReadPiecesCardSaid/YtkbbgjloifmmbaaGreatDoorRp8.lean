/- What ReadPiecesP leans on, part 8. -/
import Derived.Test.YtkbbgjloifmmbaaGreatDoorRp7
import Derived.Lib.QuietBelow
set_option linter.unusedVariables false
set_option maxRecDepth 100000
set_option maxHeartbeats 32000000
namespace Go.Proofs.YtkbbgjloifmmbaaGreatDoor
open Go.RowKit
section
variable (op d a b imm:Int) (loc label:Tx) (fence:Int) (w:World)
theorem xCheck_1(hl:loc.length<=9223372036854775807):Calls Tryz.prog 97 #[vI ⟨1,d,a,b,imm,loc,label,fence⟩] w (Ret w (.int .i64 (errX ⟨1,d,a,b,imm,loc,label,fence⟩))):=by
 have hc:checkX ⟨1,d,a,b,imm,loc,label,fence⟩=(okX ⟨1,d,a,b,imm,loc,label,fence⟩&&decide ((⟨1,0,0,0,imm,loc,[],0⟩:Ins)=⟨1,d,a,b,imm,loc,label,fence⟩)):=by
  rw[show decide ((⟨1,0,0,0,imm,loc,[],0⟩:Ins)=⟨1,d,a,b,imm,loc,label,fence⟩)=decide ((⟨1,d,a,b,imm,loc,label,fence⟩:Ins)=⟨1,0,0,0,imm,loc,[],0⟩)from decide_eq_decide.mpr eq_comm];rfl
 have ok:okX ⟨1,d,a,b,imm,loc,label,fence⟩=(nameB loc&&n32B imm):=by cases k0:nameB loc<;>cases k1:n32B imm<;>simp[okX,k0,k1]
 have he:errX ⟨1,d,a,b,imm,loc,label,fence⟩=if(((nameB loc&&n32B imm))&&decide ((⟨1,0,0,0,imm,loc,[],0⟩:Ins)=⟨1,d,a,b,imm,loc,label,fence⟩))=true then 0 else 91:=by unfold errX;rw[hc,ok]
 clear hc ok;obtain⟨n,hn⟩: ∃n,n= !decide ((⟨1,0,0,0,imm,loc,[],0⟩:Ins)=⟨1,d,a,b,imm,loc,label,fence⟩):=⟨_,rfl⟩;have hNE: ∀w,(binOp .neq 50 (.agg #[.int .i64 1,.int .i64 0,.int .i64 0,.int .i64 0,.int .i64 imm,.string (tx loc),.string ⟨#[]⟩,.int .i64 0]) (.agg #[.int .i64 1,.int .i64 d,.int .i64 a,.int .i64 b,.int .i64 imm,.string (tx loc),.string (tx label),.int .i64 fence])).run Tryz.prog w= .ok (.bool n) w:=fun w=>by rw[hn];exact neqI ⟨1,0,0,0,imm,loc,[],0⟩ ⟨1,d,a,b,imm,loc,label,fence⟩ w
 cases h0:nameB loc<;>cases h1:n32B imm<;>cases hq:decide ((⟨1,0,0,0,imm,loc,[],0⟩:Ins)=⟨1,d,a,b,imm,loc,label,fence⟩)
 all_goals
  rw[hq]at hn;simp only[Bool.not_true,Bool.not_false]at hn;subst hn;rw[hq,h0,h1]at he;have HE:=hid he;replace h0:=hid h0;replace h1:=hid h1;clear he hq;go_enter Tryz.func97,Tryz.ntmps97
  go_wp2_with (first|(go_at_call 177;refine(intelNamed loc hl _).mono ?_;rintro e w' ⟨rfl,rfl⟩;rw[h0.out])|(go_at_call 178;refine(intelNumber imm _).mono ?_;rintro e w' ⟨rfl,rfl⟩;rw[h1.out]))
  go_ret;exact⟨ret_int HE.out.symm,blA⟩
theorem xCheck_2(hl:loc.length<=9223372036854775807):Calls Tryz.prog 97 #[vI ⟨2,d,a,b,imm,loc,label,fence⟩] w (Ret w (.int .i64 (errX ⟨2,d,a,b,imm,loc,label,fence⟩))):=by
 have hc:checkX ⟨2,d,a,b,imm,loc,label,fence⟩=(okX ⟨2,d,a,b,imm,loc,label,fence⟩&&decide ((⟨2,0,a,0,0,loc,[],0⟩:Ins)=⟨2,d,a,b,imm,loc,label,fence⟩)):=by
  rw[show decide ((⟨2,0,a,0,0,loc,[],0⟩:Ins)=⟨2,d,a,b,imm,loc,label,fence⟩)=decide ((⟨2,d,a,b,imm,loc,label,fence⟩:Ins)=⟨2,0,a,0,0,loc,[],0⟩)from decide_eq_decide.mpr eq_comm];rfl
 have ok:okX ⟨2,d,a,b,imm,loc,label,fence⟩=(nameB loc&&regXB a):=by cases k0:nameB loc<;>cases k1:regXB a<;>simp[okX,k0,k1]
 have he:errX ⟨2,d,a,b,imm,loc,label,fence⟩=if(((nameB loc&&regXB a))&&decide ((⟨2,0,a,0,0,loc,[],0⟩:Ins)=⟨2,d,a,b,imm,loc,label,fence⟩))=true then 0 else 91:=by unfold errX;rw[hc,ok]
 clear hc ok;obtain⟨n,hn⟩: ∃n,n= !decide ((⟨2,0,a,0,0,loc,[],0⟩:Ins)=⟨2,d,a,b,imm,loc,label,fence⟩):=⟨_,rfl⟩;have hNE: ∀w,(binOp .neq 50 (.agg #[.int .i64 2,.int .i64 0,.int .i64 a,.int .i64 0,.int .i64 0,.string (tx loc),.string ⟨#[]⟩,.int .i64 0]) (.agg #[.int .i64 2,.int .i64 d,.int .i64 a,.int .i64 b,.int .i64 imm,.string (tx loc),.string (tx label),.int .i64 fence])).run Tryz.prog w= .ok (.bool n) w:=fun w=>by rw[hn];exact neqI ⟨2,0,a,0,0,loc,[],0⟩ ⟨2,d,a,b,imm,loc,label,fence⟩ w
 cases h0:nameB loc<;>cases h1:regXB a<;>cases hq:decide ((⟨2,0,a,0,0,loc,[],0⟩:Ins)=⟨2,d,a,b,imm,loc,label,fence⟩)
 all_goals
  rw[hq]at hn;simp only[Bool.not_true,Bool.not_false]at hn;subst hn;rw[hq,h0,h1]at he;have HE:=hid he;replace h0:=hid h0;replace h1:=hid h1;clear he hq;go_enter Tryz.func97,Tryz.ntmps97
  go_wp2_with (first|(go_at_call 177;refine(intelNamed loc hl _).mono ?_;rintro e w' ⟨rfl,rfl⟩;rw[h0.out])|(go_at_call 179;refine(intelReg0 a _).mono ?_;rintro e w' ⟨rfl,rfl⟩;rw[h1.out]))
  go_ret;exact⟨ret_int HE.out.symm,blA⟩
theorem xCheck_3(hl:loc.length<=9223372036854775807):Calls Tryz.prog 97 #[vI ⟨3,d,a,b,imm,loc,label,fence⟩] w (Ret w (.int .i64 (errX ⟨3,d,a,b,imm,loc,label,fence⟩))):=by
 have hc:checkX ⟨3,d,a,b,imm,loc,label,fence⟩=(okX ⟨3,d,a,b,imm,loc,label,fence⟩&&decide ((⟨3,d,0,0,0,loc,[],0⟩:Ins)=⟨3,d,a,b,imm,loc,label,fence⟩)):=by
  rw[show decide ((⟨3,d,0,0,0,loc,[],0⟩:Ins)=⟨3,d,a,b,imm,loc,label,fence⟩)=decide ((⟨3,d,a,b,imm,loc,label,fence⟩:Ins)=⟨3,d,0,0,0,loc,[],0⟩)from decide_eq_decide.mpr eq_comm];rfl
 have ok:okX ⟨3,d,a,b,imm,loc,label,fence⟩=(nameB loc&&regXB d):=by cases k0:nameB loc<;>cases k1:regXB d<;>simp[okX,k0,k1]
 have he:errX ⟨3,d,a,b,imm,loc,label,fence⟩=if(((nameB loc&&regXB d))&&decide ((⟨3,d,0,0,0,loc,[],0⟩:Ins)=⟨3,d,a,b,imm,loc,label,fence⟩))=true then 0 else 91:=by unfold errX;rw[hc,ok]
 clear hc ok;obtain⟨n,hn⟩: ∃n,n= !decide ((⟨3,d,0,0,0,loc,[],0⟩:Ins)=⟨3,d,a,b,imm,loc,label,fence⟩):=⟨_,rfl⟩;have hNE: ∀w,(binOp .neq 50 (.agg #[.int .i64 3,.int .i64 d,.int .i64 0,.int .i64 0,.int .i64 0,.string (tx loc),.string ⟨#[]⟩,.int .i64 0]) (.agg #[.int .i64 3,.int .i64 d,.int .i64 a,.int .i64 b,.int .i64 imm,.string (tx loc),.string (tx label),.int .i64 fence])).run Tryz.prog w= .ok (.bool n) w:=fun w=>by rw[hn];exact neqI ⟨3,d,0,0,0,loc,[],0⟩ ⟨3,d,a,b,imm,loc,label,fence⟩ w
 cases h0:nameB loc<;>cases h1:regXB d<;>cases hq:decide ((⟨3,d,0,0,0,loc,[],0⟩:Ins)=⟨3,d,a,b,imm,loc,label,fence⟩)
 all_goals
  rw[hq]at hn;simp only[Bool.not_true,Bool.not_false]at hn;subst hn;rw[hq,h0,h1]at he;have HE:=hid he;replace h0:=hid h0;replace h1:=hid h1;clear he hq;go_enter Tryz.func97,Tryz.ntmps97
  go_wp2_with (first|(go_at_call 177;refine(intelNamed loc hl _).mono ?_;rintro e w' ⟨rfl,rfl⟩;rw[h0.out])|(go_at_call 179;refine(intelReg0 d _).mono ?_;rintro e w' ⟨rfl,rfl⟩;rw[h1.out]))
  go_ret;exact⟨ret_int HE.out.symm,blA⟩
theorem xCheck_4(hl:loc.length<=9223372036854775807):Calls Tryz.prog 97 #[vI ⟨4,d,a,b,imm,loc,label,fence⟩] w (Ret w (.int .i64 (errX ⟨4,d,a,b,imm,loc,label,fence⟩))):=by
 have hc:checkX ⟨4,d,a,b,imm,loc,label,fence⟩=(okX ⟨4,d,a,b,imm,loc,label,fence⟩&&decide ((⟨4,d,0,0,imm,[],[],0⟩:Ins)=⟨4,d,a,b,imm,loc,label,fence⟩)):=by
  rw[show decide ((⟨4,d,0,0,imm,[],[],0⟩:Ins)=⟨4,d,a,b,imm,loc,label,fence⟩)=decide ((⟨4,d,a,b,imm,loc,label,fence⟩:Ins)=⟨4,d,0,0,imm,[],[],0⟩)from decide_eq_decide.mpr eq_comm];rfl
 have ok:okX ⟨4,d,a,b,imm,loc,label,fence⟩=(regXB d&&n32B imm):=by cases k0:regXB d<;>cases k1:n32B imm<;>simp[okX,k0,k1]
 have he:errX ⟨4,d,a,b,imm,loc,label,fence⟩=if(((regXB d&&n32B imm))&&decide ((⟨4,d,0,0,imm,[],[],0⟩:Ins)=⟨4,d,a,b,imm,loc,label,fence⟩))=true then 0 else 91:=by unfold errX;rw[hc,ok]
 clear hc ok;obtain⟨n,hn⟩: ∃n,n= !decide ((⟨4,d,0,0,imm,[],[],0⟩:Ins)=⟨4,d,a,b,imm,loc,label,fence⟩):=⟨_,rfl⟩;have hNE: ∀w,(binOp .neq 50 (.agg #[.int .i64 4,.int .i64 d,.int .i64 0,.int .i64 0,.int .i64 imm,.string ⟨#[]⟩,.string ⟨#[]⟩,.int .i64 0]) (.agg #[.int .i64 4,.int .i64 d,.int .i64 a,.int .i64 b,.int .i64 imm,.string (tx loc),.string (tx label),.int .i64 fence])).run Tryz.prog w= .ok (.bool n) w:=fun w=>by rw[hn];exact neqI ⟨4,d,0,0,imm,[],[],0⟩ ⟨4,d,a,b,imm,loc,label,fence⟩ w
 cases h0:regXB d<;>cases h1:n32B imm<;>cases hq:decide ((⟨4,d,0,0,imm,[],[],0⟩:Ins)=⟨4,d,a,b,imm,loc,label,fence⟩)
 all_goals
  rw[hq]at hn;simp only[Bool.not_true,Bool.not_false]at hn;subst hn;rw[hq,h0,h1]at he;have HE:=hid he;replace h0:=hid h0;replace h1:=hid h1;clear he hq;go_enter Tryz.func97,Tryz.ntmps97
  go_wp2_with (first|(go_at_call 179;refine(intelReg0 d _).mono ?_;rintro e w' ⟨rfl,rfl⟩;rw[h0.out])|(go_at_call 178;refine(intelNumber imm _).mono ?_;rintro e w' ⟨rfl,rfl⟩;rw[h1.out]))
  go_ret;exact⟨ret_int HE.out.symm,blA⟩
theorem xCheck_5(hl:loc.length<=9223372036854775807):Calls Tryz.prog 97 #[vI ⟨5,d,a,b,imm,loc,label,fence⟩] w (Ret w (.int .i64 (errX ⟨5,d,a,b,imm,loc,label,fence⟩))):=by
 have hc:checkX ⟨5,d,a,b,imm,loc,label,fence⟩=(okX ⟨5,d,a,b,imm,loc,label,fence⟩&&decide ((⟨5,0,0,0,0,[],[],0⟩:Ins)=⟨5,d,a,b,imm,loc,label,fence⟩)):=by
  rw[show decide ((⟨5,0,0,0,0,[],[],0⟩:Ins)=⟨5,d,a,b,imm,loc,label,fence⟩)=decide ((⟨5,d,a,b,imm,loc,label,fence⟩:Ins)=⟨5,0,0,0,0,[],[],0⟩)from decide_eq_decide.mpr eq_comm];rfl
 have ok:okX ⟨5,d,a,b,imm,loc,label,fence⟩=true:=by simp[okX]
 have he:errX ⟨5,d,a,b,imm,loc,label,fence⟩=if((true)&&decide ((⟨5,0,0,0,0,[],[],0⟩:Ins)=⟨5,d,a,b,imm,loc,label,fence⟩))=true then 0 else 91:=by unfold errX;rw[hc,ok]
 clear hc ok;obtain⟨n,hn⟩: ∃n,n= !decide ((⟨5,0,0,0,0,[],[],0⟩:Ins)=⟨5,d,a,b,imm,loc,label,fence⟩):=⟨_,rfl⟩;have hNE: ∀w,(binOp .neq 50 (.agg #[.int .i64 5,.int .i64 0,.int .i64 0,.int .i64 0,.int .i64 0,.string ⟨#[]⟩,.string ⟨#[]⟩,.int .i64 0]) (.agg #[.int .i64 5,.int .i64 d,.int .i64 a,.int .i64 b,.int .i64 imm,.string (tx loc),.string (tx label),.int .i64 fence])).run Tryz.prog w= .ok (.bool n) w:=fun w=>by rw[hn];exact neqI ⟨5,0,0,0,0,[],[],0⟩ ⟨5,d,a,b,imm,loc,label,fence⟩ w
 cases hq:decide ((⟨5,0,0,0,0,[],[],0⟩:Ins)=⟨5,d,a,b,imm,loc,label,fence⟩)
 all_goals
  rw[hq]at hn;simp only[Bool.not_true,Bool.not_false]at hn;subst hn;rw[hq]at he;have HE:=hid he;clear he hq;go_enter Tryz.func97,Tryz.ntmps97;go_wp2_with fail;go_ret;exact⟨ret_int HE.out.symm,blA⟩
theorem xCheck_no(ho:op<1\/5<op):Calls Tryz.prog 97 #[vI ⟨op,d,a,b,imm,loc,label,fence⟩] w (Ret w (.int .i64 (errX ⟨op,d,a,b,imm,loc,label,fence⟩))):=by
 have hc:checkX ⟨op,d,a,b,imm,loc,label,fence⟩=false:=by
  unfold checkX okX;simp only;rw[if_neg (by omega),if_neg (by omega),if_neg (by omega),if_neg (by omega),decide_eq_false (by omega)];rfl
 have HE:=hid (errX_no hc);clear hc;have z1:(op==1)=false:=by simp;omega
 have z2:(op==2)=false:=by simp;omega
 have z3:(op==3)=false:=by simp;omega
 have z4:(op==4)=false:=by simp;omega
 have z5:(op==5)=false:=by simp;omega
 clear ho;go_enter Tryz.func97,Tryz.ntmps97;go_wp2_with fail;go_ret;exact⟨ret_int HE.out.symm,blA⟩
end
theorem xCheck(i:Ins)(hl:i.loc.length<=9223372036854775807)(w:World):Calls Tryz.prog 97 #[vI i] w (Ret w (.int .i64 (errX i))):=by
 obtain⟨op,d,a,b,imm,loc,label,fence⟩:=i
 by_cases h1:op=1
 ·subst h1;exact xCheck_1 _ _ _ _ _ _ _ _ hl
 by_cases h2:op=2
 ·subst h2;exact xCheck_2 _ _ _ _ _ _ _ _ hl
 by_cases h3:op=3
 ·subst h3;exact xCheck_3 _ _ _ _ _ _ _ _ hl
 by_cases h4:op=4
 ·subst h4;exact xCheck_4 _ _ _ _ _ _ _ _ hl
 by_cases h5:op=5
 ·subst h5;exact xCheck_5 _ _ _ _ _ _ _ _ hl
 exact xCheck_no _ _ _ _ _ _ _ _ _ (by omega)
attribute [local go_sem high] eqI neqI
theorem checkI_spec{i:Ins}(h:checkI i=true):okI i=true/\i=wantI i/\regB i.d=true/\regB i.a=true/\regB i.b=true:=by
 unfold checkI at h;simp only[Bool.and_eq_true,decide_eq_true_eq]at h;exact⟨h.1.1.1.1,h.1.1.1.2,h.1.1.2,h.1.2,h.2⟩
end Go.Proofs.YtkbbgjloifmmbaaGreatDoor
namespace Go.Proofs.YtkbbgjloifmmbaaGreatDoor
open Go.RowKit Go.Sort
theorem retc'{P:Program}{f:FuncId}{args:Array Value}{w:World}{v:Value}(h:Calls P f args w (Ret w v)):Calls P f args w fun e w'=>e= .returned v/\Below w.heap.size w w':=h
end Go.Proofs.YtkbbgjloifmmbaaGreatDoor
namespace Go.Proofs.YtkbbgjloifmmbaaGreatDoor
theorem name_all{s:Tx}(h:nameB s=true): ∀b∈s,nameC b=true:=by
 cases s with
 |nil=>simp
 | cons c r=>
   unfold nameB at h;simp only[Bool.and_eq_true,decide_eq_true_eq]at h;intro b hb;rcases List.mem_cons.1 hb with rfl|hb
   ·unfold nameC;rw[h.1.2];rfl
   ·exact List.all_eq_true.1 h.2 b hb
theorem name_first{s:Tx}(h:nameB s=true): ∃c r,s=c::r/\letterC c=true:=by
 cases s with
 |nil=>cases h
 | cons c r=>
   unfold nameB at h;simp only[Bool.and_eq_true,decide_eq_true_eq]at h;exact⟨c,r,rfl,h.1.2⟩
def wordC(b:UInt8):Bool:=nameC b||b==45
mutual
def bareN:Nd->Nd
 | .mk k t v a c l=>.mk k t v none 0 (bareL l)
def bareL:List Nd->List Nd
 |[]=>[]
 |x::r=>bareN x::bareL r
end
theorem bareN_eq(x:Nd):bareN x= .mk x.kind x.th x.val none 0 (bareL x.kids):=by cases x;rw[bareN];rfl
theorem bareL_nil:bareL []=[]:=by rw[bareL]
theorem bareL_cons{x:Nd}{r:List Nd}:bareL (x::r)=bareN x::bareL r:=by rw[bareL]
theorem bareL_map: ∀l:List Nd,bareL l=l.map bareN
 |[]=>bareL_nil
 |x::r=>by rw[bareL_cons,bareL_map r];rfl
theorem bareL_length(l:List Nd):(bareL l).length=l.length:=by rw[bareL_map];simp
theorem bareL_app(l r:List Nd):bareL (l++r)=bareL l++bareL r:=by simp only[bareL_map,List.map_append]
def tokC(b:UInt8):Bool:=wordC b||(b==58||b==61)
def F0(r:Tx):Prop:= ∀c∈r.head?,tokC c=false
theorem F0.nil:F0 []:=fun c h=>by simp at h
theorem F0.cons{c:UInt8}{r:Tx}(h:tokC c=false):F0 (c::r):=fun d hd=>by
 simp at hd;subst hd;exact h
def F2(r:Tx):Prop:=F0 r/\ ∀t,r≠32::47::t
def F1(r:Tx):Prop:=F0 r/\r.head?≠some 32
theorem F1.two{r:Tx}(h:F1 r):F2 r:=⟨h.1,fun t e=>h.2 (by rw[e];rfl)⟩
theorem F1.nil:F1 []:=⟨F0.nil,by simp⟩
theorem F1.cons{c:UInt8}{r:Tx}(h:tokC c=false)(h2:c≠32):F1 (c::r):=⟨F0.cons h,by simpa using h2⟩
theorem F2.tail{arch:Int}(K:List Nd){q:Tx}(hq:F2 q):F0 (textR arch true sepA K++q):=by
 cases K with
 |nil=>rw[textR_nil];exact hq.1
 |cons z K=>rw[textR_cons];simp only[sepA,List.cons_append];exact F0.cons (by decide)
theorem F1.tail{arch:Int}(K:List Nd){q:Tx}(hq:F1 q):F2 (textR arch false sepO K++q):=by
 cases K with
 |nil=>rw[textR_nil];exact hq.two
 |cons z K=>rw[textR_cons];simp only[sepO,List.cons_append];exact⟨F0.cons (by decide),fun t e=>by simp at e⟩
end Go.Proofs.YtkbbgjloifmmbaaGreatDoor
namespace Go.Proofs.YtkbbgjloifmmbaaGreatDoor
open Go.RowKit
theorem refIsReg:NFn regB 191:=fun c=>regsF c _ (by decide)
theorem refDigit:UF digitC 255:=fun c=>digitsF c _ (by decide)
def numB(n:Int):Bool:=decide (-2147483648<=n)&&decide (n<=2147483647)
theorem refIsNumber(n:Int)(w:World):Calls Tryz.prog 256 #[.int .i64 n] w fun e w'=>e= .returned (.bool (numB n))/\w=w':=numsF n _ (by decide) w
theorem refBlank:UF blankC 108:=fun c=>blanksF c _ (by decide)
theorem refPart(n:Int)(w:World):Calls Tryz.prog 257 #[.int .i64 n] w fun e w'=>e= .returned (.string (tx (fpart n)))/\w=w':=by
 by_cases h0:n=0
 ·subst h0
  go_enter Tryz.func257,Tryz.ntmps257
  go_wp2
  go_ret;exact⟨rfl,rfl⟩
 by_cases h1:n=1
 ·subst h1
  go_enter Tryz.func257,Tryz.ntmps257
  go_wp2
  go_ret;exact⟨rfl,rfl⟩
 have z0:(n==0)=false:=by simpa using h0
 have z1:(n==1)=false:=by simpa using h1
 have hf:fpart n=[114,119]:=by unfold fpart;rw[if_neg h0,if_neg h1]
 rw[hf];clear hf h0 h1;go_enter Tryz.func257,Tryz.ntmps257
 go_wp2
 go_ret;exact⟨rfl,rfl⟩
theorem refIsName:SF nameB 190:=fun l hl=>namesF l hl _ (by decide)
theorem trim_comm: ∀l:Tx,((l.dropWhile blankC).reverse.dropWhile blankC).reverse=trimT l
 |[]=>by decide
 | c::r=>by
   have ih:=trim_comm r;rw[trimT_eq]at ih⊢
   by_cases hb:blankC c=true
   ·rw[List.dropWhile_cons,if_pos hb,ih,List.reverse_cons,List.dropWhile_append]
    cases hx:r.reverse.dropWhile blankC with
    |nil=>simp[hb]
    | cons y ys=>
      rw[if_neg (by simp),List.reverse_append,List.reverse_singleton,List.singleton_append,List.dropWhile_cons,if_pos hb]
   ·rw[List.dropWhile_cons,if_neg hb,List.reverse_cons,List.dropWhile_append]
    cases hx:r.reverse.dropWhile blankC with
    |nil=>simp[hb]
    | cons y ys=>
      rw[if_neg (by simp),List.reverse_append,List.reverse_singleton,List.singleton_append,List.dropWhile_cons,if_neg hb]
def strN:Value->Nat
 | .string b=>b.size
 |_=>0
theorem strN_tx(l:Tx):strN (.string (tx l))=l.length:=tx_size l
theorem rdrop_concat(r:Tx)(c:UInt8)(h:blankC c=true):((r++[c]).reverse.dropWhile blankC).reverse=(r.reverse.dropWhile blankC).reverse:=by simp[h]
theorem rdrop_stop(r:Tx)(c:UInt8)(h:blankC c=false):((r++[c]).reverse.dropWhile blankC).reverse=r++[c]:=by simp[h]
theorem last_cases(l:Tx):l=[]\/(∃r c,l=r++[c]/\blankC c=false)\/(∃r c,l=r++[c]/\blankC c=true):=by
 rcases List.eq_nil_or_concat l with rfl|⟨r,c,rfl⟩
 ·exact .inl rfl
 ·cases hb:blankC c
  ·exact .inr (.inl ⟨r,c,List.concat_eq_append,hb⟩)
  ·exact .inr (.inr ⟨r,c,List.concat_eq_append,hb⟩)
theorem refTrim(s:Tx)(hs:s.length<=9223372036854775807)(w:World):Calls Tryz.prog 106 #[.string (tx s)] w fun e w'=>e= .returned (.string (tx (trimT s)))/\w=w':=by
 have HT:=hid (trim_comm s);generalize trimT s=T at*;go_enter Tryz.func106,Tryz.ntmps106;go_wp2_with fail
 go_loop [0] (fun v=> ∃l:Tx,v= .string (tx l)/\l.length<=9223372036854775807/\Hid (l.dropWhile blankC=s.dropWhile blankC)) strN
 case atStart=>exact⟨s,rfl,hs,rfl⟩
 case round=>
  clear hs;obtain⟨l,rfl,hl,HL⟩:=hrel
  have hc:l=[]\/(∃c r,l=c::r/\blankC c=false)\/(∃c r,l=c::r/\blankC c=true):=by
   cases l with
   |nil=>exact .inl rfl
   |cons c r=>cases hb:blankC c;exact .inr (.inl ⟨c,r,rfl,hb⟩);exact .inr (.inr ⟨c,r,rfl,hb⟩)
  rcases hc with rfl|⟨c,r,rfl,hb⟩|⟨c,r,rfl,hb⟩
  ·have HR:=hid (show T=[] by rw[<-HT.out,<-HL.out];rfl)
   have hz:(tx []).size=0:=rfl;go_wp2_with fail
   go_loop [0] (fun v=> ∃l:Tx,v= .string (tx l)/\l.length<=9223372036854775807/\Hid ((l.reverse.dropWhile blankC).reverse=T)) strN
   case atStart=>exact⟨[],rfl,hl,by rw[HR.out];rfl⟩
   case round=>
    clear hl HR HL;obtain⟨l,rfl,hl,HL⟩:=hrel;rcases last_cases l with rfl|⟨r,c,rfl,hb⟩|⟨r,c,rfl,hb⟩
    ·have HR:=hid (show T=[] by rw[<-HL.out];rfl)
     have hz:(tx []).size=0:=rfl;go_wp2_with fail;go_ret;exact⟨ret_str (by rw[HR.out]),rfl⟩
    ·have HR:=hid (show r++[c]=T by rw[<-HL.out,rdrop_stop r c hb])
     have HB:=hid hb;obtain⟨k,hk⟩: ∃k,r.length=k:=⟨_,rfl⟩;have hsz:(tx (r++[c])).size=k+1:=by rw[tx_size];simp[hk]
     have hk2:k+1<=9223372036854775807:=by rw[<-hsz,tx_size];exact hl
     have ix:=run_ix (r++[c]) k c (by simp[<-hk]);clear hb hk hl;generalize r++[c]=l at*
     go_wp2_with (go_at_call 108;refine(refBlank c _).mono ?_;rintro e w' ⟨rfl,rfl⟩;rw[HB.out])
     go_ret;exact⟨ret_str (by rw[HR.out]),rfl⟩
    ·have HR:=hid (show(r.reverse.dropWhile blankC).reverse=T by rw[<-HL.out,rdrop_concat r c hb])
     have HB:=hid hb;obtain⟨k,hk⟩: ∃k,r.length=k:=⟨_,rfl⟩;have hsz:(tx (r++[c])).size=k+1:=by rw[tx_size];simp[hk]
     have hk2:k+1<=9223372036854775807:=by rw[<-hsz,tx_size];exact hl
     have ix:=run_ix (r++[c]) k c (by simp[<-hk])
     have sl: ∀w,(Instr.sliceAt 9 (.string (tx (r++[c]))) none (some (.int .i64 k)) none).run Tryz.prog w= .ok (.string (tx r)) w:=fun w=>by
      have:=run_strto (r++[c]) k (by simp;omega) w
      rwa[show(r++[c]).take k=r by rw[<-hk];simp]at this
     have HM:=hid (show strN (.string (tx r))<strN (.string (tx (r++[c]))) by rw[strN_tx,strN_tx];simp);have HQ:=hid (show r.length<=9223372036854775807 by simp at hl;omega);clear hb hk hl;generalize r++[c]=l at*
     go_wp2_with (go_at_call 108;refine(refBlank c _).mono ?_;rintro e w' ⟨rfl,rfl⟩;rw[HB.out])
     go_round
     case rel=>exact⟨r,rfl,HQ.out,HR.out⟩
     case measure=>exact HM.out
  ·have HR:=hid (show((c::r).reverse.dropWhile blankC).reverse=T by rw[<-HT.out,<-HL.out,List.dropWhile_cons,if_neg (by rw[hb];simp)])
   have HB:=hid hb;clear hb;have i0:=run_ixz (c::r) c rfl;obtain⟨n,hn⟩: ∃n,(tx (c::r)).size=n:=⟨_,rfl⟩;have hn1:0<n:=by rw[<-hn,tx_size];simp
   go_wp2_with (go_at_call 108;refine(refBlank c _).mono ?_;rintro e w' ⟨rfl,rfl⟩;rw[HB.out])
   go_loop [0] (fun v=> ∃l:Tx,v= .string (tx l)/\l.length<=9223372036854775807/\Hid ((l.reverse.dropWhile blankC).reverse=T)) strN
   case atStart=>exact⟨_,rfl,hl,HR.out⟩
   case round=>
    clear hl HR HL;obtain⟨l,rfl,hl,HL⟩:=hrel;rcases last_cases l with rfl|⟨r,c,rfl,hb⟩|⟨r,c,rfl,hb⟩
    ·have HR:=hid (show T=[] by rw[<-HL.out];rfl)
     have hz:(tx []).size=0:=rfl;go_wp2_with fail;go_ret;exact⟨ret_str (by rw[HR.out]),rfl⟩
    ·have HR:=hid (show r++[c]=T by rw[<-HL.out,rdrop_stop r c hb])
     have HB:=hid hb;obtain⟨k,hk⟩: ∃k,r.length=k:=⟨_,rfl⟩;have hsz:(tx (r++[c])).size=k+1:=by rw[tx_size];simp[hk]
     have hk2:k+1<=9223372036854775807:=by rw[<-hsz,tx_size];exact hl
     have ix:=run_ix (r++[c]) k c (by simp[<-hk]);clear hb hk hl;generalize r++[c]=l at*
     go_wp2_with (go_at_call 108;refine(refBlank c _).mono ?_;rintro e w' ⟨rfl,rfl⟩;rw[HB.out])
     go_ret;exact⟨ret_str (by rw[HR.out]),rfl⟩
    ·have HR:=hid (show(r.reverse.dropWhile blankC).reverse=T by rw[<-HL.out,rdrop_concat r c hb])
     have HB:=hid hb;obtain⟨k,hk⟩: ∃k,r.length=k:=⟨_,rfl⟩;have hsz:(tx (r++[c])).size=k+1:=by rw[tx_size];simp[hk]
     have hk2:k+1<=9223372036854775807:=by rw[<-hsz,tx_size];exact hl
     have ix:=run_ix (r++[c]) k c (by simp[<-hk])
     have sl: ∀w,(Instr.sliceAt 9 (.string (tx (r++[c]))) none (some (.int .i64 k)) none).run Tryz.prog w= .ok (.string (tx r)) w:=fun w=>by
      have:=run_strto (r++[c]) k (by simp;omega) w
      rwa[show(r++[c]).take k=r by rw[<-hk];simp]at this
     have HM:=hid (show strN (.string (tx r))<strN (.string (tx (r++[c]))) by rw[strN_tx,strN_tx];simp);have HQ:=hid (show r.length<=9223372036854775807 by simp at hl;omega);clear hb hk hl;generalize r++[c]=l at*
     go_wp2_with (go_at_call 108;refine(refBlank c _).mono ?_;rintro e w' ⟨rfl,rfl⟩;rw[HB.out])
     go_round
     case rel=>exact⟨r,rfl,HQ.out,HR.out⟩
     case measure=>exact HM.out
  ·have HR:=hid (show r.dropWhile blankC=s.dropWhile blankC by rw[<-HL.out,List.dropWhile_cons,if_pos hb])
   have HB:=hid hb;clear hb;have i0:=run_ixz (c::r) c rfl;have sl: ∀w,(Instr.sliceAt 9 (.string (tx (c::r))) (some (.int .i64 1)) none none).run Tryz.prog w= .ok (.string (tx r)) w:=run_strfrom (c::r) 1 (by simp);obtain⟨n,hn⟩: ∃n,(tx (c::r)).size=n:=⟨_,rfl⟩;have hn1:0<n:=by rw[<-hn,tx_size];simp
   go_wp2_with (go_at_call 108;refine(refBlank c _).mono ?_;rintro e w' ⟨rfl,rfl⟩;rw[HB.out])
   go_round
   case rel=>exact⟨r,rfl,by simp at hl;omega,HR.out⟩
   case measure=>rw[strN_tx,strN_tx];simp
def OwnSp(w:World)(B:Nat)(a:Option Addr)(n c:Nat)(l:List Tx):Prop:=Own w B 9 1 a n c (l.map fun x=>Value.string (tx x))
theorem OwnSp.txs{w:World}{B n c:Nat}{a:Option Addr}{l:List Tx}(h:OwnSp w B a n c l)(hl:l.length<=1000000000000000000):Txs w a l:=⟨Own.row h,hl⟩
def SplitAt(b:UInt8)(s:Tx)(A:List Tx)(k f:Nat)(P:List Tx):Prop:=
 (k<=s.length->f<=k/\P++(splitC b (s.drop f)).map trimT=A/\b∉(s.take k).drop f)/\(k=s.length+1->P=A)
theorem SplitAt.zero(b:UInt8)(s:Tx):SplitAt b s ((splitC b s).map trimT) 0 0 []:=⟨fun _=>⟨Nat.le_refl _,by simp,by simp⟩,fun h=>by omega⟩
theorem SplitAt.step{b x:UInt8}{s:Tx}{A P:List Tx}{k f:Nat}(h:SplitAt b s A k f P)(hx:s[k]? =some x)(hne:x≠b):SplitAt b s A (k+1) f P:=by
 obtain⟨hk, -⟩:=List.getElem?_eq_some_iff.1 hx;obtain⟨h1,h2,h3⟩:=h.1 (by omega);refine⟨fun _=>⟨by omega,h2,?_⟩,fun e=>by omega⟩;rw[List.take_add_one,hx,List.drop_append_of_le_length (by simp;omega)];simp only[Option.toList_some,List.mem_append,List.mem_singleton,not_or];exact⟨h3,fun e=>hne e.symm⟩
theorem drop_split{s:Tx}{k f:Nat}(h1:f<=k)(h2:k<=s.length):s.drop f=(s.take k).drop f++s.drop k:=by
 conv=>lhs;rw[<-List.take_append_drop k s]
 rw[List.drop_append_of_le_length (by simp;omega)]
theorem SplitAt.cut{b:UInt8}{s:Tx}{A P:List Tx}{k f:Nat}(h:SplitAt b s A k f P)(hx:s[k]? =some b):SplitAt b s A (k+1) (k+1) (P++[trimT ((s.take k).drop f)]):=by
 obtain⟨hk,he⟩:=List.getElem?_eq_some_iff.1 hx;obtain⟨h1,h2,h3⟩:=h.1 (by omega);refine⟨fun _=>⟨Nat.le_refl _,?_,by rw[List.drop_eq_nil_of_le (by simp;omega)];simp⟩,fun e=>by omega⟩;rw[drop_split h1 (by omega),List.drop_eq_getElem_cons hk,he,splitC_app b _ _ h3]at h2;rw[<-h2];simp
theorem SplitAt.fin{b:UInt8}{s:Tx}{A P:List Tx}{k f:Nat}(h:SplitAt b s A k f P)(hk:k=s.length):SplitAt b s A (k+1) (k+1) (P++[trimT ((s.take k).drop f)]):=by
 subst hk;obtain⟨h1,h2,h3⟩:=h.1 (Nat.le_refl _);refine⟨fun e=>by omega,fun _=>?_⟩;rw[List.take_length]at h3⊢;rw[splitC_none b _ h3]at h2;rw[<-h2];simp
theorem SplitAt.le{b:UInt8}{s:Tx}{A P:List Tx}{k f:Nat}(h:SplitAt b s A k f P)(hk:k<=s.length):f<=k:=(h.1 hk).1
theorem SplitAt.all{b:UInt8}{s:Tx}{A P:List Tx}{k f:Nat}(h:SplitAt b s A k f P)(hk:k=s.length+1):P=A:=h.2 hk
def SplitP(w:World)(A:List Tx)(e:Ending)(w':World):Prop:= ∃a c,e= .returned (.slice a A.length c)/\Txs w' a A/\Below w.heap.size w w'
theorem refSplit(s:Tx)(b:UInt8)(hs:s.length<=1000000)(w:World):Calls Tryz.prog 110 #[.string (tx s),.int .u8 b.toNat] w (SplitP w ((splitC b s).map trimT)):=by
 have H0:=hid (SplitAt.zero b s);have HL:=hid (show((splitC b s).map trimT).length<=1000001 by have:=splitC_length_le b s;simp;omega);generalize (splitC b s).map trimT=A at*;obtain⟨n,hn⟩: ∃n,s.length=n:=⟨_,rfl⟩;have hsz:(tx s).size=n:=by rw[tx_size,hn]
 have HN:=hid hn;rw[hn]at hs;clear hn;go_enter Tryz.func110,Tryz.ntmps110;go_wp2_with fail
 go_loopw [5,6,7] (fun v f i wr=> ∃(k f':Nat) (P:List Tx) (a:Option Addr) (c:Nat),k<=n+1/\i= .int .i64 k/\f= .int .i64 f'/\v= .slice a P.length c/\P.length<=k/\OwnSp wr w.heap.size a P.length c P/\Below w.heap.size w wr/\Hid (SplitAt b s A k f' P)) (fun _ _ i _=>n+1-(intOf i).toNat)
 case atStart=>exact⟨0,0,[],none,0,by omega,rfl,rfl,rfl,by simp,Own.nil _ _ _ _,Below.refl _ _,H0⟩
 case round=>
  clear H0;obtain⟨k,f,P,a,c,hk,rfl,rfl,rfl,hP,o1,E,HS⟩:=hrel
  have hc:(k<n/\ ∃x,s[k]? =some x/\x≠b)\/((k<=n/\f<=k)/\(((k:Int)==(n:Int))=true\/(((k:Int)==(n:Int))=false/\s[k]? =some b))/\SplitAt b s A (k+1) (k+1) (P++[trimT ((s.take k).drop f)]))\/k=n+1:=by
   have hn:=HN.out;rcases Nat.lt_trichotomy k n with h|h|h
   ·obtain⟨x,hx⟩: ∃x,s[k]? =some x:=⟨_,List.getElem?_eq_getElem (by omega)⟩
    by_cases e:x=b
    ·subst e;exact .inr (.inl ⟨⟨by omega,HS.out.le (by omega)⟩,.inr ⟨by simp;omega,hx⟩,HS.out.cut hx⟩)
    ·exact .inl ⟨h,x,hx,e⟩
   ·exact .inr (.inl ⟨⟨by omega,HS.out.le (by omega)⟩,.inl (by simp;omega),HS.out.fin (by omega)⟩)
   ·exact .inr (.inr (by omega))
  rcases hc with⟨hlt,x,hx,hne⟩|⟨⟨hkn,hfk⟩,ht,hS⟩|rfl
  ·have ix:=run_ix s k x hx
   have z1:((k:Int)==(n:Int))=false:=by simp;omega
   have z2:((x.toNat:Int)==(b.toNat:Int))=false:=by simp only[beq_eq_false_iff_ne,ne_eq];intro e;exact hne (UInt8.toNat_inj.1 (by omega))
   have HR:=hid (HS.out.step hx hne);clear hx hne HS;go_wp2_with fail
   go_roundw
   case rel=>exact⟨k+1,f,P,a,c,by omega,by go_num,rfl,rfl,by omega,o1,E,HR.out⟩
   case measure=>simp[intOf];omega
  ·have HR:=hid hS
   have sl:=run_strsl s f k hfk (by rw[HN.out];exact hkn);have hq:((s.take k).drop f).length<=9223372036854775807:=by simp;omega
   have TR:=hid (fun w=>refTrim ((s.take k).drop f) hq w);clear hS HS hq;generalize (s.take k).drop f=q at*;rcases ht with z1|⟨z1,hx⟩
   ·go_wp2_with fail
    refine(TR.out _).mono ?_;rintro e w' ⟨rfl,rfl⟩
    go_wp2_with (at_builtin;go_loud(refine wpList_app1 txl (.tmp 25) (.tmp 31) rfl rfl rfl o1 rfl rfl (by intro u hu;simp at hu;subst hu;rfl) E E.size (by omega) (by unfold maxLen;omega) ?_))
    intro a3 c3 w3 o3 g3 B3;have o4:OwnSp w3 w.heap.size a3 (P.length+1) c3 (P++[trimT q]):=by simpa[OwnSp]using o3
    clear o1 o3 g3 E;go_wp2_with fail
    go_roundw
    case rel=>exact⟨k+1,k+1,P++[trimT q],a3,c3,by omega,by go_num,by go_num,by simp,by simp;omega,by simpa using o4,B3,HR.out⟩
    case measure=>simp[intOf];omega
   ·have ix:=run_ix s k b hx
    have hlt:k<n:=by simp at z1;omega
    clear hx;go_wp2_with fail;refine(TR.out _).mono ?_;rintro e w' ⟨rfl,rfl⟩
    go_wp2_with (at_builtin;go_loud(refine wpList_app1 txl (.tmp 25) (.tmp 31) rfl rfl rfl o1 rfl rfl (by intro u hu;simp at hu;subst hu;rfl) E E.size (by omega) (by unfold maxLen;omega) ?_))
    intro a3 c3 w3 o3 g3 B3;have o4:OwnSp w3 w.heap.size a3 (P.length+1) c3 (P++[trimT q]):=by simpa[OwnSp]using o3
    clear o1 o3 g3 E;go_wp2_with fail
    go_roundw
    case rel=>exact⟨k+1,k+1,P++[trimT q],a3,c3,by omega,by go_num,by go_num,by simp,by simp;omega,by simpa using o4,B3,HR.out⟩
    case measure=>simp[intOf];omega
  ·obtain rfl:P=A:=HS.out.all (by rw[HN.out])
   go_wp2_with fail;go_ret;exact⟨_,_,rfl,o1.txs (by have:=HL.out;omega),E⟩
def numV(s:Tx):Option Int:=
 if s=[]\/11<s.length then none
 else if s.head?=some 45 then(if s.drop 1=[]\/(s.drop 1).head?=some 48\/(s.drop 1).all digitC=false then none else some (-(valT 0 (s.drop 1):Int)))
 else if(s.head?=some 48/\1<s.length)\/s.all digitC=false then none else some (valT 0 s:Int)
def NumR(s:Tx)(v:Int)(ok:Bool):Prop:=(numV s=none/\v=0/\ok=false)\/(numV s=some v/\ok=numB v)
def NumP(s:Tx)(w:World)(e:Ending)(w':World):Prop:=(∃v ok,e= .returned (.tuple #[.int .i64 v,.bool ok])/\NumR s v ok)/\w=w'
theorem NumP.no{s:Tx}(w:World)(h:numV s=none):NumP s w (.returned (.tuple #[.int .i64 0,.bool false])) w:=⟨⟨0,false,rfl,.inl ⟨h,rfl,rfl⟩⟩,rfl⟩
theorem NumP.yes{s:Tx}(w:World){v:Int}(h:numV s=some v):NumP s w (.returned (.tuple #[.int .i64 v,.bool (numB v)])) w:=⟨⟨v,_,rfl,.inr ⟨h,rfl⟩⟩,rfl⟩
theorem valT_concat(x:UInt8): ∀(l:Tx) (a:Nat),valT a (l++[x])=10*valT a l+(x.toNat-48)
 |[],a=>rfl
 |c::r,a=>valT_concat x r _
def NumAt(s:Tx)(i k V:Nat):Prop:=i<=k/\V=valT 0 ((s.take k).drop i)/\((s.take k).drop i).all digitC=true/\V<10 ^ (k-i)
theorem digitC_nat{x:UInt8}(h:digitC x=true):48<=x.toNat/\x.toNat<=57:=by
 unfold digitC at h;simp only[Bool.and_eq_true,decide_eq_true_eq,UInt8.le_iff_toNat_le]at h;exact h
theorem NumAt.zero(s:Tx)(i:Nat):NumAt s i i 0:=by
 have e:(s.take i).drop i=[]:=List.drop_eq_nil_of_le (by simp;omega);exact⟨Nat.le_refl _,by rw[e];rfl,by rw[e];rfl,by simp⟩
theorem NumAt.step{s:Tx}{i k V:Nat}{x:UInt8}(h:NumAt s i k V)(hx:s[k]? =some x)(hd:digitC x=true):NumAt s i (k+1) (10*V+(x.toNat-48)):=by
 obtain⟨h1,h2,h3,h4⟩:=h;obtain⟨hk, -⟩:=List.getElem?_eq_some_iff.1 hx
 have e:(s.take (k+1)).drop i=(s.take k).drop i++[x]:=by
  rw[List.take_add_one,hx,List.drop_append_of_le_length (by simp;omega)];rfl
 have hb:=(digitC_nat hd).2;refine⟨by omega,by rw[e,valT_concat,<-h2],by rw[e,List.all_append,h3];simp[hd],?_⟩;rw[show k+1-i=(k-i)+1 by omega,Nat.pow_succ];omega
theorem NumAt.small{s:Tx}{i k V:Nat}(h:NumAt s i k V)(hk:k<=11):V<=100000000000:=by
 have h1:10 ^ (k-i)<=10 ^ 11:=Nat.pow_le_pow_right (by omega) (by omega);have h2:=h.2.2.2;have h3:(10:Nat) ^ 11=100000000000:=by decide
 omega
theorem NumAt.bad{s:Tx}{i k V:Nat}{x:UInt8}(h:NumAt s i k V)(hx:s[k]? =some x)(hd:digitC x=false):(s.drop i).all digitC=false:=by
 rw[List.all_eq_false];refine⟨x,List.mem_of_getElem? (i:=k-i) ?_,by rw[hd];simp⟩;rw[List.getElem?_drop,show i+(k-i)=k by have:=h.1;omega];exact hx
theorem NumAt.done{s:Tx}{i k V:Nat}(h:NumAt s i k V)(hk:k=s.length):V=valT 0 (s.drop i)/\(s.drop i).all digitC=true:=by
 subst hk;have:=h.2;rw[List.take_length]at this;exact⟨this.1,this.2.1⟩
theorem refNumber(s:Tx)(w:World):Calls Tryz.prog 194 #[.string (tx s)] w (NumP s w):=by
 obtain⟨n,hn⟩: ∃n,s.length=n:=⟨_,rfl⟩;have hsz:(tx s).size=n:=by rw[tx_size,hn]
 have HN:=hid hn
 by_cases h0:n=0
 ·have HR:=hid (show numV s=none by unfold numV;rw[if_pos (.inl (List.eq_nil_of_length_eq_zero (by omega)))])
  have z0:((n:Int)==0)=true:=by simp;omega
  clear hn h0;go_enter Tryz.func194,Tryz.ntmps194;go_wp2_with fail
  go_ret2
  exact NumP.no _ HR.out
 have z0:((n:Int)==0)=false:=by simp;omega
 have hn1:1<=n:=by omega
 by_cases h11:11<n
 ·have HR:=hid (show numV s=none by unfold numV;rw[if_pos (.inr (by omega))])
  clear hn h0;go_enter Tryz.func194,Tryz.ntmps194;go_wp2_with fail
  go_ret2
  exact NumP.no _ HR.out
 obtain⟨c,hc⟩: ∃c,s[0]? =some c:=⟨_,List.getElem?_eq_getElem (by omega)⟩;have hh:s.head?=some c:=by rw[<-hc];cases s<;>rfl
 have HU: ¬(s=[]\/11<s.length):=by
  rintro(rfl|h)
  ·exact h0 hn.symm
  ·omega
 have i0:=run_ixz s c hc
 by_cases h45:c=45
 ·subst h45
  have z45:(((45:UInt8).toNat:Int)==45)=true:=by decide
  have HV:=hid (show numV s=(if s.drop 1=[]\/(s.drop 1).head?=some 48\/(s.drop 1).all digitC=false then none else some (-(valT 0 (s.drop 1):Int))) by unfold numV;rw[if_neg HU,if_pos hh]);clear HU hh hc
  by_cases h1:n=1
  ·have HR:=hid (show numV s=none by rw[HV.out,if_pos (.inl (List.drop_eq_nil_of_le (by omega)))])
   have z1:((1:Int)==(n:Int))=true:=by simp;omega
   clear hn h0 h1 HV;go_enter Tryz.func194,Tryz.ntmps194;go_wp2_with fail
   go_ret2
   exact NumP.no _ HR.out
  have z1:((1:Int)==(n:Int))=false:=by simp;omega
  obtain⟨d,hd⟩: ∃d,s[1]? =some d:=⟨_,List.getElem?_eq_getElem (by omega)⟩;have hdh:(s.drop 1).head?=some d:=by rw[List.head?_drop];exact hd
  have i1: ∀w,(Instr.index 9 (.string (tx s)) (.int .i64 1)).run Tryz.prog w= .ok (.int .u8 d.toNat) w:=run_ix s 1 d hd
  by_cases h48:d=48
  ·have z48:((d.toNat:Int)==48)=true:=by rw[h48];decide
   have HR:=hid (show numV s=none by rw[HV.out,if_pos (.inr (.inl (by rw[hdh,h48])))]);clear hn h0 HV hdh h48 hd
   by_cases h2:2<n
   ·go_enter Tryz.func194,Tryz.ntmps194
    go_wp2_with fail
    go_ret2
    exact NumP.no _ HR.out
   ·go_enter Tryz.func194,Tryz.ntmps194
    go_wp2_with fail
    go_ret2
    exact NumP.no _ HR.out
  have z48:((d.toNat:Int)==48)=false:=by
   simp only[beq_eq_false_iff_ne,ne_eq];intro e;exact h48 (UInt8.toNat_inj.1 (by have:(48:UInt8).toNat=48:=rfl;omega))
  have HB:=hid (fun(h:(s.drop 1).all digitC=false)=>show numV s=none by rw[HV.out,if_pos (.inr (.inr h))])
  have HG:=hid (fun(h:(s.drop 1).all digitC=true)=>show numV s=some (-(valT 0 (s.drop 1):Int)) by
   rw[HV.out,if_neg];rintro(h'|h'|h')
   ·rw[h']at hdh;cases hdh
   ·rw[hdh]at h';exact h48 (Option.some.inj h')
   ·rw[h]at h';cases h')
  clear hn h0 HV hdh h48 hd;go_enter Tryz.func194,Tryz.ntmps194;go_wp2_with fail
  go_loop [5,6] (fun v kk=> ∃k V:Nat,k<=n/\kk= .int .i64 k/\v= .int .i64 V/\Hid (NumAt s 1 k V)) (fun _ kk=>n-(intOf kk).toNat)
  case atStart=>exact⟨1,0,by omega,rfl,rfl,NumAt.zero s 1⟩
  case round=>
   obtain⟨k,V,hk,rfl,rfl,HA⟩:=hrel;have hV:=HA.out.small (by omega)
   by_cases hlt:k<n
   ·obtain⟨x,hx⟩: ∃x,s[k]? =some x:=⟨_,List.getElem?_eq_getElem (by have:=HN.out;omega)⟩
    have ix:=run_ix s k x hx;cases hd:digitC x
    ·have HR:=hid (HB.out (HA.out.bad hx hd))
     have HD:=hid hd;clear hx hd HA
     go_wp2_with (go_at_call 255;refine(refDigit x _).mono ?_;rintro e w' ⟨rfl,rfl⟩;rw[HD.out])
     go_ret2
     exact NumP.no _ HR.out
    ·have HR:=hid (HA.out.step hx hd)
     have HD:=hid hd;obtain⟨x1,x2⟩:=digitC_nat hd;clear hx hd HA
     go_wp2_with (go_at_call 255;refine(refDigit x _).mono ?_;rintro e w' ⟨rfl,rfl⟩;rw[HD.out])
     go_round
     case rel=>exact⟨k+1,_,by omega,by go_num,by congr 1;omega,HR.out⟩
     case measure=>simp[intOf];omega
   ·obtain⟨hv,ha⟩:=HA.out.done (by have:=HN.out;omega)
    have HR:=hid (HG.out ha);rw[<-hv]at HR;clear hv ha HA
    go_wp2_with (go_at_call 256;refine(refIsNumber _ _).mono ?_;rintro e w' ⟨rfl,rfl⟩)
    go_ret2
    exact NumP.yes _ HR.out
 have z45:((c.toNat:Int)==45)=false:=by
  simp only[beq_eq_false_iff_ne,ne_eq];intro e;exact h45 (UInt8.toNat_inj.1 (by have:(45:UInt8).toNat=45:=rfl;omega))
 have HV:=hid (show numV s=(if(s.head?=some 48/\1<s.length)\/s.all digitC=false then none else some (valT 0 s:Int)) by unfold numV;rw[if_neg HU,if_neg (by rw[hh];intro e;exact h45 (Option.some.inj e))]);have z1:((0:Int)==(n:Int))=false:=by simp;omega
 have HB:=hid (fun(h:(s.drop 0).all digitC=false)=>show numV s=none by rw[HV.out,if_pos (.inr h)])
 by_cases h48:c=48
 ·have z48:((c.toNat:Int)==48)=true:=by rw[h48];decide
  by_cases h1:1<n
  ·have HR:=hid (show numV s=none by rw[HV.out,if_pos (.inl ⟨by rw[hh,h48],by omega⟩)])
   clear hn h0 HV hh h48 hc HU h45;go_enter Tryz.func194,Tryz.ntmps194;go_wp2_with fail
   go_ret2
   exact NumP.no _ HR.out
  have HG:=hid (fun(h:(s.drop 0).all digitC=true)=>show numV s=some (valT 0 (s.drop 0):Int) by
   rw[HV.out,if_neg]
   ·rfl
   rintro(⟨-, h'⟩|h')
   ·omega
   ·rw[show s.all digitC=true from h]at h';cases h')
  clear hn h0 HV hh h48 hc HU h45;go_enter Tryz.func194,Tryz.ntmps194;go_wp2_with fail
  go_loop [5,6] (fun v kk=> ∃k V:Nat,k<=n/\kk= .int .i64 k/\v= .int .i64 V/\Hid (NumAt s 0 k V)) (fun _ kk=>n-(intOf kk).toNat)
  case atStart=>exact⟨0,0,by omega,rfl,rfl,NumAt.zero s 0⟩
  case round=>
   obtain⟨k,V,hk,rfl,rfl,HA⟩:=hrel;have hV:=HA.out.small (by omega)
   by_cases hlt:k<n
   ·obtain⟨x,hx⟩: ∃x,s[k]? =some x:=⟨_,List.getElem?_eq_getElem (by have:=HN.out;omega)⟩
    have ix:=run_ix s k x hx;cases hd:digitC x
    ·have HR:=hid (HB.out (HA.out.bad hx hd))
     have HD:=hid hd;clear hx hd HA
     go_wp2_with (go_at_call 255;refine(refDigit x _).mono ?_;rintro e w' ⟨rfl,rfl⟩;rw[HD.out])
     go_ret2
     exact NumP.no _ HR.out
    ·have HR:=hid (HA.out.step hx hd)
     have HD:=hid hd;obtain⟨x1,x2⟩:=digitC_nat hd;clear hx hd HA
     go_wp2_with (go_at_call 255;refine(refDigit x _).mono ?_;rintro e w' ⟨rfl,rfl⟩;rw[HD.out])
     go_round
     case rel=>exact⟨k+1,_,by omega,by go_num,by congr 1;omega,HR.out⟩
     case measure=>simp[intOf];omega
   ·obtain⟨hv,ha⟩:=HA.out.done (by have:=HN.out;omega)
    have HR:=hid (HG.out ha);rw[<-hv]at HR;clear hv ha HA
    go_wp2_with (go_at_call 256;refine(refIsNumber _ _).mono ?_;rintro e w' ⟨rfl,rfl⟩)
    go_ret2
    exact NumP.yes _ HR.out
 have z48:((c.toNat:Int)==48)=false:=by
  simp only[beq_eq_false_iff_ne,ne_eq];intro e;exact h48 (UInt8.toNat_inj.1 (by have:(48:UInt8).toNat=48:=rfl;omega))
 have HG:=hid (fun(h:(s.drop 0).all digitC=true)=>show numV s=some (valT 0 (s.drop 0):Int) by
  rw[HV.out,if_neg]
  ·rfl
  rintro(⟨h', -⟩|h')
  ·rw[hh]at h';exact h48 (Option.some.inj h')
  ·rw[show s.all digitC=true from h]at h';cases h')
 clear hn h0 HV hh h48 hc HU h45;go_enter Tryz.func194,Tryz.ntmps194;go_wp2_with fail
 go_loop [5,6] (fun v kk=> ∃k V:Nat,k<=n/\kk= .int .i64 k/\v= .int .i64 V/\Hid (NumAt s 0 k V)) (fun _ kk=>n-(intOf kk).toNat)
 case atStart=>exact⟨0,0,by omega,rfl,rfl,NumAt.zero s 0⟩
 case round=>
  obtain⟨k,V,hk,rfl,rfl,HA⟩:=hrel;have hV:=HA.out.small (by omega)
  by_cases hlt:k<n
  ·obtain⟨x,hx⟩: ∃x,s[k]? =some x:=⟨_,List.getElem?_eq_getElem (by have:=HN.out;omega)⟩
   have ix:=run_ix s k x hx;cases hd:digitC x
   ·have HR:=hid (HB.out (HA.out.bad hx hd))
    have HD:=hid hd;clear hx hd HA
    go_wp2_with (go_at_call 255;refine(refDigit x _).mono ?_;rintro e w' ⟨rfl,rfl⟩;rw[HD.out])
    go_ret2
    exact NumP.no _ HR.out
   ·have HR:=hid (HA.out.step hx hd)
    have HD:=hid hd;obtain⟨x1,x2⟩:=digitC_nat hd;clear hx hd HA
    go_wp2_with (go_at_call 255;refine(refDigit x _).mono ?_;rintro e w' ⟨rfl,rfl⟩;rw[HD.out])
    go_round
    case rel=>exact⟨k+1,_,by omega,by go_num,by congr 1;omega,HR.out⟩
    case measure=>simp[intOf];omega
  ·obtain⟨hv,ha⟩:=HA.out.done (by have:=HN.out;omega)
   have HR:=hid (HG.out ha);rw[<-hv]at HR;clear hv ha HA
   go_wp2_with (go_at_call 256;refine(refIsNumber _ _).mono ?_;rintro e w' ⟨rfl,rfl⟩)
   go_ret2
   exact NumP.yes _ HR.out
end Go.Proofs.YtkbbgjloifmmbaaGreatDoor

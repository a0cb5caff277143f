/- What ReadBackP leans on, part 13. -/
import Derived.Test.YtkbbgjloifmmbaaGreatDoorRb9
import Derived.Deep.RegionHeld3
set_option linter.unusedVariables false
set_option maxRecDepth 100000
set_option maxHeartbeats 32000000
namespace Go.Proofs.YtkbbgjloifmmbaaGreatDoor
open _root_.Go.Proofs.Tryz
open _root_.Go.Calls renaming quiet_of_same->anV,regrown_of->an1
open _root_.Bool renaming not_false->apX,not_true->apZ,eq_iff_iff->anW
open _root_.List renaming length_cons->ans,length_nil->anX,getElem?_toArray->anZ,not_mem_nil->an0
open _root_.Go.Op renaming stringOp->anY
open _root_.Go.Lib renaming itoa->anj
open Go.RowKit
attribute [local go_sem high] xN vZ
theorem YQ{w w':World}(h:Below w.heap.size w w')(n:Nat):Below w.heap.size w (w'.drewN n):=h.trans ((below_drewN w' n).mono h.size)
theorem aN{n:Nat}{w w':World}(h:Below n w w':=by repeat(first|with_reducible assumption|with_reducible exact Below.refl _ _|with_reducible refine dD ?_ _|with_reducible refine dc ?_|with_reducible refine YQ ?_ _|with_reducible refine iM ?_ (by dsimp only;omega) _)):Below n w w':=h
theorem KL(af:Int):15<=cE af/\cE af<=32:=by unfold cE;split<;>omega
abbrev jW(t:Th):Obj:=.cells #[.int .i64 t.thread,.int .i64 t.au,.string (tx t.loc)] 25
theorem Dh(af:Int)(F:Nat)(hF:F∈[142,45,66,164])(w:World):Calls prog F #[.int .i64 af] w fun e w'=>e= .returned (.bool (aH af))/\w=w':=by
 simp only[List.mem_cons,an0,or_false]at hF
 by_cases h1:af=1
 ·subst h1
  rcases hF with rfl|rfl|rfl|rfl
  all_goals go_in
  all_goals
   go_wp2
   go_ret;exact⟨rfl,rfl⟩
 ·have z1:(af==1)=false:=by simpa using h1
  have e:aH af=(af==2):=by unfold aH;rw[decide_eq_false h1,Bool.false_or];rw[anW];simp
  have E:=hid e;clear e h1;rcases hF with rfl|rfl|rfl|rfl
  all_goals go_in
  all_goals
   go_wp2
   go_ret;exact⟨aJ E.out.symm,rfl⟩
theorem xE(af:Int)(w:World):Calls prog 142 #[.int .i64 af] w fun e w'=>e= .returned (.bool (aH af))/\w=w':=Dh af _ (by decide) w
theorem ag1(af:Int)(w:World):Calls prog 45 #[.int .i64 af] w fun e w'=>e= .returned (.bool (aH af))/\w=w':=Dh af _ (by decide) w
theorem abf(af:Int)(w:World):Calls prog 66 #[.int .i64 af] w fun e w'=>e= .returned (.bool (aH af))/\w=w':=Dh af _ (by decide) w
theorem ES(af:Int)(w:World):Calls prog 164 #[.int .i64 af] w fun e w'=>e= .returned (.bool (aH af))/\w=w':=Dh af _ (by decide) w
theorem U7(af:Int)(F:Nat)(hF:F∈[323,202])(w:World):Calls prog F #[.int .i64 af] w fun e w'=>e= .returned (.int .i64 (cE af))/\w=w':=by
 simp only[List.mem_cons,an0,or_false]at hF
 by_cases h1:af=1
 ·subst h1
  rcases hF with rfl|rfl
  all_goals go_in
  all_goals
   go_wp2
   go_ret;exact⟨rfl,rfl⟩
 ·have z1:(af==1)=false:=by simpa using h1
  have E:=hid (show cE af=32 by unfold cE;rw[if_neg h1]);clear h1;rcases hF with rfl|rfl
  all_goals go_in
  all_goals
   go_wp2
   go_ret;exact⟨bJ E.out.symm,rfl⟩
theorem aar(af:Int)(w:World):Calls prog 323 #[.int .i64 af] w fun e w'=>e= .returned (.int .i64 (cE af))/\w=w':=U7 af _ (by decide) w
theorem V9(F:Nat)(hF:F=278\/F=321)(af:Int)(t:Th)(hl:t.loc.length<=9223372036854775807)(w:World):Calls prog F #[.int .i64 af,iu t] w (ax w (.bool (bE af t))):=by
 obtain⟨th,rg,loc⟩:=t;have B:=al w (jW ⟨th,rg,loc⟩);have hR:=KL af;have N1:=hid (Oz loc hl);have N2:=hid (ag2 loc hl)
 by_cases h1:th= -1
 ·subst h1
  by_cases h2:rg=0
  ·subst h2
   have E:=hid (show bE af ⟨-1,0,loc⟩=az loc by simp[bE]);rcases hF with rfl|rfl
   all_goals go_in
   all_goals
    go_wp2_with (first|(go_at_call 322;refine(N1.out _).mono ?_;rintro e w' ⟨rfl,rfl⟩)|(go_at_call 118;refine(N2.out _).mono ?_;rintro e w' ⟨rfl,rfl⟩))
    go_ret;exact⟨aJ E.out.symm,aN⟩
  ·have E:=hid (show bE af ⟨-1,rg,loc⟩=false by simp[bE,h2])
   have z2:(rg==0)=false:=by simpa using h2
   clear h2;rcases hF with rfl|rfl
   all_goals go_in
   all_goals
    go_wp2_with fail;go_ret;exact⟨aJ E.out.symm,aN⟩
 ·have z1:(th== -1)=false:=by simpa using h1
  have hT:bE af ⟨th,rg,loc⟩=(decide (0<=th)&&decide (th<16)&&decide (0<=rg)&&decide (rg<cE af)&&decide (loc=[])):=by unfold bE;simp only;rw[if_neg h1]
  obtain⟨R,Ix⟩: ∃R,cE af=R:=⟨_,rfl⟩;have RG:=hid (show ∀F∈[323,202],∀w,Calls prog F #[.int .i64 af] w fun e w'=>e= .returned (.int .i64 R)/\w'=w from fun F hF w=>(U7 af F hF w).mono fun e w' hh=>⟨by rw[hh.1,Ix],hh.2.symm⟩);rw[Ix]at hT hR;clear Ix h1
  by_cases cd1:th<0
  ·have d1:decide (0<=th)=false:=decide_eq_false (by omega)
   have nd1: ¬(0<=th):=by omega
   have E:=hid (show bE af ⟨th,rg,loc⟩=false by rw[hT];simp[*]);clear hT;rcases hF with rfl|rfl
   all_goals go_in
   all_goals
    go_wp2_with fail
    go_quiet (((first|go_at_call 323|go_at_call 202);exact anV (RG.out _ (by decide) _)))
    go_wp2_with fail;go_ret;exact⟨aJ E.out.symm,aN⟩
  have d1:decide (0<=th)=true:=decide_eq_true (by omega);have pd1:0<=th:=by omega
  by_cases cd2:16<=th
  ·have d2:decide (th<16)=false:=decide_eq_false (by omega)
   have nd2: ¬(th<16):=by omega
   have E:=hid (show bE af ⟨th,rg,loc⟩=false by rw[hT];simp[*]);clear hT;rcases hF with rfl|rfl
   all_goals go_in
   all_goals
    go_wp2_with fail
    go_quiet (((first|go_at_call 323|go_at_call 202);exact anV (RG.out _ (by decide) _)))
    go_wp2_with fail;go_ret;exact⟨aJ E.out.symm,aN⟩
  have d2:decide (th<16)=true:=decide_eq_true (by omega);have pd2:th<16:=by omega
  by_cases cd3:rg<0
  ·have d3:decide (0<=rg)=false:=decide_eq_false (by omega)
   have nd3: ¬(0<=rg):=by omega
   have E:=hid (show bE af ⟨th,rg,loc⟩=false by rw[hT];simp[*]);clear hT;rcases hF with rfl|rfl
   all_goals go_in
   all_goals
    go_wp2_with fail
    go_quiet (((first|go_at_call 323|go_at_call 202);exact anV (RG.out _ (by decide) _)))
    go_wp2_with fail;go_ret;exact⟨aJ E.out.symm,aN⟩
  have d3:decide (0<=rg)=true:=decide_eq_true (by omega);have pd3:0<=rg:=by omega
  by_cases cd4:R<=rg
  ·have d4:decide (rg<R)=false:=decide_eq_false (by omega)
   have nd4: ¬(rg<R):=by omega
   have E:=hid (show bE af ⟨th,rg,loc⟩=false by rw[hT];simp[*]);clear hT;rcases hF with rfl|rfl
   all_goals go_in
   all_goals
    go_wp2_with fail
    go_quiet (((first|go_at_call 323|go_at_call 202);exact anV (RG.out _ (by decide) _)))
    go_wp2_with fail;go_ret;exact⟨aJ E.out.symm,aN⟩
  have d4:decide (rg<R)=true:=decide_eq_true (by omega);have pd4:rg<R:=by omega
  by_cases hl0:loc=[]
  ·subst hl0
   have z5:((tx []).toList==([]:List UInt8))=true:=by rw[aW];rfl
   have E:=hid (show bE af ⟨th,rg,[]⟩=true by rw[hT];simp[*]);clear hT;rcases hF with rfl|rfl
   all_goals go_in
   all_goals
    go_wp2_with fail
    go_quiet (((first|go_at_call 323|go_at_call 202);exact anV (RG.out _ (by decide) _)))
    go_wp2_with fail;go_ret;exact⟨aJ E.out.symm,aN⟩
  ·have z5:((tx loc).toList==([]:List UInt8))=false:=by rw[aW];simpa using hl0
   have z6:(tx loc).toList.isEmpty=false:=by rw[aW];cases loc<;>simp at*
   have E:=hid (show bE af ⟨th,rg,loc⟩=false by rw[hT];simp[*]);clear hT;rcases hF with rfl|rfl
   all_goals go_in
   all_goals
    go_wp2_with fail
    go_quiet (((first|go_at_call 323|go_at_call 202);exact anV (RG.out _ (by decide) _)))
    go_wp2_with fail;go_ret;exact⟨aJ E.out.symm,aN⟩
theorem aaz(af:Int)(t:Th)(hl:t.loc.length<=9223372036854775807)(w:World):Calls prog 278 #[.int .i64 af,iu t] w (ax w (.bool (bE af t))):=V9 _ (.inl rfl) af t hl w
theorem ahe(af:Int)(t:Th)(hl:t.loc.length<=9223372036854775807)(w:World):Calls prog 321 #[.int .i64 af,iu t] w (ax w (.bool (bE af t))):=V9 _ (.inr rfl) af t hl w
attribute [local go_sem high] xN vZ
theorem aeC(af:Int)(t:Th)(v:Int)(n:Nat):dN af 2 t v n=(bE af t&&aY v&&decide (n=0)):=rfl
theorem aeD{af k:Int}{t:Th}{v:Int}{n:Nat}(hk:k≠2)(h:t≠eN\/v≠0):dN af k t v n=false:=by
 unfold dN;rw[if_neg hk];rcases h with h|h
 ·rw[decide_eq_false h];simp
 ·rw[decide_eq_false h];simp
theorem aeF{af k:Int}{n:Nat}(hk:k≠2):dN af k eN 0 n=(if k=1 then decide (n=0)else if k=3 then decide (n=1)else if k=4\/k=5 then decide (2<=n)else false):=by
 unfold dN;rw[if_neg hk];simp
theorem S0(t:Th)(w:World):(binOp .neq 25 (iu t) (.agg #[.int .i64 0,.int .i64 0,.string ⟨#[]⟩])).run prog w= .ok (.bool (!decide (t=eN))) w:=vZ t eN w
theorem aez(F:Nat)(hF:F=227\/F=274)(af:Int)(t:Th)(v:Int)(a:Option Addr)(n c:Nat)(hl:t.loc.length<=9223372036854775807)(w:World):Calls prog F #[.int .i64 af,.agg #[.int .i64 2,.int .i64 t.thread,.int .i64 t.au,.string (tx t.loc),.int .i64 v,.slice a n c]] w (ax w (.bool (dN af 2 t v n))):=by
 have B:=al w (.cells #[.int .i64 2,.int .i64 t.thread,.int .i64 t.au,.string (tx t.loc),.int .i64 v,.slice a n c] 28);have b0:=aG.new w #[.int .i64 2,.int .i64 t.thread,.int .i64 t.au,.string (tx t.loc),.int .i64 v,.slice a n c] 28;obtain⟨b1,dM⟩: ∃b1,bE af t=b1:=⟨_,rfl⟩;obtain⟨b2,dH⟩: ∃b2,aY v=b2:=⟨_,rfl⟩;have CT:=hid (show ∀w,Calls prog 278 #[.int .i64 af,iu t] w (ax w (.bool b1))from fun w=>dM▸aaz af t hl w);have CB:=hid (show ∀w,Calls prog 279 #[.int .i64 v] w fun e w'=>e= .returned (.bool b2)/\w=w' from fun w=>dH▸Z8 v w);have DT:=hid (show ∀w,Calls prog 321 #[.int .i64 af,iu t] w (ax w (.bool b1))from fun w=>dM▸ahe af t hl w);have DB:=hid (show ∀w,Calls prog 201 #[.int .i64 v] w fun e w'=>e= .returned (.bool b2)/\w=w' from fun w=>dH▸ag4 v w);have hE:=aeC af t v n;rw[dM,dH]at hE;clear dM dH;obtain⟨b3,gi⟩: ∃b3,decide (n=0)=b3:=⟨_,rfl⟩;have z0:((n:Int)==0)=b3:=by rw[<-gi,anW];simp
 rw[gi]at hE;have HE:=hid hE;clear hE gi;rcases hF with rfl|rfl
 rotate_left
 focus
  have b0:=b0.below (al _ (.cells #[.int .i64 0,.int .i64 0,.string ⟨#[]⟩] 25));have B:=dD B (.cells #[.int .i64 0,.int .i64 0,.string ⟨#[]⟩] 25);have CT:=DT;have CB:=DB;clear DT DB;cases b1<;>cases b2<;>cases b3
  all_goals
   go_in
   go_wp2_with (first|(go_at_call 321;refine(CT.out _).mono ?_;rintro e w1 ⟨rfl,E1⟩;have vg:=b0.below E1;have q4:=vg.get 4 _ rfl;have q5:=vg.get 5 _ rfl;have B:=B.trans (E1.mono B.size);clear vg E1)|(go_at_call 201;refine(CB.out _).mono ?_;rintro e w2 ⟨rfl,rfl⟩))
 rotate_right
 focus
  clear DT DB;cases b1<;>cases b2<;>cases b3
  all_goals
   go_in
   go_wp2_with (first|(go_at_call 278;refine(CT.out _).mono ?_;rintro e w1 ⟨rfl,E1⟩;have vg:=b0.below E1;have q4:=vg.get 4 _ rfl;have q5:=vg.get 5 _ rfl;have B:=B.trans (E1.mono B.size);clear vg E1)|(go_at_call 279;refine(CB.out _).mono ?_;rintro e w2 ⟨rfl,rfl⟩))
 all_goals
  go_ret;exact⟨aJ HE.out.symm,aN⟩
theorem aeA(F:Nat)(hF:F=227\/F=274)(af:Int)(k:Int)(t:Th)(v:Int)(a:Option Addr)(n c:Nat)(hl:t.loc.length<=9223372036854775807)(hk:k≠2)(h:t≠eN\/v≠0)(w:World):Calls prog F #[.int .i64 af,.agg #[.int .i64 k,.int .i64 t.thread,.int .i64 t.au,.string (tx t.loc),.int .i64 v,.slice a n c]] w (ax w (.bool (dN af k t v n))):=by
 have B:=al w (.cells #[.int .i64 k,.int .i64 t.thread,.int .i64 t.au,.string (tx t.loc),.int .i64 v,.slice a n c] 28);have HE:=hid (aeD (af:=af) (n:=n) hk h);have NZ:=S0 t;have zk:(k==2)=false:=by simpa using hk
 have FP:(k != 2)=true:=by simpa using hk
 clear hk
 by_cases ht:t=eN
 ·have hv:v≠0:=by rcases h with h|h;exact absurd ht h;exact h
  have zv:(v != 0)=true:=by simpa using hv
  rw[decide_eq_true ht]at NZ;clear h ht hv;rcases hF with rfl|rfl
  focus
   go_in
  rotate_left
  focus
   go_in
  all_goals
   go_wp2_with fail;go_ret;exact⟨aJ HE.out.symm,aN⟩
 ·rw[decide_eq_false ht]at NZ
  clear h ht;rcases hF with rfl|rfl
  focus
   go_in
  rotate_left
  focus
   go_in
  all_goals
   go_wp2_with fail;go_ret;exact⟨aJ HE.out.symm,aN⟩
theorem aeB(F:Nat)(hF:F=227\/F=274)(af k:Int)(a:Option Addr)(n c:Nat)(hk:k≠2)(w:World):Calls prog F #[.int .i64 af,.agg #[.int .i64 k,.int .i64 0,.int .i64 0,.string ⟨#[]⟩,.int .i64 0,.slice a n c]] w (ax w (.bool (dN af k eN 0 n))):=by
 have B:=al w (.cells #[.int .i64 k,.int .i64 0,.int .i64 0,.string ⟨#[]⟩,.int .i64 0,.slice a n c] 28);have hE:=aeF (af:=af) (n:=n) hk;have NZ:=S0 eN;rw[decide_eq_true rfl]at NZ;have NZ: ∀w,(binOp .neq 25 (.agg #[.int .i64 0,.int .i64 0,.string ⟨#[]⟩]) (.agg #[.int .i64 0,.int .i64 0,.string ⟨#[]⟩])).run prog w= .ok (.bool false) w:=NZ;have zk:(k==2)=false:=by simpa using hk
 have FP:(k != 2)=true:=by simpa using hk
 by_cases h1:k=1
 ·subst h1
  have e:dN af 1 eN 0 n=((n:Int)==0):=by rw[hE,if_pos rfl,anW];simp
  have HE:=hid e;clear e hE hk zk FP;rcases hF with rfl|rfl
  focus
   go_in
  rotate_left
  focus
   go_in
  all_goals
   go_wp2_with fail;go_ret;exact⟨aJ HE.out.symm,aN⟩
 by_cases h3:k=3
 ·subst h3
  have e:dN af 3 eN 0 n=((n:Int)==1):=by rw[hE,if_neg (by omega),if_pos rfl,anW];simp;omega
  have HE:=hid e;clear e hE hk zk FP h1;rcases hF with rfl|rfl
  focus
   go_in
  rotate_left
  focus
   go_in
  all_goals
   go_wp2_with fail;go_ret;exact⟨aJ HE.out.symm,aN⟩
 by_cases h45:k=4\/k=5
 ·have e:dN af k eN 0 n=decide (2<=n):=by rw[hE,if_neg h1,if_neg h3,if_pos h45]
  clear hE hk zk FP h1 h3;rcases h45 with rfl|rfl
  all_goals
   by_cases hn:2<=n
   ·rw[decide_eq_true hn]at e
    have zn:decide ((2:Int)<=n)=true:=decide_eq_true (by omega);have HE:=hid e;clear e;rcases hF with rfl|rfl
    focus
     go_in
    rotate_left
    focus
     go_in
    all_goals
     go_wp2_with fail;go_ret;exact⟨aJ (by rw[HE.out]),aN⟩
   ·rw[decide_eq_false hn]at e
    have zn:decide ((2:Int)<=n)=false:=decide_eq_false (by omega);have HE:=hid e;clear e;rcases hF with rfl|rfl
    focus
     go_in
    rotate_left
    focus
     go_in
    all_goals
     go_wp2_with fail;go_ret;exact⟨aJ (by rw[HE.out]),aN⟩
 ·have HE:=hid (show dN af k eN 0 n=false by rw[hE,if_neg h1,if_neg h3,if_neg h45])
  have z1:(k==1)=false:=by simpa using h1
  have z3:(k==3)=false:=by simpa using h3
  have z4:(k==4)=false:=by simp;omega
  have z5:(k==5)=false:=by simp;omega
  clear hE hk h1 h3 h45;rcases hF with rfl|rfl
  focus
   go_in
  rotate_left
  focus
   go_in
  all_goals
   go_wp2_with fail;go_ret;exact⟨aJ HE.out.symm,aN⟩
theorem SH(F:Nat)(hF:F=227\/F=274)(af:Int)(x:Nd)(hl:x.th.loc.length<=9223372036854775807)(w:World):Calls prog F #[.int .i64 af,vN x] w (ax w (.bool (dN af x.kind x.th x.val x.kids.length))):=by
 unfold vN;generalize x.kind=k;generalize x.th=t at*;generalize x.val=v
 by_cases h2:k=2
 ·subst h2;exact aez F hF af t v x.a x.kids.length x.c hl w
 by_cases hz:t=eN/\v=0
 ·obtain⟨rfl,rfl⟩:=hz
  exact aeB F hF af k x.a x.kids.length x.c h2 w
 ·exact aeA F hF af k t v x.a x.kids.length x.c hl h2 (by by_cases ht:t=eN;exact .inr (fun hv=>hz ⟨ht,hv⟩);exact .inl ht) w
theorem ZZ(af:Int)(x:Nd)(hl:x.th.loc.length<=9223372036854775807)(w:World):Calls prog 227 #[.int .i64 af,vN x] w (ax w (.bool (dN af x.kind x.th x.val x.kids.length))):=SH _ (.inl rfl) af x hl w
theorem ag3(af:Int)(x:Nd)(hl:x.th.loc.length<=9223372036854775807)(w:World):Calls prog 274 #[.int .i64 af,vN x] w (ax w (.bool (dN af x.kind x.th x.val x.kids.length))):=SH _ (.inr rfl) af x hl w
section
variable (op d a b ag:Int) (loc label:Tx) (ai:Int) (w:World)
theorem aqP(hl:loc.length<=9223372036854775807):Calls prog 302 #[vI ⟨1,d,a,b,ag,loc,label,ai⟩] w (ax w (.int .i64 (mW ⟨1,d,a,b,ag,loc,label,ai⟩))):=by
 have hc:dy ⟨1,d,a,b,ag,loc,label,ai⟩=(kQ ⟨1,d,a,b,ag,loc,label,ai⟩&&decide ((⟨1,0,0,0,ag,loc,[],0⟩:Ins)=⟨1,d,a,b,ag,loc,label,ai⟩)):=by
  rw[show decide ((⟨1,0,0,0,ag,loc,[],0⟩:Ins)=⟨1,d,a,b,ag,loc,label,ai⟩)=decide ((⟨1,d,a,b,ag,loc,label,ai⟩:Ins)=⟨1,0,0,0,ag,loc,[],0⟩)from decide_eq_decide.mpr eq_comm];rfl
 have ok:kQ ⟨1,d,a,b,ag,loc,label,ai⟩=(az loc&&aY ag):=by cases k0:az loc<;>cases k1:aY ag<;>simp[kQ,k0,k1]
 have he:mW ⟨1,d,a,b,ag,loc,label,ai⟩=if(((az loc&&aY ag))&&decide ((⟨1,0,0,0,ag,loc,[],0⟩:Ins)=⟨1,d,a,b,ag,loc,label,ai⟩))=true then 0 else 91:=by unfold mW;rw[hc,ok]
 clear hc ok;obtain⟨n,hn⟩: ∃n,n= !decide ((⟨1,0,0,0,ag,loc,[],0⟩:Ins)=⟨1,d,a,b,ag,loc,label,ai⟩):=⟨_,rfl⟩;have vu: ∀w,(binOp .neq 50 (.agg #[.int .i64 1,.int .i64 0,.int .i64 0,.int .i64 0,.int .i64 ag,.string (tx loc),.string ⟨#[]⟩,.int .i64 0]) (.agg #[.int .i64 1,.int .i64 d,.int .i64 a,.int .i64 b,.int .i64 ag,.string (tx loc),.string (tx label),.int .i64 ai])).run prog w= .ok (.bool n) w:=fun w=>by rw[hn];exact jX ⟨1,0,0,0,ag,loc,[],0⟩ ⟨1,d,a,b,ag,loc,label,ai⟩ w
 cases h0:az loc<;>cases h1:aY ag<;>cases hq:decide ((⟨1,0,0,0,ag,loc,[],0⟩:Ins)=⟨1,d,a,b,ag,loc,label,ai⟩)
 all_goals
  rw[hq]at hn;simp only[apZ,apX]at hn;subst hn;rw[hq,h0,h1]at he;have HE:=hid he;replace h0:=hid h0;replace h1:=hid h1;clear he hq;go_in
  go_wp2_with (first|(go_at_call 252;refine(Ks loc hl _).mono ?_;rintro e w' ⟨rfl,rfl⟩;rw[h0.out])|(go_at_call 309;refine(UJ ag _).mono ?_;rintro e w' ⟨rfl,rfl⟩;rw[h1.out]))
  go_ret;exact⟨bJ HE.out.symm,aK⟩
theorem aqQ(hl:loc.length<=9223372036854775807):Calls prog 302 #[vI ⟨2,d,a,b,ag,loc,label,ai⟩] w (ax w (.int .i64 (mW ⟨2,d,a,b,ag,loc,label,ai⟩))):=by
 have hc:dy ⟨2,d,a,b,ag,loc,label,ai⟩=(kQ ⟨2,d,a,b,ag,loc,label,ai⟩&&decide ((⟨2,0,a,0,0,loc,[],0⟩:Ins)=⟨2,d,a,b,ag,loc,label,ai⟩)):=by
  rw[show decide ((⟨2,0,a,0,0,loc,[],0⟩:Ins)=⟨2,d,a,b,ag,loc,label,ai⟩)=decide ((⟨2,d,a,b,ag,loc,label,ai⟩:Ins)=⟨2,0,a,0,0,loc,[],0⟩)from decide_eq_decide.mpr eq_comm];rfl
 have ok:kQ ⟨2,d,a,b,ag,loc,label,ai⟩=(az loc&&lV a):=by cases k0:az loc<;>cases k1:lV a<;>simp[kQ,k0,k1]
 have he:mW ⟨2,d,a,b,ag,loc,label,ai⟩=if(((az loc&&lV a))&&decide ((⟨2,0,a,0,0,loc,[],0⟩:Ins)=⟨2,d,a,b,ag,loc,label,ai⟩))=true then 0 else 91:=by unfold mW;rw[hc,ok]
 clear hc ok;obtain⟨n,hn⟩: ∃n,n= !decide ((⟨2,0,a,0,0,loc,[],0⟩:Ins)=⟨2,d,a,b,ag,loc,label,ai⟩):=⟨_,rfl⟩;have vu: ∀w,(binOp .neq 50 (.agg #[.int .i64 2,.int .i64 0,.int .i64 a,.int .i64 0,.int .i64 0,.string (tx loc),.string ⟨#[]⟩,.int .i64 0]) (.agg #[.int .i64 2,.int .i64 d,.int .i64 a,.int .i64 b,.int .i64 ag,.string (tx loc),.string (tx label),.int .i64 ai])).run prog w= .ok (.bool n) w:=fun w=>by rw[hn];exact jX ⟨2,0,a,0,0,loc,[],0⟩ ⟨2,d,a,b,ag,loc,label,ai⟩ w
 cases h0:az loc<;>cases h1:lV a<;>cases hq:decide ((⟨2,0,a,0,0,loc,[],0⟩:Ins)=⟨2,d,a,b,ag,loc,label,ai⟩)
 all_goals
  rw[hq]at hn;simp only[apZ,apX]at hn;subst hn;rw[hq,h0,h1]at he;have HE:=hid he;replace h0:=hid h0;replace h1:=hid h1;clear he hq;go_in
  go_wp2_with (first|(go_at_call 252;refine(Ks loc hl _).mono ?_;rintro e w' ⟨rfl,rfl⟩;rw[h0.out])|(go_at_call 333;refine(ahh a _).mono ?_;rintro e w' ⟨rfl,rfl⟩;rw[h1.out]))
  go_ret;exact⟨bJ HE.out.symm,aK⟩
theorem aqR(hl:loc.length<=9223372036854775807):Calls prog 302 #[vI ⟨3,d,a,b,ag,loc,label,ai⟩] w (ax w (.int .i64 (mW ⟨3,d,a,b,ag,loc,label,ai⟩))):=by
 have hc:dy ⟨3,d,a,b,ag,loc,label,ai⟩=(kQ ⟨3,d,a,b,ag,loc,label,ai⟩&&decide ((⟨3,d,0,0,0,loc,[],0⟩:Ins)=⟨3,d,a,b,ag,loc,label,ai⟩)):=by
  rw[show decide ((⟨3,d,0,0,0,loc,[],0⟩:Ins)=⟨3,d,a,b,ag,loc,label,ai⟩)=decide ((⟨3,d,a,b,ag,loc,label,ai⟩:Ins)=⟨3,d,0,0,0,loc,[],0⟩)from decide_eq_decide.mpr eq_comm];rfl
 have ok:kQ ⟨3,d,a,b,ag,loc,label,ai⟩=(lV d&&az loc):=by cases k0:lV d<;>cases k1:az loc<;>simp[kQ,k0,k1]
 have he:mW ⟨3,d,a,b,ag,loc,label,ai⟩=if(((lV d&&az loc))&&decide ((⟨3,d,0,0,0,loc,[],0⟩:Ins)=⟨3,d,a,b,ag,loc,label,ai⟩))=true then 0 else 91:=by unfold mW;rw[hc,ok]
 clear hc ok;obtain⟨n,hn⟩: ∃n,n= !decide ((⟨3,d,0,0,0,loc,[],0⟩:Ins)=⟨3,d,a,b,ag,loc,label,ai⟩):=⟨_,rfl⟩;have vu: ∀w,(binOp .neq 50 (.agg #[.int .i64 3,.int .i64 d,.int .i64 0,.int .i64 0,.int .i64 0,.string (tx loc),.string ⟨#[]⟩,.int .i64 0]) (.agg #[.int .i64 3,.int .i64 d,.int .i64 a,.int .i64 b,.int .i64 ag,.string (tx loc),.string (tx label),.int .i64 ai])).run prog w= .ok (.bool n) w:=fun w=>by rw[hn];exact jX ⟨3,d,0,0,0,loc,[],0⟩ ⟨3,d,a,b,ag,loc,label,ai⟩ w
 cases h0:lV d<;>cases h1:az loc<;>cases hq:decide ((⟨3,d,0,0,0,loc,[],0⟩:Ins)=⟨3,d,a,b,ag,loc,label,ai⟩)
 all_goals
  rw[hq]at hn;simp only[apZ,apX]at hn;subst hn;rw[hq,h0,h1]at he;have HE:=hid he;replace h0:=hid h0;replace h1:=hid h1;clear he hq;go_in
  go_wp2_with (first|(go_at_call 333;refine(ahh d _).mono ?_;rintro e w' ⟨rfl,rfl⟩;rw[h0.out])|(go_at_call 252;refine(Ks loc hl _).mono ?_;rintro e w' ⟨rfl,rfl⟩;rw[h1.out]))
  go_ret;exact⟨bJ HE.out.symm,aK⟩
theorem aqS(hl:loc.length<=9223372036854775807):Calls prog 302 #[vI ⟨4,d,a,b,ag,loc,label,ai⟩] w (ax w (.int .i64 (mW ⟨4,d,a,b,ag,loc,label,ai⟩))):=by
 have hc:dy ⟨4,d,a,b,ag,loc,label,ai⟩=(kQ ⟨4,d,a,b,ag,loc,label,ai⟩&&decide ((⟨4,d,0,0,ag,[],[],0⟩:Ins)=⟨4,d,a,b,ag,loc,label,ai⟩)):=by
  rw[show decide ((⟨4,d,0,0,ag,[],[],0⟩:Ins)=⟨4,d,a,b,ag,loc,label,ai⟩)=decide ((⟨4,d,a,b,ag,loc,label,ai⟩:Ins)=⟨4,d,0,0,ag,[],[],0⟩)from decide_eq_decide.mpr eq_comm];rfl
 have ok:kQ ⟨4,d,a,b,ag,loc,label,ai⟩=(lV d&&aY ag):=by cases k0:lV d<;>cases k1:aY ag<;>simp[kQ,k0,k1]
 have he:mW ⟨4,d,a,b,ag,loc,label,ai⟩=if(((lV d&&aY ag))&&decide ((⟨4,d,0,0,ag,[],[],0⟩:Ins)=⟨4,d,a,b,ag,loc,label,ai⟩))=true then 0 else 91:=by unfold mW;rw[hc,ok]
 clear hc ok;obtain⟨n,hn⟩: ∃n,n= !decide ((⟨4,d,0,0,ag,[],[],0⟩:Ins)=⟨4,d,a,b,ag,loc,label,ai⟩):=⟨_,rfl⟩;have vu: ∀w,(binOp .neq 50 (.agg #[.int .i64 4,.int .i64 d,.int .i64 0,.int .i64 0,.int .i64 ag,.string ⟨#[]⟩,.string ⟨#[]⟩,.int .i64 0]) (.agg #[.int .i64 4,.int .i64 d,.int .i64 a,.int .i64 b,.int .i64 ag,.string (tx loc),.string (tx label),.int .i64 ai])).run prog w= .ok (.bool n) w:=fun w=>by rw[hn];exact jX ⟨4,d,0,0,ag,[],[],0⟩ ⟨4,d,a,b,ag,loc,label,ai⟩ w
 cases h0:lV d<;>cases h1:aY ag<;>cases hq:decide ((⟨4,d,0,0,ag,[],[],0⟩:Ins)=⟨4,d,a,b,ag,loc,label,ai⟩)
 all_goals
  rw[hq]at hn;simp only[apZ,apX]at hn;subst hn;rw[hq,h0,h1]at he;have HE:=hid he;replace h0:=hid h0;replace h1:=hid h1;clear he hq;go_in
  go_wp2_with (first|(go_at_call 333;refine(ahh d _).mono ?_;rintro e w' ⟨rfl,rfl⟩;rw[h0.out])|(go_at_call 309;refine(UJ ag _).mono ?_;rintro e w' ⟨rfl,rfl⟩;rw[h1.out]))
  go_ret;exact⟨bJ HE.out.symm,aK⟩
theorem aqT(hl:loc.length<=9223372036854775807):Calls prog 302 #[vI ⟨5,d,a,b,ag,loc,label,ai⟩] w (ax w (.int .i64 (mW ⟨5,d,a,b,ag,loc,label,ai⟩))):=by
 have hc:dy ⟨5,d,a,b,ag,loc,label,ai⟩=(kQ ⟨5,d,a,b,ag,loc,label,ai⟩&&decide ((⟨5,0,0,0,0,[],[],0⟩:Ins)=⟨5,d,a,b,ag,loc,label,ai⟩)):=by
  rw[show decide ((⟨5,0,0,0,0,[],[],0⟩:Ins)=⟨5,d,a,b,ag,loc,label,ai⟩)=decide ((⟨5,d,a,b,ag,loc,label,ai⟩:Ins)=⟨5,0,0,0,0,[],[],0⟩)from decide_eq_decide.mpr eq_comm];rfl
 have ok:kQ ⟨5,d,a,b,ag,loc,label,ai⟩=true:=by simp[kQ]
 have he:mW ⟨5,d,a,b,ag,loc,label,ai⟩=if((true)&&decide ((⟨5,0,0,0,0,[],[],0⟩:Ins)=⟨5,d,a,b,ag,loc,label,ai⟩))=true then 0 else 91:=by unfold mW;rw[hc,ok]
 clear hc ok;obtain⟨n,hn⟩: ∃n,n= !decide ((⟨5,0,0,0,0,[],[],0⟩:Ins)=⟨5,d,a,b,ag,loc,label,ai⟩):=⟨_,rfl⟩;have vu: ∀w,(binOp .neq 50 (.agg #[.int .i64 5,.int .i64 0,.int .i64 0,.int .i64 0,.int .i64 0,.string ⟨#[]⟩,.string ⟨#[]⟩,.int .i64 0]) (.agg #[.int .i64 5,.int .i64 d,.int .i64 a,.int .i64 b,.int .i64 ag,.string (tx loc),.string (tx label),.int .i64 ai])).run prog w= .ok (.bool n) w:=fun w=>by rw[hn];exact jX ⟨5,0,0,0,0,[],[],0⟩ ⟨5,d,a,b,ag,loc,label,ai⟩ w
 cases hq:decide ((⟨5,0,0,0,0,[],[],0⟩:Ins)=⟨5,d,a,b,ag,loc,label,ai⟩)
 all_goals
  rw[hq]at hn;simp only[apZ,apX]at hn;subst hn;rw[hq]at he;have HE:=hid he;clear he hq;go_in;go_wp2_with fail;go_ret;exact⟨bJ HE.out.symm,aK⟩
theorem aqU(ho:op<1\/5<op):Calls prog 302 #[vI ⟨op,d,a,b,ag,loc,label,ai⟩] w (ax w (.int .i64 (mW ⟨op,d,a,b,ag,loc,label,ai⟩))):=by
 have hc:dy ⟨op,d,a,b,ag,loc,label,ai⟩=false:=by
  unfold dy kQ;simp only;rw[if_neg (by omega),if_neg (by omega),if_neg (by omega),if_neg (by omega),decide_eq_false (by omega)];rfl
 have HE:=hid (Pb hc);clear hc;have z1:(op==1)=false:=by simp;omega
 have z2:(op==2)=false:=by simp;omega
 have z3:(op==3)=false:=by simp;omega
 have z4:(op==4)=false:=by simp;omega
 have z5:(op==5)=false:=by simp;omega
 clear ho;go_in;go_wp2_with fail;go_ret;exact⟨bJ HE.out.symm,aK⟩
end
theorem Ku(i:Ins)(hl:i.loc.length<=9223372036854775807)(w:World):Calls prog 302 #[vI i] w (ax w (.int .i64 (mW i))):=by
 obtain⟨op,d,a,b,ag,loc,label,ai⟩:=i
 by_cases h1:op=1
 ·subst h1;exact aqP _ _ _ _ _ _ _ _ hl
 by_cases h2:op=2
 ·subst h2;exact aqQ _ _ _ _ _ _ _ _ hl
 by_cases h3:op=3
 ·subst h3;exact aqR _ _ _ _ _ _ _ _ hl
 by_cases h4:op=4
 ·subst h4;exact aqS _ _ _ _ _ _ _ _ hl
 by_cases h5:op=5
 ·subst h5;exact aqT _ _ _ _ _ _ _ _ hl
 exact aqU _ _ _ _ _ _ _ _ _ (by omega)
end Go.Proofs.YtkbbgjloifmmbaaGreatDoor
namespace Go.Proofs.YtkbbgjloifmmbaaGreatDoor
open _root_.Go.Proofs.Tryz
open _root_.Go.Calls renaming quiet_of_same->anV,regrown_of->an1
open _root_.Bool renaming not_false->apX,not_true->apZ,eq_iff_iff->anW
open _root_.List renaming length_cons->ans,length_nil->anX,getElem?_toArray->anZ,not_mem_nil->an0
open _root_.Go.Op renaming stringOp->anY
open _root_.Go.Lib renaming itoa->anj
open Go.RowKit Go.Sort
theorem aeW{k:Nat}(h:k<15)(h':k<sr.length):sr[k]=aO k:=by
 unfold aO;rw[List.getD_eq_getElem?_getD,List.getElem?_eq_getElem h'];rfl
structure ru(w:World)(a:Option Addr):Prop where
 kY:cP w a sr
theorem ru.cell{w:World}{a:Option Addr}(h:ru w a){k:Nat}(hk:k<15):w.cell? ⟨bk a,fo a+k,none⟩=some (.string (tx (aO k))):=by
 rw[h.kY.cell k (show k<sr.length from hk),aeW hk]
theorem ru.idx{w:World}{a:Option Addr}(h:ru w a){k:Nat}(hk:k<15): ∀w',(Instr.indexAt 42 (.slice a 15 15) (.int .i64 k)).run prog w'= .ok (.pointer (some ⟨bk a,fo a+k,none⟩)) w':=h.kY.idx k hk 15
theorem ru.below{w w':World}{a:Option Addr}(h:ru w a)(hb:Below w.heap.size w w'):ru w' a:=⟨h.kY.below hb⟩
theorem UM(w:World):Calls prog 216 #[] w fun e w'=> ∃a,e= .returned (.slice a 15 15)/\ru w' a/\Below w.heap.size w w':=by
 have E:=al w (.cells #[.string ⟨#[69,65,88]⟩,.string ⟨#[69,66,88]⟩,.string ⟨#[69,67,88]⟩,.string ⟨#[69,68,88]⟩,.string ⟨#[69,83,73]⟩,.string ⟨#[69,68,73]⟩,.string ⟨#[69,66,80]⟩,.string ⟨#[82,56,68]⟩,.string ⟨#[82,57,68]⟩,.string ⟨#[82,49,48,68]⟩,.string ⟨#[82,49,49,68]⟩,.string ⟨#[82,49,50,68]⟩,.string ⟨#[82,49,51,68]⟩,.string ⟨#[82,49,52,68]⟩,.string ⟨#[82,49,53,68]⟩] 9);go_in;go_wp2_with fail;go_ret;refine⟨_,rfl,⟨⟨⟨fun _=>rfl,fun i hi=>?_⟩,by decide⟩⟩,E⟩;simp only[World.cell?,fk,gb,heap_alloc_new,Nat.zero_add];rw[if_neg (by simp)];exact anZ
theorem UN(k:Nat)(h:k<15)(w:World):Calls prog 129 #[.int .i64 k] w (ax w (.tuple #[.string (tx (aO k)),.int .i64 0])):=by
 have h0:(0:Int)<=(k:Int):=by omega
 have h1:(k:Int)<15:=by omega
 go_in;go_wp2_with fail;refine(UM _).mono ?_;rintro e w1 ⟨a,rfl,T,B⟩;have ix:=T.idx h;have cx:=T.cell h;go_wp2_with fail
 go_ret2
 exact⟨rfl,B⟩
theorem Y4{w wo:World}{b:Nat}{i:Ins}(h:dK w b i)(hw:wo=w.drew):Hid (dK wo b i):=by
 subst hw;exact hid (h.below (below_drewN w 1))
theorem ahG(i:Ins)(hc:dy i=true)(w:World)(g:Gl w):
 Calls prog 272 #[vI i] w (ax w (.tuple #[.string (tx (dJ i)),.int .i64 0])):=by
 have E1:=al w (eC i);have b0:=dK.new w i;have g:=g.below E1;have HE:=hid (H8 hc);have CK:=hid (Ku i (To hc));rcases Kc hc with⟨ag,loc,rfl,hn,hb⟩|⟨a,loc,rfl,hn,ha⟩|⟨a,loc,rfl,hn,ha⟩|⟨a,ag,rfl,hb,ha⟩|rfl
 focus
  have ll:=(iU hn).2;have li:=qm hb;have II:=nZ hb;obtain⟨t1,t2,t3,ht,-, c1,c2,c3⟩:=rF (va:=⟨#[77,79,86,32,91]⟩) (vc:=⟨#[93,44,36]⟩) [77,79,86,32,91] loc [93,44,36] (anj ag) rfl rfl rfl rfl (by simp only[ans,anX];omega);have HP:=hid (show dJ ⟨1,0,0,0,ag,loc,[],0⟩=t3 by rw[<-ht];rfl);clear ht hn hb
 rotate_left
 focus
  have ll:=(iU hn).2;have la:=pI ha;have h0:(0:Int)<=(a:Int):=by omega
  have h1:(a:Int)<15:=by omega
  have HA:=hid ha;obtain⟨t1,t2,t3,ht,-, c1,c2,c3⟩:=rF (va:=⟨#[77,79,86,32,91]⟩) (vc:=⟨#[93,44]⟩) [77,79,86,32,91] loc [93,44] (aO a) rfl rfl rfl rfl (by simp only[ans,anX];omega);have HP:=hid (show dJ ⟨2,0,(a:Int),0,0,loc,[],0⟩=t3 by rw[<-ht];simp[dJ,mI]);clear ht hn ha
 rotate_left
 focus
  have ll:=(iU hn).2;have la:=pI ha;have h0:(0:Int)<=(a:Int):=by omega
  have h1:(a:Int)<15:=by omega
  have HA:=hid ha;obtain⟨t1,t2,t3,t4,ht,-, c1,c2,c3,c4⟩:=vk (va:=⟨#[77,79,86,32]⟩) (vc:=⟨#[44,91]⟩) (ve:=⟨#[93]⟩) [77,79,86,32] (aO a) [44,91] loc [93] rfl rfl rfl rfl rfl (by simp only[ans,anX];omega);have HP:=hid (show dJ ⟨3,(a:Int),0,0,0,loc,[],0⟩=t4 by rw[<-ht];simp[dJ,mI]);clear ht hn ha
 rotate_left
 focus
  have li:=qm hb;have II:=nZ hb;have la:=pI ha;have h0:(0:Int)<=(a:Int):=by omega
  have h1:(a:Int)<15:=by omega
  have HA:=hid ha;obtain⟨t1,t2,t3,ht,-, c1,c2,c3⟩:=rF (va:=⟨#[77,79,86,32]⟩) (vc:=⟨#[44,36]⟩) [77,79,86,32] (aO a) [44,36] (anj ag) rfl rfl rfl rfl (by simp only[ans,anX];omega);have HP:=hid (show dJ ⟨4,(a:Int),0,0,ag,[],[],0⟩=t3 by rw[<-ht];simp[dJ,mI]);clear ht hb ha
 rotate_left
 all_goals
  clear hc;go_in;go_wp2_with fail;refine(CK.out _).mono ?_;rintro x w1 ⟨rfl,E⟩;rw[HE.out];have bb:=b0.below E;have g:=g.below E;have B:=E1.trans (E.mono E1.size);obtain⟨q0,q1,q2,q3,q4,q5,q6,q7⟩:=bb.cells;clear b0 E1 E CK HE;go_wp2_with fail
 focus
  go_ret2
  exact⟨rfl,B⟩
 all_goals
  obtain⟨wo,Ef⟩: ∃wo:World,wo=w1.drew:=⟨_,rfl⟩;have B:Below w.heap.size w wo:=by rw[Ef];exact dc B
  have g:Gl wo:=by rw[Ef];exact g.below (below_drewN w1 1)
  have bb:=Y4 bb Ef;clear q0 q1 q2 q3 q4 q5 q6 q7;obtain⟨-, q1,q2,-, q4,q5,-, -⟩:=bb.out.cells;subst Ef
  go_region_with
   (first
    |(go_at_call 216;refine(UM _).mono ?_;rintro e w4 ⟨an,rfl,T,E4⟩;have ix:=T.idx HA.out;have cx:=T.cell HA.out;have bb:=hid (bb.out.below E4);obtain⟨-, q1,q2,-, q4,q5,-, -⟩:=bb.out.cells;have B:=ay B E4;have g:=g.below E4;clear E4 T)
    |(go_at_call 57;refine(jV ag (by omega) (by omega) _ g).mono ?_;rintro e w5 ⟨rfl,E5⟩;have bb:=hid (bb.out.below E5);obtain⟨-, q1,q2,-, q4,q5,-, -⟩:=bb.out.cells;(try(have cx:=(E5.cell (gR cx)).trans cx));have B:=ay B E5;have g:=g.below E5;clear E5))
  all_goals
   go_wp2_with fail
   (try go_simp)
   go_ret2
   exact⟨yQ (by rw[HP.out]) rfl,by with_reducible assumption⟩
theorem ahF(i:Ins)(hl:i.loc.length<=9223372036854775807)(hc:dy i=false)(w:World):
 Calls prog 272 #[vI i] w (ax w (.tuple #[.string (tx []),.int .i64 91])):=by
 have E1:=al w (eC i);have b0:=dK.new w i;have HE:=hid (Pb hc);have XC:=hid (Ku i hl);clear hc hl;go_in;go_wp2_with fail;refine(XC.out _).mono ?_;rintro x w1 ⟨rfl,E⟩;rw[HE.out];have B:=E1.trans (E.mono E1.size);go_wp2_with fail
 go_ret2
 exact⟨rfl,B⟩
theorem Z0(w:World):Calls prog 271 #[] w fun e w'=> ∃a,e= .returned (.slice a 15 15)/\ru w' a/\Below w.heap.size w w':=by
 have E:=al w (.cells #[.string ⟨#[69,65,88]⟩,.string ⟨#[69,66,88]⟩,.string ⟨#[69,67,88]⟩,.string ⟨#[69,68,88]⟩,.string ⟨#[69,83,73]⟩,.string ⟨#[69,68,73]⟩,.string ⟨#[69,66,80]⟩,.string ⟨#[82,56,68]⟩,.string ⟨#[82,57,68]⟩,.string ⟨#[82,49,48,68]⟩,.string ⟨#[82,49,49,68]⟩,.string ⟨#[82,49,50,68]⟩,.string ⟨#[82,49,51,68]⟩,.string ⟨#[82,49,52,68]⟩,.string ⟨#[82,49,53,68]⟩] 9);go_in;go_wp2_with fail;go_ret;refine⟨_,rfl,⟨⟨⟨fun _=>rfl,fun i hi=>?_⟩,by decide⟩⟩,E⟩;simp only[World.cell?,fk,gb,heap_alloc_new,Nat.zero_add];rw[if_neg (by simp)];exact anZ
theorem OJ(af:Int)(k:Nat)(hk:(k:Int)<cE af)(w:World):Calls prog 211 #[.int .i64 af,.int .i64 k] w (ax w (.string (tx (cz af k)))):=by
 by_cases h1:af=1
 ·subst h1
  have Au:k<15:=by unfold cE at hk;rw[if_pos rfl]at hk;omega
  have h0:(0:Int)<=(k:Int):=by omega
  have h1:(k:Int)<15:=by omega
  have e:cz 1 k=aO k:=rfl;rw[e];clear e hk;go_in;go_wp2_with fail;refine(Z0 _).mono ?_;rintro e w1 ⟨a,rfl,T,B⟩;have ix:=T.idx Au;have cx:=T.cell Au;go_wp2_with fail;go_ret;exact⟨rfl,B⟩
 ·have z1:(af==1)=false:=by simpa using h1
  have e:cz af k=bH k:=by unfold cz;rw[if_neg h1]
  have DN:k<32:=by unfold cE at hk;rw[if_neg h1]at hk;omega
  rw[e];have cx:=Dp k;clear e hk h1;go_in
  go_wp2_with (go_at_call 57;refine(vR k (by omega) _).mono ?_;rintro e w' ⟨rfl,rfl⟩)
  go_ret;exact⟨rfl,Below.refl _ _⟩
theorem Zd(k:Nat)(h:k<100): ∀w,(anY .add ⟨#[82]⟩ (tx (cR k))).run prog w= .ok (.string (tx (82::cR k))) w:=cQ [82] (cR k) (by have:=Hv k;simp;omega)
theorem Ze(k:Nat)(h:k<100): ∀w,(anY .add (tx (82::cR k)) ⟨#[68]⟩).run prog w= .ok (.string (tx (82::cR k++[68]))) w:=cQ (82::cR k) [68] (by have:=Hv k;simp;omega)
theorem aiX: ∀k:Fin 15,7<=k.val->82::cR (k.val+1)++[68]=aO k.val:=by decide+kernel
theorem ag6(af:Int)(k:Nat)(hk:(k:Int)<cE af)(w:World):Calls prog 203 #[.int .i64 af,.int .i64 k] w (sY w (.string (tx (cz af k)))):=by
 by_cases h1:af=1
 ·subst h1
  have Au:k<15:=by unfold cE at hk;rw[if_pos rfl]at hk;omega
  have e:cz 1 k=aO k:=rfl;rw[e];clear e hk
  by_cases h7:7<=k
  ·have e:=aiX ⟨k,Au⟩ h7
   have z7:(7:Int)<=k:=by omega
   have c1:=Zd (k+1) (by omega);simp only at e;have c2: ∀w,(anY .add (tx (82::cR (k+1))) ⟨#[68]⟩).run prog w= .ok (.string (tx (aO k))) w:=fun w=>by rw[<-e];exact Ze (k+1) (by omega) w
   have hI:=vR (k+1) (by omega);rw[show((k+1:Nat):Int)=(k:Int)+1 by omega]at hI;have hI:=hid hI;clear e;have hkk:(k:Int)+1<=100:=by omega
   go_in
   go_wp2_with (go_at_call 57;refine(hI.out _).mono ?_;rintro e w' ⟨rfl,rfl⟩)
   go_ret;exact⟨rfl,(by repeat(first|exact QW.refl _|refine QW.d ?_ _))⟩
  ·have h:k=0\/k=1\/k=2\/k=3\/k=4\/k=5\/k=6:=by omega
   clear Au h7;rcases h with rfl|rfl|rfl|rfl|rfl|rfl|rfl
   all_goals
    go_in;go_wp2_with fail;go_ret;exact⟨sB (by decide+kernel),(by repeat(first|exact QW.refl _|refine QW.d ?_ _))⟩
 ·have z1:(af != 1)=true:=by simpa using h1
  have e:cz af k=bH k:=by unfold cz;rw[if_neg h1]
  have DN:k<32:=by unfold cE at hk;rw[if_neg h1]at hk;omega
  rw[e];have cx:=Dp k;clear e hk h1;go_in
  go_wp2_with (go_at_call 57;refine(vR k (by omega) _).mono ?_;rintro e w' ⟨rfl,rfl⟩)
  go_ret;exact⟨rfl,(by repeat(first|exact QW.refl _|refine QW.d ?_ _))⟩
theorem ako{af:Int}{t:Th}(h:t.thread= -1):l7 af t=t.loc:=by unfold l7;rw[if_pos h]
theorem V7{af:Int}(i k:Nat):l7 af ⟨i,k,[]⟩=anj i++[58]++cz af k:=by
 unfold l7;rw[if_neg (by simp only;omega)];simp
theorem ahd(af:Int)(t:Th)(h:bE af t=true)(w:World)(g:Gl w):Calls prog 218 #[.int .i64 af,iu t] w (ax w (.string (tx (l7 af t)))):=by
 rcases yX h with⟨h1,h2,h3⟩|⟨i,k,rfl,hi,hk⟩
 ·obtain⟨th,rg,loc⟩:=t
  simp only at h1;subst h1;have B:=al w (jW ⟨-1,rg,loc⟩);clear h h2 h3;go_in;go_wp2_with fail;go_ret;exact⟨rfl,aN⟩
 ·have B:=al w (.cells #[.int .i64 i,.int .i64 k,.string (tx [])] 25)
  have b0:=aG.new w #[.int .i64 i,.int .i64 k,.string (tx [])] 25;have g:=g.below B;have z1:((i:Int)== -1)=false:=by simp<;>omega
  have l1:=Lib.itoa_length_le (i:Int) (by omega) (by omega);have l2:=KE (af:=af) (k:=k) hk;obtain⟨s1,hs1⟩: ∃s1,anj (i:Int)=s1:=⟨_,rfl⟩;obtain⟨s2,hs2⟩: ∃s2,cz af k=s2:=⟨_,rfl⟩;rw[hs1]at l1;rw[hs2]at l2;have IT:=hid (show ∀(w:World),Gl w->Calls prog 57 #[.int .i64 i] w (ax w (.string (tx s1)))from fun w g=>hs1▸jV (i:Int) (by omega) (by omega) w g);have RG:=hid (show ∀(w:World),Calls prog 203 #[.int .i64 af,.int .i64 k] w (ax w (.string (tx s2)))from fun w=>(ag6 af k hk w).mono fun e w' hh=>⟨by rw[hh.1,hs2],hh.2.below⟩);obtain⟨t1,ht1⟩: ∃t:Tx,s1++[58]=t:=⟨_,rfl⟩;have n1:t1.length<=22:=by rw[<-ht1];simp;omega
  have c1: ∀w,(anY .add (tx s1) ⟨#[58]⟩).run prog w= .ok (.string (tx t1)) w:=qD s1 [58] t1 ht1 (by omega);obtain⟨t2,fN⟩: ∃t:Tx,t1++s2=t:=⟨_,rfl⟩;have n2:t2.length<=30:=by rw[<-fN];simp;omega
  have c2: ∀w,(anY .add (tx t1) (tx s2)).run prog w= .ok (.string (tx t2)) w:=qD t1 s2 t2 fN (by omega);have E:=hid (show l7 af ⟨i,k,[]⟩=t2 by rw[V7,hs1,hs2,ht1,fN]);have QQ:=hid (And.intro B (And.intro b0 g));clear hs1 hs2 h B b0 g l1 l2 ht1 fN n1 n2;go_in;go_wp2_with fail;obtain⟨B,b0,g⟩:=QQ.out;generalize w.alloc (.cells #[.int .i64 i,.int .i64 k,.string (tx [])] 25)=W at*;have q0:=b0.get 0 _ rfl;have q1:=b0.get 1 _ rfl;have q0:=cell_regrown q0;have q1:=cell_regrown q1;have cA:=fun(d:Nat) (os:Array Obj)=>an1 (kB (IT.out (grow (redrawn W d) os) (g.below (below_regrown W d os))))
  have cB:=fun(d:Nat) (os:Array Obj)=>an1 (kB (RG.out (grow (redrawn W d) os)))
  clear QQ b0;refine wp_region_quiet_below (by kernel_rfl) (by kernel_rfl) ?_
  repeat(go_big_quiet_step (first|exact cA _ _|exact cB _ _))
  refine wpQuiet_nil ?_;intro _ hw';obtain⟨⟨dq,aV⟩,hw''⟩:=hw';subst hw'';have jI:=below_regrown W dq aV;have EZ:=B.trans (jI.mono B.size);generalize grow (redrawn W dq) aV=wq at*;go_wp2_with fail;go_ret;exact⟨sB (by rw[E.out]),EZ⟩
end Go.Proofs.YtkbbgjloifmmbaaGreatDoor

/- What ReadBlanksP leans on, part 12. -/
import Derived.Test.YtkbbgjloifmmbaaGreatDoorPc8
import Derived.Test.YtkbbgjloifmmbaaGreatDoorPc10
import Derived.Test.YtkbbgjloifmmbaaGreatDoorPc9
set_option linter.unusedVariables false
set_option maxRecDepth 100000
set_option maxHeartbeats 12800000
open _root_.Go.Proofs.Tryz
open _root_.Go.Calls renaming quiet_of_same->an6
open _root_.List renaming mem_of_getElem?->anw,getElem?_eq_getElem->am9,not_mem_nil->aoa,drop_length->aob
open _root_.Option renaming some->an7
open _root_.Bool renaming eq_iff_iff->an8
open _root_.Nat renaming zero_add->ann
open _root_.And renaming intro->anY
open _root_.Go.Op renaming stringOp->an9
open _root_.Option.some renaming inj->an4
namespace Go.Proofs.YtkbbgjloifmmbaaGreatDoor
open Go.RowKit
attribute [local go_sem high] xR wH
variable{af k q:Int}{b bw n:Nat}{x:Nd}{p s:Tx}{w w':World}
theorem aaX(h:Below w.heap.size w w')(n:Nat):Below w.heap.size w (w'.drewN n):=h.trans ((below_drewN w' n).mono h.size)
theorem bC(h:Below n w w':=by repeat(first|with_reducible assumption|with_reducible exact Below.refl _ _|with_reducible refine eZ ?_ _|with_reducible refine jt ?_|with_reducible refine aaX ?_ _|with_reducible refine vB ?_ (by dsimp only;omega) _)):Below n w w':=h
theorem Dg(af:Int):15<=dO af/\dO af<=32:=by unfold dO;split<;>omega
abbrev l6(t:Th):Obj:=.cells #[.int .i64 t.thread,.int .i64 t.az,.string (tx t.loc)] 25
theorem EN(af:Int)(F:Nat)(hF:F∈[142,45,66,164])(w:World):Calls prog F #[.int .i64 af] w fun e w'=>e= .returned (.bool (bF af))/\w=w':=by
 simp only[List.mem_cons,aoa,or_false]at hF
 by_cases h1:af=1
 ·subst h1
  rcases hF with rfl|rfl|rfl|rfl
  all_goals go_in
  all_goals
   go_wp2
   go_ret;exact⟨rfl,rfl⟩
 have z1:(af==1)=false:=by simpa using h1
 have e:bF af=(af==2):=by unfold bF;rw[decide_eq_false h1,Bool.false_or];rw[an8];simp
 have E:=hid e;clear e h1;rcases hF with rfl|rfl|rfl|rfl
 all_goals go_in
 all_goals
  go_wp2
  go_ret;exact⟨aQ E.out.symm,rfl⟩
theorem xL(af:Int)(w:World):Calls prog 142 #[.int .i64 af] w fun e w'=>e= .returned (.bool (bF af))/\w=w':=EN af _ (by decide) w
theorem wI(af:Int)(w:World):Calls prog 45 #[.int .i64 af] w fun e w'=>e= .returned (.bool (bF af))/\w=w':=EN af _ (by decide) w
theorem acP(af:Int)(w:World):Calls prog 66 #[.int .i64 af] w fun e w'=>e= .returned (.bool (bF af))/\w=w':=EN af _ (by decide) w
theorem aip(af:Int)(w:World):Calls prog 164 #[.int .i64 af] w fun e w'=>e= .returned (.bool (bF af))/\w=w':=EN af _ (by decide) w
theorem NH(af:Int)(F:Nat)(hF:F∈[323,202])(w:World):Calls prog F #[.int .i64 af] w fun e w'=>e= .returned (.int .i64 (dO af))/\w=w':=by
 simp only[List.mem_cons,aoa,or_false]at hF
 by_cases h1:af=1
 ·subst h1
  rcases hF with rfl|rfl
  all_goals go_in
  all_goals
   go_wp2
   go_ret;exact⟨rfl,rfl⟩
 have z1:(af==1)=false:=by simpa using h1
 have E:=hid (show dO af=32 by unfold dO;rw[if_neg h1]);clear h1;rcases hF with rfl|rfl
 all_goals go_in
 all_goals
  go_wp2
  go_ret;exact⟨bQ E.out.symm,rfl⟩
theorem ab9(af:Int)(w:World):Calls prog 323 #[.int .i64 af] w fun e w'=>e= .returned (.int .i64 (dO af))/\w=w':=NH af _ (by decide) w
theorem ahW(af:Int)(w:World):Calls prog 202 #[.int .i64 af] w fun e w'=>e= .returned (.int .i64 (dO af))/\w=w':=NH af _ (by decide) w
theorem ZC(F:Nat)(hF:F=278\/F=321)(af:Int)(t:Th)(hl:t.loc.length<=9223372036854775807)(w:World):Calls prog F #[.int .i64 af,ko t] w (aJ w (.bool (dI af t))):=by
 obtain⟨th,rg,loc⟩:=t;have B:=al w (l6 ⟨th,rg,loc⟩);have hR:=Dg af;have N1:=hid (Sa loc hl);have N2:=hid (yO loc hl)
 by_cases h1:th= -1
 ·subst h1
  by_cases h2:rg=0
  ·subst h2
   have E:=hid (show dI af ⟨-1,0,loc⟩=aC loc by simp[dI]);rcases hF with rfl|rfl
   all_goals go_in
   all_goals
    go_wp2_with (first|(go_at_call 322;refine av (N1.out _) ?_)|(go_at_call 118;refine av (N2.out _) ?_))
    go_ret;exact⟨aQ E.out.symm,bC⟩
  have E:=hid (show dI af ⟨-1,rg,loc⟩=false by simp[dI,h2])
  have z2:(rg==0)=false:=by simpa using h2
  clear h2;rcases hF with rfl|rfl
  all_goals go_in
  all_goals
   go_wp2;go_ret;exact⟨aQ E.out.symm,bC⟩
 have z1:(th== -1)=false:=by simpa using h1
 have hT:dI af ⟨th,rg,loc⟩=(decide (0<=th)&&decide (th<16)&&decide (0<=rg)&&decide (rg<dO af)&&decide (loc=[])):=by unfold dI;simp only;rw[if_neg h1]
 obtain⟨R,Ks⟩:=aj (dO af);have RG:=hid (show ∀F∈[323,202],∀w,Calls prog F #[.int .i64 af] w fun e w'=>e= .returned (.int .i64 R)/\w'=w from fun F hF w=>(NH af F hF w).mono fun e w' hh=>⟨by rw[hh.1,Ks],hh.2.symm⟩);rw[Ks]at hT hR;clear Ks h1
 by_cases cd1:th<0
 ·have d1:decide (0<=th)=false:=decide_eq_false (by omega)
  have nd1: ¬(0<=th):=by omega
  have E:=hid (show dI af ⟨th,rg,loc⟩=false by rw[hT];simp[*]);clear hT;rcases hF with rfl|rfl
  all_goals go_in
  all_goals
   go_wp2_with fail
   go_quiet (((first|go_at_call 323|go_at_call 202);exact an6 (RG.out _ (by decide) _)))
   go_wp2;go_ret;exact⟨aQ E.out.symm,bC⟩
 have d1:decide (0<=th)=true:=decide_eq_true (by omega);have pd1:0<=th:=by omega
 by_cases cd2:16<=th
 ·have d2:decide (th<16)=false:=decide_eq_false (by omega)
  have nd2: ¬(th<16):=by omega
  have E:=hid (show dI af ⟨th,rg,loc⟩=false by rw[hT];simp[*]);clear hT;rcases hF with rfl|rfl
  all_goals go_in
  all_goals
   go_wp2_with fail
   go_quiet (((first|go_at_call 323|go_at_call 202);exact an6 (RG.out _ (by decide) _)))
   go_wp2;go_ret;exact⟨aQ E.out.symm,bC⟩
 have d2:decide (th<16)=true:=decide_eq_true (by omega);have pd2:th<16:=by omega
 by_cases cd3:rg<0
 ·have d3:decide (0<=rg)=false:=decide_eq_false (by omega)
  have nd3: ¬(0<=rg):=by omega
  have E:=hid (show dI af ⟨th,rg,loc⟩=false by rw[hT];simp[*]);clear hT;rcases hF with rfl|rfl
  all_goals go_in
  all_goals
   go_wp2_with fail
   go_quiet (((first|go_at_call 323|go_at_call 202);exact an6 (RG.out _ (by decide) _)))
   go_wp2;go_ret;exact⟨aQ E.out.symm,bC⟩
 have d3:decide (0<=rg)=true:=decide_eq_true (by omega);have pd3:0<=rg:=by omega
 by_cases cd4:R<=rg
 ·have d4:decide (rg<R)=false:=decide_eq_false (by omega)
  have nd4: ¬(rg<R):=by omega
  have E:=hid (show dI af ⟨th,rg,loc⟩=false by rw[hT];simp[*]);clear hT;rcases hF with rfl|rfl
  all_goals go_in
  all_goals
   go_wp2_with fail
   go_quiet (((first|go_at_call 323|go_at_call 202);exact an6 (RG.out _ (by decide) _)))
   go_wp2;go_ret;exact⟨aQ E.out.symm,bC⟩
 have d4:decide (rg<R)=true:=decide_eq_true (by omega);have pd4:rg<R:=by omega
 by_cases hl0:loc=[]
 ·subst hl0
  have z5:((tx []).toList==([]:List UInt8))=true:=by rw[bh];rfl
  have E:=hid (show dI af ⟨th,rg,[]⟩=true by rw[hT];simp[*]);clear hT;rcases hF with rfl|rfl
  all_goals go_in
  all_goals
   go_wp2_with fail
   go_quiet (((first|go_at_call 323|go_at_call 202);exact an6 (RG.out _ (by decide) _)))
   go_wp2;go_ret;exact⟨aQ E.out.symm,bC⟩
 have z5:((tx loc).toList==([]:List UInt8))=false:=by rw[bh];simpa using hl0
 have z6:(tx loc).toList.isEmpty=false:=by rw[bh];cases loc<;>simp at*
 have E:=hid (show dI af ⟨th,rg,loc⟩=false by rw[hT];simp[*]);clear hT;rcases hF with rfl|rfl
 all_goals go_in
 all_goals
  go_wp2_with fail
  go_quiet (((first|go_at_call 323|go_at_call 202);exact an6 (RG.out _ (by decide) _)))
  go_wp2;go_ret;exact⟨aQ E.out.symm,bC⟩
theorem acf(af:Int)(t:Th)(hl:t.loc.length<=9223372036854775807)(w:World):Calls prog 278 #[.int .i64 af,ko t] w (aJ w (.bool (dI af t))):=ZC _ (.inl rfl) af t hl w
theorem ahY(af:Int)(t:Th)(hl:t.loc.length<=9223372036854775807)(w:World):Calls prog 321 #[.int .i64 af,ko t] w (aJ w (.bool (dI af t))):=ZC _ (.inr rfl) af t hl w
attribute [local go_sem high] xR wH
theorem afI(af:Int)(t:Th)(v:Int)(n:Nat):gE af 2 t v n=(dI af t&&bO v&&decide (n=0)):=rfl
theorem afK{t:Th}{v:Int}(hk:k≠2)(h:t≠bT\/v≠0):gE af k t v n=false:=by
 unfold gE;rw[if_neg hk];rcases h with h|h
 ·rw[decide_eq_false h];simp
 rw[decide_eq_false h];simp
theorem afL(hk:k≠2):gE af k bT 0 n=(if k=1 then decide (n=0)else if k=3 then decide (n=1)else if k=4\/k=5 then decide (2<=n)else false):=by
 unfold gE;rw[if_neg hk];simp
theorem Wo(t:Th)(w:World):(binOp .neq 25 (ko t) (.agg #[.int .i64 0,.int .i64 0,.string ⟨#[]⟩])).run prog w= .ok (.bool (!decide (t=bT))) w:=wH t bT w
theorem afF(F:Nat)(hF:F=227\/F=274)(af:Int)(t:Th)(v:Int)(a:Option Addr)(n c:Nat)(hl:t.loc.length<=9223372036854775807)(w:World):Calls prog F #[.int .i64 af,.agg #[.int .i64 2,.int .i64 t.thread,.int .i64 t.az,.string (tx t.loc),.int .i64 v,.slice a n c]] w (aJ w (.bool (gE af 2 t v n))):=by
 have B:=al w (.cells #[.int .i64 2,.int .i64 t.thread,.int .i64 t.az,.string (tx t.loc),.int .i64 v,.slice a n c] 28);have b0:=aA.new w #[.int .i64 2,.int .i64 t.thread,.int .i64 t.az,.string (tx t.loc),.int .i64 v,.slice a n c] 28;obtain⟨b1,dH⟩:=aj (dI af t);obtain⟨b2,de⟩:=aj (bO v);have CT:=hid (show ∀w,Calls prog 278 #[.int .i64 af,ko t] w (aJ w (.bool b1))from fun w=>dH▸acf af t hl w);have CB:=hid (show ∀w,Calls prog 279 #[.int .i64 v] w fun e w'=>e= .returned (.bool b2)/\w=w' from fun w=>de▸abO v w);have DT:=hid (show ∀w,Calls prog 321 #[.int .i64 af,ko t] w (aJ w (.bool b1))from fun w=>dH▸ahY af t hl w);have DB:=hid (show ∀w,Calls prog 201 #[.int .i64 v] w fun e w'=>e= .returned (.bool b2)/\w=w' from fun w=>de▸GH v w);have hE:=afI af t v n;rw[dH,de]at hE;clear dH de;obtain⟨b3,eJ⟩:=aj (decide (n=0));have z0:((n:Int)==0)=b3:=by rw[<-eJ,an8];simp
 rw[eJ]at hE;have HE:=hid hE;clear hE eJ;rcases hF with rfl|rfl
 rotate_left
 focus
  have b0:=b0.below (al _ (.cells #[.int .i64 0,.int .i64 0,.string ⟨#[]⟩] 25));have B:=eZ B (.cells #[.int .i64 0,.int .i64 0,.string ⟨#[]⟩] 25);have CT:=DT;have CB:=DB;clear DT DB;cases b1<;>cases b2<;>cases b3
  all_goals
   go_in
   go_wp2_with (first|(go_at_call 321;refine(CT.out _).mono ?_;rintro e w1 ⟨rfl,E1⟩;have AJ:=b0.below E1;obtain⟨-, -, -, -, q4,q5⟩:=AJ.gw;have B:=B.trans (E1.mono B.size);clear AJ E1)|(go_at_call 201;refine(CB.out _).mono ?_;rintro e w2 ⟨rfl,rfl⟩))
 rotate_right
 focus
  clear DT DB;cases b1<;>cases b2<;>cases b3
  all_goals
   go_in
   go_wp2_with (first|(go_at_call 278;refine(CT.out _).mono ?_;rintro e w1 ⟨rfl,E1⟩;have AJ:=b0.below E1;obtain⟨-, -, -, -, q4,q5⟩:=AJ.gw;have B:=B.trans (E1.mono B.size);clear AJ E1)|(go_at_call 279;refine(CB.out _).mono ?_;rintro e w2 ⟨rfl,rfl⟩))
 all_goals
  go_ret;exact⟨aQ HE.out.symm,bC⟩
theorem afG(F:Nat)(hF:F=227\/F=274)(af:Int)(k:Int)(t:Th)(v:Int)(a:Option Addr)(n c:Nat)(hl:t.loc.length<=9223372036854775807)(hk:k≠2)(h:t≠bT\/v≠0)(w:World):Calls prog F #[.int .i64 af,.agg #[.int .i64 k,.int .i64 t.thread,.int .i64 t.az,.string (tx t.loc),.int .i64 v,.slice a n c]] w (aJ w (.bool (gE af k t v n))):=by
 have B:=al w (.cells #[.int .i64 k,.int .i64 t.thread,.int .i64 t.az,.string (tx t.loc),.int .i64 v,.slice a n c] 28);have HE:=hid (afK (af:=af) (n:=n) hk h);have NZ:=Wo t;have zk:(k==2)=false:=by simpa using hk
 have nj:(k != 2)=true:=by simpa using hk
 clear hk
 by_cases ht:t=bT
 ·have hv:v≠0:=by rcases h with h|h;exact absurd ht h;exact h
  have zv:(v != 0)=true:=by simpa using hv
  rw[decide_eq_true ht]at NZ;clear h ht hv;rcases hF with rfl|rfl
  focus
   go_in
  rotate_left
  focus
   go_in
  all_goals
   go_wp2;go_ret;exact⟨aQ HE.out.symm,bC⟩
 rw[decide_eq_false ht]at NZ
 clear h ht;rcases hF with rfl|rfl
 focus
  go_in
 rotate_left
 focus
  go_in
 all_goals
  go_wp2;go_ret;exact⟨aQ HE.out.symm,bC⟩
theorem afH(F:Nat)(hF:F=227\/F=274)(af k:Int)(a:Option Addr)(n c:Nat)(hk:k≠2)(w:World):Calls prog F #[.int .i64 af,.agg #[.int .i64 k,.int .i64 0,.int .i64 0,.string ⟨#[]⟩,.int .i64 0,.slice a n c]] w (aJ w (.bool (gE af k bT 0 n))):=by
 have B:=al w (.cells #[.int .i64 k,.int .i64 0,.int .i64 0,.string ⟨#[]⟩,.int .i64 0,.slice a n c] 28);have hE:=afL (af:=af) (n:=n) hk;have NZ:=Wo bT;rw[decide_eq_true rfl]at NZ;have NZ: ∀w,(binOp .neq 25 (.agg #[.int .i64 0,.int .i64 0,.string ⟨#[]⟩]) (.agg #[.int .i64 0,.int .i64 0,.string ⟨#[]⟩])).run prog w= .ok (.bool false) w:=NZ;have zk:(k==2)=false:=by simpa using hk
 have nj:(k != 2)=true:=by simpa using hk
 by_cases h1:k=1
 ·subst h1
  have e:gE af 1 bT 0 n=((n:Int)==0):=by rw[hE,if_pos rfl,an8];simp
  have HE:=hid e;clear e hE hk zk nj;rcases hF with rfl|rfl
  focus
   go_in
  rotate_left
  focus
   go_in
  all_goals
   go_wp2;go_ret;exact⟨aQ HE.out.symm,bC⟩
 by_cases h3:k=3
 ·subst h3
  have e:gE af 3 bT 0 n=((n:Int)==1):=by rw[hE,if_neg (by omega),if_pos rfl,an8];simp;omega
  have HE:=hid e;clear e hE hk zk nj h1;rcases hF with rfl|rfl
  focus
   go_in
  rotate_left
  focus
   go_in
  all_goals
   go_wp2;go_ret;exact⟨aQ HE.out.symm,bC⟩
 by_cases h45:k=4\/k=5
 ·have e:gE af k bT 0 n=decide (2<=n):=by rw[hE,if_neg h1,if_neg h3,if_pos h45]
  clear hE hk zk nj h1 h3;rcases h45 with rfl|rfl
  all_goals
   by_cases hn:2<=n
   ·rw[decide_eq_true hn]at e
    have zn:decide ((2:Int)<=n)=true:=decide_eq_true (by omega);have HE:=hid e;clear e;rcases hF with rfl|rfl
    focus
     go_in
    rotate_left
    focus
     go_in
    all_goals
     go_wp2;go_ret;exact⟨aQ (by rw[HE.out]),bC⟩
   rw[decide_eq_false hn]at e
   have zn:decide ((2:Int)<=n)=false:=decide_eq_false (by omega);have HE:=hid e;clear e;rcases hF with rfl|rfl
   focus
    go_in
   rotate_left
   focus
    go_in
   all_goals
    go_wp2;go_ret;exact⟨aQ (by rw[HE.out]),bC⟩
 have HE:=hid (show gE af k bT 0 n=false by rw[hE,if_neg h1,if_neg h3,if_neg h45])
 have z1:(k==1)=false:=by simpa using h1
 have z3:(k==3)=false:=by simpa using h3
 have z4:(k==4)=false:=ah;have z5:(k==5)=false:=ah;clear hE hk h1 h3 h45;rcases hF with rfl|rfl
 focus
  go_in
 rotate_left
 focus
  go_in
 all_goals
  go_wp2;go_ret;exact⟨aQ HE.out.symm,bC⟩
theorem Wb(F:Nat)(hF:F=227\/F=274)(af:Int)(x:Nd)(hl:x.th.loc.length<=9223372036854775807)(w:World):Calls prog F #[.int .i64 af,vN x] w (aJ w (.bool (gE af x.kind x.th x.val x.kids.length))):=by
 unfold vN;generalize x.kind=k;generalize x.th=t at*;generalize x.val=v
 by_cases h2:k=2
 ·subst h2;exact afF F hF af t v x.a x.kids.length x.c hl w
 by_cases hz:t=bT/\v=0
 ·obtain⟨rfl,rfl⟩:=hz
  exact afH F hF af k x.a x.kids.length x.c h2 w
 exact afG F hF af k t v x.a x.kids.length x.c hl h2 (by by_cases ht:t=bT;exact .inr (fun hv=>hz ⟨ht,hv⟩);exact .inl ht) w
theorem abF(af:Int)(x:Nd)(hl:x.th.loc.length<=9223372036854775807)(w:World):Calls prog 227 #[.int .i64 af,vN x] w (aJ w (.bool (gE af x.kind x.th x.val x.kids.length))):=Wb _ (.inl rfl) af x hl w
theorem ahM(af:Int)(x:Nd)(hl:x.th.loc.length<=9223372036854775807)(w:World):Calls prog 274 #[.int .i64 af,vN x] w (aJ w (.bool (gE af x.kind x.th x.val x.kids.length))):=Wb _ (.inr rfl) af x hl w
open Go.Sort
theorem abG(w:World):Calls prog 271 #[] w fun e w'=> ∃a,e= .returned (.slice a 15 15)/\sG w' a/\Below w.heap.size w w':=by
 have E:=al w (.cells #[.string ⟨#[69,65,88]⟩,.string ⟨#[69,66,88]⟩,.string ⟨#[69,67,88]⟩,.string ⟨#[69,68,88]⟩,.string ⟨#[69,83,73]⟩,.string ⟨#[69,68,73]⟩,.string ⟨#[69,66,80]⟩,.string ⟨#[82,56,68]⟩,.string ⟨#[82,57,68]⟩,.string ⟨#[82,49,48,68]⟩,.string ⟨#[82,49,49,68]⟩,.string ⟨#[82,49,50,68]⟩,.string ⟨#[82,49,51,68]⟩,.string ⟨#[82,49,52,68]⟩,.string ⟨#[82,49,53,68]⟩] 9);go_in;go_wp2;go_ret;refine⟨_,rfl,⟨⟨⟨fun _=>rfl,fun i hi=>?_⟩,by decide⟩⟩,E⟩;simp only[World.cell?,gv,gX,heap_alloc_new,ann];rw[if_neg (by simp)];exact List.getElem?_toArray
theorem ab8(af:Int)(k:Nat)(hk:(k:Int)<dO af)(w:World):Calls prog 211 #[.int .i64 af,.int .i64 k] w (aJ w (.string (tx (ek af k)))):=by
 by_cases h1:af=1
 ·subst h1
  have Bp:k<15:=by unfold dO at hk;rw[if_pos rfl]at hk;omega
  have h0:(0:Int)<=(k:Int):=by omega
  have h1:(k:Int)<15:=by omega
  have e:ek 1 k=cI k:=rfl;rw[e];clear e hk;go_in;go_wp2_with fail;refine(abG _).mono ?_;rintro e w1 ⟨a,rfl,T,B⟩;have ix:=T.idx Bp;have cx:=T.cell Bp;go_wp2;go_ret;exact⟨rfl,B⟩
 have z1:(af==1)=false:=by simpa using h1
 have e:ek af k=iu k:=by unfold ek;rw[if_neg h1]
 have Fz:k<32:=by unfold dO at hk;rw[if_neg h1]at hk;omega
 rw[e];have cx:=A6 k;clear e hk h1;go_in
 go_wp2_with (go_at_call 57;refine av (yt k (by omega) _) ?_)
 go_ret;exact⟨rfl,Below.refl _ _⟩
theorem aa8(k:Nat)(h:k<100): ∀w,(an9 .add ⟨#[82]⟩ (tx (lD k))).run prog w= .ok (.string (tx (82::lD k))) w:=wM [82] (lD k) (by have:=JX k;simp;omega)
theorem aa9(k:Nat)(h:k<100): ∀w,(an9 .add (tx (82::lD k)) ⟨#[68]⟩).run prog w= .ok (.string (tx (82::lD k++[68]))) w:=wM (82::lD k) [68] (by have:=JX k;simp;omega)
theorem aj6: ∀k:Fin 15,7<=k.val->82::lD (k.val+1)++[68]=cI k.val:=dx
theorem ahU(af:Int)(k:Nat)(hk:(k:Int)<dO af)(w:World):Calls prog 203 #[.int .i64 af,.int .i64 k] w (Ex w (.string (tx (ek af k)))):=by
 by_cases h1:af=1
 ·subst h1
  have Bp:k<15:=by unfold dO at hk;rw[if_pos rfl]at hk;omega
  have e:ek 1 k=cI k:=rfl;rw[e];clear e hk
  by_cases h7:7<=k
  ·have e:=aj6 ⟨k,Bp⟩ h7
   have z7:(7:Int)<=k:=by omega
   have c1:=aa8 (k+1) (by omega);simp only at e;have c2: ∀w,(an9 .add (tx (82::lD (k+1))) ⟨#[68]⟩).run prog w= .ok (.string (tx (cI k))) w:=fun w=>by rw[<-e];exact aa9 (k+1) (by omega) w
   have hI:=yt (k+1) (by omega);rw[show((k+1:Nat):Int)=(k:Int)+1 by omega]at hI;have hI:=hid hI;clear e;have hkk:(k:Int)+1<=100:=by omega
   go_in
   go_wp2_with (go_at_call 57;refine av (hI.out _) ?_)
   go_ret;exact⟨rfl,mj⟩
  have h:k=0\/k=1\/k=2\/k=3\/k=4\/k=5\/k=6:=by omega
  clear Bp h7;rcases h with rfl|rfl|rfl|rfl|rfl|rfl|rfl
  all_goals
   go_in;go_wp2;go_ret;exact⟨Di dx,mj⟩
 have z1:(af != 1)=true:=by simpa using h1
 have e:ek af k=iu k:=by unfold ek;rw[if_neg h1]
 have Fz:k<32:=by unfold dO at hk;rw[if_neg h1]at hk;omega
 rw[e];have cx:=A6 k;clear e hk h1;go_in
 go_wp2_with (go_at_call 57;refine av (yt k (by omega) _) ?_)
 go_ret;exact⟨rfl,mj⟩
def ud(af:Int)(l:List Nd)(met deep:Nat)(R:Nat × Int):Prop:=jl af l met deep=R
theorem ah1(af:Int): ∀(x:Nd) (met deep:Nat) (w:World),fW w x->met<=1024->deep<=64->
 Calls prog 217 #[.int .i64 af,vN x,.int .i64 met,.int .i64 deep] w (aJ w (.tuple #[.int .i64 ((eO af x met deep).1:Nat),.int .i64 (eO af x met deep).2])):=by
 intro x
 induction x using Nd.ind with
 |h x ih=>
 intro met deep w hI hm hd;have B:=al w (bN x);have b0:=l9.new w x;obtain⟨p,hp⟩:=aj (eO af x met deep);have hq:=hp;rw[DF]at hq;rw[hp];clear hp
 by_cases h1:1024<=met\/64<=deep
 ·rw[if_pos h1]at hq
  have HQ:=hid hq.symm;clear hq
  by_cases h2:1024<=met
  ·have z2:decide (1024<=met)=true:=decide_eq_true h2
   clear h1;go_in;go_wp2
   go_ret2
   exact⟨tI (by rw[HQ.out]) (by rw[HQ.out]),bC⟩
  have z2:decide (1024<=met)=false:=decide_eq_false h2
  have z3:decide (64<=deep)=true:=decide_eq_true (by omega);have h3:64<=deep:=by omega
  clear h1;go_in;go_wp2
  go_ret2
  exact⟨tI (by rw[HQ.out]) (by rw[HQ.out]),bC⟩
 rw[if_neg h1]at hq
 have h2:met<1024:=by omega
 have h3:deep<64:=by omega
 have z2:decide (1024<=met)=false:=decide_eq_false (by omega);have z3:decide (64<=deep)=false:=decide_eq_false (by omega);clear h1;obtain⟨mb,hmb⟩:=aj (gE af x.kind x.th x.val x.kids.length);rw[hmb]at hq;have CM:=hid (show ∀w,Calls prog 274 #[.int .i64 af,vN x] w (aJ w (.bool mb))from fun w=>hmb▸ahM af x hI.loc w);have HI:=hid hI;have qQ:=hid ih;clear hmb ih hI;cases mb
 ·rw[if_pos rfl]at hq
  have HQ:=hid hq.symm;clear hq;go_in;go_wp2_with fail;refine(CM.out _).mono ?_;rintro e w1 ⟨rfl,E1⟩;have B:=B.trans (E1.mono B.size);go_wp2
  go_ret2
  exact⟨tI (by rw[HQ.out]) (by rw[HQ.out]),bC⟩
 rw[if_neg (by simp)]at hq
 have HQ:=hid hq;clear hq;go_in;go_wp2_with fail;refine(CM.out _).mono ?_;rintro e w1 ⟨rfl,E1⟩;have b1:=b0.below E1;have HI1:=hid ((HI.out.keep B).keep E1);have B:=B.trans (E1.mono B.size);clear E1 b0;go_wp2
 go_loopw [2,10] (fun ms i wr=> ∃k m:Nat,k<=x.kids.length/\i= .int .i64 k/\ms= .int .i64 m/\m<=1024/\Below w1.heap.size w1 wr/\Hid (ud af (x.kids.drop k) m (deep+1) p)) (fun _ i _=>x.kids.length-(intOf i).toNat)
 ·exact⟨0,met+1,Nat.zero_le _,rfl,by go_num,by omega,Below.refl _ _,HQ.out⟩
 obtain⟨k,m,hk,rfl,rfl,tg,E,HR⟩:=hrel;have br:=b1.below E;have hlt:=br.1;obtain⟨q0,q1,q2,q3,q4,q5⟩:=br.cells
 by_cases hlk:k<x.kids.length
 ·obtain⟨y,hy⟩: ∃y,x.kids[k]? =some y:=⟨_,am9 hlk⟩
  have iI:=HI1.out.keep E;obtain⟨p0,p1,p2,p3,p4,p5⟩:=iI.els.nd hy;have ix:=iI.els.idx kG kN k hlk x.c;have US:=iI.jz y (anw hy);have CY:=qQ.out y (anw hy) m (deep+1) wr US tg (by omega);have hle:=Z7 af y m (deep+1) tg;have hst:=HR.out;unfold ud at hst;rw[Z4 hy]at hst;rw[show((deep+1:Nat):Int)=(deep:Int)+1 by omega]at CY;generalize eO af y m (deep+1)=r at*;obtain⟨m2,e2⟩:=r;simp only at hst CY hle;have CY:=hid CY;have hkl:=iI.els.len;clear hy US iI HR br
  by_cases he:e2=0
  ·subst he
   rw[if_pos rfl]at hst;have HST:=hid (show ud af (x.kids.drop (k+1)) m2 (deep+1) p from hst);clear hst;go_wp2_with fail;refine CY.out.mono ?_;rintro e w2 ⟨rfl,E2⟩;have E:=E.trans (E2.mono E.size);clear q0 q1 q2 q3 q4 q5 p0 p1 p2 p3 p4 p5 ix;go_wp2
   go_roundw;exact⟨k+1,m2,by omega,by go_num,rfl,hle,E,HST⟩;simp[intOf];omega
  rw[if_neg he]at hst
  have ze:(e2 != 0)=true:=by simpa using he
  have HST:=hid hst.symm;clear hst he;go_wp2_with fail;refine CY.out.mono ?_;rintro e w2 ⟨rfl,E2⟩;have E:=E.trans (E2.mono E.size);clear q0 q1 q2 q3 q4 q5 p0 p1 p2 p3 p4 p5 ix;go_wp2
  go_ret2
  have B:=B.trans (E.mono B.size);exact⟨tI (by rw[HST.out]) (by rw[HST.out]),bC⟩
 obtain rfl:k=x.kids.length:=by omega
 have hst:=HR.out;unfold ud at hst;rw[aob,DA]at hst;have HST:=hid hst.symm;clear hst HR;go_wp2
 go_ret2
 have B:=B.trans (E.mono B.size);exact⟨tI (by rw[HST.out]) (by rw[HST.out]),bC⟩
@[reducible] def vC(q:Int)(x:Nd):Value:=.agg #[.int .i64 q,.int .i64 x.kind,.int .i64 x.th.thread,.int .i64 x.th.az,.string (tx x.th.loc),.int .i64 x.val,.slice x.a x.kids.length x.c]
abbrev ki(q:Int)(x:Nd):Obj:=.cells #[.int .i64 q,.int .i64 x.kind,.int .i64 x.th.thread,.int .i64 x.th.az,.string (tx x.th.loc),.int .i64 x.val,.slice x.a x.kids.length x.c] 30
theorem RU(ha:bF af=true)(h1:1<=q)(h2:q<=3):cV af q x=(eO af x 0 0).2:=by
 unfold cV;rw[if_neg (by rw[ha];simp),if_neg (by omega)]
theorem Fg(ha:bF af=true)(h:q<1\/3<q):cV af q x=80:=by
 unfold cV;rw[if_neg (by rw[ha];simp),if_pos h]
theorem RP(ha:bF af=false):cV af q x=5:=by
 unfold cV;rw[if_pos ha]
theorem Nf(af q:Int)(x:Nd)(w:World)(hI:fW w x):
 Calls prog 131 #[.int .i64 af,vC q x] w (aJ w (.int .i64 (cV af q x))):=by
 have B:=al w (ki q x);obtain⟨ab,hab⟩:=aj (bF af);have CA:=hid (show ∀w,Calls prog 45 #[.int .i64 af] w fun e w'=>e= .returned (.bool ab)/\w=w' from fun w=>hab▸wI af w);cases ab
 ·have HE:=hid (RP (q:=q) (x:=x) hab)
  clear hab;go_in
  go_wp2_with (go_at_call 45;refine av (CA.out _) ?_)
  go_ret;exact⟨bQ HE.out.symm,bC⟩
 by_cases h1:q<1
 ·have HE:=hid (Fg (x:=x) hab (.inl h1))
  clear hab;go_in
  go_wp2_with (go_at_call 45;refine av (CA.out _) ?_)
  go_ret;exact⟨bQ HE.out.symm,bC⟩
 by_cases h2:q<=3
 ·have h1:1<=q:=by omega
  have CW:=ah1 af x 0 0 (w.alloc (ki q x)) (hI.keep B) (by omega) (by omega);have HE:=hid (RU (x:=x) hab h1 h2);generalize eO af x 0 0=r at*;obtain⟨m2,e2⟩:=r;have CW:=hid CW;clear hab hI;go_in
  go_wp2_with (first|(go_at_call 45;refine av (CA.out _) ?_)|(go_at_call 217;refine CW.out.mono ?_;rintro e w2 ⟨rfl,E2⟩;have B:=B.trans (E2.mono B.size);clear E2))
  go_ret;exact⟨bQ HE.out.symm,bC⟩
 have HE:=hid (Fg (q:=q) (x:=x) hab (.inr (by omega)))
 have h1:1<=q:=by omega
 clear hab;go_in
 go_wp2_with (go_at_call 45;refine av (CA.out _) ?_)
 go_ret;exact⟨bQ HE.out.symm,bC⟩
abbrev wkC(af:Int)(seen:Nat)(err:Int):List Value:=[.int .i64 af,.int .i64 seen,.int .i64 err]
abbrev nZ(w:World)(B bw:Nat)(af:Int)(seen:Nat)(err:Int):Prop:=Own w B 170 3 (an7 ⟨bw,0,none⟩) 1 1 (wkC af seen err)
theorem nZ.cells{B:Nat}{err:Int}{seen:Nat}(h:nZ w B bw af seen err):w.cell? ⟨bw,0,none⟩=an7 (.int .i64 af)/\w.cell? ⟨bw,1,none⟩=an7 (.int .i64 seen)/\w.cell? ⟨bw,2,none⟩=an7 (.int .i64 err)/\w.frozen? ⟨bw,1,none⟩=false/\w.frozen? ⟨bw,2,none⟩=false:=by
 have f1:=Own.frozen h (by simp) 1;have f2:=Own.frozen h (by simp) 2;have c0:=(Own.row h).cell 0 (by simp);have c1:=(Own.row h).cell 1 (by simp);have c2:=(Own.row h).cell 2 (by simp);simp only[gv,gX,ann]at f1 f2 c0 c1 c2;exact⟨c0,c1,c2,f1,f2⟩
theorem aA.step{l:List Value}(h:aA w b l)(hs:Step w w' (an7 ⟨bw,0,none⟩) (an7 ⟨bw,0,none⟩))(hne:b≠bw):aA w' b l:=by
 refine⟨Nat.lt_of_lt_of_le h.1 hs.grown.size,fun k hk=>?_⟩;have h1:=h.2 k hk;rw[am9 hk]at h1⊢;exact hs.grown.cell h1 (by simpa using hne)
def aaw(w0 w:World)(bw:Nat)(af:Int)(p:Nat × Int)(e:Ending)(w':World):Prop:=
 e= .returned (.bool (p.2==0))/\Step w w' (some ⟨bw,0,none⟩) (some ⟨bw,0,none⟩)/\ ∃s,nZ w' w0.heap.size bw af s p.2/\(p.2=0->s=p.1)
theorem aX(h:Below w.heap.size w w'):Step w w' (some ⟨bw,0,none⟩) (some ⟨bw,0,none⟩):=
 ⟨⟨h.os,h.tape,h.output,h.size,fun k hk _=>h.block k hk⟩,.inl rfl⟩
theorem abH(af:Int): ∀(x:Nd) (met deep bw:Nat) (w0 w:World),fW w0 x->Below w0.heap.size w0 w->nZ w w0.heap.size bw af met 0->met<=1024->deep<=64->
 Calls prog 143 #[.pointer (some ⟨bw,0,none⟩),vN x,.int .i64 deep] w (aaw w0 w bw af (eO af x met deep)):=by
 intro x
 induction x using Nd.ind with
 |h x ih=>
 intro met deep bw w0 w hI hB hO hm hd;obtain⟨p,hp⟩:=aj (eO af x met deep);have hq:=hp;rw[DF]at hq;rw[hp];clear hp;have hbw:w0.heap.size<=bw/\bw<w.heap.size:=by have:=Own.lt hO (by simp);simpa using this
 have B:=al w (bN x);have b0:aA (w.alloc (bN x)) w.heap.size (cN x):=aA.new w _ _;have oB:=Own.below hO B;have Zq:Step w (w.alloc (bN x)) (some ⟨bw,0,none⟩) (some ⟨bw,0,none⟩):=aX B;have hlt:w.heap.size<(w.alloc (bN x)).heap.size:=by simp
 have HI:=hid hI;have qQ:=hid ih;have HB:=hid hB;have HO:=hid hO;have xq:=hid hq;clear hI ih hB hO hq B;go_in
 go_upto_region 1 with(fail)
 generalize w.alloc (bN x)=W0 at*;obtain⟨c0,c1,c2,f1,f2⟩:=nZ.cells oB;obtain⟨o1,st1⟩:=Own.set oB (by simp) 1 (.int .i64 ((met:Int)+1));simp only[gv,gX,ann]at o1 st1;have b1:=b0.step st1 (by omega);have st1:=Zq.trans st1;have o1:nZ (W0.setCell ⟨bw,1,none⟩ (.int .i64 ((met:Int)+1))) w0.heap.size bw af (met+1) 0:=o1;clear b0 oB Zq;have QQ:=hid (anY b1 (anY st1 o1));clear b1 st1 o1;have hm9:(met:Int)<=1024:=by omega
 go_upto_region 2 with(fail)
 generalize TQ:W0.setCell ⟨bw,1,none⟩ (.int .i64 ((met:Int)+1))=W1 at*;clear TQ;obtain⟨b1,st1,o1⟩:=QQ.out;clear QQ c0 c1 c2 f1 f2;obtain⟨k0,k1,k2,j1,j2⟩:=nZ.cells o1;have hq:=xq.out;clear xq
 by_cases h1:1024<=met\/64<=deep
 ·rw[if_pos h1]at hq
  have HQ:=hid hq.symm;clear hq;obtain⟨o2,st2⟩:=Own.set o1 (by simp) 2 (.int .i64 2);simp only[gv,gX,ann]at o2 st2;have o2:nZ (W1.setCell ⟨bw,2,none⟩ (.int .i64 2)) w0.heap.size bw af (met+1) 2:=o2;have st2:=st1.trans st2;clear b1 st1 o1
  by_cases h2:1024<=met
  ·have z2:(1024:Int)<=met:=by omega
   clear h1;go_wp2_with fail;go_ret;exact⟨aQ (by rw[HQ.out];rfl),st2,_,by rw[HQ.out];exact o2,fun h=>by rw[HQ.out]at h;cases h⟩
  have z2:(met:Int)<1024:=by omega
  have h3:64<=deep:=by omega
  clear h1;go_wp2_with fail;go_ret;exact⟨aQ (by rw[HQ.out];rfl),st2,_,by rw[HQ.out];exact o2,fun h=>by rw[HQ.out]at h;cases h⟩
 rw[if_neg h1]at hq
 have h2:met<1024:=by omega
 have h3:deep<64:=by omega
 clear h1;obtain⟨mb,hmb⟩:=aj (gE af x.kind x.th x.val x.kids.length);rw[hmb]at hq;have CM:=hid (show ∀w,Calls prog 227 #[.int .i64 af,vN x] w (aJ w (.bool mb))from fun w=>hmb▸abF af x HI.out.loc w);clear hmb;have HQ:=hid hq;clear hq;have RR:=hid (anY b1 (anY st1 o1));obtain⟨q0,q1,q2,q3,q4,q5⟩:=b1.gw;clear b1 st1 o1;go_wp2_with fail;have cA:=fun(d:Nat) (os:Array Obj)=>Calls.regrown_of (yY (CM.out (grow (redrawn W1 d) os)))
 have q0:=cell_regrown q0;have q1:=cell_regrown q1;have q2:=cell_regrown q2;have q3:=cell_regrown q3;have q4:=cell_regrown q4;have q5:=cell_regrown q5;have k0:=cell_regrown k0;refine wp_region_quiet_below aN aN ?_
 repeat(go_big_quiet_step (exact cA _ _))
 refine wpQuiet_nil ?_;intro _ hw';obtain⟨⟨dq,cH⟩,hw''⟩:=hw';subst hw'';have qN:=below_regrown W1 dq cH;generalize grow (redrawn W1 dq) cH=wq at*;obtain⟨b1,st1,o1⟩:=RR.out;have b1:=b1.below qN;have o1:=Own.below o1 qN;have st1:=st1.trans (aX qN);clear q0 q1 q2 q3 q4 q5 k0 k1 k2 j1 j2 cA RR qN;have uF:=HQ.out;clear HQ;cases mb
 ·have HQ:=hid (show p=(met,(80:Int)) by simpa using uF.symm)
  clear uF;obtain⟨k0,k1,k2,j1,j2⟩:=nZ.cells o1;obtain⟨o2,st2⟩:=Own.set o1 (by simp) 2 (.int .i64 80);simp only[gv,gX,ann]at o2 st2;have o2:nZ (wq.setCell ⟨bw,2,none⟩ (.int .i64 80)) w0.heap.size bw af (met+1) 80:=o2;have st2:=st1.trans st2;clear b1 st1 o1;go_wp2_with fail;go_ret;exact⟨aQ (by rw[HQ.out];rfl),st2,_,by rw[HQ.out];exact o2,fun h=>by rw[HQ.out]at h;cases h⟩
 have HQ:=hid (show jl af x.kids (met+1) (deep+1)=p by simpa using uF)
 clear uF;simp only[Bool.not_true];obtain⟨b,hb⟩:=aj w.heap.size;rw[hb]at b1 hlt⊢;have dU:b≠bw:=by omega
 clear hb;have q5:=b1.get 5 _ rfl;go_wp2_with fail;clear q5
 go_loopw [43] (fun i wr=> ∃k m:Nat,k<=x.kids.length/\i= .int .i64 k/\m<=1024/\Step w wr (some ⟨bw,0,none⟩) (some ⟨bw,0,none⟩)/\aA wr b (cN x)/\nZ wr w0.heap.size bw af m 0/\Hid (ud af (x.kids.drop k) m (deep+1) p)) (fun i _=>x.kids.length-(intOf i).toNat)
 ·exact⟨0,met+1,Nat.zero_le _,rfl,by omega,st1,b1,o1,HQ.out⟩
 obtain⟨k,m,hk,rfl,tg,st,br,oW,HR⟩:=hrel;have q5:=br.get 5 _ rfl;have rC:=st.below HO.out HB.out HB.out.size;have iI:=HI.out.keep rC
 by_cases hlk:k<x.kids.length
 ·obtain⟨y,hy⟩: ∃y,x.kids[k]? =some y:=⟨_,am9 hlk⟩
  obtain⟨p0,p1,p2,p3,p4,p5⟩:=iI.els.nd hy;have ix:=iI.els.idx kG kN k hlk x.c;have hkl:=iI.els.len;have oA:=Own.below oW (al wr (bN y));have bA:=br.below (al wr (bN y));have sA:=st.trans (aX (al wr (bN y)));have CY:=qQ.out y (anw hy) m (deep+1) bw w0 (wr.alloc (bN y)) (HI.out.jz y (anw hy)) (rC.alloc rC.size _) oA tg (by omega);have hle:=Z7 af y m (deep+1) tg;have hst:=HR.out;unfold ud at hst;rw[Z4 hy]at hst;rw[show((deep+1:Nat):Int)=(deep:Int)+1 by omega]at CY;generalize eO af y m (deep+1)=r at*;obtain⟨m2,e2⟩:=r;simp only at hst hle;have CY:=hid CY;clear hy iI HR br oW oA st
  by_cases he:e2=0
  ·subst he
   rw[if_pos rfl]at hst;have HST:=hid (show ud af (x.kids.drop (k+1)) m2 (deep+1) p from hst);clear hst;go_wp2_with fail;refine CY.out.mono ?_;rintro e w2 ⟨rfl,s2,s,oS,hs⟩;obtain rfl:=hs rfl;have b2:=bA.step s2 dU;have st:=sA.trans s2;clear q5 p0 p1 p2 p3 p4 p5 ix sA bA s2;go_wp2_with fail
   go_roundw;exact⟨k+1,s,by omega,by go_num,hle,st,b2,oS,HST⟩;simp[intOf];omega
  rw[if_neg he]at hst
  have ze:(e2==0)=false:=by simpa using he
  have HST:=hid hst.symm;clear hst he;go_wp2_with fail;refine CY.out.mono ?_;rintro e w2 ⟨rfl,s2,s,oS, -⟩;have st:=sA.trans s2;simp only[ze];clear q5 p0 p1 p2 p3 p4 p5 ix sA bA s2;go_wp2_with fail;go_ret;exact⟨aQ (by rw[HST.out];exact ze.symm),st,s,by rw[HST.out];exact oS,fun h=>by rw[HST.out]at h;rw[show e2=0 from h]at ze;cases ze⟩
 obtain rfl:k=x.kids.length:=by omega
 have hst:=HR.out;unfold ud at hst;rw[aob,DA]at hst;have HST:=hid hst.symm;clear hst HR;go_wp2_with fail;go_ret;exact⟨aQ (by rw[HST.out];rfl),st,m,by rw[HST.out];exact oW,fun _=>by rw[HST.out]⟩
theorem Ff(af q:Int)(x:Nd)(w:World)(hI:fW w x):
 Calls prog 71 #[.int .i64 af,vC q x] w (aJ w (.int .i64 (cV af q x))):=by
 have B:=al w (ki q x);obtain⟨ab,hab⟩:=aj (bF af);have CA:=hid (show ∀w,Calls prog 142 #[.int .i64 af] w fun e w'=>e= .returned (.bool ab)/\w=w' from fun w=>hab▸xL af w);cases ab
 ·have HE:=hid (RP (q:=q) (x:=x) hab)
  clear hab;go_in
  go_wp2_with (go_at_call 142;refine av (CA.out _) ?_)
  go_ret;exact⟨bQ HE.out.symm,bC⟩
 by_cases h1:q<1
 ·have HE:=hid (Fg (x:=x) hab (.inl h1))
  clear hab;go_in
  go_wp2_with (go_at_call 142;refine av (CA.out _) ?_)
  go_ret;exact⟨bQ HE.out.symm,bC⟩
 by_cases h2:q<=3
 ·have h1:1<=q:=by omega
  have B2:=al (w.alloc (ki q x)) (.cells #[.int .i64 af,.int .i64 0,.int .i64 0] 170)
  have oW:nZ ((w.alloc (ki q x)).alloc (.cells #[.int .i64 af,.int .i64 0,.int .i64 0] 170)) (w.alloc (ki q x)).heap.size (w.alloc (ki q x)).heap.size af 0 0:=
   World.ownsRow_lit (w.alloc (ki q x)) #[.int .i64 af,.int .i64 0,.int .i64 0] 1 (Nat.le_refl _) cz (by simp)
  have CW:=abH af x 0 0 (w.alloc (ki q x)).heap.size (w.alloc (ki q x)) _ (hI.keep B) B2 oW (by omega) (by omega);have HE:=hid (RU (x:=x) hab h1 h2);generalize eO af x 0 0=r at*;obtain⟨m2,e2⟩:=r;have hsz:(w.alloc (ki q x)).heap.size=w.heap.size+1:=by simp
  have CW:=hid CW;have HO:=hid oW;have HS:=hid hsz;rw[hsz]at CW;clear hab hI oW hsz;go_in
  go_wp2_with (go_at_call 142;refine av (CA.out _) ?_)
  refine CW.out.mono ?_;rintro e w2 ⟨rfl,s2,s,oS, -⟩;have hO:=HO.out;rw[HS.out]at hO;have B3:=s2.below hO (by rw[<-HS.out];exact B2) (by simp);have B:=B.trans (B3.mono (by simp));obtain⟨c0,c1,c2,f1,f2⟩:=nZ.cells oS;clear oS s2 B2 B3 hO;go_wp2;go_ret;exact⟨bQ HE.out.symm,bC⟩
 have HE:=hid (Fg (q:=q) (x:=x) hab (.inr (by omega)))
 have h1:1<=q:=by omega
 clear hab;go_in
 go_wp2_with (go_at_call 142;refine av (CA.out _) ?_)
 go_ret;exact⟨bQ HE.out.symm,bC⟩
abbrev cC(q:Int)(x:Nd):List Value:=[.int .i64 q,.int .i64 x.kind,.int .i64 x.th.thread,.int .i64 x.th.az,.string (tx x.th.loc),.int .i64 x.val,.slice x.a x.kids.length x.c]
theorem aA.cC(h:aA w b (cC q x)):w.cell? ⟨b,0,none⟩=some (.int .i64 q)/\w.cell? ⟨b,1,none⟩=some (.int .i64 x.kind)/\w.cell? ⟨b,2,none⟩=some (.int .i64 x.th.thread)/\w.cell? ⟨b,3,none⟩=some (.int .i64 x.th.az)/\w.cell? ⟨b,4,none⟩=some (.string (tx x.th.loc))/\w.cell? ⟨b,5,none⟩=some (.int .i64 x.val)/\w.cell? ⟨b,6,none⟩=some (.slice x.a x.kids.length x.c):=
 ⟨h.get 0 _ rfl,h.get 1 _ rfl,h.get 2 _ rfl,h.get 3 _ rfl,h.get 4 _ rfl,h.get 5 _ rfl,h.get 6 _ rfl⟩
def Av(p s:Tx)(k:Nat):Prop:= ∀j:Nat,j<k-> ¬(kP ((j:Int)/3)=p/\kP ((j:Int)%3)=s)
theorem acF{k:Nat}(hk:k<9)(h1:kP ((k:Int)/3)=p)(h2:kP ((k:Int)%3)=s):sW p s=3+k:=by
 subst h1 h2;have: ∀k:Fin 9,sW (kP ((k.val:Int)/3)) (kP ((k.val:Int)%3))=3+(k.val:Int):=dx;exact this ⟨k,hk⟩
theorem acG(h:Av p s 9):sW p s=0:=by
 unfold sW;cases hp:lH p with
 |none=>rfl
 | some a=>
   cases hs:lH s with
   |none=>rfl
   | some b=>
     obtain⟨i,hi,rfl,h1⟩:=vJ hp;obtain⟨j,hj,rfl,h2⟩:=vJ hs;exfalso;have key: ∀i:Fin 3,∀j:Fin 3,([[114],[119],[114,119]]:List Tx)[i.val]? =some (kP (((3*i.val+j.val:Nat):Int)/3))/\([[114],[119],[114,119]]:List Tx)[j.val]? =some (kP (((3*i.val+j.val:Nat):Int)%3)):=dx;obtain⟨k1,k2⟩:=key ⟨i,hi⟩ ⟨j,hj⟩;simp only at k1 k2;rw[h1]at k1;rw[h2]at k2;exact h (3*i+j) (by omega) ⟨(an4 k1).symm,(an4 k2).symm⟩
theorem Av.step{k:Nat}(h:Av p s k)(hn: ¬(kP ((k:Int)/3)=p/\kP ((k:Int)%3)=s)):Av p s (k+1):=by
 intro j hj;rcases Nat.lt_succ_iff_lt_or_eq.1 hj with h'|h'
 ·exact h j h'
 subst h';exact hn
theorem ajJ(p s:Tx)(w:World):Calls prog 195 #[.string (tx p),.string (tx s)] w fun e w'=>e= .returned (.int .i64 (sW p s))/\w=w':=by
 go_in;go_wp2_with fail
 go_loop [5] (fun i=> ∃k:Nat,k<=9/\i= .int .i64 k/\Hid (Av p s k)) (fun i=>9-(intOf i).toNat)
 ·exact⟨0,by omega,rfl,fun j hj=>absurd hj (Nat.not_lt_zero j)⟩
 obtain⟨k,hk,rfl,HN⟩:=hrel
 by_cases hlt:k<9
 ·by_cases h1:kP ((k:Int)/3)=p
  ·have z1:((tx (kP ((k:Int)/3))).toList==(tx p).toList)=true:=by rw[iQ];simpa using h1
   by_cases h2:kP ((k:Int)%3)=s
   ·have z2:((tx (kP ((k:Int)%3))).toList==(tx s).toList)=true:=by rw[iQ];simpa using h2
    have HR:=hid (acF hlt h1 h2);clear h1 h2
    go_wp2_with (go_at_call 257;refine av (Ny _ _) ?_)
    go_ret;exact⟨bQ HR.out.symm,rfl⟩
   have z2:((tx (kP ((k:Int)%3))).toList==(tx s).toList)=false:=mY h2
   have HR:=hid (HN.out.step (fun h=>h2 h.2));clear h1 h2
   go_wp2_with (go_at_call 257;refine av (Ny _ _) ?_)
   go_round
   case rel=>exact⟨k+1,by omega,by go_num,HR⟩
   case measure=>simp[intOf];omega
  have z1:((tx (kP ((k:Int)/3))).toList==(tx p).toList)=false:=mY h1
  have HR:=hid (HN.out.step (fun h=>h1 h.1));clear h1
  go_wp2_with (go_at_call 257;refine av (Ny _ _) ?_)
  go_round
  case rel=>exact⟨k+1,by omega,by go_num,HR⟩
  case measure=>simp[intOf];omega
 obtain rfl:k=9:=by omega
 have HR:=hid (acG HN.out);go_wp2;go_ret;exact⟨bQ HR.out.symm,rfl⟩
end Go.Proofs.YtkbbgjloifmmbaaGreatDoor

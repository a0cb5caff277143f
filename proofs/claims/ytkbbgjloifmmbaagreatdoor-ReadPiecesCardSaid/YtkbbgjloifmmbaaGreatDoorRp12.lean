/- What ReadPiecesP leans on, part 12. -/
import Derived.Test.YtkbbgjloifmmbaaGreatDoorRp11
import Derived.Deep.RegionHeld3
import Derived.Laws.IdiomCopy
set_option linter.unusedVariables false
set_option maxRecDepth 100000
set_option maxHeartbeats 3200000
namespace Go.Proofs.YtkbbgjloifmmbaaGreatDoor
open Go.RowKit
attribute [local go_sem high] eqTh neqTh
theorem mayN_2(arch:Int)(t:Th)(v:Int)(n:Nat):mayN arch 2 t v n=(thingB arch t&&n32B v&&decide (n=0)):=rfl
theorem mayN_no{arch k:Int}{t:Th}{v:Int}{n:Nat}(hk:k≠2)(h:t≠zTh\/v≠0):mayN arch k t v n=false:=by
 unfold mayN;rw[if_neg hk];rcases h with h|h
 ·rw[decide_eq_false h];simp
 ·rw[decide_eq_false h];simp
theorem mayN_z{arch k:Int}{n:Nat}(hk:k≠2):mayN arch k zTh 0 n=(if k=1 then decide (n=0)else if k=3 then decide (n=1)else if k=4\/k=5 then decide (2<=n)else false):=by
 unfold mayN;rw[if_neg hk];simp
theorem neq_zTh(t:Th)(w:World):(binOp .neq 25 (vTh t) (.agg #[.int .i64 0,.int .i64 0,.string ⟨#[]⟩])).run Tryz.prog w= .ok (.bool (!decide (t=zTh))) w:=neqTh t zTh w
theorem condMay_2(arch:Int)(t:Th)(v:Int)(a:Option Addr)(n c:Nat)(hl:t.loc.length<=9223372036854775807)(w:World):Calls Tryz.prog 227 #[.int .i64 arch,.agg #[.int .i64 2,.int .i64 t.thread,.int .i64 t.reg,.string (tx t.loc),.int .i64 v,.slice a n c]] w (Ret w (.bool (mayN arch 2 t v n))):=by
 have B:=al w (.cells #[.int .i64 2,.int .i64 t.thread,.int .i64 t.reg,.string (tx t.loc),.int .i64 v,.slice a n c] 28);have b0:=BxL.new w #[.int .i64 2,.int .i64 t.thread,.int .i64 t.reg,.string (tx t.loc),.int .i64 v,.slice a n c] 28;obtain⟨b1,hb1⟩: ∃b1,thingB arch t=b1:=⟨_,rfl⟩;obtain⟨b2,hb2⟩: ∃b2,n32B v=b2:=⟨_,rfl⟩;have CT:=hid (show ∀w,Calls Tryz.prog 278 #[.int .i64 arch,vTh t] w (Ret w (.bool b1))from fun w=>hb1▸condThing arch t hl w);have CB:=hid (show ∀w,Calls Tryz.prog 279 #[.int .i64 v] w fun e w'=>e= .returned (.bool b2)/\w=w' from fun w=>hb2▸condNumber v w);have hE:=mayN_2 arch t v n;rw[hb1,hb2]at hE;clear hb1 hb2
 by_cases h0:n=0
 ·subst h0
  cases b1<;>cases b2
  all_goals
   have HE:=hid hE;clear hE;simp only[Bool.and_true,Bool.and_false,decide_true]at HE;go_enter Tryz.func227,Tryz.ntmps227
   go_wp2_with (first|(go_at_call 278;refine(CT.out _).mono ?_;rintro e w1 ⟨rfl,E1⟩;have b1':=b0.below E1;have q4:=b1'.get 4 _ rfl;have q5:=b1'.get 5 _ rfl;have B:=B.trans (E1.mono B.size);clear b1' E1)|(go_at_call 279;refine(CB.out _).mono ?_;rintro e w2 ⟨rfl,rfl⟩))
   go_ret;exact⟨ret_bool HE.out.symm,blN⟩
 ·have z0:((n:Int)==0)=false:=by simpa using h0
  rw[decide_eq_false h0]at hE;clear h0;cases b1<;>cases b2
  all_goals
   have HE:=hid hE;clear hE;simp only[Bool.and_true,Bool.and_false]at HE;go_enter Tryz.func227,Tryz.ntmps227
   go_wp2_with (first|(go_at_call 278;refine(CT.out _).mono ?_;rintro e w1 ⟨rfl,E1⟩;have b1':=b0.below E1;have q4:=b1'.get 4 _ rfl;have q5:=b1'.get 5 _ rfl;have B:=B.trans (E1.mono B.size);clear b1' E1)|(go_at_call 279;refine(CB.out _).mono ?_;rintro e w2 ⟨rfl,rfl⟩))
   go_ret;exact⟨ret_bool HE.out.symm,blN⟩
theorem condMay_no(arch:Int)(k:Int)(t:Th)(v:Int)(a:Option Addr)(n c:Nat)(hl:t.loc.length<=9223372036854775807)(hk:k≠2)(h:t≠zTh\/v≠0)(w:World):Calls Tryz.prog 227 #[.int .i64 arch,.agg #[.int .i64 k,.int .i64 t.thread,.int .i64 t.reg,.string (tx t.loc),.int .i64 v,.slice a n c]] w (Ret w (.bool (mayN arch k t v n))):=by
 have B:=al w (.cells #[.int .i64 k,.int .i64 t.thread,.int .i64 t.reg,.string (tx t.loc),.int .i64 v,.slice a n c] 28);have HE:=hid (mayN_no (arch:=arch) (n:=n) hk h);have NZ:=neq_zTh t;have zk:(k==2)=false:=by simpa using hk
 have zk2:(k != 2)=true:=by simpa using hk
 clear hk
 by_cases ht:t=zTh
 ·have hv:v≠0:=by rcases h with h|h;exact absurd ht h;exact h
  have zv:(v != 0)=true:=by simpa using hv
  rw[decide_eq_true ht]at NZ;clear h ht hv;go_enter Tryz.func227,Tryz.ntmps227;go_wp2_with fail;go_ret;exact⟨ret_bool HE.out.symm,blN⟩
 ·rw[decide_eq_false ht]at NZ
  clear h ht;go_enter Tryz.func227,Tryz.ntmps227;go_wp2_with fail;go_ret;exact⟨ret_bool HE.out.symm,blN⟩
theorem condMay_z(arch k:Int)(a:Option Addr)(n c:Nat)(hk:k≠2)(w:World):Calls Tryz.prog 227 #[.int .i64 arch,.agg #[.int .i64 k,.int .i64 0,.int .i64 0,.string ⟨#[]⟩,.int .i64 0,.slice a n c]] w (Ret w (.bool (mayN arch k zTh 0 n))):=by
 have B:=al w (.cells #[.int .i64 k,.int .i64 0,.int .i64 0,.string ⟨#[]⟩,.int .i64 0,.slice a n c] 28);have hE:=mayN_z (arch:=arch) (n:=n) hk;have NZ:=neq_zTh zTh;rw[decide_eq_true rfl]at NZ;have NZ: ∀w,(binOp .neq 25 (.agg #[.int .i64 0,.int .i64 0,.string ⟨#[]⟩]) (.agg #[.int .i64 0,.int .i64 0,.string ⟨#[]⟩])).run Tryz.prog w= .ok (.bool false) w:=NZ;have zk:(k==2)=false:=by simpa using hk
 have zk2:(k != 2)=true:=by simpa using hk
 by_cases h1:k=1
 ·subst h1
  have e:mayN arch 1 zTh 0 n=((n:Int)==0):=by rw[hE,if_pos rfl,Bool.eq_iff_iff];simp
  have HE:=hid e;clear e hE hk zk zk2;go_enter Tryz.func227,Tryz.ntmps227;go_wp2_with fail;go_ret;exact⟨ret_bool HE.out.symm,blN⟩
 by_cases h3:k=3
 ·subst h3
  have e:mayN arch 3 zTh 0 n=((n:Int)==1):=by rw[hE,if_neg (by omega),if_pos rfl,Bool.eq_iff_iff];simp;omega
  have HE:=hid e;clear e hE hk zk zk2 h1;go_enter Tryz.func227,Tryz.ntmps227;go_wp2_with fail;go_ret;exact⟨ret_bool HE.out.symm,blN⟩
 by_cases h45:k=4\/k=5
 ·have e:mayN arch k zTh 0 n=decide (2<=n):=by rw[hE,if_neg h1,if_neg h3,if_pos h45]
  clear hE hk zk zk2 h1 h3;rcases h45 with rfl|rfl
  all_goals
   by_cases hn:2<=n
   ·rw[decide_eq_true hn]at e
    have zn:decide ((2:Int)<=n)=true:=decide_eq_true (by omega);have HE:=hid e;clear e;go_enter Tryz.func227,Tryz.ntmps227;go_wp2_with fail;go_ret;exact⟨ret_bool (by rw[HE.out]),blN⟩
   ·rw[decide_eq_false hn]at e
    have zn:decide ((2:Int)<=n)=false:=decide_eq_false (by omega);have HE:=hid e;clear e;go_enter Tryz.func227,Tryz.ntmps227;go_wp2_with fail;go_ret;exact⟨ret_bool (by rw[HE.out]),blN⟩
 ·have HE:=hid (show mayN arch k zTh 0 n=false by rw[hE,if_neg h1,if_neg h3,if_neg h45])
  have z1:(k==1)=false:=by simpa using h1
  have z3:(k==3)=false:=by simpa using h3
  have z4:(k==4)=false:=by simp;omega
  have z5:(k==5)=false:=by simp;omega
  clear hE hk h1 h3 h45;go_enter Tryz.func227,Tryz.ntmps227;go_wp2_with fail;go_ret;exact⟨ret_bool HE.out.symm,blN⟩
theorem condMay(arch:Int)(x:Nd)(hl:x.th.loc.length<=9223372036854775807)(w:World):Calls Tryz.prog 227 #[.int .i64 arch,vN x] w (Ret w (.bool (mayN arch x.kind x.th x.val x.kids.length))):=by
 unfold vN;generalize x.kind=k;generalize x.th=t at*;generalize x.val=v
 by_cases h2:k=2
 ·subst h2;exact condMay_2 arch t v x.a x.kids.length x.c hl w
 by_cases hz:t=zTh/\v=0
 ·obtain⟨rfl,rfl⟩:=hz
  exact condMay_z arch k x.a x.kids.length x.c h2 w
 ·exact condMay_no arch k t v x.a x.kids.length x.c hl h2 (by by_cases ht:t=zTh;exact .inr (fun hv=>hz ⟨ht,hv⟩);exact .inl ht) w
end Go.Proofs.YtkbbgjloifmmbaaGreatDoor
namespace Go.Proofs.YtkbbgjloifmmbaaGreatDoor
open Go.RowKit Go.Sort
theorem namesX_get{k:Nat}(h:k<15)(h':k<namesX.length):namesX[k]=regX k:=by
 unfold regX;rw[List.getD_eq_getElem?_getD,List.getElem?_eq_getElem h'];rfl
structure NamesX(w:World)(a:Option Addr):Prop where
 txs:Txs w a namesX
theorem NamesX.cell{w:World}{a:Option Addr}(h:NamesX w a){k:Nat}(hk:k<15):w.cell? ⟨bk a,fo a+k,none⟩=some (.string (tx (regX k))):=by
 rw[h.txs.cell k (show k<namesX.length from hk),namesX_get hk]
theorem NamesX.idx{w:World}{a:Option Addr}(h:NamesX w a){k:Nat}(hk:k<15): ∀w',(Instr.indexAt 42 (.slice a 15 15) (.int .i64 k)).run Tryz.prog w'= .ok (.pointer (some ⟨bk a,fo a+k,none⟩)) w':=h.txs.idx k hk 15
theorem NamesX.below{w w':World}{a:Option Addr}(h:NamesX w a)(hb:Below w.heap.size w w'):NamesX w' a:=⟨h.txs.below hb⟩
theorem r9Names(w:World):Calls Tryz.prog 216 #[] w fun e w'=> ∃a,e= .returned (.slice a 15 15)/\NamesX w' a/\Below w.heap.size w w':=by
 have E:=al w (.cells #[.string ⟨#[69,65,88]⟩,.string ⟨#[69,66,88]⟩,.string ⟨#[69,67,88]⟩,.string ⟨#[69,68,88]⟩,.string ⟨#[69,83,73]⟩,.string ⟨#[69,68,73]⟩,.string ⟨#[69,66,80]⟩,.string ⟨#[82,56,68]⟩,.string ⟨#[82,57,68]⟩,.string ⟨#[82,49,48,68]⟩,.string ⟨#[82,49,49,68]⟩,.string ⟨#[82,49,50,68]⟩,.string ⟨#[82,49,51,68]⟩,.string ⟨#[82,49,52,68]⟩,.string ⟨#[82,49,53,68]⟩] 9);go_enter Tryz.func216,Tryz.ntmps216;go_wp2_with fail;go_ret;refine⟨_,rfl,⟨⟨⟨fun _=>rfl,fun i hi=>?_⟩,by decide⟩⟩,E⟩;simp only[World.cell?,bk_some,fo_some,heap_alloc_new,Nat.zero_add];rw[if_neg (by simp)];exact List.getElem?_toArray
theorem condNames(w:World):Calls Tryz.prog 271 #[] w fun e w'=> ∃a,e= .returned (.slice a 15 15)/\NamesX w' a/\Below w.heap.size w w':=by
 have E:=al w (.cells #[.string ⟨#[69,65,88]⟩,.string ⟨#[69,66,88]⟩,.string ⟨#[69,67,88]⟩,.string ⟨#[69,68,88]⟩,.string ⟨#[69,83,73]⟩,.string ⟨#[69,68,73]⟩,.string ⟨#[69,66,80]⟩,.string ⟨#[82,56,68]⟩,.string ⟨#[82,57,68]⟩,.string ⟨#[82,49,48,68]⟩,.string ⟨#[82,49,49,68]⟩,.string ⟨#[82,49,50,68]⟩,.string ⟨#[82,49,51,68]⟩,.string ⟨#[82,49,52,68]⟩,.string ⟨#[82,49,53,68]⟩] 9);go_enter Tryz.func271,Tryz.ntmps271;go_wp2_with fail;go_ret;refine⟨_,rfl,⟨⟨⟨fun _=>rfl,fun i hi=>?_⟩,by decide⟩⟩,E⟩;simp only[World.cell?,bk_some,fo_some,heap_alloc_new,Nat.zero_add];rw[if_neg (by simp)];exact List.getElem?_toArray
theorem condRegister(arch:Int)(k:Nat)(hk:(k:Int)<regsN arch)(w:World):Calls Tryz.prog 211 #[.int .i64 arch,.int .i64 k] w (Ret w (.string (tx (regA arch k)))):=by
 by_cases h1:arch=1
 ·subst h1
  have h15:k<15:=by unfold regsN at hk;rw[if_pos rfl]at hk;omega
  have h0:(0:Int)<=(k:Int):=by omega
  have h1:(k:Int)<15:=by omega
  have e:regA 1 k=regX k:=rfl;rw[e];clear e hk;go_enter Tryz.func211,Tryz.ntmps211;go_wp2_with fail;refine(condNames _).mono ?_;rintro e w1 ⟨a,rfl,T,B⟩;have ix:=T.idx h15;have cx:=T.cell h15;go_wp2_with fail;go_ret;exact⟨rfl,B⟩
 ·have z1:(arch==1)=false:=by simpa using h1
  have e:regA arch k=regT k:=by unfold regA;rw[if_neg h1]
  have h32:k<32:=by unfold regsN at hk;rw[if_neg h1]at hk;omega
  rw[e];have cx:=cat_x k;clear e hk h1;go_enter Tryz.func211,Tryz.ntmps211
  go_wp2_with (go_at_call 57;refine(itoa_small k (by omega) _).mono ?_;rintro e w' ⟨rfl,rfl⟩)
  go_ret;exact⟨rfl,Below.refl _ _⟩
theorem cat_R(k:Nat)(h:k<100): ∀w,(Op.stringOp .add ⟨#[82]⟩ (tx (decN k))).run Tryz.prog w= .ok (.string (tx (82::decN k))) w:=run_cat [82] (decN k) (by have:=decN_len k;simp;omega)
theorem cat_RD(k:Nat)(h:k<100): ∀w,(Op.stringOp .add (tx (82::decN k)) ⟨#[68]⟩).run Tryz.prog w= .ok (.string (tx (82::decN k++[68]))) w:=run_cat (82::decN k) [68] (by have:=decN_len k;simp;omega)
theorem regX_hi_fin: ∀k:Fin 15,7<=k.val->82::decN (k.val+1)++[68]=regX k.val:=by decide+kernel
theorem r08Reg(arch:Int)(k:Nat)(hk:(k:Int)<regsN arch)(w:World):Calls Tryz.prog 203 #[.int .i64 arch,.int .i64 k] w (RetQ w (.string (tx (regA arch k)))):=by
 by_cases h1:arch=1
 ·subst h1
  have h15:k<15:=by unfold regsN at hk;rw[if_pos rfl]at hk;omega
  have e:regA 1 k=regX k:=rfl;rw[e];clear e hk
  by_cases h7:7<=k
  ·have e:=regX_hi_fin ⟨k,h15⟩ h7
   have z7:(7:Int)<=k:=by omega
   have c1:=cat_R (k+1) (by omega);simp only at e;have c2: ∀w,(Op.stringOp .add (tx (82::decN (k+1))) ⟨#[68]⟩).run Tryz.prog w= .ok (.string (tx (regX k))) w:=fun w=>by rw[<-e];exact cat_RD (k+1) (by omega) w
   have hI:=itoa_small (k+1) (by omega);rw[show((k+1:Nat):Int)=(k:Int)+1 by omega]at hI;have hI:=hid hI;clear e;have hkk:(k:Int)+1<=100:=by omega
   go_enter Tryz.func203,Tryz.ntmps203
   go_wp2_with (go_at_call 57;refine(hI.out _).mono ?_;rintro e w' ⟨rfl,rfl⟩)
   go_ret;exact⟨rfl,(by repeat(first|exact QW.refl _|refine QW.d ?_ _))⟩
  ·have h:k=0\/k=1\/k=2\/k=3\/k=4\/k=5\/k=6:=by omega
   clear h15 h7;rcases h with rfl|rfl|rfl|rfl|rfl|rfl|rfl
   all_goals
    go_enter Tryz.func203,Tryz.ntmps203;go_wp2_with fail;go_ret;exact⟨ret_str (by decide+kernel),(by repeat(first|exact QW.refl _|refine QW.d ?_ _))⟩
 ·have z1:(arch != 1)=true:=by simpa using h1
  have e:regA arch k=regT k:=by unfold regA;rw[if_neg h1]
  have h32:k<32:=by unfold regsN at hk;rw[if_neg h1]at hk;omega
  rw[e];have cx:=cat_x k;clear e hk h1;go_enter Tryz.func203,Tryz.ntmps203
  go_wp2_with (go_at_call 57;refine(itoa_small k (by omega) _).mono ?_;rintro e w' ⟨rfl,rfl⟩)
  go_ret;exact⟨rfl,(by repeat(first|exact QW.refl _|refine QW.d ?_ _))⟩
end Go.Proofs.YtkbbgjloifmmbaaGreatDoor
namespace Go.Proofs.YtkbbgjloifmmbaaGreatDoor
open Go.RowKit
theorem run_prefix(l p:Tx)(w:World):Calls Tryz.prog 94 #[.string (tx l),.string (tx p)] w fun e w'=>e= .returned (.bool (Lib.hasPrefix l p))/\Below w.heap.size w w':=by
 refine(Any.strings_HasPrefix Tryz.l99 (tx l) (tx p) w).mono ?_;rintro e w' h;obtain⟨h1,h2⟩:=h;rw[tx_data,tx_data]at h1;exact⟨h1,by first|(subst h2;exact Below.refl _ _)|(obtain⟨n,rfl⟩:=h2;exact below_drewN _ _)⟩
theorem condLong1(c:UInt8)(w:World):Calls Tryz.prog 296 #[.int .u8 c.toNat] w fun e w'=>e= .returned (.bool (nameC c))/\w=w':=by
 by_cases h1:letterC c=true
 ·have H1:=hid h1
  have HN:=hid (show nameC c=true by unfold nameC;rw[h1];rfl);clear h1;go_enter Tryz.func296,Tryz.ntmps296
  go_wp2_with (go_at_call 297;refine(condLetter c _).mono ?_;rintro e w' ⟨rfl,rfl⟩;rw[H1.out])
  go_ret;exact⟨ret_bool HN.out.symm,rfl⟩
 ·have H1:=hid (Bool.eq_false_iff.2 h1)
  clear h1
  by_cases h2:digitC c=true
  ·have H2:=hid h2
   have HN:=hid (show nameC c=true by unfold nameC;rw[h2];simp);clear h2;go_enter Tryz.func296,Tryz.ntmps296
   go_wp2_with (first|(go_at_call 297;refine(condLetter c _).mono ?_;rintro e w' ⟨rfl,rfl⟩;rw[H1.out])|(go_at_call 298;refine(condDigit c _).mono ?_;rintro e w' ⟨rfl,rfl⟩;rw[H2.out]))
   go_ret;exact⟨ret_bool HN.out.symm,rfl⟩
  ·have H2:=hid (Bool.eq_false_iff.2 h2)
   have HN:=hid (show(decide (((c.toNat:Nat):Int)=95))=nameC c by
    rw[nameX_nat,H1.out,H2.out];simp only[Bool.false_or,decide_eq_decide]
    omega)
   clear h2;go_enter Tryz.func296,Tryz.ntmps296
   go_wp2_with (first|(go_at_call 297;refine(condLetter c _).mono ?_;rintro e w' ⟨rfl,rfl⟩;rw[H1.out])|(go_at_call 298;refine(condDigit c _).mono ?_;rintro e w' ⟨rfl,rfl⟩;rw[H2.out]))
   go_ret;exact⟨ret_bool (by rw[<-HN.out];first|rfl|(rw[Bool.eq_iff_iff];simp)),rfl⟩
theorem run_stop{p:UInt8->Bool}{c:UInt8}{r:Tx}{k:Nat}(hk:k<=r.length)(h: ∀(i:Nat) (x:UInt8),i<k->r[i]? =some x->p x=true)(hs: ∀x,r[k]? =some x->p x=false):(r.takeWhile p).length=k:=by
 have e:r=r.take k++r.drop k:=(List.take_append_drop _ _).symm
 have h1: ∀x∈r.take k,p x=true:=fun x hx=>by
  obtain⟨i,hi⟩:=List.mem_iff_getElem?.1 hx;have hlt:i<k:=by have:=(List.getElem?_eq_some_iff.1 hi).1;simp at this;omega
  rw[List.getElem?_take_of_lt hlt]at hi;exact h i x hlt hi
 rw[e,List.takeWhile_append_of_pos h1]
 have h2:(r.drop k).takeWhile p=[]:=by
  cases hd:r.drop k with
  |nil=>rfl
  | cons y t=>
    have:r[k]? =some y:=by
     have:=List.getElem?_drop (xs:=r) (i:=k) (j:=0);rw[hd]at this;simpa using this.symm
    rw[List.takeWhile_cons,if_neg (by rw[hs y this];decide)]
 rw[h2,List.append_nil,List.length_take,Nat.min_eq_left hk]
theorem long_letter{c:UInt8}{r:Tx}(h:letterC c=true){k:Nat}(e:(r.takeWhile nameC).length=k):longT (c::r)=1+k:=by rw[longT_eq];rw[if_pos h,e]
theorem long_digit{c:UInt8}{r:Tx}(h:letterC c=false)(h2:digitC c=true){k:Nat}(e:(r.takeWhile digitC).length=k):longT (c::r)=1+k:=by rw[longT_eq];rw[if_neg (by rw[h];decide),if_pos (by rw[h2];rfl),e]
theorem long_minus{c:UInt8}{r:Tx}(h:c=45/\r.head?.any digitC=true){k:Nat}(e:(r.takeWhile digitC).length=k):longT (c::r)=1+k:=by obtain⟨rfl,h2⟩:=h;rw[longT_eq];rw[if_neg (by decide),if_pos (by rw[h2];rfl),e]
theorem condLong_letter(c:UInt8)(r:Tx)(hc:letterC c=true)(hl:r.length+1<=9223372036854775807)(w:World):Calls Tryz.prog 235 #[.string (tx (c::r))] w fun e w'=>e= .returned (.int .i64 (longT (c::r)))/\w=w':=by
 have hs:=tx_size (c::r);obtain⟨n,hn⟩: ∃n,(tx (c::r)).size=n:=⟨_,rfl⟩;have HNL:=hid (show n=r.length+1 by rw[<-hn,hs];simp);have i0:=run_ixz (c::r) c rfl;have HC:=hid hc;have HC2:=hid hc;clear hc;clear hs;go_enter Tryz.func235,Tryz.ntmps235
 go_wp2_with ((go_at_call 297;refine(condLetter c _).mono ?_;rintro e w' ⟨rfl,rfl⟩;rw[HC.out]))
 go_loop [4] (fun i=> ∃k:Nat,k<=r.length/\i= .int .i64 ((k:Int)+1)/\Hid (∀(i:Nat) (x:UInt8),i<k->r[i]? =some x->nameC x=true)) (fun i=>r.length+1-(intOf i).toNat)
 case atStart=>exact⟨0,by omega,by go_num,fun i x hi=>absurd hi (Nat.not_lt_zero i)⟩
 case round=>
  obtain⟨k,hk,rfl,HM⟩:=hrel
  by_cases hlt:k<r.length
  ·obtain⟨x,hx⟩: ∃x,r[k]? =some x:=⟨_,List.getElem?_eq_getElem hlt⟩
   have ix:=run_ix (c::r) (k+1) x (by simpa using hx);rw[show((k+1:Nat):Int)=(k:Int)+1 by omega]at ix;have HX:=hid hx;have zl:decide ((k:Int)+1<(n:Int))=true:=by have:=HNL.out;simp;omega
   clear hx;cases hp:nameC x with
   | true=>
     have HP:=hid hp
     have HM2:=hid (show ∀(i:Nat) (y:UInt8),i<k+1->r[i]? =some y->nameC y=true from fun i y hi hy=>by
      rcases Nat.lt_succ_iff_lt_or_eq.1 hi with h|h
      ·exact HM.out i y h hy
      ·subst h;rw[HX.out]at hy;cases hy;exact HP.out)
     clear hp
     go_wp2_with (go_at_call 296;refine(condLong1 x _).mono ?_;rintro e w' ⟨rfl,rfl⟩;rw[HP.out])
     go_round
     case rel=>exact⟨k+1,by omega,by go_num,HM2⟩
     case measure=>simp[intOf];omega
   | false=>
     have HP:=hid hp;have HF:=hid (long_letter HC.out (run_stop (c:=c) hk HM.out (fun y hy=>by rw[HX.out]at hy;cases hy;exact HP.out)));clear hp
     go_wp2_with (go_at_call 296;refine(condLong1 x _).mono ?_;rintro e w' ⟨rfl,rfl⟩;rw[HP.out])
     go_ret;exact⟨ret_int (by rw[HF.out];omega),rfl⟩
  ·obtain rfl:k=r.length:=by omega
   have HF:=hid (long_letter HC.out (run_stop (c:=c) hk HM.out (fun y hy=>by rw[List.getElem?_eq_none (Nat.le_refl _)]at hy;cases hy)));have zl:decide ((r.length:Int)+1<(n:Int))=false:=by have:=HNL.out;simp;omega
   go_wp2_with fail;go_ret;exact⟨ret_int (by rw[HF.out];omega),rfl⟩
theorem condLong_digit(c:UInt8)(r:Tx)(hc:letterC c=false)(hd:digitC c=true)(hl:r.length+1<=9223372036854775807)(w:World):Calls Tryz.prog 235 #[.string (tx (c::r))] w fun e w'=>e= .returned (.int .i64 (longT (c::r)))/\w=w':=by
 have hs:=tx_size (c::r);obtain⟨n,hn⟩: ∃n,(tx (c::r)).size=n:=⟨_,rfl⟩;have HNL:=hid (show n=r.length+1 by rw[<-hn,hs];simp);have i0:=run_ixz (c::r) c rfl;have HC:=hid hc;have HD:=hid hd;clear hc hd;clear hs;go_enter Tryz.func235,Tryz.ntmps235
 go_wp2_with (first|(go_at_call 297;refine(condLetter c _).mono ?_;rintro e w' ⟨rfl,rfl⟩;rw[HC.out])|(go_at_call 298;refine(condDigit c _).mono ?_;rintro e w' ⟨rfl,rfl⟩;rw[HD.out]))
 go_loop [4] (fun i=> ∃k:Nat,k<=r.length/\i= .int .i64 ((k:Int)+1)/\Hid (∀(i:Nat) (x:UInt8),i<k->r[i]? =some x->digitC x=true)) (fun i=>r.length+1-(intOf i).toNat)
 case atStart=>exact⟨0,by omega,by go_num,fun i x hi=>absurd hi (Nat.not_lt_zero i)⟩
 case round=>
  obtain⟨k,hk,rfl,HM⟩:=hrel
  by_cases hlt:k<r.length
  ·obtain⟨x,hx⟩: ∃x,r[k]? =some x:=⟨_,List.getElem?_eq_getElem hlt⟩
   have ix:=run_ix (c::r) (k+1) x (by simpa using hx);rw[show((k+1:Nat):Int)=(k:Int)+1 by omega]at ix;have HX:=hid hx;have zl:decide ((k:Int)+1<(n:Int))=true:=by have:=HNL.out;simp;omega
   clear hx;cases hp:digitC x with
   | true=>
     have HP:=hid hp
     have HM2:=hid (show ∀(i:Nat) (y:UInt8),i<k+1->r[i]? =some y->digitC y=true from fun i y hi hy=>by
      rcases Nat.lt_succ_iff_lt_or_eq.1 hi with h|h
      ·exact HM.out i y h hy
      ·subst h;rw[HX.out]at hy;cases hy;exact HP.out)
     clear hp
     go_wp2_with (go_at_call 298;refine(condDigit x _).mono ?_;rintro e w' ⟨rfl,rfl⟩;rw[HP.out])
     go_round
     case rel=>exact⟨k+1,by omega,by go_num,HM2⟩
     case measure=>simp[intOf];omega
   | false=>
     have HP:=hid hp;have HF:=hid (long_digit HC.out HD.out (run_stop (c:=c) hk HM.out (fun y hy=>by rw[HX.out]at hy;cases hy;exact HP.out)));clear hp
     go_wp2_with (go_at_call 298;refine(condDigit x _).mono ?_;rintro e w' ⟨rfl,rfl⟩;rw[HP.out])
     go_ret;exact⟨ret_int (by rw[HF.out];omega),rfl⟩
  ·obtain rfl:k=r.length:=by omega
   have HF:=hid (long_digit HC.out HD.out (run_stop (c:=c) hk HM.out (fun y hy=>by rw[List.getElem?_eq_none (Nat.le_refl _)]at hy;cases hy)));have zl:decide ((r.length:Int)+1<(n:Int))=false:=by have:=HNL.out;simp;omega
   go_wp2_with fail;go_ret;exact⟨ret_int (by rw[HF.out];omega),rfl⟩
theorem condLong_minus(c:UInt8)(r:Tx)(h45:c=45)(d:UInt8)(r':Tx)(hr:d::r'=r)(hdd:digitC d=true)(hl:r.length+1<=9223372036854775807)(w:World):Calls Tryz.prog 235 #[.string (tx (c::r))] w fun e w'=>e= .returned (.int .i64 (longT (c::r)))/\w=w':=by
 have hs:=tx_size (c::r);obtain⟨n,hn⟩: ∃n,(tx (c::r)).size=n:=⟨_,rfl⟩;have HNL:=hid (show n=r.length+1 by rw[<-hn,hs];simp);have i0:=run_ixz (c::r) c rfl;have HC:=hid (show letterC c=false by rw[h45];decide);have HD:=hid (show digitC c=false by rw[h45];decide);have HDD:=hid hdd;have i1: ∀w,(Instr.index 9 (.string (tx (c::r))) (.int .i64 1)).run Tryz.prog w= .ok (.int .u8 d.toNat) w:=run_ix (c::r) 1 d (by rw[<-hr];rfl);have z45:((c.toNat:Int)==45)=true:=by rw[h45];decide
 have zg:decide (1<(n:Int))=true:=by have:=HNL.out;rw[<-hr]at this;simp at this;simp;omega
 have HR:=hid (show c=45/\r.head?.any digitC=true from⟨h45,by rw[<-hr];simpa using hdd⟩);clear h45 hr hdd;clear hs;go_enter Tryz.func235,Tryz.ntmps235
 go_wp2_with (first|(go_at_call 297;refine(condLetter c _).mono ?_;rintro e w' ⟨rfl,rfl⟩;rw[HC.out])|(go_at_call 298;first|(refine(condDigit d _).mono ?_;rintro e w' ⟨rfl,rfl⟩;rw[HDD.out])|(refine(condDigit c _).mono ?_;rintro e w' ⟨rfl,rfl⟩;rw[HD.out])))
 go_loop [4] (fun i=> ∃k:Nat,k<=r.length/\i= .int .i64 ((k:Int)+1)/\Hid (∀(i:Nat) (x:UInt8),i<k->r[i]? =some x->digitC x=true)) (fun i=>r.length+1-(intOf i).toNat)
 case atStart=>exact⟨0,by omega,by go_num,fun i x hi=>absurd hi (Nat.not_lt_zero i)⟩
 case round=>
  obtain⟨k,hk,rfl,HM⟩:=hrel
  by_cases hlt:k<r.length
  ·obtain⟨x,hx⟩: ∃x,r[k]? =some x:=⟨_,List.getElem?_eq_getElem hlt⟩
   have ix:=run_ix (c::r) (k+1) x (by simpa using hx);rw[show((k+1:Nat):Int)=(k:Int)+1 by omega]at ix;have HX:=hid hx;have zl:decide ((k:Int)+1<(n:Int))=true:=by have:=HNL.out;simp;omega
   clear hx;cases hp:digitC x with
   | true=>
     have HP:=hid hp
     have HM2:=hid (show ∀(i:Nat) (y:UInt8),i<k+1->r[i]? =some y->digitC y=true from fun i y hi hy=>by
      rcases Nat.lt_succ_iff_lt_or_eq.1 hi with h|h
      ·exact HM.out i y h hy
      ·subst h;rw[HX.out]at hy;cases hy;exact HP.out)
     clear hp
     go_wp2_with (go_at_call 298;refine(condDigit x _).mono ?_;rintro e w' ⟨rfl,rfl⟩;rw[HP.out])
     go_round
     case rel=>exact⟨k+1,by omega,by go_num,HM2⟩
     case measure=>simp[intOf];omega
   | false=>
     have HP:=hid hp;have HF:=hid (long_minus HR.out (run_stop (c:=c) hk HM.out (fun y hy=>by rw[HX.out]at hy;cases hy;exact HP.out)));clear hp
     go_wp2_with (go_at_call 298;refine(condDigit x _).mono ?_;rintro e w' ⟨rfl,rfl⟩;rw[HP.out])
     go_ret;exact⟨ret_int (by rw[HF.out];omega),rfl⟩
  ·obtain rfl:k=r.length:=by omega
   have HF:=hid (long_minus HR.out (run_stop (c:=c) hk HM.out (fun y hy=>by rw[List.getElem?_eq_none (Nat.le_refl _)]at hy;cases hy)));have zl:decide ((r.length:Int)+1<(n:Int))=false:=by have:=HNL.out;simp;omega
   go_wp2_with fail;go_ret;exact⟨ret_int (by rw[HF.out];omega),rfl⟩
theorem long_other{c:UInt8}{r:Tx}(h1:letterC c=false)(h2:digitC c=false)(h3: ¬(c=45/\r.head?.any digitC=true)):longT (c::r)=if Lib.hasPrefix (c::r) [47,92]||Lib.hasPrefix (c::r) [92,47]then 2 else 1:=by
 have e:((c==47&&r.head?==some 92)||(c==92&&r.head?==some 47))=(Lib.hasPrefix (c::r) [47,92]||Lib.hasPrefix (c::r) [92,47]):=by
  unfold Lib.hasPrefix;cases r with
  |nil=>simp[List.isPrefixOf]
  | cons d r=>
    have hb: ∀a b:UInt8,(a==b)=(b==a):=fun a b=>by rw[Bool.eq_iff_iff,beq_iff_eq,beq_iff_eq];exact eq_comm
    show((c==47&&(d==92))||(c==92&&(d==47)))=((47==c&&(92==d&&true))||(92==c&&(47==d&&true)));rw[hb 47 c,hb 92 d,hb 92 c,hb 47 d,Bool.and_true,Bool.and_true]
 rw[longT_eq]
 rw[if_neg (by rw[h1];decide),if_neg (by
  rw[h2,Bool.false_or,Bool.and_eq_true];rintro⟨a,b⟩;exact h3 ⟨by simpa using a,b⟩),e]
theorem condLong_a(c:UInt8)(h45:c=45)(w:World):Calls Tryz.prog 235 #[.string (tx [c])] w fun e w'=>e= .returned (.int .i64 (longT [c]))/\Below w.heap.size w w':=by
 have HC:=hid (show letterC c=false by rw[h45];decide);have HD:=hid (show digitC c=false by rw[h45];decide);have i0:=run_ixz [c] c rfl;have zl:decide (1<((tx [c]).size:Int))=false:=by rw[tx_size];simp
 have ze:((c.toNat:Int)==45)=true:=by rw[h45];decide
 have HF:=hid (long_other HC.out HD.out (r:=[]) (by simp));have P1:=hid (fun w=>run_prefix [c] [47,92] w);have P2:=hid (fun w=>run_prefix [c] [92,47] w);generalize Lib.hasPrefix [c] [47,92]=b1 at*;generalize Lib.hasPrefix [c] [92,47]=b2 at*;clear h45;go_enter Tryz.func235,Tryz.ntmps235;cases b1
 ·go_wp2_with (first|(go_at_call 297;refine(condLetter c _).mono ?_;rintro e w' ⟨rfl,rfl⟩;rw[HC.out])|(go_at_call 298;first|(refine(condDigit c _).mono ?_;rintro e w' ⟨rfl,rfl⟩;rw[HD.out])))
  refine(P1.out _).mono ?_;rintro e w1 ⟨rfl,E1⟩;cases b2
  ·go_wp2_with fail
   refine(P2.out _).mono ?_;rintro e w2 ⟨rfl,E2⟩;have E:=E1.trans (E2.mono E1.size);go_wp2_with fail;go_ret;exact⟨ret_int (by rw[HF.out];rfl),E⟩
  ·go_wp2_with fail
   refine(P2.out _).mono ?_;rintro e w2 ⟨rfl,E2⟩;have E:=E1.trans (E2.mono E1.size);go_wp2_with fail;go_ret;exact⟨ret_int (by rw[HF.out];rfl),E⟩
 ·go_wp2_with (first|(go_at_call 297;refine(condLetter c _).mono ?_;rintro e w' ⟨rfl,rfl⟩;rw[HC.out])|(go_at_call 298;first|(refine(condDigit c _).mono ?_;rintro e w' ⟨rfl,rfl⟩;rw[HD.out])))
  refine(P1.out _).mono ?_;rintro e w1 ⟨rfl,E1⟩;go_wp2_with fail;go_ret;exact⟨ret_int (by rw[HF.out];rfl),E1⟩
theorem condLong_b(c:UInt8)(h45:c=45)(d:UInt8)(r:Tx)(hdd:digitC d=false)(hl:r.length+2<=9223372036854775807)(w:World):Calls Tryz.prog 235 #[.string (tx (c::d::r))] w fun e w'=>e= .returned (.int .i64 (longT (c::d::r)))/\Below w.heap.size w w':=by
 have HC:=hid (show letterC c=false by rw[h45];decide);have HD:=hid (show digitC c=false by rw[h45];decide);have i0:=run_ixz (c::d::r) c rfl;have i1: ∀w,(Instr.index 9 (.string (tx (c::d::r))) (.int .i64 1)).run Tryz.prog w= .ok (.int .u8 d.toNat) w:=run_ix (c::d::r) 1 d rfl;have zl:decide (1<((tx (c::d::r)).size:Int))=true:=by rw[tx_size];simp;omega
 have ze:((c.toNat:Int)==45)=true:=by rw[h45];decide
 have HDD:=hid hdd;clear hdd;have HF:=hid (long_other HC.out HD.out (r:=(d::r)) (by simp[HDD.out]));have P1:=hid (fun w=>run_prefix (c::d::r) [47,92] w);have P2:=hid (fun w=>run_prefix (c::d::r) [92,47] w);generalize Lib.hasPrefix (c::d::r) [47,92]=b1 at*;generalize Lib.hasPrefix (c::d::r) [92,47]=b2 at*;clear hl h45;go_enter Tryz.func235,Tryz.ntmps235;cases b1
 ·go_wp2_with (first|(go_at_call 297;refine(condLetter c _).mono ?_;rintro e w' ⟨rfl,rfl⟩;rw[HC.out])|(go_at_call 298;first|(refine(condDigit c _).mono ?_;rintro e w' ⟨rfl,rfl⟩;rw[HD.out])|(refine(condDigit d _).mono ?_;rintro e w' ⟨rfl,rfl⟩;rw[HDD.out])))
  refine(P1.out _).mono ?_;rintro e w1 ⟨rfl,E1⟩;cases b2
  ·go_wp2_with fail
   refine(P2.out _).mono ?_;rintro e w2 ⟨rfl,E2⟩;have E:=E1.trans (E2.mono E1.size);go_wp2_with fail;go_ret;exact⟨ret_int (by rw[HF.out];rfl),E⟩
  ·go_wp2_with fail
   refine(P2.out _).mono ?_;rintro e w2 ⟨rfl,E2⟩;have E:=E1.trans (E2.mono E1.size);go_wp2_with fail;go_ret;exact⟨ret_int (by rw[HF.out];rfl),E⟩
 ·go_wp2_with (first|(go_at_call 297;refine(condLetter c _).mono ?_;rintro e w' ⟨rfl,rfl⟩;rw[HC.out])|(go_at_call 298;first|(refine(condDigit c _).mono ?_;rintro e w' ⟨rfl,rfl⟩;rw[HD.out])|(refine(condDigit d _).mono ?_;rintro e w' ⟨rfl,rfl⟩;rw[HDD.out])))
  refine(P1.out _).mono ?_;rintro e w1 ⟨rfl,E1⟩;go_wp2_with fail;go_ret;exact⟨ret_int (by rw[HF.out];rfl),E1⟩
theorem condLong_c(c:UInt8)(r:Tx)(hc:letterC c=false)(hd:digitC c=false)(h45:c≠45)(hl:r.length+1<=9223372036854775807)(w:World):Calls Tryz.prog 235 #[.string (tx (c::r))] w fun e w'=>e= .returned (.int .i64 (longT (c::r)))/\Below w.heap.size w w':=by
 have HC:=hid (show letterC c=false by exact hc);have HD:=hid (show digitC c=false by exact hd);have i0:=run_ixz (c::r) c rfl;have ze:((c.toNat:Int)==45)=false:=by simpa using u8_ne c 45 h45
 have HF:=hid (long_other HC.out HD.out (r:=r) (by rintro⟨e, -⟩;exact h45 e));have P1:=hid (fun w=>run_prefix (c::r) [47,92] w);have P2:=hid (fun w=>run_prefix (c::r) [92,47] w);generalize Lib.hasPrefix (c::r) [47,92]=b1 at*;generalize Lib.hasPrefix (c::r) [92,47]=b2 at*;clear hl hc hd h45;go_enter Tryz.func235,Tryz.ntmps235;cases b1
 ·go_wp2_with (first|(go_at_call 297;refine(condLetter c _).mono ?_;rintro e w' ⟨rfl,rfl⟩;rw[HC.out])|(go_at_call 298;first|(refine(condDigit c _).mono ?_;rintro e w' ⟨rfl,rfl⟩;rw[HD.out])))
  refine(P1.out _).mono ?_;rintro e w1 ⟨rfl,E1⟩;cases b2
  ·go_wp2_with fail
   refine(P2.out _).mono ?_;rintro e w2 ⟨rfl,E2⟩;have E:=E1.trans (E2.mono E1.size);go_wp2_with fail;go_ret;exact⟨ret_int (by rw[HF.out];rfl),E⟩
  ·go_wp2_with fail
   refine(P2.out _).mono ?_;rintro e w2 ⟨rfl,E2⟩;have E:=E1.trans (E2.mono E1.size);go_wp2_with fail;go_ret;exact⟨ret_int (by rw[HF.out];rfl),E⟩
 ·go_wp2_with (first|(go_at_call 297;refine(condLetter c _).mono ?_;rintro e w' ⟨rfl,rfl⟩;rw[HC.out])|(go_at_call 298;first|(refine(condDigit c _).mono ?_;rintro e w' ⟨rfl,rfl⟩;rw[HD.out])))
  refine(P1.out _).mono ?_;rintro e w1 ⟨rfl,E1⟩;go_wp2_with fail;go_ret;exact⟨ret_int (by rw[HF.out];rfl),E1⟩
theorem condLong(s:Tx)(hs:s≠[])(hl:s.length<=9223372036854775807)(w:World):Calls Tryz.prog 235 #[.string (tx s)] w fun e w'=>e= .returned (.int .i64 (longT s))/\Below w.heap.size w w':=by
 have up: ∀{e:Ending} {v:Value} {w':World},(e= .returned v/\w=w')->(e= .returned v/\Below w.heap.size w w'):=fun h=>⟨h.1,by rw[<-h.2];exact Below.refl _ _⟩
 cases s with
 |nil=>exact absurd rfl hs
 | cons c r=>
   simp only[List.length_cons]at hl;cases hc:letterC c with
   |true=>exact(condLong_letter c r hc hl w).mono fun e w' h=>up h
   | false=>
     cases hd:digitC c with
     |true=>exact(condLong_digit c r hc hd hl w).mono fun e w' h=>up h
     | false=>
       by_cases h45:c=45
       ·cases r with
        |nil=>exact condLong_a c h45 w
        | cons d r=>
          cases hdd:digitC d with
          |true=>exact(condLong_minus c (d::r) h45 d r rfl hdd (by simpa using hl) w).mono fun e w' h=>up h
          |false=>exact condLong_b c h45 d r hdd (by simpa using hl) w
       ·exact condLong_c c r hc hd h45 hl w
theorem wpList_app1n{P:Program}{w:World}{ops:Array Oper}{rest:List Oper}{o:Oper}{a:Act}{Q:Exit->Act->World->Prop}{t e:TypeId}{z:Value}{size bytes:Nat}(T:ElT P t e z size bytes)(s x:Operand)(hgd:o.guard=none)(ho:o.op= .call { callee:=.builtin .append,args:=#[s,x],argTypes:=#[t,t] })
 {B n c N:Nat} {sa:Option Addr} {xs:List Value} (hN:w.heap.size=N) (hs:a.eval s= .slice sa n c) (hown:Own w B e size sa n c xs)
 {us:Array Value} (hx:a.eval x= .slice (some ⟨N,0,none⟩) 1 1) (hl:us.size=size) (h1c: ∀u∈us.toList,u.oneCell'=true)
 {w0:World} (hB:Below B w0 w) (hB0:B<=w.heap.size) (hbytes:(n+1)*bytes<=140737488355328) (hm:n+1<=maxLen)
 (h: ∀a' c' w',Own w' B e size a' (n+1) c' (xs++us.toList)->Grew w w' sa c a' c'->Below B w0 w'->wpList P ops Q rest (a.put o.dst (.slice a' (n+1) c')) w'):wpList P ops Q (o::rest) a (w.alloc (.cells us e)):=by
 subst hN;exact wpList_app1 T s x hgd ho hs hown hx hl h1c hB hB0 hbytes hm h
def layL(xs:List Value)(j:Nat)(vs:List Value):List Value:=xs.take j++vs++xs.drop (j+vs.length)
theorem layL_nil(xs:List Value)(j:Nat):layL xs j []=xs:=by simp[layL]
theorem layL_cons(xs:List Value)(j:Nat)(v:Value)(vs:List Value)(h:j<xs.length):layL xs j (v::vs)=layL (xs.set j v) (j+1) vs:=by
 have h1:xs.set j v=(xs.take j++[v])++xs.drop (j+1):=by rw[List.set_eq_take_append_cons_drop,if_pos h];simp
 have hl:(xs.take j++[v]).length=j+1:=by simp;omega
 unfold layL;rw[h1,List.take_left' hl,List.drop_append,List.drop_of_length_le (by omega:(xs.take j++[v]).length<=j+1+vs.length),List.nil_append,List.drop_drop,hl];simp only[List.append_assoc,List.cons_append,List.nil_append,List.length_cons]
 congr 3
 congr 1
 omega
theorem Own.sets{B E size n c:Nat}{a:Option Addr}(ha:a≠none): ∀(vs:List Value) (j:Nat) (w:World) (xs:List Value),Own w B E size a n c xs->j+vs.length<=xs.length->
 Own (w.setCells (bk a) (fo a+j) vs) B E size a n c (layL xs j vs)/\Step w (w.setCells (bk a) (fo a+j) vs) a a
 |[],j,w,xs,h,_=>by rw[layL_nil];exact⟨h,⟨World.grownBy.refl _ _,.inl rfl⟩⟩
 | v::vs,j,w,xs,h,hj=>by
   simp only[List.length_cons]at hj;obtain⟨h1,s1⟩:=Own.set h ha j v;obtain⟨h2,s2⟩:=Own.sets ha vs (j+1) (w.setCell ⟨bk a,fo a+j,none⟩ v) (xs.set j v) h1 (by simp;omega);rw[layL_cons _ _ _ _ (by omega)];refine⟨h2,⟨grownBy_trans s1.grown s2.grown,.inl rfl⟩⟩
theorem zeroCells_toList(z:Value)(n:Nat):(Builtin.zeroCells z.cells n).toList.length=n*z.cells.size:=by simp[Builtin.zeroCells]
theorem run_clear_end{P:Program}{w:World}{t e:TypeId}{z:Value}{size bytes:Nat}(T:ElT P t e z size bytes)(hv: ∀w,(zeroValue e).run P w= .ok z w)(h1c: ∀u∈z.cells.toList,u.oneCell'=true)
 {B n c:Nat} {a:Option Addr} {xs:List Value} (h:Own w B e size a n c xs) (k:Nat) (hk:k<n):
 ∃w',(∀ty,(Builtin.clear_ #[t] ty #[.slice (cutA a (c=k) (k*size)) (n-k) (c-k)]).run P w= .ok (.tuple #[]) w')/\Own w' B e size a n c (layL xs (k*size) (Builtin.zeroCells z.cells (n-k)).toList)/\Step w w' a a:=by
 have hcap:=h.cap;have ha:=Own.some h (by omega)
 have hne:xs≠[]:=by
  intro e0;have hp:0<n*size:=Nat.mul_pos (by omega) T.pos;rw[e0]at hcap;simp at hcap;omega
 have hhd:=h.row.head hne;have hck: ¬c=k:=by omega
 have hcut:cutA a (c=k) (k*size)=some ⟨bk a,fo a+k*size,none⟩:=by
  unfold cutA;rw[if_neg hck]
  conv=>lhs;rw[hhd]
  by_cases h0:k*size=0
  ·simp[h0,Addr.add]
  ·simp[h0,Addr.add]
 rw[hcut];have hzl:=zeroCells_toList z (n-k);rw[T.zs]at hzl;have hlen:k*size+(n-k)*size=xs.length:=by rw[hcap.2.2,<-Nat.add_mul];congr 1;omega
 obtain⟨h2,s2⟩:=Own.sets ha (Builtin.zeroCells z.cells (n-k)).toList (k*size) w xs h (by rw[hzl];omega);refine⟨_,fun ty=>?_,h2,s2⟩
 have hst:=run_storeCells_cells (P:=P) (bk a) (fo a+k*size) (Builtin.zeroCells z.cells (n-k)).toList 0 w
  (by
   intro j hj;rw[hzl]at hj;have hjl:k*size+j<xs.length:=by omega
   have:=h.row.cell (k*size+j) hjl;rw[Nat.add_zero,Nat.add_assoc,this,List.getElem?_eq_getElem hjl];rfl)
  (by intro j hj;rw[Nat.add_zero,Nat.add_assoc];exact Own.frozen h ha _)
  (by
   intro v hv';simp[Builtin.zeroCells]at hv';obtain⟨i,hi,rfl⟩:=hv';have hzs:=T.zs;have hpos:=T.pos;have hm:i%z.cells.size<z.cells.size:=Nat.mod_lt _ (by omega);rw[getElem!_pos z.cells _ hm];exact h1c _ (by simp))
 obtain⟨m,hm⟩: ∃m,n-k=m+1:=⟨n-k-1,by omega⟩;rw[hm]at hst⊢;simp only[Nat.add_zero]at hst;simp[Builtin.clear_,run_underlying T.und,hv,hst]
set_option linter.unusedSectionVars false
section
variable {α:Type} {enc:α->List Value} {m:Nat} (hm: ∀x,(enc x).length=m)
include hm
theorem flat_lay(l:List α)(k:Nat)(e:α)(h:k<l.length):layL (flat enc l) (k*m) (enc e)=flat enc (l.set k e):=by
 have h1:l.set k e=l.take k++e::l.drop (k+1):=by rw[List.set_eq_take_append_cons_drop,if_pos h]
 rw[h1,flat_app,flat_cons,<-flat_take hm,<-flat_drop hm];unfold layL;rw[List.append_assoc,hm,show(k+1)*m=k*m+m from Nat.succ_mul k m]
theorem Own.storeE{w:World}{B E n c:Nat}{a:Option Addr}{l:List α}(h:Own w B E m a n c (flat enc l))(hpos:0<m)(k:Nat)(hk:k<l.length)(e:α):
 Own (w.setCells (bk a) (fo a+k*m) (enc e)) B E m a n c (flat enc (l.set k e))/\Step w (w.setCells (bk a) (fo a+k*m) (enc e)) a a:=by
 have h1:=h.cap.2.2;rw[flat_length hm]at h1;have hn:n=l.length:=Nat.eq_of_mul_eq_mul_right hpos h1.symm;have hle:k*m+m<=l.length*m:=by rw[<-Nat.succ_mul];exact Nat.mul_le_mul_right _ hk
 have:=Own.sets (Own.some h (by omega)) (enc e) (k*m) w (flat enc l) h (by rw[flat_length hm,hm];exact hle)
 rwa[flat_lay hm l k e hk]at this
theorem Own.frontE{w:World}{B E n c k:Nat}{a:Option Addr}{L:List α}{vs:List Value}(h:Own w B E m a n c (layL (flat enc L) (k*m) vs))(hn:n=L.length)(hk:k<=n):Own w B E m a k c (flat enc (L.take k)):=by
 unfold layL at h;rw[List.append_assoc,flat_take hm]at h;obtain⟨m',rfl⟩: ∃m',n=k+m':=⟨n-k,by omega⟩;exact Own.front h (by rw[flat_length hm,List.length_take];congr 1;omega)
end
end Go.Proofs.YtkbbgjloifmmbaaGreatDoor

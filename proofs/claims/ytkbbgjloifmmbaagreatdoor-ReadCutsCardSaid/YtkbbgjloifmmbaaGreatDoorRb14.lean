/- What ReadBackP leans on, part 14. -/
import Derived.Test.YtkbbgjloifmmbaaGreatDoorRb12
import Derived.Test.YtkbbgjloifmmbaaGreatDoorRb13
import Derived.Laws.IdiomCopy
import Derived.Lib.FieldsP
import Derived.Lib.SpaceUEq
set_option linter.unusedVariables false
set_option maxRecDepth 100000
set_option maxHeartbeats 1600000
namespace Go.Proofs.YtkbbgjloifmmbaaGreatDoor
open _root_.Go.Proofs.Tryz
open _root_.Go.Lib renaming hasPrefix->an2,closeSpans->an6,spansFromP->an9
open _root_.List renaming getElem?_eq_getElem->amK,nil_append->anJ,getElem?_eq_some_iff->ano,append_assoc->anF,set_eq_take_append_cons_drop->an7,getElem?_eq_none->an8,takeWhile_cons->anC,all_takeWhile->aoa,getElem?_take_of_lt->aob,length_take->aoc,length_cons->ans,cons_append->anr,all_eq_true->anq,map_append->aof,take_append_drop->aog,mem_iff_getElem?->aoh,getElem?_drop->aoi,map_nil->aoj,drop_length->aom,take_length->anG,append_nil->anz
open _root_.Go.Builtin renaming zeroCells->an3
open _root_.Go.Utf8 renaming decode->an4
open _root_.Nat renaming lt_succ_iff_lt_or_eq->an5,le_refl->amS,add_zero->aod,not_lt_zero->aoe,lt_or_ge->amR
open _root_.Bool renaming false_eq_true->aok,eq_false_iff->aol,eq_iff_iff->anW
open Go.RowKit
theorem qE(l p:Tx)(w:World):Calls prog 94 #[.string (tx l),.string (tx p)] w fun e w'=>e= .returned (.bool (an2 l p))/\Below w.heap.size w w':=by
 refine(Any.strings_HasPrefix Tryz.l99 (tx l) (tx p) w).mono ?_;rintro e w' h;obtain⟨h1,h2⟩:=h;rw[gO,gO]at h1;exact⟨h1,by first|(subst h2;exact Below.refl _ _)|(obtain⟨n,rfl⟩:=h2;exact below_drewN _ _)⟩
theorem Oy(c:UInt8)(w:World):Calls prog 296 #[.int .u8 c.toNat] w fun e w'=>e= .returned (.bool (bU c))/\w=w':=by
 by_cases h1:cG c=true
 ·have H1:=hid h1
  have HN:=hid (show bU c=true by unfold bU;rw[h1];rfl);clear h1;go_in
  go_wp2_with (go_at_call 297;refine(nL c _).mono ?_;rintro e w' ⟨rfl,rfl⟩;rw[H1.out])
  go_ret;exact⟨aJ HN.out.symm,rfl⟩
 ·have H1:=hid (aol.2 h1)
  clear h1
  by_cases h2:aR c=true
  ·have H2:=hid h2
   have HN:=hid (show bU c=true by unfold bU;rw[h2];simp);clear h2;go_in
   go_wp2_with (first|(go_at_call 297;refine(nL c _).mono ?_;rintro e w' ⟨rfl,rfl⟩;rw[H1.out])|(go_at_call 298;refine(iB c _).mono ?_;rintro e w' ⟨rfl,rfl⟩;rw[H2.out]))
   go_ret;exact⟨aJ HN.out.symm,rfl⟩
  ·have H2:=hid (aol.2 h2)
   have HN:=hid (show(decide (((c.toNat:Nat):Int)=95))=bU c by
    rw[SV,H1.out,H2.out];simp only[Bool.false_or,decide_eq_decide]
    omega)
   clear h2;go_in
   go_wp2_with (first|(go_at_call 297;refine(nL c _).mono ?_;rintro e w' ⟨rfl,rfl⟩;rw[H1.out])|(go_at_call 298;refine(iB c _).mono ?_;rintro e w' ⟨rfl,rfl⟩;rw[H2.out]))
   go_ret;exact⟨aJ (by rw[<-HN.out];first|rfl|(rw[anW];simp)),rfl⟩
theorem yR{p:UInt8->Bool}{c:UInt8}{r:Tx}{k:Nat}(hk:k<=r.length)(h: ∀(i:Nat) (x:UInt8),i<k->r[i]? =some x->p x=true)(hs: ∀x,r[k]? =some x->p x=false):(r.takeWhile p).length=k:=by
 have e:r=r.take k++r.drop k:=(aog _ _).symm
 have h1: ∀x∈r.take k,p x=true:=fun x hx=>by
  obtain⟨i,hi⟩:=aoh.1 hx;have hlt:i<k:=by have:=(ano.1 hi).1;simp at this;omega
  rw[aob hlt]at hi;exact h i x hlt hi
 rw[e,List.takeWhile_append_of_pos h1]
 have h2:(r.drop k).takeWhile p=[]:=by
  cases hd:r.drop k with
  |nil=>rfl
  | cons y t=>
    have:r[k]? =some y:=by
     have:=aoi (xs:=r) (i:=k) (j:=0);rw[hd]at this;simpa using this.symm
    rw[anC,if_neg (by rw[hs y this];decide)]
 rw[h2,anz,aoc,Nat.min_eq_left hk]
theorem Sv{c:UInt8}{r:Tx}(h:cG c=true){k:Nat}(e:(r.takeWhile bU).length=k):bS (c::r)=1+k:=by rw[ju];rw[if_pos h,e]
theorem Su{c:UInt8}{r:Tx}(h:cG c=false)(h2:aR c=true){k:Nat}(e:(r.takeWhile aR).length=k):bS (c::r)=1+k:=by rw[ju];rw[if_neg (by rw[h];decide),if_pos (by rw[h2];rfl),e]
theorem Sw{c:UInt8}{r:Tx}(h:c=45/\r.head?.any aR=true){k:Nat}(e:(r.takeWhile aR).length=k):bS (c::r)=1+k:=by obtain⟨rfl,h2⟩:=h;rw[ju];rw[if_neg (by decide),if_pos (by rw[h2];rfl),e]
theorem ZX(c:UInt8)(r:Tx)(hc:cG c=true)(hl:r.length+1<=9223372036854775807)(w:World):Calls prog 235 #[.string (tx (c::r))] w fun e w'=>e= .returned (.int .i64 (bS (c::r)))/\w=w':=by
 have hs:=aP (c::r);obtain⟨n,hn⟩: ∃n,(tx (c::r)).size=n:=⟨_,rfl⟩;have qW:=hid (show n=r.length+1 by rw[<-hn,hs];simp);have i0:=mJ (c::r) c rfl;have HC:=hid hc;have wT:=hid hc;clear hc;clear hs;go_in
 go_wp2_with ((go_at_call 297;refine(nL c _).mono ?_;rintro e w' ⟨rfl,rfl⟩;rw[HC.out]))
 go_loop [4] (fun i=> ∃k:Nat,k<=r.length/\i= .int .i64 ((k:Int)+1)/\Hid (∀(i:Nat) (x:UInt8),i<k->r[i]? =some x->bU x=true)) (fun i=>r.length+1-(intOf i).toNat)
 case atStart=>exact⟨0,by omega,by go_num,fun i x hi=>absurd hi (aoe i)⟩
 case round=>
  obtain⟨k,hk,rfl,HM⟩:=hrel
  by_cases hlt:k<r.length
  ·obtain⟨x,hx⟩: ∃x,r[k]? =some x:=⟨_,amK hlt⟩
   have ix:=iV (c::r) (k+1) x (by simpa using hx);rw[show((k+1:Nat):Int)=(k:Int)+1 by omega]at ix;have HX:=hid hx;have zl:decide ((k:Int)+1<(n:Int))=true:=by have:=qW.out;simp;omega
   clear hx;cases hp:bU x with
   | true=>
     have HP:=hid hp
     have dF:=hid (show ∀(i:Nat) (y:UInt8),i<k+1->r[i]? =some y->bU y=true from fun i y hi hy=>by
      rcases an5.1 hi with h|h
      ·exact HM.out i y h hy
      ·subst h;rw[HX.out]at hy;cases hy;exact HP.out)
     clear hp
     go_wp2_with (go_at_call 296;refine(Oy x _).mono ?_;rintro e w' ⟨rfl,rfl⟩;rw[HP.out])
     go_round
     case rel=>exact⟨k+1,by omega,by go_num,dF⟩
     case measure=>simp[intOf];omega
   | false=>
     have HP:=hid hp;have HF:=hid (Sv HC.out (yR (c:=c) hk HM.out (fun y hy=>by rw[HX.out]at hy;cases hy;exact HP.out)));clear hp
     go_wp2_with (go_at_call 296;refine(Oy x _).mono ?_;rintro e w' ⟨rfl,rfl⟩;rw[HP.out])
     go_ret;exact⟨bJ (by rw[HF.out];omega),rfl⟩
  ·obtain rfl:k=r.length:=by omega
   have HF:=hid (Sv HC.out (yR (c:=c) hk HM.out (fun y hy=>by rw[an8 (amS _)]at hy;cases hy)));have zl:decide ((r.length:Int)+1<(n:Int))=false:=by have:=qW.out;simp;omega
   go_wp2_with fail;go_ret;exact⟨bJ (by rw[HF.out];omega),rfl⟩
theorem ZW(c:UInt8)(r:Tx)(hc:cG c=false)(hd:aR c=true)(hl:r.length+1<=9223372036854775807)(w:World):Calls prog 235 #[.string (tx (c::r))] w fun e w'=>e= .returned (.int .i64 (bS (c::r)))/\w=w':=by
 have hs:=aP (c::r);obtain⟨n,hn⟩: ∃n,(tx (c::r)).size=n:=⟨_,rfl⟩;have qW:=hid (show n=r.length+1 by rw[<-hn,hs];simp);have i0:=mJ (c::r) c rfl;have HC:=hid hc;have HD:=hid hd;clear hc hd;clear hs;go_in
 go_wp2_with (first|(go_at_call 297;refine(nL c _).mono ?_;rintro e w' ⟨rfl,rfl⟩;rw[HC.out])|(go_at_call 298;refine(iB c _).mono ?_;rintro e w' ⟨rfl,rfl⟩;rw[HD.out]))
 go_loop [4] (fun i=> ∃k:Nat,k<=r.length/\i= .int .i64 ((k:Int)+1)/\Hid (∀(i:Nat) (x:UInt8),i<k->r[i]? =some x->aR x=true)) (fun i=>r.length+1-(intOf i).toNat)
 case atStart=>exact⟨0,by omega,by go_num,fun i x hi=>absurd hi (aoe i)⟩
 case round=>
  obtain⟨k,hk,rfl,HM⟩:=hrel
  by_cases hlt:k<r.length
  ·obtain⟨x,hx⟩: ∃x,r[k]? =some x:=⟨_,amK hlt⟩
   have ix:=iV (c::r) (k+1) x (by simpa using hx);rw[show((k+1:Nat):Int)=(k:Int)+1 by omega]at ix;have HX:=hid hx;have zl:decide ((k:Int)+1<(n:Int))=true:=by have:=qW.out;simp;omega
   clear hx;cases hp:aR x with
   | true=>
     have HP:=hid hp
     have dF:=hid (show ∀(i:Nat) (y:UInt8),i<k+1->r[i]? =some y->aR y=true from fun i y hi hy=>by
      rcases an5.1 hi with h|h
      ·exact HM.out i y h hy
      ·subst h;rw[HX.out]at hy;cases hy;exact HP.out)
     clear hp
     go_wp2_with (go_at_call 298;refine(iB x _).mono ?_;rintro e w' ⟨rfl,rfl⟩;rw[HP.out])
     go_round
     case rel=>exact⟨k+1,by omega,by go_num,dF⟩
     case measure=>simp[intOf];omega
   | false=>
     have HP:=hid hp;have HF:=hid (Su HC.out HD.out (yR (c:=c) hk HM.out (fun y hy=>by rw[HX.out]at hy;cases hy;exact HP.out)));clear hp
     go_wp2_with (go_at_call 298;refine(iB x _).mono ?_;rintro e w' ⟨rfl,rfl⟩;rw[HP.out])
     go_ret;exact⟨bJ (by rw[HF.out];omega),rfl⟩
  ·obtain rfl:k=r.length:=by omega
   have HF:=hid (Su HC.out HD.out (yR (c:=c) hk HM.out (fun y hy=>by rw[an8 (amS _)]at hy;cases hy)));have zl:decide ((r.length:Int)+1<(n:Int))=false:=by have:=qW.out;simp;omega
   go_wp2_with fail;go_ret;exact⟨bJ (by rw[HF.out];omega),rfl⟩
theorem ZY(c:UInt8)(r:Tx)(h45:c=45)(d:UInt8)(r':Tx)(hr:d::r'=r)(hdd:aR d=true)(hl:r.length+1<=9223372036854775807)(w:World):Calls prog 235 #[.string (tx (c::r))] w fun e w'=>e= .returned (.int .i64 (bS (c::r)))/\w=w':=by
 have hs:=aP (c::r);obtain⟨n,hn⟩: ∃n,(tx (c::r)).size=n:=⟨_,rfl⟩;have qW:=hid (show n=r.length+1 by rw[<-hn,hs];simp);have i0:=mJ (c::r) c rfl;have HC:=hid (show cG c=false by rw[h45];decide);have HD:=hid (show aR c=false by rw[h45];decide);have zu:=hid hdd;have i1: ∀w,(Instr.index 9 (.string (tx (c::r))) (.int .i64 1)).run prog w= .ok (.int .u8 d.toNat) w:=iV (c::r) 1 d (by rw[<-hr];rfl);have z45:((c.toNat:Int)==45)=true:=by rw[h45];decide
 have zg:decide (1<(n:Int))=true:=by have:=qW.out;rw[<-hr]at this;simp at this;simp;omega
 have HR:=hid (show c=45/\r.head?.any aR=true from⟨h45,by rw[<-hr];simpa using hdd⟩);clear h45 hr hdd;clear hs;go_in
 go_wp2_with (first|(go_at_call 297;refine(nL c _).mono ?_;rintro e w' ⟨rfl,rfl⟩;rw[HC.out])|(go_at_call 298;first|(refine(iB d _).mono ?_;rintro e w' ⟨rfl,rfl⟩;rw[zu.out])|(refine(iB c _).mono ?_;rintro e w' ⟨rfl,rfl⟩;rw[HD.out])))
 go_loop [4] (fun i=> ∃k:Nat,k<=r.length/\i= .int .i64 ((k:Int)+1)/\Hid (∀(i:Nat) (x:UInt8),i<k->r[i]? =some x->aR x=true)) (fun i=>r.length+1-(intOf i).toNat)
 case atStart=>exact⟨0,by omega,by go_num,fun i x hi=>absurd hi (aoe i)⟩
 case round=>
  obtain⟨k,hk,rfl,HM⟩:=hrel
  by_cases hlt:k<r.length
  ·obtain⟨x,hx⟩: ∃x,r[k]? =some x:=⟨_,amK hlt⟩
   have ix:=iV (c::r) (k+1) x (by simpa using hx);rw[show((k+1:Nat):Int)=(k:Int)+1 by omega]at ix;have HX:=hid hx;have zl:decide ((k:Int)+1<(n:Int))=true:=by have:=qW.out;simp;omega
   clear hx;cases hp:aR x with
   | true=>
     have HP:=hid hp
     have dF:=hid (show ∀(i:Nat) (y:UInt8),i<k+1->r[i]? =some y->aR y=true from fun i y hi hy=>by
      rcases an5.1 hi with h|h
      ·exact HM.out i y h hy
      ·subst h;rw[HX.out]at hy;cases hy;exact HP.out)
     clear hp
     go_wp2_with (go_at_call 298;refine(iB x _).mono ?_;rintro e w' ⟨rfl,rfl⟩;rw[HP.out])
     go_round
     case rel=>exact⟨k+1,by omega,by go_num,dF⟩
     case measure=>simp[intOf];omega
   | false=>
     have HP:=hid hp;have HF:=hid (Sw HR.out (yR (c:=c) hk HM.out (fun y hy=>by rw[HX.out]at hy;cases hy;exact HP.out)));clear hp
     go_wp2_with (go_at_call 298;refine(iB x _).mono ?_;rintro e w' ⟨rfl,rfl⟩;rw[HP.out])
     go_ret;exact⟨bJ (by rw[HF.out];omega),rfl⟩
  ·obtain rfl:k=r.length:=by omega
   have HF:=hid (Sw HR.out (yR (c:=c) hk HM.out (fun y hy=>by rw[an8 (amS _)]at hy;cases hy)));have zl:decide ((r.length:Int)+1<(n:Int))=false:=by have:=qW.out;simp;omega
   go_wp2_with fail;go_ret;exact⟨bJ (by rw[HF.out];omega),rfl⟩
theorem JW{c:UInt8}{r:Tx}(h1:cG c=false)(h2:aR c=false)(h3: ¬(c=45/\r.head?.any aR=true)):bS (c::r)=if an2 (c::r) [47,92]||an2 (c::r) [92,47]then 2 else 1:=by
 have e:((c==47&&r.head?==some 92)||(c==92&&r.head?==some 47))=(an2 (c::r) [47,92]||an2 (c::r) [92,47]):=by
  unfold an2;cases r with
  |nil=>simp[List.isPrefixOf]
  | cons d r=>
    have hb: ∀a b:UInt8,(a==b)=(b==a):=fun a b=>by rw[anW,beq_iff_eq,beq_iff_eq];exact eq_comm
    show((c==47&&(d==92))||(c==92&&(d==47)))=((47==c&&(92==d&&true))||(92==c&&(47==d&&true)));rw[hb 47 c,hb 92 d,hb 92 c,hb 47 d,Bool.and_true,Bool.and_true]
 rw[ju]
 rw[if_neg (by rw[h1];decide),if_neg (by
  rw[h2,Bool.false_or,Bool.and_eq_true];rintro⟨a,b⟩;exact h3 ⟨by simpa using a,b⟩),e]
theorem ZT(c:UInt8)(h45:c=45)(w:World):Calls prog 235 #[.string (tx [c])] w fun e w'=>e= .returned (.int .i64 (bS [c]))/\Below w.heap.size w w':=by
 have HC:=hid (show cG c=false by rw[h45];decide);have HD:=hid (show aR c=false by rw[h45];decide);have i0:=mJ [c] c rfl;have zl:decide (1<((tx [c]).size:Int))=false:=by rw[aP];simp
 have ze:((c.toNat:Int)==45)=true:=by rw[h45];decide
 have HF:=hid (JW HC.out HD.out (r:=[]) (by simp));have P1:=hid (fun w=>qE [c] [47,92] w);have P2:=hid (fun w=>qE [c] [92,47] w);generalize an2 [c] [47,92]=b1 at*;generalize an2 [c] [92,47]=b2 at*;clear h45;go_in;cases b1
 ·go_wp2_with (first|(go_at_call 297;refine(nL c _).mono ?_;rintro e w' ⟨rfl,rfl⟩;rw[HC.out])|(go_at_call 298;first|(refine(iB c _).mono ?_;rintro e w' ⟨rfl,rfl⟩;rw[HD.out])))
  refine(P1.out _).mono ?_;rintro e w1 ⟨rfl,E1⟩;cases b2
  ·go_wp2_with fail
   refine(P2.out _).mono ?_;rintro e w2 ⟨rfl,E2⟩;have E:=E1.trans (E2.mono E1.size);go_wp2_with fail;go_ret;exact⟨bJ (by rw[HF.out];rfl),E⟩
  ·go_wp2_with fail
   refine(P2.out _).mono ?_;rintro e w2 ⟨rfl,E2⟩;have E:=E1.trans (E2.mono E1.size);go_wp2_with fail;go_ret;exact⟨bJ (by rw[HF.out];rfl),E⟩
 ·go_wp2_with (first|(go_at_call 297;refine(nL c _).mono ?_;rintro e w' ⟨rfl,rfl⟩;rw[HC.out])|(go_at_call 298;first|(refine(iB c _).mono ?_;rintro e w' ⟨rfl,rfl⟩;rw[HD.out])))
  refine(P1.out _).mono ?_;rintro e w1 ⟨rfl,E1⟩;go_wp2_with fail;go_ret;exact⟨bJ (by rw[HF.out];rfl),E1⟩
theorem ZU(c:UInt8)(h45:c=45)(d:UInt8)(r:Tx)(hdd:aR d=false)(hl:r.length+2<=9223372036854775807)(w:World):Calls prog 235 #[.string (tx (c::d::r))] w fun e w'=>e= .returned (.int .i64 (bS (c::d::r)))/\Below w.heap.size w w':=by
 have HC:=hid (show cG c=false by rw[h45];decide);have HD:=hid (show aR c=false by rw[h45];decide);have i0:=mJ (c::d::r) c rfl;have i1: ∀w,(Instr.index 9 (.string (tx (c::d::r))) (.int .i64 1)).run prog w= .ok (.int .u8 d.toNat) w:=iV (c::d::r) 1 d rfl;have zl:decide (1<((tx (c::d::r)).size:Int))=true:=by rw[aP];simp;omega
 have ze:((c.toNat:Int)==45)=true:=by rw[h45];decide
 have zu:=hid hdd;clear hdd;have HF:=hid (JW HC.out HD.out (r:=(d::r)) (by simp[zu.out]));have P1:=hid (fun w=>qE (c::d::r) [47,92] w);have P2:=hid (fun w=>qE (c::d::r) [92,47] w);generalize an2 (c::d::r) [47,92]=b1 at*;generalize an2 (c::d::r) [92,47]=b2 at*;clear hl h45;go_in;cases b1
 ·go_wp2_with (first|(go_at_call 297;refine(nL c _).mono ?_;rintro e w' ⟨rfl,rfl⟩;rw[HC.out])|(go_at_call 298;first|(refine(iB c _).mono ?_;rintro e w' ⟨rfl,rfl⟩;rw[HD.out])|(refine(iB d _).mono ?_;rintro e w' ⟨rfl,rfl⟩;rw[zu.out])))
  refine(P1.out _).mono ?_;rintro e w1 ⟨rfl,E1⟩;cases b2
  ·go_wp2_with fail
   refine(P2.out _).mono ?_;rintro e w2 ⟨rfl,E2⟩;have E:=E1.trans (E2.mono E1.size);go_wp2_with fail;go_ret;exact⟨bJ (by rw[HF.out];rfl),E⟩
  ·go_wp2_with fail
   refine(P2.out _).mono ?_;rintro e w2 ⟨rfl,E2⟩;have E:=E1.trans (E2.mono E1.size);go_wp2_with fail;go_ret;exact⟨bJ (by rw[HF.out];rfl),E⟩
 ·go_wp2_with (first|(go_at_call 297;refine(nL c _).mono ?_;rintro e w' ⟨rfl,rfl⟩;rw[HC.out])|(go_at_call 298;first|(refine(iB c _).mono ?_;rintro e w' ⟨rfl,rfl⟩;rw[HD.out])|(refine(iB d _).mono ?_;rintro e w' ⟨rfl,rfl⟩;rw[zu.out])))
  refine(P1.out _).mono ?_;rintro e w1 ⟨rfl,E1⟩;go_wp2_with fail;go_ret;exact⟨bJ (by rw[HF.out];rfl),E1⟩
theorem ZV(c:UInt8)(r:Tx)(hc:cG c=false)(hd:aR c=false)(h45:c≠45)(hl:r.length+1<=9223372036854775807)(w:World):Calls prog 235 #[.string (tx (c::r))] w fun e w'=>e= .returned (.int .i64 (bS (c::r)))/\Below w.heap.size w w':=by
 have HC:=hid (show cG c=false by exact hc);have HD:=hid (show aR c=false by exact hd);have i0:=mJ (c::r) c rfl;have ze:((c.toNat:Int)==45)=false:=by simpa using uy c 45 h45
 have HF:=hid (JW HC.out HD.out (r:=r) (by rintro⟨e, -⟩;exact h45 e));have P1:=hid (fun w=>qE (c::r) [47,92] w);have P2:=hid (fun w=>qE (c::r) [92,47] w);generalize an2 (c::r) [47,92]=b1 at*;generalize an2 (c::r) [92,47]=b2 at*;clear hl hc hd h45;go_in;cases b1
 ·go_wp2_with (first|(go_at_call 297;refine(nL c _).mono ?_;rintro e w' ⟨rfl,rfl⟩;rw[HC.out])|(go_at_call 298;first|(refine(iB c _).mono ?_;rintro e w' ⟨rfl,rfl⟩;rw[HD.out])))
  refine(P1.out _).mono ?_;rintro e w1 ⟨rfl,E1⟩;cases b2
  ·go_wp2_with fail
   refine(P2.out _).mono ?_;rintro e w2 ⟨rfl,E2⟩;have E:=E1.trans (E2.mono E1.size);go_wp2_with fail;go_ret;exact⟨bJ (by rw[HF.out];rfl),E⟩
  ·go_wp2_with fail
   refine(P2.out _).mono ?_;rintro e w2 ⟨rfl,E2⟩;have E:=E1.trans (E2.mono E1.size);go_wp2_with fail;go_ret;exact⟨bJ (by rw[HF.out];rfl),E⟩
 ·go_wp2_with (first|(go_at_call 297;refine(nL c _).mono ?_;rintro e w' ⟨rfl,rfl⟩;rw[HC.out])|(go_at_call 298;first|(refine(iB c _).mono ?_;rintro e w' ⟨rfl,rfl⟩;rw[HD.out])))
  refine(P1.out _).mono ?_;rintro e w1 ⟨rfl,E1⟩;go_wp2_with fail;go_ret;exact⟨bJ (by rw[HF.out];rfl),E1⟩
theorem ZS(s:Tx)(hs:s≠[])(hl:s.length<=9223372036854775807)(w:World):Calls prog 235 #[.string (tx s)] w fun e w'=>e= .returned (.int .i64 (bS s))/\Below w.heap.size w w':=by
 have up: ∀{e:Ending} {v:Value} {w':World},(e= .returned v/\w=w')->(e= .returned v/\Below w.heap.size w w'):=fun h=>⟨h.1,by rw[<-h.2];exact Below.refl _ _⟩
 cases s with
 |nil=>exact absurd rfl hs
 | cons c r=>
   simp only[ans]at hl;cases hc:cG c with
   |true=>exact(ZX c r hc hl w).mono fun e w' h=>up h
   | false=>
     cases hd:aR c with
     |true=>exact(ZW c r hc hd hl w).mono fun e w' h=>up h
     | false=>
       by_cases h45:c=45
       ·cases r with
        |nil=>exact ZT c h45 w
        | cons d r=>
          cases hdd:aR d with
          |true=>exact(ZY c (d::r) h45 d r rfl hdd (by simpa using hl) w).mono fun e w' h=>up h
          |false=>exact ZU c h45 d r hdd (by simpa using hl) w
       ·exact ZV c r hc hd h45 hl w
theorem kF{P:Program}{w:World}{ops:Array Oper}{rest:List Oper}{o:Oper}{a:Act}{Q:Exit->Act->World->Prop}{t e:TypeId}{z:Value}{size bytes:Nat}(T:gQ P t e z size bytes)(s x:Operand)(hgd:o.guard=none)(ho:o.op= .call { callee:=.builtin .append,args:=#[s,x],argTypes:=#[t,t] })
 {B n c N:Nat} {sa:Option Addr} {xs:List Value} (hN:w.heap.size=N) (hs:a.eval s= .slice sa n c) (hown:Own w B e size sa n c xs)
 {us:Array Value} (hx:a.eval x= .slice (some ⟨N,0,none⟩) 1 1) (hl:us.size=size) (h1c: ∀u∈us.toList,u.oneCell'=true)
 {w0:World} (hB:Below B w0 w) (o8:B<=w.heap.size) (hbytes:(n+1)*bytes<=140737488355328) (hm:n+1<=maxLen)
 (h: ∀a' c' w',Own w' B e size a' (n+1) c' (xs++us.toList)->kG w w' sa c a' c'->Below B w0 w'->wpList P ops Q rest (a.put o.dst (.slice a' (n+1) c')) w'):wpList P ops Q (o::rest) a (w.alloc (.cells us e)):=by
 subst hN;exact wO T s x hgd ho hs hown hx hl h1c hB o8 hbytes hm h
def nh(xs:List Value)(j:Nat)(vs:List Value):List Value:=xs.take j++vs++xs.drop (j+vs.length)
theorem ad6(xs:List Value)(j:Nat):nh xs j []=xs:=by simp[nh]
theorem ad5(xs:List Value)(j:Nat)(v:Value)(vs:List Value)(h:j<xs.length):nh xs j (v::vs)=nh (xs.set j v) (j+1) vs:=by
 have h1:xs.set j v=(xs.take j++[v])++xs.drop (j+1):=by rw[an7,if_pos h];simp
 have hl:(xs.take j++[v]).length=j+1:=by simp;omega
 unfold nh;rw[h1,List.take_left' hl,List.drop_append,List.drop_of_length_le (by omega:(xs.take j++[v]).length<=j+1+vs.length),anJ,List.drop_drop,hl];simp only[anF,anr,anJ,ans]
 congr 3
 congr 1
 omega
theorem Own.sets{B E size n c:Nat}{a:Option Addr}(ha:a≠none): ∀(vs:List Value) (j:Nat) (w:World) (xs:List Value),Own w B E size a n c xs->j+vs.length<=xs.length->
 Own (w.setCells (bk a) (fo a+j) vs) B E size a n c (nh xs j vs)/\Step w (w.setCells (bk a) (fo a+j) vs) a a
 |[],j,w,xs,h,_=>by rw[ad6];exact⟨h,⟨World.grownBy.refl _ _,.inl rfl⟩⟩
 | v::vs,j,w,xs,h,hj=>by
   simp only[ans]at hj;obtain⟨h1,s1⟩:=Own.set h ha j v;obtain⟨h2,s2⟩:=Own.sets ha vs (j+1) (w.setCell ⟨bk a,fo a+j,none⟩ v) (xs.set j v) h1 (by simp;omega);rw[ad5 _ _ _ _ (by omega)];refine⟨h2,⟨Im s1.grown s2.grown,.inl rfl⟩⟩
theorem alL(z:Value)(n:Nat):(an3 z.cells n).toList.length=n*z.cells.size:=by simp[an3]
theorem ajt{P:Program}{w:World}{t e:TypeId}{z:Value}{size bytes:Nat}(T:gQ P t e z size bytes)(hv: ∀w,(zeroValue e).run P w= .ok z w)(h1c: ∀u∈z.cells.toList,u.oneCell'=true)
 {B n c:Nat} {a:Option Addr} {xs:List Value} (h:Own w B e size a n c xs) (k:Nat) (hk:k<n):
 ∃w',(∀ty,(Builtin.clear_ #[t] ty #[.slice (lC a (c=k) (k*size)) (n-k) (c-k)]).run P w= .ok (.tuple #[]) w')/\Own w' B e size a n c (nh xs (k*size) (an3 z.cells (n-k)).toList)/\Step w w' a a:=by
 have hcap:=h.cap;have ha:=Own.some h (by omega)
 have hne:xs≠[]:=by
  intro e0;have hp:0<n*size:=Nat.mul_pos (by omega) T.pos;rw[e0]at hcap;simp at hcap;omega
 have rZ:=h.row.head hne;have cS: ¬c=k:=by omega
 have hcut:lC a (c=k) (k*size)=some ⟨bk a,fo a+k*size,none⟩:=by
  unfold lC;rw[if_neg cS]
  conv=>lhs;rw[rZ]
  by_cases h0:k*size=0
  ·simp[h0,Addr.add]
  ·simp[h0,Addr.add]
 rw[hcut];have hzl:=alL z (n-k);rw[T.zs]at hzl;have hlen:k*size+(n-k)*size=xs.length:=by rw[hcap.2.2,<-Nat.add_mul];congr 1;omega
 obtain⟨h2,s2⟩:=Own.sets ha (an3 z.cells (n-k)).toList (k*size) w xs h (by rw[hzl];omega);refine⟨_,fun ty=>?_,h2,s2⟩
 have hst:=run_storeCells_cells (P:=P) (bk a) (fo a+k*size) (an3 z.cells (n-k)).toList 0 w
  (by
   intro j hj;rw[hzl]at hj;have hjl:k*size+j<xs.length:=by omega
   have:=h.row.cell (k*size+j) hjl;rw[aod,Nat.add_assoc,this,amK hjl];rfl)
  (by intro j hj;rw[aod,Nat.add_assoc];exact Own.frozen h ha _)
  (by
   intro v hv';simp[an3]at hv';obtain⟨i,hi,rfl⟩:=hv';have hzs:=T.zs;have hpos:=T.pos;have hm:i%z.cells.size<z.cells.size:=Nat.mod_lt _ (by omega);rw[getElem!_pos z.cells _ hm];exact h1c _ (by simp))
 obtain⟨m,hm⟩: ∃m,n-k=m+1:=⟨n-k-1,by omega⟩;rw[hm]at hst⊢;simp only[aod]at hst;simp[Builtin.clear_,run_underlying T.j4,hv,hst]
set_option linter.unusedSectionVars false
section
variable {α:Type} {enc:α->List Value} {m:Nat} (hm: ∀x,(enc x).length=m)
include hm
theorem abx(l:List α)(k:Nat)(e:α)(h:k<l.length):nh (flat enc l) (k*m) (enc e)=flat enc (l.set k e):=by
 have h1:l.set k e=l.take k++e::l.drop (k+1):=by rw[an7,if_pos h]
 rw[h1,nO,xQ,<-Ie hm,<-Pq hm];unfold nh;rw[anF,hm,show(k+1)*m=k*m+m from Nat.succ_mul k m]
theorem Own.aj8{w:World}{B E n c:Nat}{a:Option Addr}{l:List α}(h:Own w B E m a n c (flat enc l))(hpos:0<m)(k:Nat)(hk:k<l.length)(e:α):
 Own (w.setCells (bk a) (fo a+k*m) (enc e)) B E m a n c (flat enc (l.set k e))/\Step w (w.setCells (bk a) (fo a+k*m) (enc e)) a a:=by
 have h1:=h.cap.2.2;rw[fL hm]at h1;have hn:n=l.length:=Nat.eq_of_mul_eq_mul_right hpos h1.symm;have hle:k*m+m<=l.length*m:=by rw[<-Nat.succ_mul];exact Nat.mul_le_mul_right _ hk
 have:=Own.sets (Own.some h (by omega)) (enc e) (k*m) w (flat enc l) h (by rw[fL hm,hm];exact hle)
 rwa[abx hm l k e hk]at this
theorem Own.abE{w:World}{B E n c k:Nat}{a:Option Addr}{L:List α}{vs:List Value}(h:Own w B E m a n c (nh (flat enc L) (k*m) vs))(hn:n=L.length)(hk:k<=n):Own w B E m a k c (flat enc (L.take k)):=by
 unfold nh at h;rw[anF,Ie hm]at h;obtain⟨m',rfl⟩: ∃m',n=k+m':=⟨n-k,by omega⟩;exact Own.front h (by rw[fL hm,aoc];congr 1;omega)
end
end Go.Proofs.YtkbbgjloifmmbaaGreatDoor
namespace Go.Proofs.YtkbbgjloifmmbaaGreatDoor
open _root_.Go.Proofs.Tryz
open _root_.Go.Lib renaming hasPrefix->an2,closeSpans->an6,spansFromP->an9
open _root_.List renaming getElem?_eq_getElem->amK,nil_append->anJ,getElem?_eq_some_iff->ano,append_assoc->anF,set_eq_take_append_cons_drop->an7,getElem?_eq_none->an8,takeWhile_cons->anC,all_takeWhile->aoa,getElem?_take_of_lt->aob,length_take->aoc,length_cons->ans,cons_append->anr,all_eq_true->anq,map_append->aof,take_append_drop->aog,mem_iff_getElem?->aoh,getElem?_drop->aoi,map_nil->aoj,drop_length->aom,take_length->anG,append_nil->anz
open _root_.Go.Builtin renaming zeroCells->an3
open _root_.Go.Utf8 renaming decode->an4
open _root_.Nat renaming lt_succ_iff_lt_or_eq->an5,le_refl->amS,add_zero->aod,not_lt_zero->aoe,lt_or_ge->amR
open _root_.Bool renaming false_eq_true->aok,eq_false_iff->aol,eq_iff_iff->anW
theorem aaY(n b0 b1 b2 b3:Nat)(h: ¬b0<128):128<=(Lib.decodeN n b0 b1 b2 b3).1:=by
 unfold Lib.decodeN;rw[if_neg h]
 repeat' split
 all_goals(simp only;omega)
theorem ajz(l:Tx)(pos:Nat)(c:UInt8)(hc:l[pos]? =some c):(c.toNat<128/\an4 (tx l) pos=(c.toNat,1))\/(128<=c.toNat/\128<=(an4 (tx l) pos).1/\1<=(an4 (tx l) pos).2/\pos+(an4 (tx l) pos).2<=l.length/\ ∀j d,j<(an4 (tx l) pos).2->l[pos+j]? =some d->128<=d.toNat):=by
 have hlt:=(ano.1 hc).1;have g: ∀k,l.getD k 0=(l[k]?).getD 0:=fun k=>by simp[List.getD]
 have h:=Lib.decode_N (tx l) pos;rw[gO]at h;have h0:(l.getD pos 0)=c:=by rw[g,hc];rfl
 rw[h0]at h;have hcv:=c.toNat_lt
 by_cases h1:c.toNat<128
 ·left
  refine⟨h1,?_⟩;rw[h,Lib.decodeN_ascii _ _ _ _ _ h1]
 ·right
  have hh:=aaY (l.length-pos) c.toNat (l.getD (pos+1) 0).toNat (l.getD (pos+2) 0).toNat (l.getD (pos+3) 0).toNat h1;have hw:=Lib.decodeN_ge1 (l.length-pos) c.toNat (l.getD (pos+1) 0).toNat (l.getD (pos+2) 0).toNat (l.getD (pos+3) 0).toNat;obtain⟨c2,c3,c4,c5⟩:=Lib.decodeN_conts (l.length-pos) c.toNat (l.getD (pos+1) 0).toNat (l.getD (pos+2) 0).toNat (l.getD (pos+3) 0).toNat;rw[h];generalize Lib.decodeN (l.length-pos) c.toNat (l.getD (pos+1) 0).toNat (l.getD (pos+2) 0).toNat (l.getD (pos+3) 0).toNat=p at*;refine⟨by omega,hh,hw,?_,fun j d hj hd=>?_⟩
  ·have:=p.2
   rcases amR 3 p.2 with k|k
   ·have:=(c4 k).2;omega
   ·rcases amR 2 p.2 with k|k
    ·have:=(c3 k).2;omega
    ·rcases amR 1 p.2 with k|k
     ·have:=(c2 k).2;omega
     ·omega
  ·have gd: ∀k,l[k]? =some d->l.getD k 0=d:=fun k hk=>by rw[g,hk];rfl
   match j,hj with
   |0,_=>rw[aod,hc]at hd;cases hd;omega
   |1,hj=>have:=(c2 (by omega)).1;rw[gd _ hd]at this;omega
   |2,hj=>have:=(c3 (by omega)).1;rw[gd _ hd]at this;omega
   |3,hj=>have:=(c4 (by omega)).1;rw[gd _ hd]at this;omega
   |k+4,hj=>omega
def bM:Tx->Tx->List Tx
 |u,[]=>fB u
 |u,c::r=>if aj c then fB u++bM [] r else bM (u++[c]) r
theorem rO(u:Tx){c:UInt8}(r:Tx)(h:aj c=true):bM u (c::r)=fB u++bM [] r:=by rw[bM,if_pos h]
theorem xO(u:Tx){c:UInt8}(r:Tx)(h:aj c=false):bM u (c::r)=bM (u++[c]) r:=by rw[bM,if_neg (by rw[h];decide)]
theorem DF: ∀(x u r:Tx),(∀c∈x,aj c=false)->bM u (x++r)=bM (u++x) r
 |[],u,r,_=>by simp
 |c::x,u,r,h=>by rw[anr,xO _ _ (h c (by simp)),DF x _ r (fun d hd=>h d (by simp[hd]))];simp
def lX(n:Nat):Bool:=decide (n=32)||(decide (n=9)||(decide (n=10)||decide (n=13)))
theorem Fj(c:UInt8):lX c.toNat=aj c:=by
 have:=kZ (p:=fun c=>lX c.toNat==aj c) (by decide+kernel) c;simpa using this
theorem acm{c:UInt8}(h:128<=c.toNat):aj c=false:=by
 rw[<-Fj];unfold lX;simp;omega
def EI(l:Tx)(x:Nat × Nat):Tx:=(l.take x.2).drop x.1
def opn(l:Tx)(st:Option Nat)(pos:Nat):Tx:=match st with
 |some a=>(l.take pos).drop a
 |none=>[]
theorem Fv(l:Tx)(a pos k:Nat)(h:a<=pos)(hp:pos+k<=l.length):(l.take (pos+k)).drop a=(l.take pos).drop a++(l.drop pos).take k:=by
 rw[List.take_add,List.drop_append_of_le_length (by simp;omega)]
theorem wD(l:Tx): ∀(f pos:Nat) (st:Option Nat) (acc:List (Nat × Nat)),l.length<=pos+f->pos<=l.length->(∀a,st=some a->a<pos)->
 acc.map (EI l)++bM (opn l st pos) (l.drop pos)=(an6 (tx l) (an9 lX (tx l) f pos st acc)).map (EI l)
 | 0,pos,st,acc,h,hp,hst=>by
   obtain rfl:pos=l.length:=by omega
   rw[aom];cases st with
   |none=>simp[an9,an6,opn,bM,fB]
   | some a=>
     have:=hst a rfl;have hne:l.drop a≠[]:=by simp;omega
     simp only[an9,an6,opn,bM,anG,aof,List.map_cons,aoj,EI,aP];rw[rQ hne]
 | f+1,pos,st,acc,h,hp,hst=>by
   by_cases hlt:pos<l.length
   ·have hc:l[pos]? =some l[pos]:=amK hlt
    obtain⟨c,hcc⟩: ∃c,l[pos]=c:=⟨_,rfl⟩;rw[hcc]at hc;have hd:l.drop pos=c::l.drop (pos+1):=by rw[List.drop_eq_getElem_cons hlt,hcc]
    unfold an9;rw[if_pos (by rw[aP];exact hlt)];rcases ajz l pos c hc with⟨h1,h2⟩|⟨h1,h2,h3,h4,h5⟩
    ·rw[h2]
     simp only;rw[Fj];have one:(l.drop pos).take 1=[c]:=by rw[hd];rfl
     cases hb:aj c with
     | true=>
       simp only[if_true];cases st with
       | none=>
         rw[<-wD l f (pos+1) none acc (by omega) (by omega) (fun a h=>by cases h),hd,rO _ _ hb];rfl
       | some a=>
         have ha:=hst a rfl;rw[<-wD l f (pos+1) none _ (by omega) (by omega) (fun a h=>by cases h),hd,rO _ _ hb]
         have hne:(l.take pos).drop a≠[]:=by
          intro e;have:=congrArg List.length e;rw[List.length_drop,aoc]at this;simp only[List.length_nil]at this;omega
         show _++(fB ((l.take pos).drop a)++_)=_;rw[rQ hne,aof,anF];rfl
     | false=>
       simp only[aok,if_false];cases st with
       | none=>
         rw[<-wD l f (pos+1) (some pos) acc (by omega) (by omega) (fun a h=>by cases h;omega),hd,xO _ _ hb];show _++bM ([]++[c]) _=_++bM ((l.take (pos+1)).drop pos) _;rw[Fv l pos pos 1 (amS _) (by omega),one];simp
       | some a=>
         have ha:=hst a rfl;rw[<-wD l f (pos+1) (some a) acc (by omega) (by omega) (fun b h=>by cases h;omega),hd,xO _ _ hb];show _++bM ((l.take pos).drop a++[c]) _=_++bM ((l.take (pos+1)).drop a) _;rw[Fv l a pos 1 (by omega) (by omega),one]
    ·have hr:lX (an4 (tx l) pos).1=false:=by unfold lX;simp;omega
     generalize an4 (tx l) pos=p at*;obtain⟨r,wd⟩:=p;simp only at hr h3 h4 h5⊢;rw[hr];simp only[aok,if_false]
     have hx: ∀c∈(l.drop pos).take wd,aj c=false:=fun d hd=>by
      obtain⟨j,hj⟩:=aoh.1 hd
      have Qw:j<wd:=by
       have:=(ano.1 hj).1;simp at this;omega
      rw[aob Qw,aoi]at hj;exact acm (h5 j d Qw hj)
     have hsp:l.drop pos=(l.drop pos).take wd++l.drop (pos+wd):=by rw[<-List.drop_drop,aog]
     cases st with
     | none=>
       rw[<-wD l f (pos+wd) (some pos) acc (by omega) (by omega) (fun a h=>by cases h;omega)]
       conv=>lhs;rw[hsp]
       rw[DF _ _ _ hx];show _++bM ([]++_) _=_++bM ((l.take (pos+wd)).drop pos) _;rw[Fv l pos pos wd (amS _) h4];simp
     | some a=>
       have ha:=hst a rfl;rw[<-wD l f (pos+wd) (some a) acc (by omega) (by omega) (fun b h=>by cases h;omega)]
       conv=>lhs;rw[hsp]
       rw[DF _ _ _ hx];show _++bM ((l.take pos).drop a++_) _=_++bM ((l.take (pos+wd)).drop a) _;rw[Fv l a pos wd (by omega) h4]
   ·obtain rfl:pos=l.length:=by omega
    rw[Lib.spansFromP_end _ _ _ _ _ _ (by rw[aP];exact hlt),aom];cases st with
    |none=>simp[an6,opn,bM,fB]
    | some a=>
      have:=hst a rfl;have hne:l.drop a≠[]:=by simp;omega
      simp only[an6,opn,bM,anG,aof,List.map_cons,aoj,EI,aP];rw[rQ hne]
theorem aa7(l:Tx):Lib.goFieldsP lX (tx l)=(bM [] l).map tx:=by
 unfold Lib.goFieldsP Lib.spansOfP;have h:=wD l l.length 0 none [] (by omega) (by omega) (fun a h=>by cases h);rw[aP];rw[aoj,anJ,List.drop_zero]at h;show _=(bM (opn l none 0) l).map tx;rw[h,List.map_map];apply List.map_congr_left;intro x hx;exact FA l x.1 x.2
theorem DK: ∀(a u b:Tx),(∀c∈b,aj c=true)->bM u (a++b)=bM u a
 |[],u,[],_=>rfl
 | [],u,c::b,h=>by
   have:=DK [] [] b (fun d hd=>h d (by simp[hd]));rw[anJ]at this;rw[anJ,rO _ _ (h c (by simp)),this];simp[bM,fB]
 | x::a,u,b,h=>by
   rw[anr];cases hb:aj x with
   |true=>rw[rO _ _ hb,rO _ _ hb,DK a [] b h]
   |false=>rw[xO _ _ hb,xO _ _ hb,DK a _ b h]
theorem DJ: ∀l:Tx,bM [] (l.dropWhile aj)=bM [] l
 |[]=>rfl
 | c::r=>by
   rw[List.dropWhile_cons];split
   ·rename_i h;rw[DJ r,rO _ _ h];rfl
   ·rfl
theorem abC(l:Tx):bM [] (ah l)=bM [] l:=by
 obtain⟨b,h1,h2⟩:=qB l;rw[pL,DJ]
 conv=>rhs;rw[h1]
 exact(DK _ _ _ h2).symm
theorem DL{w r:Tx}(h0:w≠[])(h: ∀c∈w,aj c=false)(hr: ∀c,r.head?=some c->aj c=true):bM [] (w++r)=w::bM [] r:=by
 rw[DF _ _ _ h,anJ];cases r with
 |nil=>simp[bM,rQ h0];rfl
 |cons c r=>rw[rO _ _ (hr c rfl),rO _ _ (hr c rfl),rQ h0];rfl
theorem abB{s:Tx}(h: ∃c∈s,aj c=false):bM [] s≠[]:=by
 obtain⟨c,hc,hb⟩:=h;rw[<-DJ];have hm:=O6 aj c hb s hc;cases hd:s.dropWhile aj with
 |nil=>rw[hd]at hm;cases hm
 | cons x t=>
   have hx:aj x=false:=js (l:=s) (by rw[hd];rfl);have e:x::t=(x::t.takeWhile nb)++t.dropWhile nb:=by simp
   rw[e,DL (by simp) (fun c hc=>by
    rcases List.mem_cons.1 hc with rfl|hc
    ·exact hx
    ·have:=anq.1 aoa c hc;unfold nb at this;simpa using this) (fun c hc=>by have:=js hc;unfold nb at this;simpa using this)]
   simp
theorem ak1{t:Tx}(h:Tr t):sG t=match bM [] t with
 |[a,b]=>some (a,b)
 |_=>none:=by
 cases t with
 |nil=>rfl
 | cons x t=>
   have hx:=h.1 x rfl;have e:x::t=(x::t).takeWhile nb++(x::t).dropWhile nb:=by simp
   have r8:nb x=true:=by unfold nb;rw[hx];rfl
   have hw:bM [] (x::t)=(x::t).takeWhile nb::bM [] ((x::t).dropWhile nb):=by
    conv=>lhs;rw[e]
    refine DL (by rw[anC,if_pos r8];simp) (fun c hc=>?_) (fun c hc=>?_)
    ·have:=anq.1 aoa c hc;unfold nb at this;simpa using this
    ·have:=js hc;unfold nb at this;simpa using this
   have yb: ∀c,((x::t).dropWhile nb).dropWhile aj≠[]->(((x::t).dropWhile nb).dropWhile aj).getLast?=some c->aj c=false:=fun c _ hc=>
    h.2 c (En (En hc))
   rw[hw,<-DJ];unfold sG;simp only;have ach: ∀c,(((x::t).dropWhile nb).dropWhile aj).head?=some c->aj c=false:=fun c hc=>js hc
   generalize ((x::t).dropWhile nb).dropWhile aj=m at*;cases m with
   |nil=>rfl
   | cons y m=>
     have hy:=ach y rfl;cases hb:(y::m).any aj with
     | false=>
       rw[if_neg (by simp)]
       have hall: ∀c∈y::m,aj c=false:=fun c hc=>by
        have:=List.any_eq_false.1 hb c hc;simpa using this
       have:bM [] ((y::m)++[])=[y::m]:=by
        rw[DL (by simp) hall (fun c hc=>by cases hc)];rfl
       rw[anz]at this;rw[this]
     | true=>
       rw[if_pos (.inr rfl)];have e2:y::m=(y::m).takeWhile nb++(y::m).dropWhile nb:=by simp
       have hny:nb y=true:=by unfold nb;rw[hy];rfl
       have hw2:bM [] (y::m)=(y::m).takeWhile nb::bM [] ((y::m).dropWhile nb):=by
        conv=>lhs;rw[e2]
        refine DL (by rw[anC,if_pos hny];simp) (fun c hc=>?_) (fun c hc=>?_)
        ·have:=anq.1 aoa c hc;unfold nb at this;simpa using this
        ·have:=js hc;unfold nb at this;simpa using this
       have hne:bM [] ((y::m).dropWhile nb)≠[]:=by
        apply abB
        have hm:(y::m).dropWhile nb≠[]:=by
         intro e;obtain⟨c,hc,hcb⟩:=List.any_eq_true.1 hb;have:=rM e c hc;unfold nb at this;rw[hcb]at this;cases this
        obtain⟨z,hz⟩: ∃z,((y::m).dropWhile nb).getLast?=some z:=⟨_,List.getLast?_eq_some_getLast hm⟩;exact⟨z,List.mem_of_getLast? hz,yb z (by simp) (En hz)⟩
       rw[hw2];cases hf:bM [] ((y::m).dropWhile nb)with
       |nil=>exact absurd hf hne
       |cons a b=>rfl
end Go.Proofs.YtkbbgjloifmmbaaGreatDoor

/- What ReadBackP leans on, part 33. -/
import Derived.Test.YtkbbgjloifmmbaaGreatDoorRb10
import Derived.Test.YtkbbgjloifmmbaaGreatDoorRb13
set_option linter.unusedVariables false
set_option maxRecDepth 100000
set_option maxHeartbeats 32000000
namespace Go.Proofs.YtkbbgjloifmmbaaGreatDoor
open _root_.Go.Proofs.Tryz
open _root_.List renaming length_cons->ans,length_nil->anX,length_reverse->ap0,getElem?_eq_some_iff->ano,getElem?_eq_getElem->amK,reverse_reverse->amU,dropWhile_cons->amO,head?_reverse->am2
open _root_.Bool renaming not_false->apX,not_true->apZ
open _root_.Go.Lib renaming trimRightB->apY,trimB->ap1
open _root_.Nat renaming lt_succ_iff_lt_or_eq->an5
open Go.RowKit
theorem tC{i:Ins}{o q x y z:Bool}(hc:aU i=(o&&q&&x&&y&&z))(ho:o=true):(q=false/\eR i=91)\/(q=true/\x=false/\eR i=91)\/(q=true/\x=true/\y=false/\eR i=91)\/(q=true/\x=true/\y=true/\z=false/\eR i=91)\/(q=true/\x=true/\y=true/\z=true/\eR i=0):=by
 subst ho;cases q
 ·exact .inl ⟨rfl,gS hc⟩
 cases x
 ·exact .inr (.inl ⟨rfl,rfl,gS hc⟩)
 cases y
 ·exact .inr (.inr (.inl ⟨rfl,rfl,rfl,gS hc⟩))
 cases z
 ·exact .inr (.inr (.inr (.inl ⟨rfl,rfl,rfl,rfl,gS hc⟩)))
 ·exact .inr (.inr (.inr (.inr ⟨rfl,rfl,rfl,rfl,rN hc⟩)))
section
variable (op d a b ag:Int) (loc label:Tx) (ai:Int) (w:World)
theorem ais(hl:label.length<=9223372036854775807):Calls prog 107 #[vI ⟨6,d,a,b,ag,loc,label,ai⟩] w (ax w (.int .i64 (eR ⟨6,d,a,b,ag,loc,label,ai⟩))):=by
 obtain⟨n,hn⟩: ∃n,n= !decide ((⟨6,d,a,b,ag,loc,label,ai⟩:Ins)=⟨6,d,a,0,0,[],[],0⟩):=⟨_,rfl⟩;have vu: ∀w,(binOp .neq 50 (.agg #[.int .i64 6,.int .i64 d,.int .i64 a,.int .i64 b,.int .i64 ag,.string (tx loc),.string (tx label),.int .i64 ai]) (.agg #[.int .i64 6,.int .i64 d,.int .i64 a,.int .i64 0,.int .i64 0,.string ⟨#[]⟩,.string ⟨#[]⟩,.int .i64 0])).run prog w= .ok (.bool n) w:=fun w=>by rw[hn];exact jX ⟨6,d,a,b,ag,loc,label,ai⟩ ⟨6,d,a,0,0,[],[],0⟩ w
 rcases tC (i:=⟨6,d,a,b,ag,loc,label,ai⟩) (o:=dn ⟨6,d,a,b,ag,loc,label,ai⟩) (q:=decide ((⟨6,d,a,b,ag,loc,label,ai⟩:Ins)=⟨6,d,a,0,0,[],[],0⟩)) (x:=bX d) (y:=bX a) (z:=bX b) rfl rfl with⟨hq,h⟩|⟨hq,h1,h⟩|⟨hq,h1,h2,h⟩|⟨hq,h1,h2,h3,h⟩|⟨hq,h1,h2,h3,h⟩
 all_goals
  rw[hq]at hn;simp only[apZ,apX]at hn;subst hn;have HE:=hid h
  (try have H1:=hid h1);(try have H2:=hid h2);(try have H3:=hid h3)
  clear h hq;(try clear h1);(try clear h2);(try clear h3);go_in
  go_wp2_with (first|(go_at_call 191;refine(lU _ _).mono ?_;rintro e w' ⟨rfl,rfl⟩;(try rw[H1.out]);(try rw[H2.out]);(try rw[H3.out]))|(go_at_call 190;refine(lT label hl _).mono ?_;rintro e w' ⟨rfl,rfl⟩;rw[HM.out]))
  go_ret;exact⟨bJ HE.out.symm,aK⟩
theorem aix(hl:label.length<=9223372036854775807):Calls prog 107 #[vI ⟨7,d,a,b,ag,loc,label,ai⟩] w (ax w (.int .i64 (eR ⟨7,d,a,b,ag,loc,label,ai⟩))):=by
 obtain⟨n,hn⟩: ∃n,n= !decide ((⟨7,d,a,b,ag,loc,label,ai⟩:Ins)=⟨7,0,a,b,0,[],[],0⟩):=⟨_,rfl⟩;have vu: ∀w,(binOp .neq 50 (.agg #[.int .i64 7,.int .i64 d,.int .i64 a,.int .i64 b,.int .i64 ag,.string (tx loc),.string (tx label),.int .i64 ai]) (.agg #[.int .i64 7,.int .i64 0,.int .i64 a,.int .i64 b,.int .i64 0,.string ⟨#[]⟩,.string ⟨#[]⟩,.int .i64 0])).run prog w= .ok (.bool n) w:=fun w=>by rw[hn];exact jX ⟨7,d,a,b,ag,loc,label,ai⟩ ⟨7,0,a,b,0,[],[],0⟩ w
 rcases tC (i:=⟨7,d,a,b,ag,loc,label,ai⟩) (o:=dn ⟨7,d,a,b,ag,loc,label,ai⟩) (q:=decide ((⟨7,d,a,b,ag,loc,label,ai⟩:Ins)=⟨7,0,a,b,0,[],[],0⟩)) (x:=bX d) (y:=bX a) (z:=bX b) rfl rfl with⟨hq,h⟩|⟨hq,h1,h⟩|⟨hq,h1,h2,h⟩|⟨hq,h1,h2,h3,h⟩|⟨hq,h1,h2,h3,h⟩
 all_goals
  rw[hq]at hn;simp only[apZ,apX]at hn;subst hn;have HE:=hid h
  (try have H1:=hid h1);(try have H2:=hid h2);(try have H3:=hid h3)
  clear h hq;(try clear h1);(try clear h2);(try clear h3);go_in
  go_wp2_with (first|(go_at_call 191;refine(lU _ _).mono ?_;rintro e w' ⟨rfl,rfl⟩;(try rw[H1.out]);(try rw[H2.out]);(try rw[H3.out]))|(go_at_call 190;refine(lT label hl _).mono ?_;rintro e w' ⟨rfl,rfl⟩;rw[HM.out]))
  go_ret;exact⟨bJ HE.out.symm,aK⟩
theorem aiy(hl:label.length<=9223372036854775807):Calls prog 107 #[vI ⟨9,d,a,b,ag,loc,label,ai⟩] w (ax w (.int .i64 (eR ⟨9,d,a,b,ag,loc,label,ai⟩))):=by
 obtain⟨n,hn⟩: ∃n,n= !decide ((⟨9,d,a,b,ag,loc,label,ai⟩:Ins)=⟨9,d,a,b,0,[],[],0⟩):=⟨_,rfl⟩;have vu: ∀w,(binOp .neq 50 (.agg #[.int .i64 9,.int .i64 d,.int .i64 a,.int .i64 b,.int .i64 ag,.string (tx loc),.string (tx label),.int .i64 ai]) (.agg #[.int .i64 9,.int .i64 d,.int .i64 a,.int .i64 b,.int .i64 0,.string ⟨#[]⟩,.string ⟨#[]⟩,.int .i64 0])).run prog w= .ok (.bool n) w:=fun w=>by rw[hn];exact jX ⟨9,d,a,b,ag,loc,label,ai⟩ ⟨9,d,a,b,0,[],[],0⟩ w
 rcases tC (i:=⟨9,d,a,b,ag,loc,label,ai⟩) (o:=dn ⟨9,d,a,b,ag,loc,label,ai⟩) (q:=decide ((⟨9,d,a,b,ag,loc,label,ai⟩:Ins)=⟨9,d,a,b,0,[],[],0⟩)) (x:=bX d) (y:=bX a) (z:=bX b) rfl rfl with⟨hq,h⟩|⟨hq,h1,h⟩|⟨hq,h1,h2,h⟩|⟨hq,h1,h2,h3,h⟩|⟨hq,h1,h2,h3,h⟩
 all_goals
  rw[hq]at hn;simp only[apZ,apX]at hn;subst hn;have HE:=hid h
  (try have H1:=hid h1);(try have H2:=hid h2);(try have H3:=hid h3)
  clear h hq;(try clear h1);(try clear h2);(try clear h3);go_in
  go_wp2_with (first|(go_at_call 191;refine(lU _ _).mono ?_;rintro e w' ⟨rfl,rfl⟩;(try rw[H1.out]);(try rw[H2.out]);(try rw[H3.out]))|(go_at_call 190;refine(lT label hl _).mono ?_;rintro e w' ⟨rfl,rfl⟩;rw[HM.out]))
  go_ret;exact⟨bJ HE.out.symm,aK⟩
theorem aik(hl:label.length<=9223372036854775807):Calls prog 107 #[vI ⟨10,d,a,b,ag,loc,label,ai⟩] w (ax w (.int .i64 (eR ⟨10,d,a,b,ag,loc,label,ai⟩))):=by
 obtain⟨n,hn⟩: ∃n,n= !decide ((⟨10,d,a,b,ag,loc,label,ai⟩:Ins)=⟨10,d,a,b,0,[],[],0⟩):=⟨_,rfl⟩;have vu: ∀w,(binOp .neq 50 (.agg #[.int .i64 10,.int .i64 d,.int .i64 a,.int .i64 b,.int .i64 ag,.string (tx loc),.string (tx label),.int .i64 ai]) (.agg #[.int .i64 10,.int .i64 d,.int .i64 a,.int .i64 b,.int .i64 0,.string ⟨#[]⟩,.string ⟨#[]⟩,.int .i64 0])).run prog w= .ok (.bool n) w:=fun w=>by rw[hn];exact jX ⟨10,d,a,b,ag,loc,label,ai⟩ ⟨10,d,a,b,0,[],[],0⟩ w
 rcases tC (i:=⟨10,d,a,b,ag,loc,label,ai⟩) (o:=dn ⟨10,d,a,b,ag,loc,label,ai⟩) (q:=decide ((⟨10,d,a,b,ag,loc,label,ai⟩:Ins)=⟨10,d,a,b,0,[],[],0⟩)) (x:=bX d) (y:=bX a) (z:=bX b) rfl rfl with⟨hq,h⟩|⟨hq,h1,h⟩|⟨hq,h1,h2,h⟩|⟨hq,h1,h2,h3,h⟩|⟨hq,h1,h2,h3,h⟩
 all_goals
  rw[hq]at hn;simp only[apZ,apX]at hn;subst hn;have HE:=hid h
  (try have H1:=hid h1);(try have H2:=hid h2);(try have H3:=hid h3)
  clear h hq;(try clear h1);(try clear h2);(try clear h3);go_in
  go_wp2_with (first|(go_at_call 191;refine(lU _ _).mono ?_;rintro e w' ⟨rfl,rfl⟩;(try rw[H1.out]);(try rw[H2.out]);(try rw[H3.out]))|(go_at_call 190;refine(lT label hl _).mono ?_;rintro e w' ⟨rfl,rfl⟩;rw[HM.out]))
  go_ret;exact⟨bJ HE.out.symm,aK⟩
theorem aiw(hl:label.length<=9223372036854775807)(h:ag< -2048):Calls prog 107 #[vI ⟨8,d,a,b,ag,loc,label,ai⟩] w (ax w (.int .i64 (eR ⟨8,d,a,b,ag,loc,label,ai⟩))):=by
 have z1:decide (-2048<=ag)=false:=by simp;omega
 have HE:=hid (gS (i:=⟨8,d,a,b,ag,loc,label,ai⟩) (show aU ⟨8,d,a,b,ag,loc,label,ai⟩=false by unfold aU;rw[show dn ⟨8,d,a,b,ag,loc,label,ai⟩=false from(by show(decide (-2048<=ag)&&decide (ag<=2047))=false;simp;omega)];rfl));go_in
 go_wp2_with (first|(go_at_call 191;refine(lU _ _).mono ?_;rintro e w' ⟨rfl,rfl⟩;(try rw[H1.out]);(try rw[H2.out]);(try rw[H3.out]))|(go_at_call 190;refine(lT label hl _).mono ?_;rintro e w' ⟨rfl,rfl⟩;rw[HM.out]))
 go_ret;exact⟨bJ HE.out.symm,aK⟩
theorem aiu(hl:label.length<=9223372036854775807)(h:2047<ag):Calls prog 107 #[vI ⟨8,d,a,b,ag,loc,label,ai⟩] w (ax w (.int .i64 (eR ⟨8,d,a,b,ag,loc,label,ai⟩))):=by
 have z1:decide (-2048<=ag)=true:=by simp;omega
 have z2:decide (ag<=2047)=false:=by simp;omega
 have HE:=hid (gS (i:=⟨8,d,a,b,ag,loc,label,ai⟩) (show aU ⟨8,d,a,b,ag,loc,label,ai⟩=false by unfold aU;rw[show dn ⟨8,d,a,b,ag,loc,label,ai⟩=false from(by show(decide (-2048<=ag)&&decide (ag<=2047))=false;simp;omega)];rfl));go_in
 go_wp2_with (first|(go_at_call 191;refine(lU _ _).mono ?_;rintro e w' ⟨rfl,rfl⟩;(try rw[H1.out]);(try rw[H2.out]);(try rw[H3.out]))|(go_at_call 190;refine(lT label hl _).mono ?_;rintro e w' ⟨rfl,rfl⟩;rw[HM.out]))
 go_ret;exact⟨bJ HE.out.symm,aK⟩
theorem aiv(hl:label.length<=9223372036854775807)(g1: -2048<=ag)(g2:ag<=2047):Calls prog 107 #[vI ⟨8,d,a,b,ag,loc,label,ai⟩] w (ax w (.int .i64 (eR ⟨8,d,a,b,ag,loc,label,ai⟩))):=by
 have z1:decide (-2048<=ag)=true:=by simp;omega
 have z2:decide (ag<=2047)=true:=by simp;omega
 obtain⟨n,hn⟩: ∃n,n= !decide ((⟨8,d,a,b,ag,loc,label,ai⟩:Ins)=⟨8,d,a,0,ag,[],[],0⟩):=⟨_,rfl⟩;have vu: ∀w,(binOp .neq 50 (.agg #[.int .i64 8,.int .i64 d,.int .i64 a,.int .i64 b,.int .i64 ag,.string (tx loc),.string (tx label),.int .i64 ai]) (.agg #[.int .i64 8,.int .i64 d,.int .i64 a,.int .i64 0,.int .i64 ag,.string ⟨#[]⟩,.string ⟨#[]⟩,.int .i64 0])).run prog w= .ok (.bool n) w:=fun w=>by rw[hn];exact jX ⟨8,d,a,b,ag,loc,label,ai⟩ ⟨8,d,a,0,ag,[],[],0⟩ w
 rcases tC (i:=⟨8,d,a,b,ag,loc,label,ai⟩) (o:=dn ⟨8,d,a,b,ag,loc,label,ai⟩) (q:=decide ((⟨8,d,a,b,ag,loc,label,ai⟩:Ins)=⟨8,d,a,0,ag,[],[],0⟩)) (x:=bX d) (y:=bX a) (z:=bX b) rfl (by show(decide (-2048<=ag)&&decide (ag<=2047))=true;simp;omega)with⟨hq,h⟩|⟨hq,h1,h⟩|⟨hq,h1,h2,h⟩|⟨hq,h1,h2,h3,h⟩|⟨hq,h1,h2,h3,h⟩
 all_goals
  rw[hq]at hn;simp only[apZ,apX]at hn;subst hn;have HE:=hid h
  (try have H1:=hid h1);(try have H2:=hid h2);(try have H3:=hid h3)
  clear h hq;(try clear h1);(try clear h2);(try clear h3);go_in
  go_wp2_with (first|(go_at_call 191;refine(lU _ _).mono ?_;rintro e w' ⟨rfl,rfl⟩;(try rw[H1.out]);(try rw[H2.out]);(try rw[H3.out]))|(go_at_call 190;refine(lT label hl _).mono ?_;rintro e w' ⟨rfl,rfl⟩;rw[HM.out]))
  go_ret;exact⟨bJ HE.out.symm,aK⟩
theorem aip(hl:label.length<=9223372036854775807)(h:ai<2):Calls prog 107 #[vI ⟨13,d,a,b,ag,loc,label,ai⟩] w (ax w (.int .i64 (eR ⟨13,d,a,b,ag,loc,label,ai⟩))):=by
 have z1:decide (2<=ai)=false:=by simp;omega
 have HE:=hid (gS (i:=⟨13,d,a,b,ag,loc,label,ai⟩) (show aU ⟨13,d,a,b,ag,loc,label,ai⟩=false by unfold aU;rw[show dn ⟨13,d,a,b,ag,loc,label,ai⟩=false from(by show(decide (2<=ai)&&decide (ai<=11))=false;simp;omega)];rfl));go_in
 go_wp2_with (first|(go_at_call 191;refine(lU _ _).mono ?_;rintro e w' ⟨rfl,rfl⟩;(try rw[H1.out]);(try rw[H2.out]);(try rw[H3.out]))|(go_at_call 190;refine(lT label hl _).mono ?_;rintro e w' ⟨rfl,rfl⟩;rw[HM.out]))
 go_ret;exact⟨bJ HE.out.symm,aK⟩
theorem ain(hl:label.length<=9223372036854775807)(h:11<ai):Calls prog 107 #[vI ⟨13,d,a,b,ag,loc,label,ai⟩] w (ax w (.int .i64 (eR ⟨13,d,a,b,ag,loc,label,ai⟩))):=by
 have z1:decide (2<=ai)=true:=by simp;omega
 have z2:decide (ai<=11)=false:=by simp;omega
 have HE:=hid (gS (i:=⟨13,d,a,b,ag,loc,label,ai⟩) (show aU ⟨13,d,a,b,ag,loc,label,ai⟩=false by unfold aU;rw[show dn ⟨13,d,a,b,ag,loc,label,ai⟩=false from(by show(decide (2<=ai)&&decide (ai<=11))=false;simp;omega)];rfl));go_in
 go_wp2_with (first|(go_at_call 191;refine(lU _ _).mono ?_;rintro e w' ⟨rfl,rfl⟩;(try rw[H1.out]);(try rw[H2.out]);(try rw[H3.out]))|(go_at_call 190;refine(lT label hl _).mono ?_;rintro e w' ⟨rfl,rfl⟩;rw[HM.out]))
 go_ret;exact⟨bJ HE.out.symm,aK⟩
theorem aio(hl:label.length<=9223372036854775807)(g1:2<=ai)(g2:ai<=11):Calls prog 107 #[vI ⟨13,d,a,b,ag,loc,label,ai⟩] w (ax w (.int .i64 (eR ⟨13,d,a,b,ag,loc,label,ai⟩))):=by
 have z1:decide (2<=ai)=true:=by simp;omega
 have z2:decide (ai<=11)=true:=by simp;omega
 obtain⟨n,hn⟩: ∃n,n= !decide ((⟨13,d,a,b,ag,loc,label,ai⟩:Ins)=⟨13,0,0,0,0,[],[],ai⟩):=⟨_,rfl⟩;have vu: ∀w,(binOp .neq 50 (.agg #[.int .i64 13,.int .i64 d,.int .i64 a,.int .i64 b,.int .i64 ag,.string (tx loc),.string (tx label),.int .i64 ai]) (.agg #[.int .i64 13,.int .i64 0,.int .i64 0,.int .i64 0,.int .i64 0,.string ⟨#[]⟩,.string ⟨#[]⟩,.int .i64 ai])).run prog w= .ok (.bool n) w:=fun w=>by rw[hn];exact jX ⟨13,d,a,b,ag,loc,label,ai⟩ ⟨13,0,0,0,0,[],[],ai⟩ w
 rcases tC (i:=⟨13,d,a,b,ag,loc,label,ai⟩) (o:=dn ⟨13,d,a,b,ag,loc,label,ai⟩) (q:=decide ((⟨13,d,a,b,ag,loc,label,ai⟩:Ins)=⟨13,0,0,0,0,[],[],ai⟩)) (x:=bX d) (y:=bX a) (z:=bX b) rfl (by show(decide (2<=ai)&&decide (ai<=11))=true;simp;omega)with⟨hq,h⟩|⟨hq,h1,h⟩|⟨hq,h1,h2,h⟩|⟨hq,h1,h2,h3,h⟩|⟨hq,h1,h2,h3,h⟩
 all_goals
  rw[hq]at hn;simp only[apZ,apX]at hn;subst hn;have HE:=hid h
  (try have H1:=hid h1);(try have H2:=hid h2);(try have H3:=hid h3)
  clear h hq;(try clear h1);(try clear h2);(try clear h3);go_in
  go_wp2_with (first|(go_at_call 191;refine(lU _ _).mono ?_;rintro e w' ⟨rfl,rfl⟩;(try rw[H1.out]);(try rw[H2.out]);(try rw[H3.out]))|(go_at_call 190;refine(lT label hl _).mono ?_;rintro e w' ⟨rfl,rfl⟩;rw[HM.out]))
  go_ret;exact⟨bJ HE.out.symm,aK⟩
theorem ait(hl:label.length<=9223372036854775807)(h:op<6\/13<op):Calls prog 107 #[vI ⟨op,d,a,b,ag,loc,label,ai⟩] w (ax w (.int .i64 (eR ⟨op,d,a,b,ag,loc,label,ai⟩))):=by
 have z6:(op==6)=false:=by simp;omega
 have z7:(op==7)=false:=by simp;omega
 have z8:(op==8)=false:=by simp;omega
 have z9:(op==9)=false:=by simp;omega
 have z10:(op==10)=false:=by simp;omega
 have Ci:(op==11)=false:=by simp;omega
 have z12:(op==12)=false:=by simp;omega
 have z13:(op==13)=false:=by simp;omega
 have HE:=hid (gS (i:=⟨op,d,a,b,ag,loc,label,ai⟩) (show aU ⟨op,d,a,b,ag,loc,label,ai⟩=false by unfold aU;rw[show dn ⟨op,d,a,b,ag,loc,label,ai⟩=false from(by unfold dn;simp only;rw[if_neg (by omega),if_neg (by omega),if_neg (by omega)];simp;omega)];rfl));go_in
 go_wp2_with (first|(go_at_call 191;refine(lU _ _).mono ?_;rintro e w' ⟨rfl,rfl⟩;(try rw[H1.out]);(try rw[H2.out]);(try rw[H3.out]))|(go_at_call 190;refine(lT label hl _).mono ?_;rintro e w' ⟨rfl,rfl⟩;rw[HM.out]))
 go_ret;exact⟨bJ HE.out.symm,aK⟩
theorem ail(hl:label.length<=9223372036854775807)(hm:az label=true):Calls prog 107 #[vI ⟨11,d,a,b,ag,loc,label,ai⟩] w (ax w (.int .i64 (eR ⟨11,d,a,b,ag,loc,label,ai⟩))):=by
 have HM:=hid hm;obtain⟨n,hn⟩: ∃n,n= !decide ((⟨11,d,a,b,ag,loc,label,ai⟩:Ins)=⟨11,0,a,b,0,[],label,0⟩):=⟨_,rfl⟩;have vu: ∀w,(binOp .neq 50 (.agg #[.int .i64 11,.int .i64 d,.int .i64 a,.int .i64 b,.int .i64 ag,.string (tx loc),.string (tx label),.int .i64 ai]) (.agg #[.int .i64 11,.int .i64 0,.int .i64 a,.int .i64 b,.int .i64 0,.string ⟨#[]⟩,.string (tx label),.int .i64 0])).run prog w= .ok (.bool n) w:=fun w=>by rw[hn];exact jX ⟨11,d,a,b,ag,loc,label,ai⟩ ⟨11,0,a,b,0,[],label,0⟩ w
 rcases tC (i:=⟨11,d,a,b,ag,loc,label,ai⟩) (o:=dn ⟨11,d,a,b,ag,loc,label,ai⟩) (q:=decide ((⟨11,d,a,b,ag,loc,label,ai⟩:Ins)=⟨11,0,a,b,0,[],label,0⟩)) (x:=bX d) (y:=bX a) (z:=bX b) rfl hm with⟨hq,h⟩|⟨hq,h1,h⟩|⟨hq,h1,h2,h⟩|⟨hq,h1,h2,h3,h⟩|⟨hq,h1,h2,h3,h⟩
 all_goals
  rw[hq]at hn;simp only[apZ,apX]at hn;subst hn;have HE:=hid h
  (try have H1:=hid h1);(try have H2:=hid h2);(try have H3:=hid h3)
  clear h hq;(try clear h1);(try clear h2);(try clear h3);clear hm;go_in
  go_wp2_with (first|(go_at_call 191;refine(lU _ _).mono ?_;rintro e w' ⟨rfl,rfl⟩;(try rw[H1.out]);(try rw[H2.out]);(try rw[H3.out]))|(go_at_call 190;refine(lT label hl _).mono ?_;rintro e w' ⟨rfl,rfl⟩;rw[HM.out]))
  go_ret;exact⟨bJ HE.out.symm,aK⟩
theorem aim(hl:label.length<=9223372036854775807)(hm:az label=false):Calls prog 107 #[vI ⟨11,d,a,b,ag,loc,label,ai⟩] w (ax w (.int .i64 (eR ⟨11,d,a,b,ag,loc,label,ai⟩))):=by
 have HE:=hid (gS (i:=⟨11,d,a,b,ag,loc,label,ai⟩) (show aU ⟨11,d,a,b,ag,loc,label,ai⟩=false by unfold aU;rw[show dn ⟨11,d,a,b,ag,loc,label,ai⟩=false from hm];rfl));have HM:=hid hm;go_in
 go_wp2_with (first|(go_at_call 191;refine(lU _ _).mono ?_;rintro e w' ⟨rfl,rfl⟩;(try rw[H1.out]);(try rw[H2.out]);(try rw[H3.out]))|(go_at_call 190;refine(lT label hl _).mono ?_;rintro e w' ⟨rfl,rfl⟩;rw[HM.out]))
 go_ret;exact⟨bJ HE.out.symm,aK⟩
theorem aiq(hl:label.length<=9223372036854775807)(hm:az label=true):Calls prog 107 #[vI ⟨12,d,a,b,ag,loc,label,ai⟩] w (ax w (.int .i64 (eR ⟨12,d,a,b,ag,loc,label,ai⟩))):=by
 have HM:=hid hm;obtain⟨n,hn⟩: ∃n,n= !decide ((⟨12,d,a,b,ag,loc,label,ai⟩:Ins)=⟨12,0,0,0,0,[],label,0⟩):=⟨_,rfl⟩;have vu: ∀w,(binOp .neq 50 (.agg #[.int .i64 12,.int .i64 d,.int .i64 a,.int .i64 b,.int .i64 ag,.string (tx loc),.string (tx label),.int .i64 ai]) (.agg #[.int .i64 12,.int .i64 0,.int .i64 0,.int .i64 0,.int .i64 0,.string ⟨#[]⟩,.string (tx label),.int .i64 0])).run prog w= .ok (.bool n) w:=fun w=>by rw[hn];exact jX ⟨12,d,a,b,ag,loc,label,ai⟩ ⟨12,0,0,0,0,[],label,0⟩ w
 rcases tC (i:=⟨12,d,a,b,ag,loc,label,ai⟩) (o:=dn ⟨12,d,a,b,ag,loc,label,ai⟩) (q:=decide ((⟨12,d,a,b,ag,loc,label,ai⟩:Ins)=⟨12,0,0,0,0,[],label,0⟩)) (x:=bX d) (y:=bX a) (z:=bX b) rfl hm with⟨hq,h⟩|⟨hq,h1,h⟩|⟨hq,h1,h2,h⟩|⟨hq,h1,h2,h3,h⟩|⟨hq,h1,h2,h3,h⟩
 all_goals
  rw[hq]at hn;simp only[apZ,apX]at hn;subst hn;have HE:=hid h
  (try have H1:=hid h1);(try have H2:=hid h2);(try have H3:=hid h3)
  clear h hq;(try clear h1);(try clear h2);(try clear h3);clear hm;go_in
  go_wp2_with (first|(go_at_call 191;refine(lU _ _).mono ?_;rintro e w' ⟨rfl,rfl⟩;(try rw[H1.out]);(try rw[H2.out]);(try rw[H3.out]))|(go_at_call 190;refine(lT label hl _).mono ?_;rintro e w' ⟨rfl,rfl⟩;rw[HM.out]))
  go_ret;exact⟨bJ HE.out.symm,aK⟩
theorem air(hl:label.length<=9223372036854775807)(hm:az label=false):Calls prog 107 #[vI ⟨12,d,a,b,ag,loc,label,ai⟩] w (ax w (.int .i64 (eR ⟨12,d,a,b,ag,loc,label,ai⟩))):=by
 have HE:=hid (gS (i:=⟨12,d,a,b,ag,loc,label,ai⟩) (show aU ⟨12,d,a,b,ag,loc,label,ai⟩=false by unfold aU;rw[show dn ⟨12,d,a,b,ag,loc,label,ai⟩=false from hm];rfl));have HM:=hid hm;go_in
 go_wp2_with (first|(go_at_call 191;refine(lU _ _).mono ?_;rintro e w' ⟨rfl,rfl⟩;(try rw[H1.out]);(try rw[H2.out]);(try rw[H3.out]))|(go_at_call 190;refine(lT label hl _).mono ?_;rintro e w' ⟨rfl,rfl⟩;rw[HM.out]))
 go_ret;exact⟨bJ HE.out.symm,aK⟩
end
theorem EY(i:Ins)(hl:i.label.length<=9223372036854775807)(w:World):Calls prog 107 #[vI i] w (ax w (.int .i64 (eR i))):=by
 obtain⟨op,d,a,b,ag,loc,label,ai⟩:=i
 by_cases h6:op=6
 ·subst h6;apply ais _ _ _ _ _ _ _ _ hl
 by_cases h7:op=7
 ·subst h7;apply aix _ _ _ _ _ _ _ _ hl
 by_cases h8:op=8
 ·subst h8
  by_cases h1:ag< -2048
  ·apply aiw _ _ _ _ _ _ _ _ hl;omega
  ·by_cases h2:ag<=2047
   ·apply aiv _ _ _ _ _ _ _ _ hl<;>omega
   ·apply aiu _ _ _ _ _ _ _ _ hl;omega
 by_cases h9:op=9
 ·subst h9;apply aiy _ _ _ _ _ _ _ _ hl
 by_cases h10:op=10
 ·subst h10;apply aik _ _ _ _ _ _ _ _ hl
 by_cases h11:op=11
 ·subst h11
  cases hm:az label
  ·apply aim _ _ _ _ _ _ _ _ hl;exact hm
  ·apply ail _ _ _ _ _ _ _ _ hl;exact hm
 by_cases h12:op=12
 ·subst h12
  cases hm:az label
  ·apply air _ _ _ _ _ _ _ _ hl;exact hm
  ·apply aiq _ _ _ _ _ _ _ _ hl;exact hm
 by_cases tG:op=13
 ·subst tG
  by_cases h1:ai<2
  ·apply aip _ _ _ _ _ _ _ _ hl;omega
  ·by_cases h2:ai<=11
   ·apply aio _ _ _ _ _ _ _ _ hl<;>omega
   ·apply ain _ _ _ _ _ _ _ _ hl;omega
 apply ait _ _ _ _ _ _ _ _ _ hl;omega
attribute [local go_sem high] qa jX
theorem Px(n:Int):(iN n).length<=2:=by unfold iN;split<;>(try split)<;>simp
theorem agb(ai:Int)(h:3<=ai)(d a b ag:Int)(loc label:Tx):bV ⟨13,d,a,b,ag,loc,label,ai⟩=[102,101,110,99,101,32]++iN ((ai-3)/3)++[44]++iN (ai%3):=by
 unfold bV;simp only;rw[if_neg (by decide),if_neg (by decide),if_neg (by decide),if_neg (by decide),if_neg (by decide),if_neg (by decide),if_neg (by decide),if_neg (by omega),show(ai-3)%3=ai%3 by omega]
theorem aiD(i:Ins)(h:aU i=true)(w:World)(g:Gl w):Calls prog 273 #[vI i] w (ax w (.tuple #[.string (tx (bV i)),.int .i64 0])):=by
 obtain⟨-, -, hd,ha,hb⟩:=xD h;obtain⟨ho,hi,hf,hl⟩:=N6 h;have E1:=al w (eC i);have b0:=dK.new w i;have g:=g.below E1;have HE:=hid (rN h);have CK:=hid (EY i (by omega));have ld:=yJ hd;have Rd:=hid hd;have la:=yJ ha;have Ra:=hid ha;have lb:=yJ hb;have Rb:=hid hb;obtain⟨op,d,a,b,ag,loc,label,ai⟩:=i;clear h hd ha hb;have li:=Dy ag;simp only at ho hi hf hl ld la lb Rd Ra Rb;have hop:op=6\/op=7\/op=8\/op=9\/op=10\/op=11\/op=12\/op=13:=by omega
 clear ho;rcases hop with rfl|rfl|rfl|rfl|rfl|rfl|rfl|rfl
 focus
  obtain⟨t1,t2,t3,t4,ht,-, c1,c2,c3,c4⟩:=vk (va:=⟨#[108,119,32]⟩) (vc:=⟨#[44,48,40]⟩) (ve:=⟨#[41]⟩) [108,119,32] (rT d) [44,48,40] (rT a) [41] rfl rfl rfl rfl rfl (by simp only[ans,anX];omega);have HP:=hid (show bV ⟨6,d,a,b,ag,loc,label,ai⟩=t4 from ht);clear ht
 rotate_left
 focus
  obtain⟨t1,t2,t3,t4,ht,-, c1,c2,c3,c4⟩:=vk (va:=⟨#[115,119,32]⟩) (vc:=⟨#[44,48,40]⟩) (ve:=⟨#[41]⟩) [115,119,32] (rT b) [44,48,40] (rT a) [41] rfl rfl rfl rfl rfl (by simp only[ans,anX];omega);have HP:=hid (show bV ⟨7,d,a,b,ag,loc,label,ai⟩=t4 from ht);clear ht
 rotate_left
 focus
  obtain⟨h1,h2⟩:=hi rfl;have HI:=hid (Ba (n:=ag) (by omega) (by omega));obtain⟨t1,t2,t3,t4,t5,ht,c1,c2,c3,c4,c5⟩:=rG (va:=⟨#[111,114,105,32]⟩) (vc:=⟨#[44]⟩) (ve:=⟨#[44]⟩) [111,114,105,32] (rT d) [44] (rT a) [44] (gD ag) rfl rfl rfl rfl rfl rfl (by simp only[ans,anX];omega);have HP:=hid (show bV ⟨8,d,a,b,ag,loc,label,ai⟩=t5 from ht);clear ht
 rotate_left
 focus
  obtain⟨t1,t2,t3,t4,t5,ht,c1,c2,c3,c4,c5⟩:=rG (va:=⟨#[120,111,114,32]⟩) (vc:=⟨#[44]⟩) (ve:=⟨#[44]⟩) [120,111,114,32] (rT d) [44] (rT a) [44] (rT b) rfl rfl rfl rfl rfl rfl (by simp only[ans,anX];omega);have HP:=hid (show bV ⟨9,d,a,b,ag,loc,label,ai⟩=t5 from ht);clear ht
 rotate_left
 focus
  obtain⟨t1,t2,t3,t4,t5,ht,c1,c2,c3,c4,c5⟩:=rG (va:=⟨#[97,100,100,32]⟩) (vc:=⟨#[44]⟩) (ve:=⟨#[44]⟩) [97,100,100,32] (rT d) [44] (rT a) [44] (rT b) rfl rfl rfl rfl rfl rfl (by simp only[ans,anX];omega);have HP:=hid (show bV ⟨10,d,a,b,ag,loc,label,ai⟩=t5 from ht);clear ht
 rotate_left
 focus
  obtain⟨t1,t2,t3,t4,t5,ht,c1,c2,c3,c4,c5⟩:=rG (va:=⟨#[98,110,101,32]⟩) (vc:=⟨#[44]⟩) (ve:=⟨#[44]⟩) [98,110,101,32] (rT a) [44] (rT b) [44] label rfl rfl rfl rfl rfl rfl (by simp only[ans,anX];omega);have HP:=hid (show bV ⟨11,d,a,b,ag,loc,label,ai⟩=t5 from ht);clear ht
 rotate_left
 focus
  obtain⟨t1,ht,-, c1⟩:=NB (vb:=⟨#[58]⟩) label [58] rfl rfl 100 (by simp only[ans,anX];omega) (by omega);have HP:=hid (show bV ⟨12,d,a,b,ag,loc,label,ai⟩=t1 from ht);clear ht
 rotate_left
 by_cases rY:ai=2
 focus
  subst rY;have HP:=hid (show bV ⟨13,d,a,b,ag,loc,label,2⟩=[102,101,110,99,101,46,116,115,111]from rfl)
 rotate_left
 focus
  obtain⟨h1,h2⟩:=hf rfl;have l1:=Px ((ai-3)/3);have l2:=Px (ai%3);have z2:(ai==2)=false:=by simp;omega
  have v0:3<=ai:=by omega
  obtain⟨t1,t2,t3,ht,-, c1,c2,c3⟩:=rF (va:=⟨#[102,101,110,99,101,32]⟩) (vc:=⟨#[44]⟩) [102,101,110,99,101,32] (iN ((ai-3)/3)) [44] (iN (ai%3)) rfl rfl rfl rfl (by simp only[ans,anX];omega);have HP:=hid ((agb ai v0 d a b ag loc label).trans ht);have P1:=hid (fun w=>U0 ((ai-3)/3) w);have P2:=hid (fun w=>U0 (ai%3) w);generalize iN ((ai-3)/3)=p1 at*;generalize iN (ai%3)=p2 at*;clear ht rY
 rotate_left
 all_goals
  clear hi hf;go_in;go_wp2_with fail;refine(CK.out _).mono ?_;rintro x w1 ⟨rfl,E⟩;rw[HE.out];have bb:=b0.below E;have g:=g.below E;have B:=E1.trans (E.mono E1.size);obtain⟨q0,q1,q2,q3,q4,q5,q6,q7⟩:=bb.cells;clear b0 bb E1 E;go_wp2_with fail;refine(KC d Rd.out _).mono ?_;rintro x w2 ⟨rfl,rfl⟩;go_wp2_with fail;refine(KC a Ra.out _).mono ?_;rintro x w2 ⟨rfl,rfl⟩;go_wp2_with fail;refine(KC b Rb.out _).mono ?_;rintro x w2 ⟨rfl,rfl⟩;go_wp2_with fail
 rotate_left 2
 focus
  refine(jV ag (by omega) (by omega) _ g).mono ?_;rintro x w3 ⟨rfl,E⟩;rw[HI.out];have B:=B.trans (E.mono B.size);go_wp2_with fail
 rotate_left 6
 focus
  refine(P1.out _).mono ?_;rintro x w3 ⟨rfl,rfl⟩;go_wp2_with fail;refine(P2.out _).mono ?_;rintro x w3 ⟨rfl,rfl⟩;go_wp2_with fail
 all_goals
  go_ret2
  exact⟨yQ (by rw[HP.out];try rfl) rfl,B⟩
theorem aiC(i:Ins)(hl:i.label.length<=9223372036854775807)(h:aU i=false)(w:World):Calls prog 273 #[vI i] w (ax w (.tuple #[.string (tx []),.int .i64 91])):=by
 have E1:=al w (eC i);have b0:=dK.new w i;have HE:=hid (gS h);clear h;go_in;go_wp2_with fail;refine(EY i hl _).mono ?_;rintro x w1 ⟨rfl,E⟩;rw[HE.out];go_wp2_with fail
 go_ret2
 exact⟨rfl,E1.trans (E.mono E1.size)⟩
end Go.Proofs.YtkbbgjloifmmbaaGreatDoor
namespace Go.Proofs.YtkbbgjloifmmbaaGreatDoor
open _root_.Go.Proofs.Tryz
open _root_.List renaming length_cons->ans,length_nil->anX,length_reverse->ap0,getElem?_eq_some_iff->ano,getElem?_eq_getElem->amK,reverse_reverse->amU,dropWhile_cons->amO,head?_reverse->am2
open _root_.Bool renaming not_false->apX,not_true->apZ
open _root_.Go.Lib renaming trimRightB->apY,trimB->ap1
open _root_.Nat renaming lt_succ_iff_lt_or_eq->an5
open Go.RowKit Go.Sort
theorem NP{i:Ins}:dL 1 i=(if dy i then(dJ i,0)else([],91)):=by unfold dL;rw[if_pos rfl]
theorem NK{i:Ins}:dL 2 i=(if aU i then(bV i,0)else([],91)):=by unfold dL;rw[if_neg (by omega),if_pos rfl]
theorem NJ{af:Int}{i:Ins}(h1:af≠1)(h2:af≠2):dL af i=([],5):=by unfold dL;rw[if_neg h1,if_neg h2]
@[reducible] def vP(p:Tx × Int):Value:=.tuple #[.string (tx p.1),.int .i64 p.2]
theorem alD(i:Ins)(hl:i.loc.length<=9223372036854775807)(w:World)(g:Gl w):Calls prog 207 #[vI i] w (ax w (vP (dL 1 i))):=by
 rw[NP];cases h:dy i
 ·exact alE i hl h w
 ·exact alF i h w g
theorem ahE(i:Ins)(hl:i.loc.length<=9223372036854775807)(w:World)(g:Gl w):Calls prog 272 #[vI i] w (ax w (vP (dL 1 i))):=by
 rw[NP];cases h:dy i
 ·exact ahF i hl h w
 ·exact ahG i h w g
theorem ahI(i:Ins)(hl:i.label.length<=9223372036854775807)(w:World)(g:Gl w):Calls prog 208 #[vI i] w (ax w (vP (dL 2 i))):=by
 rw[NK];cases h:aU i
 ·exact agK i hl h w
 ·exact agL i h w g
theorem ahi(i:Ins)(hl:i.label.length<=9223372036854775807)(w:World)(g:Gl w):Calls prog 273 #[vI i] w (ax w (vP (dL 2 i))):=by
 rw[NK];cases h:aU i
 ·exact aiC i hl h w
 ·exact aiD i h w g
theorem aa9(af:Int)(i:Ins)(h1:i.loc.length<=9223372036854775807)(h2:i.label.length<=9223372036854775807)(w:World)(g:Gl w):
 Calls prog 124 #[.int .i64 af,vI i] w (ax w (vP (dL af i))):=by
 have B:=al w (eC i);have b0:=dK.new w i
 by_cases ha:af=1
 ·subst ha
  have PR:=alD i h1 _ (g.below B);generalize dL 1 i=p at*;have PR:=hid PR;obtain⟨c0,c1,c2,c3,c4,c5,c6,c7⟩:=b0.cells;go_in;go_wp2_with fail;refine PR.out.mono ?_;rintro e w1 ⟨rfl,E⟩;have B:=B.trans (E.mono B.size);go_wp2_with fail
  go_ret2
  exact⟨rfl,B⟩
 ·by_cases hb:af=2
  ·subst hb
   have PR:=ahI i h2 _ (g.below B);generalize dL 2 i=p at*;have PR:=hid PR;obtain⟨c0,c1,c2,c3,c4,c5,c6,c7⟩:=b0.cells;go_in;go_wp2_with fail;refine PR.out.mono ?_;rintro e w1 ⟨rfl,E⟩;have B:=B.trans (E.mono B.size);go_wp2_with fail
   go_ret2
   exact⟨rfl,B⟩
  ·have z1:(af==1)=false:=by simpa using ha
   have z2:(af==2)=false:=by simpa using hb
   rw[NJ ha hb];clear ha hb g h1 h2;go_in;go_wp2_with fail
   go_ret2
   exact⟨rfl,aN⟩
theorem aho(af:Int)(i:Ins)(h1:i.loc.length<=9223372036854775807)(h2:i.label.length<=9223372036854775807)(w:World)(g:Gl w):
 Calls prog 215 #[.int .i64 af,vI i] w (ax w (vP (dL af i))):=by
 have B:=al w (eC i);have b0:=dK.new w i
 by_cases ha:af=1
 ·subst ha
  have PR:=ahE i h1 _ (g.below B);generalize dL 1 i=p at*;have PR:=hid PR;obtain⟨c0,c1,c2,c3,c4,c5,c6,c7⟩:=b0.cells;have KN:=hid (show ∀w,Calls prog 164 #[.int .i64 1] w fun e w'=>e= .returned (.bool true)/\w=w' from fun w=>(show aH 1=true by rfl)▸ES 1 w);go_in
  go_wp2_with (go_at_call 164;refine(KN.out _).mono ?_;rintro e w' ⟨rfl,rfl⟩)
  refine PR.out.mono ?_;rintro e w1 ⟨rfl,E⟩;have B:=B.trans (E.mono B.size);go_wp2_with fail
  go_ret2
  exact⟨rfl,B⟩
 ·by_cases hb:af=2
  ·subst hb
   have PR:=ahi i h2 _ (g.below B);generalize dL 2 i=p at*;have PR:=hid PR;obtain⟨c0,c1,c2,c3,c4,c5,c6,c7⟩:=b0.cells;have KN:=hid (show ∀w,Calls prog 164 #[.int .i64 2] w fun e w'=>e= .returned (.bool true)/\w=w' from fun w=>(show aH 2=true by rfl)▸ES 2 w);go_in
   go_wp2_with (go_at_call 164;refine(KN.out _).mono ?_;rintro e w' ⟨rfl,rfl⟩)
   refine PR.out.mono ?_;rintro e w1 ⟨rfl,E⟩;have B:=B.trans (E.mono B.size);go_wp2_with fail
   go_ret2
   exact⟨rfl,B⟩
  ·have z1:(af==1)=false:=by simpa using ha
   have z2:(af==2)=false:=by simpa using hb
   rw[NJ ha hb];have KN:=hid (show ∀w,Calls prog 164 #[.int .i64 af] w fun e w'=>e= .returned (.bool false)/\w=w' from fun w=>(show aH af=false by unfold aH;simp[ha,hb])▸ES af w);clear ha hb g h1 h2;go_in
   go_wp2_with (go_at_call 164;refine(KN.out _).mono ?_;rintro e w' ⟨rfl,rfl⟩)
   go_ret2
   exact⟨rfl,aN⟩
theorem KW(lo:Nat)(c:UInt8):iW lo c=(decide (lo<=c.toNat)&&(decide (c.toNat<=126)&&decide (c.toNat≠34))):=rfl
theorem Pk(lo:Nat)(h0:1<=lo)(h1:lo<=34)(l:Tx)(hl:l.length<=9223372036854775807)(w:World):Calls prog 67 #[.string (tx l),.int .u8 lo] w fun e w'=>e= .returned (.bool (mK lo l))/\w=w':=by
 obtain⟨n,hn⟩: ∃n,(tx l).size=n:=⟨_,rfl⟩;have lH:l.length=n:=by rw[<-hn,aP]
 have HN:=hid lH;rw[lH]at hl;clear lH;go_in;go_wp2_with fail
 go_loop [5] (fun i=> ∃k:Nat,k<=n/\i= .int .i64 k/\Hid (∀(i:Nat) (x:UInt8),i<k->l[i]? =some x->iW lo x=true)) (fun i=>n-(intOf i).toNat)
 case atStart=>exact⟨0,by omega,rfl,fun i x hi=>absurd hi (Nat.not_lt_zero i)⟩
 case round=>
  obtain⟨k,hk,rfl,HM⟩:=hrel
  by_cases hlt:k<n
  ·obtain⟨x,hx⟩: ∃x,l[k]? =some x:=⟨_,amK (by rw[HN.out];exact hlt)⟩
   have ix:=iV l k x hx;have hlt':x.toNat<256:=x.toNat_lt;obtain⟨m,hm⟩: ∃m,x.toNat=m:=⟨_,rfl⟩;have HC:=hid (show iW lo x=(decide (lo<=m)&&(decide (m<=126)&&decide (m≠34))) by rw[KW,hm]);rw[hm]at ix hlt';have HF:=hid (fun h=>KV (lo:=lo) (l:=l) (k:=k) (c:=x) hx h)
   have dF:iW lo x=true->Hid (∀(i:Nat) (y:UInt8),i<k+1->l[i]? =some y->iW lo y=true):=fun hx' i y hi hy=>by
    rcases an5.1 hi with h|h
    ·exact HM.out i y h hy
    ·subst h;rw[hx]at hy;cases hy;exact hx'
   have dF:=hid dF;clear hm hx HM;have hp:m<lo\/(lo<=m/\m=34)\/(lo<=m/\m<=126/\m≠34)\/126<m:=by omega
   rcases hp with h|⟨h,h'⟩|⟨h,h',h''⟩|h
   all_goals
    (try(have WN:((m:Int)==34)=false:=by simp;omega))
    (try subst h')
    go_wp2_with fail
    first
    |(go_round
      case rel=>exact⟨k+1,by omega,by go_num,dF.out (by rw[HC.out];simp<;>omega)⟩
      case measure=>simp[intOf];omega)
    |(go_ret
      exact⟨aJ ((fun h=>h.symm) (HF.out (by rw[HC.out];simp<;>omega))),rfl⟩)
  ·have HS:=hid (KU (lo:=lo) (l:=l) (fun i x hi=>HM.out i x (by
    have h1:=(ano.1 hi).1;have:=HN.out
    omega) hi))
   go_wp2_with fail;go_ret;exact⟨aJ HS.out.symm,rfl⟩
theorem ahj(l:Tx)(hl:l.length<=9223372036854775807)(w:World):Calls prog 165 #[.string (tx l)] w fun e w'=>e= .returned (.bool (eW l))/\w=w':=by
 obtain⟨n,hn⟩: ∃n,(tx l).size=n:=⟨_,rfl⟩;have lH:l.length=n:=by rw[<-hn,aP]
 have HN:=hid lH;rw[lH]at hl;clear lH
 by_cases hb:n<1\/1024<n
 ·have HF:=hid (show eW l=false by unfold eW;rw[HN.out];rcases hb with h|h<;>simp<;>omega)
  rcases hb with h|h
  all_goals
   go_in;go_wp2_with fail;go_ret;exact⟨aJ HF.out.symm,rfl⟩
 have dM:1<=n:=by omega
 have dH:n<=1024:=by omega
 have HT:=hid (show eW l=mK 33 l by unfold eW;rw[HN.out,decide_eq_true dM,decide_eq_true dH];rfl);clear hb;go_in;go_wp2_with fail
 go_loop [3] (fun i=> ∃k:Nat,k<=n/\i= .int .i64 k/\Hid (∀(i:Nat) (x:UInt8),i<k->l[i]? =some x->iW 33 x=true)) (fun i=>n-(intOf i).toNat)
 case atStart=>exact⟨0,by omega,rfl,fun i x hi=>absurd hi (Nat.not_lt_zero i)⟩
 case round=>
  obtain⟨k,hk,rfl,HM⟩:=hrel
  by_cases hlt:k<n
  ·obtain⟨x,hx⟩: ∃x,l[k]? =some x:=⟨_,amK (by rw[HN.out];exact hlt)⟩
   have ix:=iV l k x hx;have hlt':x.toNat<256:=x.toNat_lt;obtain⟨m,hm⟩: ∃m,x.toNat=m:=⟨_,rfl⟩;have HC:=hid (show iW 33 x=(decide (33<=m)&&(decide (m<=126)&&decide (m≠34))) by rw[KW,hm]);rw[hm]at ix hlt';have HF:=hid (fun h=>KV (lo:=33) (l:=l) (k:=k) (c:=x) hx h)
   have dF:iW 33 x=true->Hid (∀(i:Nat) (y:UInt8),i<k+1->l[i]? =some y->iW 33 y=true):=fun hx' i y hi hy=>by
    rcases an5.1 hi with h|h
    ·exact HM.out i y h hy
    ·subst h;rw[hx]at hy;cases hy;exact hx'
   have dF:=hid dF;clear hm hx HM;have hp:m<33\/(33<=m/\m=34)\/(33<=m/\m<=126/\m≠34)\/126<m:=by omega
   rcases hp with h|⟨h,h'⟩|⟨h,h',h''⟩|h
   all_goals
    (try(have WN:((m:Int)==34)=false:=by simp;omega))
    (try subst h')
    go_wp2_with fail
    first
    |(go_round
      case rel=>exact⟨k+1,by omega,by go_num,dF.out (by rw[HC.out];simp<;>omega)⟩
      case measure=>simp[intOf];omega)
    |(go_ret
      exact⟨aJ ((fun h=>(HT.out.trans h).symm) (HF.out (by rw[HC.out];simp<;>omega))),rfl⟩)
  ·have HS:=hid (KU (lo:=33) (l:=l) (fun i x hi=>HM.out i x (by
    have h1:=(ano.1 hi).1;have:=HN.out
    omega) hi))
   go_wp2_with fail;go_ret;exact⟨aJ (HT.out.trans HS.out).symm,rfl⟩
end Go.Proofs.YtkbbgjloifmmbaaGreatDoor
namespace Go.Proofs.YtkbbgjloifmmbaaGreatDoor
open _root_.Go.Proofs.Tryz
open _root_.List renaming length_cons->ans,length_nil->anX,length_reverse->ap0,getElem?_eq_some_iff->ano,getElem?_eq_getElem->amK,reverse_reverse->amU,dropWhile_cons->amO,head?_reverse->am2
open _root_.Bool renaming not_false->apX,not_true->apZ
open _root_.Go.Lib renaming trimRightB->apY,trimB->ap1
open _root_.Nat renaming lt_succ_iff_lt_or_eq->an5
theorem Al{α:Type}(p:α->Bool): ∀x:List α,(x.dropWhile p).length<=x.length
 |[]=>by simp
 | a::r=>by
   rw[amO];split
   ·have:=Al p r;simp;omega
   ·exact Nat.le_refl _
theorem Hx{α:Type}(p:α->Bool)(x:List α):x.dropWhile p=x<-> ∀a,x.head?=some a->p a=false:=by
 cases x with
 |nil=>simp
 | cons a r=>
   rw[amO];cases h:p a
   ·simp[h]
   ·simp only[if_true,List.head?_cons,Option.some.injEq]
    constructor
    ·intro e
     have h1:=Al p r;have h2:=congrArg List.length e;simp at h2;omega
    ·intro e
     have:=e a rfl;rw[h]at this;cases this
theorem akH(l:Tx):ap1 l 32=l<->oU l=true:=by
 have hR:apY l 32=l<-> ∀a,l.getLast?=some a->(a==32)=false:=by
  rw[<-am2,<-Hx];unfold apY
  constructor
  ·intro e
   have:=congrArg List.reverse e
   rwa[amU]at this
  ·intro e
   rw[e,amU]
 have hL: ∀r:Tx,Lib.trimLeftB r 32=r<-> ∀a,r.head?=some a->(a==32)=false:=fun r=>by
  rw[<-Hx];rfl
 have amc:(apY l 32).length<=l.length:=by
  unfold apY;have:=Al (· ==(32:UInt8)) l.reverse;rw[ap0]at this⊢;exact this
 have acJ:ap1 l 32=l->apY l 32=l:=by
  intro e;rw[hR,<-am2,<-Hx];have h1:=congrArg List.length e;unfold ap1 Lib.trimLeftB at h1;have h2:=Al (· ==(32:UInt8)) (apY l 32)
  have h3:(l.reverse.dropWhile (· ==(32:UInt8))).length=l.reverse.length:=by
   have:(apY l 32).length=(l.reverse.dropWhile (· ==(32:UInt8))).length:=by unfold apY;rw[ap0]
   have h4:=Al (· ==(32:UInt8)) l.reverse;rw[ap0]at h4⊢;omega
  exact(List.dropWhile_suffix _).eq_of_length h3
 have hfl:oU l=true<->(∀a,l.head?=some a->(a==32)=false)/\(∀a,l.getLast?=some a->(a==32)=false):=by
  unfold oU;cases l with
  |nil=>simp
  | cons c r=>
    have:(c::r).getLast?=some ((c::r).getLast (by simp)):=List.getLast?_eq_some_getLast (by simp);rw[this];simp
 rw[hfl]
 constructor
 ·intro e
  have h1:=acJ e;have h2:Lib.trimLeftB l 32=l:=by unfold ap1 at e;rwa[h1]at e
  exact⟨(hL l).1 h2,hR.1 h1⟩
 ·rintro⟨h1,h2⟩
  unfold ap1;rw[hR.2 h2];exact(hL l).2 h1
end Go.Proofs.YtkbbgjloifmmbaaGreatDoor

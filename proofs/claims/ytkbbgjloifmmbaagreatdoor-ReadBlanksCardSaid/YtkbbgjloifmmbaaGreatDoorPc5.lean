/- What ReadBlanksP leans on, part 5. -/
import Derived.Test.YtkbbgjloifmmbaaGreatDoorPc4
import Derived.Deep.RegionWith
import Derived.Lib.AtoiAll
set_option linter.unusedVariables false
set_option maxRecDepth 100000
set_option maxHeartbeats 1600000
open _root_.Go.Proofs.Tryz
open _root_.Go.Instr renaming sliceAt->anh,indexAt->anm,sliceBounds->anp,sliceBound->anr,slice->aqu
open _root_.List renaming dropWhile_suffix->apr
open _root_.Bool renaming eq_false_iff->ao9
open _root_.Go.Lib renaming atoiAll->aoq,itoa->aoe
namespace Go.Proofs.YtkbbgjloifmmbaaGreatDoor
open Go.RowKit
variable{i:ay}{n op:Int}{a b d k:Nat}{o1 o2:Option Nat}{l z:Tx}{w:World}
theorem aha(d a b ag:Int)(loc label:Tx)(ai:Int)(hl:label.length<=9223372036854775807)(w:World):Calls prog 180 #[vI ⟨11,d,a,b,ag,loc,label,ai⟩] w (lg w 11 0 a b 0 ⟨#[]⟩ (tx label) 0 (aC label)):=by
 go_in;go_wp2_with fail
 go_big_region
 go_wp2_with fail
 go_region_with (go_at_call 249;refine(XM label hl _).mono ?_;rintro e' w' ⟨rfl,rfl⟩)
 all_goals
  go_wp2_with fail;exact bodyPost_ret (by simp[results,results180,go_sem]) rfl ⟨rfl,aF⟩
theorem ahe(d a b ag:Int)(loc label:Tx)(ai:Int)(hl:label.length<=9223372036854775807)(w:World):Calls prog 180 #[vI ⟨12,d,a,b,ag,loc,label,ai⟩] w (lg w 12 0 0 0 0 ⟨#[]⟩ (tx label) 0 (aC label)):=by
 go_in;go_wp2_with fail
 go_region_with (go_at_call 249;refine(XM label hl _).mono ?_;rintro e' w' ⟨rfl,rfl⟩)
 all_goals
  go_wp2_with fail;exact bodyPost_ret (by simp[results,results180,go_sem]) rfl ⟨rfl,aF⟩
theorem ag8(i:ay)(hl:i.label.length<=9223372036854775807)(w:World):Calls prog 180 #[vI i] w fun x w'=>x= .returned (.tuple #[vI (nh i),.bool (fE i)])/\Below w.heap.size w w':=by
 obtain⟨op,d,a,b,ag,loc,label,ai⟩:=i
 by_cases h6:op=6
 ·subst h6;exact ahf d a b ag loc label ai w
 by_cases h7:op=7
 ·subst h7;exact ahk d a b ag loc label ai w
 by_cases h8:op=8
 ·subst h8
  have ho:fE ⟨8,d,a,b,ag,loc,label,ai⟩=(decide (-2048<=ag)&&decide (ag<=2047)):=rfl;rw[ho]
  by_cases h1:ag< -2048
  ·rw[show(decide (-2048<=ag)&&decide (ag<=2047))=false by simp;omega];exact ahj d a b ag loc label ai h1 w
  by_cases h2:ag<=2047
  ·rw[show(decide (-2048<=ag)&&decide (ag<=2047))=true by simp;omega];exact ahi d a b ag loc label ai (by omega) h2 w
  rw[show(decide (-2048<=ag)&&decide (ag<=2047))=false by simp;omega];exact ahh d a b ag loc label ai (by omega) w
 by_cases h9:op=9
 ·subst h9;exact ahl d a b ag loc label ai w
 by_cases h10:op=10
 ·subst h10;exact ag9 d a b ag loc label ai w
 by_cases h11:op=11
 ·subst h11;exact aha d a b ag loc label ai hl w
 by_cases h12:op=12
 ·subst h12;exact ahe d a b ag loc label ai hl w
 by_cases rB:op=13
 ·subst rB
  have ho:fE ⟨13,d,a,b,ag,loc,label,ai⟩=(decide (2<=ai)&&decide (ai<=11)):=rfl;rw[ho]
  by_cases h1:ai<2
  ·rw[show(decide (2<=ai)&&decide (ai<=11))=false by simp;omega];exact ahd d a b ag loc label ai h1 w
  by_cases h2:ai<=11
  ·rw[show(decide (2<=ai)&&decide (ai<=11))=true by simp;omega];exact ahc d a b ag loc label ai (by omega) h2 w
  rw[show(decide (2<=ai)&&decide (ai<=11))=false by simp;omega];exact ahb d a b ag loc label ai (by omega) w
 have hw:nh ⟨op,d,a,b,ag,loc,label,ai⟩=⟨op,0,0,0,0,[],[],0⟩:=by
  unfold nh;simp only;rw[if_neg h6,if_neg h7,if_neg h8,if_neg h9,if_neg h10,if_neg h11,if_neg h12,if_neg rB]
 have ho:fE ⟨op,d,a,b,ag,loc,label,ai⟩=false:=by
  unfold fE;simp only;rw[if_neg h8,if_neg (by omega),if_neg rB];simp;omega
 rw[hw,ho];exact ahg op d a b ag loc label ai (by omega) w
attribute [local go_sem high] qd gP
theorem iX(h:bX i=false):gA i=91:=by unfold gA;rw[h];rfl
theorem qf(h:bX i=true):gA i=0:=by unfold gA;rw[h];rfl
theorem CQ(i:ay)(hl:i.label.length<=9223372036854775807)(w:World):Calls prog 100 #[vI i] w (aJ w (.int .i64 (gA i))):=by
 have E1:=al w (kj i);have b0:=gH.new w i;obtain⟨wi,hwi⟩:=aj (nh i);obtain⟨ok,hok⟩:=aj (fE i);have hc:bX i=(ok&&decide (i=wi)&&dy i.d&&dy i.a&&dy i.b):=by unfold bX;rw[hwi,hok]
 have PF:=hid (ag8 i hl);have HF:=hid (show ∀w,Calls prog 180 #[vI i] w fun x w'=>x= .returned (.tuple #[vI wi,.bool ok])/\Below w.heap.size w w' from by rw[<-hwi,<-hok];exact PF.out);clear hwi hok hl PF;cases ok
 ·have HE:=hid (iX (by rw[hc];rfl))
  clear hc;go_in;go_wp2_with fail;refine(HF.out _).mono ?_;rintro x w1 ⟨rfl,E⟩;have B:=E1.trans (E.mono E1.size);go_wp2;go_ret;exact⟨bQ HE.out.symm,aF⟩
 by_cases he:i=wi
 ·have hd:decide (wi=i)=true:=decide_eq_true he.symm
  have jJ:(!decide (wi=i))=false:=by rw[hd];rfl
  have FM:decide (¬wi=i)=false:=by simpa using he.symm
  by_cases h1:dy i.d=true
  ·by_cases h2:dy i.a=true
   ·by_cases h3:dy i.b=true
    ·have HE:=hid (qf (by rw[hc,h1,h2,h3,decide_eq_true he];rfl))
     have H1:=hid h1;have H2:=hid h2;have H3:=hid h3;clear hc he h1 h2 h3;go_in;go_wp2_with fail;refine(HF.out _).mono ?_;rintro x w1 ⟨rfl,E⟩;have B:=E1.trans (E.mono E1.size);have b:=b0.below E;have hlt:=b.1;obtain⟨q0,q1,q2,q3,q4,q5,q6,q7⟩:=b.cells;clear b
     go_wp2_with (go_at_call 181;refine av (yL _ _) ?_;(try rw[H1.out]);(try rw[H2.out]);(try rw[H3.out]))
     go_ret;exact⟨bQ HE.out.symm,aF⟩
    have H1:=hid h1;have H2:=hid h2;have H3:=hid (ao9.2 h3)
    have HE:=hid (iX (by rw[hc,H3.out];simp));clear hc he h1 h2 h3;go_in;go_wp2_with fail;refine(HF.out _).mono ?_;rintro x w1 ⟨rfl,E⟩;have B:=E1.trans (E.mono E1.size);have b:=b0.below E;have hlt:=b.1;obtain⟨q0,q1,q2,q3,q4,q5,q6,q7⟩:=b.cells;clear b
    go_wp2_with (go_at_call 181;refine av (yL _ _) ?_;(try rw[H1.out]);(try rw[H2.out]);(try rw[H3.out]))
    go_ret;exact⟨bQ HE.out.symm,aF⟩
   have H1:=hid h1;have H2:=hid (ao9.2 h2)
   have HE:=hid (iX (by rw[hc,H2.out];simp));clear hc he h1 h2;go_in;go_wp2_with fail;refine(HF.out _).mono ?_;rintro x w1 ⟨rfl,E⟩;have B:=E1.trans (E.mono E1.size);have b:=b0.below E;have hlt:=b.1;obtain⟨q0,q1,q2,q3,q4,q5,q6,q7⟩:=b.cells;clear b
   go_wp2_with (go_at_call 181;refine av (yL _ _) ?_;(try rw[H1.out]);(try rw[H2.out]))
   go_ret;exact⟨bQ HE.out.symm,aF⟩
  have H1:=hid (ao9.2 h1)
  have HE:=hid (iX (by rw[hc,H1.out];simp));clear hc he h1;go_in;go_wp2_with fail;refine(HF.out _).mono ?_;rintro x w1 ⟨rfl,E⟩;have B:=E1.trans (E.mono E1.size);have b:=b0.below E;have hlt:=b.1;obtain⟨q0,q1,q2,q3,q4,q5,q6,q7⟩:=b.cells;clear b
  go_wp2_with (go_at_call 181;refine av (yL _ _) ?_;(try rw[H1.out]))
  go_ret;exact⟨bQ HE.out.symm,aF⟩
 have hd:decide (wi=i)=false:=decide_eq_false (fun e=>he e.symm)
 have jJ:(!decide (wi=i))=true:=by rw[hd];rfl
 have FM:decide (¬wi=i)=true:=by simpa using(fun e=>he (Eq.symm e))
 have HE:=hid (iX (by rw[hc,decide_eq_false he];simp));clear hc he;go_in;go_wp2_with fail;refine(HF.out _).mono ?_;rintro x w1 ⟨rfl,E⟩;have B:=E1.trans (E.mono E1.size);have b:=b0.below E;have hlt:=b.1;obtain⟨q0,q1,q2,q3,q4,q5,q6,q7⟩:=b.cells;clear b
 go_wp2_with (go_at_call 181;refine av (yL _ _) ?_)
 go_ret;exact⟨bQ HE.out.symm,aF⟩
theorem Hp(l:Tx)(a b:Nat):(tx l).extract a b=tx ((l.take b).drop a):=by
 apply ByteArray.ext;simp[tx,List.extract_eq_take_drop,List.drop_take]
theorem jD(l:Tx)(a b:Nat)(hab:a<=b)(hb:b<=l.length): ∀w,(anh 9 (.string (tx l)) (some (.int .i64 a)) (some (.int .i64 b)) none).run prog w= .ok (.string (tx ((l.take b).drop a))) w:=by
 intro w;have h1:=underlying9;have hs:=aM l;have hkk:(0:Int)<=(a:Int)/\(a:Int)<=(b:Int):=by omega
 have dK:(0:Int)<=(b:Int)/\(b:Int)<=(l.length:Int):=by omega
 rw[<-Hp];simp[anh,aqu,anp,anr,asIntOf,run_underlying h1,hs,hkk,dK,hab,hb]
theorem qE(l:Tx)(b:Nat)(hb:b<=l.length): ∀w,(anh 9 (.string (tx l)) none (some (.int .i64 b)) none).run prog w= .ok (.string (tx (l.take b))) w:=by
 intro w;have h1:=underlying9;have hs:=aM l;have dK:(0:Int)<=(b:Int)/\(b:Int)<=(l.length:Int):=by omega
 have e:=Hp l 0 b;rw[List.drop_zero]at e;rw[<-e];simp[anh,aqu,anp,anr,asIntOf,run_underlying h1,hs,dK,hb]
theorem qD(l:Tx)(a:Nat)(ha:a<=l.length): ∀w,(anh 9 (.string (tx l)) (some (.int .i64 a)) none none).run prog w= .ok (.string (tx (l.drop a))) w:=by
 intro w;have h1:=underlying9;have hs:=aM l;have hkk:(0:Int)<=(a:Int)/\(a:Int)<=(l.length:Int):=by omega
 have e:=Hp l a l.length;rw[List.take_length]at e;rw[<-e];simp[anh,aqu,anp,anr,asIntOf,run_underlying h1,hs,hkk,ha]
theorem jS(l:Tx):(ak l).length<=l.length:=by
 rw[uW];have h1:=(apr (p:=aq) (l:=(l.reverse.dropWhile aq).reverse)).length_le;have h2:=(apr (p:=aq) (l:=l.reverse)).length_le;simp at h1 h2;omega
theorem rT(l:Tx)(hl:l.length<=9223372036854775807)(w:World):Calls prog 98 #[.string (tx l)] w (aJ w (.string (tx (ak l)))):=by
 have C:=hid (uX l hl);clear hl;go_in;go_wp2_with fail;refine(C.out _).mono ?_;rintro x w1 ⟨rfl,E⟩;go_wp2;go_ret;exact⟨rfl,E⟩
theorem YI{k:IntKind}{a b:Int}{p q:Bool}(h:a=b)(h':p=q):Ending.returned (.tuple #[.int k a,.bool p])= .returned (.tuple #[.int k b,.bool q]):=by rw[h,h']
def fS(o:Option Nat):Int:=match o with
 |some n=>n
 |none=>0
theorem NG(s:Tx):qC s=fS (bf s):=by unfold qC fS;rfl
theorem NC(s:Tx):(qB s==0)=(bf s).isSome:=by unfold qB;cases bf s<;>rfl
theorem yM(l:Tx)(hl:l.length<=9223372036854775807)(w:World):Calls prog 185 #[.string (tx l)] w (aJ w (.tuple #[.int .i64 (fS (bf (ak l))),.bool (bf (ak l)).isSome])):=by
 have C:=hid (rT l hl);have e1:=NG (ak l);have e2:=NC (ak l);generalize ak l=t at*;have e2':=hid e2;have e1':=hid e1;clear e1 e2 hl;go_in;go_wp2_with fail;refine(C.out _).mono ?_;rintro x w1 ⟨rfl,E⟩;go_wp2_with fail;refine(XQ t _).mono ?_;rintro x w2 ⟨rfl,rfl⟩;rw[e1'.out];go_wp2
 go_ret2
 exact⟨YI rfl e2'.out,E⟩
theorem Zy(c:UInt8): ∀l:Tx,c∈l->l[(l.takeWhile (· != c)).length]? =some c
 |[],h=>by simp at h
 | b::l,h=>by
   by_cases hb:b=c
   ·subst hb;simp
   have hm:c∈l:=by rcases List.mem_cons.1 h with e|e;exact absurd e.symm hb;exact e
   rw[List.takeWhile_cons,if_pos (by simpa using hb)];simpa using Zy c l hm
theorem Dq(p:UInt8->Bool)(l:Tx):l.takeWhile p=l.take (l.takeWhile p).length:=(List.prefix_iff_eq_take.1 (List.takeWhile_prefix p))
theorem Fk(p:UInt8->Bool)(l:Tx):l.dropWhile p=l.drop (l.takeWhile p).length:=by
 have h:=List.takeWhile_append_dropWhile (p:=p) (l:=l);have h2:(l.takeWhile p++l.dropWhile p).drop (l.takeWhile p).length=l.dropWhile p:=List.drop_left' rfl;rw[h]at h2;exact h2.symm
theorem QI(h:(40:UInt8)∉ak l):ez l=none:=by
 unfold ez;simp only;rw[if_neg (by simp[h])]
theorem aaE(h:((ak l).getLast?==some 41)=false):ez l=none:=by
 unfold ez;simp only[h];simp
theorem aaF(h:ak ((ak l).take ((ak l).takeWhile (· != 40)).length)≠[48]):ez l=none:=by
 unfold ez;simp only;rw[<-Dq]at h;rw[if_neg (by simp[h])]
theorem aaD{t:Tx}{n:Nat}(ht:ak l=t)(hk:(t.takeWhile (· != 40)).length=k)(hn:t.length=n)(h1:(40:UInt8)∈t)(h2:(t.getLast?==some 41)=true)(h3:ak (t.take k)=[48]):
 ez l=bf (ak ((t.take (n-1)).drop (k+1)))/\k+1<=n-1:=by
 subst ht hk hn;refine⟨?_,?_⟩
 ·unfold ez;simp only
  rw[if_pos (by rw[<-Dq]at h3;simp[h1,h3];simpa using h2)];rw[Fk,List.drop_drop,List.dropLast_eq_take,List.length_drop,List.drop_take]
  congr 3
  omega
 have hh:=Zy 40 _ h1
 obtain⟨hlt,he⟩:=List.getElem?_eq_some_iff.1 hh;have hne:ak l≠[]:=by intro e;rw[e]at h1;simp at h1
 rw[List.getLast?_eq_getElem?]at h2;simp at h2
 by_cases hk:((ak l).takeWhile (· != 40)).length=(ak l).length-1
 ·rw[hk]at hh;rw[hh]at h2;simp at h2
 omega
theorem XI(l:Tx)(hl:l.length<=9223372036854775807)(w:World):Calls prog 250 #[.string (tx l)] w (aJ w (.tuple #[.int .i64 (fS (ez l)),.bool (ez l).isSome])):=by
 have C:=hid (rT l hl);have htl:=jS l;obtain⟨t,ht⟩:=aj (ak l);have HT:=hid ht;rw[ht]at htl C;have hb:t.length<=9223372036854775807:=by omega
 have SF:=hid (Dp t 41 hb);clear ht htl hl
 by_cases h1:(40:UInt8)∈t
 ·obtain⟨k,hk⟩:=aj ((t.takeWhile (· != 40)).length)
  obtain⟨hi,hlt⟩:=LR 40 t h1;rw[hk]at hi hlt;have IB:=hid (show ∀w,Calls prog 78 #[.string (tx t),.int .u8 40] w fun e w'=>e= .returned (.int .i64 (k:Int))/\w=w' from by rw[<-hi];exact U1 t);clear hi;have h0k: ¬((k:Int)<0):=by omega
  have hdk:decide ((k:Int)<0)=false:=by simp
  cases h2:(t.getLast?==some 41)
  ·have HA:=hid (aaE (l:=l) (by rw[HT.out];exact h2))
   rw[HA.out];have H2:=hid h2;clear h2 HA;have hk':=hid hk;clear hk;go_in;go_wp2_with fail;refine(C.out _).mono ?_;rintro x w1 ⟨rfl,E⟩;go_wp2_with fail;refine(IB.out _).mono ?_;rintro x w2 ⟨rfl,rfl⟩;go_wp2_with fail;refine(SF.out _).mono ?_;rintro x w2 ⟨rfl,rfl⟩;rw[H2.out];go_wp2
   go_ret2
   exact⟨rfl,E⟩
  have s1:=qE t k (by omega)
  have TK:=hid (rT (t.take k) ah);have H2:=hid h2
  by_cases h3:ak (t.take k)=[48]
  ·obtain⟨n,hn⟩:=aj t.length
   obtain⟨ha,hkn⟩:=aaD HT.out hk hn h1 h2 h3;rw[ha];have hz:((tx (ak (t.take k))).toList != [48])=false:=by rw[bh,h3];rfl
   have Gd:((tx (ak (t.take k))).toList==[48])=true:=by rw[bh,h3];rfl
   have s2: ∀w,(anh 9 (.string (tx t)) (some (.int .i64 ((k:Int)+1))) (some (.int .i64 ((n:Int)-1))) none).run prog w= .ok (.string (tx ((t.take (n-1)).drop (k+1)))) w:=by
    have:=jD t (k+1) (n-1) hkn (by omega)
    rwa[show((k+1:Nat):Int)=(k:Int)+1 from rfl,show((n-1:Nat):Int)=(n:Int)-1 by omega]at this
   have hsz:(tx t).size=n:=by rw[aM,hn]
   obtain⟨u,hu⟩:=aj ((t.take (n-1)).drop (k+1));rw[hu]at s2⊢;have dN:u.length<=9223372036854775807:=by rw[<-hu];simp;omega
   have RG:=hid (yM u dN);obtain⟨v,hv⟩:=aj (t.take k);rw[hv]at s1 hz Gd TK;have jK:1<=n:=by omega
   have hnb:n<=9223372036854775807:=by omega
   clear ha hu dN hn h3 h2 h1 hv hb;have hk':=hid hk;clear hk;go_in;go_wp2_with fail;refine(C.out _).mono ?_;rintro x w1 ⟨rfl,E⟩;go_wp2_with fail;refine(IB.out _).mono ?_;rintro x w2 ⟨rfl,rfl⟩;go_wp2_with fail;refine(SF.out _).mono ?_;rintro x w2 ⟨rfl,rfl⟩;rw[H2.out];go_wp2_with fail;refine(TK.out _).mono ?_;rintro x w3 ⟨rfl,E3⟩;have E:=aB E E3;go_wp2_with fail;refine(RG.out _).mono ?_;rintro x w4 ⟨rfl,E4⟩;have E:=aB E E4;go_wp2
   go_ret2
   exact⟨rfl,E⟩
  have HA:=hid (aaF (l:=l) (by rw[HT.out,hk];exact h3))
  rw[HA.out];have hz:((tx (ak (t.take k))).toList != [48])=true:=by rw[bh];simpa using h3
  have Gd:((tx (ak (t.take k))).toList==[48])=false:=by rw[bh];simpa using h3
  obtain⟨v,hv⟩:=aj (t.take k);rw[hv]at s1 hz Gd TK;clear h3 h2 h1 hv HA;have hk':=hid hk;clear hk;go_in;go_wp2_with fail;refine(C.out _).mono ?_;rintro x w1 ⟨rfl,E⟩;go_wp2_with fail;refine(IB.out _).mono ?_;rintro x w2 ⟨rfl,rfl⟩;go_wp2_with fail;refine(SF.out _).mono ?_;rintro x w2 ⟨rfl,rfl⟩;rw[H2.out];go_wp2_with fail;refine(TK.out _).mono ?_;rintro x w3 ⟨rfl,E3⟩;have E:=aB E E3;go_wp2
  go_ret2
  exact⟨rfl,E⟩
 have HA:=hid (QI (l:=l) (by rw[HT.out];exact h1))
 rw[HA.out];have IB:=hid (show ∀w,Calls prog 78 #[.string (tx t),.int .u8 40] w fun e w'=>e= .returned (.int .i64 (-1))/\w=w' from by rw[<-Ge 40 t h1];exact U1 t);clear h1 HA;go_in;go_wp2_with fail;refine(C.out _).mono ?_;rintro x w1 ⟨rfl,E⟩;go_wp2_with fail;refine(IB.out _).mono ?_;rintro x w2 ⟨rfl,rfl⟩;go_wp2
 go_ret2
 exact⟨rfl,E⟩
theorem Ch{p:UInt8->Bool}{c:UInt8}(h:(l.dropWhile p).getLast?=some c):l.getLast?=some c:=by
 obtain⟨t,ht⟩:=apr p (l:=l);rw[<-ht,List.getLast?_append,h];rfl
theorem Ou: ∀c,(ak l).head?=some c->aq c=false:=by
 intro c hc;rw[uW]at hc;exact je hc
theorem ZJ: ∀c,(ak l).getLast?=some c->aq c=false:=by
 intro c hc;rw[uW]at hc;have:=Ch hc;rw[List.getLast?_reverse]at this;exact je this
theorem ZI(l:Tx):ak (ak l)=ak l:=ZH Ou ZJ
theorem QH(l:Tx):ez (ak l)=ez l:=by unfold ez;rw[ZI]
theorem aaJ: ∀a:Fin 64,∀b:Fin 64,aoq (mE ((64*a.val+b.val:Nat)-2048))= .ok ((64*a.val+b.val:Nat)-2048):=dx
theorem QM(h1: -2048<=n)(h2:n<=2047):aoq (mE n)= .ok n:=by
 have:=aaJ ⟨(n+2048).toNat/64,by omega⟩ ⟨(n+2048).toNat%64,by omega⟩;simp only at this
 rwa[show((64*((n+2048).toNat/64)+(n+2048).toNat%64:Nat):Int)-2048=n by omega]at this
theorem Ji{n:Nat}(h:ez l=some n):n<32:=by
 unfold ez at h;simp only at h
 split at h
 ·exact(GO h).1
 cases h
def dX(i:ay)(ok:Bool):Option ay:=if ok&&bX i then some i else none
theorem Ma(i:ay):dX i false=none:=rfl
theorem Cf(h:bX i=true):dX i true=some i:=by unfold dX;rw[h];rfl
theorem Rs(hd:d<32)(ha:a<32):bX ⟨6,d,a,0,0,[],[],0⟩=true:=by
 have h1:=pJ hd;have h2:=pJ ha;unfold bX;rw[h1,h2];simp[fE,nh];decide
theorem Rt(hd:b<32)(ha:a<32):bX ⟨7,0,a,b,0,[],[],0⟩=true:=by
 have h1:=pJ hd;have h2:=pJ ha;unfold bX;rw[h1,h2];simp[fE,nh];decide
theorem JG(ho:op=9\/op=10)(hd:d<32)(ha:a<32)(hb:b<32):bX ⟨op,d,a,b,0,[],[],0⟩=true:=by
 have h1:=pJ hd;have h2:=pJ ha;have h3:=pJ hb;rcases ho with rfl|rfl<;>(unfold bX;rw[h1,h2,h3];simp[fE,nh])
theorem JI(hd:d<32)(ha:a<32):bX ⟨8,d,a,0,n,[],[],0⟩=(decide (-2048<=n)&&decide (n<=2047)):=by
 have h1:=pJ hd;have h2:=pJ ha;unfold bX;rw[h1,h2];simp[fE,nh,show dy 0=true by decide]
theorem Rq(hd:a<32)(ha:b<32):bX ⟨11,0,a,b,0,[],z,0⟩=aC z:=by
 have h1:=pJ hd;have h2:=pJ ha;unfold bX;rw[h1,h2];simp[fE,nh,show dy 0=true by decide]
theorem A7:bX ⟨12,0,0,0,0,[],z,0⟩=aC z:=by
 unfold bX;simp[fE,nh,show dy 0=true by decide]
theorem JH{f:Int}:bX ⟨13,0,0,0,0,[],[],f⟩=(decide (2<=f)&&decide (f<=11)):=by
 unfold bX;simp[fE,nh,show dy 0=true by decide]
theorem Vw:(∀n,o1=some n->n<32)->(∀n,o2=some n->n<32)->
 dX ⟨6,fS o1,fS o2,0,0,[],[],0⟩ (o1.isSome&&o2.isSome)=match o1,o2 with
  |some d,some a=>some ⟨6,d,a,0,0,[],[],0⟩
  |_,_=>none:=by
 intro h1 h2;cases o1 with
 |none=>rfl
 | some d=>cases o2 with
   |none=>rfl
   |some a=>exact Cf (Rs (h1 d rfl) (h2 a rfl))
theorem Vx:(∀n,o1=some n->n<32)->(∀n,o2=some n->n<32)->
 dX ⟨7,0,fS o2,fS o1,0,[],[],0⟩ (o1.isSome&&o2.isSome)=match o1,o2 with
  |some d,some a=>some ⟨7,0,a,d,0,[],[],0⟩
  |_,_=>none:=by
 intro h1 h2;cases o1 with
 |none=>rfl
 | some d=>cases o2 with
   |none=>rfl
   |some a=>exact Cf (Rt (h1 d rfl) (h2 a rfl))
theorem Vv(ha:a<32)(hb:b<32):dX ⟨11,0,a,b,0,[],z,0⟩ true=if aC z then some ⟨11,0,a,b,0,[],z,0⟩else none:=by
 unfold dX;rw[Rq ha hb,Bool.true_and]
theorem aeD{v:Int}(ha:a<32)(hb:b<32)(hv:aoq z= .ok v):
 dX ⟨8,a,b,0,v,[],[],0⟩ (aoe v==z)=match lM z with
  |some n=>some ⟨8,a,b,0,n,[],[],0⟩
  |none=>none:=by
 unfold dX;rw[JI ha hb];cases hn:lM z with
 | some n=>
   obtain⟨e,b1,b2⟩:=yI hn;rw[e,QM b1 b2]at hv;cases hv;have h1:(aoe v==z)=true:=by rw[e,Vr (by omega) (by omega)];simp
   rw[h1,decide_eq_true b1,decide_eq_true b2];rfl
 | none=>
   by_cases he:aoe v=z
   ·by_cases hr: -2048<=v/\v<=2047
    ·have:=WH hr.1 hr.2
     rw[<-Vr (by omega) (by omega),he,hn]at this;cases this
    rw[show(decide (-2048<=v)&&decide (v<=2047))=false by simp;omega];simp
   rw[show(aoe v==z)=false by simpa using he];rfl
theorem agl(h: ∀v,aoq z≠ .ok v):lM z=none:=by
 cases hn:lM z with
 |none=>rfl
 | some n=>
   obtain⟨e,b1,b2⟩:=yI hn;exact absurd (by rw[e];exact QM b1 b2) (h n)
theorem Mb(ho:op=9\/op=10)(ha:a<32)(hb:b<32){o:Option Nat}:(∀n,o=some n->n<32)->
 dX ⟨op,a,b,fS o,0,[],[],0⟩ o.isSome=match o with
  |some c=>some ⟨op,a,b,c,0,[],[],0⟩
  |none=>none:=by
 intro h;cases o with
 |none=>rfl
 |some c=>exact Cf (JG ho ha hb (h c rfl))
theorem Tc: ∀k:Nat,∀x:Tx,([[114],[119],[114,119]]:List Tx)[k]? =some x->lH x=some (k:Int):=by
 intro k x h
 match k,h with
 |0,h=>simp at h;subst h;rfl
 |1,h=>simp at h;subst h;rfl
 |2,h=>simp at h;subst h;rfl
 |k+3,h=>simp at h
theorem vJ{x:Tx}(h:lH x=some n): ∃k:Nat,k<3/\n=k/\([[114],[119],[114,119]]:List Tx)[k]? =some x:=by
 unfold lH at h
 split at h
 ·cases h;exact⟨0,by omega,rfl,by subst x;rfl⟩
 split at h
 ·cases h;exact⟨1,by omega,rfl,by subst x;rfl⟩
 split at h
 ·cases h;exact⟨2,by omega,rfl,by subst x;rfl⟩
 cases h
theorem bS.lt{a:Option Addr}{l:List Tx}(h:bS w a l)(hk:k<l.length):bk a<w.heap.size:=sP (p:=⟨bk a,fo a+k,none⟩) (h.cell k hk)
def Sm(l:List Tx):Prop:= ∀x∈l,x.length<=1000000
theorem Sm.at{l:List Tx}(h:Sm l)(x:Tx)(hx:x∈l):x.length<=9223372036854775807:=by have:=h x hx;omega
theorem ahA(x y z:Tx)(a:Option Addr)(c:Nat)(w:World)(h:bS w a [x,y,z])(hs:Sm [x,y,z]):
 Calls prog 184 #[.slice a 3 c] w (aJ w (.tuple #[.int .i64 (fS (bf (ak x))),.int .i64 (fS (bf (ak y))),.string (tx (ak z)),.bool ((bf (ak x)).isSome&&(bf (ak y)).isSome)])):=by
 have X:=hid (yM x (hs.at x (by simp)));have Y:=hid (yM y (hs.at y (by simp)));have Z:=hid (rT z (hs.at z (by simp)));have i0: ∀c w',(anm 42 (.slice a 3 c) (.int .i64 0)).run prog w'= .ok (.pointer (some ⟨bk a,fo a,none⟩)) w':=fun c w'=>h.idx 0 (by simp) c w'
 have i1: ∀c w',(anm 42 (.slice a 3 c) (.int .i64 1)).run prog w'= .ok (.pointer (some ⟨bk a,fo a+1,none⟩)) w':=fun c w'=>h.idx 1 (by simp) c w'
 have i2: ∀c w',(anm 42 (.slice a 3 c) (.int .i64 2)).run prog w'= .ok (.pointer (some ⟨bk a,fo a+2,none⟩)) w':=fun c w'=>h.idx 2 (by simp) c w'
 have c0:w.cell? ⟨bk a,fo a,none⟩=some (.string (tx x)):=h.cell 0 (by simp);generalize bf (ak x)=rx at*;generalize bf (ak y)=ry at*;generalize ak z=tz at*;go_in;go_wp2_with fail;refine(X.out _).mono ?_;rintro e w1 ⟨rfl,E1⟩;have h1:=h.below E1;have c1:w1.cell? ⟨bk a,fo a+1,none⟩=some (.string (tx y)):=h1.cell 1 (by simp);clear c0;go_wp2_with fail;refine(Y.out _).mono ?_;rintro e w2 ⟨rfl,E2⟩;have h2:=h1.below E2;have E:=aB E1 E2;have c2:w2.cell? ⟨bk a,fo a+2,none⟩=some (.string (tx z)):=h2.cell 2 (by simp);clear c1 E1 E2;go_wp2_with fail;refine(Z.out _).mono ?_;rintro e w3 ⟨rfl,E3⟩;have E:=aB E E3;clear c2 E3;cases rx<;>cases ry<;>(go_wp2;exact bodyPost_ret (by simp[results,results184,go_sem]) rfl ⟨rfl,E⟩)
theorem ahB(n c:Nat)(a:Option Addr)(hn:n≠3)(w:World):
 Calls prog 184 #[.slice a n c] w (aJ w (.tuple #[.int .i64 0,.int .i64 0,.string ⟨#[]⟩,.bool false])):=by
 have z:((n:Int) != 3)=true:=ah;clear hn;go_in;go_wp2;exact bodyPost_ret (by simp[results,results184,go_sem]) rfl ⟨rfl,Below.refl _ _⟩
theorem XK(op:Tx)(n c:Nat)(a:Option Addr)(hn:n≠2)(w:World):Calls prog 182 #[.string (tx op),.slice a n c] w (lg w 0 0 0 0 0 ⟨#[]⟩ ⟨#[]⟩ 0 false):=by
 have z:((n:Int) != 2)=true:=ah;clear hn;go_in;go_wp2;exact bodyPost_ret (by simp[results,results182,go_sem]) rfl ⟨rfl,aF⟩
abbrev bR:Obj:=.cells #[.int .i64 0,.int .i64 0,.int .i64 0,.int .i64 0,.int .i64 0,.string ⟨#[]⟩,.string ⟨#[]⟩,.int .i64 0] 50
theorem dR{w':World}(h:Below (w.alloc bR).heap.size (w.alloc bR) w'):
 (w'.cell? ⟨w.heap.size,0,none⟩=some (.int .i64 0)/\w'.cell? ⟨w.heap.size,1,none⟩=some (.int .i64 0)/\w'.cell? ⟨w.heap.size,2,none⟩=some (.int .i64 0)/\w'.cell? ⟨w.heap.size,3,none⟩=some (.int .i64 0)/\w'.cell? ⟨w.heap.size,4,none⟩=some (.int .i64 0)/\w'.cell? ⟨w.heap.size,5,none⟩=some (.string ⟨#[]⟩)/\w'.cell? ⟨w.heap.size,6,none⟩=some (.string ⟨#[]⟩)/\w'.cell? ⟨w.heap.size,7,none⟩=some (.int .i64 0))/\
 (∀k,w'.frozen? ⟨w.heap.size,k,none⟩=false)/\w.heap.size<w'.heap.size/\Below w.heap.size w w':=by
 have hs:=h.size;simp at hs
 have hc: ∀k,w'.cell? ⟨w.heap.size,k,none⟩=(#[.int .i64 0,.int .i64 0,.int .i64 0,.int .i64 0,.int .i64 0,.string ⟨#[]⟩,.string ⟨#[]⟩,.int .i64 0]:Array Value)[k]? :=fun k=>by
  rw[h.cell (p:=⟨w.heap.size,k,none⟩) (by simp)];have hh:=heap_alloc_new w bR;simp only[World.cell?,hh];simp
 refine⟨⟨hc 0,hc 1,hc 2,hc 3,hc 4,hc 5,hc 6,hc 7⟩,fun k=>?_,by omega,(al w bR).trans (h.mono (al w bR).size)⟩;rw[h.frozen (p:=⟨w.heap.size,k,none⟩) (by simp)];have hh:=heap_alloc_new w bR;simp only[World.frozen?,hh];simp
theorem ahq(op x y:Tx)(hop:op=[108,119])(a:Option Addr)(c:Nat)(w:World)(h:bS w a [x,y])(hs:Sm [x,y]):
 Calls prog 182 #[.string (tx op),.slice a 2 c] w (lg w 6 (fS (bf (ak x))) (fS (ez y)) 0 0 ⟨#[]⟩ ⟨#[]⟩ 0 ((bf (ak x)).isSome&&(ez y).isSome)):=by
 have X:=hid (yM x (hs.at x (by simp)));have Y:=hid (XI y (hs.at y (by simp)));have i0: ∀c w',(anm 42 (.slice a 2 c) (.int .i64 0)).run prog w'= .ok (.pointer (some ⟨bk a,fo a,none⟩)) w':=fun c w'=>h.idx 0 (by simp) c w'
 have i1: ∀c w',(anm 42 (.slice a 2 c) (.int .i64 1)).run prog w'= .ok (.pointer (some ⟨bk a,fo a+1,none⟩)) w':=fun c w'=>h.idx 1 (by simp) c w'
 have c0:w.cell? ⟨bk a,fo a,none⟩=some (.string (tx x)):=h.cell 0 (by simp);have hl:=h.lt (k:=0) (by simp);generalize bf (ak x)=rx at*;generalize ez y=ry at*;have z:((tx op).toList==[108,119])=true:=by rw[bh];simpa using hop
 clear hop;go_in;go_wp2_with fail;refine(X.out _).mono ?_;rintro e w1 ⟨rfl,E1⟩;have h1:=(h.below (al _ _)).below E1;have c1:w1.cell? ⟨bk a,fo a+1,none⟩=some (.string (tx y)):=h1.cell 1 (by simp);clear c0;go_wp2_with fail;refine(Y.out _).mono ?_;rintro e w2 ⟨rfl,E2⟩;have E:=aB E1 E2;obtain⟨⟨d0,d1,d2,d3,d4,d5,d6,d7⟩,hf,hlt,B⟩:=dR E;clear c1 E1 E2 h1 E hl;cases rx<;>cases ry<;>(go_wp2;exact bodyPost_ret (by simp[results,results182,go_sem,d0,d1,d2,d3,d4,d5,d6,d7]) rfl ⟨rfl,aF⟩)
theorem ahr(op x y:Tx)(hop:op≠[108,119])(a:Option Addr)(c:Nat)(w:World)(h:bS w a [x,y])(hs:Sm [x,y]):
 Calls prog 182 #[.string (tx op),.slice a 2 c] w (lg w 7 0 (fS (ez y)) (fS (bf (ak x))) 0 ⟨#[]⟩ ⟨#[]⟩ 0 ((bf (ak x)).isSome&&(ez y).isSome)):=by
 have X:=hid (yM x (hs.at x (by simp)));have Y:=hid (XI y (hs.at y (by simp)));have i0: ∀c w',(anm 42 (.slice a 2 c) (.int .i64 0)).run prog w'= .ok (.pointer (some ⟨bk a,fo a,none⟩)) w':=fun c w'=>h.idx 0 (by simp) c w'
 have i1: ∀c w',(anm 42 (.slice a 2 c) (.int .i64 1)).run prog w'= .ok (.pointer (some ⟨bk a,fo a+1,none⟩)) w':=fun c w'=>h.idx 1 (by simp) c w'
 have c0:w.cell? ⟨bk a,fo a,none⟩=some (.string (tx x)):=h.cell 0 (by simp);have hl:=h.lt (k:=0) (by simp);generalize bf (ak x)=rx at*;generalize ez y=ry at*;have z:((tx op).toList==[108,119])=false:=by rw[bh];simpa using hop
 clear hop;go_in;go_wp2_with fail;refine(X.out _).mono ?_;rintro e w1 ⟨rfl,E1⟩;have h1:=(h.below (al _ _)).below E1;have c1:w1.cell? ⟨bk a,fo a+1,none⟩=some (.string (tx y)):=h1.cell 1 (by simp);clear c0;go_wp2_with fail;refine(Y.out _).mono ?_;rintro e w2 ⟨rfl,E2⟩;have E:=aB E1 E2;obtain⟨⟨d0,d1,d2,d3,d4,d5,d6,d7⟩,hf,hlt,B⟩:=dR E;clear c1 E1 E2 h1 E hl;cases rx<;>cases ry<;>(go_wp2;exact bodyPost_ret (by simp[results,results182,go_sem,d0,d1,d2,d3,d4,d5,d6,d7]) rfl ⟨rfl,aF⟩)
end Go.Proofs.YtkbbgjloifmmbaaGreatDoor

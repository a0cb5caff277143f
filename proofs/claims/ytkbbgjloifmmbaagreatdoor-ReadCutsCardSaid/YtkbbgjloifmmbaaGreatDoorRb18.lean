/- What ReadBackP leans on, part 18. -/
import Derived.Test.YtkbbgjloifmmbaaGreatDoorRb17
import Derived.Shelf.Strings.Search2
set_option linter.unusedVariables false
set_option maxRecDepth 100000
set_option maxHeartbeats 6400000
namespace Go.Proofs.YtkbbgjloifmmbaaGreatDoor
open _root_.Go.Proofs.Tryz
open _root_.List renaming length_drop->aoJ,length_cons->ans,takeWhile_cons->anC,dropWhile_append_of_pos->aoD,takeWhile_cons_of_pos->aoF,prefix_iff_eq_take->aoN,drop_eq_nil_of_le->amT,drop_drop->aon,dropWhile_suffix->aoI,length->aoQ,length_nil->anX
open _root_.Go.Lib renaming cut->aoK,trimRightS->anc,trimLeftS->anf,index->aoO,count->aoP
open _root_.Go.Exit renaming jump->aoL
open _root_.Go.Value renaming string->aoM
open _root_.Nat renaming le_refl->amS
open _root_.Go.Instr renaming sliceAt->amP
open _root_.Go.Calls renaming regrown_of->an1
open Go.RowKit
theorem index_one(c:UInt8): ∀l:Tx,(c∉l->aoO l [c]= -1)/\(c∈l->aoO l [c]=(l.takeWhile (· != c)).length)
 |[]=>⟨fun _=>by simp[aoO],fun h=>by cases h⟩
 | b::r=>by
   obtain⟨h1,h2⟩:=index_one c r
   by_cases hb:b=c
   ·subst hb
    refine⟨fun h=>absurd (by simp) h,fun _=>?_⟩;simp[aoO,List.isPrefixOf]
   ·rw[Q7 r hb]
    refine⟨fun h=>?_,fun h=>?_⟩
    ·rw[h1 (fun hm=>h (by simp[hm]))];rfl
    ·have hm:c∈r:=by
      rcases List.mem_cons.1 h with e|e
      ·exact absurd e.symm hb
      ·exact e
     have e:=h2 hm;have t:(b::r).takeWhile (· != c)=b::r.takeWhile (· != c):=by rw[anC,if_pos (by simpa using hb)]
     rw[t,e,if_neg (by simp only[beq_iff_eq];omega),ans];omega
theorem Hy(c:UInt8): ∀l:Tx,l.drop (l.takeWhile (· != c)).length=l.dropWhile (· != c)
 |[]=>rfl
 | b::r=>by
   rw[anC,List.dropWhile_cons];split
   ·rw[ans,List.drop_succ_cons];exact Hy c r
   ·rfl
theorem Ld(c:UInt8): ∀l:Tx,l.take (l.takeWhile (· != c)).length=l.takeWhile (· != c)
 |[]=>rfl
 | b::r=>by
   rw[anC];split
   ·rw[ans,List.take_succ_cons,Ld c r]
   ·rfl
theorem Dw(c:UInt8)(l:Tx):aoK l [c]=if c∈l then(l.takeWhile (· != c),(l.dropWhile (· != c)).drop 1,true)else(l,[],false):=by
 obtain⟨h1,h2⟩:=index_one c l;unfold aoK
 by_cases h:c∈l
 ·rw[if_pos h,h2 h,if_pos (by omega)]
  simp only[Int.toNat_natCast,Ld,ans,anX];rw[<-aon,Hy]
 ·rw[if_neg h,h1 h,if_neg (by omega)]
theorem acW(l:Tx)(c:UInt8)(w:World):Calls prog 196 #[.string (tx l),.string (tx [c])] w fun e w'=>e= .returned (.int .i64 (Lib.indexByte l c))/\w=w':=
 (Any.stringslite_Index_one { Tryz.adN with } (tx l) c w).mono fun e w' hh=>⟨by rw[hh.1,gO],hh.2.symm⟩
abbrev Gs(l:Tx)(c:UInt8)(w:World):Ending->World->Prop:=ax w (.tuple #[.string (tx (aoK l [c]).1),.string (tx (aoK l [c]).2.1),.bool (aoK l [c]).2.2])
theorem aaN(l:Tx)(c:UInt8)(hl:l.length<=9223372036854775807)(w:World):Calls prog 111 #[.string (tx l),.string (tx [c])] w (Gs l c w):=by
 have IX:=hid (fun w=>acW l c w);have hc:=Dw c l;have h1:=aP [c];unfold Gs;rw[hc]
 by_cases h:c∈l
 ·obtain⟨e,hlt⟩:=Jo c l h
  rw[e]at IX;rw[if_pos h];obtain⟨k,hk⟩: ∃k,(l.takeWhile (· != c)).length=k:=⟨_,rfl⟩;rw[hk]at IX hlt;have s1:=BC l k (by omega);have s2:=wB l (k+1) (by omega);rw[show((k+1:Nat):Int)=(k:Int)+1 by omega]at s2;have hw:IntKind.i64.wrap ((k:Int)+1)=(k:Int)+1:=wrap_small _ (by omega) (by omega);have HA:=hid (show l.take k=l.takeWhile (· != c) by rw[<-hk];exact Ld c l);have HB:=hid (show l.drop (k+1)=(l.dropWhile (· != c)).drop 1 by rw[<-aon,<-hk,Hy]);have h1:(tx [c]).size=1:=h1;have hz:decide ((0:Int)<=(k:Int))=true:=by simp
  clear hc h e hk hl;go_in
  go_wp2_with (go_at_call 196;refine(IX.out _).mono ?_;rintro e w' ⟨rfl,rfl⟩)
  go_big_region
  go_wp2_with fail
  go_ret3
  exact⟨by rw[HA.out,HB.out];rfl,aN⟩
 ·rw[Ej c l h]at IX
  rw[if_neg h];clear hc h hl;go_in
  go_wp2_with (go_at_call 196;refine(IX.out _).mono ?_;rintro e w' ⟨rfl,rfl⟩)
  go_ret3
  exact⟨rfl,aN⟩
theorem Hs(l:Tx)(c:UInt8)(hl:l.length<=9223372036854775807)(w:World):Calls prog 48 #[.string (tx l),.string (tx [c])] w (ax w (.tuple #[.string (tx (aoK l [c]).1),.string (tx (aoK l [c]).2.1),.bool (aoK l [c]).2.2])):=by
 have C:=hid (fun w=>aaN l c hl w);unfold Gs at C;generalize tx (aoK l [c]).1=a at*;generalize tx (aoK l [c]).2.1=b at*;generalize (aoK l [c]).2.2=k at*;go_in;go_wp2_with fail;refine(C.out _).mono ?_;rintro e w' ⟨rfl,E⟩;go_wp2_with fail
 go_ret3
 exact⟨rfl,E⟩
theorem cZ.loc{w w':World}{e:Ending}{r:Option Ins}{i:Ins}(hr:r=some i)(h:e= .returned (.tuple #[vI i,.int .i64 0]))(hb:Below w.heap.size w w'):cZ r w e w':=by
 subst hr h;exact⟨rfl,hb⟩
theorem Qi{t:Tx}:Lib.hasPrefix t [77,79,86]=decide (t.take 3=[77,79,86]):=by
 unfold Lib.hasPrefix;rw[Bool.eq_iff_iff,decide_eq_true_eq,List.isPrefixOf_iff_prefix,aoN];exact eq_comm
theorem afq{s:Tx}(hl:s.length<=262144)(h:ah s=[77,70,69,78,67,69]):eL s=some Eu:=by unfold eL;rw[if_neg (by omega),if_pos h]
theorem afs{s t:Tx}(ht:ah s=t)(hl:s.length<=262144)(h:t≠[77,70,69,78,67,69])(h2: ¬(t.take 3=[77,79,86]/\(t.drop 3).head?.any aj=true)):eL s=none:=by subst ht;unfold eL;rw[if_neg (by omega),if_neg h,if_pos h2]
theorem afr{s t u:Tx}(ht:ah s=t)(hu:t.drop 3=u)(h:(44:UInt8)∉u)(hl:s.length<=262144)(h1:t≠[77,70,69,78,67,69]):eL s=none:=by
 subst ht;subst hu;unfold eL;rw[if_neg (by omega),if_neg h1];split
 ·rfl
 ·first|rfl|rw[if_neg h]
theorem afp{s t u:Tx}(ht:ah s=t)(hu:t.drop 3=u)(h:(44:UInt8)∈u)(hl:s.length<=262144)(h1:t≠[77,70,69,78,67,69])(h2:t.take 3=[77,79,86])(h3:u.head?.any aj=true):eL s=iD (ah (u.takeWhile (· != 44))) (ah ((u.dropWhile (· != 44)).drop 1)):=by
 subst ht;subst hu;unfold eL;rw[if_neg (by omega),if_neg h1,if_neg (fun hh=>hh ⟨h2,h3⟩),if_pos h]
theorem adn(s:Tx)(hl:262144<s.length)(w:World):Calls prog 43 #[.string (tx s)] w (cZ (eL s) w):=by
 have HP:=hid (show eL s=none by unfold eL;rw[if_pos hl]);obtain⟨n,hn⟩: ∃n,(tx s).size=n:=⟨_,rfl⟩;have z:decide (262144<(n:Int))=true:=by rw[aP]at hn;simp;omega
 generalize eL s=r at*;clear hl;go_in;go_wp2_with fail;exact bodyPost_ret (by simp[results,results43,go_sem]) rfl (cZ.no HP.out rfl aK)
theorem ado(s:Tx)(hl:s.length<=262144)(h:ah s=[77,70,69,78,67,69])(w:World):Calls prog 43 #[.string (tx s)] w (cZ (eL s) w):=by
 have HP:=hid (afq hl h);obtain⟨n,hn⟩: ∃n,(tx s).size=n:=⟨_,rfl⟩;have z:decide (262144<(n:Int))=false:=by rw[aP]at hn;simp;omega
 have TR:=hid (fun w=>uu s (by omega) w);rw[h]at TR;generalize eL s=r at*;have z2:((tx [77,70,69,78,67,69]).toList==[77,70,69,78,67,69])=true:=by rw[aW];rfl
 clear hl h;go_in;go_wp2_with fail;refine(TR.out _).mono ?_;rintro e w1 ⟨rfl,E⟩;obtain⟨⟨d0,d1,d2,d3,d4,d5,d6,d7⟩,hf,hlt,B⟩:=dX E;clear E;go_wp2_with fail;exact bodyPost_ret (by simp[results,results43,go_sem,d0,d1,d2,d3,d4,d5,d6,d7,Eu,iq]) rfl (cZ.loc HP.out rfl aK)
theorem adq(s t:Tx)(hl:s.length<=262144)(ht:ah s=t)(h1:t≠[77,70,69,78,67,69])(h2: ¬(t.take 3=[77,79,86]/\(t.drop 3).head?.any aj=true))(w:World):Calls prog 43 #[.string (tx s)] w (cZ (eL s) w):=by
 have HP:=hid (afs ht hl h1 h2);obtain⟨n,hn⟩: ∃n,(tx s).size=n:=⟨_,rfl⟩;have z:decide (262144<(n:Int))=false:=by rw[aP]at hn;simp;omega
 have TR:=hid (fun w=>uu s (by omega) w);rw[ht]at TR;have htl:=j3 s;rw[ht]at htl;generalize eL s=r at*;have z2:((tx t).toList==[77,70,69,78,67,69])=false:=jm _ _ h1;have PR:=hid (fun w=>qE t [77,79,86] w);rw[Qi]at PR;obtain⟨m,hm⟩: ∃m,(tx t).size=m:=⟨_,rfl⟩;have hml:m=t.length:=by rw[<-hm,aP]
 by_cases h3:t.take 3=[77,79,86]
 ·rw[decide_eq_true h3]at PR
  by_cases h4:t.length<4
  ·have z4:decide ((m:Int)<4)=true:=by simp;omega
   clear hl ht h1 h2 htl hml h3 h4;go_in;go_wp2_with fail;refine(TR.out _).mono ?_;rintro e w1 ⟨rfl,E⟩;go_wp2_with fail;refine(PR.out _).mono ?_;rintro e w2 ⟨rfl,E2⟩;have E:=ay E E2;obtain⟨⟨d0,d1,d2,d3,d4,d5,d6,d7⟩,hf,hlt,B⟩:=dX E;clear E E2;go_wp2_with fail;exact bodyPost_ret (by simp[results,results43,go_sem,d0,d1,d2,d3,d4,d5,d6,d7]) rfl (cZ.no HP.out rfl aK)
  ·have z4:decide ((m:Int)<4)=false:=by simp;omega
   obtain⟨b,hb⟩: ∃b,t[3]? =some b:=⟨_,List.getElem?_eq_getElem (by omega)⟩
   have eJ:aj b=false:=by
    cases eJ:aj b with
    |false=>rfl
    | true=>
      refine absurd ⟨h3,?_⟩ h2;rw[List.head?_drop,hb];exact eJ
   have ix: ∀w,(Instr.index 9 (.string (tx t)) (.int .i64 3)).run prog w= .ok (.int .u8 b.toNat) w:=iV t 3 b hb;have CR:=hid (fun w=>Hr b.toNat (by have:=b.toNat_lt;omega) w);rw[Fj,eJ]at CR;have hb8:=b.toNat_lt;clear hl ht h1 h2 htl hml h3 h4 hb eJ;go_in;go_wp2_with fail;refine(TR.out _).mono ?_;rintro e w1 ⟨rfl,E⟩;go_wp2_with fail;refine(PR.out _).mono ?_;rintro e w2 ⟨rfl,E2⟩;have E:=ay E E2;go_wp2_with fail;refine(CR.out _).mono ?_;rintro e w3 ⟨rfl,E3⟩;have E:=ay E E3;obtain⟨⟨d0,d1,d2,d3,d4,d5,d6,d7⟩,hf,hlt,B⟩:=dX E;clear E E2 E3;go_wp2_with fail;exact bodyPost_ret (by simp[results,results43,go_sem,d0,d1,d2,d3,d4,d5,d6,d7]) rfl (cZ.no HP.out rfl aK)
 ·rw[decide_eq_false h3]at PR
  clear hl ht h1 h2 htl hml h3;go_in;go_wp2_with fail;refine(TR.out _).mono ?_;rintro e w1 ⟨rfl,E⟩;go_wp2_with fail;refine(PR.out _).mono ?_;rintro e w2 ⟨rfl,E2⟩;have E:=ay E E2;obtain⟨⟨d0,d1,d2,d3,d4,d5,d6,d7⟩,hf,hlt,B⟩:=dX E;clear E E2;go_wp2_with fail;exact bodyPost_ret (by simp[results,results43,go_sem,d0,d1,d2,d3,d4,d5,d6,d7]) rfl (cZ.no HP.out rfl aK)
theorem adp(s t u:Tx)(hl:s.length<=262144)(ht:ah s=t)(hu:t.drop 3=u)(h1:t≠[77,70,69,78,67,69])(h3:t.take 3=[77,79,86])(b:UInt8)(r0:Tx)(yl:u=b::r0)(eJ:aj b=true)(w:World)(g:Gl w):Calls prog 43 #[.string (tx s)] w (cZ (eL s) w):=by
 have g0:=g.below (al w fS);obtain⟨n,hn⟩: ∃n,(tx s).size=n:=⟨_,rfl⟩;have z:decide (262144<(n:Int))=false:=by rw[aP]at hn;simp;omega
 have TR:=hid (fun w=>uu s (by omega) w);rw[ht]at TR;have htl:=j3 s;rw[ht]at htl
 have htu:t.length=u.length+3:=by
  have:=congrArg aoQ hu;have h4:=congrArg aoQ h3;rw[yl]at this⊢;simp only[aoJ,List.length_take,ans,anX]at this h4⊢;omega
 have z2:((tx t).toList==[77,70,69,78,67,69])=false:=jm _ _ h1;have PR:=hid (fun w=>qE t [77,79,86] w);rw[Qi,decide_eq_true h3]at PR;obtain⟨m,hm⟩: ∃m,(tx t).size=m:=⟨_,rfl⟩;have hml:m=t.length:=by rw[<-hm,aP]
 have z4:decide ((m:Int)<4)=false:=by rw[hml,htu,yl];simp;omega
 have hb:t[3]? =some b:=by rw[<-List.head?_drop,hu,yl];rfl
 have ix: ∀w,(Instr.index 9 (.string (tx t)) (.int .i64 3)).run prog w= .ok (.int .u8 b.toNat) w:=iV t 3 b hb;have CR:=hid (fun w=>Hr b.toNat (by have:=b.toNat_lt;omega) w);rw[Fj,eJ]at CR;have hb8:=b.toNat_lt
 have sf: ∀w,(amP 9 (.string (tx t)) (some (.int .i64 3)) none none).run prog w= .ok (.string (tx u)) w:=fun w=>by
  have:=wB t 3 (by omega) w;rw[hu]at this;exact this
 have CU:=hid (fun w (g:Gl w)=>Hs u 44 (by omega) w);have ez:u.length<=262144:=by omega
 rw[Dw]at CU
 by_cases mo:(44:UInt8)∈u
 ·rw[if_pos mo]at CU
  have HP:=hid (afp ht hu mo hl h1 h3 (by rw[yl];exact eJ));obtain⟨x,hx⟩: ∃x,u.takeWhile (· != 44)=x:=⟨_,rfl⟩;obtain⟨y,hy⟩: ∃y,(u.dropWhile (· != 44)).drop 1=y:=⟨_,rfl⟩;have hxl:x.length<=262144:=by rw[<-hx];have:=oq (· != 44) u;omega
  have yo:y.length<=262144:=by rw[<-hy];have:=(aoI (fun x=>x != 44) (l:=u)).length_le;simp;omega
  simp only at CU;rw[hx,hy]at CU HP;have TX:=hid (fun w=>uu x (by omega) w);have TY:=hid (fun w=>uu y (by omega) w);have MV:=hid (fun w g=>adk (ah x) (ah y) (by have:=j3 x;omega) (by have:=j3 y;omega) w g);have HC:=hid (fun i=>SK (a:=ah x) (b:=ah y) (i:=i));have uM:=hid (show ∀i,iD (ah x) (ah y)=some i->eL s=some i from fun i h=>by rw[HP.out,h]);have Xx:=hid (show iD (ah x) (ah y)=none->eL s=none from fun h=>by rw[HP.out,h]);generalize iD (ah x) (ah y)=mv at*;generalize eL s=r at*;generalize ah x=Fz at*;generalize ah y=wK at*;clear hl ht h1 htl hml h3 hb eJ hx hy hxl yo mo HP yl hu htu ez g;go_in;go_wp2_with fail;refine(TR.out _).mono ?_;rintro e w1 ⟨rfl,E⟩;go_wp2_with fail;refine(PR.out _).mono ?_;rintro e w2 ⟨rfl,E2⟩;have E:=ay E E2;go_wp2_with fail;refine(CR.out _).mono ?_;rintro e w3 ⟨rfl,E3⟩;have E:=ay E E3;have g1:=g0.below E;go_wp2_with fail;refine(CU.out _ g1).mono ?_;rintro e w4 ⟨rfl,E4⟩;have E:=ay E E4;go_wp2_with fail;refine(TX.out _).mono ?_;rintro e w5 ⟨rfl,E5⟩;have E:=ay E E5;go_wp2_with fail;refine(TY.out _).mono ?_;rintro e w6 ⟨rfl,E6⟩;have E:=ay E E6;have g2:=g0.below E;go_wp2_with fail;refine(MV.out _ g2).mono ?_;rintro e w7 ⟨op,d,a,ag,loc,ok,rfl,hk,cV,E7⟩;have E:=ay E E7;have HK:=hid hk;have HL:=hid cV;clear g1 g2 E2 E3 E4 E5 E6 E7 hk cV;cases ok with
  | false=>
    obtain⟨⟨d0,d1,d2,d3,d4,d5,d6,d7⟩,hf,hlt,B⟩:=dX E;have HN:=hid (Xx.out HK.out.no);clear E;go_wp2_with fail;exact bodyPost_ret (by simp[results,results43,go_sem,d0,d1,d2,d3,d4,d5,d6,d7,hlt]) rfl (cZ.no HN.out rfl aK)
  | true=>
    have HN:=hid (uM.out _ HK.out.yes);have CK:=hid (fun w=>FK ⟨op,d,a,0,ag,loc,[],0⟩ (by have:=HL.out;simp;omega) w);rw[H8 (HC.out _ HK.out.yes)]at CK;go_wp2_with fail;refine(CK.out _).mono ?_;rintro e w8 ⟨rfl,E8⟩;have bl:=(aG.new w7 #[.int .i64 op,.int .i64 d,.int .i64 a,.int .i64 0,.int .i64 ag,.string (tx loc),.string ⟨#[]⟩,.int .i64 0] 50).below E8;have q0:=bl.get 0 _ rfl;have q1:=bl.get 1 _ rfl;have q2:=bl.get 2 _ rfl;have q3:=bl.get 3 _ rfl;have q4:=bl.get 4 _ rfl;have q5:=bl.get 5 _ rfl;have q6:=bl.get 6 _ rfl;have q7:=bl.get 7 _ rfl;have h7:=E.size;have E:=ay (dD E _) E8;obtain⟨⟨d0,d1,d2,d3,d4,d5,d6,d7⟩,hf,hlt,B⟩:=dX E;have hne:w.heap.size≠w7.heap.size:=by simp at h7;omega
    have I7:=hne.symm;clear E E8 bl h7;go_wp2_with fail;exact bodyPost_ret (by simp[results,results43,go_sem,d0,d1,d2,d3,d4,d5,d6,d7,iq]) rfl (cZ.loc HN.out rfl aK)
 ·rw[if_neg mo]at CU
  have HP:=hid (afr ht hu mo hl h1);generalize eL s=r at*;clear hl ht h1 htl hml h3 hb eJ mo yl hu htu ez g;go_in;go_wp2_with fail;refine(TR.out _).mono ?_;rintro e w1 ⟨rfl,E⟩;go_wp2_with fail;refine(PR.out _).mono ?_;rintro e w2 ⟨rfl,E2⟩;have E:=ay E E2;go_wp2_with fail;refine(CR.out _).mono ?_;rintro e w3 ⟨rfl,E3⟩;have E:=ay E E3;have g1:=g0.below E;go_wp2_with fail;refine(CU.out _ g1).mono ?_;rintro e w4 ⟨rfl,E4⟩;have E:=ay E E4;obtain⟨⟨d0,d1,d2,d3,d4,d5,d6,d7⟩,hf,hlt,B⟩:=dX E;clear E E2 E3 E4 g1;go_wp2_with fail;exact bodyPost_ret (by simp[results,results43,go_sem,d0,d1,d2,d3,d4,d5,d6,d7]) rfl (cZ.no HP.out rfl aK)
theorem adm(s:Tx)(w:World)(g:Gl w):Calls prog 43 #[.string (tx s)] w (cZ (eL s) w):=by
 by_cases hl:s.length<=262144
 ·by_cases h1:ah s=[77,70,69,78,67,69]
  ·exact ado s hl h1 w
  ·by_cases h2:(ah s).take 3=[77,79,86]/\((ah s).drop 3).head?.any aj=true
   ·obtain⟨h3,h4⟩:=h2
    cases hu:(ah s).drop 3 with
    |nil=>rw[hu]at h4;cases h4
    |cons b r0=>rw[hu]at h4;exact adp s _ _ hl rfl hu h1 h3 b r0 rfl h4 w g
   ·exact adq s _ hl rfl h1 h2 w
 ·exact adn s (by omega) w
theorem Ns(c:UInt8):([32,9,10,13]:Tx).contains c=aj c:=by
 have k:=kZ (p:=fun c=>([32,9,10,13]:Tx).contains c==aj c) (by decide+kernel) c;simpa using k
theorem akJ(l:Tx)(w:World):Calls prog 154 #[.string (tx l),.string ⟨#[32,9,10,13]⟩] w (ax w (.string (tx (aq l)))):=by
 refine(Any.strings_TrimLeft_laid Tryz.adS (by kernel_rfl) (tx l) ⟨#[32,9,10,13]⟩ w (by decide) (ascii_of_all (by decide))).mono fun e w' hh=>⟨?_,hh.2⟩
 rw[hh.1,gO]
 have:anf l [32,9,10,13]=aq l:=by
  unfold anf aq
  congr 1;funext c;exact Ns c
 show Ending.returned (.string ⟨(anf l [32,9,10,13]).toArray⟩)=_;rw[this];rfl
theorem Wd(l:Tx)(hl:l.length<=9223372036854775807)(w:World):Calls prog 155 #[.string (tx l),.string ⟨#[32,9,10,13]⟩] w (ax w (.string (tx (dz l)))):=by
 refine(Any.strings_TrimRight_laid Tryz.adU (by kernel_rfl) (tx l) ⟨#[32,9,10,13]⟩ w (by rw[aP];exact hl) (by decide) (ascii_of_all (by decide))).mono fun e w' hh=>⟨?_,hh.2⟩
 rw[hh.1,gO]
 have:anc l [32,9,10,13]=dz l:=by
  unfold anc dz
  congr 2;funext c;exact Ns c
 show Ending.returned (.string ⟨(anc l [32,9,10,13]).toArray⟩)=_;rw[this];rfl
theorem aaL(l:Tx)(c:UInt8)(w:World):Calls prog 77 #[.string (tx l),.string ⟨#[c]⟩] w fun e w'=>e= .returned (.int .i64 (l.count c:Nat))/\w=w':=by
 refine(Any.strings_Count_one Tryz.adL (tx l) c w).mono fun e w' hh=>⟨?_,hh.2.symm⟩
 rw[hh.1,gO];rfl
theorem VO(l:Tx)(c:UInt8)(hl:l.length<=1000000)(w:World)(g:Gl w):Calls prog 79 #[.string (tx l),.string ⟨#[c]⟩] w fun e w'=> ∃a,e= .returned (.slice a (aD c l).length (aD c l).length)/\Own w' w.heap.size 9 1 a (aD c l).length (aD c l).length ((aD c l).map fun x=>aoM (tx x))/\cP w' a (aD c l)/\Below w.heap.size w w':=by
 obtain⟨m,hm⟩:=g.maxLen;refine(Any.strings_Split { Tryz.Bm with } Tryz.Bm.i9 (tx l) ⟨#[c]⟩ m w (by rw[aP];omega) hm (by show 1<=1;omega)).mono fun e w' hh=>?_
 obtain⟨he,rfl⟩:=hh;have hc:Lib.countB (tx l) ⟨#[c]⟩=aoP l [c]:=by unfold Lib.countB;rw[gO]
 have hd:=Lib.splitB_data ⟨#[c]⟩ 0 (aoP l [c]) (tx l);rw[gO,show(⟨#[c]⟩:ByteArray).data.toList=[c]from rfl,KY]at hd
 have hlen:aoP l [c]+1=(aD c l).length:=by
  rw[<-hd,List.length_map,Lib.splitB_all ⟨#[c]⟩ (by show 1<=1;omega) 0 _ _ hc]
 have hmap:(Lib.splitB ⟨#[c]⟩ 0 (aoP l [c]) (tx l)).map aoM=(aD c l).map fun x=>aoM (tx x):=by
  rw[<-hd,List.map_map];refine List.map_congr_left fun x _=>?_
  simp[tx]
 rw[hc,hlen]at he;rw[hc,hmap];have hsm:=uh c l;refine⟨some ⟨w.heap.size,0,none⟩,he,?_,⟨⟨fun _=>rfl,fun i hi=>?_⟩,by omega⟩,(Below.refl _ _).alloc (amS _) _⟩
 ·exact World.ownsRow_lit w (e:=9) ((aD c l).map fun x=>aoM (tx x)).toArray (aD c l).length (amS w.heap.size) (size:=1) (by unfold maxLen;omega) (by simp)
 ·have hh:=heap_alloc_new w (.cells ((aD c l).map fun x=>aoM (tx x)).toArray (Tryz.Et.t 9))
  simp only[World.cell?,fk,gb];rw[hh];simp
theorem og(l:Tx)(hl:l.length<=9223372036854775807)(w:World):Calls prog 50 #[.string (tx l)] w (ax w (.string (tx (ah l)))):=by
 have TR:=hid (uu l hl w);go_in;go_wp2_with fail;refine TR.out.mono ?_;rintro e w1 ⟨rfl,E⟩;go_wp2_with fail;go_ret;exact⟨rfl,E⟩
theorem yM(l:Tx)(hl:l.length<=9223372036854775807)(w:World):Calls prog 80 #[.string (tx l)] w (ax w (.int .i64 ((l.length-(aq l).length:Nat):Int))):=by
 have TR:=hid (akJ l w);have h1:(tx l).size=l.length:=aP l;have h2:(tx (aq l)).size=(aq l).length:=aP _;have h3:(aq l).length<=l.length:=(aoI _).length_le;go_in;go_wp2_with fail;refine TR.out.mono ?_;rintro e w1 ⟨rfl,E⟩;go_wp2_with fail;go_ret;exact⟨bJ (by omega),E⟩
theorem UP(af:Int)(w:World):Calls prog 42 #[.int .i64 af] w fun e w'=>e= .returned (.bool (aH af))/\w=w':=by
 obtain⟨b1,h1⟩: ∃b,(af==1)=b:=⟨_,rfl⟩;obtain⟨b2,h2⟩: ∃b,(af==2)=b:=⟨_,rfl⟩;have HB:=hid (show aH af=(b1||b2) by rw[<-h1,<-h2];unfold aH;cases h:af==1<;>cases h':af==2<;>simp_all)
 go_in;cases b1<;>
 ·go_wp2_with fail
  go_ret;exact⟨aJ (by rw[HB.out];rfl),rfl⟩
theorem Kw:SF az 52:=fun l hl=>yD l hl _ (by decide)
end Go.Proofs.YtkbbgjloifmmbaaGreatDoor
namespace Go.Proofs.YtkbbgjloifmmbaaGreatDoor
open _root_.Go.Proofs.Tryz
open _root_.List renaming length_drop->aoJ,length_cons->ans,takeWhile_cons->anC,dropWhile_append_of_pos->aoD,takeWhile_cons_of_pos->aoF,prefix_iff_eq_take->aoN,drop_eq_nil_of_le->amT,drop_drop->aon,dropWhile_suffix->aoI,length->aoQ,length_nil->anX
open _root_.Go.Lib renaming cut->aoK,trimRightS->anc,trimLeftS->anf,index->aoO,count->aoP
open _root_.Go.Exit renaming jump->aoL
open _root_.Go.Value renaming string->aoM
open _root_.Nat renaming le_refl->amS
open _root_.Go.Instr renaming sliceAt->amP
open _root_.Go.Calls renaming regrown_of->an1
open Go.RowKit Go.Sort
theorem alB{P:Program}{a:Act}{w:World}{Q:Exit->Act->World->Prop}{c X:Code}(l:Nat)(J:Act->World->Prop)(μ:Act->World->Nat)(hf:findLabel c l=some (.seq .skip X))
 (first:(∀a w,J a w->X.wp P (aoL l J Q) a w)->c.wp P (aoL l J Q) a w)
 (pass: ∀a w,J a w->X.wp P (aoL l (fun a' w'=>J a' w'/\μ a' w'<μ a w) Q) a w):(Code.scope c).wp P Q a w:=by
 refine wp_scope_jumps l J μ hf (first fun a w h=>wp_mono (pass a w h) ?_) fun a w h=>wp_seq (wp_skip (pass a w h))
 intro e a w h;cases e<;>simp only[aoL]at h⊢
 case goto l'=>exact⟨h.1,h.2.1⟩
 all_goals exact h
theorem JS{u b:Tx}{c:UInt8}(hu:u.head?=some c)(hc:aj c=false)(hb: ∀c∈b,aj c=true):ah (b++u.takeWhile (· != 10))=aI u/\Tr (aI u)/\(aI u).head?=some c:=by
 cases u with
 |nil=>cases hu
 | cons d r=>
   obtain rfl:d=c:=by simpa using hu
   have h10:(d != 10)=true:=by
    rw[bne_iff_ne];rintro rfl;revert hc;decide
   have e2:dz (d::r.takeWhile (· != 10))=d::dz (r.takeWhile (· != 10)):=by
    have:=BO [] (r.takeWhile (· != 10)) d hc;rw[pL,List.nil_append]at this
    have e3: ∃m,dz (d::r.takeWhile (· != 10))=d::m:=by
     unfold dz;rw[List.reverse_cons,Am _ _ hc,List.reverse_append];exact⟨_,rfl⟩
    obtain⟨m,em⟩:=e3;rw[em,List.dropWhile_cons_of_neg (by rw[hc];decide)]at this;rw[em];exact this
   have e1:aI (d::r)=d::dz (r.takeWhile (· != 10)):=by
    unfold aI;rw[aoF (p:=fun x=>x != 10) h10,e2]
   have ht:ah (b++(d::r).takeWhile (· != 10))=aI (d::r):=by
    rw[aoF (p:=fun x=>x != 10) h10,BO b _ d hc,e1]
    have:b.dropWhile aj=[]:=by
     have:=aoD (p:=aj) (l₂:=[]) hb;simpa using this
    rw[this];rfl
   refine⟨ht,?_,by rw[e1];rfl⟩;rw[<-ht];exact Tr.trim _
theorem aeY{s:Tx}{k m:Nat}(hk:k<=s.length)(hm:((s.drop k).takeWhile (· != 10)).length=m):s.drop (min (k+m+1) s.length)=aZ (s.drop k)/\min (k+m+1) s.length=s.length-(aZ (s.drop k)).length:=by
 have e:=ai5 (s.drop k);rw[hm,aon]at e;have hl:=congrArg aoQ e;rw[aoJ]at hl;refine⟨?_,by omega⟩;rw[e];rcases Nat.le_total (k+m+1) s.length with h|h
 ·rw[Nat.min_eq_left h];congr 1
 ·rw[Nat.min_eq_right h,amT (amS _),amT (by omega)]
theorem ajG{r:Tx}(h: ∀c∈r,aj c=true):aq r=[]:=by
 have:=aoD (p:=aj) (l₂:=[]) h;simpa[aq]using this
theorem BP(p:Tx):ah p=[]<-> ∀c∈p,aj c=true:=by
 constructor
 ·intro h
  have:av p=[]:=by rw[<-tX,h,vW]
  exact Eo this
 ·intro h
  have h2:av p=[]:=by
   have:=tW _ [] p (amS _) h;simpa[vW]using this
  cases e:ah p with
  |nil=>rfl
  | cons c r=>
    have h3:c∈ah p:=by rw[e];simp
    have h4:aj c=false:=Ll c (by rw[e];rfl);rw[h c (Fy h3)]at h4;cases h4
theorem akY{c:UInt8}{r:Tx}(h:c∉r):r.takeWhile (· != c)=r:=by
 have k: ∀x∈r,(x != c)=true:=fun x hx=>by
  rw[bne_iff_ne];rintro rfl;exact h hx
 have:=List.takeWhile_append_of_pos (p:=(· != c)) (l₂:=[]) k;simpa using this
theorem abV{tw b f:Tx}(h:tw=b++aq tw)(hf:aq tw=f):tw=b++f:=by rw[<-hf];exact h
def Sj(rb k:Nat)(v:Nat->Value):Act:={ tmps:=#[.pointer (some ⟨rb,0,none⟩),undef,.string ⟨#[]⟩,.int .i64 0,.int .i64 0,.bool false,.int .i64 k,v 7,v 8,v 9,v 10,v 11,v 12,v 13,v 14,v 15,v 16,v 17,v 18,v 19,v 20,v 21,v 22,v 23,v 24,v 25,v 26,v 27,v 28,v 29,v 30,v 31,v 32,v 33,v 34,v 35,v 36,v 37,v 38,v 39,v 40,v 41,v 42,v 43,v 44,v 45,v 46,v 47,v 48,v 49,v 50,v 51,v 52,v 53,v 54,v 55,v 56,v 57,v 58,v 59,v 60,v 61,v 62,v 63,v 64,v 65,v 66,v 67,v 68,v 69,v 70,v 71,v 72,v 73,v 74,v 75,v 76,v 77,v 78],defers:=[] }
theorem Fi(l:Tx)(a:Nat)(h:a<=l.length): ∀w,(amP 9 (.string (tx l)) (some (.int .i64 a)) none none).run prog w= .ok (.string (tx (l.drop a))) w:=wB l a h
theorem By(s:Tx)(rb k0:Nat)(hk0:k0<=s.length)(hl:s.length<=262144)(w:World)(c0:w.cell? ⟨rb,0,none⟩=some (.string (tx s)))(c1:w.cell? ⟨rb,1,none⟩=some (.int .i64 k0)):
 Calls prog 74 #[.pointer (some ⟨rb,0,none⟩)] w (fun e w'=>sU s.length (s.drop k0) e/\Below w.heap.size w w'):=by
 obtain⟨u,hu⟩: ∃u,aq (s.drop k0)=u:=⟨_,rfl⟩;have HU:=hid hu;have hrb:=gR c0;simp only at hrb;obtain⟨n,hn⟩: ∃n,(tx s).size=n:=⟨_,rfl⟩;have hns:n=s.length:=by rw[<-hn,aP]
 have HK:=hid hk0;have HN:=hid hns;have HL:=hid hl;have nT:n<=262144:=by omega
 have vF:k0<=n:=by omega
 clear hu hk0 hns hl;go_in;go_wp2_with fail;refine alB 0 (fun a' w'=>Below w.heap.size w w'/\ ∃k:Nat,k<=n/\k0<=k/\a'=Sj rb k (fun i=>a'.tmps.getD i undef)/\Hid (aq (s.drop k)=u)) (fun a' _=>n-(intOf (a'.tmps.getD 6 undef)).toNat) rfl ?_ ?_
 ·intro pz
  have XG:=hid pz;clear pz
  go_wp2
  go_step3
  rename_i hK;refine hK _ _ (XG.out _ _ ?_);exact⟨Below.refl _ _,k0,vF,amS _,rfl,HU⟩
 ·rintro a' w' ⟨E,k,hk,ama,ha,hat⟩
  generalize (fun k=>a'.tmps.getD k undef)=v at ha;subst ha;unfold Sj;have d0:=(E.cell hrb).trans c0;have hks:k<=s.length:=by have:=HN.out;omega
  have HE:=hid E
  by_cases hkn:k<n
  ·obtain⟨m,hm⟩: ∃m,((s.drop k).takeWhile (· != 10)).length=m:=⟨_,rfl⟩
   have zk:decide ((n:Int)<=(k:Int))=false:=by simp;omega
   have sl:=Fi s k hks;have IB:=hid (fun w=>Jq (s.drop k) 10 w);obtain⟨i1,i2⟩:=Jp 10 (s.drop k);obtain⟨x1,x2⟩:=aek (s.drop k);obtain⟨y1,y2⟩:=aeY hks hm
   have hml:k+m<=s.length:=by
    have:=oq (· != 10) (s.drop k);rw[hm,aoJ]at this;omega
   have hno:(10:UInt8)∉s.drop k->k+m=s.length:=fun h=>by
    rw[<-hm,akY h,aoJ];omega
   have Pe:(s.take (k+m)).drop k=(s.drop k).takeWhile (· != 10):=by
    rw[List.drop_take,show k+m-k=m by omega,<-hm];exact(aoN.1 (List.takeWhile_prefix _)).symm
   have ug:=wC s k (k+m) (by omega) hml;rw[Pe]at ug;obtain⟨b,dM,dH,gi⟩:=akZ ((s.drop k).takeWhile (· != 10))
   have h10:(10:UInt8)∉b:=fun h=>by
    have h2:(10:UInt8)∈(s.drop k).takeWhile (· != 10):=by rw[dH];simp[h]
    have:=List.all_eq_true.1 (List.all_takeWhile (p:=(· != 10)) (l:=s.drop k)) 10 h2;simp at this
   have htl:((s.drop k).takeWhile (· != 10)).length<=9223372036854775807:=by rw[hm];have:=HN.out;omega
   have TR:=hid (fun w=>og ((s.drop k).takeWhile (· != 10)) htl w);have LD:=hid (fun w=>yM ((s.drop k).takeWhile (· != 10)) htl w)
   have hte:ah ((s.drop k).takeWhile (· != 10))=[]<->aq ((s.drop k).takeWhile (· != 10))=[]:=by
    constructor
    ·intro h
     exact ajG ((BP _).1 h)
    ·intro h;exact(BP _).2 (rM h)
   have mz:(s.drop k).length=s.length-k:=aoJ;generalize (s.drop k).takeWhile (· != 10)=tw at*;obtain⟨q,hq⟩: ∃q,min (k+m+1) s.length=q:=⟨_,rfl⟩;rw[hq]at y1 y2;have yg:q<=n:=by have:=HN.out;omega
   have hqk:k<q:=by have:=HN.out;omega
   obtain⟨f,hf⟩: ∃f,aq tw=f:=⟨_,rfl⟩;have MT:=hid (show f=[]->aq (s.drop q)=u from fun h=>by rw[y1,x1 (by rw[hf];exact h)];exact hat.out)
   have sQ:=hid (show f≠[]->sU n (s.drop k0) (.returned (.tuple #[.string (tx tw),.int .i64 ((k:Int)+((m-f.length:Nat):Int)),.int .i64 q,.bool true]))from fun h=>by
    obtain⟨z1,z2,z3,z4⟩:=x2 (by rw[hf];exact h);have hns:=HN.out
    right
    refine⟨b,?_,dM,h10,?_,?_⟩
    ·rw[HU.out,<-hat.out];exact z1
    ·rw[HU.out,<-hat.out];unfold bO;rw[hf]at z4 gi
     refine⟨by omega,?_⟩;have hd1:=aoJ (i:=k) (l:=s);have mq:=aoJ (i:=k0) (l:=s);omega
    ·rw[HU.out,<-hat.out,z2,hf,z3,<-abV dH hf]
     have e1:bO n (aq (s.drop k))=k+(m-f.length):=by unfold bO;rw[hf,hm]at z4;omega
     have e2:n-(aZ (s.drop k)).length=q:=by omega
     rw[e1,e2,Int.natCast_add])
   clear x1 x2 Pe dM dH gi h10 mz y1 y2 htl;have hmn:m<=262144:=by have:=HN.out;omega
   have Jb:(q:Int)=if(n:Int)<(k:Int)+(m:Int)+1 then(n:Int)else(k:Int)+(m:Int)+1:=by have:=HN.out;omega
   have HT:=hid hte
   by_cases hin:(10:UInt8)∈s.drop k
   ·have e8:=i2 hin
    rw[hm]at e8;have IB:=hid (fun w=>e8▸IB.out w);have z8:decide ((0:Int)<=(m:Int))=true:=by simp
    have sl3: ∀w,(amP 9 (.string (tx s)) (some (.int .i64 k)) (some (.int .i64 ((k:Int)+(m:Int)))) none).run prog w= .ok (.string (tx tw)) w:=ug;have mn: ∀ts ty w,(Builtin.min_ ts ty #[.int .i64 ((k:Int)+(m:Int)+1),.int .i64 n]).run prog w= .ok (.int .i64 q) w:=fun ts ty=>VD ts ty .i64 _ _ _ Jb
    clear i1 i2 ug hno hin e8 Jb hte
    by_cases mY:f=[]
    ·have HY:=hid (MT.out mY)
     have ht0:=HT.out.2 (by rw[hf];exact mY);rw[ht0]at TR;have TR:=hid (fun w=>(show ax w (.string (tx []))=ax w (.string ⟨#[]⟩)from rfl)▸TR.out w);have HF:=hid hf;clear hf mY ht0 HT
     go_wp2_with (first|(go_at_call 78;refine(IB.out _).mono ?_;rintro e w' ⟨rfl,rfl⟩)|fail)
     refine(TR.out _).mono ?_;rintro e w2 ⟨rfl,E2⟩;have jq:=hid (E.trans (E2.mono E.size));have d0:=(E2.cell (p:=⟨rb,0,none⟩) (by have:=E.size;simp;omega)).trans d0;clear E2;go_wp2_with fail
     go_step3
     refine⟨rfl,⟨jq.out,q,yg,by omega,rfl,HY⟩,?_⟩;simp[intOf];omega
    ·have sQ:=hid (sQ.out mY)
     obtain⟨t,ht⟩: ∃t,ah tw=t:=⟨_,rfl⟩;have ht0:t≠[]:=fun h=>mY (by rw[<-hf];exact HT.out.1 (by rw[ht];exact h))
     rw[ht]at TR;rw[hf,hm]at LD
     have zt:(tx t).toList.isEmpty=false:=by rw[aW];cases t with
      |nil=>exact absurd rfl ht0
      |cons a b=>rfl
     have hfm:(m-f.length:Nat)<=262144:=by omega
     clear hf mY HT ht ht0
     go_wp2_with (first|(go_at_call 78;refine(IB.out _).mono ?_;rintro e w' ⟨rfl,rfl⟩)|fail)
     refine(TR.out _).mono ?_;rintro e w2 ⟨rfl,E2⟩;have jq:=hid (E.trans (E2.mono E.size));have d0:=(E2.cell (p:=⟨rb,0,none⟩) (by have:=E.size;simp;omega)).trans d0;clear E2;have cA:=fun(d:Nat) (os:Array Obj)=>an1 (LD.out (grow (redrawn w2 d) os))
     go_wp2_with fail;have d0:=cell_regrown d0;refine wp_region_quiet_below (by kernel_rfl) (by kernel_rfl) ?_
     repeat(go_big_quiet_step (exact cA _ _))
     refine wpQuiet_nil ?_;intro _ hw';obtain⟨⟨dq,aV⟩,hw''⟩:=hw';subst hw'';have jI:=below_regrown w2 dq aV;have EZ:=hid (jq.out.trans (jI.mono jq.out.size));generalize grow (redrawn w2 dq) aV=wq at*;clear d0 jI cA;go_wp2_with fail;simp only[aoL];exact bodyPost_ret (by simp[results,results74,go_sem];rfl) rfl ⟨by rw[<-HN.out];exact sQ.out,EZ.out⟩
   ·have e8:=i1 hin
    have ekm:=hno hin;have IB:=hid (fun w=>e8▸IB.out w);have sl3: ∀w,(amP 9 (.string (tx s)) (some (.int .i64 k)) (some (.int .i64 n)) none).run prog w= .ok (.string (tx tw)) w:=by have:=HN.out;rw[show((k+m:Nat):Int)=(n:Int) by omega]at ug;exact ug
    have mn: ∀ts ty w,(Builtin.min_ ts ty #[.int .i64 ((n:Int)+1),.int .i64 n]).run prog w= .ok (.int .i64 q) w:=fun ts ty=>VD ts ty .i64 _ _ _ (by have:=HN.out;omega)
    clear i1 i2 ug hno hin e8 Jb hte ekm
    by_cases mY:f=[]
    ·have HY:=hid (MT.out mY)
     have ht0:=HT.out.2 (by rw[hf];exact mY);rw[ht0]at TR;have TR:=hid (fun w=>(show ax w (.string (tx []))=ax w (.string ⟨#[]⟩)from rfl)▸TR.out w);have HF:=hid hf;clear hf mY ht0 HT
     go_wp2_with (first|(go_at_call 78;refine(IB.out _).mono ?_;rintro e w' ⟨rfl,rfl⟩)|fail)
     refine(TR.out _).mono ?_;rintro e w2 ⟨rfl,E2⟩;have jq:=hid (E.trans (E2.mono E.size));have d0:=(E2.cell (p:=⟨rb,0,none⟩) (by have:=E.size;simp;omega)).trans d0;clear E2;go_wp2_with fail
     go_step3
     refine⟨rfl,⟨jq.out,q,yg,by omega,rfl,HY⟩,?_⟩;simp[intOf];omega
    ·have sQ:=hid (sQ.out mY)
     obtain⟨t,ht⟩: ∃t,ah tw=t:=⟨_,rfl⟩;have ht0:t≠[]:=fun h=>mY (by rw[<-hf];exact HT.out.1 (by rw[ht];exact h))
     rw[ht]at TR;rw[hf,hm]at LD
     have zt:(tx t).toList.isEmpty=false:=by rw[aW];cases t with
      |nil=>exact absurd rfl ht0
      |cons a b=>rfl
     have hfm:(m-f.length:Nat)<=262144:=by omega
     clear hf mY HT ht ht0
     go_wp2_with (first|(go_at_call 78;refine(IB.out _).mono ?_;rintro e w' ⟨rfl,rfl⟩)|fail)
     refine(TR.out _).mono ?_;rintro e w2 ⟨rfl,E2⟩;have jq:=hid (E.trans (E2.mono E.size));have d0:=(E2.cell (p:=⟨rb,0,none⟩) (by have:=E.size;simp;omega)).trans d0;clear E2;have cA:=fun(d:Nat) (os:Array Obj)=>an1 (LD.out (grow (redrawn w2 d) os))
     go_wp2_with fail;have d0:=cell_regrown d0;refine wp_region_quiet_below (by kernel_rfl) (by kernel_rfl) ?_
     repeat(go_big_quiet_step (exact cA _ _))
     refine wpQuiet_nil ?_;intro _ hw';obtain⟨⟨dq,aV⟩,hw''⟩:=hw';subst hw'';have jI:=below_regrown w2 dq aV;have EZ:=hid (jq.out.trans (jI.mono jq.out.size));generalize grow (redrawn w2 dq) aV=wq at*;clear d0 jI cA;go_wp2_with fail;simp only[aoL];exact bodyPost_ret (by simp[results,results74,go_sem];rfl) rfl ⟨by rw[<-HN.out];exact sQ.out,EZ.out⟩
  ·obtain rfl:k=n:=by omega
   have zk:decide ((k:Int)<=(k:Int))=true:=by simp
   have sQ:=hid (show sU k (s.drop k0) (.returned (.tuple #[.string (tx []),.int .i64 k,.int .i64 k,.bool false]))from .inl ⟨by rw[HU.out,<-hat.out,HN.out,List.drop_length];rfl,rfl⟩);have ei:=hid HN.out.symm;clear hat hks hkn;go_wp2_with fail
   go_big_region
   all_goals go_wp2_with fail
   all_goals simp only[aoL]
   all_goals exact bodyPost_ret (by simp[results,results74,go_sem];rfl) rfl ⟨by rw[ei.out];exact sQ.out,dc HE.out⟩
end Go.Proofs.YtkbbgjloifmmbaaGreatDoor

/- What ReadAgainP leans on, part 15. -/
import Derived.Test.YtkbbgjloifmmbaaGreatDoorPf11
import Derived.Shelf.Strings.Search2
import Derived.Test.YtkbbgjloifmmbaaGreatDoorPf12
import Derived.Test.YtkbbgjloifmmbaaGreatDoorPf13
set_option linter.unusedVariables false
set_option maxRecDepth 100000
set_option maxHeartbeats 6400000
open _root_.Go.Proofs.Tryz
open _root_.Go.Lib renaming itoa->aA9,cut->aBE,trimRightS->aBH,trimLeftS->aBI,index->aBJ,count->aBK
open _root_.Go renaming World->aAX,Calls->aA7
open _root_.List renaming replicate->aBg,length->aBd
open _root_.Go.RowKit renaming Below->aAW
open _root_.Go.Value renaming string->aBF
open _root_.Go.Op renaming stringOp->aBG
open _root_.Go.Instr renaming indexAt->aA2
namespace Go.Proofs.YtkbbgjloifmmbaaGreatDoor
open Go.RowKit
variable{ag k v:Int}{p:Int × Nd}{one:List Tok->PR Nd}{x:Nd}{t:Th}{A r s u:Tx}{c:UInt8}
theorem index_one(c:UInt8): ∀l:Tx,(c∉l->aBJ l [c]= -1)/\(c∈l->aBJ l [c]=(l.takeWhile (· != c)).length)
 |[]=>⟨fun _=>by simp[aBJ],fun h=>by cases h⟩
 | b::r=>by
   obtain⟨h1,h2⟩:=index_one c r
   by_cases hb:b=c
   ·subst hb
    refine⟨fun h=>absurd aq h,fun _=>?_⟩;simp[aBJ,List.isPrefixOf]
   rw[afH r hb]
   refine⟨fun h=>?_,fun h=>?_⟩
   ·rw[h1 (fun hm=>h (by simp[hm]))];rfl
   have hm:c∈r:=by
    rcases cq.1 h with e|e
    ·exact absurd e.symm hb
    exact e
   have e:=h2 hm;have t:(b::r).takeWhile (· != c)=b::r.takeWhile (· != c):=by rw[mU,ak (aS hb)]
   rw[t,e,ai (by simp only[pW];omega),cy];omega
theorem UH(c:UInt8): ∀l:Tx,l.drop (l.takeWhile (· != c)).length=l.dropWhile (· != c)
 |[]=>rfl
 | b::r=>by
   rw[mU,k7];split
   ·rw[cy,List.drop_succ_cons];exact UH c r
   rfl
theorem YQ(c:UInt8): ∀l:Tx,l.take (l.takeWhile (· != c)).length=l.takeWhile (· != c)
 |[]=>rfl
 | b::r=>by
   rw[mU];split
   ·rw[cy,uA,YQ c r]
   rfl
theorem NK(c:UInt8)(l:Tx):aBE l [c]=if c∈l then(l.takeWhile (· != c),(l.dropWhile (· != c)).drop 1,true)else(l,[],false):=by
 obtain⟨h1,h2⟩:=index_one c l;unfold aBE
 by_cases h:c∈l
 ·rw[ak h,h2 h,ak ah]
  simp only[uC,YQ,cy,je];rw[<-gC,UH]
 rw[ai h,h1 h,ai ah]
theorem apD(l:Tx)(c:UInt8)(w:aAX):aA7 prog 196 #[.string (tx l),.string (tx [c])] w fun e w'=>e= .returned (.int .i64 (Lib.indexByte l c))/\w=w':=
 (Any.stringslite_Index_one { Tryz.aqz with } (tx l) c w).mono fun e w' hh=>⟨by rw[hh.1,kW],hh.2.symm⟩
abbrev Sg(l:Tx)(c:UInt8)(w:aAX):Ending->aAX->Prop:=bg w (.tuple #[.string (tx (aBE l [c]).1),.string (tx (aBE l [c]).2.1),.bool (aBE l [c]).2.2])
theorem ano(l:Tx)(c:UInt8)(hl:l.length<=9223372036854775807)(w:aAX):aA7 prog 111 #[.string (tx l),.string (tx [c])] w (Sg l c w):=by
 have IX:=af (fun w=>apD l c w);have hc:=NK c l;have h1:=bC [c];unfold Sg;rw[hc]
 by_cases h:c∈l
 ·obtain⟨e,aA⟩:=WC c l h
  rw[e]at IX;rw[ak h];obtain⟨k,hk⟩:=aF ((l.takeWhile (· != c)).length);rw[hk]at IX aA;have s1:=xA l k ah;have s2:=xz l (k+1) ah;rw[show((k+1:Nat):Int)=(k:Int)+1 by omega]at s2;have hw:IntKind.i64.wrap ((k:Int)+1)=(k:Int)+1:=wrap_small _ ah ah;have HA:=af (show l.take k=l.takeWhile (· != c) by rw[<-hk];exact YQ c l);have HB:=af (show l.drop (k+1)=(l.dropWhile (· != c)).drop 1 by rw[<-gC,<-hk,UH]);have h1:(tx [c]).size=1:=h1;have hz:decide ((0:Int)<=(k:Int))=true:=aq;clear hc h e hk hl;go_in
  go_wp2_with (go_at_call 196;refine aK (IX.oo _) ?_)
  go_big_region
  go_wp2_with fail
  go_ret3
  exact⟨by rw[HA.oo,HB.oo];rfl,gD⟩
 rw[Pj c l h]at IX
 rw[ai h];clear hc h hl;go_in
 go_wp2_with (go_at_call 196;refine aK (IX.oo _) ?_)
 go_ret3
 exact⟨rfl,gD⟩
theorem Uz(l:Tx)(c:UInt8)(hl:l.length<=9223372036854775807)(w:aAX):aA7 prog 48 #[.string (tx l),.string (tx [c])] w (bg w (.tuple #[.string (tx (aBE l [c]).1),.string (tx (aBE l [c]).2.1),.bool (aBE l [c]).2.2])):=by
 have C:=af (fun w=>ano l c hl w);unfold Sg at C;generalize tx (aBE l [c]).1=a at*;generalize tx (aBE l [c]).2.1=b at*;generalize (aBE l [c]).2.2=k at*;go_in;go_wp2_with fail;refine aQ (C.oo _) fun w' E=>?_
 go_wp2_with fail
 go_ret3
 exact⟨rfl,E⟩
theorem dr.aj{w w':aAX}{e:Ending}{r:Option aL}{i:aL}(hr:r=some i)(h:e= .returned (.tuple #[vI i,.int .i64 0]))(hb:aAW w.heap.size w w'):dr r w e w':=by
 exact Oj
theorem ae7{t:Tx}:Lib.hasPrefix t [77,79,86]=decide (t.take 3=[77,79,86]):=by
 unfold Lib.hasPrefix;rw[jE,dw,List.isPrefixOf_iff_prefix,SE];exact wo
theorem asD(hl:s.length<=262144)(h:aG s=[77,70,69,78,67,69]):fG s=some PJ:=by unfold fG;rw[ai ah,ak h]
theorem asF{t:Tx}(ht:aG s=t)(hl:s.length<=262144)(h:t≠[77,70,69,78,67,69])(h2: ¬(t.take 3=[77,79,86]/\(t.drop 3).head?.any aH=true)):fG s=none:=by subst ht;unfold fG;rw[ai ah,ai h,ak h2]
theorem asE{t:Tx}(ht:aG s=t)(hu:t.drop 3=u)(h:(44:UInt8)∉u)(hl:s.length<=262144)(h1:t≠[77,70,69,78,67,69]):fG s=none:=by
 subst ht;subst hu;unfold fG;rw[ai ah,ai h1];split
 ·rfl
 first|rfl|rw[ai h]
theorem asC{t:Tx}(ht:aG s=t)(hu:t.drop 3=u)(h:(44:UInt8)∈u)(hl:s.length<=262144)(h1:t≠[77,70,69,78,67,69])(h2:t.take 3=[77,79,86])(h3:u.head?.any aH=true):fG s=lU (aG (u.takeWhile (· != 44))) (aG ((u.dropWhile (· != 44)).drop 1)):=by
 subst ht;subst hu;unfold fG;rw[ai ah,ai h1,ai (fun hh=>hh ⟨h2,h3⟩),ak h]
theorem ap5(s:Tx)(hl:262144<s.length)(w:aAX):aA7 prog 43 #[.string (tx s)] w (dr (fG s) w):=by
 have HP:=af (show fG s=none by unfold fG;rw[ak hl]);obtain⟨n,hn⟩:=aF ((tx s).size);have z:decide (262144<(n:Int))=true:=by rw[bC]at hn;simp;omega
 generalize fG s=r at*;clear hl;go_in;go_wp2;exact aZ (by simp[results,results43,go_sem]) rfl (dr.no HP.oo rfl cG)
theorem ap6(s:Tx)(hl:s.length<=262144)(h:aG s=[77,70,69,78,67,69])(w:aAX):aA7 prog 43 #[.string (tx s)] w (dr (fG s) w):=by
 have HP:=af (asD hl h);obtain⟨n,hn⟩:=aF ((tx s).size);have z:decide (262144<(n:Int))=false:=by rw[bC]at hn;simp;omega
 have TR:=af (fun w=>Bk s ah w);rw[h]at TR;generalize fG s=r at*;have z2:((tx [77,70,69,78,67,69]).toList==[77,70,69,78,67,69])=true:=by rw[bU];rfl
 clear hl h;go_in;go_wp2_with fail;refine aQ (TR.oo _) fun w1 E=>?_
 obtain⟨⟨d0,d1,d2,d3,d4,d5,d6,d7⟩,hf,aA,B⟩:=gE E;clear E;go_wp2;exact aZ (by simp[results,results43,go_sem,d0,d1,d2,d3,d4,d5,d6,d7,PJ,dP]) rfl (dr.aj HP.oo rfl cG)
theorem ap8(s t:Tx)(hl:s.length<=262144)(ht:aG s=t)(h1:t≠[77,70,69,78,67,69])(h2: ¬(t.take 3=[77,79,86]/\(t.drop 3).head?.any aH=true))(w:aAX):aA7 prog 43 #[.string (tx s)] w (dr (fG s) w):=by
 have HP:=af (asF ht hl h1 h2);obtain⟨n,hn⟩:=aF ((tx s).size);have z:decide (262144<(n:Int))=false:=by rw[bC]at hn;simp;omega
 have TR:=af (fun w=>Bk s ah w);rw[ht]at TR;have htl:=lZ s;rw[ht]at htl;generalize fG s=r at*;have z2:((tx t).toList==[77,70,69,78,67,69])=false:=eD _ _ h1;have PR:=af (fun w=>xy t [77,79,86] w);rw[ae7]at PR;obtain⟨m,hm⟩:=aF ((tx t).size);have hml:m=t.length:=by rw[<-hm,bC]
 by_cases h3:t.take 3=[77,79,86]
 ·rw[eU h3]at PR
  by_cases h4:t.length<4
  ·have z4:decide ((m:Int)<4)=true:=aC
   clear hl ht h1 h2 htl hml h3 h4;go_in;go_wp2_with fail;refine aQ (TR.oo _) fun w1 E=>?_
   go_wp2_with fail;refine aQ (PR.oo _) fun w2 E2=>?_
   exact aez
  have z4:decide ((m:Int)<4)=false:=aC
  obtain⟨b,hb⟩: ∃b,t[3]? =some b:=⟨_,aV ah⟩
  have iP:aH b=false:=by
   cases iP:aH b with
   |false=>rfl
   | true=>
     refine absurd ⟨h3,?_⟩ h2;rw[Ce,hb];exact iP
  have ix: ∀w,(Instr.index 9 (.string (tx t)) (.int .i64 3)).run prog w= .ok (.int .u8 b.toNat) w:=cH t 3 b hb;have CR:=af (fun w=>Uy b.toNat (bE b.toNat_lt) w);rw[Qz,iP]at CR;have hb8:=b.toNat_lt;clear hl ht h1 h2 htl hml h3 h4 hb iP;go_in;go_wp2_with fail;refine aQ (TR.oo _) fun w1 E=>?_
  go_wp2_with fail;refine aQ (PR.oo _) fun w2 E2=>?_
  have E:=aI E E2;go_wp2_with fail;refine aQ (CR.oo _) fun w3 E3=>?_
  have E:=aI E E3;obtain⟨⟨d0,d1,d2,d3,d4,d5,d6,d7⟩,hf,aA,B⟩:=gE E;clear E E2 E3;exact aeA
 rw[eZ h3]at PR
 clear hl ht h1 h2 htl hml h3;go_in;go_wp2_with fail;refine aQ (TR.oo _) fun w1 E=>?_
 go_wp2_with fail;refine aQ (PR.oo _) fun w2 E2=>?_
 exact aez
theorem ap7(s t u:Tx)(hl:s.length<=262144)(ht:aG s=t)(hu:t.drop 3=u)(h1:t≠[77,70,69,78,67,69])(h3:t.take 3=[77,79,86])(b:UInt8)(r0:Tx)(Gc:u=b::r0)(iP:aH b=true)(w:aAX)(g:Gl w):aA7 prog 43 #[.string (tx s)] w (dr (fG s) w):=by
 have g0:=g.below (al w cK);obtain⟨n,hn⟩:=aF ((tx s).size);have z:decide (262144<(n:Int))=false:=by rw[bC]at hn;simp;omega
 have TR:=af (fun w=>Bk s ah w);rw[ht]at TR;have htl:=lZ s;rw[ht]at htl
 have htu:t.length=u.length+3:=by
  have:=congrArg aBd hu;have h4:=congrArg aBd h3;rw[Gc]at this⊢;simp only[dG,lI,cy,je]at this h4⊢;omega
 have z2:((tx t).toList==[77,70,69,78,67,69])=false:=eD _ _ h1;have PR:=af (fun w=>xy t [77,79,86] w);rw[ae7,eU h3]at PR;obtain⟨m,hm⟩:=aF ((tx t).size);have hml:m=t.length:=by rw[<-hm,bC]
 have z4:decide ((m:Int)<4)=false:=by rw[hml,htu,Gc];simp;omega
 have hb:t[3]? =some b:=by rw[<-Ce,hu,Gc];rfl
 have ix: ∀w,(Instr.index 9 (.string (tx t)) (.int .i64 3)).run prog w= .ok (.int .u8 b.toNat) w:=cH t 3 b hb;have CR:=af (fun w=>Uy b.toNat (bE b.toNat_lt) w);rw[Qz,iP]at CR;have hb8:=b.toNat_lt
 have sf: ∀w,(Instr.sliceAt 9 (.string (tx t)) (some (.int .i64 3)) none none).run prog w= .ok (.string (tx u)) w:=fun w=>by
  have:=xz t 3 ah w;rw[hu]at this;exact this
 have CU:=af (fun w (g:Gl w)=>Uz u 44 ah w);have iH:u.length<=262144:=ah;rw[NK]at CU
 by_cases rZ:(44:UInt8)∈u
 ·rw[ak rZ]at CU
  have HP:=af (asC ht hu rZ hl h1 h3 (by rw[Gc];exact iP));obtain⟨x,hx⟩:=aF (u.takeWhile (· != 44));obtain⟨y,hy⟩:=aF ((u.dropWhile (· != 44)).drop 1);have hxl:x.length<=262144:=by rw[<-hx];have:=ud (· != 44) u;omega
  have Dh:y.length<=262144:=by rw[<-hy];have:=(iu (fun x=>x != 44) (l:=u)).length_le;simp;omega
  simp only at CU;rw[hx,hy]at CU HP;have TX:=af (fun w=>Bk x ah w);have TY:=af (fun w=>Bk y ah w);have MV:=af (fun w g=>ap2 (aG x) (aG y) (by have:=lZ x;omega) (by have:=lZ y;omega) w g);have HC:=af (fun i=>agS (a:=aG x) (b:=aG y) (i:=i));have BC:=af (show ∀i,lU (aG x) (aG y)=some i->fG s=some i from fun i h=>by rw[HP.oo,h]);have Ih:=af (show lU (aG x) (aG y)=none->fG s=none from fun h=>by rw[HP.oo,h]);generalize lU (aG x) (aG y)=mv at*;generalize fG s=r at*;generalize aG x=QU at*;generalize aG y=DS at*;clear hl ht h1 htl hml h3 hb iP hx hy hxl Dh rZ HP Gc hu htu iH g;go_in;go_wp2_with fail;refine aQ (TR.oo _) fun w1 E=>?_
  go_wp2_with fail;refine aQ (PR.oo _) fun w2 E2=>?_
  have E:=aI E E2;go_wp2_with fail;refine aQ (CR.oo _) fun w3 E3=>?_
  have E:=aI E E3;have g1:=g0.below E;go_wp2_with fail;refine aQ (CU.oo _ g1) fun w4 E4=>?_
  have E:=aI E E4;go_wp2_with fail;refine aQ (TX.oo _) fun w5 E5=>?_
  have E:=aI E E5;go_wp2_with fail;refine aQ (TY.oo _) fun w6 E6=>?_
  have E:=aI E E6;have g2:=g0.below E;go_wp2_with fail;refine(MV.oo _ g2).mono ?_;rintro e w7 ⟨op,d,a,ax,aj,ok,rfl,hk,eL,E7⟩;have E:=aI E E7;have HK:=af hk;have HL:=af eL;clear g1 g2 E2 E3 E4 E5 E6 E7 hk eL;cases ok with
  | false=>
    obtain⟨⟨d0,d1,d2,d3,d4,d5,d6,d7⟩,hf,aA,B⟩:=gE E;have HN:=af (Ih.oo HK.oo.no);clear E;go_wp2;exact aZ (by simp[results,results43,go_sem,d0,d1,d2,d3,d4,d5,d6,d7,aA]) rfl (dr.no HN.oo rfl cG)
  | true=>
    have HN:=af (BC.oo _ HK.oo.yes);have CK:=af (fun w=>Q4 ⟨op,d,a,0,ax,aj,[],0⟩ (by have:=HL.oo;simp;omega) w);rw[aeF (HC.oo _ HK.oo.yes)]at CK;go_wp2_with fail;refine aQ (CK.oo _) fun w8 E8=>?_
    have bl:=(aW.new w7 #[.int .i64 op,.int .i64 d,.int .i64 a,.int .i64 0,.int .i64 ax,.string (tx aj),.string ⟨#[]⟩,.int .i64 0] 50).below E8;obtain⟨q0,q1,q2,q3,q4,q5,q6,q7⟩:=bl.jj;have h7:=E.size;have E:=aI (gU E _) E8;obtain⟨⟨d0,d1,d2,d3,d4,d5,d6,d7⟩,hf,aA,B⟩:=gE E;have aN:w.heap.size≠w7.heap.size:=by simp at h7;omega
    have CZ:=aN.symm;clear E E8 bl h7;go_wp2;exact aZ (by simp[results,results43,go_sem,d0,d1,d2,d3,d4,d5,d6,d7,dP]) rfl (dr.aj HN.oo rfl cG)
 rw[ai rZ]at CU
 have HP:=af (asE ht hu rZ hl h1);generalize fG s=r at*;clear hl ht h1 htl hml h3 hb iP rZ Gc hu htu iH g;go_in;go_wp2_with fail;refine aQ (TR.oo _) fun w1 E=>?_
 go_wp2_with fail;refine aQ (PR.oo _) fun w2 E2=>?_
 have E:=aI E E2;go_wp2_with fail;refine aQ (CR.oo _) fun w3 E3=>?_
 have E:=aI E E3;have g1:=g0.below E;go_wp2_with fail;refine aQ (CU.oo _ g1) fun w4 E4=>?_
 have E:=aI E E4;obtain⟨⟨d0,d1,d2,d3,d4,d5,d6,d7⟩,hf,aA,B⟩:=gE E;clear E E2 E3 E4 g1;exact aeA
theorem ap4(s:Tx)(w:aAX)(g:Gl w):aA7 prog 43 #[.string (tx s)] w (dr (fG s) w):=by
 by_cases hl:s.length<=262144
 ·by_cases h1:aG s=[77,70,69,78,67,69]
  ·exact ap6 s hl h1 w
  by_cases h2:(aG s).take 3=[77,79,86]/\((aG s).drop 3).head?.any aH=true
  ·obtain⟨h3,h4⟩:=h2
   cases hu:(aG s).drop 3 with
   |nil=>rw[hu]at h4;cases h4
   |cons b r0=>rw[hu]at h4;exact ap7 s _ _ hl rfl hu h1 h3 b r0 rfl h4 w g
  exact ap8 s _ hl rfl h1 h2 w
 exact ap5 s ah w
theorem aaX(c:UInt8):([32,9,10,13]:Tx).contains c=aH c:=by
 have k:=qB (p:=fun c=>([32,9,10,13]:Tx).contains c==aH c) dD c;simpa using k
theorem ayM(l:Tx)(w:aAX):aA7 prog 154 #[.string (tx l),.string ⟨#[32,9,10,13]⟩] w (bg w (.string (tx (aM l)))):=by
 refine(Any.strings_TrimLeft_laid Tryz.aqE bM (tx l) ⟨#[32,9,10,13]⟩ w ay (ascii_of_all ay)).mono fun e w' hh=>⟨?_,hh.2⟩
 rw[hh.1,kW]
 have:aBI l [32,9,10,13]=aM l:=by
  unfold aBI aM
  congr 1;funext c;exact aaX c
 show Ending.returned (.string ⟨(aBI l [32,9,10,13]).toArray⟩)=_;rw[this];rfl
theorem ajU(l:Tx)(hl:l.length<=9223372036854775807)(w:aAX):aA7 prog 155 #[.string (tx l),.string ⟨#[32,9,10,13]⟩] w (bg w (.string (tx (cR l)))):=by
 refine(Any.strings_TrimRight_laid Tryz.aqG bM (tx l) ⟨#[32,9,10,13]⟩ w (by rw[bC];exact hl) ay (ascii_of_all ay)).mono fun e w' hh=>⟨?_,hh.2⟩
 rw[hh.1,kW]
 have:aBH l [32,9,10,13]=cR l:=by
  unfold aBH cR
  congr 2;funext c;exact aaX c
 show Ending.returned (.string ⟨(aBH l [32,9,10,13]).toArray⟩)=_;rw[this];rfl
theorem anm(l:Tx)(c:UInt8)(w:aAX):aA7 prog 77 #[.string (tx l),.string ⟨#[c]⟩] w fun e w'=>e= .returned (.int .i64 (l.count c:Nat))/\w=w':=by
 refine(Any.strings_Count_one Tryz.aqx (tx l) c w).mono fun e w' hh=>⟨?_,hh.2.symm⟩
 rw[hh.1,kW];rfl
theorem ajC(l:Tx)(c:UInt8)(hl:l.length<=1000000)(w:aAX)(g:Gl w):aA7 prog 79 #[.string (tx l),.string ⟨#[c]⟩] w fun e w'=> ∃a,e= .returned (.slice a (bh c l).length (bh c l).length)/\au w' w.heap.size 9 1 a (bh c l).length (bh c l).length ((bh c l).map fun x=>aBF (tx x))/\cO w' a (bh c l)/\aAW w.heap.size w w':=by
 obtain⟨m,hm⟩:=g.maxLen;refine(Any.strings_Split { Tryz.KI with } Tryz.KI.i9 (tx l) ⟨#[c]⟩ m w (by rw[bC];omega) hm (by show 1<=1;omega)).mono fun e w' hh=>?_
 obtain⟨he,rfl⟩:=hh;have hc:Lib.countB (tx l) ⟨#[c]⟩=aBK l [c]:=by unfold Lib.countB;rw[kW]
 have hd:=Lib.splitB_data ⟨#[c]⟩ 0 (aBK l [c]) (tx l);rw[kW,show(⟨#[c]⟩:ByteArray).data.toList=[c]from rfl,YL]at hd
 have hlen:aBK l [c]+1=(bh c l).length:=by
  rw[<-hd,eT,Lib.splitB_all ⟨#[c]⟩ (by show 1<=1;omega) 0 _ _ hc]
 have hmap:(Lib.splitB ⟨#[c]⟩ 0 (aBK l [c]) (tx l)).map aBF=(bh c l).map fun x=>aBF (tx x):=by
  rw[<-hd,Cj];refine IZ fun x _=>?_
  simp[tx]
 rw[hc,hlen]at he;rw[hc,hmap];have hsm:=vE c l;refine⟨some ⟨w.heap.size,0,none⟩,he,?_,⟨⟨fun _=>rfl,fun i hi=>?_⟩,ah⟩,(bS _ _).alloc (aX _) _⟩
 ·exact Ab w (e:=9) ((bh c l).map fun x=>aBF (tx x)).toArray (bh c l).length (aX w.heap.size) (size:=1) dx aq
 have hh:=lJ w (.cells ((bh c l).map fun x=>aBF (tx x)).toArray (Tryz.PI.t 9))
 simp only[World.cell?,jW,kM];rw[hh];simp
theorem tZ(l:Tx)(hl:l.length<=9223372036854775807)(w:aAX):aA7 prog 50 #[.string (tx l)] w (bg w (.string (tx (aG l)))):=by
 have TR:=af (Bk l hl w);go_in;go_wp2_with fail;refine aQ TR.oo fun w1 E=>?_
 exact JR
theorem Lc(l:Tx)(hl:l.length<=9223372036854775807)(w:aAX):aA7 prog 80 #[.string (tx l)] w (bg w (.int .i64 ((l.length-(aM l).length:Nat):Int))):=by
 have TR:=af (ayM l w);have h1:(tx l).size=l.length:=bC l;have h2:(tx (aM l)).size=(aM l).length:=bC _;have h3:(aM l).length<=l.length:=(iu _).length_le;go_in;go_wp2_with fail;refine aQ TR.oo fun w1 E=>?_
 go_wp2;go_ret;exact⟨nA ah,E⟩
theorem aiA(ag:Int)(w:aAX):aA7 prog 42 #[.int .i64 ag] w fun e w'=>e= .returned (.bool (bD ag))/\w=w':=by
 obtain⟨b1,h1⟩: ∃b,(ag==1)=b:=⟨_,rfl⟩;obtain⟨b2,h2⟩: ∃b,(ag==2)=b:=⟨_,rfl⟩;have HB:=af (show bD ag=(b1||b2) by rw[<-h1,<-h2];unfold bD;cases h:ag==1<;>cases h':ag==2<;>simp_all)
 go_in;cases b1<;>
 ·go_wp2
  go_ret;exact⟨eC (by rw[HB.oo];rfl),rfl⟩
theorem Yk:SF aU 52:=fun l hl=>Gy l hl _ ay
def Cut(A r:Tx):Prop:= ∀c,r.head?=some c->dO c=false/\bf c=false/\((c≠47/\c≠92)\/(A.getLast?≠some 47/\A.getLast?≠some 92))
theorem Cut.tail{x:UInt8}(h:Cut (x::A) r)(k:Nat):Cut ((x::A).drop k) r:=fun d hd=>by
 obtain⟨a,b,e⟩:=h d hd;refine⟨a,b,e.imp id fun e=>?_⟩;rw[List.getLast?_drop];split
 ·exact⟨ aq,aq⟩
 exact e
theorem Gq: ∀(n:Nat) (A r:Tx),A.length<=n->Cut A r->aY (A++r)=aY A++aY r
 |_,A,[],_,_=>by rw[jD,Dq,jD]
 |_,[],r,_,_=>by rw[eE,Dq,eE]
 |0,_::_,_,hn,_=>absurd hn aq
 | n+1,x::A,c::B,hn,h=>by
   obtain⟨h1,h2,h3⟩:=h c rfl;simp only[cy]at hn;cases hb:aH x with
   | true=>
     rw[cY,qm _ hb,qm _ hb,Gq n A (c::B) ah (by simpa using h.tail 1)]
   | false=>
     have hp:=ri x A;have hle:=yR x A
     have e:cW (x::(A++c::B))=cW (x::A):=by
      rw[lz,lz,DR h1,DR h2];cases A with
      | nil=>
        rcases h3 with⟨h3,h4⟩|⟨h3,h4⟩
        ·simp[h2,h3,h4]
        simp at h3 h4;simp[h2,h3,h4]
      |cons y A=>simp
     rw[cY,qn _ hb,qn _ hb,e,<-cY,SD aC,tg aC,Gq n _ (c::B) aC (h.tail _),cY]
def XS(c:UInt8):Bool:= !aH c&&(!cL c&&(!bf c&&(c != 45&&(c != 47&&c != 92))))
theorem yQ(r:Tx)(h:XS c=true):aY (c::r)=[c]::aY r:=by
 unfold XS at h;simp only[bV,BV,ye,ne_eq]at h;obtain⟨h1,h2,h3,h4,h5,h6⟩:=h;have e:cW (c::r)=1:=by rw[lz];simp[h2,h3,h4,h5,h6]
 rw[qn _ h1,e];rfl
theorem agr(r:Tx):aY (rA++r)=[47,92]::aY r:=by
 show aY (32::47::92::32::r)=_;have e:cW (47::92::32::r)=2:=by rw[lz];rfl
 exact aeB
theorem ags(r:Tx):aY (rB++r)=[92,47]::aY r:=by
 show aY (32::92::47::32::r)=_;have e:cW (92::47::32::r)=2:=by rw[lz];rfl
 exact aeB
theorem ayF(h:sM c=false):dO c=false/\bf c=false:=by
 have k:=qB (p:=fun c=>sM c||(!dO c&& !bf c)) dD c;rw[h]at k;simpa using k
theorem Cut.of(hA: ∀b∈A,sM b=true)(hr:F0 r):Cut A r:=fun c hc=>by
 obtain⟨a,b⟩:=ayF (hr c (by rw[hc];exact rfl));refine⟨a,b,.inr ⟨fun e=>?_,fun e=>?_⟩⟩
 ·have:=hA _ (ym e);exact absurd this ay
 have:=hA _ (ym e);exact absurd this ay
theorem agu(hA: ∀b∈A,sM b=true)(hr:F0 r):aY (A++r)=aY A++aY r:=Gq _ A r (aX _) (.of hA hr)
def zh(ag:Int)(t:Th):List Tx:=if t.aO= -1 then[t.aj]else[aA9 t.aO,[58],dy ag t.aR.toNat]
theorem aq1(h:dF ag t=true):aY (ue ag t)=zh ag t:=by
 unfold ue zh;unfold dF at h
 by_cases e:t.aO= -1
 ·rw[ak e,ak e]
  rw[ak e]at h;simp only[bV]at h;exact Gx h.2
 rw[ai e,ai e]
 rw[ai e]at h;simp only[bV,dw]at h;rw[dA,yl,tV _ _ _ (aX _) ay,Dk,Qp ah];rfl
theorem aqZ(h:dF ag t=true):aY (wF ag t v)=zh ag t++[[61],aA9 v]:=by
 unfold wF;rw[dA,yl,tV _ _ _ (aX _) ay,Dk,aq1 h]
def ei(l:List Tx):List Tok:=l.map fun s=>(s,0)
theorem Xx(s:Tx)(l:List Tx):ei (s::l)=(s,0)::ei l:=rfl
theorem Kc(l:List Tx):aJ (ei l)=l.head?.getD []:=by cases l<;>rfl
theorem QI(s:Tx)(l:List Tx):(ei (s::l)).tail=ei l:=rfl
theorem QJ(s:Tx)(l:List Tx):bQ s (ei (s::l))= .ok (ei l):=by rw[Xx,xE,ak rfl]
theorem af1{a b:Int}(l:List Tx)(hv:bJ v=true)(h:a<=v/\v<=b):lq a b (ei (aA9 v::l))= .ok (v,ei l):=by
 rw[Xx,sw];show(match bN (aA9 v)with|some n=>_|none=>_)=_;rw[nt.2 ⟨rfl,hv⟩];exact ak h
theorem arh(l:List Tx)(h:aU s=true):jN (ei (s::l))= .ok (s,ei l):=by
 rw[Xx,vm];exact ak h
theorem aiM{k:Nat}(h:(k:Int)<dU ag):dX ag (dy ag k)=some k:=by
 cases e:dX ag (dy ag k)with
 | none=>
   unfold dX at e;have:=I7.1 e k (Cg.2 ah);simp at this
 | some m=>
   obtain⟨a,b⟩:=GX e;rw[awt h a b]
theorem ag1(h:aU s=true):s≠[91]/\rj s=false/\s≠[126]/\s≠[40]:=by
 obtain⟨c,r,rfl,hc⟩:=Dt h;have k:=qB (p:=fun c=> !cL c||(c != 91&&(!bf c&&(c != 45&&(c != 126&&c != 40))))) dD c;rw[hc]at k;simp at k;refine⟨by simp[k.1],?_,by simp[k.2.2.2.1],by simp[k.2.2.2.2]⟩;show(bf c||c==45)=false;simp[k.2.1,k.2.2.1]
theorem WW(v:Int):aA9 v≠[91]/\rj (aA9 v)=true/\aA9 v≠[126]/\aA9 v≠[40]/\aA9 v≠DN:=by
 have h:=yO v;cases e:aA9 v with
 |nil=>exact absurd e (WV v)
 | cons c r=>
   rw[e]at h;have hc:=h c aq;have no: ∀d:UInt8,xh d=false->c≠d:=fun d hd e=>by rw[e,hd]at hc;cases hc
   refine⟨fun e=>no 91 ay (by simpa using(Ch e).1),?_,fun e=>no 126 ay (Ch e).1,fun e=>no 40 ay (Ch e).1,fun e=>no 116 ay (Ch e).1⟩;show(bf c||c==45)=true;unfold xh at hc;rw[Bool.or_comm];exact hc
theorem ayw(l:List Tx)(h:dF ag t=true):fQ ag (ei (zh ag t++l))= .ok (t,ei l):=by
 unfold zh;obtain⟨th,rg,lc⟩:=t;unfold dF at h
 by_cases e:th= -1
 ·simp only[e,ak]at h⊢
  simp only[bV,dw]at h;obtain⟨rfl,h⟩:=h;obtain⟨a,b, -⟩:=ag1 h;rw[yl];unfold fQ;rw[ai (by rw[Kc];exact a),ai (by rw[Kc];show ¬rj lc=true;rw[b];decide),arh l h]
 simp only[e,ai,not_false_eq_true]at h⊢
 simp only[bV,dw]at h;obtain⟨⟨⟨⟨h1,h2⟩,h3⟩,h4⟩,rfl⟩:=h;obtain⟨a,b, -⟩:=WW th;have hn:bJ th=true:=by unfold bJ;simp;omega
 obtain⟨k,rfl⟩: ∃k:Nat,rg=k:=⟨rg.toNat,ah⟩;simp only[uC,cY,eE];unfold fQ;rw[ai (by rw[Kc];exact a),ak (by rw[Kc];exact b),af1 _ hn ah]
 dsimp only
 rw[QJ]
 dsimp only
 rw[show aJ (ei (dy ag k::l))=dy ag k from rfl,aiM ah];rfl
theorem arU(h:bJ v=true): -2147483648<=v/\v<=2147483647:=by unfold bJ at h;simpa using h
theorem ald(l:List Tx)(h:dF ag t=true)(hv:bJ v=true):jU ag (ei (zh ag t++[61]::aA9 v::l))= .ok (.mk 2 t v none 0 [],ei l):=by
 unfold jU;rw[ayw _ h]
 dsimp only
 rw[QJ]
 dsimp only
 rw[af1 _ hv (arU hv)]
theorem ayG(l:List Tx)(h:dF ag t=true): ∃s m,zh ag t++[61]::l=s::m/\s≠[126]/\s≠[40]/\(s=DN->m.head?=some [61]):=by
 unfold zh;unfold dF at h
 by_cases e:t.aO= -1
 ·rw[ak e]at h⊢
  simp only[bV]at h;obtain⟨a,b,c,d⟩:=ag1 h.2;exact⟨t.aj,[61]::l,rfl,c,d,fun _=>rfl⟩
 rw[ai e]at h⊢
 obtain⟨a,b,c,d,f⟩:=WW t.aO;exact⟨_,_,rfl,c,d,fun e=>absurd e f⟩
def tP(r:Tx):Option Tx:=(aY r).head?
def G0(r:Tx):Prop:=F0 r/\tP r≠some [61]
def G2(r:Tx):Prop:=G0 r/\tP r≠some [47,92]
def G1(r:Tx):Prop:=G2 r/\tP r≠some [92,47]
theorem G1.sign(r:Tx)(h:XS c=true)(ht:sM c=false):G1 (c::r):=by
 have e:tP (c::r)=some [c]:=by unfold tP;rw[yQ r h];rfl
 refine⟨⟨⟨F0.cons ht,?_⟩,?_⟩,?_⟩<;>rw[e]<;>simp
 rintro rfl;revert ht;decide
def BM(ag:Int)(x:Nd):Prop:= ∀(n:Nat) (r:Tx),(aY (qy ag x++r)).length<n->G0 r->cz ag n (ei (aY (qy ag x++r)))= .ok (bO x,ei (aY r))
def DY(ag:Int)(x:Nd):Prop:= ∀(n:Nat) (r:Tx),(aY (Aj ag x++r)).length<n->G2 r->jc 4 [47,92] (cz ag n) (ei (aY (Aj ag x++r)))= .ok (bO x,ei (aY r))
def Hy(ag:Int)(x:Nd):Prop:= ∀(n:Nat) (r:Tx),(aY (fN ag x++r)).length<n->G1 r->jt (cz ag n) (ei (aY (fN ag x++r)))= .ok (bO x,ei (aY r))
theorem afh(r:Tx):aJ (ei (aY r))=(tP r).getD []:=Kc _
theorem ae0{o:Option Tx}(h:o≠some s)(hs:s≠[]):o.getD []≠s:=by
 cases o with
 |none=>exact fun e=>hs e.symm
 |some x=>exact fun e=>h (by rw[<-e];rfl)
theorem ago(H: ∀l,vQ ag l (one l)){a b:List Tx}(h:one (ei a)= .ok (x,ei b)):b.length<a.length:=by
 have:=(H _ _ _ h).2;simpa[ei]using this
theorem ai8{ag k:Int}{sign sep:Tx}{one:List Tok->PR Nd}{T:Nd->Tx}{R:List Nd->Tx}{G:Tx->Prop}{N:Nat}(H: ∀l,vQ ag l (one l))(hs:sign≠[])(hsep: ∀r,aY (sep++r)=sign::aY r)
 (FH:R []=[]) (J5: ∀x K,R (x::K)=sep++(T x++R K)) (hG: ∀x K r,G (R (x::K)++r)):
 ∀ (K aD:List Nd) (n:Nat) (r:Tx),(∀x∈K,∀r,(aY (T x++r)).length<N->G r->one (ei (aY (T x++r)))= .ok (bO x,ei (aY r)))->G r->tP r≠some sign->(aY (R K++r)).length<N->(aY (R K++r)).length<=n->
   ja k sign one n aD (ei (aY (R K++r)))= .ok (vq k (aD++fL K),ei (aY r))
 | [],aD,n,r,_,_,hr,_,_=>by
   rw[FH,eE,qa,jD];cases n with
   |zero=>rfl
   |succ n=>rw[ja,ai (by rw[afh];exact ae0 hr hs)]
 | x::K,aD,0,r,_,_,_,_,hn=>by
   rw[J5,dA,dA,hsep]at hn;simp at hn
 | x::K,aD,n+1,r,h1,hg,hr,hN,hn=>by
   rw[J5,dA,dA,hsep]at hN hn⊢;simp only[cy]at hN hn
   have e:=h1 x aq (R K++r) ah (by
    cases K with
    |nil=>rw[FH];exact hg
    |cons y K=>exact hG y K r)
   have hl:=ago H e;rw[ja,ak (show aJ (ei (sign::aY (T x++(R K++r))))=sign from rfl),QI,e];show ja k sign one n (aD++[bO x]) (ei (aY (R K++r)))=_;rw[ai8 H hs hsep FH J5 hG K _ n r (fun y hy=>h1 y (by simp[hy])) hg hr ah ah,dA,wG];rfl
def zP(d:Nat->Nat)(L:List Tok):List Tok:=L.map fun t=>(t.1,d t.2)
def nr{α:Type}(d:Nat->Nat):PR α->PR α
 | .ok (x,r)=>.ok (x,zP d r)
 | .error e=>.error (zP d e)
theorem L1(d:Nat->Nat)(t:Tok)(l:List Tok):zP d (t::l)=(t.1,d t.2)::zP d l:=rfl
theorem L4(d:Nat->Nat)(l:List Tok):(zP d l).tail=zP d l.tail:=by cases l<;>rfl
theorem L2(d:Nat->Nat)(l:List Tok):aJ (zP d l)=aJ l:=by cases l<;>rfl
theorem akw(d:Nat->Nat)(l:List Tok):(zP d l).length=l.length:=by simp[zP]
theorem Bi(d:Nat->Nat)(s:Tx)(l:List Tok):bQ s (zP d l)=match bQ s l with
 | .ok r=>.ok (zP d r)
 | .error e=>.error (zP d e):=by
 cases l with
 |nil=>rfl
 |cons t l=>rw[L1];rw[xE,xE];split<;>rfl
theorem af4(d:Nat->Nat)(a b:Int)(l:List Tok):lq a b (zP d l)=nr d (lq a b l):=by
 cases l with
 |nil=>rfl
 | cons t l=>
   rw[L1,sw,sw];simp only;cases bN t.1 with
   |none=>rfl
   |some n=>simp only;split<;>rfl
theorem agH(d:Nat->Nat)(l:List Tok):jN (zP d l)=nr d (jN l):=by
 cases l with
 |nil=>rfl
 |cons t l=>rw[L1];rw[vm,vm];split<;>rfl
theorem ayz(ag:Int)(d:Nat->Nat)(l:List Tok):fQ ag (zP d l)=nr d (fQ ag l):=by
 unfold fQ;rw[L2,L4];split
 ·rw[agH]
  cases jN l.tail with
  |error e=>rfl
  | ok p=>
    obtain⟨x,r⟩:=p;simp only[nr];rw[Bi];cases bQ [93] r<;>rfl
 split
 ·rw[af4]
  cases lq 0 15 l with
  |error e=>rfl
  | ok p=>
    obtain⟨x,r⟩:=p;simp only[nr];rw[Bi];cases bQ [58] r with
    |error e=>rfl
    | ok r=>
      simp only;rw[L2];cases dX ag (aJ r)with
      |none=>rfl
      |some k=>simp only[L4]
 rw[agH]
 cases jN l with
 |error e=>rfl
 |ok p=>rfl
theorem alg(ag:Int)(d:Nat->Nat)(l:List Tok):jU ag (zP d l)=nr d (jU ag l):=by
 unfold jU;rw[ayz];cases fQ ag l with
 |error e=>rfl
 | ok p=>
   obtain⟨x,r⟩:=p;simp only[nr];rw[Bi];cases bQ [61] r with
   |error e=>rfl
   | ok r=>
     simp only;rw[af4];cases lq (-2147483648) 2147483647 r<;>rfl
theorem ai4{k:Int}{sign:Tx}{one:List Tok->PR Nd}(d:Nat->Nat)(H: ∀l,one (zP d l)=nr d (one l)): ∀(n:Nat) (aD:List Nd) (l:List Tok),ja k sign one n aD (zP d l)=nr d (ja k sign one n aD l)
 |0,_,_=>rfl
 | n+1,aD,l=>by
   unfold ja;rw[L2,L4];split
   ·rw[H]
    cases one l.tail with
    |error e=>rfl
    |ok p=>exact ai4 d H n _ _
   rfl
theorem ai6{sign:Tx}(d:Nat->Nat)(H: ∀l,one (zP d l)=nr d (one l))(l:List Tok):jc k sign one (zP d l)=nr d (jc k sign one l):=by
 unfold jc;rw[H];cases one l with
 |error e=>rfl
 | ok p=>
   obtain⟨x,r⟩:=p;simp only[nr];rw[akw];exact ai4 d H _ _ _
theorem ahv(d:Nat->Nat)(H: ∀l,one (zP d l)=nr d (one l))(l:List Tok):jt one (zP d l)=nr d (jt one l):=ai6 d (ai6 d H) l
theorem XI(ag:Int)(d:Nat->Nat): ∀(n:Nat) (l:List Tok),cz ag n (zP d l)=nr d (cz ag n l)
 |0,_=>rfl
 | n+1,l=>by
   unfold cz;simp only[L2,L4];split
   ·rw[XI ag d n]
    cases cz ag n l.tail<;>rfl
   split
   ·rw[ahv d (XI ag d n)]
    cases jt (cz ag n) l.tail with
    |error e=>rfl
    | ok p=>
      obtain⟨x,r⟩:=p;simp only[nr];rw[Bi];cases bQ [41] r<;>rfl
   split
   ·rfl
   exact alg ag d l
theorem amu(d:Nat->Nat)(l:List Tok):jk (zP d l)=nr d (jk l):=by
 unfold jk;rw[L2,L4,Bi,Bi];split
 ·rfl
 split
 ·cases bQ [101,120,105,115,116,115] l.tail<;>rfl
 cases bQ [101,120,105,115,116,115] l<;>rfl
theorem abQ(ag:Int)(d:Nat->Nat)(l:List Tok):iB ag (zP d l)=match iB ag l with
 | .ok p=>.ok p
 | .error e=>.error (zP d e):=by
 unfold iB;rw[amu];cases jk l with
 |error e=>rfl
 | ok p=>
   obtain⟨q,l⟩:=p;simp only[nr];rw[Bi];cases bQ [40] l with
   |error e=>rfl
   | ok l=>
     simp only;rw[akw,ahv d (XI ag d _)];cases jt (cz ag (l.length+1)) l with
     |error e=>rfl
     | ok p=>
       obtain⟨x,l⟩:=p;simp only[nr];rw[Bi];cases bQ [41] l with
       |error e=>rfl
       | ok l=>
         cases l with
         |nil=>rfl
         |cons t l=>rfl
theorem azT(p:Nat)(s:Tx):zP (fun _=>0) (lex p s)=ei (aY s):=by
 rw[<-Pv p s];unfold zP ei;rw[Cj];rfl
theorem abP(ag:Int)(s:Tx):iB ag (ei (aY s))=match iB ag (lex 0 s)with
 | .ok p=>.ok p
 | .error e=>.error (zP (fun _=>0) e):=by
 rw[<-azT 0 s,abQ]
theorem abO(h:iB ag (ei (aY s))= .ok p):iB ag (lex 0 s)= .ok p:=by
 rw[abP]at h;cases e:iB ag (lex 0 s)with
 |ok q=>rw[e]at h;exact h
 |error q=>rw[e]at h;cases h
theorem Ux(h:iB ag (lex 0 s)= .ok p)(hr:aY s=aY r):iB ag (lex 0 r)= .ok p:=by
 refine abO ?_;rw[<-hr,abP,h]
theorem asO(h:dI ag s= .ok p)(hr:aY s=aY r)(hl:r.length<=262144):dI ag r= .ok p:=by
 unfold dI at h⊢
 split at h
 ·cases h
 rename_i h1
 split at h
 ·cases h
 rw[ai h1,ai ah]
 split at h
 ·cases h
 rename_i q x e
 rw[Ux e hr];exact h
theorem OM(s:Tx)(l:List Tx):aJ (ei (s::l))=s:=rfl
theorem aoU(r:Tx):tP (rA++r)=some [47,92]:=by unfold tP;rw[agr];rfl
theorem afc(r:Tx):tP (rB++r)=some [92,47]:=by unfold tP;rw[ags];rfl
theorem aky(r:Tx):G0 (rA++r):=⟨F0.cons ay,by rw[aoU];decide⟩
theorem akz(r:Tx):G2 (rB++r):=⟨⟨F0.cons ay,by rw[afc];decide⟩,by rw[afc];decide⟩
theorem aje{sign sep:Tx}{T:Nd->Tx}{R:List Nd->Tx}{G:Tx->Prop}{N:Nat}(H: ∀l,vQ ag l (one l))(hs:sign≠[])(hsep: ∀r,aY (sep++r)=sign::aY r)
 (FH:R []=[]) (J5: ∀x K,R (x::K)=sep++(T x++R K)) (hG: ∀x K r,G (R (x::K)++r)) (z:Nd) (K:List Nd) (r:Tx)
 (h1: ∀x∈z::K,∀r,(aY (T x++r)).length<N->G r->one (ei (aY (T x++r)))= .ok (bO x,ei (aY r))) (hg:G r) (hr:tP r≠some sign) (hN:(aY (T z++R K++r)).length<N):
 jc k sign one (ei (aY (T z++R K++r)))= .ok (vq k (fL (z::K)),ei (aY r)):=by
 unfold jc;rw[dA]at hN⊢
 have e:=h1 z aq (R K++r) hN (by
  cases K with
  |nil=>rw[FH];exact hg
  |cons y K=>exact hG y K r)
 have hl:=ago H e;rw[e];show ja k sign one (ei (aY (R K++r))).length [bO z] (ei (aY (R K++r)))=_;rw[ai8 (N:=N) H hs hsep FH J5 hG K _ _ r (fun y hy=>h1 y (by simp[hy])) hg hr ah (by simp[ei]),wG];rfl
theorem ahr(k:Int)(x:Nd):vq k (fL [x])=bO x:=by rw[wG,qa];rfl
theorem aho(h:eo ag x)(hk:x.kind=k)(h4:k=4\/k=5):vq k (fL x.aP)=bO x:=by
 have h2:=aqk h ah;obtain⟨a,b⟩:=Xv h.may ah;rw[Al,a,b,hk];have hl:2<=(fL x.aP).length:=by rw[Jl];exact h2
 match e:fL x.aP,hl with
 |y::z::r,_=>rfl
theorem alq(h:eo ag x):vq 4 (fL (wE x))=bO x:=by
 unfold wE;split
 ·rename_i e;exact aho h e (.inl rfl)
 exact ahr _ _
theorem alr(h:eo ag x):vq 5 (fL (xk x))=bO x:=by
 unfold xk;split
 ·rename_i e;exact aho h e (.inr rfl)
 exact ahr _ _
theorem TA(hx:eo ag x)(hk: ∀z∈wE x,BM ag z):DY ag x:=by
 intro n r hn hr;obtain⟨z,L,e⟩:=ak0 hx;rw[ak1 e]at hn⊢;rw[<-alq hx,e]
 exact aje (T:=qy ag) (R:=mP ag true rA) (G:=G0) (N:=n) (vp ag n) ay agr rE (fun x K=>vF) (fun x K r=>by rw[vF,dA];exact aky _) z L r
  (fun y hy r hN hr=>hk y (by rw[e];exact hy) n r hN hr) hr.1 hr.2 hn
theorem Vq(hx:eo ag x)(hk: ∀z∈xk x,DY ag z):Hy ag x:=by
 intro n r hn hr;obtain⟨z,L,e⟩:=asm hx;rw[aot e]at hn⊢;rw[<-alr hx,e]
 exact aje (T:=Aj ag) (R:=mP ag false rB) (G:=G2) (N:=n) (G6 (.inl rfl) (vp ag n)) ay ags rE (fun x K=>vF) (fun x K r=>by rw[vF,dA];exact akz _) z L r
  (fun y hy r hN hr=>hk y (by rw[e];exact hy) n r hN hr) hr.1 hr.2 hn
theorem aqY(h:F0 r):aY (DN++r)=DN::aY r:=by
 rw[agu ayW h];rfl
theorem ar7{n:Nat}{m:List Tx}(h1:s≠[126])(h2:s≠[40])(h3:s=DN->m.head?=some [61]):cz ag (n+1) (ei (s::m))=jU ag (ei (s::m)):=by
 unfold cz;rw[OM,ai h1,ai h2,ai];rintro⟨a,b⟩;have:=h3 a;cases m with
 |nil=>cases this
 |cons u m=>exact b (show u=[61] by simpa using this)
theorem YR(ha:bD ag=true)(hx:eo ag x)(h3: ∀k∈x.aP,x.kind=3->BM ag k)(h4:x.kind=4\/x.kind=5->Hy ag x):BM ag x:=by
 intro n r hn hr;cases n with
 |zero=>omega
 |succ n=>
 rcases ax1 hx with⟨k1,n1,e1⟩|⟨k1,n1,t1,e1⟩|⟨k1,u,n1,e1⟩|⟨k1,e1⟩
 ·obtain⟨a,b⟩:=Xv hx.may ah
  rw[e1,aqY hr.1];unfold cz;rw[OM,ai ay,ai ay,ak ⟨rfl,by rw[QI,afh];exact ae0 hr.2 ay⟩,Al,a,b,k1,n1,qa];rfl
 ·have hv:bJ x.val=true:=by
   rcases yS hx.may with⟨a,_⟩|⟨_,_,a,_⟩|⟨a,_⟩|⟨a,_⟩|⟨a,_⟩
   ·omega
   ·exact a
   ·omega
   ·omega
   omega
  rw[e1,agu (aaI ha t1) hr.1,aqZ t1,dA];show cz ag (n+1) (ei (zh ag x.th++[61]::aA9 x.val::aY r))=_;obtain⟨s,m,f1,f2,f3,f4⟩:=ayG (ag:=ag) (aA9 x.val::aY r) t1;have:=ald (ag:=ag) (aY r) t1 hv;rw[f1]at this⊢;rw[ar7 f2 f3 f4,this,Al,k1,n1,qa]
 ·obtain⟨a,b⟩:=Xv hx.may ah
  rw[e1,cY,yQ _ ay];unfold cz;rw[OM,ak rfl,QI,h3 u (by rw[n1];simp) k1 n r (by rw[e1,cY,yQ _ ay]at hn;simpa using hn) hr,Al x,a,b,k1,n1,wG,qa];rfl
 rw[e1,cY,yQ _ ay,dA]
 unfold cz;rw[OM,ai ay,ak rfl,QI,yl];rw[h4 k1 n (41::r) (by rw[e1,cY,yQ _ ay,dA]at hn;simpa using hn) (G1.sign r ay ay),yQ _ ay]
 dsimp only
 rw[QJ]
theorem ax9(ha:bD ag=true): ∀{x:Nd},eo ag x->BM ag x/\DY ag x/\Hy ag x:=by
 intro x
 induction x using Nd.ind with
 | h x ih=>
   intro hx;have k1: ∀z∈x.aP,BM ag z:=fun z hz=>(ih z hz (hx.gZ z hz)).1
   have k2: ∀z∈x.aP,DY ag z:=fun z hz=>(ih z hz (hx.gZ z hz)).2.1
   by_cases h5:x.kind=5
   ·have f:Hy ag x:=Vq hx (by unfold xk;rw[ak h5];exact k2)
    have t:BM ag x:=YR ha hx (fun k hk _=>k1 k hk) (fun _=>f);refine⟨t,TA hx ?_,f⟩;unfold wE;rw[ai ah];intro z hz;rcases kJ.1 hz with rfl;exact t
   by_cases h4:x.kind=4
   ·have a:DY ag x:=TA hx (by unfold wE;rw[ak h4];exact k1)
    have f:Hy ag x:=Vq hx (by
     unfold xk;rw[ai h5];intro z hz;rcases kJ.1 hz with rfl;exact a)
    exact⟨YR ha hx (fun k hk _=>k1 k hk) (fun _=>f),a,f⟩
   have t:BM ag x:=YR ha hx (fun k hk _=>k1 k hk) (fun h=>by omega)
   have a:DY ag x:=TA hx (by
    unfold wE;rw[ai h4];intro z hz;rcases kJ.1 hz with rfl;exact t)
   exact⟨t,a,Vq hx (by
    unfold xk;rw[ai h5];intro z hz;rcases kJ.1 hz with rfl;exact a)⟩
mutual
theorem aki(ag:Int): ∀(x:Nd) (met deep:Nat),fY ag (bO x) met deep=fY ag x met deep
 | .mk k t v a c l,met,deep=>by
   rw[bO,fY,fY,Jl,akf ag l]
theorem akf(ag:Int): ∀(l:List Nd) (met deep:Nat),kX ag (fL l) met deep=kX ag l met deep
 |[],met,deep=>by rw[fL]
 |x::r,met,deep=>by rw[fL,kX,kX,aki ag x,akf ag r]
end
theorem Uu(ag q:Int)(x:Nd):dh ag q (bO x)=dh ag q x:=by unfold dh;rw[aki]
theorem aoT{q:Int}(h:1<=q/\q<=3)(r:Tx): ∃l,aY (pK q++r)=l++[40]::aY r/\ ∀m,jk (ei (l++m))= .ok (q,ei m):=by
 have YD: ∀r,aY (32::40::r)=[40]::aY r:=fun r=>by rw[qm _ ay,yQ _ ay]
 have cut: ∀A:Tx,Cut A (32::40::r):=fun A c hc=>by
  have:c=32:=aS hc.symm;subst this;exact⟨ ay,ay,.inl ay⟩
 unfold pK;split
 ·rename_i e;subst e
  refine⟨[[101,120,105,115,116,115]],?_,fun m=>rfl⟩;show aY ([101,120,105,115,116,115]++32::40::r)=_;rw[Gq _ _ _ (aX _) (cut _),YD];rfl
 split
 ·rename_i e;subst e
  refine⟨[[126],[101,120,105,115,116,115]],?_,fun m=>rfl⟩;show aY (126::([101,120,105,115,116,115]++32::40::r))=_;rw[yQ _ ay,Gq _ _ _ (aX _) (cut _),YD];rfl
 obtain rfl:q=3:=ah
 refine⟨[[102,111,114,97,108,108]],?_,fun m=>rfl⟩;show aY ([102,111,114,97,108,108]++32::40::r)=_;rw[Gq _ _ _ (aX _) (cut _),YD];rfl
theorem agp{z:Tx}(h: ∀c∈z,aH c=true):aY z=[]:=by
 have:=Gr _ [] z (aX _) h;simpa[Dq]using this
theorem amX{ag q:Int}{x:Nd}(h:dh ag q x=0)(z:Tx)(hz: ∀c∈z,aH c=true):iB ag (lex 0 (kD ag q x++z))= .ok (q,bO x):=by
 refine abO ?_;obtain⟨ha,h1,h3,ho, -⟩:=Ap h;unfold kD;rw[dA,dA];obtain⟨l,e1,e2⟩:=aoT ⟨h1,h3⟩ (fN ag x++([41]++z));rw[e1];unfold iB;rw[e2]
 dsimp only
 rw[QJ]
 dsimp only
 rw[yl,(ax9 ha ho).2.2 _ (41::z) (by simp[ei]) (G1.sign z ay ay),yQ _ ay,agp hz];rfl
theorem asK{ag q:Int}{x:Nd}(h:dh ag q x=0)(z:Tx)(hz: ∀c∈z,aH c=true)(hl:(kD ag q x++z).length<=262144):dI ag (kD ag q x++z)= .ok (q,bO x):=by
 unfold dI;rw[ai (by rw[(Ap h).1];decide),ai ah,amX h z hz];show(if dh ag q (bO x)=0 then _ else _)=_;rw[Uu,ak h]
abbrev Bl(a:Tx):Prop:= ∀c∈a,aH c=true
theorem axm{a:Tx}(s:Tx)(h:Bl a):aM (a++s)=aM s:=by unfold aM;exact pX h
theorem axn{a:Tx}(h:Bl a):aM a=[]:=by have:=axm [] h;simpa[aM]using this
theorem Qj{A b:Tx}(h:Bl b):cR (A++b)=cR A:=by
 unfold cR;rw[zY,pX (fun c hc=>h c (EI.1 hc))]
theorem ay4{c:UInt8}(s:Tx){a:Tx}(h:c∉a):(a++s).takeWhile (· != c)=a++s.takeWhile (· != c)/\(a++s).dropWhile (· != c)=s.dropWhile (· != c):=by
 have k: ∀x∈a,(x != c)=true:=fun x hx=>by
  rw[ye];rintro rfl;exact h hx
 exact⟨EU k,pX k⟩
theorem ay1{c:UInt8}{a:Tx}(h:Bl a):Bl (a.takeWhile (· != c)):=fun d hd=>h d (Cn _ |>.subset hd)
theorem axC{c b:UInt8}{r x:Tx}{t:List Tx}(h:(b==c)=false)(e:bh c r=x::t):bh c (b::r)=(b::x)::t:=by rw[bh,ai (by rw[h];decide),e]
theorem vB(s:Tx):(aM s).length<=s.length:=(iu _).length_le
theorem awP(s:Tx):(cP s).length<=s.length:=by
 unfold cP;have:=(iu (l:=s) (· != 10)).length_le;rw[dG];omega
theorem Qu(s:Tx):(cP (aM s)).length<=s.length:=dY (awP _) (vB _)
theorem Y1(p:Tx):aG p=[]<->aY p=[]:=by
 constructor
 ·intro h;rw[<-AX,h,Dq]
 intro h
 have hb:Bl p:=Pt h;have:=Qj (A:=[]) hb;rw[eE]at this;rw[rF,this];rfl
theorem T9{N:Nat}{s:Tx}{t:aT}:mX N s= .ok t<-> ∃a n r1 c r2 i r3 l r4 q x,iF N s= .ok (a,n,r1)/\fV N r1= .ok (c,r2)/\gj a N r2= .ok (i,r3)/\gB a N r3= .ok (l,r4)/\jX a N r4= .ok (q,x)/\tW a n c i l q x=t:=by
 unfold mX;constructor
 ·intro h
  cases h1:iF N s with
  |error e=>rw[h1]at h;cases h
  | ok p=>
    obtain⟨a,n,r1⟩:=p;rw[h1]at h;change (fV N r1 >>= _)=_ at h;cases h2:fV N r1 with
    |error e=>rw[h2]at h;cases h
    | ok p=>
      obtain⟨c,r2⟩:=p;rw[h2]at h;change (gj a N r2 >>= _)=_ at h;cases h3:gj a N r2 with
      |error e=>rw[h3]at h;cases h
      | ok p=>
        obtain⟨i,r3⟩:=p;rw[h3]at h;change (gB a N r3 >>= _)=_ at h;cases h4:gB a N r3 with
        |error e=>rw[h4]at h;cases h
        | ok p=>
          obtain⟨l,r4⟩:=p;rw[h4]at h;change (jX a N r4 >>= _)=_ at h;cases h5:jX a N r4 with
          |error e=>rw[h5]at h;cases h
          | ok p=>
            obtain⟨q,x⟩:=p;rw[h5]at h;cases h;exact⟨a,n,r1,c,r2,i,r3,l,r4,q,x,rfl,h2,h3,h4,h5,rfl⟩
 rintro⟨a,n,r1,c,r2,i,r3,l,r4,q,x,h1,h2,h3,h4,h5,rfl⟩
 rw[h1];change (fV N r1 >>= _)=_;rw[h2];change (gj a N r2 >>= _)=_;rw[h3];change (gB a N r3 >>= _)=_;rw[h4];change (jX a N r4 >>= _)=_;rw[h5];rfl
theorem ahP{s:Tx}{t:aT}:gH s= .ok t<->s.length<=262144/\mX s.length s= .ok t/\cM t=0:=by
 unfold gH
 by_cases hl:262144<s.length
 ·rw[ak hl]
  exact⟨fun h=>(by cases h),fun h=>ah⟩
 rw[ai hl]
 cases e:mX s.length s with
 |error x=>exact⟨fun h=>(by cases h),fun h=>(by cases h.2.1)⟩
 | ok u=>
   dsimp only
   by_cases h0:cM u=0
   ·rw[ak h0]
    exact⟨fun h=>(by cases h;exact⟨ ah,rfl,h0⟩),fun h=>h.2.1⟩
   rw[ai h0]
   exact⟨fun h=>(by cases h),fun h=>(by have:=h.2.1;cases this;exact absurd h.2.2 h0)⟩
theorem Qk{L:Tx}(h: ∀c,L.getLast?=some c->aH c=false):cR L=L:=by
 unfold cR
 have e:L.reverse.dropWhile aH=L.reverse:=by
  cases f:L.reverse with
  |nil=>rfl
  | cons c r=>
    have:=h c (by rw[<-I9,f];rfl);rw[tj (by rw[this];decide)]
 rw[e,BQ]
theorem ayQ{L:Tx}(h0: ∀c,L.head?=some c->aH c=false)(h: ∀c,L.getLast?=some c->aH c=false):aG L=L:=by
 rw[rF,Qk h];cases L with
 |nil=>rfl
 |cons c r=>rw[tj (by rw[h0 c rfl];decide)]
theorem Lh{c:UInt8}(r:Tx)(h:aH c=false):aM (c::r)=c::r:=by unfold aM;rw[tj (by rw[h];decide)]
theorem Px{L:Tx}(X:Tx)(h:(10:UInt8)∉L)(hl: ∀c,L.getLast?=some c->aH c=false):bB (L++10::X)=L/\cP (L++10::X)=X:=by
 obtain⟨a,b⟩:=DO 10 X L h;unfold bB cP;rw[a,b];exact⟨Qk hl,rfl⟩
theorem axt{lo:Nat}{c:UInt8}(h:mw lo c=true)(hlo:33<=lo):aH c=false/\c≠10:=by
 have k:=qB (p:=fun c=> !(decide (33<=c.toNat))||(!aH c&&c != 10)) dD c;unfold mw at h;simp only[bV,dw]at h;rw[show decide (33<=c.toNat)=true by simp;omega]at k;simpa using k
theorem ay6{W n:Tx}(hW: ∀c∈W,aH c=false)(hn: ∀c∈n,aH c=false)(h0:n≠[]):sN (W++32::n)=some (W,n):=by
 have nW: ∀c∈W,nb c=true:=fun c hc=>by unfold nb;rw[hW c hc];rfl
 have e1:(W++32::n).takeWhile nb=W:=by
  rw[EU nW,aap ay,jD]
 have e2:(W++32::n).dropWhile nb=32::n:=by
  rw[pX nW,tj ay]
 have e3:(32::n).dropWhile aH=n:=by
  rw[tn ay];cases n with
  |nil=>rfl
  |cons c r=>rw[tj (by rw[hn c aq];decide)]
 have e4:n.any aH=false:=by
  rw[List.any_eq_false];intro c hc;rw[hn c hc];decide
 unfold sN;simp only[e1,e2,e3,e4];rw[ai (by simp[h0])]
theorem aoW{ag:Int}{name:Tx}(N:Nat)(X:Tx)(ha:bD ag=true)(h:ju name=true):iF N (OJ ag++(name++10::X))= .ok (ag,name,X):=by
 unfold ju at h;simp only[bV,dw]at h;obtain⟨h1,-, h3⟩:=h;have hb: ∀c∈name,aH c=false/\c≠10:=fun c hc=>axt (fP.1 h3 c hc) (aX _)
 have n0:name≠[]:=by intro e;rw[e]at h1;simp at h1
 have key: ∀W:Tx,(∀c∈W,aH c=false)->W≠[]->Cp W=some ag->iF N (W++32::(name++10::X))= .ok (ag,name,X):=by
  intro W hW aN hA;have e:W++32::(name++10::X)=(W++32::name)++10::X:=aq
  have hs:aM (W++32::(name++10::X))=(W++32::name)++10::X:=by
   rw[<-e];cases W with
   |nil=>exact absurd rfl aN
   |cons c W=>exact Lh _ (hW c aq)
  obtain⟨a,b⟩:=Px (L:=W++32::name) X (by
   rw[fc,cq];rintro(h|h|h)
   ·have:=hW 10 h;revert this;decide
   ·revert h;decide
   ·exact(hb 10 h).2 rfl) (fun c hc=>by
   rw[Pp aq]at hc
   have:(32::name).getLast?=name.getLast?:=by
    cases name with
    |nil=>exact absurd rfl n0
    |cons x y=>simp
   rw[this]at hc;exact(hb c (ym hc)).1)
  unfold iF
  dsimp only
  rw[hs,a,b,ay6 hW (fun c hc=>(hb c hc).1) n0]
  dsimp only
  rw[hA]
 unfold bD at ha;simp only[uD,dw]at ha;unfold OJ;rcases ha with rfl|rfl
 ·exact key [88,56,54] ay ay rfl
 exact key [82,73,83,67,86] ay ay rfl
theorem anp{mh:Tx}(N:Nat)(X:Tx)(h:jH mh=true):fV N ((if mh=[]then[]else[34]++mh++[34,10])++123::10::X)= .ok (mh,123::10::X):=by
 by_cases e:mh=[]
 ·subst e
  rw[ak rfl,eE];obtain⟨a, -⟩:=Px (L:=[123]) X ay (fun c hc=>by simp at hc;subst hc;decide);unfold fV
  dsimp only
  rw[Lh _ ay];rw[show(123:UInt8)::10::X=[123]++10::X from rfl,a,ak ay]
 rw[ai e]
 unfold jH at h;simp only[bV,dw]at h;obtain⟨-, h2,h3⟩:=h;obtain⟨n10,n34⟩:=axu h2 ah
 have hsh: ∀c∈mh,c≠32->aH c=false:=fun c hc aN=>by
  have k:=qB (p:=fun c=> !(decide (32<=c.toNat))||(c==32|| !aH c)) dD c;have:=fP.1 h2 c hc;unfold mw at this;simp only[bV,dw]at this;rw[show decide (32<=c.toNat)=true by simp;omega]at k;simpa[aN]using k
 have ht:aG mh=mh:=by
  unfold uK at h3;have hi:mh.isEmpty=false:=by cases mh with|nil=>exact absurd rfl e|cons a b=>rfl
  rw[hi,pZ,bV]at h3;refine ayQ (fun c hc=>hsh c (Ja hc) ?_) (fun c hc=>hsh c (ym hc) ?_)
  ·rintro rfl;have:=h3.1;rw[hc]at this;revert this;decide
  rintro rfl;have:=h3.2;rw[hc]at this;revert this;decide
 obtain⟨a,b⟩:=Px (L:=34::(mh++[34])) (123::10::X) (by
  rw[cq,fc];rintro(h|h|h)
  ·revert h;decide
  ·exact n10 h
  ·revert h;decide) (fun c hc=>by
  have:(34::(mh++[34])).getLast?=some 34:=by rw[<-cY,zX]
  rw[this]at hc;cases hc;decide)
 have e1:([34]++mh++[34,10])++123::10::X=34::(mh++[34])++10::123::10::X:=aq
 have hc:(34::(mh++[34])).count 34=2:=by
  rw[List.count_cons_self,List.count_append,List.count_eq_zero_of_not_mem n34];rfl
 unfold fV
 dsimp only
 rw[e1,show aM (34::(mh++[34])++10::123::10::X)=34::(mh++[34])++10::123::10::X from Lh _ ay,a,b,ai aq,ai (by
  rw[hc,<-cY,zX];simp)]
 rw[qR,qP,BR,ht]
def Nt(c:UInt8):Bool:=pP c||(c==58||c==61)
theorem awv{ag:Int}{k:Nat}(h:Lf ag k):sJ ag k=dy ag k/\(k:Int)<dU ag:=by
 unfold sJ dy dU;rcases h with⟨rfl,h2⟩|⟨rfl,h2⟩
 ·exact⟨xu _,aC⟩
 refine⟨?_,aC⟩
 rw[ak rfl,ai ay];unfold rT;rw[uC]
theorem aka{n:Int}(h:bJ n=true):fA (aA9 n)=some ([],n):=by
 unfold fA;rw[nt.2 ⟨rfl,h⟩]
theorem azo{v:Tx}(h:aU v=true):fA v=some (v,0):=by
 unfold fA;cases e:bN v with
 |some n=>exact absurd (nt.1 e).1 (arX h)
 |none=>exact ak h
theorem agt(b:Tx):aY (10::b)=aY b:=qm _ ay
theorem aq2{v:Tx}{n:Int}(h:(v≠[]/\aU v=true/\n=0)\/(v=[]/\bJ n=true)):aY (if v=[]then aA9 n else v)=[if v=[]then aA9 n else v]/\fA (if v=[]then aA9 n else v)=some (v,n)/\ ∀c∈(if v=[]then aA9 n else v),pP c=true:=by
 rcases h with⟨a,b,c⟩|⟨a,b⟩
 ·rw[ai a,c];exact⟨Gx b,azo b,fun c hc=>Xy c (Gw b c hc)⟩
 rw[ak a,a];exact⟨Dk n,aka b,fun c hc=>KL c (yO n c hc)⟩
theorem afM{ag:Int}{n:Nat}{x:bF}(ha:bD ag=true)(hn:n<=16)(h:jm ag n x=true): ∃b,jL ag x=b++[59,10]/\(∀c∈b,Nt c=true)/\(b.length<262144->jr ag (10::b)=some x):=by
 have w1: ∀c,pP c=true->Nt c=true:=fun c h=>by unfold Nt;rw[h];rfl
 rcases Om ha hn h with⟨aj,nn,rfl,h1,h2⟩|⟨i,k,v,nn,rfl,h1,-, h2,h3⟩
 ·refine⟨aj++61::aA9 nn,by unfold jL;simp,fun c hc=>?_,fun hl=>?_⟩
  ·rcases fc.1 hc with hc|hc
   ·exact w1 c (Xy c (Gw h1 c hc))
   rcases cq.1 hc with rfl|hc
   ·rfl
   exact w1 c (KL c (yO _ c hc))
  rw[Gh (by simp at hl ⊢; omega),agt,tV _ _ _ (aX _) ay,Gx h1,Dk]
  show jo ag [aj,[61],aA9 nn]=_;rw[AU,ak rfl,aka h2];show qj (if aU aj=true then _ else _) _=_;rw[ak h1];rfl
 obtain⟨r1,r2⟩:=awv h2
 obtain⟨v1,v2,v3⟩:=aq2 h3;have hi:bJ (i:Int)=true:=by unfold bJ;simp;omega
 refine⟨aA9 i++58::(dy ag k++61::(if v=[]then aA9 nn else v)),?_,fun c hc=>?_,fun hl=>?_⟩
 ·unfold jL
  rw[ai (show ¬((i:Int)= -1) by omega),r1];simp
 ·rcases fc.1 hc with hc|hc
  ·exact w1 c (KL c (yO _ c hc))
  rcases cq.1 hc with rfl|hc
  ·rfl
  rcases fc.1 hc with hc|hc
  ·exact w1 c (aiK ha r2 c hc)
  rcases cq.1 hc with rfl|hc
  ·rfl
  exact w1 c (v3 c hc)
 rw[Gh (by simp at hl ⊢; omega),agt,tV _ _ _ (aX _) ay,tV _ _ _ (aX _) ay,Dk,Qp r2,v1]
 show jo ag [aA9 i,[58],dy ag k,[61],(if v=[]then aA9 nn else v)]=_;rw[wZ,ak rfl,v2,Hh,ai (fun h=>(WW _).1 h.1),ak rfl,nt.2 ⟨rfl,hi⟩,aiM r2]
 dsimp only
 rw[ak ah];rfl
theorem aa6{b:Tx}(h: ∀c∈b,Nt c=true):(59:UInt8)∉b/\(125:UInt8)∉b/\(10:UInt8)∉b:=
 ⟨fun m=>absurd (h _ m) ay,fun m=>absurd (h _ m) ay,fun m=>absurd (h _ m) ay⟩
theorem ah2{ag:Int}{n N:Nat}(ha:bD ag=true)(hn:n<=16): ∀(L:List bF) (v:Tx) (aD:List bF),(∀x∈L,jm ag n x=true)->(L.flatMap (jL ag)).length<=262144->iS ag N (bh 59 (10::L.flatMap (jL ag))) v aD= .ok (aD++L)
 | [],v,aD,_,_=>by
   have e:bh 59 (10::([]:List bF).flatMap (jL ag))=[[10]]:=rfl;rw[e,iS,ak ((Y1 _).2 rfl),iS,jD]
 | x::L,v,aD,h,hl=>by
   obtain⟨b,e1,e2,e3⟩:=afM ha hn (h x aq);rw[BY,e1]at hl⊢;simp only[bu,cy,je]at hl
   have e:bh 59 (10::(b++[59,10]++L.flatMap (jL ag)))=(10::b)::bh 59 (10::L.flatMap (jL ag)):=by
    have:=y7 59 (10::b) (10::L.flatMap (jL ag)) (by
     rw[cq];rintro(h|h)
     ·revert h;decide
     exact(aa6 e2).1 h)
    rw[<-this];simp
   have hr:=e3 ah
   rw[e,iS,ai (fun f=>by
    rw[Gh aC,(Y1 _).1 f]at hr;cases hr),hr]
   dsimp only
   rw[ah2 ha hn L _ _ (fun y hy=>h y (by simp[hy])) ah,dA];rfl
theorem apU{ag:Int}{n:Nat}(ha:bD ag=true)(hn:n<=16){L:List bF}(h: ∀x∈L,jm ag n x=true):(125:UInt8)∉L.flatMap (jL ag):=by
 intro m;obtain⟨x,hx,hm⟩:=List.mem_flatMap.1 m;obtain⟨b,e1,e2, -⟩:=afM ha hn (h x hx);rw[e1,fc]at hm;rcases hm with hm|hm
 ·exact(aa6 e2).2.1 hm
 revert hm;decide
theorem apT{ag:Int}{n:Nat}(N:Nat)(ha:bD ag=true)(hn:n<=16){L:List bF}(h: ∀x∈L,jm ag n x=true)(hl:(L.flatMap (jL ag)).length<=262144)(Y:Tx):
 gj ag N (123::10::(L.flatMap (jL ag)++125::Y))= .ok (L,Y):=by
 have hno:(125:UInt8)∉123::10::L.flatMap (jL ag):=by
  rw[cq,cq];rintro(f|f|f)
  ·revert f;decide
  ·revert f;decide
  exact apU ha hn h f
 have e:123::10::(L.flatMap (jL ag)++125::Y)=(123::10::L.flatMap (jL ag))++125::Y:=rfl;obtain⟨a,b⟩:=DO 125 Y _ hno;unfold gj
 dsimp only
 rw[Lh _ ay,e,a,b,ai (by
  rintro(f|f)
  ·exact f rfl
  exact f aq)]
 rw[qR,qP,ah2 ha hn L _ _ h hl];rfl
theorem Zh{l:Tx}(h:aU l=true):bI l=[l]:=Hu (agV h) (agZ h)
theorem akr(n:Int):bI (36::aA9 n)=[36::aA9 n]:=Hu aq (fun c hc=>by
 rcases cq.1 hc with rfl|hc
 ·decide
 exact ahj n c hc)
theorem Zj{k:Nat}(h:k<15):bI (cg k)=[cg k]:=by
 obtain⟨c,t,e, -⟩:=Yw h;exact Hu (by rw[e];simp) (aiP h)
theorem azD(r:Tx):bI (77::79::86::32::r)=[77,79,86]::bI r:=by
 rw[Ht _ ay];show(77::[79,86])::bI (32::r)=_;rw[Zf _ ay]
theorem LU(a:Tx){c:UInt8}(b:Tx)(h:qw c=true):bI (a++c::b)=bI a++[c]::bI b:=DV a [] b h
theorem ae1{n:Int}(h:bJ n=true):gX (36::aA9 n)=some n:=by
 unfold gX;rw[ak (show(36::aA9 n).head?=some 36 from rfl)];exact nt.2 ⟨rfl,h⟩
theorem aox{k:Nat}(h:k<15):gX (cg k)=none:=by
 obtain⟨c,t,e,-, lO⟩:=Yw h;unfold gX;rw[ai];rw[e];simpa using lO
theorem X7{l:Tx}(h:aU l=true):gp [91] l [93]=some l:=by
 unfold gp;rw[ak ⟨rfl,rfl,h⟩]
theorem P8{r:Tx}{L:List Tx}{i:aL}(hl:(77::79::86::32::r:Tx).length<=262144)(hw:bI r=L)(h3:3<=L.length)(h:eY L=some i):fG (77::79::86::32::r)=some i:=by
 rw[<-P7];unfold GF
 rw[azD,hw,ai ah,ai (by intro e;have:=(Ch e).1;revert this;decide),ai (by
  rintro(e|e|e)
  ·simp at e;omega
  ·exact e rfl
  revert e;exact(by decide: ¬(true=false)))]
 exact h
theorem asS{i:aL}(h:fh i=true):fG (jP i)=some i:=by
 have hl:=aib h;obtain⟨ho, -⟩:=Uk h;rcases al2 h with⟨l,n,rfl,h1⟩|⟨l,a,rfl,h1,h2⟩|⟨l,d,rfl,h1,h2⟩|⟨n,d,rfl,h2⟩|rfl
 ·have hn:bJ n=true:=by unfold eM at ho;simpa[h1]using ho
  have e:jP ⟨1,0,0,0,n,l,[],0⟩=77::79::86::32::91::(l++93::44::36::aA9 n):=by unfold jP;simp
  rw[e]at hl⊢;refine P8 (L:=[[91],l,[93],[44],36::aA9 n]) ah ?_ aq ?_
  ·rw[zJ _ ay,LU _ _ ay,Zh h1,zJ _ ay,akr];rfl
  rw[eY,ak rfl,ae1 hn,X7 h1];rfl
 ·have e:jP ⟨2,0,a,0,0,l,[],0⟩=77::79::86::32::91::(l++93::44::cg a):=by unfold jP;simp[xu]
  rw[e]at hl⊢;refine P8 (L:=[[91],l,[93],[44],cg a]) ah ?_ aq ?_
  ·rw[zJ _ ay,LU _ _ ay,Zh h1,zJ _ ay,Zj h2];rfl
  rw[eY,ak rfl,aox h2,X7 h1,Qq h2]
 ·have e:jP ⟨3,d,0,0,0,l,[],0⟩=77::79::86::32::(cg d++44::91::(l++93::[])):=by unfold jP;simp[xu]
  rw[e]at hl⊢;refine P8 (L:=[cg d,[44],[91],l,[93]]) ah ?_ aq ?_
  ·rw[LU _ _ ay,Zj h2,zJ _ ay,LU _ _ ay,Zh h1];rfl
  rw[eY,ai (by
  rintro rfl;revert h1;decide),ak rfl,Qq h2,X7 h1]
 ·have hn:bJ n=true:=by unfold eM at ho;simp at ho;exact ho.2
  have e:jP ⟨4,d,0,0,n,[],[],0⟩=77::79::86::32::(cg d++44::36::aA9 n):=by unfold jP;simp[xu]
  rw[e]at hl⊢;refine P8 (L:=[cg d,[44],36::aA9 n]) ah ?_ aq ?_
  ·rw[LU _ _ ay,Zj h2,akr];rfl
  rw[eY,ak rfl,Qq h2,ae1 hn]
 decide+kernel
def Ends(s:Tx):Prop:=(∀c,s.head?=some c->aH c=false)/\ ∀c,s.getLast?=some c->aH c=false
theorem abd{c:UInt8}(h:rS c=true)(h2:c≠32):aH c=false:=by
 have k:=qB (p:=fun c=> !rS c||(c==32|| !aH c)) dD c;rw[h]at k;simpa[h2]using k
theorem Ends.of{s:Tx}(hb:cU s)(hl:gP s)(h0: ∀c,s.head?=some c->c≠32):Ends s:=by
 refine⟨fun c hc=>abd (hb c (Ja hc)) (h0 c hc),fun c hc=>abd (hb c (ym hc)) ?_⟩;obtain⟨p,d,rfl,hd⟩:=hl;rw[zX]at hc;cases hc;exact hd
theorem atn{i:aL}(h:fh i=true): ∀c,(jP i).head?=some c->c≠32:=by
 intro c hc;unfold jP at hc
 have:c=77:=by
  split at hc
  ·simpa using hc.symm
  split at hc
  ·simpa using hc.symm
  split at hc
  ·simpa using hc.symm
  split at hc<;>simpa using hc.symm
 subst this;decide
theorem atj{i:aL}(h:cD i=true): ∀c,(fH i).head?=some c->c≠32:=by
 intro c hc;obtain⟨ho, -⟩:=Jx h;unfold fH at hc
 by_cases h6:i.op=6
 ·rw[ak h6]at hc;exact Fv
 rw[ai h6]at hc
 by_cases h7:i.op=7
 ·rw[ak h7]at hc;exact Fv
 rw[ai h7]at hc
 by_cases h8:i.op=8
 ·rw[ak h8]at hc;exact Fv
 rw[ai h8]at hc
 by_cases h9:i.op=9
 ·rw[ak h9]at hc;exact Fv
 rw[ai h9]at hc
 by_cases h10:i.op=10
 ·rw[ak h10]at hc;exact Fv
 rw[ai h10]at hc
 by_cases h11:i.op=11
 ·rw[ak h11]at hc;exact Fv
 rw[ai h11]at hc
 by_cases h12:i.op=12
 ·rw[ak h12]at hc
  have hl:aU i.av=true:=by
   unfold gm at ho;rw[ai ah,ak (.inr h12)]at ho;exact ho
  obtain⟨d,r,e,hd⟩:=Dt hl;rw[e]at hc;simp at hc;subst hc;rintro rfl;revert hd;decide
 rw[ai h12]at hc
 split at hc<;>(simp at hc;subst hc;decide)
theorem alS{ag:Int}{i:aL}(ha:bD ag=true)(h:kO ag i=true):Ends (jG ag i).1:=by
 refine .of (aba ag i) (abf ha h) ?_;unfold bD at ha;simp only[uD,dw]at ha;unfold kO at h;unfold jG;rcases ha with rfl|rfl
 ·rw[ak rfl]at h ⊢; rw[ak h];exact atn h
 rw[ai ay]at h ⊢; rw[ak rfl,ak h];exact atj h
theorem alU{ag:Int}{i:aL}(ha:bD ag=true)(h:kO ag i=true):oI ag (jG ag i).1=some i:=by
 unfold bD at ha;simp only[uD,dw]at ha;unfold kO at h;unfold jG oI;rcases ha with rfl|rfl
 ·rw[ak rfl]at h;rw[ak rfl,ak rfl,ak h];exact asS h
 rw[ai ay]at h;rw[ai ay,ai ay,ak rfl,ak h];exact as0 i h
theorem ayP{s:Tx}(h:Bl s):aG s=[]:=(Y1 s).2 (agp h)
theorem ayS{s:Tx}(a b:Tx)(ha:Bl a)(hb:Bl b)(hs:Ends s):aG (a++(s++b))=s:=by
 cases s with
 |nil=>exact ayP (fun c hc=>by
  rw[eE]at hc;exact(fc.1 hc).elim (ha c) (hb c))
 | cons c r=>
   have hc:=hs.1 c rfl;rw[cY,Hi a _ c hc,Qj hb]
   have e:cR r=r:=by
    refine Qk fun d hd=>hs.2 d ?_
    cases r with
    |nil=>cases hd
    |cons x y=>simpa using hd
   have e2:a.dropWhile aH=[]:=axn ha;rw[e,e2];rfl
theorem ayU{s:Tx}(n:Nat)(hs:Ends s):aG (vt n s)=s:=by
 have:=ayS (s:=s) [] (aBg (n-s.length) 32) ay (fun c hc=>by
  have:=(Ey.1 hc).2;subst this;decide) hs
 simpa[vt]using this
theorem ayT{c:UInt8}(r:Tx)(h:aH c=true):aG (c::r)=aG r:=by
 rw[rF,rF]
 have e: ∃u,cR (c::r)=c::u/\u=cR r\/(cR (c::r)=[]/\cR r=[]):=by
  unfold cR;rw[Ca];cases f:r.reverse.dropWhile aH with
  | nil=>
    refine⟨[],.inr ⟨?_,aq⟩⟩;have hb:Bl r.reverse:=wJ f;rw[pX hb,tn h];rfl
  | cons d m=>
    refine⟨(d::m).reverse,.inl ⟨?_,rfl⟩⟩
    have k: ∀L:Tx,L.dropWhile aH=d::m->(L++[c]).dropWhile aH=d::m++[c]:=by
     intro L
     induction L with
     |nil=>intro h;cases h
     | cons x L ih=>
       intro hL;rw[cY];cases hx:aH x with
       |true=>rw[tn hx]at hL ⊢; exact ih hL
       |false=>rw[tj (by rw[hx];decide)]at hL ⊢; rw[<-cY,hL]
    rw[k _ f];simp
 obtain⟨u,⟨e1,e2⟩|⟨e1,e2⟩⟩:=e
 ·rw[e1,tn h,e2]
 rw[e1,e2]
theorem ajB{c:UInt8}(r:Tx)(h:aH c=true):(bh 124 (c::r)).map aG=(bh 124 r).map aG:=by
 have hc:(c==124)=false:=by
  cases e:c==124 with
  |false=>rfl
  | true=>
    have:c=124:=aS e;subst this;revert h;decide
 cases e:bh 124 r with
 |nil=>exact absurd e (uc 124 r)
 |cons x t=>rw[axC hc e,ox,ox,ayT x h]
theorem ajD: ∀l:Tx,(bh 124 (l.dropWhile aH)).map aG=(bh 124 l).map aG
 |[]=>rfl
 | c::r=>by
   cases h:aH c with
   |true=>rw[tn h,ajD r,ajB r h]
   |false=>rw[tj (by rw[h];decide)]
theorem ajY(x:Tx){b:Tx}(hb:Bl b):aG (x++b)=aG x:=by rw[rF,rF,Qj hb]
theorem aaV:Bl [32]:=fun c hc=>by rcases kJ.1 hc with rfl;decide
theorem aaN: ∀{l:List Tx},l≠[]->(∀s∈l,cU s)->(bh 124 (jh l++[32])).map aG=l.map aG
 |[],h,_=>absurd rfl h
 | [x],_,h=>by
   rw[EX,DI 124 _ (aaO x (h x aq))];rw[ox,EO,ajY x aaV];rfl
 | x::y::r,_,h=>by
   have e:jh (x::y::r)++[32]=(x++[32])++124::32::(jh (y::r)++[32]):=by rw[EY];simp
   rw[e,y7 124 _ _ (aaO x (h x aq)),ox,ajB _ ay,aaN (l:=y::r) aq (fun s hs=>h s (by simp at hs ⊢; exact .inr hs)),ajY x aaV];rfl
theorem aw2(i:Nat)(t:aT)(X:Tx): ∃B,aM (qZ i t++10::X)=B++59::10::X/\B=(jh (nY i t)++[32]).dropWhile aH:=by
 refine⟨_,?_,rfl⟩;have e:qZ i t++10::X=32::((jh (nY i t)++[32])++59::10::X):=by rw[Xp];simp
 rw[e];unfold aM;rw[tn ay,Cv _ _ ay]
theorem aw1(i:Nat)(t:aT):(10:UInt8)∉(jh (nY i t)++[32]).dropWhile aH:=fun m=>by
 have m2:=(iu _).subset m;rcases fc.1 m2 with m2|m2
 ·exact aaM (ai7 i t) ay ay ay m2
 revert m2;decide
theorem ai9(i:Nat)(t:aT)(X:Tx)(h0:t.code≠[]):gv (aM (qZ i t++10::X))=true/\cP (aM (qZ i t++10::X))=X/\(gV (aM (qZ i t++10::X))).map aG=(nY i t).map aG:=by
 obtain⟨B,e,eB⟩:=aw2 i t X;have hno:=aw1 i t;rw[<-eB]at hno
 obtain⟨a,b⟩:=Px (L:=B++[59]) X (by
  rw[fc];rintro(h|h)
  ·exact hno h
  revert h;decide) (fun c hc=>by rw[zX]at hc;cases hc;decide)
 rw[show B++[59]++10::X=B++59::10::X by simp]at a b;rw[e];refine⟨by unfold gv;rw[a,zX];rfl,b,?_⟩;unfold gV;rw[a,BR,eB,ajD];refine aaN (fun h=>h0 ?_) (ai7 i t);have:=G7 i t;rw[h]at this;exact rP.1 this.symm
inductive zM(ag:Int):List Tx->List (List aL)->List (List aL)->Prop where
 |nil:zM ag [] [] []
 |skip {c:Tx} {L:List Tx} (x:List aL) {aD out:List (List aL)} (h:aG c=[]) (t:zM ag L aD out):zM ag (c::L) (x::aD) (x::out)
 |put {c:Tx} {L:List Tx} (x:List aL) {aD out:List (List aL)} {i:aL} (h:aG c≠[]) (hi:oI ag (aG c)=some i) (t:zM ag L aD out):zM ag (c::L) (x::aD) ((x++[i])::out)
theorem zM.ok{ag:Int}{N:Nat}{L:List Tx}{aD out:List (List aL)}(h:zM ag L aD out): ∀v:Tx,fD ag N L v aD= .ok out:=by
 induction h with
 |nil=>intro v;rfl
 |skip x h t ih=>intro v;rw[fD,ak h,ih]
 |put x h hi t ih=>intro v;rw[fD,ai h,hi];dsimp only;rw[ih]
def Fi(ag:Int)(l:List aL):List Tx:=l.map fun i=>(jG ag i).1
theorem abi{ag:Int}(ha:bD ag=true)(j:Nat): ∀(cs:List (List aL)) (L:List Tx),(∀l∈cs,∀i∈l,kO ag i=true)->L.map aG=cs.map (fun l=>(Fi ag l).getD j [])->zM ag L (cs.map (·.take j)) (cs.map (·.take (j+1)))
 |[],[],_,_=>.nil
 |[],_::_,_,h=>by cases h
 |_::_,[],_,h=>by cases h
 | l::cs,c::L,hi,h=>by
   simp only[ox,Ac]at h⊢;have ih:=abi ha j cs L (fun l hl=>hi l (by simp[hl])) h.2
   by_cases hj:j<l.length
   ·have e:(Fi ag l).getD j []=(jG ag l[j]).1:=by
     unfold Fi;rw[pY,jf,aV hj];rfl
    have hin:=hi l aq l[j] (x8 hj);rw[e]at h;rw[pn hj];exact .put _ (by rw[h.1];exact(abf ha hin).ne) (by rw[h.1];exact alU ha hin) ih
   have e:(Fi ag l).getD j []=[]:=by
    unfold Fi;rw[pY,jf,mg ah];rfl
   rw[e]at h;rw[kI (show l.length<=j by omega),kI (show l.length<=j+1 by omega)];exact .skip _ h.1 ih
theorem aoX(k:Nat):Ends ([80]++gf k):=by
 refine .of ((cU.lit ay).app (JG k)) ((NP k).app _) ?_;intro c hc;have:c=80:=aS hc.symm;subst this;decide
theorem amg{ag:Int}{k:Nat}{l:List aL}(ha:bD ag=true)(h: ∀i∈l,kO ag i=true)(j:Nat):Ends ((gL ag k l).getD j []):=by
 rw[pY];cases e:(gL ag k l)[j]? with
 |none=>exact⟨fun c hc=>(by cases hc),fun c hc=>(by cases hc)⟩
 | some s=>
   have hs:=cV e;show Ends s;unfold gL at hs;rcases cq.1 hs with rfl|hs
   ·exact aoX k
   obtain⟨i,hi,rfl⟩:=Ae.1 hs
   exact alS ha (h i hi)
theorem ajd{t:aT}(ha:bD t.ag=true)(hc:L8 t)(i:Nat):(nY i t).map aG=ku i t:=by
 refine EG fun k=>?_
 by_cases hk:k<t.code.length
 ·rw[jf,YB i (aV hk),Fe i (aV hk)]
  simp only[wC];rw[ayU _ (amg ha (hc _ (x8 hk)) i)]
 rw[mg (by rw[eT,G7];omega),mg (by rw[yt];omega)]
theorem alX(j:Nat)(t:aT):ku (j+1) t=(gy t.code).map fun l=>(Fi t.ag l).getD j []:=by
 refine EG fun k=>?_
 by_cases hk:k<t.code.length
 ·rw[Fe (j+1) (aV hk),jf,Ao (aV hk)]
  rfl
 rw[mg (by rw[yt];omega),mg (by rw[eT,Cs];omega)]
theorem anv{k:Nat}(h:k<16):aA9 (k:Int)=gf k:=by
 rw[Po ah ah];unfold jI;rw[ai ah,uC]
theorem aoY{t:aT}{L:List Tx}(FD:t.code.length<=16)(h:L.map aG=ku 0 t):tQ L=true:=by
 unfold tQ;rw[fP];intro b hb;obtain⟨k,hk⟩:=pE.1 hb;rw[IV]at hk;cases e:L[k]? with
 |none=>rw[e]at hk;cases hk
 | some c=>
   rw[e]at hk
   have hlen:k<t.code.length:=by
    have:=congrArg aBd h;rw[eT,yt]at this;rw[<-this];exact(bt.1 e).1
   have h2:=congrArg (·[k]?) h;simp only[jf,e,wC]at h2;rw[Fe 0 (aV hlen)]at h2;have h3:=fU h2;have:aG c=80::aA9 (k:Int):=by rw[h3,anv ah];rfl
   rw[wC,this]at hk;have hk2:=fU hk;rw[<-hk2];simp
def sK(t:aT):Nat->Nat->Tx->Tx
 |_,0,C=>C
 |j,m+1,C=>qZ j t++10::sK t (j+1) m C
theorem ajo(t:aT)(C:Tx): ∀(m j:Nat),((List.range' j m).map fun i=>qZ i t).flatMap (fun l=>l++[10])++C=sK t j m C
 |0,j=>rfl
 | m+1,j=>by
   rw[List.range'_succ,ox,BY,dA,ajo t C m (j+1),dA];rfl
theorem axX(t:aT)(C:Tx):((nZ t).flatMap fun l=>l++[10])++C=sK t 0 (uP t+1) C:=by
 rw[<-ajo];unfold nZ;rw[List.range_eq_range']
theorem ajp{t:aT}{C:Tx}{N:Nat}(ha:bD t.ag=true)(hc:L8 t)(h0:t.code≠[])(hC:gv (aM C)=false): ∀(m n j:Nat),m<=n->lD t.ag N n (sK t (j+1) m C) ((gy t.code).map (·.take j))= .ok ((gy t.code).map (·.take (j+m)),C)
 |0,0,j,_=>rfl
 | 0,n+1,j,_=>by
   rw[sK,lD]
   try dsimp only
   rw[ak hC];rfl
 |m+1,0,j,h=>absurd h ah
 | m+1,n+1,j,h=>by
   obtain⟨a,b,c⟩:=ai9 (j+1) t (sK t (j+1+1) m C) h0;rw[ajd ha hc,alX]at c;rw[sK,lD]
   try dsimp only
   have hlen:(gV (aM (qZ (j+1) t++10::sK t (j+1+1) m C))).length=((gy t.code).map (·.take j)).length:=by
    have:=congrArg aBd c;simpa using this
   rw[a,ai ay,ai (by rw[hlen];simp),(abi ha j (gy t.code) _ (fun l hl i hi=>by
    obtain⟨x,hx,rfl⟩:=Ae.1 hl;exact hc x hx i hi) c).ok]
   dsimp only
   rw[b,ajp ha hc h0 hC m n (j+1) ah,show j+1+m=j+(m+1) by omega]
theorem axp(r:Tx):aM (10::r)=aM r:=by unfold aM;rw[tn ay]
theorem axY{t:aT}{C:Tx}(N:Nat)(ha:bD t.ag=true)(hc:L8 t)(h0:t.code≠[])(FD:t.code.length<=16)(hC:gv (aM C)=false):gB t.ag N (10::(((nZ t).flatMap fun l=>l++[10])++C))= .ok (gy t.code,C):=by
 rw[axX];unfold gB
 dsimp only
 rw[axp,sK];obtain⟨a,b,c⟩:=ai9 0 t (sK t (0+1) (uP t) C) h0;rw[ajd ha hc]at c;rw[a,aoY FD c,ai ay,b]
 have hlen:(gV (aM (qZ 0 t++10::sK t (0+1) (uP t) C))).length=t.code.length:=by
  have:=congrArg aBd c
  rwa[eT,yt]at this
 have e:aBg t.code.length []=(gy t.code).map (·.take 0):=by
  refine EG fun k=>?_
  by_cases hk:k<t.code.length
  ·rw[aaB,ak hk,jf,Ao (aV hk)];rfl
  rw[mg aC,mg (by rw[eT,Cs];omega)]
 have hm: ∀(m j:Nat),m<=(sK t j m C).length:=by
  intro m
  induction m with
  |zero=>intro j;exact dW _
  |succ m ih=>intro j;rw[sK];have:=ih (j+1);simp;omega
 rw[hlen,e,ajp ha hc h0 hC _ _ 0 (by have:=hm (uP t) 1;simp;omega),jT]
 congr 2
 refine(IZ fun l hl=>?_).trans (List.map_id _);obtain⟨x,hx,rfl⟩:=Ae.1 hl;exact kI (ao7 t hx)
def Ut(b:UInt8):Bool:=sM b||(b==32||(b==47||(b==92||(b==40||(b==41||b==126)))))
def kG(s:Tx):Prop:= ∀b∈s,Ut b=true
theorem kG.app{a b:Tx}(h1:kG a)(h2:kG b):kG (a++b):=fun c hc=>(fc.1 hc).elim (h1 c) (h2 c)
theorem kG.lit{l:Tx}(h:l.all Ut=true):kG l:=fun b hb=>fP.1 h b hb
theorem kG.tok{l:Tx}(h: ∀b∈l,sM b=true):kG l:=fun b hb=>by unfold Ut;rw[h b hb];rfl
theorem kG.lT{s:Tx}(b:Bool)(h:kG s):kG (lT b s):=by
 unfold Go.Proofs.YtkbbgjloifmmbaaGreatDoor.lT;split
 ·exact kG.app (a:=[40]) (.lit ay) (h.app (.lit ay))
 exact h
theorem ajP{ag:Int}{and:Bool}{sep:Tx}(hs:kG sep): ∀{l:List Nd},(∀x∈l,kG (fN ag x))->kG (mP ag and sep l)
 |[],_=>by rw[rE];exact fun b hb=>by cases hb
 | x::l,h=>by
   rw[vF];exact hs.app (((h x aq).lT _).app (ajP hs fun y hy=>h y (by simp[hy])))
theorem YS{ag:Int}{and:Bool}{sep:Tx}(hs:kG sep){l:List Nd}(h: ∀x∈l,kG (fN ag x)):kG (kE ag and sep l):=by
 cases l with
 |nil=>rw[Ln];exact fun b hb=>by cases hb
 |cons x l=>rw[y9];exact((h x aq).lT _).app (ajP hs fun y hy=>h y (by simp[hy]))
theorem ax8{ag:Int}(ha:bD ag=true): ∀{x:Nd},eo ag x->kG (fN ag x):=by
 intro x
 induction x using Nd.ind with
 | h x ih=>
   intro hx;have hk: ∀k∈x.aP,kG (fN ag k):=fun k hk=>ih k hk (hx.gZ k hk)
   rw[sL];rcases yS hx.may with⟨h1, -⟩|⟨h1,h2, -⟩|⟨h1, -⟩|⟨h1, -⟩|⟨h1, -⟩
   ·rw[ak h1];exact .lit ay
   ·rw[ai ah,ak h1];exact .tok (aaI ha h2)
   ·rw[ai ah,ai ah,ak h1]
    exact kG.app (a:=[126]) (.lit ay) (YS (.lit ay) hk)
   ·rw[ai ah,ai ah,ai ah,ak h1];exact YS (.lit ay) hk
   rw[ai ah,ai ah,ai ah,ai ah];exact YS (.lit ay) hk
theorem aoS(q:Int):kG (pK q):=by unfold pK;split<;>(try split)<;>exact .lit ay
theorem ax2{ag q:Int}{x:Nd}(h:dh ag q x=0):kG (kD ag q x):=by
 obtain⟨ha,-, -, ho, -⟩:=Ap h;exact((aoS q).app (ax8 ha ho)).app (.lit ay)
theorem amn{s:Tx}(h:kG s):(10:UInt8)∉s:=fun m=>absurd (h _ m) ay
theorem ax3(ag q:Int)(x:Nd): ∃c r,kD ag q x=c::r/\aH c=false:=by
 unfold kD pK;split
 ·exact⟨_,_,rfl,ay⟩
 split<;>exact⟨_,_,rfl,ay⟩
theorem anh{ag q:Int}{x:Nd}(h:dh ag q x=0){z:Tx}(hz:Bl z):aM (kD ag q x++z)=kD ag q x++z/\gv (kD ag q x++z)=false:=by
 obtain⟨c,r,e,hc⟩:=ax3 ag q x;refine⟨by rw[e];exact Lh _ hc,?_⟩
 have e2:bB (kD ag q x++z)=kD ag q x:=by
  unfold bB;rw[(ay4 z (amn (ax2 h))).1,Qj (ay1 hz)];refine Qk fun d hd=>?_
  unfold kD at hd;rw[zX]at hd;cases hd;decide
 unfold gv;rw[e2];unfold kD;rw[zX];rfl
mutual
theorem aeY: ∀(x:Nd) (aD:List Th),oG (bO x) aD=oG x aD
 | .mk k t v a c l,aD=>by rw[bO,oG,oG,aeX l]
theorem aeX: ∀(l:List Nd) (aD:List Th),iO (fL l) aD=iO l aD
 |[],aD=>by rw[fL]
 |x::r,aD=>by rw[fL,iO,iO,aeY x,aeX r]
end
theorem ayE(q:Int)(x:Nd):nD q (bO x)=nD q x:=by
 unfold nD qz;rw[Uu,aeY]
def mG(t:aT):aT:=tW t.ag t.name t.bG t.init (gy t.code) t.q (bO t.node)
def xI(t:aT)(x:Nd):aT:=⟨t.ag,t.name,t.bG,t.ia,t.ic,t.init,t.ca,t.cc,t.code,t.q,x⟩
theorem alp(t:aT):mG t=xI (bare t) (bO (bare t).node):=by
 unfold mG tW xI bare tH gy;rw[Cj];rfl
theorem ayY(u:aT):cM (xI u (bO u.node))=cM u:=by
 have hA:nL (xI u (bO u.node))=nL u:=ayE _ _;have hN:kS (xI u (bO u.node))=kS u:=by unfold kS A8;rw[hA];rfl
 have h1:ew (xI u (bO u.node))=ew u:=rfl;have h2:gT (xI u (bO u.node))=gT u:=rfl;have h3:dh (xI u (bO u.node)).ag (xI u (bO u.node)).q (xI u (bO u.node)).node=dh u.ag u.q u.node:=Uu _ _ _;unfold cM;rw[hA,hN,h1,h2,h3];rfl
theorem QT(t:aT):cM (mG t)=cM t:=by
 rw[alp,ayY,ayX]
def wN(t:aT)(z:Tx):Tx:=OJ t.ag++(t.name++10::((if t.bG=[]then[]else[34]++t.bG++[34,10])++123::10::(t.init.flatMap (jL t.ag)++125::10::(((nZ t).flatMap fun l=>l++[10])++(kD t.ag t.q t.node++z)))))
theorem an6(t:aT):uI t=wN t [10]:=by
 unfold uI wN CV rW OJ;simp
theorem ajh{ag:Int}: ∀{l:List Cd},lC ag l=0-> ∀x∈l,∀i∈x.l,kO ag i=true
 |[],_,x,h=>by cases h
 | y::l,h,x,hx=>by
   unfold lC at h
   split at h
   ·rename_i e
    rcases cq.1 hx with rfl|hx
    ·unfold qu at e
     split at e
     ·rename_i e2;exact fP.1 e2
     cases e
    exact ajh h x hx
   rename_i e;exact absurd h e
theorem amc{t:aT}(h:ew t=0):L8 t/\t.code≠[]/\t.code.length<=16:=by
 unfold ew at h
 split at h
 ·cases h
 rename_i h1
 split at h
 ·cases h
 exact⟨ajh h,fun e=>h1 (.inl (by rw[e];simp)),ah⟩
theorem ay0{t:aT}(h:cM t=0):bD t.ag=true/\ju t.name=true/\jH t.bG=true/\ew t=0/\gT t=0/\dh t.ag t.q t.node=0:=by
 unfold cM at h
 split at h
 ·cases h
 rename_i h1
 split at h
 ·cases h
 rename_i h2
 split at h
 ·rename_i h3;exact absurd h h3
 rename_i h3
 split at h
 ·rename_i h4;exact absurd h h4
 rename_i h4
 split at h
 ·rename_i h5;exact absurd h h5
 rename_i h5
 refine⟨by simpa using h1,?_,?_,by simpa using h3,by simpa using h4,by simpa using h5⟩
 ·cases e:ju t.name with
  |true=>rfl
  |false=>exact absurd (.inl e) h2
 cases e:jH t.bG with
 |true=>rfl
 |false=>exact absurd (.inr e) h2
theorem alw{t:aT}(h:gT t=0): ∀x∈t.init,jm t.ag t.code.length x=true:=by
 unfold gT at h
 split at h
 ·cases h
 split at h
 ·rename_i h1
  simp only[bV]at h1;exact fP.1 h1.1
 cases h
theorem alF{t:aT}(N:Nat)(h:cM t=0)(z:Tx)(hz:Bl z)(hl:(wN t z).length<=262144):mX N (wN t z)= .ok (mG t):=by
 obtain⟨ha,h1,h2,h3,h4,h5⟩:=ay0 h;obtain⟨c1,c2,c3⟩:=amc h3;obtain⟨k1,k2⟩:=anh h5 hz;have li:(t.init.flatMap (jL t.ag)).length<=262144:=by unfold wN at hl;simp only[bu,cy]at hl;omega
 have lc:(kD t.ag t.q t.node++z).length<=262144:=by unfold wN at hl;simp only[bu,cy]at hl ⊢; omega
 refine T9.2 ⟨_,_,_,_,_,_,_,_,_,_,_,aoW N _ ha h1,anp N _ h2,apT N ha c3 (alw h4) li _,axY N ha c1 c2 c3 (by rw[k1];exact k2),?_,rfl⟩;unfold jX
 dsimp only
 rw[k1,asK h5 z hz lc]
theorem avX{t:aT}(h:cM t=0)(z:Tx)(hz:Bl z)(hl:(wN t z).length<=262144):gH (wN t z)= .ok (mG t):=
 ahP.2 ⟨hl,alF _ h z hz hl,by rw[QT];exact h⟩
theorem atq{t:aT}(h:(nw t).2=0):cM t=0/\(wN t [10]).length<=262144/\(nw t).1=wN t [10]:=by
 unfold nw at h⊢
 split at h
 ·rename_i e;exact absurd h e
 rename_i e
 split at h
 ·cases h
 rename_i e2
 rw[ai e,ai e2,<-an6];exact⟨by simpa using e,ah,rfl⟩
theorem atp{t:aT}(h:(nw t).2=0):gH (nw t).1= .ok (mG t):=by
 obtain⟨a,b,c⟩:=atq h;rw[c];exact avX a [10] ay b
theorem PV{s:Tx}(h:aU s=true):s.length<=32:=by
 cases s with
 |nil=>cases h
 | cons c r=>
   unfold aU at h;simp only[bV,dw]at h;simp only[cy];omega
def zV(x:bF):Prop:=(-2147483648<=x.aO/\x.aO<=2147483647)/\(-2147483648<=x.aR/\x.aR<=2147483647)/\x.aj.length<=32/\x.bH.length<=32
theorem ayo{ag:Int}{h:Tx}{x:bF}(e:mQ ag h=some x):zV x:=by
 unfold mQ at e
 split at e
 ·split at e
  ·rename_i hn
   cases e;exact aeC
  cases e
 split at e
 ·split at e
  ·rename_i n r hn hr
   split at e
   ·rename_i hb
    cases e;have h1:=(GX hr).1;have h2:dU ag<=32:=by unfold dU;split<;>decide
    exact⟨⟨by simp only;omega,by simp only;omega⟩,⟨by simp only;omega,by simp only;omega⟩,aq,aq⟩
   cases e
  cases e
 split at e
 ·rename_i hn
  cases e;exact aeC
 cases e
theorem azr{v l:Tx}{n:Int}(h:fA v=some (l,n)):l.length<=32:=by
 unfold fA at h
 split at h
 ·cases h;simp
 split at h
 ·rename_i hn;cases h;exact PV hn
 cases h
theorem apO{ag:Int}{s:Tx}{x:bF}(h:jr ag s=some x):zV x:=by
 unfold jr at h
 split at h
 ·cases h
 cases h1:mQ ag (aG (s.takeWhile (· != 61)))with
 |none=>rw[h1,ql]at h;cases h
 | some y=>
   cases h2:fA (aG ((s.dropWhile (· != 61)).drop 1))with
   |none=>rw[h2,AR]at h;cases h
   | some p=>
     obtain⟨l,n⟩:=p;rw[h1,h2]at h;cases h;obtain⟨a,b,c,d⟩:=ayo h1;exact⟨a,b,c,azr h2⟩
theorem X5{ag:Int}{N:Nat}: ∀{L:List Tx} {v:Tx} {aD l:List bF},(∀x∈aD,zV x)->iS ag N L v aD= .ok l-> ∀x∈l,zV x
 |[],v,aD,l,ha,h=>by cases h;exact ha
 | p::L,v,aD,l,ha,h=>by
   rw[iS]at h
   split at h
   ·exact X5 ha h
   split at h
   ·cases h
   rename_i y hy
   refine X5 (fun x hx=>?_) h;rcases fc.1 hx with hx|hx
   ·exact ha x hx
   rcases kJ.1 hx with rfl
   exact apO hy
theorem afR{ag:Int}{N:Nat}{r r1:Tx}{l:List bF}(h:gj ag N r= .ok (l,r1)): ∀x∈l,zV x:=by
 unfold gj at h
 dsimp only at h
 split at h
 ·cases h
 split at h
 ·cases h
 rename_i m hm
 cases h;exact X5 (fun x hx=>absurd hx aq) hm
def xX(i:aL):Prop:=i.aj.length<=32/\i.av.length<=32
theorem al3{i:aL}(h:fh i=true):xX i:=by
 unfold fh at h;rw[bV,dw]at h;obtain⟨h1,h2⟩:=h;rw[h2];unfold eM at h1;unfold zG xX
 split at h1
 ·rename_i h0
  rw[ak h0];exact Vb
 rename_i h0
 rw[ai h0]
 split at h1
 ·rename_i h3
  rw[ak h3];exact Vb
 rename_i h3
 rw[ai h3]
 split at h1
 ·rename_i h4
  rw[ak h4];exact Vb
 rename_i h4
 rw[ai h4]
 split<;>exact⟨ aq,aq⟩
theorem al1{i:aL}(h:cD i=true):xX i:=by
 unfold cD at h;simp only[bV,dw]at h;obtain⟨⟨⟨⟨h1,h2⟩, -⟩, -⟩, -⟩:=h
 have hl:i.op=11\/i.op=12->i.av.length<=32:=fun h0=>by
  unfold gm at h1;rw[ai ah,ak h0]at h1;exact PV h1
 rw[h2];unfold rH xX
 repeat' split
 all_goals first
  |(refine⟨?_,?_⟩<;>(simp;done))
  |exact⟨dW _,hl (.inl (by assumption))⟩
  |exact⟨dW _,hl (.inr (by assumption))⟩
theorem apX{ag:Int}{s:Tx}{i:aL}(h:oI ag s=some i):xX i:=by
 unfold oI at h
 split at h
 ·exact al3 (asR h)
 exact al1 (asV h)
def En(l:List (List aL)):Prop:= ∀r∈l,∀i∈r,xX i
theorem Uj{ag:Int}{N:Nat}: ∀{L:List Tx} {v:Tx} {aD l:List (List aL)},En aD->fD ag N L v aD= .ok l->En l
 |[],v,aD,l,ha,h=>by cases h;exact ha
 |c::L,v,[],l,ha,h=>by cases h;exact ha
 | c::L,v,x::aD,l,ha,h=>by
   have ha2:En aD:=fun r hr=>ha r (zW _ hr)
   rw[fD]at h
   split at h
   ·split at h
    ·cases h
    rename_i r hr
    cases h;intro y hy;rcases cq.1 hy with rfl|hy
    ·exact ha _ (I8 ..)
    exact Uj ha2 hr y hy
   split at h
   ·cases h
   rename_i i hi
   split at h
   ·cases h
   rename_i r hr
   cases h;intro y hy;rcases cq.1 hy with rfl|hy
   ·intro j hj
    rcases fc.1 hj with hj|hj
    ·exact ha _ (I8 ..) j hj
    rcases kJ.1 hj with rfl
    exact apX hi
   exact Uj ha2 hr y hy
theorem ajn{ag:Int}{N:Nat}: ∀{n:Nat} {r:Tx} {aD l:List (List aL)} {r1:Tx},En aD->lD ag N n r aD= .ok (l,r1)->En l
 |0,r,aD,l,r1,ha,h=>by cases h;exact ha
 | n+1,r,aD,l,r1,ha,h=>by
   rw[lD]at h
   try dsimp only at h
   split at h
   ·cases h;exact ha
   split at h
   ·cases h
   split at h
   ·cases h
   rename_i m hm
   exact ajn (Uj ha hm) h
theorem ajK{ag:Int}{N:Nat}{r r1:Tx}{l:List (List aL)}(h:gB ag N r= .ok (l,r1)):En l:=by
 unfold gB at h
 dsimp only at h
 split at h
 ·cases h
 refine ajn (fun x hx=>?_) h
 rw[aay hx];intro i hi;cases hi
theorem OL{N:Nat}{r n r1:Tx}{a:Int}(h:iF N r= .ok (a,n,r1)):bD a=true/\n.length<=r.length:=by
 unfold iF at h
 dsimp only at h
 split at h
 ·cases h
 rename_i w m hw
 split at h
 ·cases h
 rename_i b hb
 cases h;refine⟨?_,?_⟩
 ·unfold Cp at hb
  split at hb
  ·cases hb;rfl
  split at hb
  ·cases hb;rfl
  cases hb
 unfold sN at hw
 dsimp only at hw
 split at hw
 ·cases hw
 cases hw
 have h1:=(iu (l:=(bB (aM r)).dropWhile nb) aH).length_le;have h2:=(iu (l:=bB (aM r)) nb).length_le
 have h3:(bB (aM r)).length<=(aM r).length:=by
  exact Vc
 have h6:=vB r;omega
theorem ab3{N:Nat}{r c r1:Tx}(h:fV N r= .ok (c,r1)):c.length<=r.length:=by
 unfold fV at h
 dsimp only at h
 have h3:(bB (aM r)).length<=(aM r).length:=by
  exact Vc
 have h6:=vB r
 split at h
 ·cases h;simp
 split at h
 ·cases h
 cases h
 have h7:(aG ((bB (aM r)).drop 1).dropLast).length<=(((bB (aM r)).drop 1).dropLast).length:=lZ _;rw[Ev,dG]at h7;omega
theorem XZ{ag:Int}{N:Nat}: ∀{L:List Tx} {v:Tx} {aD l:List bF},iS ag N L v aD= .ok l->l.length<=aD.length+L.length
 |[],v,aD,l,h=>by cases h;simp
 | p::L,v,aD,l,h=>by
   rw[iS]at h
   split at h
   ·have:=XZ h
    simp only[cy];omega
   split at h
   ·cases h
   have:=XZ h
   simp only[cy,bu,je]at this ⊢; omega
theorem afN{ag:Int}{N:Nat}{r r1:Tx}{l:List bF}(h:gj ag N r= .ok (l,r1)):l.length<=r.length+1:=by
 unfold gj at h
 dsimp only at h
 split at h
 ·cases h
 split at h
 ·cases h
 rename_i m hm
 cases h;have h1:=XZ hm;have h2:=vE 59 (((aM r).takeWhile (· != 125)).drop 1);have h3:=(Cn (l:=aM r) (· != 125)).length_le;have h4:=vB r;rw[dG]at h2;simp only[je]at h1;omega
def Bp(n k:Nat)(l:List (List aL)):Prop:=l.length<=n/\ ∀r∈l,r.length<=k
theorem Uh{ag:Int}{N n k:Nat}: ∀{L:List Tx} {v:Tx} {aD l:List (List aL)},Bp n k aD->fD ag N L v aD= .ok l->Bp n (k+1) l
 |[],v,aD,l,ha,h=>by cases h;exact⟨ha.1,fun r hr=>Nat.le_succ_of_le (ha.2 r hr)⟩
 |c::L,v,[],l,ha,h=>by cases h;exact⟨dW _,fun r hr=>by cases hr⟩
 | c::L,v,x::aD,l,ha,h=>by
   have h0:aD.length+1<=n:=ha.1;have ha2:Bp (n-1) k aD:=⟨ ah,fun r hr=>ha.2 r (zW _ hr)⟩;have hx:=ha.2 x (I8 ..);rw[fD]at h
   split at h
   ·split at h
    ·cases h
    rename_i r hr
    cases h;obtain⟨i1,i2⟩:=Uh ha2 hr;refine⟨by simp only[cy];omega,fun y hy=>?_⟩;rcases cq.1 hy with rfl|hy
    ·omega
    exact i2 y hy
   split at h
   ·cases h
   split at h
   ·cases h
   rename_i r hr
   cases h;obtain⟨i1,i2⟩:=Uh ha2 hr;refine⟨by simp only[cy];omega,fun y hy=>?_⟩;rcases cq.1 hy with rfl|hy
   ·exact mZ
   exact i2 y hy
theorem ajk{ag:Int}{N m:Nat}: ∀{n k:Nat} {r:Tx} {aD l:List (List aL)} {r1:Tx},Bp m k aD->lD ag N n r aD= .ok (l,r1)->Bp m (k+n) l
 |0,k,r,aD,l,r1,ha,h=>by cases h;exact ha
 | n+1,k,r,aD,l,r1,ha,h=>by
   rw[lD]at h
   try dsimp only at h
   split at h
   ·cases h;exact⟨ha.1,fun r hr=>dY (ha.2 r hr) (Nat.le_add_right _ _)⟩
   split at h
   ·cases h
   split at h
   ·cases h
   rename_i y hy
   obtain⟨i1,i2⟩:=ajk (Uh ha hy) h;exact⟨i1,fun r hr=>by have:=i2 r hr;omega⟩
theorem ajH{ag:Int}{N:Nat}{r r1:Tx}{l:List (List aL)}(h:gB ag N r= .ok (l,r1)):Bp (r.length+1) (r.length+1) l:=by
 unfold gB at h
 dsimp only at h
 split at h
 ·cases h
 have h1:(gV (aM r)).length<=r.length+1:=by
  have h2:=vE 124 (bB (aM r)).dropLast
  have h3:(bB (aM r)).length<=(aM r).length:=by
   exact Vc
  have h6:=vB r;rw[Ev]at h2;unfold gV;omega
 have h7:Bp (r.length+1) 0 (aBg (gV (aM r)).length ([]:List aL)):=⟨by rw[SR];exact h1,fun x hx=>by rw[aay hx];exact aX _⟩;have:=ajk h7 h
 rwa[jT]at this
open Go.Sort
theorem Us{t:aT}(h:ew t=0):1<=t.code.length/\t.code.length<=16/\ ∀x∈t.code,x.l.length<=256:=by
 unfold ew at h
 by_cases h1:t.code.length<1\/16<t.code.length
 ·rw[ak h1]at h;cases h
 rw[ai h1]at h
 by_cases h2:(t.code.any fun x=>decide (256<x.l.length))=true
 ·rw[ak h2]at h;cases h
 refine⟨ ah,ah,fun x hx=>?_⟩
 by_cases h3:x.l.length<=256
 ·exact h3
 exact absurd (qN.2 ⟨x,hx,aC⟩) h2
theorem TU{t:aT}(h:gT t=0):t.init.length<=1024:=by
 unfold gT at h
 by_cases h1:1024<t.init.length
 ·rw[ak h1]at h;cases h
 omega
theorem auP(t:aT)(ha:bD t.ag=true)(w:aAX)(h:jz w t):aA7 prog 167 #[vT t] w (bg w (.int .i64 (ew t))):=by
 have:t.ag=1\/t.ag=2:=by unfold bD at ha;simpa using ha
 rcases this with h1|h1
 ·exact auQ t h1 w h
 exact auR t h1 w h
theorem Y3{t:aT}(h:bD t.ag=false):cM t=5:=by unfold cM;rw[ak h]
theorem Hl{t:aT}(h:bD t.ag=true)(h2:(ju t.name&&jH t.bG)=false):cM t=130:=by
 unfold cM;rw[ai (by rw[h];simp),ak (by cases h3:ju t.name<;>simp_all)]
theorem aj0{t:aT}(h:bD t.ag=true)(h2:(ju t.name&&jH t.bG)=true)(h3:ew t≠0):cM t=ew t:=by
 rw[bV]at h2;unfold cM;rw[ai (by rw[h];simp),ai (by rw[h2.1,h2.2];simp),ak h3]
theorem ajZ{t:aT}(h:bD t.ag=true)(h2:(ju t.name&&jH t.bG)=true)(h3:ew t=0)(h4:gT t≠0):cM t=gT t:=by
 rw[bV]at h2;unfold cM;rw[ai (by rw[h];simp),ai (by rw[h2.1,h2.2];simp),ai (by rw[h3];simp),ak h4]
theorem Y4{t:aT}(h:bD t.ag=true)(h2:(ju t.name&&jH t.bG)=true)(h3:ew t=0)(h4:gT t=0):cM t=if lK t≠0 then lK t else if 64<(kS t).length then 2 else 0:=by
 rw[bV]at h2;unfold cM;rw[ai (by rw[h];simp),ai (by rw[h2.1,h2.2];simp),ai (by rw[h3];simp),ai (by rw[h4];simp)];unfold lK
 by_cases h5:dh t.ag t.q t.node=0
 ·rw[ai (c:=dh t.ag t.q t.node≠0) (aS h5),ai (c:=dh t.ag t.q t.node≠0) (aS h5)]
  by_cases h6:((nL t).any fun x=>decide ((t.code.length:Int)<=x.aO))=true
  ·rw[ak h6];simp[h6]
  rw[ai h6];simp[h6]
 rw[ak h5,ak h5,ak h5]
theorem auO(t:aT)(w:aAX)(h:jz w t):aA7 prog 91 #[vT t] w (bg w (.int .i64 (cM t))):=by
 have A:=al w (dZ t);have b0:=kf.new w t;have HI:=af (h.keep A);have HA:=af A;obtain⟨ab,hab⟩:=aF (bD t.ag);have CA:=af (show ∀w,aA7 prog 164 #[.int .i64 t.ag] w fun e w'=>e= .returned (.bool ab)/\w=w' from fun w=>hab▸auV t.ag w);obtain⟨tb,htb⟩:=aF (ju t.name);have CT:=af (show ∀w,aA7 prog 165 #[.string (tx t.name)] w fun e w'=>e= .returned (.bool tb)/\w=w' from fun w=>htb▸auJ t.name h.name w);obtain⟨cb,hcb⟩:=aF (jH t.bG);have CC:=af (show ∀w,aA7 prog 166 #[.string (tx t.bG)] w fun e w'=>e= .returned (.bool cb)/\w=w' from fun w=>hcb▸auS t.bG h.bG w);have HB:=af hab;have HTC:=af (show(ju t.name&&jH t.bG)=(tb&&cb) by rw[htb,hcb]);cases ab with
 | false=>
   have HZ:=af (Y3 HB.oo);go_in;go_upto_region 1 with(fail);generalize w.alloc (dZ t)=W1 at*;obtain⟨c0,c1,c2,c3,c4,c5,c6,c7,c8,c9,c10,c11⟩:=b0.cells
   go_wp2_with (go_at_call 164;refine aK (CA.oo _) ?_)
   exact JS
 | true=>
   obtain⟨ok,hok⟩:=aF (tb&&cb);have rL:=af (HTC.oo.trans hok);cases ok with
   | false=>
     have HZ:=af (Hl HB.oo rL.oo);go_in;go_upto_region 1 with(fail);generalize w.alloc (dZ t)=W1 at*;obtain⟨c0,c1,c2,c3,c4,c5,c6,c7,c8,c9,c10,c11⟩:=b0.cells;cases tb<;>cases cb
     all_goals(try(exfalso;simp at hok;done))
     all_goals
      go_wp2_with (first|(go_at_call 164;refine aK (CA.oo _) ?_)|(go_at_call 165;refine aK (CT.oo _) ?_)|(go_at_call 166;refine aK (CC.oo _) ?_))
      exact JS
   | true=>
     obtain⟨rfl,rfl⟩:tb=true/\cb=true:=aS hok;have CO:=auP t HB.oo _ HI.oo;obtain⟨e1,Ka⟩:=aF (ew t);rw[Ka]at CO;have CO:=af CO;have nE:=af Ka;go_in;go_upto_region 1 with(fail);generalize w.alloc (dZ t)=W1 at*;obtain⟨c0,c1,c2,c3,c4,c5,c6,c7,c8,c9,c10,c11⟩:=b0.cells
     go_wp2_with (first|(go_at_call 164;refine aK (CA.oo _) ?_)|(go_at_call 165;refine aK (CT.oo _) ?_)|(go_at_call 166;refine aK (CC.oo _) ?_))
     refine aQ CO.oo fun w2 E=>?_
     by_cases h1:e1=0
     rotate_left
     ·have z:(e1 != 0)=true:=aS h1
      exact aeD
     subst h1;obtain⟨k1,k2,k3⟩:=Us nE.oo;have Bx:=af k3;obtain⟨c0,c1,c2,c3,c4,c5,c6,c7,c8,c9,c10,c11⟩:=(b0.below E).cells;have CO:=auT t HB.oo ah w2 (HI.oo.keep E);obtain⟨e2,si⟩:=aF (gT t);rw[si]at CO;have CO:=af CO;have rK:=af si;go_wp2_with fail;refine aQ CO.oo fun w3 E3=>?_
     have E:=aI E E3
     by_cases h2:e2=0
     rotate_left
     ·have z:(e2 != 0)=true:=aS h2
      exact acg
     subst h2;have k4:=TU rK.oo;have HT:=af (Y4 HB.oo rL.oo nE.oo rK.oo);obtain⟨c0,c1,c2,c3,c4,c5,c6,c7,c8,c9,c10,c11⟩:=(b0.below E).cells;have CO:=auN t ah w3 (HI.oo.keep E);obtain⟨e3,Kb⟩:=aF (lK t);rw[Kb]at CO;have CO:=af CO;have Ia:=af Kb;go_wp2_with fail;refine aQ CO.oo fun w4 E4=>?_
     have E:=aI E E4
     by_cases h3:e3=0
     rotate_left
     ·have z:(e3 != 0)=true:=aS h3
      have HZ:=af (show cM t=e3 by rw[HT.oo,Ia.oo,ak h3]);exact qc
     subst h3;obtain⟨c0,c1,c2,c3,c4,c5,c6,c7,c8,c9,c10,c11⟩:=(b0.below E).cells;have LO:=af (auX t k4 k2 Bx.oo w4 (HI.oo.keep E));go_wp2_with fail;refine LO.oo.mono ?_;rintro e w5 ⟨a5,c5',rfl,o5,E5⟩;have E:=aI E E5;have ig:=af (show cM t=if 64<(kS t).length then 2 else 0 by rw[HT.oo,Ia.oo,ai ah]);have hcap:=o5.cap.2.1;unfold Go.maxLen at hcap;have hcap2:=o5.cap.1
     by_cases J0:64<(kS t).length
     ·have HZ:=af (show cM t=2 by rw[ig.oo,ak J0])
      exact qc
     have HZ:=af (show cM t=0 by rw[ig.oo,ai J0])
     exact qc
theorem anX(t:aT)(ha:bD t.ag=true)(w:aAX)(h:jz w t):aA7 prog 69 #[vT t] w (bg w (.int .i64 (ew t))):=by
 have:t.ag=1\/t.ag=2:=by unfold bD at ha;simpa using ha
 rcases this with h1|h1
 ·exact anY t h1 w h
 exact anZ t h1 w h
theorem anq(l:Tx):((tx (Lib.trimB l 32)).toList==(tx l).toList)=uK l:=by
 rw[j9,jE,pW];exact ayK l
theorem Vh(t:aT)(w:aAX)(h:jz w t):aA7 prog 25 #[vT t] w (bg w (.int .i64 (cM t))):=by
 have A:=al w (dZ t);have b0:=kf.new w t;have HI:=af (h.keep A);have HA:=af A;obtain⟨ab,hab⟩:=aF (bD t.ag);have CA:=af (show ∀w,aA7 prog 66 #[.int .i64 t.ag] w fun e w'=>e= .returned (.bool ab)/\w=w' from fun w=>hab▸an2 t.ag w);obtain⟨tb,htb⟩:=aF (rC 33 t.name);have CT:=af (show ∀w,aA7 prog 67 #[.string (tx t.name),.int .u8 33] w fun e w'=>e= .returned (.bool tb)/\w=w' from fun w=>htb▸aeK 33 ah ah t.name h.name w);obtain⟨cb,hcb⟩:=aF (rC 32 t.bG);have CC:=af (show ∀w,aA7 prog 67 #[.string (tx t.bG),.int .u8 32] w fun e w'=>e= .returned (.bool cb)/\w=w' from fun w=>hcb▸aeK 32 ah ah t.bG h.bG w);have CF:=af (fun w=>ayR t.bG h.bG w);obtain⟨fb,hfb⟩:=aF (uK t.bG);have zf:((tx (Lib.trimB t.bG 32)).toList==(tx t.bG).toList)=fb:=by rw[anq,hfb]
 have hs1:(tx t.name).size=t.name.length:=bC _;have hs2:(tx t.bG).size=t.bG.length:=bC _;have uR:=h.name;have gh:=h.bG;have HB:=af hab;have Io:=af (show ju t.name=(decide (1<=t.name.length)&&(decide (t.name.length<=1024)&&tb)) by unfold ju;rw[htb]);have ZC:=af (show jH t.bG=(decide (t.bG.length<=262144)&&(cb&&fb)) by unfold jH;rw[hcb,hfb]);cases ab with
 | false=>
   have HZ:=af (Y3 HB.oo);go_in;go_upto_region 1 with(fail);generalize w.alloc (dZ t)=W1 at*;obtain⟨c0,c1,c2,c3,c4,c5,c6,c7,c8,c9,c10,c11⟩:=b0.cells
   go_wp2_with (go_at_call 66;refine aK (CA.oo _) ?_)
   exact JS
 | true=>
   obtain⟨n1,nc⟩: ∃n,t.name.length=n:=⟨_,rfl⟩;rw[nc]at hs1 Io uR
   by_cases hT:n1<1\/1024<n1\/tb=false
   ·have HZ:=af (Hl HB.oo (show _=false by
     rw[Io.oo];rcases hT with h|h|h
     ·rw[eZ ah];rfl
     ·rw[eZ (show ¬n1<=1024 by omega)];simp
     rw[h];simp))
    have hT3:n1<1\/1024<n1\/(1<=n1/\n1<=1024/\tb=false):=by
     rcases hT with h|h|h
     ·exact .inl h
     ·exact Av
     by_cases h1:n1<1
     ·exact .inl h1
     by_cases h2:1024<n1
     ·exact .inr (.inl h2)
     exact .inr (.inr ⟨ ah,ah,h⟩)
    go_in;go_upto_region 1 with(fail);generalize w.alloc (dZ t)=W1 at*;obtain⟨c0,c1,c2,c3,c4,c5,c6,c7,c8,c9,c10,c11⟩:=b0.cells;rcases hT3 with h|h|⟨h,h',h''⟩
    rotate_left 2
    ·subst h''
     go_wp2_with (first|(go_at_call 66;refine aK (CA.oo _) ?_)|(go_at_call 67;refine aK (CT.oo _) ?_))
     exact JS
    all_goals
     go_wp2_with (go_at_call 66;refine aK (CA.oo _) ?_)
     exact JS
   have h11:1<=n1:=ah
   have h12:n1<=1024:=ah;obtain rfl:tb=true:=by cases tb with|true=>rfl|false=>exact absurd (.inr (.inr rfl)) hT
   have akD:=af (show ju t.name=true by rw[Io.oo,eU h11,eU h12];rfl);obtain⟨n2,hn2⟩: ∃n,t.bG.length=n:=⟨_,rfl⟩;rw[hn2]at hs2 ZC gh;obtain⟨ok,hok⟩:=aF (decide (n2<=262144)&&(cb&&fb));have rL:=af (show(ju t.name&&jH t.bG)=ok by rw[akD.oo,ZC.oo,hok];rfl);go_in;go_upto_region 1 with(fail);generalize w.alloc (dZ t)=W1 at*;obtain⟨c0,c1,c2,c3,c4,c5,c6,c7,c8,c9,c10,c11⟩:=b0.cells;go_upto_region 5 with(first|(go_at_call 66;refine aK (CA.oo _) ?_)|(go_at_call 67;refine aK (CT.oo _) ?_));have cA:=fun(d:Nat) (os:Array Obj)=>Calls.regrown_of (yY ((CC.oo (grow (redrawn W1 d) os)).mono fun e w' hh=>⟨hh.1,by rw[<-hh.2];exact bS _ _⟩))
   have cB:=fun(d:Nat) (os:Array Obj)=>Calls.regrown_of (yY (CF.oo (grow (redrawn W1 d) os)))
   have hsz:(n2:Int)=t.bG.length->True:=fun _=>trivial
   have c2r:=cell_regrown c2
   by_cases azZ:262144<n2
   ·have d2:decide (262144<(n2:Int))=true:=aC
    have HZ:=af (Hl HB.oo (show _=false by rw[rL.oo,<-hok,eZ ah];rfl));refine wp_region_quiet_below bM bM ?_
    repeat(go_big_quiet_step (first|exact cA _ _|exact cB _ _))
    exact UJ
   have aoE:n2<=262144:=ah
   have d2:decide (262144<(n2:Int))=false:=aC;rw[eU aoE,yc]at hok;cases cb with
   | false=>
     have HZ:=af (Hl HB.oo (show _=false by rw[rL.oo,<-hok];rfl));refine wp_region_quiet_below bM bM ?_
     repeat(go_big_quiet_step (first|exact cA _ _|exact cB _ _))
     exact UJ
   |true=>
   cases fb with
   | false=>
     have HZ:=af (Hl HB.oo (show _=false by rw[rL.oo,<-hok];rfl));refine wp_region_quiet_below bM bM ?_
     repeat(go_big_quiet_step (first|exact cA _ _|exact cB _ _))
     exact UJ
   |true=>
   obtain rfl:ok=true:=by rw[<-hok];rfl
   refine wp_region_quiet_below bM bM ?_
   repeat(go_big_quiet_step (first|exact cA _ _|exact cB _ _))
   refine mW ?_;intro _ hw';obtain⟨⟨dq,dJ⟩,hw''⟩:=hw';subst hw'';have E:=below_regrown W1 dq dJ;generalize grow (redrawn W1 dq) dJ=W5 at*;obtain⟨c0,c1,c2,c3,c4,c5,c6,c7,c8,c9,c10,c11⟩:=(b0.below E).cells;have CO:=anX t HB.oo W5 (HI.oo.keep E);obtain⟨e1,Ka⟩:=aF (ew t);rw[Ka]at CO;have CO:=af CO;have nE:=af Ka;go_wp2_with fail;refine aQ CO.oo fun w2 E2=>?_
   have E:=aI E E2
   by_cases h1:e1=0
   rotate_left
   ·have z:(e1 != 0)=true:=aS h1
    exact aeD
   subst h1;obtain⟨k1,k2,k3⟩:=Us nE.oo;have Bx:=af k3;obtain⟨c0,c1,c2,c3,c4,c5,c6,c7,c8,c9,c10,c11⟩:=(b0.below E).cells;have CO:=anV t ah w2 (HI.oo.keep E);obtain⟨e2,si⟩:=aF (gT t);rw[si]at CO;have CO:=af CO;have rK:=af si;go_wp2_with fail;refine aQ CO.oo fun w3 E3=>?_
   have E:=aI E E3
   by_cases h2:e2=0
   rotate_left
   ·have z:(e2 != 0)=true:=aS h2
    exact acg
   subst h2;have k4:=TU rK.oo;have HT:=af (Y4 HB.oo rL.oo nE.oo rK.oo);obtain⟨c0,c1,c2,c3,c4,c5,c6,c7,c8,c9,c10,c11⟩:=(b0.below E).cells;have CO:=NH t.ag t.q t.node w3 (HI.oo.keep E).node;obtain⟨e3,Kb⟩:=aF (dh t.ag t.q t.node);rw[Kb]at CO;have CO:=af CO;have qD:=af (show lK t=if e3≠0 then e3 else if(nL t).any fun x=>decide ((t.code.length:Int)<=x.aO)then 80 else 0 by unfold lK;rw[Kb]);go_wp2_with fail;refine aQ CO.oo fun w4 E4=>?_
   have E:=aI E E4
   by_cases h3:e3=0
   rotate_left
   ·have z:(e3 != 0)=true:=aS h3
    have HZ:=af (show cM t=e3 by
     have:lK t=e3:=by rw[qD.oo,ak h3]
     rw[HT.oo,this,ak h3])
    exact qc
   subst h3;have qD:=af (show lK t=if(nL t).any fun x=>decide ((t.code.length:Int)<=x.aO)then 80 else 0 by rw[qD.oo,ai ah]);obtain⟨c0,c1,c2,c3,c4,c5,c6,c7,c8,c9,c10,c11⟩:=(b0.below E).cells;have TH:=af (aeH t w4 (HI.oo.node.keep E));have htl:(nL t).length<=1024:=QO t.q t.node;obtain⟨T,hT⟩:=aF (nL t);rw[hT]at TH htl qD;go_wp2_with fail;refine TH.oo.mono ?_;rintro e w5 ⟨a2,oC,rfl,o2,E5⟩;have els:=(au.els o2 fM ah ah).1;have E:=aI E E5;go_wp2_with fail
   go_loopw [67] (fun i wr=> ∃j:Nat,j<=T.length/\i= .int .i64 j/\aAW W1.heap.size W1 wr/\cQ oD wr a2 T/\Hid (∀(m:Nat) (x:Th),m<j->T[m]? =some x->x.aO<t.code.length)) (fun i _=>T.length-(intOf i).toNat)
   ·exact aek
   obtain⟨j,hj,rfl,E,els,HJ⟩:=hrel
   by_cases eX:j<T.length
   ·obtain⟨x,hx⟩: ∃x,T[j]? =some x:=⟨_,aV eX⟩
    obtain⟨q0,q1,q2⟩:=els.th hx;have ix:=els.idx lY fM j eX oC;have HX:=af hx;go_upto_region 19 with(fail);have A3:=al wr (oK x);have x0:aW (wr.alloc (oK x)) wr.heap.size (oD x):=aW.new _ _ _;generalize wr.alloc (oK x)=W7 at*;have E:=aI E A3;have els:=els.below A3;have i0:=x0.get 0 _ rfl;obtain⟨c0,c1,c2,c3,c4,c5,c6,c7,c8,c9,c10,c11⟩:=(b0.below E).cells
    by_cases tS:(t.code.length:Int)<=x.aO
    ·have HZ:=af (show cM t=80 by
      have h9:lK t=80:=by rw[qD.oo,ak];rw[qN];exact⟨x,cV HX.oo,by simpa using tS⟩
      rw[HT.oo,h9];simp)
     exact qc
    have Wr:x.aO<t.code.length:=ah
    have mB: ∀(m:Nat) (y:Th),m<j+1->T[m]? =some y->y.aO<t.code.length:=fun m y hm hy=>by
     rcases fO.1 hm with h|h
     ·exact HJ.oo m y h hy
     subst h;rw[HX.oo]at hy;cases hy;exact Wr
    have mB:=af mB;go_wp2_with fail
    exact ael
   obtain rfl:j=T.length:=ah
   have Iq:=af (show lK t=0 by
    rw[qD.oo,ai];rw[qN];rintro⟨x,hx,h2⟩;obtain⟨k,hk⟩:=pE.1 hx;have:=HJ.oo k x (bt.1 hk).1 hk;simp at h2;omega)
   have ig:=af (show cM t=if 64<(kS t).length then 2 else 0 by rw[HT.oo,Iq.oo,ai ah]);obtain⟨c0,c1,c2,c3,c4,c5,c6,c7,c8,c9,c10,c11⟩:=(b0.below E).cells;have LO:=af (fileNames t k4 k2 Bx.oo wr (HI.oo.keep E));go_wp2_with fail;refine LO.oo.mono ?_;rintro e w8 ⟨a8,c8',rfl,t8,E8⟩;have E:=aI E E8;have hcap:=t8.len
   by_cases J0:64<(kS t).length
   ·have HZ:=af (show cM t=2 by rw[ig.oo,ak J0])
    exact qc
   have HZ:=af (show cM t=0 by rw[ig.oo,ai J0])
   exact qc
def di(s:Tx)(a b:Nat):Tx:=(s.take b).drop a
theorem QE{s:Tx}{a b:Nat}(hb:b<=s.length):(di s a b).length=b-a:=by unfold di;rw[dG,lI];omega
theorem QD{s:Tx}{a b i:Nat}(h:a+i<b):(di s a b)[i]? =s[a+i]? :=by
 unfold di;rw[tA,IJ h]
theorem ayZ{t:aT}(h:cM t=0):bD t.ag=true/\(ju t.name&&jH t.bG)=true/\ew t=0/\gT t=0/\lK t=0/\(kS t).length<=64:=by
 cases h1:bD t.ag with
 |false=>rw[Y3 h1]at h;cases h
 | true=>
   cases h2:(ju t.name&&jH t.bG)with
   |false=>rw[Hl h1 h2]at h;cases h
   | true=>
     by_cases h3:ew t=0
     ·by_cases h4:gT t=0
      ·rw[Y4 h1 h2 h3 h4]at h
       by_cases h5:lK t=0
       ·rw[ai (aS h5)]at h
        by_cases h6:64<(kS t).length
        ·rw[ak h6]at h;cases h
        exact⟨rfl,rfl,h3,h4,h5,ah⟩
       rw[ak h5]at h;exact absurd h h5
      rw[ajZ h1 h2 h3 h4]at h;exact absurd h h4
     rw[aj0 h1 h2 h3]at h;exact absurd h h3
def akP(w:aAX)(l:List Tx)(e:Ending)(w':aAX):Prop:=
 ∃a c,e= .returned (.slice a l.length c)/\dz w' w.heap.size a l.length c l/\aAW w.heap.size w w'
theorem Y2{s:Tx}{n:Nat}(h:s.length=n):(tx s).size=n:=by rw[bC,h]
theorem anQ:Builder.Extra prog Tryz.agi where
 sizeBuilder:=by kernel_rfl
 liesBuilder:=by kernel_rfl
 t5:=underlying5
 a5:=isAgg5
 z5:=sizeOf5
 v5:=zeroValue5
 infoByte:=by kernel_rfl
 cellsByte:=by kernel_rfl
 sizeByte:=by kernel_rfl
 neB5:=ay
theorem awO(z:Int)(n:Nat)(hz:z=n)(hn:n<=1000)(w:aAX):aA7 prog 209 #[.string ⟨#[32]⟩,.int .i64 z] w (bg w (.string (tx (aBg n 32)))):=by
 subst hz;refine(Any.strings_Repeat Tryz.aqt anQ ⟨#[32]⟩ n w ah (by show 1*n<=_;omega)).mono fun e w' hh=>⟨?_,hh.2⟩
 rw[hh.1];have:=Lib.repeatL_replicate 32 1 n;rw[ER]at this;rw[show(⟨#[32]⟩:ByteArray).data.toList=aBg 1 32 from rfl,this];rfl
abbrev bT:TypeId:=96
theorem an1(ws:List Nat)(cs:List Tx)(aw ac:Option Addr)(cw cc n:Nat)(w:aAX)(hw:pU w aw (ws.map fun m:Nat=>(m:Int)))(hc:cO w ac cs)
 (hwn:ws.length=n) (hcn:cs.length=n) (h1:1<=n) (FD:n<=16) (hle: ∀(k m:Nat) (s:Tx),ws[k]? =some m->cs[k]? =some s->s.length<=m/\m<=70):
 aA7 prog 125 #[.slice aw n cw,.slice ac n cc] w (bg w (.string (tx ([32]++jh (oQ ws cs)++[32,59])))):=by
 have A:=al w (.cells #[.pointer none,.slice none 0 0] bT);have b0:dR (w.alloc (.cells #[.pointer none,.slice none 0 0] bT)) w.heap.size w.heap.size bT [] []:=dR.new w bT [];have HW:=af hw;have HC:=af hc;have HN:=af (And.intro hwn (And.intro hcn hle));have hpl:(oQ ws cs).length=n:=by rw[asG ah,hcn]
 have Wi: ∀s∈oQ ws cs,s.length<=70:=by
  intro s hs;obtain⟨k,hk⟩:=pE.1 hs;have aA:=(bt.1 hk).1;rw[ahD (aV ah) (aV ah)]at hk;have:=hle k _ _ (aV ah) (aV ah);simp only[qM]at hk;subst hk;rw[ahE];omega
 have hjl: ∀k,(sx (oQ ws cs) k).length<=1300:=fun k=>by
  have:=aqd (k:=k) Wi;rw[hpl]at this;have h2:n*73<=16*73:=wz _ FD;omega
 obtain⟨r,hr⟩:=aF ([32]++jh (oQ ws cs)++[32,59]);rw[hr];have HR:=af hr;have HJ:=af hjl;have HP:=af hpl;have azW:=af Wi;clear hw hc hwn hcn hle hpl Wi hjl hr;go_in;go_upto_region 2 with(fail);generalize w.alloc (.cells #[.pointer none,.slice none 0 0] bT)=W1 at*;go_wp2_with fail
 go_loopw [10] (fun i wr=> ∃(k:Nat) (l:Tx),k<=n/\i= .int .i64 k/\aAW w.heap.size w wr/\dR wr w.heap.size w.heap.size bT [] l/\l.length<=1300/\Hid (l=sx (oQ ws cs) k)) (fun i _=>n-(intOf i).toNat)
 ·exact⟨0,[],ah,rfl,A,b0,aq,rfl⟩
 clear A b0;obtain⟨k,l,hk,rfl,E,b,hl,HL⟩:=hrel
 by_cases aA:k<n
 ·obtain⟨m,hm⟩: ∃m,ws[k]? =some m:=⟨_,aV (by rw[HN.oo.1];exact aA)⟩
  obtain⟨s,hs⟩: ∃s,cs[k]? =some s:=⟨_,aV (by rw[HN.oo.2.1];exact aA)⟩;have hsm:=HN.oo.2.2 k m s hm hs;have hpa:=ahD hm hs;have fX:vt m s=s++aBg (m-s.length) 32:=rfl;rw[fX]at hpa;obtain⟨ls,hls⟩:=aF s.length;have hsz:=Y2 hls;rw[hls]at hsm hpa;have ZO:=af hpa;have HLS:=af hls;have p0:=(HC.oo.below E).at hs;have ix:=(HC.oo.below E).idx k (by rw[HN.oo.2.1];exact aA) cc;rw[HN.oo.2.1]at ix;have TI:=HW.oo.below E;have iw:=TI.idx vg k (by rw[eT,HN.oo.1];exact aA) cw;rw[eT,HN.oo.1]at iw
  have PW:=af (show ∀w':aAX,aAW w.heap.size w w'->w'.cell? ⟨bk aw,fo aw+k,none⟩=some (.int .i64 (m:Int))from fun w' E'=>by
   have pw:=(HW.oo.below E').cell k (by rw[eT,HN.oo.1];exact aA)
   rw[show(ws.map fun m:Nat=>(m:Int))[k]'(by rw[eT,HN.oo.1];exact aA)=(m:Int)from by
    rw[EH];rw[aV (by rw[HN.oo.1];exact aA)]at hm;rw[fU hm]]at pw
   exact pw)
  have pw:=PW.oo wr E;have c1: ∀w,(aBG .add ⟨#[32]⟩ (tx s)).run prog w= .ok (.string (tx (32::s))) w:=lX [32] s (by rw[hls];simp;omega);have c2: ∀w,(aBG .add (tx (32::s)) (tx (aBg (m-ls) 32))).run prog w= .ok (.string (tx (32::(s++aBg (m-ls) 32)))) w:=lX (32::s) (aBg (m-ls) 32) (by simp[hls];omega);have RP:=af (fun(w:aAX)=>awO ((m:Int)-ls) (m-ls) ah ah w);obtain⟨p,hp⟩:=aF (32::(s++aBg (m-ls) 32));have aAF:p.length<=71:=by rw[<-hp];simp[hls];omega
  rw[hp]at c2;have jS:=af hp;clear hm hs hpa fX hls TI hp
  by_cases hk0:k=0
  ·have z0:decide ((0:Int)<(k:Int))=false:=aC
   have z1:decide (0<k)=false:=aC
   have HT:=af (show l++p=sx (oQ ws cs) (k+1) by
    have h1:=HL.oo;have h2:=ZO.oo;rw[hk0]at h1 h2⊢;rw[h1,<-jS.oo,aqc h2])
   have gh:=HJ.oo (k+1);rw[<-HT.oo]at gh;have BW:=af (fun(w':aAX) (h:dR w' w.heap.size w.heap.size bT [] l) (h2:w.heap.size<=w'.heap.size)=>Fa w.heap.size w.heap.size bT [] l p w' Jp h ah h2);obtain⟨l2,Kh⟩:=aF (l++p);rw[Kh]at BW HT gh;clear Kh hk0;go_wp2_with fail;refine aQ (RP.oo _) fun w2 E2=>?_
   have b2:=b.below E2;have E3:=aI E E2;clear b E E2 p0 pw ix iw;go_wp2_with fail;refine(BW.oo _ b2 E3.size).mono ?_;rintro e w3 ⟨rfl,b3,E4, -⟩;have E5:=E3.trans E4;clear b2 E3 E4 BW;go_wp2_with fail
   exact ach
  have HT:=af (show(l++[32,124])++p=sx (oQ ws cs) (k+1) by rw[HL.oo,<-jS.oo,aqe ZO.oo hk0])
  have gh:=HJ.oo (k+1);rw[<-HT.oo]at gh;have BA:=af (fun(w':aAX) (h:dR w' w.heap.size w.heap.size bT [] l) (h2:w.heap.size<=w'.heap.size)=>Fa w.heap.size w.heap.size bT [] l [32,124] w' Jp h aC h2);obtain⟨l1,V7⟩:=aF (l++[32,124]);have uR:l1.length<=1302:=by rw[<-V7];simp;omega
  rw[V7]at BA HT gh;have BW:=af (fun(w':aAX) (h:dR w' w.heap.size w.heap.size bT [] l1) (h2:w.heap.size<=w'.heap.size)=>Fa w.heap.size w.heap.size bT [] l1 p w' Jp h ah h2);obtain⟨l2,Kh⟩:=aF (l1++p);rw[Kh]at BW HT gh;clear Kh V7;go_wp2_with fail;refine(BA.oo _ b E.size).mono ?_;rintro e w1 ⟨rfl,b1,E1, -⟩;have E0:=E.trans E1;clear pw p0 ix b E E1 BA;have pw:=PW.oo w1 E0;go_wp2_with fail;refine aQ (RP.oo _) fun w2 E2=>?_
  have b2:=b1.below E2;have E3:=aI E0 E2;clear b1 E0 E2 pw iw;go_wp2_with fail;refine(BW.oo _ b2 E3.size).mono ?_;rintro e w3 ⟨rfl,b3,E4, -⟩;have E5:=E3.trans E4;clear b2 E3 E4 BW;go_wp2_with fail
  exact ach
 have hkn:k=n:=ah
 subst hkn
 have HT:=af (show l=[32]++jh (oQ ws cs) by
  rw[HL.oo];unfold sx;rw[ai ah,kI (by rw[HP.oo];omega)])
 have aN:l≠[]:=by rw[HT.oo];simp
 have ST:=af (TZ w.heap.size w.heap.size bT [] l wr b aN);have cc2: ∀w,(aBG .add (tx l) ⟨#[32,59]⟩).run prog w= .ok (.string (tx (l++[32,59]))) w:=lX l [32,59] aC;clear aN b;go_wp2_with fail;refine ST.oo.mono ?_;rintro _ w2 ⟨rfl,E2⟩
 go_wp2_with fail
 (try go_simp)
 go_ret;rw[show r=l++[32,59] by rw[<-HR.oo,HT.oo]];exact⟨rfl,E.trans E2⟩
theorem au.arb(w:aAX)(E:Nat)(v:Value)(hv:v.oneCell'=true):au (w.alloc (.cells #[v] E)) w.heap.size E 1 (Option.some ⟨w.heap.size,0,none⟩) 1 1 [v]:=
 ⟨rfl,.inr ⟨w.heap.size,1,#[v],rfl,aX _,lJ w _,aX _,dx,rfl,rfl⟩⟩
theorem agN(n:Nat):(madeCells #[aBF ByteArray.empty] n).toList=sV (aBg n []):=
 (SV _ n).trans (by unfold sV;rw[M0];rfl)
abbrev BI:=List (Option Addr × List Tx)
abbrev rV(n:Nat)(R:BI):List Value:=R.map fun r=>Value.slice r.1 n n
abbrev BH(w:aAX)(B:Nat)(a:Option Addr)(m c n:Nat)(R:BI):Prop:=au w B 42 1 a m c (rV n R)
def pV(w:aAX)(B n:Nat)(R:BI):Prop:= ∀r∈R,dz w B r.1 n n r.2
theorem pV.below{w w':aAX}{B n:Nat}{R:BI}(h:pV w B n R)(hb:aAW w.heap.size w w'):pV w' B n R:=fun r hr=>au.below (h r hr) hb
theorem xD:kg prog 148 42 (.slice none 0 0) 1 24:=⟨underlying148,by kernel_rfl,rfl,ay⟩
theorem pV.kept{w w':aAX}{B n:Nat}{R:BI}(h:pV w B n R){B' E' m' n' c':Nat}{a:Option Addr}{xs:List Value}(o:au w B' E' m' a n' c' xs)(aN:E'≠9)(hg:w.grownBy w' (a.map (·.block))):pV w' B n R:=
 fun r hr=>au.kept (h r hr) hg (sD o (h r hr) aN)
theorem pV.aqj{w w':aAX}{B n:Nat}{R:BI}(h:pV w B n R){a:Option Addr}(aN: ∀r∈R,bk r.1≠bk a)(hg:w.grownBy w' (a.map (·.block))):pV w' B n R:=
 fun r hr=>au.kept (h r hr) hg (.inr (by
  cases a with
  |none=>simp
  |some a=>have:=aN r hr;simpa[bk]using this))
abbrev sC(l:List Nat):List Int:=l.map fun m:Nat=>(m:Int)
theorem an8(t:aT)(h1:1<=t.code.length)(hc:t.code.length<=16)(hr: ∀x∈t.code,x.l.length<=256)(w:aAX)(h:jz w t)(g:Gl w):
 aA7 prog 59 #[vT t] w (akP w (nZ t)):=by
 have A:=al w (dZ t);have b0:=kf.new w t;have HI:=af (h.keep A);have HA:=af A;have HG:=af (g.below A);have HR:=af hr;obtain⟨n,hn⟩:=aF t.code.length;rw[hn]at h1 hc;have HN:=af hn;clear h A hr g hn;go_in;go_upto_region 1 with(fail);generalize w.alloc (dZ t)=W1 at*;obtain⟨c0,c1,c2,c3,c4,c5,c6,c7,c8,c9,c10,c11⟩:=b0.cells;rw[HN.oo]at c4;go_wp2_with fail;clear c0 c1 c2 c3 c4 c5 c6 c7 c8 c9 c10 c11
 go_loopw [4,22] (fun hg i wr=> ∃(k:Nat),k<=n/\i= .int .i64 k/\hg= .int .i64 (wX (t.code.take k))/\aAW W1.heap.size W1 wr) (fun _ i _=>n-(intOf i).toNat)
 ·exact⟨0,ah,rfl,rfl,bS _ _⟩
 obtain⟨k,hk,rfl,rfl,E⟩:=hrel;obtain⟨c0,c1,c2,c3,c4,c5,c6,c7,c8,c9,c10,c11⟩:=(b0.below E).cells;rw[HN.oo]at c4
 by_cases aA:k<n
 ·obtain⟨x,hx⟩: ∃x,t.code[k]? =some x:=⟨_,aV (by rw[HN.oo];exact aA)⟩
  have p0:=(HI.oo.code.below E).cd hx;have ix:=HI.oo.code.uH k (by rw[HN.oo];exact aA) t.cc;rw[HN.oo]at ix;have HH:=afm hx;obtain⟨H,hH⟩:=aF (wX (t.code.take k));rw[hH]at HH⊢;obtain⟨H2,hH2⟩: ∃H2:Nat,max H x.l.length=H2:=⟨_,rfl⟩;have mx:=ajs (P:=prog) #[3,3] 3 .i64 (H:Int) (x.l.length:Int) (H2:Int) (by split<;>omega)
  rw[hH2]at HH;have HH:=af HH;clear hx hH hH2;go_wp2_with fail
  go_roundw;exact⟨k+1,ah,by go_num,by rw[HH.oo],E⟩;exact ep
 have hkn:k=n:=ah
 obtain⟨hi,hhi⟩:=aF (wX t.code);have aAn:hi<=256:=by rw[<-hhi];exact V4 HR.oo
 have Bu:=af hhi;rw[hkn,show t.code.take n=t.code by rw[<-HN.oo,jC],hhi];clear hkn hk aA hhi
 go_wp2_with (at_make;go_loud(refine Hv jR _ _ rfl rfl n rfl rfl rfl rfl ah dx (bS wr.heap.size wr) (aX _) ?_))
 intro a0 w3 o0 YM B3;rw[agN]at o0;have o0:dz w3 wr.heap.size a0 n n (aBg n []):=o0;have o0:=au.mono o0 E.size;have E:=aI E B3;clear YM B3;have A4:=al w3 (.cells #[.slice a0 n n] 42);have r4:=au.mono (au.arb w3 42 (.slice a0 n n) rfl) E.size;have o0:=au.below o0 A4;have E4:=aI E A4;clear E A4 c0 c1 c2 c3 c4 c5 c6 c7 c8 c9 c10 c11
 go_wp2_with (at_make;go_loud(refine Hv vg _ _ rfl rfl n rfl rfl rfl rfl ah dx (bS _ (w3.alloc (.cells #[.slice a0 n n] 42))) (aX _) ?_))
 intro aw w5 o5 st5 B5;rw[agM]at o5;have B5:aAW (w3.alloc (.cells #[.slice a0 n n] 42)).heap.size (w3.alloc (.cells #[.slice a0 n n] 42)) w5:=aS B5;have r5:=au.below r4 B5;have o0:=au.below o0 B5;have oW:fT w5 W1.heap.size aw n n (sC (l5 t 0 0)):=by rw[azx,HN.oo];simpa[sC,fT]using au.mono o5 (by have:=E4.size;simp at this ⊢; omega)
 have E:=aI E4 B5;clear st5 B5 r4 E4 o5;have E:=E;have tO:W1.heap.size<=w3.heap.size/\w3.heap.size<w5.heap.size:=by have:=au.lt r5 aq;simpa using this
 generalize w3.heap.size=br at*;go_wp2_with fail
 go_loopw [37] (fun i wr=> ∃(k:Nat),k<=n/\i= .int .i64 k/\aAW W1.heap.size W1 wr/\au wr W1.heap.size 42 1 (some ⟨br,0,none⟩) 1 1 [.slice a0 n n]/\dz wr W1.heap.size a0 n n (nu 0 t k)/\fT wr W1.heap.size aw n n (sC (l5 t 0 k))) (fun i _=>n-(intOf i).toNat)
 ·exact⟨0,ah,rfl,E,r5,by rw[ahU,HN.oo];exact o0,oW⟩
 clear E r5 o0 oW;obtain⟨k,hk,rfl,E,r5,o0,oW⟩:=hrel
 by_cases aA:k<n
 ·obtain⟨x,hx⟩: ∃x,t.code[k]? =some x:=⟨_,aV (by rw[HN.oo];exact aA)⟩
  have hpl:=GG 0 t k (by rw[HN.oo];exact hk);rw[HN.oo]at hpl;have cr:wr.cell? ⟨br,0,none⟩=some (.slice a0 n n):=by have:=(au.row r5).cell 0 aq;simpa using this
  have ir: ∀w',(aA2 148 (.slice (some ⟨br,0,none⟩) 1 1) (.int .i64 0)).run prog w'= .ok (.pointer (some ⟨br,0,none⟩)) w':=by
   intro w';have:=yZ (c:=1) (n:=1) (m:=1) (au.row r5) xD.oa xD.cells xD.isSome aq ah 0 ah .i64 w';simpa using this
  have TX:=dz.lF o0 (by rw[hpl];omega);have i0:=TX.idx k (by rw[hpl];exact aA) n;rw[hpl]at i0;have q0:=TX.cell k (by rw[hpl];exact aA);have f0:=au.frozen o0 (au.some o0 ah) k;have hs0:(gL t.ag k x.l).getD 0 []=[80]++gf k:=rfl
  have hw0:mA ((gL t.ag k x.l).take 1)=([80]++gf k).length:=by
   rw[show(gL t.ag k x.l).take 1=[[80]++gf k]from rfl];exact Nat.max_eq_right (dW _)
  have cc: ∀w,(aBG .add ⟨#[80]⟩ (tx (gf k))).run prog w= .ok (.string (tx ([80]++gf k))) w:=lX [80] (gf k) (by have:=ab8 k;simp;omega);have hps:=ahV 0 hx;have qi:=akm 0 hx;rw[hw0]at qi;rw[hs0]at hps;obtain⟨s,hs⟩:=aF ([80]++gf k);rw[hs]at cc hps qi;obtain⟨ls,hls⟩:=aF s.length;rw[hls]at qi;have hsz:=Y2 hls;have BC:=af hps;have RU:=af qi;clear hs0 hw0 hx hs hps qi hls;obtain⟨oM,lB⟩:=au.set o0 (au.some o0 ah) k (.string (tx s))
  have Ir:=af (show dz (wr.setCell ⟨bk a0,fo a0+k,none⟩ (.string (tx s))).drew W1.heap.size a0 n n (nu 0 t (k+1))/\au (wr.setCell ⟨bk a0,fo a0+k,none⟩ (.string (tx s))).drew W1.heap.size 42 1 (some ⟨br,0,none⟩) 1 1 [.slice a0 n n]/\fT (wr.setCell ⟨bk a0,fo a0+k,none⟩ (.string (tx s))).drew W1.heap.size aw n n (sC (l5 t 0 k))/\aAW W1.heap.size W1 (wr.setCell ⟨bk a0,fo a0+k,none⟩ (.string (tx s))).drew from by
   refine⟨au.below ?_ (below_drewN _ 1),au.below (au.kept r5 lB.grown (sD o0 r5 ay)) (below_drewN _ 1),au.below (au.kept oW lB.grown (sD o0 oW ay)) (below_drewN _ 1),jV (uE E (by have:=(au.lt o0 (au.some o0 ah)).1;dsimp only;omega) _)⟩;rw[<-BC.oo];simpa only[dz,sV,Ad]using oM)
  clear oM lB
  have aN:bk a0≠br:=by
   rcases sD r5 o0 ay with h|h
   ·exact absurd h (au.some o0 ah)
   simpa using h
  have aAy:=aN.symm;go_wp2_with fail
  go_region_held3 (fun w'=>w'.cell? ⟨br,0,none⟩=some (.slice a0 n n)/\w'.frozen? ⟨bk a0,fo a0+k,none⟩=false) (first|exact⟨by assumption,by assumption⟩|go_keep) ((go_at_call 57;refine aK (Dl k ah _) ?_))
  generalize (wr.setCell ⟨bk a0,fo a0+k,none⟩ (.string (tx s))).drew=W7 at*;clear cr ir TX i0 q0 f0 hpl E r5 o0 oW cc;obtain⟨o0,r5,oW,E⟩:=Ir.oo;have hpl:=GG 0 t (k+1) (by rw[HN.oo];omega);rw[HN.oo]at hpl;have cr:W7.cell? ⟨br,0,none⟩=some (.slice a0 n n):=by have:=(au.row r5).cell 0 aq;simpa using this
  have ir: ∀w',(aA2 148 (.slice (some ⟨br,0,none⟩) 1 1) (.int .i64 0)).run prog w'= .ok (.pointer (some ⟨br,0,none⟩)) w':=by
   intro w';have:=yZ (c:=1) (n:=1) (m:=1) (au.row r5) xD.oa xD.cells xD.isSome aq ah 0 ah .i64 w';simpa using this
  have TX:=dz.lF o0 (by rw[hpl];omega);have i0:=TX.idx k (by rw[hpl];exact aA) n;rw[hpl]at i0;have q0:=TX.at (k:=k) (y:=s) (by rw[<-BC.oo,MR (by rw[GG 0 t k (by rw[HN.oo];exact hk),HN.oo];exact aA)]);have sn:=vJ t 0 k;rw[HN.oo]at sn;have TI:=(au.ints oW).1;have iw:=TI.idx vg k (by rw[eT,sn];exact aA);rw[eT,sn]at iw;obtain⟨wv,pw⟩: ∃v,W7.cell? ⟨bk aw,fo aw+k,none⟩=some v:=⟨_,TI.cell k (by rw[eT,sn];exact aA)⟩;have fw:=au.frozen oW (au.some oW ah) k;obtain⟨oM,lB⟩:=au.set oW (au.some oW ah) k (.int .i64 (ls:Int))
  have Ei:=af (show dz (W7.setCell ⟨bk aw,fo aw+k,none⟩ (.int .i64 (ls:Int))) W1.heap.size a0 n n (nu 0 t (k+1))/\au (W7.setCell ⟨bk aw,fo aw+k,none⟩ (.int .i64 (ls:Int))) W1.heap.size 42 1 (some ⟨br,0,none⟩) 1 1 [.slice a0 n n]/\fT (W7.setCell ⟨bk aw,fo aw+k,none⟩ (.int .i64 (ls:Int))) W1.heap.size aw n n (sC (l5 t 0 (k+1)))/\aAW W1.heap.size W1 (W7.setCell ⟨bk aw,fo aw+k,none⟩ (.int .i64 (ls:Int)))from by
   refine⟨au.kept o0 lB.grown (sD oW o0 ay),au.kept r5 lB.grown (sD oW r5 ay),?_,uE E (by have:=(au.lt oW (au.some oW ah)).1;dsimp only;omega) _⟩;rw[<-RU.oo];simpa only[fT,ints,sC,Ad]using oM)
  clear oM lB TI TX o0 r5 oW E Ir hpl sn;go_wp2_with fail
  go_roundw;exact⟨k+1,ah,by go_num,Ei.oo.2.2.2,Ei.oo.2.1,Ei.oo.1,Ei.oo.2.2.1⟩;exact ep
 have hkn:k=n:=ah
 rw[hkn]at o0 oW;have e1:=ahT 0 t;have e2:=akl t 0;rw[HN.oo]at e1 e2;rw[e1]at o0;rw[e2]at oW;have jY:BH wr W1.heap.size (some ⟨br,0,none⟩) 1 1 n [(a0,ku 0 t)]:=r5
 have lg:pV wr W1.heap.size n [(a0,ku 0 t)]:=fun r hr=>by
  rcases kJ.1 hr with rfl;exact o0
 clear hkn e1 e2 r5 o0 B5 tO;go_wp2_with fail
 go_loopw [7,60] (fun v i wr=> ∃(j:Nat) (ar:Option Addr) (cr:Nat) (R:BI),j<=hi/\i= .int .i64 j/\v= .slice ar (j+1) cr/\aAW W1.heap.size W1 wr/\BH wr W1.heap.size ar (j+1) cr n R/\pV wr W1.heap.size n R/\fT wr W1.heap.size aw n n (sC (l5 t (j+1) 0))/\Hid (R.map (·.2)=(List.range (j+1)).map fun i=>ku i t)) (fun _ i _=>hi-(intOf i).toNat)
 ·exact⟨0,_,_,_,ah,rfl,rfl,E,jY,lg,oW,rfl⟩
 clear E jY lg oW;obtain⟨j,ar,cr,R,hj,rfl,rfl,E,jY,lg,oW,RJ⟩:=hrel
 by_cases eX:j<hi
 ·go_wp2_with (at_make;go_loud(refine Hv jR _ _ rfl rfl n rfl rfl rfl rfl ah dx (bS wr.heap.size wr) (aX _) ?_))
  intro ac w3 oc YM B3;rw[agN]at oc
  have hac: ∀r∈R,bk r.1≠bk ac:=fun r hr=>by
   have h2:=(au.lt (lg r hr) (au.some (lg r hr) ah)).2;have h3:=(au.lt oc (au.some oc ah)).1;omega
  have HAC:=af hac;have oc:dz w3 W1.heap.size ac n n (nu (j+1) t 0):=by rw[ahU,HN.oo];exact au.mono oc E.size
  have jY:=au.below jY B3;have lg:=lg.below B3;have oW:=au.below oW B3;have E:=aI E B3;clear YM B3 hac;go_wp2_with fail
  go_loopw [66] (fun i wr=> ∃(k:Nat),k<=n/\i= .int .i64 k/\aAW W1.heap.size W1 wr/\BH wr W1.heap.size ar (j+1) cr n R/\pV wr W1.heap.size n R/\dz wr W1.heap.size ac n n (nu (j+1) t k)/\fT wr W1.heap.size aw n n (sC (l5 t (j+1) k))) (fun i _=>n-(intOf i).toNat)
  ·exact⟨0,ah,rfl,E,jY,lg,oc,oW⟩
  clear E jY lg oc oW;obtain⟨k,hk,rfl,E,jY,lg,oc,oW⟩:=hrel
  by_cases aA:k<n
  ·obtain⟨x,hx⟩: ∃x,t.code[k]? =some x:=⟨_,aV (by rw[HN.oo];exact aA)⟩
   obtain⟨c0,c1,c2,c3,c4,c5,c6,c7,c8,c9,c10,c11⟩:=(b0.below E).cells;rw[HN.oo]at c4;have p0:=(HI.oo.code.below E).cd hx;have ix:=HI.oo.code.uH k (by rw[HN.oo];exact aA) t.cc;rw[HN.oo]at ix
   by_cases hjl:j<x.l.length
   ·obtain⟨i,hi'⟩: ∃i,x.l[j]? =some i:=⟨_,aV hjl⟩
    have uZ:=(HI.oo.rows x (cV hx)).keep E;obtain⟨q0,q1,q2,q3,q4,q5,q6,q7⟩:=uZ.is.cells hi';have Kt:=uZ.is.idx j hjl x.c;have hb:=uZ.vo i (cV hi')
    have hcell:(gL t.ag k x.l).getD (j+1) []=(jG t.ag i).1:=by
     unfold gL;rw[pY,aaC,jf,hi'];rfl
    have hps:=ahV (j+1) hx;have qi:=akm (j+1) hx
    have hwt:mA ((gL t.ag k x.l).take (j+1+1))=max (mA ((gL t.ag k x.l).take (j+1))) (jG t.ag i).1.length:=by
     refine akn ?_;rw[aV (by rw[Fg];omega)];rw[pY,aV (by rw[Fg];omega)]at hcell;exact congrArg some hcell
    have Pf:=zH (j+1) k hx;rw[ai (Je k)]at Pf;rw[hwt]at qi;rw[hcell]at hps;have CK:=af (fun(w':aAX) (g:Gl w')=>anW t.ag i hb.1 hb.2 w' g);obtain⟨m,hm⟩:=aF (mA ((gL t.ag k x.l).take (j+1)));rw[hm]at qi Pf;unfold vP at CK;generalize jG t.ag i=ce at*;obtain⟨s,er⟩:=ce
    dsimp only at CK hps qi
    obtain⟨ls,hls⟩:=aF s.length;rw[hls]at qi;have hsz:=Y2 hls;obtain⟨m2,hm2⟩: ∃m2:Nat,max m ls=m2:=⟨_,rfl⟩;rw[hm2]at qi;have mx:=ajs (P:=prog) #[3,3] 3 .i64 (m:Int) (ls:Int) (m2:Int) (by split<;>omega)
    have BC:=af hps;have RU:=af qi;have HWA:=af Pf;have hpl:=GG (j+1) t k (by rw[HN.oo];exact hk);rw[HN.oo]at hpl;have TX:=dz.lF oc (by rw[hpl];omega);have i0:=TX.idx k (by rw[hpl];exact aA) n;rw[hpl]at i0;have f0:=au.frozen oc (au.some oc ah) k;have hlc:=(au.lt oc (au.some oc ah)).1;have nc:bk ac≠w.heap.size:=by have:=b0.lt;omega
    have hn2:bk ac≠bk t.ca:=by
     have:=k8 (HI.oo.code.cd hx);dsimp only at this;omega
    have uV:bk ac≠bk x.a:=by
     have:=k8 ((HI.oo.rows x (cV hx)).is.cells hi').1;dsimp only at this;omega
    have aAu:=nc.symm;have aAv:=hn2.symm;have aAx:=uV.symm;have mD:=af uZ;have HII:=af hi';have HXX:=af hx;clear hps qi Pf hx hi' hcell hwt hm hls hm2 uZ TX hb;have Zs:=af (CK.oo wr.drew (HG.oo.below (jV E)));go_wp2_with fail
    go_region_held3 (fun w'=>w'.cell? ⟨w.heap.size,0,none⟩=some (.int .i64 t.ag)/\w'.cell? ⟨w.heap.size,4,none⟩=some (.slice t.ca n t.cc)/\w'.cell? ⟨bk t.ca,fo t.ca+k,none⟩=some (.slice x.a x.l.length x.c)/\w'.cell? ⟨bk x.a,fo x.a+j*8,none⟩=some (.int .i64 i.op)/\w'.cell? ⟨bk x.a,fo x.a+j*8+1,none⟩=some (.int .i64 i.d)/\w'.cell? ⟨bk x.a,fo x.a+j*8+2,none⟩=some (.int .i64 i.a)/\w'.cell? ⟨bk x.a,fo x.a+j*8+3,none⟩=some (.int .i64 i.b)/\w'.cell? ⟨bk x.a,fo x.a+j*8+4,none⟩=some (.int .i64 i.ax)/\w'.cell? ⟨bk x.a,fo x.a+j*8+5,none⟩=some (.string (tx i.aj))/\w'.cell? ⟨bk x.a,fo x.a+j*8+6,none⟩=some (.string (tx i.av))/\w'.cell? ⟨bk x.a,fo x.a+j*8+7,none⟩=some (.int .i64 i.az)/\w'.frozen? ⟨bk ac,fo ac+k,none⟩=false) (first|exact⟨by assumption,by assumption,by assumption,by assumption,by assumption,by assumption,by assumption,by assumption,by assumption,by assumption,by assumption,by assumption⟩|go_keep) ((go_at_call 124;refine aQ Zs.oo fun w7 E7=>?_;have E8:aAW wr.heap.size wr w7:=aI (jV (bS _ _)) E7;have EE:=aI E E8;obtain⟨d0,-, -, -, d4, -⟩:=(b0.below EE).cells;rw[HN.oo]at d4;have p7:=(HI.oo.code.below EE).cd HXX.oo;obtain⟨r0,r1,r2,r3,r4,r5,r6,r7⟩:=(mD.oo.keep E8).is.cells HII.oo;have xj:=au.below oc E8;have f7:=au.frozen xj (au.some xj ah) k;have z7:=(dz.lF xj (by rw[hpl];omega)).cell k (by rw[hpl];exact aA)))
    obtain⟨oM,lB⟩:=au.set xj (au.some xj ah) k (.string (tx s))
    have Ir:=af (show dz (w7.setCell ⟨bk ac,fo ac+k,none⟩ (.string (tx s))) W1.heap.size ac n n (nu (j+1) t (k+1))/\BH (w7.setCell ⟨bk ac,fo ac+k,none⟩ (.string (tx s))) W1.heap.size ar (j+1) cr n R/\pV (w7.setCell ⟨bk ac,fo ac+k,none⟩ (.string (tx s))) W1.heap.size n R/\fT (w7.setCell ⟨bk ac,fo ac+k,none⟩ (.string (tx s))) W1.heap.size aw n n (sC (l5 t (j+1) k))/\aAW W1.heap.size W1 (w7.setCell ⟨bk ac,fo ac+k,none⟩ (.string (tx s)))from by
     refine⟨?_,au.kept (au.below jY E8) lB.grown (sD xj (au.below jY E8) ay),(lg.below E8).aqj HAC.oo lB.grown,au.kept (au.below oW E8) lB.grown (sD xj (au.below oW E8) ay),uE EE (by have:=(au.lt xj (au.some xj ah)).1;dsimp only;omega) _⟩;rw[<-BC.oo];simpa only[dz,sV,Ad]using oM)
    generalize w7.setCell ⟨bk ac,fo ac+k,none⟩ (.string (tx s))=W8 at*;clear oM lB EE E8 E7 d0 d4 p7 r0 r1 r2 r3 r4 r5 r6 r7 xj f7 z7 oc jY lg oW E c0 c1 c2 c3 c4 c5 c6 c7 c8 c9 c10 c11 p0 ix q0 q1 q2 q3 q4 q5 q6 q7 Kt f0 Zs CK hpl;obtain⟨oc,jY,lg,oW,E⟩:=Ir.oo;have hpl:=GG (j+1) t (k+1) (by rw[HN.oo];omega);rw[HN.oo]at hpl;have q0:=(dz.lF oc (by rw[hpl];omega)).at (k:=k) (y:=s) (by rw[<-BC.oo,MR (by rw[GG (j+1) t k (by rw[HN.oo];exact hk),HN.oo];exact aA)]);have sn:=vJ t (j+1) k;rw[HN.oo]at sn;have TI:=(au.ints oW).1;have iw:=TI.idx vg k (by rw[eT,sn];exact aA);rw[eT,sn]at iw;have pw:=TI.cell k (by rw[eT,sn];exact aA)
    rw[show(sC (l5 t (j+1) k))[k]'(by rw[eT,sn];exact aA)=(m:Int)from by
     have:=HWA.oo;rw[aV (by rw[sn];exact aA)]at this;rw[EH,fU this]]at pw
    have fw:=au.frozen oW (au.some oW ah) k;obtain⟨oM,lB⟩:=au.set oW (au.some oW ah) k (.int .i64 (m2:Int))
    have Ei:=af (show dz (W8.setCell ⟨bk aw,fo aw+k,none⟩ (.int .i64 (m2:Int))).drew W1.heap.size ac n n (nu (j+1) t (k+1))/\BH (W8.setCell ⟨bk aw,fo aw+k,none⟩ (.int .i64 (m2:Int))).drew W1.heap.size ar (j+1) cr n R/\pV (W8.setCell ⟨bk aw,fo aw+k,none⟩ (.int .i64 (m2:Int))).drew W1.heap.size n R/\fT (W8.setCell ⟨bk aw,fo aw+k,none⟩ (.int .i64 (m2:Int))).drew W1.heap.size aw n n (sC (l5 t (j+1) (k+1)))/\aAW W1.heap.size W1 (W8.setCell ⟨bk aw,fo aw+k,none⟩ (.int .i64 (m2:Int))).drew from by
     refine⟨au.below (au.kept oc lB.grown (sD oW oc ay)) (below_drewN _ 1),au.below (au.kept jY lB.grown (sD oW jY ay)) (below_drewN _ 1),(lg.kept oW ay lB.grown).below (below_drewN _ 1),au.below ?_ (below_drewN _ 1),jV (uE E (by have:=(au.lt oW (au.some oW ah)).1;dsimp only;omega) _)⟩;rw[<-RU.oo];simpa only[fT,ints,sC,Ad]using oM)
    clear oM lB TI oc jY lg oW E Ir hpl sn;go_wp2_with fail
    go_big_region
    obtain⟨oc,jY,lg,oW,E⟩:=Ei.oo;go_wp2_with fail
    go_roundw;exact⟨k+1,ah,by go_num,E,jY,lg,oc,oW⟩;exact ep
   have hps:=as3 (j+1) hx ah
   have qi:=azw (j+1) hx ah;clear hx;go_wp2_with fail
   go_roundw;exact⟨k+1,ah,by go_num,E,jY,lg,by rw[hps];exact oc,by rw[qi];exact oW⟩;exact ep
  have hkn:k=n:=ah
  rw[hkn]at oc oW;have e1:=ahT (j+1) t;have e2:=akl t (j+1);rw[HN.oo]at e1 e2;rw[e1]at oc;rw[e2]at oW;clear hkn e1 e2
  go_wp2_with (at_builtin;go_loud(refine pQ xD (.tmp 108) (.tmp 110) rfl rfl rfl rfl jY rfl rfl kP E E.size ah dx ?_))
  intro a6 c6 w6 o6 g6 E6
  have hR3:BH w6 W1.heap.size a6 (j+1+1) c6 n (R++[(ac,ku (j+1) t)]):=by
   unfold BH rV;rw[pG];exact o6
  have hR4:pV w6 W1.heap.size n (R++[(ac,ku (j+1) t)]):=fun r hr=>by
   rcases fc.1 hr with h|h
   ·exact(lg.kept jY ay g6.step.grown) r h
   rcases kJ.1 h with rfl
   exact au.kept oc g6.step.grown (sD jY oc ay)
  have oW2:fT w6 W1.heap.size aw n n (sC (l5 t (j+1+1) 0)):=au.kept oW g6.step.grown (sD jY oW ay)
  have akC:=af (show(R++[(ac,ku (j+1) t)]).map (·.2)=(List.range (j+1+1)).map fun i=>ku i t by
   rw[pG,RJ.oo,Nb (n:=j+1),pG];rfl)
  clear o6 g6 jY lg oW oc E;go_wp2_with fail
  go_roundw;exact⟨j+1,a6,c6,_,ah,by go_num,rfl,E6,hR3,hR4,oW2,akC⟩;exact ep
 have hjh:j=hi:=ah
 subst hjh;have hwd:=azv t;rw[Kf,Bu.oo]at hwd;rw[hwd]at oW;have ZV:=af (au.ints oW).1;have hRl:R.length=j+1:=by have:=congrArg aBd RJ.oo;simpa using this
 have Il:=af hRl;have HE:=af E;obtain⟨W9,VK⟩:=aF wr;rw[VK]at ZV HE jY lg;have sU:=af (au.row jY);have HRK:=af lg;have A9:aAW W9.heap.size W9 wr:=by rw[VK];exact bS _ _
 clear hwd oW hRl jY lg E VK;go_wp2_with fail
 go_loopw [13,115] (fun v i wr=> ∃(m:Nat) (a:Option Addr) (c:Nat) (L:List Tx),m<=j+1/\i= .int .i64 m/\v= .slice a m c/\aAW W9.heap.size W9 wr/\dz wr W9.heap.size a m c L/\Hid (L=AY t m)) (fun _ i _=>j+1-(intOf i).toNat)
 ·exact⟨0,none,0,[],ah,rfl,rfl,A9,au.nil _ _ _ _,rfl⟩
 clear A9;obtain⟨m,a,c,L,hm,rfl,rfl,E,o,HL⟩:=hrel
 by_cases Kk:m<j+1
 ·obtain⟨r,hr⟩: ∃r,R[m]? =some r:=⟨_,aV (by rw[Il.oo];exact Kk)⟩
  have hr2:r.2=ku m t:=by
   have h1:(R.map (·.2))[m]? =some r.2:=by rw[jf,hr];rfl
   rw[RJ.oo,jf,List.getElem?_range Kk]at h1;simpa using h1.symm
  have hrt:cO W9 r.1 (ku m t):=by rw[<-hr2];exact dz.lF (HRK.oo r (cV hr)) (by rw[hr2,yt,HN.oo];omega)
  have p0:wr.cell? ⟨bk ar,fo ar+m,none⟩=some (.slice r.1 n n):=by
   have:=(sU.oo.below E).cell m (by rw[eT,Il.oo];exact Kk);rw[this,jf,hr];rfl
  have ix: ∀w',(aA2 148 (.slice ar (j+1) cr) (.int .i64 m)).run prog w'= .ok (.pointer (some ⟨bk ar,fo ar+m,none⟩)) w':=by
   intro w';have:=yZ (c:=cr) (n:=j+1) (m:=1) sU.oo xD.oa xD.cells xD.isSome (by simp[Il.oo]) ah m Kk .i64 w';simpa using this
  have JN:=af (an1 (vK t) (ku m t) aw r.1 n n n wr (ZV.oo.below E) (hrt.below E) (by rw[Ze,HN.oo]) (by rw[yt,HN.oo]) h1 hc (fun _ _ _=>alW));have HT:=af (show L++[[32]++jh (oQ (vK t) (ku m t))++[32,59]]=AY t (m+1) by rw[aq7,HL.oo,Xp,asH]);obtain⟨l,hl⟩:=aF ([32]++jh (oQ (vK t) (ku m t))++[32,59]);rw[hl]at JN HT;clear hl hr hr2 hrt;go_wp2_with fail;refine aQ JN.oo fun w2 E2=>?_
  have o:=au.below o E2;have E:=aI E E2;clear p0 ix JN E2
  go_wp2_with (at_builtin;go_loud(refine pQ jR (.tmp 119) (.tmp 123) rfl rfl rfl rfl o rfl rfl kP E E.size ah dx ?_))
  intro a6 c6 w6 o6 g6 E6;have o6:dz w6 W9.heap.size a6 (m+1) c6 (L++[l]):=by unfold dz;rw[G9];exact o6
  clear o g6 E;go_wp2_with fail
  go_roundw;exact⟨m+1,a6,c6,_,ah,by go_num,rfl,E6,o6,HT⟩;exact ep
 have hmn:m=j+1:=ah
 have HT:=af (show L=nZ t by rw[ajL,Kf,Bu.oo,HL.oo,hmn]);have uk:=af (show m=L.length by rw[HL.oo,agz]);clear hmn;go_wp2_with fail
 (try go_simp)
 go_ret;rw[<-HT.oo];exact⟨a,c,by rw[<-uk.oo];rfl,by rw[<-uk.oo];exact au.mono o (dY HA.oo.size HE.oo.size),HA.oo.trans ((aI HE.oo E).mono HA.oo.size)⟩
theorem an5(ag:Int)(k:Nat)(h:Lf ag k)(w:aAX)(g:Gl w):aA7 prog 58 #[.int .i64 ag,.int .i64 k] w (bg w (.string (tx (sJ ag k)))):=by
 rcases h with⟨h1,h2⟩|⟨h1,h2⟩
 ·have CK:=af (azR k h2 w g)
  have HZ:=af (show sJ ag k=cg k by unfold sJ;rw[ai ah,xu]);have z:(ag==1)=true:=aC;clear h1 g;go_in;go_wp2_with fail;refine CK.oo.mono ?_;rintro _ w2 ⟨rfl,E⟩
  go_wp2_with fail
  (try go_simp)
  go_ret;rw[HZ.oo];exact⟨rfl,E.below⟩
 have CK:=af (Qd k h2 w)
 have HZ:=af (show sJ ag k=cZ k by unfold sJ;rw[ak h1];unfold rT;rw[uC]);have z:(ag==1)=false:=aC;clear h1 g;go_in;go_wp2_with fail;refine CK.oo.mono ?_;rintro e w2 ⟨rfl,rfl⟩;go_wp2_with fail
 (try go_simp)
 go_ret;rw[HZ.oo];exact Fq
theorem afB(i:Nat)(h:i<16):(aA9 (i:Int)).length<=21:=Lib.itoa_length_le (i:Int) ah ah
theorem afL{ag:Int}{n:Nat}{x:bF}(ha:bD ag=true)(hn:n<=16)(h:jm ag n x=true):(jL ag x).length<=100:=by
 rcases Om ha hn h with⟨aj,nn,rfl,h1,h2⟩|⟨i,k,v,nn,rfl,h1,-, h2,h3⟩
 ·unfold jL
  have a:=(pM h1).2;have b:=Ks h2;simp only[lG,bu,cy,je];omega
 unfold jL
 have a:=afB i h1;have b:=aiL h2;simp only[ai (show ¬((i:Int)= -1) by omega)];rcases h3 with⟨h4,h5, -⟩|⟨h4,h5⟩
 ·have c:=(pM h5).2
  simp only[ai h4,bu,cy,je];omega
 have c:=Ks h5
 simp only[ak h4,bu,cy,je];omega
theorem Zr.cells{w:aAX}{b:Nat}{x:bF}(h:aW w b (lM x)):w.cell? ⟨b,0,none⟩=some (.int .i64 x.aO)/\w.cell? ⟨b,1,none⟩=some (.int .i64 x.aR)/\w.cell? ⟨b,2,none⟩=some (.string (tx x.aj))/\w.cell? ⟨b,3,none⟩=some (.string (tx x.bH))/\w.cell? ⟨b,4,none⟩=some (.int .i64 x.n):=
 ⟨h.get 0 _ rfl,h.get 1 _ rfl,h.get 2 _ rfl,h.get 3 _ rfl,h.get 4 _ rfl⟩
end Go.Proofs.YtkbbgjloifmmbaaGreatDoor

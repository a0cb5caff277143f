/- What ReadBlanksP leans on, part 9. -/
import Derived.Test.YtkbbgjloifmmbaaGreatDoorPc7
import Derived.Test.YtkbbgjloifmmbaaGreatDoorPc5
set_option linter.unusedVariables false
set_option maxRecDepth 100000
set_option maxHeartbeats 32000000
open _root_.Go.Proofs.Tryz
open _root_.List renaming dropWhile_cons->anV,getElem?_eq_getElem->am9,drop_append_of_le_length->aoJ,singleton_append->aqM,reverse_append->aqN,getElem?_eq_some_iff->anx,reverse_cons->aqO,drop_eq_nil_of_le->anj,mem_reverse->aqP,concat_eq_append->aqQ,dropLast_concat->aqR,length_pos_iff->aon,mem_cons->anE,reverse_singleton->aqS,dropWhile_append->aqT,eq_nil_or_concat->aqU,map_cons->aoY,append_assoc->anZ,take_length->ao0,cons_append->aod,mem_append->aok
open _root_.Bool renaming not_false->aqv,not_true->aqw,and_eq_true->anS
open _root_.Go.Lib renaming decDigits->aoc
open _root_.UInt8 renaming toNat_inj->aph
open _root_.Option.some renaming inj->an4
open _root_.Nat renaming le_refl->anb
open _root_.Go.Instr renaming sliceAt->anh
namespace Go.Proofs.YtkbbgjloifmmbaaGreatDoor
open Go.RowKit
variable{v:Int}{A P:List Tx}{V f i k:Nat}{l s z:Tx}{b c x:UInt8}
theorem Dv: ∀l:Tx,((l.dropWhile aq).reverse.dropWhile aq).reverse=ak l
 |[]=>by decide
 | c::r=>by
   have ih:=Dv r;rw[uW]at ih⊢
   by_cases hb:aq c=true
   ·rw[anV,if_pos hb,ih,aqO,aqT]
    cases hx:r.reverse.dropWhile aq with
    |nil=>simp[hb]
    | cons y ys=>
      rw[if_neg (by simp),aqN,aqS,aqM,anV,if_pos hb]
   rw[anV,if_neg hb,aqO,aqT]
   cases hx:r.reverse.dropWhile aq with
   |nil=>simp[hb]
   | cons y ys=>
     rw[if_neg (by simp),aqN,aqS,aqM,anV,if_neg hb]
def uS:Value->Nat
 | .string b=>b.size
 |_=>0
theorem zw(l:Tx):uS (.string (tx l))=l.length:=aM l
theorem Yj(r:Tx)(c:UInt8)(h:aq c=true):((r++[c]).reverse.dropWhile aq).reverse=(r.reverse.dropWhile aq).reverse:=by simp[h]
theorem Yk(r:Tx)(c:UInt8)(h:aq c=false):((r++[c]).reverse.dropWhile aq).reverse=r++[c]:=by simp[h]
theorem last_cases(l:Tx):l=[]\/(∃r c,l=r++[c]/\aq c=false)\/(∃r c,l=r++[c]/\aq c=true):=by
 rcases aqU l with rfl|⟨r,c,rfl⟩
 ·exact .inl rfl
 cases hb:aq c
 ·exact .inr (.inl ⟨r,c,aqQ,hb⟩)
 exact .inr (.inr ⟨r,c,aqQ,hb⟩)
theorem NB(s:Tx)(hs:s.length<=9223372036854775807)(w:World):Calls prog 106 #[.string (tx s)] w fun e w'=>e= .returned (.string (tx (ak s)))/\w=w':=by
 have HT:=hid (Dv s);generalize ak s=T at*;go_in;go_wp2_with fail
 go_loop [0] (fun v=> ∃l:Tx,v= .string (tx l)/\l.length<=9223372036854775807/\Hid (l.dropWhile aq=s.dropWhile aq)) uS
 ·exact⟨s,rfl,hs,rfl⟩
 clear hs;obtain⟨l,rfl,hl,HL⟩:=hrel
 have hc:l=[]\/(∃c r,l=c::r/\aq c=false)\/(∃c r,l=c::r/\aq c=true):=by
  cases l with
  |nil=>exact .inl rfl
  |cons c r=>cases hb:aq c;exact .inr (.inl ⟨c,r,rfl,hb⟩);exact .inr (.inr ⟨c,r,rfl,hb⟩)
 rcases hc with rfl|⟨c,r,rfl,hb⟩|⟨c,r,rfl,hb⟩
 ·have HR:=hid (show T=[] by rw[<-HT.out,<-HL.out];rfl)
  have hz:(tx []).size=0:=rfl;go_wp2_with fail
  go_loop [0] (fun v=> ∃l:Tx,v= .string (tx l)/\l.length<=9223372036854775807/\Hid ((l.reverse.dropWhile aq).reverse=T)) uS
  ·exact⟨[],rfl,hl,by rw[HR.out];rfl⟩
  clear hl HR HL;obtain⟨l,rfl,hl,HL⟩:=hrel;rcases last_cases l with rfl|⟨r,c,rfl,hb⟩|⟨r,c,rfl,hb⟩
  ·have HR:=hid (show T=[] by rw[<-HL.out];rfl)
   have hz:(tx []).size=0:=rfl;go_wp2;go_ret;exact⟨Di (by rw[HR.out]),rfl⟩
  ·have HR:=hid (show r++[c]=T by rw[<-HL.out,Yk r c hb])
   have HB:=hid hb;obtain⟨k,hk⟩:=aj r.length;have hsz:(tx (r++[c])).size=k+1:=by rw[aM];simp[hk]
   have hk2:k+1<=9223372036854775807:=by rw[<-hsz,aM];exact hl
   have ix:=bB (r++[c]) k c (by simp[<-hk]);clear hb hk hl;generalize r++[c]=l at*
   go_wp2_with (go_at_call 108;refine av (uQ c _) ?_;rw[HB.out])
   go_ret;exact⟨Di (by rw[HR.out]),rfl⟩
  have HR:=hid (show(r.reverse.dropWhile aq).reverse=T by rw[<-HL.out,Yj r c hb])
  have HB:=hid hb;obtain⟨k,hk⟩:=aj r.length;have hsz:(tx (r++[c])).size=k+1:=by rw[aM];simp[hk]
  have hk2:k+1<=9223372036854775807:=by rw[<-hsz,aM];exact hl
  have ix:=bB (r++[c]) k c (by simp[<-hk])
  have sl: ∀w,(anh 9 (.string (tx (r++[c]))) none (some (.int .i64 k)) none).run prog w= .ok (.string (tx r)) w:=fun w=>by
   have:=qE (r++[c]) k ah w
   rwa[show(r++[c]).take k=r by rw[<-hk];simp]at this
  have HM:=hid (show uS (.string (tx r))<uS (.string (tx (r++[c]))) by rw[zw,zw];simp);have HQ:=hid (show r.length<=9223372036854775807 by simp at hl;omega);clear hb hk hl;generalize r++[c]=l at*
  go_wp2_with (go_at_call 108;refine av (uQ c _) ?_;rw[HB.out])
  go_round
  case rel=>exact⟨r,rfl,HQ.out,HR.out⟩
  case measure=>exact HM.out
 ·have HR:=hid (show((c::r).reverse.dropWhile aq).reverse=T by rw[<-HT.out,<-HL.out,anV,if_neg (by rw[hb];simp)])
  have HB:=hid hb;clear hb;have i0:=kJ (c::r) c rfl;obtain⟨n,hn⟩:=aj ((tx (c::r)).size);have jK:0<n:=by rw[<-hn,aM];simp
  go_wp2_with (go_at_call 108;refine av (uQ c _) ?_;rw[HB.out])
  go_loop [0] (fun v=> ∃l:Tx,v= .string (tx l)/\l.length<=9223372036854775807/\Hid ((l.reverse.dropWhile aq).reverse=T)) uS
  ·exact⟨_,rfl,hl,HR.out⟩
  clear hl HR HL;obtain⟨l,rfl,hl,HL⟩:=hrel;rcases last_cases l with rfl|⟨r,c,rfl,hb⟩|⟨r,c,rfl,hb⟩
  ·have HR:=hid (show T=[] by rw[<-HL.out];rfl)
   have hz:(tx []).size=0:=rfl;go_wp2;go_ret;exact⟨Di (by rw[HR.out]),rfl⟩
  ·have HR:=hid (show r++[c]=T by rw[<-HL.out,Yk r c hb])
   have HB:=hid hb;obtain⟨k,hk⟩:=aj r.length;have hsz:(tx (r++[c])).size=k+1:=by rw[aM];simp[hk]
   have hk2:k+1<=9223372036854775807:=by rw[<-hsz,aM];exact hl
   have ix:=bB (r++[c]) k c (by simp[<-hk]);clear hb hk hl;generalize r++[c]=l at*
   go_wp2_with (go_at_call 108;refine av (uQ c _) ?_;rw[HB.out])
   go_ret;exact⟨Di (by rw[HR.out]),rfl⟩
  have HR:=hid (show(r.reverse.dropWhile aq).reverse=T by rw[<-HL.out,Yj r c hb])
  have HB:=hid hb;obtain⟨k,hk⟩:=aj r.length;have hsz:(tx (r++[c])).size=k+1:=by rw[aM];simp[hk]
  have hk2:k+1<=9223372036854775807:=by rw[<-hsz,aM];exact hl
  have ix:=bB (r++[c]) k c (by simp[<-hk])
  have sl: ∀w,(anh 9 (.string (tx (r++[c]))) none (some (.int .i64 k)) none).run prog w= .ok (.string (tx r)) w:=fun w=>by
   have:=qE (r++[c]) k ah w
   rwa[show(r++[c]).take k=r by rw[<-hk];simp]at this
  have HM:=hid (show uS (.string (tx r))<uS (.string (tx (r++[c]))) by rw[zw,zw];simp);have HQ:=hid (show r.length<=9223372036854775807 by simp at hl;omega);clear hb hk hl;generalize r++[c]=l at*
  go_wp2_with (go_at_call 108;refine av (uQ c _) ?_;rw[HB.out])
  go_round
  case rel=>exact⟨r,rfl,HQ.out,HR.out⟩
  case measure=>exact HM.out
 have HR:=hid (show r.dropWhile aq=s.dropWhile aq by rw[<-HL.out,anV,if_pos hb])
 have HB:=hid hb;clear hb;have i0:=kJ (c::r) c rfl;have sl: ∀w,(anh 9 (.string (tx (c::r))) (some (.int .i64 1)) none none).run prog w= .ok (.string (tx r)) w:=qD (c::r) 1 (by simp);obtain⟨n,hn⟩:=aj ((tx (c::r)).size);have jK:0<n:=by rw[<-hn,aM];simp
 go_wp2_with (go_at_call 108;refine av (uQ c _) ?_;rw[HB.out])
 go_round
 case rel=>exact⟨r,rfl,by simp at hl;omega,HR.out⟩
 case measure=>rw[zw,zw];simp
def iS(w:World)(B:Nat)(a:Option Addr)(n c:Nat)(l:List Tx):Prop:=Own w B 9 1 a n c (l.map fun x=>Value.string (tx x))
theorem iS.lP{w:World}{B n c:Nat}{a:Option Addr}{l:List Tx}(h:iS w B a n c l)(hl:l.length<=1000000000000000000):bS w a l:=⟨Own.row h,hl⟩
def lp(b:UInt8)(s:Tx)(A:List Tx)(k f:Nat)(P:List Tx):Prop:=
 (k<=s.length->f<=k/\P++(aH b (s.drop f)).map ak=A/\b∉(s.take k).drop f)/\(k=s.length+1->P=A)
theorem lp.zero(b:UInt8)(s:Tx):lp b s ((aH b s).map ak) 0 0 []:=⟨fun _=>⟨anb _,by simp,by simp⟩,fun h=>by omega⟩
theorem lp.step(h:lp b s A k f P)(hx:s[k]? =some x)(hne:x≠b):lp b s A (k+1) f P:=by
 obtain⟨hk, -⟩:=anx.1 hx;obtain⟨h1,h2,h3⟩:=h.1 (by omega);refine⟨fun _=>⟨by omega,h2,?_⟩,fun e=>by omega⟩;rw[List.take_add_one,hx,aoJ ah];simp only[Option.toList_some,aok,List.mem_singleton,not_or];exact⟨h3,fun e=>hne e.symm⟩
theorem acB(h1:f<=k)(h2:k<=s.length):s.drop f=(s.take k).drop f++s.drop k:=by
 conv=>lhs;rw[<-List.take_append_drop k s]
 rw[aoJ ah]
theorem lp.cut(h:lp b s A k f P)(hx:s[k]? =some b):lp b s A (k+1) (k+1) (P++[ak ((s.take k).drop f)]):=by
 obtain⟨hk,he⟩:=anx.1 hx;obtain⟨h1,h2,h3⟩:=h.1 (by omega);refine⟨fun _=>⟨anb _,?_,by rw[anj ah];simp⟩,fun e=>by omega⟩;rw[acB h1 (by omega),List.drop_eq_getElem_cons hk,he,G8 b _ _ h3]at h2;rw[<-h2];simp
theorem lp.fin(h:lp b s A k f P)(hk:k=s.length):lp b s A (k+1) (k+1) (P++[ak ((s.take k).drop f)]):=by
 subst hk;obtain⟨h1,h2,h3⟩:=h.1 (anb _);refine⟨fun e=>by omega,fun _=>?_⟩;rw[ao0]at h3⊢;rw[zh b _ h3]at h2;rw[<-h2];simp
theorem lp.le(h:lp b s A k f P)(hk:k<=s.length):f<=k:=(h.1 hk).1
theorem lp.all(h:lp b s A k f P)(hk:k=s.length+1):P=A:=h.2 hk
def aaA(w:World)(A:List Tx)(e:Ending)(w':World):Prop:= ∃a c,e= .returned (.slice a A.length c)/\bS w' a A/\Below w.heap.size w w'
theorem Nz(s:Tx)(b:UInt8)(hs:s.length<=1000000)(w:World):Calls prog 110 #[.string (tx s),.int .u8 b.toNat] w (aaA w ((aH b s).map ak)):=by
 have H0:=hid (lp.zero b s);have HL:=hid (show((aH b s).map ak).length<=1000001 by have:=qG b s;simp;omega);generalize (aH b s).map ak=A at*;obtain⟨n,hn⟩:=aj s.length;have hsz:(tx s).size=n:=by rw[aM,hn]
 have HN:=hid hn;rw[hn]at hs;clear hn;go_in;go_wp2
 go_loopw [5,6,7] (fun v f i wr=> ∃(k f':Nat) (P:List Tx) (a:Option Addr) (c:Nat),k<=n+1/\i= .int .i64 k/\f= .int .i64 f'/\v= .slice a P.length c/\P.length<=k/\iS wr w.heap.size a P.length c P/\Below w.heap.size w wr/\Hid (lp b s A k f' P)) (fun _ _ i _=>n+1-(intOf i).toNat)
 ·exact⟨0,0,[],none,0,by omega,rfl,rfl,rfl,by simp,Own.nil _ _ _ _,Below.refl _ _,H0⟩
 clear H0;obtain⟨k,f,P,a,c,hk,rfl,rfl,rfl,hP,o1,E,HS⟩:=hrel
 have hc:(k<n/\ ∃x,s[k]? =some x/\x≠b)\/((k<=n/\f<=k)/\(((k:Int)==(n:Int))=true\/(((k:Int)==(n:Int))=false/\s[k]? =some b))/\lp b s A (k+1) (k+1) (P++[ak ((s.take k).drop f)]))\/k=n+1:=by
  have hn:=HN.out;rcases Nat.lt_trichotomy k n with h|h|h
  ·obtain⟨x,hx⟩: ∃x,s[k]? =some x:=⟨_,am9 (by omega)⟩
   by_cases e:x=b
   ·subst e;exact .inr (.inl ⟨⟨by omega,HS.out.le (by omega)⟩,.inr ⟨ ah,hx⟩,HS.out.cut hx⟩)
   exact .inl ⟨h,x,hx,e⟩
  ·exact .inr (.inl ⟨⟨by omega,HS.out.le (by omega)⟩,.inl ah,HS.out.fin (by omega)⟩)
  exact .inr (.inr (by omega))
 rcases hc with⟨hlt,x,hx,hne⟩|⟨⟨hkn,tf⟩,ht,hS⟩|rfl
 ·have ix:=bB s k x hx
  have z1:((k:Int)==(n:Int))=false:=ah;have z2:((x.toNat:Int)==(b.toNat:Int))=false:=by simp only[beq_eq_false_iff_ne,ne_eq];intro e;exact hne (aph.1 (by omega))
  have HR:=hid (HS.out.step hx hne);clear hx hne HS;go_wp2
  go_roundw;exact⟨k+1,f,P,a,c,by omega,by go_num,rfl,rfl,by omega,o1,E,HR.out⟩;simp[intOf];omega
 ·have HR:=hid hS
  have sl:=jD s f k tf (by rw[HN.out];exact hkn);have hq:((s.take k).drop f).length<=9223372036854775807:=ah;have TR:=hid (fun w=>NB ((s.take k).drop f) hq w);clear hS HS hq;generalize (s.take k).drop f=q at*;rcases ht with z1|⟨z1,hx⟩
  ·go_wp2_with fail
   refine av (TR.out _) ?_
   go_wp2_with (at_builtin;go_loud(refine jd jc (.tmp 25) (.tmp 31) rfl rfl rfl o1 rfl rfl jf E E.size (by omega) cz ?_))
   intro a3 c3 w3 o3 g3 B3;have o4:iS w3 w.heap.size a3 (P.length+1) c3 (P++[ak q]):=by simpa[iS]using o3
   clear o1 o3 g3 E;go_wp2
   go_roundw;exact⟨k+1,k+1,P++[ak q],a3,c3,by omega,by go_num,by go_num,by simp,ah,by simpa using o4,B3,HR.out⟩;simp[intOf];omega
  have ix:=bB s k b hx
  have hlt:k<n:=by simp at z1;omega
  clear hx;go_wp2_with fail;refine av (TR.out _) ?_
  go_wp2_with (at_builtin;go_loud(refine jd jc (.tmp 25) (.tmp 31) rfl rfl rfl o1 rfl rfl jf E E.size (by omega) cz ?_))
  intro a3 c3 w3 o3 g3 B3;have o4:iS w3 w.heap.size a3 (P.length+1) c3 (P++[ak q]):=by simpa[iS]using o3
  clear o1 o3 g3 E;go_wp2
  go_roundw;exact⟨k+1,k+1,P++[ak q],a3,c3,by omega,by go_num,by go_num,by simp,ah,by simpa using o4,B3,HR.out⟩;simp[intOf];omega
 obtain rfl:P=A:=HS.out.all (by rw[HN.out])
 go_wp2;go_ret;exact⟨_,_,rfl,o1.lP (aI HL.out),E⟩
def cS(s:Tx):Option Int:=
 if s=[]\/11<s.length then none
 else if s.head?=some 45 then(if s.drop 1=[]\/(s.drop 1).head?=some 48\/(s.drop 1).all aD=false then none else some (-(eN 0 (s.drop 1):Int)))
 else if(s.head?=some 48/\1<s.length)\/s.all aD=false then none else some (eN 0 s:Int)
def Aw(s:Tx)(v:Int)(ok:Bool):Prop:=(cS s=none/\v=0/\ok=false)\/(cS s=some v/\ok=Ct v)
def lS(s:Tx)(w:World)(e:Ending)(w':World):Prop:=(∃v ok,e= .returned (.tuple #[.int .i64 v,.bool ok])/\Aw s v ok)/\w=w'
theorem lS.no(w:World)(h:cS s=none):lS s w (.returned (.tuple #[.int .i64 0,.bool false])) w:=⟨⟨0,false,rfl,.inl ⟨h,rfl,rfl⟩⟩,rfl⟩
theorem lS.yes(w:World)(h:cS s=some v):lS s w (.returned (.tuple #[.int .i64 v,.bool (Ct v)])) w:=⟨⟨v,_,rfl,.inr ⟨h,rfl⟩⟩,rfl⟩
theorem OH(x:UInt8): ∀(l:Tx) (a:Nat),eN a (l++[x])=10*eN a l+(x.toNat-48)
 |[],a=>rfl
 |c::r,a=>OH x r _
def jo(s:Tx)(i k V:Nat):Prop:=i<=k/\V=eN 0 ((s.take k).drop i)/\((s.take k).drop i).all aD=true/\V<10 ^ (k-i)
theorem qc(h:aD x=true):48<=x.toNat/\x.toNat<=57:=by
 unfold aD at h;simp only[anS,decide_eq_true_eq,UInt8.le_iff_toNat_le]at h;exact h
theorem jo.zero(s:Tx)(i:Nat):jo s i i 0:=by
 have e:(s.take i).drop i=[]:=anj ah;exact⟨anb _,by rw[e];rfl,by rw[e];rfl,by simp⟩
theorem jo.step(h:jo s i k V)(hx:s[k]? =some x)(hd:aD x=true):jo s i (k+1) (10*V+(x.toNat-48)):=by
 obtain⟨h1,h2,h3,h4⟩:=h;obtain⟨hk, -⟩:=anx.1 hx
 have e:(s.take (k+1)).drop i=(s.take k).drop i++[x]:=by
  rw[List.take_add_one,hx,aoJ ah];rfl
 have hb:=(qc hd).2;refine⟨by omega,by rw[e,OH,<-h2],by rw[e,List.all_append,h3];simp[hd],?_⟩;rw[show k+1-i=(k-i)+1 by omega,Nat.pow_succ];omega
theorem jo.small(h:jo s i k V)(hk:k<=11):V<=100000000000:=by
 have h1:10 ^ (k-i)<=10 ^ 11:=Nat.pow_le_pow_right (by omega) (by omega);have h2:=h.2.2.2;have h3:(10:Nat) ^ 11=100000000000:=by decide
 omega
theorem jo.bad(h:jo s i k V)(hx:s[k]? =some x)(hd:aD x=false):(s.drop i).all aD=false:=by
 rw[List.all_eq_false];refine⟨x,List.mem_of_getElem? (i:=k-i) ?_,by rw[hd];simp⟩;rw[List.getElem?_drop,show i+(k-i)=k by have:=h.1;omega];exact hx
theorem jo.done(h:jo s i k V)(hk:k=s.length):V=eN 0 (s.drop i)/\(s.drop i).all aD=true:=by
 subst hk;have:=h.2;rw[ao0]at this;exact⟨this.1,this.2.1⟩
theorem ajN(s:Tx)(w:World):Calls prog 194 #[.string (tx s)] w (lS s w):=by
 obtain⟨n,hn⟩:=aj s.length;have hsz:(tx s).size=n:=by rw[aM,hn]
 have HN:=hid hn
 by_cases h0:n=0
 ·have HR:=hid (show cS s=none by unfold cS;rw[if_pos (.inl (List.eq_nil_of_length_eq_zero (by omega)))])
  have z0:((n:Int)==0)=true:=ah;clear hn h0;go_in;go_wp2
  go_ret2
  exact lS.no _ HR.out
 have z0:((n:Int)==0)=false:=ah;have jK:1<=n:=by omega
 by_cases h11:11<n
 ·have HR:=hid (show cS s=none by unfold cS;rw[if_pos (.inr (by omega))])
  clear hn h0;go_in;go_wp2
  go_ret2
  exact lS.no _ HR.out
 obtain⟨c,hc⟩: ∃c,s[0]? =some c:=⟨_,am9 (by omega)⟩;have hh:s.head?=some c:=by rw[<-hc];cases s<;>rfl
 have HU: ¬(s=[]\/11<s.length):=by
  rintro(rfl|h)
  ·exact h0 hn.symm
  omega
 have i0:=kJ s c hc
 by_cases h45:c=45
 ·subst h45
  have z45:(((45:UInt8).toNat:Int)==45)=true:=by decide
  have HV:=hid (show cS s=(if s.drop 1=[]\/(s.drop 1).head?=some 48\/(s.drop 1).all aD=false then none else some (-(eN 0 (s.drop 1):Int))) by unfold cS;rw[if_neg HU,if_pos hh]);clear HU hh hc
  by_cases h1:n=1
  ·have HR:=hid (show cS s=none by rw[HV.out,if_pos (.inl (anj (by omega)))])
   have z1:((1:Int)==(n:Int))=true:=ah;clear hn h0 h1 HV;go_in;go_wp2
   go_ret2
   exact lS.no _ HR.out
  have z1:((1:Int)==(n:Int))=false:=ah;obtain⟨d,hd⟩: ∃d,s[1]? =some d:=⟨_,am9 (by omega)⟩;have om:(s.drop 1).head?=some d:=by rw[List.head?_drop];exact hd
  have i1: ∀w,(Instr.index 9 (.string (tx s)) (.int .i64 1)).run prog w= .ok (.int .u8 d.toNat) w:=bB s 1 d hd
  by_cases h48:d=48
  ·have wY:((d.toNat:Int)==48)=true:=by rw[h48];decide
   have HR:=hid (show cS s=none by rw[HV.out,if_pos (.inr (.inl (by rw[om,h48])))]);clear hn h0 HV om h48 hd
   by_cases h2:2<n
   ·go_in
    go_wp2
    go_ret2
    exact lS.no _ HR.out
   go_in
   go_wp2
   go_ret2
   exact lS.no _ HR.out
  have wY:((d.toNat:Int)==48)=false:=by
   simp only[beq_eq_false_iff_ne,ne_eq];intro e;exact h48 (aph.1 (by have:(48:UInt8).toNat=48:=rfl;omega))
  have HB:=hid (fun(h:(s.drop 1).all aD=false)=>show cS s=none by rw[HV.out,if_pos (.inr (.inr h))])
  have HG:=hid (fun(h:(s.drop 1).all aD=true)=>show cS s=some (-(eN 0 (s.drop 1):Int)) by
   rw[HV.out,if_neg];rintro(h'|h'|h')
   ·rw[h']at om;cases om
   ·rw[om]at h';exact h48 (an4 h')
   rw[h]at h';cases h')
  clear hn h0 HV om h48 hd;go_in;go_wp2_with fail
  go_loop [5,6] (fun v kk=> ∃k V:Nat,k<=n/\kk= .int .i64 k/\v= .int .i64 V/\Hid (jo s 1 k V)) (fun _ kk=>n-(intOf kk).toNat)
  ·exact⟨1,0,by omega,rfl,rfl,jo.zero s 1⟩
  obtain⟨k,V,hk,rfl,rfl,HA⟩:=hrel;have hV:=HA.out.small (by omega)
  by_cases hlt:k<n
  ·obtain⟨x,hx⟩: ∃x,s[k]? =some x:=⟨_,am9 (aI HN.out)⟩
   have ix:=bB s k x hx;cases hd:aD x
   ·have HR:=hid (HB.out (HA.out.bad hx hd))
    have HD:=hid hd;clear hx hd HA
    go_wp2_with (go_at_call 255;refine av (yV x _) ?_;rw[HD.out])
    go_ret2
    exact lS.no _ HR.out
   have HR:=hid (HA.out.step hx hd)
   have HD:=hid hd;obtain⟨x1,x2⟩:=qc hd;clear hx hd HA
   go_wp2_with (go_at_call 255;refine av (yV x _) ?_;rw[HD.out])
   go_round
   case rel=>exact⟨k+1,_,by omega,by go_num,by congr 1;omega,HR.out⟩
   case measure=>simp[intOf];omega
  obtain⟨hv,ha⟩:=HA.out.done (aI HN.out)
  have HR:=hid (HG.out ha);rw[<-hv]at HR;clear hv ha HA
  go_wp2_with (go_at_call 256;refine av (Nx _ _) ?_)
  go_ret2
  exact lS.yes _ HR.out
 have z45:((c.toNat:Int)==45)=false:=by
  simp only[beq_eq_false_iff_ne,ne_eq];intro e;exact h45 (aph.1 (by have:(45:UInt8).toNat=45:=rfl;omega))
 have HV:=hid (show cS s=(if(s.head?=some 48/\1<s.length)\/s.all aD=false then none else some (eN 0 s:Int)) by unfold cS;rw[if_neg HU,if_neg (by rw[hh];intro e;exact h45 (an4 e))]);have z1:((0:Int)==(n:Int))=false:=ah;have HB:=hid (fun(h:(s.drop 0).all aD=false)=>show cS s=none by rw[HV.out,if_pos (.inr h)])
 by_cases h48:c=48
 ·have wY:((c.toNat:Int)==48)=true:=by rw[h48];decide
  by_cases h1:1<n
  ·have HR:=hid (show cS s=none by rw[HV.out,if_pos (.inl ⟨by rw[hh,h48],by omega⟩)])
   clear hn h0 HV hh h48 hc HU h45;go_in;go_wp2
   go_ret2
   exact lS.no _ HR.out
  have HG:=hid (fun(h:(s.drop 0).all aD=true)=>show cS s=some (eN 0 (s.drop 0):Int) by
   rw[HV.out,if_neg]
   ·rfl
   rintro(⟨-, h'⟩|h')
   ·omega
   rw[show s.all aD=true from h]at h';cases h')
  clear hn h0 HV hh h48 hc HU h45;go_in;go_wp2_with fail
  go_loop [5,6] (fun v kk=> ∃k V:Nat,k<=n/\kk= .int .i64 k/\v= .int .i64 V/\Hid (jo s 0 k V)) (fun _ kk=>n-(intOf kk).toNat)
  ·exact⟨0,0,by omega,rfl,rfl,jo.zero s 0⟩
  obtain⟨k,V,hk,rfl,rfl,HA⟩:=hrel;have hV:=HA.out.small (by omega)
  by_cases hlt:k<n
  ·obtain⟨x,hx⟩: ∃x,s[k]? =some x:=⟨_,am9 (aI HN.out)⟩
   have ix:=bB s k x hx;cases hd:aD x
   ·have HR:=hid (HB.out (HA.out.bad hx hd))
    have HD:=hid hd;clear hx hd HA
    go_wp2_with (go_at_call 255;refine av (yV x _) ?_;rw[HD.out])
    go_ret2
    exact lS.no _ HR.out
   have HR:=hid (HA.out.step hx hd)
   have HD:=hid hd;obtain⟨x1,x2⟩:=qc hd;clear hx hd HA
   go_wp2_with (go_at_call 255;refine av (yV x _) ?_;rw[HD.out])
   go_round
   case rel=>exact⟨k+1,_,by omega,by go_num,by congr 1;omega,HR.out⟩
   case measure=>simp[intOf];omega
  obtain⟨hv,ha⟩:=HA.out.done (aI HN.out)
  have HR:=hid (HG.out ha);rw[<-hv]at HR;clear hv ha HA
  go_wp2_with (go_at_call 256;refine av (Nx _ _) ?_)
  go_ret2
  exact lS.yes _ HR.out
 have wY:((c.toNat:Int)==48)=false:=by
  simp only[beq_eq_false_iff_ne,ne_eq];intro e;exact h48 (aph.1 (by have:(48:UInt8).toNat=48:=rfl;omega))
 have HG:=hid (fun(h:(s.drop 0).all aD=true)=>show cS s=some (eN 0 (s.drop 0):Int) by
  rw[HV.out,if_neg]
  ·rfl
  rintro(⟨h', -⟩|h')
  ·rw[hh]at h';exact h48 (an4 h')
  rw[show s.all aD=true from h]at h';cases h')
 clear hn h0 HV hh h48 hc HU h45;go_in;go_wp2_with fail
 go_loop [5,6] (fun v kk=> ∃k V:Nat,k<=n/\kk= .int .i64 k/\v= .int .i64 V/\Hid (jo s 0 k V)) (fun _ kk=>n-(intOf kk).toNat)
 ·exact⟨0,0,by omega,rfl,rfl,jo.zero s 0⟩
 obtain⟨k,V,hk,rfl,rfl,HA⟩:=hrel;have hV:=HA.out.small (by omega)
 by_cases hlt:k<n
 ·obtain⟨x,hx⟩: ∃x,s[k]? =some x:=⟨_,am9 (aI HN.out)⟩
  have ix:=bB s k x hx;cases hd:aD x
  ·have HR:=hid (HB.out (HA.out.bad hx hd))
   have HD:=hid hd;clear hx hd HA
   go_wp2_with (go_at_call 255;refine av (yV x _) ?_;rw[HD.out])
   go_ret2
   exact lS.no _ HR.out
  have HR:=hid (HA.out.step hx hd)
  have HD:=hid hd;obtain⟨x1,x2⟩:=qc hd;clear hx hd HA
  go_wp2_with (go_at_call 255;refine av (yV x _) ?_;rw[HD.out])
  go_round
  case rel=>exact⟨k+1,_,by omega,by go_num,by congr 1;omega,HR.out⟩
  case measure=>simp[intOf];omega
 obtain⟨hv,ha⟩:=HA.out.done (aI HN.out)
 have HR:=hid (HG.out ha);rw[<-hv]at HR;clear hv ha HA
 go_wp2_with (go_at_call 256;refine av (Nx _ _) ?_)
 go_ret2
 exact lS.yes _ HR.out
def Nb(s:Tx):Option Nat:=match (aH 40 s).map ak with
 |[x,y]=>if x=[48]/\y.getLast?=some 41 then bf (ak y.dropLast)else none
 |_=>none
theorem xP(p:UInt8->Bool)(c:UInt8)(hc:p c=false)(ys:Tx): ∀xs:Tx,(xs++c::ys).dropWhile p=xs.dropWhile p++c::ys
 |[]=>by simp[hc]
 | x::xs=>by
   rw[aod,anV,anV]
   by_cases hx:p x=true
   ·rw[if_pos hx,if_pos hx,xP p c hc ys xs]
   rw[if_neg hx,if_neg hx];rfl
theorem Fm(p:UInt8->Bool)(c:UInt8)(hc:p c=false): ∀xs:Tx,c∈xs->c∈xs.dropWhile p
 |[],h=>h
 | x::xs,h=>by
   rw[anV]
   by_cases hx:p x=true
   ·rw[if_pos hx]
    rcases anE.1 h with e|e
    ·subst e;rw[hc]at hx;cases hx
    exact Fm p c hc xs e
   rw[if_neg hx];exact h
theorem J2(p:UInt8->Bool)(c:UInt8)(xs:Tx)(h:c∈xs.dropWhile p):c∈xs:=(List.dropWhile_suffix p).subset h
theorem acC(p:UInt8->Bool)(xs:Tx):(xs.dropWhile p).dropWhile p=xs.dropWhile p:=Fl (fun c hc=>je hc)
theorem Ot(l:Tx):ak (l.dropWhile aq)=ak l:=by
 rw[<-Dv,<-Dv,acC]
def cr(l:Tx):Tx:=(l.reverse.dropWhile aq).reverse
theorem tN(l:Tx):ak l=(cr l).dropWhile aq:=uW l
theorem Du(A B:Tx)(c:UInt8)(hc:aq c=false):ak (A++c::B)=A.dropWhile aq++c::cr B:=by
 rw[uW,aqN,aqO,anZ,aqM,xP _ _ hc,aqN,aqO,List.reverse_reverse,anZ,aqM,xP _ _ hc];rfl
theorem zH(c:UInt8)(B:Tx): ∀A:Tx,c∉A->(A++c::B).takeWhile (· != c)=A/\(A++c::B).dropWhile (· != c)=c::B
 |[],_=>by simp
 | x::A,h=>by
   simp only[anE,not_or]at h;obtain⟨h1,h2⟩:=zH c B A h.2;rw[aod,List.takeWhile_cons,anV,if_pos (by simpa using Ne.symm h.1),if_pos (by simpa using Ne.symm h.1),h1,h2];exact⟨rfl,rfl⟩
theorem Wd(hc:aq c=false)(h:c∈l):c∈cr l:=by
 unfold cr;rw[aqP];exact Fm _ _ hc _ (aqP.2 h)
theorem afM(hc:aq c=false)(h:c∈l):c∈ak l:=by
 rw[tN];exact Fm _ _ hc _ (Wd hc h)
theorem Dt(h:c∈ak l):c∈l:=by
 rw[uW]at h;have:=J2 _ _ _ h;rw[aqP]at this;exact aqP.1 (J2 _ _ _ this)
theorem xT(c:UInt8): ∀l:Tx,c∈l-> ∃A B,l=A++c::B/\c∉A
 |[],h=>by simp at h
 | x::l,h=>by
   by_cases hx:x=c
   ·exact⟨[],l,by rw[hx];rfl,by simp⟩
   have hm:c∈l:=by rcases anE.1 h with e|e;exact absurd e.symm hx;exact e
   obtain⟨A,B,rfl,hA⟩:=xT c l hm;exact⟨x::A,B,rfl,by simp only[anE,not_or];exact⟨Ne.symm hx,hA⟩⟩
theorem aj8: ∀n:Fin 32,(40:UInt8)∉iu n.val:=dx
theorem aj1{t:Tx}(h:(40:UInt8)∈t):bf t=none:=by
 cases hr:bf t with
 |none=>rfl
 | some n=>
   obtain⟨h1,h2⟩:=GO hr;rw[h2]at h;exact absurd h (aj8 ⟨n,h1⟩)
theorem qv:l.getLast?=some c<-> ∃X,l=X++[c]:=by
 constructor
 ·intro h
  have hne:l≠[]:=by intro e;subst e;simp at h
  refine⟨l.dropLast,?_⟩;rw[List.getLast?_eq_some_getLast hne]at h;simp at h;rw[<-h];exact(List.dropLast_concat_getLast hne).symm
 rintro⟨X,rfl⟩;simp
theorem aaC(A B:Tx)(hA:(40:UInt8)∉A):ez (A++40::B)=if ak A=[48]/\(cr B).getLast?=some 41 then bf (ak (cr B).dropLast)else none:=by
 have hA':(40:UInt8)∉A.dropWhile aq:=fun h=>hA (J2 _ _ _ h)
 obtain⟨t1,t2⟩:=zH 40 (cr B) _ hA';unfold ez;simp only;rw[Du A B 40 (by decide),t1,t2,Ot];have hc:(A.dropWhile aq++40::cr B).contains 40=true:=by simp
 rw[hc,List.getLast?_append,List.getLast?_cons,Bool.true_and,List.drop_one,List.tail_cons];generalize cr B=B';cases hB:B'.getLast? with
 |none=>simp
 | some x=>
   by_cases hx:x=41<;>by_cases hT:ak A=[48]<;>simp[hx,hT]
theorem ag2(s:Tx):Nb s=ez s:=by
 by_cases h:(40:UInt8)∈s
 ·obtain⟨A,B,rfl,hA⟩:=xT 40 s h
  rw[aaC A B hA];unfold Nb;rw[G8 40 A B hA,aoY]
  by_cases hB:(40:UInt8)∈B
  ·obtain⟨A2,B2,rfl,Kf⟩:=xT 40 B hB
   rw[G8 40 A2 B2 Kf,aoY];have hne:=mW 40 B2
   have hn:(if ak A=[48]/\(cr (A2++40::B2)).getLast?=some 41 then bf (ak (cr (A2++40::B2)).dropLast)else none)=none:=by
    split
    ·rename_i hh
     obtain⟨X,hX⟩:=qv.1 hh.2;rw[hX,aqR];refine aj1 (afM (by decide) ?_);have hm:=Wd (c:=40) (by decide) hB;rw[hX]at hm;rcases aok.1 hm with h|h
     ·exact h
     simp at h
    rfl
   rw[hn];cases hs:aH 40 B2 with
   |nil=>exact absurd hs hne
   |cons u v=>rfl
  rw[zh 40 B hB]
  simp only[aoY,List.map_nil]
  have key:(ak B).getLast?=some 41<->(cr B).getLast?=some 41:=by
   rw[tN]
   constructor
   ·exact Ch
   intro hh
   obtain⟨X,hX⟩:=qv.1 hh;rw[hX,xP aq 41 (by decide)];simp
  by_cases hh:(cr B).getLast?=some 41
  ·obtain⟨X,hX⟩:=qv.1 hh
   have e2:ak (ak B).dropLast=ak (cr B).dropLast:=by
    rw[tN B,hX,xP aq 41 (by decide),aqR,aqR,Ot]
   rw[e2]
   by_cases hT:ak A=[48]
   ·rw[if_pos ⟨hT,key.2 hh⟩,if_pos ⟨hT,hh⟩]
   rw[if_neg (fun h=>hT h.1),if_neg (fun h=>hT h.1)]
  rw[if_neg (fun h=>hh (key.1 h.2)),if_neg (fun h=>hh h.2)]
 rw[QI (fun h'=>h (Dt h'))]
 unfold Nb;rw[zh 40 s h];rfl
theorem SD(h1:48<=x.toNat)(h2:x.toNat<=57)(a:Nat):lE (10*a+(x.toNat-48))=x:=by
 unfold lE;rw[show 48+(10*a+(x.toNat-48))%10=x.toNat by omega];exact UInt8.ofNat_toNat
theorem ZZ: ∀(l:Tx) (a:Nat),0<a->0<eN a l
 |[],a,h=>h
 |c::r,a,h=>ZZ r _ (by omega)
theorem OJ(h0:l≠[])(hd:l.all aD=true)(hh:l.head?≠some 48):0<eN 0 l:=by
 cases l with
 |nil=>exact absurd rfl h0
 | cons c r=>
   simp only[List.all_cons,anS]at hd;have hc:=qc hd.1;refine ZZ r _ ?_;have:c.toNat≠48:=fun e=>hh (by simp only[List.head?_cons,Option.some.injEq];exact aph.1 e)
   omega
theorem acy(n:Nat)(h: ¬n<10):aoc n=aoc (n/10)++[lE n]:=by rw[aoc,dif_neg h];rfl
theorem decDigits_one(n:Nat)(h:n<10):aoc n=[lE n]:=by rw[aoc,dif_pos h];unfold lE;rw[Nat.mod_eq_of_lt h]
theorem canon: ∀(n:Nat) (l:Tx),l.length=n+1->l.all aD=true->(l.head?=some 48->l.length=1)->aoc (eN 0 l)=l
 | 0,l,hn,hd,_=>by
   match l,hn with
   | [x],_=>
     simp only[List.all_cons,List.all_nil,Bool.and_true]at hd;have hx:=qc hd;have:=SD hx.1 hx.2 0;show aoc (10*0+(x.toNat-48))=[x];rw[decDigits_one _ (by omega),this]
 | n+1,l,hn,hd,hh=>by
   rcases aqU l with rfl|⟨r,x,rfl⟩
   ·simp at hn
   rw[aqQ]at*;have hr:r.length=n+1:=by simp at hn;omega
   rw[List.all_append]at hd;simp only[anS,List.all_cons,List.all_nil,Bool.and_true]at hd;have hx:=qc hd.2;have hne:r≠[]:=by intro e;subst e;simp at hr
   have KV:(r++[x]).head?=r.head?:=by cases r with
    |nil=>exact absurd rfl hne
    |cons a b=>rfl
   have h48:r.head?≠some 48:=by
    intro e;rw[KV]at hh;have:=hh e;rw[List.length_append]at this;simp only[List.length_cons,List.length_nil]at this;omega
   have hp:=OJ hne hd.1 h48;have ih:=canon n r hr hd.1 (fun e=>absurd e h48);rw[OH,acy _ (by omega),SD hx.1 hx.2,show(10*eN 0 r+(x.toNat-48))/10=eN 0 r by omega,ih]
theorem agm(h:cS z=some v)(h1: -2048<=v)(h2:v<=2047):lM z=some v:=by
 suffices e:z=mE v by rw[e];exact WH h1 h2
 unfold cS at h
 split at h
 ·cases h
 rename_i hu
 split at h
 ·rename_i hm
  split at h
  ·cases h
  rename_i hn
  obtain⟨r,rfl⟩: ∃r,z=45::r:=by cases z with
   |nil=>simp at hm
   |cons a b=>simp at hm;subst hm;exact⟨b,rfl⟩
  simp only[List.drop_one,List.tail_cons]at h hn;cases h;have a1:r≠[]:=fun e=>hn (.inl e)
  have a2:r.head?≠some 48:=fun e=>hn (.inr (.inl e))
  have a3:r.all aD=true:=by cases hb:r.all aD;exact absurd (.inr (.inr hb)) hn;rfl
  have hp:=OJ a1 a3 a2;have hc:=canon (r.length-1) r (by have:=aon.2 a1;omega) a3 (fun e=>absurd e a2);unfold mE;rw[if_pos (by omega),Int.natAbs_neg,Int.natAbs_natCast,<-Bf (by omega),hc]
 split at h
 ·cases h
 rename_i hn;cases h;have a1:z≠[]:=fun e=>hu (.inl e)
 have a3:z.all aD=true:=by cases hb:z.all aD;exact absurd (.inr hb) hn;rfl
 have a2:z.head?=some 48->z.length=1:=fun e=>by
  have:=aon.2 a1;rcases Nat.lt_or_ge 1 z.length with h'|h'
  ·exact absurd (.inl ⟨e,h'⟩) hn
  omega
 have hc:=canon (z.length-1) z (by have:=aon.2 a1;omega) a3 a2;unfold mE;rw[if_neg (by omega),Int.toNat_natCast,<-Bf (by omega),hc]
theorem agn: ∀a:Fin 64,∀b:Fin 64,cS (mE (((64*a.val+b.val:Nat):Int)-2048))=some (((64*a.val+b.val:Nat):Int)-2048):=dx
theorem WI(h:lM z=some v):cS z=some v:=by
 obtain⟨e,b1,b2⟩:=yI h;have:=agn ⟨(v+2048).toNat/64,by omega⟩ ⟨(v+2048).toNat%64,by omega⟩;simp only at this;rw[show((64*((v+2048).toNat/64)+(v+2048).toNat%64:Nat):Int)-2048=v by omega]at this;rw[e];exact this
theorem aeE{a b:Nat}{ok:Bool}(ha:a<32)(hb:b<32)(hv:Aw z v ok):
 dX ⟨8,a,b,0,v,[],[],0⟩ ok=match lM z with
  |some n=>some ⟨8,a,b,0,n,[],[],0⟩
  |none=>none:=by
 rcases hv with⟨h1,rfl,rfl⟩|⟨h1,rfl⟩
 ·cases hn:lM z with
  |none=>rfl
  |some n=>rw[WI hn]at h1;cases h1
 unfold dX
 rw[JI ha hb]
 by_cases hr: -2048<=v/\v<=2047
 ·rw[agm h1 hr.1 hr.2]
  have hB:Ct v=true:=by unfold Ct;simp;omega
  rw[hB,decide_eq_true hr.1,decide_eq_true hr.2];rfl
 rw[show(decide (-2048<=v)&&decide (v<=2047))=false by simp;omega]
 cases hn:lM z with
 |none=>simp
 | some n=>
   rw[WI hn]at h1;cases h1;obtain⟨-, b1,b2⟩:=yI hn;exact absurd ⟨b1,b2⟩ hr
def sW(p s:Tx):Int:=match lH p,lH s with
 |some k,some j=>3+3*k+j
 |_,_=>0
theorem uo{i:ay}{o q x y z:Bool}(hc:bX i=(o&&q&&x&&y&&z))(ho:o=true):(q=false/\gA i=91)\/(q=true/\x=false/\gA i=91)\/(q=true/\x=true/\y=false/\gA i=91)\/(q=true/\x=true/\y=true/\z=false/\gA i=91)\/(q=true/\x=true/\y=true/\z=true/\gA i=0):=by
 subst ho;cases q
 ·exact .inl ⟨rfl,iX hc⟩
 cases x
 ·exact .inr (.inl ⟨rfl,rfl,iX hc⟩)
 cases y
 ·exact .inr (.inr (.inl ⟨rfl,rfl,rfl,iX hc⟩))
 cases z
 ·exact .inr (.inr (.inr (.inl ⟨rfl,rfl,rfl,rfl,iX hc⟩)))
 exact .inr (.inr (.inr (.inr ⟨rfl,rfl,rfl,rfl,qf hc⟩)))
section
variable (op d a b ag:Int) (loc label:Tx) (ai:Int) (w:World)
theorem ajC(hl:label.length<=9223372036854775807):Calls prog 107 #[vI ⟨6,d,a,b,ag,loc,label,ai⟩] w (aJ w (.int .i64 (gA ⟨6,d,a,b,ag,loc,label,ai⟩))):=by
 obtain⟨n,hn⟩: ∃n,n= !decide ((⟨6,d,a,b,ag,loc,label,ai⟩:ay)=⟨6,d,a,0,0,[],[],0⟩):=⟨_,rfl⟩;have lY: ∀w,(binOp .neq 50 (.agg #[.int .i64 6,.int .i64 d,.int .i64 a,.int .i64 b,.int .i64 ag,.string (tx loc),.string (tx label),.int .i64 ai]) (.agg #[.int .i64 6,.int .i64 d,.int .i64 a,.int .i64 0,.int .i64 0,.string ⟨#[]⟩,.string ⟨#[]⟩,.int .i64 0])).run prog w= .ok (.bool n) w:=fun w=>by rw[hn];exact gP ⟨6,d,a,b,ag,loc,label,ai⟩ ⟨6,d,a,0,0,[],[],0⟩ w
 rcases uo (i:=⟨6,d,a,b,ag,loc,label,ai⟩) (o:=fE ⟨6,d,a,b,ag,loc,label,ai⟩) (q:=decide ((⟨6,d,a,b,ag,loc,label,ai⟩:ay)=⟨6,d,a,0,0,[],[],0⟩)) (x:=dy d) (y:=dy a) (z:=dy b) rfl rfl with⟨hq,h⟩|⟨hq,h1,h⟩|⟨hq,h1,h2,h⟩|⟨hq,h1,h2,h3,h⟩|⟨hq,h1,h2,h3,h⟩
 all_goals
  rw[hq]at hn;simp only[aqw,aqv]at hn;subst hn;have HE:=hid h
  (try have H1:=hid h1);(try have H2:=hid h2);(try have H3:=hid h3)
  clear h hq;(try clear h1);(try clear h2);(try clear h3);go_in
  go_wp2_with (first|(go_at_call 191;refine av (mS _ _) ?_;(try rw[H1.out]);(try rw[H2.out]);(try rw[H3.out]))|(go_at_call 190;refine av (mR label hl _) ?_;rw[HM.out]))
  go_ret;exact⟨bQ HE.out.symm,aF⟩
theorem ajH(hl:label.length<=9223372036854775807):Calls prog 107 #[vI ⟨7,d,a,b,ag,loc,label,ai⟩] w (aJ w (.int .i64 (gA ⟨7,d,a,b,ag,loc,label,ai⟩))):=by
 obtain⟨n,hn⟩: ∃n,n= !decide ((⟨7,d,a,b,ag,loc,label,ai⟩:ay)=⟨7,0,a,b,0,[],[],0⟩):=⟨_,rfl⟩;have lY: ∀w,(binOp .neq 50 (.agg #[.int .i64 7,.int .i64 d,.int .i64 a,.int .i64 b,.int .i64 ag,.string (tx loc),.string (tx label),.int .i64 ai]) (.agg #[.int .i64 7,.int .i64 0,.int .i64 a,.int .i64 b,.int .i64 0,.string ⟨#[]⟩,.string ⟨#[]⟩,.int .i64 0])).run prog w= .ok (.bool n) w:=fun w=>by rw[hn];exact gP ⟨7,d,a,b,ag,loc,label,ai⟩ ⟨7,0,a,b,0,[],[],0⟩ w
 rcases uo (i:=⟨7,d,a,b,ag,loc,label,ai⟩) (o:=fE ⟨7,d,a,b,ag,loc,label,ai⟩) (q:=decide ((⟨7,d,a,b,ag,loc,label,ai⟩:ay)=⟨7,0,a,b,0,[],[],0⟩)) (x:=dy d) (y:=dy a) (z:=dy b) rfl rfl with⟨hq,h⟩|⟨hq,h1,h⟩|⟨hq,h1,h2,h⟩|⟨hq,h1,h2,h3,h⟩|⟨hq,h1,h2,h3,h⟩
 all_goals
  rw[hq]at hn;simp only[aqw,aqv]at hn;subst hn;have HE:=hid h
  (try have H1:=hid h1);(try have H2:=hid h2);(try have H3:=hid h3)
  clear h hq;(try clear h1);(try clear h2);(try clear h3);go_in
  go_wp2_with (first|(go_at_call 191;refine av (mS _ _) ?_;(try rw[H1.out]);(try rw[H2.out]);(try rw[H3.out]))|(go_at_call 190;refine av (mR label hl _) ?_;rw[HM.out]))
  go_ret;exact⟨bQ HE.out.symm,aF⟩
theorem ajI(hl:label.length<=9223372036854775807):Calls prog 107 #[vI ⟨9,d,a,b,ag,loc,label,ai⟩] w (aJ w (.int .i64 (gA ⟨9,d,a,b,ag,loc,label,ai⟩))):=by
 obtain⟨n,hn⟩: ∃n,n= !decide ((⟨9,d,a,b,ag,loc,label,ai⟩:ay)=⟨9,d,a,b,0,[],[],0⟩):=⟨_,rfl⟩;have lY: ∀w,(binOp .neq 50 (.agg #[.int .i64 9,.int .i64 d,.int .i64 a,.int .i64 b,.int .i64 ag,.string (tx loc),.string (tx label),.int .i64 ai]) (.agg #[.int .i64 9,.int .i64 d,.int .i64 a,.int .i64 b,.int .i64 0,.string ⟨#[]⟩,.string ⟨#[]⟩,.int .i64 0])).run prog w= .ok (.bool n) w:=fun w=>by rw[hn];exact gP ⟨9,d,a,b,ag,loc,label,ai⟩ ⟨9,d,a,b,0,[],[],0⟩ w
 rcases uo (i:=⟨9,d,a,b,ag,loc,label,ai⟩) (o:=fE ⟨9,d,a,b,ag,loc,label,ai⟩) (q:=decide ((⟨9,d,a,b,ag,loc,label,ai⟩:ay)=⟨9,d,a,b,0,[],[],0⟩)) (x:=dy d) (y:=dy a) (z:=dy b) rfl rfl with⟨hq,h⟩|⟨hq,h1,h⟩|⟨hq,h1,h2,h⟩|⟨hq,h1,h2,h3,h⟩|⟨hq,h1,h2,h3,h⟩
 all_goals
  rw[hq]at hn;simp only[aqw,aqv]at hn;subst hn;have HE:=hid h
  (try have H1:=hid h1);(try have H2:=hid h2);(try have H3:=hid h3)
  clear h hq;(try clear h1);(try clear h2);(try clear h3);go_in
  go_wp2_with (first|(go_at_call 191;refine av (mS _ _) ?_;(try rw[H1.out]);(try rw[H2.out]);(try rw[H3.out]))|(go_at_call 190;refine av (mR label hl _) ?_;rw[HM.out]))
  go_ret;exact⟨bQ HE.out.symm,aF⟩
theorem aju(hl:label.length<=9223372036854775807):Calls prog 107 #[vI ⟨10,d,a,b,ag,loc,label,ai⟩] w (aJ w (.int .i64 (gA ⟨10,d,a,b,ag,loc,label,ai⟩))):=by
 obtain⟨n,hn⟩: ∃n,n= !decide ((⟨10,d,a,b,ag,loc,label,ai⟩:ay)=⟨10,d,a,b,0,[],[],0⟩):=⟨_,rfl⟩;have lY: ∀w,(binOp .neq 50 (.agg #[.int .i64 10,.int .i64 d,.int .i64 a,.int .i64 b,.int .i64 ag,.string (tx loc),.string (tx label),.int .i64 ai]) (.agg #[.int .i64 10,.int .i64 d,.int .i64 a,.int .i64 b,.int .i64 0,.string ⟨#[]⟩,.string ⟨#[]⟩,.int .i64 0])).run prog w= .ok (.bool n) w:=fun w=>by rw[hn];exact gP ⟨10,d,a,b,ag,loc,label,ai⟩ ⟨10,d,a,b,0,[],[],0⟩ w
 rcases uo (i:=⟨10,d,a,b,ag,loc,label,ai⟩) (o:=fE ⟨10,d,a,b,ag,loc,label,ai⟩) (q:=decide ((⟨10,d,a,b,ag,loc,label,ai⟩:ay)=⟨10,d,a,b,0,[],[],0⟩)) (x:=dy d) (y:=dy a) (z:=dy b) rfl rfl with⟨hq,h⟩|⟨hq,h1,h⟩|⟨hq,h1,h2,h⟩|⟨hq,h1,h2,h3,h⟩|⟨hq,h1,h2,h3,h⟩
 all_goals
  rw[hq]at hn;simp only[aqw,aqv]at hn;subst hn;have HE:=hid h
  (try have H1:=hid h1);(try have H2:=hid h2);(try have H3:=hid h3)
  clear h hq;(try clear h1);(try clear h2);(try clear h3);go_in
  go_wp2_with (first|(go_at_call 191;refine av (mS _ _) ?_;(try rw[H1.out]);(try rw[H2.out]);(try rw[H3.out]))|(go_at_call 190;refine av (mR label hl _) ?_;rw[HM.out]))
  go_ret;exact⟨bQ HE.out.symm,aF⟩
theorem ajG(hl:label.length<=9223372036854775807)(h:ag< -2048):Calls prog 107 #[vI ⟨8,d,a,b,ag,loc,label,ai⟩] w (aJ w (.int .i64 (gA ⟨8,d,a,b,ag,loc,label,ai⟩))):=by
 have z1:decide (-2048<=ag)=false:=ah;have HE:=hid (iX (i:=⟨8,d,a,b,ag,loc,label,ai⟩) (show bX ⟨8,d,a,b,ag,loc,label,ai⟩=false by unfold bX;rw[show fE ⟨8,d,a,b,ag,loc,label,ai⟩=false from(by show(decide (-2048<=ag)&&decide (ag<=2047))=false;simp;omega)];rfl));go_in
 go_wp2_with (first|(go_at_call 191;refine av (mS _ _) ?_;(try rw[H1.out]);(try rw[H2.out]);(try rw[H3.out]))|(go_at_call 190;refine av (mR label hl _) ?_;rw[HM.out]))
 go_ret;exact⟨bQ HE.out.symm,aF⟩
theorem ajE(hl:label.length<=9223372036854775807)(h:2047<ag):Calls prog 107 #[vI ⟨8,d,a,b,ag,loc,label,ai⟩] w (aJ w (.int .i64 (gA ⟨8,d,a,b,ag,loc,label,ai⟩))):=by
 have z1:decide (-2048<=ag)=true:=ah;have z2:decide (ag<=2047)=false:=ah;have HE:=hid (iX (i:=⟨8,d,a,b,ag,loc,label,ai⟩) (show bX ⟨8,d,a,b,ag,loc,label,ai⟩=false by unfold bX;rw[show fE ⟨8,d,a,b,ag,loc,label,ai⟩=false from(by show(decide (-2048<=ag)&&decide (ag<=2047))=false;simp;omega)];rfl));go_in
 go_wp2_with (first|(go_at_call 191;refine av (mS _ _) ?_;(try rw[H1.out]);(try rw[H2.out]);(try rw[H3.out]))|(go_at_call 190;refine av (mR label hl _) ?_;rw[HM.out]))
 go_ret;exact⟨bQ HE.out.symm,aF⟩
theorem ajF(hl:label.length<=9223372036854775807)(g1: -2048<=ag)(g2:ag<=2047):Calls prog 107 #[vI ⟨8,d,a,b,ag,loc,label,ai⟩] w (aJ w (.int .i64 (gA ⟨8,d,a,b,ag,loc,label,ai⟩))):=by
 have z1:decide (-2048<=ag)=true:=ah;have z2:decide (ag<=2047)=true:=ah;obtain⟨n,hn⟩: ∃n,n= !decide ((⟨8,d,a,b,ag,loc,label,ai⟩:ay)=⟨8,d,a,0,ag,[],[],0⟩):=⟨_,rfl⟩;have lY: ∀w,(binOp .neq 50 (.agg #[.int .i64 8,.int .i64 d,.int .i64 a,.int .i64 b,.int .i64 ag,.string (tx loc),.string (tx label),.int .i64 ai]) (.agg #[.int .i64 8,.int .i64 d,.int .i64 a,.int .i64 0,.int .i64 ag,.string ⟨#[]⟩,.string ⟨#[]⟩,.int .i64 0])).run prog w= .ok (.bool n) w:=fun w=>by rw[hn];exact gP ⟨8,d,a,b,ag,loc,label,ai⟩ ⟨8,d,a,0,ag,[],[],0⟩ w
 rcases uo (i:=⟨8,d,a,b,ag,loc,label,ai⟩) (o:=fE ⟨8,d,a,b,ag,loc,label,ai⟩) (q:=decide ((⟨8,d,a,b,ag,loc,label,ai⟩:ay)=⟨8,d,a,0,ag,[],[],0⟩)) (x:=dy d) (y:=dy a) (z:=dy b) rfl (by show(decide (-2048<=ag)&&decide (ag<=2047))=true;simp;omega)with⟨hq,h⟩|⟨hq,h1,h⟩|⟨hq,h1,h2,h⟩|⟨hq,h1,h2,h3,h⟩|⟨hq,h1,h2,h3,h⟩
 all_goals
  rw[hq]at hn;simp only[aqw,aqv]at hn;subst hn;have HE:=hid h
  (try have H1:=hid h1);(try have H2:=hid h2);(try have H3:=hid h3)
  clear h hq;(try clear h1);(try clear h2);(try clear h3);go_in
  go_wp2_with (first|(go_at_call 191;refine av (mS _ _) ?_;(try rw[H1.out]);(try rw[H2.out]);(try rw[H3.out]))|(go_at_call 190;refine av (mR label hl _) ?_;rw[HM.out]))
  go_ret;exact⟨bQ HE.out.symm,aF⟩
theorem ajz(hl:label.length<=9223372036854775807)(h:ai<2):Calls prog 107 #[vI ⟨13,d,a,b,ag,loc,label,ai⟩] w (aJ w (.int .i64 (gA ⟨13,d,a,b,ag,loc,label,ai⟩))):=by
 have z1:decide (2<=ai)=false:=ah;have HE:=hid (iX (i:=⟨13,d,a,b,ag,loc,label,ai⟩) (show bX ⟨13,d,a,b,ag,loc,label,ai⟩=false by unfold bX;rw[show fE ⟨13,d,a,b,ag,loc,label,ai⟩=false from(by show(decide (2<=ai)&&decide (ai<=11))=false;simp;omega)];rfl));go_in
 go_wp2_with (first|(go_at_call 191;refine av (mS _ _) ?_;(try rw[H1.out]);(try rw[H2.out]);(try rw[H3.out]))|(go_at_call 190;refine av (mR label hl _) ?_;rw[HM.out]))
 go_ret;exact⟨bQ HE.out.symm,aF⟩
theorem ajx(hl:label.length<=9223372036854775807)(h:11<ai):Calls prog 107 #[vI ⟨13,d,a,b,ag,loc,label,ai⟩] w (aJ w (.int .i64 (gA ⟨13,d,a,b,ag,loc,label,ai⟩))):=by
 have z1:decide (2<=ai)=true:=ah;have z2:decide (ai<=11)=false:=ah;have HE:=hid (iX (i:=⟨13,d,a,b,ag,loc,label,ai⟩) (show bX ⟨13,d,a,b,ag,loc,label,ai⟩=false by unfold bX;rw[show fE ⟨13,d,a,b,ag,loc,label,ai⟩=false from(by show(decide (2<=ai)&&decide (ai<=11))=false;simp;omega)];rfl));go_in
 go_wp2_with (first|(go_at_call 191;refine av (mS _ _) ?_;(try rw[H1.out]);(try rw[H2.out]);(try rw[H3.out]))|(go_at_call 190;refine av (mR label hl _) ?_;rw[HM.out]))
 go_ret;exact⟨bQ HE.out.symm,aF⟩
theorem ajy(hl:label.length<=9223372036854775807)(g1:2<=ai)(g2:ai<=11):Calls prog 107 #[vI ⟨13,d,a,b,ag,loc,label,ai⟩] w (aJ w (.int .i64 (gA ⟨13,d,a,b,ag,loc,label,ai⟩))):=by
 have z1:decide (2<=ai)=true:=ah;have z2:decide (ai<=11)=true:=ah;obtain⟨n,hn⟩: ∃n,n= !decide ((⟨13,d,a,b,ag,loc,label,ai⟩:ay)=⟨13,0,0,0,0,[],[],ai⟩):=⟨_,rfl⟩;have lY: ∀w,(binOp .neq 50 (.agg #[.int .i64 13,.int .i64 d,.int .i64 a,.int .i64 b,.int .i64 ag,.string (tx loc),.string (tx label),.int .i64 ai]) (.agg #[.int .i64 13,.int .i64 0,.int .i64 0,.int .i64 0,.int .i64 0,.string ⟨#[]⟩,.string ⟨#[]⟩,.int .i64 ai])).run prog w= .ok (.bool n) w:=fun w=>by rw[hn];exact gP ⟨13,d,a,b,ag,loc,label,ai⟩ ⟨13,0,0,0,0,[],[],ai⟩ w
 rcases uo (i:=⟨13,d,a,b,ag,loc,label,ai⟩) (o:=fE ⟨13,d,a,b,ag,loc,label,ai⟩) (q:=decide ((⟨13,d,a,b,ag,loc,label,ai⟩:ay)=⟨13,0,0,0,0,[],[],ai⟩)) (x:=dy d) (y:=dy a) (z:=dy b) rfl (by show(decide (2<=ai)&&decide (ai<=11))=true;simp;omega)with⟨hq,h⟩|⟨hq,h1,h⟩|⟨hq,h1,h2,h⟩|⟨hq,h1,h2,h3,h⟩|⟨hq,h1,h2,h3,h⟩
 all_goals
  rw[hq]at hn;simp only[aqw,aqv]at hn;subst hn;have HE:=hid h
  (try have H1:=hid h1);(try have H2:=hid h2);(try have H3:=hid h3)
  clear h hq;(try clear h1);(try clear h2);(try clear h3);go_in
  go_wp2_with (first|(go_at_call 191;refine av (mS _ _) ?_;(try rw[H1.out]);(try rw[H2.out]);(try rw[H3.out]))|(go_at_call 190;refine av (mR label hl _) ?_;rw[HM.out]))
  go_ret;exact⟨bQ HE.out.symm,aF⟩
theorem ajD(hl:label.length<=9223372036854775807)(h:op<6\/13<op):Calls prog 107 #[vI ⟨op,d,a,b,ag,loc,label,ai⟩] w (aJ w (.int .i64 (gA ⟨op,d,a,b,ag,loc,label,ai⟩))):=by
 have z6:(op==6)=false:=ah;have z7:(op==7)=false:=ah;have z8:(op==8)=false:=ah;have z9:(op==9)=false:=ah;have z10:(op==10)=false:=ah;have DM:(op==11)=false:=ah;have z12:(op==12)=false:=ah;have O7:(op==13)=false:=ah;have HE:=hid (iX (i:=⟨op,d,a,b,ag,loc,label,ai⟩) (show bX ⟨op,d,a,b,ag,loc,label,ai⟩=false by unfold bX;rw[show fE ⟨op,d,a,b,ag,loc,label,ai⟩=false from(by unfold fE;simp only;rw[if_neg (by omega),if_neg (by omega),if_neg (by omega)];simp;omega)];rfl));go_in
 go_wp2_with (first|(go_at_call 191;refine av (mS _ _) ?_;(try rw[H1.out]);(try rw[H2.out]);(try rw[H3.out]))|(go_at_call 190;refine av (mR label hl _) ?_;rw[HM.out]))
 go_ret;exact⟨bQ HE.out.symm,aF⟩
theorem ajv(hl:label.length<=9223372036854775807)(hm:aC label=true):Calls prog 107 #[vI ⟨11,d,a,b,ag,loc,label,ai⟩] w (aJ w (.int .i64 (gA ⟨11,d,a,b,ag,loc,label,ai⟩))):=by
 have HM:=hid hm;obtain⟨n,hn⟩: ∃n,n= !decide ((⟨11,d,a,b,ag,loc,label,ai⟩:ay)=⟨11,0,a,b,0,[],label,0⟩):=⟨_,rfl⟩;have lY: ∀w,(binOp .neq 50 (.agg #[.int .i64 11,.int .i64 d,.int .i64 a,.int .i64 b,.int .i64 ag,.string (tx loc),.string (tx label),.int .i64 ai]) (.agg #[.int .i64 11,.int .i64 0,.int .i64 a,.int .i64 b,.int .i64 0,.string ⟨#[]⟩,.string (tx label),.int .i64 0])).run prog w= .ok (.bool n) w:=fun w=>by rw[hn];exact gP ⟨11,d,a,b,ag,loc,label,ai⟩ ⟨11,0,a,b,0,[],label,0⟩ w
 rcases uo (i:=⟨11,d,a,b,ag,loc,label,ai⟩) (o:=fE ⟨11,d,a,b,ag,loc,label,ai⟩) (q:=decide ((⟨11,d,a,b,ag,loc,label,ai⟩:ay)=⟨11,0,a,b,0,[],label,0⟩)) (x:=dy d) (y:=dy a) (z:=dy b) rfl hm with⟨hq,h⟩|⟨hq,h1,h⟩|⟨hq,h1,h2,h⟩|⟨hq,h1,h2,h3,h⟩|⟨hq,h1,h2,h3,h⟩
 all_goals
  rw[hq]at hn;simp only[aqw,aqv]at hn;subst hn;have HE:=hid h
  (try have H1:=hid h1);(try have H2:=hid h2);(try have H3:=hid h3)
  clear h hq;(try clear h1);(try clear h2);(try clear h3);clear hm;go_in
  go_wp2_with (first|(go_at_call 191;refine av (mS _ _) ?_;(try rw[H1.out]);(try rw[H2.out]);(try rw[H3.out]))|(go_at_call 190;refine av (mR label hl _) ?_;rw[HM.out]))
  go_ret;exact⟨bQ HE.out.symm,aF⟩
theorem ajw(hl:label.length<=9223372036854775807)(hm:aC label=false):Calls prog 107 #[vI ⟨11,d,a,b,ag,loc,label,ai⟩] w (aJ w (.int .i64 (gA ⟨11,d,a,b,ag,loc,label,ai⟩))):=by
 have HE:=hid (iX (i:=⟨11,d,a,b,ag,loc,label,ai⟩) (show bX ⟨11,d,a,b,ag,loc,label,ai⟩=false by unfold bX;rw[show fE ⟨11,d,a,b,ag,loc,label,ai⟩=false from hm];rfl));have HM:=hid hm;go_in
 go_wp2_with (first|(go_at_call 191;refine av (mS _ _) ?_;(try rw[H1.out]);(try rw[H2.out]);(try rw[H3.out]))|(go_at_call 190;refine av (mR label hl _) ?_;rw[HM.out]))
 go_ret;exact⟨bQ HE.out.symm,aF⟩
theorem ajA(hl:label.length<=9223372036854775807)(hm:aC label=true):Calls prog 107 #[vI ⟨12,d,a,b,ag,loc,label,ai⟩] w (aJ w (.int .i64 (gA ⟨12,d,a,b,ag,loc,label,ai⟩))):=by
 have HM:=hid hm;obtain⟨n,hn⟩: ∃n,n= !decide ((⟨12,d,a,b,ag,loc,label,ai⟩:ay)=⟨12,0,0,0,0,[],label,0⟩):=⟨_,rfl⟩;have lY: ∀w,(binOp .neq 50 (.agg #[.int .i64 12,.int .i64 d,.int .i64 a,.int .i64 b,.int .i64 ag,.string (tx loc),.string (tx label),.int .i64 ai]) (.agg #[.int .i64 12,.int .i64 0,.int .i64 0,.int .i64 0,.int .i64 0,.string ⟨#[]⟩,.string (tx label),.int .i64 0])).run prog w= .ok (.bool n) w:=fun w=>by rw[hn];exact gP ⟨12,d,a,b,ag,loc,label,ai⟩ ⟨12,0,0,0,0,[],label,0⟩ w
 rcases uo (i:=⟨12,d,a,b,ag,loc,label,ai⟩) (o:=fE ⟨12,d,a,b,ag,loc,label,ai⟩) (q:=decide ((⟨12,d,a,b,ag,loc,label,ai⟩:ay)=⟨12,0,0,0,0,[],label,0⟩)) (x:=dy d) (y:=dy a) (z:=dy b) rfl hm with⟨hq,h⟩|⟨hq,h1,h⟩|⟨hq,h1,h2,h⟩|⟨hq,h1,h2,h3,h⟩|⟨hq,h1,h2,h3,h⟩
 all_goals
  rw[hq]at hn;simp only[aqw,aqv]at hn;subst hn;have HE:=hid h
  (try have H1:=hid h1);(try have H2:=hid h2);(try have H3:=hid h3)
  clear h hq;(try clear h1);(try clear h2);(try clear h3);clear hm;go_in
  go_wp2_with (first|(go_at_call 191;refine av (mS _ _) ?_;(try rw[H1.out]);(try rw[H2.out]);(try rw[H3.out]))|(go_at_call 190;refine av (mR label hl _) ?_;rw[HM.out]))
  go_ret;exact⟨bQ HE.out.symm,aF⟩
theorem ajB(hl:label.length<=9223372036854775807)(hm:aC label=false):Calls prog 107 #[vI ⟨12,d,a,b,ag,loc,label,ai⟩] w (aJ w (.int .i64 (gA ⟨12,d,a,b,ag,loc,label,ai⟩))):=by
 have HE:=hid (iX (i:=⟨12,d,a,b,ag,loc,label,ai⟩) (show bX ⟨12,d,a,b,ag,loc,label,ai⟩=false by unfold bX;rw[show fE ⟨12,d,a,b,ag,loc,label,ai⟩=false from hm];rfl));have HM:=hid hm;go_in
 go_wp2_with (first|(go_at_call 191;refine av (mS _ _) ?_;(try rw[H1.out]);(try rw[H2.out]);(try rw[H3.out]))|(go_at_call 190;refine av (mR label hl _) ?_;rw[HM.out]))
 go_ret;exact⟨bQ HE.out.symm,aF⟩
end
theorem yU(i:ay)(hl:i.label.length<=9223372036854775807)(w:World):Calls prog 107 #[vI i] w (aJ w (.int .i64 (gA i))):=by
 obtain⟨op,d,a,b,ag,loc,label,ai⟩:=i
 by_cases h6:op=6
 ·subst h6;apply ajC _ _ _ _ _ _ _ _ hl
 by_cases h7:op=7
 ·subst h7;apply ajH _ _ _ _ _ _ _ _ hl
 by_cases h8:op=8
 ·subst h8
  by_cases h1:ag< -2048
  ·apply ajG _ _ _ _ _ _ _ _ hl;omega
  by_cases h2:ag<=2047
  ·apply ajF _ _ _ _ _ _ _ _ hl<;>omega
  apply ajE _ _ _ _ _ _ _ _ hl;omega
 by_cases h9:op=9
 ·subst h9;apply ajI _ _ _ _ _ _ _ _ hl
 by_cases h10:op=10
 ·subst h10;apply aju _ _ _ _ _ _ _ _ hl
 by_cases h11:op=11
 ·subst h11
  cases hm:aC label
  ·apply ajw _ _ _ _ _ _ _ _ hl;exact hm
  apply ajv _ _ _ _ _ _ _ _ hl;exact hm
 by_cases h12:op=12
 ·subst h12
  cases hm:aC label
  ·apply ajB _ _ _ _ _ _ _ _ hl;exact hm
  apply ajA _ _ _ _ _ _ _ _ hl;exact hm
 by_cases rB:op=13
 ·subst rB
  by_cases h1:ai<2
  ·apply ajz _ _ _ _ _ _ _ _ hl;omega
  by_cases h2:ai<=11
  ·apply ajy _ _ _ _ _ _ _ _ hl<;>omega
  apply ajx _ _ _ _ _ _ _ _ hl;omega
 apply ajD _ _ _ _ _ _ _ _ _ hl;omega
end Go.Proofs.YtkbbgjloifmmbaaGreatDoor

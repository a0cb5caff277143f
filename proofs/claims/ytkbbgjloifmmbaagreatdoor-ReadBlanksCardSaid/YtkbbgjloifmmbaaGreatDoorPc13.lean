/- What ReadBlanksP leans on, part 13. -/
import Derived.Test.YtkbbgjloifmmbaaGreatDoorPc8
import Derived.Test.YtkbbgjloifmmbaaGreatDoorPc10
import Derived.Test.YtkbbgjloifmmbaaGreatDoorPc9
import Derived.Maps.OwnOps
import Derived.StringKeys
set_option linter.unusedVariables false
set_option maxRecDepth 100000
set_option maxHeartbeats 12800000
open _root_.Go.Proofs.Tryz
open _root_.Go.Lib renaming decDigits->aoc,itoa->aoe,atoiAll->aoq
open _root_.List renaming nil_append->anu,cons_append->aod,getElem?_eq_getElem->am9,getElem?_eq_some_iff->anx,append_assoc->anZ,dropWhile_cons->anV,mem_cons->anE,head?_cons->aoh,mem_singleton->aoi,all_eq_true->anF,takeWhile_append_dropWhile->aoj,mem_append->aok,getLast?_eq_some_getLast->aol,takeWhile_cons->aom,length_pos_iff->aon,replicate_succ->aoo,replicate->aop,getElem_drop->aor,findIdx?_eq_none_iff->aos,append_inj'->aot,getElem_mem->aou,tail_cons->aox,set_append_right->aoy,mem_iff_getElem->aoz,drop_one->aoA,set_cons_zero->aoD,mem_of_head?->aoE,any_eq_true->an1
open _root_.Nat renaming lt_succ_iff_lt_or_eq->anv,not_lt_zero->anC,strongRecOn->aov,pow_succ->aoB,lt_of_lt_of_le->anW,le_refl->anb
open _root_.Bool renaming and_eq_true->anS
open _root_.UInt8 renaming le_iff_toNat_le->aof,ofNat->aog
open _root_.Option.some renaming injEq->anP,inj->an4
open _root_.List.cons renaming injEq->aow
open _root_.Go.RowKit.Below renaming refl->anM
open _root_.Go.World.ownsMap renaming kept->aoC
namespace Go.Proofs.YtkbbgjloifmmbaaGreatDoor
variable{D:DataW Unit}{e:Ending}{i x:ay}{v y:Int}{code:List ay}{L:List Tx}{b j k n:Nat}{a nm r s:Tx}{c:UInt8}{p:UInt8->Bool}{w w':World}
def oV(l:List Cd):List Cd:=l.map fun x=>⟨none,0,x.l⟩
def bare(t:aG):aG:=⟨t.af,t.name,t.bD,none,0,t.init,none,0,oV t.code,t.q,t.node⟩
theorem Js(l:List Cd):(oV l).length=l.length:=by unfold oV;simp
theorem YX(af:Int): ∀l,kn af (oV l)=kn af l
 |[]=>rfl
 | x::r=>by
   have ih:=YX af r;show kn af (⟨none,0,x.l⟩::oV r)=_;unfold kn;rw[ih]
theorem abk(t:aG):dF (bare t)=dF t:=by
 unfold dF;rw[show(bare t).code=oV t.code from rfl,Js,show(bare t).af=t.af from rfl,YX]
 congr 2
 unfold oV;rw[List.any_map];rfl
theorem aaW(t:aG):iV (bare t)=iV t:=by
 unfold iV;rw[show(bare t).code=oV t.code from rfl,Js];rfl
theorem aiX(t:aG):uP (bare t)=uP t:=by
 unfold uP;rw[show(bare t).code=oV t.code from rfl];unfold oV;rw[List.flatMap_map];rfl
theorem af9(t:aG):jO (bare t)=jO t:=by unfold jO;rw[aiX]
theorem alH(t:aG):cQ (bare t)=cQ t:=by
 unfold cQ;rw[abk,aaW,af9,show(bare t).code=oV t.code from rfl,Js];rfl
theorem tP(h: ∀n:Fin 256,p (aog n.val)=true)(c:UInt8):p c=true:=by
 have:=h ⟨c.toNat,c.toNat_lt⟩;simpa using this
def ZU(l:Tx):Nat:=l.foldl (fun n b=>10*n+(b.toNat-48)) 0
theorem alU(u:Nat):ZU (aoc u)=u:=by
 have key: ∀k:Fin 10,(aog (48+k.val)).toNat-48=k.val:=by decide
 induction u using aov with
 | _ u ih=>
   rw[aoc]
   by_cases h:u<10
   ·rw[dif_pos h]
    have:=key ⟨u,h⟩;simp only at this;show 10*0+_=_;omega
   rw[dif_neg h]
   have h1:=ih (u/10) (by omega);unfold ZU at*;rw[List.foldl_append,h1];have:=key ⟨u%10,Nat.mod_lt _ (by omega)⟩;show 10*(u/10)+_=_;simp only at this;omega
theorem od(u:Nat): ∀b∈aoc u,48<=b.toNat/\b.toNat<=57:=by
 have key: ∀k:Fin 10,48<=(aog (48+k.val)).toNat/\(aog (48+k.val)).toNat<=57:=by decide
 induction u using aov with
 | _ u ih=>
   rw[aoc]
   by_cases h:u<10
   ·rw[dif_pos h]
    intro b hb;rcases aoi.1 hb with rfl;exact key ⟨u,h⟩
   rw[dif_neg h]
   intro b hb;rcases aok.1 hb with hb|hb
   ·exact ih _ (by omega) b hb
   rcases aoi.1 hb with rfl
   exact key ⟨u%10,Nat.mod_lt _ (by omega)⟩
theorem uk(u:Nat):aoc u≠[]:=by
 rw[aoc]
 split<;>simp
def Gz(b:UInt8):Bool:=b==45||aD b
theorem aeA(n:Int): ∀b∈aoe n,Gz b=true:=by
 have key: ∀u:Nat,∀b∈aoc u,Gz b=true:=fun u b hb=>by
  have:=od u b hb;unfold Gz aD;rw[Bool.or_eq_true]
  right
  rw[anS];exact⟨decide_eq_true (aof.2 this.1),decide_eq_true (aof.2 this.2)⟩
 unfold aoe;split
 ·intro b hb
  rcases anE.1 hb with rfl|hb
  ·rfl
  exact key _ b hb
 exact key _
theorem aez(n:Int):aoe n≠[]:=by
 unfold aoe;split
 ·simp
 exact uk _
theorem Wk(h:aC s=true): ∀b∈s,cP b=true:=by
 cases s with
 |nil=>simp
 | cons c r=>
   unfold aC at h;simp only[anS,decide_eq_true_eq]at h;intro b hb;rcases anE.1 hb with rfl|hb
   ·unfold cP;rw[h.1.2];rfl
   exact anF.1 h.2 b hb
theorem MC(h:aC s=true): ∃c r,s=c::r/\cg c=true:=by
 cases s with
 |nil=>cases h
 | cons c r=>
   unfold aC at h;simp only[anS,decide_eq_true_eq]at h;exact⟨c,r,rfl,h.1.2⟩
def Hv(b:UInt8):Bool:=cP b||b==45
theorem zG{p:UInt8->Bool}: ∀{l:Tx},(∀x∈l,p x=true)->l.takeWhile p=l/\l.dropWhile p=[]
 |[],_=>⟨rfl,rfl⟩
 | c::r,h=>by
   obtain⟨a,b⟩:=zG (l:=r) (fun x hx=>h x (by simp[hx]));rw[aom,anV,if_pos (h c (by simp)),if_pos (h c (by simp)),a,b];exact⟨rfl,rfl⟩
theorem ru{p:UInt8->Bool}: ∀{l:Tx},l.dropWhile p=[]-> ∀x∈l,p x=true
 |[],_,x,hx=>by cases hx
 | c::r,h,x,hx=>by
   rw[anV]at h
   split at h
   ·rename_i hc
    rcases anE.1 hx with rfl|hx
    ·exact hc
    exact ru h x hx
   cases h
theorem ZX: ∀(l:Tx) (a:Nat),eN a l=l.foldl (fun n b=>10*n+(b.toNat-48)) a
 |[],a=>rfl
 |c::r,a=>ZX r _
theorem uY(u:Nat):eN 0 (aoc u)=u:=by rw[ZX];exact alU u
theorem alW(n:Int):wX (aoe n)=n:=by
 unfold aoe;split
 ·show(if(45:UInt8)=45 then -((eN 0 (aoc n.natAbs):Nat):Int)else((eN 0 (45::aoc n.natAbs):Nat):Int))=n
  rw[if_pos rfl,uY];omega
 have h1:=uY n.toNat
 have h2:=uk n.toNat;have h3:=od n.toNat;generalize aoc n.toNat=d at*;cases d with
 |nil=>exact absurd rfl h2
 | cons c r=>
   have:=h3 c (by simp);show(if c=45 then -((eN 0 r:Nat):Int)else((eN 0 (c::r):Nat):Int))=n;rw[if_neg (by intro e;subst e;simp at this),h1];omega
def aU(s:Tx):Option Int:=if aoe (wX s)=s/\bO (wX s)=true then some (wX s)else none
theorem nK:aU s=some v<->s=aoe v/\bO v=true:=by
 unfold aU
 constructor
 ·intro h
  split at h
  ·rename_i hh;cases h;exact⟨hh.1.symm,hh.2⟩
  cases h
 rintro⟨rfl,h⟩
 rw[alW,if_pos ⟨rfl,h⟩]
theorem WE(h:s=aoe v->True)(hv: ∀u,aU s=some u->u=v):aU s=if aoe v=s/\bO v=true then some v else none:=by
 by_cases hh:aoe v=s/\bO v=true
 ·rw[if_pos hh];exact nK.2 ⟨hh.1.symm,hh.2⟩
 rw[if_neg hh]
 cases hn:aU s with
 |none=>rfl
 |some u=>exact absurd (by have:=hv u hn;subst this;have:=nK.1 hn;exact⟨this.1.symm,this.2⟩) hh
theorem ZY: ∀(l:Tx) (a:Nat),a<=eN a l
 |[],a=>anb _
 |c::r,a=>by have:=ZY r (10*a+(c.toNat-48));unfold eN;omega
theorem Xf: ∀(l:Tx) (a:Nat),(∀b∈l,48<=b.toNat/\b.toNat<=57)->eN a l<18446744073709551616->Lib.parseUint10 a l= .ok (eN a l)
 |[],a,_,_=>rfl
 | c::r,a,hd,h=>by
   have h1:=hd c (by simp);have h2:=ZY r (10*a+(c.toNat-48));unfold eN at h⊢;have h3:=Xf r _ (fun b hb=>hd b (by simp[hb])) h;unfold Lib.parseUint10;rw[if_pos h1,if_neg (by omega),if_neg (by omega),show a*10+(c.toNat-48)=10*a+(c.toNat-48) by omega,h3]
theorem QN(h:bO v=true):aoq (aoe v)= .ok v:=by
 unfold bO at h;simp only[anS,decide_eq_true_eq]at h
 have key: ∀u:Nat,u<18446744073709551616->Lib.parseMag (aoc u)= .ok u:=fun u hu=>by
  unfold Lib.parseMag;rw[if_neg (uk u),Xf _ _ (od u) (by rw[uY];exact hu),uY]
 unfold aoe;split
 ·have:=key v.natAbs (by omega)
  unfold aoq;simp only[show(45:UInt8).toNat=45 from rfl,or_true,if_true,this];rw[if_neg (by simp),if_neg ah];simp;omega
 have h1:=key v.toNat (by omega)
 have h2:=uk v.toNat;have h3:=od v.toNat;generalize aoc v.toNat=d at*;cases d with
 |nil=>exact absurd rfl h2
 | cons c r=>
   have:=h3 c (by simp);unfold aoq;simp only[show ¬(c.toNat=43\/c.toNat=45) by omega,if_false,h1];rw[if_neg (by omega),if_neg (by omega),if_neg (by omega)];simp;omega
theorem MN(h:aoq s= .ok v):aU s=if aoe v=s/\bO v=true then some v else none:=
 WE (fun _=>trivial) fun u hu=>by
  obtain⟨rfl,h2⟩:=nK.1 hu;rw[QN h2]at h;cases h;rfl
theorem WC(h: ∀v,aoq s≠ .ok v):aU s=none:=by
 cases hn:aU s with
 |none=>rfl
 |some u=>obtain⟨rfl,h2⟩:=nK.1 hn;exact absurd (QN h2) (h u)
theorem JY: ∀(k u:Nat),u<10 ^ (k+1)->(aoc u).length<=k+1
 |0,u,h=>by rw[aoc,dif_pos (by omega)];simp
 | k+1,u,h=>by
   rw[aoc];split
   ·simp
   have:=JY k (u/10) (by rw[aoB]at h;omega)
   simp;omega
theorem Vs(h:bO v=true):(aoe v).length<=11:=by
 unfold bO at h;simp only[anS,decide_eq_true_eq]at h;unfold aoe;split
 ·have:=JY 9 v.natAbs (by omega)
  simp;omega
 have:=JY 9 v.toNat (by omega);omega
theorem agj(h:aU s=some v):s.length<=11:=by
 obtain⟨rfl,h2⟩:=nK.1 h;exact Vs h2
def oJ(a:Nat):Tx->Nat
 |[]=>a
 |c::r=>oJ (if aD c then 10*a+(c.toNat-48)else a) r
theorem Fi:aD c=true<->48<=c.toNat/\c.toNat<=57:=by
 unfold aD;rw[anS,decide_eq_true_eq,decide_eq_true_eq,aof,aof];rfl
theorem OD: ∀(l:Tx) (a:Nat),(∀b∈l,48<=b.toNat/\b.toNat<=57)->oJ a l=eN a l
 |[],a,_=>rfl
 | c::r,a,hd=>by
   unfold oJ eN;rw[if_pos (Fi.2 (hd c (by simp))),OD r _ (fun b hb=>hd b (by simp[hb]))]
def tQ(s:Tx):Int:=if s.head?=some 45 then 0-(oJ 0 s:Int)else oJ 0 s
theorem ZW(v:Int):tQ (aoe v)=v:=by
 unfold tQ aoe;split
 ·rw[if_pos (by rfl)]
  unfold oJ;rw[if_neg (by decide),OD _ _ (od _),uY];omega
 rw[OD _ _ (od _),uY,if_neg]
 ·omega
 intro e
 have:=od v.toNat 45 (aoE e);simp at this
theorem MO(s:Tx):aU s=if aoe (tQ s)=s/\bO (tQ s)=true then some (tQ s)else none:=
 WE (fun _=>trivial) fun u hu=>by obtain⟨rfl,h2⟩:=nK.1 hu;exact(ZW u).symm
theorem OG: ∀(k:Nat) (l:Tx) (a:Nat),l.length<=k->oJ a l<(a+1)*10 ^ k
 | k,[],a,_=>by
   unfold oJ;have:1<=10 ^ k:=Nat.one_le_pow _ _ (by omega)
   calc a<a+1:=by omega
    _<=(a+1)*10 ^ k:=Nat.le_mul_of_pos_right _ this
 |0,_::_,_,h=>absurd h (by simp)
 | k+1,c::r,a,h=>by
   unfold oJ;simp only[List.length_cons]at h;split
   ·rename_i hd
    have hd:=Fi.1 hd;have:=OG k r (10*a+(c.toNat-48)) (by omega);refine anW this ?_;rw[aoB,Nat.mul_comm (10 ^ k) 10,<-Nat.mul_assoc];exact Nat.mul_le_mul_right _ (by omega)
   have:=OG k r a (by omega)
   refine anW this ?_;rw[aoB,<-Nat.mul_assoc];omega
theorem Fj{l:Tx}(h: ∀b∈l,48<=b.toNat/\b.toNat<=57):l.all aD=true:=anF.2 fun b hb=>Fi.2 (h b hb)
theorem agp{z:Tx}(h:cS z=some v):z=aoe v:=by
 unfold cS at h
 split at h
 ·cases h
 rename_i hu
 split at h
 ·rename_i hm
  split at h
  ·cases h
  rename_i hn
  obtain⟨r,rfl⟩: ∃r,z=45::r:=by cases z with
   |nil=>simp at hm
   |cons a b=>simp at hm;subst hm;exact⟨b,rfl⟩
  simp only[aoA,aox]at h hn;cases h;have a1:r≠[]:=fun e=>hn (.inl e)
  have a2:r.head?≠some 48:=fun e=>hn (.inr (.inl e))
  have a3:r.all aD=true:=by cases hb:r.all aD;exact absurd (.inr (.inr hb)) hn;rfl
  have hp:=OJ a1 a3 a2;have hc:=canon (r.length-1) r (by have:=aon.2 a1;omega) a3 (fun e=>absurd e a2);unfold aoe;rw[if_pos (by omega),Int.natAbs_neg,Int.natAbs_natCast,hc]
 split at h
 ·cases h
 rename_i hn;cases h;have a1:z≠[]:=fun e=>hu (.inl e)
 have a3:z.all aD=true:=by cases hb:z.all aD;exact absurd (.inr hb) hn;rfl
 have a2:z.head?=some 48->z.length=1:=fun e=>by
  have:=aon.2 a1;rcases Nat.lt_or_ge 1 z.length with h'|h'
  ·exact absurd (.inl ⟨e,h'⟩) hn
  omega
 have hc:=canon (z.length-1) z (by have:=aon.2 a1;omega) a3 a2;unfold aoe;rw[if_neg (by omega),Int.toNat_natCast,hc]
theorem SB{u:Nat}:(aoc u).head?=some 48->u=0:=by
 induction u using aov with
 | _ u ih=>
   rw[aoc];split
   ·rename_i h
    intro e;have key: ∀k:Fin 10,(aog (48+k.val))=48->k.val=0:=by decide
    exact key ⟨u,h⟩ (by simpa using e)
   rename_i h
   intro e;have h2:=uk (u/10)
   have:=ih (u/10) (by omega) (by
    generalize aoc (u/10)=d at*;cases d with
    |nil=>exact absurd rfl h2
    |cons a b=>simpa using e)
   omega
theorem ago(h:bO v=true):cS (aoe v)=some v:=by
 have hl:=Vs h;unfold cS
 rw[if_neg (by
  rintro(e|e)
  ·exact aez v e
  omega)]
 unfold aoe;split
 ·rename_i hn
  simp only[aoh,if_true,aoA,aox,uY];rw[if_neg]
  ·congr 1;omega
  rintro(e|e|e)
  ·exact uk _ e
  ·have:=SB e;omega
  rw[Fj (od _)]at e;cases e
 rename_i hn
 rw[if_neg,if_neg]
 ·rw[uY];congr 1;omega
 ·rintro(⟨e,e2⟩|e)
  ·rw[SB e,aoc,dif_pos (by omega)]at e2;simp at e2
  rw[Fj (od _)]at e;cases e
 intro e
 have:=od v.toNat 45 (aoE e);simp at this
theorem agk(z:Tx):aU z=(cS z).bind fun v=>if bO v=true then some v else none:=by
 cases hv:cS z with
 | none=>
   cases hn:aU z with
   |none=>rfl
   |some u=>obtain⟨rfl,h2⟩:=nK.1 hn;rw[ago h2]at hv;cases hv
 | some v=>
   have e:=agp hv;subst e;show _=if bO v=true then some v else none
   rw[MO,ZW];simp
theorem Td{x:Tx}{k:Int}(h:lH x=some k):0<=k/\k<=2:=by
 obtain⟨n,hn,rfl, -⟩:=vJ h;omega
theorem ajq{op:Tx}{l:List Tx}{k:ay}(h:dZ op l=some k):bX k=true:=by
 by_cases h1:op=[108,119]
 ·subst h1
  by_cases hl:l.length=2
  ·obtain⟨x,y,rfl⟩:=rM hl
   rw[Nt]at h;cases hx:bf x with
   |none=>rw[hx]at h;simp at h
   | some d=>cases hy:ez y with
     |none=>rw[hx,hy]at h;simp at h
     |some a=>rw[hx,hy]at h;simp at h;subst h;exact Rs (kI d hx) (Ji hy)
  rw[Nu hl]at h;cases h
 by_cases h2:op=[115,119]
 ·subst h2
  by_cases hl:l.length=2
  ·obtain⟨x,y,rfl⟩:=rM hl
   rw[Nv]at h;cases hx:bf x with
   |none=>rw[hx]at h;simp at h
   | some d=>cases hy:ez y with
     |none=>rw[hx,hy]at h;simp at h
     |some a=>rw[hx,hy]at h;simp at h;subst h;exact Rt (kI d hx) (Ji hy)
  rw[Nw hl]at h;cases h
 by_cases h3:op=[102,101,110,99,101]
 ·subst h3
  by_cases hl:l.length=2
  ·obtain⟨x,y,rfl⟩:=rM hl
   rw[Nr]at h;cases hx:lH x with
   |none=>rw[hx]at h;simp at h
   | some d=>cases hy:lH y with
     |none=>rw[hx,hy]at h;simp at h
     | some a=>
       rw[hx,hy]at h;simp at h;subst h;have:=Td hx;have:=Td hy;rw[JH];simp;omega
  rw[Ns hl]at h;cases h
 by_cases hl:l.length=3
 ·obtain⟨x,y,z,rfl⟩:=yA hl
  rw[yS _ _ _ h1 h2 h3]at h;cases hx:bf x with
  |none=>rw[hx]at h;simp at h
  | some a=>cases hy:bf y with
    |none=>rw[hx,hy]at h;simp at h
    | some b=>
      rw[hx,hy]at h;simp only at h;have la:=kI a hx;have lb:=kI b hy
      split at h
      ·split at h
       ·rename_i hn;cases h;rw[Rq la lb];exact hn
       cases h
      split at h
      ·cases hn:lM z with
       |none=>rw[hn]at h;simp at h
       | some n=>
         rw[hn]at h;simp at h;subst h;obtain⟨-, b1,b2⟩:=yI hn;rw[JI la lb];simp;omega
      cases hz:bf z with
      |none=>rw[hz]at h;simp at h
      | some c=>
        rw[hz]at h;simp only at h;have lc:=kI c hz
        split at h
        ·cases h;exact JG (.inl rfl) la lb lc
        split at h
        ·cases h;exact JG (.inr rfl) la lb lc
        cases h
 rw[yT h1 h2 h3 hl]at h;cases h
theorem agT{k:ay}(h:fT s=some k):bX k=true:=by
 unfold fT at h
 split at h
 ·cases h
 simp only at h
 split at h
 ·cases h;decide
 split at h
 ·split at h
  ·rename_i hn;cases h;rw[A7];exact hn
  cases h
 exact ajq h
theorem YA{a:Nat}(h:a<15): ∀b∈cI a,Hv b=true:=by
 have k: ∀n:Fin 15,(cI n.val).all Hv=true:=dx;exact anF.1 (k ⟨a,h⟩)
theorem aj5{a:Nat}(h:a<15): ∃c t,cI a=c::t/\c≠91/\c≠36:=by
 cases e:cI a with
 |nil=>exact absurd e (Yy ⟨a,h⟩).2
 | cons c t=>
   have:=YA h c (by rw[e];simp);refine⟨c,t,rfl,?_,?_⟩
   ·rintro rfl;exact absurd this (by decide)
   rintro rfl;exact absurd this (by decide)
def nQ(c:UInt8):Bool:=c==91||c==93||c==44
def eX(c:UInt8):Bool:= !aq c&& !nQ c
def fJ(u:Tx):List Tx:=if u=[]then[]else[u]
def jm:Tx->Tx->List Tx
 |u,[]=>fJ u
 |u,c::r=>if aq c then fJ u++jm [] r else if nQ c then fJ u++[c]::jm [] r else jm (u++[c]) r
def aR(s:Tx):List Tx:=jm [] s
theorem qK(u:Tx):jm u []=fJ u:=rfl
theorem pO(u:Tx)(r:Tx)(h:aq c=true):jm u (c::r)=fJ u++aR r:=by rw[jm,if_pos h];rfl
theorem aky(h:nQ c=true):aq c=false:=by
 have:=tP (p:=fun c=> !nQ c|| !aq c) dx c;rw[h]at this;simpa using this
theorem qL(u:Tx)(r:Tx)(h:nQ c=true):jm u (c::r)=fJ u++[c]::aR r:=by
 rw[jm,if_neg (by rw[aky h];decide),if_pos h];rfl
theorem rZ(u:Tx)(r:Tx)(h:eX c=true):jm u (c::r)=jm (u++[c]) r:=by
 unfold eX at h;simp only[anS,Bool.not_eq_true']at h;rw[jm,if_neg (by rw[h.1];decide),if_neg (by rw[h.2];decide)]
theorem tR(c:UInt8):aq c=true\/nQ c=true\/eX c=true:=by
 unfold eX;cases aq c<;>cases nQ c<;>simp
theorem sX{u:Tx}(h:u≠[]):fJ u=[u]:=by unfold fJ;rw[if_neg h]
theorem zN: ∀(a u b:Tx) {c:UInt8},nQ c=true->jm u (a++c::b)=jm u a++[c]::aR b
 |[],u,b,c,h=>by rw[anu,qL _ _ h,qK]
 | x::a,u,b,c,h=>by
   rw[aod];rcases tR x with k|k|k
   ·rw[pO _ _ k,pO _ _ k,aR,zN a [] b h,anZ];rfl
   ·rw[qL _ _ k,qL _ _ k,aR,zN a [] b h,anZ];rfl
   rw[rZ _ _ k,rZ _ _ k,zN a _ b h]
theorem DI: ∀(a u b:Tx),(∀c∈b,aq c=true)->jm u (a++b)=jm u a
 |[],u,[],_=>rfl
 | [],u,c::b,h=>by
   have:=DI [] [] b (fun d hd=>h d (by simp[hd]));rw[anu,pO _ _ (h c (by simp)),qK];rw[anu,qK]at this;rw[aR,this];simp[fJ]
 | x::a,u,b,h=>by
   rw[aod];rcases tR x with k|k|k
   ·rw[pO _ _ k,pO _ _ k,aR,DI a [] b h];rfl
   ·rw[qL _ _ k,qL _ _ k,aR,DI a [] b h];rfl
   rw[rZ _ _ k,rZ _ _ k,DI a _ b h]
theorem aab: ∀l:Tx,aR (l.dropWhile aq)=aR l
 |[]=>rfl
 | c::r=>by
   rw[anV];split
   ·rename_i h;rw[aab r];show _=jm [] (c::r);rw[pO _ _ h];rfl
   rfl
theorem mQ(l:Tx): ∃b,l=cr l++b/\ ∀c∈b,aq c=true:=by
 refine⟨(l.reverse.takeWhile aq).reverse,?_,fun c hc=>?_⟩
 ·unfold cr
  rw[<-List.reverse_append,aoj,List.reverse_reverse]
 rw[List.mem_reverse]at hc
 exact anF.1 (List.all_takeWhile) c hc
theorem DK(l:Tx):aR (ak l)=aR l:=by
 obtain⟨b,h1,h2⟩:=mQ l;rw[tN,aab]
 conv=>rhs;rw[h1]
 exact(DI _ _ _ h2).symm
theorem DG: ∀(s u:Tx),∀w∈jm u s,∀c∈w,c∈u\/c∈s
 | [],u,w,hw,c,hc=>by
   rw[qK]at hw;unfold fJ at hw
   split at hw
   ·cases hw
   rcases aoi.1 hw with rfl;exact .inl hc
 | x::s,u,w,hw,c,hc=>by
   have fl:w∈fJ u->c∈u:=fun h=>by
    unfold fJ at h;split at h
    ·cases h
    rcases aoi.1 h with rfl;exact hc
   rcases tR x with k|k|k
   ·rw[pO _ _ k]at hw
    rcases aok.1 hw with h|h
    ·exact .inl (fl h)
    rcases DG s [] w h c hc with h|h
    ·cases h
    exact .inr (by simp[h])
   ·rw[qL _ _ k]at hw
    rcases aok.1 hw with h|h
    ·exact .inl (fl h)
    rcases anE.1 h with rfl|h
    ·exact .inr (by simp at hc;simp[hc])
    rcases DG s [] w h c hc with h|h
    ·cases h
    exact .inr (by simp[h])
   rw[rZ _ _ k]at hw
   rcases DG s _ w hw c hc with h|h
   ·rcases aok.1 h with h|h
    ·exact .inl h
    exact .inr (by simp at h;simp[h])
   exact .inr (by simp[h])
theorem Z9: ∀(r u:Tx),u≠[]->jm u r=(u++r.takeWhile eX)::aR (r.dropWhile eX)
 |[],u,h=>by rw[qK,sX h];simp[aR,qK,fJ]
 | c::r,u,h=>by
   have nb:eX c=false->jm u (c::r)=u::aR (c::r):=fun hc=>by
    rcases tR c with k|k|k
    ·rw[pO _ _ k,sX h,show aR (c::r)=aR r from pO [] r k];rfl
    ·rw[qL _ _ k,sX h,show aR (c::r)=[c]::aR r from qL [] r k];rfl
    rw[hc]at k;cases k
   cases hc:eX c with
   |false=>rw[nb hc,aom,anV,hc];simp
   |true=>rw[rZ _ _ hc,Z9 r _ (by simp),aom,anV,hc];simp
theorem DJ(r:Tx)(h:eX c=true):aR (c::r)=(c::r.takeWhile eX)::aR (r.dropWhile eX):=by
 rw[aR,rZ _ _ h,Z9 _ _ (by simp)];rfl
theorem Hz(r:Tx)(h:nQ c=true):aR (c::r)=[c]::aR r:=by rw[aR,qL _ _ h];rfl
theorem aaa(r:Tx)(h:aq c=true):aR (c::r)=aR r:=by rw[aR,pO _ _ h];rfl
theorem OX(h0:s≠[])(h: ∀c∈s,eX c=true):aR s=[s]:=by
 cases s with
 |nil=>exact absurd rfl h0
 | cons c r=>
   have h1:r.takeWhile eX=r:=(zG fun d hd=>h d (by simp[hd])).1;have h2:r.dropWhile eX=[]:=(zG fun d hd=>h d (by simp[hd])).2;rw[DJ r (h c (by simp)),h1,h2];rfl
theorem OV: ∀{s:Tx},aR s=[]-> ∀c∈s,aq c=true
 |[],_,c,hc=>by cases hc
 | x::s,h,c,hc=>by
   rcases tR x with k|k|k
   ·rw[aaa _ k]at h
    rcases anE.1 hc with rfl|hc
    ·exact k
    exact OV h c hc
   ·rw[Hz _ k]at h;cases h
   rw[DJ _ k]at h;cases h
def Tr(s:Tx):Prop:=(∀c,s.head?=some c->aq c=false)/\ ∀c,s.getLast?=some c->aq c=false
theorem Tr.trim(l:Tx):Tr (ak l):=⟨Ou,ZJ⟩
theorem Tr.none(h:Tr s)(hw:aR s=[]):s=[]:=by
 cases s with
 |nil=>rfl
 | cons c r=>
   have:=OV hw c (by simp);rw[h.1 c rfl]at this;cases this
theorem OU{w:Tx}(h: ∀c,s.head?=some c->aq c=false)(hw:aR s=w::L): ∃r,s=w++r/\aR r=L/\w≠[]:=by
 cases s with
 |nil=>simp[aR,qK,fJ]at hw
 | cons c r=>
   rcases tR c with k|k|k
   ·rw[h c rfl]at k;cases k
   ·rw[Hz _ k,aow]at hw
    exact⟨r,by rw[<-hw.1];rfl,hw.2,by rw[<-hw.1];simp⟩
   rw[DJ _ k,aow]at hw
   exact⟨r.dropWhile eX,by rw[<-hw.1,aod,aoj],hw.2,by rw[<-hw.1];simp⟩
theorem yw(h:r≠[]):(a++r).getLast?=r.getLast?:=ae8 h
theorem Q4(h: ∀c,(a++r).getLast?=some c->aq c=false)(hr: ∀c∈r,aq c=true):r=[]:=by
 cases hn:r with
 |nil=>rfl
 | cons x t=>
   have hne:r≠[]:=by rw[hn];simp
   obtain⟨y,hy⟩: ∃y,r.getLast?=some y:=⟨r.getLast hne,aol hne⟩;have h1:=h y (by rw[yw hne];exact hy);rw[hr y (List.mem_of_getLast? hy)]at h1;cases h1
theorem Hy(h:Tr s)(hw:aR s=[a]):s=a:=by
 obtain⟨r,rfl,hr, -⟩:=OU h.1 hw;rw[Q4 h.2 (OV hr),List.append_nil]
theorem Hx: ∀(m u:Tx) {z:UInt8},eX z=true-> ∃L w,jm u (m++[z])=L++[w++[z]]
 |[],u,z,h=>⟨[],u,by rw[anu,rZ _ _ h,qK,sX (by simp)];rfl⟩
 | x::m,u,z,h=>by
   rw[aod];rcases tR x with k|k|k
   ·obtain⟨L,w,e⟩:=Hx m [] h
    exact⟨fJ u++L,w,by rw[pO _ _ k,aR,e,anZ]⟩
   ·obtain⟨L,w,e⟩:=Hx m [] h
    exact⟨fJ u++[x]::L,w,by rw[qL _ _ k,aR,e];simp⟩
   obtain⟨L,w,e⟩:=Hx m (u++[x]) h
   exact⟨L,w,by rw[rZ _ _ k,e]⟩
def cK(s:Tx):Option Nat:=(List.range 15).find? fun n=>cI n==s
theorem GM(h:cK s=some n):n<15/\s=cI n:=by
 unfold cK at h;have h1:=List.find?_some h;have h2:=List.mem_of_find?_eq_some h;exact⟨List.mem_range.1 h2,(by simpa using h1:cI n=s).symm⟩
theorem aj0(h:n<15):cK (cI n)=some n:=by
 have k: ∀n:Fin 15,cK (cI n.val)=some n.val:=dx;exact k ⟨n,h⟩
def iM(s:Tx):Option Tx:=if 2<=s.length/\s.head?=some 91/\s.getLast?=some 93/\aC (ak (s.drop 1).dropLast)=true then some (ak (s.drop 1).dropLast)else none
def gM(s:Tx):Option Int:=if s.head?=some 36 then aU (s.drop 1)else none
def Gw:ay:=⟨5,0,0,0,0,[],[],0⟩
def jN(x0 fr:Tx):Option ay:=
 match iM x0 with
 |some x=>if fr.head?=some 36 then(aU (fr.drop 1)).map fun n=>⟨1,0,0,0,n,x,[],0⟩else(cK fr).map fun a=>⟨2,0,a,0,0,x,[],0⟩
 | none=>match cK x0 with
   |none=>none
   |some d=>if fr.head?=some 36 then(aU (fr.drop 1)).map fun n=>⟨4,d,0,0,n,[],[],0⟩else(iM fr).map fun x=>⟨3,d,0,0,0,x,[],0⟩
def dY(s:Tx):Option ay:=
 if 262144<s.length then none
 else if ak s=[77,70,69,78,67,69]then some Gw
 else if ¬((ak s).take 3=[77,79,86]/\((ak s).drop 3).head?.any aq=true)then none
 else if(44:UInt8)∈(ak s).drop 3 then jN (ak (((ak s).drop 3).takeWhile (· != 44))) (ak ((((ak s).drop 3).dropWhile (· != 44)).drop 1))
 else none
def fA(a b c:Tx):Option Tx:=if a=[91]/\c=[93]/\aC b=true then some b else none
def ew:List Tx->Option ay
 | [a,b,c,d,e]=>
   if d=[44]then(match gM e with
    |some n=>(fA a b c).map fun x=>⟨1,0,0,0,n,x,[],0⟩
    | none=>match fA a b c,cK e with
      |some x,some r=>some ⟨2,0,r,0,0,x,[],0⟩
      |_,_=>none)
   else if b=[44]then(match cK a,fA c d e with
    |some r,some x=>some ⟨3,r,0,0,0,x,[],0⟩
    |_,_=>none)
   else none
 |[a,b,c]=>if b=[44]then(match cK a,gM c with
  |some r,some n=>some ⟨4,r,0,0,n,[],[],0⟩
  |_,_=>none)else none
 |_=>none
def n9(s:Tx):Bool:=((s.dropWhile aq).drop 3).head?.any aq
def CG(s:Tx):Option ay:=
 if 262144<s.length then none
 else if aR s=[[77,70,69,78,67,69]]then some Gw
 else if(aR s).length<4\/(aR s).head?≠some [77,79,86]\/n9 s=false then none
 else ew ((aR s).drop 1)
theorem LP(hp: ∀n:Fin 256,(!p (aog n.val)||eX (aog n.val))=true)(h: ∀b∈s,p b=true): ∀b∈s,eX b=true:=fun b hb=>by
 have:=hp ⟨b.toNat,b.toNat_lt⟩;simp only[UInt8.ofNat_toNat,h b hb]at this;simpa using this
theorem af7(h:aC s=true): ∀b∈s,eX b=true:=LP (p:=cP) dx (Wk h)
theorem agq(n:Int): ∀b∈aoe n,eX b=true:=LP (p:=Gz) dx (aeA n)
theorem aj7(h:n<15): ∀b∈cI n,eX b=true:=LP (p:=Hv) dx (YA h)
theorem YB(h:Tr s):cK s=match aR s with
 |[a]=>cK a
 |_=>none:=by
 cases hr:cK s with
 | some n=>
   obtain⟨hn,rfl⟩:=GM hr;rw[OX (by have:=(Yy ⟨n,hn⟩).2;exact this) (aj7 hn)];exact hr.symm
 | none=>
   split
   ·rename_i a e;rw[<-Hy h e];exact hr.symm
   rfl
theorem adf(h:Tr s):gM s=match aR s with
 |[a]=>gM a
 |_=>none:=by
 cases hr:gM s with
 | some n=>
   unfold gM at hr
   split at hr
   ·rename_i iH
    cases s with
    |nil=>cases iH
    | cons c r=>
      simp only[aoh,anP]at iH;subst iH;obtain⟨e, -⟩:=nK.1 hr;simp only[aoA,aox]at e hr;subst e
      rw[OX (by simp) (fun b hb=>by
       rcases anE.1 hb with rfl|hb
       ·decide
       exact agq n b hb)]
      show _=gM (36::aoe n);unfold gM;rw[if_pos (by rfl)];exact hr.symm
   cases hr
 | none=>
   split
   ·rename_i a e;rw[<-Hy h e];exact hr.symm
   rfl
theorem af4(h:aC s=true):s≠[]:=fun e=>by subst e;cases h
theorem We(h:2<=s.length)(h1:s.head?=some 91)(h2:s.getLast?=some 93):s=91::((s.drop 1).dropLast++[93]):=by
 cases s with
 |nil=>cases h1
 | cons c r=>
   simp only[aoh,anP]at h1;subst h1;have hne:r≠[]:=by intro e;subst e;simp at h
   obtain⟨X,hX⟩:=qv.1 h2
   have:r.getLast?=some 93:=by
    rw[<-h2];cases r with
    |nil=>exact absurd rfl hne
    |cons a b=>rw[List.getLast?_cons_cons]
   obtain⟨Y,rfl⟩:=qv.1 this;simp
theorem XA(h:Tr s):iM s=match aR s with
 |[a,b,c]=>fA a b c
 |_=>none:=by
 cases hr:iM s with
 | some n=>
   unfold iM at hr
   split at hr
   ·rename_i hh
    obtain⟨h1,h2,h3,h4⟩:=hh;cases hr;have e:=We h1 h2 h3;generalize (s.drop 1).dropLast=m at*;subst e
    have e2:aR (91::(m++[93]))=[[91],ak m,[93]]:=by
     rw[Hz _ (by decide),aR,zN _ _ _ (by decide)];show[91]::(aR m++[93]::aR [])=_;rw[<-DK m,OX (af4 h4) (af7 h4)];rfl
    rw[e2];show _=fA _ _ _;unfold fA;rw[if_pos ⟨rfl,rfl,h4⟩]
   cases hr
 | none=>
   split
   ·rename_i a b c e
    unfold fA;split
    ·rename_i hh
     obtain⟨rfl,rfl,hb⟩:=hh;obtain⟨r,hs,hr2, -⟩:=OU h.1 e;have hne:r≠[]:=by intro e;subst e;cases hr2
     obtain⟨z,hz⟩: ∃z,r.getLast?=some z:=⟨r.getLast hne,aol hne⟩;obtain⟨m,rfl⟩:=qv.1 hz;have hzb:aq z=false:=h.2 z (by rw[hs,yw hne];exact hz)
     have adZ:z=93/\aR m=[b]:=by
      rcases tR z with k|k|k
      ·rw[hzb]at k;cases k
      ·rw[aR,zN _ _ _ k]at hr2
       have e3:aR m++[[z]]=[b]++[[93]]:=hr2;have:=aot e3 rfl;exact⟨by simpa using this.2,this.1⟩
      obtain⟨L,w,e3⟩:=Hx m [] k
      rw[aR,e3]at hr2;have:=aot (show L++[w++[z]]=[b]++[[93]]from hr2) rfl;have e4:w++[z]=[]++[93]:=by simpa using this.2
      have e5:=(aot e4 rfl).2;simp only[aow,and_true]at e5;subst e5;cases k
     obtain⟨rfl,hm⟩:=adZ;have ht:ak m=b:=Hy (Tr.trim m) (by rw[DK];exact hm)
     have hp:iM s=some b:=by
      unfold iM;have e6:(s.drop 1).dropLast=m:=by rw[hs];simp
      rw[e6,ht,if_pos ⟨by rw[hs];simp,by rw[hs];rfl,by rw[hs,yw (by simp)];simp,hb⟩]
     rw[hp]at hr;cases hr
    rfl
   rfl
theorem ade(h:s.head?=some 36):cK s=none/\iM s=none:=by
 constructor
 ·cases hr:cK s with
  |none=>rfl
  | some n=>
    obtain⟨hn,rfl⟩:=GM hr;obtain⟨c,t,e,-, h2⟩:=aj5 hn;rw[e]at h;simp at h;exact absurd h h2
 unfold iM;rw[if_neg];rintro⟨-, h2, -⟩;rw[h]at h2;cases h2
theorem afU(x0 fr:Tx):jN x0 fr=match iM x0 with
 | some x=>(match gM fr with
   |some n=>some ⟨1,0,0,0,n,x,[],0⟩
   |none=>(cK fr).map fun a=>⟨2,0,a,0,0,x,[],0⟩)
 | none=>match cK x0 with
   |none=>none
   | some d=>match gM fr with
     |some n=>some ⟨4,d,0,0,n,[],[],0⟩
     |none=>(iM fr).map fun x=>⟨3,d,0,0,0,x,[],0⟩:=by
 unfold jN gM
 by_cases h:fr.head?=some 36
 ·obtain⟨h1,h2⟩:=ade h
  simp only[h,if_true,h1,h2];cases iM x0<;>cases cK x0<;>cases aU (fr.drop 1)<;>rfl
 simp only[h,if_false]
theorem Wp:cK [44]=none:=dx
theorem afV{X Y:Tx}(hX:Tr X)(hY:Tr Y)(nB:(44:UInt8)∉X):jN X Y=ew (aR X++[44]::aR Y):=by
 rw[afU,XA hX,YB hX,adf hY,YB hY,XA hY]
 have hn:([44]:Tx)∉aR X:=fun h=>nB (by
  rcases DG X [] _ h 44 (by simp)with h|h
  ·cases h
  exact h)
 generalize aR X=P at*;generalize aR Y=Q at*;clear hX hY nB;have p3: ∀a c:Tx,fA a [44] c=none:=fun a c=>by unfold fA;rw[if_neg (by rintro⟨-, -, h⟩;cases h)]
 have p3a: ∀b c:Tx,fA [44] b c=none:=fun b c=>by unfold fA;rw[if_neg (by rintro⟨h, -⟩;cases h)]
 have p3c: ∀a b:Tx,fA a b [44]=none:=fun a b=>by unfold fA;rw[if_neg (by rintro⟨-, h, -⟩;cases h)]
 match P,Q,hn with
 |[],[],_=>rfl
 |[],[b],_=>rfl
 |[],[b,c],_=>simp only[anu,ew,Wp];split<;>rfl
 |[],[b,c,d],_=>rfl
 | [],[b,c,d,e],_=>
   simp only[anu,ew,Wp,p3a];split
   ·cases gM e<;>rfl
   split<;>rfl
 |[],_::_::_::_::_::_,_=>rfl
 |[a],[],_=>simp only[aod,anu,ew];cases cK a<;>rfl
 | [a],[c],_=>
   simp only[aod,anu,ew,if_true];cases cK a<;>cases gM c<;>rfl
 |[a],[c,d],_=>simp only[aod,anu,ew];cases cK a<;>rfl
 | [a],[c,d,e],_=>
   simp only[aod,anu,ew,if_true,p3]
   by_cases hd:d=[44]
   ·subst hd
    simp only[if_true,p3];cases cK a<;>cases gM e<;>rfl
   simp only[hd,if_false]
   cases cK a<;>cases fA c d e<;>rfl
 |[a],_::_::_::_::_,_=>simp only[aod,anu,ew];cases cK a<;>rfl
 | [a,b],[],hn=>
   have h2:b≠[44]:=fun e=>hn (by simp[e])
   simp only[aod,anu,ew,h2,if_false]
 |[a,b],[c],_=>rfl
 | [a,b],[c,d],hn=>
   have h2:b≠[44]:=fun e=>hn (by simp[e])
   simp only[aod,anu,ew,h2,if_false,p3c];split
   ·cases gM d<;>rfl
   rfl
 |[a,b],_::_::_::_,_=>rfl
 |[a,b,c],[],_=>simp only[aod,anu,ew];cases fA a b c<;>rfl
 | [a,b,c],[e],_=>
   simp only[aod,anu,ew,if_true];cases fA a b c<;>cases gM e<;>cases cK e<;>rfl
 |[a,b,c],_::_::_,_=>simp only[aod,anu,ew];cases fA a b c<;>rfl
 | [a,b,c,d],[],hn=>
   have h2:b≠[44]:=fun e=>hn (by simp[e])
   have h4:d≠[44]:=fun e=>hn (by simp[e])
   simp only[aod,anu,ew,h2,h4,if_false]
 |[a,b,c,d],_::_,_=>rfl
 |_::_::_::_::_::t,Q,_=>cases t<;>cases Q<;>rfl
theorem afR(h:([44]:Tx)∉L):ew L=none:=by
 match L,h with
 |[],_=>rfl
 |[_],_=>rfl
 |[_,_],_=>rfl
 |[a,b,c],h=>simp only[ew];rw[if_neg (fun e=>h (by simp[e]))]
 |[_,_,_,_],_=>rfl
 |[a,b,c,d,e],h=>simp only[ew];rw[if_neg (fun e=>h (by simp[e])),if_neg (fun e=>h (by simp[e]))]
 |_::_::_::_::_::_::_,_=>rfl
theorem afT(h:L.length<3):ew L=none:=by
 match L,h with
 |[],_=>rfl
 |[_],_=>rfl
 |[_,_],_=>rfl
 |_::_::_::_,h=>simp at h;omega
theorem alG(s:Tx): ∃b,s.dropWhile aq=ak s++b/\ ∀c∈b,aq c=true:=by
 obtain⟨b,h1,h2⟩:=mQ (s.dropWhile aq);refine⟨b,?_,h2⟩
 have e:ak s=cr (s.dropWhile aq):=by
  rw[<-Ot s,tN];apply Fl;intro c hc;cases hr:cr (s.dropWhile aq)with
  |nil=>rw[hr]at hc;cases hc
  | cons x t=>
    rw[hr]at hc;simp only[aoh,anP]at hc;subst hc;exact je (l:=s) (by rw[h1,hr];rfl)
 rw[e];exact h1
theorem M0(s:Tx):CG s=dY s:=by
 unfold CG dY
 by_cases hl:262144<s.length
 ·rw[if_pos hl,if_pos hl]
 rw[if_neg hl,if_neg hl];have hT:=Tr.trim s;have hw:=DK s;obtain⟨bl,dH,de⟩:=alG s;have hap:n9 s=(((ak s)++bl).drop 3).head?.any aq:=by unfold n9;rw[dH]
 rw[hap,<-hw];clear hap hw dH;generalize ak s=t at*
 by_cases hm:t=[77,70,69,78,67,69]
 ·subst hm;rw[if_pos dx,if_pos rfl]
 rw[if_neg (fun e=>hm (Hy hT e)),if_neg hm]
 by_cases hc:t.take 3=[77,79,86]/\(t.drop 3).head?.any aq=true
 ·rw[if_neg (show ¬ ¬_ from fun h=>h hc)]
  obtain⟨h1,h2⟩:=hc;obtain⟨u,hu⟩:=aj (t.drop 3);have ht:t=[77,79,86]++u:=by rw[<-h1,<-hu,List.take_append_drop]
  rw[hu]at h2⊢
  obtain⟨b,r,rfl,dU⟩: ∃b r,u=b::r/\aq b=true:=by
   cases u with
   |nil=>cases h2
   |cons b r=>exact⟨b,r,rfl,h2⟩
  have hwt:aR t=[77,79,86]::aR (b::r):=by
   rw[ht];have hnb:eX b=false:=by unfold eX;rw[dU];rfl
   show aR (77::(79::86::b::r))=_;rw[DJ _ (by decide)];simp[hnb,show eX 79=true by decide,show eX 86=true by decide]
  have hap:((t++bl).drop 3).head?.any aq=true:=by rw[ht];simpa using dU
  have e1:(if(aR t).length<4\/(aR t).head?≠some [77,79,86]\/((t++bl).drop 3).head?.any aq=false then none else ew ((aR t).drop 1))=ew (aR (b::r)):=by
   rw[hwt];split
   ·rename_i h
    rcases h with h|h|h
    ·exact(afT (by simp at h;omega)).symm
    ·exact absurd rfl h
    rw[hap]at h;cases h
   rfl
  rw[e1]
  by_cases nB:(44:UInt8)∈b::r
  ·rw[if_pos nB]
   obtain⟨A,B,e,hA⟩:=xT 44 _ nB;rw[e];obtain⟨k1,k2⟩:=zH 44 B A hA;rw[k1,k2];show _=jN (ak A) (ak B);rw[afV (Tr.trim A) (Tr.trim B) (fun h=>hA (Dt h)),DK,DK,aR,zN _ _ _ (by decide)];rfl
  rw[if_neg nB]
  exact afR (fun h=>nB (by
   rcases DG _ [] _ h 44 (by simp)with h|h
   ·cases h
   exact h))
 rw[if_pos hc]
 split
 ·rfl
 rename_i h
 exfalso;simp only[not_or]at h;obtain⟨n1,n2,n3⟩:=h;have n2:(aR t).head?=some [77,79,86]:=Classical.not_not.1 n2;have n3:((t++bl).drop 3).head?.any aq=true:=by simpa using n3
 obtain⟨L,hL⟩: ∃L,aR t=[77,79,86]::L:=by
  generalize aR t=W at*;cases W with
  |nil=>cases n2
  |cons a b=>simp only[aoh,anP]at n2;exact⟨b,by rw[n2]⟩
 obtain⟨r,hr,hr2, -⟩:=OU hT.1 hL;cases r with
 | nil=>
   rw[<-hr2]at hL;rw[hL]at n1;simp[aR,qK,fJ]at n1
 | cons x r=>
   refine hc ⟨by rw[hr];rfl,?_⟩;rw[hr]at n3⊢;simpa using n3
theorem Xz{n:Tx}(h:iM s=some n):aC n=true:=by
 unfold iM at h;split at h
 ·rename_i hh;cases h;exact hh.2.2.2
 cases h
theorem Wf{b:Tx}(h:jN a b=some i):iF i=true:=by
 have Nl: ∀{s:Tx} {n:Nat},cK s=some n->fB (n:Int)=true:=fun h=>aj4 (GM h).1
 have n32: ∀{s:Tx} {n:Int},aU s=some n->bO n=true:=fun h=>(nK.1 h).2
 unfold jN at h
 split at h
 ·rename_i x hx
  have hx:=Xz hx
  split at h
  ·cases hn:aU (b.drop 1)with
   |none=>rw[hn]at h;cases h
   |some n=>rw[hn]at h;cases h;simp[iF,eD,zM,hx,n32 hn]
  cases hn:cK b with
  |none=>rw[hn]at h;cases h
  |some n=>rw[hn]at h;cases h;simp[iF,eD,zM,hx,Nl hn]
 split at h
 ·cases h
 rename_i d hd
 split at h
 ·cases hn:aU (b.drop 1)with
  |none=>rw[hn]at h;cases h
  |some n=>rw[hn]at h;cases h;simp[iF,eD,zM,Nl hd,n32 hn]
 cases hn:iM b with
 |none=>rw[hn]at h;cases h
 |some n=>rw[hn]at h;cases h;simp[iF,eD,zM,Nl hd,Xz hn]
theorem agS(h:dY s=some i):iF i=true:=by
 unfold dY at h
 split at h
 ·cases h
 split at h
 ·cases h;decide
 split at h
 ·cases h
 split at h
 ·exact Wf h
 cases h
open Go.RowKit Go.Maps Go.WideMaps
attribute [local go_sem high] qd gP
def jZ(r:List Int × Int × Int)(w:World)(e:Ending)(w':World):Prop:=
 ∃a c,e= .returned (.tuple #[.slice a r.1.length c,.int .i64 r.2.1,.int .i64 r.2.2])/\iR w' w.heap.size a r.1.length c r.1/\Below w.heap.size w w'
theorem jZ.nil{r:List Int × Int × Int}{x:Int}(hr:r=([],x,y))(he:e= .returned (.tuple #[.slice none 0 0,.int .i64 x,.int .i64 y]))(hb:Below w.heap.size w w'):jZ r w e w':=by
 subst hr he;exact⟨none,0,rfl,Own.nil _ _ _ _,hb⟩
theorem jZ.of{r:List Int × Int × Int}{l:List Int}{x:Int}{c:Nat}{a:Option Addr}(hr:r=(l,x,y))(he:e= .returned (.tuple #[.slice a n c,.int .i64 x,.int .i64 y]))(hn:l.length=n)(ho:iR w' w.heap.size a n c l)(hb:Below w.heap.size w w'):jZ r w e w':=by
 subst hr he hn;exact⟨a,c,rfl,ho,hb⟩
theorem wC:Keyed prog 9:=string_keyed underlying9
theorem zQ(w:World):(zeroValue 3).run prog w= .ok (.int .i64 0) w:=by kernel_rfl
theorem Vz(l:Tx)(h:l.length<=1000000):keyOf prog 9 (.string (tx l))=some (.string l):=by
 rw[keyOf_string_mk underlying9 (by rw[aM];unfold maxLen;omega),jk]
def pU(w:World)(b n:Nat)(D:DataW Unit):Prop:=w.ownsMap prog 9 (plainElem (H:=Unit) prog 3) b n D
theorem pU.below(h:pU w b n D)(hb:Below w.heap.size w w'):pU w' b n D:=
 aoC h ⟨hb.os,hb.tape,hb.output,hb.size,fun k hk _=>hb.block k hk⟩ (row:=none) (by simp)
theorem pU.step{sa a':Option Addr}(h:pU w b n D)(hs:Step w w' sa a')(hne:sa=none\/b≠bk sa):pU w' b n D:=by
 refine aoC h hs.grown ?_;cases sa with
 |none=>simp
 |some x=> rcases hne with h1|h1
           ·cases h1
           simpa[bk]using h1
theorem Rp(h:bX i=true):i.label.length<=1000000:=by
 obtain⟨ho,hw, -⟩:=abe h
 by_cases h1:i.op=11\/i.op=12
 ·unfold fE at ho
  rw[if_neg (by omega),if_pos h1]at ho;have:=(af3 ho).2;omega
 have:i.label=[]:=by
  have:=congrArg ay.label hw;rw[this];unfold nh
  split<;>(try rfl)
  split<;>(try rfl)
  split<;>(try rfl)
  split<;>(try rfl)
  split<;>(try rfl)
  split
  ·omega
  split
  ·omega
  split<;>rfl
 rw[this];simp
theorem aho(code:List ay)(a:Option Addr)(c:Nat)(hl:256<code.length)(w:World):Calls prog 140 #[.slice a code.length c] w (jZ (jg code) w):=by
 obtain⟨r,hr⟩:=aj (jg code);rw[hr];have HK:=hid (show r=([],2,0) by rw[<-hr,VP hl]);have hz:decide (256<(code.length:Int))=true:=ah;generalize code.length=n at*;clear hr hl;go_in;go_wp2_with fail
 go_ret3
 exact jZ.nil HK.out rfl (anM _ _)
def pe(n k:Nat):List Int:=aop k (-1)++aop (n-k) 0
theorem J6(n k:Nat)(h:k<=n):(pe n k).length=n:=by simp[pe];omega
theorem acR(n k:Nat)(h:k<n):(pe n k).set k (-1)=pe n (k+1):=by
 unfold pe;rw[aoy _ _ (by simp)];simp only[List.length_replicate,Nat.sub_self];rw[show n-k=(n-(k+1))+1 by omega,aoo,aoD,List.replicate_succ',anZ];rfl
def mF(code:List ay)(n k:Nat):List Int:=rQ code k++aop (n-k) (-1)
theorem Fs(code:List ay)(n k:Nat)(h:k<=n):(mF code n k).length=n:=by simp[mF,MU];omega
theorem acS(code:List ay)(n k:Nat)(h:k<n):(mF code n k).set k ((jE code k).getD (-1))=mF code n (k+1):=by
 unfold mF;rw[aoy _ _ (by rw[MU];omega),MU,Nat.sub_self,show n-k=(n-(k+1))+1 by omega,aoo,aoD,WW,anZ];rfl
theorem SV(code:List ay)(n k:Nat)(h:k<n)(hs:jE code k=some (-1)):mF code n k=mF code n (k+1):=by
 unfold mF;rw[show n-k=(n-(k+1))+1 by omega,aoo,WW,hs,anZ];rfl
theorem acT(code:List ay)(n:Nat):pe n n=mF code n 0:=by simp[pe,mF,rQ]
theorem ahp(code:List ay)(a:Option Addr)(c:Nat)(hl:code.length<=256)(hc:code.length<=c)(hL: ∀i∈code,i.label.length<=9223372036854775807)(w:World)(hI:Is w a code):
 Calls prog 140 #[.slice a code.length c] w (jZ (jg code) w):=by
 obtain⟨r,hr⟩:=aj (jg code);rw[hr];have HR:=hid hr;obtain⟨n,hn⟩:=aj code.length;have HN:=hid hn;have HL:=hid hL;have hz:decide (256<(n:Int))=false:=ah;have BK:= @run_makeMap prog;rw[hn]at hl hc⊢;have hM:pU (w.alloc (.map #[] 0)) w.heap.size 0 (.map []):=World.ownsMap_made _ _ _ _;have E0:=al w (.map #[] 0);clear hr hL hn;go_in
 go_wp2_with (at_make;go_loud(refine OZ wB _ _ rfl rfl n rfl rfl rfl rfl (by omega) cz (anM (w.heap.size+1) (w.alloc (.map #[] 0))) (by simp) ?_))
 intro ao w1 o1 st1 B1;rw[afE]at o1;have E1:Below (w.alloc (.map #[] 0)).heap.size (w.alloc (.map #[] 0)) w1:=by simpa using B1
 have hM:=hM.below E1;have E:=aB E0 E1;have o:iR w1 (w.heap.size+1) ao n n (pe n 0):=by rw[show pe n 0=aop n 0 by simp[pe]];exact o1
 have hap:ao=none\/w.heap.size≠bk ao:=by
  cases ao with
  |none=>exact .inl rfl
  |some x=>have:=(Own.lt o (by simp)).1;exact .inr (by omega)
 have Io:=hid hap;clear E0 E1 B1 o1 st1 hap;have xl:=hid hI;clear hI;go_wp2
 go_loopw [23] (fun i wr=> ∃k:Nat,k<=n/\i= .int .i64 k/\Hid (∀j (hj:j<code.length),j<k->bX code[j]=true)/\iR wr (w.heap.size+1) ao n n (pe n k)/\pU wr w.heap.size 0 (.map [])/\Below w.heap.size w wr) (fun i _=>n-(intOf i).toNat)
 ·exact⟨0,by omega,rfl,hid (fun j hj h'=>absurd h' (anC j)),o,hM,E⟩
 clear o hM E;obtain⟨k,hk,rfl,HC,o,hM,E⟩:=hrel;have hI:=xl.out.below E
 by_cases hlt:k<n
 ·obtain⟨i,hi⟩: ∃i,code[k]? =some i:=⟨_,am9 (aI HN.out)⟩
  have hik:code[k]'(aI HN.out)=i:=an4 ((am9 (aI HN.out)).symm.trans hi);obtain⟨p0,p1,p2,p3,p4,p5,p6,p7⟩:=hI.cells hi;have ix:=hI.idx k (aI HN.out);rw[HN.out]at ix;have CK:=hid (fun(w:World)=>CQ i (HL.out i (by rw[<-hik];exact aou _)) w);have HI:=hid hik;clear hi hik;cases bY:bX i
  ·have hE:=iX bY
   rw[hE]at CK
   have HF:=hid (show r=([],91,(k:Int)) by
    rw[<-HR.out];exact VO (aI HN.out) (aI HN.out) (by rw[HI.out];exact bY) HC.out)
   clear hE bY;go_wp2_with fail;refine(CK.out _).mono ?_;rintro e w2 ⟨rfl,E2⟩;have E:=E.trans ((aB (al wr _) E2).mono E.size);clear p0 p1 p2 p3 p4 p5 p6 p7 ix o hM hI E2;go_wp2_with fail
   go_ret3
   exact jZ.nil HF.out rfl E
  have hE:=qf bY
  rw[hE]at CK
  have tV:=hid (show ∀j (hj:j<code.length),j<k+1->bX code[j]=true from fun j hj hjk=>by
   by_cases hh:j=k
   ·subst hh;rw[HI.out];exact bY
   exact HC.out j hj (by omega))
  clear hE bY;go_wp2_with fail;refine(CK.out _).mono ?_;rintro e w2 ⟨rfl,E2⟩;have E3:=aB (al wr _) E2;have E:=E.trans (E3.mono E.size);have o:=Own.below o E3;have hM:=hM.below E3;have ij:=(o.ints.1).idx wB k (by rw[J6 n k hk];exact hlt);rw[J6 n k hk]at ij;have fj:=Own.frozen o (Own.some o (by omega)) k;obtain⟨cv,hcv⟩: ∃cv,w2.cell? ⟨bk ao,fo ao+k,none⟩=some cv:=⟨_,(o.ints.1).cell k (by rw[J6 n k hk];exact hlt)⟩;obtain⟨Cv,Cw⟩:=Own.set o (Own.some o (by omega)) k (.int .i64 (-1))
  have o2:iR (w2.setCell ⟨bk ao,fo ao+k,none⟩ (.int .i64 (-1))) (w.heap.size+1) ao n n (pe n (k+1)):=by
   rw[<-acR n k hlt];simpa only[iR,ints,List.map_set]using Cv
  have vM:=hM.step Cw Io.out;have E4:Below w.heap.size w (w2.setCell ⟨bk ao,fo ao+k,none⟩ (.int .i64 (-1))):=vB E (by have:=(Own.lt o (Own.some o (by omega))).1;dsimp only;omega) _;clear p0 p1 p2 p3 p4 p5 p6 p7 ix E2 E3 Cv Cw hI;go_wp2
  go_roundw;exact⟨k+1,by omega,by go_num,tV,o2,vM,E4⟩;simp[intOf];omega
 obtain rfl:k=n:=by omega
 have nt:=hid (show ∀j (hj:j<code.length),bX code[j]=true from fun j hj=>HC.out j hj (aI HN.out));have hD:=hid (qU.nil code k (aI HN.out));clear HC hI hlt hk;rw[acT code k]at o;generalize k=n at*;go_wp2
 go_loopw [9] (fun i wr=> ∃(m cnt:Nat) (D:DataW Unit) (z:Int),m<=n/\i= .int .i64 z/\z=(m:Int)-1/\cnt<=n/\cnt+m<=n/\Hid (qU code m D)/\iR wr (w.heap.size+1) ao n n (mF code n 0)/\pU wr w.heap.size cnt D/\Below w.heap.size w wr) (fun i _=>(intOf i+1).toNat)
 ·exact⟨n,0,.map [],(n:Int)-1,by omega,rfl,rfl,by omega,by omega,hD,o,hM,E⟩
 clear o hM E hD;obtain⟨m,cnt,D,z,hm,rfl,UW,oh,hcm,hD,o,hM,E⟩:=hrel;have hI:=xl.out.below E
 by_cases hm0:m=0
 ·subst hm0
  obtain rfl:z= -1:=by omega
  clear hI UW hcm;go_wp2
  go_loopw [58] (fun i wr=> ∃k:Nat,k<=n/\i= .int .i64 k/\Hid (∀j,j<k->jE code j≠none)/\iR wr (w.heap.size+1) ao n n (mF code n k)/\pU wr w.heap.size cnt D/\Below w.heap.size w wr) (fun i _=>n-(intOf i).toNat)
  ·exact⟨0,by omega,rfl,hid (fun j h'=>absurd h' (anC j)),o,hM,E⟩
  clear o hM E;obtain⟨k,hk,rfl,HS,o,hM,E⟩:=hrel;have hI:=xl.out.below E
  by_cases hlt:k<n
  ·obtain⟨i,hi⟩: ∃i,code[k]? =some i:=⟨_,am9 (aI HN.out)⟩
   obtain⟨p0,p1,p2,p3,p4,p5,p6,p7⟩:=hI.cells hi;have ix:=hI.idx k (aI HN.out);rw[HN.out]at ix
   have ye:=Rp (i:=i) (by
    obtain⟨hlt,he⟩:=anx.1 hi;rw[<-he];exact nt.out k hlt)
   have pR:=hid (Vz i.label ye)
   have hst:jE code k=if i.op=12 then(if code.findIdx? (cO i.label)=some k then some (-1)else none)
    else if i.op=11 then(match code.findIdx? (cO i.label)with
     |none=>none
     |some at'=>if((code.drop (k+1)).findIdx? (cO i.label)).isSome then some (at':Int)else none)
    else some (-1):=by unfold jE;rw[hi];rfl
   have HI:=hid hi;have xm:=hid (hD.out i.label);rw[List.drop_zero]at xm;clear hi ye
   by_cases h12:i.op=12
   ·have BY:cO i.label i=true:=by rw[rL];exact⟨h12,rfl⟩
    have z12:(i.op==12)=true:=by simpa using h12
    have DM:(i.op==11)=false:=by rw[h12];rfl
    obtain⟨f,hf⟩: ∃f,code.findIdx? (cO i.label)=some f:=by
     cases hf:code.findIdx? (cO i.label)with
     |some f=>exact⟨f,rfl⟩
     | none=>
       rw[aos]at hf;obtain⟨hlt,he⟩:=anx.1 HI.out;have:=hf code[k] (aou _);rw[he,BY]at this;cases this
    obtain⟨yc,uB⟩:=xm.out.1 f hf;rw[Nat.zero_add]at uB;have vg:=hid yc;have vh:=hid uB;rw[if_pos h12,hf]at hst;have qj:=hM.below (al wr (kj i))
    by_cases tf:f=k
    ·have zk:((f:Int) != (k:Int))=false:=ah
     rw[if_pos (by rw[tf])]at hst
     have fV:=hid (show ∀j,j<k+1->jE code j≠none from fun j hj=>by
      rcases anv.1 hj with h|h
      ·exact HS.out j h
      subst h;rw[hst];simp)
     rw[SV code n k hlt hst]at o;clear hst h12 BY hf yc uB tf
     go_wp2_with (at_lookup;go_loud(refine wpList_lookup_own_ok_int _ rfl _ _ 218 rfl 9 3 .i64 wC underlying218 underlying3 (zQ _) w.heap.size cnt D rfl qj _ _ rfl pR.out ?_))
     intro cc hat hwf;rw[vh.out]at hat;obtain rfl:(f:Int)=cc:=by cases hat;rfl
     rw[vg.out];have o2:=Own.below o (al wr (kj i));have E2:=eZ E (kj i);clear hat hwf o hM E p0 p1 p2 p3 p4 p5 p6 p7 ix hI;go_wp2
     go_roundw;exact⟨k+1,by omega,by go_num,fV,o2,qj,E2⟩;simp[intOf];omega
    have zk:((f:Int) != (k:Int))=true:=ah
    rw[if_neg (fun e=>tf (an4 e))]at hst
    have HF:=hid (show r=([],93,(k:Int)) by
     rw[<-HR.out];exact Gr (aI HN.out) nt.out (aI HN.out) hst HS.out)
    clear hst h12 BY hf yc uB tf
    go_wp2_with (at_lookup;go_loud(refine wpList_lookup_own_ok_int _ rfl _ _ 218 rfl 9 3 .i64 wC underlying218 underlying3 (zQ _) w.heap.size cnt D rfl qj _ _ rfl pR.out ?_))
    intro cc hat hwf;rw[vh.out]at hat;obtain rfl:(f:Int)=cc:=by cases hat;rfl
    rw[vg.out];have E2:=eZ E (kj i);clear hat hwf o hM E p0 p1 p2 p3 p4 p5 p6 p7 ix hI;go_wp2_with fail
    go_ret3
    exact jZ.nil HF.out rfl E2
   by_cases h11:i.op=11
   ·have z12:(i.op==12)=false:=by simpa using h12
    have DM:(i.op==11)=true:=by simpa using h11
    rw[if_neg h12,if_pos h11]at hst;have qj:=hM.below (al wr (kj i));cases hf:code.findIdx? (cO i.label)with
    | none=>
      have vg:=hid (xm.out.2 hf);rw[hf]at hst
      have HF:=hid (show r=([],93,(k:Int)) by
       rw[<-HR.out];exact Gr (aI HN.out) nt.out (aI HN.out) hst HS.out)
      clear hst h12 h11 hf
      go_wp2_with (at_lookup;go_loud(refine wpList_lookup_own_ok_int _ rfl _ _ 218 rfl 9 3 .i64 wC underlying218 underlying3 (zQ _) w.heap.size cnt D rfl qj _ _ rfl pR.out ?_))
      intro cc hat hwf;rw[vg.out];have zT:=hid hat;have E2:=eZ E (kj i);clear hat hwf o hM E p0 p1 p2 p3 p4 p5 p6 p7 ix hI;go_wp2_with fail
      go_ret3
      exact jZ.nil HF.out rfl E2
    | some f=>
      obtain⟨yc,uB⟩:=xm.out.1 f hf;rw[Nat.zero_add]at uB;have vg:=hid yc;have vh:=hid uB;rw[hf]at hst;simp only at hst;have bx:=gH.new wr i;have hdr:=(hI.below (al wr (kj i))).drop (k+1) (c=k+1) (fun e=>by have:=HN.out;left;omega);have CF:=ag5 i wr.heap.size (code.drop (k+1)) (j8 a (c=k+1) ((k+1)*8)) (c-(k+1)) (wr.alloc (kj i)) hdr bx;have sl: ∀w',(Instr.sliceAt 75 (.slice a n c) (some (.int .i64 ((k:Int)+1))) none none).run prog w'= .ok (.slice (j8 a (c=k+1) ((k+1)*8)) (n-(k+1)) (c-(k+1))) w':=GU inl a n c (k+1) (by omega) .i64;rw[List.length_drop,HN.out]at CF;generalize j8 a (c=k+1) ((k+1)*8)=ac at*;have D0:=hid CF;clear yc uB hf CF hdr;cases FV:((code.drop (k+1)).findIdx? (cO i.label)).isSome
      ·rw[FV]at hst D0
       have HF:=hid (show r=([],93,(k:Int)) by
        rw[<-HR.out];exact Gr (aI HN.out) nt.out (aI HN.out) hst HS.out)
       clear hst h12 h11 FV
       go_wp2_with (at_lookup;go_loud(refine wpList_lookup_own_ok_int _ rfl _ _ 218 rfl 9 3 .i64 wC underlying218 underlying3 (zQ _) w.heap.size cnt D rfl qj _ _ rfl pR.out ?_))
       intro cc hat hwf;rw[vh.out]at hat;obtain rfl:(f:Int)=cc:=by cases hat;rfl
       rw[vg.out];clear hat hwf p0 p1 p2 p3 p4 p5 p6 p7 ix hI;go_wp2_with fail;refine D0.out.mono ?_;rintro e w2 ⟨rfl,E2⟩;have E2:=E.trans ((aB (al wr _) E2).mono E.size);clear o hM E;go_wp2_with fail
       go_ret3
       exact jZ.nil HF.out rfl E2
      rw[FV]at hst D0
      have Lu:jE code k=some (f:Int):=hst
      have fV:=hid (show ∀j,j<k+1->jE code j≠none from fun j hj=>by
       rcases anv.1 hj with h|h
       ·exact HS.out j h
       subst h;rw[Lu];simp)
      have HST:=hid Lu;clear hst Lu h12 h11 FV
      go_wp2_with (at_lookup;go_loud(refine wpList_lookup_own_ok_int _ rfl _ _ 218 rfl 9 3 .i64 wC underlying218 underlying3 (zQ _) w.heap.size cnt D rfl qj _ _ rfl pR.out ?_))
      intro cc hat hwf;rw[vh.out]at hat;obtain rfl:(f:Int)=cc:=by cases hat;rfl
      rw[vg.out];clear hat hwf p0 p1 p2 p3 p4 p5 p6 p7 ix hI;go_wp2_with fail;refine D0.out.mono ?_;rintro e w2 ⟨rfl,E2⟩;have E3:=aB (al wr (kj i)) E2;have Jw:=bx.below E2;obtain⟨q0,q1,q2,q3,q4,q5,q6,q7⟩:=Jw.cells;have amz:=Jw.1;have E4:=E.trans (E3.mono E.size);have o:=Own.below o E3;have hM:=hM.below E3;have ij:=(o.ints.1).idx wB k (by rw[Fs code n k hk];exact hlt);rw[Fs code n k hk]at ij;have fj:=Own.frozen o (Own.some o (by omega)) k;obtain⟨cv,hcv⟩: ∃cv,w2.cell? ⟨bk ao,fo ao+k,none⟩=some cv:=⟨_,(o.ints.1).cell k (by rw[Fs code n k hk];exact hlt)⟩;obtain⟨Cv,Cw⟩:=Own.set o (Own.some o (by omega)) k (.int .i64 (f:Int))
      have o2:iR (w2.setCell ⟨bk ao,fo ao+k,none⟩ (.int .i64 (f:Int))) (w.heap.size+1) ao n n (mF code n (k+1)):=by
       have e:=acS code n k hlt;rw[HST.out,Option.getD_some]at e;rw[<-e];simpa only[iR,ints,List.map_set]using Cv
      have vM:=hM.step Cw Io.out;have E5:Below w.heap.size w (w2.setCell ⟨bk ao,fo ao+k,none⟩ (.int .i64 (f:Int))):=vB E4 (by have:=(Own.lt o (Own.some o (by omega))).1;dsimp only;omega) _;clear E2 E3 E4 E Cv Cw bx Jw qj;go_wp2
      go_roundw;exact⟨k+1,by omega,by go_num,fV,o2,vM,E5⟩;simp[intOf];omega
   have z12:(i.op==12)=false:=by simpa using h12
   have DM:(i.op==11)=false:=by simpa using h11
   rw[if_neg h12,if_neg h11]at hst
   have fV:=hid (show ∀j,j<k+1->jE code j≠none from fun j hj=>by
    rcases anv.1 hj with h|h
    ·exact HS.out j h
    subst h;rw[hst];simp)
   rw[SV code n k hlt hst]at o;clear hst h12 h11;have qj:=hM.below (al wr (kj i))
   go_wp2_with (at_lookup;go_loud(refine wpList_lookup_own_ok_int _ rfl _ _ 218 rfl 9 3 .i64 wC underlying218 underlying3 (zQ _) w.heap.size cnt D rfl qj _ _ rfl pR.out ?_))
   intro cc hat hwf;have o2:=Own.below o (al wr (kj i));have E2:=eZ E (kj i);have zT:=hid hat;clear hat hwf o hM E p0 p1 p2 p3 p4 p5 p6 p7 ix hI;go_wp2
   go_roundw;exact⟨k+1,by omega,by go_num,fV,o2,qj,E2⟩;simp[intOf];omega
  obtain rfl:k=n:=by omega
  have HF:=hid (show r=(mF code k k,0,0) by
   rw[<-HR.out,VQ (aI HN.out) nt.out (fun j hj=>HS.out j (aI HN.out)),HN.out];simp[mF])
  have kC:=Fs code k k (anb _);go_wp2_with fail
  go_ret3
  exact jZ.of HF.out rfl kC (Own.mono o (Nat.le_succ _)) E
 obtain⟨q,rfl⟩: ∃q,m=q+1:=⟨m-1,by omega⟩
 obtain rfl:z=(q:Int):=by omega
 clear UW hm0;obtain⟨i,hi⟩: ∃i,code[q]? =some i:=⟨_,am9 (aI HN.out)⟩;obtain⟨p0,p1,p2,p3,p4,p5,p6,p7⟩:=hI.cells hi;have ix:=hI.idx q (aI HN.out);rw[HN.out]at ix
 have ye:=Rp (i:=i) (by
  obtain⟨hlt,he⟩:=anx.1 hi;rw[<-he];exact nt.out q hlt)
 have pR:=hid (Vz i.label ye)
 by_cases h12:i.op=12
 ·have z12:(i.op==12)=true:=by simpa using h12
  have qP:=hid (hD.out.put (World.ownsMap.isMap hM) hi h12 (show True from trivial));clear hi h12 ye
  go_wp2_with (at_mapUpdate;go_loud(refine wpList_mapUpdate_own _ rfl _ _ _ 218 rfl 9 3 wC underlying218 _ w.heap.size cnt D rfl hM cz _ _ _ rfl rfl pR.out _ [] (plainElem_int underlying3 (WalkArith.wf_i64 (by omega))) ?_))
  intro w2 vM KT;have vM:pU w2 w.heap.size (cnt+1) _:=vM
  have o2:=Own.kept o KT (by
   rcases Io.out with h|h
   ·exact .inl h
   right;intro e;exact h (an4 e).symm)
  have E2:Below w.heap.size w w2:=E.grown KT E.size (by intro k hk;cases hk;exact anb _);clear hM KT o E p0 p1 p2 p3 p4 p5 p6 p7 ix hI;go_wp2
  go_roundw;exact⟨q,cnt+1,_,_,by omega,rfl,by omega,by omega,by omega,qP,o2,vM,E2⟩;simp[intOf]
 have z12:(i.op==12)=false:=by simpa using h12
 have qP:=hid (hD.out.skip hi h12);clear hi h12 ye;go_wp2
 go_roundw;exact⟨q,cnt,D,_,by omega,rfl,by omega,oh,by omega,qP,o,hM,E⟩;simp[intOf]
theorem ahn(code:List ay)(a:Option Addr)(c:Nat)(hc:code.length<=c)(hL: ∀i∈code,i.label.length<=9223372036854775807)(w:World)(hI:Is w a code):
 Calls prog 140 #[.slice a code.length c] w (jZ (jg code) w):=by
 by_cases hl:256<code.length
 ·exact aho code a c hl w
 exact ahp code a c (by omega) hc hL w hI
attribute [local go_sem high] qd gP
theorem agA(code:List ay)(k:Nat):(l7 code k).length=k:=by simp[l7]
theorem agB(code:List ay)(k:Nat):l7 code (k+1)=l7 code k++[(gi code k).getD (-1)]:=by simp[l7,List.range_succ]
theorem afo(h:code.length<=256)(hc: ∀j (hj:j<code.length),bX code[j]=true)(hk:k<code.length)(h1:gi code k=none)(h2: ∀j,j<k->gi code j≠none):jg code=([],93,(k:Int)):=
 Gr h hc hk ((wR code k).2 h1) (fun j hj e=>h2 j hj ((wR code j).1 e))
theorem afp(h:code.length<=256)(hc: ∀j (hj:j<code.length),bX code[j]=true)(h2: ∀j,j<code.length->gi code j≠none):jg code=(l7 code code.length,0,0):=by
 have h3: ∀j,j<code.length->jE code j≠none:=fun j hj e=>h2 j hj ((wR code j).1 e)
 rw[VQ h hc h3,WX code h3]
theorem akM(hi:code[k]? =some i)(h1:i.op≠12)(h2:i.op≠11):gi code k=some (-1):=by
 unfold gi;rw[hi];simp only;rw[if_neg h1,if_neg h2]
theorem akK(hi:code[k]? =some i)(h1:i.op=12)(h: ∀j x,j<k->code[j]? =some x->cO i.label x=false):gi code k=some (-1):=by
 unfold gi;rw[hi];simp only;rw[if_pos h1,if_neg];intro ha;rw[an1]at ha;obtain⟨x,hx,hp⟩:=ha;obtain⟨j,hj,he⟩:=aoz.1 hx;simp at hj;rw[List.getElem_take]at he;rw[h j x (by omega) (by rw[am9 (by omega),he])]at hp;cases hp
theorem akO(hi:code[k]? =some i)(h1:i.op=12)(hj:j<k)(hx:code[j]? =some x)(hp:cO i.label x=true):gi code k=none:=by
 unfold gi;rw[hi];simp only;rw[if_pos h1,if_pos];obtain⟨hlt,he⟩:=anx.1 hx;refine an1.2 ⟨x,?_,hp⟩;rw[List.mem_take_iff_getElem];exact⟨j,by omega,he⟩
theorem akN(hi:code[k]? =some i)(h1:i.op=11)(hj:k<j)(hx:code[j]? =some x)(hp:cO i.label x=true)(h: ∀m y,k<m->m<j->code[m]? =some y->cO i.label y=false):gi code k=some (j:Int):=by
 unfold gi;rw[hi];simp only;rw[if_neg (by omega),if_pos h1];obtain⟨hlt,he⟩:=anx.1 hx
 have:(code.drop (k+1)).findIdx? (cO i.label)=some (j-(k+1)):=by
  rw[List.findIdx?_eq_some_iff_getElem];refine⟨ ah,?_,fun m hm=>?_⟩
  ·rw[aor]
   have:code[k+1+(j-(k+1))]'(by omega)=x:=by
    have e:k+1+(j-(k+1))=j:=by omega
    simp only[e];exact he
   rw[this];exact hp
  rw[aor]
  rw[h (k+1+m) _ (by omega) (by omega) (am9 (by omega))];simp
 rw[this];simp only[Option.map_some]
 congr 2;omega
theorem akL(hi:code[k]? =some i)(h1:i.op=11)(h: ∀m y,k<m->code[m]? =some y->cO i.label y=false):gi code k=none:=by
 unfold gi;rw[hi];simp only;rw[if_neg (by omega),if_pos h1]
 have:(code.drop (k+1)).findIdx? (cO i.label)=none:=by
  rw[aos];intro x hx;obtain⟨j,hj,rfl⟩:=aoz.1 hx;rw[aor];simp at hj;exact h (k+1+j) _ (by omega) (am9 (by omega))
 rw[this];rfl
theorem Vn(h:x.op≠12):cO nm x=false:=by
 cases hb:cO nm x with
 |false=>rfl
 |true=>exact absurd (rL.1 hb).1 h
theorem Vo(h:x.label≠nm):cO nm x=false:=by
 cases hb:cO nm x with
 |false=>rfl
 |true=>exact absurd (rL.1 hb).2 h
theorem ajL(code:List ay)(a:Option Addr)(c:Nat)(hl:256<code.length)(w:World):Calls prog 242 #[.slice a code.length c] w (jZ (jg code) w):=by
 obtain⟨r,hr⟩:=aj (jg code);rw[hr];have HK:=hid (show r=([],2,0) by rw[<-hr,VP hl]);have hz:decide (256<(code.length:Int))=true:=ah;generalize code.length=n at*;clear hr hl;go_in;go_wp2_with fail
 go_ret3
 exact jZ.nil HK.out rfl (anM _ _)
theorem ajM(code:List ay)(a:Option Addr)(c:Nat)(hl:code.length<=256)(hL: ∀i∈code,i.label.length<=9223372036854775807)(w:World)(hI:Is w a code):
 Calls prog 242 #[.slice a code.length c] w (jZ (jg code) w):=by
 obtain⟨r,hr⟩:=aj (jg code);rw[hr];have HR:=hid hr;obtain⟨n,hn⟩:=aj code.length;have HN:=hid hn;have HL:=hid hL;have hz:decide (256<(n:Int))=false:=ah;have xl:=hid hI;have HG:=hid (fun(k:Nat) (hk:k<n)=>show ∃i,code[k]? =some i from⟨_,am9 (by omega)⟩);have rF:=hI.idx;rw[hn]at rF;have HX:=hid rF;rw[hn]at hl⊢;clear hr hL hn hI rF;go_in;go_wp2
 go_loopw [6] (fun i wr=> ∃k:Nat,k<=n/\i= .int .i64 k/\Hid (∀j (hj:j<code.length),j<k->bX code[j]=true)/\Below w.heap.size w wr) (fun i _=>n-(intOf i).toNat)
 ·exact⟨0,by omega,rfl,hid (fun j hj h'=>absurd h' (anC j)),anM _ _⟩
 obtain⟨k,hk,rfl,HC,E⟩:=hrel;have hI:=xl.out.below E
 by_cases hlt:k<n
 ·obtain⟨i,hi⟩:=HG.out k hlt
  have hik:code[k]'(aI HN.out)=i:=an4 ((am9 (aI HN.out)).symm.trans hi);obtain⟨p0,p1,p2,p3,p4,p5,p6,p7⟩:=hI.cells hi;have ix:=HX.out k hlt;have CK:=hid (fun(w:World)=>yU i (HL.out i (by rw[<-hik];exact aou _)) w);have HI:=hid hik;clear hi hik hI;cases bY:bX i
  ·have hE:=iX bY
   rw[hE]at CK
   have HF:=hid (show r=([],91,(k:Int)) by
    rw[<-HR.out];exact VO (aI HN.out) (aI HN.out) (by rw[HI.out];exact bY) HC.out)
   clear hE bY;go_wp2_with fail;refine(CK.out _).mono ?_;rintro e w2 ⟨rfl,E2⟩;have E:=E.trans (E2.mono E.size);clear p0 p1 p2 p3 p4 p5 p6 p7 ix E2;go_wp2_with fail
   go_ret3
   exact jZ.nil HF.out rfl E
  have hE:=qf bY
  rw[hE]at CK
  have tV:=hid (show ∀j (hj:j<code.length),j<k+1->bX code[j]=true from fun j hj hjk=>by
   by_cases hh:j=k
   ·subst hh;rw[HI.out];exact bY
   exact HC.out j hj (by omega))
  clear hE bY;go_wp2_with fail;refine(CK.out _).mono ?_;rintro e w2 ⟨rfl,E2⟩;have E:=E.trans (E2.mono E.size);clear p0 p1 p2 p3 p4 p5 p6 p7 ix E2;go_wp2
  go_roundw;exact⟨k+1,by omega,by go_num,tV,E⟩;simp[intOf];omega
 obtain rfl:k=n:=by omega
 have nt:=hid (show ∀j (hj:j<code.length),bX code[j]=true from fun j hj=>HC.out j hj (aI HN.out));clear HC hI hlt hk;generalize k=n at*;go_wp2
 go_loopw [7,8] (fun o i wr=> ∃(k:Nat) (a':Option Addr) (c':Nat),k<=n/\i= .int .i64 k/\o= .slice a' k c'/\iR wr w.heap.size a' k c' (l7 code k)/\Hid (∀j,j<k->gi code j≠none)/\Below w.heap.size w wr) (fun _ i _=>n-(intOf i).toNat)
 ·exact⟨0,none,0,by omega,rfl,rfl,Own.nil _ _ _ _,hid (fun j h'=>absurd h' (anC j)),E⟩
 clear E;obtain⟨k,a',c',hk,rfl,rfl,o,HS,E⟩:=hrel;have hI:=xl.out.below E
 by_cases hlt:k<n
 ·obtain⟨i,hi⟩:=HG.out k hlt
  obtain⟨p0,p1,p2,p3,p4,p5,p6,p7⟩:=hI.cells hi;have ix:=HX.out k hlt;have FH:k<code.length:=by have:=HN.out;omega
  have Pj:=hid (fun(h:gi code k=none)=>show r=([],93,(k:Int))from HR.out.symm.trans (afo (aI HN.out) nt.out FH h HS.out))
  have Iv:=hid (fun(t:Int) (h:gi code k=some t)=>show(∀j,j<k+1->gi code j≠none)/\l7 code (k+1)=l7 code k++[t]from⟨fun j hj e=>by
   by_cases hh:j=k
   ·subst hh;rw[h]at e;cases e
   exact HS.out j (by omega) e,by rw[agB,h];rfl⟩)
  have Ec:=hid hi;clear FH
  by_cases h12:i.op=12
  ·have DV:=hid h12
   rw[h12]at p0;have z12:(i.op==12)=true:=by simpa using h12
   clear h12 hi;go_wp2
   go_loopw [10] (fun jv wq=> ∃m:Nat,m<=k/\jv= .int .i64 m/\QW wr wq/\Hid (∀j x,j<m->code[j]? =some x->cO i.label x=false)) (fun jv _=>k-(intOf jv).toNat)
   ·exact⟨0,by omega,rfl,QW.refl _,hid (fun j x h=>absurd h (anC j))⟩
   obtain⟨m,hm,rfl,⟨q,rfl⟩,HM⟩:=hrel
   by_cases hmk:m<k
   ·obtain⟨x,hx⟩:=HG.out m (by omega)
    obtain⟨x0,x1,x2,x3,x4,x5,x6,x7⟩:=hI.cells hx;have jx:=HX.out m (by omega)
    by_cases mK:x.op=12
    ·rw[mK]at x0
     by_cases hxl:x.label=i.label
     ·have HB:=hid (Pj.out (akO Ec.out DV.out hmk hx (rL.2 ⟨mK,hxl⟩)))
      have zl:((tx x.label).toList==(tx i.label).toList)=true:=by rw[iQ];simpa using hxl
      have zl':(x.label==i.label)=true:=by simpa using hxl
      clear hx mK hxl;go_wp2_with fail
      go_quiet (fail)
      go_wp2_with fail
      go_ret3
      exact jZ.nil HB.out rfl (E.trans ((QW.below ⟨_,by first|rfl|exact World.drewN_drewN _ _ _⟩).mono E.size))
     have eo:=hid (show ∀j y,j<m+1->code[j]? =some y->cO i.label y=false from fun j y hj hy=>by
      rcases anv.1 hj with h|h
      ·exact HM.out j y h hy
      subst h;rw[hx]at hy;cases hy;exact Vo hxl)
     have zl:((tx x.label).toList==(tx i.label).toList)=false:=mY hxl;clear hx mK hxl;go_wp2_with fail
     go_quiet (fail)
     go_wp2
     go_roundw;exact⟨m+1,by omega,by go_num,mj,eo⟩;simp[intOf];omega
    have eo:=hid (show ∀j y,j<m+1->code[j]? =some y->cO i.label y=false from fun j y hj hy=>by
     rcases anv.1 hj with h|h
     ·exact HM.out j y h hy
     subst h;rw[hx]at hy;cases hy;exact Vn mK)
    have zx:(x.op==12)=false:=by simpa using mK
    clear hx mK;go_wp2_with fail
    go_quiet (fail)
    go_wp2
    go_roundw;exact⟨m+1,by omega,by go_num,mj,eo⟩;simp[intOf];omega
   obtain rfl:m=k:=by omega
   have HST:=hid (akK Ec.out DV.out HM.out);obtain⟨hs1,hs2⟩:=Iv.out _ HST.out;have sD:=hid hs1;have fV:=hid hs2;have QB:=QW.below (w:=wr) ⟨q,rfl⟩;have E:=E.trans (QB.mono E.size);have o:=Own.below o QB;clear hs1 hs2 QB
   go_wp2_with (at_builtin;go_loud(refine jd wB (.tmp 110) (.tmp 112) rfl rfl rfl o rfl rfl jf E E.size (by omega) cz ?_))
   intro a3 c3 w3 o3 g3 B3;have o4:iR w3 w.heap.size a3 (m+1) c3 (l7 code (m+1)):=by rw[fV.out];simpa[iR,ints]using o3
   clear o o3 g3 E fV;go_wp2
   go_roundw;exact⟨m+1,a3,c3,by omega,by go_num,rfl,o4,sD,B3⟩;simp[intOf];omega
  have z12:(i.op==12)=false:=by simpa using h12
  have DV:=hid h12;clear h12
  by_cases h11:i.op=11
  ·have Pg:=hid h11
   rw[h11]at p0;clear h11 hi z12;go_wp2
   go_loopw [9,11] (fun tv jv wq=> ∃m:Nat,k<m/\m<=n/\jv= .int .i64 m/\QW wr wq/\((tv= .int .i64 (-1)/\Hid (∀j y,k<j->j<m->code[j]? =some y->cO i.label y=false))\/(∃t:Nat,tv= .int .i64 t/\Hid (gi code k=some (t:Int))))) (fun tv jv _=>n-(intOf jv).toNat)
   ·exact⟨k+1,by omega,by omega,by go_num,QW.refl _,.inl ⟨rfl,hid (fun j y h1 h2=>by omega)⟩⟩
   obtain⟨m,hkm,hm,rfl,⟨q,rfl⟩,⟨rfl,HM⟩|⟨t,rfl,HT⟩⟩:=hrel
   ·by_cases hmn:m<n
    ·obtain⟨x,hx⟩:=HG.out m hmn
     obtain⟨x0,x1,x2,x3,x4,x5,x6,x7⟩:=hI.cells hx;have jx:=HX.out m hmn
     by_cases mK:x.op=12
     ·rw[mK]at x0
      by_cases hxl:x.label=i.label
      ·have HB:=hid (akN Ec.out Pg.out hkm hx (rL.2 ⟨mK,hxl⟩) HM.out)
       have zl:((tx x.label).toList==(tx i.label).toList)=true:=by rw[iQ];simpa using hxl
       clear hx mK hxl;go_wp2_with fail
       go_quiet (fail)
       go_wp2
       go_roundw;exact⟨m+1,by omega,by omega,by go_num,mj,.inr ⟨m,rfl,HB⟩⟩;simp[intOf];omega
      have eo:=hid (show ∀j y,k<j->j<m+1->code[j]? =some y->cO i.label y=false from fun j y hkj hj hy=>by
       rcases anv.1 hj with h|h
       ·exact HM.out j y hkj h hy
       subst h;rw[hx]at hy;cases hy;exact Vo hxl)
      have zl:((tx x.label).toList==(tx i.label).toList)=false:=mY hxl;clear hx mK hxl;go_wp2_with fail
      go_quiet (fail)
      go_wp2
      go_roundw;exact⟨m+1,by omega,by omega,by go_num,mj,.inl ⟨rfl,eo⟩⟩;simp[intOf];omega
     have eo:=hid (show ∀j y,k<j->j<m+1->code[j]? =some y->cO i.label y=false from fun j y hkj hj hy=>by
      rcases anv.1 hj with h|h
      ·exact HM.out j y hkj h hy
      subst h;rw[hx]at hy;cases hy;exact Vn mK)
     have zx:(x.op==12)=false:=by simpa using mK
     clear hx mK;go_wp2_with fail
     go_quiet (fail)
     go_wp2
     go_roundw;exact⟨m+1,by omega,by omega,by go_num,mj,.inl ⟨rfl,eo⟩⟩;simp[intOf];omega
    have HB:=hid (Pj.out (akL Ec.out Pg.out (fun j y hkj hy=>HM.out j y hkj (by have:=(anx.1 hy).1;have:=HN.out;omega) hy)))
    have QB:=QW.below (w:=wr) ⟨q,rfl⟩;have E:=E.trans (QB.mono E.size);clear QB;go_wp2_with fail
    go_ret3
    exact jZ.nil HB.out rfl E
   obtain⟨hs1,hs2⟩:=Iv.out _ HT.out
   have sD:=hid hs1;have fV:=hid hs2;have QB:=QW.below (w:=wr) ⟨q,rfl⟩;have E:=E.trans (QB.mono E.size);have o:=Own.below o QB;have ht0: ¬((t:Int)<0):=by omega
   have ht1:decide ((t:Int)<0)=false:=by simp
   clear hs1 hs2 QB;rcases Nat.lt_or_ge m n with adH|adH
   ·skip
    go_wp2_with (at_builtin;go_loud(refine jd wB (.tmp 110) (.tmp 112) rfl rfl rfl o rfl rfl jf E E.size (by omega) cz ?_))
    intro a3 c3 w3 o3 g3 B3;have o4:iR w3 w.heap.size a3 (k+1) c3 (l7 code (k+1)):=by rw[fV.out];simpa[iR,ints]using o3
    clear o o3 g3 E fV;go_wp2
    go_roundw;exact⟨k+1,a3,c3,by omega,by go_num,rfl,o4,sD,B3⟩;simp[intOf];omega
   skip
   go_wp2_with (at_builtin;go_loud(refine jd wB (.tmp 110) (.tmp 112) rfl rfl rfl o rfl rfl jf E E.size (by omega) cz ?_))
   intro a3 c3 w3 o3 g3 B3;have o4:iR w3 w.heap.size a3 (k+1) c3 (l7 code (k+1)):=by rw[fV.out];simpa[iR,ints]using o3
   clear o o3 g3 E fV;go_wp2
   go_roundw;exact⟨k+1,a3,c3,by omega,by go_num,rfl,o4,sD,B3⟩;simp[intOf];omega
  have HST:=hid (akM hi DV.out h11)
  have DM:(i.op==11)=false:=by simpa using h11
  obtain⟨hs1,hs2⟩:=Iv.out _ HST.out;have sD:=hid hs1;have fV:=hid hs2;clear hs1 hs2 h11 hi
  go_wp2_with (at_builtin;go_loud(refine jd wB (.tmp 110) (.tmp 112) rfl rfl rfl o rfl rfl jf E E.size (by omega) cz ?_))
  intro a3 c3 w3 o3 g3 B3;have o4:iR w3 w.heap.size a3 (k+1) c3 (l7 code (k+1)):=by rw[fV.out];simpa[iR,ints]using o3
  clear o o3 g3 E fV;go_wp2
  go_roundw;exact⟨k+1,a3,c3,by omega,by go_num,rfl,o4,sD,B3⟩;simp[intOf];omega
 obtain rfl:k=n:=by omega
 have HF:=hid (show r=(l7 code k,0,0) by rw[<-HR.out,afp (aI HN.out) nt.out (fun j hj=>HS.out j (aI HN.out)),HN.out]);go_wp2_with fail
 go_ret3
 exact jZ.of HF.out rfl (agA _ _) o E
theorem ajK(code:List ay)(a:Option Addr)(c:Nat)(hL: ∀i∈code,i.label.length<=9223372036854775807)(w:World)(hI:Is w a code):
 Calls prog 242 #[.slice a code.length c] w (jZ (jg code) w):=by
 by_cases hl:code.length<=256
 ·exact ajM code a c hl hL w hI
 exact ajL code a c (by omega) w
end Go.Proofs.YtkbbgjloifmmbaaGreatDoor

/- What ReadPiecesP leans on, part 9. -/
import Derived.Test.YtkbbgjloifmmbaaGreatDoorRp8
set_option linter.unusedVariables false
namespace Go.Proofs.YtkbbgjloifmmbaaGreatDoor
def placeV(s:Tx):Option Nat:=match (splitC 40 s).map trimT with
 |[x,y]=>if x=[48]/\y.getLast?=some 41 then regOf (trimT y.dropLast)else none
 |_=>none
theorem dw_stop(p:UInt8->Bool)(c:UInt8)(hc:p c=false)(ys:Tx): ∀xs:Tx,(xs++c::ys).dropWhile p=xs.dropWhile p++c::ys
 |[]=>by simp[hc]
 | x::xs=>by
   rw[List.cons_append,List.dropWhile_cons,List.dropWhile_cons]
   by_cases hx:p x=true
   ·rw[if_pos hx,if_pos hx,dw_stop p c hc ys xs]
   ·rw[if_neg hx,if_neg hx];rfl
theorem dw_mem(p:UInt8->Bool)(c:UInt8)(hc:p c=false): ∀xs:Tx,c∈xs->c∈xs.dropWhile p
 |[],h=>h
 | x::xs,h=>by
   rw[List.dropWhile_cons]
   by_cases hx:p x=true
   ·rw[if_pos hx]
    rcases List.mem_cons.1 h with e|e
    ·subst e;rw[hc]at hx;cases hx
    ·exact dw_mem p c hc xs e
   ·rw[if_neg hx];exact h
theorem dw_sub(p:UInt8->Bool)(c:UInt8)(xs:Tx)(h:c∈xs.dropWhile p):c∈xs:=(List.dropWhile_suffix p).subset h
theorem dw_idem(p:UInt8->Bool)(xs:Tx):(xs.dropWhile p).dropWhile p=xs.dropWhile p:=dropWhile_head (fun c hc=>head_dropWhile hc)
theorem trimT_dw(l:Tx):trimT (l.dropWhile blankC)=trimT l:=by
 rw[<-trim_comm,<-trim_comm,dw_idem]
def rdr(l:Tx):Tx:=(l.reverse.dropWhile blankC).reverse
theorem trimT_rdr(l:Tx):trimT l=(rdr l).dropWhile blankC:=trimT_eq l
theorem trimT_mid(A B:Tx)(c:UInt8)(hc:blankC c=false):trimT (A++c::B)=A.dropWhile blankC++c::rdr B:=by
 rw[trimT_eq,List.reverse_append,List.reverse_cons,List.append_assoc,List.singleton_append,dw_stop _ _ hc,List.reverse_append,List.reverse_cons,List.reverse_reverse,List.append_assoc,List.singleton_append,dw_stop _ _ hc];rfl
theorem tw_app(c:UInt8)(B:Tx): ∀A:Tx,c∉A->(A++c::B).takeWhile (· != c)=A/\(A++c::B).dropWhile (· != c)=c::B
 |[],_=>by simp
 | x::A,h=>by
   simp only[List.mem_cons,not_or]at h;obtain⟨h1,h2⟩:=tw_app c B A h.2;rw[List.cons_append,List.takeWhile_cons,List.dropWhile_cons,if_pos (by simpa using Ne.symm h.1),if_pos (by simpa using Ne.symm h.1),h1,h2];exact⟨rfl,rfl⟩
theorem mem_rdr{c:UInt8}(hc:blankC c=false){l:Tx}(h:c∈l):c∈rdr l:=by
 unfold rdr;rw[List.mem_reverse];exact dw_mem _ _ hc _ (List.mem_reverse.2 h)
theorem mem_trimT{c:UInt8}(hc:blankC c=false){l:Tx}(h:c∈l):c∈trimT l:=by
 rw[trimT_rdr];exact dw_mem _ _ hc _ (mem_rdr hc h)
theorem trimT_mem{c:UInt8}{l:Tx}(h:c∈trimT l):c∈l:=by
 rw[trimT_eq]at h;have:=dw_sub _ _ _ h;rw[List.mem_reverse]at this;exact List.mem_reverse.1 (dw_sub _ _ _ this)
theorem first_of(c:UInt8): ∀l:Tx,c∈l-> ∃A B,l=A++c::B/\c∉A
 |[],h=>by simp at h
 | x::l,h=>by
   by_cases hx:x=c
   ·exact⟨[],l,by rw[hx];rfl,by simp⟩
   ·have hm:c∈l:=by rcases List.mem_cons.1 h with e|e;exact absurd e.symm hx;exact e
    obtain⟨A,B,rfl,hA⟩:=first_of c l hm;exact⟨x::A,B,rfl,by simp only[List.mem_cons,not_or];exact⟨Ne.symm hx,hA⟩⟩
theorem reg_no40_fin: ∀n:Fin 32,(40:UInt8)∉regT n.val:=by decide+kernel
theorem regOf_40{t:Tx}(h:(40:UInt8)∈t):regOf t=none:=by
 cases hr:regOf t with
 |none=>rfl
 | some n=>
   obtain⟨h1,h2⟩:=regOf_some hr;rw[h2]at h;exact absurd h (reg_no40_fin ⟨n,h1⟩)
theorem last_iff{l:Tx}{c:UInt8}:l.getLast?=some c<-> ∃X,l=X++[c]:=by
 constructor
 ·intro h
  have hne:l≠[]:=by intro e;subst e;simp at h
  refine⟨l.dropLast,?_⟩;rw[List.getLast?_eq_some_getLast hne]at h;simp at h;rw[<-h];exact(List.dropLast_concat_getLast hne).symm
 ·rintro⟨X,rfl⟩;simp
theorem addrT_app(A B:Tx)(hA:(40:UInt8)∉A):addrT (A++40::B)=if trimT A=[48]/\(rdr B).getLast?=some 41 then regOf (trimT (rdr B).dropLast)else none:=by
 have hA':(40:UInt8)∉A.dropWhile blankC:=fun h=>hA (dw_sub _ _ _ h)
 obtain⟨t1,t2⟩:=tw_app 40 (rdr B) _ hA';unfold addrT;simp only;rw[trimT_mid A B 40 (by decide),t1,t2,trimT_dw];have hc:(A.dropWhile blankC++40::rdr B).contains 40=true:=by simp
 rw[hc,List.getLast?_append,List.getLast?_cons,Bool.true_and,List.drop_one,List.tail_cons];generalize rdr B=B';cases hB:B'.getLast? with
 |none=>simp
 | some x=>
   by_cases hx:x=41<;>by_cases hT:trimT A=[48]<;>simp[hx,hT]
theorem placeV_eq(s:Tx):placeV s=addrT s:=by
 by_cases h:(40:UInt8)∈s
 ·obtain⟨A,B,rfl,hA⟩:=first_of 40 s h
  rw[addrT_app A B hA];unfold placeV;rw[splitC_app 40 A B hA,List.map_cons]
  by_cases hB:(40:UInt8)∈B
  ·obtain⟨A2,B2,rfl,hA2⟩:=first_of 40 B hB
   rw[splitC_app 40 A2 B2 hA2,List.map_cons];have hne:=splitC_ne 40 B2
   have hn:(if trimT A=[48]/\(rdr (A2++40::B2)).getLast?=some 41 then regOf (trimT (rdr (A2++40::B2)).dropLast)else none)=none:=by
    split
    ·rename_i hh
     obtain⟨X,hX⟩:=last_iff.1 hh.2;rw[hX,List.dropLast_concat];refine regOf_40 (mem_trimT (by decide) ?_);have hm:=mem_rdr (c:=40) (by decide) hB;rw[hX]at hm;rcases List.mem_append.1 hm with h|h
     ·exact h
     ·simp at h
    ·rfl
   rw[hn];cases hs:splitC 40 B2 with
   |nil=>exact absurd hs hne
   |cons u v=>rfl
  ·rw[splitC_none 40 B hB]
   simp only[List.map_cons,List.map_nil]
   have key:(trimT B).getLast?=some 41<->(rdr B).getLast?=some 41:=by
    rw[trimT_rdr]
    constructor
    ·exact last_dropWhile
    ·intro hh
     obtain⟨X,hX⟩:=last_iff.1 hh;rw[hX,dw_stop blankC 41 (by decide)];simp
   by_cases hh:(rdr B).getLast?=some 41
   ·obtain⟨X,hX⟩:=last_iff.1 hh
    have e2:trimT (trimT B).dropLast=trimT (rdr B).dropLast:=by
     rw[trimT_rdr B,hX,dw_stop blankC 41 (by decide),List.dropLast_concat,List.dropLast_concat,trimT_dw]
    rw[e2]
    by_cases hT:trimT A=[48]
    ·rw[if_pos ⟨hT,key.2 hh⟩,if_pos ⟨hT,hh⟩]
    ·rw[if_neg (fun h=>hT h.1),if_neg (fun h=>hT h.1)]
   ·rw[if_neg (fun h=>hh (key.1 h.2)),if_neg (fun h=>hh h.2)]
 ·rw[addr_miss (fun h'=>h (trimT_mem h'))]
  unfold placeV;rw[splitC_none 40 s h];rfl
theorem dgt_of{x:UInt8}(h1:48<=x.toNat)(h2:x.toNat<=57)(a:Nat):dgt (10*a+(x.toNat-48))=x:=by
 unfold dgt;rw[show 48+(10*a+(x.toNat-48))%10=x.toNat by omega];exact UInt8.ofNat_toNat
theorem valT_pos: ∀(l:Tx) (a:Nat),0<a->0<valT a l
 |[],a,h=>h
 |c::r,a,h=>valT_pos r _ (by omega)
theorem valT_head{l:Tx}(h0:l≠[])(hd:l.all digitC=true)(hh:l.head?≠some 48):0<valT 0 l:=by
 cases l with
 |nil=>exact absurd rfl h0
 | cons c r=>
   simp only[List.all_cons,Bool.and_eq_true]at hd;have hc:=digitC_nat hd.1;refine valT_pos r _ ?_;have:c.toNat≠48:=fun e=>hh (by simp only[List.head?_cons,Option.some.injEq];exact UInt8.toNat_inj.1 e)
   omega
theorem decDigits_step(n:Nat)(h: ¬n<10):Lib.decDigits n=Lib.decDigits (n/10)++[dgt n]:=by rw[Lib.decDigits,dif_neg h];rfl
theorem decDigits_one(n:Nat)(h:n<10):Lib.decDigits n=[dgt n]:=by rw[Lib.decDigits,dif_pos h];unfold dgt;rw[Nat.mod_eq_of_lt h]
theorem canon: ∀(n:Nat) (l:Tx),l.length=n+1->l.all digitC=true->(l.head?=some 48->l.length=1)->Lib.decDigits (valT 0 l)=l
 | 0,l,hn,hd,_=>by
   match l,hn with
   | [x],_=>
     simp only[List.all_cons,List.all_nil,Bool.and_true]at hd;have hx:=digitC_nat hd;have:=dgt_of hx.1 hx.2 0;show Lib.decDigits (10*0+(x.toNat-48))=[x];rw[decDigits_one _ (by omega),this]
 | n+1,l,hn,hd,hh=>by
   rcases List.eq_nil_or_concat l with rfl|⟨r,x,rfl⟩
   ·simp at hn
   rw[List.concat_eq_append]at*;have hr:r.length=n+1:=by simp at hn;omega
   rw[List.all_append]at hd;simp only[Bool.and_eq_true,List.all_cons,List.all_nil,Bool.and_true]at hd;have hx:=digitC_nat hd.2;have hne:r≠[]:=by intro e;subst e;simp at hr
   have hhd:(r++[x]).head?=r.head?:=by cases r with
    |nil=>exact absurd rfl hne
    |cons a b=>rfl
   have h48:r.head?≠some 48:=by
    intro e;rw[hhd]at hh;have:=hh e;rw[List.length_append]at this;simp only[List.length_cons,List.length_nil]at this;omega
   have hp:=valT_head hne hd.1 h48;have ih:=canon n r hr hd.1 (fun e=>absurd e h48);rw[valT_concat,decDigits_step _ (by omega),dgt_of hx.1 hx.2,show(10*valT 0 r+(x.toNat-48))/10=valT 0 r by omega,ih]
theorem numV_canon{z:Tx}{v:Int}(h:numV z=some v)(h1: -2048<=v)(h2:v<=2047):numT z=some v:=by
 suffices e:z=decI v by rw[e];exact numT_decI h1 h2
 unfold numV at h
 split at h
 ·cases h
 rename_i hu
 split at h
 ·rename_i hm
  split at h
  ·cases h
  rename_i hn
  obtain⟨r,rfl⟩: ∃r,z=45::r:=by cases z with
   |nil=>simp at hm
   |cons a b=>simp at hm;subst hm;exact⟨b,rfl⟩
  simp only[List.drop_one,List.tail_cons]at h hn;cases h;have a1:r≠[]:=fun e=>hn (.inl e)
  have a2:r.head?≠some 48:=fun e=>hn (.inr (.inl e))
  have a3:r.all digitC=true:=by cases hb:r.all digitC;exact absurd (.inr (.inr hb)) hn;rfl
  have hp:=valT_head a1 a3 a2;have hc:=canon (r.length-1) r (by have:=List.length_pos_iff.2 a1;omega) a3 (fun e=>absurd e a2);unfold decI;rw[if_pos (by omega),Int.natAbs_neg,Int.natAbs_natCast,<-decDigits_decN (by omega),hc]
 ·split at h
  ·cases h
  rename_i hn;cases h;have a1:z≠[]:=fun e=>hu (.inl e)
  have a3:z.all digitC=true:=by cases hb:z.all digitC;exact absurd (.inr hb) hn;rfl
  have a2:z.head?=some 48->z.length=1:=fun e=>by
   have:=List.length_pos_iff.2 a1;rcases Nat.lt_or_ge 1 z.length with h'|h'
   ·exact absurd (.inl ⟨e,h'⟩) hn
   ·omega
  have hc:=canon (z.length-1) z (by have:=List.length_pos_iff.2 a1;omega) a3 a2;unfold decI;rw[if_neg (by omega),Int.toNat_natCast,<-decDigits_decN (by omega),hc]
theorem numV_fin: ∀a:Fin 64,∀b:Fin 64,numV (decI (((64*a.val+b.val:Nat):Int)-2048))=some (((64*a.val+b.val:Nat):Int)-2048):=by decide+kernel
theorem numV_of{z:Tx}{v:Int}(h:numT z=some v):numV z=some v:=by
 obtain⟨e,b1,b2⟩:=numT_some h;have:=numV_fin ⟨(v+2048).toNat/64,by omega⟩ ⟨(v+2048).toNat%64,by omega⟩;simp only at this;rw[show((64*((v+2048).toNat/64)+(v+2048).toNat%64:Nat):Int)-2048=v by omega]at this;rw[e];exact this
theorem keep_oriR{a b:Nat}{z:Tx}{v:Int}{ok:Bool}(ha:a<32)(hb:b<32)(hv:NumR z v ok):
 keepI ⟨8,a,b,0,v,[],[],0⟩ ok=match numT z with
  |some n=>some ⟨8,a,b,0,n,[],[],0⟩
  |none=>none:=by
 rcases hv with⟨h1,rfl,rfl⟩|⟨h1,rfl⟩
 ·cases hn:numT z with
  |none=>rfl
  |some n=>rw[numV_of hn]at h1;cases h1
 ·unfold keepI
  rw[check_ori ha hb]
  by_cases hr: -2048<=v/\v<=2047
  ·rw[numV_canon h1 hr.1 hr.2]
   have hB:numB v=true:=by unfold numB;simp;omega
   rw[hB,decide_eq_true hr.1,decide_eq_true hr.2];rfl
  ·rw[show(decide (-2048<=v)&&decide (v<=2047))=false by simp;omega]
   cases hn:numT z with
   |none=>simp
   | some n=>
     rw[numV_of hn]at h1;cases h1;obtain⟨-, b1,b2⟩:=numT_some hn;exact absurd ⟨b1,b2⟩ hr
def fenceV(p s:Tx):Int:=match fpartOf p,fpartOf s with
 |some k,some j=>3+3*k+j
 |_,_=>0
theorem tw_all{p:UInt8->Bool}: ∀{l:Tx},(∀x∈l,p x=true)->l.takeWhile p=l/\l.dropWhile p=[]
 |[],_=>⟨rfl,rfl⟩
 | c::r,h=>by
   obtain⟨a,b⟩:=tw_all (l:=r) (fun x hx=>h x (by simp[hx]));rw[List.takeWhile_cons,List.dropWhile_cons,if_pos (h c (by simp)),if_pos (h c (by simp)),a,b];exact⟨rfl,rfl⟩
theorem dw_nil{p:UInt8->Bool}: ∀{l:Tx},l.dropWhile p=[]-> ∀x∈l,p x=true
 |[],_,x,hx=>by cases hx
 | c::r,h,x,hx=>by
   rw[List.dropWhile_cons]at h
   split at h
   ·rename_i hc
    rcases List.mem_cons.1 hx with rfl|hx
    ·exact hc
    ·exact dw_nil h x hx
   ·cases h
theorem valT_fold: ∀(l:Tx) (a:Nat),valT a l=l.foldl (fun n b=>10*n+(b.toNat-48)) a
 |[],a=>rfl
 |c::r,a=>valT_fold r _
theorem valT_dec(u:Nat):valT 0 (Lib.decDigits u)=u:=by rw[valT_fold];exact valD_dec u
theorem valI_itoa(n:Int):valI (Lib.itoa n)=n:=by
 unfold Lib.itoa;split
 ·show(if(45:UInt8)=45 then -((valT 0 (Lib.decDigits n.natAbs):Nat):Int)else((valT 0 (45::Lib.decDigits n.natAbs):Nat):Int))=n
  rw[if_pos rfl,valT_dec];omega
 ·have h1:=valT_dec n.toNat
  have h2:=dec_ne n.toNat;have h3:=dec_digit n.toNat;generalize Lib.decDigits n.toNat=d at*;cases d with
  |nil=>exact absurd rfl h2
  | cons c r=>
    have:=h3 c (by simp);show(if c=45 then -((valT 0 r:Nat):Int)else((valT 0 (c::r):Nat):Int))=n;rw[if_neg (by intro e;subst e;simp at this),h1];omega
def numR(s:Tx):Option Int:=if Lib.itoa (valI s)=s/\n32B (valI s)=true then some (valI s)else none
theorem numR_iff{s:Tx}{v:Int}:numR s=some v<->s=Lib.itoa v/\n32B v=true:=by
 unfold numR
 constructor
 ·intro h
  split at h
  ·rename_i hh;cases h;exact⟨hh.1.symm,hh.2⟩
  ·cases h
 ·rintro⟨rfl,h⟩
  rw[valI_itoa,if_pos ⟨rfl,h⟩]
theorem numR_cond{s:Tx}{v:Int}(h:s=Lib.itoa v->True)(hv: ∀u,numR s=some u->u=v):numR s=if Lib.itoa v=s/\n32B v=true then some v else none:=by
 by_cases hh:Lib.itoa v=s/\n32B v=true
 ·rw[if_pos hh];exact numR_iff.2 ⟨hh.1.symm,hh.2⟩
 ·rw[if_neg hh]
  cases hn:numR s with
  |none=>rfl
  |some u=>exact absurd (by have:=hv u hn;subst this;have:=numR_iff.1 hn;exact⟨this.1.symm,this.2⟩) hh
theorem valT_ge: ∀(l:Tx) (a:Nat),a<=valT a l
 |[],a=>Nat.le_refl _
 |c::r,a=>by have:=valT_ge r (10*a+(c.toNat-48));unfold valT;omega
theorem parse10_val: ∀(l:Tx) (a:Nat),(∀b∈l,48<=b.toNat/\b.toNat<=57)->valT a l<18446744073709551616->Lib.parseUint10 a l= .ok (valT a l)
 |[],a,_,_=>rfl
 | c::r,a,hd,h=>by
   have h1:=hd c (by simp);have h2:=valT_ge r (10*a+(c.toNat-48));unfold valT at h⊢;have h3:=parse10_val r _ (fun b hb=>hd b (by simp[hb])) h;unfold Lib.parseUint10;rw[if_pos h1,if_neg (by omega),if_neg (by omega),show a*10+(c.toNat-48)=10*a+(c.toNat-48) by omega,h3]
theorem atoi_itoa{v:Int}(h:n32B v=true):Lib.atoiAll (Lib.itoa v)= .ok v:=by
 unfold n32B at h;simp only[Bool.and_eq_true,decide_eq_true_eq]at h
 have key: ∀u:Nat,u<18446744073709551616->Lib.parseMag (Lib.decDigits u)= .ok u:=fun u hu=>by
  unfold Lib.parseMag;rw[if_neg (dec_ne u),parse10_val _ _ (dec_digit u) (by rw[valT_dec];exact hu),valT_dec]
 unfold Lib.itoa;split
 ·have:=key v.natAbs (by omega)
  unfold Lib.atoiAll;simp only[show(45:UInt8).toNat=45 from rfl,or_true,if_true,this];rw[if_neg (by simp),if_neg (by simp;omega)];simp;omega
 ·have h1:=key v.toNat (by omega)
  have h2:=dec_ne v.toNat;have h3:=dec_digit v.toNat;generalize Lib.decDigits v.toNat=d at*;cases d with
  |nil=>exact absurd rfl h2
  | cons c r=>
    have:=h3 c (by simp);unfold Lib.atoiAll;simp only[show ¬(c.toNat=43\/c.toNat=45) by omega,if_false,h1];rw[if_neg (by omega),if_neg (by omega),if_neg (by omega)];simp;omega
theorem numR_ok{s:Tx}{v:Int}(h:Lib.atoiAll s= .ok v):numR s=if Lib.itoa v=s/\n32B v=true then some v else none:=
 numR_cond (fun _=>trivial) fun u hu=>by
  obtain⟨rfl,h2⟩:=numR_iff.1 hu;rw[atoi_itoa h2]at h;cases h;rfl
theorem numR_bad{s:Tx}(h: ∀v,Lib.atoiAll s≠ .ok v):numR s=none:=by
 cases hn:numR s with
 |none=>rfl
 |some u=>obtain⟨rfl,h2⟩:=numR_iff.1 hn;exact absurd (atoi_itoa h2) (h u)
theorem dec_len: ∀(k u:Nat),u<10 ^ (k+1)->(Lib.decDigits u).length<=k+1
 |0,u,h=>by rw[Lib.decDigits,dif_pos (by omega)];simp
 | k+1,u,h=>by
   rw[Lib.decDigits];split
   ·simp
   ·have:=dec_len k (u/10) (by rw[Nat.pow_succ]at h;omega)
    simp;omega
theorem itoa_len11{v:Int}(h:n32B v=true):(Lib.itoa v).length<=11:=by
 unfold n32B at h;simp only[Bool.and_eq_true,decide_eq_true_eq]at h;unfold Lib.itoa;split
 ·have:=dec_len 9 v.natAbs (by omega)
  simp;omega
 ·have:=dec_len 9 v.toNat (by omega);omega
theorem numR_len{s:Tx}{v:Int}(h:numR s=some v):s.length<=11:=by
 obtain⟨rfl,h2⟩:=numR_iff.1 h;exact itoa_len11 h2
def valE(a:Nat):Tx->Nat
 |[]=>a
 |c::r=>valE (if digitC c then 10*a+(c.toNat-48)else a) r
theorem digit_nat{c:UInt8}:digitC c=true<->48<=c.toNat/\c.toNat<=57:=by
 unfold digitC;rw[Bool.and_eq_true,decide_eq_true_eq,decide_eq_true_eq,UInt8.le_iff_toNat_le,UInt8.le_iff_toNat_le];rfl
theorem valE_digits: ∀(l:Tx) (a:Nat),(∀b∈l,48<=b.toNat/\b.toNat<=57)->valE a l=valT a l
 |[],a,_=>rfl
 | c::r,a,hd=>by
   unfold valE valT;rw[if_pos (digit_nat.2 (hd c (by simp))),valE_digits r _ (fun b hb=>hd b (by simp[hb]))]
def valS(s:Tx):Int:=if s.head?=some 45 then 0-(valE 0 s:Int)else valE 0 s
theorem valS_itoa(v:Int):valS (Lib.itoa v)=v:=by
 unfold valS Lib.itoa;split
 ·rw[if_pos (by rfl)]
  unfold valE;rw[if_neg (by decide),valE_digits _ _ (dec_digit _),valT_dec];omega
 ·rw[valE_digits _ _ (dec_digit _),valT_dec,if_neg]
  ·omega
  ·intro e
   have:=dec_digit v.toNat 45 (List.mem_of_head? e);simp at this
theorem numR_valS(s:Tx):numR s=if Lib.itoa (valS s)=s/\n32B (valS s)=true then some (valS s)else none:=
 numR_cond (fun _=>trivial) fun u hu=>by obtain⟨rfl,h2⟩:=numR_iff.1 hu;exact(valS_itoa u).symm
theorem valE_lt: ∀(k:Nat) (l:Tx) (a:Nat),l.length<=k->valE a l<(a+1)*10 ^ k
 | k,[],a,_=>by
   unfold valE;have:1<=10 ^ k:=Nat.one_le_pow _ _ (by omega)
   calc a<a+1:=by omega
    _<=(a+1)*10 ^ k:=Nat.le_mul_of_pos_right _ this
 |0,_::_,_,h=>absurd h (by simp)
 | k+1,c::r,a,h=>by
   unfold valE;simp only[List.length_cons]at h;split
   ·rename_i hd
    have hd:=digit_nat.1 hd;have:=valE_lt k r (10*a+(c.toNat-48)) (by omega);refine Nat.lt_of_lt_of_le this ?_;rw[Nat.pow_succ,Nat.mul_comm (10 ^ k) 10,<-Nat.mul_assoc];exact Nat.mul_le_mul_right _ (by omega)
   ·have:=valE_lt k r a (by omega)
    refine Nat.lt_of_lt_of_le this ?_;rw[Nat.pow_succ,<-Nat.mul_assoc];omega
theorem digits_all{l:Tx}(h: ∀b∈l,48<=b.toNat/\b.toNat<=57):l.all digitC=true:=List.all_eq_true.2 fun b hb=>digit_nat.2 (h b hb)
theorem numV_text{z:Tx}{v:Int}(h:numV z=some v):z=Lib.itoa v:=by
 unfold numV at h
 split at h
 ·cases h
 rename_i hu
 split at h
 ·rename_i hm
  split at h
  ·cases h
  rename_i hn
  obtain⟨r,rfl⟩: ∃r,z=45::r:=by cases z with
   |nil=>simp at hm
   |cons a b=>simp at hm;subst hm;exact⟨b,rfl⟩
  simp only[List.drop_one,List.tail_cons]at h hn;cases h;have a1:r≠[]:=fun e=>hn (.inl e)
  have a2:r.head?≠some 48:=fun e=>hn (.inr (.inl e))
  have a3:r.all digitC=true:=by cases hb:r.all digitC;exact absurd (.inr (.inr hb)) hn;rfl
  have hp:=valT_head a1 a3 a2;have hc:=canon (r.length-1) r (by have:=List.length_pos_iff.2 a1;omega) a3 (fun e=>absurd e a2);unfold Lib.itoa;rw[if_pos (by omega),Int.natAbs_neg,Int.natAbs_natCast,hc]
 ·split at h
  ·cases h
  rename_i hn;cases h;have a1:z≠[]:=fun e=>hu (.inl e)
  have a3:z.all digitC=true:=by cases hb:z.all digitC;exact absurd (.inr hb) hn;rfl
  have a2:z.head?=some 48->z.length=1:=fun e=>by
   have:=List.length_pos_iff.2 a1;rcases Nat.lt_or_ge 1 z.length with h'|h'
   ·exact absurd (.inl ⟨e,h'⟩) hn
   ·omega
  have hc:=canon (z.length-1) z (by have:=List.length_pos_iff.2 a1;omega) a3 a2;unfold Lib.itoa;rw[if_neg (by omega),Int.toNat_natCast,hc]
theorem dec_head{u:Nat}:(Lib.decDigits u).head?=some 48->u=0:=by
 induction u using Nat.strongRecOn with
 | _ u ih=>
   rw[Lib.decDigits];split
   ·rename_i h
    intro e;have key: ∀k:Fin 10,(UInt8.ofNat (48+k.val))=48->k.val=0:=by decide
    exact key ⟨u,h⟩ (by simpa using e)
   ·rename_i h
    intro e;have h2:=dec_ne (u/10)
    have:=ih (u/10) (by omega) (by
     generalize Lib.decDigits (u/10)=d at*;cases d with
     |nil=>exact absurd rfl h2
     |cons a b=>simpa using e)
    omega
theorem numV_itoa{v:Int}(h:n32B v=true):numV (Lib.itoa v)=some v:=by
 have hl:=itoa_len11 h;unfold numV
 rw[if_neg (by
  rintro(e|e)
  ·exact itoa_ne v e
  ·omega)]
 unfold Lib.itoa;split
 ·rename_i hn
  simp only[List.head?_cons,if_true,List.drop_one,List.tail_cons,valT_dec];rw[if_neg]
  ·congr 1;omega
  ·rintro(e|e|e)
   ·exact dec_ne _ e
   ·have:=dec_head e;omega
   ·rw[digits_all (dec_digit _)]at e;cases e
 ·rename_i hn
  rw[if_neg,if_neg]
  ·rw[valT_dec];congr 1;omega
  ·rintro(⟨e,e2⟩|e)
   ·rw[dec_head e,Lib.decDigits,dif_pos (by omega)]at e2;simp at e2
   ·rw[digits_all (dec_digit _)]at e;cases e
  ·intro e
   have:=dec_digit v.toNat 45 (List.mem_of_head? e);simp at this
theorem numR_numV(z:Tx):numR z=(numV z).bind fun v=>if n32B v=true then some v else none:=by
 cases hv:numV z with
 | none=>
   cases hn:numR z with
   |none=>rfl
   |some u=>obtain⟨rfl,h2⟩:=numR_iff.1 hn;rw[numV_itoa h2]at hv;cases hv
 | some v=>
   have e:=numV_text hv;subst e;show _=if n32B v=true then some v else none
   rw[numR_valS,valS_itoa];simp
def regOfA(arch:Int)(s:Tx):Option Nat:=(List.range (regsN arch).toNat).find? fun n=>regA arch n==s
def longT:Tx->Nat
 |[]=>0
 | c::r=>
   if letterC c then 1+(r.takeWhile nameC).length
   else if digitC c||(c==45&&(r.head?.any digitC))then 1+(r.takeWhile digitC).length
   else if(c==47&&r.head?==some 92)||(c==92&&r.head?==some 47)then 2 else 1
abbrev Tok:=Tx × Nat
def lexF:Nat->Nat->Tx->List Tok
 |0,_,_=>[]
 |_+1,_,[]=>[]
 |n+1,p,c::r=>if blankC c then lexF n (p+1) r else((c::r).take (longT (c::r)),p)::lexF n (p+longT (c::r)) ((c::r).drop (longT (c::r)))
def lex(p:Nat)(s:Tx):List Tok:=lexF s.length p s
theorem longT_eq(c:UInt8)(r:Tx):longT (c::r)=if letterC c then 1+(r.takeWhile nameC).length
 else if digitC c||(c==45&&(r.head?.any digitC))then 1+(r.takeWhile digitC).length
 else if(c==47&&r.head?==some 92)||(c==92&&r.head?==some 47)then 2 else 1:=rfl
theorem longT_pos(c:UInt8)(r:Tx):1<=longT (c::r):=by
 rw[longT_eq];split
 ·omega
 ·split
  ·omega
  ·split<;>omega
theorem takeWhile_le{α:Type}(p:α->Bool)(l:List α):(l.takeWhile p).length<=l.length:=by
 have:=congrArg List.length (List.takeWhile_append_dropWhile (p:=p) (l:=l));rw[List.length_append]at this;omega
theorem longT_le(c:UInt8)(r:Tx):longT (c::r)<=r.length+1:=by
 rw[longT_eq];have h1:=takeWhile_le nameC r;have h2:=takeWhile_le digitC r;split
 ·omega
 ·split
  ·omega
  ·split
   ·rename_i h
    cases r with
    |nil=>simp at h
    |cons d r=>simp
   ·omega
theorem lexF_more: ∀(n m p:Nat) (s:Tx),s.length<=n->s.length<=m->lexF n p s=lexF m p s
 |0,0,_,_,_,_=>rfl
 |0,m+1,p,[],_,_=>rfl
 |0,_+1,_,_::_,h,_=>absurd h (by simp)
 |n+1,0,p,[],_,_=>rfl
 |_+1,0,_,_::_,_,h=>absurd h (by simp)
 |n+1,m+1,p,[],_,_=>rfl
 | n+1,m+1,p,c::r,h1,h2=>by
   have hp:=longT_pos c r;simp only[List.length_cons]at h1 h2;show(if blankC c then lexF n (p+1) r else _::lexF n _ _)=(if blankC c then lexF m (p+1) r else _::lexF m _ _);rw[lexF_more n m (p+1) r (by omega) (by omega),lexF_more n m (p+longT (c::r)) ((c::r).drop (longT (c::r))) (by simp;omega) (by simp;omega)]
theorem lex_nil(p:Nat):lex p []=[]:=rfl
theorem lex_blank(p:Nat){c:UInt8}(r:Tx)(h:blankC c=true):lex p (c::r)=lex (p+1) r:=by
 show(if blankC c then lexF r.length (p+1) r else _)=_;rw[if_pos h];rfl
theorem lex_tok(p:Nat){c:UInt8}(r:Tx)(h:blankC c=false):lex p (c::r)=((c::r).take (longT (c::r)),p)::lex (p+longT (c::r)) ((c::r).drop (longT (c::r))):=by
 show(if blankC c then _ else _::lexF r.length _ _)=_;rw[if_neg (by rw[h];decide)];have hp:=longT_pos c r
 congr 1
 exact lexF_more _ _ _ _ (by simp;omega) (by simp)
theorem lex_len: ∀(n p:Nat) (s:Tx),s.length<=n->(lex p s).length<=s.length
 |_,p,[],_=>by rw[lex_nil];simp
 |0,_,_::_,h=>absurd h (by simp)
 | n+1,p,c::r,h=>by
   simp only[List.length_cons]at h;cases hb:blankC c with
   |true=>rw[lex_blank p r hb];have:=lex_len n (p+1) r (by omega);simp;omega
   | false=>
     rw[lex_tok p r hb];have hp:=longT_pos c r;have:=lex_len n (p+longT (c::r)) ((c::r).drop (longT (c::r))) (by simp;omega);simp only[List.length_cons,List.length_drop]at this ⊢; omega
abbrev PR(α:Type):=Except (List Tok) (α × List Tok)
def headS:List Tok->Tx
 |[]=>[]
 |t::_=>t.1
def takeR(s:Tx):List Tok->Except (List Tok) (List Tok)
 |[]=>.error []
 |t::r=>if t.1=s then .ok r else .error (t::r)
def intR(a b:Int):List Tok->PR Int
 |[]=>.error []
 | t::r=>match numR t.1 with
   |some n=>if a<=n/\n<=b then .ok (n,r)else .error (t::r)
   |none=>.error (t::r)
def locR:List Tok->PR Tx
 |[]=>.error []
 |t::r=>if nameB t.1 then .ok (t.1,r)else .error (t::r)
def numHead:Tx->Bool
 |[]=>false
 |c::_=>digitC c||c==45
def thingR(arch:Int)(l:List Tok):PR Th:=
 if headS l=[91]then
  match locR l.tail with
  | .error e=>.error e
  | .ok (x,r)=>match takeR [93] r with
    | .error e=>.error e
    | .ok r=>.ok (⟨-1,0,x⟩,r)
 else if numHead (headS l)then
  match intR 0 15 l with
  | .error e=>.error e
  | .ok (n,r)=>match takeR [58] r with
    | .error e=>.error e
    | .ok r=>match regOfA arch (headS r)with
      |none=>.error r
      |some k=>.ok (⟨n,k,[]⟩,r.tail)
 else match locR l with
  | .error e=>.error e
  | .ok (x,r)=>.ok (⟨-1,0,x⟩,r)
def ndK(k:Int)(l:List Nd):Nd:=.mk k zTh 0 none 0 l
def atomR(arch:Int)(l:List Tok):PR Nd:=
 match thingR arch l with
 | .error e=>.error e
 | .ok (t,r)=>match takeR [61] r with
   | .error e=>.error e
   | .ok r=>match intR (-2147483648) 2147483647 r with
     | .error e=>.error e
     | .ok (v,r)=>.ok (.mk 2 t v none 0 [],r)
def oneR(k:Int):List Nd->Nd
 |[x]=>x
 |l=>ndK k l
def rowF(k:Int)(sign:Tx)(one:List Tok->PR Nd):Nat->List Nd->List Tok->PR Nd
 |0,acc,l=>.ok (oneR k acc,l)
 | n +1,acc,l=>if headS l=sign then
     match one l.tail with
     | .error e=>.error e
     | .ok (x,r)=>rowF k sign one n (acc++[x]) r
   else .ok (oneR k acc,l)
def rowR(k:Int)(sign:Tx)(one:List Tok->PR Nd)(l:List Tok):PR Nd:=
 match one l with
 | .error e=>.error e
 | .ok (x,r)=>rowF k sign one r.length [x] r
def orR(one:List Tok->PR Nd)(l:List Tok):PR Nd:=rowR 5 [92,47] (rowR 4 [47,92] one) l
def notR(arch:Int):Nat->List Tok->PR Nd
 |0,l=>.error l
 | n+1,l=>
   if headS l=[126]then
    match notR arch n l.tail with
    | .error e=>.error e
    | .ok (x,r)=>.ok (ndK 3 [x],r)
   else if headS l=[40]then
    match orR (notR arch n) l.tail with
    | .error e=>.error e
    | .ok (x,r)=>match takeR [41] r with
      | .error e=>.error e
      | .ok r=>.ok (x,r)
   else if headS l=[116,114,117,101]/\headS l.tail≠[61]then .ok (ndK 1 [],l.tail)
   else atomR arch l
def condHead(l:List Tok):PR Int:=
 if headS l=[102,111,114,97,108,108]then .ok (3,l.tail)
 else if headS l=[126]then
  match takeR [101,120,105,115,116,115] l.tail with
  | .error e=>.error e
  | .ok r=>.ok (2,r)
 else match takeR [101,120,105,115,116,115] l with
  | .error e=>.error e
  | .ok r=>.ok (1,r)
def condR(arch:Int)(l:List Tok):Except (List Tok) (Int × Nd):=
 match condHead l with
 | .error e=>.error e
 | .ok (q,l)=>match takeR [40] l with
   | .error e=>.error e
   | .ok l=>match orR (notR arch (l.length+1)) l with
     | .error e=>.error e
     | .ok (x,l)=>match takeR [41] l with
       | .error e=>.error e
       | .ok l=>if l=[]then .ok (q,x)else .error l
def parseC(arch:Int)(s:Tx):Except (Int × Nat) (Int × Nd):=
 if archB arch=false then .error (5,0)
 else if 262144<s.length then .error (2,0)
 else match condR arch (lex 0 s)with
  | .error e=>.error (80,(e.head?.map (·.2)).getD s.length)
  | .ok (q,x)=>if condE arch q x=0 then .ok (q,x)else .error (condE arch q x,0)
theorem fpart_lt{x:Tx}{k:Int}(h:fpartOf x=some k):0<=k/\k<=2:=by
 obtain⟨n,hn,rfl, -⟩:=fpartOf_some h;omega
theorem read_check{op:Tx}{l:List Tx}{k:Ins}(h:readI op l=some k):checkI k=true:=by
 by_cases h1:op=[108,119]
 ·subst h1
  by_cases hl:l.length=2
  ·obtain⟨x,y,rfl⟩:=len2 hl
   rw[read_lw2]at h;cases hx:regOf x with
   |none=>rw[hx]at h;simp at h
   | some d=>cases hy:addrT y with
     |none=>rw[hx,hy]at h;simp at h
     |some a=>rw[hx,hy]at h;simp at h;subst h;exact check_lw (regOf_lt d hx) (addrT_lt hy)
  ·rw[read_lw_no hl]at h;cases h
 by_cases h2:op=[115,119]
 ·subst h2
  by_cases hl:l.length=2
  ·obtain⟨x,y,rfl⟩:=len2 hl
   rw[read_sw2]at h;cases hx:regOf x with
   |none=>rw[hx]at h;simp at h
   | some d=>cases hy:addrT y with
     |none=>rw[hx,hy]at h;simp at h
     |some a=>rw[hx,hy]at h;simp at h;subst h;exact check_sw (regOf_lt d hx) (addrT_lt hy)
  ·rw[read_sw_no hl]at h;cases h
 by_cases h3:op=[102,101,110,99,101]
 ·subst h3
  by_cases hl:l.length=2
  ·obtain⟨x,y,rfl⟩:=len2 hl
   rw[read_fence2]at h;cases hx:fpartOf x with
   |none=>rw[hx]at h;simp at h
   | some d=>cases hy:fpartOf y with
     |none=>rw[hx,hy]at h;simp at h
     | some a=>
       rw[hx,hy]at h;simp at h;subst h;have:=fpart_lt hx;have:=fpart_lt hy;rw[check_fence];simp;omega
  ·rw[read_fence_no hl]at h;cases h
 by_cases hl:l.length=3
 ·obtain⟨x,y,z,rfl⟩:=len3 hl
  rw[read_3 _ _ _ h1 h2 h3]at h;cases hx:regOf x with
  |none=>rw[hx]at h;simp at h
  | some a=>cases hy:regOf y with
    |none=>rw[hx,hy]at h;simp at h
    | some b=>
      rw[hx,hy]at h;simp only at h;have la:=regOf_lt a hx;have lb:=regOf_lt b hy
      split at h
      ·split at h
       ·rename_i hn;cases h;rw[check_bne la lb];exact hn
       ·cases h
      ·split at h
       ·cases hn:numT z with
        |none=>rw[hn]at h;simp at h
        | some n=>
          rw[hn]at h;simp at h;subst h;obtain⟨-, b1,b2⟩:=numT_some hn;rw[check_ori la lb];simp;omega
       ·cases hz:regOf z with
        |none=>rw[hz]at h;simp at h
        | some c=>
          rw[hz]at h;simp only at h;have lc:=regOf_lt c hz
          split at h
          ·cases h;exact check_3 (.inl rfl) la lb lc
          ·split at h
           ·cases h;exact check_3 (.inr rfl) la lb lc
           ·cases h
 ·rw[read_3no h1 h2 h3 hl]at h;cases h
theorem parse_check{s:Tx}{k:Ins}(h:parseI s=some k):checkI k=true:=by
 unfold parseI at h
 split at h
 ·cases h
 ·simp only at h
  split at h
  ·cases h;decide
  ·split at h
   ·split at h
    ·rename_i hn;cases h;rw[check_label];exact hn
    ·cases h
   ·exact read_check h
def Lst(s:Tx):Prop:= ∃p c,s=p++[c]/\c≠32
theorem Lst.app(a:Tx){b:Tx}(h:Lst b):Lst (a++b):=by
 obtain⟨p,c,rfl,hc⟩:=h;exact⟨a++p,c,by simp,hc⟩
theorem Lst.one(a:Tx){c:UInt8}(h:c≠32):Lst (a++[c]):=⟨a,c,rfl,h⟩
theorem Lst.of{p:UInt8->Bool}{s:Tx}(h0:s≠[])(h: ∀b∈s,p b=true)(hp:p 32=false):Lst s:=by
 refine⟨s.dropLast,s.getLast h0,(List.dropLast_concat_getLast h0).symm,fun e=>?_⟩;have:=h _ (List.getLast_mem h0);rw[e,hp]at this;cases this
theorem Lst.ok{s:Tx}(h:Lst s):s=[]\/s.getLast?≠some 32:=by
 obtain⟨p,c,rfl,hc⟩:=h
 right;simpa using hc
theorem Lst.ne{s:Tx}(h:Lst s):s≠[]:=by
 obtain⟨p,c,rfl,hc⟩:=h;simp
theorem regX_word{a:Nat}(h:a<15): ∀b∈regX a,wordC b=true:=by
 have k: ∀n:Fin 15,(regX n.val).all wordC=true:=by decide+kernel
 exact List.all_eq_true.1 (k ⟨a,h⟩)
theorem regX_head{a:Nat}(h:a<15): ∃c t,regX a=c::t/\c≠91/\c≠36:=by
 cases e:regX a with
 |nil=>exact absurd e (regX_len_fin ⟨a,h⟩).2
 | cons c t=>
   have:=regX_word h c (by rw[e];simp);refine⟨c,t,rfl,?_,?_⟩
   ·rintro rfl;exact absurd this (by decide)
   ·rintro rfl;exact absurd this (by decide)
end Go.Proofs.YtkbbgjloifmmbaaGreatDoor

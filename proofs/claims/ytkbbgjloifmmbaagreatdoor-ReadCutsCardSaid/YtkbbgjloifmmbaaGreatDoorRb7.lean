/- What ReadBackP leans on, part 7. -/
import Derived.Test.YtkbbgjloifmmbaaGreatDoorRb6
import Derived.Lib.Bytealg
set_option linter.unusedVariables false
namespace Go.Proofs.YtkbbgjloifmmbaaGreatDoor
open _root_.Go.Proofs.Tryz
open _root_.Bool renaming eq_false_iff->aol,not_eq_true'->aqe,and_eq_true->am6,eq_iff_iff->anW
open _root_.UInt8 renaming lt_iff_toNat_lt->aqD
open _root_.List renaming take_succ_eq_append_getElem->ao5,pairwise_cons->aqd,getElem?_eq_some_iff->ano,mem_append->anu,length_append->aoE,cons_append->anr,all_eq_true->anq
open _root_.Go.Lib renaming compareBytes->apQ
open _root_.ByteArray renaming empty->aqy
def bB:Tx->Tx->Bool
 |[],[]=>false
 |[],_::_=>true
 |_::_,[]=>false
 |a::s,b::t=>if a<b then true else if b<a then false else bB s t
theorem LF(a:UInt8): ¬a<a:=by rw[aqD];omega
theorem ak7{a b c:UInt8}(h:a<b)(h':b<c):a<c:=by rw[aqD]at *; omega
theorem ak6{a b:UInt8}(h:a<b): ¬b<a:=by rw[aqD]at *; omega
theorem BU{a b:UInt8}(h: ¬a<b)(h': ¬b<a):a=b:=by rw[aqD]at *; exact UInt8.toNat_inj.1 (by omega)
theorem J0: ∀a,bB a a=false
 |[]=>rfl
 |a::s=>by unfold bB;rw[if_neg (LF a),if_neg (LF a)];exact J0 s
theorem JZ: ∀{a b:Tx},bB a b=true->bB b a=false
 |[],[],h=>by cases h
 |[],_::_,_=>rfl
 |_::_,[],h=>by cases h
 | a::s,b::t,h=>by
   unfold bB at h⊢
   by_cases h1:a<b
   ·rw[if_neg (ak6 h1),if_pos h1]
   ·rw[if_neg h1]at h
    by_cases h2:b<a
    ·rw[if_pos h2]at h;cases h
    ·rw[if_neg h2]at h ⊢; rw[if_neg h1];exact JZ h
theorem Bk: ∀{a b:Tx},bB a b=false->bB b a=false->a=b
 |[],[],_,_=>rfl
 |[],_::_,h,_=>by cases h
 |_::_,[],_,h=>by cases h
 | a::s,b::t,h,h'=>by
   unfold bB at h h'
   by_cases h1:a<b
   ·rw[if_pos h1]at h;cases h
   rw[if_neg h1]at h h'
   by_cases h2:b<a
   ·rw[if_pos h2]at h';cases h'
   rw[if_neg h2]at h h';rw[BU h1 h2,Bk h h']
theorem Bj: ∀{a b c:Tx},bB a b=true->bB b c=true->bB a c=true
 |[],[],_,h,_=>by cases h
 |[],_::_,[],_,h=>by cases h
 |[],_::_,_::_,_,_=>rfl
 |_::_,[],_,h,_=>by cases h
 |_::_,_::_,[],_,h=>by cases h
 | a::s,b::t,c::cs,h,h'=>by
   unfold bB at h h'⊢
   by_cases h1:a<b
   ·by_cases h2:b<c
    ·rw[if_pos (ak7 h1 h2)]
    ·rw[if_neg h2]at h'
     by_cases h3:c<b
     ·rw[if_pos h3]at h';cases h'
     ·have:=BU h2 h3;subst this;rw[if_pos h1]
   ·rw[if_neg h1]at h
    by_cases h2:b<a
    ·rw[if_pos h2]at h;cases h
    ·rw[if_neg h2]at h
     have:=BU h1 h2;subst this
     by_cases h3:a<c
     ·rw[if_pos h3]
     ·rw[if_neg h3]at h'⊢
      by_cases h4:c<a
      ·rw[if_pos h4]at h';cases h'
      ·rw[if_neg h4]at h' ⊢; exact Bj h h'
theorem Om: ∀(a b:Tx),decide (apQ a b<0)=bB a b
 |[],[]=>rfl
 |[],_::_=>rfl
 |_::_,[]=>rfl
 | a::s,b::t=>by
   unfold apQ bB
   by_cases h1:a<b
   ·rw[if_pos h1,if_pos h1];rfl
   ·rw[if_neg h1,if_neg h1]
    by_cases h2:b<a
    ·rw[if_pos h2,if_pos h2];rfl
    ·rw[if_neg h2,if_neg h2];exact Om s t
def mV(a b:Th):Int:=
 if a.thread= -1/\b.thread= -1 then apQ a.loc b.loc
 else if a.thread= -1 then 1 else if b.thread= -1 then -1
 else if a.thread≠b.thread then a.thread-b.thread else a.au-b.au
def cK(a b:Th):Bool:=
 if(a.thread= -1)≠(b.thread= -1)then decide (b.thread= -1)
 else if a.thread≠b.thread then decide (a.thread<b.thread)
 else if a.au≠b.au then decide (a.au<b.au)
 else bB a.loc b.loc
abbrev fh:={ t:Th // bE 2 t=true }
instance:Inhabited fh:=⟨⟨⟨0,0,[]⟩,by decide⟩⟩
theorem mc(t:fh):(t.1.thread= -1/\t.1.au=0)\/(0<=t.1.thread/\t.1.thread<16/\0<=t.1.au/\t.1.au<32/\t.1.loc=[]):=by
 obtain⟨t,h⟩:=t;rcases yX h with⟨h1,h2,h3⟩|⟨i,k,rfl,hi,hk⟩
 ·exact .inl ⟨h1,h2⟩
 ·exact .inr ⟨by simp only;omega,by simp only;omega,by simp only;omega,by simp only;unfold cE at hk;rw[if_neg (by omega)]at hk;omega,rfl⟩
theorem Zn(a b:fh):decide (mV a.1 b.1<0)=cK a.1 b.1:=by
 unfold mV cK;rcases mc a with⟨a1,a2⟩|⟨a1,a2,a3,a4,a5⟩
 ·rcases mc b with⟨b1,b2⟩|⟨b1,b2,b3,b4,b5⟩
  ·rw[if_pos ⟨a1,b1⟩,if_neg (by simp[a1,b1]),if_neg (by simp[a1,b1]),if_neg (by simp[a2,b2]),Om]
  ·rw[if_neg (by omega),if_pos a1,if_pos (by simp[a1];omega)];simp;omega
 ·rcases mc b with⟨b1,b2⟩|⟨b1,b2,b3,b4,b5⟩
  ·rw[if_neg (by omega),if_neg (by omega),if_pos b1,if_pos (by simp[b1];omega)];simp;omega
  ·have n1: ¬((a.1.thread= -1)≠(b.1.thread= -1)):=by simp;omega
   rw[if_neg (by omega),if_neg (by omega),if_neg (by omega),if_neg (c:=(a.1.thread= -1)≠(b.1.thread= -1)) n1]
   by_cases h:a.1.thread=b.1.thread
   ·rw[if_neg (by simpa using h),if_neg (by simpa using h)]
    by_cases h2:a.1.au=b.1.au
    ·rw[if_neg (by simpa using h2),a5,b5,h2];simp[bB]
    ·rw[if_pos h2];rw[anW];simp;omega
   ·rw[if_pos h,if_pos h];rw[anW];simp;omega
def jw(a b:fh):Prop:=cK a.1 b.1=true
theorem JY(a:fh): ¬jw a a:=by
 unfold jw cK;simp[J0]
theorem Sz{a b:fh}(h:jw a b):(a.1.thread≠ -1/\b.1.thread= -1)\/(a.1.thread= -1/\b.1.thread= -1/\bB a.1.loc b.1.loc=true)\/(a.1.thread≠ -1/\b.1.thread≠ -1/\(a.1.thread<b.1.thread\/a.1.thread=b.1.thread/\a.1.au<b.1.au)):=by
 unfold jw cK at h;rcases mc a with⟨a1,a2⟩|⟨a1,a2,a3,a4,a5⟩
 ·rcases mc b with⟨b1,b2⟩|⟨b1,b2,b3,b4,b5⟩
  ·rw[if_neg (by simp[a1,b1]),if_neg (by simp[a1,b1]),if_neg (by simp[a2,b2])]at h
   exact .inr (.inl ⟨a1,b1,h⟩)
  ·rw[if_pos (by simp[a1];omega)]at h;simp at h;omega
 ·rcases mc b with⟨b1,b2⟩|⟨b1,b2,b3,b4,b5⟩
  ·exact .inl ⟨by omega,b1⟩
  ·rw[if_neg (by simp;omega)]at h
   refine .inr (.inr ⟨by omega,by omega,?_⟩)
   by_cases h1:a.1.thread=b.1.thread
   ·rw[if_neg (by simpa using h1)]at h
    by_cases h2:a.1.au=b.1.au
    ·rw[if_neg (by simpa using h2),a5,b5]at h;simp[bB]at h
    ·rw[if_pos h2]at h;exact .inr ⟨h1,by simpa using h⟩
   ·rw[if_pos h1]at h;exact .inl (by simpa using h)
theorem vX{a b:fh}(h:(a.1.thread≠ -1/\b.1.thread= -1)\/(a.1.thread= -1/\b.1.thread= -1/\bB a.1.loc b.1.loc=true)\/(a.1.thread≠ -1/\b.1.thread≠ -1/\(a.1.thread<b.1.thread\/a.1.thread=b.1.thread/\a.1.au<b.1.au))):jw a b:=by
 unfold jw cK;rcases h with⟨h1,h2⟩|⟨h1,h2,h3⟩|⟨h1,h2,h3⟩
 ·rw[if_pos (by simp[h1,h2])];simpa using h2
 ·have ha:=mc a;have hb:=mc b
  rw[if_neg (by simp[h1,h2]),if_neg (by simp[h1,h2]),if_neg (by omega)];exact h3
 ·rw[if_neg (by simp[h1,h2])]
  rcases h3 with h3|⟨h3,h4⟩
  ·rw[if_pos (by omega)];simpa using h3
  ·rw[if_neg (by omega),if_pos (by omega)];simpa using h4
theorem yz(a b c:fh)(h:jw a b)(h':jw b c):jw a c:=by
 apply vX;rcases Sz h with⟨h1,h2⟩|⟨h1,h2,h3⟩|⟨h1,h2,h3⟩<;>rcases Sz h' with⟨k1,k2⟩|⟨k1,k2,k3⟩|⟨k1,k2,k3⟩
 all_goals first|exact absurd h2 k1|exact absurd k1 h2|(exact .inl ⟨h1,k2⟩)|(exact .inr (.inl ⟨h1,k2,Bj h3 k3⟩))|(exact .inr (.inr ⟨h1,k2,by omega⟩))
theorem Sy(a b:fh)(h:jw a b)(h':jw b a):False:=JY a (yz a b a h h')
theorem Bi(a b:fh)(h: ¬jw a b)(h': ¬jw b a):a=b:=by
 apply Subtype.ext;apply(Lg _ _).2;rcases mc a with⟨a1,a2⟩|⟨a1,a2,a3,a4,a5⟩
 ·rcases mc b with⟨b1,b2⟩|⟨b1,b2,b3,b4,b5⟩
  ·refine⟨by omega,by omega,Bk ?_ ?_⟩
   ·rw[aol];exact fun e=>h (vX (.inr (.inl ⟨a1,b1,e⟩)))
   ·rw[aol];exact fun e=>h' (vX (.inr (.inl ⟨b1,a1,e⟩)))
  ·exact absurd (vX (.inl ⟨by omega,a1⟩)) h'
 ·rcases mc b with⟨b1,b2⟩|⟨b1,b2,b3,b4,b5⟩
  ·exact absurd (vX (.inl ⟨by omega,b1⟩)) h
  ·have h1: ¬(a.1.thread<b.1.thread\/a.1.thread=b.1.thread/\a.1.au<b.1.au):=fun e=>h (vX (.inr (.inr ⟨by omega,by omega,e⟩)))
   have h2: ¬(b.1.thread<a.1.thread\/b.1.thread=a.1.thread/\b.1.au<a.1.au):=fun e=>h' (vX (.inr (.inr ⟨by omega,by omega,e⟩)))
   exact⟨by omega,by omega,by rw[a5,b5]⟩
mutual
def j8:Nd->List Th
 | .mk k t v a c l=>(if k=2 then[t]else[])++fU l
def fU:List Nd->List Th
 |[]=>[]
 |x::r=>j8 x++fU r
end
theorem Dk(x:Nd):j8 x=(if x.kind=2 then[x.th]else[])++fU x.kids:=by cases x;rw[j8];rfl
theorem pW:fU []=[]:=by rw[fU]
theorem tg{x:Nd}{r:List Nd}:fU (x::r)=j8 x++fU r:=by rw[fU]
theorem M7: ∀(l r:List Nd),fU (l++r)=fU l++fU r
 |[],r=>by rw[pW];rfl
 |x::l,r=>by rw[anr,tg,tg,M7 l r,List.append_assoc]
theorem M8{l:List Nd}{k:Nat}{x:Nd}(hk:l[k]? =some x):fU (l.take (k+1))=fU (l.take k)++j8 x:=by
 obtain⟨hlt,rfl⟩:=ano.1 hk;rw[ao5 hlt,M7,tg,pW,List.append_nil]
def gV(t:Th):List Th->List Th
 |[]=>[t]
 |y::r=>if cK t y then t::y::r else y::gV t r
def nt(t:Th)(l:List Th):List Th:=if t∈l then l else gV t l
mutual
def kg:Nd->List Th->List Th
 | .mk k t v a c l,acc=>if k=2 then nt t acc else eI l acc
def eI:List Nd->List Th->List Th
 |[],acc=>acc
 |x::r,acc=>eI r (kg x acc)
end
theorem Il(x:Nd)(acc:List Th):kg x acc=if x.kind=2 then nt x.th acc else eI x.kids acc:=by cases x;rw[kg];rfl
theorem vp{acc:List Th}:eI [] acc=acc:=by rw[eI]
theorem DM{x:Nd}{r:List Nd}{acc:List Th}:eI (x::r) acc=eI r (kg x acc):=by rw[eI]
theorem PJ: ∀(l r:List Nd) (acc:List Th),eI (l++r) acc=eI r (eI l acc)
 |[],r,acc=>by rw[vp];rfl
 |x::l,r,acc=>by rw[anr,DM,DM,PJ l r]
theorem abG{l:List Nd}{k:Nat}{x:Nd}(hk:l[k]? =some x)(acc:List Th):eI (l.take (k+1)) acc=kg x (eI (l.take k) acc):=by
 obtain⟨hlt,rfl⟩:=ano.1 hk;rw[ao5 hlt,PJ,DM,vp]
def l8(x:Nd):List Th:=kg x []
theorem bK.Lh{af:Int}{x:Nd}(h:bK af x)(hk:x.kind=2):bE af x.th=true/\x.kids=[]:=by
 rcases qp h.may with⟨h1,h2⟩|⟨h1,h2,h3,h4⟩|⟨h1,h2⟩|⟨h1,h2⟩|⟨h1,h2⟩
 ·omega
 ·exact⟨h2,List.eq_nil_of_length_eq_zero h4⟩
 ·omega
 ·omega
 ·omega
theorem akq{af:Int}{t:Th}(h:bE af t=true):bE 2 t=true:=by
 unfold bE at*
 by_cases h1:t.thread= -1
 ·rw[if_pos h1]at h ⊢; exact h
 ·rw[if_neg h1]at h⊢
  have:=ai2 af;simp only[am6,decide_eq_true_eq]at h⊢;refine⟨⟨h.1.1,?_⟩,h.2⟩;unfold cE;rw[if_neg (by omega)];omega
theorem aeE{af k v:Int}{t:Th}{n:Nat}(h:dN af k t v n=true):dN 2 k t v n=true:=by
 unfold dN at*
 by_cases h2:k=2
 ·rw[if_pos h2]at h⊢
  simp only[am6]at h⊢;exact⟨⟨akq h.1.1,h.1.2⟩,h.2⟩
 ·rw[if_neg h2]at h ⊢; exact h
theorem bK.up{af:Int}: ∀{x:Nd},bK af x->bK 2 x:=by
 intro x
 induction x using Nd.ind with
 |h x ih=>intro h;exact⟨x,aeE h.may,fun y hy=>ih y hy (h.dm y hy)⟩
theorem GD: ∀{x:Nd},bK 2 x-> ∀t∈j8 x,bE 2 t=true:=by
 intro x
 induction x using Nd.ind with
 | h x ih=>
   intro h t ht;rw[Dk]at ht
   have key: ∀(l:List Nd),(∀y∈l,y∈x.kids)-> ∀t∈fU l,bE 2 t=true:=by
    intro l
    induction l with
    |nil=>intro _ t ht;rw[pW]at ht;simp at ht
    | cons y r ihl=>
      intro hin t ht;rw[tg]at ht;rcases anu.1 ht with h1|h1
      ·exact ih y (hin y (by simp)) (h.dm y (hin y (by simp))) t h1
      ·exact ihl (fun k hk=>hin k (by simp[hk])) t h1
   rcases anu.1 ht with h1|h1
   ·by_cases hk:x.kind=2
    ·rw[if_pos hk]at h1;simp at h1;subst h1;exact(h.Lh hk).1
    ·rw[if_neg hk]at h1;simp at h1
   ·exact key _ (fun y hy=>hy) t h1
theorem GC: ∀(x:Nd),(j8 x).length<=fq x:=by
 intro x
 induction x using Nd.ind with
 | h x ih=>
   rw[Dk,rJ,aoE]
   have key: ∀(l:List Nd),(∀y∈l,y∈x.kids)->(fU l).length<=dh l:=by
    intro l
    induction l with
    |nil=>intro _;rw[pW];simp
    | cons y r ihl=>
      intro hin;rw[tg,j9,aoE];have:=ih y (hin y (by simp));have:=ihl (fun k hk=>hin k (by simp[hk]));omega
   have:=key _ (fun y hy=>hy)
   split<;>simp<;>omega
def ur(l:List Th)(h: ∀t∈l,bE 2 t=true):List fh:=l.pmap (fun t ht=>⟨t,ht⟩) h
theorem BM(l:List Th)(h: ∀t∈l,bE 2 t=true):(ur l h).map (·.1)=l:=by
 unfold ur;rw[List.map_pmap];simp
theorem Wb{l:List Th}{h: ∀t∈l,bE 2 t=true}{v:fh}:v∈ur l h<->v.1∈l:=by
 constructor
 ·intro hv
  rw[<-BM l h];exact List.mem_map_of_mem hv
 ·intro hv
  rw[<-BM l h]at hv;obtain⟨u,hu,e⟩:=List.mem_map.1 hv;rw[<-Subtype.ext e];exact hu
def mj(l:List Th):Prop:=l.Pairwise fun a b=>cK a b=true
theorem Ju{t:Th}{z:Th}: ∀{l:List Th},z∈gV t l<->z=t\/z∈l
 |[]=>by simp[gV]
 | y::r=>by
   unfold gV;split
   ·simp
   ·simp only[List.mem_cons,Ju (l:=r)]
    constructor
    ·rintro(h|h|h)
     ·exact .inr (.inl h)
     ·exact .inl h
     ·exact .inr (.inr h)
    ·rintro(h|h|h)
     ·exact .inr (.inl h)
     ·exact .inl h
     ·exact .inr (.inr h)
theorem UC{t:Th}{z:Th}{l:List Th}:z∈nt t l<->z=t\/z∈l:=by
 unfold nt;split
 ·rename_i h
  constructor
  ·exact .inr
  ·rintro(rfl|h')
   ·exact h
   ·exact h'
 ·exact Ju
theorem Rm{t:Th}(ht:bE 2 t=true): ∀{l:List Th},(∀z∈l,bE 2 z=true)->t∉l->mj l->mj (gV t l)
 |[],_,_,_=>by unfold gV mj;simp
 | y::r,hv,hn,h=>by
   obtain⟨a1,b1⟩:=aqd.1 h;have hy:=hv y (by simp);unfold gV
   by_cases hb:cK t y=true
   ·rw[if_pos hb]
    unfold mj;rw[aqd];refine⟨fun z hz=>?_,h⟩;rcases List.mem_cons.1 hz with rfl|hz
    ·exact hb
    ·exact yz ⟨t,ht⟩ ⟨y,hy⟩ ⟨z,hv z (by simp[hz])⟩ hb (a1 z hz)
   ·rw[if_neg hb]
    unfold mj;rw[aqd];refine⟨fun z hz=>?_,Rm ht (fun z hz=>hv z (by simp[hz])) (fun h=>hn (by simp[h])) b1⟩;rcases Ju.1 hz with rfl|hz
    ·by_cases h2:cK y z=true
     ·exact h2
     ·have:=Bi ⟨z,ht⟩ ⟨y,hy⟩ hb h2
      simp only[Subtype.mk.injEq]at this;exact absurd (by rw[this];simp) hn
    ·exact a1 z hz
theorem agT{t:Th}(ht:bE 2 t=true){l:List Th}(hv: ∀z∈l,bE 2 z=true)(h:mj l):mj (nt t l):=by
 unfold nt;split
 ·exact h
 ·rename_i hn;exact Rm ht hv hn h
theorem agS{t:Th}{l:List Th}:(nt t l).length<=l.length+1:=by
 have: ∀l:List Th,(gV t l).length=l.length+1:=by
  intro l
  induction l with
  |nil=>rfl
  |cons y r ih=>unfold gV;split<;>simp[ih]
 unfold nt;split
 ·omega
 ·rw[this];omega
theorem PO: ∀{x:Nd},bK 2 x-> ∀{acc:List Th},(∀z∈acc,bE 2 z=true)->mj acc->(∀z∈kg x acc,bE 2 z=true)/\mj (kg x acc)/\(∀z,z∈kg x acc<->z∈j8 x\/z∈acc)/\(kg x acc).length<=acc.length+fq x:=by
 intro x
 induction x using Nd.ind with
 | h x ih=>
   intro h acc hv hr;rw[Il,Dk,rJ]
   by_cases hk:x.kind=2
   ·obtain⟨h1,h2⟩:=h.Lh hk
    rw[if_pos hk,if_pos hk,h2,pW,rI];refine⟨fun z hz=>?_,agT h1 hv hr,fun z=>by rw[UC];simp,agS⟩;rcases UC.1 hz with rfl|hz
    ·exact h1
    ·exact hv z hz
   ·rw[if_neg hk,if_neg hk]
    have key: ∀(l:List Nd),(∀y∈l,y∈x.kids)-> ∀{acc:List Th},(∀z∈acc,bE 2 z=true)->mj acc->(∀z∈eI l acc,bE 2 z=true)/\mj (eI l acc)/\(∀z,z∈eI l acc<->z∈fU l\/z∈acc)/\(eI l acc).length<=acc.length+dh l:=by
     intro l
     induction l with
     |nil=>intro _ acc hv hr;rw[vp,pW,rI];exact⟨hv,hr,fun z=>by simp,by omega⟩
     | cons y r ihl=>
       intro hin acc hv hr;rw[DM,tg,j9];obtain⟨a1,a2,a3,a4⟩:=ih y (hin y (by simp)) (h.dm y (hin y (by simp))) hv hr;obtain⟨b1,b2,b3,b4⟩:=ihl (fun k hk=>hin k (by simp[hk])) a1 a2;refine⟨b1,b2,fun z=>?_,by omega⟩;rw[b3,a3,anu]
       constructor
       ·rintro(h|h|h)
        ·exact .inl (.inr h)
        ·exact .inl (.inl h)
        ·exact .inr h
       ·rintro((h|h)|h)
        ·exact .inr (.inl h)
        ·exact .inl h
        ·exact .inr (.inr h)
    obtain⟨k1,k2,k3,k4⟩:=key x.kids (fun y hy=>hy) hv hr;exact⟨k1,k2,fun z=>by rw[k3];simp,by omega⟩
theorem Lj{x:Nd}(h:bK 2 x):(∀z∈l8 x,bE 2 z=true)/\mj (l8 x)/\(∀z,z∈l8 x<->z∈j8 x)/\(l8 x).length<=fq x:=by
 obtain⟨h1,h2,h3,h4⟩:=PO h (acc:=[]) (by simp) List.Pairwise.nil;unfold l8;exact⟨h1,h2,fun z=>by have:=h3 z;simpa using this,by simpa using h4⟩
theorem ajS{x:Nd}(h:bK 2 x)(le:fh->fh->Bool)(hle: ∀a b,le a b= !cK b.1 a.1):
 (cF ((ur (j8 x) (GD h)).mergeSort le)).map (·.1)=l8 x:=by
 obtain⟨h1,h2,h3, -⟩:=Lj h
 have hs:=List.pairwise_mergeSort (le:=le) (fun a b c hab hbc=>by
  rw[hle]at*;simp only[aqe,aol]at*;intro hca
  by_cases hcb:jw c b
  ·exact hbc hcb
  ·by_cases AG:jw b c
   ·exact hab (yz b c a AG hca)
   ·have:=Bi b c AG hcb;subst this;exact hab hca)
  (fun a b=>by
   rw[hle,hle]
   by_cases h1:cK b.1 a.1=true
   ·have:cK a.1 b.1=false:=by rw[aol];exact fun h2=>Sy a b h2 h1
    rw[h1,this];rfl
   ·rw[aol.2 h1];rfl)
  (ur (j8 x) (GD h))
 have hr:=He (lt:=jw) yz (hs.imp (fun {a b} hab=>by
  rw[hle]at hab;simp only[aqe,aol]at hab
  by_cases h1:jw a b
  ·exact .inr h1
  ·exact .inl (Bi a b h1 hab)))
 have hg:(ur (l8 x) h1).Pairwise jw:=by
  have:((ur (l8 x) h1).map (·.1)).Pairwise fun a b=>cK a b=true:=by rw[BM];exact h2
  exact(List.pairwise_map (f:=fun v:fh=>v.1) (R:=fun a b=>cK a b=true)).1 this
 have e:=KM JY Sy hr hg (fun v=>by
  rw[G9,List.mem_mergeSort,Wb,Wb,h3])
 rw[e,BM]
def jF(q:Int)(x:Nd):List Th:=if bF 2 q x=0 then l8 x else[]
structure aF where
 thread:Int
 au:Int
 loc:Tx
 aE:Tx
 n:Int
deriving DecidableEq
structure Cd where
 a:Option Addr
 c:Nat
 l:List Ins
structure ak where
 af:Int
 name:Tx
 aC:Tx
 ia:Option Addr
 ic:Nat
 init:List aF
 ca:Option Addr
 cc:Nat
 code:List Cd
 q:Int
 node:Nd
def iW(lo:Nat)(b:UInt8):Bool:=decide (lo<=b.toNat)&&(decide (b.toNat<=126)&&decide (b.toNat≠34))
def mK(lo:Nat)(s:Tx):Bool:=s.all (iW lo)
def eW(s:Tx):Bool:=decide (1<=s.length)&&(decide (s.length<=1024)&&mK 33 s)
def oU(s:Tx):Bool:=s.isEmpty||(s.head? != some 32&&s.getLast? != some 32)
def eY(s:Tx):Bool:=decide (s.length<=262144)&&(mK 32 s&&oU s)
theorem KV{lo:Nat}{l:Tx}{k:Nat}{c:UInt8}(h:l[k]? =some c)(hn:iW lo c=false):mK lo l=false:=by
 unfold mK;rw[aol];intro h2;rw[anq]at h2;rw[h2 c (List.mem_of_getElem? h)]at hn;cases hn
theorem KU{lo:Nat}{l:Tx}(h: ∀(i:Nat) (x:UInt8),l[i]? =some x->iW lo x=true):mK lo l=true:=by
 unfold mK;rw[anq];intro x hx;obtain⟨i,hi⟩:=List.mem_iff_getElem?.1 hx;exact h i x hi
def dL(af:Int)(i:Ins):Tx × Int:=
 if af=1 then(if dy i then(dJ i,0)else([],91))else if af=2 then(if aU i then(bV i,0)else([],91))else([],5)
def gF(af:Int)(i:Ins):Bool:=if af=1 then dy i else aU i
def lW(af:Int)(l:List Ins):Int:=if l.all (gF af)then(if af=2 then(gG l).2.1 else 0)else 91
def gY(af:Int):List Cd->Int
 |[]=>0
 |x::r=>if lW af x.l=0 then gY af r else lW af x.l
def cg(t:ak):Int:=
 if t.code.length<1\/16<t.code.length then 2 else if t.code.any fun x=>decide (256<x.l.length)then 2 else gY t.af t.code
def eT(af:Int)(n:Nat)(x:aF):Bool:=
 if x.thread= -1 then az x.loc&&(decide (x.au=0)&&(decide (x.aE=[])&&aY x.n))
 else if x.thread<0\/(n:Int)<=x.thread\/x.loc≠[]then false
 else if(if af=2 then x.au<1\/31<x.au else x.au<0\/14<x.au)then false
 else if x.aE≠[]then az x.aE&&decide (x.n=0)else aY x.n
def eZ(x:aF):Th:=⟨x.thread,x.au,x.loc⟩
def dW(t:ak):Int:=
 if 1024<t.init.length then 2 else if t.init.all (eT t.af t.code.length)&&decide ((t.init.map eZ).Nodup)then 0 else 130
def jM(t:ak):List Th:=jF t.q t.node
def iS(s:Tx):List Tx->List Tx
 |[]=>[s]
 |y::r=>if bB s y then s::y::r else y::iS s r
def fF(l:List Tx)(s:Tx):List Tx:=if s=[]then l else if s∈l then l else iS s l
def ud(t:ak):List Tx:=(t.init.flatMap fun x=>[x.loc,x.aE])++((t.code.flatMap fun x=>x.l.map (·.loc))++(jM t).map (·.loc))
def gH(t:ak):List Tx:=(ud t).foldl fF []
def bI(t:ak):Int:=
 if aH t.af=false then 5
 else if eW t.name=false\/eY t.aC=false then 130
 else if cg t≠0 then cg t
 else if dW t≠0 then dW t
 else if bF t.af t.q t.node≠0 then bF t.af t.q t.node
 else if(jM t).any fun x=>decide ((t.code.length:Int)<=x.thread)then 80
 else if 64<(gH t).length then 2 else 0
def cm(af:Int)(k:Nat)(l:List Ins):List Tx:=([80]++cR k)::l.map fun i=>(dL af i).1
def eX(l:List Tx):Nat:=l.foldl (fun n s=>max n s.length) 0
def rK(t:ak):List (List Tx):=t.code.mapIdx fun k x=>cm t.af k x.l
def me(t:ak):List Nat:=(rK t).map eX
def pg(t:ak):Nat:=t.code.foldl (fun n x=>max n x.l.length) 0
def lP(n:Nat)(s:Tx):Tx:=s++List.replicate (n-s.length) 32
def lN(i:Nat)(t:ak):Tx:=[32]++([32,124,32].intercalate ((rK t).map fun c=>lP (eX c) (c.getD i [])))++[32,59]
def ig(t:ak):List Tx:=(List.range (pg t+1)).map fun i=>lN i t
def kS(af:Int)(n:Int):Tx:=if af=2 then rT n else rX n
def dI(af:Int)(x:aF):Tx:=
 (if x.thread= -1 then x.loc else Lib.itoa x.thread++[58]++kS af x.au)++[61]++(if x.aE=[]then Lib.itoa x.n else x.aE)++[59,10]
def rW(t:ak):Tx:=(if t.af=2 then[82,73,83,67,86,32]else[88,56,54,32])++t.name++[10]
def jc(t:ak):Tx:=if t.aC=[]then[]else[34]++t.aC++[34,10]
def mX(t:ak):Tx:=rW t++jc t++[123,10]++(t.init.flatMap (dI t.af))++[125,10]++((ig t).flatMap fun l=>l++[10])++eF t.af t.q t.node++[10]
def iF(t:ak):Tx × Int:=if bI t≠0 then([],bI t)else if 262144<(mX t).length then([],3)else(mX t,0)
end Go.Proofs.YtkbbgjloifmmbaaGreatDoor
namespace Go.Proofs.YtkbbgjloifmmbaaGreatDoor
open _root_.Go.Proofs.Tryz
open _root_.Bool renaming eq_false_iff->aol,not_eq_true'->aqe,and_eq_true->am6,eq_iff_iff->anW
open _root_.UInt8 renaming lt_iff_toNat_lt->aqD
open _root_.List renaming take_succ_eq_append_getElem->ao5,pairwise_cons->aqd,getElem?_eq_some_iff->ano,mem_append->anu,length_append->aoE,cons_append->anr,all_eq_true->anq
open _root_.Go.Lib renaming compareBytes->apQ
open _root_.ByteArray renaming empty->aqy
open Go.RowKit
@[reducible] def fV(x:aF):List Value:=[.int .i64 x.thread,.int .i64 x.au,.string (tx x.loc),.string (tx x.aE),.int .i64 x.n]
@[reducible] def k8(x:aF):Value:=.agg #[.int .i64 x.thread,.int .i64 x.au,.string (tx x.loc),.string (tx x.aE),.int .i64 x.n]
abbrev eK(x:aF):Obj:=.cells #[.int .i64 x.thread,.int .i64 x.au,.string (tx x.loc),.string (tx x.aE),.int .i64 x.n] 56
theorem lB(x:aF):(fV x).length=5:=rfl
theorem Zb(x:aF): ∀u∈fV x,u.oneCell'=true:=by
 intro u hu;simp at hu;rcases hu with rfl|rfl|rfl|rfl|rfl<;>rfl
theorem qj:gQ prog 22 56 (.agg #[.int .i64 0,.int .i64 0,.string aqy,.string aqy,.int .i64 0]) 5 56:=⟨underlying22,by kernel_rfl,rfl,by decide⟩
theorem bf.qi{w:World}{a:Option Addr}{l:List aF}(h:bf fV w a l){k:Nat}{x:aF}(hk:l[k]? =some x):
 w.cell? ⟨bk a,fo a+k*5,none⟩=some (.int .i64 x.thread)/\w.cell? ⟨bk a,fo a+k*5+1,none⟩=some (.int .i64 x.au)/\w.cell? ⟨bk a,fo a+k*5+2,none⟩=some (.string (tx x.loc))/\w.cell? ⟨bk a,fo a+k*5+3,none⟩=some (.string (tx x.aE))/\w.cell? ⟨bk a,fo a+k*5+4,none⟩=some (.int .i64 x.n):=
 ⟨h.cell0 lB hk (by omega),h.cell lB hk 1 (by omega),h.cell lB hk 2 (by omega),h.cell lB hk 3 (by omega),h.cell lB hk 4 (by omega)⟩
@[reducible] def nJ(x:Cd):List Value:=[.slice x.a x.l.length x.c]
theorem GQ(x:Cd):(nJ x).length=1:=rfl
theorem Ae:gQ prog 23 75 (.slice none 0 0) 1 24:=⟨underlying23,by kernel_rfl,rfl,by decide⟩
theorem bf.cd{w:World}{a:Option Addr}{l:List Cd}(h:bf nJ w a l){k:Nat}{x:Cd}(hk:l[k]? =some x):
 w.cell? ⟨bk a,fo a+k,none⟩=some (.slice x.a x.l.length x.c):=by
 have:=h.cell0 GQ hk (by omega)
 rwa[Nat.mul_one]at this
theorem bf.mS{w:World}{a:Option Addr}{l:List Cd}(h:bf nJ w a l)(k:Nat)(hk:k<l.length)(c:Nat):
 ∀w',(Instr.indexAt 23 (.slice a l.length c) (.int .i64 k)).run prog w'= .ok (.pointer (some ⟨bk a,fo a+k,none⟩)) w':=by
 have:=h.idx Ae GQ k hk c
 rwa[Nat.mul_one]at this
@[reducible] def cT(t:ak):List Value:=[.int .i64 t.af,.string (tx t.name),.string (tx t.aC),.slice t.ia t.init.length t.ic,.slice t.ca t.code.length t.cc,.int .i64 t.q,.int .i64 t.node.kind,.int .i64 t.node.th.thread,.int .i64 t.node.th.au,.string (tx t.node.th.loc),.int .i64 t.node.val,.slice t.node.a t.node.kids.length t.node.c]
@[reducible] def vT(t:ak):Value:=.agg #[.int .i64 t.af,.string (tx t.name),.string (tx t.aC),.slice t.ia t.init.length t.ic,.slice t.ca t.code.length t.cc,.int .i64 t.q,.int .i64 t.node.kind,.int .i64 t.node.th.thread,.int .i64 t.node.th.au,.string (tx t.node.th.loc),.int .i64 t.node.val,.slice t.node.a t.node.kids.length t.node.c]
abbrev bC(t:ak):Obj:=.cells #[.int .i64 t.af,.string (tx t.name),.string (tx t.aC),.slice t.ia t.init.length t.ic,.slice t.ca t.code.length t.cc,.int .i64 t.q,.int .i64 t.node.kind,.int .i64 t.node.th.thread,.int .i64 t.node.th.au,.string (tx t.node.th.loc),.int .i64 t.node.val,.slice t.node.a t.node.kids.length t.node.c] 32
structure eG(w:World)(b:Nat)(t:ak):Prop where
 lt:b<w.heap.size
 cl: ∀k,k<12->w.cell? ⟨b,k,none⟩=(cT t)[k]?
theorem eG.new(w:World)(t:ak):eG (w.alloc (bC t)) w.heap.size t:=
 ⟨(aG.new w #[.int .i64 t.af,.string (tx t.name),.string (tx t.aC),.slice t.ia t.init.length t.ic,.slice t.ca t.code.length t.cc,.int .i64 t.q,.int .i64 t.node.kind,.int .i64 t.node.th.thread,.int .i64 t.node.th.au,.string (tx t.node.th.loc),.int .i64 t.node.val,.slice t.node.a t.node.kids.length t.node.c] 32).1,fun k hk=>(aG.new w _ _).2 k (by simpa using hk)⟩
theorem eG.below{w w':World}{b:Nat}{t:ak}(h:eG w b t)(hb:Below w.heap.size w w'):eG w' b t:=
 ⟨Nat.lt_of_lt_of_le h.lt hb.size,fun k hk=>by rw[hb.cell h.lt];exact h.cl k hk⟩
theorem eG.cells{w:World}{b:Nat}{t:ak}(h:eG w b t):w.cell? ⟨b,0,none⟩=some (.int .i64 t.af)/\w.cell? ⟨b,1,none⟩=some (.string (tx t.name))/\w.cell? ⟨b,2,none⟩=some (.string (tx t.aC))/\w.cell? ⟨b,3,none⟩=some (.slice t.ia t.init.length t.ic)/\w.cell? ⟨b,4,none⟩=some (.slice t.ca t.code.length t.cc)/\w.cell? ⟨b,5,none⟩=some (.int .i64 t.q)/\w.cell? ⟨b,6,none⟩=some (.int .i64 t.node.kind)/\w.cell? ⟨b,7,none⟩=some (.int .i64 t.node.th.thread)/\w.cell? ⟨b,8,none⟩=some (.int .i64 t.node.th.au)/\w.cell? ⟨b,9,none⟩=some (.string (tx t.node.th.loc))/\w.cell? ⟨b,10,none⟩=some (.int .i64 t.node.val)/\w.cell? ⟨b,11,none⟩=some (.slice t.node.a t.node.kids.length t.node.c):=
 ⟨h.cl 0 (by omega),h.cl 1 (by omega),h.cl 2 (by omega),h.cl 3 (by omega),h.cl 4 (by omega),h.cl 5 (by omega),h.cl 6 (by omega),h.cl 7 (by omega),h.cl 8 (by omega),h.cl 9 (by omega),h.cl 10 (by omega),h.cl 11 (by omega)⟩
structure qO(w:World)(x:Cd):Prop where
 is:Is w x.a x.l
 cap:x.l.length<=x.c
 nY: ∀i∈x.l,i.loc.length<=9223372036854775807/\i.label.length<=9223372036854775807
def fT(n:Int):Prop:= -9223372036854775808<=n/\n<=9223372036854775807
structure dw(w:World)(t:ak):Prop where
 name:t.name.length<=9223372036854775807
 aC:t.aC.length<=9223372036854775807
 init:bf fV w t.ia t.init
 Q5:t.init.length<=t.ic
 nY: ∀x∈t.init,x.loc.length<=9223372036854775807/\x.aE.length<=9223372036854775807
 wide: ∀x∈t.init,fT x.thread/\fT x.au
 code:bf nJ w t.ca t.code
 NG:t.code.length<=t.cc
 rows: ∀x∈t.code,qO w x
 node:cH w t.node
theorem qO.keep{w w':World}{x:Cd}(h:qO w x)(hb:Below w.heap.size w w'):qO w' x:=⟨h.is.below hb,h.cap,h.nY⟩
theorem dw.keep{w w':World}{t:ak}(h:dw w t)(hb:Below w.heap.size w w'):dw w' t:=
 ⟨h.name,h.aC,h.init.below hb,h.Q5,h.nY,h.wide,h.code.below hb,h.NG,fun x hx=>(h.rows x hx).keep hb,h.node.keep hb⟩
end Go.Proofs.YtkbbgjloifmmbaaGreatDoor
namespace Go.Proofs.YtkbbgjloifmmbaaGreatDoor
open _root_.Go.Proofs.Tryz
open _root_.Bool renaming eq_false_iff->aol,not_eq_true'->aqe,and_eq_true->am6,eq_iff_iff->anW
open _root_.UInt8 renaming lt_iff_toNat_lt->aqD
open _root_.List renaming take_succ_eq_append_getElem->ao5,pairwise_cons->aqd,getElem?_eq_some_iff->ano,mem_append->anu,length_append->aoE,cons_append->anr,all_eq_true->anq
open _root_.Go.Lib renaming compareBytes->apQ
open _root_.ByteArray renaming empty->aqy
structure Gx(t:ak):Prop where
 init:t.init.length*56<=140737488351232
 code:t.code.length*24<=140737488351232
 rows: ∀x∈t.code,x.l.length*80<=140737488351232
end Go.Proofs.YtkbbgjloifmmbaaGreatDoor

/- What ReadPiecesP leans on, part 7. -/
import Derived.Test.YtkbbgjloifmmbaaGreatDoorRp6
import Derived.Lib.Bytealg
set_option linter.unusedVariables false
set_option maxHeartbeats 1600000
namespace Go.Proofs.YtkbbgjloifmmbaaGreatDoor
def ltX:Tx->Tx->Bool
 |[],[]=>false
 |[],_::_=>true
 |_::_,[]=>false
 |a::s,b::t=>if a<b then true else if b<a then false else ltX s t
theorem u8_lt_irr(a:UInt8): ¬a<a:=by rw[UInt8.lt_iff_toNat_lt];omega
theorem u8_lt_tr{a b c:UInt8}(h:a<b)(h':b<c):a<c:=by rw[UInt8.lt_iff_toNat_lt]at *; omega
theorem u8_lt_as{a b:UInt8}(h:a<b): ¬b<a:=by rw[UInt8.lt_iff_toNat_lt]at *; omega
theorem u8_lt_tri{a b:UInt8}(h: ¬a<b)(h': ¬b<a):a=b:=by rw[UInt8.lt_iff_toNat_lt]at *; exact UInt8.toNat_inj.1 (by omega)
theorem ltX_irr: ∀a,ltX a a=false
 |[]=>rfl
 |a::s=>by unfold ltX;rw[if_neg (u8_lt_irr a),if_neg (u8_lt_irr a)];exact ltX_irr s
theorem ltX_asy: ∀{a b:Tx},ltX a b=true->ltX b a=false
 |[],[],h=>by cases h
 |[],_::_,_=>rfl
 |_::_,[],h=>by cases h
 | a::s,b::t,h=>by
   unfold ltX at h⊢
   by_cases h1:a<b
   ·rw[if_neg (u8_lt_as h1),if_pos h1]
   ·rw[if_neg h1]at h
    by_cases h2:b<a
    ·rw[if_pos h2]at h;cases h
    ·rw[if_neg h2]at h ⊢; rw[if_neg h1];exact ltX_asy h
theorem ltX_tri: ∀{a b:Tx},ltX a b=false->ltX b a=false->a=b
 |[],[],_,_=>rfl
 |[],_::_,h,_=>by cases h
 |_::_,[],_,h=>by cases h
 | a::s,b::t,h,h'=>by
   unfold ltX at h h'
   by_cases h1:a<b
   ·rw[if_pos h1]at h;cases h
   rw[if_neg h1]at h h'
   by_cases h2:b<a
   ·rw[if_pos h2]at h';cases h'
   rw[if_neg h2]at h h';rw[u8_lt_tri h1 h2,ltX_tri h h']
theorem ltX_tr: ∀{a b c:Tx},ltX a b=true->ltX b c=true->ltX a c=true
 |[],[],_,h,_=>by cases h
 |[],_::_,[],_,h=>by cases h
 |[],_::_,_::_,_,_=>rfl
 |_::_,[],_,h,_=>by cases h
 |_::_,_::_,[],_,h=>by cases h
 | a::s,b::t,c::cs,h,h'=>by
   unfold ltX at h h'⊢
   by_cases h1:a<b
   ·by_cases h2:b<c
    ·rw[if_pos (u8_lt_tr h1 h2)]
    ·rw[if_neg h2]at h'
     by_cases h3:c<b
     ·rw[if_pos h3]at h';cases h'
     ·have:=u8_lt_tri h2 h3;subst this;rw[if_pos h1]
   ·rw[if_neg h1]at h
    by_cases h2:b<a
    ·rw[if_pos h2]at h;cases h
    ·rw[if_neg h2]at h
     have:=u8_lt_tri h1 h2;subst this
     by_cases h3:a<c
     ·rw[if_pos h3]
     ·rw[if_neg h3]at h'⊢
      by_cases h4:c<a
      ·rw[if_pos h4]at h';cases h'
      ·rw[if_neg h4]at h' ⊢; exact ltX_tr h h'
theorem compare_neg: ∀(a b:Tx),decide (Lib.compareBytes a b<0)=ltX a b
 |[],[]=>rfl
 |[],_::_=>rfl
 |_::_,[]=>rfl
 | a::s,b::t=>by
   unfold Lib.compareBytes ltX
   by_cases h1:a<b
   ·rw[if_pos h1,if_pos h1];rfl
   ·rw[if_neg h1,if_neg h1]
    by_cases h2:b<a
    ·rw[if_pos h2,if_pos h2];rfl
    ·rw[if_neg h2,if_neg h2];exact compare_neg s t
def cfT(a b:Th):Int:=
 if a.thread= -1/\b.thread= -1 then Lib.compareBytes a.loc b.loc
 else if a.thread= -1 then 1 else if b.thread= -1 then -1
 else if a.thread≠b.thread then a.thread-b.thread else a.reg-b.reg
def befT(a b:Th):Bool:=
 if(a.thread= -1)≠(b.thread= -1)then decide (b.thread= -1)
 else if a.thread≠b.thread then decide (a.thread<b.thread)
 else if a.reg≠b.reg then decide (a.reg<b.reg)
 else ltX a.loc b.loc
abbrev VTh:={ t:Th // thingB 2 t=true }
instance:Inhabited VTh:=⟨⟨⟨0,0,[]⟩,by decide⟩⟩
theorem vth_cases(t:VTh):(t.1.thread= -1/\t.1.reg=0)\/(0<=t.1.thread/\t.1.thread<16/\0<=t.1.reg/\t.1.reg<32/\t.1.loc=[]):=by
 obtain⟨t,h⟩:=t;rcases thingB_cases h with⟨h1,h2,h3⟩|⟨i,k,rfl,hi,hk⟩
 ·exact .inl ⟨h1,h2⟩
 ·exact .inr ⟨by simp only;omega,by simp only;omega,by simp only;omega,by simp only;unfold regsN at hk;rw[if_neg (by omega)]at hk;omega,rfl⟩
theorem cf_bef(a b:VTh):decide (cfT a.1 b.1<0)=befT a.1 b.1:=by
 unfold cfT befT;rcases vth_cases a with⟨a1,a2⟩|⟨a1,a2,a3,a4,a5⟩
 ·rcases vth_cases b with⟨b1,b2⟩|⟨b1,b2,b3,b4,b5⟩
  ·rw[if_pos ⟨a1,b1⟩,if_neg (by simp[a1,b1]),if_neg (by simp[a1,b1]),if_neg (by simp[a2,b2]),compare_neg]
  ·rw[if_neg (by omega),if_pos a1,if_pos (by simp[a1];omega)];simp;omega
 ·rcases vth_cases b with⟨b1,b2⟩|⟨b1,b2,b3,b4,b5⟩
  ·rw[if_neg (by omega),if_neg (by omega),if_pos b1,if_pos (by simp[b1];omega)];simp;omega
  ·have n1: ¬((a.1.thread= -1)≠(b.1.thread= -1)):=by simp;omega
   rw[if_neg (by omega),if_neg (by omega),if_neg (by omega),if_neg (c:=(a.1.thread= -1)≠(b.1.thread= -1)) n1]
   by_cases h:a.1.thread=b.1.thread
   ·rw[if_neg (by simpa using h),if_neg (by simpa using h)]
    by_cases h2:a.1.reg=b.1.reg
    ·rw[if_neg (by simpa using h2),a5,b5,h2];simp[ltX]
    ·rw[if_pos h2];rw[Bool.eq_iff_iff];simp;omega
   ·rw[if_pos h,if_pos h];rw[Bool.eq_iff_iff];simp;omega
def ltV(a b:VTh):Prop:=befT a.1 b.1=true
theorem ltV_irr(a:VTh): ¬ltV a a:=by
 unfold ltV befT;simp[ltX_irr]
theorem ltV_cases{a b:VTh}(h:ltV a b):(a.1.thread≠ -1/\b.1.thread= -1)\/(a.1.thread= -1/\b.1.thread= -1/\ltX a.1.loc b.1.loc=true)\/(a.1.thread≠ -1/\b.1.thread≠ -1/\(a.1.thread<b.1.thread\/a.1.thread=b.1.thread/\a.1.reg<b.1.reg)):=by
 unfold ltV befT at h;rcases vth_cases a with⟨a1,a2⟩|⟨a1,a2,a3,a4,a5⟩
 ·rcases vth_cases b with⟨b1,b2⟩|⟨b1,b2,b3,b4,b5⟩
  ·rw[if_neg (by simp[a1,b1]),if_neg (by simp[a1,b1]),if_neg (by simp[a2,b2])]at h
   exact .inr (.inl ⟨a1,b1,h⟩)
  ·rw[if_pos (by simp[a1];omega)]at h;simp at h;omega
 ·rcases vth_cases b with⟨b1,b2⟩|⟨b1,b2,b3,b4,b5⟩
  ·exact .inl ⟨by omega,b1⟩
  ·rw[if_neg (by simp;omega)]at h
   refine .inr (.inr ⟨by omega,by omega,?_⟩)
   by_cases h1:a.1.thread=b.1.thread
   ·rw[if_neg (by simpa using h1)]at h
    by_cases h2:a.1.reg=b.1.reg
    ·rw[if_neg (by simpa using h2),a5,b5]at h;simp[ltX]at h
    ·rw[if_pos h2]at h;exact .inr ⟨h1,by simpa using h⟩
   ·rw[if_pos h1]at h;exact .inl (by simpa using h)
theorem ltV_mk{a b:VTh}(h:(a.1.thread≠ -1/\b.1.thread= -1)\/(a.1.thread= -1/\b.1.thread= -1/\ltX a.1.loc b.1.loc=true)\/(a.1.thread≠ -1/\b.1.thread≠ -1/\(a.1.thread<b.1.thread\/a.1.thread=b.1.thread/\a.1.reg<b.1.reg))):ltV a b:=by
 unfold ltV befT;rcases h with⟨h1,h2⟩|⟨h1,h2,h3⟩|⟨h1,h2,h3⟩
 ·rw[if_pos (by simp[h1,h2])];simpa using h2
 ·have ha:=vth_cases a;have hb:=vth_cases b
  rw[if_neg (by simp[h1,h2]),if_neg (by simp[h1,h2]),if_neg (by omega)];exact h3
 ·rw[if_neg (by simp[h1,h2])]
  rcases h3 with h3|⟨h3,h4⟩
  ·rw[if_pos (by omega)];simpa using h3
  ·rw[if_neg (by omega),if_pos (by omega)];simpa using h4
theorem ltV_tr(a b c:VTh)(h:ltV a b)(h':ltV b c):ltV a c:=by
 apply ltV_mk;rcases ltV_cases h with⟨h1,h2⟩|⟨h1,h2,h3⟩|⟨h1,h2,h3⟩<;>rcases ltV_cases h' with⟨k1,k2⟩|⟨k1,k2,k3⟩|⟨k1,k2,k3⟩
 all_goals first|exact absurd h2 k1|exact absurd k1 h2|(exact .inl ⟨h1,k2⟩)|(exact .inr (.inl ⟨h1,k2,ltX_tr h3 k3⟩))|(exact .inr (.inr ⟨h1,k2,by omega⟩))
theorem ltV_asy(a b:VTh)(h:ltV a b)(h':ltV b a):False:=ltV_irr a (ltV_tr a b a h h')
theorem ltV_tri(a b:VTh)(h: ¬ltV a b)(h': ¬ltV b a):a=b:=by
 apply Subtype.ext;apply(th_ext _ _).2;rcases vth_cases a with⟨a1,a2⟩|⟨a1,a2,a3,a4,a5⟩
 ·rcases vth_cases b with⟨b1,b2⟩|⟨b1,b2,b3,b4,b5⟩
  ·refine⟨by omega,by omega,ltX_tri ?_ ?_⟩
   ·rw[Bool.eq_false_iff];exact fun e=>h (ltV_mk (.inr (.inl ⟨a1,b1,e⟩)))
   ·rw[Bool.eq_false_iff];exact fun e=>h' (ltV_mk (.inr (.inl ⟨b1,a1,e⟩)))
  ·exact absurd (ltV_mk (.inl ⟨by omega,a1⟩)) h'
 ·rcases vth_cases b with⟨b1,b2⟩|⟨b1,b2,b3,b4,b5⟩
  ·exact absurd (ltV_mk (.inl ⟨by omega,b1⟩)) h
  ·have h1: ¬(a.1.thread<b.1.thread\/a.1.thread=b.1.thread/\a.1.reg<b.1.reg):=fun e=>h (ltV_mk (.inr (.inr ⟨by omega,by omega,e⟩)))
   have h2: ¬(b.1.thread<a.1.thread\/b.1.thread=a.1.thread/\b.1.reg<a.1.reg):=fun e=>h' (ltV_mk (.inr (.inr ⟨by omega,by omega,e⟩)))
   exact⟨by omega,by omega,by rw[a5,b5]⟩
mutual
def atomsN:Nd->List Th
 | .mk k t v a c l=>(if k=2 then[t]else[])++atomsL l
def atomsL:List Nd->List Th
 |[]=>[]
 |x::r=>atomsN x++atomsL r
end
theorem atomsN_eq(x:Nd):atomsN x=(if x.kind=2 then[x.th]else[])++atomsL x.kids:=by cases x;rw[atomsN];rfl
theorem atomsL_nil:atomsL []=[]:=by rw[atomsL]
theorem atomsL_cons{x:Nd}{r:List Nd}:atomsL (x::r)=atomsN x++atomsL r:=by rw[atomsL]
theorem atomsL_app: ∀(l r:List Nd),atomsL (l++r)=atomsL l++atomsL r
 |[],r=>by rw[atomsL_nil];rfl
 |x::l,r=>by rw[List.cons_append,atomsL_cons,atomsL_cons,atomsL_app l r,List.append_assoc]
theorem atomsL_take{l:List Nd}{k:Nat}{x:Nd}(hk:l[k]? =some x):atomsL (l.take (k+1))=atomsL (l.take k)++atomsN x:=by
 obtain⟨hlt,rfl⟩:=List.getElem?_eq_some_iff.1 hk;rw[List.take_succ_eq_append_getElem hlt,atomsL_app,atomsL_cons,atomsL_nil,List.append_nil]
def insT(t:Th):List Th->List Th
 |[]=>[t]
 |y::r=>if befT t y then t::y::r else y::insT t r
def putT(t:Th)(l:List Th):List Th:=if t∈l then l else insT t l
mutual
def gatherN:Nd->List Th->List Th
 | .mk k t v a c l,acc=>if k=2 then putT t acc else gatherL l acc
def gatherL:List Nd->List Th->List Th
 |[],acc=>acc
 |x::r,acc=>gatherL r (gatherN x acc)
end
theorem gatherN_eq(x:Nd)(acc:List Th):gatherN x acc=if x.kind=2 then putT x.th acc else gatherL x.kids acc:=by cases x;rw[gatherN];rfl
theorem gatherL_nil{acc:List Th}:gatherL [] acc=acc:=by rw[gatherL]
theorem gatherL_cons{x:Nd}{r:List Nd}{acc:List Th}:gatherL (x::r) acc=gatherL r (gatherN x acc):=by rw[gatherL]
def thingsN(x:Nd):List Th:=gatherN x []
theorem OkN.thing{arch:Int}{x:Nd}(h:OkN arch x)(hk:x.kind=2):thingB arch x.th=true/\x.kids=[]:=by
 rcases mayN_kind h.may with⟨h1,h2⟩|⟨h1,h2,h3,h4⟩|⟨h1,h2⟩|⟨h1,h2⟩|⟨h1,h2⟩
 ·omega
 ·exact⟨h2,List.eq_nil_of_length_eq_zero h4⟩
 ·omega
 ·omega
 ·omega
theorem thingB_up{arch:Int}{t:Th}(h:thingB arch t=true):thingB 2 t=true:=by
 unfold thingB at*
 by_cases h1:t.thread= -1
 ·rw[if_pos h1]at h ⊢; exact h
 ·rw[if_neg h1]at h⊢
  have:=regsN_le arch;simp only[Bool.and_eq_true,decide_eq_true_eq]at h⊢;refine⟨⟨h.1.1,?_⟩,h.2⟩;unfold regsN;rw[if_neg (by omega)];omega
theorem mayN_up{arch k v:Int}{t:Th}{n:Nat}(h:mayN arch k t v n=true):mayN 2 k t v n=true:=by
 unfold mayN at*
 by_cases h2:k=2
 ·rw[if_pos h2]at h⊢
  simp only[Bool.and_eq_true]at h⊢;exact⟨⟨thingB_up h.1.1,h.1.2⟩,h.2⟩
 ·rw[if_neg h2]at h ⊢; exact h
theorem OkN.up{arch:Int}: ∀{x:Nd},OkN arch x->OkN 2 x:=by
 intro x
 induction x using Nd.ind with
 |h x ih=>intro h;exact⟨x,mayN_up h.may,fun y hy=>ih y hy (h.kid y hy)⟩
theorem atoms_ok: ∀{x:Nd},OkN 2 x-> ∀t∈atomsN x,thingB 2 t=true:=by
 intro x
 induction x using Nd.ind with
 | h x ih=>
   intro h t ht;rw[atomsN_eq]at ht
   have key: ∀(l:List Nd),(∀y∈l,y∈x.kids)-> ∀t∈atomsL l,thingB 2 t=true:=by
    intro l
    induction l with
    |nil=>intro _ t ht;rw[atomsL_nil]at ht;simp at ht
    | cons y r ihl=>
      intro hin t ht;rw[atomsL_cons]at ht;rcases List.mem_append.1 ht with h1|h1
      ·exact ih y (hin y (by simp)) (h.kid y (hin y (by simp))) t h1
      ·exact ihl (fun k hk=>hin k (by simp[hk])) t h1
   rcases List.mem_append.1 ht with h1|h1
   ·by_cases hk:x.kind=2
    ·rw[if_pos hk]at h1;simp at h1;subst h1;exact(h.thing hk).1
    ·rw[if_neg hk]at h1;simp at h1
   ·exact key _ (fun y hy=>hy) t h1
theorem atomsN_len: ∀(x:Nd),(atomsN x).length<=cntN x:=by
 intro x
 induction x using Nd.ind with
 | h x ih=>
   rw[atomsN_eq,cntN_eq,List.length_append]
   have key: ∀(l:List Nd),(∀y∈l,y∈x.kids)->(atomsL l).length<=cntL l:=by
    intro l
    induction l with
    |nil=>intro _;rw[atomsL_nil];simp
    | cons y r ihl=>
      intro hin;rw[atomsL_cons,cntL_cons,List.length_append];have:=ih y (hin y (by simp));have:=ihl (fun k hk=>hin k (by simp[hk]));omega
   have:=key _ (fun y hy=>hy)
   split<;>simp<;>omega
def toV(l:List Th)(h: ∀t∈l,thingB 2 t=true):List VTh:=l.pmap (fun t ht=>⟨t,ht⟩) h
theorem toV_val(l:List Th)(h: ∀t∈l,thingB 2 t=true):(toV l h).map (·.1)=l:=by
 unfold toV;rw[List.map_pmap];simp
theorem toV_mem{l:List Th}{h: ∀t∈l,thingB 2 t=true}{v:VTh}:v∈toV l h<->v.1∈l:=by
 constructor
 ·intro hv
  rw[<-toV_val l h];exact List.mem_map_of_mem hv
 ·intro hv
  rw[<-toV_val l h]at hv;obtain⟨u,hu,e⟩:=List.mem_map.1 hv;rw[<-Subtype.ext e];exact hu
def RiseT(l:List Th):Prop:=l.Pairwise fun a b=>befT a b=true
theorem insT_mem{t:Th}{z:Th}: ∀{l:List Th},z∈insT t l<->z=t\/z∈l
 |[]=>by simp[insT]
 | y::r=>by
   unfold insT;split
   ·simp
   ·simp only[List.mem_cons,insT_mem (l:=r)]
    constructor
    ·rintro(h|h|h)
     ·exact .inr (.inl h)
     ·exact .inl h
     ·exact .inr (.inr h)
    ·rintro(h|h|h)
     ·exact .inr (.inl h)
     ·exact .inl h
     ·exact .inr (.inr h)
theorem putT_mem{t:Th}{z:Th}{l:List Th}:z∈putT t l<->z=t\/z∈l:=by
 unfold putT;split
 ·rename_i h
  constructor
  ·exact .inr
  ·rintro(rfl|h')
   ·exact h
   ·exact h'
 ·exact insT_mem
theorem insT_rise{t:Th}(ht:thingB 2 t=true): ∀{l:List Th},(∀z∈l,thingB 2 z=true)->t∉l->RiseT l->RiseT (insT t l)
 |[],_,_,_=>by unfold insT RiseT;simp
 | y::r,hv,hn,h=>by
   obtain⟨a1,b1⟩:=List.pairwise_cons.1 h;have hy:=hv y (by simp);unfold insT
   by_cases hb:befT t y=true
   ·rw[if_pos hb]
    unfold RiseT;rw[List.pairwise_cons];refine⟨fun z hz=>?_,h⟩;rcases List.mem_cons.1 hz with rfl|hz
    ·exact hb
    ·exact ltV_tr ⟨t,ht⟩ ⟨y,hy⟩ ⟨z,hv z (by simp[hz])⟩ hb (a1 z hz)
   ·rw[if_neg hb]
    unfold RiseT;rw[List.pairwise_cons];refine⟨fun z hz=>?_,insT_rise ht (fun z hz=>hv z (by simp[hz])) (fun h=>hn (by simp[h])) b1⟩;rcases insT_mem.1 hz with rfl|hz
    ·by_cases h2:befT y z=true
     ·exact h2
     ·have:=ltV_tri ⟨z,ht⟩ ⟨y,hy⟩ hb h2
      simp only[Subtype.mk.injEq]at this;exact absurd (by rw[this];simp) hn
    ·exact a1 z hz
theorem putT_rise{t:Th}(ht:thingB 2 t=true){l:List Th}(hv: ∀z∈l,thingB 2 z=true)(h:RiseT l):RiseT (putT t l):=by
 unfold putT;split
 ·exact h
 ·rename_i hn;exact insT_rise ht hv hn h
theorem putT_len{t:Th}{l:List Th}:(putT t l).length<=l.length+1:=by
 have: ∀l:List Th,(insT t l).length=l.length+1:=by
  intro l
  induction l with
  |nil=>rfl
  |cons y r ih=>unfold insT;split<;>simp[ih]
 unfold putT;split
 ·omega
 ·rw[this];omega
theorem gather_ok: ∀{x:Nd},OkN 2 x-> ∀{acc:List Th},(∀z∈acc,thingB 2 z=true)->RiseT acc->(∀z∈gatherN x acc,thingB 2 z=true)/\RiseT (gatherN x acc)/\(∀z,z∈gatherN x acc<->z∈atomsN x\/z∈acc)/\(gatherN x acc).length<=acc.length+cntN x:=by
 intro x
 induction x using Nd.ind with
 | h x ih=>
   intro h acc hv hr;rw[gatherN_eq,atomsN_eq,cntN_eq]
   by_cases hk:x.kind=2
   ·obtain⟨h1,h2⟩:=h.thing hk
    rw[if_pos hk,if_pos hk,h2,atomsL_nil,cntL_nil];refine⟨fun z hz=>?_,putT_rise h1 hv hr,fun z=>by rw[putT_mem];simp,putT_len⟩;rcases putT_mem.1 hz with rfl|hz
    ·exact h1
    ·exact hv z hz
   ·rw[if_neg hk,if_neg hk]
    have key: ∀(l:List Nd),(∀y∈l,y∈x.kids)-> ∀{acc:List Th},(∀z∈acc,thingB 2 z=true)->RiseT acc->(∀z∈gatherL l acc,thingB 2 z=true)/\RiseT (gatherL l acc)/\(∀z,z∈gatherL l acc<->z∈atomsL l\/z∈acc)/\(gatherL l acc).length<=acc.length+cntL l:=by
     intro l
     induction l with
     |nil=>intro _ acc hv hr;rw[gatherL_nil,atomsL_nil,cntL_nil];exact⟨hv,hr,fun z=>by simp,by omega⟩
     | cons y r ihl=>
       intro hin acc hv hr;rw[gatherL_cons,atomsL_cons,cntL_cons];obtain⟨a1,a2,a3,a4⟩:=ih y (hin y (by simp)) (h.kid y (hin y (by simp))) hv hr;obtain⟨b1,b2,b3,b4⟩:=ihl (fun k hk=>hin k (by simp[hk])) a1 a2;refine⟨b1,b2,fun z=>?_,by omega⟩;rw[b3,a3,List.mem_append]
       constructor
       ·rintro(h|h|h)
        ·exact .inl (.inr h)
        ·exact .inl (.inl h)
        ·exact .inr h
       ·rintro((h|h)|h)
        ·exact .inr (.inl h)
        ·exact .inl h
        ·exact .inr (.inr h)
    obtain⟨k1,k2,k3,k4⟩:=key x.kids (fun y hy=>hy) hv hr;exact⟨k1,k2,fun z=>by rw[k3];simp,by omega⟩
theorem things_ok{x:Nd}(h:OkN 2 x):(∀z∈thingsN x,thingB 2 z=true)/\RiseT (thingsN x)/\(∀z,z∈thingsN x<->z∈atomsN x)/\(thingsN x).length<=cntN x:=by
 obtain⟨h1,h2,h3,h4⟩:=gather_ok h (acc:=[]) (by simp) List.Pairwise.nil;unfold thingsN;exact⟨h1,h2,fun z=>by have:=h3 z;simpa using this,by simpa using h4⟩
theorem sorted_things{x:Nd}(h:OkN 2 x)(le:VTh->VTh->Bool)(hle: ∀a b,le a b= !befT b.1 a.1):
 (cmpct ((toV (atomsN x) (atoms_ok h)).mergeSort le)).map (·.1)=thingsN x:=by
 obtain⟨h1,h2,h3, -⟩:=things_ok h
 have hs:=List.pairwise_mergeSort (le:=le) (fun a b c hab hbc=>by
  rw[hle]at*;simp only[Bool.not_eq_true',Bool.eq_false_iff]at*;intro hca
  by_cases hcb:ltV c b
  ·exact hbc hcb
  ·by_cases hbc':ltV b c
   ·exact hab (ltV_tr b c a hbc' hca)
   ·have:=ltV_tri b c hbc' hcb;subst this;exact hab hca)
  (fun a b=>by
   rw[hle,hle]
   by_cases h1:befT b.1 a.1=true
   ·have:befT a.1 b.1=false:=by rw[Bool.eq_false_iff];exact fun h2=>ltV_asy a b h2 h1
    rw[h1,this];rfl
   ·rw[Bool.eq_false_iff.2 h1];rfl)
  (toV (atomsN x) (atoms_ok h))
 have hr:=cmpct_rise (lt:=ltV) ltV_tr (hs.imp (fun {a b} hab=>by
  rw[hle]at hab;simp only[Bool.not_eq_true',Bool.eq_false_iff]at hab
  by_cases h1:ltV a b
  ·exact .inr h1
  ·exact .inl (ltV_tri a b h1 hab)))
 have hg:(toV (thingsN x) h1).Pairwise ltV:=by
  have:((toV (thingsN x) h1).map (·.1)).Pairwise fun a b=>befT a b=true:=by rw[toV_val];exact h2
  exact(List.pairwise_map (f:=fun v:VTh=>v.1) (R:=fun a b=>befT a b=true)).1 this
 have e:=rise_ext ltV_irr ltV_asy hr hg (fun v=>by
  rw[cmpct_mem,List.mem_mergeSort,toV_mem,toV_mem,h3])
 rw[e,toV_val]
def thingsC(q:Int)(x:Nd):List Th:=if condE 2 q x=0 then thingsN x else[]
structure Ini where
 thread:Int
 reg:Int
 loc:Tx
 vloc:Tx
 n:Int
deriving DecidableEq
structure Cd where
 a:Option Addr
 c:Nat
 l:List Ins
structure Tst where
 arch:Int
 name:Tx
 cycle:Tx
 ia:Option Addr
 ic:Nat
 init:List Ini
 ca:Option Addr
 cc:Nat
 code:List Cd
 q:Int
 node:Nd
def showC(lo:Nat)(b:UInt8):Bool:=decide (lo<=b.toNat)&&(decide (b.toNat<=126)&&decide (b.toNat≠34))
def showB(lo:Nat)(s:Tx):Bool:=s.all (showC lo)
def titleB(s:Tx):Bool:=decide (1<=s.length)&&(decide (s.length<=1024)&&showB 33 s)
def flushB(s:Tx):Bool:=s.isEmpty||(s.head? != some 32&&s.getLast? != some 32)
def cycleB(s:Tx):Bool:=decide (s.length<=262144)&&(showB 32 s&&flushB s)
theorem showB_step{lo:Nat}{l:Tx}{k:Nat}{c:UInt8}(h:l[k]? =some c)(hn:showC lo c=false):showB lo l=false:=by
 unfold showB;rw[Bool.eq_false_iff];intro h2;rw[List.all_eq_true]at h2;rw[h2 c (List.mem_of_getElem? h)]at hn;cases hn
theorem showB_done{lo:Nat}{l:Tx}(h: ∀(i:Nat) (x:UInt8),l[i]? =some x->showC lo x=true):showB lo l=true:=by
 unfold showB;rw[List.all_eq_true];intro x hx;obtain⟨i,hi⟩:=List.mem_iff_getElem?.1 hx;exact h i x hi
def insA(arch:Int)(i:Ins):Bool:=if arch=1 then checkX i else checkI i
def rowE(arch:Int)(l:List Ins):Int:=if l.all (insA arch)then(if arch=2 then(linksV l).2.1 else 0)else 91
def rowsE(arch:Int):List Cd->Int
 |[]=>0
 |x::r=>if rowE arch x.l=0 then rowsE arch r else rowE arch x.l
def codedE(t:Tst):Int:=
 if t.code.length<1\/16<t.code.length then 2 else if t.code.any fun x=>decide (256<x.l.length)then 2 else rowsE t.arch t.code
def firstB(arch:Int)(n:Nat)(x:Ini):Bool:=
 if x.thread= -1 then nameB x.loc&&(decide (x.reg=0)&&(decide (x.vloc=[])&&n32B x.n))
 else if x.thread<0\/(n:Int)<=x.thread\/x.loc≠[]then false
 else if(if arch=2 then x.reg<1\/31<x.reg else x.reg<0\/14<x.reg)then false
 else if x.vloc≠[]then nameB x.vloc&&decide (x.n=0)else n32B x.n
def keyI(x:Ini):Th:=⟨x.thread,x.reg,x.loc⟩
def begunE(t:Tst):Int:=
 if 1024<t.init.length then 2 else if t.init.all (firstB t.arch t.code.length)&&decide ((t.init.map keyI).Nodup)then 0 else 130
def askT(t:Tst):List Th:=thingsC t.q t.node
def insX(s:Tx):List Tx->List Tx
 |[]=>[s]
 |y::r=>if ltX s y then s::y::r else y::insX s r
def putX(l:List Tx)(s:Tx):List Tx:=if s=[]then l else if s∈l then l else insX s l
def rawT(t:Tst):List Tx:=(t.init.flatMap fun x=>[x.loc,x.vloc])++((t.code.flatMap fun x=>x.l.map (·.loc))++(askT t).map (·.loc))
def namesT(t:Tst):List Tx:=(rawT t).foldl putX []
def tstE(t:Tst):Int:=
 if archB t.arch=false then 5
 else if titleB t.name=false\/cycleB t.cycle=false then 130
 else if codedE t≠0 then codedE t
 else if begunE t≠0 then begunE t
 else if condE t.arch t.q t.node≠0 then condE t.arch t.q t.node
 else if(askT t).any fun x=>decide ((t.code.length:Int)<=x.thread)then 80
 else if 64<(namesT t).length then 2 else 0
def foldX(acc:List Tx)(l:List Tx):List Tx:=l.foldl putX acc
def rawI(l:List Ini):List Tx:=l.flatMap fun x=>[x.loc,x.vloc]
def rawC(l:List Cd):List Tx:=l.flatMap fun x=>x.l.map (·.loc)
theorem take_snoc{α:Type}{l:List α}{k:Nat}{x:α}(h:l[k]? =some x):l.take (k+1)=l.take k++[x]:=by
 obtain⟨hlt,rfl⟩:=List.getElem?_eq_some_iff.1 h;exact List.take_succ_eq_append_getElem hlt
def bareC(l:List Cd):List Cd:=l.map fun x=>⟨none,0,x.l⟩
def bare(t:Tst):Tst:=⟨t.arch,t.name,t.cycle,none,0,t.init,none,0,bareC t.code,t.q,t.node⟩
theorem bareC_length(l:List Cd):(bareC l).length=l.length:=by unfold bareC;simp
theorem rowsE_bare(arch:Int): ∀l,rowsE arch (bareC l)=rowsE arch l
 |[]=>rfl
 | x::r=>by
   have ih:=rowsE_bare arch r;show rowsE arch (⟨none,0,x.l⟩::bareC r)=_;unfold rowsE;rw[ih]
theorem codedE_bare(t:Tst):codedE (bare t)=codedE t:=by
 unfold codedE;rw[show(bare t).code=bareC t.code from rfl,bareC_length,show(bare t).arch=t.arch from rfl,rowsE_bare]
 congr 2
 unfold bareC;rw[List.any_map];rfl
theorem begunE_bare(t:Tst):begunE (bare t)=begunE t:=by
 unfold begunE;rw[show(bare t).code=bareC t.code from rfl,bareC_length];rfl
theorem rawT_bare(t:Tst):rawT (bare t)=rawT t:=by
 unfold rawT;rw[show(bare t).code=bareC t.code from rfl];unfold bareC;rw[List.flatMap_map];rfl
theorem namesT_bare(t:Tst):namesT (bare t)=namesT t:=by unfold namesT;rw[rawT_bare]
theorem tstE_bare(t:Tst):tstE (bare t)=tstE t:=by
 unfold tstE;rw[codedE_bare,begunE_bare,namesT_bare,show(bare t).code=bareC t.code from rfl,bareC_length];rfl
def cellC(b:UInt8):Bool:=decide (32<=b.toNat)&&(decide (b.toNat<=122)&&(decide (b.toNat≠59)&&decide (b.toNat≠34)))
def CellB(s:Tx):Prop:= ∀b∈s,cellC b=true
theorem CellB.nil:CellB []:=fun b hb=>by simp at hb
theorem CellB.app{a b:Tx}(h1:CellB a)(h2:CellB b):CellB (a++b):=fun c hc=>(List.mem_append.1 hc).elim (h1 c) (h2 c)
theorem CellB.cons{c:UInt8}{b:Tx}(h1:cellC c=true)(h2:CellB b):CellB (c::b):=fun d hd=>by
 rcases List.mem_cons.1 hd with rfl|h
 ·exact h1
 ·exact h2 d h
theorem CellB.lit{l:Tx}(h:l.all cellC=true):CellB l:=fun b hb=>List.all_eq_true.1 h b hb
theorem u8_all{p:UInt8->Bool}(h: ∀n:Fin 256,p (UInt8.ofNat n.val)=true)(c:UInt8):p c=true:=by
 have:=h ⟨c.toNat,c.toNat_lt⟩;simpa using this
def valD(l:Tx):Nat:=l.foldl (fun n b=>10*n+(b.toNat-48)) 0
theorem valD_dec(u:Nat):valD (Lib.decDigits u)=u:=by
 have key: ∀k:Fin 10,(UInt8.ofNat (48+k.val)).toNat-48=k.val:=by decide
 induction u using Nat.strongRecOn with
 | _ u ih=>
   rw[Lib.decDigits]
   by_cases h:u<10
   ·rw[dif_pos h]
    have:=key ⟨u,h⟩;simp only at this;show 10*0+_=_;omega
   ·rw[dif_neg h]
    have h1:=ih (u/10) (by omega);unfold valD at*;rw[List.foldl_append,h1];have:=key ⟨u%10,Nat.mod_lt _ (by omega)⟩;show 10*(u/10)+_=_;simp only at this;omega
theorem dec_digit(u:Nat): ∀b∈Lib.decDigits u,48<=b.toNat/\b.toNat<=57:=by
 have key: ∀k:Fin 10,48<=(UInt8.ofNat (48+k.val)).toNat/\(UInt8.ofNat (48+k.val)).toNat<=57:=by decide
 induction u using Nat.strongRecOn with
 | _ u ih=>
   rw[Lib.decDigits]
   by_cases h:u<10
   ·rw[dif_pos h]
    intro b hb;rcases List.mem_singleton.1 hb with rfl;exact key ⟨u,h⟩
   ·rw[dif_neg h]
    intro b hb;rcases List.mem_append.1 hb with hb|hb
    ·exact ih _ (by omega) b hb
    ·rcases List.mem_singleton.1 hb with rfl
     exact key ⟨u%10,Nat.mod_lt _ (by omega)⟩
theorem dec_ne(u:Nat):Lib.decDigits u≠[]:=by
 rw[Lib.decDigits]
 split<;>simp
def numC(b:UInt8):Bool:=b==45||digitC b
theorem itoa_num(n:Int): ∀b∈Lib.itoa n,numC b=true:=by
 have key: ∀u:Nat,∀b∈Lib.decDigits u,numC b=true:=fun u b hb=>by
  have:=dec_digit u b hb;unfold numC digitC;rw[Bool.or_eq_true]
  right
  rw[Bool.and_eq_true];exact⟨decide_eq_true (UInt8.le_iff_toNat_le.2 this.1),decide_eq_true (UInt8.le_iff_toNat_le.2 this.2)⟩
 unfold Lib.itoa;split
 ·intro b hb
  rcases List.mem_cons.1 hb with rfl|hb
  ·rfl
  ·exact key _ b hb
 ·exact key _
theorem itoa_ne(n:Int):Lib.itoa n≠[]:=by
 unfold Lib.itoa;split
 ·simp
 ·exact dec_ne _
end Go.Proofs.YtkbbgjloifmmbaaGreatDoor
namespace Go.Proofs.YtkbbgjloifmmbaaGreatDoor
open Go.RowKit
theorem condLetter:UF letterC 297:=fun c=>lettersF c _ (by decide)
theorem condDigit:UF digitC 298:=fun c=>digitsF c _ (by decide)
theorem r08Letter:UF letterC 204:=fun c=>lettersF c _ (by decide)
theorem r08Digit:UF digitC 200:=fun c=>digitsF c _ (by decide)
theorem r09Digit:UF digitC 308:=fun c=>digitsF c _ (by decide)
theorem condNamed:SF nameB 322:=fun l hl=>namesF l hl _ (by decide)
theorem r08Named:SF nameB 118:=fun l hl=>namesF l hl _ (by decide)
theorem r09Named:SF nameB 252:=fun l hl=>namesF l hl _ (by decide)
theorem intelNamed(l:Tx)(hl:l.length<=9223372036854775807)(w:World):Calls Tryz.prog 177 #[.string (tx l)] w fun e w'=>e= .returned (.bool (nameB l))/\w=w':=by
 have hs:=tx_size l;cases l with
 | nil=>
   have hs:(tx []).size=0:=rfl;go_enter Tryz.func177,Tryz.ntmps177;go_wp2_with fail;go_ret;exact⟨rfl,rfl⟩
 | cons c r=>
   obtain⟨n,hn⟩: ∃n,(tx (c::r)).size=n:=⟨_,rfl⟩;have hn1:1<=n:=by rw[<-hn,hs];simp
   have hnr:n=r.length+1:=by rw[<-hn,hs];simp
   clear hs hl
   by_cases h32:n<=32
   ·have i0:=run_ixz (c::r) c rfl
    have HR:=hid hnr;clear hnr;go_enter Tryz.func177,Tryz.ntmps177;go_wp2_with fail
    go_loop [3] (fun i=> ∃k:Nat,k<=n/\i= .int .i64 k/\Hid (∀(i:Nat) (x:UInt8),i<k->(c::r)[i]? =some x->nameC x=true)/\Hid (0<k->letterC c=true)) (fun i=>n-(intOf i).toNat)
    case atStart=>exact⟨0,by omega,rfl,fun i x hi=>absurd hi (Nat.not_lt_zero i),fun h=>absurd h (Nat.lt_irrefl 0)⟩
    case round=>
     obtain⟨k,hk,rfl,HM,HK⟩:=hrel
     by_cases hlt:k<n
     ·by_cases hk0:k=0
      ·subst hk0
       have hlt':c.toNat<256:=c.toNat_lt;obtain⟨m,hm⟩: ∃m,c.toNat=m:=⟨_,rfl⟩;have HC:=hid (letterX_nat c);rw[hm]at i0 hlt' HC
       have HY:=hid (show letterC c=true->Hid (∀(i:Nat) (x:UInt8),i<1->(c::r)[i]? =some x->nameC x=true)from fun h i x hi hx=>by
        obtain rfl:i=0:=by omega
        cases hx;unfold nameC;rw[h];rfl)
       have HF:=hid (show letterC c=false->nameB (c::r)=false from fun h=>by rw[nameB_cons,h];simp);have hlt0:0<n:=by omega
       clear hm HM HK hk hlt;have hp:m<65\/(65<=m/\m<=90)\/(91<=m/\m<=96)\/(97<=m/\m<=122)\/123<=m:=by omega
       rcases hp with h|⟨h,h'⟩|⟨h,h'⟩|⟨h,h'⟩|h
       all_goals
        (try(have z122:(!decide ((m:Int)<=122))=true:=by simp;omega))
        (try(have z90:(!decide ((m:Int)<=90))=true:=by simp;omega))
        go_wp2_with fail
        first
        |(go_round
          case rel=>exact⟨1,by omega,by go_num,HY.out (by rw[HC.out];simp<;>omega),hid fun _=>by rw[HC.out];simp<;>omega⟩
          case measure=>simp[intOf];omega)
        |(go_ret
          exact⟨ret_bool (HF.out (by rw[HC.out];simp<;>omega)).symm,rfl⟩)
      ·have hk1:0<k:=by omega
       obtain⟨x,hx⟩: ∃x,(c::r)[k]? =some x:=⟨_,List.getElem?_eq_getElem (by have:=HR.out;simp;omega)⟩;have ix:=run_ix (c::r) k x hx;have hlt':x.toNat<256:=x.toNat_lt;obtain⟨m,hm⟩: ∃m,x.toNat=m:=⟨_,rfl⟩;have HC:=hid (show nameC x=(((decide (97<=m)&&decide (m<=122))||(decide (65<=m)&&decide (m<=90)))||(decide (48<=m)&&decide (m<=57))||decide (m=95)) by rw[nameX_nat,letterX_nat,digitX_nat,hm]);rw[hm]at ix hlt';have HF:=hid (fun h=>nameB_step (l:=c::r) (k:=k) (c:=x) hx h)
       have HM2:nameC x=true->Hid (∀(i:Nat) (y:UInt8),i<k+1->(c::r)[i]? =some y->nameC y=true):=fun hx' i y hi hy=>by
        rcases Nat.lt_succ_iff_lt_or_eq.1 hi with h|h
        ·exact HM.out i y h hy
        ·subst h;rw[hx]at hy;cases hy;exact hx'
       have HM2:=hid HM2;have HL:=hid (HK.out hk1);clear hm hx HM HK hk0 i0;have hp:m<48\/(48<=m/\m<=57)\/(58<=m/\m<=64)\/(65<=m/\m<=90)\/(91<=m/\m<=94)\/m=95\/m=96\/(97<=m/\m<=122)\/123<=m:=by omega
       rcases hp with h|⟨h,h'⟩|⟨h,h'⟩|⟨h,h'⟩|⟨h,h'⟩|h|h|⟨h,h'⟩|h
       all_goals
        (try(have z122:(!decide ((m:Int)<=122))=true:=by simp;omega))
        (try(have z90:(!decide ((m:Int)<=90))=true:=by simp;omega))
        (try(have z57:(!decide ((m:Int)<=57))=true:=by simp;omega))
        (try(have z95:((m:Int)==95)=false:=by simp;omega))
        (try subst h)
        go_wp2_with fail
        first
        |(go_round
          case rel=>exact⟨k+1,by omega,by go_num,HM2.out (by rw[HC.out];simp<;>omega),fun _=>HL.out⟩
          case measure=>simp[intOf];omega)
        |(go_ret
          exact⟨ret_bool (HF.out (by rw[HC.out];simp<;>omega)).symm,rfl⟩)
     ·have HF:=hid (nameB_done (c:=c) (r:=r) (by have:=HR.out;omega) (HK.out (by omega)) (fun i x hi=>HM.out i x (by
       have h1:=(List.getElem?_eq_some_iff.1 hi).1;have:=HR.out;simp at h1;omega) hi))
      go_wp2_with fail;go_ret;exact⟨ret_bool HF.out.symm,rfl⟩
   ·have HF:=hid (show nameB (c::r)=false by rw[nameB_cons,decide_eq_false (by omega)];simp)
    clear hnr;go_enter Tryz.func177,Tryz.ntmps177;go_wp2_with fail;go_ret;exact⟨ret_bool HF.out.symm,rfl⟩
theorem fileNamed(l:Tx)(hl:l.length<=9223372036854775807)(w:World):Calls Tryz.prog 225 #[.string (tx l)] w fun e w'=>e= .returned (.bool (nameB l))/\w=w':=by
 have hs:=tx_size l;cases l with
 | nil=>
   have hs:(tx []).size=0:=rfl;go_enter Tryz.func225,Tryz.ntmps225;go_wp2_with fail;go_ret;exact⟨rfl,rfl⟩
 | cons c r=>
   obtain⟨n,hn⟩: ∃n,(tx (c::r)).size=n:=⟨_,rfl⟩;have hn1:1<=n:=by rw[<-hn,hs];simp
   have hnr:n=r.length+1:=by rw[<-hn,hs];simp
   clear hs hl
   by_cases h32:n<=32
   ·have i0:=run_ixz (c::r) c rfl
    have HR:=hid hnr;clear hnr;go_enter Tryz.func225,Tryz.ntmps225;go_wp2_with fail
    go_loop [3] (fun i=> ∃k:Nat,k<=n/\i= .int .i64 k/\Hid (∀(i:Nat) (x:UInt8),i<k->(c::r)[i]? =some x->nameC x=true)/\Hid (0<k->letterC c=true)) (fun i=>n-(intOf i).toNat)
    case atStart=>exact⟨0,by omega,rfl,fun i x hi=>absurd hi (Nat.not_lt_zero i),fun h=>absurd h (Nat.lt_irrefl 0)⟩
    case round=>
     obtain⟨k,hk,rfl,HM,HK⟩:=hrel
     by_cases hlt:k<n
     ·by_cases hk0:k=0
      ·subst hk0
       have hlt':c.toNat<256:=c.toNat_lt;obtain⟨m,hm⟩: ∃m,c.toNat=m:=⟨_,rfl⟩;have HC:=hid (letterX_nat c);rw[hm]at i0 hlt' HC
       have HY:=hid (show letterC c=true->Hid (∀(i:Nat) (x:UInt8),i<1->(c::r)[i]? =some x->nameC x=true)from fun h i x hi hx=>by
        obtain rfl:i=0:=by omega
        cases hx;unfold nameC;rw[h];rfl)
       have HF:=hid (show letterC c=false->nameB (c::r)=false from fun h=>by rw[nameB_cons,h];simp);have hlt0:0<n:=by omega
       clear hm HM HK hk hlt;have hp:m<65\/(65<=m/\m<=90)\/(91<=m/\m<=96)\/(97<=m/\m<=122)\/123<=m:=by omega
       rcases hp with h|⟨h,h'⟩|⟨h,h'⟩|⟨h,h'⟩|h
       all_goals
        (try(have z122:(!decide ((m:Int)<=122))=true:=by simp;omega))
        (try(have z90:(!decide ((m:Int)<=90))=true:=by simp;omega))
        go_wp2_with fail
        first
        |(go_round
          case rel=>exact⟨1,by omega,by go_num,HY.out (by rw[HC.out];simp<;>omega),hid fun _=>by rw[HC.out];simp<;>omega⟩
          case measure=>simp[intOf];omega)
        |(go_ret
          exact⟨ret_bool (HF.out (by rw[HC.out];simp<;>omega)).symm,rfl⟩)
      ·have hk1:0<k:=by omega
       obtain⟨x,hx⟩: ∃x,(c::r)[k]? =some x:=⟨_,List.getElem?_eq_getElem (by have:=HR.out;simp;omega)⟩;have ix:=run_ix (c::r) k x hx;have hlt':x.toNat<256:=x.toNat_lt;obtain⟨m,hm⟩: ∃m,x.toNat=m:=⟨_,rfl⟩;have HC:=hid (show nameC x=(((decide (97<=m)&&decide (m<=122))||(decide (65<=m)&&decide (m<=90)))||(decide (48<=m)&&decide (m<=57))||decide (m=95)) by rw[nameX_nat,letterX_nat,digitX_nat,hm]);rw[hm]at ix hlt';have HF:=hid (fun h=>nameB_step (l:=c::r) (k:=k) (c:=x) hx h)
       have HM2:nameC x=true->Hid (∀(i:Nat) (y:UInt8),i<k+1->(c::r)[i]? =some y->nameC y=true):=fun hx' i y hi hy=>by
        rcases Nat.lt_succ_iff_lt_or_eq.1 hi with h|h
        ·exact HM.out i y h hy
        ·subst h;rw[hx]at hy;cases hy;exact hx'
       have HM2:=hid HM2;have HL:=hid (HK.out hk1);clear hm hx HM HK hk0 i0;have hp:m<48\/(48<=m/\m<=57)\/(58<=m/\m<=64)\/(65<=m/\m<=90)\/(91<=m/\m<=94)\/m=95\/m=96\/(97<=m/\m<=122)\/123<=m:=by omega
       rcases hp with h|⟨h,h'⟩|⟨h,h'⟩|⟨h,h'⟩|⟨h,h'⟩|h|h|⟨h,h'⟩|h
       all_goals
        (try(have z122:(!decide ((m:Int)<=122))=true:=by simp;omega))
        (try(have z90:(!decide ((m:Int)<=90))=true:=by simp;omega))
        (try(have z57:(!decide ((m:Int)<=57))=true:=by simp;omega))
        (try(have z95:((m:Int)==95)=false:=by simp;omega))
        (try subst h)
        go_wp2_with fail
        first
        |(go_round
          case rel=>exact⟨k+1,by omega,by go_num,HM2.out (by rw[HC.out];simp<;>omega),fun _=>HL.out⟩
          case measure=>simp[intOf];omega)
        |(go_ret
          exact⟨ret_bool (HF.out (by rw[HC.out];simp<;>omega)).symm,rfl⟩)
     ·have HF:=hid (nameB_done (c:=c) (r:=r) (by have:=HR.out;omega) (HK.out (by omega)) (fun i x hi=>HM.out i x (by
       have h1:=(List.getElem?_eq_some_iff.1 hi).1;have:=HR.out;simp at h1;omega) hi))
      go_wp2_with fail;go_ret;exact⟨ret_bool HF.out.symm,rfl⟩
   ·have HF:=hid (show nameB (c::r)=false by rw[nameB_cons,decide_eq_false (by omega)];simp)
    clear hnr;go_enter Tryz.func225,Tryz.ntmps225;go_wp2_with fail;go_ret;exact⟨ret_bool HF.out.symm,rfl⟩
theorem intelNumber:NFn n32B 178:=fun c=>numsF c _ (by decide)
theorem fileNumber:NFn n32B 226:=fun c=>numsF c _ (by decide)
theorem condNumber:NFn n32B 279:=fun c=>numsF c _ (by decide)
theorem r08Number:NFn n32B 201:=fun c=>numsF c _ (by decide)
theorem r09Number:NFn n32B 309:=fun c=>numsF c _ (by decide)
theorem intelReg0:NFn regXB 179:=fun c=>regsXF c _ (by decide)
end Go.Proofs.YtkbbgjloifmmbaaGreatDoor

/- What ReadBackP leans on, part 6. -/
import Derived.Test.YtkbbgjloifmmbaaGreatDoorRb5
import Derived.Maps.OwnSet
import Derived.Maps.Views
set_option linter.unusedVariables false
set_option maxRecDepth 100000
set_option maxHeartbeats 1600000
namespace Go.Proofs.YtkbbgjloifmmbaaGreatDoor
open _root_.Go.Proofs.Tryz
open _root_.List renaming getElem?_eq_some_iff->ano,findIdx?_eq_some_iff_getElem->aqz,mem_cons->amY,cons_append->anr,length_append->aoE,pairwise_cons->aqd,drop_eq_getElem_cons->aot,getElem?_eq_getElem->amK,findIdx?_eq_none_iff->aqA,range->am9,nil_append->anJ,mem_iff_getElem->aqc,getElem_drop->ap9,append_assoc->anF,not_mem_nil->an0,any_eq_true->apW
open _root_.Bool renaming and_eq_true->am6
open _root_.Option renaming map_eq_some_iff->aqB
open _root_.Go.Lib renaming itoa_length_le->aqC
open _root_.ByteArray renaming empty->aqy
open Go.RowKit
structure Th where
 thread:Int
 au:Int
 loc:Tx
 deriving DecidableEq,Inhabited
@[reducible] def jP(t:Th):List Value:=[.int .i64 t.thread,.int .i64 t.au,.string (tx t.loc)]
@[reducible] def iu(t:Th):Value:=.agg #[.int .i64 t.thread,.int .i64 t.au,.string (tx t.loc)]
theorem Lg(x y:Th):(x=y)<->(x.thread=y.thread/\x.au=y.au/\x.loc=y.loc):=by
 cases x;cases y;simp
theorem xN(x y:Th)(w:World):(binOp .eql 25 (iu x) (iu y)).run prog w= .ok (.bool (decide (x=y))) w:=by
 have hS:prog.underlying 25=some (.struct (prog.fieldsOf 25)):=by kernel_rfl
 have hp:prog.stoodInHeld 25=false:=by kernel_rfl
 have a3:=isAgg3;have z3:=sizeOf3;have u3:=underlying3;have a4:=isAgg9;have z4:=sizeOf9;have u4:=underlying9;rw[run_eql_struct,show(10000:Nat)=9999+1 from rfl,run_equalIn_agg w 9999 25 _ _ hS hp];simp only[Program.fieldsOf,underlying25]
 go_simp
 rw[show decide (x=y)=decide (x.thread=y.thread/\x.au=y.au/\x.loc=y.loc)from decide_eq_decide.2 (Lg x y)];simp only[aW]
 by_cases h1:x.thread=y.thread<;>by_cases h2:x.au=y.au<;>by_cases h6:x.loc=y.loc<;>simp[h1,h2,h6]
theorem vZ(x y:Th)(w:World):(binOp .neq 25 (iu x) (iu y)).run prog w= .ok (.bool (!decide (x=y))) w:=by
 have h:=xN x y w;rw[run_eql_struct]at h;rw[run_neq_struct];generalize (Op.equalIn 10000 25 (.agg #[.int .i64 x.thread,.int .i64 x.au,.string (tx x.loc)]) (.agg #[.int .i64 y.thread,.int .i64 y.au,.string (tx y.loc)])).run prog w=r at*;cases r with
 |ok b w'=>simp[Result.andThen]at h ⊢; obtain⟨rfl,rfl⟩:=h;exact⟨rfl,rfl⟩
 |halt x w'=>simp[Result.andThen]at h
theorem de(x:Th):(jP x).length=3:=rfl
theorem GR(x:Th): ∀u∈jP x,u.oneCell'=true:=by
 intro u hu;simp only[jP,amY,an0,or_false]at hu;rcases hu with rfl|rfl|rfl<;>rfl
theorem iH:gQ prog 112 25 (.agg #[.int .i64 0,.int .i64 0,.string aqy]) 3 32:=⟨underlying112,by kernel_rfl,rfl,by decide⟩
inductive Nd where
 |mk (kind:Int) (th:Th) (val:Int) (a:Option Addr) (c:Nat) (kids:List Nd):Nd
def Nd.kind:Nd->Int| .mk k _ _ _ _ _=>k
def Nd.th:Nd->Th| .mk _ t _ _ _ _=>t
def Nd.val:Nd->Int| .mk _ _ v _ _ _=>v
def Nd.a:Nd->Option Addr| .mk _ _ _ a _ _=>a
def Nd.c:Nd->Nat| .mk _ _ _ _ c _=>c
def Nd.kids:Nd->List Nd| .mk _ _ _ _ _ l=>l
@[reducible] def cN(x:Nd):List Value:=[.int .i64 x.kind,.int .i64 x.th.thread,.int .i64 x.th.au,.string (tx x.th.loc),.int .i64 x.val,.slice x.a x.kids.length x.c]
@[reducible] def vN(x:Nd):Value:=.agg #[.int .i64 x.kind,.int .i64 x.th.thread,.int .i64 x.th.au,.string (tx x.th.loc),.int .i64 x.val,.slice x.a x.kids.length x.c]
theorem ja(x:Nd):(cN x).length=6:=rfl
theorem Zc(x:Nd): ∀u∈cN x,u.oneCell'=true:=by
 intro u hu;simp only[cN,amY,an0,or_false]at hu;rcases hu with rfl|rfl|rfl|rfl|rfl|rfl<;>rfl
theorem nk:gQ prog 26 28 (.agg #[.int .i64 0,.int .i64 0,.int .i64 0,.string aqy,.int .i64 0,.slice none 0 0]) 6 72:=⟨underlying26,by kernel_rfl,rfl,by decide⟩
theorem Nd.ind{P:Nd->Prop}(h: ∀x:Nd,(∀k∈x.kids,P k)->P x): ∀x,P x
 | .mk k t v a c l=>h _ fun y hy=>Nd.ind h y
 termination_by x=>SizeOf.sizeOf x
 decreasing_by
  have:=List.sizeOf_lt_of_mem (show y∈l from hy);simp;omega
inductive cH(w:World):Nd->Prop where
 |mk (x:Nd) (hl:x.th.loc.length<=9223372036854775807) (hr:bf cN w x.a x.kids) (hc:x.kids.length<=x.c) (h: ∀k∈x.kids,cH w k):cH w x
theorem cH.loc{w:World}{x:Nd}(h:cH w x):x.th.loc.length<=9223372036854775807:=by cases h;assumption
theorem cH.els{w:World}{x:Nd}(h:cH w x):bf cN w x.a x.kids:=by cases h;assumption
theorem cH.cap{w:World}{x:Nd}(h:cH w x):x.kids.length<=x.c:=by cases h;assumption
theorem cH.dm{w:World}{x:Nd}(h:cH w x): ∀k∈x.kids,cH w k:=by cases h;assumption
theorem cH.keep{w w':World}(hb:Below w.heap.size w w'): ∀{x:Nd},cH w x->cH w' x:=by
 intro x
 induction x using Nd.ind with
 |h x ih=>intro h;exact⟨x,h.loc,h.els.below hb,h.cap,fun k hk=>ih k hk (h.dm k hk)⟩
def j5(w:World)(b:Nat)(x:Nd):Prop:=b<w.heap.size/\ ∀k,k<6->w.cell? ⟨b,k,none⟩=(cN x)[k]?
abbrev aS(x:Nd):Obj:=.cells #[.int .i64 x.kind,.int .i64 x.th.thread,.int .i64 x.th.au,.string (tx x.th.loc),.int .i64 x.val,.slice x.a x.kids.length x.c] 28
theorem j5.below{w w':World}{b:Nat}{x:Nd}(h:j5 w b x)(hb:Below w.heap.size w w'):j5 w' b x:=
 ⟨Nat.lt_of_lt_of_le h.1 hb.size,fun k hk=>by rw[hb.cell (p:=⟨b,k,none⟩) h.1];exact h.2 k hk⟩
theorem j5.new(w:World)(x:Nd):j5 (w.alloc (aS x)) w.heap.size x:=
 ⟨by simp,fun k hk=>by
  have hh:=heap_alloc_new w (aS x);simp only[World.cell?,hh];simp[cN]⟩
theorem j5.cells{w:World}{b:Nat}{x:Nd}(h:j5 w b x):w.cell? ⟨b,0,none⟩=some (.int .i64 x.kind)/\w.cell? ⟨b,1,none⟩=some (.int .i64 x.th.thread)/\w.cell? ⟨b,2,none⟩=some (.int .i64 x.th.au)/\w.cell? ⟨b,3,none⟩=some (.string (tx x.th.loc))/\w.cell? ⟨b,4,none⟩=some (.int .i64 x.val)/\w.cell? ⟨b,5,none⟩=some (.slice x.a x.kids.length x.c):=
 ⟨h.2 0 (by omega),h.2 1 (by omega),h.2 2 (by omega),h.2 3 (by omega),h.2 4 (by omega),h.2 5 (by omega)⟩
theorem bf.nd{w:World}{a:Option Addr}{l:List Nd}(h:bf cN w a l){k:Nat}{x:Nd}(hk:l[k]? =some x):
 w.cell? ⟨bk a,fo a+k*6,none⟩=some (.int .i64 x.kind)/\w.cell? ⟨bk a,fo a+k*6+1,none⟩=some (.int .i64 x.th.thread)/\w.cell? ⟨bk a,fo a+k*6+2,none⟩=some (.int .i64 x.th.au)/\w.cell? ⟨bk a,fo a+k*6+3,none⟩=some (.string (tx x.th.loc))/\w.cell? ⟨bk a,fo a+k*6+4,none⟩=some (.int .i64 x.val)/\w.cell? ⟨bk a,fo a+k*6+5,none⟩=some (.slice x.a x.kids.length x.c):=
 ⟨h.cell0 ja hk (by omega),h.cell ja hk 1 (by omega),h.cell ja hk 2 (by omega),h.cell ja hk 3 (by omega),h.cell ja hk 4 (by omega),h.cell ja hk 5 (by omega)⟩
theorem bf.th{w:World}{a:Option Addr}{l:List Th}(h:bf jP w a l){k:Nat}{x:Th}(hk:l[k]? =some x):
 w.cell? ⟨bk a,fo a+k*3,none⟩=some (.int .i64 x.thread)/\w.cell? ⟨bk a,fo a+k*3+1,none⟩=some (.int .i64 x.au)/\w.cell? ⟨bk a,fo a+k*3+2,none⟩=some (.string (tx x.loc)):=
 ⟨h.cell0 de hk (by omega),h.cell de hk 1 (by omega),h.cell de hk 2 (by omega)⟩
attribute [local go_sem high] qa jX
def bR(nm:Tx)(j:Ins):Bool:=decide (j.op=12)&&decide (j.label=nm)
theorem Zw(i j:Ins)(b:Nat)(w:World)(hb:dK w b i):Calls prog 224 #[vI j,.pointer (some ⟨b,0,none⟩)] w (ax w (.bool (bR i.label j))):=by
 obtain⟨c0,c1,c2,c3,c4,c5,c6,c7⟩:=hb.cells;have hlt:=hb.1;have B:=al w (eC j)
 by_cases h:j.op=12
 ·have z:(j.op==12)=true:=by simpa using h
  have e:bR i.label j=(j.label==i.label):=by unfold bR;rw[Bool.eq_iff_iff];simp[h]
  have z2:((tx j.label).toList==(tx i.label).toList)=(j.label==i.label):=jG _ _;have HE:=hid e;generalize (j.label==i.label)=bb at*;clear h e;go_in;go_wp2_with fail;go_ret;exact⟨aJ HE.out.symm,aK⟩
 ·have z:(j.op==12)=false:=by simpa using h
  have HE:=hid (show bR i.label j=false by unfold bR;rw[decide_eq_false h];rfl);clear h;go_in;go_wp2_with fail;go_ret;exact⟨aJ HE.out.symm,aK⟩
def Jl(o:Option Nat):Int:=match o with
 |some n=>n
 |none=> -1
theorem Ia{p:Ins->Bool}{l:List Ins}(h: ∀j (hj:j<l.length),p l[j]=false):l.findIdx? p=none:=by
 rw[aqA];intro x hx;obtain⟨i,hi,rfl⟩:=aqc.1 hx;exact h i hi
theorem Ib{p:Ins->Bool}{l:List Ins}{k:Nat}(hk:k<l.length)(h1:p l[k]=true)(h2: ∀j (hj:j<l.length),j<k->p l[j]=false):l.findIdx? p=some k:=by
 rw[aqz];exact⟨hk,h1,fun j hj=>by rw[h2 j (by omega) hj];simp⟩
theorem agz(i:Ins)(b:Nat)(l:List Ins)(a:Option Addr)(c:Nat)(w:World)(h:Is w a l)(hb:dK w b i):
 Calls prog 277 #[.slice a l.length c,.func (.func 224) #[] #[.pointer (some ⟨b,0,none⟩)]] w (ax w (.int .i64 (Jl (l.findIdx? (bR i.label))))):=by
 have hl:=h.len;have B:=Below.refl w.heap.size w;go_in;go_wp2_with fail
 go_loopw [8] (fun i' wr=> ∃k:Nat,k<=l.length/\i'= .int .i64 k/\Hid (∀j (hj:j<l.length),j<k->bR i.label l[j]=false)/\Is wr a l/\dK wr b i/\Below w.heap.size w wr) (fun i' _=>l.length-(intOf i').toNat)
 case atStart=>exact⟨0,by omega,rfl,hid (fun j hj h'=>absurd h' (Nat.not_lt_zero j)),h,hb,B⟩
 case round=>
  clear h hb B;obtain⟨k,hk,rfl,HK,h,hb,B⟩:=hrel
  by_cases hlt:k<l.length
  ·obtain⟨f,hf⟩: ∃f,l[k]? =some f:=⟨_,amK hlt⟩
   have vB:l[k]=f:=Option.some.inj ((amK hlt).symm.trans hf);obtain⟨p0,p1,p2,p3,p4,p5,p6,p7⟩:=h.cells hf;have ix:=h.idx k hlt;have HF:=hid vB;clear hf vB;cases hm:bR i.label f
   all_goals
    have HM:=hid hm;clear hm;go_wp2_with fail;refine(Zw i f b _ hb).mono ?_;rintro e' w7 ⟨rfl,E7⟩;rw[HM.out];have h:=h.below E7;have hb:=hb.below E7;have B:=B.trans (E7.mono B.size);clear p0 p1 p2 p3 p4 p5 p6 p7 ix;go_wp2_with fail
   ·go_roundw
    case rel=>exact⟨k+1,by omega,by go_num,hid (fun j hj hjk=>by
     by_cases hh:j=k
     ·subst hh;rw[HF.out];exact HM.out
     ·exact HK.out j hj (by omega)),h,hb,B⟩
    case measure=>simp[intOf];omega
   ·have HR:=hid (Ib hlt (by rw[HF.out];exact HM.out) HK.out)
    go_ret;exact⟨bJ (by rw[HR.out];rfl),B⟩
  ·have HR:=hid (Ia (fun j hj=>HK.out j hj (by omega)))
   go_wp2_with fail;go_ret;exact⟨bJ (by rw[HR.out];rfl),B⟩
theorem agd(i:Ins)(b:Nat)(l:List Ins)(a:Option Addr)(c:Nat)(w:World)(h:Is w a l)(hb:dK w b i):
 Calls prog 223 #[.slice a l.length c,.func (.func 224) #[] #[.pointer (some ⟨b,0,none⟩)]] w (ax w (.bool (l.findIdx? (bR i.label)).isSome)):=by
 have C:=hid (agz i b l a c w h hb);generalize l.findIdx? (bR i.label)=r at*;generalize l.length=n at*;clear h hb;cases r with
 | none=>
   go_in;go_wp2_with fail;refine C.out.mono ?_;rintro e w1 ⟨rfl,E⟩;have z:Jl none= -1:=rfl;go_wp2_with fail;go_ret;exact⟨rfl,E⟩
 | some k=>
   have z:Jl (some k)=(k:Int):=rfl;have hk:(0:Int)<=(k:Int):=by omega
   rw[z]at C;clear z;go_in;go_wp2_with fail;refine C.out.mono ?_;rintro e w1 ⟨rfl,E⟩;go_wp2_with fail;go_ret;exact⟨aJ (by simp),E⟩
end Go.Proofs.YtkbbgjloifmmbaaGreatDoor
namespace Go.Proofs.YtkbbgjloifmmbaaGreatDoor
open _root_.Go.Proofs.Tryz
open _root_.List renaming getElem?_eq_some_iff->ano,findIdx?_eq_some_iff_getElem->aqz,mem_cons->amY,cons_append->anr,length_append->aoE,pairwise_cons->aqd,drop_eq_getElem_cons->aot,getElem?_eq_getElem->amK,findIdx?_eq_none_iff->aqA,range->am9,nil_append->anJ,mem_iff_getElem->aqc,getElem_drop->ap9,append_assoc->anF,not_mem_nil->an0,any_eq_true->apW
open _root_.Bool renaming and_eq_true->am6
open _root_.Option renaming map_eq_some_iff->aqB
open _root_.Go.Lib renaming itoa_length_le->aqC
open _root_.ByteArray renaming empty->aqy
open Go.Maps
def gZ(code:List Ins)(k:Nat):Option Int:=match code[k]? with
 |none=>some (-1)
 | some i=>
   if i.op=12 then(if code.findIdx? (bR i.label)=some k then some (-1)else none)
   else if i.op=11 then(match code.findIdx? (bR i.label)with
    |none=>none
    |some at'=>if((code.drop (k+1)).findIdx? (bR i.label)).isSome then some (at':Int)else none)
   else some (-1)
def eM(code:List Ins)(k:Nat):Option Int:=match code[k]? with
 |none=>some (-1)
 | some i=>
   if i.op=12 then(if(code.take k).any (bR i.label)then none else some (-1))
   else if i.op=11 then((code.drop (k+1)).findIdx? (bR i.label)).map fun j=>((k+1+j:Nat):Int)
   else some (-1)
def qy(code:List Ins)(k:Nat):List Int:=(am9 k).map fun j=>(gZ code j).getD (-1)
def kz(code:List Ins)(k:Nat):List Int:=(am9 k).map fun j=>(eM code j).getD (-1)
def gG(code:List Ins):List Int × Int × Int:=
 if 256<code.length then([],2,0)
 else match code.findIdx? fun i=> !aU i with
  |some k=>([],91,k)
  | none=>match (am9 code.length).find? fun k=>(eM code k).isNone with
    |some k=>([],93,k)
    |none=>(kz code code.length,0,0)
theorem ql{nm:Tx}{j:Ins}:bR nm j=true<->j.op=12/\j.label=nm:=by unfold bR;simp
theorem wG(code:List Ins)(k:Nat):gZ code k=none<->eM code k=none:=by
 unfold gZ eM;cases hk:code[k]? with
 |none=>simp
 | some i=>
   obtain⟨hlt,he⟩:=ano.1 hk;simp only
   by_cases h12:i.op=12
   ·rw[if_pos h12,if_pos h12]
    have A0:bR i.label code[k]=true:=by rw[he,ql];exact⟨h12,rfl⟩
    by_cases AF:(code.take k).any (bR i.label)=true
    ·rw[if_pos AF]
     have: ¬code.findIdx? (bR i.label)=some k:=by
      intro hf;rw[aqz]at hf;obtain⟨_,_,h3⟩:=hf;rw[apW]at AF;obtain⟨x,hx,hp⟩:=AF;obtain⟨j,hj,rfl⟩:=aqc.1 hx;simp at hj;rw[List.getElem_take]at hp;exact absurd hp (h3 j (by omega))
     rw[if_neg this]
    ·rw[if_neg AF]
     have:code.findIdx? (bR i.label)=some k:=by
      refine Ib hlt A0 (fun j hj hjk=>?_);cases hb:bR i.label code[j]with
      |false=>rfl
      | true=>
        refine absurd (apW.2 ⟨code[j],?_,hb⟩) AF;rw[List.mem_take_iff_getElem];exact⟨j,by omega,rfl⟩
     rw[if_pos this]
   ·rw[if_neg h12,if_neg h12]
    by_cases h11:i.op=11
    ·rw[if_pos h11,if_pos h11]
     cases hl:(code.drop (k+1)).findIdx? (bR i.label)with
     | none=>
       cases code.findIdx? (bR i.label)<;>simp
     | some j=>
       rw[aqz]at hl;obtain⟨hj,hp, -⟩:=hl;cases hf:code.findIdx? (bR i.label)with
       | none=>
         rw[aqA]at hf;rw[ap9]at hp;rw[hf _ (List.getElem_mem _)]at hp;cases hp
       |some at'=>simp
    ·rw[if_neg h11,if_neg h11]
theorem aj2(code:List Ins)(h: ∀k,k<code.length->gZ code k≠none)(k:Nat):gZ code k=eM code k:=by
 unfold gZ eM;cases hk:code[k]? with
 |none=>rfl
 | some i=>
   obtain⟨hlt,he⟩:=ano.1 hk;have hn:=h k hlt;have hn2:eM code k≠none:=fun e=>hn ((wG code k).2 e)
   unfold gZ at hn;unfold eM at hn2;rw[hk]at hn hn2;simp only at hn hn2⊢
   by_cases h12:i.op=12
   ·rw[if_pos h12]at hn hn2⊢
    rw[if_pos h12]
    split at hn
    ·split at hn2
     ·exact absurd rfl hn2
     ·rename_i a b;rw[if_pos a,if_neg b]
    ·exact absurd rfl hn
   ·rw[if_neg h12]at hn hn2⊢
    rw[if_neg h12]
    by_cases h11:i.op=11
    ·rw[if_pos h11]at hn hn2⊢
     rw[if_pos h11];cases hl:(code.drop (k+1)).findIdx? (bR i.label)with
     |none=>rw[hl]at hn2;simp at hn2
     | some j=>
       rw[aqz]at hl;obtain⟨hj,hp, -⟩:=hl;simp at hj;rw[ap9,ql]at hp;have hL:=h (k+1+j) (by omega);unfold gZ at hL;rw[amK (by omega)]at hL;simp only at hL;rw[if_pos hp.1,hp.2]at hL
       split at hL
       ·rename_i hf
        rw[hf];simp
       ·exact absurd rfl hL
    ·rw[if_neg h11,if_neg h11]
theorem Tz(code:List Ins)(h: ∀k,k<code.length->gZ code k≠none)(n:Nat):qy code n=kz code n:=by
 unfold qy kz;exact List.map_congr_left fun k _=>by rw[aj2 code h k]
theorem Kg(code:List Ins)(k:Nat):(qy code k).length=k:=by simp[qy]
theorem Ty(code:List Ins)(k:Nat):qy code (k+1)=qy code k++[(gZ code k).getD (-1)]:=by simp[qy,List.range_succ]
theorem Sn{code:List Ins}(h:256<code.length):gG code=([],2,0):=by unfold gG;rw[if_pos h]
theorem Sl{code:List Ins}(h:code.length<=256){k:Nat}(hk:k<code.length)(h1:aU code[k]=false)(h2: ∀j (hj:j<code.length),j<k->aU code[j]=true):gG code=([],91,(k:Int)):=by
 unfold gG;rw[if_neg (by omega),Ib hk (by rw[h1];rfl) (fun j hj hjk=>by rw[h2 j hj hjk];rfl)]
theorem find_range{n k:Nat}{p:Nat->Bool}(hk:k<n)(h1:p k=true)(h2: ∀j,j<k->p j=false):(am9 n).find? p=some k:=by
 rw[List.find?_range_eq_some];exact⟨h1,by simpa using hk,fun j hj=>by rw[h2 j hj];rfl⟩
theorem Es{code:List Ins}(h:code.length<=256)(hc: ∀j (hj:j<code.length),aU code[j]=true){k:Nat}(hk:k<code.length)(h1:gZ code k=none)(h2: ∀j,j<k->gZ code j≠none):gG code=([],93,(k:Int)):=by
 unfold gG;rw[if_neg (by omega),Ia (fun j hj=>by rw[hc j hj];rfl)];simp only
 rw[find_range hk (by rw[(wG code k).1 h1];rfl) (fun j hj=>by
  cases hs:eM code j with
  |none=>exact absurd ((wG code j).2 hs) (h2 j hj)
  |some v=>rfl)]
theorem Sp{code:List Ins}(h:code.length<=256)(hc: ∀j (hj:j<code.length),aU code[j]=true)(h2: ∀j,j<code.length->gZ code j≠none):gG code=(qy code code.length,0,0):=by
 unfold gG;rw[if_neg (by omega),Ia (fun j hj=>by rw[hc j hj];rfl)];simp only
 have:(am9 code.length).find? (fun k=>(eM code k).isNone)=none:=by
  rw[List.find?_eq_none];intro j hj;simp at hj;cases hs:eM code j with
  |none=>exact absurd ((wG code j).2 hs) (h2 j hj)
  |some v=>simp
 rw[this,Tz code h2]
def pS(code:List Ins)(m:Nat)(D:DataW Unit):Prop:=
 ∀nm:Tx,(∀j,(code.drop m).findIdx? (bR nm)=some j->Maps.has D (.string nm)=true/\D.atKey (.string nm) (.lit (.int .i64 0))= .lit (.int .i64 ((m+j:Nat):Int)))/\((code.drop m).findIdx? (bR nm)=none->Maps.has D (.string nm)=false)
theorem pS.nil(code:List Ins)(m:Nat)(h:code.length<=m):pS code m (.map []):=by
 intro nm;rw[List.drop_eq_nil_of_le h];exact⟨fun j hj=>by simp at hj,fun _=>rfl⟩
theorem findIdx_cons(p:Ins->Bool)(x:Ins)(l:List Ins):(x::l).findIdx? p=if p x then some 0 else(l.findIdx? p).map (· +1):=by
 rw[List.findIdx?_cons]
theorem pS.skip{code:List Ins}{m:Nat}{D:DataW Unit}{i:Ins}(h:pS code (m+1) D)(hi:code[m]? =some i)(hop:i.op≠12):pS code m D:=by
 intro nm;obtain⟨hlt,he⟩:=ano.1 hi;rw[aot hlt,he,findIdx_cons,if_neg (by rw[ql];exact fun h=>hop h.1)];obtain⟨h1,h2⟩:=h nm;refine⟨fun j hj=>?_,fun hn=>h2 (by simpa using hn)⟩;rw[aqB]at hj;obtain⟨j',hj',rfl⟩:=hj;obtain⟨a,b⟩:=h1 j' hj';exact⟨a,by rw[b];congr 3;omega⟩
theorem pS.put{code:List Ins}{m:Nat}{D:DataW Unit}{i:Ins}(h:pS code (m+1) D)(hm:IsMap D)(hi:code[m]? =some i)(hop:i.op=12)(hk:WideAt.IsKeyLit (.string i.label)):pS code m (D.put (.string i.label) (.lit (.int .i64 (m:Int)))):=by
 intro nm;obtain⟨hlt,he⟩:=ano.1 hi;rw[aot hlt,he,findIdx_cons];obtain⟨h1,h2⟩:=h nm
 by_cases hn:i.label=nm
 ·subst hn
  rw[if_pos (by rw[ql];exact⟨hop,rfl⟩)];refine⟨fun j hj=>?_,fun hn=>by simp at hn⟩;simp at hj;subst hj;exact⟨has_put_same hm hk _,by rw[atKey_put_same hm hk];rfl⟩
 ·rw[if_neg (by rw[ql];exact fun h=>hn h.2)]
  have hne:(Lit.string nm)≠ .string i.label:=fun e=>hn (by cases e;rfl)
  refine⟨fun j hj=>?_,fun hn'=>?_⟩
  ·rw[aqB]at hj
   obtain⟨j',hj',rfl⟩:=hj;obtain⟨a,b⟩:=h1 j' hj';rw[has_put_other hne,atKey_put_other hne];exact⟨a,by rw[b];congr 3;omega⟩
  ·rw[has_put_other hne];exact h2 (by simpa using hn')
end Go.Proofs.YtkbbgjloifmmbaaGreatDoor
namespace Go.Proofs.YtkbbgjloifmmbaaGreatDoor
open _root_.Go.Proofs.Tryz
open _root_.List renaming getElem?_eq_some_iff->ano,findIdx?_eq_some_iff_getElem->aqz,mem_cons->amY,cons_append->anr,length_append->aoE,pairwise_cons->aqd,drop_eq_getElem_cons->aot,getElem?_eq_getElem->amK,findIdx?_eq_none_iff->aqA,range->am9,nil_append->anJ,mem_iff_getElem->aqc,getElem_drop->ap9,append_assoc->anF,not_mem_nil->an0,any_eq_true->apW
open _root_.Bool renaming and_eq_true->am6
open _root_.Option renaming map_eq_some_iff->aqB
open _root_.Go.Lib renaming itoa_length_le->aqC
open _root_.ByteArray renaming empty->aqy
def eN:Th:=⟨0,0,[]⟩
def cE(af:Int):Int:=if af=1 then 15 else 32
def aH(af:Int):Bool:=decide (af=1)||decide (af=2)
def bE(af:Int)(t:Th):Bool:=
 if t.thread= -1 then decide (t.au=0)&&az t.loc
 else decide (0<=t.thread)&&decide (t.thread<16)&&decide (0<=t.au)&&decide (t.au<cE af)&&decide (t.loc=[])
def dN(af:Int)(kind:Int)(t:Th)(v:Int)(n:Nat):Bool:=
 if kind=2 then bE af t&&aY v&&decide (n=0)
 else decide (t=eN)&&decide (v=0)&&(if kind=1 then decide (n=0)else if kind=3 then decide (n=1)else if kind=4\/kind=5 then decide (2<=n)else false)
mutual
def dA(af:Int):Nd->Nat->Nat->Nat × Int
 | .mk k t v a c l,met,deep=>if 1024<=met\/64<=deep then(met,2)else if dN af k t v l.length=false then(met,80)else gP af l (met+1) (deep+1)
def gP(af:Int):List Nd->Nat->Nat->Nat × Int
 |[],met,_=>(met,0)
 |x::r,met,deep=>if(dA af x met deep).2=0 then gP af r (dA af x met deep).1 deep else dA af x met deep
end
theorem BY(af:Int)(x:Nd)(met deep:Nat):dA af x met deep=if 1024<=met\/64<=deep then(met,2)else if dN af x.kind x.th x.val x.kids.length=false then(met,80)else gP af x.kids (met+1) (deep+1):=by
 cases x;rw[dA];rfl
theorem FG{af:Int}{x:Nd}{r:List Nd}{met deep:Nat}:gP af (x::r) met deep=if(dA af x met deep).2=0 then gP af r (dA af x met deep).1 deep else dA af x met deep:=by rw[gP]
theorem BX{af:Int}{met deep:Nat}:gP af [] met deep=(met,0):=by rw[gP]
theorem Wy{af:Int}{l:List Nd}{k:Nat}{x:Nd}(hk:l[k]? =some x)(met deep:Nat):gP af (l.drop k) met deep=if(dA af x met deep).2=0 then gP af (l.drop (k+1)) (dA af x met deep).1 deep else dA af x met deep:=by
 obtain⟨hlt,rfl⟩:=ano.1 hk;rw[aot hlt,FG]
theorem WB(af:Int): ∀(x:Nd) (met deep:Nat),met<=1024->(dA af x met deep).1<=1024:=by
 intro x
 induction x using Nd.ind with
 | h x ih=>
   intro met deep hm;rw[BY];split
   ·exact hm
   ·rename_i h
    split
    ·exact hm
    ·have key: ∀(l:List Nd),(∀k∈l,k∈x.kids)-> ∀met deep,met<=1024->(gP af l met deep).1<=1024:=by
      intro l
      induction l with
      |nil=>intro _ met deep hm;rw[BX];exact hm
      | cons y r ihl=>
        intro hin met deep hm;have h1:=ih y (hin y (by simp)) met deep hm;rw[FG];split
        ·exact ihl (fun k hk=>hin k (by simp[hk])) _ _ h1
        ·exact h1
     exact key _ (fun k hk=>hk) _ _ (by omega)
def bF(af UE:Int)(x:Nd):Int:=if aH af=false then 5 else if UE<1\/3<UE then 80 else(dA af x 0 0).2
def cz(af:Int)(n:Nat):Tx:=if af=1 then aO n else bH n
def l7(af:Int)(t:Th):Tx:=if t.thread= -1 then t.loc else Lib.itoa t.thread++[58]++cz af t.au.toNat
def oP(af:Int)(t:Th)(v:Int):Tx:=l7 af t++[61]++Lib.itoa v
def kV:Tx:=[32,47,92,32]
def kW:Tx:=[32,92,47,32]
def dY(b:Bool)(s:Tx):Tx:=if b then 40::s++[41]else s
def weak(and:Bool)(k:Int):Bool:=(and&&decide (k=4))||decide (k=5)
mutual
def bD(af:Int):Nd->Tx
 | .mk k t v a c l=>if k=1 then[116,114,117,101]else if k=2 then oP af t v else if k=3 then 126::fG af true [] l else if k=4 then fG af true kV l else fG af false kW l
def fG(af:Int)(and:Bool)(sep:Tx):List Nd->Tx
 |[]=>[]
 |x::r=>dY (weak and x.kind) (bD af x)++jk af and sep r
def jk(af:Int)(and:Bool)(sep:Tx):List Nd->Tx
 |[]=>[]
 |x::r=>sep++(dY (weak and x.kind) (bD af x)++jk af and sep r)
end
theorem jZ(af:Int)(x:Nd):bD af x=if x.kind=1 then[116,114,117,101]else if x.kind=2 then oP af x.th x.val else if x.kind=3 then 126::fG af true [] x.kids else if x.kind=4 then fG af true kV x.kids else fG af false kW x.kids:=by
 cases x;rw[bD];rfl
theorem yU{af:Int}{and:Bool}{sep:Tx}:fG af and sep []=[]:=by rw[fG]
theorem pK{af:Int}{and:Bool}{sep:Tx}{x:Nd}{r:List Nd}:fG af and sep (x::r)=dY (weak and x.kind) (bD af x)++jk af and sep r:=by rw[fG]
theorem lZ{af:Int}{and:Bool}{sep:Tx}:jk af and sep []=[]:=by rw[jk]
theorem ou{af:Int}{and:Bool}{sep:Tx}{x:Nd}{r:List Nd}:jk af and sep (x::r)=sep++(dY (weak and x.kind) (bD af x)++jk af and sep r):=by rw[jk]
theorem V4{af:Int}{and:Bool}{sep:Tx}: ∀(l r:List Nd),jk af and sep (l++r)=jk af and sep l++jk af and sep r
 |[],r=>by rw[lZ];rfl
 |x::l,r=>by rw[anr,ou,ou,V4 l r];simp[anF]
theorem akl{af:Int}{and:Bool}{sep:Tx}(l:List Nd)(x:Nd):fG af and sep (l++[x])=fG af and sep l++(if l=[]then[]else sep)++dY (weak and x.kind) (bD af x):=by
 cases l with
 |nil=>rw[anJ,pK,yU,lZ];simp
 |cons y r=>rw[anr,pK,pK,V4,ou,lZ];simp[anF]
theorem V0{af:Int}{and:Bool}{sep:Tx}{l:List Nd}{k:Nat}{x:Nd}(hk:l[k]? =some x):fG af and sep (l.take (k+1))=fG af and sep (l.take k)++(if k=0 then[]else sep)++dY (weak and x.kind) (bD af x):=by
 obtain⟨hlt,rfl⟩:=ano.1 hk;rw[List.take_succ_eq_append_getElem hlt,akl]
 congr 2
 by_cases h0:k=0
 ·subst h0;simp
 ·have:l.take k≠[]:=by
   intro e;have hz:(l.take k).length=0:=by rw[e];rfl
   rw[List.length_take]at hz;omega
  rw[if_neg this,if_neg h0]
mutual
def fq:Nd->Nat
 | .mk k t v a c l=>1+dh l
def dh:List Nd->Nat
 |[]=>0
 |x::r=>fq x+dh r
end
theorem rJ(x:Nd):fq x=1+dh x.kids:=by cases x;rw[fq];rfl
theorem rI:dh []=0:=by rw[dh]
theorem j9{x:Nd}{r:List Nd}:dh (x::r)=fq x+dh r:=by rw[dh]
theorem Dq{x:Nd}: ∀{l:List Nd},x∈l->fq x<=dh l
 | y::r,h=>by
   rw[j9];rcases amY.1 h with rfl|h
   ·omega
   ·have:=Dq h;omega
theorem pY: ∀(l r:List Nd),dh (l++r)=dh l+dh r
 |[],r=>by rw[rI];simp
 |x::l,r=>by rw[anr,j9,j9,pY l r];omega
inductive bK(af:Int):Nd->Prop where
 |mk (x:Nd) (h:dN af x.kind x.th x.val x.kids.length=true) (hk: ∀y∈x.kids,bK af y):bK af x
theorem bK.may{af:Int}{x:Nd}(h:bK af x):dN af x.kind x.th x.val x.kids.length=true:=by cases h;assumption
theorem bK.dm{af:Int}{x:Nd}(h:bK af x): ∀y∈x.kids,bK af y:=by cases h;assumption
theorem alh(af:Int): ∀(x:Nd) (met deep m:Nat),dA af x met deep=(m,0)->bK af x/\m=met+fq x/\m<=1024:=by
 intro x
 induction x using Nd.ind with
 | h x ih=>
   intro met deep m h;rw[BY]at h
   by_cases h1:1024<=met\/64<=deep
   ·rw[if_pos h1]at h;cases h
   rw[if_neg h1]at h
   by_cases h2:dN af x.kind x.th x.val x.kids.length=false
   ·rw[if_pos h2]at h;cases h
   rw[if_neg h2]at h
   have key: ∀(l:List Nd),(∀k∈l,k∈x.kids)-> ∀met deep m,met<=1024->gP af l met deep=(m,0)->(∀y∈l,bK af y)/\m=met+dh l/\m<=1024:=by
    intro l
    induction l with
    |nil=>intro _ met deep m hm h;rw[BX]at h;cases h;exact⟨fun y hy=>absurd hy (by simp),by rw[rI];omega,hm⟩
    | cons y r ihl=>
      intro hin met deep m hm h;rw[FG]at h
      by_cases h3:(dA af y met deep).2=0
      ·rw[if_pos h3]at h
       obtain⟨o1,e1,b1⟩:=ih y (hin y (by simp)) met deep (dA af y met deep).1 (by rw[<-h3]);obtain⟨o2,e2,b2⟩:=ihl (fun k hk=>hin k (by simp[hk])) _ _ _ b1 h;exact⟨fun z hz=>by rcases amY.1 hz with rfl|hz;exact o1;exact o2 z hz,by rw[j9];omega,b2⟩
      ·rw[if_neg h3]at h;rw[h]at h3;exact absurd rfl h3
   obtain⟨o,e,b⟩:=key _ (fun k hk=>hk) _ _ _ (by omega) h;exact⟨⟨x,by simpa using h2,o⟩,by rw[rJ];omega,b⟩
theorem rL{af q:Int}{x:Nd}(h:bF af q x=0):aH af=true/\1<=q/\q<=3/\bK af x/\fq x<=1024:=by
 unfold bF at h
 by_cases ha:aH af=false
 ·rw[if_pos ha]at h;cases h
 rw[if_neg ha]at h
 by_cases hq:q<1\/3<q
 ·rw[if_pos hq]at h;cases h
 rw[if_neg hq]at h;obtain⟨o,e,b⟩:=alh af x 0 0 (dA af x 0 0).1 (by rw[<-h]);exact⟨by simpa using ha,by omega,by omega,o,by omega⟩
theorem qp{af k v:Int}{t:Th}{n:Nat}(h:dN af k t v n=true):(k=1/\n=0)\/(k=2/\bE af t=true/\aY v=true/\n=0)\/(k=3/\n=1)\/(k=4/\2<=n)\/(k=5/\2<=n):=by
 unfold dN at h
 by_cases h2:k=2
 ·rw[if_pos h2]at h
  simp only[am6,decide_eq_true_eq]at h;exact .inr (.inl ⟨h2,h.1.1,h.1.2,h.2⟩)
 rw[if_neg h2]at h;simp only[am6,decide_eq_true_eq]at h;obtain⟨-, h⟩:=h
 by_cases h1:k=1
 ·rw[if_pos h1]at h;exact .inl ⟨h1,by simpa using h⟩
 rw[if_neg h1]at h
 by_cases h3:k=3
 ·rw[if_pos h3]at h;exact .inr (.inr (.inl ⟨h3,by simpa using h⟩))
 rw[if_neg h3]at h
 by_cases h4:k=4\/k=5
 ·rw[if_pos h4]at h
  rcases h4 with rfl|rfl
  ·exact .inr (.inr (.inr (.inl ⟨rfl,by simpa using h⟩)))
  ·exact .inr (.inr (.inr (.inr ⟨rfl,by simpa using h⟩)))
 ·rw[if_neg h4]at h;cases h
theorem yX{af:Int}{t:Th}(h:bE af t=true):(t.thread= -1/\t.au=0/\az t.loc=true)\/(∃(i k:Nat),t=⟨i,k,[]⟩/\i<16/\(k:Int)<cE af):=by
 obtain⟨th,rg,loc⟩:=t;unfold bE at h;simp only at h
 by_cases h1:th= -1
 ·rw[if_pos h1]at h
  simp only[am6,decide_eq_true_eq]at h;exact .inl ⟨h1,h.1,h.2⟩
 ·rw[if_neg h1]at h
  simp only[am6,decide_eq_true_eq]at h;obtain⟨⟨⟨⟨a,b⟩,c⟩,d⟩,e⟩:=h;refine .inr ⟨th.toNat,rg.toNat,?_,by omega,by omega⟩;simp only[Th.mk.injEq];exact⟨by omega,by omega,e⟩
theorem ai2(af:Int):cE af<=32:=by unfold cE;split<;>omega
theorem KE{af:Int}{k:Nat}(h:(k:Int)<cE af):(cz af k).length<=5:=by
 unfold cz cE at*;split
 ·rename_i h1;rw[if_pos h1]at h;have:=pI (n:=k) (by omega);omega
 ·rename_i h1;rw[if_neg h1]at h;exact kU (by omega)
theorem V6{af:Int}{t:Th}(h:bE af t=true):(l7 af t).length<=32:=by
 rcases yX h with⟨h1,h2,h3⟩|⟨i,k,rfl,hi,hk⟩
 ·unfold l7;rw[if_pos h1];exact(iU h3).2
 ·unfold l7
  rw[if_neg (by simp only;omega)];have h1:=aqC (i:Int) (by omega) (by omega);have h2:=KE (af:=af) (k:=k) hk;simp only[aoE,List.length_singleton,Int.toNat_natCast];omega
theorem yp(b:Bool)(s:Tx):(dY b s).length<=s.length+2:=by unfold dY;split<;>simp
theorem uq{af:Int}: ∀{x:Nd},bK af x->(bD af x).length+10<=100*fq x:=by
 intro x
 induction x using Nd.ind with
 | h x ih=>
   intro h
   have key: ∀(and:Bool) (sep:Tx) (l:List Nd),sep.length<=4->(∀k∈l,k∈x.kids)->(jk af and sep l).length<=100*dh l:=by
    intro and sep l hs
    induction l with
    |nil=>intro _;rw[lZ];simp
    | cons y r ihl=>
      intro hin;have h1:=ih y (hin y (by simp)) (h.dm y (hin y (by simp)));have h2:=ihl (fun k hk=>hin k (by simp[hk]));have h3:=yp (weak and y.kind) (bD af y);rw[ou,j9];simp only[aoE];omega
   have JC: ∀(and:Bool) (sep:Tx) (l:List Nd),sep.length<=4->(∀k∈l,k∈x.kids)->(fG af and sep l).length<=100*dh l:=by
    intro and sep l hs hin;cases l with
    |nil=>rw[yU];simp
    | cons y r=>
      have h1:=ih y (hin y (by simp)) (h.dm y (hin y (by simp)));have h2:=key and sep r hs (fun k hk=>hin k (by simp[hk]));have h3:=yp (weak and y.kind) (bD af y);rw[pK,j9];simp only[aoE];omega
   rw[jZ,rJ];rcases qp h.may with⟨h1,h2⟩|⟨h1,h2,h3,h4⟩|⟨h1,h2⟩|⟨h1,h2⟩|⟨h1,h2⟩
   ·rw[h1];simp
    omega
   ·rw[h1]
    have a1:=V6 h2;have a2:=aqC x.val (by unfold aY at h3;simp at h3;omega) (by unfold aY at h3;simp at h3;omega);simp[oP];omega
   ·rw[h1]
    have:=JC true [] x.kids (by simp) (fun k hk=>hk);simp;omega
   ·rw[h1]
    have:=JC true kV x.kids (by simp[kV]) (fun k hk=>hk);simp;omega
   ·rw[h1]
    have:=JC false kW x.kids (by simp[kW]) (fun k hk=>hk);simp;omega
theorem VZ{af:Int}{and:Bool}{sep:Tx}(hs:sep.length<=4): ∀{l:List Nd},(∀y∈l,bK af y)->(fG af and sep l).length<=100*dh l:=by
 have key: ∀(l:List Nd),(∀y∈l,bK af y)->(jk af and sep l).length<=100*dh l:=by
  intro l
  induction l with
  |nil=>intro _;rw[lZ];simp
  | cons y r ihl=>
    intro h;have h1:=uq (h y (by simp));have h2:=ihl (fun k hk=>h k (by simp[hk]));have h3:=yp (weak and y.kind) (bD af y);rw[ou,j9];simp only[aoE];omega
 intro l h;cases l with
 |nil=>rw[yU];simp
 | cons y r=>
   have h1:=uq (h y (by simp));have h2:=key r (fun k hk=>h k (by simp[hk]));have h3:=yp (weak and y.kind) (bD af y);rw[pK,j9];simp only[aoE];omega
def iQ(q:Int):Tx:=if q=1 then[101,120,105,115,116,115,32,40]else if q=2 then[126,101,120,105,115,116,115,32,40]else[102,111,114,97,108,108,32,40]
def eF(af q:Int)(x:Nd):Tx:=iQ q++bD af x++[41]
set_option linter.unusedSectionVars false
section
variable {α:Type} [DecidableEq α]
def cF:List α->List α
 |[]=>[]
 | x::r=>match r with
   |[]=>[x]
   |y::_=>if x=y then cF r else x::cF r
theorem Of:cF ([]:List α)=[]:=rfl
theorem Ag(x:α):cF [x]=[x]:=rfl
theorem pX(x y:α)(r:List α):cF (x::y::r)=if x=y then cF (y::r)else x::cF (y::r):=rfl
theorem Hf: ∀(l:List α) (y x:α),cF (l++[y]++[x])=if x=y then cF (l++[y])else cF (l++[y])++[x]
 | [],y,x=>by
   simp only[anJ,anr,pX,Ag]
   by_cases h:x=y
   ·rw[if_pos h.symm,if_pos h,h]
   ·rw[if_neg (Ne.symm h),if_neg h]
 | [z],y,x=>by
   simp only[anJ,anr,pX,Ag]
   by_cases h:x=y<;>by_cases h':z=y<;>simp[h,h',eq_comm]<;>(try(intro h2;exact absurd h2.symm h))<;>simp_all [eq_comm]
 | z::u::r,y,x=>by
   have ih:=Hf (u::r) y x;simp only[anr]at ih⊢;rw[pX,pX,ih]
   by_cases h:x=y<;>by_cases h':z=u<;>simp[h,h']
theorem G9{l:List α}{z:α}:z∈cF l<->z∈l:=by
 induction l with
 |nil=>simp[Of]
 | cons x r ih=>
   cases r with
   |nil=>simp[Ag]
   | cons y r=>
     rw[pX]
     by_cases h:x=y
     ·rw[if_pos h,ih];simp[h]
     ·rw[if_neg h,amY,ih];simp
theorem Og{l:List α}(h: ∀i (h1:i+1<l.length),l[i+1]≠l[i]'(by omega)):cF l=l:=by
 induction l with
 |nil=>rfl
 | cons x r ih=>
   cases r with
   |nil=>rfl
   | cons y r=>
     have h0:=h 0 (by simp);simp at h0;rw[pX,if_neg (Ne.symm h0),ih (fun i h1=>by have:=h (i+1) (by simp at h1 ⊢; omega);simpa using this)]
theorem Od(l:List α):(cF l).length<=l.length:=by
 induction l with
 |nil=>simp[Of]
 | cons x r ih=>
   cases r with
   |nil=>simp[Ag]
   | cons y r=>
     rw[pX];split
     ·simp at ih ⊢; omega
     ·simp at ih ⊢; omega
theorem KM{lt:α->α->Prop}(JA: ∀a,¬lt a a)(M3: ∀a b,lt a b->lt b a->False): ∀{l r:List α},l.Pairwise lt->r.Pairwise lt->(∀x,x∈l<->x∈r)->l=r
 |[],[],_,_,_=>rfl
 |[],y::r,_,_,h=>by have:=(h y).2 (by simp);simp at this
 |x::l,[],_,_,h=>by have:=(h x).1 (by simp);simp at this
 | x::l,y::r,h1,h2,h=>by
   obtain⟨a1,b1⟩:=aqd.1 h1;obtain⟨a2,b2⟩:=aqd.1 h2
   have hxy:x=y:=by
    have hx:=(h x).1 (by simp);have hy:=(h y).2 (by simp);rcases amY.1 hx with e|hx
    ·exact e
    ·rcases amY.1 hy with e|hy
     ·exact e.symm
     ·exact(M3 _ _ (a2 x hx) (a1 y hy)).elim
   subst hxy
   have:l=r:=KM JA M3 b1 b2 (fun z=>by
    have hz:=h z;simp only[amY]at hz
    constructor
    ·intro hm
     rcases hz.1 (.inr hm)with e|e
     ·subst e;exact(JA _ (a1 _ hm)).elim
     ·exact e
    ·intro hm
     rcases hz.2 (.inr hm)with e|e
     ·subst e;exact(JA _ (a2 _ hm)).elim
     ·exact e)
   rw[this]
theorem He{lt:α->α->Prop}(tr: ∀a b c,lt a b->lt b c->lt a c): ∀{l:List α},l.Pairwise (fun a b=>a=b\/lt a b)->(cF l).Pairwise lt
 |[],_=>List.Pairwise.nil
 |[x],_=>by rw[Ag];simp
 | x::y::r,h=>by
   obtain⟨a1,b1⟩:=aqd.1 h;have ih:=He tr b1;rw[pX]
   by_cases e:x=y
   ·rw[if_pos e];exact ih
   ·rw[if_neg e,aqd]
    refine⟨fun z hz=>?_,ih⟩;have hz:=G9.1 hz;have hxy:lt x y:=(a1 y (by simp)).resolve_left e;rcases a1 z hz with e'|e'
    ·subst e'
     rcases amY.1 hz with e2|e2
     ·exact absurd e2 e
     ·rcases(aqd.1 b1).1 x e2 with e3|e3
      ·exact absurd e3.symm e
      ·exact tr _ _ _ hxy e3
    ·exact e'
end
end Go.Proofs.YtkbbgjloifmmbaaGreatDoor

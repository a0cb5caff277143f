/- What ReadBlanksP leans on, part 11. -/
import Derived.Test.YtkbbgjloifmmbaaGreatDoorPc8
import Derived.Lib.Builder
import Derived.Lib.AppendStr
import Derived.Lib.UnsafeStr
import Derived.Lib.OthersKept
import Derived.Laws.Externs
import Derived.RegionTactic
import Derived.Lib.SlicesCompact
import Derived.DeepKeys5
import Derived.StringKeys
import Derived.Maps.OwnOps
import Derived.Lib.QuietBelow
import Derived.Test.YtkbbgjloifmmbaaGreatDoorPc9
set_option linter.unusedVariables false
set_option maxRecDepth 100000
set_option maxHeartbeats 6400000
open _root_.Go.Proofs.Tryz
open _root_.List renaming getElem?_eq_getElem->am9,mem_of_getElem?->anw,getElem?_eq_some_iff->anx,getElem?_map->anA,pairwise_cons->anD,mem_cons->anE,all_eq_true->anF,getElem_map->anG,take_succ_eq_append_getElem->anH,getElem?_eq_none->anI,mem_iff_getElem?->anJ,length_map->anL,length_reverse->anN,length->anO,pairwise_iff_getElem->anR,reverse_reverse->anU,dropWhile_cons->anV,head?_reverse->anX,append_assoc->anZ,ext_getElem?->an0,any_eq_true->an1
open _root_.Nat renaming lt_succ_iff_lt_or_eq->anv,not_lt_zero->anC,le_of_ble_eq_true->anK,lt_of_lt_of_le->anW,le_refl->anb
open _root_.Go.Lib renaming trimRightB->anz,trimB->anT
open _root_.Bool renaming noConfusion->anB,not_eq_true'->anQ,and_eq_true->anS
open _root_.Go.RowKit.Below renaming refl->anM
open _root_.Option.some renaming injEq->anP,inj->an4
open _root_.Go.Instr renaming indexAt->anm
open _root_.And renaming intro->anY
open _root_.Go.Program renaming fieldsOf->an2
open _root_.ByteArray renaming empty->an3
open _root_.Go.World renaming drew->an5
namespace Go.Proofs.YtkbbgjloifmmbaaGreatDoor
mutual
def bG:Nd->Nd
 | .mk k t v a c l=>.mk k t v none 0 (eU l)
def eU:List Nd->List Nd
 |[]=>[]
 |x::r=>bG x::eU r
end
theorem AO(x:Nd):bG x= .mk x.kind x.th x.val none 0 (eU x.kids):=by cases x;rw[bG];rfl
theorem pY:eU []=[]:=by rw[eU]
theorem vA{x:Nd}{r:List Nd}:eU (x::r)=bG x::eU r:=by rw[eU]
theorem AM: ∀l:List Nd,eU l=l.map bG
 |[]=>pY
 |x::r=>by rw[vA,AM r];rfl
theorem AL(l:List Nd):(eU l).length=l.length:=by rw[AM];simp
theorem Jt(l r:List Nd):eU (l++r)=eU l++eU r:=by simp only[AM,List.map_append]
theorem aaU{x y:Nd}:bG x=bG y<->x.kind=y.kind/\x.th=y.th/\x.val=y.val/\eU x.kids=eU y.kids:=by
 rw[AO,AO];simp
open Go.RowKit
set_option linter.unusedSectionVars false
section
variable {α:Type} {enc:α->List Value} {m:Nat} (hm: ∀x,(enc x).length=m)
include hm
theorem ac1(l:List α)(k:Nat)(e:α)(h:k<l.length):ox (flat enc l) (k*m) (enc e)=flat enc (l.set k e):=by
 have h1:l.set k e=l.take k++e::l.drop (k+1):=by rw[List.set_eq_take_append_cons_drop,if_pos h]
 rw[h1,j9,xU,<-Ka hm,<-SZ hm];unfold ox;rw[anZ,hm,show(k+1)*m=k*m+m from Nat.succ_mul k m]
theorem Own.G9{w:World}{B E n c:Nat}{a:Option Addr}{l:List α}(h:Own w B E m a n c (flat enc l))(hpos:0<m)(k:Nat)(hk:k<l.length)(e:α):
 Own (w.setCells (bk a) (fo a+k*m) (enc e)) B E m a n c (flat enc (l.set k e))/\Step w (w.setCells (bk a) (fo a+k*m) (enc e)) a a:=by
 have h1:=h.cap.2.2;rw[iY hm]at h1;have hn:n=l.length:=Nat.eq_of_mul_eq_mul_right hpos h1.symm;have hle:k*m+m<=l.length*m:=by rw[<-Nat.succ_mul];exact Nat.mul_le_mul_right _ hk
 have:=Own.sets (Own.some h (by omega)) (enc e) (k*m) w (flat enc l) h (by rw[iY hm,hm];exact hle)
 rwa[ac1 hm l k e hk]at this
theorem Own.ac8{w:World}{B E n c k:Nat}{a:Option Addr}{L:List α}{vs:List Value}(h:Own w B E m a n c (ox (flat enc L) (k*m) vs))(hn:n=L.length)(hk:k<=n):Own w B E m a k c (flat enc (L.take k)):=by
 unfold ox at h;rw[anZ,Ka hm]at h;obtain⟨m',rfl⟩: ∃m',n=k+m':=⟨n-k,by omega⟩;exact Own.front h (by rw[iY hm,List.length_take];congr 1;omega)
end
open Go.Sort
theorem cR(w:World)(o:Obj):(w.alloc o).heap.size=w.heap.size+1:=by simp
abbrev iD(w:World)(B:Nat)(a:Option Addr)(n c:Nat)(l:List Nd):Prop:=Own w B 28 6 a n c (flat cN l)
def I4(w:World)(P:Prop)(e:Ending)(w':World):Prop:= ∃b:Bool,e= .returned (.bool b)/\(b=true<->P)/\Below w.heap.size w w'
theorem l9.step{w w':World}{b:Nat}{x:Nd}{sa a':Option Addr}(h:l9 w b x)(hs:Step w w' sa a')(hne:sa=none\/b≠bk sa):l9 w' b x:=by
 refine⟨anW h.1 hs.grown.size,fun k hk=>?_⟩;rw[<-h.2 k hk];obtain⟨v,hv⟩: ∃v,w.cell? ⟨b,k,none⟩=some v:=⟨_,(h.2 k hk).trans (am9 (by rw[kN];exact hk))⟩;rw[hv];refine hs.grown.cell hv ?_;cases sa with
 |none=>simp
 |some y=> rcases hne with h2|h2
           ·cases h2
           simpa[bk]using h2
theorem Own.afr(w:World)(x:Nd):iD (w.alloc (bN x)) w.heap.size (Option.some ⟨w.heap.size,0,none⟩) 1 1 [x]:=by
 have h:=World.ownsRow_lit w (e:=28) #[.int .i64 x.kind,.int .i64 x.th.thread,.int .i64 x.th.az,.string (tx x.th.loc),.int .i64 x.val,.slice x.a x.kids.length x.c] 1 (anb w.heap.size) (size:=6) cz (by simp);exact h
@[reducible] def fN(x:aL):List Value:=[.int .i64 x.thread,.int .i64 x.az,.string (tx x.loc),.string (tx x.aT),.int .i64 x.n]
@[reducible] def lQ(x:aL):Value:=.agg #[.int .i64 x.thread,.int .i64 x.az,.string (tx x.loc),.string (tx x.aT),.int .i64 x.n]
abbrev kE(x:aL):Obj:=.cells #[.int .i64 x.thread,.int .i64 x.az,.string (tx x.loc),.string (tx x.aT),.int .i64 x.n] 56
theorem mC(x:aL):(fN x).length=5:=rfl
theorem Ri(x:aL): ∀u∈fN x,u.oneCell'=true:=by
 intro u hu;simp at hu;rcases hu with rfl|rfl|rfl|rfl|rfl<;>rfl
theorem pF:gQ prog 22 56 (.agg #[.int .i64 0,.int .i64 0,.string an3,.string an3,.int .i64 0]) 5 56:=⟨underlying22,by kernel_rfl,rfl,by decide⟩
theorem bK.ow{w:World}{a:Option Addr}{l:List aL}(h:bK fN w a l){k:Nat}{x:aL}(hk:l[k]? =some x):
 w.cell? ⟨bk a,fo a+k*5,none⟩=some (.int .i64 x.thread)/\w.cell? ⟨bk a,fo a+k*5+1,none⟩=some (.int .i64 x.az)/\w.cell? ⟨bk a,fo a+k*5+2,none⟩=some (.string (tx x.loc))/\w.cell? ⟨bk a,fo a+k*5+3,none⟩=some (.string (tx x.aT))/\w.cell? ⟨bk a,fo a+k*5+4,none⟩=some (.int .i64 x.n):=
 ⟨h.cell0 mC hk (by omega),h.cell mC hk 1 (by omega),h.cell mC hk 2 (by omega),h.cell mC hk 3 (by omega),h.cell mC hk 4 (by omega)⟩
@[reducible] def qa(x:Cd):List Value:=[.slice x.a x.l.length x.c]
theorem Rh(x:Cd):(qa x).length=1:=rfl
theorem xI:gQ prog 23 75 (.slice none 0 0) 1 24:=⟨underlying23,by kernel_rfl,rfl,by decide⟩
theorem bK.cd{w:World}{a:Option Addr}{l:List Cd}(h:bK qa w a l){k:Nat}{x:Cd}(hk:l[k]? =some x):
 w.cell? ⟨bk a,fo a+k,none⟩=some (.slice x.a x.l.length x.c):=by
 have:=h.cell0 Rh hk (by omega)
 rwa[Nat.mul_one]at this
theorem bK.sO{w:World}{a:Option Addr}{l:List Cd}(h:bK qa w a l)(k:Nat)(hk:k<l.length)(c:Nat):
 ∀w',(anm 23 (.slice a l.length c) (.int .i64 k)).run prog w'= .ok (.pointer (some ⟨bk a,fo a+k,none⟩)) w':=by
 have:=h.idx xI Rh k hk c
 rwa[Nat.mul_one]at this
@[reducible] def cT(t:aG):List Value:=[.int .i64 t.af,.string (tx t.name),.string (tx t.bD),.slice t.ia t.init.length t.ic,.slice t.ca t.code.length t.cc,.int .i64 t.q,.int .i64 t.node.kind,.int .i64 t.node.th.thread,.int .i64 t.node.th.az,.string (tx t.node.th.loc),.int .i64 t.node.val,.slice t.node.a t.node.kids.length t.node.c]
@[reducible] def vT(t:aG):Value:=.agg #[.int .i64 t.af,.string (tx t.name),.string (tx t.bD),.slice t.ia t.init.length t.ic,.slice t.ca t.code.length t.cc,.int .i64 t.q,.int .i64 t.node.kind,.int .i64 t.node.th.thread,.int .i64 t.node.th.az,.string (tx t.node.th.loc),.int .i64 t.node.val,.slice t.node.a t.node.kids.length t.node.c]
abbrev cq(t:aG):Obj:=.cells #[.int .i64 t.af,.string (tx t.name),.string (tx t.bD),.slice t.ia t.init.length t.ic,.slice t.ca t.code.length t.cc,.int .i64 t.q,.int .i64 t.node.kind,.int .i64 t.node.th.thread,.int .i64 t.node.th.az,.string (tx t.node.th.loc),.int .i64 t.node.val,.slice t.node.a t.node.kids.length t.node.c] 32
structure fF(w:World)(b:Nat)(t:aG):Prop where
 lt:b<w.heap.size
 cl: ∀k,k<12->w.cell? ⟨b,k,none⟩=(cT t)[k]?
theorem fF.new(w:World)(t:aG):fF (w.alloc (cq t)) w.heap.size t:=
 ⟨(aA.new w #[.int .i64 t.af,.string (tx t.name),.string (tx t.bD),.slice t.ia t.init.length t.ic,.slice t.ca t.code.length t.cc,.int .i64 t.q,.int .i64 t.node.kind,.int .i64 t.node.th.thread,.int .i64 t.node.th.az,.string (tx t.node.th.loc),.int .i64 t.node.val,.slice t.node.a t.node.kids.length t.node.c] 32).1,fun k hk=>(aA.new w _ _).2 k (by simpa using hk)⟩
theorem fF.below{w w':World}{b:Nat}{t:aG}(h:fF w b t)(hb:Below w.heap.size w w'):fF w' b t:=
 ⟨anW h.lt hb.size,fun k hk=>by rw[hb.cell h.lt];exact h.cl k hk⟩
theorem fF.cells{w:World}{b:Nat}{t:aG}(h:fF w b t):w.cell? ⟨b,0,none⟩=some (.int .i64 t.af)/\w.cell? ⟨b,1,none⟩=some (.string (tx t.name))/\w.cell? ⟨b,2,none⟩=some (.string (tx t.bD))/\w.cell? ⟨b,3,none⟩=some (.slice t.ia t.init.length t.ic)/\w.cell? ⟨b,4,none⟩=some (.slice t.ca t.code.length t.cc)/\w.cell? ⟨b,5,none⟩=some (.int .i64 t.q)/\w.cell? ⟨b,6,none⟩=some (.int .i64 t.node.kind)/\w.cell? ⟨b,7,none⟩=some (.int .i64 t.node.th.thread)/\w.cell? ⟨b,8,none⟩=some (.int .i64 t.node.th.az)/\w.cell? ⟨b,9,none⟩=some (.string (tx t.node.th.loc))/\w.cell? ⟨b,10,none⟩=some (.int .i64 t.node.val)/\w.cell? ⟨b,11,none⟩=some (.slice t.node.a t.node.kids.length t.node.c):=
 ⟨h.cl 0 (by omega),h.cl 1 (by omega),h.cl 2 (by omega),h.cl 3 (by omega),h.cl 4 (by omega),h.cl 5 (by omega),h.cl 6 (by omega),h.cl 7 (by omega),h.cl 8 (by omega),h.cl 9 (by omega),h.cl 10 (by omega),h.cl 11 (by omega)⟩
structure xe(w:World)(x:Cd):Prop where
 is:Is w x.a x.l
 cap:x.l.length<=x.c
 rO: ∀i∈x.l,i.loc.length<=9223372036854775807/\i.label.length<=9223372036854775807
def mz(n:Int):Prop:= -9223372036854775808<=n/\n<=9223372036854775807
structure iT(w:World)(t:aG):Prop where
 name:t.name.length<=9223372036854775807
 bD:t.bD.length<=9223372036854775807
 init:bK fN w t.ia t.init
 UX:t.init.length<=t.ic
 rO: ∀x∈t.init,x.loc.length<=9223372036854775807/\x.aT.length<=9223372036854775807
 wide: ∀x∈t.init,mz x.thread/\mz x.az
 code:bK qa w t.ca t.code
 Rj:t.code.length<=t.cc
 rows: ∀x∈t.code,xe w x
 node:fW w t.node
theorem xe.keep{w w':World}{x:Cd}(h:xe w x)(hb:Below w.heap.size w w'):xe w' x:=⟨h.is.below hb,h.cap,h.rO⟩
theorem iT.keep{w w':World}{t:aG}(h:iT w t)(hb:Below w.heap.size w w'):iT w' t:=
 ⟨h.name,h.bD,h.init.below hb,h.UX,h.rO,h.wide,h.code.below hb,h.Rj,fun x hx=>(h.rows x hx).keep hb,h.node.keep hb⟩
def gK(l:List Cd):List (List ay):=l.map (·.l)
theorem xK{l:List Cd}{k:Nat}{x:Cd}(h:l[k]? =some x):(gK l)[k]? =some x.l:=by unfold gK;rw[anA,h];rfl
theorem Ba(l:List Cd):(gK l).length=l.length:=by unfold gK;simp
theorem Mw{α:Type}{a b:List α}(hl:a.length=b.length)(h: ∀k,k<a.length->a[k]? =b[k]?):a=b:=by
 refine an0 fun k=>?_
 by_cases hk:k<a.length
 ·exact h k hk
 rw[anI (by omega),anI (by omega)]
def fL(w:World)(b:Nat)(l:List Value)(T:TypeId):Prop:=w.heap[b]? =some (.cells l.toArray T (0,0))
theorem fL.new(w:World)(us:Array Value)(T:TypeId):fL (w.alloc (.cells us T)) w.heap.size us.toList T:=heap_alloc_new w _
theorem fL.lt{w:World}{b:Nat}{l:List Value}{T:TypeId}(h:fL w b l T):b<w.heap.size:=(Array.getElem?_eq_some_iff.1 h).1
theorem fL.below{w w':World}{b:Nat}{l:List Value}{T:TypeId}(h:fL w b l T)(hb:Below w.heap.size w w'):fL w' b l T:=by
 unfold fL;rw[hb.block b h.lt];exact h
theorem fL.get{w:World}{b:Nat}{l:List Value}{T:TypeId}(h:fL w b l T)(k:Nat)(v:Value)(hk:l[k]? =some v):w.cell? ⟨b,k,none⟩=some v:=by
 rw[Lib.cell_of_heap h k];simpa using hk
theorem fL.frozen{w:World}{b:Nat}{l:List Value}{T:TypeId}(h:fL w b l T)(k:Nat):w.frozen? ⟨b,k,none⟩=false:=Lib.frozen_of_heap h k
theorem Bg{α:Type}(p:α->Bool): ∀x:List α,(x.dropWhile p).length<=x.length
 |[]=>by simp
 | a::r=>by
   rw[anV];split
   ·have:=Bg p r;simp;omega
   exact anb _
theorem J0{α:Type}(p:α->Bool)(x:List α):x.dropWhile p=x<-> ∀a,x.head?=some a->p a=false:=by
 cases x with
 |nil=>simp
 | cons a r=>
   rw[anV];cases h:p a
   ·simp[h]
   simp only[if_true,List.head?_cons,anP]
   constructor
   ·intro e
    have h1:=Bg p r;have h2:=congrArg anO e;simp at h2;omega
   intro e
   have:=e a rfl;rw[h]at this;cases this
theorem alB(l:Tx):anT l 32=l<->rA l=true:=by
 have hR:anz l 32=l<-> ∀a,l.getLast?=some a->(a==32)=false:=by
  rw[<-anX,<-J0];unfold anz
  constructor
  ·intro e
   have:=congrArg List.reverse e
   rwa[anU]at this
  intro e
  rw[e,anU]
 have hL: ∀r:Tx,Lib.trimLeftB r 32=r<-> ∀a,r.head?=some a->(a==32)=false:=fun r=>by
  rw[<-J0];rfl
 have amN:(anz l 32).length<=l.length:=by
  unfold anz;have:=Bg (· ==(32:UInt8)) l.reverse;rw[anN]at this⊢;exact this
 have adU:anT l 32=l->anz l 32=l:=by
  intro e;rw[hR,<-anX,<-J0];have h1:=congrArg anO e;unfold anT Lib.trimLeftB at h1;have h2:=Bg (· ==(32:UInt8)) (anz l 32)
  have h3:(l.reverse.dropWhile (· ==(32:UInt8))).length=l.reverse.length:=by
   have:(anz l 32).length=(l.reverse.dropWhile (· ==(32:UInt8))).length:=by unfold anz;rw[anN]
   have h4:=Bg (· ==(32:UInt8)) l.reverse;rw[anN]at h4⊢;omega
  exact(List.dropWhile_suffix _).eq_of_length h3
 have hfl:rA l=true<->(∀a,l.head?=some a->(a==32)=false)/\(∀a,l.getLast?=some a->(a==32)=false):=by
  unfold rA;cases l with
  |nil=>simp
  | cons c r=>
    have:(c::r).getLast?=some ((c::r).getLast (by simp)):=List.getLast?_eq_some_getLast (by simp);rw[this];simp
 rw[hfl]
 constructor
 ·intro e
  have h1:=adU e;have h2:Lib.trimLeftB l 32=l:=by unfold anT at e;rwa[h1]at e
  exact⟨(hL l).1 h2,hR.1 h1⟩
 rintro⟨h1,h2⟩
 unfold anT;rw[hR.2 h2];exact(hL l).2 h1
theorem RE{t:aG}(h:t.code.length<1\/16<t.code.length):dF t=2:=by unfold dF;rw[if_pos h]
theorem RA{t:aG}{k:Nat}{x:Cd}(h: ¬(t.code.length<1\/16<t.code.length))(hx:t.code[k]? =some x)(hl:256<x.l.length):dF t=2:=by
 unfold dF;rw[if_neg h,if_pos];rw[an1];exact⟨x,anw hx,by simpa using hl⟩
theorem RH{t:aG}(h: ¬(t.code.length<1\/16<t.code.length))(hl: ∀(k:Nat) (x:Cd),t.code[k]? =some x->x.l.length<=256):dF t=kn t.af t.code:=by
 unfold dF;rw[if_neg h,if_neg];rw[an1];rintro⟨x,hx,h2⟩;obtain⟨k,hk⟩:=anJ.1 hx;have:=hl k x hk;simp at h2;omega
theorem YY{af:Int}{l:List Cd}{k:Nat}{x:Cd}(hk:l[k]? =some x):kn af (l.drop k)=if nP af x.l=0 then kn af (l.drop (k+1))else nP af x.l:=by
 obtain⟨hlt,rfl⟩:=anx.1 hk;rw[List.drop_eq_getElem_cons hlt,kn]
theorem YZ{af:Int}{l:List Cd}:kn af (l.drop l.length)=0:=by rw[List.drop_length];rfl
theorem YL{af:Int}{l:List ay}{k:Nat}{i:ay}(hk:l[k]? =some i)(h:nI af i=false):nP af l=91:=by
 unfold nP;rw[if_neg];intro h2;rw[anF]at h2;rw[h2 i (anw hk)]at h;cases h
theorem YK{af:Int}{l:List ay}(h: ∀(k:Nat) (i:ay),l[k]? =some i->nI af i=true):nP af l=if af=2 then(jg l).2.1 else 0:=by
 unfold nP;rw[if_pos];rw[anF];intro i hi;obtain⟨k,hk⟩:=anJ.1 hi;exact h k i hk
def xg(t:aG)(k:Nat):Prop:= ∀(i:Nat) (x:aL),i<k->t.init[i]? =some x->lF t.af t.code.length x=true
def xd(t:aG)(k:Nat):Prop:= ∀(i j:Nat) (x y:aL),i<j->j<k->t.init[i]? =some x->t.init[j]? =some y->gN x≠gN y
theorem QY{t:aG}(h:1024<t.init.length):iV t=2:=by unfold iV;rw[if_pos h]
theorem QX{t:aG}{k:Nat}{x:aL}(h: ¬1024<t.init.length)(hx:t.init[k]? =some x)(hf:lF t.af t.code.length x=false):iV t=130:=by
 unfold iV;rw[if_neg h,if_neg];intro h2;rw[anS,anF]at h2;rw[h2.1 x (anw hx)]at hf;cases hf
theorem Q0{t:aG}{j k:Nat}{x y:aL}(h: ¬1024<t.init.length)(hjk:j<k)(hy:t.init[j]? =some y)(hx:t.init[k]? =some x)(he:gN y=gN x):iV t=130:=by
 unfold iV;rw[if_neg h,if_neg];intro h2;rw[anS,decide_eq_true_eq]at h2;have h3:=anR.1 h2.2;obtain⟨h4,rfl⟩:=anx.1 hx;obtain⟨h5,rfl⟩:=anx.1 hy;refine h3 j k (by rw[anL];exact h5) (by rw[anL];exact h4) hjk ?_;rw[anG,anG];exact he
theorem QZ{t:aG}(h: ¬1024<t.init.length)(hf:xg t t.init.length)(ha:xd t t.init.length):iV t=0:=by
 unfold iV;rw[if_neg h,if_pos];rw[anS,decide_eq_true_eq,anF];refine⟨fun x hx=>?_,anR.2 fun i j hi hj hij=>?_⟩
 ·obtain⟨k,hk⟩:=anJ.1 hx
  exact hf k x (anx.1 hk).1 hk
 rw[anL]at hj
 rw[anG,anG];exact ha i j _ _ hij hj (am9 _) (am9 _)
theorem xg.snoc{t:aG}{k:Nat}{x:aL}(h:xg t k)(hx:t.init[k]? =some x)(hf:lF t.af t.code.length x=true):xg t (k+1):=fun i y hi hy=>by
 rcases anv.1 hi with h1|h1
 ·exact h i y h1 hy
 subst h1;rw[hx]at hy;cases hy;exact hf
theorem xd.snoc{t:aG}{k:Nat}{x:aL}(h:xd t k)(hx:t.init[k]? =some x)(hf: ∀(i:Nat) (y:aL),i<k->t.init[i]? =some y->gN y≠gN x):xd t (k+1):=fun i j y z hij hj hy hz=>by
 rcases anv.1 hj with h1|h1
 ·exact h i j y z hij h1 hy hz
 subst h1;rw[hx]at hz;cases hz;exact hf i y hij hy
theorem Vy(x y:aL):gN y=gN x<->(x.thread=y.thread/\x.az=y.az/\x.loc=y.loc):=by
 unfold gN;simp only[Th.mk.injEq]
 constructor
 ·rintro⟨a,b,c⟩;exact⟨a.symm,b.symm,c.symm⟩
 rintro⟨a,b,c⟩;exact⟨a.symm,b.symm,c.symm⟩
theorem V9: ∀a b:Tx,a<b<->cm a b=true
 |[],[]=>by simp[cm]
 |[],y::s=>by simp[cm]
 |x::r,[]=>by simp[cm]
 | x::r,y::s=>by
   rw[List.cons_lt_cons_iff,V9 r s,cm]
   by_cases h:x<y
   ·simp[h]
   by_cases h2:y<x
   ·simp only[h,false_or,if_false,h2,if_true,Bool.false_eq_true,iff_false,not_and]
    intro e;subst e;exact absurd h2 (Oz x)
   have:=Dy h h2;subst this
   simp[h]
theorem Mh(a b:Tx):decide (a<=b)= !cm b a:=by
 rw[Bool.eq_iff_iff,decide_eq_true_eq,anQ,<-Bool.not_eq_true,<-V9];exact List.not_lt.symm
def nS(l:List Tx):List Tx:=l.mergeSort fun x y=>decide (x<=y)
def oP(l:List Tx):Prop:=l.Pairwise fun a b=>cm a b=true
theorem L2{t:Tx}{z:Tx}: ∀{l:List Tx},z∈kg t l<->z=t\/z∈l
 |[]=>by simp[kg]
 | y::r=>by
   unfold kg;split
   ·simp
   simp only[anE,L2 (l:=r)]
   constructor
   ·rintro(h|h|h)
    ·exact .inr (.inl h)
    ·exact .inl h
    exact .inr (.inr h)
   rintro(h|h|h)
   ·exact .inr (.inl h)
   ·exact .inl h
   exact .inr (.inr h)
theorem ahF{t:Tx}{z:Tx}{l:List Tx}:z∈ir l t<->(z=t/\t≠[])\/z∈l:=by
 unfold ir
 by_cases h0:t=[]
 ·rw[if_pos h0];simp[h0]
 rw[if_neg h0]
 split
 ·rename_i h
  constructor
  ·exact .inr
  rintro(⟨rfl, -⟩|h')
  ·exact h
  exact h'
 rw[L2];simp[h0]
theorem Vi{t:Tx}: ∀{l:List Tx},t∉l->oP l->oP (kg t l)
 |[],_,_=>by unfold kg oP;simp
 | y::r,hn,h=>by
   obtain⟨a1,b1⟩:=anD.1 h;unfold kg
   by_cases hb:cm t y=true
   ·rw[if_pos hb]
    unfold oP;rw[anD];refine⟨fun z hz=>?_,h⟩;rcases anE.1 hz with rfl|hz
    ·exact hb
    exact Cp hb (a1 z hz)
   rw[if_neg hb]
   unfold oP;rw[anD];refine⟨fun z hz=>?_,Vi (fun h=>hn (by simp[h])) b1⟩;rcases L2.1 hz with rfl|hz
   ·by_cases h2:cm y z=true
    ·exact h2
    have:=Cq (by simpa using hb) (by simpa using h2)
    exact absurd (by rw[this];simp) hn
   exact a1 z hz
theorem ahG{t:Tx}{l:List Tx}(h:oP l):oP (ir l t):=by
 unfold ir;split
 ·exact h
 split
 ·exact h
 rename_i hn;exact Vi hn h
theorem Tb: ∀(l acc:List Tx),oP acc->oP (fO acc l)/\ ∀z,z∈fO acc l<->(z∈l/\z≠[])\/z∈acc
 |[],acc,h=>⟨h,fun z=>by unfold fO;simp⟩
 | s::r,acc,h=>by
   obtain⟨h1,h2⟩:=Tb r (ir acc s) (ahG h);refine⟨h1,fun z=>?_⟩;show z∈fO (ir acc s) r<->_;rw[h2,ahF]
   constructor
   ·rintro(⟨a,b⟩|⟨rfl,b⟩|a)
    ·exact .inl ⟨by simp[a],b⟩
    ·exact .inl ⟨by simp,b⟩
    exact .inr a
   rintro(⟨a,b⟩|a)
   ·rcases anE.1 a with rfl|a
    ·exact .inr (.inl ⟨rfl,b⟩)
    exact .inl ⟨a,b⟩
   exact .inr (.inr a)
def xN(l:List Tx):List Tx:=if l.head?=some []then l.drop 1 else l
theorem afB(b:Tx):cm b []=false:=by cases b<;>simp[cm]
theorem acr{l:List Tx}(h:oP l):oP (xN l)/\ ∀z,z∈xN l<->z∈l/\z≠[]:=by
 unfold xN;cases l with
 |nil=>exact⟨h,fun z=>by simp⟩
 | cons y r=>
   obtain⟨a1,b1⟩:=anD.1 h
   have hr: ∀z∈r,z≠[]:=fun z hz e=>by
    have:=a1 z hz;rw[e,afB]at this;cases this
   by_cases hy:y=[]
   ·subst hy
    rw[if_pos (show([]::r).head?=some []from rfl)];refine⟨b1,fun z=>?_⟩;simp only[List.drop_one,List.tail_cons,anE];exact⟨fun hz=>⟨.inr hz,hr z hz⟩,fun⟨hz,hn⟩=>hz.resolve_left hn⟩
   rw[if_neg (by simpa using hy)]
   refine⟨h,fun z=>⟨fun hz=>⟨hz,?_⟩,fun hz=>hz.1⟩⟩;rcases anE.1 hz with rfl|hz
   ·exact hy
   exact hr z hz
theorem akG(l:List Tx):xN (cZ (nS l))=fO [] l:=by
 have hs:=List.pairwise_mergeSort (le:=fun x y:Tx=>decide (x<=y)) (fun a b c hab hbc=>by
  simp only[Mh,anQ]at*;cases hca:cm c a with
  |false=>rfl
  | true=>
    cases hcb:cm c b with
    |true=>rw[hcb]at hbc;cases hbc
    | false=>
      cases BD:cm b c with
      |true=>have:=Cp BD hca;rw[this]at hab;cases hab
      |false=>have:=Cq BD hcb;subst this;rw[hca]at hab;cases hab)
  (fun a b=>by
   simp only[Mh];cases h1:cm b a with
   |true=>rw[Mz h1];rfl
   |false=>rfl) l
 have hr:oP (cZ (nS l)):=JK (lt:=fun a b=>cm a b=true) (fun _ _ _=>Cp) (hs.imp (fun {a b} hab=>by
  simp only[Mh,anQ]at hab;cases h1:cm a b with
  |true=>exact .inr rfl
  |false=>exact .inl (Cq h1 hab)))
 obtain⟨c1,c2⟩:=acr hr;obtain⟨f1,f2⟩:=Tb l [] List.Pairwise.nil;refine NK (lt:=fun a b=>cm a b=true) (fun a h=>by rw[MB]at h;cases h) (fun a b h h'=>by rw[Mz h]at h';cases h') c1 f1 fun z=>?_
 rw[c2,f2,JJ];unfold nS;rw[List.mem_mergeSort];simp
theorem abn(l:List Tx):Lib.compact l=cZ l:=by
 have key: ∀m,m<=l.length->Lib.compactUpTo l.toArray m=cZ (l.take m):=by
  intro m
  induction m with
  |zero=>intro _;rfl
  | succ m ih=>
    intro hm;rw[Lib.compactUpTo_succ,ih (by omega)];have e1:l.take (m+1)=l.take m++[l[m]'(by omega)]:=anH (by omega);have g:l.toArray[m]! =l[m]'(by omega):=by rw[getElem!_pos l.toArray m ah];rfl
    cases m with
    | zero=>
      rw[e1,show Lib.keeps l.toArray 0=true from rfl,if_pos rfl,g];rfl
    | succ k=>
      have e0:l.take (k+1)=l.take k++[l[k]'(by omega)]:=anH (by omega);have g0:l.toArray[k]! =l[k]'(by omega):=by rw[getElem!_pos l.toArray k ah];rfl
      rw[e1,e0,JL];unfold Lib.keeps;rw[show k+1-1=k from rfl,g,g0]
      by_cases h:l[k+1]=l[k]'(by omega)
      ·rw[if_pos h];simp[h]
      rw[if_neg h];simp[h]
 unfold Lib.compact;rw[key _ (anb _),List.take_length]
open Go.Maps Go.WideMaps
theorem Mg:Keyed prog 25:=Keyed.of_law (deep_law_gate aN (anK aN) (Nat.lt_of_succ_le (anK aN)) aN aN)
def kT(x:Th):Lit:=.string (keyBytes [.int .i64 x.thread,.int .i64 x.az,.string x.loc])
theorem Z8{n:Int}(h:mz n):(Lit.int .i64 n).wf=true:=WalkArith.wf_i64 (by unfold mz at h;omega)
theorem Mc(x:Th)(h1:mz x.thread)(h2:mz x.az)(h3:x.loc.length<=9223372036854775807):keyOf prog 25 (ko x)=some (kT x):=by
 have hk:prog.keyType 25=true:=by kernel_rfl
 have hc:prog.cellsOf 25=3:=by kernel_rfl
 have hi:prog.cellsOf 3=1:=by kernel_rfl
 have hs:prog.cellsOf 9=1:=by kernel_rfl
 have h1s:1<=prog.types.size:=anK aN;obtain⟨m,hm⟩: ∃m,prog.types.size=m+1:=⟨_,(Nat.sub_add_cancel h1s).symm⟩;unfold keyOf;rw[underlying25];simp only[hk,Value.formed,underlying25,hc];rw[hm];simp[Program.keyLits,underlying25,hc,hi,hs,underlying3,underlying9,Value.cells,Z8 h1,Z8 h2,kT,aM];rw[if_pos (show x.loc.length<=maxLen from h3),jk];rfl
theorem aeB{x y:Th}(h1:mz x.thread)(h2:mz x.az)(h3:x.loc.length<=9223372036854775807)(g1:mz y.thread)(g2:mz y.az)(g3:y.loc.length<=9223372036854775807)(h:kT x=kT y):x=y:=by
 have e:=Mg.inj (Mc x h1 h2 h3) (by rw[h];exact Mc y g1 g2 g3);simp only[ko,Value.agg.injEq,Array.mk.injEq,List.cons.injEq,Value.int.injEq,Value.string.injEq,and_true,true_and,alP]at e;exact(On x y).2 ⟨e.1,e.2.1,e.2.2⟩
def vt(t:aG)(k:Nat)(D:DataW Unit):Prop:=
 ∀ x:Th,mz x.thread->mz x.az->x.loc.length<=9223372036854775807->
   (∀(i:Nat) (y:aL),i<k->t.init[i]? =some y->gN y=x-> ∃c:Int,0<c/\c<2000/\D.atKey (kT x) (.lit (.int .i64 0))= .lit (.int .i64 c))/\
   ((∀(i:Nat) (y:aL),i<k->t.init[i]? =some y->gN y≠x)->D.atKey (kT x) (.lit (.int .i64 0))= .lit (.int .i64 0))
theorem aex(x:Th):WideAt.IsKeyLit (kT x):=by unfold kT;trivial
theorem vt.nil{t:aG}:vt t 0 (.map []):=fun x _ _ _=>⟨fun i y hi=>absurd hi (anC i),fun _=>rfl⟩
theorem vt.put{t:aG}{k:Nat}{D:DataW Unit}{x:aL}(h:vt t k D)(hm:IsMap D)(hx:t.init[k]? =some x)(hk:k<1024)(w1:mz x.thread)(w2:mz x.az)(w3:x.loc.length<=9223372036854775807):
 vt t (k+1) (D.put (kT (gN x)) (.lit (.int .i64 ((k:Int)+1)))):=by
 intro z z1 z2 z3;obtain⟨h1,h2⟩:=h z z1 z2 z3
 by_cases he:gN x=z
 ·subst he
  refine⟨fun i y hi hy e=>⟨(k:Int)+1,by omega,by omega,by rw[atKey_put_same hm (aex _)]⟩,fun hn=>absurd rfl (hn k x (by omega) hx)⟩
 have hne:kT z≠kT (gN x):=fun e=>he (aeB w1 w2 w3 z1 z2 z3 e.symm)
 refine⟨fun i y hi hy e=>?_,fun hn=>?_⟩
 ·rw[atKey_put_other hne]
  rcases anv.1 hi with h3|h3
  ·exact h1 i y h3 hy e
  subst h3;rw[hx]at hy;cases hy;exact absurd e he
 rw[atKey_put_other hne]
 exact h2 fun i y hi hy=>hn i y (by omega) hy
def Seen(w:World)(b n:Nat)(D:DataW Unit):Prop:=w.ownsMap prog 25 (plainElem (H:=Unit) prog 3) b n D
theorem Seen.below{w w':World}{b n:Nat}{D:DataW Unit}(h:Seen w b n D)(hb:Below w.heap.size w w'):Seen w' b n D:=
 World.ownsMap.kept h ⟨hb.os,hb.tape,hb.output,hb.size,fun k hk _=>hb.block k hk⟩ (row:=none) (by simp)
theorem amn(w:World):(zeroValue 3).run prog w= .ok (.int .i64 0) w:=by kernel_rfl
theorem ad5(x y:aL):(x=y)<->(x.thread=y.thread/\x.az=y.az/\x.loc=y.loc/\x.aT=y.aT/\x.n=y.n):=by
 cases x;cases y;simp
theorem J3(x y:aL)(w:World):(binOp .eql 56 (lQ x) (lQ y)).run prog w= .ok (.bool (decide (x=y))) w:=by
 have hS:prog.underlying 56=some (.struct (prog.fieldsOf 56)):=by kernel_rfl
 have hp:prog.stoodInHeld 56=false:=by kernel_rfl
 have hS2:prog.underlying 54=some (.struct (prog.fieldsOf 54)):=by kernel_rfl
 have uD:prog.stoodInHeld 54=false:=by kernel_rfl
 have a3:=isAgg3;have z3:=sizeOf3;have u3:=underlying3;have a4:=isAgg9;have z4:=sizeOf9;have u4:=underlying9;have a5:=isAgg54;have z5:=sizeOf54;have u5:=underlying54;rw[run_eql_struct,show(10000:Nat)=9999+1 from rfl,run_equalIn_agg w 9999 56 _ _ hS hp];simp only[an2,underlying56]
 have hin: ∀w,(Op.equalIn 9999 54 (.agg #[.string (tx x.aT),.int .i64 x.n]) (.agg #[.string (tx y.aT),.int .i64 y.n])).run prog w= .ok (decide (x.aT=y.aT/\x.n=y.n)) w:=fun w=>by
  rw[show(9999:Nat)=9998+1 from rfl,run_equalIn_agg w 9998 54 _ _ hS2 uD];simp only[an2,underlying54]
  go_simp
  simp only[bh]
  by_cases h1:x.aT=y.aT<;>by_cases h2:x.n=y.n<;>simp[h1,h2]
 go_simp
 rw[show decide (x=y)=decide (x.thread=y.thread/\x.az=y.az/\x.loc=y.loc/\x.aT=y.aT/\x.n=y.n)from decide_eq_decide.2 (ad5 x y)];simp only[bh]
 by_cases h1:x.thread=y.thread<;>by_cases h2:x.az=y.az<;>by_cases h6:x.loc=y.loc<;>by_cases h7:x.aT=y.aT<;>by_cases h8:x.n=y.n<;>simp[h1,h2,h6,h7,h8]
theorem Wn(x y:aL)(w:World):(binOp .neq 56 (lQ x) (lQ y)).run prog w= .ok (.bool (!decide (x=y))) w:=by
 have h:=J3 x y w;rw[run_eql_struct]at h;rw[run_neq_struct];generalize (Op.equalIn 10000 56 (.agg #[.int .i64 x.thread,.int .i64 x.az,.string (tx x.loc),.string (tx x.aT),.int .i64 x.n]) (.agg #[.int .i64 y.thread,.int .i64 y.az,.string (tx y.loc),.string (tx y.aT),.int .i64 y.n])).run prog w=r at*;cases r with
 |ok b w'=>simp[Result.andThen]at h ⊢; obtain⟨rfl,rfl⟩:=h;exact⟨rfl,rfl⟩
 |halt x w'=>simp[Result.andThen]at h
attribute [local go_sem high] qd gP
theorem aid(l m:List Cd)(a b:Option Addr)(c d:Nat)(w:World)(h1:bK qa w a l)(h2:bK qa w b m)(g1: ∀x∈l,xe w x)(g2: ∀x∈m,xe w x):
 Calls prog 38 #[.slice a l.length c,.slice b m.length d] w (aJ w (.bool (decide (gK l=gK m)))):=by
 by_cases rH:l.length=m.length
 ·obtain⟨n,hn⟩:=aj l.length
  have hnn:n<=1000000000000000000:=by rw[<-hn];exact h1.len
  have HN:=hid hn;have HM:=hid (rH.symm.trans hn);have H1:=hid h1;have H2:=hid h2;have G1:=hid g1;have G2:=hid g2;rw[hn];rw[HM.out];clear hn rH h1 h2 g1 g2;go_in;go_wp2_with fail
  go_loopw [5] (fun i wr=> ∃j:Nat,j<=n/\i= .int .i64 j/\Below w.heap.size w wr/\Hid (∀k:Nat,k<j->(gK l)[k]? =(gK m)[k]?)) (fun i _=>n-(intOf i).toNat)
  ·exact⟨0,by omega,rfl,anM _ _,fun k hk=>absurd hk (anC k)⟩
  obtain⟨j,hj,rfl,E,HJ⟩:=hrel
  by_cases hjt:j<n
  ·obtain⟨x,hx⟩: ∃x,l[j]? =some x:=⟨_,am9 (by rw[HN.out];exact hjt)⟩
   obtain⟨y,hy⟩: ∃y,m[j]? =some y:=⟨_,am9 (by rw[HM.out];exact hjt)⟩;have p0:=(H1.out.below E).cd hx;have q0:=(H2.out.below E).cd hy;have ix:=H1.out.sO j (by rw[HN.out];exact hjt) c;have iy:=H2.out.sO j (by rw[HM.out];exact hjt) d;rw[HN.out]at ix;rw[HM.out]at iy;have HX:=hid (anY hx hy);have IX:=hid (G1.out x (anw hx)).is;have IY:=hid (G2.out y (anw hy)).is;clear hx hy;obtain⟨nx,iJ⟩:=aj x.l.length;obtain⟨ny,hny⟩:=aj y.l.length;have amU:nx<=1000000000000000000:=by rw[<-iJ];exact IX.out.len
   rw[iJ]at p0;rw[hny]at q0;have mc:=hid iJ;have xp:=hid hny;clear iJ hny
   by_cases hxy:nx=ny
   ·have z:((nx:Int) != (ny:Int))=false:=by simp[hxy]
    subst hxy;go_wp2_with fail;have p0:=cell_regrown p0;have q0:=cell_regrown q0;refine wp_region_quiet_below aN aN ?_
    repeat(go_big_quiet_step (fail))
    refine wpQuiet_nil ?_;intro _ hw';obtain⟨⟨dq,cH⟩,hw''⟩:=hw';subst hw'';have EQ:=below_regrown wr dq cH;generalize grow (redrawn wr dq) cH=W5 at*;have E:=E.trans (EQ.mono E.size);clear p0 q0 EQ;go_wp2_with fail
    go_loopw [6] (fun i wr=> ∃k:Nat,k<=nx/\i= .int .i64 k/\Below w.heap.size w wr/\Hid (∀q:Nat,q<k->x.l[q]? =y.l[q]?)) (fun i _=>nx-(intOf i).toNat)
    ·exact⟨0,by omega,rfl,E,fun k hk=>absurd hk (anC k)⟩
    clear E;obtain⟨k,hk,rfl,E,HK⟩:=hrel;have p0:=(H1.out.below E).cd HX.out.1;have q0:=(H2.out.below E).cd HX.out.2;rw[mc.out]at p0;rw[xp.out]at q0
    by_cases hkt:k<nx
    ·obtain⟨i,hi⟩: ∃i,x.l[k]? =some i:=⟨_,am9 (by rw[mc.out];exact hkt)⟩
     obtain⟨i',hi'⟩: ∃i',y.l[k]? =some i':=⟨_,am9 (by rw[xp.out];exact hkt)⟩;obtain⟨r0,r1,r2,r3,r4,r5,r6,r7⟩:=(IX.out.below E).cells hi;obtain⟨s0,s1,s2,s3,s4,s5,s6,s7⟩:=(IY.out.below E).cells hi';have jx:=IX.out.idx k (by rw[mc.out];exact hkt) x.c;have jy:=IY.out.idx k (by rw[xp.out];exact hkt) y.c;rw[mc.out]at jx;rw[xp.out]at jy;have HI:=hid (anY hi hi');clear hi hi';have DD:decide (i=i')=true\/decide (i=i')=false:=by cases decide (i=i')<;>simp
     rcases DD with hd|hd
     ·have jJ:(!decide (i=i'))=false:=by rw[hd];rfl
      have cE:=hid (show ∀q:Nat,q<k+1->x.l[q]? =y.l[q]? from fun q hq=>by
       rcases anv.1 hq with h|h
       ·exact HK.out q h
       subst h;rw[HI.out.1,HI.out.2,of_decide_eq_true hd])
      go_wp2_with fail;have p0:=cell_regrown p0;have q0:=cell_regrown q0;have r0:=cell_regrown r0;have r1:=cell_regrown r1;have r2:=cell_regrown r2;have r3:=cell_regrown r3;have r4:=cell_regrown r4;have r5:=cell_regrown r5;have r6:=cell_regrown r6;have r7:=cell_regrown r7;have s0:=cell_regrown s0;have s1:=cell_regrown s1;have s2:=cell_regrown s2;have s3:=cell_regrown s3;have s4:=cell_regrown s4;have s5:=cell_regrown s5;have s6:=cell_regrown s6;have s7:=cell_regrown s7;refine wp_region_quiet_below aN aN ?_
      repeat(go_big_quiet_step (fail))
      refine wpQuiet_nil ?_;intro _ hw';obtain⟨⟨dq,cH⟩,hw''⟩:=hw';subst hw'';have EQ:=below_regrown wr dq cH;generalize grow (redrawn wr dq) cH=W6 at*;have E:=E.trans (EQ.mono E.size);clear p0 q0 r0 r1 r2 r3 r4 r5 r6 r7 s0 s1 s2 s3 s4 s5 s6 s7 EQ jx jy;go_wp2_with fail
      go_roundw;exact⟨k+1,by omega,by go_num,E,cE⟩;simp[intOf];omega
     have jJ:(!decide (i=i'))=true:=by rw[hd];rfl
     have HZ:=hid (show decide (gK l=gK m)=false by
      rw[decide_eq_false_iff_not];intro e;have h1:=xK HX.out.1;have h2:=xK HX.out.2;rw[e,h2]at h1;simp only[anP]at h1;have h3:=HI.out.1;have h4:=HI.out.2;rw[h1]at h4;rw[h4]at h3;exact of_decide_eq_false hd (an4 h3).symm)
     go_wp2_with fail;have p0:=cell_regrown p0;have q0:=cell_regrown q0;have r0:=cell_regrown r0;have r1:=cell_regrown r1;have r2:=cell_regrown r2;have r3:=cell_regrown r3;have r4:=cell_regrown r4;have r5:=cell_regrown r5;have r6:=cell_regrown r6;have r7:=cell_regrown r7;have s0:=cell_regrown s0;have s1:=cell_regrown s1;have s2:=cell_regrown s2;have s3:=cell_regrown s3;have s4:=cell_regrown s4;have s5:=cell_regrown s5;have s6:=cell_regrown s6;have s7:=cell_regrown s7;refine wp_region_quiet_below aN aN ?_
     repeat(go_big_quiet_step (fail))
     refine wpQuiet_nil ?_;intro _ hw';obtain⟨⟨dq,cH⟩,hw''⟩:=hw';subst hw'';have EQ:=below_regrown wr dq cH;generalize grow (redrawn wr dq) cH=W6 at*;have E:=E.trans (EQ.mono E.size);clear p0 q0 r0 r1 r2 r3 r4 r5 r6 r7 s0 s1 s2 s3 s4 s5 s6 s7 EQ jx jy;go_wp2_with fail;go_ret;exact⟨aQ HZ.out.symm,E⟩
    have gT:=hid (show ∀q:Nat,q<j+1->(gK l)[q]? =(gK m)[q]? from fun q hq=>by
     rcases anv.1 hq with h|h
     ·exact HJ.out q h
     subst h
     rw[xK HX.out.1,xK HX.out.2];exact congrArg some (Mw (by rw[mc.out,xp.out]) fun r hr=>HK.out r (by rw[mc.out]at hr;omega)))
    go_wp2_with fail
    go_roundw;exact⟨j+1,by omega,by go_num,E,gT⟩;simp[intOf];omega
   have z:((nx:Int) != (ny:Int))=true:=ah
   have HZ:=hid (show decide (gK l=gK m)=false by
    rw[decide_eq_false_iff_not];intro e;have h1:=xK HX.out.1;have h2:=xK HX.out.2;rw[e,h2]at h1;simp only[anP]at h1;exact hxy (by rw[<-mc.out,<-xp.out,h1]))
   clear hxy;go_wp2_with fail;have p0:=cell_regrown p0;have q0:=cell_regrown q0;refine wp_region_quiet_below aN aN ?_
   repeat(go_big_quiet_step (fail))
   refine wpQuiet_nil ?_;intro _ hw';obtain⟨⟨dq,cH⟩,hw''⟩:=hw';subst hw'';have EQ:=below_regrown wr dq cH;generalize grow (redrawn wr dq) cH=W5 at*;have E:=E.trans (EQ.mono E.size);go_wp2_with fail;go_ret;exact⟨aQ HZ.out.symm,E⟩
  obtain rfl:j=n:=by omega
  have HZ:=hid (show decide (gK l=gK m)=true by
   rw[decide_eq_true_eq];exact Mw (by rw[Ba,Ba,HN.out,HM.out]) fun k hk=>HJ.out k (by rw[Ba,HN.out]at hk;exact hk))
  go_wp2_with fail;go_ret;exact⟨aQ HZ.out.symm,E⟩
 have HZ:=hid (show decide (gK l=gK m)=false by rw[decide_eq_false_iff_not];intro e;have:=congrArg anO e;rw[Ba,Ba]at this;exact rH this)
 have z:((l.length:Int) != m.length)=true:=ah;clear rH;go_in;go_wp2_with fail;go_ret;exact⟨aQ HZ.out.symm,anM _ _⟩
attribute [local go_sem high] Wn J3
theorem aie(l m:List aL)(a b:Option Addr)(c d:Nat)(w:World)(h1:bK fN w a l)(h2:bK fN w b m):
 Calls prog 37 #[.slice a l.length c,.slice b m.length d] w (aJ w (.bool (decide (l=m)))):=by
 by_cases rH:l.length=m.length
 ·obtain⟨n,hn⟩:=aj l.length
  have hnn:n<=1000000000000000000:=by rw[<-hn];exact h1.len
  have HN:=hid hn;have HM:=hid (rH.symm.trans hn);have H1:=hid h1;have H2:=hid h2;rw[hn];rw[HM.out];clear hn rH h1 h2;go_in;go_wp2_with fail
  go_loopw [5] (fun i wr=> ∃j:Nat,j<=n/\i= .int .i64 j/\Below w.heap.size w wr/\Hid (∀k:Nat,k<j->l[k]? =m[k]?)) (fun i _=>n-(intOf i).toNat)
  ·exact⟨0,by omega,rfl,anM _ _,fun k hk=>absurd hk (anC k)⟩
  obtain⟨j,hj,rfl,E,HJ⟩:=hrel
  by_cases hjt:j<n
  ·obtain⟨x,hx⟩: ∃x,l[j]? =some x:=⟨_,am9 (by rw[HN.out];exact hjt)⟩
   obtain⟨y,hy⟩: ∃y,m[j]? =some y:=⟨_,am9 (by rw[HM.out];exact hjt)⟩;obtain⟨r0,r1,r2,r3,r4⟩:=(H1.out.below E).ow hx;obtain⟨s0,s1,s2,s3,s4⟩:=(H2.out.below E).ow hy;have ix:=H1.out.idx pF mC j (by rw[HN.out];exact hjt) c;have iy:=H2.out.idx pF mC j (by rw[HM.out];exact hjt) d;rw[HN.out]at ix;rw[HM.out]at iy;have Ej:=hid (anY hx hy);clear hx hy;have DD:decide (x=y)=true\/decide (x=y)=false:=by cases decide (x=y)<;>simp
   rcases DD with hd|hd
   ·have jJ:(!decide (x=y))=false:=by rw[hd];rfl
    have gT:=hid (show ∀k:Nat,k<j+1->l[k]? =m[k]? from fun k hk=>by
     rcases anv.1 hk with h|h
     ·exact HJ.out k h
     subst h;rw[Ej.out.1,Ej.out.2,of_decide_eq_true hd])
    go_wp2_with fail;have r0:=cell_regrown r0;have r1:=cell_regrown r1;have r2:=cell_regrown r2;have r3:=cell_regrown r3;have r4:=cell_regrown r4;have s0:=cell_regrown s0;have s1:=cell_regrown s1;have s2:=cell_regrown s2;have s3:=cell_regrown s3;have s4:=cell_regrown s4;refine wp_region_quiet_below aN aN ?_
    repeat(go_big_quiet_step (fail))
    refine wpQuiet_nil ?_;intro _ hw';obtain⟨⟨dq,cH⟩,hw''⟩:=hw';subst hw'';have EQ:=below_regrown wr dq cH;generalize grow (redrawn wr dq) cH=W6 at*;have E:=E.trans (EQ.mono E.size);clear r0 r1 r2 r3 r4 s0 s1 s2 s3 s4 EQ ix iy;go_wp2_with fail
    go_roundw;exact⟨j+1,by omega,by go_num,E,gT⟩;simp[intOf];omega
   have jJ:(!decide (x=y))=true:=by rw[hd];rfl
   have HZ:=hid (show decide (l=m)=false by
    rw[decide_eq_false_iff_not];intro h1;have h3:=Ej.out.1;have h4:=Ej.out.2;rw[h1,h4]at h3;exact of_decide_eq_false hd (an4 h3).symm)
   go_wp2_with fail;have r0:=cell_regrown r0;have r1:=cell_regrown r1;have r2:=cell_regrown r2;have r3:=cell_regrown r3;have r4:=cell_regrown r4;have s0:=cell_regrown s0;have s1:=cell_regrown s1;have s2:=cell_regrown s2;have s3:=cell_regrown s3;have s4:=cell_regrown s4;refine wp_region_quiet_below aN aN ?_
   repeat(go_big_quiet_step (fail))
   refine wpQuiet_nil ?_;intro _ hw';obtain⟨⟨dq,cH⟩,hw''⟩:=hw';subst hw'';have EQ:=below_regrown wr dq cH;generalize grow (redrawn wr dq) cH=W6 at*;have E:=E.trans (EQ.mono E.size);clear r0 r1 r2 r3 r4 s0 s1 s2 s3 s4 EQ ix iy;go_wp2_with fail;go_ret;exact⟨aQ HZ.out.symm,E⟩
  obtain rfl:j=n:=by omega
  have HZ:=hid (show decide (l=m)=true by
   rw[decide_eq_true_eq];exact Mw (by rw[HN.out,HM.out]) fun k hk=>HJ.out k (by rw[HN.out]at hk;exact hk))
  go_wp2_with fail;go_ret;exact⟨aQ HZ.out.symm,E⟩
 have HZ:=hid (show decide (l=m)=false by rw[decide_eq_false_iff_not];intro e;exact rH (congrArg anO e))
 have z:((l.length:Int) != m.length)=true:=ah;clear rH;go_in;go_wp2_with fail;go_ret;exact⟨aQ HZ.out.symm,anM _ _⟩
attribute [local go_sem high] wH
theorem QV{a b:List Nd}:eU a=eU b<->a.length=b.length/\ ∀(k:Nat) (x y:Nd),a[k]? =some x->b[k]? =some y->bG x=bG y:=by
 rw[AM,AM]
 constructor
 ·intro h
  have hl:=congrArg anO h;simp only[anL]at hl;refine⟨hl,fun k x y hx hy=>?_⟩;have h2:(a.map bG)[k]? =(b.map bG)[k]? :=by rw[h]
  rw[anA,anA,hx,hy]at h2;simpa using h2
 rintro⟨hl,h⟩
 refine an0 fun k=>?_
 rw[anA,anA];cases hx:a[k]? with
 | none=>
   have:=List.getElem?_eq_none_iff.1 hx;rw[anI (by omega)]
 | some x=>
   have:=(anx.1 hx).1;obtain⟨y,hy⟩: ∃y,b[k]? =some y:=⟨_,am9 (by omega)⟩;rw[hy];simp[h k x y hx hy]
theorem ahI: ∀(x y:Nd) (w:World),fW w x->fW w y->Calls prog 92 #[vN x,vN y] w (I4 w (bG x=bG y)):=by
 intro x
 induction x using Nd.ind with
 |h x ih=>
 intro y w h1 h2;have A1:=al w (bN x);have x0:=l9.new w x;have A2:=al (w.alloc (bN x)) (bN y);have y0:=l9.new (w.alloc (bN x)) y;rw[cR]at y0;have x0:=x0.below A2;have HA:=hid (A1.trans (A2.mono A1.size));have HX:=hid (h1.keep HA.out);have HY:=hid (h2.keep HA.out);have qQ:=hid ih;clear h1 h2 A1 A2 ih;obtain⟨b1,dH⟩: ∃b,(x.kind != y.kind)=b:=⟨_,rfl⟩;obtain⟨b2,de⟩: ∃b,(!decide (x.th=y.th))=b:=⟨_,rfl⟩;obtain⟨b3,eJ⟩: ∃b,(x.val != y.val)=b:=⟨_,rfl⟩;obtain⟨b4,ku⟩: ∃b,((x.kids.length:Int) != y.kids.length)=b:=⟨_,rfl⟩;have HK:=hid (show b1=false<->x.kind=y.kind by rw[<-dH];simp);have nW:=hid (show b2=false<->x.th=y.th by rw[<-de];simp);have P7:=hid (show b3=false<->x.val=y.val by rw[<-eJ];simp);have tY:=hid (show b4=false<->x.kids.length=y.kids.length by rw[<-ku];simp;omega);have HI:=hid (aaU (x:=x) (y:=y));go_in
 go_upto_region 1 with(fail)
 generalize (w.alloc (bN x)).alloc (bN y)=W1 at*;obtain⟨p0,p1,p2,p3,p4,p5⟩:=x0.cells;obtain⟨q0,q1,q2,q3,q4,q5⟩:=y0.cells;have hx0:=x0.1;have hy0:=y0.1;have X0:=hid x0;have Y0:=hid y0;cases b1 with
 | true=>
   have HZ:=hid (show ¬bG x=bG y from fun h=>by
    have:=(HI.out.1 h).1;rw[<-HK.out]at this;cases this)
   clear de eJ ku x0 y0;go_wp2_with fail
   (try go_simp)
   go_ret;exact⟨false,rfl,⟨fun h=>anB h,fun h=>absurd h HZ.out⟩,HA.out⟩
 | false=>
   cases b2 with
   | true=>
     have HZ:=hid (show ¬bG x=bG y from fun h=>by
      have:=(HI.out.1 h).2.1;rw[<-nW.out]at this;cases this)
     clear eJ ku x0 y0;go_wp2_with fail
     (try go_simp)
     go_ret;exact⟨false,rfl,⟨fun h=>anB h,fun h=>absurd h HZ.out⟩,HA.out⟩
   | false=>
     cases b3 with
     | true=>
       have HZ:=hid (show ¬bG x=bG y from fun h=>by
        have:=(HI.out.1 h).2.2.1;rw[<-P7.out]at this;cases this)
       clear ku x0 y0;go_wp2_with fail
       (try go_simp)
       go_ret;exact⟨false,rfl,⟨fun h=>anB h,fun h=>absurd h HZ.out⟩,HA.out⟩
     | false=>
       cases b4 with
       | true=>
         have HZ:=hid (show ¬bG x=bG y from fun h=>by
          have:=(QV.1 (HI.out.1 h).2.2.2).1;rw[<-tY.out]at this;cases this)
         clear x0 y0;go_wp2_with fail
         (try go_simp)
         go_ret;exact⟨false,rfl,⟨fun h=>anB h,fun h=>absurd h HZ.out⟩,HA.out⟩
       | false=>
         have dK:=tY.out.1 rfl;have qR:=hid dK
         have HB:=hid (show bG x=bG y<-> ∀(k:Nat) (u v:Nd),x.kids[k]? =some u->y.kids[k]? =some v->bG u=bG v by
          rw[HI.out,QV];exact⟨fun h=>h.2.2.2.2,fun h=>⟨HK.out.1 rfl,nW.out.1 rfl,P7.out.1 rfl,dK,h⟩⟩)
         obtain⟨n,hn⟩:=aj x.kids.length;have HN:=hid hn;have HM:=hid (dK.symm.trans hn);have hnn:n<=1000000000000000000:=by rw[<-hn];exact HX.out.els.len
         rw[HM.out]at q5;rw[hn]at p5;rw[hn,HM.out]at ku;clear dK hn x0 y0;go_wp2_with fail;clear p0 p1 p2 p3 p4 p5 q0 q1 q2 q3 q4 q5 dH de eJ ku
         go_loopw [5] (fun i wr=> ∃j:Nat,j<=n/\i= .int .i64 j/\Below W1.heap.size W1 wr/\Hid (∀(k:Nat) (u v:Nd),k<j->x.kids[k]? =some u->y.kids[k]? =some v->bG u=bG v)) (fun i _=>n-(intOf i).toNat)
         ·exact⟨0,Nat.zero_le _,rfl,anM _ _,fun k u v hk=>absurd hk (anC k)⟩
         obtain⟨j,hj,rfl,E,HJ⟩:=hrel;obtain⟨p0,p1,p2,p3,p4,p5⟩:=(X0.out.below E).cells;obtain⟨q0,q1,q2,q3,q4,q5⟩:=(Y0.out.below E).cells;rw[HM.out]at q5;rw[HN.out]at p5
         by_cases hjt:j<n
         ·obtain⟨u,hu⟩: ∃u,x.kids[j]? =some u:=⟨_,am9 (by rw[HN.out];exact hjt)⟩
          obtain⟨v,hv⟩: ∃v,y.kids[j]? =some v:=⟨_,am9 (by rw[HM.out];exact hjt)⟩
          go_upto_region 6 with(fail)
          clear p0 p1 p2 p3 p4 p5 q0 q1 q2 q3 q4 q5;have ED:Below W1.heap.size W1 (an5 wr):=jt E;obtain⟨p0,p1,p2,p3,p4,p5⟩:=(X0.out.below ED).cells;obtain⟨q0,q1,q2,q3,q4,q5⟩:=(Y0.out.below ED).cells;rw[HM.out]at q5;rw[HN.out]at p5;have Ek:=HX.out.keep ED;have Em:=HY.out.keep ED;obtain⟨r0,r1,r2,r3,r4,r5⟩:=Ek.els.nd hu;obtain⟨s0,s1,s2,s3,s4,s5⟩:=Em.els.nd hv;have ix:=Ek.els.idx kG kN j (by rw[HN.out];exact hjt) x.c;have iy:=Em.els.idx kG kN j (by rw[HM.out];exact hjt) y.c;rw[HN.out]at ix;rw[HM.out]at iy;have CY:=hid (fun(w2:World) (E2:Below (an5 wr).heap.size (an5 wr) w2)=>qQ.out u (anw hu) v w2 ((Ek.jz u (anw hu)).keep E2) ((Em.jz v (anw hv)).keep E2));have Eh:=hid (anY hu hv);clear hu hv Ek Em
          go_region_with (go_at_call 92;refine(CY.out _ (anM _ _)).mono ?_;rintro e w2 ⟨bb,rfl,dU,E2⟩)
          all_goals
           have oK:=hid dU;have E:=ED.trans (E2.mono ED.size);clear p0 p1 p2 p3 p4 p5 q0 q1 q2 q3 q4 q5 r0 r1 r2 r3 r4 r5 s0 s1 s2 s3 s4 s5 ix iy dU E2 CY ED;cases bb with
           | true=>
             have gT:=hid (show ∀(k:Nat) (u v:Nd),k<j+1->x.kids[k]? =some u->y.kids[k]? =some v->bG u=bG v from fun k u' v' hk hu hv=>by
              rcases anv.1 hk with h|h
              ·exact HJ.out k u' v' h hu hv
              subst h
              rw[Eh.out.1]at hu;rw[Eh.out.2]at hv;cases hu;cases hv;exact oK.out.1 rfl)
             go_wp2_with fail
             go_roundw;exact⟨j+1,by omega,by go_num,E,gT⟩;simp[intOf];omega
           | false=>
             have HZ:=hid (show ¬bG x=bG y from fun h=>by
              have:=HB.out.1 h j u v Eh.out.1 Eh.out.2;have:=oK.out.2 this;cases this)
             go_wp2_with fail
             (try go_simp)
             go_ret;exact⟨false,rfl,⟨fun h=>anB h,fun h=>absurd h HZ.out⟩,HA.out.trans (E.mono HA.out.size)⟩
         have hjn:j=n:=by omega
         have HZ:=hid (show bG x=bG y from HB.out.2 fun k u v hu hv=>HJ.out k u v (by have:=(anx.1 hu).1;rw[HN.out]at this;omega) hu hv);subst hjn;go_wp2_with fail
         (try go_simp)
         go_ret;exact⟨true,rfl,⟨fun _=>HZ.out,fun _=>rfl⟩,HA.out.trans (E.mono HA.out.size)⟩
def CJ:List Tx->Option Nat
 |[x,y]=>if x=[48]/\y.getLast?=some 41 then bf (ak y.dropLast)else none
 |_=>none
theorem ag0(s:Tx):CJ ((aH 40 s).map ak)=ez s:=ag2 s
theorem ag1{l:List Tx}(h:l.length≠2):CJ l=none:=by
 match l with
 |[]=>rfl
 |[_]=>rfl
 |[_,_]=>simp at h
 |_::_::_::_=>rfl
theorem Oe(c:UInt8)(s:Tx)(hs:s.length<=1000000):Sm ((aH c s).map ak):=by
 intro x hx;obtain⟨y,hy,rfl⟩:=List.mem_map.1 hx;have h1:=jS y;have h2:=wQ c s y hy;omega
def vo(o:Option Nat)(w:World)(e:Ending)(w':World):Prop:=e= .returned (.tuple #[.int .i64 (fS o),.bool o.isSome])/\Below w.heap.size w w'
theorem vo.no{w w':World}{o:Option Nat}(h:o=none)(hb:Below w.heap.size w w'):vo o w (.returned (.tuple #[.int .i64 0,.bool false])) w':=by
 subst h;exact⟨rfl,hb⟩
theorem ajT(s:Tx)(hs:s.length<=1000000)(w:World):Calls prog 193 #[.string (tx s)] w (vo (ez s) w):=by
 have SP:=hid (fun w=>Nz s 40 hs w);have hsm:=Oe 40 s hs;rw[<-ag0];generalize (aH 40 s).map ak=A at*
 by_cases h2:A.length=2
 ·obtain⟨x,y,rfl⟩:=rM h2
  clear h2;have hx:=hsm x (by simp);have hy:=hsm y (by simp);have i0: ∀a w0,bS w0 a [x,y]-> ∀c w',(anm 42 (.slice a 2 c) (.int .i64 0)).run prog w'= .ok (.pointer (some ⟨bk a,fo a,none⟩)) w':=fun a w0 h c w'=>h.idx 0 (by simp) c w'
  have i1: ∀a w0,bS w0 a [x,y]-> ∀c w',(anm 42 (.slice a 2 c) (.int .i64 1)).run prog w'= .ok (.pointer (some ⟨bk a,fo a+1,none⟩)) w':=fun a w0 h c w'=>h.idx 1 (by simp) c w'
  have I0:=hid i0;have I1:=hid i1;clear i0 i1 hsm;have HP:=hid (show CJ [x,y]=if x=[48]/\y.getLast?=some 41 then bf (ak y.dropLast)else none from rfl);generalize CJ [x,y]=o at*
  by_cases h48:x=[48]
  ·subst h48
   have z1:((tx [48]).toList != [48])=false:=by rw[bh];rfl
   have z1':(!((tx [48]).toList==[48]))=false:=by rw[bh];rfl
   have H8:((tx [48]).toList==[48])=true:=by rw[bh];rfl
   rcases List.eq_nil_or_concat y with rfl|⟨Y,c,UR⟩
   ·have HR:=hid (show o=none by rw[HP.out,if_neg (by simp)])
    have hz0:(tx ([]:Tx)).size=0:=rfl;clear HP;go_in;go_wp2_with fail;refine(SP.out _).mono ?_;rintro e w1 ⟨a,c,rfl,t1,E⟩;have j0:=I0.out a w1 t1 c;have j1:=I1.out a w1 t1 c;have c0:w1.cell? ⟨bk a,fo a,none⟩=some (.string (tx [48])):=t1.cell 0 (by simp);have c1:w1.cell? ⟨bk a,fo a+1,none⟩=some (.string (tx [])):=t1.cell 1 (by simp);clear t1;go_wp2_with fail
    go_quiet (fail)
    go_wp2
    go_ret2
    exact vo.no HR.out (E.trans ((below_drewN _ _).mono E.size))
   rw[List.concat_eq_append]at UR
   subst UR;obtain⟨k,hk⟩:=aj Y.length;have hsz:(tx (Y++[c])).size=k+1:=by rw[aM];simp[hk]
   have hkb:k+1<=1000000:=by rw[<-hsz,aM];exact hy
   have ix:=bB (Y++[c]) k c (by simp[<-hk]);have hw1:IntKind.i64.wrap ((k:Int)+1-1)=k:=by rw[show(k:Int)+1-1=k by omega];exact IntWalk.i64_in _ (by omega)
   have fQ:decide ((k:Int)+1<1)=false:=ah
   by_cases Bq:c=41
   ·subst Bq
    have z2:(((41:UInt8).toNat:Int) != 41)=false:=by decide
    have z2q:(((41:UInt8).toNat:Int)==41)=true:=by decide
    have z2':(!(((41:UInt8).toNat:Int)==41))=false:=by decide
    have sl: ∀w,(Instr.sliceAt 9 (.string (tx (Y++[41]))) none (some (.int .i64 k)) none).run prog w= .ok (.string (tx Y)) w:=fun w=>by
     have h1:=qE (Y++[41]) k (by rw[List.length_append,hk];omega) w;have e:List.take k (Y++[41])=Y:=by rw[<-hk];simp
     rw[e]at h1;exact h1
    have HR:=hid (show o=bf (ak Y) by rw[HP.out,if_pos ⟨rfl,by simp⟩,List.dropLast_concat]);have TR:=hid (fun w=>NB Y (by omega) w);have e1:=NG (ak Y);have e2:=NC (ak Y);rw[<-HR.out]at e1 e2;generalize ak Y=T at*;have RG:=hid (fun w=>Yr T w);have H1:=hid e1;have H2:=hid e2;clear HP hk hy e1 e2;generalize Y++[41]=yy at*;go_in;go_wp2_with fail;refine(SP.out _).mono ?_;rintro e w1 ⟨a,c,rfl,t1,E⟩;have j0:=I0.out a w1 t1 c;have j1:=I1.out a w1 t1 c;have c0:w1.cell? ⟨bk a,fo a,none⟩=some (.string (tx [48])):=t1.cell 0 (by simp);have c1:w1.cell? ⟨bk a,fo a+1,none⟩=some (.string (tx yy)):=t1.cell 1 (by simp);clear t1;go_wp2_with fail
    go_quiet (fail)
    go_wp2_with fail
    go_quiet (first|(go_at_call 106;refine av (TR.out _) ?_;exact⟨rfl,_,rfl⟩)|(go_at_call 192;refine av (RG.out _) ?_;exact⟨rfl,_,rfl⟩))
    go_wp2
    go_ret2
    exact⟨YI H1.out H2.out,by first|exact E.trans ((below_drewN _ _).mono E.size)|(rw[World.drewN_drewN];exact E.trans ((below_drewN _ _).mono E.size))⟩
   have z2:((c.toNat:Int) != 41)=true:=mZ c 41 Bq
   have z2q:((c.toNat:Int)==41)=false:=ZT c 41 Bq;have z2':(!((c.toNat:Int)==41))=true:=by rw[z2q];rfl
   have HR:=hid (show o=none by rw[HP.out,if_neg (by simp;exact Bq)]);clear HP hk hy Bq;generalize Y++[c]=yy at*;go_in;go_wp2_with fail;refine(SP.out _).mono ?_;rintro e w1 ⟨a,c,rfl,t1,E⟩;have j0:=I0.out a w1 t1 c;have j1:=I1.out a w1 t1 c;have c0:w1.cell? ⟨bk a,fo a,none⟩=some (.string (tx [48])):=t1.cell 0 (by simp);have c1:w1.cell? ⟨bk a,fo a+1,none⟩=some (.string (tx yy)):=t1.cell 1 (by simp);clear t1;go_wp2_with fail
   go_quiet (fail)
   go_wp2
   go_ret2
   exact vo.no HR.out (E.trans ((below_drewN _ _).mono E.size))
  have z1:((tx x).toList != [48])=true:=by rw[bh];simpa using h48
  have H8:((tx x).toList==[48])=false:=by rw[bh];simpa using h48
  have z1':(!((tx x).toList==[48]))=true:=by rw[H8];rfl
  have HR:=hid (show o=none by rw[HP.out,if_neg (fun h=>h48 h.1)]);clear HP h48;go_in;go_wp2_with fail;refine(SP.out _).mono ?_;rintro e w1 ⟨a,c,rfl,t1,E⟩;have j0:=I0.out a w1 t1 c;have j1:=I1.out a w1 t1 c;have c0:w1.cell? ⟨bk a,fo a,none⟩=some (.string (tx x)):=t1.cell 0 (by simp);have c1:w1.cell? ⟨bk a,fo a+1,none⟩=some (.string (tx y)):=t1.cell 1 (by simp);clear t1;go_wp2_with fail
  go_quiet (fail)
  go_wp2
  go_ret2
  exact vo.no HR.out (E.trans ((below_drewN _ _).mono E.size))
 have HR:=hid (ag1 h2)
 have z1:((A.length:Int) != 2)=true:=ah;have H8:((A.length:Int)==2)=false:=ah;have z1':(!((A.length:Int)==2))=true:=by rw[H8];rfl
 clear h2 hsm;generalize CJ A=o at*;go_in;go_wp2_with fail;refine(SP.out _).mono ?_;rintro e w1 ⟨a,c,rfl,t1,E⟩;clear t1 SP;generalize A.length=n at*;go_wp2_with fail
 go_quiet (fail)
 go_wp2
 go_ret2
 exact vo.no HR.out (E.trans ((below_drewN _ _).mono E.size))
end Go.Proofs.YtkbbgjloifmmbaaGreatDoor

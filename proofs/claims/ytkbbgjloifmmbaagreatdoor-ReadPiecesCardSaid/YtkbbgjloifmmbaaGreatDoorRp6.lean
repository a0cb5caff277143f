/- What ReadPiecesP leans on, part 6. -/
import Derived.Test.YtkbbgjloifmmbaaGreatDoorRp5
import Derived.Maps.OwnSet
import Derived.Maps.Views
set_option linter.unusedVariables false
set_option maxRecDepth 100000
set_option maxHeartbeats 1600000
namespace Go.Proofs.YtkbbgjloifmmbaaGreatDoor
open Go.RowKit
def insC(l:List Ins):List Value:=l.flatMap iC
theorem insC_length(l:List Ins):(insC l).length=l.length*8:=by
 induction l with
 |nil=>rfl
 |cons x r ih=>unfold insC at *; simp[List.flatMap_cons,ih,iC];omega
theorem insC_app(l r:List Ins):insC (l++r)=insC l++insC r:=by unfold insC;rw[List.flatMap_append]
theorem insC_cons(x:Ins)(r:List Ins):insC (x::r)=iC x++insC r:=by unfold insC;rw[List.flatMap_cons]
theorem insC_get: ∀(l:List Ins) (k i:Nat) (x:Ins),l[k]? =some x->i<8->(insC l)[k*8+i]? =(iC x)[i]?
 |[],k,i,x,h,_=>by simp at h
 | y::r,0,i,x,h,hi=>by
   simp at h;subst h;rw[insC_cons,Nat.zero_mul,Nat.zero_add,List.getElem?_append_left (by simpa[iC]using hi)]
 | y::r,k+1,i,x,h,hi=>by
   rw[insC_cons,List.getElem?_append_right (by simp[iC];omega)];have:(k+1)*8+i-(iC y).length=k*8+i:=by simp[iC];omega
   rw[this,insC_get r k i x (by simpa using h) hi]
theorem insC_take(l:List Ins)(k:Nat):(insC l).take (k*8)=insC (l.take k):=by
 by_cases hk:k<=l.length
 ·have h1:insC l=insC (l.take k)++insC (l.drop k):=by rw[<-insC_app,List.take_append_drop]
  rw[h1,List.take_left' (by rw[insC_length,List.length_take,Nat.min_eq_left hk])]
 ·rw[List.take_of_length_le (by rw[insC_length];omega),List.take_of_length_le (by omega)]
theorem insC_drop(l:List Ins)(k:Nat):(insC l).drop (k*8)=insC (l.drop k):=by
 by_cases hk:k<=l.length
 ·have h1:insC l=insC (l.take k)++insC (l.drop k):=by rw[<-insC_app,List.take_append_drop]
  rw[h1,List.drop_left' (by rw[insC_length,List.length_take,Nat.min_eq_left hk])]
 ·rw[List.drop_of_length_le (by rw[insC_length];omega),List.drop_of_length_le (by omega)];rfl
structure Is(w:World)(a:Option Addr)(l:List Ins):Prop where
 row:Row w a (insC l)
 len:l.length<=1000000000000000000
theorem Is.nil(w:World)(a:Option Addr):Is w a []:=⟨Row.nil _ _,by simp⟩
theorem Is.below{w w':World}{a:Option Addr}{l:List Ins}(h:Is w a l)(hb:Below w.heap.size w w'):Is w' a l:=⟨h.row.below hb,h.len⟩
theorem Is.cells{w:World}{a:Option Addr}{l:List Ins}(h:Is w a l){k:Nat}{i:Ins}(hk:l[k]? =some i):
 w.cell? ⟨bk a,fo a+k*8,none⟩=some (.int .i64 i.op)/\w.cell? ⟨bk a,fo a+k*8+1,none⟩=some (.int .i64 i.d)/\w.cell? ⟨bk a,fo a+k*8+2,none⟩=some (.int .i64 i.a)/\w.cell? ⟨bk a,fo a+k*8+3,none⟩=some (.int .i64 i.b)/\w.cell? ⟨bk a,fo a+k*8+4,none⟩=some (.int .i64 i.imm)/\w.cell? ⟨bk a,fo a+k*8+5,none⟩=some (.string (tx i.loc))/\w.cell? ⟨bk a,fo a+k*8+6,none⟩=some (.string (tx i.label))/\w.cell? ⟨bk a,fo a+k*8+7,none⟩=some (.int .i64 i.fence):=by
 have hlt:=(List.getElem?_eq_some_iff.1 hk).1
 have g: ∀j,j<8->w.cell? ⟨bk a,fo a+k*8+j,none⟩=(iC i)[j]? :=fun j hj=>by
  have h1:=h.row.cell (k*8+j) (by rw[insC_length];omega);rw[insC_get l k j i hk hj]at h1;rw[Nat.add_assoc];exact h1
 exact⟨g 0 (by omega),g 1 (by omega),g 2 (by omega),g 3 (by omega),g 4 (by omega),g 5 (by omega),g 6 (by omega),g 7 (by omega)⟩
theorem Is.lt{w:World}{a:Option Addr}{l:List Ins}(h:Is w a l){k:Nat}(hk:k<l.length):bk a<w.heap.size:=
 cell?_lt (p:=⟨bk a,fo a+k*8,none⟩) (h.cells (List.getElem?_eq_getElem hk)).1
theorem inl:ElT Tryz.prog 75 50 (.agg #[.int .i64 0,.int .i64 0,.int .i64 0,.int .i64 0,.int .i64 0,.string ByteArray.empty,.string ByteArray.empty,.int .i64 0]) 8 80:=⟨Tryz.underlying75,by kernel_rfl,rfl,by decide⟩
theorem Is.idx{w:World}{a:Option Addr}{l:List Ins}(h:Is w a l)(k:Nat)(hk:k<l.length):
 ∀c w',(Instr.indexAt 75 (.slice a l.length c) (.int .i64 k)).run Tryz.prog w'= .ok (.pointer (some ⟨bk a,fo a+k*8,none⟩)) w':=by
 intro c;exact run_idx (c:=c) (n:=l.length) (m:=8) h.row inl.und inl.cells inl.isSome (insC_length l) (by omega) k hk .i64
theorem Is.take{w:World}{a:Option Addr}{l:List Ins}(h:Is w a l)(k:Nat):Is w a (l.take k):=by
 refine⟨?_,by have:=h.len;simp;omega⟩;have:=h.row.take (k*8)
 rwa[insC_take]at this
theorem Is.drop{w:World}{a:Option Addr}{l:List Ins}(h:Is w a l)(k:Nat)(stay:Prop)[Decidable stay](hs:stay->l.length<=k\/k=0):Is w (cutA a stay (k*8)) (l.drop k):=by
 refine⟨?_,by have:=h.len;simp;omega⟩;have:=h.row.drop (k*8) stay (fun h'=>by have:=hs h';rw[insC_length];omega)
 rwa[insC_drop]at this
abbrev OwnN(w:World)(B:Nat)(a:Option Addr)(n c:Nat)(l:List Ins):Prop:=Own w B 50 8 a n c (insC l)
theorem OwnN.len{w:World}{B n c:Nat}{a:Option Addr}{l:List Ins}(h:OwnN w B a n c l):n=l.length:=by
 have:=h.cap.2.2;rw[insC_length]at this;omega
theorem OwnN.is{w:World}{B n c:Nat}{a:Option Addr}{l:List Ins}(h:OwnN w B a n c l)(hl:l.length<=1000000000000000000):Is w a l:=⟨h.row,hl⟩
theorem isl:ElT Tryz.prog 41 3 (.int .i64 0) 1 8:=⟨Tryz.underlying41,by kernel_rfl,rfl,by decide⟩
set_option linter.unusedSectionVars false
def flat{α:Type}(enc:α->List Value)(l:List α):List Value:=l.flatMap enc
section
variable {α:Type} {enc:α->List Value} {m:Nat} (hm: ∀x,(enc x).length=m)
theorem flat_nil:flat enc []=[]:=rfl
theorem flat_cons(x:α)(r:List α):flat enc (x::r)=enc x++flat enc r:=by unfold flat;rw[List.flatMap_cons]
theorem flat_app(l r:List α):flat enc (l++r)=flat enc l++flat enc r:=by unfold flat;rw[List.flatMap_append]
theorem flat_one(x:α):flat enc [x]=enc x:=by rw[flat_cons,flat_nil,List.append_nil]
include hm
theorem flat_length(l:List α):(flat enc l).length=l.length*m:=by
 induction l with
 |nil=>simp[flat]
 |cons x r ih=>rw[flat_cons,List.length_append,hm,ih,List.length_cons,Nat.succ_mul,Nat.add_comm]
theorem flat_get: ∀(l:List α) (k i:Nat) (x:α),l[k]? =some x->i<m->(flat enc l)[k*m+i]? =(enc x)[i]?
 |[],k,i,x,h,_=>by simp at h
 | y::r,0,i,x,h,hi=>by
   simp at h;subst h;rw[flat_cons,Nat.zero_mul,Nat.zero_add,List.getElem?_append_left (by rw[hm];exact hi)]
 | y::r,k+1,i,x,h,hi=>by
   have e:(k+1)*m+i=m+(k*m+i):=by rw[Nat.succ_mul];omega
   rw[flat_cons,List.getElem?_append_right (by rw[hm,e];omega),hm,e,Nat.add_sub_cancel_left,flat_get r k i x (by simpa using h) hi]
theorem flat_take(l:List α)(k:Nat):(flat enc l).take (k*m)=flat enc (l.take k):=by
 by_cases hk:k<=l.length
 ·have h1:flat enc l=flat enc (l.take k)++flat enc (l.drop k):=by rw[<-flat_app,List.take_append_drop]
  rw[h1,List.take_left' (by rw[flat_length hm,List.length_take,Nat.min_eq_left hk])]
 ·have h2:l.length*m<=k*m:=Nat.mul_le_mul_right _ (by omega)
  rw[List.take_of_length_le (by rw[flat_length hm];exact h2),List.take_of_length_le (by omega)]
theorem flat_drop(l:List α)(k:Nat):(flat enc l).drop (k*m)=flat enc (l.drop k):=by
 by_cases hk:k<=l.length
 ·have h1:flat enc l=flat enc (l.take k)++flat enc (l.drop k):=by rw[<-flat_app,List.take_append_drop]
  rw[h1,List.drop_left' (by rw[flat_length hm,List.length_take,Nat.min_eq_left hk])]
 ·have h2:l.length*m<=k*m:=Nat.mul_le_mul_right _ (by omega)
  rw[List.drop_of_length_le (by rw[flat_length hm];exact h2),List.drop_of_length_le (by omega)];rfl
end
theorem flat_oneCell{α:Type}{enc:α->List Value}(h: ∀x,∀u∈enc x,u.oneCell'=true)(l:List α): ∀u∈flat enc l,u.oneCell'=true:=by
 intro u hu;unfold flat at hu;obtain⟨x,-, hx⟩:=List.mem_flatMap.1 hu;exact h x u hx
structure Els{α:Type}(enc:α->List Value)(w:World)(a:Option Addr)(l:List α):Prop where
 row:Row w a (flat enc l)
 len:l.length<=1000000000000000000
section
variable {α:Type} {enc:α->List Value} {m:Nat} {w w':World} {a:Option Addr} {l:List α}
theorem Els.nil(w:World)(a:Option Addr):Els enc w a []:=⟨Row.nil _ _,by simp⟩
theorem Els.below(h:Els enc w a l)(hb:Below w.heap.size w w'):Els enc w' a l:=⟨h.row.below hb,h.len⟩
theorem Els.cell(h:Els enc w a l)(hm: ∀x,(enc x).length=m){k:Nat}{x:α}(hk:l[k]? =some x)(j:Nat)(hj:j<m):w.cell? ⟨bk a,fo a+k*m+j,none⟩=(enc x)[j]? :=by
 have hlt:=(List.getElem?_eq_some_iff.1 hk).1
 have hb:k*m+j<l.length*m:=by
  have:(k+1)*m<=l.length*m:=Nat.mul_le_mul_right _ hlt;rw[Nat.succ_mul]at this;omega
 have h1:=h.row.cell (k*m+j) (by rw[flat_length hm];exact hb);rw[flat_get hm l k j x hk hj]at h1;rw[Nat.add_assoc];exact h1
theorem Els.cell0(h:Els enc w a l)(hm: ∀x,(enc x).length=m){k:Nat}{x:α}(hk:l[k]? =some x)(hj:0<m):w.cell? ⟨bk a,fo a+k*m,none⟩=(enc x)[0]? :=h.cell hm hk 0 hj
theorem Els.lt(h:Els enc w a l)(hm: ∀x,(enc x).length=m)(hpos:0<m)(hl:l≠[]):bk a<w.heap.size:=by
 refine h.row.lt fun e=>hl ?_
 have:(flat enc l).length=0:=by rw[e];rfl
 rw[flat_length hm]at this;rcases Nat.mul_eq_zero.1 this with h1|h1
 ·exact List.eq_nil_of_length_eq_zero h1
 ·omega
theorem Els.idx{P:Program}{t e bytes:Nat}{z:Value}(h:Els enc w a l)(T:ElT P t e z m bytes)(hm: ∀x,(enc x).length=m)(k:Nat)(hk:k<l.length):
 ∀c w',(Instr.indexAt t (.slice a l.length c) (.int .i64 k)).run P w'= .ok (.pointer (some ⟨bk a,fo a+k*m,none⟩)) w':=by
 intro c;exact run_idx (c:=c) (n:=l.length) (m:=m) h.row T.und T.cells T.isSome (flat_length hm l) T.pos k hk .i64
theorem Els.take(h:Els enc w a l)(hm: ∀x,(enc x).length=m)(k:Nat):Els enc w a (l.take k):=by
 refine⟨?_,by have:=h.len;simp;omega⟩;have:=h.row.take (k*m)
 rwa[flat_take hm]at this
theorem Els.drop(h:Els enc w a l)(hm: ∀x,(enc x).length=m)(hpos:0<m)(k:Nat)(stay:Prop)[Decidable stay](hs:stay->l.length<=k\/k=0):Els enc w (cutA a stay (k*m)) (l.drop k):=by
 refine⟨?_,by have:=h.len;simp;omega⟩
 have:=h.row.drop (k*m) stay (fun h'=>by
  rcases hs h' with h1|h1
  ·left;rw[flat_length hm];exact Nat.mul_le_mul_right _ h1
  ·right;rw[h1,Nat.zero_mul])
 rwa[flat_drop hm]at this
theorem Own.els{B E n c:Nat}(h:Own w B E m a n c (flat enc l))(hm: ∀x,(enc x).length=m)(hpos:0<m)(hl:l.length<=1000000000000000000):Els enc w a l/\n=l.length:=by
 refine⟨⟨h.row,hl⟩,?_⟩;have h1:=h.cap.2.2;rw[flat_length hm]at h1;exact Nat.eq_of_mul_eq_mul_right hpos h1.symm
end
def BxL(w:World)(b:Nat)(l:List Value):Prop:=b<w.heap.size/\ ∀k,k<l.length->w.cell? ⟨b,k,none⟩=l[k]?
theorem BxL.new(w:World)(us:Array Value)(T:TypeId):BxL (w.alloc (.cells us T)) w.heap.size us.toList:=
 ⟨by simp,fun k hk=>by
  have hh:=heap_alloc_new w (.cells us T);simp only[World.cell?,hh];simp⟩
theorem BxL.below{w w':World}{b:Nat}{l:List Value}(h:BxL w b l)(hb:Below w.heap.size w w'):BxL w' b l:=
 ⟨Nat.lt_of_lt_of_le h.1 hb.size,fun k hk=>by rw[hb.cell (p:=⟨b,k,none⟩) h.1];exact h.2 k hk⟩
theorem BxL.get{w:World}{b:Nat}{l:List Value}(h:BxL w b l)(k:Nat)(v:Value)(hk:l[k]? =some v):w.cell? ⟨b,k,none⟩=some v:=by
 rw[h.2 k (List.getElem?_eq_some_iff.1 hk).1];exact hk
structure Th where
 thread:Int
 reg:Int
 loc:Tx
 deriving DecidableEq,Inhabited
@[reducible] def cTh(t:Th):List Value:=[.int .i64 t.thread,.int .i64 t.reg,.string (tx t.loc)]
@[reducible] def vTh(t:Th):Value:=.agg #[.int .i64 t.thread,.int .i64 t.reg,.string (tx t.loc)]
theorem th_ext(x y:Th):(x=y)<->(x.thread=y.thread/\x.reg=y.reg/\x.loc=y.loc):=by
 cases x;cases y;simp
theorem eqTh(x y:Th)(w:World):(binOp .eql 25 (vTh x) (vTh y)).run Tryz.prog w= .ok (.bool (decide (x=y))) w:=by
 have hS:Tryz.prog.underlying 25=some (.struct (Tryz.prog.fieldsOf 25)):=by kernel_rfl
 have hp:Tryz.prog.stoodInHeld 25=false:=by kernel_rfl
 have a3:=Tryz.isAgg3;have z3:=Tryz.sizeOf3;have u3:=Tryz.underlying3;have a4:=Tryz.isAgg9;have z4:=Tryz.sizeOf9;have u4:=Tryz.underlying9;rw[run_eql_struct,show(10000:Nat)=9999+1 from rfl,run_equalIn_agg w 9999 25 _ _ hS hp];simp only[Program.fieldsOf,Tryz.underlying25]
 go_simp
 rw[show decide (x=y)=decide (x.thread=y.thread/\x.reg=y.reg/\x.loc=y.loc)from decide_eq_decide.2 (th_ext x y)];simp only[tx_toList]
 by_cases h1:x.thread=y.thread<;>by_cases h2:x.reg=y.reg<;>by_cases h6:x.loc=y.loc<;>simp[h1,h2,h6]
theorem neqTh(x y:Th)(w:World):(binOp .neq 25 (vTh x) (vTh y)).run Tryz.prog w= .ok (.bool (!decide (x=y))) w:=by
 have h:=eqTh x y w;rw[run_eql_struct]at h;rw[run_neq_struct];generalize (Op.equalIn 10000 25 (.agg #[.int .i64 x.thread,.int .i64 x.reg,.string (tx x.loc)]) (.agg #[.int .i64 y.thread,.int .i64 y.reg,.string (tx y.loc)])).run Tryz.prog w=r at*;cases r with
 |ok b w'=>simp[Result.andThen]at h ⊢; obtain⟨rfl,rfl⟩:=h;exact⟨rfl,rfl⟩
 |halt x w'=>simp[Result.andThen]at h
theorem cTh_len(x:Th):(cTh x).length=3:=rfl
theorem cTh_one(x:Th): ∀u∈cTh x,u.oneCell'=true:=by
 intro u hu;simp only[cTh,List.mem_cons,List.not_mem_nil,or_false]at hu;rcases hu with rfl|rfl|rfl<;>rfl
theorem thl:ElT Tryz.prog 112 25 (.agg #[.int .i64 0,.int .i64 0,.string ByteArray.empty]) 3 32:=⟨Tryz.underlying112,by kernel_rfl,rfl,by decide⟩
inductive Nd where
 |mk (kind:Int) (th:Th) (val:Int) (a:Option Addr) (c:Nat) (kids:List Nd):Nd
def Nd.kind:Nd->Int| .mk k _ _ _ _ _=>k
def Nd.th:Nd->Th| .mk _ t _ _ _ _=>t
def Nd.val:Nd->Int| .mk _ _ v _ _ _=>v
def Nd.a:Nd->Option Addr| .mk _ _ _ a _ _=>a
def Nd.c:Nd->Nat| .mk _ _ _ _ c _=>c
def Nd.kids:Nd->List Nd| .mk _ _ _ _ _ l=>l
@[reducible] def cN(x:Nd):List Value:=[.int .i64 x.kind,.int .i64 x.th.thread,.int .i64 x.th.reg,.string (tx x.th.loc),.int .i64 x.val,.slice x.a x.kids.length x.c]
@[reducible] def vN(x:Nd):Value:=.agg #[.int .i64 x.kind,.int .i64 x.th.thread,.int .i64 x.th.reg,.string (tx x.th.loc),.int .i64 x.val,.slice x.a x.kids.length x.c]
theorem cN_len(x:Nd):(cN x).length=6:=rfl
theorem cN_one(x:Nd): ∀u∈cN x,u.oneCell'=true:=by
 intro u hu;simp only[cN,List.mem_cons,List.not_mem_nil,or_false]at hu;rcases hu with rfl|rfl|rfl|rfl|rfl|rfl<;>rfl
theorem ndl:ElT Tryz.prog 26 28 (.agg #[.int .i64 0,.int .i64 0,.int .i64 0,.string ByteArray.empty,.int .i64 0,.slice none 0 0]) 6 72:=⟨Tryz.underlying26,by kernel_rfl,rfl,by decide⟩
theorem Nd.ind{P:Nd->Prop}(h: ∀x:Nd,(∀k∈x.kids,P k)->P x): ∀x,P x
 | .mk k t v a c l=>h _ fun y hy=>Nd.ind h y
 termination_by x=>SizeOf.sizeOf x
 decreasing_by
  have:=List.sizeOf_lt_of_mem (show y∈l from hy);simp;omega
inductive NdIn(w:World):Nd->Prop where
 |mk (x:Nd) (hl:x.th.loc.length<=9223372036854775807) (hr:Els cN w x.a x.kids) (hc:x.kids.length<=x.c) (h: ∀k∈x.kids,NdIn w k):NdIn w x
theorem NdIn.loc{w:World}{x:Nd}(h:NdIn w x):x.th.loc.length<=9223372036854775807:=by cases h;assumption
theorem NdIn.els{w:World}{x:Nd}(h:NdIn w x):Els cN w x.a x.kids:=by cases h;assumption
theorem NdIn.cap{w:World}{x:Nd}(h:NdIn w x):x.kids.length<=x.c:=by cases h;assumption
theorem NdIn.kid{w:World}{x:Nd}(h:NdIn w x): ∀k∈x.kids,NdIn w k:=by cases h;assumption
theorem NdIn.keep{w w':World}(hb:Below w.heap.size w w'): ∀{x:Nd},NdIn w x->NdIn w' x:=by
 intro x
 induction x using Nd.ind with
 |h x ih=>intro h;exact⟨x,h.loc,h.els.below hb,h.cap,fun k hk=>ih k hk (h.kid k hk)⟩
def BxN(w:World)(b:Nat)(x:Nd):Prop:=b<w.heap.size/\ ∀k,k<6->w.cell? ⟨b,k,none⟩=(cN x)[k]?
abbrev mkN(x:Nd):Obj:=.cells #[.int .i64 x.kind,.int .i64 x.th.thread,.int .i64 x.th.reg,.string (tx x.th.loc),.int .i64 x.val,.slice x.a x.kids.length x.c] 28
theorem BxN.below{w w':World}{b:Nat}{x:Nd}(h:BxN w b x)(hb:Below w.heap.size w w'):BxN w' b x:=
 ⟨Nat.lt_of_lt_of_le h.1 hb.size,fun k hk=>by rw[hb.cell (p:=⟨b,k,none⟩) h.1];exact h.2 k hk⟩
theorem BxN.new(w:World)(x:Nd):BxN (w.alloc (mkN x)) w.heap.size x:=
 ⟨by simp,fun k hk=>by
  have hh:=heap_alloc_new w (mkN x);simp only[World.cell?,hh];simp[cN]⟩
theorem BxN.cells{w:World}{b:Nat}{x:Nd}(h:BxN w b x):w.cell? ⟨b,0,none⟩=some (.int .i64 x.kind)/\w.cell? ⟨b,1,none⟩=some (.int .i64 x.th.thread)/\w.cell? ⟨b,2,none⟩=some (.int .i64 x.th.reg)/\w.cell? ⟨b,3,none⟩=some (.string (tx x.th.loc))/\w.cell? ⟨b,4,none⟩=some (.int .i64 x.val)/\w.cell? ⟨b,5,none⟩=some (.slice x.a x.kids.length x.c):=
 ⟨h.2 0 (by omega),h.2 1 (by omega),h.2 2 (by omega),h.2 3 (by omega),h.2 4 (by omega),h.2 5 (by omega)⟩
theorem Els.nd{w:World}{a:Option Addr}{l:List Nd}(h:Els cN w a l){k:Nat}{x:Nd}(hk:l[k]? =some x):
 w.cell? ⟨bk a,fo a+k*6,none⟩=some (.int .i64 x.kind)/\w.cell? ⟨bk a,fo a+k*6+1,none⟩=some (.int .i64 x.th.thread)/\w.cell? ⟨bk a,fo a+k*6+2,none⟩=some (.int .i64 x.th.reg)/\w.cell? ⟨bk a,fo a+k*6+3,none⟩=some (.string (tx x.th.loc))/\w.cell? ⟨bk a,fo a+k*6+4,none⟩=some (.int .i64 x.val)/\w.cell? ⟨bk a,fo a+k*6+5,none⟩=some (.slice x.a x.kids.length x.c):=
 ⟨h.cell0 cN_len hk (by omega),h.cell cN_len hk 1 (by omega),h.cell cN_len hk 2 (by omega),h.cell cN_len hk 3 (by omega),h.cell cN_len hk 4 (by omega),h.cell cN_len hk 5 (by omega)⟩
theorem Els.th{w:World}{a:Option Addr}{l:List Th}(h:Els cTh w a l){k:Nat}{x:Th}(hk:l[k]? =some x):
 w.cell? ⟨bk a,fo a+k*3,none⟩=some (.int .i64 x.thread)/\w.cell? ⟨bk a,fo a+k*3+1,none⟩=some (.int .i64 x.reg)/\w.cell? ⟨bk a,fo a+k*3+2,none⟩=some (.string (tx x.loc)):=
 ⟨h.cell0 cTh_len hk (by omega),h.cell cTh_len hk 1 (by omega),h.cell cTh_len hk 2 (by omega)⟩
attribute [local go_sem high] eqI neqI
def isLab(nm:Tx)(j:Ins):Bool:=decide (j.op=12)&&decide (j.label=nm)
theorem clos1(i j:Ins)(b:Nat)(w:World)(hb:BxI w b i):Calls Tryz.prog 224 #[vI j,.pointer (some ⟨b,0,none⟩)] w (Ret w (.bool (isLab i.label j))):=by
 obtain⟨c0,c1,c2,c3,c4,c5,c6,c7⟩:=hb.cells;have hlt:=hb.1;have B:=al w (mkI j)
 by_cases h:j.op=12
 ·have z:(j.op==12)=true:=by simpa using h
  have e:isLab i.label j=(j.label==i.label):=by unfold isLab;rw[Bool.eq_iff_iff];simp[h]
  have z2:((tx j.label).toList==(tx i.label).toList)=(j.label==i.label):=tx_beq _ _;have HE:=hid e;generalize (j.label==i.label)=bb at*;clear h e;go_enter Tryz.func224,Tryz.ntmps224;go_wp2_with fail;go_ret;exact⟨ret_bool HE.out.symm,blA⟩
 ·have z:(j.op==12)=false:=by simpa using h
  have HE:=hid (show isLab i.label j=false by unfold isLab;rw[decide_eq_false h];rfl);clear h;go_enter Tryz.func224,Tryz.ntmps224;go_wp2_with fail;go_ret;exact⟨ret_bool HE.out.symm,blA⟩
def idxN(o:Option Nat):Int:=match o with
 |some n=>n
 |none=> -1
theorem findIdx_none{p:Ins->Bool}{l:List Ins}(h: ∀j (hj:j<l.length),p l[j]=false):l.findIdx? p=none:=by
 rw[List.findIdx?_eq_none_iff];intro x hx;obtain⟨i,hi,rfl⟩:=List.mem_iff_getElem.1 hx;exact h i hi
theorem findIdx_some{p:Ins->Bool}{l:List Ins}{k:Nat}(hk:k<l.length)(h1:p l[k]=true)(h2: ∀j (hj:j<l.length),j<k->p l[j]=false):l.findIdx? p=some k:=by
 rw[List.findIdx?_eq_some_iff_getElem];exact⟨hk,h1,fun j hj=>by rw[h2 j (by omega) hj];simp⟩
theorem progIndexFunc(i:Ins)(b:Nat)(l:List Ins)(a:Option Addr)(c:Nat)(w:World)(h:Is w a l)(hb:BxI w b i):
 Calls Tryz.prog 277 #[.slice a l.length c,.func (.func 224) #[] #[.pointer (some ⟨b,0,none⟩)]] w (Ret w (.int .i64 (idxN (l.findIdx? (isLab i.label))))):=by
 have hl:=h.len;have B:=Below.refl w.heap.size w;go_enter Tryz.func277,Tryz.ntmps277;go_wp2_with fail
 go_loopw [8] (fun i' wr=> ∃k:Nat,k<=l.length/\i'= .int .i64 k/\Hid (∀j (hj:j<l.length),j<k->isLab i.label l[j]=false)/\Is wr a l/\BxI wr b i/\Below w.heap.size w wr) (fun i' _=>l.length-(intOf i').toNat)
 case atStart=>exact⟨0,by omega,rfl,hid (fun j hj h'=>absurd h' (Nat.not_lt_zero j)),h,hb,B⟩
 case round=>
  clear h hb B;obtain⟨k,hk,rfl,HK,h,hb,B⟩:=hrel
  by_cases hlt:k<l.length
  ·obtain⟨f,hf⟩: ∃f,l[k]? =some f:=⟨_,List.getElem?_eq_getElem hlt⟩
   have hfk:l[k]=f:=Option.some.inj ((List.getElem?_eq_getElem hlt).symm.trans hf);obtain⟨p0,p1,p2,p3,p4,p5,p6,p7⟩:=h.cells hf;have ix:=h.idx k hlt;have HF:=hid hfk;clear hf hfk;cases hm:isLab i.label f
   all_goals
    have HM:=hid hm;clear hm;go_wp2_with fail;refine(clos1 i f b _ hb).mono ?_;rintro e' w7 ⟨rfl,E7⟩;rw[HM.out];have h:=h.below E7;have hb:=hb.below E7;have B:=B.trans (E7.mono B.size);clear p0 p1 p2 p3 p4 p5 p6 p7 ix;go_wp2_with fail
   ·go_roundw
    case rel=>exact⟨k+1,by omega,by go_num,hid (fun j hj hjk=>by
     by_cases hh:j=k
     ·subst hh;rw[HF.out];exact HM.out
     ·exact HK.out j hj (by omega)),h,hb,B⟩
    case measure=>simp[intOf];omega
   ·have HR:=hid (findIdx_some hlt (by rw[HF.out];exact HM.out) HK.out)
    go_ret;exact⟨ret_int (by rw[HR.out];rfl),B⟩
  ·have HR:=hid (findIdx_none (fun j hj=>HK.out j hj (by omega)))
   go_wp2_with fail;go_ret;exact⟨ret_int (by rw[HR.out];rfl),B⟩
theorem progContains(i:Ins)(b:Nat)(l:List Ins)(a:Option Addr)(c:Nat)(w:World)(h:Is w a l)(hb:BxI w b i):
 Calls Tryz.prog 223 #[.slice a l.length c,.func (.func 224) #[] #[.pointer (some ⟨b,0,none⟩)]] w (Ret w (.bool (l.findIdx? (isLab i.label)).isSome)):=by
 have C:=hid (progIndexFunc i b l a c w h hb);generalize l.findIdx? (isLab i.label)=r at*;generalize l.length=n at*;clear h hb;cases r with
 | none=>
   go_enter Tryz.func223,Tryz.ntmps223;go_wp2_with fail;refine C.out.mono ?_;rintro e w1 ⟨rfl,E⟩;have z:idxN none= -1:=rfl;go_wp2_with fail;go_ret;exact⟨rfl,E⟩
 | some k=>
   have z:idxN (some k)=(k:Int):=rfl;have hk:(0:Int)<=(k:Int):=by omega
   rw[z]at C;clear z;go_enter Tryz.func223,Tryz.ntmps223;go_wp2_with fail;refine C.out.mono ?_;rintro e w1 ⟨rfl,E⟩;go_wp2_with fail;go_ret;exact⟨ret_bool (by simp),E⟩
end Go.Proofs.YtkbbgjloifmmbaaGreatDoor
namespace Go.Proofs.YtkbbgjloifmmbaaGreatDoor
open Go.Maps
def stepP(code:List Ins)(k:Nat):Option Int:=match code[k]? with
 |none=>some (-1)
 | some i=>
   if i.op=12 then(if code.findIdx? (isLab i.label)=some k then some (-1)else none)
   else if i.op=11 then(match code.findIdx? (isLab i.label)with
    |none=>none
    |some at'=>if((code.drop (k+1)).findIdx? (isLab i.label)).isSome then some (at':Int)else none)
   else some (-1)
def stepR(code:List Ins)(k:Nat):Option Int:=match code[k]? with
 |none=>some (-1)
 | some i=>
   if i.op=12 then(if(code.take k).any (isLab i.label)then none else some (-1))
   else if i.op=11 then((code.drop (k+1)).findIdx? (isLab i.label)).map fun j=>((k+1+j:Nat):Int)
   else some (-1)
def outsP(code:List Ins)(k:Nat):List Int:=(List.range k).map fun j=>(stepP code j).getD (-1)
def outsR(code:List Ins)(k:Nat):List Int:=(List.range k).map fun j=>(stepR code j).getD (-1)
def linksV(code:List Ins):List Int × Int × Int:=
 if 256<code.length then([],2,0)
 else match code.findIdx? fun i=> !checkI i with
  |some k=>([],91,k)
  | none=>match (List.range code.length).find? fun k=>(stepR code k).isNone with
    |some k=>([],93,k)
    |none=>(outsR code code.length,0,0)
theorem isLab_iff{nm:Tx}{j:Ins}:isLab nm j=true<->j.op=12/\j.label=nm:=by unfold isLab;simp
theorem step_none(code:List Ins)(k:Nat):stepP code k=none<->stepR code k=none:=by
 unfold stepP stepR;cases hk:code[k]? with
 |none=>simp
 | some i=>
   obtain⟨hlt,he⟩:=List.getElem?_eq_some_iff.1 hk;simp only
   by_cases h12:i.op=12
   ·rw[if_pos h12,if_pos h12]
    have hself:isLab i.label code[k]=true:=by rw[he,isLab_iff];exact⟨h12,rfl⟩
    by_cases hany:(code.take k).any (isLab i.label)=true
    ·rw[if_pos hany]
     have: ¬code.findIdx? (isLab i.label)=some k:=by
      intro hf;rw[List.findIdx?_eq_some_iff_getElem]at hf;obtain⟨_,_,h3⟩:=hf;rw[List.any_eq_true]at hany;obtain⟨x,hx,hp⟩:=hany;obtain⟨j,hj,rfl⟩:=List.mem_iff_getElem.1 hx;simp at hj;rw[List.getElem_take]at hp;exact absurd hp (h3 j (by omega))
     rw[if_neg this]
    ·rw[if_neg hany]
     have:code.findIdx? (isLab i.label)=some k:=by
      refine findIdx_some hlt hself (fun j hj hjk=>?_);cases hb:isLab i.label code[j]with
      |false=>rfl
      | true=>
        refine absurd (List.any_eq_true.2 ⟨code[j],?_,hb⟩) hany;rw[List.mem_take_iff_getElem];exact⟨j,by omega,rfl⟩
     rw[if_pos this]
   ·rw[if_neg h12,if_neg h12]
    by_cases h11:i.op=11
    ·rw[if_pos h11,if_pos h11]
     cases hl:(code.drop (k+1)).findIdx? (isLab i.label)with
     | none=>
       cases code.findIdx? (isLab i.label)<;>simp
     | some j=>
       rw[List.findIdx?_eq_some_iff_getElem]at hl;obtain⟨hj,hp, -⟩:=hl;cases hf:code.findIdx? (isLab i.label)with
       | none=>
         rw[List.findIdx?_eq_none_iff]at hf;rw[List.getElem_drop]at hp;rw[hf _ (List.getElem_mem _)]at hp;cases hp
       |some at'=>simp
    ·rw[if_neg h11,if_neg h11]
theorem step_same(code:List Ins)(h: ∀k,k<code.length->stepP code k≠none)(k:Nat):stepP code k=stepR code k:=by
 unfold stepP stepR;cases hk:code[k]? with
 |none=>rfl
 | some i=>
   obtain⟨hlt,he⟩:=List.getElem?_eq_some_iff.1 hk;have hn:=h k hlt;have hn2:stepR code k≠none:=fun e=>hn ((step_none code k).2 e)
   unfold stepP at hn;unfold stepR at hn2;rw[hk]at hn hn2;simp only at hn hn2⊢
   by_cases h12:i.op=12
   ·rw[if_pos h12]at hn hn2⊢
    rw[if_pos h12]
    split at hn
    ·split at hn2
     ·exact absurd rfl hn2
     ·rename_i a b;rw[if_pos a,if_neg b]
    ·exact absurd rfl hn
   ·rw[if_neg h12]at hn hn2⊢
    rw[if_neg h12]
    by_cases h11:i.op=11
    ·rw[if_pos h11]at hn hn2⊢
     rw[if_pos h11];cases hl:(code.drop (k+1)).findIdx? (isLab i.label)with
     |none=>rw[hl]at hn2;simp at hn2
     | some j=>
       rw[List.findIdx?_eq_some_iff_getElem]at hl;obtain⟨hj,hp, -⟩:=hl;simp at hj;rw[List.getElem_drop,isLab_iff]at hp;have hL:=h (k+1+j) (by omega);unfold stepP at hL;rw[List.getElem?_eq_getElem (by omega)]at hL;simp only at hL;rw[if_pos hp.1,hp.2]at hL
       split at hL
       ·rename_i hf
        rw[hf];simp
       ·exact absurd rfl hL
    ·rw[if_neg h11,if_neg h11]
theorem outs_same(code:List Ins)(h: ∀k,k<code.length->stepP code k≠none)(n:Nat):outsP code n=outsR code n:=by
 unfold outsP outsR;exact List.map_congr_left fun k _=>by rw[step_same code h k]
theorem outsP_length(code:List Ins)(k:Nat):(outsP code k).length=k:=by simp[outsP]
theorem outsP_succ(code:List Ins)(k:Nat):outsP code (k+1)=outsP code k++[(stepP code k).getD (-1)]:=by simp[outsP,List.range_succ]
theorem linksV_full{code:List Ins}(h:256<code.length):linksV code=([],2,0):=by unfold linksV;rw[if_pos h]
theorem linksV_bad{code:List Ins}(h:code.length<=256){k:Nat}(hk:k<code.length)(h1:checkI code[k]=false)(h2: ∀j (hj:j<code.length),j<k->checkI code[j]=true):linksV code=([],91,(k:Int)):=by
 unfold linksV;rw[if_neg (by omega),findIdx_some hk (by rw[h1];rfl) (fun j hj hjk=>by rw[h2 j hj hjk];rfl)]
theorem find_range{n k:Nat}{p:Nat->Bool}(hk:k<n)(h1:p k=true)(h2: ∀j,j<k->p j=false):(List.range n).find? p=some k:=by
 rw[List.find?_range_eq_some];exact⟨h1,by simpa using hk,fun j hj=>by rw[h2 j hj];rfl⟩
theorem linksV_label{code:List Ins}(h:code.length<=256)(hc: ∀j (hj:j<code.length),checkI code[j]=true){k:Nat}(hk:k<code.length)(h1:stepP code k=none)(h2: ∀j,j<k->stepP code j≠none):linksV code=([],93,(k:Int)):=by
 unfold linksV;rw[if_neg (by omega),findIdx_none (fun j hj=>by rw[hc j hj];rfl)];simp only
 rw[find_range hk (by rw[(step_none code k).1 h1];rfl) (fun j hj=>by
  cases hs:stepR code j with
  |none=>exact absurd ((step_none code j).2 hs) (h2 j hj)
  |some v=>rfl)]
theorem linksV_ok{code:List Ins}(h:code.length<=256)(hc: ∀j (hj:j<code.length),checkI code[j]=true)(h2: ∀j,j<code.length->stepP code j≠none):linksV code=(outsP code code.length,0,0):=by
 unfold linksV;rw[if_neg (by omega),findIdx_none (fun j hj=>by rw[hc j hj];rfl)];simp only
 have:(List.range code.length).find? (fun k=>(stepR code k).isNone)=none:=by
  rw[List.find?_eq_none];intro j hj;simp at hj;cases hs:stepR code j with
  |none=>exact absurd ((step_none code j).2 hs) (h2 j hj)
  |some v=>simp
 rw[this,outs_same code h2]
def LabD(code:List Ins)(m:Nat)(D:DataW Unit):Prop:=
 ∀nm:Tx,(∀j,(code.drop m).findIdx? (isLab nm)=some j->Maps.has D (.string nm)=true/\D.atKey (.string nm) (.lit (.int .i64 0))= .lit (.int .i64 ((m+j:Nat):Int)))/\((code.drop m).findIdx? (isLab nm)=none->Maps.has D (.string nm)=false)
theorem LabD.nil(code:List Ins)(m:Nat)(h:code.length<=m):LabD code m (.map []):=by
 intro nm;rw[List.drop_eq_nil_of_le h];exact⟨fun j hj=>by simp at hj,fun _=>rfl⟩
theorem findIdx_cons(p:Ins->Bool)(x:Ins)(l:List Ins):(x::l).findIdx? p=if p x then some 0 else(l.findIdx? p).map (· +1):=by
 rw[List.findIdx?_cons]
theorem LabD.skip{code:List Ins}{m:Nat}{D:DataW Unit}{i:Ins}(h:LabD code (m+1) D)(hi:code[m]? =some i)(hop:i.op≠12):LabD code m D:=by
 intro nm;obtain⟨hlt,he⟩:=List.getElem?_eq_some_iff.1 hi;rw[List.drop_eq_getElem_cons hlt,he,findIdx_cons,if_neg (by rw[isLab_iff];exact fun h=>hop h.1)];obtain⟨h1,h2⟩:=h nm;refine⟨fun j hj=>?_,fun hn=>h2 (by simpa using hn)⟩;rw[Option.map_eq_some_iff]at hj;obtain⟨j',hj',rfl⟩:=hj;obtain⟨a,b⟩:=h1 j' hj';exact⟨a,by rw[b];congr 3;omega⟩
theorem LabD.put{code:List Ins}{m:Nat}{D:DataW Unit}{i:Ins}(h:LabD code (m+1) D)(hm:IsMap D)(hi:code[m]? =some i)(hop:i.op=12)(hk:WideAt.IsKeyLit (.string i.label)):LabD code m (D.put (.string i.label) (.lit (.int .i64 (m:Int)))):=by
 intro nm;obtain⟨hlt,he⟩:=List.getElem?_eq_some_iff.1 hi;rw[List.drop_eq_getElem_cons hlt,he,findIdx_cons];obtain⟨h1,h2⟩:=h nm
 by_cases hn:i.label=nm
 ·subst hn
  rw[if_pos (by rw[isLab_iff];exact⟨hop,rfl⟩)];refine⟨fun j hj=>?_,fun hn=>by simp at hn⟩;simp at hj;subst hj;exact⟨has_put_same hm hk _,by rw[atKey_put_same hm hk];rfl⟩
 ·rw[if_neg (by rw[isLab_iff];exact fun h=>hn h.2)]
  have hne:(Lit.string nm)≠ .string i.label:=fun e=>hn (by cases e;rfl)
  refine⟨fun j hj=>?_,fun hn'=>?_⟩
  ·rw[Option.map_eq_some_iff]at hj
   obtain⟨j',hj',rfl⟩:=hj;obtain⟨a,b⟩:=h1 j' hj';rw[has_put_other hne,atKey_put_other hne];exact⟨a,by rw[b];congr 3;omega⟩
  ·rw[has_put_other hne];exact h2 (by simpa using hn')
end Go.Proofs.YtkbbgjloifmmbaaGreatDoor
namespace Go.Proofs.YtkbbgjloifmmbaaGreatDoor
def zTh:Th:=⟨0,0,[]⟩
def regsN(arch:Int):Int:=if arch=1 then 15 else 32
def archB(arch:Int):Bool:=decide (arch=1)||decide (arch=2)
def thingB(arch:Int)(t:Th):Bool:=
 if t.thread= -1 then decide (t.reg=0)&&nameB t.loc
 else decide (0<=t.thread)&&decide (t.thread<16)&&decide (0<=t.reg)&&decide (t.reg<regsN arch)&&decide (t.loc=[])
def mayN(arch:Int)(kind:Int)(t:Th)(v:Int)(n:Nat):Bool:=
 if kind=2 then thingB arch t&&n32B v&&decide (n=0)
 else decide (t=zTh)&&decide (v=0)&&(if kind=1 then decide (n=0)else if kind=3 then decide (n=1)else if kind=4\/kind=5 then decide (2<=n)else false)
mutual
def walkN(arch:Int):Nd->Nat->Nat->Nat × Int
 | .mk k t v a c l,met,deep=>if 1024<=met\/64<=deep then(met,2)else if mayN arch k t v l.length=false then(met,80)else walkL arch l (met+1) (deep+1)
def walkL(arch:Int):List Nd->Nat->Nat->Nat × Int
 |[],met,_=>(met,0)
 |x::r,met,deep=>if(walkN arch x met deep).2=0 then walkL arch r (walkN arch x met deep).1 deep else walkN arch x met deep
end
theorem walkN_eq(arch:Int)(x:Nd)(met deep:Nat):walkN arch x met deep=if 1024<=met\/64<=deep then(met,2)else if mayN arch x.kind x.th x.val x.kids.length=false then(met,80)else walkL arch x.kids (met+1) (deep+1):=by
 cases x;rw[walkN];rfl
theorem walkL_cons{arch:Int}{x:Nd}{r:List Nd}{met deep:Nat}:walkL arch (x::r) met deep=if(walkN arch x met deep).2=0 then walkL arch r (walkN arch x met deep).1 deep else walkN arch x met deep:=by rw[walkL]
theorem walkL_nil{arch:Int}{met deep:Nat}:walkL arch [] met deep=(met,0):=by rw[walkL]
theorem walkL_drop{arch:Int}{l:List Nd}{k:Nat}{x:Nd}(hk:l[k]? =some x)(met deep:Nat):walkL arch (l.drop k) met deep=if(walkN arch x met deep).2=0 then walkL arch (l.drop (k+1)) (walkN arch x met deep).1 deep else walkN arch x met deep:=by
 obtain⟨hlt,rfl⟩:=List.getElem?_eq_some_iff.1 hk;rw[List.drop_eq_getElem_cons hlt,walkL_cons]
theorem walk_le(arch:Int): ∀(x:Nd) (met deep:Nat),met<=1024->(walkN arch x met deep).1<=1024:=by
 intro x
 induction x using Nd.ind with
 | h x ih=>
   intro met deep hm;rw[walkN_eq];split
   ·exact hm
   ·rename_i h
    split
    ·exact hm
    ·have key: ∀(l:List Nd),(∀k∈l,k∈x.kids)-> ∀met deep,met<=1024->(walkL arch l met deep).1<=1024:=by
      intro l
      induction l with
      |nil=>intro _ met deep hm;rw[walkL_nil];exact hm
      | cons y r ihl=>
        intro hin met deep hm;have h1:=ih y (hin y (by simp)) met deep hm;rw[walkL_cons];split
        ·exact ihl (fun k hk=>hin k (by simp[hk])) _ _ h1
        ·exact h1
     exact key _ (fun k hk=>hk) _ _ (by omega)
def condE(arch quant:Int)(x:Nd):Int:=if archB arch=false then 5 else if quant<1\/3<quant then 80 else(walkN arch x 0 0).2
def regA(arch:Int)(n:Nat):Tx:=if arch=1 then regX n else regT n
def thText(arch:Int)(t:Th):Tx:=if t.thread= -1 then t.loc else Lib.itoa t.thread++[58]++regA arch t.reg.toNat
def atomT(arch:Int)(t:Th)(v:Int):Tx:=thText arch t++[61]++Lib.itoa v
def sepA:Tx:=[32,47,92,32]
def sepO:Tx:=[32,92,47,32]
def inB(b:Bool)(s:Tx):Tx:=if b then 40::s++[41]else s
def weak(and:Bool)(k:Int):Bool:=(and&&decide (k=4))||decide (k=5)
mutual
def textN(arch:Int):Nd->Tx
 | .mk k t v a c l=>if k=1 then[116,114,117,101]else if k=2 then atomT arch t v else if k=3 then 126::textL arch true [] l else if k=4 then textL arch true sepA l else textL arch false sepO l
def textL(arch:Int)(and:Bool)(sep:Tx):List Nd->Tx
 |[]=>[]
 |x::r=>inB (weak and x.kind) (textN arch x)++textR arch and sep r
def textR(arch:Int)(and:Bool)(sep:Tx):List Nd->Tx
 |[]=>[]
 |x::r=>sep++(inB (weak and x.kind) (textN arch x)++textR arch and sep r)
end
theorem textR_nil{arch:Int}{and:Bool}{sep:Tx}:textR arch and sep []=[]:=by rw[textR]
theorem textR_cons{arch:Int}{and:Bool}{sep:Tx}{x:Nd}{r:List Nd}:textR arch and sep (x::r)=sep++(inB (weak and x.kind) (textN arch x)++textR arch and sep r):=by rw[textR]
mutual
def cntN:Nd->Nat
 | .mk k t v a c l=>1+cntL l
def cntL:List Nd->Nat
 |[]=>0
 |x::r=>cntN x+cntL r
end
theorem cntN_eq(x:Nd):cntN x=1+cntL x.kids:=by cases x;rw[cntN];rfl
theorem cntL_nil:cntL []=0:=by rw[cntL]
theorem cntL_cons{x:Nd}{r:List Nd}:cntL (x::r)=cntN x+cntL r:=by rw[cntL]
theorem cntL_app: ∀(l r:List Nd),cntL (l++r)=cntL l+cntL r
 |[],r=>by rw[cntL_nil];simp
 |x::l,r=>by rw[List.cons_append,cntL_cons,cntL_cons,cntL_app l r];omega
inductive OkN(arch:Int):Nd->Prop where
 |mk (x:Nd) (h:mayN arch x.kind x.th x.val x.kids.length=true) (hk: ∀y∈x.kids,OkN arch y):OkN arch x
theorem OkN.may{arch:Int}{x:Nd}(h:OkN arch x):mayN arch x.kind x.th x.val x.kids.length=true:=by cases h;assumption
theorem OkN.kid{arch:Int}{x:Nd}(h:OkN arch x): ∀y∈x.kids,OkN arch y:=by cases h;assumption
theorem walk_ok(arch:Int): ∀(x:Nd) (met deep m:Nat),walkN arch x met deep=(m,0)->OkN arch x/\m=met+cntN x/\m<=1024:=by
 intro x
 induction x using Nd.ind with
 | h x ih=>
   intro met deep m h;rw[walkN_eq]at h
   by_cases h1:1024<=met\/64<=deep
   ·rw[if_pos h1]at h;cases h
   rw[if_neg h1]at h
   by_cases h2:mayN arch x.kind x.th x.val x.kids.length=false
   ·rw[if_pos h2]at h;cases h
   rw[if_neg h2]at h
   have key: ∀(l:List Nd),(∀k∈l,k∈x.kids)-> ∀met deep m,met<=1024->walkL arch l met deep=(m,0)->(∀y∈l,OkN arch y)/\m=met+cntL l/\m<=1024:=by
    intro l
    induction l with
    |nil=>intro _ met deep m hm h;rw[walkL_nil]at h;cases h;exact⟨fun y hy=>absurd hy (by simp),by rw[cntL_nil];omega,hm⟩
    | cons y r ihl=>
      intro hin met deep m hm h;rw[walkL_cons]at h
      by_cases h3:(walkN arch y met deep).2=0
      ·rw[if_pos h3]at h
       obtain⟨o1,e1,b1⟩:=ih y (hin y (by simp)) met deep (walkN arch y met deep).1 (by rw[<-h3]);obtain⟨o2,e2,b2⟩:=ihl (fun k hk=>hin k (by simp[hk])) _ _ _ b1 h;exact⟨fun z hz=>by rcases List.mem_cons.1 hz with rfl|hz;exact o1;exact o2 z hz,by rw[cntL_cons];omega,b2⟩
      ·rw[if_neg h3]at h;rw[h]at h3;exact absurd rfl h3
   obtain⟨o,e,b⟩:=key _ (fun k hk=>hk) _ _ _ (by omega) h;exact⟨⟨x,by simpa using h2,o⟩,by rw[cntN_eq];omega,b⟩
theorem cond_ok{arch q:Int}{x:Nd}(h:condE arch q x=0):archB arch=true/\1<=q/\q<=3/\OkN arch x/\cntN x<=1024:=by
 unfold condE at h
 by_cases ha:archB arch=false
 ·rw[if_pos ha]at h;cases h
 rw[if_neg ha]at h
 by_cases hq:q<1\/3<q
 ·rw[if_pos hq]at h;cases h
 rw[if_neg hq]at h;obtain⟨o,e,b⟩:=walk_ok arch x 0 0 (walkN arch x 0 0).1 (by rw[<-h]);exact⟨by simpa using ha,by omega,by omega,o,by omega⟩
theorem mayN_kind{arch k v:Int}{t:Th}{n:Nat}(h:mayN arch k t v n=true):(k=1/\n=0)\/(k=2/\thingB arch t=true/\n32B v=true/\n=0)\/(k=3/\n=1)\/(k=4/\2<=n)\/(k=5/\2<=n):=by
 unfold mayN at h
 by_cases h2:k=2
 ·rw[if_pos h2]at h
  simp only[Bool.and_eq_true,decide_eq_true_eq]at h;exact .inr (.inl ⟨h2,h.1.1,h.1.2,h.2⟩)
 rw[if_neg h2]at h;simp only[Bool.and_eq_true,decide_eq_true_eq]at h;obtain⟨-, h⟩:=h
 by_cases h1:k=1
 ·rw[if_pos h1]at h;exact .inl ⟨h1,by simpa using h⟩
 rw[if_neg h1]at h
 by_cases h3:k=3
 ·rw[if_pos h3]at h;exact .inr (.inr (.inl ⟨h3,by simpa using h⟩))
 rw[if_neg h3]at h
 by_cases h4:k=4\/k=5
 ·rw[if_pos h4]at h
  rcases h4 with rfl|rfl
  ·exact .inr (.inr (.inr (.inl ⟨rfl,by simpa using h⟩)))
  ·exact .inr (.inr (.inr (.inr ⟨rfl,by simpa using h⟩)))
 ·rw[if_neg h4]at h;cases h
theorem thingB_cases{arch:Int}{t:Th}(h:thingB arch t=true):(t.thread= -1/\t.reg=0/\nameB t.loc=true)\/(∃(i k:Nat),t=⟨i,k,[]⟩/\i<16/\(k:Int)<regsN arch):=by
 obtain⟨th,rg,loc⟩:=t;unfold thingB at h;simp only at h
 by_cases h1:th= -1
 ·rw[if_pos h1]at h
  simp only[Bool.and_eq_true,decide_eq_true_eq]at h;exact .inl ⟨h1,h.1,h.2⟩
 ·rw[if_neg h1]at h
  simp only[Bool.and_eq_true,decide_eq_true_eq]at h;obtain⟨⟨⟨⟨a,b⟩,c⟩,d⟩,e⟩:=h;refine .inr ⟨th.toNat,rg.toNat,?_,by omega,by omega⟩;simp only[Th.mk.injEq];exact⟨by omega,by omega,e⟩
theorem regsN_le(arch:Int):regsN arch<=32:=by unfold regsN;split<;>omega
set_option linter.unusedSectionVars false
section
variable {α:Type} [DecidableEq α]
def cmpct:List α->List α
 |[]=>[]
 | x::r=>match r with
   |[]=>[x]
   |y::_=>if x=y then cmpct r else x::cmpct r
theorem cmpct_nil:cmpct ([]:List α)=[]:=rfl
theorem cmpct_one(x:α):cmpct [x]=[x]:=rfl
theorem cmpct_cons(x y:α)(r:List α):cmpct (x::y::r)=if x=y then cmpct (y::r)else x::cmpct (y::r):=rfl
theorem cmpct_snoc: ∀(l:List α) (y x:α),cmpct (l++[y]++[x])=if x=y then cmpct (l++[y])else cmpct (l++[y])++[x]
 | [],y,x=>by
   simp only[List.nil_append,List.cons_append,cmpct_cons,cmpct_one]
   by_cases h:x=y
   ·rw[if_pos h.symm,if_pos h,h]
   ·rw[if_neg (Ne.symm h),if_neg h]
 | [z],y,x=>by
   simp only[List.nil_append,List.cons_append,cmpct_cons,cmpct_one]
   by_cases h:x=y<;>by_cases h':z=y<;>simp[h,h',eq_comm]<;>(try(intro h2;exact absurd h2.symm h))<;>simp_all [eq_comm]
 | z::u::r,y,x=>by
   have ih:=cmpct_snoc (u::r) y x;simp only[List.cons_append]at ih⊢;rw[cmpct_cons,cmpct_cons,ih]
   by_cases h:x=y<;>by_cases h':z=u<;>simp[h,h']
theorem cmpct_mem{l:List α}{z:α}:z∈cmpct l<->z∈l:=by
 induction l with
 |nil=>simp[cmpct_nil]
 | cons x r ih=>
   cases r with
   |nil=>simp[cmpct_one]
   | cons y r=>
     rw[cmpct_cons]
     by_cases h:x=y
     ·rw[if_pos h,ih];simp[h]
     ·rw[if_neg h,List.mem_cons,ih];simp
theorem cmpct_self{l:List α}(h: ∀i (h1:i+1<l.length),l[i+1]≠l[i]'(by omega)):cmpct l=l:=by
 induction l with
 |nil=>rfl
 | cons x r ih=>
   cases r with
   |nil=>rfl
   | cons y r=>
     have h0:=h 0 (by simp);simp at h0;rw[cmpct_cons,if_neg (Ne.symm h0),ih (fun i h1=>by have:=h (i+1) (by simp at h1 ⊢; omega);simpa using this)]
theorem cmpct_length_le(l:List α):(cmpct l).length<=l.length:=by
 induction l with
 |nil=>simp[cmpct_nil]
 | cons x r ih=>
   cases r with
   |nil=>simp[cmpct_one]
   | cons y r=>
     rw[cmpct_cons];split
     ·simp at ih ⊢; omega
     ·simp at ih ⊢; omega
theorem rise_ext{lt:α->α->Prop}(irr: ∀a,¬lt a a)(asy: ∀a b,lt a b->lt b a->False): ∀{l r:List α},l.Pairwise lt->r.Pairwise lt->(∀x,x∈l<->x∈r)->l=r
 |[],[],_,_,_=>rfl
 |[],y::r,_,_,h=>by have:=(h y).2 (by simp);simp at this
 |x::l,[],_,_,h=>by have:=(h x).1 (by simp);simp at this
 | x::l,y::r,h1,h2,h=>by
   obtain⟨a1,b1⟩:=List.pairwise_cons.1 h1;obtain⟨a2,b2⟩:=List.pairwise_cons.1 h2
   have hxy:x=y:=by
    have hx:=(h x).1 (by simp);have hy:=(h y).2 (by simp);rcases List.mem_cons.1 hx with e|hx
    ·exact e
    ·rcases List.mem_cons.1 hy with e|hy
     ·exact e.symm
     ·exact(asy _ _ (a2 x hx) (a1 y hy)).elim
   subst hxy
   have:l=r:=rise_ext irr asy b1 b2 (fun z=>by
    have hz:=h z;simp only[List.mem_cons]at hz
    constructor
    ·intro hm
     rcases hz.1 (.inr hm)with e|e
     ·subst e;exact(irr _ (a1 _ hm)).elim
     ·exact e
    ·intro hm
     rcases hz.2 (.inr hm)with e|e
     ·subst e;exact(irr _ (a2 _ hm)).elim
     ·exact e)
   rw[this]
theorem cmpct_rise{lt:α->α->Prop}(tr: ∀a b c,lt a b->lt b c->lt a c): ∀{l:List α},l.Pairwise (fun a b=>a=b\/lt a b)->(cmpct l).Pairwise lt
 |[],_=>List.Pairwise.nil
 |[x],_=>by rw[cmpct_one];simp
 | x::y::r,h=>by
   obtain⟨a1,b1⟩:=List.pairwise_cons.1 h;have ih:=cmpct_rise tr b1;rw[cmpct_cons]
   by_cases e:x=y
   ·rw[if_pos e];exact ih
   ·rw[if_neg e,List.pairwise_cons]
    refine⟨fun z hz=>?_,ih⟩;have hz:=cmpct_mem.1 hz;have hxy:lt x y:=(a1 y (by simp)).resolve_left e;rcases a1 z hz with e'|e'
    ·subst e'
     rcases List.mem_cons.1 hz with e2|e2
     ·exact absurd e2 e
     ·rcases(List.pairwise_cons.1 b1).1 x e2 with e3|e3
      ·exact absurd e3.symm e
      ·exact tr _ _ _ hxy e3
    ·exact e'
end
end Go.Proofs.YtkbbgjloifmmbaaGreatDoor

/- What ReadAgainP leans on, part 6. -/
import Derived.Test.YtkbbgjloifmmbaaGreatDoorPf4
import Derived.Maps.OwnSet
import Derived.Maps.Views
import Derived.Lib.Bytealg
import Derived.Lib.QuietBelow
set_option linter.unusedVariables false
set_option maxRecDepth 100000
set_option maxHeartbeats 25600000
open _root_.Go.Proofs.Tryz
open _root_.Go renaming World->aAX,Calls->aA7,Value->aAY,Addr->aAZ
open _root_.Go.Lib renaming itoa->aA9,decDigits->aA8,compareBytes->aBQ
open _root_.List renaming range->aBM,replicate->aBg,intercalate->aBR
open _root_.UInt8 renaming ofNat->aBt
open _root_.Go.RowKit renaming Below->aAW
open _root_.ByteArray renaming empty->aBm
open _root_.Nat renaming strongRecOn->aBS
open _root_.List.Pairwise renaming nil->aBT
namespace Go.Proofs.YtkbbgjloifmmbaaGreatDoor
open Go.RowKit
variable{D:DataW Unit}{i:aL}{p:aL->Bool}{code:List aL}{l:List aAY}{b k m:Nat}{v0 v1 v10 v11 v12 v13 v2 v3 v4 v5 v6 v7 v8 v9:aAY}{w w':aAX}
def jM(l:List aL):List aAY:=l.flatMap iC
theorem Dj(l:List aL):(jM l).length=l.length*8:=by
 induction l with
 |nil=>rfl
 |cons x r ih=>unfold jM at *; simp[ih,iC];omega
theorem Pk(l r:List aL):jM (l++r)=jM l++jM r:=by unfold jM;rw[zZ]
theorem afS(x:aL)(r:List aL):jM (x::r)=iC x++jM r:=by unfold jM;rw[BY]
theorem afT: ∀(l:List aL) (k i:Nat) (x:aL),l[k]? =some x->i<8->(jM l)[k*8+i]? =(iC x)[i]?
 |[],k,i,x,h,_=>by simp at h
 | y::r,0,i,x,h,hi=>by
   simp at h;subst h;rw[afS,td,jT,Ep (by simpa[iC]using hi)]
 | y::r,k+1,i,x,h,hi=>by
   rw[afS,aaq (by simp[iC];omega)];have:(k+1)*8+i-(iC y).length=k*8+i:=by simp[iC];omega
   rw[this,afT r k i x (aS h) hi]
theorem apW(l:List aL)(k:Nat):(jM l).take (k*8)=jM (l.take k):=by
 by_cases hk:k<=l.length
 ·have h1:jM l=jM (l.take k)++jM (l.drop k):=by rw[<-Pk,qL]
  rw[h1,Tn (by rw[Dj,lI,wg hk])]
 rw[kI (by rw[Dj];omega),kI ah]
theorem apV(l:List aL)(k:Nat):(jM l).drop (k*8)=jM (l.drop k):=by
 by_cases hk:k<=l.length
 ·have h1:jM l=jM (l.take k)++jM (l.drop k):=by rw[<-Pk,qL]
  rw[h1,Tp (by rw[Dj,lI,wg hk])]
 rw[Et (by rw[Dj];omega),Et ah];rfl
structure Is(w:aAX)(a:Option aAZ)(l:List aL):Prop where
 row:Row w a (jM l)
 len:l.length<=1000000000000000000
theorem Is.nil(w:aAX)(a:Option aAZ):Is w a []:=⟨Row.nil _ _,aq⟩
theorem Is.below{a:Option aAZ}{l:List aL}(h:Is w a l)(hb:aAW w.heap.size w w'):Is w' a l:=⟨h.row.below hb,h.len⟩
theorem Is.cells{a:Option aAZ}{l:List aL}(h:Is w a l)(hk:l[k]? =some i):
 w.cell? ⟨bk a,fo a+k*8,none⟩=some (.int .i64 i.op)/\w.cell? ⟨bk a,fo a+k*8+1,none⟩=some (.int .i64 i.d)/\w.cell? ⟨bk a,fo a+k*8+2,none⟩=some (.int .i64 i.a)/\w.cell? ⟨bk a,fo a+k*8+3,none⟩=some (.int .i64 i.b)/\w.cell? ⟨bk a,fo a+k*8+4,none⟩=some (.int .i64 i.ax)/\w.cell? ⟨bk a,fo a+k*8+5,none⟩=some (.string (tx i.aj))/\w.cell? ⟨bk a,fo a+k*8+6,none⟩=some (.string (tx i.av))/\w.cell? ⟨bk a,fo a+k*8+7,none⟩=some (.int .i64 i.az):=by
 have aA:=(bt.1 hk).1
 have g: ∀j,j<8->w.cell? ⟨bk a,fo a+k*8+j,none⟩=(iC i)[j]? :=fun j hj=>by
  have h1:=h.row.cell (k*8+j) (by rw[Dj];omega);rw[afT l k j i hk hj]at h1;rw[uz];exact h1
 exact⟨g 0 ah,g 1 ah,g 2 ah,g 3 ah,g 4 ah,g 5 ah,g 6 ah,g 7 ah⟩
theorem Is.lt{a:Option aAZ}{l:List aL}(h:Is w a l)(hk:k<l.length):bk a<w.heap.size:=
 k8 (p:=⟨bk a,fo a+k*8,none⟩) (h.cells (aV hk)).1
theorem inl:kg prog 75 50 (.agg #[.int .i64 0,.int .i64 0,.int .i64 0,.int .i64 0,.int .i64 0,.string aBm,.string aBm,.int .i64 0]) 8 80:=⟨underlying75,by kernel_rfl,rfl,ay⟩
theorem Is.idx{a:Option aAZ}{l:List aL}(h:Is w a l)(k:Nat)(hk:k<l.length):
 ∀c w',(Instr.indexAt 75 (.slice a l.length c) (.int .i64 k)).run prog w'= .ok (.pointer (some ⟨bk a,fo a+k*8,none⟩)) w':=by
 intro c;exact yZ (c:=c) (n:=l.length) (m:=8) h.row inl.oa inl.cells inl.isSome (Dj l) ah k hk .i64
theorem Is.take{a:Option aAZ}{l:List aL}(h:Is w a l)(k:Nat):Is w a (l.take k):=by
 refine⟨?_,by have:=h.len;simp;omega⟩;have:=h.row.take (k*8)
 rwa[apW]at this
theorem Is.drop{a:Option aAZ}{l:List aL}(h:Is w a l)(k:Nat)(stay:Prop)[Decidable stay](hs:stay->l.length<=k\/k=0):Is w (mK a stay (k*8)) (l.drop k):=by
 refine⟨?_,by have:=h.len;simp;omega⟩;have:=h.row.drop (k*8) stay (fun h'=>by have:=hs h';rw[Dj];omega)
 rwa[apV]at this
theorem vg:kg prog 41 3 (.int .i64 0) 1 8:=⟨underlying41,by kernel_rfl,rfl,ay⟩
set_option linter.unusedSectionVars false
def flat{α:Type}(enc:α->List aAY)(l:List α):List aAY:=l.flatMap enc
section
variable {α:Type} {enc:α->List aAY} {m:Nat} (hm: ∀x,(enc x).length=m)
theorem aol:flat enc []=[]:=rfl
theorem FB(x:α)(r:List α):flat enc (x::r)=enc x++flat enc r:=by unfold flat;rw[BY]
theorem qU(l r:List α):flat enc (l++r)=flat enc l++flat enc r:=by unfold flat;rw[zZ]
theorem uJ(x:α):flat enc [x]=enc x:=by rw[FB,aol,jD]
include hm
theorem kC(l:List α):(flat enc l).length=l.length*m:=by
 induction l with
 |nil=>simp[flat]
 |cons x r ih=>rw[FB,bu,hm,ih,cy,Jf,Ck]
theorem On: ∀(l:List α) (k i:Nat) (x:α),l[k]? =some x->i<m->(flat enc l)[k*m+i]? =(enc x)[i]?
 |[],k,i,x,h,_=>by simp at h
 | y::r,0,i,x,h,hi=>by
   simp at h;subst h;rw[FB,td,jT,Ep (by rw[hm];exact hi)]
 | y::r,k+1,i,x,h,hi=>by
   have e:(k+1)*m+i=m+(k*m+i):=by rw[Jf];omega
   rw[FB,aaq (by rw[hm,e];omega),hm,e,Nat.add_sub_cancel_left,On r k i x (aS h) hi]
theorem Vn(l:List α)(k:Nat):(flat enc l).take (k*m)=flat enc (l.take k):=by
 by_cases hk:k<=l.length
 ·have h1:flat enc l=flat enc (l.take k)++flat enc (l.drop k):=by rw[<-qU,qL]
  rw[h1,Tn (by rw[kC hm,lI,wg hk])]
 have h2:l.length*m<=k*m:=wz _ ah
 rw[kI (by rw[kC hm];exact h2),kI ah]
theorem aeO(l:List α)(k:Nat):(flat enc l).drop (k*m)=flat enc (l.drop k):=by
 by_cases hk:k<=l.length
 ·have h1:flat enc l=flat enc (l.take k)++flat enc (l.drop k):=by rw[<-qU,qL]
  rw[h1,Tp (by rw[kC hm,lI,wg hk])]
 have h2:l.length*m<=k*m:=wz _ ah
 rw[Et (by rw[kC hm];exact h2),Et ah];rfl
end
theorem aom{α:Type}{enc:α->List aAY}(h: ∀x,∀u∈enc x,u.oneCell'=true)(l:List α): ∀u∈flat enc l,u.oneCell'=true:=by
 intro u hu;unfold flat at hu;obtain⟨x,-, hx⟩:=List.mem_flatMap.1 hu;exact h x u hx
structure cQ{α:Type}(enc:α->List aAY)(w:aAX)(a:Option aAZ)(l:List α):Prop where
 row:Row w a (flat enc l)
 len:l.length<=1000000000000000000
section
variable {α:Type} {enc:α->List aAY} {m:Nat} {w w':aAX} {a:Option aAZ} {l:List α}
theorem cQ.nil(w:aAX)(a:Option aAZ):cQ enc w a []:=⟨Row.nil _ _,aq⟩
theorem cQ.below(h:cQ enc w a l)(hb:aAW w.heap.size w w'):cQ enc w' a l:=⟨h.row.below hb,h.len⟩
theorem cQ.cell(h:cQ enc w a l)(hm: ∀x,(enc x).length=m){k:Nat}{x:α}(hk:l[k]? =some x)(j:Nat)(hj:j<m):w.cell? ⟨bk a,fo a+k*m+j,none⟩=(enc x)[j]? :=by
 have aA:=(bt.1 hk).1
 have hb:k*m+j<l.length*m:=by
  have:(k+1)*m<=l.length*m:=wz _ aA;rw[Jf]at this;omega
 have h1:=h.row.cell (k*m+j) (by rw[kC hm];exact hb);rw[On hm l k j x hk hj]at h1;rw[uz];exact h1
theorem cQ.cell0(h:cQ enc w a l)(hm: ∀x,(enc x).length=m){k:Nat}{x:α}(hk:l[k]? =some x)(hj:0<m):w.cell? ⟨bk a,fo a+k*m,none⟩=(enc x)[0]? :=h.cell hm hk 0 hj
theorem cQ.lt(h:cQ enc w a l)(hm: ∀x,(enc x).length=m)(hpos:0<m)(hl:l≠[]):bk a<w.heap.size:=by
 refine h.row.lt fun e=>hl ?_
 have:(flat enc l).length=0:=by rw[e];rfl
 rw[kC hm]at this;rcases Nat.mul_eq_zero.1 this with h1|h1
 ·exact lH h1
 omega
theorem cQ.idx{P:Program}{t e bytes:Nat}{z:aAY}(h:cQ enc w a l)(T:kg P t e z m bytes)(hm: ∀x,(enc x).length=m)(k:Nat)(hk:k<l.length):
 ∀c w',(Instr.indexAt t (.slice a l.length c) (.int .i64 k)).run P w'= .ok (.pointer (some ⟨bk a,fo a+k*m,none⟩)) w':=by
 intro c;exact yZ (c:=c) (n:=l.length) (m:=m) h.row T.oa T.cells T.isSome (kC hm l) T.pos k hk .i64
theorem cQ.take(h:cQ enc w a l)(hm: ∀x,(enc x).length=m)(k:Nat):cQ enc w a (l.take k):=by
 refine⟨?_,by have:=h.len;simp;omega⟩;have:=h.row.take (k*m)
 rwa[Vn hm]at this
theorem cQ.drop(h:cQ enc w a l)(hm: ∀x,(enc x).length=m)(hpos:0<m)(k:Nat)(stay:Prop)[Decidable stay](hs:stay->l.length<=k\/k=0):cQ enc w (mK a stay (k*m)) (l.drop k):=by
 refine⟨?_,by have:=h.len;simp;omega⟩
 have:=h.row.drop (k*m) stay (fun h'=>by
  rcases hs h' with h1|h1
  ·left;rw[kC hm];exact wz _ h1
  right;rw[h1,td])
 rwa[aeO hm]at this
theorem au.els{B E n c:Nat}(h:au w B E m a n c (flat enc l))(hm: ∀x,(enc x).length=m)(hpos:0<m)(hl:l.length<=1000000000000000000):cQ enc w a l/\n=l.length:=by
 refine⟨⟨h.row,hl⟩,?_⟩;have h1:=h.cap.2.2;rw[kC hm]at h1;exact aar hpos h1.symm
end
def aW(w:aAX)(b:Nat)(l:List aAY):Prop:=b<w.heap.size/\ ∀k,k<l.length->w.cell? ⟨b,k,none⟩=l[k]?
theorem aW.new(w:aAX)(us:Array aAY)(T:TypeId):aW (w.alloc (.cells us T)) w.heap.size us.toList:=
 ⟨ aq,fun k hk=>by
   have hh:=lJ w (.cells us T);simp only[World.cell?,hh];simp⟩
theorem aW.below(h:aW w b l)(hb:aAW w.heap.size w w'):aW w' b l:=
 ⟨ou h.1 hb.size,fun k hk=>by rw[hb.cell (p:=⟨b,k,none⟩) h.1];exact h.2 k hk⟩
theorem aW.get(h:aW w b l)(k:Nat)(v:aAY)(hk:l[k]? =some v):w.cell? ⟨b,k,none⟩=some v:=by
 rw[h.2 k (bt.1 hk).1];exact hk
theorem aW.qb(h:aW w b (v0::v1::l)):w.cell? ⟨b,0,none⟩=some v0/\w.cell? ⟨b,1,none⟩=some v1:=⟨h.get 0 _ rfl,h.get 1 _ rfl⟩
theorem aW.tI(h:aW w b (v0::v1::v2::l)):w.cell? ⟨b,0,none⟩=some v0/\w.cell? ⟨b,1,none⟩=some v1/\w.cell? ⟨b,2,none⟩=some v2:=⟨h.get 0 _ rfl,h.get 1 _ rfl,h.get 2 _ rfl⟩
theorem aW.Jt(h:aW w b (v0::v1::v2::v3::l)):w.cell? ⟨b,0,none⟩=some v0/\w.cell? ⟨b,1,none⟩=some v1/\w.cell? ⟨b,2,none⟩=some v2/\w.cell? ⟨b,3,none⟩=some v3:=⟨h.get 0 _ rfl,h.get 1 _ rfl,h.get 2 _ rfl,h.get 3 _ rfl⟩
theorem aW.ji(h:aW w b (v0::v1::v2::v3::v4::l)):w.cell? ⟨b,0,none⟩=some v0/\w.cell? ⟨b,1,none⟩=some v1/\w.cell? ⟨b,2,none⟩=some v2/\w.cell? ⟨b,3,none⟩=some v3/\w.cell? ⟨b,4,none⟩=some v4:=⟨h.get 0 _ rfl,h.get 1 _ rfl,h.get 2 _ rfl,h.get 3 _ rfl,h.get 4 _ rfl⟩
theorem aW.kK(h:aW w b (v0::v1::v2::v3::v4::v5::l)):w.cell? ⟨b,0,none⟩=some v0/\w.cell? ⟨b,1,none⟩=some v1/\w.cell? ⟨b,2,none⟩=some v2/\w.cell? ⟨b,3,none⟩=some v3/\w.cell? ⟨b,4,none⟩=some v4/\w.cell? ⟨b,5,none⟩=some v5:=⟨h.get 0 _ rfl,h.get 1 _ rfl,h.get 2 _ rfl,h.get 3 _ rfl,h.get 4 _ rfl,h.get 5 _ rfl⟩
theorem aW.pI(h:aW w b (v0::v1::v2::v3::v4::v5::v6::l)):w.cell? ⟨b,0,none⟩=some v0/\w.cell? ⟨b,1,none⟩=some v1/\w.cell? ⟨b,2,none⟩=some v2/\w.cell? ⟨b,3,none⟩=some v3/\w.cell? ⟨b,4,none⟩=some v4/\w.cell? ⟨b,5,none⟩=some v5/\w.cell? ⟨b,6,none⟩=some v6:=⟨h.get 0 _ rfl,h.get 1 _ rfl,h.get 2 _ rfl,h.get 3 _ rfl,h.get 4 _ rfl,h.get 5 _ rfl,h.get 6 _ rfl⟩
theorem aW.jj(h:aW w b (v0::v1::v2::v3::v4::v5::v6::v7::l)):w.cell? ⟨b,0,none⟩=some v0/\w.cell? ⟨b,1,none⟩=some v1/\w.cell? ⟨b,2,none⟩=some v2/\w.cell? ⟨b,3,none⟩=some v3/\w.cell? ⟨b,4,none⟩=some v4/\w.cell? ⟨b,5,none⟩=some v5/\w.cell? ⟨b,6,none⟩=some v6/\w.cell? ⟨b,7,none⟩=some v7:=⟨h.get 0 _ rfl,h.get 1 _ rfl,h.get 2 _ rfl,h.get 3 _ rfl,h.get 4 _ rfl,h.get 5 _ rfl,h.get 6 _ rfl,h.get 7 _ rfl⟩
theorem aW.Am(h:aW w b (v0::v1::v2::v3::v4::v5::v6::v7::v8::v9::v10::v11::l)):w.cell? ⟨b,0,none⟩=some v0/\w.cell? ⟨b,1,none⟩=some v1/\w.cell? ⟨b,2,none⟩=some v2/\w.cell? ⟨b,3,none⟩=some v3/\w.cell? ⟨b,4,none⟩=some v4/\w.cell? ⟨b,5,none⟩=some v5/\w.cell? ⟨b,6,none⟩=some v6/\w.cell? ⟨b,7,none⟩=some v7/\w.cell? ⟨b,8,none⟩=some v8/\w.cell? ⟨b,9,none⟩=some v9/\w.cell? ⟨b,10,none⟩=some v10/\w.cell? ⟨b,11,none⟩=some v11:=⟨h.get 0 _ rfl,h.get 1 _ rfl,h.get 2 _ rfl,h.get 3 _ rfl,h.get 4 _ rfl,h.get 5 _ rfl,h.get 6 _ rfl,h.get 7 _ rfl,h.get 8 _ rfl,h.get 9 _ rfl,h.get 10 _ rfl,h.get 11 _ rfl⟩
theorem aW.alH(h:aW w b (v0::v1::v2::v3::v4::v5::v6::v7::v8::v9::v10::v11::v12::v13::l)):w.cell? ⟨b,0,none⟩=some v0/\w.cell? ⟨b,1,none⟩=some v1/\w.cell? ⟨b,2,none⟩=some v2/\w.cell? ⟨b,3,none⟩=some v3/\w.cell? ⟨b,4,none⟩=some v4/\w.cell? ⟨b,5,none⟩=some v5/\w.cell? ⟨b,6,none⟩=some v6/\w.cell? ⟨b,7,none⟩=some v7/\w.cell? ⟨b,8,none⟩=some v8/\w.cell? ⟨b,9,none⟩=some v9/\w.cell? ⟨b,10,none⟩=some v10/\w.cell? ⟨b,11,none⟩=some v11/\w.cell? ⟨b,12,none⟩=some v12/\w.cell? ⟨b,13,none⟩=some v13:=⟨h.get 0 _ rfl,h.get 1 _ rfl,h.get 2 _ rfl,h.get 3 _ rfl,h.get 4 _ rfl,h.get 5 _ rfl,h.get 6 _ rfl,h.get 7 _ rfl,h.get 8 _ rfl,h.get 9 _ rfl,h.get 10 _ rfl,h.get 11 _ rfl,h.get 12 _ rfl,h.get 13 _ rfl⟩
theorem aW.alI{v14 v15:aAY}(h:aW w b (v0::v1::v2::v3::v4::v5::v6::v7::v8::v9::v10::v11::v12::v13::v14::v15::l)):w.cell? ⟨b,0,none⟩=some v0/\w.cell? ⟨b,1,none⟩=some v1/\w.cell? ⟨b,2,none⟩=some v2/\w.cell? ⟨b,3,none⟩=some v3/\w.cell? ⟨b,4,none⟩=some v4/\w.cell? ⟨b,5,none⟩=some v5/\w.cell? ⟨b,6,none⟩=some v6/\w.cell? ⟨b,7,none⟩=some v7/\w.cell? ⟨b,8,none⟩=some v8/\w.cell? ⟨b,9,none⟩=some v9/\w.cell? ⟨b,10,none⟩=some v10/\w.cell? ⟨b,11,none⟩=some v11/\w.cell? ⟨b,12,none⟩=some v12/\w.cell? ⟨b,13,none⟩=some v13/\w.cell? ⟨b,14,none⟩=some v14/\w.cell? ⟨b,15,none⟩=some v15:=⟨h.get 0 _ rfl,h.get 1 _ rfl,h.get 2 _ rfl,h.get 3 _ rfl,h.get 4 _ rfl,h.get 5 _ rfl,h.get 6 _ rfl,h.get 7 _ rfl,h.get 8 _ rfl,h.get 9 _ rfl,h.get 10 _ rfl,h.get 11 _ rfl,h.get 12 _ rfl,h.get 13 _ rfl,h.get 14 _ rfl,h.get 15 _ rfl⟩
structure Th where
 aO:Int
 aR:Int
 aj:Tx
 deriving DecidableEq,Inhabited
@[reducible] def oD(t:Th):List aAY:=[.int .i64 t.aO,.int .i64 t.aR,.string (tx t.aj)]
@[reducible] def mz(t:Th):aAY:=.agg #[.int .i64 t.aO,.int .i64 t.aR,.string (tx t.aj)]
theorem YU(x y:Th):(x=y)<->(x.aO=y.aO/\x.aR=y.aR/\x.aj=y.aj):=by
 cases x;cases y;simp
theorem Fw(x y:Th)(w:aAX):(binOp .eql 25 (mz x) (mz y)).run prog w= .ok (.bool (decide (x=y))) w:=by
 have hS:prog.underlying 25=some (.struct (prog.fieldsOf 25)):=by kernel_rfl
 have hp:prog.stoodInHeld 25=false:=by kernel_rfl
 have a3:=isAgg3;have z3:=sizeOf3;have u3:=underlying3;have a4:=isAgg9;have z4:=sizeOf9;have u4:=underlying9;rw[EK,show(10000:Nat)=9999+1 from rfl,M8 w 9999 25 _ _ hS hp];simp only[Program.fieldsOf,underlying25]
 go_simp
 rw[show decide (x=y)=decide (x.aO=y.aO/\x.aR=y.aR/\x.aj=y.aj)from M7.2 (YU x y)];simp only[bU]
 by_cases h1:x.aO=y.aO<;>by_cases h2:x.aR=y.aR<;>by_cases h6:x.aj=y.aj<;>simp[h1,h2,h6]
theorem Du(x y:Th)(w:aAX):(binOp .neq 25 (mz x) (mz y)).run prog w= .ok (.bool (!decide (x=y))) w:=by
 have h:=Fw x y w;rw[EK]at h;rw[Ts];generalize (Op.equalIn 10000 25 (.agg #[.int .i64 x.aO,.int .i64 x.aR,.string (tx x.aj)]) (.agg #[.int .i64 y.aO,.int .i64 y.aR,.string (tx y.aj)])).run prog w=r at*;cases r with
 |ok b w'=>simp[Result.andThen]at h ⊢; obtain⟨rfl,rfl⟩:=h;exact⟨rfl,rfl⟩
 |halt x w'=>simp[Result.andThen]at h
theorem fM(x:Th):(oD x).length=3:=rfl
theorem Uf(x:Th): ∀u∈oD x,u.oneCell'=true:=by
 intro u hu;simp only[oD,cq,qO,qK]at hu;rcases hu with rfl|rfl|rfl<;>rfl
theorem lY:kg prog 112 25 (.agg #[.int .i64 0,.int .i64 0,.string aBm]) 3 32:=⟨underlying112,by kernel_rfl,rfl,ay⟩
inductive Nd where
 |mk (kind:Int) (th:Th) (val:Int) (a:Option aAZ) (c:Nat) (aP:List Nd):Nd
def Nd.kind:Nd->Int| .mk k _ _ _ _ _=>k
def Nd.th:Nd->Th| .mk _ t _ _ _ _=>t
def Nd.val:Nd->Int| .mk _ _ v _ _ _=>v
def Nd.a:Nd->Option aAZ| .mk _ _ _ a _ _=>a
def Nd.c:Nd->Nat| .mk _ _ _ _ c _=>c
def Nd.aP:Nd->List Nd| .mk _ _ _ _ _ l=>l
@[reducible] def cN(x:Nd):List aAY:=[.int .i64 x.kind,.int .i64 x.th.aO,.int .i64 x.th.aR,.string (tx x.th.aj),.int .i64 x.val,.slice x.a x.aP.length x.c]
@[reducible] def vN(x:Nd):aAY:=.agg #[.int .i64 x.kind,.int .i64 x.th.aO,.int .i64 x.th.aR,.string (tx x.th.aj),.int .i64 x.val,.slice x.a x.aP.length x.c]
theorem nN(x:Nd):(cN x).length=6:=rfl
theorem Ue(x:Nd): ∀u∈cN x,u.oneCell'=true:=by
 intro u hu;simp only[cN,cq,qO,qK]at hu;rcases hu with rfl|rfl|rfl|rfl|rfl|rfl<;>rfl
theorem qo:kg prog 26 28 (.agg #[.int .i64 0,.int .i64 0,.int .i64 0,.string aBm,.int .i64 0,.slice none 0 0]) 6 72:=⟨underlying26,by kernel_rfl,rfl,ay⟩
theorem Nd.ind{P:Nd->Prop}(h: ∀x:Nd,(∀k∈x.aP,P k)->P x): ∀x,P x
 | .mk k t v a c l=>h _ fun y hy=>Nd.ind h y
 termination_by x=>SizeOf.sizeOf x
 decreasing_by
  have:=List.sizeOf_lt_of_mem (show y∈l from hy);simp;omega
inductive fZ(w:aAX):Nd->Prop where
 |mk (x:Nd) (hl:x.th.aj.length<=9223372036854775807) (hr:cQ cN w x.a x.aP) (hc:x.aP.length<=x.c) (h: ∀k∈x.aP,fZ w k):fZ w x
theorem fZ.aj{x:Nd}(h:fZ w x):x.th.aj.length<=9223372036854775807:=by cases h;assumption
theorem fZ.els{x:Nd}(h:fZ w x):cQ cN w x.a x.aP:=by cases h;assumption
theorem fZ.cap{x:Nd}(h:fZ w x):x.aP.length<=x.c:=by cases h;assumption
theorem fZ.gZ{x:Nd}(h:fZ w x): ∀k∈x.aP,fZ w k:=by cases h;assumption
theorem fZ.keep(hb:aAW w.heap.size w w'): ∀{x:Nd},fZ w x->fZ w' x:=by
 intro x
 induction x using Nd.ind with
 |h x ih=>intro h;exact⟨x,h.aj,h.els.below hb,h.cap,fun k hk=>ih k hk (h.gZ k hk)⟩
def rJ(w:aAX)(b:Nat)(x:Nd):Prop:=b<w.heap.size/\ ∀k,k<6->w.cell? ⟨b,k,none⟩=(cN x)[k]?
abbrev bY(x:Nd):Obj:=.cells #[.int .i64 x.kind,.int .i64 x.th.aO,.int .i64 x.th.aR,.string (tx x.th.aj),.int .i64 x.val,.slice x.a x.aP.length x.c] 28
theorem rJ.below{x:Nd}(h:rJ w b x)(hb:aAW w.heap.size w w'):rJ w' b x:=
 ⟨ou h.1 hb.size,fun k hk=>by rw[hb.cell (p:=⟨b,k,none⟩) h.1];exact h.2 k hk⟩
theorem rJ.new(w:aAX)(x:Nd):rJ (w.alloc (bY x)) w.heap.size x:=
 ⟨ aq,fun k hk=>by
   have hh:=lJ w (bY x);simp only[World.cell?,hh];simp[cN]⟩
theorem rJ.cells{x:Nd}(h:rJ w b x):w.cell? ⟨b,0,none⟩=some (.int .i64 x.kind)/\w.cell? ⟨b,1,none⟩=some (.int .i64 x.th.aO)/\w.cell? ⟨b,2,none⟩=some (.int .i64 x.th.aR)/\w.cell? ⟨b,3,none⟩=some (.string (tx x.th.aj))/\w.cell? ⟨b,4,none⟩=some (.int .i64 x.val)/\w.cell? ⟨b,5,none⟩=some (.slice x.a x.aP.length x.c):=
 ⟨h.2 0 ah,h.2 1 ah,h.2 2 ah,h.2 3 ah,h.2 4 ah,h.2 5 ah⟩
theorem cQ.nd{a:Option aAZ}{l:List Nd}(h:cQ cN w a l){x:Nd}(hk:l[k]? =some x):
 w.cell? ⟨bk a,fo a+k*6,none⟩=some (.int .i64 x.kind)/\w.cell? ⟨bk a,fo a+k*6+1,none⟩=some (.int .i64 x.th.aO)/\w.cell? ⟨bk a,fo a+k*6+2,none⟩=some (.int .i64 x.th.aR)/\w.cell? ⟨bk a,fo a+k*6+3,none⟩=some (.string (tx x.th.aj))/\w.cell? ⟨bk a,fo a+k*6+4,none⟩=some (.int .i64 x.val)/\w.cell? ⟨bk a,fo a+k*6+5,none⟩=some (.slice x.a x.aP.length x.c):=
 ⟨h.cell0 nN hk ah,h.cell nN hk 1 ah,h.cell nN hk 2 ah,h.cell nN hk 3 ah,h.cell nN hk 4 ah,h.cell nN hk 5 ah⟩
theorem cQ.th{a:Option aAZ}{l:List Th}(h:cQ oD w a l){x:Th}(hk:l[k]? =some x):
 w.cell? ⟨bk a,fo a+k*3,none⟩=some (.int .i64 x.aO)/\w.cell? ⟨bk a,fo a+k*3+1,none⟩=some (.int .i64 x.aR)/\w.cell? ⟨bk a,fo a+k*3+2,none⟩=some (.string (tx x.aj)):=
 ⟨h.cell0 fM hk ah,h.cell fM hk 1 ah,h.cell fM hk 2 ah⟩
attribute [local go_sem high] wL jO
def dN(nm:Tx)(j:aL):Bool:=decide (j.op=12)&&decide (j.av=nm)
theorem al8(i j:aL)(b:Nat)(w:aAX)(hb:iU w b i):aA7 prog 224 #[vI j,.pointer (some ⟨b,0,none⟩)] w (bg w (.bool (dN i.av j))):=by
 obtain⟨c0,c1,c2,c3,c4,c5,c6,c7⟩:=hb.cells;have aA:=hb.1;have B:=al w (j6 j)
 by_cases h:j.op=12
 ·have z:(j.op==12)=true:=aS h
  have e:dN i.av j=(j.av==i.av):=by unfold dN;rw[jE];simp[h]
  have z2:((tx j.av).toList==(tx i.av).toList)=(j.av==i.av):=j9 _ _;have HE:=af e;generalize (j.av==i.av)=bb at*;exact adA
 have z:(j.op==12)=false:=aS h
 have HE:=af (show dN i.av j=false by unfold dN;rw[eZ h];rfl);exact adA
def Wy(o:Option Nat):Int:=match o with
 |some n=>n
 |none=> -1
theorem Vk{l:List aL}(h: ∀j (hj:j<l.length),p l[j]=false):l.findIdx? p=none:=by
 rw[ML];intro x hx;obtain⟨i,hi,rfl⟩:=IU.1 hx;exact h i hi
theorem Vl{l:List aL}(hk:k<l.length)(h1:p l[k]=true)(h2: ∀j (hj:j<l.length),j<k->p l[j]=false):l.findIdx? p=some k:=by
 rw[Ji];exact⟨hk,h1,fun j hj=>by rw[h2 j ah hj];simp⟩
theorem atN(i:aL)(b:Nat)(l:List aL)(a:Option aAZ)(c:Nat)(w:aAX)(h:Is w a l)(hb:iU w b i):
 aA7 prog 277 #[.slice a l.length c,.func (.func 224) #[] #[.pointer (some ⟨b,0,none⟩)]] w (bg w (.int .i64 (Wy (l.findIdx? (dN i.av))))):=by
 have hl:=h.len;have B:=bS w.heap.size w;go_in;go_wp2
 go_loopw [8] (fun i' wr=> ∃k:Nat,k<=l.length/\i'= .int .i64 k/\Hid (∀j (hj:j<l.length),j<k->dN i.av l[j]=false)/\Is wr a l/\iU wr b i/\aAW w.heap.size w wr) (fun i' _=>l.length-(intOf i').toNat)
 ·exact⟨0,ah,rfl,af (fun j hj h'=>absurd h' (iz j)),h,hb,B⟩
 obtain⟨k,hk,rfl,HK,h,hb,B⟩:=hrel
 by_cases aA:k<l.length
 ·obtain⟨f,hf⟩: ∃f,l[k]? =some f:=⟨_,aV aA⟩
  have AH:l[k]=f:=fU ((aV aA).symm.trans hf);obtain⟨p0,p1,p2,p3,p4,p5,p6,p7⟩:=h.cells hf;have ix:=h.idx k aA;have HF:=af AH;cases hm:dN i.av f
  all_goals
   have HM:=af hm;go_wp2_with fail;refine(al8 i f b _ hb).mono ?_;rintro e' w7 ⟨rfl,E7⟩;rw[HM.oo];have h:=h.below E7;have hb:=hb.below E7;have B:=aI B E7;go_wp2_with fail
  ·go_roundw
   case rel=>exact⟨k+1,ah,by go_num,af (fun j hj hjk=>by
    by_cases hh:j=k
    ·subst hh;rw[HF.oo];exact HM.oo
    exact HK.oo j hj ah),h,hb,B⟩
   case measure=>simp[intOf];omega
  have HR:=af (Vl aA (by rw[HF.oo];exact HM.oo) HK.oo)
  go_ret;exact⟨nA (by rw[HR.oo];rfl),B⟩
 have HR:=af (Vk (fun j hj=>HK.oo j hj ah))
 go_wp2;go_ret;exact⟨nA (by rw[HR.oo];rfl),B⟩
theorem atr(i:aL)(b:Nat)(l:List aL)(a:Option aAZ)(c:Nat)(w:aAX)(h:Is w a l)(hb:iU w b i):
 aA7 prog 223 #[.slice a l.length c,.func (.func 224) #[] #[.pointer (some ⟨b,0,none⟩)]] w (bg w (.bool (l.findIdx? (dN i.av)).isSome)):=by
 have C:=af (atN i b l a c w h hb);generalize l.findIdx? (dN i.av)=r at*;generalize l.length=n at*;cases r with
 | none=>
   go_in;go_wp2_with fail;refine aQ C.oo fun w1 E=>?_
   have z:Wy none= -1:=rfl;exact JR
 | some k=>
   have z:Wy (some k)=(k:Int):=rfl;have hk:(0:Int)<=(k:Int):=ah;rw[z]at C;go_in;go_wp2_with fail;refine aQ C.oo fun w1 E=>?_
   go_wp2;go_ret;exact⟨eC aq,E⟩
open Go.Maps
def lE(code:List aL)(k:Nat):Option Int:=match code[k]? with
 |none=>some (-1)
 | some i=>
   if i.op=12 then(if code.findIdx? (dN i.av)=some k then some (-1)else none)
   else if i.op=11 then(match code.findIdx? (dN i.av)with
    |none=>none
    |some at'=>if((code.drop (k+1)).findIdx? (dN i.av)).isSome then some (at':Int)else none)
   else some (-1)
def iT(code:List aL)(k:Nat):Option Int:=match code[k]? with
 |none=>some (-1)
 | some i=>
   if i.op=12 then(if(code.take k).any (dN i.av)then none else some (-1))
   else if i.op=11 then((code.drop (k+1)).findIdx? (dN i.av)).map fun j=>((k+1+j:Nat):Int)
   else some (-1)
def xl(code:List aL)(k:Nat):List Int:=(aBM k).map fun j=>(lE code j).getD (-1)
def oN(code:List aL)(k:Nat):List Int:=(aBM k).map fun j=>(iT code j).getD (-1)
def kQ(code:List aL):List Int × Int × Int:=
 if 256<code.length then([],2,0)
 else match code.findIdx? fun i=> !cD i with
  |some k=>([],91,k)
  | none=>match (aBM code.length).find? fun k=>(iT code k).isNone with
    |some k=>([],93,k)
    |none=>(oN code code.length,0,0)
theorem xd{nm:Tx}{j:aL}:dN nm j=true<->j.op=12/\j.av=nm:=by unfold dN;simp
theorem DK(code:List aL)(k:Nat):lE code k=none<->iT code k=none:=by
 unfold lE iT;cases hk:code[k]? with
 |none=>simp
 | some i=>
   obtain⟨aA,he⟩:=bt.1 hk;simp only
   by_cases h12:i.op=12
   ·rw[ak h12,ak h12]
    have Kp:dN i.av code[k]=true:=by rw[he,xd];exact⟨h12,rfl⟩
    by_cases J7:(code.take k).any (dN i.av)=true
    ·rw[ak J7]
     have: ¬code.findIdx? (dN i.av)=some k:=by
      intro hf;rw[Ji]at hf;obtain⟨_,_,h3⟩:=hf;rw[qN]at J7;obtain⟨x,hx,hp⟩:=J7;obtain⟨j,hj,rfl⟩:=IU.1 hx;simp at hj;rw[M5]at hp;exact absurd hp (h3 j ah)
     rw[ai this]
    rw[ai J7]
    have:code.findIdx? (dN i.av)=some k:=by
     refine Vl aA Kp (fun j hj hjk=>?_);cases hb:dN i.av code[j]with
     |false=>rfl
     | true=>
       refine absurd (qN.2 ⟨code[j],?_,hb⟩) J7;rw[aau];exact⟨j,ah,rfl⟩
    rw[ak this]
   rw[ai h12,ai h12]
   by_cases h11:i.op=11
   ·rw[ak h11,ak h11]
    cases hl:(code.drop (k+1)).findIdx? (dN i.av)with
    | none=>
      cases code.findIdx? (dN i.av)<;>simp
    | some j=>
      rw[Ji]at hl;obtain⟨hj,hp, -⟩:=hl;cases hf:code.findIdx? (dN i.av)with
      | none=>
        rw[ML]at hf;rw[Jb]at hp;rw[hf _ (x8 _)]at hp;cases hp
      |some at'=>simp
   rw[ai h11,ai h11]
theorem axK(code:List aL)(h: ∀k,k<code.length->lE code k≠none)(k:Nat):lE code k=iT code k:=by
 unfold lE iT;cases hk:code[k]? with
 |none=>rfl
 | some i=>
   obtain⟨aA,he⟩:=bt.1 hk;have hn:=h k aA;have hn2:iT code k≠none:=fun e=>hn ((DK code k).2 e)
   unfold lE at hn;unfold iT at hn2;rw[hk]at hn hn2;simp only at hn hn2⊢
   by_cases h12:i.op=12
   ·rw[ak h12]at hn hn2⊢
    rw[ak h12]
    split at hn
    ·split at hn2
     ·exact absurd rfl hn2
     rename_i a b;rw[ak a,ai b]
    exact absurd rfl hn
   rw[ai h12]at hn hn2⊢
   rw[ai h12]
   by_cases h11:i.op=11
   ·rw[ak h11]at hn hn2⊢
    rw[ak h11];cases hl:(code.drop (k+1)).findIdx? (dN i.av)with
    |none=>rw[hl]at hn2;simp at hn2
    | some j=>
      rw[Ji]at hl;obtain⟨hj,hp, -⟩:=hl;simp at hj;rw[Jb,xd]at hp;have hL:=h (k+1+j) ah;unfold lE at hL;rw[aV ah]at hL;simp only at hL;rw[ak hp.1,hp.2]at hL
      split at hL
      ·rename_i hf
       rw[hf];simp
      exact absurd rfl hL
   rw[ai h11,ai h11]
theorem ahx(code:List aL)(h: ∀k,k<code.length->lE code k≠none)(n:Nat):xl code n=oN code n:=by
 unfold xl oN;exact IZ fun k _=>by rw[axK code h k]
theorem XU(code:List aL)(k:Nat):(xl code k).length=k:=by simp[xl]
theorem ahw(code:List aL)(k:Nat):xl code (k+1)=xl code k++[(lE code k).getD (-1)]:=by simp[xl,Nb]
theorem agB(h:256<code.length):kQ code=([],2,0):=by unfold kQ;rw[ak h]
theorem agA(h:code.length<=256)(hk:k<code.length)(h1:cD code[k]=false)(h2: ∀j (hj:j<code.length),j<k->cD code[j]=true):kQ code=([],91,(k:Int)):=by
 unfold kQ;rw[ai ah,Vl hk (by rw[h1];rfl) (fun j hj hjk=>by rw[h2 j hj hjk];rfl)]
theorem find_range{n:Nat}{p:Nat->Bool}(hk:k<n)(h1:p k=true)(h2: ∀j,j<k->p j=false):(aBM n).find? p=some k:=by
 rw[aaw];exact⟨h1,by simpa using hk,fun j hj=>by rw[h2 j hj];rfl⟩
theorem Pz(h:code.length<=256)(hc: ∀j (hj:j<code.length),cD code[j]=true)(hk:k<code.length)(h1:lE code k=none)(h2: ∀j,j<k->lE code j≠none):kQ code=([],93,(k:Int)):=by
 unfold kQ;rw[ai ah,Vk (fun j hj=>by rw[hc j hj];rfl)];simp only
 rw[find_range hk (by rw[(DK code k).1 h1];rfl) (fun j hj=>by
  cases hs:iT code j with
  |none=>exact absurd ((DK code j).2 hs) (h2 j hj)
  |some v=>rfl)]
theorem agC(h:code.length<=256)(hc: ∀j (hj:j<code.length),cD code[j]=true)(h2: ∀j,j<code.length->lE code j≠none):kQ code=(xl code code.length,0,0):=by
 unfold kQ;rw[ai ah,Vk (fun j hj=>by rw[hc j hj];rfl)];simp only
 have:(aBM code.length).find? (fun k=>(iT code k).isNone)=none:=by
  rw[I7];intro j hj;simp at hj;cases hs:iT code j with
  |none=>exact absurd ((DK code j).2 hs) (h2 j hj)
  |some v=>simp
 rw[this,ahx code h2]
def vV(code:List aL)(m:Nat)(D:DataW Unit):Prop:=
 ∀nm:Tx,(∀j,(code.drop m).findIdx? (dN nm)=some j->Maps.has D (.string nm)=true/\D.atKey (.string nm) (.lit (.int .i64 0))= .lit (.int .i64 ((m+j:Nat):Int)))/\((code.drop m).findIdx? (dN nm)=none->Maps.has D (.string nm)=false)
theorem vV.nil(code:List aL)(m:Nat)(h:code.length<=m):vV code m (.map []):=by
 intro nm;rw[iN h];exact⟨fun j hj=>by simp at hj,fun _=>rfl⟩
theorem findIdx_cons(p:aL->Bool)(x:aL)(l:List aL):(x::l).findIdx? p=if p x then some 0 else(l.findIdx? p).map (· +1):=by
 rw[List.findIdx?_cons]
theorem vV.skip(h:vV code (m+1) D)(hi:code[m]? =some i)(hop:i.op≠12):vV code m D:=by
 intro nm;obtain⟨aA,he⟩:=bt.1 hi;rw[jB aA,he,findIdx_cons,ai (by rw[xd];exact fun h=>hop h.1)];obtain⟨h1,h2⟩:=h nm;refine⟨fun j hj=>?_,fun hn=>h2 (aS hn)⟩;rw[SH]at hj;obtain⟨j',hj',rfl⟩:=hj;obtain⟨a,b⟩:=h1 j' hj';exact⟨a,by rw[b];congr 3;omega⟩
theorem vV.put(h:vV code (m+1) D)(hm:IsMap D)(hi:code[m]? =some i)(hop:i.op=12)(hk:WideAt.IsKeyLit (.string i.av)):vV code m (D.put (.string i.av) (.lit (.int .i64 (m:Int)))):=by
 intro nm;obtain⟨aA,he⟩:=bt.1 hi;rw[jB aA,he,findIdx_cons];obtain⟨h1,h2⟩:=h nm
 by_cases hn:i.av=nm
 ·subst hn
  rw[ak (by rw[xd];exact⟨hop,rfl⟩)];refine⟨fun j hj=>?_,fun hn=>by simp at hn⟩;simp at hj;subst hj;exact⟨has_put_same hm hk _,by rw[atKey_put_same hm hk];rfl⟩
 rw[ai (by rw[xd];exact fun h=>hn h.2)]
 have aN:(Lit.string nm)≠ .string i.av:=fun e=>hn (by cases e;rfl)
 refine⟨fun j hj=>?_,fun hn'=>?_⟩
 ·rw[SH]at hj
  obtain⟨j',hj',rfl⟩:=hj;obtain⟨a,b⟩:=h1 j' hj';rw[has_put_other aN,atKey_put_other aN];exact⟨a,by rw[b];congr 3;omega⟩
 rw[has_put_other aN];exact h2 (aS hn')
def dQ:Th:=⟨0,0,[]⟩
def dU(ag:Int):Int:=if ag=1 then 15 else 32
def bD(ag:Int):Bool:=decide (ag=1)||decide (ag=2)
def dF(ag:Int)(t:Th):Bool:=
 if t.aO= -1 then decide (t.aR=0)&&aU t.aj
 else decide (0<=t.aO)&&decide (t.aO<16)&&decide (0<=t.aR)&&decide (t.aR<dU ag)&&decide (t.aj=[])
def iJ(ag:Int)(kind:Int)(t:Th)(v:Int)(n:Nat):Bool:=
 if kind=2 then dF ag t&&bJ v&&decide (n=0)
 else decide (t=dQ)&&decide (v=0)&&(if kind=1 then decide (n=0)else if kind=3 then decide (n=1)else if kind=4\/kind=5 then decide (2<=n)else false)
mutual
def fY(ag:Int):Nd->Nat->Nat->Nat × Int
 | .mk k t v a c l,met,deep=>if 1024<=met\/64<=deep then(met,2)else if iJ ag k t v l.length=false then(met,80)else kX ag l (met+1) (deep+1)
def kX(ag:Int):List Nd->Nat->Nat->Nat × Int
 |[],met,_=>(met,0)
 |x::r,met,deep=>if(fY ag x met deep).2=0 then kX ag r (fY ag x met deep).1 deep else fY ag x met deep
end
theorem LM(ag:Int)(x:Nd)(met deep:Nat):fY ag x met deep=if 1024<=met\/64<=deep then(met,2)else if iJ ag x.kind x.th x.val x.aP.length=false then(met,80)else kX ag x.aP (met+1) (deep+1):=by
 cases x;rw[fY];rfl
theorem Q0{ag:Int}{x:Nd}{r:List Nd}{met deep:Nat}:kX ag (x::r) met deep=if(fY ag x met deep).2=0 then kX ag r (fY ag x met deep).1 deep else fY ag x met deep:=by rw[kX]
theorem LL{ag:Int}{met deep:Nat}:kX ag [] met deep=(met,0):=by rw[kX]
theorem akg{ag:Int}{l:List Nd}{k:Nat}{x:Nd}(hk:l[k]? =some x)(met deep:Nat):kX ag (l.drop k) met deep=if(fY ag x met deep).2=0 then kX ag (l.drop (k+1)) (fY ag x met deep).1 deep else fY ag x met deep:=by
 obtain⟨aA,rfl⟩:=bt.1 hk;rw[jB aA,Q0]
theorem akj(ag:Int): ∀(x:Nd) (met deep:Nat),met<=1024->(fY ag x met deep).1<=1024:=by
 intro x
 induction x using Nd.ind with
 | h x ih=>
   intro met deep hm;rw[LM];split
   ·exact hm
   rename_i h
   split
   ·exact hm
   have key: ∀(l:List Nd),(∀k∈l,k∈x.aP)-> ∀met deep,met<=1024->(kX ag l met deep).1<=1024:=by
    intro l
    induction l with
    |nil=>intro _ met deep hm;rw[LL];exact hm
    | cons y r ihl=>
      intro hin met deep hm;have h1:=ih y (hin y aq) met deep hm;rw[Q0];split
      ·exact ihl (fun k hk=>hin k (by simp[hk])) _ _ h1
      exact h1
   exact key _ (fun k hk=>hk) _ _ ah
def dh(ag ail:Int)(x:Nd):Int:=if bD ag=false then 5 else if ail<1\/3<ail then 80 else(fY ag x 0 0).2
def dy(ag:Int)(n:Nat):Tx:=if ag=1 then cg n else cZ n
def ue(ag:Int)(t:Th):Tx:=if t.aO= -1 then t.aj else aA9 t.aO++[58]++dy ag t.aR.toNat
def wF(ag:Int)(t:Th)(v:Int):Tx:=ue ag t++[61]++aA9 v
def rA:Tx:=[32,47,92,32]
def rB:Tx:=[32,92,47,32]
def lT(b:Bool)(s:Tx):Tx:=if b then 40::s++[41]else s
def weak(and:Bool)(k:Int):Bool:=(and&&decide (k=4))||decide (k=5)
mutual
def fN(ag:Int):Nd->Tx
 | .mk k t v a c l=>if k=1 then[116,114,117,101]else if k=2 then wF ag t v else if k=3 then 126::kE ag true [] l else if k=4 then kE ag true rA l else kE ag false rB l
def kE(ag:Int)(and:Bool)(sep:Tx):List Nd->Tx
 |[]=>[]
 |x::r=>lT (weak and x.kind) (fN ag x)++mP ag and sep r
def mP(ag:Int)(and:Bool)(sep:Tx):List Nd->Tx
 |[]=>[]
 |x::r=>sep++(lT (weak and x.kind) (fN ag x)++mP ag and sep r)
end
theorem sL(ag:Int)(x:Nd):fN ag x=if x.kind=1 then[116,114,117,101]else if x.kind=2 then wF ag x.th x.val else if x.kind=3 then 126::kE ag true [] x.aP else if x.kind=4 then kE ag true rA x.aP else kE ag false rB x.aP:=by
 cases x;rw[fN];rfl
theorem Ln{ag:Int}{and:Bool}{sep:Tx}:kE ag and sep []=[]:=by rw[kE]
theorem y9{ag:Int}{and:Bool}{sep:Tx}{x:Nd}{r:List Nd}:kE ag and sep (x::r)=lT (weak and x.kind) (fN ag x)++mP ag and sep r:=by rw[kE]
theorem rE{ag:Int}{and:Bool}{sep:Tx}:mP ag and sep []=[]:=by rw[mP]
theorem vF{ag:Int}{and:Bool}{sep:Tx}{x:Nd}{r:List Nd}:mP ag and sep (x::r)=sep++(lT (weak and x.kind) (fN ag x)++mP ag and sep r):=by rw[mP]
theorem ajO{ag:Int}{and:Bool}{sep:Tx}: ∀(l r:List Nd),mP ag and sep (l++r)=mP ag and sep l++mP ag and sep r
 |[],r=>by rw[rE];rfl
 |x::l,r=>by rw[cY,vF,vF,ajO l r];simp
theorem ax6{ag:Int}{and:Bool}{sep:Tx}(l:List Nd)(x:Nd):kE ag and sep (l++[x])=kE ag and sep l++(if l=[]then[]else sep)++lT (weak and x.kind) (fN ag x):=by
 cases l with
 |nil=>rw[eE,y9,Ln,rE];simp
 |cons y r=>rw[cY,y9,y9,ajO,vF,rE];simp
theorem ax7{ag:Int}{and:Bool}{sep:Tx}{l:List Nd}{k:Nat}{x:Nd}(hk:l[k]? =some x):kE ag and sep (l.take (k+1))=kE ag and sep (l.take k)++(if k=0 then[]else sep)++lT (weak and x.kind) (fN ag x):=by
 obtain⟨aA,rfl⟩:=bt.1 hk;rw[pn aA,ax6]
 congr 2
 by_cases h0:k=0
 ·subst h0;simp
 have:l.take k≠[]:=by
  intro e;have hz:(l.take k).length=0:=by rw[e];rfl
  rw[lI]at hz;omega
 rw[ai this,ai h0]
mutual
def lN:Nd->Nat
 | .mk k t v a c l=>1+gb l
def gb:List Nd->Nat
 |[]=>0
 |x::r=>lN x+gb r
end
theorem Cr(x:Nd):lN x=1+gb x.aP:=by cases x;rw[lN];rfl
theorem yw:gb []=0:=by rw[gb]
theorem qT{x:Nd}{r:List Nd}:gb (x::r)=lN x+gb r:=by rw[gb]
theorem yu: ∀(l r:List Nd),gb (l++r)=gb l+gb r
 |[],r=>by rw[yw];simp
 |x::l,r=>by rw[cY,qT,qT,yu l r];omega
inductive eo(ag:Int):Nd->Prop where
 |mk (x:Nd) (h:iJ ag x.kind x.th x.val x.aP.length=true) (hk: ∀y∈x.aP,eo ag y):eo ag x
theorem eo.may{ag:Int}{x:Nd}(h:eo ag x):iJ ag x.kind x.th x.val x.aP.length=true:=by cases h;assumption
theorem eo.gZ{ag:Int}{x:Nd}(h:eo ag x): ∀y∈x.aP,eo ag y:=by cases h;assumption
theorem azt(ag:Int): ∀(x:Nd) (met deep m:Nat),fY ag x met deep=(m,0)->eo ag x/\m=met+lN x/\m<=1024:=by
 intro x
 induction x using Nd.ind with
 | h x ih=>
   intro met deep m h;rw[LM]at h
   by_cases h1:1024<=met\/64<=deep
   ·rw[ak h1]at h;cases h
   rw[ai h1]at h
   by_cases h2:iJ ag x.kind x.th x.val x.aP.length=false
   ·rw[ak h2]at h;cases h
   rw[ai h2]at h
   have key: ∀(l:List Nd),(∀k∈l,k∈x.aP)-> ∀met deep m,met<=1024->kX ag l met deep=(m,0)->(∀y∈l,eo ag y)/\m=met+gb l/\m<=1024:=by
    intro l
    induction l with
    |nil=>intro _ met deep m hm h;rw[LL]at h;cases h;exact⟨fun y hy=>absurd hy aq,by rw[yw];omega,hm⟩
    | cons y r ihl=>
      intro hin met deep m hm h;rw[Q0]at h
      by_cases h3:(fY ag y met deep).2=0
      ·rw[ak h3]at h
       obtain⟨o1,e1,b1⟩:=ih y (hin y aq) met deep (fY ag y met deep).1 (by rw[<-h3]);obtain⟨o2,e2,b2⟩:=ihl (fun k hk=>hin k (by simp[hk])) _ _ _ b1 h;exact⟨fun z hz=>by rcases cq.1 hz with rfl|hz;exact o1;exact o2 z hz,by rw[qT];omega,b2⟩
      rw[ai h3]at h;rw[h]at h3;exact absurd rfl h3
   obtain⟨o,e,b⟩:=key _ (fun k hk=>hk) _ _ _ ah h;exact⟨⟨x,by simpa using h2,o⟩,by rw[Cr];omega,b⟩
theorem Ap{ag q:Int}{x:Nd}(h:dh ag q x=0):bD ag=true/\1<=q/\q<=3/\eo ag x/\lN x<=1024:=by
 unfold dh at h
 by_cases ha:bD ag=false
 ·rw[ak ha]at h;cases h
 rw[ai ha]at h
 by_cases hq:q<1\/3<q
 ·rw[ak hq]at h;cases h
 rw[ai hq]at h;obtain⟨o,e,b⟩:=azt ag x 0 0 (fY ag x 0 0).1 (by rw[<-h]);exact⟨by simpa using ha,ah,ah,o,ah⟩
theorem yS{ag k v:Int}{t:Th}{n:Nat}(h:iJ ag k t v n=true):(k=1/\n=0)\/(k=2/\dF ag t=true/\bJ v=true/\n=0)\/(k=3/\n=1)\/(k=4/\2<=n)\/(k=5/\2<=n):=by
 unfold iJ at h
 by_cases h2:k=2
 ·rw[ak h2]at h
  simp only[bV,dw]at h;exact .inr (.inl ⟨h2,h.1.1,h.1.2,h.2⟩)
 rw[ai h2]at h;simp only[bV,dw]at h;obtain⟨-, h⟩:=h
 by_cases h1:k=1
 ·rw[ak h1]at h;exact .inl ⟨h1,by simpa using h⟩
 rw[ai h1]at h
 by_cases h3:k=3
 ·rw[ak h3]at h;exact .inr (.inr (.inl ⟨h3,by simpa using h⟩))
 rw[ai h3]at h
 by_cases h4:k=4\/k=5
 ·rw[ak h4]at h
  rcases h4 with rfl|rfl
  ·exact .inr (.inr (.inr (.inl ⟨rfl,by simpa using h⟩)))
  exact .inr (.inr (.inr (.inr ⟨rfl,by simpa using h⟩)))
 rw[ai h4]at h;cases h
theorem Lp{ag:Int}{t:Th}(h:dF ag t=true):(t.aO= -1/\t.aR=0/\aU t.aj=true)\/(∃(i k:Nat),t=⟨i,k,[]⟩/\i<16/\(k:Int)<dU ag):=by
 obtain⟨th,rg,aj⟩:=t;unfold dF at h;simp only at h
 by_cases h1:th= -1
 ·rw[ak h1]at h
  simp only[bV,dw]at h;exact .inl ⟨h1,h.1,h.2⟩
 rw[ai h1]at h
 simp only[bV,dw]at h;obtain⟨⟨⟨⟨a,b⟩,c⟩,d⟩,e⟩:=h;refine .inr ⟨th.toNat,rg.toNat,?_,ah,ah⟩;simp only[Th.mk.injEq];exact⟨ ah,ah,e⟩
theorem aiI{ag:Int}{k:Nat}(h:(k:Int)<dU ag):(dy ag k).length<=5:=by
 unfold dy dU at*;split
 ·rename_i h1;rw[ak h1]at h;have:=Bd (n:=k) ah;omega
 rename_i h1;rw[ai h1]at h;exact pO ah
theorem ayj{ag:Int}{t:Th}(h:dF ag t=true):(ue ag t).length<=32:=by
 rcases Lp h with⟨h1,h2,h3⟩|⟨i,k,rfl,hi,hk⟩
 ·unfold ue;rw[ak h1];exact(pM h3).2
 unfold ue
 rw[ai (by simp only;omega)];have h1:=Lib.itoa_length_le (i:Int) ah ah;have h2:=aiI (ag:=ag) (k:=k) hk;simp only[bu,yj,uC];omega
theorem afD(b:Bool)(s:Tx):(lT b s).length<=s.length+2:=by unfold lT;split<;>simp
theorem Lo{ag:Int}: ∀{x:Nd},eo ag x->(fN ag x).length+10<=100*lN x:=by
 intro x
 induction x using Nd.ind with
 | h x ih=>
   intro h
   have key: ∀(and:Bool) (sep:Tx) (l:List Nd),sep.length<=4->(∀k∈l,k∈x.aP)->(mP ag and sep l).length<=100*gb l:=by
    intro and sep l hs
    induction l with
    |nil=>intro _;rw[rE];simp
    | cons y r ihl=>
      intro hin;have h1:=ih y (hin y aq) (h.gZ y (hin y aq));have h2:=ihl (fun k hk=>hin k (by simp[hk]));exact adB
   have WZ: ∀(and:Bool) (sep:Tx) (l:List Nd),sep.length<=4->(∀k∈l,k∈x.aP)->(kE ag and sep l).length<=100*gb l:=by
    intro and sep l hs hin;cases l with
    |nil=>rw[Ln];simp
    | cons y r=>
      have h1:=ih y (hin y aq) (h.gZ y (hin y aq));have h2:=key and sep r hs (fun k hk=>hin k (by simp[hk]));exact adD
   rw[sL,Cr];rcases yS h.may with⟨h1,h2⟩|⟨h1,h2,h3,h4⟩|⟨h1,h2⟩|⟨h1,h2⟩|⟨h1,h2⟩
   ·rw[h1];simp
    omega
   ·rw[h1]
    have a1:=ayj h2;have a2:=Lib.itoa_length_le x.val (by unfold bJ at h3;simp at h3;omega) (by unfold bJ at h3;simp at h3;omega);simp[wF];omega
   ·rw[h1]
    have:=WZ true [] x.aP aq (fun k hk=>hk);simp;omega
   ·rw[h1]
    have:=WZ true rA x.aP (by simp[rA]) (fun k hk=>hk);simp;omega
   rw[h1]
   have:=WZ false rB x.aP (by simp[rB]) (fun k hk=>hk);simp;omega
theorem ax5{ag:Int}{and:Bool}{sep:Tx}(hs:sep.length<=4): ∀{l:List Nd},(∀y∈l,eo ag y)->(kE ag and sep l).length<=100*gb l:=by
 have key: ∀(l:List Nd),(∀y∈l,eo ag y)->(mP ag and sep l).length<=100*gb l:=by
  intro l
  induction l with
  |nil=>intro _;rw[rE];simp
  | cons y r ihl=>
    intro h;have h1:=Lo (h y aq);have h2:=ihl (fun k hk=>h k (by simp[hk]));exact adB
 intro l h;cases l with
 |nil=>rw[Ln];simp
 | cons y r=>
   have h1:=Lo (h y aq);have h2:=key r (fun k hk=>h k (by simp[hk]));exact adD
def pK(q:Int):Tx:=if q=1 then[101,120,105,115,116,115,32,40]else if q=2 then[126,101,120,105,115,116,115,32,40]else[102,111,114,97,108,108,32,40]
def kD(ag q:Int)(x:Nd):Tx:=pK q++fN ag x++[41]
set_option linter.unusedSectionVars false
section
variable {α:Type} [DecidableEq α]
def eu:List α->List α
 |[]=>[]
 | x::r=>match r with
   |[]=>[x]
   |y::_=>if x=y then eu r else x::eu r
theorem abr:eu ([]:List α)=[]:=rfl
theorem Jz(x:α):eu [x]=[x]:=rfl
theorem wH(x y:α)(r:List α):eu (x::y::r)=if x=y then eu (y::r)else x::eu (y::r):=rfl
theorem Uq: ∀(l:List α) (y x:α),eu (l++[y]++[x])=if x=y then eu (l++[y])else eu (l++[y])++[x]
 | [],y,x=>by
   simp only[eE,cY,wH,Jz]
   by_cases h:x=y
   ·rw[ak h.symm,ak h,h]
   rw[ai (wu h),ai h]
 | [z],y,x=>by
   simp only[eE,cY,wH,Jz]
   by_cases h:x=y<;>by_cases h':z=y<;>simp[h,h',wo]<;>(try(intro h2;exact absurd h2.symm h))<;>simp_all [wo]
 | z::u::r,y,x=>by
   have ih:=Uq (u::r) y x;simp only[cY]at ih⊢;rw[wH,wH,ih]
   by_cases h:x=y<;>by_cases h':z=u<;>simp[h,h']
theorem Uo{l:List α}{z:α}:z∈eu l<->z∈l:=by
 induction l with
 |nil=>simp[abr]
 | cons x r ih=>
   cases r with
   |nil=>simp[Jz]
   | cons y r=>
     rw[wH]
     by_cases h:x=y
     ·rw[ak h,ih];simp[h]
     rw[ai h,cq,ih];simp
theorem abt{l:List α}(h: ∀i (h1:i+1<l.length),l[i+1]≠l[i]'ah):eu l=l:=by
 induction l with
 |nil=>rfl
 | cons x r ih=>
   cases r with
   |nil=>rfl
   | cons y r=>
     have h0:=h 0 aq;simp at h0;rw[wH,ai (wu h0),ih (fun i h1=>by have:=h (i+1) (by simp at h1 ⊢; omega);simpa using this)]
theorem abp(l:List α):(eu l).length<=l.length:=by
 induction l with
 |nil=>simp[abr]
 | cons x r ih=>
   cases r with
   |nil=>simp[Jz]
   | cons y r=>
     rw[wH];split
     ·simp at ih ⊢; omega
     simp at ih ⊢; omega
theorem Yz{lt:α->α->Prop}(WU: ∀a,¬lt a a)(asy: ∀a b,lt a b->lt b a->False): ∀{l r:List α},l.Pairwise lt->r.Pairwise lt->(∀x,x∈l<->x∈r)->l=r
 |[],[],_,_,_=>rfl
 |[],y::r,_,_,h=>by have:=(h y).2 aq;simp at this
 |x::l,[],_,_,h=>by have:=(h x).1 aq;simp at this
 | x::l,y::r,h1,h2,h=>by
   obtain⟨a1,b1⟩:=tC.1 h1;obtain⟨a2,b2⟩:=tC.1 h2
   have hxy:x=y:=by
    have hx:=(h x).1 aq;have hy:=(h y).2 aq;rcases cq.1 hx with e|hx
    ·exact e
    rcases cq.1 hy with e|hy
    ·exact e.symm
    exact(asy _ _ (a2 x hx) (a1 y hy)).elim
   subst hxy
   have:l=r:=Yz WU asy b1 b2 (fun z=>by
    have hz:=h z;simp only[cq]at hz;constructor
    ·intro hm
     rcases hz.1 (.inr hm)with e|e
     ·subst e;exact(WU _ (a1 _ hm)).elim
     exact e
    intro hm
    rcases hz.2 (.inr hm)with e|e
    ·subst e;exact(WU _ (a2 _ hm)).elim
    exact e)
   rw[this]
theorem Up{lt:α->α->Prop}(tr: ∀a b c,lt a b->lt b c->lt a c): ∀{l:List α},l.Pairwise (fun a b=>a=b\/lt a b)->(eu l).Pairwise lt
 |[],_=>aBT
 |[x],_=>by rw[Jz];simp
 | x::y::r,h=>by
   obtain⟨a1,b1⟩:=tC.1 h;have ih:=Up tr b1;rw[wH]
   by_cases e:x=y
   ·rw[ak e];exact ih
   rw[ai e,tC]
   refine⟨fun z hz=>?_,ih⟩;have hz:=Uo.1 hz;have hxy:lt x y:=(a1 y aq).resolve_left e;rcases a1 z hz with e'|e'
   ·subst e'
    rcases cq.1 hz with e2|e2
    ·exact absurd e2 e
    rcases(tC.1 b1).1 x e2 with e3|e3
    ·exact absurd e3.symm e
    exact tr _ _ _ hxy e3
   exact e'
end
def cX:Tx->Tx->Bool
 |[],[]=>false
 |[],_::_=>true
 |_::_,[]=>false
 |a::s,b::t=>if a<b then true else if b<a then false else cX s t
theorem Y6(a:UInt8): ¬a<a:=by rw[MX];omega
theorem aze{a b c:UInt8}(h:a<b)(h':b<c):a<c:=by rw[MX]at *; omega
theorem azd{a b:UInt8}(h:a<b): ¬b<a:=by rw[MX]at *; omega
theorem LH{a b:UInt8}(h: ¬a<b)(h': ¬b<a):a=b:=by rw[MX]at *; exact tD.1 ah
theorem Xu: ∀a,cX a a=false
 |[]=>rfl
 |a::s=>by unfold cX;rw[ai (Y6 a),ai (Y6 a)];exact Xu s
theorem Xt: ∀{a b:Tx},cX a b=true->cX b a=false
 |[],[],h=>by cases h
 |[],_::_,_=>rfl
 |_::_,[],h=>by cases h
 | a::s,b::t,h=>by
   unfold cX at h⊢
   by_cases h1:a<b
   ·rw[ai (azd h1),ak h1]
   rw[ai h1]at h
   by_cases h2:b<a
   ·rw[ak h2]at h;cases h
   rw[ai h2]at h ⊢; rw[ai h1];exact Xt h
theorem KH: ∀{a b:Tx},cX a b=false->cX b a=false->a=b
 |[],[],_,_=>rfl
 |[],_::_,h,_=>by cases h
 |_::_,[],_,h=>by cases h
 | a::s,b::t,h,h'=>by
   unfold cX at h h'
   by_cases h1:a<b
   ·rw[ak h1]at h;cases h
   rw[ai h1]at h h'
   by_cases h2:b<a
   ·rw[ak h2]at h';cases h'
   rw[ai h2]at h h';rw[LH h1 h2,KH h h']
theorem KG: ∀{a b c:Tx},cX a b=true->cX b c=true->cX a c=true
 |[],[],_,h,_=>by cases h
 |[],_::_,[],_,h=>by cases h
 |[],_::_,_::_,_,_=>rfl
 |_::_,[],_,h,_=>by cases h
 |_::_,_::_,[],_,h=>by cases h
 | a::s,b::t,c::cs,h,h'=>by
   unfold cX at h h'⊢
   by_cases h1:a<b
   ·by_cases h2:b<c
    ·rw[ak (aze h1 h2)]
    rw[ai h2]at h'
    by_cases h3:c<b
    ·rw[ak h3]at h';cases h'
    have:=LH h2 h3;subst this;rw[ak h1]
   rw[ai h1]at h
   by_cases h2:b<a
   ·rw[ak h2]at h;cases h
   rw[ai h2]at h
   have:=LH h1 h2;subst this
   by_cases h3:a<c
   ·rw[ak h3]
   rw[ai h3]at h'⊢
   by_cases h4:c<a
   ·rw[ak h4]at h';cases h'
   rw[ai h4]at h' ⊢; exact KG h h'
theorem abz: ∀(a b:Tx),decide (aBQ a b<0)=cX a b
 |[],[]=>rfl
 |[],_::_=>rfl
 |_::_,[]=>rfl
 | a::s,b::t=>by
   unfold aBQ cX
   by_cases h1:a<b
   ·rw[ak h1,ak h1];rfl
   rw[ai h1,ai h1]
   by_cases h2:b<a
   ·rw[ak h2,ak h2];rfl
   rw[ai h2,ai h2];exact abz s t
def rU(a b:Th):Int:=
 if a.aO= -1/\b.aO= -1 then aBQ a.aj b.aj
 else if a.aO= -1 then 1 else if b.aO= -1 then -1
 else if a.aO≠b.aO then a.aO-b.aO else a.aR-b.aR
def eJ(a b:Th):Bool:=
 if(a.aO= -1)≠(b.aO= -1)then decide (b.aO= -1)
 else if a.aO≠b.aO then decide (a.aO<b.aO)
 else if a.aR≠b.aR then decide (a.aR<b.aR)
 else cX a.aj b.aj
abbrev jA:={ t:Th // dF 2 t=true }
instance:Inhabited jA:=⟨⟨⟨0,0,[]⟩,ay⟩⟩
theorem qC(t:jA):(t.1.aO= -1/\t.1.aR=0)\/(0<=t.1.aO/\t.1.aO<16/\0<=t.1.aR/\t.1.aR<32/\t.1.aj=[]):=by
 obtain⟨t,h⟩:=t;rcases Lp h with⟨h1,h2,h3⟩|⟨i,k,rfl,hi,hk⟩
 ·exact .inl ⟨h1,h2⟩
 exact .inr ⟨by simp only;omega,by simp only;omega,by simp only;omega,by simp only;unfold dU at hk;rw[ai ah]at hk;omega,rfl⟩
theorem alZ(a b:jA):decide (rU a.1 b.1<0)=eJ a.1 b.1:=by
 unfold rU eJ;rcases qC a with⟨a1,a2⟩|⟨a1,a2,a3,a4,a5⟩
 ·rcases qC b with⟨b1,b2⟩|⟨b1,b2,b3,b4,b5⟩
  ·rw[ak ⟨a1,b1⟩,ai (by simp[a1,b1]),ai (by simp[a1,b1]),ai (by simp[a2,b2]),abz]
  rw[ai ah,ak a1,ak (by simp[a1];omega)];simp;omega
 rcases qC b with⟨b1,b2⟩|⟨b1,b2,b3,b4,b5⟩
 ·rw[ai ah,ai ah,ak b1,ak (by simp[b1];omega)];simp;omega
 have n1: ¬((a.1.aO= -1)≠(b.1.aO= -1)):=aC
 rw[ai ah,ai ah,ai ah,ai (c:=(a.1.aO= -1)≠(b.1.aO= -1)) n1]
 by_cases h:a.1.aO=b.1.aO
 ·rw[ai (aS h),ai (aS h)]
  by_cases h2:a.1.aR=b.1.aR
  ·rw[ai (aS h2),a5,b5,h2];simp[cX]
  rw[ak h2];rw[jE];simp;omega
 rw[ak h,ak h];rw[jE];simp;omega
def nh(a b:jA):Prop:=eJ a.1 b.1=true
theorem Xs(a:jA): ¬nh a a:=by
 unfold nh eJ;simp[Xu]
theorem agK{a b:jA}(h:nh a b):(a.1.aO≠ -1/\b.1.aO= -1)\/(a.1.aO= -1/\b.1.aO= -1/\cX a.1.aj b.1.aj=true)\/(a.1.aO≠ -1/\b.1.aO≠ -1/\(a.1.aO<b.1.aO\/a.1.aO=b.1.aO/\a.1.aR<b.1.aR)):=by
 unfold nh eJ at h;rcases qC a with⟨a1,a2⟩|⟨a1,a2,a3,a4,a5⟩
 ·rcases qC b with⟨b1,b2⟩|⟨b1,b2,b3,b4,b5⟩
  ·rw[ai (by simp[a1,b1]),ai (by simp[a1,b1]),ai (by simp[a2,b2])]at h
   exact .inr (.inl ⟨a1,b1,h⟩)
  rw[ak (by simp[a1];omega)]at h;simp at h;omega
 rcases qC b with⟨b1,b2⟩|⟨b1,b2,b3,b4,b5⟩
 ·exact .inl ⟨ ah,b1⟩
 rw[ai aC]at h
 refine .inr (.inr ⟨ ah,ah,?_⟩)
 by_cases h1:a.1.aO=b.1.aO
 ·rw[ai (aS h1)]at h
  by_cases h2:a.1.aR=b.1.aR
  ·rw[ai (aS h2),a5,b5]at h;simp[cX]at h
  rw[ak h2]at h;exact .inr ⟨h1,by simpa using h⟩
 rw[ak h1]at h;exact .inl (aS h)
theorem Dr{a b:jA}(h:(a.1.aO≠ -1/\b.1.aO= -1)\/(a.1.aO= -1/\b.1.aO= -1/\cX a.1.aj b.1.aj=true)\/(a.1.aO≠ -1/\b.1.aO≠ -1/\(a.1.aO<b.1.aO\/a.1.aO=b.1.aO/\a.1.aR<b.1.aR))):nh a b:=by
 unfold nh eJ;rcases h with⟨h1,h2⟩|⟨h1,h2,h3⟩|⟨h1,h2,h3⟩
 ·rw[ak (by simp[h1,h2])];simpa using h2
 ·have ha:=qC a;have hb:=qC b
  rw[ai (by simp[h1,h2]),ai (by simp[h1,h2]),ai ah];exact h3
 rw[ai (by simp[h1,h2])]
 rcases h3 with h3|⟨h3,h4⟩
 ·rw[ak ah];simpa using h3
 rw[ai ah,ak ah];simpa using h4
theorem Gu(a b c:jA)(h:nh a b)(h':nh b c):nh a c:=by
 apply Dr;rcases agK h with⟨h1,h2⟩|⟨h1,h2,h3⟩|⟨h1,h2,h3⟩<;>rcases agK h' with⟨k1,k2⟩|⟨k1,k2,k3⟩|⟨k1,k2,k3⟩
 all_goals first|exact absurd h2 k1|exact absurd k1 h2|(exact .inl ⟨h1,k2⟩)|(exact .inr (.inl ⟨h1,k2,KG h3 k3⟩))|(exact .inr (.inr ⟨h1,k2,ah⟩))
theorem agJ(a b:jA)(h:nh a b)(h':nh b a):False:=Xs a (Gu a b a h h')
theorem KF(a b:jA)(h: ¬nh a b)(h': ¬nh b a):a=b:=by
 apply Tz;apply(YU _ _).2;rcases qC a with⟨a1,a2⟩|⟨a1,a2,a3,a4,a5⟩
 ·rcases qC b with⟨b1,b2⟩|⟨b1,b2,b3,b4,b5⟩
  ·refine⟨ ah,ah,KH ?_ ?_⟩
   ·rw[pF];exact fun e=>h (Dr (.inr (.inl ⟨a1,b1,e⟩)))
   rw[pF];exact fun e=>h' (Dr (.inr (.inl ⟨b1,a1,e⟩)))
  exact absurd (Dr (.inl ⟨ ah,a1⟩)) h'
 rcases qC b with⟨b1,b2⟩|⟨b1,b2,b3,b4,b5⟩
 ·exact absurd (Dr (.inl ⟨ ah,b1⟩)) h
 have h1: ¬(a.1.aO<b.1.aO\/a.1.aO=b.1.aO/\a.1.aR<b.1.aR):=fun e=>h (Dr (.inr (.inr ⟨ ah,ah,e⟩)))
 have h2: ¬(b.1.aO<a.1.aO\/b.1.aO=a.1.aO/\b.1.aR<a.1.aR):=fun e=>h' (Dr (.inr (.inr ⟨ ah,ah,e⟩)))
 exact⟨ ah,ah,by rw[a5,b5]⟩
mutual
def oz:Nd->List Th
 | .mk k t v a c l=>(if k=2 then[t]else[])++ko l
def ko:List Nd->List Th
 |[]=>[]
 |x::r=>oz x++ko r
end
theorem Nl(x:Nd):oz x=(if x.kind=2 then[x.th]else[])++ko x.aP:=by cases x;rw[oz];rfl
theorem yo:ko []=[]:=by rw[ko]
theorem Ak{x:Nd}{r:List Nd}:ko (x::r)=oz x++ko r:=by rw[ko]
theorem aaJ: ∀(l r:List Nd),ko (l++r)=ko l++ko r
 |[],r=>by rw[yo];rfl
 |x::l,r=>by rw[cY,Ak,Ak,aaJ l r,dA]
theorem aaK{l:List Nd}{k:Nat}{x:Nd}(hk:l[k]? =some x):ko (l.take (k+1))=ko (l.take k)++oz x:=by
 obtain⟨aA,rfl⟩:=bt.1 hk;rw[pn aA,aaJ,Ak,yo,jD]
def lp(t:Th):List Th->List Th
 |[]=>[t]
 |y::r=>if eJ t y then t::y::r else y::lp t r
def sE(t:Th)(l:List Th):List Th:=if t∈l then l else lp t l
mutual
def oG:Nd->List Th->List Th
 | .mk k t v a c l,aD=>if k=2 then sE t aD else iO l aD
def iO:List Nd->List Th->List Th
 |[],aD=>aD
 |x::r,aD=>iO r (oG x aD)
end
theorem Vr(x:Nd)(aD:List Th):oG x aD=if x.kind=2 then sE x.th aD else iO x.aP aD:=by cases x;rw[oG];rfl
theorem CG{aD:List Th}:iO [] aD=aD:=by rw[iO]
theorem Ov{x:Nd}{r:List Nd}{aD:List Th}:iO (x::r) aD=iO r (oG x aD):=by rw[iO]
theorem aeW: ∀(l r:List Nd) (aD:List Th),iO (l++r) aD=iO r (iO l aD)
 |[],r,aD=>by rw[CG];rfl
 |x::l,r,aD=>by rw[cY,Ov,Ov,aeW l r]
theorem aov{l:List Nd}{k:Nat}{x:Nd}(hk:l[k]? =some x)(aD:List Th):iO (l.take (k+1)) aD=oG x (iO (l.take k) aD):=by
 obtain⟨aA,rfl⟩:=bt.1 hk;rw[pn aA,aeW,Ov,CG]
def qz(x:Nd):List Th:=oG x []
theorem eo.YV{ag:Int}{x:Nd}(h:eo ag x)(hk:x.kind=2):dF ag x.th=true/\x.aP=[]:=by
 rcases yS h.may with⟨h1,h2⟩|⟨h1,h2,h3,h4⟩|⟨h1,h2⟩|⟨h1,h2⟩|⟨h1,h2⟩
 ·omega
 ·exact⟨h2,lH h4⟩
 ·omega
 ·omega
 omega
theorem TL: ∀{x:Nd},eo 2 x-> ∀t∈oz x,dF 2 t=true:=by
 intro x
 induction x using Nd.ind with
 | h x ih=>
   intro h t ht;rw[Nl]at ht
   have key: ∀(l:List Nd),(∀y∈l,y∈x.aP)-> ∀t∈ko l,dF 2 t=true:=by
    intro l
    induction l with
    |nil=>intro _ t ht;rw[yo]at ht;simp at ht
    | cons y r ihl=>
      intro hin t ht;rw[Ak]at ht;rcases fc.1 ht with h1|h1
      ·exact ih y (hin y aq) (h.gZ y (hin y aq)) t h1
      exact ihl (fun k hk=>hin k (by simp[hk])) t h1
   rcases fc.1 ht with h1|h1
   ·by_cases hk:x.kind=2
    ·rw[ak hk]at h1;simp at h1;subst h1;exact(h.YV hk).1
    rw[ai hk]at h1;simp at h1
   exact key _ (fun y hy=>hy) t h1
theorem TJ: ∀(x:Nd),(oz x).length<=lN x:=by
 intro x
 induction x using Nd.ind with
 | h x ih=>
   rw[Nl,Cr,bu]
   have key: ∀(l:List Nd),(∀y∈l,y∈x.aP)->(ko l).length<=gb l:=by
    intro l
    induction l with
    |nil=>intro _;rw[yo];simp
    | cons y r ihl=>
      intro hin;rw[Ak,qT,bu];have:=ih y (hin y aq);have:=ihl (fun k hk=>hin k (by simp[hk]));omega
   have:=key _ (fun y hy=>hy)
   split<;>simp<;>omega
def Bj(l:List Th)(h: ∀t∈l,dF 2 t=true):List jA:=l.pmap (fun t ht=>⟨t,ht⟩) h
theorem Lr(l:List Th)(h: ∀t∈l,dF 2 t=true):(Bj l h).map (·.1)=l:=by
 unfold Bj;rw[List.map_pmap];simp
theorem ajS{l:List Th}{h: ∀t∈l,dF 2 t=true}{v:jA}:v∈Bj l h<->v.1∈l:=by
 constructor
 ·intro hv
  rw[<-Lr l h];exact I4 hv
 intro hv
 rw[<-Lr l h]at hv;obtain⟨u,hu,e⟩:=Ae.1 hv;rw[<-Tz e];exact hu
def qH(l:List Th):Prop:=l.Pairwise fun a b=>eJ a b=true
theorem WL{t:Th}{z:Th}: ∀{l:List Th},z∈lp t l<->z=t\/z∈l
 |[]=>by simp[lp]
 | y::r=>by
   unfold lp;split
   ·simp
   simp only[cq,WL (l:=r)]
   constructor
   ·rintro(h|h|h)
    ·exact Av
    ·exact .inl h
    exact .inr (.inr h)
   rintro(h|h|h)
   ·exact Av
   ·exact .inl h
   exact .inr (.inr h)
theorem aik{t:Th}{z:Th}{l:List Th}:z∈sE t l<->z=t\/z∈l:=by
 unfold sE;split
 ·rename_i h
  constructor
  ·exact .inr
  rintro(rfl|h')
  ·exact h
  exact h'
 exact WL
theorem afX{t:Th}(ht:dF 2 t=true): ∀{l:List Th},(∀z∈l,dF 2 z=true)->t∉l->qH l->qH (lp t l)
 |[],_,_,_=>by unfold lp qH;simp
 | y::r,hv,hn,h=>by
   obtain⟨a1,b1⟩:=tC.1 h;have hy:=hv y aq;unfold lp
   by_cases hb:eJ t y=true
   ·rw[ak hb]
    unfold qH;rw[tC];refine⟨fun z hz=>?_,h⟩;rcases cq.1 hz with rfl|hz
    ·exact hb
    exact Gu ⟨t,ht⟩ ⟨y,hy⟩ ⟨z,hv z (by simp[hz])⟩ hb (a1 z hz)
   rw[ai hb]
   unfold qH;rw[tC];refine⟨fun z hz=>?_,afX ht (fun z hz=>hv z (by simp[hz])) (fun h=>hn (by simp[h])) b1⟩;rcases WL.1 hz with rfl|hz
   ·by_cases h2:eJ y z=true
    ·exact h2
    have:=KF ⟨z,ht⟩ ⟨y,hy⟩ hb h2
    simp only[Subtype.mk.injEq]at this;exact absurd (by rw[this];simp) hn
   exact a1 z hz
theorem auc{t:Th}(ht:dF 2 t=true){l:List Th}(hv: ∀z∈l,dF 2 z=true)(h:qH l):qH (sE t l):=by
 unfold sE;split
 ·exact h
 rename_i hn;exact afX ht hv hn h
theorem aub{t:Th}{l:List Th}:(sE t l).length<=l.length+1:=by
 have: ∀l:List Th,(lp t l).length=l.length+1:=by
  intro l
  induction l with
  |nil=>rfl
  |cons y r ih=>unfold lp;split<;>simp[ih]
 unfold sE;split
 ·omega
 rw[this];omega
theorem aeZ: ∀{x:Nd},eo 2 x-> ∀{aD:List Th},(∀z∈aD,dF 2 z=true)->qH aD->(∀z∈oG x aD,dF 2 z=true)/\qH (oG x aD)/\(∀z,z∈oG x aD<->z∈oz x\/z∈aD)/\(oG x aD).length<=aD.length+lN x:=by
 intro x
 induction x using Nd.ind with
 | h x ih=>
   intro h aD hv hr;rw[Vr,Nl,Cr]
   by_cases hk:x.kind=2
   ·obtain⟨h1,h2⟩:=h.YV hk
    rw[ak hk,ak hk,h2,yo,yw];refine⟨fun z hz=>?_,auc h1 hv hr,fun z=>by rw[aik];simp,aub⟩;rcases aik.1 hz with rfl|hz
    ·exact h1
    exact hv z hz
   rw[ai hk,ai hk]
   have key: ∀(l:List Nd),(∀y∈l,y∈x.aP)-> ∀{aD:List Th},(∀z∈aD,dF 2 z=true)->qH aD->(∀z∈iO l aD,dF 2 z=true)/\qH (iO l aD)/\(∀z,z∈iO l aD<->z∈ko l\/z∈aD)/\(iO l aD).length<=aD.length+gb l:=by
    intro l
    induction l with
    |nil=>intro _ aD hv hr;rw[CG,yo,yw];exact⟨hv,hr,fun z=>by simp,ah⟩
    | cons y r ihl=>
      intro hin aD hv hr;rw[Ov,Ak,qT];obtain⟨a1,a2,a3,a4⟩:=ih y (hin y aq) (h.gZ y (hin y aq)) hv hr;obtain⟨b1,b2,b3,b4⟩:=ihl (fun k hk=>hin k (by simp[hk])) a1 a2;refine⟨b1,b2,fun z=>?_,ah⟩;rw[b3,a3,fc];constructor
      ·rintro(h|h|h)
       ·exact .inl (.inr h)
       ·exact .inl (.inl h)
       exact .inr h
      rintro((h|h)|h)
      ·exact Av
      ·exact .inl h
      exact .inr (.inr h)
   obtain⟨k1,k2,k3,k4⟩:=key x.aP (fun y hy=>hy) hv hr;exact⟨k1,k2,fun z=>by rw[k3];simp,ah⟩
theorem YW{x:Nd}(h:eo 2 x):(∀z∈qz x,dF 2 z=true)/\qH (qz x)/\(∀z,z∈qz x<->z∈oz x)/\(qz x).length<=lN x:=by
 obtain⟨h1,h2,h3,h4⟩:=aeZ h (aD:=[]) aq aBT;unfold qz;exact⟨h1,h2,fun z=>by have:=h3 z;simpa using this,by simpa using h4⟩
theorem axz{x:Nd}(h:eo 2 x)(le:jA->jA->Bool)(hle: ∀a b,le a b= !eJ b.1 a.1):
 (eu ((Bj (oz x) (TL h)).mergeSort le)).map (·.1)=qz x:=by
 obtain⟨h1,h2,h3, -⟩:=YW h
 have hs:=aaz (le:=le) (fun a b c hab hbc=>by
  rw[hle]at*;simp only[BV,pF]at*;intro hca
  by_cases hcb:nh c b
  ·exact hbc hcb
  ·by_cases J9:nh b c
   ·exact hab (Gu b c a J9 hca)
   have:=KF b c J9 hcb;subst this;exact hab hca)
  (fun a b=>by
   rw[hle,hle]
   by_cases h1:eJ b.1 a.1=true
   ·have:eJ a.1 b.1=false:=by rw[pF];exact fun h2=>agJ a b h2 h1
    rw[h1,this];rfl
   rw[pF.2 h1];rfl)
  (Bj (oz x) (TL h))
 have hr:=Up (lt:=nh) Gu (hs.imp (fun {a b} hab=>by
  rw[hle]at hab;simp only[BV,pF]at hab
  by_cases h1:nh a b
  ·exact .inr h1
  exact .inl (KF a b h1 hab)))
 have hg:(Bj (qz x) h1).Pairwise nh:=by
  have:((Bj (qz x) h1).map (·.1)).Pairwise fun a b=>eJ a b=true:=by rw[Lr];exact h2
  exact(List.pairwise_map (f:=fun v:jA=>v.1) (R:=fun a b=>eJ a b=true)).1 this
 have e:=Yz Xs agJ hr hg (fun v=>by
  rw[Uo,List.mem_mergeSort,ajS,ajS,h3])
 rw[e,Lr]
def nD(q:Int)(x:Nd):List Th:=if dh 2 q x=0 then qz x else[]
structure bF where
 aO:Int
 aR:Int
 aj:Tx
 bH:Tx
 n:Int
deriving DecidableEq
structure Cd where
 a:Option aAZ
 c:Nat
 l:List aL
structure aT where
 ag:Int
 name:Tx
 bG:Tx
 ia:Option aAZ
 ic:Nat
 init:List bF
 ca:Option aAZ
 cc:Nat
 code:List Cd
 q:Int
 node:Nd
def mw(lo:Nat)(b:UInt8):Bool:=decide (lo<=b.toNat)&&(decide (b.toNat<=126)&&decide (b.toNat≠34))
def rC(lo:Nat)(s:Tx):Bool:=s.all (mw lo)
def ju(s:Tx):Bool:=decide (1<=s.length)&&(decide (s.length<=1024)&&rC 33 s)
def uK(s:Tx):Bool:=s.isEmpty||(s.head? != some 32&&s.getLast? != some 32)
def jH(s:Tx):Bool:=decide (s.length<=262144)&&(rC 32 s&&uK s)
theorem YI{lo:Nat}{l:Tx}{k:Nat}{c:UInt8}(h:l[k]? =some c)(hn:mw lo c=false):rC lo l=false:=by
 unfold rC;rw[pF];intro h2;rw[fP]at h2;rw[h2 c (cV h)]at hn;cases hn
theorem YH{lo:Nat}{l:Tx}(h: ∀(i:Nat) (x:UInt8),l[i]? =some x->mw lo x=true):rC lo l=true:=by
 unfold rC;rw[fP];intro x hx;obtain⟨i,hi⟩:=pE.1 hx;exact h i x hi
def jG(ag:Int)(i:aL):Tx × Int:=
 if ag=1 then(if fh i then(jP i,0)else([],91))else if ag=2 then(if cD i then(fH i,0)else([],91))else([],5)
def kO(ag:Int)(i:aL):Bool:=if ag=1 then fh i else cD i
def qu(ag:Int)(l:List aL):Int:=if l.all (kO ag)then(if ag=2 then(kQ l).2.1 else 0)else 91
def lC(ag:Int):List Cd->Int
 |[]=>0
 |x::r=>if qu ag x.l=0 then lC ag r else qu ag x.l
def ew(t:aT):Int:=
 if t.code.length<1\/16<t.code.length then 2 else if t.code.any fun x=>decide (256<x.l.length)then 2 else lC t.ag t.code
def jm(ag:Int)(n:Nat)(x:bF):Bool:=
 if x.aO= -1 then aU x.aj&&(decide (x.aR=0)&&(decide (x.bH=[])&&bJ x.n))
 else if x.aO<0\/(n:Int)<=x.aO\/x.aj≠[]then false
 else if(if ag=2 then x.aR<1\/31<x.aR else x.aR<0\/14<x.aR)then false
 else if x.bH≠[]then aU x.bH&&decide (x.n=0)else bJ x.n
def js(x:bF):Th:=⟨x.aO,x.aR,x.aj⟩
def gT(t:aT):Int:=
 if 1024<t.init.length then 2 else if t.init.all (jm t.ag t.code.length)&&decide ((t.init.map js).Nodup)then 0 else 130
def nL(t:aT):List Th:=nD t.q t.node
def mq(s:Tx):List Tx->List Tx
 |[]=>[s]
 |y::r=>if cX s y then s::y::r else y::mq s r
def jQ(l:List Tx)(s:Tx):List Tx:=if s=[]then l else if s∈l then l else mq s l
def A8(t:aT):List Tx:=(t.init.flatMap fun x=>[x.aj,x.bH])++((t.code.flatMap fun x=>x.l.map (·.aj))++(nL t).map (·.aj))
def kS(t:aT):List Tx:=(A8 t).foldl jQ []
def cM(t:aT):Int:=
 if bD t.ag=false then 5
 else if ju t.name=false\/jH t.bG=false then 130
 else if ew t≠0 then ew t
 else if gT t≠0 then gT t
 else if dh t.ag t.q t.node≠0 then dh t.ag t.q t.node
 else if(nL t).any fun x=>decide ((t.code.length:Int)<=x.aO)then 80
 else if 64<(kS t).length then 2 else 0
def gL(ag:Int)(k:Nat)(l:List aL):List Tx:=([80]++gf k)::l.map fun i=>(jG ag i).1
def mA(l:List Tx):Nat:=l.foldl (fun n s=>max n s.length) 0
def yx(t:aT):List (List Tx):=t.code.mapIdx fun k x=>gL t.ag k x.l
def vK(t:aT):List Nat:=(yx t).map mA
def uP(t:aT):Nat:=t.code.foldl (fun n x=>max n x.l.length) 0
def vt(n:Nat)(s:Tx):Tx:=s++aBg (n-s.length) 32
def qZ(i:Nat)(t:aT):Tx:=[32]++([32,124,32].intercalate ((yx t).map fun c=>vt (mA c) (c.getD i [])))++[32,59]
def nZ(t:aT):List Tx:=(aBM (uP t+1)).map fun i=>qZ i t
def sJ(ag:Int)(n:Int):Tx:=if ag=2 then rT n else rX n
def jL(ag:Int)(x:bF):Tx:=
 (if x.aO= -1 then x.aj else aA9 x.aO++[58]++sJ ag x.aR)++[61]++(if x.bH=[]then aA9 x.n else x.bH)++[59,10]
def CV(t:aT):Tx:=(if t.ag=2 then[82,73,83,67,86,32]else[88,56,54,32])++t.name++[10]
def rW(t:aT):Tx:=if t.bG=[]then[]else[34]++t.bG++[34,10]
def uI(t:aT):Tx:=CV t++rW t++[123,10]++(t.init.flatMap (jL t.ag))++[125,10]++((nZ t).flatMap fun l=>l++[10])++kD t.ag t.q t.node++[10]
def nw(t:aT):Tx × Int:=if cM t≠0 then([],cM t)else if 262144<(uI t).length then([],3)else(uI t,0)
theorem WQ(t y:Tx): ∀l:List Tx,mq t (l++[y])=if l.any (cX t)then mq t l++[y]else if cX t y then l++[t,y]else l++[y,t]
 |[]=>by simp[mq]
 | z::r=>by
   rw[cY,mq,WQ t y r];cases h:cX t z
   ·simp only[EN,h,pZ,mq,kn,ow]
    by_cases h2:r.any (cX t)=true
    ·simp[h2]
    by_cases h3:cX t y=true
    ·simp[h2,h3]
    simp[h2,h3]
   simp[h,mq]
def kV(t:Tx)(l:List Tx):List Tx:=if l.any (cX t)then mq t l else l
theorem afZ{t:Tx}: ∀{l:List Tx},¬l.any (cX t)=true->mq t l=l++[t]
 |[],_=>rfl
 | z::r,h=>by
   simp only[EN,uD,tf]at h;rw[mq,ai h.1,afZ h.2];rfl
theorem apY(t:Tx)(l:List Tx):mq t l=if l.any (cX t)then kV t l else kV t l++[t]:=by
 unfold kV
 by_cases h:l.any (cX t)=true
 ·rw[ak h,ak h]
 rw[ai h,ai h];exact afZ h
theorem asu{t y:Tx}{l:List Tx}(h:l.any (cX t)=true):kV t (l++[y])=kV t l++[y]:=by
 unfold kV;rw[ak (by simp[h]),ak h,WQ,ak h]
theorem ast{t y:Tx}{l:List Tx}(h:l.any (cX t)=false)(h2:cX t y=true):kV t (l++[y])=kV t l++[t]++[y]:=by
 unfold kV;rw[ak (by simp[h2]),ai (by simp[h]),WQ,ai (by simp[h]),ak h2];simp
theorem ass{t y:Tx}{l:List Tx}(h:l.any (cX t)=false)(h2:cX t y=false):kV t (l++[y])=kV t l++[y]:=by
 unfold kV;rw[ai (by simp[h,h2]),ai (by simp[h])]
theorem afY(t:Tx)(l:List Tx):(mq t l).length=l.length+1:=by
 induction l with
 |nil=>simp[mq]
 |cons z r ih=>unfold mq;split<;>simp only[cy]<;>omega
theorem asr(t:Tx)(l:List Tx):(kV t l).length<=l.length+1:=by
 unfold kV;split
 ·rw[afY];exact aX _
 omega
theorem Qe(l:List Tx)(t:Tx):(jQ l t).length<=l.length+1:=by
 unfold jQ;split
 ·omega
 split
 ·omega
 rw[afY];exact aX _
def iD(aD:List Tx)(l:List Tx):List Tx:=l.foldl jQ aD
theorem JV(aD l r:List Tx):iD aD (l++r)=iD (iD aD l) r:=M6
def sG(l:List bF):List Tx:=l.flatMap fun x=>[x.aj,x.bH]
def pN(l:List Cd):List Tx:=l.flatMap fun x=>x.l.map (·.aj)
theorem oV{α:Type}{l:List α}{k:Nat}{x:α}(h:l[k]? =some x):l.take (k+1)=l.take k++[x]:=by
 obtain⟨aA,rfl⟩:=bt.1 h;exact pn aA
theorem avt{l:List bF}{k:Nat}{x:bF}(h:l[k]? =some x)(aD:List Tx):iD aD (sG (l.take (k+1)))=jQ (jQ (iD aD (sG (l.take k))) x.aj) x.bH:=by
 rw[oV h];unfold sG;rw[zZ,JV];rfl
theorem avr{l:List Cd}{k:Nat}{x:Cd}(h:l[k]? =some x)(aD:List Tx):iD aD (pN (l.take (k+1)))=iD (iD aD (pN (l.take k))) (x.l.map (·.aj)):=by
 rw[oV h];unfold pN;rw[zZ,JV];simp
theorem agO{α:Type}(f:α->Tx){l:List α}{k:Nat}{x:α}(h:l[k]? =some x)(aD:List Tx):iD aD ((l.take (k+1)).map f)=jQ (iD aD ((l.take k).map f)) (f x):=by
 rw[oV h,pG,JV];rfl
theorem ar1(t:aT):kS t=iD (iD (iD [] (sG t.init)) (pN t.code)) ((nL t).map (·.aj)):=by
 unfold kS A8;rw[show ∀l,List.foldl jQ [] l=iD [] l from fun _=>rfl,JV,JV];rfl
theorem azA(l:List Tx)(s:Tx):mA (l++[s])=max (mA l) s.length:=by unfold mA;rw[M6];rfl
theorem akn{l:List Tx}{k:Nat}{s:Tx}(h:l[k]? =some s):mA (l.take (k+1))=max (mA (l.take k)) s.length:=by rw[oV h,azA]
theorem azz: ∀{l:List Tx} {s:Tx},s∈l->s.length<=mA l:=by
 intro l s h;obtain⟨k,hk⟩:=pE.1 h
 have key: ∀m,k<m->s.length<=mA (l.take m):=by
  intro m
  induction m with
  |zero=>intro h;omega
  | succ m ih=>
    intro hm
    by_cases hml:m<l.length
    ·rw[akn (aV hml)]
     rcases fO.1 hm with h1|h1
     ·have:=ih h1;omega
     subst h1
     have:l[k]=s:=by have:=bt.1 hk;exact this.2
     rw[this];omega
    have hkl:=(bt.1 hk).1
    exact adE
 have:=key l.length (bt.1 hk).1
 rwa[jC]at this
theorem ahE(n:Nat)(s:Tx):(vt n s).length=max n s.length:=by unfold vt;rw[bu,SR];omega
theorem agT{n:Int}(h:bJ n=true):(aA9 n).length<=21:=by
 unfold bJ at h;simp only[bV,dw]at h;exact Lib.itoa_length_le n ah ah
theorem aib{i:aL}(h:fh i=true):(jP i).length<=70:=by
 unfold fh eM at h;unfold jP
 by_cases h1:i.op=1
 ·rw[ak h1]at h⊢
  simp only[bV]at h;have a:=(pM h.1.1).2;have b:=agT h.1.2;exact mZ
 rw[ai h1]at h⊢
 by_cases h2:i.op=2
 ·rw[ak h2]at h⊢
  simp only[bV]at h;have a:=(pM h.1.1).2;obtain⟨k,hk,e⟩:=xx h.1.2;have b:(rX i.a).length<=4:=by rw[e];exact Bd hk
  exact mZ
 rw[ai h2]at h⊢
 by_cases h3:i.op=3
 ·rw[ak h3]at h⊢
  simp only[bV]at h;have a:=(pM h.1.1).2;obtain⟨k,hk,e⟩:=xx h.1.2;have b:(rX i.d).length<=4:=by rw[e];exact Bd hk
  exact mZ
 rw[ai h3]at h⊢
 by_cases h4:i.op=4
 ·rw[ak h4]at h⊢
  simp only[bV]at h;obtain⟨k,hk,e⟩:=xx h.1.1;have b:(rX i.d).length<=4:=by rw[e];exact Bd hk
  have c:=agT h.1.2;exact mZ
 rw[ai h4];simp
theorem Ys{n:Int}(h:ek n=true):(rT n).length<=5:=by
 unfold ek at h;simp only[bV,dw]at h;exact pO ah
theorem aeT(n:Int):(iY n).length<=2:=by unfold iY;split<;>(try split)<;>simp
theorem atk{i:aL}(h:cD i=true):(fH i).length<=70:=by
 unfold cD at h;simp only[bV]at h;obtain⟨⟨⟨⟨ho, -⟩,hd⟩,ha⟩,hb⟩:=h;have d:=Ys hd;have a:=Ys ha;have b:=Ys hb;have n:=UA i.ax;have f1:=aeT ((i.az-3)/3);have f2:=aeT ((i.az-3)%3)
 have hl:i.op=11\/i.op=12->i.av.length<=32:=fun e=>by
  unfold gm at ho;rw[ai ah,ak e]at ho;exact(pM ho).2
 unfold fH
 by_cases e1:i.op=6
 ·rw[ak e1];exact mZ
 rw[ai e1]
 by_cases e2:i.op=7
 ·rw[ak e2];exact mZ
 rw[ai e2]
 by_cases e3:i.op=8
 ·rw[ak e3];exact mZ
 rw[ai e3]
 by_cases e4:i.op=9
 ·rw[ak e4];exact mZ
 rw[ai e4]
 by_cases e5:i.op=10
 ·rw[ak e5];exact mZ
 rw[ai e5]
 by_cases e6:i.op=11
 ·have:=hl (.inl e6);rw[ak e6];exact mZ
 rw[ai e6]
 by_cases e7:i.op=12
 ·have:=hl (.inr e7);rw[ak e7];exact mZ
 rw[ai e7];split
 ·simp
 exact mZ
theorem alO(ag:Int)(i:aL):(jG ag i).1.length<=70:=by
 unfold jG;split
 ·split
  ·rename_i h;exact aib h
  simp
 split
 ·split
  ·rename_i h;exact atk h
  simp
 simp
theorem azy{l:List Tx}{n:Nat}(h: ∀s∈l,s.length<=n):mA l<=n:=by
 have key: ∀(l:List Tx) (a:Nat),a<=n->(∀s∈l,s.length<=n)->l.foldl (fun n s=>max n s.length) a<=n:=by
  intro l
  induction l with
  |nil=>intro a ha _;exact ha
  |cons x r ih=>intro a ha hh;exact ih _ (by have:=hh x aq;dsimp only;omega) fun s hs=>hh s (by simp[hs])
 exact key l 0 ah h
theorem Fg(ag:Int)(k:Nat)(l:List aL):(gL ag k l).length=l.length+1:=by unfold gL;simp
theorem ab8(k:Nat):(gf k).length<=4:=by unfold gf;split<;>(try split)<;>(try split)<;>simp
theorem aby(ag:Int)(k:Nat)(l:List aL): ∀s∈gL ag k l,s.length<=70:=by
 intro s hs;unfold gL at hs;rcases cq.1 hs with rfl|hs
 ·have:=ab8 k;exact mZ
 obtain⟨i,-, rfl⟩:=Ae.1 hs
 exact alO ag i
theorem amf(ag:Int)(k:Nat)(l:List aL)(i:Nat):((gL ag k l).getD i []).length<=70:=by
 rw[pY];cases h:(gL ag k l)[i]? with
 |none=>simp
 |some s=>exact aby ag k l s (cV h)
theorem NC{t:aT}{k:Nat}{x:Cd}(h:t.code[k]? =some x):(yx t)[k]? =some (gL t.ag k x.l):=by
 unfold yx;rw[IV,h];rfl
theorem NG(t:aT):(yx t).length=t.code.length:=by unfold yx;simp
theorem Ze(t:aT):(vK t).length=t.code.length:=by unfold vK;rw[eT,NG]
theorem ako{t:aT}{k:Nat}{x:Cd}(h:t.code[k]? =some x):(vK t)[k]? =some (mA (gL t.ag k x.l)):=by
 unfold vK;rw[jf,NC h];rfl
def nY(i:Nat)(t:aT):List Tx:=(yx t).map fun c=>vt (mA c) (c.getD i [])
theorem YB{t:aT}{k:Nat}{x:Cd}(i:Nat)(h:t.code[k]? =some x):(nY i t)[k]? =some (vt (mA (gL t.ag k x.l)) ((gL t.ag k x.l).getD i [])):=by
 unfold nY;rw[jf,NC h];rfl
theorem G7(i:Nat)(t:aT):(nY i t).length=t.code.length:=by unfold nY;rw[eT,NG]
theorem abc(ag:Int)(k:Nat)(l:List aL):mA (gL ag k l)<=70:=azy (aby ag k l)
theorem awY(i:Nat)(t:aT): ∀s∈nY i t,s.length<=70:=by
 intro s hs;obtain⟨k,hk⟩:=pE.1 hs;have aA:k<t.code.length:=by rw[<-G7 i t];exact(bt.1 hk).1
 rw[YB i (aV aA)]at hk;simp only[qM]at hk;subst hk;rw[ahE];have:=abc t.ag k t.code[k].l;have:=amf t.ag k t.code[k].l i;omega
def jh(l:List Tx):Tx:=[32,124,32].intercalate l
theorem EX(x:Tx):jh [x]=x:=by simp[jh,aBR]
theorem EY(x y:Tx)(r:List Tx):jh (x::y::r)=x++([32,124,32]++jh (y::r)):=by
 simp[jh,aBR]
theorem aaL: ∀(l:List Tx) (x:Tx),l≠[]->jh (l++[x])=jh l++[32,124,32]++x
 |[],x,h=>absurd rfl h
 |[y],x,_=>by rw[show[y]++[x]=[y,x]from rfl,EY,EX,EX];simp
 | y::z::r,x,_=>by
   rw[show(y::z::r)++[x]=y::z::(r++[x])from rfl,EY,EY,show z::(r++[x])=(z::r)++[x]from rfl,aaL (z::r) x aq];simp
theorem Xp(i:Nat)(t:aT):qZ i t=[32]++jh (nY i t)++[32,59]:=rfl
theorem TQ: ∀(l:List Tx) (n:Nat),(∀s∈l,s.length<=n)->(jh l).length<=l.length*(n+3)
 |[],n,_=>by simp[jh,aBR]
 |[x],n,h=>by rw[EX];have:=h x aq;simp;omega
 | x::y::r,n,h=>by
   have h1:=TQ (y::r) n fun s hs=>h s (by simp at hs ⊢; exact .inr hs)
   have h2:=h x aq;rw[EY];simp only[bu,cy,je,Nat.add_mul]at*;omega
theorem alk{l:List Tx}{x:Tx}(h:l[0]? =some x):jh (l.take 1)=x:=by
 rw[oV h];simp[EX]
theorem alm{l:List Tx}{x:Tx}{k:Nat}(h:l[k]? =some x)(hk:k≠0):jh (l.take (k+1))=jh (l.take k)++[32,124,32]++x:=by
 rw[oV h];refine aaL _ _ ?_;intro e;have h1:=congrArg List.length e;have h2:=(bt.1 h).1;rw[lI,je]at h1;omega
theorem aln(i:Nat)(t:aT)(k:Nat)(hc:t.code.length<=16):(jh ((nY i t).take k)).length<=2000:=by
 have:=TQ ((nY i t).take k) 70 fun s hs=>awY i t s (Eu hs)
 have h2:((nY i t).take k).length<=16:=by rw[lI,G7];omega
 have h3:((nY i t).take k).length*73<=16*73:=wz _ h2;omega
def wX(l:List Cd):Nat:=l.foldl (fun n x=>max n x.l.length) 0
theorem afm{l:List Cd}{k:Nat}{x:Cd}(h:l[k]? =some x):wX (l.take (k+1))=max (wX (l.take k)) x.l.length:=by
 rw[oV h];unfold wX;rw[M6];rfl
theorem V4{l:List Cd}{n:Nat}(h: ∀x∈l,x.l.length<=n):wX l<=n:=by
 have key: ∀(l:List Cd) (a:Nat),a<=n->(∀s∈l,s.l.length<=n)->l.foldl (fun n s=>max n s.l.length) a<=n:=by
  intro l
  induction l with
  |nil=>intro a ha _;exact ha
  |cons x r ih=>intro a ha hh;exact ih _ (by have:=hh x aq;dsimp only;omega) fun s hs=>hh s (by simp[hs])
 exact key l 0 ah h
theorem Kf(t:aT):uP t=wX t.code:=rfl
def AY(t:aT)(n:Nat):List Tx:=(aBM n).map fun i=>qZ i t
theorem aq7(t:aT)(n:Nat):AY t (n+1)=AY t n++[qZ n t]:=by unfold AY;rw[Nb,pG];rfl
theorem agz(t:aT)(n:Nat):(AY t n).length=n:=by unfold AY;simp
theorem ajL(t:aT):nZ t=AY t (uP t+1):=rfl
def oQ(ws:List Nat)(cs:List Tx):List Tx:=List.zipWith vt ws cs
theorem ahD{ws:List Nat}{cs:List Tx}{k m:Nat}{s:Tx}(h1:ws[k]? =some m)(h2:cs[k]? =some s):(oQ ws cs)[k]? =some (vt m s):=by
 unfold oQ;rw[List.getElem?_zipWith,h1,h2]
theorem asG{ws:List Nat}{cs:List Tx}(h:ws.length=cs.length):(oQ ws cs).length=cs.length:=by unfold oQ;simp[h]
def sx(l:List Tx)(k:Nat):Tx:=if k=0 then[]else[32]++jh (l.take k)
theorem aqc{l:List Tx}{x:Tx}(h:l[0]? =some x):sx l 1=sx l 0++(32::x):=by
 unfold sx;rw[ai ah,ak rfl,alk h];rfl
theorem aqe{l:List Tx}{x:Tx}{k:Nat}(h:l[k]? =some x)(hk:k≠0):sx l (k+1)=(sx l k++[32,124])++(32::x):=by
 unfold sx;rw[ai ah,ai hk,alm h hk];simp
theorem aqd{l:List Tx}{n k:Nat}(h: ∀s∈l,s.length<=n):(sx l k).length<=1+l.length*(n+3):=by
 unfold sx;split
 ·simp
 have h1:=TQ (l.take k) n fun s hs=>h s (Eu hs)
 have h2:(l.take k).length*(n+3)<=l.length*(n+3):=wz _ (by rw[lI];omega);exact mZ
def ku(j:Nat)(t:aT):List Tx:=(yx t).map fun c=>c.getD j []
theorem yt(j:Nat)(t:aT):(ku j t).length=t.code.length:=by unfold ku;rw[eT,NG]
theorem Fe{t:aT}{k:Nat}{x:Cd}(j:Nat)(h:t.code[k]? =some x):(ku j t)[k]? =some ((gL t.ag k x.l).getD j []):=by
 unfold ku;rw[jf,NC h];rfl
def nu(j:Nat)(t:aT)(k:Nat):List Tx:=(ku j t).take k++aBg (t.code.length-k) []
theorem GG(j:Nat)(t:aT)(k:Nat)(hk:k<=t.code.length):(nu j t k).length=t.code.length:=by
 unfold nu;simp[yt];omega
theorem ahU(j:Nat)(t:aT):nu j t 0=aBg t.code.length []:=by unfold nu;simp
theorem ahT(j:Nat)(t:aT):nu j t t.code.length=ku j t:=by
 unfold nu;rw[Nh,kI (by rw[yt];omega)];simp
theorem ahV{t:aT}{k:Nat}{x:Cd}(j:Nat)(h:t.code[k]? =some x):(nu j t k).set k ((gL t.ag k x.l).getD j [])=nu j t (k+1):=by
 have hk:=(bt.1 h).1;unfold nu;have h1:((ku j t).take k).length=k:=by rw[lI,yt];omega
 rw[oV (Fe j h),show t.code.length-k=(t.code.length-(k+1))+1 by omega,IW,SN _ _ ah,h1,Nh,Te];simp
theorem as3{t:aT}{k:Nat}{x:Cd}(j:Nat)(h:t.code[k]? =some x)(hl:x.l.length<j):nu j t (k+1)=nu j t k:=by
 have hk:=(bt.1 h).1;unfold nu
 have h2:(gL t.ag k x.l).getD j []=[]:=by
  rw[pY,mg (by rw[Fg];omega)];rfl
 rw[oV (Fe j h),h2,show t.code.length-k=(t.code.length-(k+1))+1 by omega,IW];simp
def l5(t:aT)(j k:Nat):List Nat:=(yx t).mapIdx fun i c=>mA (c.take (if i<k then j+1 else j))
theorem vJ(t:aT)(j k:Nat):(l5 t j k).length=t.code.length:=by unfold l5;simp[NG]
theorem zH{t:aT}{k:Nat}{x:Cd}(j i:Nat)(h:t.code[k]? =some x):(l5 t j i)[k]? =some (mA ((gL t.ag k x.l).take (if k<i then j+1 else j))):=by
 unfold l5;rw[IV,NC h];rfl
theorem LP{t:aT}{l l':List Nat}(h1:l.length=t.code.length)(h2:l'.length=t.code.length)(h: ∀(k:Nat) (x:Cd),t.code[k]? =some x->l[k]? =l'[k]?):l=l':=by
 refine EG fun k=>?_
 by_cases hk:k<t.code.length
 ·exact h k _ (aV hk)
 rw[mg ah,mg ah]
theorem akm{t:aT}{k:Nat}{x:Cd}(j:Nat)(h:t.code[k]? =some x):(l5 t j k).set k (mA ((gL t.ag k x.l).take (j+1)))=l5 t j (k+1):=by
 refine LP (by rw[Cc,vJ]) (vJ _ _ _) fun i y hy=>?_
 have hi:=(bt.1 hy).1;rw[zH j (k+1) hy]
 by_cases hik:k=i
 ·subst hik
  rw[h]at hy;cases hy;rw[MR (by rw[vJ];exact hi),ak ah]
 rw[SX hik,zH j k hy]
 by_cases aA:i<k
 ·rw[ak aA,ak ah]
 rw[ai aA,ai ah]
theorem azw{t:aT}{k:Nat}{x:Cd}(j:Nat)(h:t.code[k]? =some x)(hl:x.l.length<j):l5 t j (k+1)=l5 t j k:=by
 refine LP (vJ _ _ _) (vJ _ _ _) fun i y hy=>?_
 rw[zH j (k+1) hy,zH j k hy]
 by_cases hik:k=i
 ·subst hik
  rw[h]at hy;cases hy;rw[ak ah,ai ah,kI (by rw[Fg];omega),kI (by rw[Fg];omega)]
 by_cases aA:i<k
 ·rw[ak aA,ak ah]
 rw[ai aA,ai ah]
theorem akl(t:aT)(j:Nat):l5 t j t.code.length=l5 t (j+1) 0:=by
 refine LP (vJ _ _ _) (vJ _ _ _) fun i y hy=>?_
 have hi:=(bt.1 hy).1;rw[zH j _ hy,zH (j+1) 0 hy,ak hi,ai ah]
theorem azx(t:aT):l5 t 0 0=aBg t.code.length 0:=by
 refine LP (vJ _ _ _) aq fun i y hy=>?_
 have hi:=(bt.1 hy).1;rw[zH 0 0 hy,ai ah,aaB,ak hi];rfl
theorem ao5{l:List Cd}{x:Cd}(h:x∈l):x.l.length<=wX l:=by
 obtain⟨k,hk⟩:=pE.1 h
 have key: ∀m,k<m->x.l.length<=wX (l.take m):=by
  intro m
  induction m with
  |zero=>intro h;omega
  | succ m ih=>
    intro hm
    by_cases hml:m<l.length
    ·rw[afm (aV hml)]
     rcases fO.1 hm with h1|h1
     ·have:=ih h1;omega
     subst h1
     have:l[k]=x:=(bt.1 hk).2;rw[this];omega
    have hkl:=(bt.1 hk).1
    exact adE
 have:=key l.length (bt.1 hk).1
 rwa[jC]at this
theorem azv(t:aT):l5 t (uP t+1) 0=vK t:=by
 refine LP (vJ _ _ _) (Ze _) fun i y hy=>?_
 have:=ao5 (cV hy);rw[zH _ _ hy,ako hy,ai ah,kI (by rw[Fg,Kf];omega)]
theorem asH(t:aT)(j:Nat):oQ (vK t) (ku j t)=nY j t:=by
 unfold oQ vK ku nY;rw[List.zipWith_map_left,List.zipWith_map_right,List.zipWith_self]
theorem alW{t:aT}{j k m:Nat}{s:Tx}(h1:(vK t)[k]? =some m)(h2:(ku j t)[k]? =some s):s.length<=m/\m<=70:=by
 have hk:k<t.code.length:=by rw[<-Ze t];exact(bt.1 h1).1
 rw[ako (aV hk)]at h1;rw[Fe j (aV hk)]at h2;cases h1;cases h2;refine⟨?_,abc _ _ _⟩;rw[pY];cases h:(gL t.ag k t.code[k].l)[j]? with
 |none=>simp
 |some s=>exact azz (cV h)
def Dv(t:aT):Tx:=CV t++rW t++[123,10]
def tT(t:aT)(k:Nat):Tx:=(t.init.take k).flatMap (jL t.ag)
theorem apR(t:aT):tT t 0=[]:=rfl
theorem apQ{t:aT}{k:Nat}{x:bF}(h:t.init[k]? =some x):tT t (k+1)=tT t k++jL t.ag x:=by
 unfold tT;rw[oV h,zZ];simp
theorem apP{t:aT}(h: ∀x∈t.init,(jL t.ag x).length<=100)(k:Nat):(tT t k).length<=100*t.init.length:=by
 have key: ∀l:List bF,(∀x∈l,(jL t.ag x).length<=100)->(l.flatMap (jL t.ag)).length<=100*l.length:=by
  intro l
  induction l with
  |nil=>intro _;simp
  | cons x r ih=>
    intro hl;have h1:=hl x aq;have h2:=ih fun y hy=>hl y (by simp[hy])
    simp only[BY,bu,cy];omega
 have:=key (t.init.take k) fun x hx=>h x (Eu hx)
 unfold tT;have h2:(t.init.take k).length<=t.init.length:=by rw[lI];omega
 omega
def vz(t:aT)(k:Nat):Tx:=((nZ t).take k).flatMap fun l=>l++[10]
theorem aw6(t:aT):vz t 0=[]:=rfl
theorem aw5{t:aT}{k:Nat}{x:Tx}(h:(nZ t)[k]? =some x):vz t (k+1)=vz t k++x++[10]:=by
 unfold vz;rw[oV h,zZ];simp
theorem QH(t:aT):(nZ t).length=uP t+1:=by rw[ajL,agz]
theorem aq4(t:aT)(k:Nat)(hc:t.code.length<=16):(qZ k t).length<=2100:=by
 have:=aln k t t.code.length hc;rw[kI (by rw[G7];omega)]at this;rw[Xp];exact mZ
theorem ajM{t:aT}(hc:t.code.length<=16){x:Tx}(h:x∈nZ t):x.length<=2100:=by
 unfold nZ at h;obtain⟨k,-, rfl⟩:=Ae.1 h;exact aq4 t k hc
theorem aw4{t:aT}(hc:t.code.length<=16)(hr: ∀x∈t.code,x.l.length<=256)(k:Nat):(vz t k).length<=540000:=by
 have key: ∀l:List Tx,(∀x∈l,x.length<=2100)->(l.flatMap fun l=>l++[10]).length<=2101*l.length:=by
  intro l
  induction l with
  |nil=>intro _;simp
  | cons x r ih=>
    intro hl;have h1:=hl x aq;have h2:=ih fun y hy=>hl y (by simp[hy])
    simp only[BY,bu,cy,je];omega
 have h1:=key ((nZ t).take k) fun x hx=>ajM hc (Eu hx)
 have h2:((nZ t).take k).length<=257:=by
  rw[lI,QH];have:=V4 hr;rw[Kf];omega
 unfold vz;omega
theorem an7(t:aT):uI t=Dv t++tT t t.init.length++[125,10]++vz t (uP t+1)++kD t.ag t.q t.node++[10]:=by
 unfold uI Dv tT vz;rw[jC,kI (by rw[QH];omega)]
theorem afj{t:aT}(h:ju t.name=true):(CV t).length<=1031:=by
 unfold ju at h;simp only[bV,dw]at h;have:=h.2.1;unfold CV
 split<;>(simp only[bu,cy,je];omega)
theorem ab2{t:aT}(h:jH t.bG=true):(rW t).length<=262147:=by
 unfold jH at h;simp only[bV,dw]at h;have:=h.1;unfold rW;split
 ·simp
 exact mZ
theorem ax4{ag q:Int}{x:Nd}(h:dh ag q x=0):(kD ag q x).length<=102500:=by
 obtain⟨-, -, -, ho,hn⟩:=Ap h;have:=Lo ho;have h2:(pK q).length<=9:=by unfold pK;split<;>(try split)<;>simp
 unfold kD;exact mZ
theorem atd{t:aT}(h1:ju t.name=true)(h2:jH t.bG=true):(Dv t).length<=263200:=by
 have a:=afj h1;have b:=ab2 h2;unfold Dv;exact mZ
def tH(l:List Cd):List Cd:=l.map fun x=>⟨none,0,x.l⟩
def bare(t:aT):aT:=⟨t.ag,t.name,t.bG,none,0,t.init,none,0,tH t.code,t.q,t.node⟩
theorem TS(l:List Cd):(tH l).length=l.length:=by unfold tH;simp
theorem ajf(ag:Int): ∀l,lC ag (tH l)=lC ag l
 |[]=>rfl
 | x::r=>by
   have ih:=ajf ag r;show lC ag (⟨none,0,x.l⟩::tH r)=_;unfold lC;rw[ih]
theorem amb(t:aT):ew (bare t)=ew t:=by
 unfold ew;rw[show(bare t).code=tH t.code from rfl,TS,show(bare t).ag=t.ag from rfl,ajf]
 congr 2
 unfold tH;rw[List.any_map];rfl
theorem als(t:aT):gT (bare t)=gT t:=by
 unfold gT;rw[show(bare t).code=tH t.code from rfl,TS];rfl
theorem avu(t:aT):A8 (bare t)=A8 t:=by
 unfold A8;rw[show(bare t).code=tH t.code from rfl];unfold tH;rw[List.flatMap_map];rfl
theorem ar0(t:aT):kS (bare t)=kS t:=by unfold kS;rw[avu]
theorem ayX(t:aT):cM (bare t)=cM t:=by
 unfold cM;rw[amb,als,ar0,show(bare t).code=tH t.code from rfl,TS];rfl
def rS(b:UInt8):Bool:=decide (32<=b.toNat)&&(decide (b.toNat<=122)&&(decide (b.toNat≠59)&&decide (b.toNat≠34)))
def cU(s:Tx):Prop:= ∀b∈s,rS b=true
theorem cU.nil:cU []:=fun b hb=>by simp at hb
theorem cU.app{a b:Tx}(h1:cU a)(h2:cU b):cU (a++b):=fun c hc=>(fc.1 hc).elim (h1 c) (h2 c)
theorem cU.cons{c:UInt8}{b:Tx}(h1:rS c=true)(h2:cU b):cU (c::b):=fun d hd=>by
 rcases cq.1 hd with rfl|h
 ·exact h1
 exact h2 d h
theorem cU.lit{l:Tx}(h:l.all rS=true):cU l:=fun b hb=>fP.1 h b hb
theorem qB{p:UInt8->Bool}(h: ∀n:Fin 256,p (aBt n.val)=true)(c:UInt8):p c=true:=by
 have:=h ⟨c.toNat,c.toNat_lt⟩;simpa using this
theorem agX(c:UInt8)(h:dO c=true):rS c=true:=by
 have:=qB (p:=fun c=> !dO c||rS c) dD c;rw[h]at this;simpa using this
theorem wI(n:Nat):rS (mL n)=true:=by
 have key: ∀k:Fin 10,rS (aBt (48+k.val))=true:=ay;exact key ⟨n%10,ES _ ah⟩
theorem JG(n:Nat):cU (gf n):=by
 unfold gf;split
 ·exact(cU.nil).cons (wI _)
 split
 ·exact((cU.nil).cons (wI _)).cons (wI _)
 split
 ·exact(((cU.nil).cons (wI _)).cons (wI _)).cons (wI _)
 exact((((cU.nil).cons (wI _)).cons (wI _)).cons (wI _)).cons (wI _)
theorem ant(n:Int):cU (jI n):=by
 unfold jI;split
 ·exact(JG _).cons ay
 exact JG _
theorem awE(n:Nat):cU (cZ n):=(JG n).cons ay
theorem yX(n:Int):cU (rT n):=awE _
theorem awI: ∀n:Fin 16,(cg n.val).all rS=true:=dD
theorem Yv(n:Nat):cU (cg n):=by
 by_cases h:n<16
 ·exact cU.lit (awI ⟨n,h⟩)
 unfold cg
 rw[pY,mg (by simp[yT];omega)];exact cU.nil
theorem PO{s:Tx}(h:aU s=true):cU s:=by
 cases s with
 |nil=>exact cU.nil
 | cons c r=>
   unfold aU at h;simp only[bV,dw]at h;refine cU.cons (agX c ?_) fun b hb=>agX b (fP.1 h.2 b hb)
   unfold dO;rw[h.1.2];rfl
theorem ab9(u:Nat):cU (aA8 u):=by
 have key: ∀k:Fin 10,rS (aBt (48+k.val))=true:=ay
 induction u using aBS with
 | _ u ih=>
   rw[aA8]
   by_cases h:u<10
   ·rw[yg h]
    exact(cU.nil).cons (key ⟨u,h⟩)
   rw[ET h]
   exact(ih _ ah).app ((cU.nil).cons (key ⟨u%10,ES _ ah⟩))
theorem af9(n:Int):cU (aA9 n):=by
 unfold aA9;split
 ·exact(ab9 _).cons ay
 exact ab9 _
theorem aeS(n:Int):cU (iY n):=by
 unfold iY;split
 ·exact cU.lit ay
 split
 ·exact cU.lit ay
 exact cU.lit ay
theorem atm{i:aL}(h:fh i=true):cU (jP i):=by
 unfold fh eM at h;unfold jP
 by_cases h1:i.op=1
 ·rw[ak h1]at h⊢
  simp only[bV]at h;exact(((cU.lit ay).app (PO h.1.1)).app (cU.lit ay)).app (af9 _)
 rw[ai h1]at h⊢
 by_cases h2:i.op=2
 ·rw[ak h2]at h⊢
  simp only[bV]at h;exact(((cU.lit ay).app (PO h.1.1)).app (cU.lit ay)).app (Yv _)
 rw[ai h2]at h⊢
 by_cases h3:i.op=3
 ·rw[ak h3]at h⊢
  simp only[bV]at h;exact((((cU.lit ay).app (Yv _)).app (cU.lit ay)).app (PO h.1.1)).app (cU.lit ay)
 rw[ai h3]at h⊢
 by_cases h4:i.op=4
 ·rw[ak h4]at h⊢
  simp only[bV]at h;exact(((cU.lit ay).app (Yv _)).app (cU.lit ay)).app (af9 _)
 rw[ai h4];exact cU.lit ay
theorem ati{i:aL}(h:cD i=true):cU (fH i):=by
 unfold cD at h;simp only[bV]at h;obtain⟨⟨⟨⟨ho, -⟩,hd⟩,ha⟩,hb⟩:=h
 have hl:i.op=11\/i.op=12->cU i.av:=fun e=>by
  unfold gm at ho;rw[ai ah,ak e]at ho;exact PO ho
 have L: ∀{l:Tx},l.all rS=true->cU l:=fun h=>cU.lit h
 unfold fH
 by_cases e1:i.op=6
 ·rw[ak e1];exact adF
 rw[ai e1]
 by_cases e2:i.op=7
 ·rw[ak e2];exact adF
 rw[ai e2]
 by_cases e3:i.op=8
 ·rw[ak e3];exact(((((L ay).app (yX _)).app (L ay)).app (yX _)).app (L ay)).app (ant _)
 rw[ai e3]
 by_cases e4:i.op=9
 ·rw[ak e4];exact adG
 rw[ai e4]
 by_cases e5:i.op=10
 ·rw[ak e5];exact adG
 rw[ai e5]
 by_cases e6:i.op=11
 ·rw[ak e6];exact(((((L ay).app (yX _)).app (L ay)).app (yX _)).app (L ay)).app (hl (.inl e6))
 rw[ai e6]
 by_cases e7:i.op=12
 ·rw[ak e7];exact(hl (.inr e7)).app (L ay)
 rw[ai e7];split
 ·exact L ay
 exact(((L ay).app (aeS _)).app (L ay)).app (aeS _)
theorem aba(ag:Int)(i:aL):cU (jG ag i).1:=by
 unfold jG;split
 ·split
  ·rename_i h;exact atm h
  exact cU.nil
 split
 ·split
  ·rename_i h;exact ati h
  exact cU.nil
 exact cU.nil
theorem amd(ag:Int)(k:Nat)(l:List aL): ∀s∈gL ag k l,cU s:=by
 intro s hs;unfold gL at hs;rcases cq.1 hs with rfl|hs
 ·exact(JG k).cons ay
 obtain⟨i,-, rfl⟩:=Ae.1 hs
 exact aba ag i
theorem ame(ag:Int)(k:Nat)(l:List aL)(j:Nat):cU ((gL ag k l).getD j []):=by
 rw[pY];cases h:(gL ag k l)[j]? with
 |none=>exact cU.nil
 |some s=>exact amd ag k l s (cV h)
theorem asI{n:Nat}{s:Tx}(h:cU s):cU (vt n s):=h.app fun b hb=>by
 have:=(Ey.1 hb).2;subst this;decide
theorem ai7(i:Nat)(t:aT): ∀s∈nY i t,cU s:=by
 intro s hs;obtain⟨k,hk⟩:=pE.1 hs;have aA:k<t.code.length:=by rw[<-G7 i t];exact(bt.1 hk).1
 rw[YB i (aV aA)]at hk;simp only[qM]at hk;subst hk;exact asI (ame _ _ _ _)
theorem axu{lo:Nat}{s:Tx}(h:rC lo s=true)(hlo:11<=lo):(10:UInt8)∉s/\(34:UInt8)∉s:=by
 unfold rC at h;rw[fP]at h;constructor
 ·intro m
  have:=h 10 m;unfold mw at this;simp only[bV,dw]at this;have h2:(10:UInt8).toNat=10:=rfl;omega
 intro m
 have:=h 34 m;unfold mw at this;simp only[bV,dw]at this;exact this.2.2 rfl
def OJ(ag:Int):Tx:=if ag=2 then[82,73,83,67,86,32]else[88,56,54,32]
def aj4(l:Tx):Nat:=l.foldl (fun n b=>10*n+(b.toNat-48)) 0
theorem azf(u:Nat):aj4 (aA8 u)=u:=by
 have key: ∀k:Fin 10,(aBt (48+k.val)).toNat-48=k.val:=ay
 induction u using aBS with
 | _ u ih=>
   rw[aA8]
   by_cases h:u<10
   ·rw[yg h]
    have:=key ⟨u,h⟩;simp only at this;show 10*0+_=_;omega
   rw[ET h]
   have h1:=ih (u/10) ah;unfold aj4 at*;rw[M6,h1];have:=key ⟨u%10,ES _ ah⟩;show 10*(u/10)+_=_;simp only at this;omega
theorem rY(u:Nat): ∀b∈aA8 u,48<=b.toNat/\b.toNat<=57:=by
 have key: ∀k:Fin 10,48<=(aBt (48+k.val)).toNat/\(aBt (48+k.val)).toNat<=57:=ay
 induction u using aBS with
 | _ u ih=>
   rw[aA8]
   by_cases h:u<10
   ·rw[yg h]
    intro b hb;rcases kJ.1 hb with rfl;exact key ⟨u,h⟩
   rw[ET h]
   intro b hb;rcases fc.1 hb with hb|hb
   ·exact ih _ ah b hb
   rcases kJ.1 hb with rfl
   exact key ⟨u%10,ES _ ah⟩
theorem Aq(u:Nat):aA8 u≠[]:=by
 rw[aA8]
 split<;>simp
def xh(b:UInt8):Bool:=b==45||bf b
theorem yO(n:Int): ∀b∈aA9 n,xh b=true:=by
 have key: ∀u:Nat,∀b∈aA8 u,xh b=true:=fun u b hb=>by
  have:=rY u b hb;unfold xh bf;rw[uD]
  right
  rw[bV];exact⟨eU (Ai.2 this.1),eU (Ai.2 this.2)⟩
 unfold aA9;split
 ·intro b hb
  rcases cq.1 hb with rfl|hb
  ·rfl
  exact key _ b hb
 exact key _
theorem WV(n:Int):aA9 n≠[]:=by
 unfold aA9;split
 ·simp
 exact Aq _
open Go.Sort
theorem yY{P:Program}{f:FuncId}{args:Array aAY}{w:aAX}{v:aAY}(h:aA7 P f args w (bg w v)):aA7 P f args w fun e w'=>e= .returned v/\aAW w.heap.size w w':=h
theorem xu(k:Nat):rX (k:Int)=cg k:=by unfold rX;rw[uC]
theorem Uk{i:aL}(h:fh i=true):eM i=true/\i=zG i:=by
 unfold fh at h;simpa only[bV,dw]using h
theorem Ds{n:Int}(h:bJ n=true): -2147483648<=n/\n<=2147483647:=by
 unfold bJ at h;simpa only[bV,dw]using h
theorem Ks{n:Int}(h:bJ n=true):(aA9 n).length<=21:=Lib.itoa_length_le n (by have:=Ds h;omega) (by have:=Ds h;omega)
theorem azR(k:Nat)(h:k<15)(w:aAX)(g:Gl w):aA7 prog 122 #[.int .i64 k] w (zU w (.tuple #[.string (tx (cg k)),.int .i64 0])):=by
 have c0:=g.regs k h;have h0:(0:Int)<=(k:Int):=ah;have h1:(k:Int)<15:=ah;go_in;go_wp2;go_ret2;exact⟨rfl,oJ⟩
theorem azP(i:aL)(hl:i.aj.length<=9223372036854775807)(hc:fh i=false)(w:aAX):
 aA7 prog 207 #[vI i] w (bg w (.tuple #[.string (tx []),.int .i64 91])):=by
 have E1:=al w (j6 i);have b0:=iU.new w i;have HE:=af (Vg hc);have XC:=af (Q4 i hl);go_in;go_wp2_with fail;refine(XC.oo _).mono ?_;rintro x w1 ⟨rfl,E⟩;rw[HE.oo];have B:=aI E1 E;go_wp2;exact Oh
theorem ahn{i:aL}(h:fh i=true):(∃ax aj,i=⟨1,0,0,0,ax,aj,[],0⟩/\aU aj=true/\bJ ax=true)\/(∃(a:Nat) (aj:Tx),i=⟨2,0,(a:Int),0,0,aj,[],0⟩/\aU aj=true/\a<15)\/(∃(a:Nat) (aj:Tx),i=⟨3,(a:Int),0,0,0,aj,[],0⟩/\aU aj=true/\a<15)\/(∃(a:Nat) (ax:Int),i=⟨4,(a:Int),0,0,ax,[],[],0⟩/\bJ ax=true/\a<15)\/i=⟨5,0,0,0,0,[],[],0⟩:=by
 obtain⟨ho,hw⟩:=Uk h;unfold eM at ho;unfold zG at hw
 by_cases h1:i.op=1
 ·rw[ak h1]at ho hw
  simp only[bV]at ho;exact .inl ⟨_,_,hw,ho.1,ho.2⟩
 rw[ai h1]at ho hw
 by_cases h2:i.op=2
 ·rw[ak h2]at ho hw
  simp only[bV]at ho;obtain⟨k,hk,e⟩:=xx ho.2;rw[e]at hw;exact .inr (.inl ⟨k,_,hw,ho.1,hk⟩)
 rw[ai h2]at ho hw
 by_cases h3:i.op=3
 ·rw[ak h3]at ho hw
  simp only[bV]at ho;obtain⟨k,hk,e⟩:=xx ho.2;rw[e]at hw;exact .inr (.inr (.inl ⟨k,_,hw,ho.1,hk⟩))
 rw[ai h3]at ho hw
 by_cases h4:i.op=4
 ·rw[ak h4]at ho hw
  simp only[bV]at ho;obtain⟨k,hk,e⟩:=xx ho.1;rw[e]at hw;exact .inr (.inr (.inr (.inl ⟨k,_,hw,ho.2,hk⟩)))
 exact adH
theorem asl{i:aL}(h:fh i=true):i.aj.length<=9223372036854775807:=by
 rcases ahn h with⟨ax,aj,rfl,hn, -⟩|⟨a,aj,rfl,hn, -⟩|⟨a,aj,rfl,hn, -⟩|⟨a,ax,rfl,-, -⟩|rfl
 iterate 3 (focus (have:=(pM hn).2;simp;omega))
 all_goals simp
theorem azQ(i:aL)(hc:fh i=true)(w:aAX)(g:Gl w):
 aA7 prog 207 #[vI i] w (bg w (.tuple #[.string (tx (jP i)),.int .i64 0])):=by
 have E1:=al w (j6 i);have b0:=iU.new w i;have g:=g.below E1;have HE:=af (aeF hc);have CK:=af (Q4 i (asl hc));rcases ahn hc with⟨ax,aj,rfl,hn,hb⟩|⟨a,aj,rfl,hn,ha⟩|⟨a,aj,rfl,hn,ha⟩|⟨a,ax,rfl,hb,ha⟩|rfl
 focus
  have ll:=(pM hn).2;have li:=Ks hb;have hbs:=Ds hb;obtain⟨t1,t2,t3,ht,-, c1,c2,c3⟩:=Nw (va:=⟨#[77,79,86,32,91]⟩) (vc:=⟨#[93,44,36]⟩) [77,79,86,32,91] aj [93,44,36] (aA9 ax) rfl rfl rfl rfl sB;have HP:=af (show jP ⟨1,0,0,0,ax,aj,[],0⟩=t3 by rw[<-ht];rfl)
 rotate_left
 focus
  have ll:=(pM hn).2;have la:=Bd ha;have h0:(0:Int)<=(a:Int):=ah;have h1:(a:Int)<15:=ah;have HA:=af ha;obtain⟨t1,t2,t3,ht,-, c1,c2,c3⟩:=Nw (va:=⟨#[77,79,86,32,91]⟩) (vc:=⟨#[93,44]⟩) [77,79,86,32,91] aj [93,44] (cg a) rfl rfl rfl rfl sB;have HP:=af (show jP ⟨2,0,(a:Int),0,0,aj,[],0⟩=t3 by rw[<-ht];simp[jP,xu])
 rotate_left
 focus
  have ll:=(pM hn).2;have la:=Bd ha;have h0:(0:Int)<=(a:Int):=ah;have h1:(a:Int)<15:=ah;have HA:=af ha;obtain⟨t1,t2,t3,t4,ht,-, c1,c2,c3,c4⟩:=Nx (va:=⟨#[77,79,86,32]⟩) (vc:=⟨#[44,91]⟩) (ve:=⟨#[93]⟩) [77,79,86,32] (cg a) [44,91] aj [93] rfl rfl rfl rfl rfl sB;have HP:=af (show jP ⟨3,(a:Int),0,0,0,aj,[],0⟩=t4 by rw[<-ht];simp[jP,xu])
 rotate_left
 focus
  have li:=Ks hb;have hbs:=Ds hb;have la:=Bd ha;have h0:(0:Int)<=(a:Int):=ah;have h1:(a:Int)<15:=ah;have HA:=af ha;obtain⟨t1,t2,t3,ht,-, c1,c2,c3⟩:=Nw (va:=⟨#[77,79,86,32]⟩) (vc:=⟨#[44,36]⟩) [77,79,86,32] (cg a) [44,36] (aA9 ax) rfl rfl rfl rfl sB;have HP:=af (show jP ⟨4,(a:Int),0,0,ax,[],[],0⟩=t3 by rw[<-ht];simp[jP,xu])
 rotate_left
 all_goals
  go_in;go_wp2_with fail;refine(CK.oo _).mono ?_;rintro x w1 ⟨rfl,E⟩;rw[HE.oo];have bb:=b0.below E;have g:=g.below E;have B:=aI E1 E;obtain⟨q0,q1,q2,q3,q4,q5,q6,q7⟩:=bb.cells;go_wp2_with fail
 focus
  exact Oh
 all_goals
  (try have cA:=fun(d:Nat) (os:Array Obj)=>Calls.regrown_of (yY (tU ax ah ah (grow (redrawn w1 d) os) (g.below (below_regrown w1 d os)))))
  (try have q9:=cell_regrown (g.regs a HA.oo))
  have q1:=cell_regrown q1;have q2:=cell_regrown q2;have q4:=cell_regrown q4;have q5:=cell_regrown q5;refine wp_region_quiet_below bM bM ?_
  repeat(go_big_quiet_step (exact cA _ _))
  refine mW ?_;intro _ hw';obtain⟨⟨dq,dJ⟩,hw''⟩:=hw';subst hw'';have xK:=below_regrown w1 dq dJ;have EZ:=aI B xK;generalize grow (redrawn w1 dq) dJ=wq at*;go_wp2_with fail;go_ret2;exact⟨Yy (by rw[HP.oo]) rfl,EZ⟩
def Lf(ag:Int)(k:Nat):Prop:=(ag=1/\k<15)\/(ag=2/\k<32)
theorem aiL{ag:Int}{k:Nat}(h:Lf ag k):(sJ ag k).length<=5:=by
 unfold sJ;rcases h with⟨h1,h2⟩|⟨h1,h2⟩
 ·rw[ai ah,xu];have:=Bd h2;omega
 rw[ak h1];unfold rT;rw[uC];exact pO h2
theorem Om{ag:Int}{n:Nat}{x:bF}(ha:bD ag=true)(hn:n<=16)(h:jm ag n x=true):
 (∃aj nn,x=⟨-1,0,aj,[],nn⟩/\aU aj=true/\bJ nn=true)\/(∃(i k:Nat) (v:Tx) (nn:Int),x=⟨i,k,[],v,nn⟩/\i<16/\i<n/\Lf ag k/\((v≠[]/\aU v=true/\nn=0)\/(v=[]/\bJ nn=true))):=by
 obtain⟨th,rg,aj,v,nn⟩:=x;unfold jm at h;simp only at h
 by_cases h1:th= -1
 ·rw[ak h1]at h
  simp only[bV,dw]at h;exact .inl ⟨aj,nn,by rw[h1,h.2.1,h.2.2.1],h.1,h.2.2.2⟩
 rw[ai h1]at h
 by_cases h2:th<0\/(n:Int)<=th\/aj≠[]
 ·rw[ak h2]at h;cases h
 rw[ai h2]at h;have h2a:0<=th:=ah;have h2b:th<(n:Int):=ah
 have h2c:aj=[]:=by
  by_cases e:aj=[]
  ·exact e
  exact absurd (.inr (.inr e)) h2
 unfold bD at ha;simp only[uD,dw]at ha
 by_cases h3:(if ag=2 then rg<1\/31<rg else rg<0\/14<rg)
 ·rw[ak h3]at h;cases h
 rw[ai h3]at h
 have hk:Lf ag rg.toNat/\0<=rg:=by
  rcases ha with ha|ha
  ·rw[ai ah]at h3
   exact⟨.inl ⟨ha,ah⟩,ah⟩
  rw[ak ha]at h3
  exact⟨.inr ⟨ha,ah⟩,ah⟩
 refine .inr ⟨th.toNat,rg.toNat,v,nn,?_,ah,ah,hk.1,?_⟩
 ·rw[h2c,show((th.toNat:Nat):Int)=th by omega,show((rg.toNat:Nat):Int)=rg by have:=hk.2;omega]
 by_cases hv:v=[]
 ·rw[ai (aS hv)]at h;exact .inr ⟨hv,h⟩
 rw[ak hv]at h
 simp only[bV,dw]at h;exact .inl ⟨hv,h.1,h.2⟩
theorem awK: ∀m n:Fin 15,cg m.val=cg n.val->m=n:=dD
theorem awF: ∀m n:Fin 32,cZ m.val=cZ n.val->m=n:=dD
theorem Gw{s:Tx}(h:aU s=true): ∀b∈s,dO b=true:=by
 cases s with
 |nil=>simp
 | cons c r=>
   unfold aU at h;simp only[bV,dw]at h;intro b hb;rcases cq.1 hb with rfl|hb
   ·unfold dO;rw[h.1.2];rfl
   exact fP.1 h.2 b hb
theorem Dt{s:Tx}(h:aU s=true): ∃c r,s=c::r/\cL c=true:=by
 cases s with
 |nil=>cases h
 | cons c r=>
   unfold aU at h;simp only[bV,dw]at h;exact⟨c,r,rfl,h.1.2⟩
theorem aqV(c:UInt8)(h:cL c=true):xh c=false:=by
 have:=qB (p:=fun c=> !cL c|| !xh c) dD c;rw[h]at this;simpa using this
theorem arX{s:Tx}{n:Int}(h:aU s=true):s≠aA9 n:=fun e=>by
 obtain⟨c,r,rfl,hc⟩:=Dt h;have:=yO n c (by rw[<-e];simp);rw[aqV c hc]at this;cases this
theorem KJ{p:UInt8->Bool}{s:Tx}{c:UInt8}(h: ∀b∈s,p b=true)(hc:p c=false):c∉s:=fun m=>by
 have:=h c m;rw[hc]at this;cases this
def pP(b:UInt8):Bool:=dO b||b==45
theorem KL(b:UInt8)(h:xh b=true):pP b=true:=by
 have:=qB (p:=fun c=> !xh c||pP c) dD b;rw[h]at this;simpa using this
theorem Xy(b:UInt8)(h:dO b=true):pP b=true:=by unfold pP;rw[h];rfl
mutual
def bO:Nd->Nd
 | .mk k t v a c l=>.mk k t v none 0 (fL l)
def fL:List Nd->List Nd
 |[]=>[]
 |x::r=>bO x::fL r
end
theorem Al(x:Nd):bO x= .mk x.kind x.th x.val none 0 (fL x.aP):=by cases x;rw[bO];rfl
theorem qa:fL []=[]:=by rw[fL]
theorem wG{x:Nd}{r:List Nd}:fL (x::r)=bO x::fL r:=by rw[fL]
theorem Jm: ∀l:List Nd,fL l=l.map bO
 |[]=>qa
 |x::r=>by rw[wG,Jm r];rfl
theorem Jl(l:List Nd):(fL l).length=l.length:=by rw[Jm];simp
theorem aaP(l r:List Nd):fL (l++r)=fL l++fL r:=by simp only[Jm,pG]
theorem alo{x y:Nd}:bO x=bO y<->x.kind=y.kind/\x.th=y.th/\x.val=y.val/\fL x.aP=fL y.aP:=by
 rw[Al,Al];simp
def sM(b:UInt8):Bool:=pP b||(b==58||b==61)
def F0(r:Tx):Prop:= ∀c∈r.head?,sM c=false
theorem F0.nil:F0 []:=fun c h=>by simp at h
theorem F0.cons{c:UInt8}{r:Tx}(h:sM c=false):F0 (c::r):=fun d hd=>by
 simp at hd;subst hd;exact h
theorem aiK{ag:Int}{k:Nat}(ha:bD ag=true)(h:(k:Int)<dU ag): ∀b∈dy ag k,pP b=true:=by
 have h1: ∀n:Fin 15,(cg n.val).all pP=true:=dD;have h2: ∀n:Fin 32,(cZ n.val).all pP=true:=dD;unfold dy dU at*;split
 ·rename_i e;rw[ak e]at h;exact fP.1 (h1 ⟨k,ah⟩)
 rename_i e;rw[ai e]at h;exact fP.1 (h2 ⟨k,ah⟩)
theorem awt{ag:Int}{k l:Nat}(hk:(k:Int)<dU ag)(hl:(l:Int)<dU ag)(h:dy ag k=dy ag l):k=l:=by
 unfold dy dU at*
 split at h
 ·rename_i e;rw[ak e]at hk hl
  have:=awK ⟨k,ah⟩ ⟨l,ah⟩ h;simpa using this
 rename_i e;rw[ai e]at hk hl
 have:=awF ⟨k,ah⟩ ⟨l,ah⟩ h;simpa using this
theorem aym{ag:Int}{t:Th}(ha:bD ag=true)(h:dF ag t=true): ∀b∈ue ag t,(pP b||b==58)=true:=by
 rcases Lp h with⟨h1,h2,h3⟩|⟨i,k,rfl,hi,hk⟩<;>unfold ue
 ·rw[ak h1]
  intro b hb;rw[Xy b (Gw h3 b hb)];rfl
 rw[ai (by simp only;omega)]
 intro b hb;simp only[fc,kJ,uC]at hb;rcases hb with(hb|rfl)|hb
 ·rw[KL b (yO _ b hb)];rfl
 ·rfl
 rw[aiK ha hk b hb];rfl
theorem aaI{ag:Int}{t:Th}{v:Int}(ha:bD ag=true)(ht:dF ag t=true): ∀b∈wF ag t v,sM b=true:=by
 intro b hb;unfold wF at hb;simp only[fc,kJ]at hb;unfold sM;rcases hb with(hb|rfl)|hb
 ·have:=aym ha ht b hb
  rw[uD]at this;rcases this with e|e
  ·rw[e];rfl
  rw[e];simp
 ·rfl
 rw[KL b (yO _ b hb)];rfl
def F2(r:Tx):Prop:=F0 r/\ ∀t,r≠32::47::t
def F1(r:Tx):Prop:=F0 r/\r.head?≠some 32
theorem F1.two{r:Tx}(h:F1 r):F2 r:=⟨h.1,fun t e=>h.2 (by rw[e];rfl)⟩
theorem F1.nil:F1 []:=⟨F0.nil,aq⟩
theorem F1.cons{c:UInt8}{r:Tx}(h:sM c=false)(h2:c≠32):F1 (c::r):=⟨F0.cons h,by simpa using h2⟩
def qy(ag:Int)(x:Nd):Tx:=lT (weak true x.kind) (fN ag x)
def Aj(ag:Int)(x:Nd):Tx:=lT (weak false x.kind) (fN ag x)
def wE(x:Nd):List Nd:=if x.kind=4 then x.aP else[x]
def xk(x:Nd):List Nd:=if x.kind=5 then x.aP else[x]
theorem ak0{ag:Int}{x:Nd}(h:eo ag x): ∃z L,wE x=z::L:=by
 unfold wE;split
 ·rename_i e
  rcases yS h.may with⟨h1,_⟩|⟨h1,_⟩|⟨h1,_⟩|⟨h1,h2⟩|⟨h1,_⟩
  ·omega
  ·omega
  ·omega
  ·cases hk:x.aP with
   |nil=>rw[hk]at h2;simp at h2
   |cons z L=>exact⟨z,L,rfl⟩
  omega
 exact⟨x,[],rfl⟩
theorem asm{ag:Int}{x:Nd}(h:eo ag x): ∃z L,xk x=z::L:=by
 unfold xk;split
 ·rename_i e
  rcases yS h.may with⟨h1,_⟩|⟨h1,_⟩|⟨h1,_⟩|⟨h1,_⟩|⟨h1,h2⟩
  ·omega
  ·omega
  ·omega
  ·omega
  cases hk:x.aP with
  |nil=>rw[hk]at h2;simp at h2
  |cons z L=>exact⟨z,L,rfl⟩
 exact⟨x,[],rfl⟩
theorem ak1{ag:Int}{x z:Nd}{L:List Nd}(h:wE x=z::L):Aj ag x=qy ag z++mP ag true rA L:=by
 unfold wE at h
 split at h
 ·rename_i e
  unfold Aj;rw[sL,e,h];rw[ai ay,ai ay,ai ay,ak rfl,y9];rfl
 rename_i e
 cases h;rw[rE,jD];unfold Aj qy weak;simp[e]
theorem aot{ag:Int}{x z:Nd}{L:List Nd}(h:xk x=z::L):fN ag x=Aj ag z++mP ag false rB L:=by
 unfold xk at h
 split at h
 ·rename_i e
  rw[sL,e,h];rw[ai ay,ai ay,ai ay,ai ay,y9];rfl
 rename_i e
 cases h;rw[rE,jD];unfold Aj weak lT;simp[e]
theorem F2.tail{ag:Int}(K:List Nd){q:Tx}(hq:F2 q):F0 (mP ag true rA K++q):=by
 cases K with
 |nil=>rw[rE];exact hq.1
 |cons z K=>rw[vF];simp only[rA,cY];exact F0.cons ay
theorem F1.tail{ag:Int}(K:List Nd){q:Tx}(hq:F1 q):F2 (mP ag false rB K++q):=by
 cases K with
 |nil=>rw[rE];exact hq.two
 |cons z K=>rw[vF];simp only[rB,cY];exact⟨F0.cons ay,fun t e=>by simp at e⟩
theorem Xv{ag k v:Int}{t:Th}{n:Nat}(h:iJ ag k t v n=true)(hk:k≠2):t=dQ/\v=0:=by
 unfold iJ at h;rw[ai hk]at h;simp only[bV,dw]at h;exact h.1
theorem aqk{ag:Int}{x:Nd}(h:eo ag x)(hk:x.kind=4\/x.kind=5):2<=x.aP.length:=by
 rcases yS h.may with⟨h1,_⟩|⟨h1,_⟩|⟨h1,_⟩|⟨_,h2⟩|⟨_,h2⟩
 ·omega
 ·omega
 ·omega
 ·exact h2
 exact h2
def DN:Tx:=[116,114,117,101]
theorem ax1{ag:Int}{x:Nd}(h:eo ag x):(x.kind=1/\x.aP=[]/\qy ag x=DN)\/(x.kind=2/\x.aP=[]/\dF ag x.th=true/\qy ag x=wF ag x.th x.val)\/(x.kind=3/\ ∃k,x.aP=[k]/\qy ag x=126::qy ag k)\/((x.kind=4\/x.kind=5)/\qy ag x=40::(fN ag x++[41])):=by
 rcases yS h.may with⟨h1,h2⟩|⟨h1,h2,h3,h4⟩|⟨h1,h2⟩|⟨h1,h2⟩|⟨h1,h2⟩
 ·refine .inl ⟨h1,rP.1 h2,?_⟩
  unfold qy;rw[h1,sL,h1];rfl
 ·refine .inr (.inl ⟨h1,rP.1 h4,h2,?_⟩)
  unfold qy;rw[h1,sL,h1];rfl
 ·refine .inr (.inr (.inl ⟨h1,?_⟩))
  obtain⟨k,hk⟩:=SK.1 h2;refine⟨k,hk,?_⟩;unfold qy;rw[h1,sL ag x,h1,hk,ai ay,ai ay,ak rfl,y9,rE,jD];rfl
 ·refine .inr (.inr (.inr ⟨.inl h1,?_⟩))
  unfold qy;rw[h1];rfl
 refine .inr (.inr (.inr ⟨.inr h1,?_⟩))
 unfold qy;rw[h1];rfl
theorem ayW: ∀b∈DN,sM b=true:=ay
theorem alV{s:Tx}(h:cU s):(124:UInt8)∉s/\(10:UInt8)∉s/\(59:UInt8)∉s:=
 ⟨KJ h ay,KJ h ay,KJ h ay⟩
theorem aaO(s:Tx)(h:cU s):(124:UInt8)∉s++[32]:=by
 intro m;rcases fc.1 m with m|m
 ·exact(alV h).1 m
 simp at m
attribute [local go_sem high] Fw Du
theorem alx{w w':aAX}(h:aAW w.heap.size w w')(n:Nat):aAW w.heap.size w (w'.drewN n):=h.trans ((below_drewN w' n).mono h.size)
theorem gD{n:Nat}{w w':World}(h:Below n w w':=by repeat(first|with_reducible assumption|with_reducible exact bS _ _|with_reducible refine gU ?_ _|with_reducible refine jV ?_|with_reducible refine alx ?_ _|with_reducible refine uE ?_ (by dsimp only;omega) _)):Below n w w':=h
theorem Lg(ag:Int):15<=dU ag/\dU ag<=32:=by unfold dU;split<;>omega
abbrev oK(t:Th):Obj:=.cells #[.int .i64 t.aO,.int .i64 t.aR,.string (tx t.aj)] 25
theorem Nj(ag:Int)(F:Nat)(hF:F∈[142,45,66,164])(w:aAX):aA7 prog F #[.int .i64 ag] w fun e w'=>e= .returned (.bool (bD ag))/\w=w':=by
 simp only[cq,qO,qK]at hF
 by_cases h1:ag=1
 ·subst h1
  rcases hF with rfl|rfl|rfl|rfl
  all_goals go_in
  all_goals
   exact Cw
 have z1:(ag==1)=false:=aS h1
 have e:bD ag=(ag==2):=by unfold bD;rw[eZ h1,pZ];rw[jE];simp
 have E:=af e;rcases hF with rfl|rfl|rfl|rfl
 all_goals go_in
 all_goals
  go_wp2;go_ret;exact⟨eC E.oo.symm,rfl⟩
theorem JC(ag:Int)(w:aAX):aA7 prog 142 #[.int .i64 ag] w fun e w'=>e= .returned (.bool (bD ag))/\w=w':=Nj ag _ ay w
theorem Dy(ag:Int)(w:aAX):aA7 prog 45 #[.int .i64 ag] w fun e w'=>e= .returned (.bool (bD ag))/\w=w':=Nj ag _ ay w
theorem an2(ag:Int)(w:aAX):aA7 prog 66 #[.int .i64 ag] w fun e w'=>e= .returned (.bool (bD ag))/\w=w':=Nj ag _ ay w
theorem auV(ag:Int)(w:aAX):aA7 prog 164 #[.int .i64 ag] w fun e w'=>e= .returned (.bool (bD ag))/\w=w':=Nj ag _ ay w
theorem Yx(ag:Int)(F:Nat)(hF:F∈[323,202])(w:aAX):aA7 prog F #[.int .i64 ag] w fun e w'=>e= .returned (.int .i64 (dU ag))/\w=w':=by
 simp only[cq,qO,qK]at hF
 by_cases h1:ag=1
 ·subst h1
  rcases hF with rfl|rfl
  all_goals go_in
  all_goals
   exact Cw
 have z1:(ag==1)=false:=aS h1
 have E:=af (show dU ag=32 by unfold dU;rw[ai h1]);rcases hF with rfl|rfl
 all_goals go_in
 all_goals
  go_wp2;go_ret;exact⟨nA E.oo.symm,rfl⟩
theorem am3(ag:Int)(w:aAX):aA7 prog 323 #[.int .i64 ag] w fun e w'=>e= .returned (.int .i64 (dU ag))/\w=w':=Yx ag _ ay w
theorem auu(ag:Int)(w:aAX):aA7 prog 202 #[.int .i64 ag] w fun e w'=>e= .returned (.int .i64 (dU ag))/\w=w':=Yx ag _ ay w
theorem ajR(F:Nat)(hF:F=278\/F=321)(ag:Int)(t:Th)(hl:t.aj.length<=9223372036854775807)(w:aAX):aA7 prog F #[.int .i64 ag,mz t] w (bg w (.bool (dF ag t))):=by
 obtain⟨th,rg,aj⟩:=t;have B:=al w (oK ⟨th,rg,aj⟩);have hR:=Lg ag;have N1:=af (abJ aj hl);have N2:=af (GL aj hl)
 by_cases h1:th= -1
 ·subst h1
  by_cases h2:rg=0
  ·subst h2
   have E:=af (show dF ag ⟨-1,0,aj⟩=aU aj by simp[dF]);rcases hF with rfl|rfl
   all_goals go_in
   all_goals
    go_wp2_with (first|(go_at_call 322;refine aK (N1.oo _) ?_)|(go_at_call 118;refine aK (N2.oo _) ?_))
    exact Ob
  have E:=af (show dF ag ⟨-1,rg,aj⟩=false by simp[dF,h2])
  have z2:(rg==0)=false:=aS h2;rcases hF with rfl|rfl
  all_goals go_in
  all_goals
   exact Cx
 have z1:(th== -1)=false:=aS h1
 have hT:dF ag ⟨th,rg,aj⟩=(decide (0<=th)&&decide (th<16)&&decide (0<=rg)&&decide (rg<dU ag)&&decide (aj=[])):=by unfold dF;simp only;rw[ai h1]
 obtain⟨R,hRR⟩:=aF (dU ag);have RG:=af (show ∀F∈[323,202],∀w,aA7 prog F #[.int .i64 ag] w fun e w'=>e= .returned (.int .i64 R)/\w'=w from fun F hF w=>(Yx ag F hF w).mono fun e w' hh=>⟨by rw[hh.1,hRR],hh.2.symm⟩);rw[hRR]at hT hR
 by_cases cd1:th<0
 ·have d1:decide (0<=th)=false:=eZ ah
  have nd1: ¬(0<=th):=ah;have E:=af (show dF ag ⟨th,rg,aj⟩=false by rw[hT];simp[*]);rcases hF with rfl|rfl
  all_goals go_in
  all_goals
   go_wp2_with fail
   go_quiet (((first|go_at_call 323|go_at_call 202);exact Aa (RG.oo _ ay _)))
   exact Cx
 have d1:decide (0<=th)=true:=eU ah;have pd1:0<=th:=ah
 by_cases cd2:16<=th
 ·have d2:decide (th<16)=false:=eZ ah
  have nd2: ¬(th<16):=ah;have E:=af (show dF ag ⟨th,rg,aj⟩=false by rw[hT];simp[*]);rcases hF with rfl|rfl
  all_goals go_in
  all_goals
   go_wp2_with fail
   go_quiet (((first|go_at_call 323|go_at_call 202);exact Aa (RG.oo _ ay _)))
   exact Cx
 have d2:decide (th<16)=true:=eU ah;have pd2:th<16:=ah
 by_cases cd3:rg<0
 ·have d3:decide (0<=rg)=false:=eZ ah
  have nd3: ¬(0<=rg):=ah;have E:=af (show dF ag ⟨th,rg,aj⟩=false by rw[hT];simp[*]);rcases hF with rfl|rfl
  all_goals go_in
  all_goals
   go_wp2_with fail
   go_quiet (((first|go_at_call 323|go_at_call 202);exact Aa (RG.oo _ ay _)))
   exact Cx
 have d3:decide (0<=rg)=true:=eU ah;have pd3:0<=rg:=ah
 by_cases cd4:R<=rg
 ·have d4:decide (rg<R)=false:=eZ ah
  have nd4: ¬(rg<R):=ah;have E:=af (show dF ag ⟨th,rg,aj⟩=false by rw[hT];simp[*]);rcases hF with rfl|rfl
  all_goals go_in
  all_goals
   go_wp2_with fail
   go_quiet (((first|go_at_call 323|go_at_call 202);exact Aa (RG.oo _ ay _)))
   exact Cx
 have d4:decide (rg<R)=true:=eU ah;have pd4:rg<R:=ah
 by_cases hl0:aj=[]
 ·subst hl0
  have z5:((tx []).toList==([]:List UInt8))=true:=by rw[bU];rfl
  have E:=af (show dF ag ⟨th,rg,[]⟩=true by rw[hT];simp[*]);rcases hF with rfl|rfl
  all_goals go_in
  all_goals
   go_wp2_with fail
   go_quiet (((first|go_at_call 323|go_at_call 202);exact Aa (RG.oo _ ay _)))
   exact Cx
 have z5:((tx aj).toList==([]:List UInt8))=false:=by rw[bU];simpa using hl0
 have z6:(tx aj).toList.isEmpty=false:=by rw[bU];cases aj<;>simp at*
 have E:=af (show dF ag ⟨th,rg,aj⟩=false by rw[hT];simp[*]);rcases hF with rfl|rfl
 all_goals go_in
 all_goals
  go_wp2_with fail
  go_quiet (((first|go_at_call 323|go_at_call 202);exact Aa (RG.oo _ ay _)))
  exact Cx
theorem am6(ag:Int)(t:Th)(hl:t.aj.length<=9223372036854775807)(w:aAX):aA7 prog 278 #[.int .i64 ag,mz t] w (bg w (.bool (dF ag t))):=ajR _ (.inl rfl) ag t hl w
theorem auv(ag:Int)(t:Th)(hl:t.aj.length<=9223372036854775807)(w:aAX):aA7 prog 321 #[.int .i64 ag,mz t] w (bg w (.bool (dF ag t))):=ajR _ (.inr rfl) ag t hl w
attribute [local go_sem high] Fw Du
theorem arA(ag:Int)(t:Th)(v:Int)(n:Nat):iJ ag 2 t v n=(dF ag t&&bJ v&&decide (n=0)):=rfl
theorem arB{ag k:Int}{t:Th}{v:Int}{n:Nat}(hk:k≠2)(h:t≠dQ\/v≠0):iJ ag k t v n=false:=by
 unfold iJ;rw[ai hk];rcases h with h|h
 ·rw[eZ h];simp
 rw[eZ h];simp
theorem arC{ag k:Int}{n:Nat}(hk:k≠2):iJ ag k dQ 0 n=(if k=1 then decide (n=0)else if k=3 then decide (n=1)else if k=4\/k=5 then decide (2<=n)else false):=by
 unfold iJ;rw[ai hk];simp
theorem ag3(t:Th)(w:aAX):(binOp .neq 25 (mz t) (.agg #[.int .i64 0,.int .i64 0,.string ⟨#[]⟩])).run prog w= .ok (.bool (!decide (t=dQ))) w:=Du t dQ w
theorem arx(F:Nat)(hF:F=227\/F=274)(ag:Int)(t:Th)(v:Int)(a:Option aAZ)(n c:Nat)(hl:t.aj.length<=9223372036854775807)(w:aAX):aA7 prog F #[.int .i64 ag,.agg #[.int .i64 2,.int .i64 t.aO,.int .i64 t.aR,.string (tx t.aj),.int .i64 v,.slice a n c]] w (bg w (.bool (iJ ag 2 t v n))):=by
 have B:=al w (.cells #[.int .i64 2,.int .i64 t.aO,.int .i64 t.aR,.string (tx t.aj),.int .i64 v,.slice a n c] 28);have b0:=aW.new w #[.int .i64 2,.int .i64 t.aO,.int .i64 t.aR,.string (tx t.aj),.int .i64 v,.slice a n c] 28;obtain⟨b1,eW⟩:=aF (dF ag t);obtain⟨b2,eG⟩:=aF (bJ v);have CT:=af (show ∀w,aA7 prog 278 #[.int .i64 ag,mz t] w (bg w (.bool b1))from fun w=>eW▸am6 ag t hl w);have CB:=af (show ∀w,aA7 prog 279 #[.int .i64 v] w fun e w'=>e= .returned (.bool b2)/\w=w' from fun w=>eG▸amK v w);have DT:=af (show ∀w,aA7 prog 321 #[.int .i64 ag,mz t] w (bg w (.bool b1))from fun w=>eW▸auv ag t hl w);have DB:=af (show ∀w,aA7 prog 201 #[.int .i64 v] w fun e w'=>e= .returned (.bool b2)/\w=w' from fun w=>eG▸Qg v w);have hE:=arA ag t v n;rw[eW,eG]at hE;clear eW eG;obtain⟨b3,jn⟩:=aF (decide (n=0));have z0:((n:Int)==0)=b3:=by rw[<-jn,jE];simp
 rw[jn]at hE;have HE:=af hE;clear hE jn;rcases hF with rfl|rfl
 rotate_left
 focus
  have b0:=b0.below (al _ (.cells #[.int .i64 0,.int .i64 0,.string ⟨#[]⟩] 25));have B:=gU B (.cells #[.int .i64 0,.int .i64 0,.string ⟨#[]⟩] 25);have CT:=DT;have CB:=DB;clear DT DB;cases b1<;>cases b2<;>cases b3
  all_goals
   go_in
   go_wp2_with (first|(go_at_call 321;refine aQ (CT.oo _) fun w1 E1=>?_;have Jk:=b0.below E1;obtain⟨-, -, -, -, q4,q5⟩:=Jk.kK;have B:=aI B E1;clear Jk E1)|(go_at_call 201;refine(CB.oo _).mono ?_;rintro e w2 ⟨rfl,rfl⟩))
 rotate_right
 focus
  clear DT DB;cases b1<;>cases b2<;>cases b3
  all_goals
   go_in
   go_wp2_with (first|(go_at_call 278;refine aQ (CT.oo _) fun w1 E1=>?_;have Jk:=b0.below E1;obtain⟨-, -, -, -, q4,q5⟩:=Jk.kK;have B:=aI B E1;clear Jk E1)|(go_at_call 279;refine(CB.oo _).mono ?_;rintro e w2 ⟨rfl,rfl⟩))
 all_goals
  exact anJ
theorem ary(F:Nat)(hF:F=227\/F=274)(ag:Int)(k:Int)(t:Th)(v:Int)(a:Option aAZ)(n c:Nat)(hl:t.aj.length<=9223372036854775807)(hk:k≠2)(h:t≠dQ\/v≠0)(w:aAX):aA7 prog F #[.int .i64 ag,.agg #[.int .i64 k,.int .i64 t.aO,.int .i64 t.aR,.string (tx t.aj),.int .i64 v,.slice a n c]] w (bg w (.bool (iJ ag k t v n))):=by
 have B:=al w (.cells #[.int .i64 k,.int .i64 t.aO,.int .i64 t.aR,.string (tx t.aj),.int .i64 v,.slice a n c] 28);have HE:=af (arB (ag:=ag) (n:=n) hk h);have NZ:=ag3 t;have zk:(k==2)=false:=aS hk;have vM:(k != 2)=true:=aS hk;clear hk
 by_cases ht:t=dQ
 ·have hv:v≠0:=by rcases h with h|h;exact absurd ht h;exact h
  have zv:(v != 0)=true:=aS hv;rw[eU ht]at NZ;clear h ht hv;rcases hF with rfl|rfl
  focus
   go_in
  rotate_left
  focus
   go_in
  all_goals
   exact JM
 rw[eZ ht]at NZ
 clear h ht;rcases hF with rfl|rfl
 focus
  go_in
 rotate_left
 focus
  go_in
 all_goals
  exact JM
theorem arz(F:Nat)(hF:F=227\/F=274)(ag k:Int)(a:Option aAZ)(n c:Nat)(hk:k≠2)(w:aAX):aA7 prog F #[.int .i64 ag,.agg #[.int .i64 k,.int .i64 0,.int .i64 0,.string ⟨#[]⟩,.int .i64 0,.slice a n c]] w (bg w (.bool (iJ ag k dQ 0 n))):=by
 have B:=al w (.cells #[.int .i64 k,.int .i64 0,.int .i64 0,.string ⟨#[]⟩,.int .i64 0,.slice a n c] 28);have hE:=arC (ag:=ag) (n:=n) hk;have NZ:=ag3 dQ;rw[eU rfl]at NZ;have NZ: ∀w,(binOp .neq 25 (.agg #[.int .i64 0,.int .i64 0,.string ⟨#[]⟩]) (.agg #[.int .i64 0,.int .i64 0,.string ⟨#[]⟩])).run prog w= .ok (.bool false) w:=NZ;have zk:(k==2)=false:=aS hk;have vM:(k != 2)=true:=aS hk
 by_cases h1:k=1
 ·subst h1
  have e:iJ ag 1 dQ 0 n=((n:Int)==0):=by rw[hE,ak rfl,jE];simp
  have HE:=af e;clear e hE hk zk vM;rcases hF with rfl|rfl
  focus
   go_in
  rotate_left
  focus
   go_in
  all_goals
   exact JM
 by_cases h3:k=3
 ·subst h3
  have e:iJ ag 3 dQ 0 n=((n:Int)==1):=by rw[hE,ai ah,ak rfl,jE];simp;omega
  have HE:=af e;clear e hE hk zk vM h1;rcases hF with rfl|rfl
  focus
   go_in
  rotate_left
  focus
   go_in
  all_goals
   exact JM
 by_cases h45:k=4\/k=5
 ·have e:iJ ag k dQ 0 n=decide (2<=n):=by rw[hE,ai h1,ai h3,ak h45]
  clear hE hk zk vM h1 h3;rcases h45 with rfl|rfl
  all_goals
   by_cases hn:2<=n
   ·rw[eU hn]at e
    have zn:decide ((2:Int)<=n)=true:=eU ah;have HE:=af e;clear e;rcases hF with rfl|rfl
    focus
     go_in
    rotate_left
    focus
     go_in
    all_goals
     go_wp2;go_ret;exact⟨eC (by rw[HE.oo]),gD⟩
   rw[eZ hn]at e
   have zn:decide ((2:Int)<=n)=false:=eZ ah;have HE:=af e;clear e;rcases hF with rfl|rfl
   focus
    go_in
   rotate_left
   focus
    go_in
   all_goals
    go_wp2;go_ret;exact⟨eC (by rw[HE.oo]),gD⟩
 have HE:=af (show iJ ag k dQ 0 n=false by rw[hE,ai h1,ai h3,ai h45])
 have z1:(k==1)=false:=aS h1;have z3:(k==3)=false:=aS h3;have z4:(k==4)=false:=aC;have z5:(k==5)=false:=aC;clear hE hk h1 h3 h45;rcases hF with rfl|rfl
 focus
  go_in
 rotate_left
 focus
  go_in
 all_goals
  exact JM
theorem agP(F:Nat)(hF:F=227\/F=274)(ag:Int)(x:Nd)(hl:x.th.aj.length<=9223372036854775807)(w:aAX):aA7 prog F #[.int .i64 ag,vN x] w (bg w (.bool (iJ ag x.kind x.th x.val x.aP.length))):=by
 unfold vN;generalize x.kind=k;generalize x.th=t at*;generalize x.val=v
 by_cases h2:k=2
 ·subst h2;exact arx F hF ag t v x.a x.aP.length x.c hl w
 by_cases hz:t=dQ/\v=0
 ·obtain⟨rfl,rfl⟩:=hz
  exact arz F hF ag k x.a x.aP.length x.c h2 w
 exact ary F hF ag k t v x.a x.aP.length x.c hl h2 (by by_cases ht:t=dQ;exact .inr (fun hv=>hz ⟨ht,hv⟩);exact .inl ht) w
theorem amB(ag:Int)(x:Nd)(hl:x.th.aj.length<=9223372036854775807)(w:aAX):aA7 prog 227 #[.int .i64 ag,vN x] w (bg w (.bool (iJ ag x.kind x.th x.val x.aP.length))):=agP _ (.inl rfl) ag x hl w
theorem auk(ag:Int)(x:Nd)(hl:x.th.aj.length<=9223372036854775807)(w:aAX):aA7 prog 274 #[.int .i64 ag,vN x] w (bg w (.bool (iJ ag x.kind x.th x.val x.aP.length))):=agP _ (.inr rfl) ag x hl w
set_option linter.unusedSectionVars false
section
variable {α:Type} {enc:α->List aAY} {m:Nat} (hm: ∀x,(enc x).length=m)
include hm
theorem aok(l:List α)(k:Nat)(e:α)(h:k<l.length):sy (flat enc l) (k*m) (enc e)=flat enc (l.set k e):=by
 have h1:l.set k e=l.take k++e::l.drop (k+1):=by rw[aao,ak h]
 rw[h1,qU,FB,<-Vn hm,<-aeO hm];unfold sy;rw[dA,hm,show(k+1)*m=k*m+m from Jf k m]
theorem au.axQ{w:aAX}{B E n c:Nat}{a:Option aAZ}{l:List α}(h:au w B E m a n c (flat enc l))(hpos:0<m)(k:Nat)(hk:k<l.length)(e:α):
 au (w.setCells (bk a) (fo a+k*m) (enc e)) B E m a n c (flat enc (l.set k e))/\Step w (w.setCells (bk a) (fo a+k*m) (enc e)) a a:=by
 have h1:=h.cap.2.2;rw[kC hm]at h1;have hn:n=l.length:=aar hpos h1.symm;have hle:k*m+m<=l.length*m:=by rw[<-Jf];exact wz _ hk
 have:=au.sets (au.some h ah) (enc e) (k*m) w (flat enc l) h (by rw[kC hm,hm];exact hle)
 rwa[aok hm l k e hk]at this
theorem au.aos{w:aAX}{B E n c k:Nat}{a:Option aAZ}{L:List α}{vs:List aAY}(h:au w B E m a n c (sy (flat enc L) (k*m) vs))(hn:n=L.length)(hk:k<=n):au w B E m a k c (flat enc (L.take k)):=by
 unfold sy at h;rw[dA,Vn hm]at h;obtain⟨m',rfl⟩: ∃m',n=k+m':=⟨n-k,ah⟩;exact au.front h (by rw[kC hm,lI];congr 1;omega)
end
def zT(ag:Int)(l:List Nd)(met deep:Nat)(R:Nat × Int):Prop:=kX ag l met deep=R
theorem auz(ag:Int): ∀(x:Nd) (met deep:Nat) (w:aAX),fZ w x->met<=1024->deep<=64->
 aA7 prog 217 #[.int .i64 ag,vN x,.int .i64 met,.int .i64 deep] w (bg w (.tuple #[.int .i64 ((fY ag x met deep).1:Nat),.int .i64 (fY ag x met deep).2])):=by
 intro x
 induction x using Nd.ind with
 |h x ih=>
 intro met deep w hI hm hd;have B:=al w (bY x);have b0:=rJ.new w x;obtain⟨p,hp⟩:=aF (fY ag x met deep);have hq:=hp;rw[LM]at hq;rw[hp];clear hp
 by_cases h1:1024<=met\/64<=deep
 ·rw[ak h1]at hq
  have HQ:=af hq.symm;clear hq
  by_cases h2:1024<=met
  ·have z2:decide (1024<=met)=true:=eU h2
   exact adI
  have z2:decide (1024<=met)=false:=eZ h2
  have z3:decide (64<=deep)=true:=eU ah;have h3:64<=deep:=ah;exact adI
 rw[ai h1]at hq
 have h2:met<1024:=ah;have h3:deep<64:=ah;have z2:decide (1024<=met)=false:=eZ ah;have z3:decide (64<=deep)=false:=eZ ah;clear h1;obtain⟨mb,hmb⟩:=aF (iJ ag x.kind x.th x.val x.aP.length);rw[hmb]at hq;have CM:=af (show ∀w,aA7 prog 274 #[.int .i64 ag,vN x] w (bg w (.bool mb))from fun w=>hmb▸auk ag x hI.aj w);have HI:=af hI;have vS:=af ih;clear hmb ih hI;cases mb
 ·rw[ak rfl]at hq
  have HQ:=af hq.symm;clear hq;go_in;go_wp2_with fail;refine aQ (CM.oo _) fun w1 E1=>?_
  have B:=aI B E1;exact anK
 rw[ai aq]at hq
 have HQ:=af hq;clear hq;go_in;go_wp2_with fail;refine aQ (CM.oo _) fun w1 E1=>?_
 have b1:=b0.below E1;have HI1:=af ((HI.oo.keep B).keep E1);have B:=aI B E1;clear E1 b0;go_wp2
 go_loopw [2,10] (fun ms i wr=> ∃k m:Nat,k<=x.aP.length/\i= .int .i64 k/\ms= .int .i64 m/\m<=1024/\aAW w1.heap.size w1 wr/\Hid (zT ag (x.aP.drop k) m (deep+1) p)) (fun _ i _=>x.aP.length-(intOf i).toNat)
 ·exact⟨0,met+1,dW _,rfl,by go_num,ah,bS _ _,HQ.oo⟩
 obtain⟨k,m,hk,rfl,rfl,yK,E,HR⟩:=hrel;have br:=b1.below E;have aA:=br.1;obtain⟨q0,q1,q2,q3,q4,q5⟩:=br.cells
 by_cases hlk:k<x.aP.length
 ·obtain⟨y,hy⟩: ∃y,x.aP[k]? =some y:=⟨_,aV hlk⟩
  have gY:=HI1.oo.keep E;obtain⟨p0,p1,p2,p3,p4,p5⟩:=gY.els.nd hy;have ix:=gY.els.idx qo nN k hlk x.c;have hyk:=gY.gZ y (cV hy);have CY:=vS.oo y (cV hy) m (deep+1) wr hyk yK ah;have hle:=akj ag y m (deep+1) yK;have hst:=HR.oo;unfold zT at hst;rw[akg hy]at hst;rw[show((deep+1:Nat):Int)=(deep:Int)+1 by omega]at CY;generalize fY ag y m (deep+1)=r at*;obtain⟨m2,e2⟩:=r;simp only at hst CY hle;have CY:=af CY;have hkl:=gY.els.len;clear hy hyk gY HR br
  by_cases he:e2=0
  ·subst he
   rw[ak rfl]at hst;have HST:=af (show zT ag (x.aP.drop (k+1)) m2 (deep+1) p from hst);clear hst;go_wp2_with fail;refine aQ CY.oo fun w2 E2=>?_
   have E:=aI E E2;clear q0 q1 q2 q3 q4 q5 p0 p1 p2 p3 p4 p5 ix;go_wp2
   go_roundw;exact⟨k+1,m2,ah,by go_num,rfl,hle,E,HST⟩;exact ep
  rw[ai he]at hst
  have ze:(e2 != 0)=true:=aS he;have HST:=af hst.symm;clear hst he;go_wp2_with fail;refine aQ CY.oo fun w2 E2=>?_
  have E:=aI E E2;clear q0 q1 q2 q3 q4 q5 p0 p1 p2 p3 p4 p5 ix;exact adJ
 obtain rfl:k=x.aP.length:=ah
 have hst:=HR.oo;unfold zT at hst;rw[wD,LL]at hst;have HST:=af hst.symm;clear hst HR;exact adJ
@[reducible] def vC(q:Int)(x:Nd):aAY:=.agg #[.int .i64 q,.int .i64 x.kind,.int .i64 x.th.aO,.int .i64 x.th.aR,.string (tx x.th.aj),.int .i64 x.val,.slice x.a x.aP.length x.c]
abbrev kR(q:Int)(x:Nd):Obj:=.cells #[.int .i64 q,.int .i64 x.kind,.int .i64 x.th.aO,.int .i64 x.th.aR,.string (tx x.th.aj),.int .i64 x.val,.slice x.a x.aP.length x.c] 30
theorem abD{ag q:Int}{x:Nd}(ha:bD ag=true)(h1:1<=q)(h2:q<=3):dh ag q x=(fY ag x 0 0).2:=by
 unfold dh;rw[ai (by rw[ha];simp),ai ah]
theorem NJ{ag q:Int}{x:Nd}(ha:bD ag=true)(h:q<1\/3<q):dh ag q x=80:=by
 unfold dh;rw[ai (by rw[ha];simp),ak h]
theorem abB{ag q:Int}{x:Nd}(ha:bD ag=false):dh ag q x=5:=by
 unfold dh;rw[ak ha]
theorem Yb(ag q:Int)(x:Nd)(w:aAX)(hI:fZ w x):
 aA7 prog 131 #[.int .i64 ag,vC q x] w (bg w (.int .i64 (dh ag q x))):=by
 have B:=al w (kR q x);obtain⟨ab,hab⟩:=aF (bD ag);have CA:=af (show ∀w,aA7 prog 45 #[.int .i64 ag] w fun e w'=>e= .returned (.bool ab)/\w=w' from fun w=>hab▸Dy ag w);cases ab
 ·have HE:=af (abB (q:=q) (x:=x) hab)
  clear hab;go_in
  go_wp2_with (go_at_call 45;refine aK (CA.oo _) ?_)
  exact Ax
 by_cases h1:q<1
 ·have HE:=af (NJ (x:=x) hab (.inl h1))
  clear hab;go_in
  go_wp2_with (go_at_call 45;refine aK (CA.oo _) ?_)
  exact Ax
 by_cases h2:q<=3
 ·have h1:1<=q:=ah
  have CW:=auz ag x 0 0 (w.alloc (kR q x)) (hI.keep B) ah ah;have HE:=af (abD (x:=x) hab h1 h2);generalize fY ag x 0 0=r at*;obtain⟨m2,e2⟩:=r;have CW:=af CW;clear hab hI;go_in
  go_wp2_with (first|(go_at_call 45;refine aK (CA.oo _) ?_)|(go_at_call 217;refine aQ CW.oo fun w2 E2=>?_;have B:=aI B E2;clear E2))
  exact Ax
 have HE:=af (NJ (q:=q) (x:=x) hab (.inr ah))
 have h1:1<=q:=ah;clear hab;go_in
 go_wp2_with (go_at_call 45;refine aK (CA.oo _) ?_)
 exact Ax
theorem gQ(w:aAX)(o:Obj):(w.alloc o).heap.size=w.heap.size+1:=aq
abbrev nH(w:aAX)(B:Nat)(a:Option aAZ)(n c:Nat)(l:List Nd):Prop:=au w B 28 6 a n c (flat cN l)
def Sf(w:aAX)(P:Prop)(e:Ending)(w':aAX):Prop:= ∃b:Bool,e= .returned (.bool b)/\(b=true<->P)/\aAW w.heap.size w w'
theorem au.arc(w:aAX)(x:Nd):nH (w.alloc (bY x)) w.heap.size (Option.some ⟨w.heap.size,0,none⟩) 1 1 [x]:=by
 have h:=Ab w (e:=28) #[.int .i64 x.kind,.int .i64 x.th.aO,.int .i64 x.th.aR,.string (tx x.th.aj),.int .i64 x.val,.slice x.a x.aP.length x.c] 1 (aX w.heap.size) (size:=6) dx aq;exact h
def gy(l:List Cd):List (List aL):=l.map (·.l)
theorem Ao{l:List Cd}{k:Nat}{x:Cd}(h:l[k]? =some x):(gy l)[k]? =some x.l:=by unfold gy;rw[jf,h];rfl
theorem Cs(l:List Cd):(gy l).length=l.length:=by unfold gy;simp
theorem Xq{α:Type}{a b:List α}(hl:a.length=b.length)(h: ∀k,k<a.length->a[k]? =b[k]?):a=b:=by
 refine EG fun k=>?_
 by_cases hk:k<a.length
 ·exact h k hk
 rw[mg ah,mg ah]
end Go.Proofs.YtkbbgjloifmmbaaGreatDoor

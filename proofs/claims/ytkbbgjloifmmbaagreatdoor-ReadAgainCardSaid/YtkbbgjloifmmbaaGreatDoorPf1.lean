/- What ReadAgainP leans on, part 1. -/
import Derived.Test.YtkbbgjloifmmbaaGreatDoorPf0
import Derived.WalkKit
import Derived.WalkSpells
import Derived.WalkLawsBesides
import Derived.Deep.QuietTactic
import Derived.BigQuiet
import Derived.Laws.IdiomCopy
set_option linter.unusedVariables false
open _root_.Go.RowKit renaming Below->aAW
open _root_.Go renaming World->aAX,Value->aAY,Addr->aAZ
open _root_.Go.Builtin renaming zeroCells->aA0
open _root_.Go.Instr renaming sliceAt->aA1,indexAt->aA2,sliceBounds->aA3,sliceBound->aA5
open _root_.Go.World renaming cell?->aA4
namespace Go.Proofs.YtkbbgjloifmmbaaGreatDoor
open Go.RowKit
variable{args:Array aAY}{f:FuncId}{l xs ys:List aAY}{B E bytes c c' m n size:Nat}{a a' sa:Option aAZ}{r:Option Nat}{P:Program}{e t:TypeId}{v z:aAY}{u w w' w0 w1 w2:aAX}
theorem af{p:Prop}(h:p):Hid p:=h
def bk(a:Option aAZ):Nat:=(a.getD ⟨0,0,none⟩).block
def fo(a:Option aAZ):Nat:=(a.getD ⟨0,0,none⟩).off
@[simp] theorem jW(b o:Nat)(s:Option Nat):bk (some ⟨b,o,s⟩)=b:=rfl
@[simp] theorem kM(b o:Nat)(s:Option Nat):fo (some ⟨b,o,s⟩)=o:=rfl
structure Row(w:aAX)(a:Option aAZ)(l:List aAY):Prop where
 head:l≠[]->a=some ⟨bk a,fo a,none⟩
 cell: ∀i,i<l.length->w.cell? ⟨bk a,fo a+i,none⟩=l[i]?
theorem Row.nil(w:aAX)(a:Option aAZ):Row w a []:=⟨fun h=>absurd rfl h,fun i h=>absurd h (iz i)⟩
theorem k8{p:aAZ}(h:w.cell? p=some v):p.block<w.heap.size:=by
 unfold aA4 at h;rcases iA p.block w.heap.size with h'|h'
 ·exact h'
 rw[MQ h']at h;cases h
theorem Row.lt(h:Row w a l)(hl:l≠[]):bk a<w.heap.size:=by
 have h0:0<l.length:=BS.2 hl;have:=h.cell 0 h0;rw[aV h0]at this;exact k8 (p:=⟨bk a,fo a+0,none⟩) this
theorem Row.below(h:Row w a l)(hb:aAW w.heap.size w w'):Row w' a l:=by
 refine⟨h.head,fun i hi=>?_⟩;have h1:=h.cell i hi;rw[hb.cell (k8 (h1.trans (aV hi)))];exact h1
theorem cell?_drewN(w:aAX)(n:Nat)(p:aAZ):(w.drewN n).cell? p=w.cell? p:=by
 simp
theorem below_drewN(w:aAX)(n:Nat):aAW w.heap.size w (w.drewN n):=⟨rfl,rfl,rfl,aX _,fun _ _=>rfl⟩
theorem Row.ak4{r:List aAY}(h:Row w a (l++r)):Row w a l:=by
 refine⟨fun hl=>h.head (by simp[hl]),fun i hi=>?_⟩;rw[h.cell i (by simp;omega),Ep hi]
theorem Row.take(h:Row w a l)(k:Nat):Row w a (l.take k):=
 Row.ak4 (r:=l.drop k) (by rw[qL];exact h)
def mK(a:Option aAZ)(stay:Prop)[Decidable stay](k:Nat):Option aAZ:=if stay then a else a.map (·.add k)
theorem Row.drop(h:Row w a l)(k:Nat)(stay:Prop)[Decidable stay](hs:stay->l.length<=k\/k=0):Row w (mK a stay k) (l.drop k):=by
 unfold mK;split
 ·rename_i hst
  rcases hs hst with h'|h'
  ·rw[iN h'];exact Row.nil _ _
  subst h';exact h
 by_cases hk:l.length<=k
 ·rw[iN hk];exact Row.nil _ _
 have aN:l≠[]:=by intro e;subst e;simp at hk
 have ha:=h.head aN;obtain⟨b,o,rfl⟩: ∃b o,a=some ⟨b,o,none⟩:=⟨_,_,ha⟩
 have h1:(⟨b,o,none⟩:aAZ).add k=⟨b,o+k,none⟩:=by
  by_cases h0:k=0<;>simp[h0,Addr.add]
 simp only[wC,h1];refine⟨fun _=>rfl,fun i hi=>?_⟩;simp only[jW,kM,tA];rw[uz];exact h.cell (k+i) (by simp at hi;omega)
theorem yZ{t e:Nat}(h:Row w a l)(h1:P.underlying t=some (.slice e))(h2:P.cellsOf e=m)(h3:(P.info? e).isSome=true)
 (hl:l.length=n*m) (hm:0<m) (k:Nat) (hk:k<n) (kk:IntKind):
 ∀w',(aA2 t (.slice a n c) (.int kk k)).run P w'= .ok (.pointer (some ⟨bk a,fo a+k*m,none⟩)) w':=by
 intro w';have hpos:0<l.length:=by rw[hl];exact Tw (by omega) hm
 have hs:=h.head (by intro e;subst e;simp at hpos);obtain⟨i,hi⟩:=Option.isSome_iff_exists.1 h3;have hsz:i.size=m:=by simpa[Program.cellsOf,hi]using h2
 have hkk:(0:Int)<=(k:Int)/\(k:Int)<(n:Int):=by omega
 rw[hs];have hk0:n≠0:=by omega
 by_cases h0:k=0<;>simp[aA2,asIntOf,wj h1,sizeOf,typeInfo,hi,hsz,hkk,Addr.add,hk,h0,hk0]
structure kg(P:Program)(t e:TypeId)(z:aAY)(size bytes:Nat):Prop where
 oa:P.underlying t=some (.slice e)
 info:(P.info? e).map (fun i=>(i.zero,i.size,i.bytes))=some (some z,size,bytes)
 zs:z.cells.size=size
 pos:0<size
theorem kg.cells(T:kg P t e z size bytes):P.cellsOf e=size:=by
 obtain⟨i,hi,hz,hs,hb⟩:=Cm T.info;simp[Program.cellsOf,hi,hs]
theorem kg.isSome(T:kg P t e z size bytes):(P.info? e).isSome=true:=by
 obtain⟨i,hi,_⟩:=Cm T.info;simp[hi]
abbrev ints(l:List Int):List aAY:=l.map (Value.int .i64)
structure pU(w:aAX)(a:Option aAZ)(l:List Int):Prop where
 row:Row w a (ints l)
 len:l.length<=9223372036854775807
theorem pU.nil(w:aAX)(a:Option aAZ):pU w a []:=⟨Row.nil _ _,by simp⟩
theorem pU.cell{l:List Int}(h:pU w a l)(k:Nat)(hk:k<l.length):w.cell? ⟨bk a,fo a+k,none⟩=some (.int .i64 l[k]):=by
 have:=h.row.cell k (by simpa using hk);simpa[hk]using this
theorem pU.below{l:List Int}(h:pU w a l)(hb:aAW w.heap.size w w'):pU w' a l:=⟨h.row.below hb,h.len⟩
theorem pU.drewN{l:List Int}(h:pU w a l)(n:Nat):pU (w.drewN n) a l:=h.below (below_drewN _ _)
theorem pU.idx{l:List Int}{t e:Nat}(h:pU w a l)(T:kg P t e z 1 bytes)(k:Nat)(hk:k<l.length):
 ∀c w',(aA2 t (.slice a l.length c) (.int .i64 k)).run P w'= .ok (.pointer (some ⟨bk a,fo a+k,none⟩)) w':=by
 intro c;have:=yZ (c:=c) (n:=l.length) (m:=1) h.row T.oa T.cells T.isSome (by simp) (by omega) k hk .i64;simpa using this
def au(w:aAX)(B E size:Nat)(a:Option aAZ)(n c:Nat)(xs:List aAY):Prop:=w.ownsRow B E size (.slice a n c) n xs
theorem au.nil(w:aAX)(B E size:Nat):au w B E size none 0 0 []:=World.ownsRow_nil _ _ _ _
theorem au.row(h:au w B E size a n c xs):Row w a xs:=by
 obtain⟨h1,h2⟩:=h;rcases h2 with⟨h2,rfl⟩|⟨g,cap,cur,hv,hg,hh,hn,hc,hs,hx⟩
 ·have:xs=[]:=lH (by omega)
  subst this;exact Row.nil _ _
 cases hv
 refine⟨fun _=>rfl,fun i hi=>?_⟩;simp only[jW,kM,jT];subst hx;simp only[aA4,hh];simp at hi⊢;rw[IJ (by omega)];simp
theorem au.lt(h:au w B E size a n c xs)(ha:a≠none):B<=bk a/\bk a<w.heap.size:=by
 obtain⟨h1,h2⟩:=h;rcases h2 with⟨h2,rfl⟩|⟨g,cap,cur,hv,hg,hh,hn,hc,hs,hx⟩
 ·cases h2;exact absurd rfl ha
 cases hv
 refine⟨hg,?_⟩;simp only[jW];rcases iA g w.heap.size with h'|h'
 ·exact h'
 rw[MQ h']at hh;cases hh
theorem au.cap(h:au w B E size a n c xs):n<=c/\c<=maxLen/\xs.length=n*size:=by
 obtain⟨h1,h2⟩:=h;rcases h2 with⟨h2,rfl⟩|⟨g,cap,cur,hv,hg,hh,hn,hc,hs,hx⟩
 ·cases h2;exact⟨aX _,dW _,h1⟩
 cases hv;exact⟨hn,hc,h1⟩
theorem au.below(h:au w B E size a n c xs)(hb:aAW w.heap.size w w'):au w' B E size a n c xs:=by
 obtain⟨h1,h2⟩:=h;refine⟨h1,?_⟩;rcases h2 with⟨h2,rfl⟩|⟨g,cap,cur,hv,hg,hh,r⟩
 ·exact .inl ⟨h2,rfl⟩
 refine .inr ⟨g,cap,cur,hv,hg,?_,r⟩
 rw[hb.block g ?_];exact hh;rcases iA g w.heap.size with h'|h'
 ·exact h'
 rw[MQ h']at hh;cases hh
theorem au.mono{B':Nat}(h:au w B E size a n c xs)(hB:B'<=B):au w B' E size a n c xs:=by
 obtain⟨h1,h2⟩:=h;refine⟨h1,?_⟩;rcases h2 with h2|⟨g,cap,cur,hv,hg,r⟩
 ·exact .inl h2
 exact .inr ⟨g,cap,cur,hv,by omega,r⟩
theorem au.kept(h:au w B E size a n c xs)(hg:w.grownBy w' r)(aN:a=none\/some (bk a)≠r):au w' B E size a n c xs:=by
 refine World.ownsRow.kept h hg ?_;cases a with
 |none=>exact .inl rfl
 |some a=> right;rcases aN with h|h;·cases h
           ·simpa[Value.ownBlock,bk]using h
section
set_option linter.unusedSectionVars false
variable {P:Program} {t e m bytes:Nat} {z:aAY} (T:kg P t e z m bytes) (a:Option aAZ) (n c:Nat)
include T
theorem Qx(k:Nat)(hk:k<=n)(kk:IntKind):
 ∀w',(aA1 t (.slice a n c) (some (.int kk k)) none none).run P w'= .ok (.slice (mK a (c=k) (k*m)) (n-k) (c-k)) w':=by
 intro w';have h1:=T.oa;obtain⟨i,hi,-, hsz, -⟩:=Cm T.info;have hkk:(0:Int)<=(k:Int)/\(k:Int)<=(n:Int):=by omega
 simp[aA1,Instr.slice,aA3,aA5,asIntOf,wj h1,sizeOf,typeInfo,hi,hsz,hkk,mK,hk]
theorem ajr(k:Nat)(hk:k<=c)(kk:IntKind):
 ∀w',(aA1 t (.slice a n c) none (some (.int kk k)) none).run P w'= .ok (.slice a k c) w':=by
 intro w';have h1:=T.oa;obtain⟨i,hi,-, hsz, -⟩:=Cm T.info;have hkk:(0:Int)<=(k:Int)/\(k:Int)<=(c:Int):=by omega
 cases a<;>simp[aA1,Instr.slice,aA3,aA5,asIntOf,wj h1,sizeOf,typeInfo,hi,hkk,Addr.add,hk]
end
def vO(a b:Option aAZ):Prop:=a=none\/b=none\/bk a≠bk b
theorem vO.symm{b:Option aAZ}(h:vO a b):vO b a:=by
 rcases h with h|h|h
 ·exact Av
 ·exact .inl h
 exact .inr (.inr (wu h))
structure Step(w w':aAX)(sa a':Option aAZ):Prop where
 grown:w.grownBy w' (sa.map (·.block))
 new:a'=sa\/w.heap.size<=bk a'
theorem au.step{r:Option aAZ}(h:au w B E size r n c xs)(hs:Step w w' sa a')(hap:vO r sa):au w' B E size r n c xs/\vO r a':=by
 refine⟨h.kept hs.grown ?_,?_⟩
 ·rcases hap with h1|h1|h1
  ·exact .inl h1
  ·subst h1;cases r<;>simp
  cases sa with
  |none=>cases r<;>simp
  |some x=>right;simpa[bk]using h1
 rcases hs.new with h1|h1
 ·subst h1;exact hap
 cases r with
 |none=>exact .inl rfl
 |some x=>have:=(h.lt (by simp)).2;exact .inr (.inr (by omega))
theorem Step.below(hs:Step w w' sa a')(hown:au w B E size sa n c xs)(hb:aAW B w0 w)(hB:B<=w.heap.size):aAW B w0 w':=by
 refine hb.grown hs.grown hB ?_;intro k hk;cases sa with
 |none=>cases hk
 | some x=>
   have:=(hown.lt (by simp)).1;simp only[wC,qM]at hk;subst hk;simpa[bk]using this
theorem Row.step(h:Row w a l)(hs:Step w w' sa a')(aN:l=[]\/sa=none\/bk a≠bk sa):Row w' a l:=by
 rcases aN with h1|aN
 ·subst h1;exact Row.nil _ _
 refine⟨h.head,fun i hi=>?_⟩
 have h1:=h.cell i hi;rw[aV hi]at h1⊢;refine hs.grown.cell h1 ?_;cases sa with
 |none=>simp
 |some x=> rcases aN with h2|h2
           ·cases h2
           simpa[bk]using h2
theorem aoB(h:w.grownBy w' none):w.grownBy w' r:=
 ⟨h.os,h.tape,h.output,h.size,fun k hk _=>h.block k hk (by simp)⟩
def mS(w w':aAX)(sa:Option aAZ)(c:Nat)(a':Option aAZ)(c':Nat):Prop:=
 (a'=sa/\c'=c/\w.grownBy w' (sa.map (·.block)))\/(w.heap.size<=bk a'/\w.grownBy w' none)
theorem mS.step(h:mS w w' sa c a' c'):Step w w' sa a':=by
 rcases h with⟨h1,h2,h3⟩|⟨h1,h2⟩
 ·exact⟨h3,.inl h1⟩
 exact⟨aoB h2,.inr h1⟩
theorem mS.below(hs:mS w w' sa c a' c')(hown:au w B E size sa n c xs)(hb:aAW B w0 w)(hB:B<=w.heap.size):aAW B w0 w':=hs.step.below hown hb hB
theorem au.front(h:au w B E size a (n+m) c (xs++ys))(hx:xs.length=n*size):au w B E size a n c xs:=by
 refine⟨hx,?_⟩;rcases h.2 with⟨h2,h0⟩|⟨g,cap,cur,hv,hg,hh,hn,hcm,hs,ht⟩
 ·simp only[EF]at h2
  obtain⟨rfl,h3,rfl⟩:=h2;obtain rfl:n=0:=by omega
  exact .inl ⟨rfl,rfl⟩
 cases hv
 refine .inr ⟨g,c,cur,rfl,hg,hh,by omega,hcm,hs,?_⟩;have h1:n*size<=(n+m)*size:=wz _ (by omega)
 have h2:(cur.toList.take ((n+m)*size)).take (n*size)=cur.toList.take (n*size):=by
  rw[Tq,wg h1]
 rw[<-h2,ht,<-hx,tE]
theorem au.mj(h:au w B E size sa n c xs)(hg:mS w w' sa c a' c')(h':au w' B E size a' (n+m) c' (xs++ys)):au w' B E size sa n c xs:=by
 rcases hg with⟨rfl,rfl,_⟩|⟨_,h2⟩
 ·exact h'.front h.cap.2.2
 exact h.kept h2 (by cases sa<;>simp)
theorem Step.refl(w:aAX)(a:Option aAZ):Step w w a a:=⟨Tb _ _,.inl rfl⟩
theorem ae2{v:aAX}(h1:u.grownBy v r)(h2:v.grownBy w r):u.grownBy w r:=
 ⟨h2.os.trans h1.os,h2.tape.trans h1.tape,h2.output.trans h1.output,dY h1.size h2.size,fun k hk aN=>(h2.block k (ou hk h1.size) aN).trans (h1.block k hk aN)⟩
theorem Step.trans{v:aAX}(h1:Step u v a a)(h2:Step v w a a'):Step u w a a':=
 ⟨ae2 h1.grown h2.grown,by rcases h2.new with h|h;exact .inl h;right;have:=h1.grown.size;omega⟩
theorem ajq(T:kg P t e z size bytes)(ty:TypeId)
    (hown:au w B e size sa n c xs)
 {xa:Option aAZ} {xc:Nat}  (hrow:Row w xa ys) (hl:ys.length=m*size) (h1c: ∀u∈ys,u.oneCell'=true)
 (hbytes:(n+m)*bytes<=140737488355328) (hm:n+m<=maxLen) (hbase:B<=w.heap.size):
 ∃a' c' w',(Builtin.append_ #[t,t] ty #[.slice sa n c,.slice xa m xc]).run P w= .ok (.slice a' (n+m) c') w'/\au w' B e size a' (n+m) c' (xs++ys)/\mS w w' sa c a' c':=by
 obtain⟨i,hi,hz,hsize,hby⟩:=Cm T.info;have hsz:=T.pos;have hblk:Value.ownBlock (.slice sa n c)=sa.map (·.block):=by cases sa<;>rfl
 by_cases hm0:m=0
 ·subst hm0
  have hys:ys=[]:=lH (by simpa using hl);subst hys;refine⟨sa,c,w,?_,by simpa using hown,.inl ⟨rfl,rfl,Tb _ _⟩⟩;have hcap:=hown.cap.1;cases xa<;>cases sa<;>simp[Builtin.append_,wj T.oa,sizeOf,typeInfo,hi,Builtin.lenOf,Builtin.firstCells,hcap,loadCells,loadCellsFrom,storeCells]
 have aN:ys≠[]:=by
  intro e0;have hp:0<m*size:=Tw (Nat.pos_of_ne_zero hm0) hsz;rw[<-hl,e0]at hp;exact absurd hp (Je 0)
 have hxa:=hrow.head aN
 have hnews: ∀j u,ys[j]? =some u->w.cell? ((⟨bk xa,fo xa,none⟩:aAZ).add j)=some u:=by
  intro j u hj
  have hjl:j<ys.length:=by
   rcases iA j ys.length with h'|h'
   ·exact h'
   rw[mg h']at hj;cases hj
  have:=hrow.cell j hjl;rw[hj]at this;rw[Addr.add_lit];exact this
 obtain⟨v',w',hr,hown',hgrow, -⟩:=run_append_own (P:=P) w B t ty e i z size bytes T.oa hi hz hsize hby T.zs hsz _ n xs hown ⟨bk xa,fo xa,none⟩ m xc ys hl hnews h1c hm hbytes hbase;rw[<-hxa]at hr
 obtain⟨a',c',rfl⟩: ∃a' c',v'= .slice a' (n+m) c':=by
  rcases hown'.2 with⟨h2,h0⟩|⟨g,cap,cur,hv,_⟩
  ·omega
  exact⟨_,_,hv⟩
 refine⟨a',c',w',hr,hown',?_⟩;have ao2:w.grownBy w' (sa.map (·.block)):=hblk▸hgrow;have hmx:n+m<=9223372036854775807:=by simpa[maxLen]using hm
 rcases hown.2 with⟨h2,h0⟩|⟨g,cap,cur,hv,AE,hg,hnc,hcm,hcs,apu⟩
 ·cases h2
  have hr2:=run_append_nil (P:=P) w t ty e i z T.oa hi hz ⟨bk xa,fo xa,none⟩ m xc ys (by rw[hsize];exact hl) hnews (by omega) (by omega) (by simp at hbytes;rw[hby];omega);rw[<-hxa,hr]at hr2;simp at hr2
  exact ad0
 cases hv
 by_cases hroom:n+m<=c
 ·obtain⟨w2,hr2,_⟩:=run_append_fits (P:=P) w B t ty e i size T.oa hi hsize g n c xs hown ⟨bk xa,fo xa,none⟩ m xc ys hl hnews h1c hroom
  rw[<-hxa,hr]at hr2;simp at hr2
  left;exact⟨hr2.1.1,hr2.1.2,ao2⟩
 have hr2:=run_append_grow (P:=P) w t ty e i z T.oa hi hz ⟨g,0,none⟩ n c xs (by rw[hown.1,hsize]) (World.ownsRow.cells hown (g:=g) rfl) ⟨bk xa,fo xa,none⟩ m xc ys (by rw[hsize];exact hl) hnews (by omega) (by omega) (growslice_fits (by omega) (by rw[hby];exact hbytes))
 rw[<-hxa,hr]at hr2;simp at hr2
 exact ad0
section
variable {P:Program} {w:aAX} {ops:Array Oper} {rest:List Oper} {o:Oper} {a:Act} {Q:Exit->Act->aAX->Prop} {t e:TypeId} {z:aAY} {size bytes:Nat} (T:kg P t e z size bytes)
include T
theorem Zk(s x:Operand)(hgd:o.guard=none)(ho:o.op= .call { callee:=.builtin .append,args:=#[s,x],argTypes:=#[t,t] })
 {B n c:Nat} {sa:Option aAZ} {xs:List aAY} (hs:a.eval s= .slice sa n c) (hown:au w B e size sa n c xs)
 {xa:Option aAZ} {m xc:Nat} {ys:List aAY} (hx:a.eval x= .slice xa m xc) (hrow:Row w xa ys) (hl:ys.length=m*size) (h1c: ∀u∈ys,u.oneCell'=true)
 {w0:aAX} (hB:aAW B w0 w) (sg:B<=w.heap.size) (hbytes:(n+m)*bytes<=140737488355328) (hm:n+m<=maxLen)
 (h: ∀a' c' w',au w' B e size a' (n+m) c' (xs++ys)->mS w w' sa c a' c'->aAW B w0 w'->wpList P ops Q rest (a.put o.dst (.slice a' (n+m) c')) w'):wpList P ops Q (o::rest) a w:=by
 refine wpList_plain hgd fun K hK=>?_
 obtain⟨a',c',w',hrun,h1,h2⟩:=ajq T o.type hown (xc:=xc) hrow hl h1c hbytes hm sg;unfold Oper.wp;simp[execOp,ho,resolve,invoke,builtin,hs,hx,hrun,Result.andThen];exact hK _ _ (h a' c' w' h1 h2 (h2.below hown hB sg))
theorem mR(s x:Operand)(hgd:o.guard=none)(ho:o.op= .call { callee:=.builtin .append,args:=#[s,x],argTypes:=#[t,t] })
 {B n c:Nat} {sa:Option aAZ} {xs:List aAY} (hs:a.eval s= .slice sa n c) (hown:au w B e size sa n c xs)
 {us:Array aAY} (hx:a.eval x= .slice (some ⟨w.heap.size,0,none⟩) 1 1) (hl:us.size=size) (h1c: ∀u∈us.toList,u.oneCell'=true)
 {w0:aAX} (hB:aAW B w0 w) (sg:B<=w.heap.size) (hbytes:(n+1)*bytes<=140737488355328) (hm:n+1<=maxLen)
 (h: ∀a' c' w',au w' B e size a' (n+1) c' (xs++us.toList)->mS w w' sa c a' c'->aAW B w0 w'->wpList P ops Q rest (a.put o.dst (.slice a' (n+1) c')) w'):wpList P ops Q (o::rest) a (w.alloc (.cells us e)):=by
 have hal:aAW w.heap.size w (w.alloc (.cells us e)):=(bS _ _).alloc (aX _) _
 have hrow:Row (w.alloc (.cells us e)) (some ⟨w.heap.size,0,none⟩) us.toList:=by
  refine⟨fun _=>rfl,fun i hi=>?_⟩;simp at hi;have hh:=lJ w (.cells us e);simp only[aA4,jW,kM,hh];simp
 refine Zk T s x hgd ho hs (hown.below hal) hx hrow (by simpa using hl) h1c (hB.alloc sg _) (by simp;omega) hbytes hm ?_;intro a' c' w' h1 h2 h3;refine h a' c' w' h1 ?_ h3
 have key: ∀{r},(w.alloc (.cells us e)).grownBy w' r->w.grownBy w' r:=by
  intro r hg;refine⟨hg.os,hg.tape,hg.output,dY hal.size hg.size,fun k hk aN=>?_⟩;rw[hg.block k (by simp;omega) aN];exact hal.block k hk
 rcases h2 with⟨h4,h5,h6⟩|⟨h4,h5⟩
 ·exact .inl ⟨h4,h5,key h6⟩
 exact .inr ⟨by simp at h4;omega,key h5⟩
theorem Hv(l c:Operand)(hgd:o.guard=none)(ho:o.op=Op.makeSlice t l c)(N:Nat){L C:Int}(hl:a.eval l= .int .i64 L)(hc:a.eval c= .int .i64 C)(hL:L=(N:Int))(hC:C=(N:Int))(hbytes:bytes*N<=281474976710656)(hm:N<=maxLen)
 {B:Nat} {w0:aAX} (hB:aAW B w0 w) (sg:B<=w.heap.size)
 (h: ∀a' w',au w' B e size a' N N (madeCells z.cells (N*size)).toList->Step w w' none a'->aAW B w0 w'->wpList P ops Q rest (a.put o.dst (.slice a' N N)) w'):wpList P ops Q (o::rest) a w:=by
 obtain⟨i,hi,hz,hsize,hby⟩:=Cm T.info;refine wpList_make_full w hgd l c t ho B e i z size T.oa hi hz hsize .i64 .i64 L C N hl hc hL hC (by rw[hby];exact hbytes) hm sg ?_;intro w' h1 h2;exact h _ w' h1 ⟨h2,.inr (aX _)⟩ (hB.grown h2 sg (by intro k hk;cases hk))
end
abbrev fT(w:aAX)(B:Nat)(a:Option aAZ)(n c:Nat)(l:List Int):Prop:=au w B 3 1 a n c (ints l)
theorem au.ints{l:List Int}(h:au w B E 1 a n c (ints l)):pU w a l/\n=l.length:=by
 have h1:=h.cap;have h2:l.length=n:=by simpa using h1.2.2
 exact⟨⟨h.row,by have:=h1.1;have:=h1.2.1;unfold maxLen at *; omega⟩,h2.symm⟩
theorem agM(n:Nat):(madeCells #[Value.int .i64 0] n).toList=ints (List.replicate n 0):=
 (SV _ n).trans (by simp[ints])
theorem au.set(h:au w B E size a n c xs)(ha:a≠none)(j:Nat)(u:aAY):
 au (w.setCell ⟨bk a,fo a+j,none⟩ u) B E size a n c (xs.set j u)/\Step w (w.setCell ⟨bk a,fo a+j,none⟩ u) a a:=by
 have h':=h;rcases h.2 with⟨h2,h0⟩|⟨g,cap,cur,hv,_⟩
 ·cases h2;exact absurd rfl ha
 cases hv
 have:=World.ownsRow.stored h' j u;simp only[jW,kM,jT];exact⟨this.1,⟨by simpa using this.2,.inl rfl⟩⟩
theorem au.frozen(h:au w B E size a n c xs)(ha:a≠none)(j:Nat):w.frozen? ⟨bk a,fo a+j,none⟩=false:=by
 have h':=h;rcases h.2 with⟨h2,h0⟩|⟨g,cap,cur,hv,_⟩
 ·cases h2;exact absurd rfl ha
 cases hv
 simp only[jW,kM,jT];exact World.ownsRow.frozenAt h' j
theorem au.some(h:au w B E size a n c xs)(hn:0<n):a≠none:=by
 rcases h.2 with⟨h2,h0⟩|⟨g,cap,cur,hv,_⟩
 ·omega
 cases hv;simp
theorem ajt(ts:Array TypeId)(ty:TypeId)(k:IntKind)(x y m:Int)(h:m=if y<x then y else x): ∀w,(Builtin.min_ ts ty #[.int k x,.int k y]).run P w= .ok (.int k m) w:=by
 intro w;subst h;simp[Builtin.min_,Builtin.min2]
theorem ajs(ts:Array TypeId)(ty:TypeId)(k:IntKind)(x y m:Int)(h:m=if y>x then y else x): ∀w,(Builtin.max_ ts ty #[.int k x,.int k y]).run P w= .ok (.int k m) w:=by
 intro w;subst h;simp[Builtin.max_,Builtin.max2]
theorem nA{k:IntKind}{a b:Int}(h:a=b):Ending.returned (Value.int k a)= .returned (.int k b):=by rw[h]
theorem eC{a b:Bool}(h:a=b):Ending.returned (Value.bool a)= .returned (.bool b):=by rw[h]
def bg(w:aAX)(v:aAY)(e:Ending)(w':aAX):Prop:=e= .returned v/\aAW w.heap.size w w'
def QW(w w':aAX):Prop:= ∃n,w'=w.drewN n
theorem QW.refl(w:aAX):QW w w:=⟨0,rfl⟩
theorem QW.d(h:QW w w')(n:Nat):QW w (w'.drewN n):=by
 obtain⟨m,rfl⟩:=h;exact⟨m+n,by simp[World.drewN,uz]⟩
theorem QW.trans{w'':aAX}(h:QW w w')(h':QW w' w''):QW w w'':=by
 obtain⟨n,rfl⟩:=h';exact h.d n
theorem QW.below(h:QW w w'):aAW w.heap.size w w':=by
 obtain⟨n,rfl⟩:=h;exact below_drewN w n
theorem aI{a b c:aAX}(h:aAW a.heap.size a b)(h':aAW b.heap.size b c):aAW a.heap.size a c:=h.trans (h'.mono h.size)
def zU(w:aAX)(v:aAY)(e:Ending)(w':aAX):Prop:=e= .returned v/\QW w w'
theorem aK{R K:Ending->World->Prop}(h:Calls P f args w R)(k:K (.returned v) w)(hr: ∀e w',R e w'->e= .returned v/\w'=w:=by rintro _ _ ⟨rfl,rfl⟩;exact⟨rfl,rfl⟩):Calls P f args w K:=h.mono fun e w' h=>by obtain⟨h1,h2⟩:=hr e w' h;subst h1;subst h2;exact k
theorem aF{α:Type _}(a:α): ∃x,a=x:=⟨a,rfl⟩
theorem aC{p:Prop}(h:p:=by simp;omega):p:=h
theorem bM{p:Prop}(h:p:=by kernel_rfl):p:=h
theorem dx{p:Prop}(h:p:=by unfold maxLen;omega):p:=h
theorem sB{p:Prop}(h:p:=by simp only[cy,je];omega):p:=h
theorem kP{p:Prop}(h:p:=by intro u hu;simp at hu;subst hu;rfl):p:=h
theorem vk{p:Prop}(h:p:=by simp<;>omega):p:=h
theorem dD{p:Prop}(h:p:=by decide+kernel):p:=h
theorem nS{p:Prop}(h:p:=by first|rfl|trivial):p:=h
theorem bE{q p:Prop}(h:q)(g:q->p:=by intro tR;omega):p:=g h
theorem aqT{q p:Prop}(h:q)(g:q->p:=by intro tR;simp at tR;omega):p:=g h
theorem aQ{R K:Ending->World->Prop}(h:Calls P f args w R)(k: ∀w',Below w.heap.size w w'->K (.returned v) w')(hr: ∀e w',R e w'->e= .returned v/\Below w.heap.size w w':=by rintro _ _ ⟨rfl,tR⟩;exact⟨rfl,tR⟩):Calls P f args w K:=h.mono fun e w' hR=>by obtain⟨rfl,hb⟩:=hr e w' hR;exact k w' hb
theorem ah{p:Prop}(h:p:=by omega):p:=h
theorem aq{p:Prop}(h:p:=by simp):p:=h
theorem ay{p:Prop}(h:p:=by decide):p:=h
theorem aS{q p:Prop}(h:q)(g:q->p:=by intro tR;simpa using tR):p:=g h
theorem _root_.Go.RowKit.Hid.oo{p:Prop}(h:Hid p):p:=h
theorem oJ(h:QW w w':=by repeat(first|exact QW.refl _|refine QW.d ?_ _)):QW w w':=h
theorem Dn(h:Below n w w':=by repeat(first|with_reducible assumption|with_reducible exact bS _ _|with_reducible refine qQ ?_ (aX _) _|with_reducible refine qQ ?_ (by simp) _|with_reducible refine Jg ?_ (aX _) _|with_reducible refine Jg ?_ (by simp) _|with_reducible refine Jg ?_ (by simp<;>omega) _|with_reducible refine Below.drew ?_)):Below n w w':=h
theorem yP(h:Below n w w1)(g:Below n w w1->Below n w w2:=by intro tR;(repeat(first|with_reducible refine qQ ?_ (by simp) _|with_reducible refine qQ ?_ (by simp<;>omega) _));exact tR):Below n w w2:=g h
theorem Pr(h:Below n w w1)(g:Below n w w1->Below n w w2:=by intro tR;(repeat(first|with_reducible refine qQ ?_ (by simp<;>omega) _|with_reducible refine Jg ?_ (by simp<;>omega) _));exact tR):Below n w w2:=g h
theorem pQ{ops:Array Oper}{rest:List Oper}{o:Oper}{a:Act}{Q:Exit->Act->aAX->Prop}(T:kg P t e z size bytes)(s x:Operand)(hgd:o.guard=none)(ho:o.op= .call { callee:=.builtin .append,args:=#[s,x],argTypes:=#[t,t] })
 {N:Nat}   (hN:w.heap.size=N) (hs:a.eval s= .slice sa n c) (hown:au w B e size sa n c xs)
 {us:Array aAY} (hx:a.eval x= .slice (some ⟨N,0,none⟩) 1 1) (hl:us.size=size) (h1c: ∀u∈us.toList,u.oneCell'=true)
  (hB:aAW B w0 w) (sg:B<=w.heap.size) (hbytes:(n+1)*bytes<=140737488355328) (hm:n+1<=maxLen)
 (h: ∀a' c' w',au w' B e size a' (n+1) c' (xs++us.toList)->mS w w' sa c a' c'->aAW B w0 w'->wpList P ops Q rest (a.put o.dst (.slice a' (n+1) c')) w'):wpList P ops Q (o::rest) a (w.alloc (.cells us e)):=by
 subst hN;exact mR T s x hgd ho hs hown hx hl h1c hB sg hbytes hm h
def sy(xs:List aAY)(j:Nat)(vs:List aAY):List aAY:=xs.take j++vs++xs.drop (j+vs.length)
theorem aqS(xs:List aAY)(j:Nat):sy xs j []=xs:=by simp[sy]
theorem aqR(xs:List aAY)(j:Nat)(v:aAY)(vs:List aAY)(h:j<xs.length):sy xs j (v::vs)=sy (xs.set j v) (j+1) vs:=by
 have h1:xs.set j v=(xs.take j++[v])++xs.drop (j+1):=by rw[aao,ak h];simp
 have hl:(xs.take j++[v]).length=j+1:=aC;unfold sy;rw[h1,Tn hl,List.drop_append,Et (by omega:(xs.take j++[v]).length<=j+1+vs.length),eE,gC,hl];simp only[dA,cY,eE,cy]
 congr 3
 congr 1
 omega
theorem au.sets{B E size n c:Nat}{a:Option aAZ}(ha:a≠none): ∀(vs:List aAY) (j:Nat) (w:aAX) (xs:List aAY),au w B E size a n c xs->j+vs.length<=xs.length->
 au (w.setCells (bk a) (fo a+j) vs) B E size a n c (sy xs j vs)/\Step w (w.setCells (bk a) (fo a+j) vs) a a
 |[],j,w,xs,h,_=>by rw[aqS];exact⟨h,⟨Tb _ _,.inl rfl⟩⟩
 | v::vs,j,w,xs,h,hj=>by
   simp only[cy]at hj;obtain⟨h1,s1⟩:=au.set h ha j v;obtain⟨h2,s2⟩:=au.sets ha vs (j+1) (w.setCell ⟨bk a,fo a+j,none⟩ v) (xs.set j v) h1 aC;rw[aqR _ _ _ _ ah];refine⟨h2,⟨ae2 s1.grown s2.grown,.inl rfl⟩⟩
theorem azU(z:aAY)(n:Nat):(aA0 z.cells n).toList.length=n*z.cells.size:=by simp[aA0]
theorem axa(T:kg P t e z size bytes)(hv: ∀w,(zeroValue e).run P w= .ok z w)(h1c: ∀u∈z.cells.toList,u.oneCell'=true)
    (h:au w B e size a n c xs) (k:Nat) (hk:k<n):
 ∃w',(∀ty,(Builtin.clear_ #[t] ty #[.slice (mK a (c=k) (k*size)) (n-k) (c-k)]).run P w= .ok (.tuple #[]) w')/\au w' B e size a n c (sy xs (k*size) (aA0 z.cells (n-k)).toList)/\Step w w' a a:=by
 have hcap:=h.cap;have ha:=au.some h ah
 have aN:xs≠[]:=by
  intro e0;have hp:0<n*size:=Tw ah T.pos;rw[e0]at hcap;simp at hcap;omega
 have FO:=h.row.head aN;have fE: ¬c=k:=ah
 have hcut:mK a (c=k) (k*size)=some ⟨bk a,fo a+k*size,none⟩:=by
  unfold mK;rw[ai fE]
  conv=>lhs;rw[FO]
  by_cases h0:k*size=0
  ·simp[h0,Addr.add]
  simp[h0,Addr.add]
 rw[hcut];have hzl:=azU z (n-k);rw[T.zs]at hzl;have hlen:k*size+(n-k)*size=xs.length:=by rw[hcap.2.2,<-Nat.add_mul];congr 1;omega
 obtain⟨h2,s2⟩:=au.sets ha (aA0 z.cells (n-k)).toList (k*size) w xs h (by rw[hzl];omega);refine⟨_,fun ty=>?_,h2,s2⟩
 have hst:=run_storeCells_cells (P:=P) (bk a) (fo a+k*size) (aA0 z.cells (n-k)).toList 0 w
  (by
   intro j hj;rw[hzl]at hj;have hjl:k*size+j<xs.length:=ah;have:=h.row.cell (k*size+j) hjl;rw[gK,uz,this,aV hjl];rfl)
  (by intro j hj;rw[gK,uz];exact au.frozen h ha _)
  (by
   intro v hv';simp[aA0]at hv';obtain⟨i,hi,rfl⟩:=hv';have hzs:=T.zs;have hpos:=T.pos;have hm:i%z.cells.size<z.cells.size:=ES _ ah;rw[Ci z.cells _ hm];exact h1c _ aq)
 obtain⟨m,hm⟩: ∃m,n-k=m+1:=⟨n-k-1,ah⟩;rw[hm]at hst⊢;simp only[gK]at hst;simp[Builtin.clear_,wj T.oa,hv,hst]
end Go.Proofs.YtkbbgjloifmmbaaGreatDoor

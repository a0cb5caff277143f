/- What ReadBlanksP leans on, part 1. -/
import Derived.WalkKit
import Derived.WalkSpells
import Derived.WalkLawsBesides
import Derived.Deep.QuietTactic
import Derived.BigQuiet
import Derived.Laws.IdiomCopy
set_option linter.unusedVariables false
open _root_.Go.Builtin renaming zeroCells->am8
open _root_.List renaming getElem?_eq_getElem->am9,eq_nil_of_length_eq_zero->ane,drop_eq_nil_of_le->anj,length_cons->ans,nil_append->anu
open _root_.Array renaming getElem?_eq_none->ana
open _root_.Nat renaming le_refl->anb,add_assoc->ang,lt_or_ge->ani,zero_add->ann,add_zero->ano
open _root_.Go.RowKit.Below renaming setCell->anc,alloc->ank
open _root_.Go.World.grownBy renaming refl->anf
open _root_.Go.Instr renaming sliceAt->anh,indexAt->anm,sliceBounds->anp,sliceBound->anr
open _root_.Go.Addr renaming add->anl
open _root_.Go.World renaming cell?->anq
open _root_.Option renaming map_some->ant
namespace Go.Proofs.YtkbbgjloifmmbaaGreatDoor
open Go.RowKit
variable{l:List Int}{xs ys:List Value}{B E bytes c c' m n size:Nat}{a a' sa:Option Addr}{r:Option Nat}{P:Program}{e t:TypeId}{v z:Value}{u w w' w0 w1 w2:World}
theorem hid{p:Prop}(h:p):Hid p:=h
def bk(a:Option Addr):Nat:=(a.getD ⟨0,0,none⟩).block
def fo(a:Option Addr):Nat:=(a.getD ⟨0,0,none⟩).off
@[simp] theorem gv(b o:Nat)(s:Option Nat):bk (some ⟨b,o,s⟩)=b:=rfl
@[simp] theorem gX(b o:Nat)(s:Option Nat):fo (some ⟨b,o,s⟩)=o:=rfl
structure Row(w:World)(a:Option Addr)(l:List Value):Prop where
 head:l≠[]->a=some ⟨bk a,fo a,none⟩
 cell: ∀i,i<l.length->w.cell? ⟨bk a,fo a+i,none⟩=l[i]?
theorem Row.nil(w:World)(a:Option Addr):Row w a []:=⟨fun h=>absurd rfl h,fun i h=>absurd h (Nat.not_lt_zero i)⟩
theorem sP{p:Addr}(h:w.cell? p=some v):p.block<w.heap.size:=by
 unfold anq at h;rcases ani p.block w.heap.size with h'|h'
 ·exact h'
 rw[ana h']at h;cases h
theorem Row.lt{l:List Value}(h:Row w a l)(hl:l≠[]):bk a<w.heap.size:=by
 have h0:0<l.length:=List.length_pos_iff.2 hl;have:=h.cell 0 h0;rw[am9 h0]at this;exact sP (p:=⟨bk a,fo a+0,none⟩) this
theorem Row.below{l:List Value}(h:Row w a l)(hb:Below w.heap.size w w'):Row w' a l:=by
 refine⟨h.head,fun i hi=>?_⟩;have h1:=h.cell i hi;rw[hb.cell (sP (h1.trans (am9 hi)))];exact h1
theorem cell?_drewN(w:World)(n:Nat)(p:Addr):(w.drewN n).cell? p=w.cell? p:=by
 simp
theorem below_drewN(w:World)(n:Nat):Below w.heap.size w (w.drewN n):=⟨rfl,rfl,rfl,anb _,fun _ _=>rfl⟩
theorem Row.QK{l r:List Value}(h:Row w a (l++r)):Row w a l:=by
 refine⟨fun hl=>h.head (by simp[hl]),fun i hi=>?_⟩;rw[h.cell i (by simp;omega),List.getElem?_append_left hi]
theorem Row.take{l:List Value}(h:Row w a l)(k:Nat):Row w a (l.take k):=
 Row.QK (r:=l.drop k) (by rw[List.take_append_drop];exact h)
def j8(a:Option Addr)(stay:Prop)[Decidable stay](k:Nat):Option Addr:=if stay then a else a.map (·.add k)
theorem Row.drop{l:List Value}(h:Row w a l)(k:Nat)(stay:Prop)[Decidable stay](hs:stay->l.length<=k\/k=0):Row w (j8 a stay k) (l.drop k):=by
 unfold j8;split
 ·rename_i hst
  rcases hs hst with h'|h'
  ·rw[anj h'];exact Row.nil _ _
  subst h';exact h
 by_cases hk:l.length<=k
 ·rw[anj hk];exact Row.nil _ _
 have hne:l≠[]:=by intro e;subst e;simp at hk
 have ha:=h.head hne;obtain⟨b,o,rfl⟩: ∃b o,a=some ⟨b,o,none⟩:=⟨_,_,ha⟩
 have h1:(⟨b,o,none⟩:Addr).add k=⟨b,o+k,none⟩:=by
  by_cases h0:k=0<;>simp[h0,anl]
 simp only[ant,h1];refine⟨fun _=>rfl,fun i hi=>?_⟩;simp only[gv,gX,List.getElem?_drop];rw[ang];exact h.cell (k+i) (by simp at hi;omega)
theorem yZ{l:List Value}{t e:Nat}(h:Row w a l)(h1:P.underlying t=some (.slice e))(h2:P.cellsOf e=m)(h3:(P.info? e).isSome=true)
 (hl:l.length=n*m) (hm:0<m) (k:Nat) (hk:k<n) (kk:IntKind):
 ∀w',(anm t (.slice a n c) (.int kk k)).run P w'= .ok (.pointer (some ⟨bk a,fo a+k*m,none⟩)) w':=by
 intro w';have hpos:0<l.length:=by rw[hl];exact Nat.mul_pos (by omega) hm
 have hs:=h.head (by intro e;subst e;simp at hpos);obtain⟨i,hi⟩:=Option.isSome_iff_exists.1 h3;have hsz:i.size=m:=by simpa[Program.cellsOf,hi]using h2
 have hkk:(0:Int)<=(k:Int)/\(k:Int)<(n:Int):=by omega
 rw[hs];have hk0:n≠0:=by omega
 by_cases h0:k=0<;>simp[anm,asIntOf,run_underlying h1,sizeOf,typeInfo,hi,hsz,hkk,anl,hk,h0,hk0]
structure gQ(P:Program)(t e:TypeId)(z:Value)(size bytes:Nat):Prop where
 nc:P.underlying t=some (.slice e)
 info:(P.info? e).map (fun i=>(i.zero,i.size,i.bytes))=some (some z,size,bytes)
 zs:z.cells.size=size
 pos:0<size
theorem gQ.cells(T:gQ P t e z size bytes):P.cellsOf e=size:=by
 obtain⟨i,hi,hz,hs,hb⟩:=info_parts T.info;simp[Program.cellsOf,hi,hs]
theorem gQ.isSome(T:gQ P t e z size bytes):(P.info? e).isSome=true:=by
 obtain⟨i,hi,_⟩:=info_parts T.info;simp[hi]
abbrev ints(l:List Int):List Value:=l.map (Value.int .i64)
structure gU(w:World)(a:Option Addr)(l:List Int):Prop where
 row:Row w a (ints l)
 len:l.length<=9223372036854775807
theorem gU.nil(w:World)(a:Option Addr):gU w a []:=⟨Row.nil _ _,by simp⟩
theorem gU.cell(h:gU w a l)(k:Nat)(hk:k<l.length):w.cell? ⟨bk a,fo a+k,none⟩=some (.int .i64 l[k]):=by
 have:=h.row.cell k (by simpa using hk);simpa[hk]using this
theorem gU.below(h:gU w a l)(hb:Below w.heap.size w w'):gU w' a l:=⟨h.row.below hb,h.len⟩
theorem gU.drewN(h:gU w a l)(n:Nat):gU (w.drewN n) a l:=h.below (below_drewN _ _)
theorem gU.idx{t e:Nat}(h:gU w a l)(T:gQ P t e z 1 bytes)(k:Nat)(hk:k<l.length):
 ∀c w',(anm t (.slice a l.length c) (.int .i64 k)).run P w'= .ok (.pointer (some ⟨bk a,fo a+k,none⟩)) w':=by
 intro c;have:=yZ (c:=c) (n:=l.length) (m:=1) h.row T.nc T.cells T.isSome (by simp) (by omega) k hk .i64;simpa using this
theorem gU.drop(h:gU w a l)(k:Nat)(stay:Prop)[Decidable stay](hs:stay->l.length<=k\/k=0):gU w (j8 a stay k) (l.drop k):=by
 refine⟨?_,by have:=h.len;simp;omega⟩;have:=h.row.drop k stay (by simpa using hs);simpa[ints,List.map_drop]using this
theorem gU.take(h:gU w a l)(k:Nat):gU w a (l.take k):=by
 refine⟨?_,by have:=h.len;simp;omega⟩;have:=h.row.take k;simpa[ints,List.map_take]using this
theorem gU.QK{r:List Int}(h:gU w a (l++r)):gU w a l:=by
 have:=h.take l.length;simpa using this
def Own(w:World)(B E size:Nat)(a:Option Addr)(n c:Nat)(xs:List Value):Prop:=w.ownsRow B E size (.slice a n c) n xs
theorem Own.nil(w:World)(B E size:Nat):Own w B E size none 0 0 []:=World.ownsRow_nil _ _ _ _
theorem Own.row(h:Own w B E size a n c xs):Row w a xs:=by
 obtain⟨h1,h2⟩:=h;rcases h2 with⟨h2,rfl⟩|⟨g,cap,cur,hv,hg,hh,hn,hc,hs,hx⟩
 ·have:xs=[]:=ane (by omega)
  subst this;exact Row.nil _ _
 cases hv
 refine⟨fun _=>rfl,fun i hi=>?_⟩;simp only[gv,gX,ann];subst hx;simp only[anq,hh];simp at hi⊢;rw[List.getElem?_take_of_lt (by omega)];simp
theorem Own.lt(h:Own w B E size a n c xs)(ha:a≠none):B<=bk a/\bk a<w.heap.size:=by
 obtain⟨h1,h2⟩:=h;rcases h2 with⟨h2,rfl⟩|⟨g,cap,cur,hv,hg,hh,hn,hc,hs,hx⟩
 ·cases h2;exact absurd rfl ha
 cases hv
 refine⟨hg,?_⟩;simp only[gv];rcases ani g w.heap.size with h'|h'
 ·exact h'
 rw[ana h']at hh;cases hh
theorem Own.cap(h:Own w B E size a n c xs):n<=c/\c<=maxLen/\xs.length=n*size:=by
 obtain⟨h1,h2⟩:=h;rcases h2 with⟨h2,rfl⟩|⟨g,cap,cur,hv,hg,hh,hn,hc,hs,hx⟩
 ·cases h2;exact⟨anb _,Nat.zero_le _,h1⟩
 cases hv;exact⟨hn,hc,h1⟩
theorem Own.below(h:Own w B E size a n c xs)(hb:Below w.heap.size w w'):Own w' B E size a n c xs:=by
 obtain⟨h1,h2⟩:=h;refine⟨h1,?_⟩;rcases h2 with⟨h2,rfl⟩|⟨g,cap,cur,hv,hg,hh,r⟩
 ·exact .inl ⟨h2,rfl⟩
 refine .inr ⟨g,cap,cur,hv,hg,?_,r⟩
 rw[hb.block g ?_];exact hh;rcases ani g w.heap.size with h'|h'
 ·exact h'
 rw[ana h']at hh;cases hh
theorem Own.mono{B':Nat}(h:Own w B E size a n c xs)(hB:B'<=B):Own w B' E size a n c xs:=by
 obtain⟨h1,h2⟩:=h;refine⟨h1,?_⟩;rcases h2 with h2|⟨g,cap,cur,hv,hg,r⟩
 ·exact .inl h2
 exact .inr ⟨g,cap,cur,hv,by omega,r⟩
theorem Own.kept(h:Own w B E size a n c xs)(hg:w.grownBy w' r)(hne:a=none\/some (bk a)≠r):Own w' B E size a n c xs:=by
 refine World.ownsRow.kept h hg ?_;cases a with
 |none=>exact .inl rfl
 |some a=> right;rcases hne with h|h;·cases h
           ·simpa[Value.ownBlock,bk]using h
section
set_option linter.unusedSectionVars false
variable {P:Program} {t e m bytes:Nat} {z:Value} (T:gQ P t e z m bytes) (a:Option Addr) (n c:Nat)
include T
theorem GU(k:Nat)(hk:k<=n)(kk:IntKind):
 ∀w',(anh t (.slice a n c) (some (.int kk k)) none none).run P w'= .ok (.slice (j8 a (c=k) (k*m)) (n-k) (c-k)) w':=by
 intro w';have h1:=T.nc;obtain⟨i,hi,-, hsz, -⟩:=info_parts T.info;have hkk:(0:Int)<=(k:Int)/\(k:Int)<=(n:Int):=by omega
 simp[anh,Instr.slice,anp,anr,asIntOf,run_underlying h1,sizeOf,typeInfo,hi,hsz,hkk,j8,hk]
theorem Y9(k:Nat)(hk:k<=c)(kk:IntKind):
 ∀w',(anh t (.slice a n c) none (some (.int kk k)) none).run P w'= .ok (.slice a k c) w':=by
 intro w';have h1:=T.nc;obtain⟨i,hi,-, hsz, -⟩:=info_parts T.info;have hkk:(0:Int)<=(k:Int)/\(k:Int)<=(c:Int):=by omega
 cases a<;>simp[anh,Instr.slice,anp,anr,asIntOf,run_underlying h1,sizeOf,typeInfo,hi,hkk,anl,hk]
end
def pP(a b:Option Addr):Prop:=a=none\/b=none\/bk a≠bk b
theorem pP.symm{b:Option Addr}(h:pP a b):pP b a:=by
 rcases h with h|h|h
 ·exact .inr (.inl h)
 ·exact .inl h
 exact .inr (.inr (Ne.symm h))
structure Step(w w':World)(sa a':Option Addr):Prop where
 grown:w.grownBy w' (sa.map (·.block))
 new:a'=sa\/w.heap.size<=bk a'
theorem Own.step{r:Option Addr}(h:Own w B E size r n c xs)(hs:Step w w' sa a')(hap:pP r sa):Own w' B E size r n c xs/\pP r a':=by
 refine⟨h.kept hs.grown ?_,?_⟩
 ·rcases hap with h1|h1|h1
  ·exact .inl h1
  ·subst h1;cases r<;>simp
  cases sa with
  |none=>cases r<;>simp
  |some x=>right;simpa[bk]using h1
 rcases hs.new with h1|h1
 ·subst h1;exact hap
 cases r with
 |none=>exact .inl rfl
 |some x=>have:=(h.lt (by simp)).2;exact .inr (.inr (by omega))
theorem Step.below(hs:Step w w' sa a')(hown:Own w B E size sa n c xs)(hb:Below B w0 w)(hB:B<=w.heap.size):Below B w0 w':=by
 refine hb.grown hs.grown hB ?_;intro k hk;cases sa with
 |none=>cases hk
 | some x=>
   have:=(hown.lt (by simp)).1;simp only[ant,Option.some.injEq]at hk;subst hk;simpa[bk]using this
theorem Row.step{l:List Value}(h:Row w a l)(hs:Step w w' sa a')(hne:l=[]\/sa=none\/bk a≠bk sa):Row w' a l:=by
 rcases hne with h1|hne
 ·subst h1;exact Row.nil _ _
 refine⟨h.head,fun i hi=>?_⟩
 have h1:=h.cell i hi;rw[am9 hi]at h1⊢;refine hs.grown.cell h1 ?_;cases sa with
 |none=>simp
 |some x=> rcases hne with h2|h2
           ·cases h2
           simpa[bk]using h2
theorem adg(h:w.grownBy w' none):w.grownBy w' r:=
 ⟨h.os,h.tape,h.output,h.size,fun k hk _=>h.block k hk (by simp)⟩
def jF(w w':World)(sa:Option Addr)(c:Nat)(a':Option Addr)(c':Nat):Prop:=
 (a'=sa/\c'=c/\w.grownBy w' (sa.map (·.block)))\/(w.heap.size<=bk a'/\w.grownBy w' none)
theorem jF.step(h:jF w w' sa c a' c'):Step w w' sa a':=by
 rcases h with⟨h1,h2,h3⟩|⟨h1,h2⟩
 ·exact⟨h3,.inl h1⟩
 exact⟨adg h2,.inr h1⟩
theorem jF.below(hs:jF w w' sa c a' c')(hown:Own w B E size sa n c xs)(hb:Below B w0 w)(hB:B<=w.heap.size):Below B w0 w':=hs.step.below hown hb hB
theorem Own.front(h:Own w B E size a (n+m) c (xs++ys))(hx:xs.length=n*size):Own w B E size a n c xs:=by
 refine⟨hx,?_⟩;rcases h.2 with⟨h2,h0⟩|⟨g,cap,cur,hv,hg,hh,hn,hcm,hs,ht⟩
 ·simp only[Value.slice.injEq]at h2
  obtain⟨rfl,h3,rfl⟩:=h2;obtain rfl:n=0:=by omega
  exact .inl ⟨rfl,rfl⟩
 cases hv
 refine .inr ⟨g,c,cur,rfl,hg,hh,by omega,hcm,hs,?_⟩;have h1:n*size<=(n+m)*size:=Nat.mul_le_mul_right _ (by omega)
 have h2:(cur.toList.take ((n+m)*size)).take (n*size)=cur.toList.take (n*size):=by
  rw[List.take_take,Nat.min_eq_left h1]
 rw[<-h2,ht,<-hx,List.take_left]
theorem Own.gb(h:Own w B E size sa n c xs)(hg:jF w w' sa c a' c')(h':Own w' B E size a' (n+m) c' (xs++ys)):Own w' B E size sa n c xs:=by
 rcases hg with⟨rfl,rfl,_⟩|⟨_,h2⟩
 ·exact h'.front h.cap.2.2
 exact h.kept h2 (by cases sa<;>simp)
theorem Step.refl(w:World)(a:Option Addr):Step w w a a:=⟨anf _ _,.inl rfl⟩
theorem Ke{v:World}(h1:u.grownBy v r)(h2:v.grownBy w r):u.grownBy w r:=
 ⟨h2.os.trans h1.os,h2.tape.trans h1.tape,h2.output.trans h1.output,Nat.le_trans h1.size h2.size,fun k hk hne=>(h2.block k (Nat.lt_of_lt_of_le hk h1.size) hne).trans (h1.block k hk hne)⟩
theorem Step.trans{v:World}(h1:Step u v a a)(h2:Step v w a a'):Step u w a a':=
 ⟨Ke h1.grown h2.grown,by rcases h2.new with h|h;exact .inl h;right;have:=h1.grown.size;omega⟩
theorem Y8(T:gQ P t e z size bytes)(ty:TypeId)
    (hown:Own w B e size sa n c xs)
 {xa:Option Addr} {xc:Nat}  (hrow:Row w xa ys) (hl:ys.length=m*size) (h1c: ∀u∈ys,u.oneCell'=true)
 (hbytes:(n+m)*bytes<=140737488355328) (hm:n+m<=maxLen) (hbase:B<=w.heap.size):
 ∃a' c' w',(Builtin.append_ #[t,t] ty #[.slice sa n c,.slice xa m xc]).run P w= .ok (.slice a' (n+m) c') w'/\Own w' B e size a' (n+m) c' (xs++ys)/\jF w w' sa c a' c':=by
 obtain⟨i,hi,hz,hsize,hby⟩:=info_parts T.info;have hsz:=T.pos;have hblk:Value.ownBlock (.slice sa n c)=sa.map (·.block):=by cases sa<;>rfl
 by_cases hm0:m=0
 ·subst hm0
  have hys:ys=[]:=ane (by simpa using hl);subst hys;refine⟨sa,c,w,?_,by simpa using hown,.inl ⟨rfl,rfl,anf _ _⟩⟩;have hcap:=hown.cap.1;cases xa<;>cases sa<;>simp[Builtin.append_,run_underlying T.nc,sizeOf,typeInfo,hi,Builtin.lenOf,Builtin.firstCells,hcap,loadCells,loadCellsFrom,storeCells]
 have hne:ys≠[]:=by
  intro e0;have hp:0<m*size:=Nat.mul_pos (Nat.pos_of_ne_zero hm0) hsz;rw[<-hl,e0]at hp;exact absurd hp (Nat.lt_irrefl 0)
 have hxa:=hrow.head hne
 have hnews: ∀j u,ys[j]? =some u->w.cell? ((⟨bk xa,fo xa,none⟩:Addr).add j)=some u:=by
  intro j u hj
  have hjl:j<ys.length:=by
   rcases ani j ys.length with h'|h'
   ·exact h'
   rw[List.getElem?_eq_none h']at hj;cases hj
  have:=hrow.cell j hjl;rw[hj]at this;rw[Addr.add_lit];exact this
 obtain⟨v',w',hr,hown',hgrow, -⟩:=run_append_own (P:=P) w B t ty e i z size bytes T.nc hi hz hsize hby T.zs hsz _ n xs hown ⟨bk xa,fo xa,none⟩ m xc ys hl hnews h1c hm hbytes hbase;rw[<-hxa]at hr
 obtain⟨a',c',rfl⟩: ∃a' c',v'= .slice a' (n+m) c':=by
  rcases hown'.2 with⟨h2,h0⟩|⟨g,cap,cur,hv,_⟩
  ·omega
  exact⟨_,_,hv⟩
 refine⟨a',c',w',hr,hown',?_⟩;have adz:w.grownBy w' (sa.map (·.block)):=hblk▸hgrow;have hmx:n+m<=9223372036854775807:=by simpa[maxLen]using hm
 rcases hown.2 with⟨h2,h0⟩|⟨g,cap,cur,hv,Uc,hg,hnc,hcm,hcs,am1⟩
 ·cases h2
  have hr2:=run_append_nil (P:=P) w t ty e i z T.nc hi hz ⟨bk xa,fo xa,none⟩ m xc ys (by rw[hsize];exact hl) hnews (by omega) (by omega) (by simp at hbytes;rw[hby];omega);rw[<-hxa,hr]at hr2;simp at hr2
  right;rw[hr2.1.1,hr2.2];exact⟨by simp,⟨rfl,rfl,rfl,by simp,fun k hk _=>Below.heap_alloc w.drew _ k hk⟩⟩
 cases hv
 by_cases hroom:n+m<=c
 ·obtain⟨w2,hr2,_⟩:=run_append_fits (P:=P) w B t ty e i size T.nc hi hsize g n c xs hown ⟨bk xa,fo xa,none⟩ m xc ys hl hnews h1c hroom
  rw[<-hxa,hr]at hr2;simp at hr2
  left;exact⟨hr2.1.1,hr2.1.2,adz⟩
 have hr2:=run_append_grow (P:=P) w t ty e i z T.nc hi hz ⟨g,0,none⟩ n c xs (by rw[hown.1,hsize]) (World.ownsRow.cells hown (g:=g) rfl) ⟨bk xa,fo xa,none⟩ m xc ys (by rw[hsize];exact hl) hnews (by omega) (by omega) (growslice_fits (by omega) (by rw[hby];exact hbytes))
 rw[<-hxa,hr]at hr2;simp at hr2
 right;rw[hr2.1.1,hr2.2];exact⟨by simp,⟨rfl,rfl,rfl,by simp,fun k hk _=>Below.heap_alloc w.drew _ k hk⟩⟩
section
variable {P:Program} {w:World} {ops:Array Oper} {rest:List Oper} {o:Oper} {a:Act} {Q:Exit->Act->World->Prop} {t e:TypeId} {z:Value} {size bytes:Nat} (T:gQ P t e z size bytes)
include T
theorem OY(s x:Operand)(hgd:o.guard=none)(ho:o.op= .call { callee:=.builtin .append,args:=#[s,x],argTypes:=#[t,t] })
 {B n c:Nat} {sa:Option Addr} {xs:List Value} (hs:a.eval s= .slice sa n c) (hown:Own w B e size sa n c xs)
 {xa:Option Addr} {m xc:Nat} {ys:List Value} (hx:a.eval x= .slice xa m xc) (hrow:Row w xa ys) (hl:ys.length=m*size) (h1c: ∀u∈ys,u.oneCell'=true)
 {w0:World} (hB:Below B w0 w) (og:B<=w.heap.size) (hbytes:(n+m)*bytes<=140737488355328) (hm:n+m<=maxLen)
 (h: ∀a' c' w',Own w' B e size a' (n+m) c' (xs++ys)->jF w w' sa c a' c'->Below B w0 w'->wpList P ops Q rest (a.put o.dst (.slice a' (n+m) c')) w'):wpList P ops Q (o::rest) a w:=by
 refine wpList_plain hgd fun K hK=>?_
 obtain⟨a',c',w',hrun,h1,h2⟩:=Y8 T o.type hown (xc:=xc) hrow hl h1c hbytes hm og;unfold Oper.wp;simp[execOp,ho,resolve,invoke,builtin,hs,hx,hrun,Result.andThen];exact hK _ _ (h a' c' w' h1 h2 (h2.below hown hB og))
theorem jd(s x:Operand)(hgd:o.guard=none)(ho:o.op= .call { callee:=.builtin .append,args:=#[s,x],argTypes:=#[t,t] })
 {B n c:Nat} {sa:Option Addr} {xs:List Value} (hs:a.eval s= .slice sa n c) (hown:Own w B e size sa n c xs)
 {us:Array Value} (hx:a.eval x= .slice (some ⟨w.heap.size,0,none⟩) 1 1) (hl:us.size=size) (h1c: ∀u∈us.toList,u.oneCell'=true)
 {w0:World} (hB:Below B w0 w) (og:B<=w.heap.size) (hbytes:(n+1)*bytes<=140737488355328) (hm:n+1<=maxLen)
 (h: ∀a' c' w',Own w' B e size a' (n+1) c' (xs++us.toList)->jF w w' sa c a' c'->Below B w0 w'->wpList P ops Q rest (a.put o.dst (.slice a' (n+1) c')) w'):wpList P ops Q (o::rest) a (w.alloc (.cells us e)):=by
 have hal:Below w.heap.size w (w.alloc (.cells us e)):=(Below.refl _ _).alloc (anb _) _
 have hrow:Row (w.alloc (.cells us e)) (some ⟨w.heap.size,0,none⟩) us.toList:=by
  refine⟨fun _=>rfl,fun i hi=>?_⟩;simp at hi;have hh:=heap_alloc_new w (.cells us e);simp only[anq,gv,gX,hh];simp
 refine OY T s x hgd ho hs (hown.below hal) hx hrow (by simpa using hl) h1c (hB.alloc og _) (by simp;omega) hbytes hm ?_;intro a' c' w' h1 h2 h3;refine h a' c' w' h1 ?_ h3
 have key: ∀{r},(w.alloc (.cells us e)).grownBy w' r->w.grownBy w' r:=by
  intro r hg;refine⟨hg.os,hg.tape,hg.output,Nat.le_trans hal.size hg.size,fun k hk hne=>?_⟩;rw[hg.block k (by simp;omega) hne];exact hal.block k hk
 rcases h2 with⟨h4,h5,h6⟩|⟨h4,h5⟩
 ·exact .inl ⟨h4,h5,key h6⟩
 exact .inr ⟨by simp at h4;omega,key h5⟩
theorem OZ(l c:Operand)(hgd:o.guard=none)(ho:o.op=Op.makeSlice t l c)(N:Nat){L C:Int}(hl:a.eval l= .int .i64 L)(hc:a.eval c= .int .i64 C)(hL:L=(N:Int))(hC:C=(N:Int))(hbytes:bytes*N<=281474976710656)(hm:N<=maxLen)
 {B:Nat} {w0:World} (hB:Below B w0 w) (og:B<=w.heap.size)
 (h: ∀a' w',Own w' B e size a' N N (madeCells z.cells (N*size)).toList->Step w w' none a'->Below B w0 w'->wpList P ops Q rest (a.put o.dst (.slice a' N N)) w'):wpList P ops Q (o::rest) a w:=by
 obtain⟨i,hi,hz,hsize,hby⟩:=info_parts T.info;refine wpList_make_full w hgd l c t ho B e i z size T.nc hi hz hsize .i64 .i64 L C N hl hc hL hC (by rw[hby];exact hbytes) hm og ?_;intro w' h1 h2;exact h _ w' h1 ⟨h2,.inr (anb _)⟩ (hB.grown h2 og (by intro k hk;cases hk))
end
abbrev iR(w:World)(B:Nat)(a:Option Addr)(n c:Nat)(l:List Int):Prop:=Own w B 3 1 a n c (ints l)
theorem Own.ints(h:Own w B E 1 a n c (ints l)):gU w a l/\n=l.length:=by
 have h1:=h.cap;have h2:l.length=n:=by simpa using h1.2.2
 exact⟨⟨h.row,by have:=h1.1;have:=h1.2.1;unfold maxLen at *; omega⟩,h2.symm⟩
theorem afE(n:Nat):(madeCells #[Value.int .i64 0] n).toList=ints (List.replicate n 0):=
 (toList_madeCells_one _ n).trans (by simp[ints])
theorem Own.set(h:Own w B E size a n c xs)(ha:a≠none)(j:Nat)(u:Value):
 Own (w.setCell ⟨bk a,fo a+j,none⟩ u) B E size a n c (xs.set j u)/\Step w (w.setCell ⟨bk a,fo a+j,none⟩ u) a a:=by
 have h':=h;rcases h.2 with⟨h2,h0⟩|⟨g,cap,cur,hv,_⟩
 ·cases h2;exact absurd rfl ha
 cases hv
 have:=World.ownsRow.stored h' j u;simp only[gv,gX,ann];exact⟨this.1,⟨by simpa using this.2,.inl rfl⟩⟩
theorem Own.frozen(h:Own w B E size a n c xs)(ha:a≠none)(j:Nat):w.frozen? ⟨bk a,fo a+j,none⟩=false:=by
 have h':=h;rcases h.2 with⟨h2,h0⟩|⟨g,cap,cur,hv,_⟩
 ·cases h2;exact absurd rfl ha
 cases hv
 simp only[gv,gX,ann];exact World.ownsRow.frozenAt h' j
theorem Own.some(h:Own w B E size a n c xs)(hn:0<n):a≠none:=by
 rcases h.2 with⟨h2,h0⟩|⟨g,cap,cur,hv,_⟩
 ·omega
 cases hv;simp
theorem Za(ts:Array TypeId)(ty:TypeId)(k:IntKind)(x y m:Int)(h:m=if y<x then y else x): ∀w,(Builtin.min_ ts ty #[.int k x,.int k y]).run P w= .ok (.int k m) w:=by
 intro w;subst h;simp[Builtin.min_,Builtin.min2]
theorem bQ{k:IntKind}{a b:Int}(h:a=b):Ending.returned (Value.int k a)= .returned (.int k b):=by rw[h]
theorem aQ{a b:Bool}(h:a=b):Ending.returned (Value.bool a)= .returned (.bool b):=by rw[h]
def aJ(w:World)(v:Value)(e:Ending)(w':World):Prop:=e= .returned v/\Below w.heap.size w w'
def QW(w w':World):Prop:= ∃n,w'=w.drewN n
theorem QW.refl(w:World):QW w w:=⟨0,rfl⟩
theorem QW.d(h:QW w w')(n:Nat):QW w (w'.drewN n):=by
 obtain⟨m,rfl⟩:=h;exact⟨m+n,by simp[World.drewN,ang]⟩
theorem QW.trans{w'':World}(h:QW w w')(h':QW w' w''):QW w w'':=by
 obtain⟨n,rfl⟩:=h';exact h.d n
theorem QW.below(h:QW w w'):Below w.heap.size w w':=by
 obtain⟨n,rfl⟩:=h;exact below_drewN w n
theorem aB{a b c:World}(h:Below a.heap.size a b)(h':Below b.heap.size b c):Below a.heap.size a c:=h.trans (h'.mono h.size)
def Ex(w:World)(v:Value)(e:Ending)(w':World):Prop:=e= .returned v/\QW w w'
theorem av{f:FuncId}{args:Array Value}{R K:Ending->World->Prop}(h:Calls P f args w R)(k:K (.returned v) w)(hr: ∀e w',R e w'->e= .returned v/\w'=w:=by rintro _ _ ⟨rfl,rfl⟩;exact⟨rfl,rfl⟩):Calls P f args w K:=h.mono fun e w' h=>by obtain⟨h1,h2⟩:=hr e w' h;subst h1;subst h2;exact k
theorem aj{α:Type _}(a:α): ∃x,a=x:=⟨a,rfl⟩
theorem ah{p:Prop}(h:p:=by simp;omega):p:=h
theorem aN{p:Prop}(h:p:=by kernel_rfl):p:=h
theorem cz{p:Prop}(h:p:=by unfold maxLen;omega):p:=h
theorem jf{p:Prop}(h:p:=by intro u hu;simp at hu;subst hu;rfl):p:=h
theorem qw{p:Prop}(h:p:=by simp<;>omega):p:=h
theorem dx{p:Prop}(h:p:=by decide+kernel):p:=h
theorem gf{p:Prop}(h:p:=by first|rfl|trivial):p:=h
theorem aI{q p:Prop}(h:q)(g:q->p:=by intro uC;omega):p:=g h
theorem afd{q p:Prop}(h:q)(g:q->p:=by intro uC;simp at uC;omega):p:=g h
theorem mj(h:QW w w':=by repeat(first|exact QW.refl _|refine QW.d ?_ _)):QW w w':=h
theorem oz(h:Below n w w':=by repeat(first|with_reducible assumption|with_reducible exact Below.refl _ _|with_reducible refine Below.setCell ?_ (Nat.le_refl _) _|with_reducible refine Below.setCell ?_ (by simp) _|with_reducible refine Below.alloc ?_ (Nat.le_refl _) _|with_reducible refine Below.alloc ?_ (by simp) _|with_reducible refine Below.alloc ?_ (by simp<;>omega) _|with_reducible refine Below.drew ?_)):Below n w w':=h
theorem iZ(h:Below n w w1)(g:Below n w w1->Below n w w2:=by intro uC;(repeat(first|with_reducible refine Below.setCell ?_ (by simp) _|with_reducible refine Below.setCell ?_ (by simp<;>omega) _));exact uC):Below n w w2:=g h
theorem yx(h:Below n w w1)(g:Below n w w1->Below n w w2:=by intro uC;(repeat(first|with_reducible refine Below.setCell ?_ (by simp<;>omega) _|with_reducible refine Below.alloc ?_ (by simp<;>omega) _));exact uC):Below n w w2:=g h
theorem nU{ops:Array Oper}{rest:List Oper}{o:Oper}{a:Act}{Q:Exit->Act->World->Prop}(T:gQ P t e z size bytes)(s x:Operand)(hgd:o.guard=none)(ho:o.op= .call { callee:=.builtin .append,args:=#[s,x],argTypes:=#[t,t] })
 {N:Nat}   (hN:w.heap.size=N) (hs:a.eval s= .slice sa n c) (hown:Own w B e size sa n c xs)
 {us:Array Value} (hx:a.eval x= .slice (some ⟨N,0,none⟩) 1 1) (hl:us.size=size) (h1c: ∀u∈us.toList,u.oneCell'=true)
  (hB:Below B w0 w) (og:B<=w.heap.size) (hbytes:(n+1)*bytes<=140737488355328) (hm:n+1<=maxLen)
 (h: ∀a' c' w',Own w' B e size a' (n+1) c' (xs++us.toList)->jF w w' sa c a' c'->Below B w0 w'->wpList P ops Q rest (a.put o.dst (.slice a' (n+1) c')) w'):wpList P ops Q (o::rest) a (w.alloc (.cells us e)):=by
 subst hN;exact jd T s x hgd ho hs hown hx hl h1c hB og hbytes hm h
def ox(xs:List Value)(j:Nat)(vs:List Value):List Value:=xs.take j++vs++xs.drop (j+vs.length)
theorem afc(xs:List Value)(j:Nat):ox xs j []=xs:=by simp[ox]
theorem afb(xs:List Value)(j:Nat)(v:Value)(vs:List Value)(h:j<xs.length):ox xs j (v::vs)=ox (xs.set j v) (j+1) vs:=by
 have h1:xs.set j v=(xs.take j++[v])++xs.drop (j+1):=by rw[List.set_eq_take_append_cons_drop,if_pos h];simp
 have hl:(xs.take j++[v]).length=j+1:=ah;unfold ox;rw[h1,List.take_left' hl,List.drop_append,List.drop_of_length_le (by omega:(xs.take j++[v]).length<=j+1+vs.length),anu,List.drop_drop,hl];simp only[List.append_assoc,List.cons_append,anu,ans]
 congr 3
 congr 1
 omega
theorem Own.sets{B E size n c:Nat}{a:Option Addr}(ha:a≠none): ∀(vs:List Value) (j:Nat) (w:World) (xs:List Value),Own w B E size a n c xs->j+vs.length<=xs.length->
 Own (w.setCells (bk a) (fo a+j) vs) B E size a n c (ox xs j vs)/\Step w (w.setCells (bk a) (fo a+j) vs) a a
 |[],j,w,xs,h,_=>by rw[afc];exact⟨h,⟨anf _ _,.inl rfl⟩⟩
 | v::vs,j,w,xs,h,hj=>by
   simp only[ans]at hj;obtain⟨h1,s1⟩:=Own.set h ha j v;obtain⟨h2,s2⟩:=Own.sets ha vs (j+1) (w.setCell ⟨bk a,fo a+j,none⟩ v) (xs.set j v) h1 ah;rw[afb _ _ _ _ (by omega)];refine⟨h2,⟨Ke s1.grown s2.grown,.inl rfl⟩⟩
theorem amm(z:Value)(n:Nat):(am8 z.cells n).toList.length=n*z.cells.size:=by simp[am8]
theorem akl(T:gQ P t e z size bytes)(hv: ∀w,(zeroValue e).run P w= .ok z w)(h1c: ∀u∈z.cells.toList,u.oneCell'=true)
    (h:Own w B e size a n c xs) (k:Nat) (hk:k<n):
 ∃w',(∀ty,(Builtin.clear_ #[t] ty #[.slice (j8 a (c=k) (k*size)) (n-k) (c-k)]).run P w= .ok (.tuple #[]) w')/\Own w' B e size a n c (ox xs (k*size) (am8 z.cells (n-k)).toList)/\Step w w' a a:=by
 have hcap:=h.cap;have ha:=Own.some h (by omega)
 have hne:xs≠[]:=by
  intro e0;have hp:0<n*size:=Nat.mul_pos (by omega) T.pos;rw[e0]at hcap;simp at hcap;omega
 have KV:=h.row.head hne;have bY: ¬c=k:=by omega
 have hcut:j8 a (c=k) (k*size)=some ⟨bk a,fo a+k*size,none⟩:=by
  unfold j8;rw[if_neg bY]
  conv=>lhs;rw[KV]
  by_cases h0:k*size=0
  ·simp[h0,anl]
  simp[h0,anl]
 rw[hcut];have hzl:=amm z (n-k);rw[T.zs]at hzl;have hlen:k*size+(n-k)*size=xs.length:=by rw[hcap.2.2,<-Nat.add_mul];congr 1;omega
 obtain⟨h2,s2⟩:=Own.sets ha (am8 z.cells (n-k)).toList (k*size) w xs h (by rw[hzl];omega);refine⟨_,fun ty=>?_,h2,s2⟩
 have hst:=run_storeCells_cells (P:=P) (bk a) (fo a+k*size) (am8 z.cells (n-k)).toList 0 w
  (by
   intro j hj;rw[hzl]at hj;have hjl:k*size+j<xs.length:=by omega
   have:=h.row.cell (k*size+j) hjl;rw[ano,ang,this,am9 hjl];rfl)
  (by intro j hj;rw[ano,ang];exact Own.frozen h ha _)
  (by
   intro v hv';simp[am8]at hv';obtain⟨i,hi,rfl⟩:=hv';have hzs:=T.zs;have hpos:=T.pos;have hm:i%z.cells.size<z.cells.size:=Nat.mod_lt _ (by omega);rw[getElem!_pos z.cells _ hm];exact h1c _ (by simp))
 obtain⟨m,hm⟩: ∃m,n-k=m+1:=⟨n-k-1,by omega⟩;rw[hm]at hst⊢;simp only[ano]at hst;simp[Builtin.clear_,run_underlying T.nc,hv,hst]
end Go.Proofs.YtkbbgjloifmmbaaGreatDoor

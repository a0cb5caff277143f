/- What ReadPiecesP leans on, part 1. -/
import Derived.WalkKit
import Derived.WalkSpells
import Derived.WalkLawsBesides
import Derived.Deep.QuietTactic
import Derived.BigQuiet
import Derived.Lib.SlTrimSet
import Derived.Lib.ItoaNum
import Derived.Test.YtkbbgjloifmmbaaGreatDoorRows
import Derived.ProofKit
import Derived.OpenShut
import Derived.ShutString
import Derived.ChangeOld
import Derived.Carry
import Derived.SizedLaws
import Derived.Laws.StructEq
import Derived.Shelf.SlicesQ.Load
set_option linter.unusedVariables false
namespace Go.Proofs.YtkbbgjloifmmbaaGreatDoor
open Go.RowKit
theorem hid{p:Prop}(h:p):Hid p:=h
def bk(a:Option Addr):Nat:=(a.getD ⟨0,0,none⟩).block
def fo(a:Option Addr):Nat:=(a.getD ⟨0,0,none⟩).off
@[simp] theorem bk_some(b o:Nat)(s:Option Nat):bk (some ⟨b,o,s⟩)=b:=rfl
@[simp] theorem fo_some(b o:Nat)(s:Option Nat):fo (some ⟨b,o,s⟩)=o:=rfl
structure Row(w:World)(a:Option Addr)(l:List Value):Prop where
 head:l≠[]->a=some ⟨bk a,fo a,none⟩
 cell: ∀i,i<l.length->w.cell? ⟨bk a,fo a+i,none⟩=l[i]?
theorem Row.nil(w:World)(a:Option Addr):Row w a []:=⟨fun h=>absurd rfl h,fun i h=>absurd h (Nat.not_lt_zero i)⟩
theorem cell?_lt{w:World}{p:Addr}{v:Value}(h:w.cell? p=some v):p.block<w.heap.size:=by
 unfold World.cell? at h;rcases Nat.lt_or_ge p.block w.heap.size with h'|h'
 ·exact h'
 ·rw[Array.getElem?_eq_none h']at h;cases h
theorem Row.lt{w:World}{a:Option Addr}{l:List Value}(h:Row w a l)(hl:l≠[]):bk a<w.heap.size:=by
 have h0:0<l.length:=List.length_pos_iff.2 hl;have:=h.cell 0 h0;rw[List.getElem?_eq_getElem h0]at this;exact cell?_lt (p:=⟨bk a,fo a+0,none⟩) this
theorem Row.below{w w':World}{a:Option Addr}{l:List Value}(h:Row w a l)(hb:Below w.heap.size w w'):Row w' a l:=by
 refine⟨h.head,fun i hi=>?_⟩;have h1:=h.cell i hi;rw[hb.cell (cell?_lt (h1.trans (List.getElem?_eq_getElem hi)))];exact h1
theorem cell?_drewN(w:World)(n:Nat)(p:Addr):(w.drewN n).cell? p=w.cell? p:=by
 simp
theorem below_drewN(w:World)(n:Nat):Below w.heap.size w (w.drewN n):=⟨rfl,rfl,rfl,Nat.le_refl _,fun _ _=>rfl⟩
theorem Row.app_left{w:World}{a:Option Addr}{l r:List Value}(h:Row w a (l++r)):Row w a l:=by
 refine⟨fun hl=>h.head (by simp[hl]),fun i hi=>?_⟩;rw[h.cell i (by simp;omega),List.getElem?_append_left hi]
theorem Row.take{w:World}{a:Option Addr}{l:List Value}(h:Row w a l)(k:Nat):Row w a (l.take k):=
 Row.app_left (r:=l.drop k) (by rw[List.take_append_drop];exact h)
def cutA(a:Option Addr)(stay:Prop)[Decidable stay](k:Nat):Option Addr:=if stay then a else a.map (·.add k)
theorem Row.drop{w:World}{a:Option Addr}{l:List Value}(h:Row w a l)(k:Nat)(stay:Prop)[Decidable stay](hs:stay->l.length<=k\/k=0):Row w (cutA a stay k) (l.drop k):=by
 unfold cutA;split
 ·rename_i hst
  rcases hs hst with h'|h'
  ·rw[List.drop_eq_nil_of_le h'];exact Row.nil _ _
  ·subst h';exact h
 ·by_cases hk:l.length<=k
  ·rw[List.drop_eq_nil_of_le hk];exact Row.nil _ _
  ·have hne:l≠[]:=by intro e;subst e;simp at hk
   have ha:=h.head hne;obtain⟨b,o,rfl⟩: ∃b o,a=some ⟨b,o,none⟩:=⟨_,_,ha⟩
   have h1:(⟨b,o,none⟩:Addr).add k=⟨b,o+k,none⟩:=by
    by_cases h0:k=0<;>simp[h0,Addr.add]
   simp only[Option.map_some,h1];refine⟨fun _=>rfl,fun i hi=>?_⟩;simp only[bk_some,fo_some,List.getElem?_drop];rw[Nat.add_assoc];exact h.cell (k+i) (by simp at hi;omega)
theorem run_idx{P:Program}{w:World}{a:Option Addr}{l:List Value}{t e n c m:Nat}(h:Row w a l)(h1:P.underlying t=some (.slice e))(h2:P.cellsOf e=m)(h3:(P.info? e).isSome=true)
 (hl:l.length=n*m) (hm:0<m) (k:Nat) (hk:k<n) (kk:IntKind):
 ∀w',(Instr.indexAt t (.slice a n c) (.int kk k)).run P w'= .ok (.pointer (some ⟨bk a,fo a+k*m,none⟩)) w':=by
 intro w';have hpos:0<l.length:=by rw[hl];exact Nat.mul_pos (by omega) hm
 have hs:=h.head (by intro e;subst e;simp at hpos);obtain⟨i,hi⟩:=Option.isSome_iff_exists.1 h3;have hsz:i.size=m:=by simpa[Program.cellsOf,hi]using h2
 have hkk:(0:Int)<=(k:Int)/\(k:Int)<(n:Int):=by omega
 rw[hs];have hk0:n≠0:=by omega
 by_cases h0:k=0<;>simp[Instr.indexAt,asIntOf,run_underlying h1,sizeOf,typeInfo,hi,hsz,hkk,Addr.add,hk,h0,hk0]
structure ElT(P:Program)(t e:TypeId)(z:Value)(size bytes:Nat):Prop where
 und:P.underlying t=some (.slice e)
 info:(P.info? e).map (fun i=>(i.zero,i.size,i.bytes))=some (some z,size,bytes)
 zs:z.cells.size=size
 pos:0<size
theorem ElT.cells{P:Program}{t e:TypeId}{z:Value}{size bytes:Nat}(T:ElT P t e z size bytes):P.cellsOf e=size:=by
 obtain⟨i,hi,hz,hs,hb⟩:=info_parts T.info;simp[Program.cellsOf,hi,hs]
theorem ElT.isSome{P:Program}{t e:TypeId}{z:Value}{size bytes:Nat}(T:ElT P t e z size bytes):(P.info? e).isSome=true:=by
 obtain⟨i,hi,_⟩:=info_parts T.info;simp[hi]
abbrev ints(l:List Int):List Value:=l.map (Value.int .i64)
structure Ints(w:World)(a:Option Addr)(l:List Int):Prop where
 row:Row w a (ints l)
 len:l.length<=9223372036854775807
theorem Ints.nil(w:World)(a:Option Addr):Ints w a []:=⟨Row.nil _ _,by simp⟩
theorem Ints.cell{w:World}{a:Option Addr}{l:List Int}(h:Ints w a l)(k:Nat)(hk:k<l.length):w.cell? ⟨bk a,fo a+k,none⟩=some (.int .i64 l[k]):=by
 have:=h.row.cell k (by simpa using hk);simpa[hk]using this
theorem Ints.below{w w':World}{a:Option Addr}{l:List Int}(h:Ints w a l)(hb:Below w.heap.size w w'):Ints w' a l:=⟨h.row.below hb,h.len⟩
theorem Ints.drewN{w:World}{a:Option Addr}{l:List Int}(h:Ints w a l)(n:Nat):Ints (w.drewN n) a l:=h.below (below_drewN _ _)
theorem Ints.idx{P:Program}{w:World}{a:Option Addr}{l:List Int}{t e bytes:Nat}{z:Value}(h:Ints w a l)(T:ElT P t e z 1 bytes)(k:Nat)(hk:k<l.length):
 ∀c w',(Instr.indexAt t (.slice a l.length c) (.int .i64 k)).run P w'= .ok (.pointer (some ⟨bk a,fo a+k,none⟩)) w':=by
 intro c;have:=run_idx (c:=c) (n:=l.length) (m:=1) h.row T.und T.cells T.isSome (by simp) (by omega) k hk .i64;simpa using this
theorem Ints.drop{w:World}{a:Option Addr}{l:List Int}(h:Ints w a l)(k:Nat)(stay:Prop)[Decidable stay](hs:stay->l.length<=k\/k=0):Ints w (cutA a stay k) (l.drop k):=by
 refine⟨?_,by have:=h.len;simp;omega⟩;have:=h.row.drop k stay (by simpa using hs);simpa[ints,List.map_drop]using this
theorem Ints.take{w:World}{a:Option Addr}{l:List Int}(h:Ints w a l)(k:Nat):Ints w a (l.take k):=by
 refine⟨?_,by have:=h.len;simp;omega⟩;have:=h.row.take k;simpa[ints,List.map_take]using this
theorem Ints.app_left{w:World}{a:Option Addr}{l r:List Int}(h:Ints w a (l++r)):Ints w a l:=by
 have:=h.take l.length;simpa using this
def Own(w:World)(B E size:Nat)(a:Option Addr)(n c:Nat)(xs:List Value):Prop:=w.ownsRow B E size (.slice a n c) n xs
theorem Own.nil(w:World)(B E size:Nat):Own w B E size none 0 0 []:=World.ownsRow_nil _ _ _ _
theorem Own.row{w:World}{B E size n c:Nat}{a:Option Addr}{xs:List Value}(h:Own w B E size a n c xs):Row w a xs:=by
 obtain⟨h1,h2⟩:=h;rcases h2 with⟨h2,rfl⟩|⟨g,cap,cur,hv,hg,hh,hn,hc,hs,hx⟩
 ·have:xs=[]:=List.eq_nil_of_length_eq_zero (by omega)
  subst this;exact Row.nil _ _
 ·cases hv
  refine⟨fun _=>rfl,fun i hi=>?_⟩;simp only[bk_some,fo_some,Nat.zero_add];subst hx;simp only[World.cell?,hh];simp at hi⊢;rw[List.getElem?_take_of_lt (by omega)];simp
theorem Own.lt{w:World}{B E size n c:Nat}{a:Option Addr}{xs:List Value}(h:Own w B E size a n c xs)(ha:a≠none):B<=bk a/\bk a<w.heap.size:=by
 obtain⟨h1,h2⟩:=h;rcases h2 with⟨h2,rfl⟩|⟨g,cap,cur,hv,hg,hh,hn,hc,hs,hx⟩
 ·cases h2;exact absurd rfl ha
 ·cases hv
  refine⟨hg,?_⟩;simp only[bk_some];rcases Nat.lt_or_ge g w.heap.size with h'|h'
  ·exact h'
  ·rw[Array.getElem?_eq_none h']at hh;cases hh
theorem Own.cap{w:World}{B E size n c:Nat}{a:Option Addr}{xs:List Value}(h:Own w B E size a n c xs):n<=c/\c<=maxLen/\xs.length=n*size:=by
 obtain⟨h1,h2⟩:=h;rcases h2 with⟨h2,rfl⟩|⟨g,cap,cur,hv,hg,hh,hn,hc,hs,hx⟩
 ·cases h2;exact⟨Nat.le_refl _,Nat.zero_le _,h1⟩
 ·cases hv;exact⟨hn,hc,h1⟩
theorem Own.below{w w':World}{B E size n c:Nat}{a:Option Addr}{xs:List Value}(h:Own w B E size a n c xs)(hb:Below w.heap.size w w'):Own w' B E size a n c xs:=by
 obtain⟨h1,h2⟩:=h;refine⟨h1,?_⟩;rcases h2 with⟨h2,rfl⟩|⟨g,cap,cur,hv,hg,hh,r⟩
 ·exact .inl ⟨h2,rfl⟩
 ·refine .inr ⟨g,cap,cur,hv,hg,?_,r⟩
  rw[hb.block g ?_];exact hh;rcases Nat.lt_or_ge g w.heap.size with h'|h'
  ·exact h'
  ·rw[Array.getElem?_eq_none h']at hh;cases hh
theorem Own.mono{w:World}{B B' E size n c:Nat}{a:Option Addr}{xs:List Value}(h:Own w B E size a n c xs)(hB:B'<=B):Own w B' E size a n c xs:=by
 obtain⟨h1,h2⟩:=h;refine⟨h1,?_⟩;rcases h2 with h2|⟨g,cap,cur,hv,hg,r⟩
 ·exact .inl h2
 ·exact .inr ⟨g,cap,cur,hv,by omega,r⟩
theorem Own.kept{w w':World}{B E size n c:Nat}{a:Option Addr}{xs:List Value}{r:Option Nat}(h:Own w B E size a n c xs)(hg:w.grownBy w' r)(hne:a=none\/some (bk a)≠r):Own w' B E size a n c xs:=by
 refine World.ownsRow.kept h hg ?_;cases a with
 |none=>exact .inl rfl
 |some a=> right;rcases hne with h|h;·cases h
           ·simpa[Value.ownBlock,bk]using h
section
set_option linter.unusedSectionVars false
variable {P:Program} {t e m bytes:Nat} {z:Value} (T:ElT P t e z m bytes) (a:Option Addr) (n c:Nat)
include T
theorem run_cut_from(k:Nat)(hk:k<=n)(kk:IntKind):
 ∀w',(Instr.sliceAt t (.slice a n c) (some (.int kk k)) none none).run P w'= .ok (.slice (cutA a (c=k) (k*m)) (n-k) (c-k)) w':=by
 intro w';have h1:=T.und;obtain⟨i,hi,-, hsz, -⟩:=info_parts T.info;have hkk:(0:Int)<=(k:Int)/\(k:Int)<=(n:Int):=by omega
 simp[Instr.sliceAt,Instr.slice,Instr.sliceBounds,Instr.sliceBound,asIntOf,run_underlying h1,sizeOf,typeInfo,hi,hsz,hkk,cutA,hk]
theorem run_cut_to(k:Nat)(hk:k<=c)(kk:IntKind):
 ∀w',(Instr.sliceAt t (.slice a n c) none (some (.int kk k)) none).run P w'= .ok (.slice a k c) w':=by
 intro w';have h1:=T.und;obtain⟨i,hi,-, hsz, -⟩:=info_parts T.info;have hkk:(0:Int)<=(k:Int)/\(k:Int)<=(c:Int):=by omega
 cases a<;>simp[Instr.sliceAt,Instr.slice,Instr.sliceBounds,Instr.sliceBound,asIntOf,run_underlying h1,sizeOf,typeInfo,hi,hkk,Addr.add,hk]
end
def Apart(a b:Option Addr):Prop:=a=none\/b=none\/bk a≠bk b
theorem Apart.symm{a b:Option Addr}(h:Apart a b):Apart b a:=by
 rcases h with h|h|h
 ·exact .inr (.inl h)
 ·exact .inl h
 ·exact .inr (.inr (Ne.symm h))
structure Step(w w':World)(sa a':Option Addr):Prop where
 grown:w.grownBy w' (sa.map (·.block))
 new:a'=sa\/w.heap.size<=bk a'
theorem Own.step{w w':World}{B E size n c:Nat}{r sa a':Option Addr}{xs:List Value}(h:Own w B E size r n c xs)(hs:Step w w' sa a')(hap:Apart r sa):Own w' B E size r n c xs/\Apart r a':=by
 refine⟨h.kept hs.grown ?_,?_⟩
 ·rcases hap with h1|h1|h1
  ·exact .inl h1
  ·subst h1;cases r<;>simp
  ·cases sa with
   |none=>cases r<;>simp
   |some x=>right;simpa[bk]using h1
 ·rcases hs.new with h1|h1
  ·subst h1;exact hap
  ·cases r with
   |none=>exact .inl rfl
   |some x=>have:=(h.lt (by simp)).2;exact .inr (.inr (by omega))
theorem Step.below{w0 w w':World}{B E size n c:Nat}{sa a':Option Addr}{xs:List Value}(hs:Step w w' sa a')(hown:Own w B E size sa n c xs)(hb:Below B w0 w)(hB:B<=w.heap.size):Below B w0 w':=by
 refine hb.grown hs.grown hB ?_;intro k hk;cases sa with
 |none=>cases hk
 | some x=>
   have:=(hown.lt (by simp)).1;simp only[Option.map_some,Option.some.injEq]at hk;subst hk;simpa[bk]using this
theorem Row.step{w w':World}{a sa a':Option Addr}{l:List Value}(h:Row w a l)(hs:Step w w' sa a')(hne:l=[]\/sa=none\/bk a≠bk sa):Row w' a l:=by
 rcases hne with h1|hne
 ·subst h1;exact Row.nil _ _
 ·refine⟨h.head,fun i hi=>?_⟩
  have h1:=h.cell i hi;rw[List.getElem?_eq_getElem hi]at h1⊢;refine hs.grown.cell h1 ?_;cases sa with
  |none=>simp
  |some x=> rcases hne with h2|h2
            ·cases h2
            ·simpa[bk]using h2
theorem grownBy_none{w w':World}{r:Option Nat}(h:w.grownBy w' none):w.grownBy w' r:=
 ⟨h.os,h.tape,h.output,h.size,fun k hk _=>h.block k hk (by simp)⟩
def Grew(w w':World)(sa:Option Addr)(c:Nat)(a':Option Addr)(c':Nat):Prop:=
 (a'=sa/\c'=c/\w.grownBy w' (sa.map (·.block)))\/(w.heap.size<=bk a'/\w.grownBy w' none)
theorem Grew.step{w w':World}{sa a':Option Addr}{c c':Nat}(h:Grew w w' sa c a' c'):Step w w' sa a':=by
 rcases h with⟨h1,h2,h3⟩|⟨h1,h2⟩
 ·exact⟨h3,.inl h1⟩
 ·exact⟨grownBy_none h2,.inr h1⟩
theorem Grew.below{w0 w w':World}{B E size n c c':Nat}{sa a':Option Addr}{xs:List Value}(hs:Grew w w' sa c a' c')(hown:Own w B E size sa n c xs)(hb:Below B w0 w)(hB:B<=w.heap.size):Below B w0 w':=hs.step.below hown hb hB
theorem Own.front{w:World}{B E size n m c:Nat}{a:Option Addr}{xs ys:List Value}(h:Own w B E size a (n+m) c (xs++ys))(hx:xs.length=n*size):Own w B E size a n c xs:=by
 refine⟨hx,?_⟩;rcases h.2 with⟨h2,h0⟩|⟨g,cap,cur,hv,hg,hh,hn,hcm,hs,ht⟩
 ·simp only[Value.slice.injEq]at h2
  obtain⟨rfl,h3,rfl⟩:=h2;obtain rfl:n=0:=by omega
  exact .inl ⟨rfl,rfl⟩
 ·cases hv
  refine .inr ⟨g,c,cur,rfl,hg,hh,by omega,hcm,hs,?_⟩;have h1:n*size<=(n+m)*size:=Nat.mul_le_mul_right _ (by omega)
  have h2:(cur.toList.take ((n+m)*size)).take (n*size)=cur.toList.take (n*size):=by
   rw[List.take_take,Nat.min_eq_left h1]
  rw[<-h2,ht,<-hx,List.take_left]
theorem Own.grew{w w':World}{B E size n m c c':Nat}{sa a':Option Addr}{xs ys:List Value}(h:Own w B E size sa n c xs)(hg:Grew w w' sa c a' c')(h':Own w' B E size a' (n+m) c' (xs++ys)):Own w' B E size sa n c xs:=by
 rcases hg with⟨rfl,rfl,_⟩|⟨_,h2⟩
 ·exact h'.front h.cap.2.2
 ·exact h.kept h2 (by cases sa<;>simp)
theorem Step.refl(w:World)(a:Option Addr):Step w w a a:=⟨World.grownBy.refl _ _,.inl rfl⟩
theorem grownBy_trans{u v w:World}{r:Option Nat}(h1:u.grownBy v r)(h2:v.grownBy w r):u.grownBy w r:=
 ⟨h2.os.trans h1.os,h2.tape.trans h1.tape,h2.output.trans h1.output,Nat.le_trans h1.size h2.size,fun k hk hne=>(h2.block k (Nat.lt_of_lt_of_le hk h1.size) hne).trans (h1.block k hk hne)⟩
theorem Step.trans{u v w:World}{a a':Option Addr}(h1:Step u v a a)(h2:Step v w a a'):Step u w a a':=
 ⟨grownBy_trans h1.grown h2.grown,by rcases h2.new with h|h;exact .inl h;right;have:=h1.grown.size;omega⟩
def Tail(w0:World)(a:Option Addr)(c:Nat)(a':Option Addr)(c':Nat):Prop:=(a'=a/\c'=c)\/w0.heap.size<=bk a'
theorem Tail.grew{w0 w w':World}{B E size n k m c c' c2:Nat}{a a' a2:Option Addr}{xs ys zs:List Value}(o0:Own w B E size a n c xs)(o1:Own w B E size a' (n+k) c' (xs++ys))(st:Step w0 w a a)(ha:a≠none->bk a<w0.heap.size)
 (tl:Tail w0 a c a' c') (g:Grew w w' a' c' a2 c2) (o2:Own w' B E size a2 (n+k+m) c2 (xs++ys++zs)):Own w' B E size a n c xs/\Step w0 w' a a/\Tail w0 a c a2 c2:=by
 have hsz:=st.grown.size
 have tl2:Tail w0 a c a2 c2:=by
  rcases g with⟨rfl,rfl,_⟩|⟨h1,_⟩
  ·exact tl
  ·exact .inr (by omega)
 rcases tl with⟨rfl,rfl⟩|hn
 ·exact⟨(o1.grew g o2).front o0.cap.2.2,⟨grownBy_trans st.grown g.step.grown,.inl rfl⟩,tl2⟩
 ·have hne:a=none\/some (bk a)≠a'.map (·.block):=by
   cases a with
   |none=>exact .inl rfl
   | some x=>
     right
     have h1:=ha (by simp);cases a' with
     |none=>simp
     |some y=>simp[bk]at h1 hn ⊢; omega
  refine⟨o0.kept g.step.grown hne,⟨⟨g.step.grown.os.trans st.grown.os,g.step.grown.tape.trans st.grown.tape,g.step.grown.output.trans st.grown.output,Nat.le_trans hsz g.step.grown.size,fun j hj hjn=>?_⟩,.inl rfl⟩,tl2⟩;rw[g.step.grown.block j (by omega) ?_]
  ·exact st.grown.block j hj hjn
  ·cases a' with
   |none=>simp
   |some y=>simp[bk]at hn ⊢; omega
theorem run_app{P:Program}{w:World}{t e:TypeId}{z:Value}{size bytes:Nat}(T:ElT P t e z size bytes)(ty:TypeId)
 {B n c:Nat} {sa:Option Addr} {xs:List Value} (hown:Own w B e size sa n c xs)
 {xa:Option Addr} {m xc:Nat} {ys:List Value} (hrow:Row w xa ys) (hl:ys.length=m*size) (h1c: ∀u∈ys,u.oneCell'=true)
 (hbytes:(n+m)*bytes<=140737488355328) (hm:n+m<=maxLen) (hbase:B<=w.heap.size):
 ∃a' c' w',(Builtin.append_ #[t,t] ty #[.slice sa n c,.slice xa m xc]).run P w= .ok (.slice a' (n+m) c') w'/\Own w' B e size a' (n+m) c' (xs++ys)/\Grew w w' sa c a' c':=by
 obtain⟨i,hi,hz,hsize,hby⟩:=info_parts T.info;have hsz:=T.pos;have hblk:Value.ownBlock (.slice sa n c)=sa.map (·.block):=by cases sa<;>rfl
 by_cases hm0:m=0
 ·subst hm0
  have hys:ys=[]:=List.eq_nil_of_length_eq_zero (by simpa using hl);subst hys;refine⟨sa,c,w,?_,by simpa using hown,.inl ⟨rfl,rfl,World.grownBy.refl _ _⟩⟩;have hcap:=hown.cap.1;cases xa<;>cases sa<;>simp[Builtin.append_,run_underlying T.und,sizeOf,typeInfo,hi,Builtin.lenOf,Builtin.firstCells,hcap,loadCells,loadCellsFrom,storeCells]
 ·have hne:ys≠[]:=by
   intro e0;have hp:0<m*size:=Nat.mul_pos (Nat.pos_of_ne_zero hm0) hsz;rw[<-hl,e0]at hp;exact absurd hp (Nat.lt_irrefl 0)
  have hxa:=hrow.head hne
  have hnews: ∀j u,ys[j]? =some u->w.cell? ((⟨bk xa,fo xa,none⟩:Addr).add j)=some u:=by
   intro j u hj
   have hjl:j<ys.length:=by
    rcases Nat.lt_or_ge j ys.length with h'|h'
    ·exact h'
    ·rw[List.getElem?_eq_none h']at hj;cases hj
   have:=hrow.cell j hjl;rw[hj]at this;rw[Addr.add_lit];exact this
  obtain⟨v',w',hr,hown',hgrow, -⟩:=run_append_own (P:=P) w B t ty e i z size bytes T.und hi hz hsize hby T.zs hsz _ n xs hown ⟨bk xa,fo xa,none⟩ m xc ys hl hnews h1c hm hbytes hbase;rw[<-hxa]at hr
  obtain⟨a',c',rfl⟩: ∃a' c',v'= .slice a' (n+m) c':=by
   rcases hown'.2 with⟨h2,h0⟩|⟨g,cap,cur,hv,_⟩
   ·omega
   ·exact⟨_,_,hv⟩
  refine⟨a',c',w',hr,hown',?_⟩;have hgrow':w.grownBy w' (sa.map (·.block)):=hblk▸hgrow;have hmx:n+m<=9223372036854775807:=by simpa[maxLen]using hm
  rcases hown.2 with⟨h2,h0⟩|⟨g,cap,cur,hv,hbg,hg,hnc,hcm,hcs,htake⟩
  ·cases h2
   have hr2:=run_append_nil (P:=P) w t ty e i z T.und hi hz ⟨bk xa,fo xa,none⟩ m xc ys (by rw[hsize];exact hl) hnews (by omega) (by omega) (by simp at hbytes;rw[hby];omega);rw[<-hxa,hr]at hr2;simp at hr2
   right;rw[hr2.1.1,hr2.2];exact⟨by simp,⟨rfl,rfl,rfl,by simp,fun k hk _=>Below.heap_alloc w.drew _ k hk⟩⟩
  ·cases hv
   by_cases hroom:n+m<=c
   ·obtain⟨w2,hr2,_⟩:=run_append_fits (P:=P) w B t ty e i size T.und hi hsize g n c xs hown ⟨bk xa,fo xa,none⟩ m xc ys hl hnews h1c hroom
    rw[<-hxa,hr]at hr2;simp at hr2
    left;exact⟨hr2.1.1,hr2.1.2,hgrow'⟩
   ·have hr2:=run_append_grow (P:=P) w t ty e i z T.und hi hz ⟨g,0,none⟩ n c xs (by rw[hown.1,hsize]) (World.ownsRow.cells hown (g:=g) rfl) ⟨bk xa,fo xa,none⟩ m xc ys (by rw[hsize];exact hl) hnews (by omega) (by omega) (growslice_fits (by omega) (by rw[hby];exact hbytes))
    rw[<-hxa,hr]at hr2;simp at hr2
    right;rw[hr2.1.1,hr2.2];exact⟨by simp,⟨rfl,rfl,rfl,by simp,fun k hk _=>Below.heap_alloc w.drew _ k hk⟩⟩
section
variable {P:Program} {w:World} {ops:Array Oper} {rest:List Oper} {o:Oper} {a:Act} {Q:Exit->Act->World->Prop} {t e:TypeId} {z:Value} {size bytes:Nat} (T:ElT P t e z size bytes)
include T
theorem wpList_app(s x:Operand)(hgd:o.guard=none)(ho:o.op= .call { callee:=.builtin .append,args:=#[s,x],argTypes:=#[t,t] })
 {B n c:Nat} {sa:Option Addr} {xs:List Value} (hs:a.eval s= .slice sa n c) (hown:Own w B e size sa n c xs)
 {xa:Option Addr} {m xc:Nat} {ys:List Value} (hx:a.eval x= .slice xa m xc) (hrow:Row w xa ys) (hl:ys.length=m*size) (h1c: ∀u∈ys,u.oneCell'=true)
 {w0:World} (hB:Below B w0 w) (hB0:B<=w.heap.size) (hbytes:(n+m)*bytes<=140737488355328) (hm:n+m<=maxLen)
 (h: ∀a' c' w',Own w' B e size a' (n+m) c' (xs++ys)->Grew w w' sa c a' c'->Below B w0 w'->wpList P ops Q rest (a.put o.dst (.slice a' (n+m) c')) w'):wpList P ops Q (o::rest) a w:=by
 refine wpList_plain hgd fun K hK=>?_
 obtain⟨a',c',w',hrun,h1,h2⟩:=run_app T o.type hown (xc:=xc) hrow hl h1c hbytes hm hB0;unfold Oper.wp;simp[execOp,ho,resolve,invoke,builtin,hs,hx,hrun,Result.andThen];exact hK _ _ (h a' c' w' h1 h2 (h2.below hown hB hB0))
theorem wpList_app1(s x:Operand)(hgd:o.guard=none)(ho:o.op= .call { callee:=.builtin .append,args:=#[s,x],argTypes:=#[t,t] })
 {B n c:Nat} {sa:Option Addr} {xs:List Value} (hs:a.eval s= .slice sa n c) (hown:Own w B e size sa n c xs)
 {us:Array Value} (hx:a.eval x= .slice (some ⟨w.heap.size,0,none⟩) 1 1) (hl:us.size=size) (h1c: ∀u∈us.toList,u.oneCell'=true)
 {w0:World} (hB:Below B w0 w) (hB0:B<=w.heap.size) (hbytes:(n+1)*bytes<=140737488355328) (hm:n+1<=maxLen)
 (h: ∀a' c' w',Own w' B e size a' (n+1) c' (xs++us.toList)->Grew w w' sa c a' c'->Below B w0 w'->wpList P ops Q rest (a.put o.dst (.slice a' (n+1) c')) w'):wpList P ops Q (o::rest) a (w.alloc (.cells us e)):=by
 have hal:Below w.heap.size w (w.alloc (.cells us e)):=(Below.refl _ _).alloc (Nat.le_refl _) _
 have hrow:Row (w.alloc (.cells us e)) (some ⟨w.heap.size,0,none⟩) us.toList:=by
  refine⟨fun _=>rfl,fun i hi=>?_⟩;simp at hi;have hh:=heap_alloc_new w (.cells us e);simp only[World.cell?,bk_some,fo_some,hh];simp
 refine wpList_app T s x hgd ho hs (hown.below hal) hx hrow (by simpa using hl) h1c (hB.alloc hB0 _) (by simp;omega) hbytes hm ?_;intro a' c' w' h1 h2 h3;refine h a' c' w' h1 ?_ h3
 have key: ∀{r},(w.alloc (.cells us e)).grownBy w' r->w.grownBy w' r:=by
  intro r hg;refine⟨hg.os,hg.tape,hg.output,Nat.le_trans hal.size hg.size,fun k hk hne=>?_⟩;rw[hg.block k (by simp;omega) hne];exact hal.block k hk
 rcases h2 with⟨h4,h5,h6⟩|⟨h4,h5⟩
 ·exact .inl ⟨h4,h5,key h6⟩
 ·exact .inr ⟨by simp at h4;omega,key h5⟩
theorem wpList_mk(l c:Operand)(hgd:o.guard=none)(ho:o.op=Op.makeSlice t l c)(N:Nat){L C:Int}(hl:a.eval l= .int .i64 L)(hc:a.eval c= .int .i64 C)(hL:L=(N:Int))(hC:C=(N:Int))(hbytes:bytes*N<=281474976710656)(hm:N<=maxLen)
 {B:Nat} {w0:World} (hB:Below B w0 w) (hB0:B<=w.heap.size)
 (h: ∀a' w',Own w' B e size a' N N (madeCells z.cells (N*size)).toList->Step w w' none a'->Below B w0 w'->wpList P ops Q rest (a.put o.dst (.slice a' N N)) w'):wpList P ops Q (o::rest) a w:=by
 obtain⟨i,hi,hz,hsize,hby⟩:=info_parts T.info;refine wpList_make_full w hgd l c t ho B e i z size T.und hi hz hsize .i64 .i64 L C N hl hc hL hC (by rw[hby];exact hbytes) hm hB0 ?_;intro w' h1 h2;exact h _ w' h1 ⟨h2,.inr (Nat.le_refl _)⟩ (hB.grown h2 hB0 (by intro k hk;cases hk))
end
abbrev OwnI(w:World)(B:Nat)(a:Option Addr)(n c:Nat)(l:List Int):Prop:=Own w B 3 1 a n c (ints l)
theorem Own.ints{w:World}{B E n c:Nat}{a:Option Addr}{l:List Int}(h:Own w B E 1 a n c (ints l)):Ints w a l/\n=l.length:=by
 have h1:=h.cap;have h2:l.length=n:=by simpa using h1.2.2
 exact⟨⟨h.row,by have:=h1.1;have:=h1.2.1;unfold maxLen at *; omega⟩,h2.symm⟩
theorem madeI(n:Nat):(madeCells #[Value.int .i64 0] n).toList=ints (List.replicate n 0):=
 (toList_madeCells_one _ n).trans (by simp[ints])
theorem Own.set{w:World}{B E size n c:Nat}{a:Option Addr}{xs:List Value}(h:Own w B E size a n c xs)(ha:a≠none)(j:Nat)(u:Value):
 Own (w.setCell ⟨bk a,fo a+j,none⟩ u) B E size a n c (xs.set j u)/\Step w (w.setCell ⟨bk a,fo a+j,none⟩ u) a a:=by
 have h':=h;rcases h.2 with⟨h2,h0⟩|⟨g,cap,cur,hv,_⟩
 ·cases h2;exact absurd rfl ha
 ·cases hv
  have:=World.ownsRow.stored h' j u;simp only[bk_some,fo_some,Nat.zero_add];exact⟨this.1,⟨by simpa using this.2,.inl rfl⟩⟩
theorem Own.frozen{w:World}{B E size n c:Nat}{a:Option Addr}{xs:List Value}(h:Own w B E size a n c xs)(ha:a≠none)(j:Nat):w.frozen? ⟨bk a,fo a+j,none⟩=false:=by
 have h':=h;rcases h.2 with⟨h2,h0⟩|⟨g,cap,cur,hv,_⟩
 ·cases h2;exact absurd rfl ha
 ·cases hv
  simp only[bk_some,fo_some,Nat.zero_add];exact World.ownsRow.frozenAt h' j
theorem Own.some{w:World}{B E size n c:Nat}{a:Option Addr}{xs:List Value}(h:Own w B E size a n c xs)(hn:0<n):a≠none:=by
 rcases h.2 with⟨h2,h0⟩|⟨g,cap,cur,hv,_⟩
 ·omega
 ·cases hv;simp
theorem run_min{P:Program}(ts:Array TypeId)(ty:TypeId)(k:IntKind)(x y m:Int)(h:m=if y<x then y else x): ∀w,(Builtin.min_ ts ty #[.int k x,.int k y]).run P w= .ok (.int k m) w:=by
 intro w;subst h;simp[Builtin.min_,Builtin.min2]
theorem ret_int{k:IntKind}{a b:Int}(h:a=b):Ending.returned (Value.int k a)= .returned (.int k b):=by rw[h]
theorem ret_bool{a b:Bool}(h:a=b):Ending.returned (Value.bool a)= .returned (.bool b):=by rw[h]
def Ret(w:World)(v:Value)(e:Ending)(w':World):Prop:=e= .returned v/\Below w.heap.size w w'
def QW(w w':World):Prop:= ∃n,w'=w.drewN n
theorem QW.refl(w:World):QW w w:=⟨0,rfl⟩
theorem QW.d{w w':World}(h:QW w w')(n:Nat):QW w (w'.drewN n):=by
 obtain⟨m,rfl⟩:=h;exact⟨m+n,by simp[World.drewN,Nat.add_assoc]⟩
theorem QW.trans{w w' w'':World}(h:QW w w')(h':QW w' w''):QW w w'':=by
 obtain⟨n,rfl⟩:=h';exact h.d n
theorem QW.below{w w':World}(h:QW w w'):Below w.heap.size w w':=by
 obtain⟨n,rfl⟩:=h;exact below_drewN w n
theorem ext_trans{a b c:World}(h:Below a.heap.size a b)(h':Below b.heap.size b c):Below a.heap.size a c:=h.trans (h'.mono h.size)
def RetQ(w:World)(v:Value)(e:Ending)(w':World):Prop:=e= .returned v/\QW w w'
theorem RetQ.ret{w:World}{v:Value}{e:Ending}{w':World}(h:RetQ w v e w'):Ret w v e w':=by
 obtain⟨rfl,n,rfl⟩:=h;exact⟨rfl,below_drewN _ _⟩
end Go.Proofs.YtkbbgjloifmmbaaGreatDoor
namespace Go.Proofs.YtkbbgjloifmmbaaGreatDoor
abbrev Tx:=List UInt8
def blankC(c:UInt8):Bool:=c==32||c==9||c==10||c==13
def trimT(l:Tx):Tx:=Lib.trimS l [32,9,10,13]
def dgt(n:Nat):UInt8:=UInt8.ofNat (48+n%10)
def decN(n:Nat):Tx:=if n<10 then[dgt n]else if n<100 then[dgt (n/10),dgt n]else if n<1000 then[dgt (n/100),dgt (n/10),dgt n]else[dgt (n/1000),dgt (n/100),dgt (n/10),dgt n]
def decI(n:Int):Tx:=if n<0 then 45::decN n.natAbs else decN n.toNat
def regT(n:Nat):Tx:=120::decN n
def regOf(s:Tx):Option Nat:=(List.range 32).find? fun n=>regT n==s
def splitC(c:UInt8):Tx->List Tx
 |[]=>[[]]
 | b::r=>if b==c then[]::splitC c r else match splitC c r with
   |[]=>[[b]]
   |x::t=>(b::x)::t
def letterC(c:UInt8):Bool:=(97<=c&&c<=122)||(65<=c&&c<=90)
def digitC(c:UInt8):Bool:=48<=c&&c<=57
def nameC(c:UInt8):Bool:=letterC c||digitC c||c==95
def nameB:Tx->Bool
 |[]=>false
 |c::r=>decide (r.length<32)&&letterC c&&r.all nameC
structure Ins where
 op:Int
 d:Int
 a:Int
 b:Int
 imm:Int
 loc:Tx
 label:Tx
 fence:Int
 deriving DecidableEq
def ins0:Ins:=⟨0,0,0,0,0,[],[],0⟩
def wantI(i:Ins):Ins:=
 if i.op=6 then⟨6,i.d,i.a,0,0,[],[],0⟩
 else if i.op=7 then⟨7,0,i.a,i.b,0,[],[],0⟩
 else if i.op=8 then⟨8,i.d,i.a,0,i.imm,[],[],0⟩
 else if i.op=9 then⟨9,i.d,i.a,i.b,0,[],[],0⟩
 else if i.op=10 then⟨10,i.d,i.a,i.b,0,[],[],0⟩
 else if i.op=11 then⟨11,0,i.a,i.b,0,[],i.label,0⟩
 else if i.op=12 then⟨12,0,0,0,0,[],i.label,0⟩
 else if i.op=13 then⟨13,0,0,0,0,[],[],i.fence⟩
 else⟨i.op,0,0,0,0,[],[],0⟩
def okI(i:Ins):Bool:=
 if i.op=8 then decide (-2048<=i.imm)&&decide (i.imm<=2047)
 else if i.op=11\/i.op=12 then nameB i.label
 else if i.op=13 then decide (2<=i.fence)&&decide (i.fence<=11)
 else decide (6<=i.op)&&decide (i.op<=13)
def regB(n:Int):Bool:=decide (0<=n)&&decide (n<=31)
def checkI(i:Ins):Bool:=okI i&&decide (i=wantI i)&&regB i.d&&regB i.a&&regB i.b
def errI(i:Ins):Int:=if checkI i then 0 else 91
def fpart(n:Int):Tx:=if n=0 then[114]else if n=1 then[119]else[114,119]
def addrT(s:Tx):Option Nat:=
 let t:=trimT s
 if t.contains 40&&t.getLast?==some 41&&trimT (t.takeWhile (· != 40))==[48]then regOf (trimT ((t.dropWhile (· != 40)).drop 1).dropLast)else none
def numT(s:Tx):Option Int:=((List.range 4096).find? fun(n:Nat)=>decI ((n:Int)-2048)==s).map fun(n:Nat)=>(n:Int)-2048
def fpartOf(s:Tx):Option Int:=if s=[114]then some 0 else if s=[119]then some 1 else if s=[114,119]then some 2 else none
def readI(op:Tx)(l:List Tx):Option Ins:=
 if op=[108,119]then match l with
  | [x,y]=>match regOf x,addrT y with
    |some d,some a=>some ⟨6,d,a,0,0,[],[],0⟩
    |_,_=>none
  |_=>none
 else if op=[115,119]then match l with
  | [x,y]=>match regOf x,addrT y with
    |some d,some a=>some ⟨7,0,a,d,0,[],[],0⟩
    |_,_=>none
  |_=>none
 else if op=[102,101,110,99,101]then match l with
  | [x,y]=>match fpartOf x,fpartOf y with
    |some k,some j=>some ⟨13,0,0,0,0,[],[],3+3*k+j⟩
    |_,_=>none
  |_=>none
 else match l with
  | [x,y,z]=>match regOf x,regOf y with
    | some a,some b=>
      if op=[98,110,101]then(if nameB z then some ⟨11,0,a,b,0,[],z,0⟩else none)
      else if op=[111,114,105]then(match numT z with
       |some n=>some ⟨8,a,b,0,n,[],[],0⟩
       |none=>none)
      else match regOf z with
       |some c=>if op=[120,111,114]then some ⟨9,a,b,c,0,[],[],0⟩else if op=[97,100,100]then some ⟨10,a,b,c,0,[],[],0⟩else none
       |none=>none
    |_,_=>none
  |_=>none
def parseI(s:Tx):Option Ins:=
 if 262144<s.length then none
 else
  let t:=trimT s
  if t=[102,101,110,99,101,46,116,115,111]then some ⟨13,0,0,0,0,[],[],2⟩
  else if t.getLast?=some 58 then(if nameB (trimT t.dropLast)then some ⟨12,0,0,0,0,[],trimT t.dropLast,0⟩else none)
  else readI (t.takeWhile fun c=> !blankC c) ((splitC 44 (t.dropWhile fun c=> !blankC c)).map trimT)
theorem blank_cs(c:UInt8):([32,9,10,13]:Tx).contains c=blankC c:=by
 unfold blankC;simp[List.contains,List.elem,Bool.or_assoc];cases h1:c==32<;>cases h2:c==9<;>cases h3:c==10<;>cases h4:c==13<;>simp_all
theorem trimL_eq(l:Tx):Lib.trimLeftS l [32,9,10,13]=l.dropWhile blankC:=by
 unfold Lib.trimLeftS;congr 1;funext c;exact blank_cs c
theorem trimR_eq(l:Tx):Lib.trimRightS l [32,9,10,13]=(l.reverse.dropWhile blankC).reverse:=by
 unfold Lib.trimRightS;congr 2;funext c;exact blank_cs c
theorem trimT_eq(l:Tx):trimT l=((l.reverse.dropWhile blankC).reverse).dropWhile blankC:=by
 unfold trimT Lib.trimS;rw[trimR_eq,trimL_eq]
theorem dropWhile_head{α:Type}{p:α->Bool}: ∀{l:List α},(∀c,l.head?=some c->p c=false)->l.dropWhile p=l
 |[],_=>rfl
 |c::r,h=>by rw[List.dropWhile_cons];rw[if_neg (by rw[h c rfl];simp)]
theorem head_dropWhile{α:Type}{p:α->Bool}: ∀{l:List α} {c:α},(l.dropWhile p).head?=some c->p c=false
 |[],c,h=>by simp at h
 | b::r,c,h=>by
   rw[List.dropWhile_cons]at h
   by_cases hb:p b=true
   ·rw[if_pos hb]at h;exact head_dropWhile h
   ·rw[if_neg hb]at h;simp at h;subst h;simpa using hb
theorem trimT_clean{l:Tx}(h1: ∀c,l.head?=some c->blankC c=false)(h2: ∀c,l.getLast?=some c->blankC c=false):trimT l=l:=by
 rw[trimT_eq,dropWhile_head (l:=l.reverse) (by intro c hc;rw[List.head?_reverse]at hc;exact h2 c hc),List.reverse_reverse,dropWhile_head h1]
theorem splitC_none(c:UInt8): ∀(l:Tx),c∉l->splitC c l=[l]
 |[],_=>rfl
 | b::r,h=>by
   simp only[List.mem_cons,not_or]at h;unfold splitC;rw[splitC_none c r h.2,if_neg (by simpa using Ne.symm h.1)]
theorem splitC_app(c:UInt8): ∀(l r:Tx),c∉l->splitC c (l++c::r)=l::splitC c r
 |[],r,_=>by simp[splitC]
 | b::l,r,h=>by
   simp only[List.mem_cons,not_or]at h;rw[List.cons_append]
   conv=>lhs;unfold splitC
   rw[splitC_app c l r h.2,if_neg (by simpa using Ne.symm h.1)]
theorem regOf_regT_fin: ∀n:Fin 32,regOf (regT n.val)=some n.val:=by decide+kernel
theorem regOf_regT{n:Nat}(h:n<32):regOf (regT n)=some n:=regOf_regT_fin ⟨n,h⟩
theorem regOf_some{s:Tx}{n:Nat}(h:regOf s=some n):n<32/\s=regT n:=by
 unfold regOf at h;have h1:=List.find?_some h;have h2:=List.mem_of_find?_eq_some h;simp at h1 h2;exact⟨h2,h1.symm⟩
def Cl(x:Tx):Prop:=x≠[]/\ ∀c∈x,blankC c=false/\c≠44/\c≠58
instance (x:Tx):Decidable (Cl x):=by unfold Cl;infer_instance
theorem Cl.head{x:Tx}(h:Cl x): ∀c,x.head?=some c->blankC c=false:=fun c hc=>(h.2 c (List.mem_of_head? hc)).1
theorem Cl.last{x:Tx}(h:Cl x): ∀c,x.getLast?=some c->blankC c=false:=fun c hc=>(h.2 c (List.mem_of_getLast? hc)).1
theorem Cl.comma{x:Tx}(h:Cl x):(44:UInt8)∉x:=fun hm=>(h.2 _ hm).2.1 rfl
theorem Cl.trim{x:Tx}(h:Cl x):trimT x=x:=trimT_clean h.head h.last
theorem Cl.app{x y:Tx}(h:Cl x)(h':Cl y):Cl (x++y):=⟨by simp[h.1],fun c hc=>by rcases List.mem_append.1 hc with h1|h1;exact h.2 c h1;exact h'.2 c h1⟩
def valT:Nat->Tx->Nat
 |a,[]=>a
 |a,c::r=>valT (10*a+(c.toNat-48)) r
def valI:Tx->Int
 |[]=>0
 |c::r=>if c=45 then -(valT 0 r:Int)else valT 0 (c::r)
theorem valI_fin: ∀a:Fin 64,∀b:Fin 64,valI (decI ((64*a.val+b.val:Nat)-2048))=(64*a.val+b.val:Nat)-2048:=by decide+kernel
theorem valI_decI{n:Int}(h1: -2048<=n)(h2:n<=2047):valI (decI n)=n:=by
 have:=valI_fin ⟨(n+2048).toNat/64,by omega⟩ ⟨(n+2048).toNat%64,by omega⟩;simp only at this
 rwa[show((64*((n+2048).toNat/64)+(n+2048).toNat%64:Nat):Int)-2048=n by omega]at this
theorem numT_some{s:Tx}{v:Int}(h:numT s=some v):s=decI v/\ -2048<=v/\v<=2047:=by
 unfold numT at h;cases hf:(List.range 4096).find? fun(n:Nat)=>decI ((n:Int)-2048)==s with
 |none=>rw[hf]at h;simp at h
 | some k=>
   rw[hf]at h;have h1:=List.find?_some hf;have h2:=List.mem_of_find?_eq_some hf;simp at h h1 h2;subst h;exact⟨h1.symm,by omega,by omega⟩
theorem numT_decI{n:Int}(h1: -2048<=n)(h2:n<=2047):numT (decI n)=some n:=by
 cases hn:numT (decI n)with
 | none=>
   unfold numT at hn;simp only[Option.map_eq_none_iff,List.find?_eq_none,List.mem_range,beq_iff_eq]at hn;have:=hn (n+2048).toNat (by omega);rw[show(((n+2048).toNat:Nat):Int)-2048=n by omega]at this;exact absurd rfl this
 | some v=>
   obtain⟨e,b1,b2⟩:=numT_some hn;have:=congrArg valI e;rw[valI_decI h1 h2,valI_decI b1 b2]at this;rw[this]
theorem nameB_cl{x:Tx}(h:nameB x=true):Cl x/\x.length<=32:=by
 cases x with
 |nil=>simp[nameB]at h
 | cons c r=>
   simp only[nameB,Bool.and_eq_true,decide_eq_true_eq,List.all_eq_true]at h;obtain⟨⟨h1,h2⟩,h3⟩:=h
   have key: ∀y:UInt8,nameC y=true->blankC y=false/\y≠44/\y≠58:=by
    intro y hy;unfold nameC letterC digitC at hy;simp only[Bool.or_eq_true,Bool.and_eq_true,decide_eq_true_eq,beq_iff_eq,UInt8.le_iff_toNat_le]at hy;unfold blankC;refine⟨?_,?_,?_⟩
    ·simp only[Bool.or_eq_false_iff,beq_eq_false_iff_ne]
     refine⟨⟨⟨?_,?_⟩,?_⟩,?_⟩<;>rintro rfl<;>revert hy<;>decide
    ·rintro rfl;revert hy;decide
    ·rintro rfl;revert hy;decide
   refine⟨⟨by simp,fun y hy=>?_⟩,by simp;omega⟩;rcases List.mem_cons.1 hy with rfl|hy
   ·exact key y (by unfold nameC;rw[h2];rfl)
   ·exact key y (h3 y hy)
theorem regB_of{k:Nat}(h:k<32):regB (k:Int)=true:=by unfold regB;simp;omega
theorem last_app{x y:Tx}(hy:y≠[]):(x++y).getLast?=y.getLast?:=by
 rw[List.getLast?_append,List.getLast?_eq_some_getLast hy];rfl
end Go.Proofs.YtkbbgjloifmmbaaGreatDoor
namespace Go.Proofs.YtkbbgjloifmmbaaGreatDoor
open Go.RowKit
def tx(l:Tx):ByteArray:=⟨l.toArray⟩
theorem tx_toList(l:Tx):(tx l).toList=l:=by rw[ByteArray.toList_eq];simp[tx]
theorem tx_data(l:Tx):(tx l).data.toList=l:=by simp[tx]
theorem tx_size(l:Tx):(tx l).size=l.length:=by simp[tx,ByteArray.size]
theorem tx_of(s:ByteArray): ∃l,s=tx l:=⟨s.data.toList,by simp[tx]⟩
theorem tx_app(a b:Tx):tx a++tx b=tx (a++b):=by
 apply ByteArray.ext;simp[tx]
theorem tx_inj{a b:Tx}:tx a=tx b<->a=b:=⟨fun h=>by have:=congrArg (fun s:ByteArray=>s.data.toList) h;simpa[tx]using this,fun h=>by rw[h]⟩
theorem tx_beq(a b:Tx):((tx a).toList==(tx b).toList)=(a==b):=by rw[tx_toList,tx_toList]
theorem tx_eq_false{a b:Tx}(h:a≠b):((tx a).toList==(tx b).toList)=false:=by rw[tx_beq];simpa using h
@[reducible] def iC(i:Ins):List Value:=[.int .i64 i.op,.int .i64 i.d,.int .i64 i.a,.int .i64 i.b,.int .i64 i.imm,.string (tx i.loc),.string (tx i.label),.int .i64 i.fence]
@[reducible] def vI(i:Ins):Value:=.agg #[.int .i64 i.op,.int .i64 i.d,.int .i64 i.a,.int .i64 i.b,.int .i64 i.imm,.string (tx i.loc),.string (tx i.label),.int .i64 i.fence]
theorem ins_ext(x y:Ins):(x=y)<->(x.op=y.op/\x.d=y.d/\x.a=y.a/\x.b=y.b/\x.imm=y.imm/\x.loc=y.loc/\x.label=y.label/\x.fence=y.fence):=by
 cases x;cases y;simp
theorem eqI(x y:Ins)(w:World):(binOp .eql 50 (vI x) (vI y)).run Tryz.prog w= .ok (.bool (decide (x=y))) w:=by
 have hS:Tryz.prog.underlying 50=some (.struct (Tryz.prog.fieldsOf 50)):=by kernel_rfl
 have hp:Tryz.prog.stoodInHeld 50=false:=by kernel_rfl
 have a3:=Tryz.isAgg3;have z3:=Tryz.sizeOf3;have u3:=Tryz.underlying3;have a4:=Tryz.isAgg9;have z4:=Tryz.sizeOf9;have u4:=Tryz.underlying9;rw[run_eql_struct,show(10000:Nat)=9999+1 from rfl,run_equalIn_agg w 9999 50 _ _ hS hp];simp only[Program.fieldsOf,Tryz.underlying50]
 go_simp
 rw[show decide (x=y)=decide (x.op=y.op/\x.d=y.d/\x.a=y.a/\x.b=y.b/\x.imm=y.imm/\x.loc=y.loc/\x.label=y.label/\x.fence=y.fence)from decide_eq_decide.2 (ins_ext x y)];simp only[tx_toList]
 by_cases h1:x.op=y.op<;>by_cases h2:x.d=y.d<;>by_cases h3:x.a=y.a<;>by_cases h4:x.b=y.b<;>by_cases h5:x.imm=y.imm<;>by_cases h6:x.loc=y.loc<;>by_cases h7:x.label=y.label<;>by_cases h8:x.fence=y.fence<;>simp[h1,h2,h3,h4,h5,h6,h7,h8]
theorem neqI(x y:Ins)(w:World):(binOp .neq 50 (vI x) (vI y)).run Tryz.prog w= .ok (.bool (!decide (x=y))) w:=by
 have h:=eqI x y w;rw[run_eql_struct]at h;rw[run_neq_struct];generalize (Op.equalIn 10000 50 (.agg #[.int .i64 x.op,.int .i64 x.d,.int .i64 x.a,.int .i64 x.b,.int .i64 x.imm,.string (tx x.loc),.string (tx x.label),.int .i64 x.fence]) (.agg #[.int .i64 y.op,.int .i64 y.d,.int .i64 y.a,.int .i64 y.b,.int .i64 y.imm,.string (tx y.loc),.string (tx y.label),.int .i64 y.fence])).run Tryz.prog w=r at*;cases r with
 |ok b w'=>simp[Result.andThen]at h ⊢; obtain⟨rfl,rfl⟩:=h;exact⟨rfl,rfl⟩
 |halt x w'=>simp[Result.andThen]at h
def BxI(w:World)(b:Nat)(i:Ins):Prop:=b<w.heap.size/\ ∀k,k<8->w.cell? ⟨b,k,none⟩=(iC i)[k]?
abbrev mkI(i:Ins):Obj:=.cells #[.int .i64 i.op,.int .i64 i.d,.int .i64 i.a,.int .i64 i.b,.int .i64 i.imm,.string (tx i.loc),.string (tx i.label),.int .i64 i.fence] 50
theorem BxI.below{w w':World}{b:Nat}{i:Ins}(h:BxI w b i)(hb:Below w.heap.size w w'):BxI w' b i:=
 ⟨Nat.lt_of_lt_of_le h.1 hb.size,fun k hk=>by rw[hb.cell (p:=⟨b,k,none⟩) h.1];exact h.2 k hk⟩
theorem BxI.new(w:World)(i:Ins):BxI (w.alloc (mkI i)) w.heap.size i:=
 ⟨by simp,fun k hk=>by
  have hh:=heap_alloc_new w (mkI i);simp only[World.cell?,hh];simp[iC]⟩
theorem BxI.cells{w:World}{b:Nat}{i:Ins}(h:BxI w b i):w.cell? ⟨b,0,none⟩=some (.int .i64 i.op)/\w.cell? ⟨b,1,none⟩=some (.int .i64 i.d)/\w.cell? ⟨b,2,none⟩=some (.int .i64 i.a)/\w.cell? ⟨b,3,none⟩=some (.int .i64 i.b)/\w.cell? ⟨b,4,none⟩=some (.int .i64 i.imm)/\w.cell? ⟨b,5,none⟩=some (.string (tx i.loc))/\w.cell? ⟨b,6,none⟩=some (.string (tx i.label))/\w.cell? ⟨b,7,none⟩=some (.int .i64 i.fence):=
 ⟨h.2 0 (by omega),h.2 1 (by omega),h.2 2 (by omega),h.2 3 (by omega),h.2 4 (by omega),h.2 5 (by omega),h.2 6 (by omega),h.2 7 (by omega)⟩
theorem al(w:World)(o:Obj):Below w.heap.size w (w.alloc o):=(Below.refl _ _).alloc (Nat.le_refl _) _
theorem bel_alloc{w w':World}(h:Below w.heap.size w w')(o:Obj):Below w.heap.size w (w'.alloc o):=h.alloc h.size o
theorem bel_drew{w w':World}(h:Below w.heap.size w w'):Below w.heap.size w w'.drew:=h.trans ((below_drewN w' 1).mono h.size)
theorem bel_set{w w':World}{p:Addr}(h:Below w.heap.size w w')(hp:w.heap.size<=p.block)(v:Value):Below w.heap.size w (w'.setCell p v):=h.setCell hp v
theorem blA{n:Nat}{w w':World}(h:Below n w w':=by repeat(first|with_reducible assumption|with_reducible exact Below.refl _ _|with_reducible refine bel_alloc ?_ _|with_reducible refine bel_drew ?_|with_reducible refine bel_set ?_ (by dsimp only;omega) _)):Below n w w':=h
theorem ret_pair{k k':IntKind}{a b c d:Int}(h:a=c)(h':b=d):Ending.returned (.tuple #[.int k a,.int k' b])= .returned (.tuple #[.int k c,.int k' d]):=by rw[h,h']
theorem ret_str{a b:ByteArray}(h:a=b):Ending.returned (.string a)= .returned (.string b):=by rw[h]
end Go.Proofs.YtkbbgjloifmmbaaGreatDoor

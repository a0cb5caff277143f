/- What ReadBackP leans on, part 1. -/
import Derived.WalkKit
import Derived.WalkSpells
import Derived.WalkLawsBesides
import Derived.Deep.QuietTactic
import Derived.BigQuiet
import Derived.ProofKit
import Derived.OpenShut
import Derived.ShutString
import Derived.ChangeOld
import Derived.Carry
import Derived.SizedLaws
import Derived.Lib.SlTrimSet
import Derived.Lib.ItoaNum
set_option linter.unusedVariables false
namespace Go.Proofs.YtkbbgjloifmmbaaGreatDoor
open _root_.List renaming getLast?_eq_some_getLast->amJ,getElem?_eq_getElem->amK,getLast?_cons->amL,eq_nil_of_length_eq_zero->amN,dropWhile_cons->amO,mem_of_find?_eq_some->amQ,drop_eq_nil_of_le->amT,reverse_reverse->amU,mem_of_getLast?->amV,getLast?_append->amW,mem_cons->amY,head?_reverse->am2,range->am9,find?_some->ana
open _root_.Array renaming getElem?_eq_none->amM
open _root_.Go.Instr renaming sliceAt->amP,indexAt->amX,sliceBounds->am3,sliceBound->am5
open _root_.Nat renaming lt_or_ge->amR,le_refl->amS,zero_add->amZ,le_trans->am1
open _root_.Go.World.grownBy renaming refl->am0
open _root_.Go.World renaming cell?->am4
open _root_.Bool renaming and_eq_true->am6
open _root_.Option renaming map_some->am7
open Go.RowKit
theorem hid{p:Prop}(h:p):Hid p:=h
def bk(a:Option Addr):Nat:=(a.getD ⟨0,0,none⟩).block
def fo(a:Option Addr):Nat:=(a.getD ⟨0,0,none⟩).off
@[simp] theorem fk(b o:Nat)(s:Option Nat):bk (some ⟨b,o,s⟩)=b:=rfl
@[simp] theorem gb(b o:Nat)(s:Option Nat):fo (some ⟨b,o,s⟩)=o:=rfl
structure Row(w:World)(a:Option Addr)(l:List Value):Prop where
 head:l≠[]->a=some ⟨bk a,fo a,none⟩
 cell: ∀i,i<l.length->w.cell? ⟨bk a,fo a+i,none⟩=l[i]?
theorem Row.nil(w:World)(a:Option Addr):Row w a []:=⟨fun h=>absurd rfl h,fun i h=>absurd h (Nat.not_lt_zero i)⟩
theorem gR{w:World}{p:Addr}{v:Value}(h:w.cell? p=some v):p.block<w.heap.size:=by
 unfold am4 at h;rcases amR p.block w.heap.size with h'|h'
 ·exact h'
 ·rw[amM h']at h;cases h
theorem Row.lt{w:World}{a:Option Addr}{l:List Value}(h:Row w a l)(hl:l≠[]):bk a<w.heap.size:=by
 have h0:0<l.length:=List.length_pos_iff.2 hl;have:=h.cell 0 h0;rw[amK h0]at this;exact gR (p:=⟨bk a,fo a+0,none⟩) this
theorem Row.below{w w':World}{a:Option Addr}{l:List Value}(h:Row w a l)(hb:Below w.heap.size w w'):Row w' a l:=by
 refine⟨h.head,fun i hi=>?_⟩;have h1:=h.cell i hi;rw[hb.cell (gR (h1.trans (amK hi)))];exact h1
theorem cell?_drewN(w:World)(n:Nat)(p:Addr):(w.drewN n).cell? p=w.cell? p:=by
 simp
theorem below_drewN(w:World)(n:Nat):Below w.heap.size w (w.drewN n):=⟨rfl,rfl,rfl,amS _,fun _ _=>rfl⟩
theorem Row.M0{w:World}{a:Option Addr}{l r:List Value}(h:Row w a (l++r)):Row w a l:=by
 refine⟨fun hl=>h.head (by simp[hl]),fun i hi=>?_⟩;rw[h.cell i (by simp;omega),List.getElem?_append_left hi]
theorem Row.take{w:World}{a:Option Addr}{l:List Value}(h:Row w a l)(k:Nat):Row w a (l.take k):=
 Row.M0 (r:=l.drop k) (by rw[List.take_append_drop];exact h)
def lC(a:Option Addr)(stay:Prop)[Decidable stay](k:Nat):Option Addr:=if stay then a else a.map (·.add k)
theorem Row.drop{w:World}{a:Option Addr}{l:List Value}(h:Row w a l)(k:Nat)(stay:Prop)[Decidable stay](hs:stay->l.length<=k\/k=0):Row w (lC a stay k) (l.drop k):=by
 unfold lC;split
 ·rename_i hst
  rcases hs hst with h'|h'
  ·rw[amT h'];exact Row.nil _ _
  ·subst h';exact h
 ·by_cases hk:l.length<=k
  ·rw[amT hk];exact Row.nil _ _
  ·have hne:l≠[]:=by intro e;subst e;simp at hk
   have ha:=h.head hne;obtain⟨b,o,rfl⟩: ∃b o,a=some ⟨b,o,none⟩:=⟨_,_,ha⟩
   have h1:(⟨b,o,none⟩:Addr).add k=⟨b,o+k,none⟩:=by
    by_cases h0:k=0<;>simp[h0,Addr.add]
   simp only[am7,h1];refine⟨fun _=>rfl,fun i hi=>?_⟩;simp only[fk,gb,List.getElem?_drop];rw[Nat.add_assoc];exact h.cell (k+i) (by simp at hi;omega)
theorem sC{P:Program}{w:World}{a:Option Addr}{l:List Value}{t e n c m:Nat}(h:Row w a l)(h1:P.underlying t=some (.slice e))(h2:P.cellsOf e=m)(h3:(P.info? e).isSome=true)
 (hl:l.length=n*m) (hm:0<m) (k:Nat) (hk:k<n) (kk:IntKind):
 ∀w',(amX t (.slice a n c) (.int kk k)).run P w'= .ok (.pointer (some ⟨bk a,fo a+k*m,none⟩)) w':=by
 intro w';have hpos:0<l.length:=by rw[hl];exact Nat.mul_pos (by omega) hm
 have hs:=h.head (by intro e;subst e;simp at hpos);obtain⟨i,hi⟩:=Option.isSome_iff_exists.1 h3;have hsz:i.size=m:=by simpa[Program.cellsOf,hi]using h2
 have hkk:(0:Int)<=(k:Int)/\(k:Int)<(n:Int):=by omega
 rw[hs];have hk0:n≠0:=by omega
 by_cases h0:k=0<;>simp[amX,asIntOf,run_underlying h1,sizeOf,typeInfo,hi,hsz,hkk,Addr.add,hk,h0,hk0]
structure gQ(P:Program)(t e:TypeId)(z:Value)(size bytes:Nat):Prop where
 j4:P.underlying t=some (.slice e)
 info:(P.info? e).map (fun i=>(i.zero,i.size,i.bytes))=some (some z,size,bytes)
 zs:z.cells.size=size
 pos:0<size
theorem gQ.cells{P:Program}{t e:TypeId}{z:Value}{size bytes:Nat}(T:gQ P t e z size bytes):P.cellsOf e=size:=by
 obtain⟨i,hi,hz,hs,hb⟩:=info_parts T.info;simp[Program.cellsOf,hi,hs]
theorem gQ.isSome{P:Program}{t e:TypeId}{z:Value}{size bytes:Nat}(T:gQ P t e z size bytes):(P.info? e).isSome=true:=by
 obtain⟨i,hi,_⟩:=info_parts T.info;simp[hi]
abbrev ints(l:List Int):List Value:=l.map (Value.int .i64)
structure gz(w:World)(a:Option Addr)(l:List Int):Prop where
 row:Row w a (ints l)
 len:l.length<=9223372036854775807
theorem gz.nil(w:World)(a:Option Addr):gz w a []:=⟨Row.nil _ _,by simp⟩
theorem gz.cell{w:World}{a:Option Addr}{l:List Int}(h:gz w a l)(k:Nat)(hk:k<l.length):w.cell? ⟨bk a,fo a+k,none⟩=some (.int .i64 l[k]):=by
 have:=h.row.cell k (by simpa using hk);simpa[hk]using this
theorem gz.below{w w':World}{a:Option Addr}{l:List Int}(h:gz w a l)(hb:Below w.heap.size w w'):gz w' a l:=⟨h.row.below hb,h.len⟩
theorem gz.drewN{w:World}{a:Option Addr}{l:List Int}(h:gz w a l)(n:Nat):gz (w.drewN n) a l:=h.below (below_drewN _ _)
theorem gz.idx{P:Program}{w:World}{a:Option Addr}{l:List Int}{t e bytes:Nat}{z:Value}(h:gz w a l)(T:gQ P t e z 1 bytes)(k:Nat)(hk:k<l.length):
 ∀c w',(amX t (.slice a l.length c) (.int .i64 k)).run P w'= .ok (.pointer (some ⟨bk a,fo a+k,none⟩)) w':=by
 intro c;have:=sC (c:=c) (n:=l.length) (m:=1) h.row T.j4 T.cells T.isSome (by simp) (by omega) k hk .i64;simpa using this
theorem gz.drop{w:World}{a:Option Addr}{l:List Int}(h:gz w a l)(k:Nat)(stay:Prop)[Decidable stay](hs:stay->l.length<=k\/k=0):gz w (lC a stay k) (l.drop k):=by
 refine⟨?_,by have:=h.len;simp;omega⟩;have:=h.row.drop k stay (by simpa using hs);simpa[ints,List.map_drop]using this
theorem gz.take{w:World}{a:Option Addr}{l:List Int}(h:gz w a l)(k:Nat):gz w a (l.take k):=by
 refine⟨?_,by have:=h.len;simp;omega⟩;have:=h.row.take k;simpa[ints,List.map_take]using this
theorem gz.M0{w:World}{a:Option Addr}{l r:List Int}(h:gz w a (l++r)):gz w a l:=by
 have:=h.take l.length;simpa using this
def Own(w:World)(B E size:Nat)(a:Option Addr)(n c:Nat)(xs:List Value):Prop:=w.ownsRow B E size (.slice a n c) n xs
theorem Own.nil(w:World)(B E size:Nat):Own w B E size none 0 0 []:=World.ownsRow_nil _ _ _ _
theorem Own.row{w:World}{B E size n c:Nat}{a:Option Addr}{xs:List Value}(h:Own w B E size a n c xs):Row w a xs:=by
 obtain⟨h1,h2⟩:=h;rcases h2 with⟨h2,rfl⟩|⟨g,cap,cur,hv,hg,hh,hn,hc,hs,hx⟩
 ·have:xs=[]:=amN (by omega)
  subst this;exact Row.nil _ _
 ·cases hv
  refine⟨fun _=>rfl,fun i hi=>?_⟩;simp only[fk,gb,amZ];subst hx;simp only[am4,hh];simp at hi⊢;rw[List.getElem?_take_of_lt (by omega)];simp
theorem Own.lt{w:World}{B E size n c:Nat}{a:Option Addr}{xs:List Value}(h:Own w B E size a n c xs)(ha:a≠none):B<=bk a/\bk a<w.heap.size:=by
 obtain⟨h1,h2⟩:=h;rcases h2 with⟨h2,rfl⟩|⟨g,cap,cur,hv,hg,hh,hn,hc,hs,hx⟩
 ·cases h2;exact absurd rfl ha
 ·cases hv
  refine⟨hg,?_⟩;simp only[fk];rcases amR g w.heap.size with h'|h'
  ·exact h'
  ·rw[amM h']at hh;cases hh
theorem Own.cap{w:World}{B E size n c:Nat}{a:Option Addr}{xs:List Value}(h:Own w B E size a n c xs):n<=c/\c<=maxLen/\xs.length=n*size:=by
 obtain⟨h1,h2⟩:=h;rcases h2 with⟨h2,rfl⟩|⟨g,cap,cur,hv,hg,hh,hn,hc,hs,hx⟩
 ·cases h2;exact⟨amS _,Nat.zero_le _,h1⟩
 ·cases hv;exact⟨hn,hc,h1⟩
theorem Own.below{w w':World}{B E size n c:Nat}{a:Option Addr}{xs:List Value}(h:Own w B E size a n c xs)(hb:Below w.heap.size w w'):Own w' B E size a n c xs:=by
 obtain⟨h1,h2⟩:=h;refine⟨h1,?_⟩;rcases h2 with⟨h2,rfl⟩|⟨g,cap,cur,hv,hg,hh,r⟩
 ·exact .inl ⟨h2,rfl⟩
 ·refine .inr ⟨g,cap,cur,hv,hg,?_,r⟩
  rw[hb.block g ?_];exact hh;rcases amR g w.heap.size with h'|h'
  ·exact h'
  ·rw[amM h']at hh;cases hh
theorem Own.mono{w:World}{B B' E size n c:Nat}{a:Option Addr}{xs:List Value}(h:Own w B E size a n c xs)(hB:B'<=B):Own w B' E size a n c xs:=by
 obtain⟨h1,h2⟩:=h;refine⟨h1,?_⟩;rcases h2 with h2|⟨g,cap,cur,hv,hg,r⟩
 ·exact .inl h2
 ·exact .inr ⟨g,cap,cur,hv,by omega,r⟩
theorem Own.kept{w w':World}{B E size n c:Nat}{a:Option Addr}{xs:List Value}{r:Option Nat}(h:Own w B E size a n c xs)(hg:w.grownBy w' r)(hne:a=none\/some (bk a)≠r):Own w' B E size a n c xs:=by
 refine World.ownsRow.kept h hg ?_;cases a with
 |none=>exact .inl rfl
 |some a=> right;rcases hne with h|h;·cases h
           ·simpa[Value.ownBlock,bk]using h
section
set_option linter.unusedSectionVars false
variable {P:Program} {t e m bytes:Nat} {z:Value} (T:gQ P t e z m bytes) (a:Option Addr) (n c:Nat)
include T
theorem VB(k:Nat)(hk:k<=n)(kk:IntKind):
 ∀w',(amP t (.slice a n c) (some (.int kk k)) none none).run P w'= .ok (.slice (lC a (c=k) (k*m)) (n-k) (c-k)) w':=by
 intro w';have h1:=T.j4;obtain⟨i,hi,-, hsz, -⟩:=info_parts T.info;have hkk:(0:Int)<=(k:Int)/\(k:Int)<=(n:Int):=by omega
 simp[amP,Instr.slice,am3,am5,asIntOf,run_underlying h1,sizeOf,typeInfo,hi,hsz,hkk,lC,hk]
theorem aju(k:Nat)(hk:k<=c)(kk:IntKind):
 ∀w',(amP t (.slice a n c) none (some (.int kk k)) none).run P w'= .ok (.slice a k c) w':=by
 intro w';have h1:=T.j4;obtain⟨i,hi,-, hsz, -⟩:=info_parts T.info;have hkk:(0:Int)<=(k:Int)/\(k:Int)<=(c:Int):=by omega
 cases a<;>simp[amP,Instr.slice,am3,am5,asIntOf,run_underlying h1,sizeOf,typeInfo,hi,hkk,Addr.add,hk]
end
def pP(a b:Option Addr):Prop:=a=none\/b=none\/bk a≠bk b
theorem pP.symm{a b:Option Addr}(h:pP a b):pP b a:=by
 rcases h with h|h|h
 ·exact .inr (.inl h)
 ·exact .inl h
 ·exact .inr (.inr (Ne.symm h))
structure Step(w w':World)(sa a':Option Addr):Prop where
 grown:w.grownBy w' (sa.map (·.block))
 new:a'=sa\/w.heap.size<=bk a'
theorem Own.step{w w':World}{B E size n c:Nat}{r sa a':Option Addr}{xs:List Value}(h:Own w B E size r n c xs)(hs:Step w w' sa a')(hap:pP r sa):Own w' B E size r n c xs/\pP r a':=by
 refine⟨h.kept hs.grown ?_,?_⟩
 ·rcases hap with h1|h1|h1
  ·exact .inl h1
  ·subst h1;cases r<;>simp
  ·cases sa with
   |none=>cases r<;>simp
   |some x=>right;simpa[bk]using h1
 ·rcases hs.new with h1|h1
  ·subst h1;exact hap
  ·cases r with
   |none=>exact .inl rfl
   |some x=>have:=(h.lt (by simp)).2;exact .inr (.inr (by omega))
theorem Step.below{w0 w w':World}{B E size n c:Nat}{sa a':Option Addr}{xs:List Value}(hs:Step w w' sa a')(hown:Own w B E size sa n c xs)(hb:Below B w0 w)(hB:B<=w.heap.size):Below B w0 w':=by
 refine hb.grown hs.grown hB ?_;intro k hk;cases sa with
 |none=>cases hk
 | some x=>
   have:=(hown.lt (by simp)).1;simp only[am7,Option.some.injEq]at hk;subst hk;simpa[bk]using this
theorem Row.step{w w':World}{a sa a':Option Addr}{l:List Value}(h:Row w a l)(hs:Step w w' sa a')(hne:l=[]\/sa=none\/bk a≠bk sa):Row w' a l:=by
 rcases hne with h1|hne
 ·subst h1;exact Row.nil _ _
 ·refine⟨h.head,fun i hi=>?_⟩
  have h1:=h.cell i hi;rw[amK hi]at h1⊢;refine hs.grown.cell h1 ?_;cases sa with
  |none=>simp
  |some x=> rcases hne with h2|h2
            ·cases h2
            ·simpa[bk]using h2
theorem abM{w w':World}{r:Option Nat}(h:w.grownBy w' none):w.grownBy w' r:=
 ⟨h.os,h.tape,h.output,h.size,fun k hk _=>h.block k hk (by simp)⟩
def kG(w w':World)(sa:Option Addr)(c:Nat)(a':Option Addr)(c':Nat):Prop:=
 (a'=sa/\c'=c/\w.grownBy w' (sa.map (·.block)))\/(w.heap.size<=bk a'/\w.grownBy w' none)
theorem kG.step{w w':World}{sa a':Option Addr}{c c':Nat}(h:kG w w' sa c a' c'):Step w w' sa a':=by
 rcases h with⟨h1,h2,h3⟩|⟨h1,h2⟩
 ·exact⟨h3,.inl h1⟩
 ·exact⟨abM h2,.inr h1⟩
theorem kG.below{w0 w w':World}{B E size n c c':Nat}{sa a':Option Addr}{xs:List Value}(hs:kG w w' sa c a' c')(hown:Own w B E size sa n c xs)(hb:Below B w0 w)(hB:B<=w.heap.size):Below B w0 w':=hs.step.below hown hb hB
theorem Own.front{w:World}{B E size n m c:Nat}{a:Option Addr}{xs ys:List Value}(h:Own w B E size a (n+m) c (xs++ys))(hx:xs.length=n*size):Own w B E size a n c xs:=by
 refine⟨hx,?_⟩;rcases h.2 with⟨h2,h0⟩|⟨g,cap,cur,hv,hg,hh,hn,hcm,hs,ht⟩
 ·simp only[Value.slice.injEq]at h2
  obtain⟨rfl,h3,rfl⟩:=h2;obtain rfl:n=0:=by omega
  exact .inl ⟨rfl,rfl⟩
 ·cases hv
  refine .inr ⟨g,c,cur,rfl,hg,hh,by omega,hcm,hs,?_⟩;have h1:n*size<=(n+m)*size:=Nat.mul_le_mul_right _ (by omega)
  have h2:(cur.toList.take ((n+m)*size)).take (n*size)=cur.toList.take (n*size):=by
   rw[List.take_take,Nat.min_eq_left h1]
  rw[<-h2,ht,<-hx,List.take_left]
theorem Own.qd{w w':World}{B E size n m c c':Nat}{sa a':Option Addr}{xs ys:List Value}(h:Own w B E size sa n c xs)(hg:kG w w' sa c a' c')(h':Own w' B E size a' (n+m) c' (xs++ys)):Own w' B E size sa n c xs:=by
 rcases hg with⟨rfl,rfl,_⟩|⟨_,h2⟩
 ·exact h'.front h.cap.2.2
 ·exact h.kept h2 (by cases sa<;>simp)
theorem Step.refl(w:World)(a:Option Addr):Step w w a a:=⟨am0 _ _,.inl rfl⟩
theorem Im{u v w:World}{r:Option Nat}(h1:u.grownBy v r)(h2:v.grownBy w r):u.grownBy w r:=
 ⟨h2.os.trans h1.os,h2.tape.trans h1.tape,h2.output.trans h1.output,am1 h1.size h2.size,fun k hk hne=>(h2.block k (Nat.lt_of_lt_of_le hk h1.size) hne).trans (h1.block k hk hne)⟩
theorem Step.trans{u v w:World}{a a':Option Addr}(h1:Step u v a a)(h2:Step v w a a'):Step u w a a':=
 ⟨Im h1.grown h2.grown,by rcases h2.new with h|h;exact .inl h;right;have:=h1.grown.size;omega⟩
def Dg(w0:World)(a:Option Addr)(c:Nat)(a':Option Addr)(c':Nat):Prop:=(a'=a/\c'=c)\/w0.heap.size<=bk a'
theorem Dg.qd{w0 w w':World}{B E size n k m c c' c2:Nat}{a a' a2:Option Addr}{xs ys zs:List Value}(o0:Own w B E size a n c xs)(o1:Own w B E size a' (n+k) c' (xs++ys))(st:Step w0 w a a)(ha:a≠none->bk a<w0.heap.size)
 (tl:Dg w0 a c a' c') (g:kG w w' a' c' a2 c2) (o2:Own w' B E size a2 (n+k+m) c2 (xs++ys++zs)):Own w' B E size a n c xs/\Step w0 w' a a/\Dg w0 a c a2 c2:=by
 have hsz:=st.grown.size
 have Wa:Dg w0 a c a2 c2:=by
  rcases g with⟨rfl,rfl,_⟩|⟨h1,_⟩
  ·exact tl
  ·exact .inr (by omega)
 rcases tl with⟨rfl,rfl⟩|hn
 ·exact⟨(o1.qd g o2).front o0.cap.2.2,⟨Im st.grown g.step.grown,.inl rfl⟩,Wa⟩
 ·have hne:a=none\/some (bk a)≠a'.map (·.block):=by
   cases a with
   |none=>exact .inl rfl
   | some x=>
     right
     have h1:=ha (by simp);cases a' with
     |none=>simp
     |some y=>simp[bk]at h1 hn ⊢; omega
  refine⟨o0.kept g.step.grown hne,⟨⟨g.step.grown.os.trans st.grown.os,g.step.grown.tape.trans st.grown.tape,g.step.grown.output.trans st.grown.output,am1 hsz g.step.grown.size,fun j hj hjn=>?_⟩,.inl rfl⟩,Wa⟩;rw[g.step.grown.block j (by omega) ?_]
  ·exact st.grown.block j hj hjn
  ·cases a' with
   |none=>simp
   |some y=>simp[bk]at hn ⊢; omega
theorem VA{P:Program}{w:World}{t e:TypeId}{z:Value}{size bytes:Nat}(T:gQ P t e z size bytes)(ty:TypeId)
 {B n c:Nat} {sa:Option Addr} {xs:List Value} (hown:Own w B e size sa n c xs)
 {xa:Option Addr} {m xc:Nat} {ys:List Value} (hrow:Row w xa ys) (hl:ys.length=m*size) (h1c: ∀u∈ys,u.oneCell'=true)
 (hbytes:(n+m)*bytes<=140737488355328) (hm:n+m<=maxLen) (hbase:B<=w.heap.size):
 ∃a' c' w',(Builtin.append_ #[t,t] ty #[.slice sa n c,.slice xa m xc]).run P w= .ok (.slice a' (n+m) c') w'/\Own w' B e size a' (n+m) c' (xs++ys)/\kG w w' sa c a' c':=by
 obtain⟨i,hi,hz,hsize,hby⟩:=info_parts T.info;have hsz:=T.pos;have hblk:Value.ownBlock (.slice sa n c)=sa.map (·.block):=by cases sa<;>rfl
 by_cases hm0:m=0
 ·subst hm0
  have hys:ys=[]:=amN (by simpa using hl);subst hys;refine⟨sa,c,w,?_,by simpa using hown,.inl ⟨rfl,rfl,am0 _ _⟩⟩;have hcap:=hown.cap.1;cases xa<;>cases sa<;>simp[Builtin.append_,run_underlying T.j4,sizeOf,typeInfo,hi,Builtin.lenOf,Builtin.firstCells,hcap,loadCells,loadCellsFrom,storeCells]
 ·have hne:ys≠[]:=by
   intro e0;have hp:0<m*size:=Nat.mul_pos (Nat.pos_of_ne_zero hm0) hsz;rw[<-hl,e0]at hp;exact absurd hp (Nat.lt_irrefl 0)
  have hxa:=hrow.head hne
  have hnews: ∀j u,ys[j]? =some u->w.cell? ((⟨bk xa,fo xa,none⟩:Addr).add j)=some u:=by
   intro j u hj
   have hjl:j<ys.length:=by
    rcases amR j ys.length with h'|h'
    ·exact h'
    ·rw[List.getElem?_eq_none h']at hj;cases hj
   have:=hrow.cell j hjl;rw[hj]at this;rw[Addr.add_lit];exact this
  obtain⟨v',w',hr,hown',hgrow, -⟩:=run_append_own (P:=P) w B t ty e i z size bytes T.j4 hi hz hsize hby T.zs hsz _ n xs hown ⟨bk xa,fo xa,none⟩ m xc ys hl hnews h1c hm hbytes hbase;rw[<-hxa]at hr
  obtain⟨a',c',rfl⟩: ∃a' c',v'= .slice a' (n+m) c':=by
   rcases hown'.2 with⟨h2,h0⟩|⟨g,cap,cur,hv,_⟩
   ·omega
   ·exact⟨_,_,hv⟩
  refine⟨a',c',w',hr,hown',?_⟩;have acg:w.grownBy w' (sa.map (·.block)):=hblk▸hgrow;have hmx:n+m<=9223372036854775807:=by simpa[maxLen]using hm
  rcases hown.2 with⟨h2,h0⟩|⟨g,cap,cur,hv,tJ,hg,hnc,hcm,hcs,QN⟩
  ·cases h2
   have hr2:=run_append_nil (P:=P) w t ty e i z T.j4 hi hz ⟨bk xa,fo xa,none⟩ m xc ys (by rw[hsize];exact hl) hnews (by omega) (by omega) (by simp at hbytes;rw[hby];omega);rw[<-hxa,hr]at hr2;simp at hr2
   right;rw[hr2.1.1,hr2.2];exact⟨by simp,⟨rfl,rfl,rfl,by simp,fun k hk _=>Below.heap_alloc w.drew _ k hk⟩⟩
  ·cases hv
   by_cases hroom:n+m<=c
   ·obtain⟨w2,hr2,_⟩:=run_append_fits (P:=P) w B t ty e i size T.j4 hi hsize g n c xs hown ⟨bk xa,fo xa,none⟩ m xc ys hl hnews h1c hroom
    rw[<-hxa,hr]at hr2;simp at hr2
    left;exact⟨hr2.1.1,hr2.1.2,acg⟩
   ·have hr2:=run_append_grow (P:=P) w t ty e i z T.j4 hi hz ⟨g,0,none⟩ n c xs (by rw[hown.1,hsize]) (World.ownsRow.cells hown (g:=g) rfl) ⟨bk xa,fo xa,none⟩ m xc ys (by rw[hsize];exact hl) hnews (by omega) (by omega) (growslice_fits (by omega) (by rw[hby];exact hbytes))
    rw[<-hxa,hr]at hr2;simp at hr2
    right;rw[hr2.1.1,hr2.2];exact⟨by simp,⟨rfl,rfl,rfl,by simp,fun k hk _=>Below.heap_alloc w.drew _ k hk⟩⟩
section
variable {P:Program} {w:World} {ops:Array Oper} {rest:List Oper} {o:Oper} {a:Act} {Q:Exit->Act->World->Prop} {t e:TypeId} {z:Value} {size bytes:Nat} (T:gQ P t e z size bytes)
include T
theorem LW(s x:Operand)(hgd:o.guard=none)(ho:o.op= .call { callee:=.builtin .append,args:=#[s,x],argTypes:=#[t,t] })
 {B n c:Nat} {sa:Option Addr} {xs:List Value} (hs:a.eval s= .slice sa n c) (hown:Own w B e size sa n c xs)
 {xa:Option Addr} {m xc:Nat} {ys:List Value} (hx:a.eval x= .slice xa m xc) (hrow:Row w xa ys) (hl:ys.length=m*size) (h1c: ∀u∈ys,u.oneCell'=true)
 {w0:World} (hB:Below B w0 w) (o8:B<=w.heap.size) (hbytes:(n+m)*bytes<=140737488355328) (hm:n+m<=maxLen)
 (h: ∀a' c' w',Own w' B e size a' (n+m) c' (xs++ys)->kG w w' sa c a' c'->Below B w0 w'->wpList P ops Q rest (a.put o.dst (.slice a' (n+m) c')) w'):wpList P ops Q (o::rest) a w:=by
 refine wpList_plain hgd fun K hK=>?_
 obtain⟨a',c',w',hrun,h1,h2⟩:=VA T o.type hown (xc:=xc) hrow hl h1c hbytes hm o8;unfold Oper.wp;simp[execOp,ho,resolve,invoke,builtin,hs,hx,hrun,Result.andThen];exact hK _ _ (h a' c' w' h1 h2 (h2.below hown hB o8))
theorem wO(s x:Operand)(hgd:o.guard=none)(ho:o.op= .call { callee:=.builtin .append,args:=#[s,x],argTypes:=#[t,t] })
 {B n c:Nat} {sa:Option Addr} {xs:List Value} (hs:a.eval s= .slice sa n c) (hown:Own w B e size sa n c xs)
 {us:Array Value} (hx:a.eval x= .slice (some ⟨w.heap.size,0,none⟩) 1 1) (hl:us.size=size) (h1c: ∀u∈us.toList,u.oneCell'=true)
 {w0:World} (hB:Below B w0 w) (o8:B<=w.heap.size) (hbytes:(n+1)*bytes<=140737488355328) (hm:n+1<=maxLen)
 (h: ∀a' c' w',Own w' B e size a' (n+1) c' (xs++us.toList)->kG w w' sa c a' c'->Below B w0 w'->wpList P ops Q rest (a.put o.dst (.slice a' (n+1) c')) w'):wpList P ops Q (o::rest) a (w.alloc (.cells us e)):=by
 have hal:Below w.heap.size w (w.alloc (.cells us e)):=(Below.refl _ _).alloc (amS _) _
 have hrow:Row (w.alloc (.cells us e)) (some ⟨w.heap.size,0,none⟩) us.toList:=by
  refine⟨fun _=>rfl,fun i hi=>?_⟩;simp at hi;have hh:=heap_alloc_new w (.cells us e);simp only[am4,fk,gb,hh];simp
 refine LW T s x hgd ho hs (hown.below hal) hx hrow (by simpa using hl) h1c (hB.alloc o8 _) (by simp;omega) hbytes hm ?_;intro a' c' w' h1 h2 h3;refine h a' c' w' h1 ?_ h3
 have key: ∀{r},(w.alloc (.cells us e)).grownBy w' r->w.grownBy w' r:=by
  intro r hg;refine⟨hg.os,hg.tape,hg.output,am1 hal.size hg.size,fun k hk hne=>?_⟩;rw[hg.block k (by simp;omega) hne];exact hal.block k hk
 rcases h2 with⟨h4,h5,h6⟩|⟨h4,h5⟩
 ·exact .inl ⟨h4,h5,key h6⟩
 ·exact .inr ⟨by simp at h4;omega,key h5⟩
theorem zh(l c:Operand)(hgd:o.guard=none)(ho:o.op=Op.makeSlice t l c)(N:Nat){L C:Int}(hl:a.eval l= .int .i64 L)(hc:a.eval c= .int .i64 C)(hL:L=(N:Int))(hC:C=(N:Int))(hbytes:bytes*N<=281474976710656)(hm:N<=maxLen)
 {B:Nat} {w0:World} (hB:Below B w0 w) (o8:B<=w.heap.size)
 (h: ∀a' w',Own w' B e size a' N N (madeCells z.cells (N*size)).toList->Step w w' none a'->Below B w0 w'->wpList P ops Q rest (a.put o.dst (.slice a' N N)) w'):wpList P ops Q (o::rest) a w:=by
 obtain⟨i,hi,hz,hsize,hby⟩:=info_parts T.info;refine wpList_make_full w hgd l c t ho B e i z size T.j4 hi hz hsize .i64 .i64 L C N hl hc hL hC (by rw[hby];exact hbytes) hm o8 ?_;intro w' h1 h2;exact h _ w' h1 ⟨h2,.inr (amS _)⟩ (hB.grown h2 o8 (by intro k hk;cases hk))
end
abbrev cI(w:World)(B:Nat)(a:Option Addr)(n c:Nat)(l:List Int):Prop:=Own w B 3 1 a n c (ints l)
theorem Own.ints{w:World}{B E n c:Nat}{a:Option Addr}{l:List Int}(h:Own w B E 1 a n c (ints l)):gz w a l/\n=l.length:=by
 have h1:=h.cap;have h2:l.length=n:=by simpa using h1.2.2
 exact⟨⟨h.row,by have:=h1.1;have:=h1.2.1;unfold maxLen at *; omega⟩,h2.symm⟩
theorem J1(n:Nat):(madeCells #[Value.int .i64 0] n).toList=ints (List.replicate n 0):=
 (toList_madeCells_one _ n).trans (by simp[ints])
theorem Own.set{w:World}{B E size n c:Nat}{a:Option Addr}{xs:List Value}(h:Own w B E size a n c xs)(ha:a≠none)(j:Nat)(u:Value):
 Own (w.setCell ⟨bk a,fo a+j,none⟩ u) B E size a n c (xs.set j u)/\Step w (w.setCell ⟨bk a,fo a+j,none⟩ u) a a:=by
 have h':=h;rcases h.2 with⟨h2,h0⟩|⟨g,cap,cur,hv,_⟩
 ·cases h2;exact absurd rfl ha
 ·cases hv
  have:=World.ownsRow.stored h' j u;simp only[fk,gb,amZ];exact⟨this.1,⟨by simpa using this.2,.inl rfl⟩⟩
theorem Own.frozen{w:World}{B E size n c:Nat}{a:Option Addr}{xs:List Value}(h:Own w B E size a n c xs)(ha:a≠none)(j:Nat):w.frozen? ⟨bk a,fo a+j,none⟩=false:=by
 have h':=h;rcases h.2 with⟨h2,h0⟩|⟨g,cap,cur,hv,_⟩
 ·cases h2;exact absurd rfl ha
 ·cases hv
  simp only[fk,gb,amZ];exact World.ownsRow.frozenAt h' j
theorem Own.some{w:World}{B E size n c:Nat}{a:Option Addr}{xs:List Value}(h:Own w B E size a n c xs)(hn:0<n):a≠none:=by
 rcases h.2 with⟨h2,h0⟩|⟨g,cap,cur,hv,_⟩
 ·omega
 ·cases hv;simp
theorem VD{P:Program}(ts:Array TypeId)(ty:TypeId)(k:IntKind)(x y m:Int)(h:m=if y<x then y else x): ∀w,(Builtin.min_ ts ty #[.int k x,.int k y]).run P w= .ok (.int k m) w:=by
 intro w;subst h;simp[Builtin.min_,Builtin.min2]
theorem VC{P:Program}(ts:Array TypeId)(ty:TypeId)(k:IntKind)(x y m:Int)(h:m=if y>x then y else x): ∀w,(Builtin.max_ ts ty #[.int k x,.int k y]).run P w= .ok (.int k m) w:=by
 intro w;subst h;simp[Builtin.max_,Builtin.max2]
theorem bJ{k:IntKind}{a b:Int}(h:a=b):Ending.returned (Value.int k a)= .returned (.int k b):=by rw[h]
theorem aJ{a b:Bool}(h:a=b):Ending.returned (Value.bool a)= .returned (.bool b):=by rw[h]
def ax(w:World)(v:Value)(e:Ending)(w':World):Prop:=e= .returned v/\Below w.heap.size w w'
def QW(w w':World):Prop:= ∃n,w'=w.drewN n
theorem QW.refl(w:World):QW w w:=⟨0,rfl⟩
theorem QW.d{w w':World}(h:QW w w')(n:Nat):QW w (w'.drewN n):=by
 obtain⟨m,rfl⟩:=h;exact⟨m+n,by simp[World.drewN,Nat.add_assoc]⟩
theorem QW.trans{w w' w'':World}(h:QW w w')(h':QW w' w''):QW w w'':=by
 obtain⟨n,rfl⟩:=h';exact h.d n
theorem QW.below{w w':World}(h:QW w w'):Below w.heap.size w w':=by
 obtain⟨n,rfl⟩:=h;exact below_drewN w n
theorem ay{a b c:World}(h:Below a.heap.size a b)(h':Below b.heap.size b c):Below a.heap.size a c:=h.trans (h'.mono h.size)
def sY(w:World)(v:Value)(e:Ending)(w':World):Prop:=e= .returned v/\QW w w'
end Go.Proofs.YtkbbgjloifmmbaaGreatDoor
namespace Go.Proofs.YtkbbgjloifmmbaaGreatDoor
open _root_.List renaming getLast?_eq_some_getLast->amJ,getElem?_eq_getElem->amK,getLast?_cons->amL,eq_nil_of_length_eq_zero->amN,dropWhile_cons->amO,mem_of_find?_eq_some->amQ,drop_eq_nil_of_le->amT,reverse_reverse->amU,mem_of_getLast?->amV,getLast?_append->amW,mem_cons->amY,head?_reverse->am2,range->am9,find?_some->ana
open _root_.Array renaming getElem?_eq_none->amM
open _root_.Go.Instr renaming sliceAt->amP,indexAt->amX,sliceBounds->am3,sliceBound->am5
open _root_.Nat renaming lt_or_ge->amR,le_refl->amS,zero_add->amZ,le_trans->am1
open _root_.Go.World.grownBy renaming refl->am0
open _root_.Go.World renaming cell?->am4
open _root_.Bool renaming and_eq_true->am6
open _root_.Option renaming map_some->am7
open Go.ChangeShapes Go.WideShapes Go.ChangeAt Go.RowKit
theorem adj{x:Int}(h:(Lit.int .i64 x).wf=true): -9223372036854775808<=x/\x<=9223372036854775807:=by
 simpa[Lit.wf,IntKind.min,IntKind.max,IntKind.signed,IntKind.bits]using h
end Go.Proofs.YtkbbgjloifmmbaaGreatDoor
namespace Go.Proofs.YtkbbgjloifmmbaaGreatDoor
open _root_.List renaming getLast?_eq_some_getLast->amJ,getElem?_eq_getElem->amK,getLast?_cons->amL,eq_nil_of_length_eq_zero->amN,dropWhile_cons->amO,mem_of_find?_eq_some->amQ,drop_eq_nil_of_le->amT,reverse_reverse->amU,mem_of_getLast?->amV,getLast?_append->amW,mem_cons->amY,head?_reverse->am2,range->am9,find?_some->ana
open _root_.Array renaming getElem?_eq_none->amM
open _root_.Go.Instr renaming sliceAt->amP,indexAt->amX,sliceBounds->am3,sliceBound->am5
open _root_.Nat renaming lt_or_ge->amR,le_refl->amS,zero_add->amZ,le_trans->am1
open _root_.Go.World.grownBy renaming refl->am0
open _root_.Go.World renaming cell?->am4
open _root_.Bool renaming and_eq_true->am6
open _root_.Option renaming map_some->am7
abbrev Tx:=List UInt8
def aj(c:UInt8):Bool:=c==32||c==9||c==10||c==13
def ah(l:Tx):Tx:=Lib.trimS l [32,9,10,13]
def lD(n:Nat):UInt8:=UInt8.ofNat (48+n%10)
def cR(n:Nat):Tx:=if n<10 then[lD n]else if n<100 then[lD (n/10),lD n]else if n<1000 then[lD (n/100),lD (n/10),lD n]else[lD (n/1000),lD (n/100),lD (n/10),lD n]
def gD(n:Int):Tx:=if n<0 then 45::cR n.natAbs else cR n.toNat
def bH(n:Nat):Tx:=120::cR n
def bP(s:Tx):Option Nat:=(am9 32).find? fun n=>bH n==s
def aD(c:UInt8):Tx->List Tx
 |[]=>[[]]
 | b::r=>if b==c then[]::aD c r else match aD c r with
   |[]=>[[b]]
   |x::t=>(b::x)::t
def cG(c:UInt8):Bool:=(97<=c&&c<=122)||(65<=c&&c<=90)
def aR(c:UInt8):Bool:=48<=c&&c<=57
def bU(c:UInt8):Bool:=cG c||aR c||c==95
def az:Tx->Bool
 |[]=>false
 |c::r=>decide (r.length<32)&&cG c&&r.all bU
structure Ins where
 op:Int
 d:Int
 a:Int
 b:Int
 ag:Int
 loc:Tx
 label:Tx
 ai:Int
 deriving DecidableEq
def Rh:Ins:=⟨0,0,0,0,0,[],[],0⟩
def kE(i:Ins):Ins:=
 if i.op=6 then⟨6,i.d,i.a,0,0,[],[],0⟩
 else if i.op=7 then⟨7,0,i.a,i.b,0,[],[],0⟩
 else if i.op=8 then⟨8,i.d,i.a,0,i.ag,[],[],0⟩
 else if i.op=9 then⟨9,i.d,i.a,i.b,0,[],[],0⟩
 else if i.op=10 then⟨10,i.d,i.a,i.b,0,[],[],0⟩
 else if i.op=11 then⟨11,0,i.a,i.b,0,[],i.label,0⟩
 else if i.op=12 then⟨12,0,0,0,0,[],i.label,0⟩
 else if i.op=13 then⟨13,0,0,0,0,[],[],i.ai⟩
 else⟨i.op,0,0,0,0,[],[],0⟩
def dn(i:Ins):Bool:=
 if i.op=8 then decide (-2048<=i.ag)&&decide (i.ag<=2047)
 else if i.op=11\/i.op=12 then az i.label
 else if i.op=13 then decide (2<=i.ai)&&decide (i.ai<=11)
 else decide (6<=i.op)&&decide (i.op<=13)
def bX(n:Int):Bool:=decide (0<=n)&&decide (n<=31)
def aU(i:Ins):Bool:=dn i&&decide (i=kE i)&&bX i.d&&bX i.a&&bX i.b
def eR(i:Ins):Int:=if aU i then 0 else 91
def rT(n:Int):Tx:=bH n.toNat
def iN(n:Int):Tx:=if n=0 then[114]else if n=1 then[119]else[114,119]
def bV(i:Ins):Tx:=
 if i.op=6 then[108,119,32]++rT i.d++[44,48,40]++rT i.a++[41]
 else if i.op=7 then[115,119,32]++rT i.b++[44,48,40]++rT i.a++[41]
 else if i.op=8 then[111,114,105,32]++rT i.d++[44]++rT i.a++[44]++gD i.ag
 else if i.op=9 then[120,111,114,32]++rT i.d++[44]++rT i.a++[44]++rT i.b
 else if i.op=10 then[97,100,100,32]++rT i.d++[44]++rT i.a++[44]++rT i.b
 else if i.op=11 then[98,110,101,32]++rT i.a++[44]++rT i.b++[44]++i.label
 else if i.op=12 then i.label++[58]
 else if i.ai=2 then[102,101,110,99,101,46,116,115,111]
 else[102,101,110,99,101,32]++iN ((i.ai-3)/3)++[44]++iN ((i.ai-3)%3)
def eH(s:Tx):Option Nat:=
 let t:=ah s
 if t.contains 40&&t.getLast?==some 41&&ah (t.takeWhile (· != 40))==[48]then bP (ah ((t.dropWhile (· != 40)).drop 1).dropLast)else none
def nr(s:Tx):Option Int:=((am9 4096).find? fun(n:Nat)=>gD ((n:Int)-2048)==s).map fun(n:Nat)=>(n:Int)-2048
def nP(s:Tx):Option Int:=if s=[114]then some 0 else if s=[119]then some 1 else if s=[114,119]then some 2 else none
def dZ(op:Tx)(l:List Tx):Option Ins:=
 if op=[108,119]then match l with
  | [x,y]=>match bP x,eH y with
    |some d,some a=>some ⟨6,d,a,0,0,[],[],0⟩
    |_,_=>none
  |_=>none
 else if op=[115,119]then match l with
  | [x,y]=>match bP x,eH y with
    |some d,some a=>some ⟨7,0,a,d,0,[],[],0⟩
    |_,_=>none
  |_=>none
 else if op=[102,101,110,99,101]then match l with
  | [x,y]=>match nP x,nP y with
    |some k,some j=>some ⟨13,0,0,0,0,[],[],3+3*k+j⟩
    |_,_=>none
  |_=>none
 else match l with
  | [x,y,z]=>match bP x,bP y with
    | some a,some b=>
      if op=[98,110,101]then(if az z then some ⟨11,0,a,b,0,[],z,0⟩else none)
      else if op=[111,114,105]then(match nr z with
       |some n=>some ⟨8,a,b,0,n,[],[],0⟩
       |none=>none)
      else match bP z with
       |some c=>if op=[120,111,114]then some ⟨9,a,b,c,0,[],[],0⟩else if op=[97,100,100]then some ⟨10,a,b,c,0,[],[],0⟩else none
       |none=>none
    |_,_=>none
  |_=>none
def eD(s:Tx):Option Ins:=
 if 262144<s.length then none
 else
  let t:=ah s
  if t=[102,101,110,99,101,46,116,115,111]then some ⟨13,0,0,0,0,[],[],2⟩
  else if t.getLast?=some 58 then(if az (ah t.dropLast)then some ⟨12,0,0,0,0,[],ah t.dropLast,0⟩else none)
  else dZ (t.takeWhile fun c=> !aj c) ((aD 44 (t.dropWhile fun c=> !aj c)).map ah)
theorem Nr(c:UInt8):([32,9,10,13]:Tx).contains c=aj c:=by
 unfold aj;simp[List.contains,List.elem,Bool.or_assoc];cases h1:c==32<;>cases h2:c==9<;>cases h3:c==10<;>cases h4:c==13<;>simp_all
theorem akI(l:Tx):Lib.trimLeftS l [32,9,10,13]=l.dropWhile aj:=by
 unfold Lib.trimLeftS;congr 1;funext c;exact Nr c
theorem akK(l:Tx):Lib.trimRightS l [32,9,10,13]=(l.reverse.dropWhile aj).reverse:=by
 unfold Lib.trimRightS;congr 2;funext c;exact Nr c
theorem sF(l:Tx):ah l=((l.reverse.dropWhile aj).reverse).dropWhile aj:=by
 unfold ah Lib.trimS;rw[akK,akI]
theorem xL{α:Type}{p:α->Bool}: ∀{l:List α},(∀c,l.head?=some c->p c=false)->l.dropWhile p=l
 |[],_=>rfl
 |c::r,h=>by rw[amO];rw[if_neg (by rw[h c rfl];simp)]
theorem js{α:Type}{p:α->Bool}: ∀{l:List α} {c:α},(l.dropWhile p).head?=some c->p c=false
 |[],c,h=>by simp at h
 | b::r,c,h=>by
   rw[amO]at h
   by_cases hb:p b=true
   ·rw[if_pos hb]at h;exact js h
   ·rw[if_neg hb]at h;simp at h;subst h;simpa using hb
theorem BN{l:Tx}(h1: ∀c,l.head?=some c->aj c=false)(h2: ∀c,l.getLast?=some c->aj c=false):ah l=l:=by
 rw[sF,xL (l:=l.reverse) (by intro c hc;rw[am2]at hc;exact h2 c hc),amU,xL h1]
theorem akL(l:Tx)(b:UInt8)(hb:aj b=true)(h0:l≠[])(h1: ∀c,l.head?=some c->aj c=false)(h2: ∀c,l.getLast?=some c->aj c=false):ah (b::l)=l:=by
 rw[sF,xL (l:=(b::l).reverse),amU,amO,if_pos hb,xL h1];intro c hc;rw[am2,amL]at hc;obtain⟨x,hx⟩: ∃x,l.getLast?=some x:=⟨l.getLast h0,amJ h0⟩;rw[hx]at hc;simp at hc;subst hc;exact h2 x hx
theorem wF(c:UInt8): ∀(l:Tx),c∉l->aD c l=[l]
 |[],_=>rfl
 | b::r,h=>by
   simp only[amY,not_or]at h;unfold aD;rw[wF c r h.2,if_neg (by simpa using Ne.symm h.1)]
theorem wE(c:UInt8): ∀(l r:Tx),c∉l->aD c (l++c::r)=l::aD c r
 |[],r,_=>by simp[aD]
 | b::l,r,h=>by
   simp only[amY,not_or]at h;rw[List.cons_append]
   conv=>lhs;unfold aD
   rw[wE c l r h.2,if_neg (by simpa using Ne.symm h.1)]
theorem aiR: ∀n:Fin 32,bP (bH n.val)=some n.val:=by decide+kernel
theorem nv{n:Nat}(h:n<32):bP (bH n)=some n:=aiR ⟨n,h⟩
theorem KH{s:Tx}{n:Nat}(h:bP s=some n):n<32/\s=bH n:=by
 unfold bP at h;have h1:=ana h;have h2:=amQ h;simp at h1 h2;exact⟨h2,h1.symm⟩
def Cl(x:Tx):Prop:=x≠[]/\ ∀c∈x,aj c=false/\c≠44/\c≠58
instance (x:Tx):Decidable (Cl x):=by unfold Cl;infer_instance
theorem Cl.head{x:Tx}(h:Cl x): ∀c,x.head?=some c->aj c=false:=fun c hc=>(h.2 c (List.mem_of_head? hc)).1
theorem Cl.last{x:Tx}(h:Cl x): ∀c,x.getLast?=some c->aj c=false:=fun c hc=>(h.2 c (amV hc)).1
theorem Cl.comma{x:Tx}(h:Cl x):(44:UInt8)∉x:=fun hm=>(h.2 _ hm).2.1 rfl
theorem Cl.trim{x:Tx}(h:Cl x):ah x=x:=BN h.head h.last
theorem Cl.Wc{x:Tx}(h:Cl x):ah (32::x)=x:=akL x 32 (by decide) h.1 h.head h.last
theorem Cl.app{x y:Tx}(h:Cl x)(h':Cl y):Cl (x++y):=⟨by simp[h.1],fun c hc=>by rcases List.mem_append.1 hc with h1|h1;exact h.2 c h1;exact h'.2 c h1⟩
theorem Zu: ∀n:Fin 32,Cl (bH n.val):=by decide+kernel
theorem nK{n:Nat}(h:n<32):Cl (bH n):=Zu ⟨n,h⟩
theorem Ym: ∀n:Fin 32,eH ([48,40]++bH n.val++[41])=some n.val:=by decide+kernel
theorem MZ{n:Nat}(h:n<32):eH ([48,40]++bH n++[41])=some n:=Ym ⟨n,h⟩
def jn:Nat->Tx->Nat
 |a,[]=>a
 |a,c::r=>jn (10*a+(c.toNat-48)) r
def wL:Tx->Int
 |[]=>0
 |c::r=>if c=45 then -(jn 0 r:Int)else jn 0 (c::r)
theorem ak9: ∀a:Fin 64,∀b:Fin 64,wL (gD ((64*a.val+b.val:Nat)-2048))=(64*a.val+b.val:Nat)-2048:=by decide+kernel
theorem Wn{n:Int}(h1: -2048<=n)(h2:n<=2047):wL (gD n)=n:=by
 have:=ak9 ⟨(n+2048).toNat/64,by omega⟩ ⟨(n+2048).toNat%64,by omega⟩;simp only at this
 rwa[show((64*((n+2048).toNat/64)+(n+2048).toNat%64:Nat):Int)-2048=n by omega]at this
theorem Zt: ∀a:Fin 64,∀b:Fin 64,Cl (gD ((64*a.val+b.val:Nat)-2048)):=by decide+kernel
theorem Zs{n:Int}(h1: -2048<=n)(h2:n<=2047):Cl (gD n):=by
 have:=Zt ⟨(n+2048).toNat/64,by omega⟩ ⟨(n+2048).toNat%64,by omega⟩;simp only at this
 rwa[show((64*((n+2048).toNat/64)+(n+2048).toNat%64:Nat):Int)-2048=n by omega]at this
theorem Ey{s:Tx}{v:Int}(h:nr s=some v):s=gD v/\ -2048<=v/\v<=2047:=by
 unfold nr at h;cases hf:(am9 4096).find? fun(n:Nat)=>gD ((n:Int)-2048)==s with
 |none=>rw[hf]at h;simp at h
 | some k=>
   rw[hf]at h;have h1:=ana hf;have h2:=amQ hf;simp at h h1 h2;subst h;exact⟨h1.symm,by omega,by omega⟩
theorem Tg{n:Int}(h1: -2048<=n)(h2:n<=2047):nr (gD n)=some n:=by
 cases hn:nr (gD n)with
 | none=>
   unfold nr at hn;simp only[Option.map_eq_none_iff,List.find?_eq_none,List.mem_range,beq_iff_eq]at hn;have:=hn (n+2048).toNat (by omega);rw[show(((n+2048).toNat:Nat):Int)-2048=n by omega]at this;exact absurd rfl this
 | some v=>
   obtain⟨e,b1,b2⟩:=Ey hn;have:=congrArg wL e;rw[Wn h1 h2,Wn b1 b2]at this;rw[this]
theorem iU{x:Tx}(h:az x=true):Cl x/\x.length<=32:=by
 cases x with
 |nil=>simp[az]at h
 | cons c r=>
   simp only[az,am6,decide_eq_true_eq,List.all_eq_true]at h;obtain⟨⟨h1,h2⟩,h3⟩:=h
   have key: ∀y:UInt8,bU y=true->aj y=false/\y≠44/\y≠58:=by
    intro y hy;unfold bU cG aR at hy;simp only[Bool.or_eq_true,am6,decide_eq_true_eq,beq_iff_eq,UInt8.le_iff_toNat_le]at hy;unfold aj;refine⟨?_,?_,?_⟩
    ·simp only[Bool.or_eq_false_iff,beq_eq_false_iff_ne]
     refine⟨⟨⟨?_,?_⟩,?_⟩,?_⟩<;>rintro rfl<;>revert hy<;>decide
    ·rintro rfl;revert hy;decide
    ·rintro rfl;revert hy;decide
   refine⟨⟨by simp,fun y hy=>?_⟩,by simp;omega⟩;rcases amY.1 hy with rfl|hy
   ·exact key y (by unfold bU;rw[h2];rfl)
   ·exact key y (h3 y hy)
theorem yO{n:Int}(h:bX n=true): ∃k:Nat,k<32/\n=k:=by
 unfold bX at h;simp at h;exact⟨n.toNat,by omega,by omega⟩
theorem oh{k:Nat}(h:k<32):bX (k:Int)=true:=by unfold bX;simp;omega
theorem Uc(O body:Tx)(hO:O≠[]/\ ∀c∈O,aj c=false)(hb:body≠[])(hl: ∀c,body.getLast?=some c->aj c=false/\c≠58)(hlen:O.length+body.length<=1000)(hf:O++32::body≠[102,101,110,99,101,46,116,115,111]):
 eD (O++32::body)=dZ O ((aD 44 (32::body)).map ah):=by
 obtain⟨o,O',rfl⟩: ∃o O',O=o::O':=by cases O with
  |nil=>exact absurd rfl hO.1
  |cons o O'=>exact⟨o,O',rfl⟩
 have ho:aj o=false:=hO.2 o (by simp);obtain⟨z,hz⟩: ∃z,body.getLast?=some z:=⟨body.getLast hb,amJ hb⟩
 have yb:((o::O')++32::body).getLast?=some z:=by
  rw[amW,amL,hz];rfl
 have ht:ah ((o::O')++32::body)=(o::O')++32::body:=by
  refine BN (fun c hc=>?_) (fun c hc=>?_)
  ·simp at hc;subst hc;exact ho
  ·rw[yb]at hc;cases hc;exact(hl z hz).1
 unfold eD;rw[if_neg (by simp at hlen ⊢; omega)];simp only[ht];rw[if_neg hf,if_neg (by rw[yb];simpa using(hl z hz).2)]
 have htw:((o::O')++32::body).takeWhile (fun c=> !aj c)=o::O':=by
  rw[List.takeWhile_append_of_pos (by intro c hc;rw[hO.2 c hc];rfl)];simp[show aj 32=true by decide]
 have hdw:((o::O')++32::body).dropWhile (fun c=> !aj c)=32::body:=by
  rw[List.dropWhile_append_of_pos (by intro c hc;rw[hO.2 c hc];rfl)];simp[show aj 32=true by decide]
 rw[htw,hdw]
theorem ajT{x y:Tx}(hx:Cl x)(hy:(44:UInt8)∉y):(aD 44 (32::(x++44::y))).map ah=[x,ah y]:=by
 rw[show(32::(x++44::y):Tx)=(32::x)++44::y from rfl,wE 44 (32::x) y (by simp[hx.comma]),wF 44 y hy];simp[hx.Wc]
theorem ajU{x y z:Tx}(hx:Cl x)(hy:Cl y)(hz:Cl z):(aD 44 (32::(x++44::(y++44::z)))).map ah=[x,y,z]:=by
 rw[show(32::(x++44::(y++44::z)):Tx)=(32::x)++44::(y++44::z)from rfl,wE 44 (32::x) _ (by simp[hx.comma]),wE 44 y z hy.comma,wF 44 z hz.comma];simp[hx.Wc,hy.trim,hz.trim]
theorem El{x y:Tx}(hy:y≠[]):(x++y).getLast?=y.getLast?:=by
 rw[amW,amJ hy];rfl
theorem kU{n:Nat}(h:n<32):(bH n).length<=5:=by unfold bH cR;split<;>(try split)<;>(try split)<;>simp
theorem Dy(n:Int):(gD n).length<=5:=by unfold gD cR;split<;>split<;>(try split)<;>(try split)<;>simp
theorem Cl.ad3{x:Tx}(h:Cl x){c:UInt8}(hc:x.getLast?=some c):aj c=false/\c≠58:=⟨h.last c hc,(h.2 c (amV hc)).2.2⟩
theorem EG(O x y z:Tx)(hO:O≠[]/\ ∀c∈O,aj c=false)(hx:Cl x)(hy:Cl y)(hz:Cl z)(hlen:O.length+x.length+y.length+z.length<=900)(hf: ∀t,O++32::t≠[102,101,110,99,101,46,116,115,111]):
 eD (O++32::(x++44::(y++44::z)))=dZ O [x,y,z]:=by
 rw[Uc O _ hO (by simp) (by
  intro c hc;rw[El (by simp),amL,El (by simp),amL]at hc;rw[show((z.getLast?.getD 44)=(some ((z.getLast?.getD 44))).getD 44)from rfl]at hc;obtain⟨w,hw⟩: ∃w,z.getLast?=some w:=⟨z.getLast hz.1,amJ hz.1⟩;simp[hw]at hc;subst hc;exact hz.ad3 hw) (by simp;omega) (hf _),ajU hx hy hz]
end Go.Proofs.YtkbbgjloifmmbaaGreatDoor

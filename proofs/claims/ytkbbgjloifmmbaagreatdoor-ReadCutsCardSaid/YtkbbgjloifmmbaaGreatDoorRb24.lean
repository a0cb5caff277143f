/- What ReadBackP leans on, part 24. -/
import Derived.Test.YtkbbgjloifmmbaaGreatDoorRb23
set_option linter.unusedVariables false
namespace Go.Proofs.YtkbbgjloifmmbaaGreatDoor
open _root_.Go.Proofs.Tryz
open _root_.Option renaming some->aos
open _root_.List renaming getElem?_eq_some_iff->ano,mem_of_getElem?->aou,length_map->ao3,mem_replicate->ao4,take_succ_eq_append_getElem->ao5,takeWhile_append_dropWhile->anL,getElem?_of_mem->ao6,dropWhile_append_of_pos->aoD,append_assoc->anF,getElem?_map->ao7,drop_eq_getElem_cons->aot,replicate->ao8,getElem?_mapIdx->ao9,length_append->aoE,all_eq_true->anq,length_drop->aoJ,map_append->aof
open _root_.Option.some renaming inj->aoX,injEq->anK
open _root_.Go.Lib renaming itoa->anj
open Go.RowKit Go.Sort
theorem qc(C:List Cd):flat nJ C=C.map fun x=>Value.slice x.a x.l.length x.c:=by
 induction C with
 |nil=>rfl
 |cons x C ih=>rw[xQ,ih];rfl
structure eo(w:World)(B:Nat)(a:Option Addr)(n:Nat)(C:List Cd):Prop where
 row:Own w B 75 1 a n n (flat nJ C)
 own: ∀x∈C,Own w B 50 8 x.a x.l.length x.c (fE x.l)
 tB: ∀x∈C,pP a x.a
 nd: ∀(i j:Nat) (x y:Cd),C[i]? =aos x->C[j]? =aos y->i≠j->pP x.a y.a
section
variable {w w':World} {B n:Nat} {a:Option Addr} {C:List Cd}
theorem eo.len(h:eo w B a n C):C.length=n:=by
 have:=h.row.1;rw[qc,ao3]at this;omega
theorem eo.below(h:eo w B a n C)(hb:Below w.heap.size w w'):eo w' B a n C:=
 ⟨Own.below h.row hb,fun x hx=>Own.below (h.own x hx) hb,h.tB,h.nd⟩
theorem eo.kept{r:Option Nat}(h:eo w B a n C)(hg:w.grownBy w' r)(hr: ∀b,r=aos b->b<B):eo w' B a n C:=by
 have key: ∀{E size m c:Nat} {p:Option Addr} {xs:List Value},Own w B E size p m c xs->Own w' B E size p m c xs:=fun {E size m c p xs} ho=>by
  refine Own.kept ho hg ?_
  by_cases hp:p=none
  ·exact .inl hp
  ·have:=(Own.lt ho hp).1
   right;intro e
   have:=hr _ e.symm;omega
 exact⟨key h.row,fun x hx=>key (h.own x hx),h.tB,h.nd⟩
theorem eo.put(h:eo w B a n C){k:Nat}{x:Cd}(hk:C[k]? =aos x){a':Option Addr}{c':Nat}{i:Ins}(ho:Own w' B 50 8 a' (x.l.length+1) c' (fE (x.l++[i])))(hg:kG w w' x.a x.c a' c'):
 eo (w'.setCell ⟨bk a,fo a+k,none⟩ (.slice a' (x.l.length+1) c')) B a n (C.set k ⟨a',c',x.l++[i]⟩)/\Step w' (w'.setCell ⟨bk a,fo a+k,none⟩ (.slice a' (x.l.length+1) c')) a a:=by
 have hx:=aou hk;have hlt:=(ano.1 hk).1;have hl:=h.len;have ha:a≠none:=Own.some h.row (by omega);obtain⟨r1,ra⟩:=Own.step h.row hg.step (h.tB x hx);obtain⟨r2,s2⟩:=Own.set r1 ha k (.slice a' (x.l.length+1) c')
 have qx: ∀j y,C[j]? =aos y->j≠k->Own (w'.setCell ⟨bk a,fo a+k,none⟩ (.slice a' (x.l.length+1) c')) B 50 8 y.a y.l.length y.c (fE y.l)/\pP y.a a':=fun j y hj hne=>by
  have hy:=aou hj;obtain⟨o1,o2⟩:=Own.step (h.own y hy) hg.step (h.nd j k y x hj hk hne);exact⟨(Own.step o1 s2 (h.tB y hy).symm).1,o2⟩
 have get: ∀j y,(C.set k ⟨a',c',x.l++[i]⟩)[j]? =aos y->(j=k/\y=⟨a',c',x.l++[i]⟩)\/(j≠k/\C[j]? =aos y):=fun j y hj=>by
  rw[List.getElem?_set]at hj
  by_cases e:k=j
  ·rw[if_pos e,if_pos hlt]at hj
   exact .inl ⟨e.symm,(aoX hj).symm⟩
  ·rw[if_neg e]at hj
   exact .inr ⟨fun f=>e f.symm,hj⟩
 refine⟨⟨?_,fun y hy=>?_,fun y hy=>?_,fun p q y z hp hq hne=>?_⟩,s2⟩
 ·rw[qc,List.map_set,<-qc]
  simpa using r2
 ·obtain⟨j,hj⟩:=ao6 hy
  rcases get j y hj with⟨-, rfl⟩|⟨hne,hj⟩
  ·have:=(Own.step ho s2 ra.symm).1
   simpa using this
  ·exact(qx j y hj hne).1
 ·obtain⟨j,hj⟩:=ao6 hy
  rcases get j y hj with⟨-, rfl⟩|⟨hne,hj⟩
  ·exact ra
  ·exact h.tB y (aou hj)
 ·rcases get p y hp with⟨e1,rfl⟩|⟨h1,hp⟩
  ·rcases get q z hq with⟨e2,rfl⟩|⟨h2,hq⟩
   ·exact absurd (e1.trans e2.symm) hne
   ·exact(qx q z hq h2).2.symm
  ·rcases get q z hq with⟨e2,rfl⟩|⟨h2,hq⟩
   ·exact(qx p y hp h1).2
   ·exact h.nd p q y z hp hq hne
end
theorem VL(b M:Tx)(hb:(124:UInt8)∉b): ∃c0 R,aD 124 M=c0::R/\aD 124 (b++M)=(b++c0)::R:=by
 induction b with
 | nil=>
   cases e:aD 124 M with
   |nil=>exact absurd e (om 124 M)
   |cons c0 R=>exact⟨c0,R,rfl,e⟩
 | cons d b ih=>
   obtain⟨c0,R,h1,h2⟩:=ih (fun h=>hb (List.mem_cons_of_mem _ h));refine⟨c0,R,h1,?_⟩
   have hd:(d==(124:UInt8))=false:=by
    cases h:d==(124:UInt8)with
    |false=>rfl
    |true=>exact absurd (by simpa using h) (fun e=>hb (by rw[e];exact List.mem_cons_self))
   rw[List.cons_append,aD,if_neg (by rw[hd];decide),h2];rfl
theorem Nu{b:Tx}(hb: ∀c∈b,aj c=true):(124:UInt8)∉b:=fun h=>absurd (hb _ h) (by decide)
theorem Wh{b:Tx}(hb: ∀c∈b,aj c=true)(x:Tx):ah (b++x)=ah x:=by
 cases e:aq x with
 | nil=>
   have h1:=rM e
   rw[(BP x).2 h1,(BP (b++x)).2 (fun c hc=>by
    rcases List.mem_append.1 hc with h|h
    ·exact hb c h
    ·exact h1 c h)]
 | cons c B=>
   have hc:aj c=false:=js (l:=x) (p:=aj) (by rw[show x.dropWhile aj=c::B from e];rfl);have hx:x=x.takeWhile aj++c::B:=by rw[<-e];exact(anL ..).symm
   have ht: ∀d∈x.takeWhile aj,aj d=true:=fun d hd=>anq.1 (List.all_takeWhile) d hd
   have h1:=BO (x.takeWhile aj) B c hc;have h2:=BO (b++x.takeWhile aj) B c hc;rw[<-hx]at h1;rw[anF,<-hx]at h2;rw[h1,h2,aoD hb]
theorem ajI{b:Tx}(hb: ∀c∈b,aj c=true)(x:Tx):aq (b++x)=aq x:=aoD hb
theorem N5{b M:Tx}(hb: ∀c∈b,aj c=true):(aD 124 (b++M)).map ah=(aD 124 M).map ah:=by
 obtain⟨c0,R,h1,h2⟩:=VL b M (Nu hb);rw[h1,h2,List.map_cons,List.map_cons,Wh hb]
theorem NW{b M:Tx}(hb: ∀c∈b,aj c=true):(aD 124 (b++M)).length=(aD 124 M).length:=by
 have:=congrArg List.length (N5 (b:=b) (M:=M) hb);simpa using this
theorem Zm{af:Int}{N:Nat}{b M u:Tx}(hb: ∀c∈b,aj c=true)(acc:List (List Ins)):dO af N (aD 124 (b++M)) (b++u) acc=dO af N (aD 124 M) u acc:=by
 obtain⟨c0,R,h1,h2⟩:=VL b M (Nu hb);rw[h1,h2];cases acc with
 |nil=>rfl
 | cons x acc=>
   have hd:(b++u).drop ((b++c0).length+1)=u.drop (c0.length+1):=by
    rw[aoE,Nat.add_assoc,<-List.drop_drop,List.drop_left]
   rw[dO,dO,Wh hb,ajI hb,hd]
def KQ(D:List (List Ins)):EP (List (List Ins))->EP (List (List Ins))
 | .error e=>.error e
 | .ok r=>.ok (D++r)
section
variable {af:Int} {N:Nat} {c v:Tx} {L:List Tx} {x:List Ins} {acc D:List (List Ins)}
theorem X5(h:ah c=[]):KQ D (dO af N (c::L) v (x::acc))=KQ (D++[x]) (dO af N L (v.drop (c.length+1)) acc):=by
 rw[dO,if_pos h];cases dO af N L (v.drop (c.length+1)) acc with
 |error e=>rfl
 |ok r=>simp[KQ]
theorem XX(h:ah c≠[])(h2:pE af (ah c)=none):KQ D (dO af N (c::L) v (x::acc))= .error (91,bO N (aq v)):=by
 rw[dO,if_neg h,h2];rfl
theorem X4{i:Ins}(h:ah c≠[])(h2:pE af (ah c)=aos i):KQ D (dO af N (c::L) v (x::acc))=KQ (D++[x++[i]]) (dO af N L (v.drop (c.length+1)) acc):=by
 rw[dO,if_neg h,h2]
 dsimp only
 cases dO af N L (v.drop (c.length+1)) acc with
 |error e=>rfl
 |ok r=>simp[KQ]
end
section
variable {af:Int} {N n:Nat} {r:Tx} {acc:List (List Ins)}
theorem ajo(h:gp (aq r)=false):jj af N (n+1) r acc= .ok (acc,r):=by
 rw[jj];try dsimp only
 rw[if_pos h]
theorem ajn(h:gp (aq r)=true)(h2:(gB (aq r)).length≠acc.length):jj af N (n+1) r acc= .error (140,bO N (aq r)):=by
 rw[jj];try dsimp only
 rw[if_neg (by rw[h];decide),if_pos h2]
def V8(af:Int)(N n:Nat)(r:Tx):EP (List (List Ins))->EP (List (List Ins) × Tx)
 | .error e=>.error e
 | .ok l=>jj af N n r l
theorem ajp(h:gp (aq r)=true)(h2:(gB (aq r)).length=acc.length):jj af N (n+1) r acc=V8 af N n (aZ (aq r)) (dO af N (gB (aq r)) (aq r) acc):=by
 rw[jj];try dsimp only
 rw[if_neg (by rw[h];decide),if_neg (by rw[h2];exact fun f=>f rfl)];cases dO af N (gB (aq r)) (aq r) acc<;>rfl
end
theorem Qs{l:List Tx}:qg l=true<-> ∀(i:Nat) c,l[i]? =aos c->ah c=80::anj (i:Int):=by
 unfold qg;rw[anq]
 constructor
 ·intro h i c hc
  have h2:(decide (ah c=80::anj (i:Int)))∈l.mapIdx (fun i c=>decide (ah c=80::anj (i:Int))):=by
   refine aou (i:=i) ?_;rw[ao9,hc];rfl
  have:=h _ h2;simpa using this
 ·intro h x hx
  obtain⟨i,hi⟩:=ao6 hx;rw[ao9]at hi;cases e:l[i]? with
  |none=>rw[e]at hi;cases hi
  | some c=>
    rw[e]at hi;obtain rfl:decide (ah c=80::anj (i:Int))=x:=aoX hi;simpa using h i c e
theorem akd{af:Int}{N:Nat}{r:Tx}(h:gp (aq r)=false):gu af N r= .error (140,bO N (aq r)):=by
 unfold gu;dsimp only;rw[if_pos (.inl h)]
theorem akb{af:Int}{N:Nat}{r:Tx}(h:qg (gB (aq r))=false):gu af N r= .error (140,bO N (aq r)):=by
 unfold gu;dsimp only;rw[if_pos (.inr h)]
theorem ake{af:Int}{N:Nat}{r:Tx}(h:gp (aq r)=true)(h2:qg (gB (aq r))=true):gu af N r=jj af N (r.length+1) (aZ (aq r)) (ao8 (gB (aq r)).length []):=by
 unfold gu;dsimp only;rw[if_neg (by rw[h,h2];rintro(f|f)<;>cases f)]
theorem TD{w:World}{B E size n c:Nat}{a:Option Addr}{xs:List Value}(h:Own w B E size a n c xs): ∀g,a.map (·.block)=some g-> ∃cs fz,w.heap[g]? =some (.cells cs E fz):=by
 intro g hg;rcases h.2 with⟨h2,h0⟩|⟨g',cap,cur,hv,tJ,hh,r⟩
 ·simp only[Value.slice.injEq]at h2
  rw[h2.1]at hg;cases hg
 ·cases hv
  simp only[Option.map_some,anK]at hg;subst hg;exact⟨cur,_,hh⟩
theorem EF{w:World}{B B' E E' m m' n n' c c':Nat}{a r:Option Addr}{xs ys:List Value}(h:Own w B E m a n c xs)(h':Own w B' E' m' r n' c' ys)(hne:E≠E'):pP a r:=by
 cases r with
 |none=>exact .inr (.inl rfl)
 | some p=>
   cases a with
   |none=>exact .inl rfl
   | some q=>
     refine .inr (.inr fun e=>?_);obtain⟨cs,fz,h1⟩:=TD h' p.block rfl;obtain⟨cs',fz',h2⟩:=TD h q.block rfl;rw[show q.block=p.block from e,h1]at h2;simp only[anK,Obj.cells.injEq]at h2;exact hne h2.2.1.symm
theorem TB{w:World}{B n c m:Nat}{a:Option Addr}{l:List Tx}{p:Tx}(h:Own w B 9 1 a n c (jQ l))(hp:l[m]? =aos p):w.cell? ⟨bk a,fo a+m,none⟩=aos (.string (tx p)):=by
 have:=(Own.row h).cell m (by unfold jQ;rw[ao3];exact(ano.1 hp).1);rw[this];unfold jQ;rw[ao7,hp];rfl
theorem KR{u:Tx}(h:gp u=true): ∃z,u=(aI u).dropLast++59::z:=by
 have h1:(aI u).getLast?=aos 59:=by unfold gp at h;simpa using h
 obtain⟨M,hM⟩:=tV.1 h1;obtain⟨b,hb, -⟩:=qB (u.takeWhile (· != 10))
 have hu:u=aI u++(b++u.dropWhile (· != 10)):=by
  rw[<-anF];unfold aI;rw[<-hb,anL]
 refine⟨b++u.dropWhile (· != 10),?_⟩
 have h2:aI u=(aI u).dropLast++[59]:=by
  rw[hM];simp
 have h3:aI u++(b++u.dropWhile (· != 10))=(aI u).dropLast++59::(b++u.dropWhile (· != 10)):=by
  conv=>lhs;rw[h2]
  simp
 exact hu.trans h3
theorem ai7{u:Tx}(h:gp u=true):(aZ u).length<u.length:=by
 obtain⟨z,hz⟩:=KR h;have h1:=(BB u).length_le;rcases Nat.lt_or_ge (aZ u).length u.length with h2|h2
 ·exact h2
 ·exfalso
  unfold aZ at h2;have h3:=(List.dropWhile_suffix (l:=u) (· != 10)).length_le;rw[aoJ]at h2;have h4:0<u.length:=by rw[hz,aoE,List.length_cons];omega
  omega
theorem ajk{u:Tx}(h:gp u=true)(b:Tx): ∃z,b++u=lQ (59::z) (aD 124 (b++(aI u).dropLast)):=by
 obtain⟨z,hz⟩:=KR h;refine⟨z,?_⟩;rw[Kj,anF,<-hz]
theorem Zj{z p x:Tx}{L:List Tx}{m:Nat}(hp:L[m]? =aos p)(hx:x=lQ (59::z) (L.drop m)): ∃d r,L.drop m=p::L.drop (m+1)/\x=p++d::r/\x.drop (p.length+1)=r/\(m+1<L.length->r=lQ (59::z) (L.drop (m+1))):=by
 obtain⟨h1,h2⟩:=ano.1 hp;have hdr:L.drop m=p::L.drop (m+1):=by rw[aot h1,h2]
 obtain⟨d,r,ex,er⟩:=Uh (59::z) p (L.drop (m+1)) (by simp);rw[hdr,ex]at hx;refine⟨d,r,hdr,hx,by rw[hx,<-List.drop_drop];simp,fun h=>er (fun e=>?_)⟩;have:=congrArg List.length e;rw[aoJ]at this;simp at this;omega
theorem XZ{p:EP (List (List Ins))}:KQ [] p=p:=by cases p<;>rfl
theorem XY{af:Int}{N:Nat}{v:Tx}{D acc:List (List Ins)}:KQ D (dO af N [] v acc)= .ok (D++acc):=by
 rw[dO];rfl
theorem Zz{C:List Cd}{m:Nat}{x:Cd}(h:C[m]? =aos x):(C.drop m).map (·.l)=x.l::(C.drop (m+1)).map (·.l)/\(C.take (m+1)).map (·.l)=(C.take m).map (·.l)++[x.l]:=by
 obtain⟨h1,h2⟩:=ano.1 h
 constructor
 ·rw[aot h1,h2];rfl
 ·rw[ao5 h1,h2,aof];rfl
theorem Oh{C:List Cd}{m:Nat}{x y:Cd}(h:C[m]? =aos x):((C.set m y).drop (m+1)).map (·.l)=(C.drop (m+1)).map (·.l)/\((C.set m y).take (m+1)).map (·.l)=(C.take m).map (·.l)++[y.l]:=by
 obtain⟨h1,h2⟩:=ano.1 h
 constructor
 ·rw[List.drop_set_of_lt (by omega)]
 ·rw[ao5 (by rw[List.length_set];exact h1),List.getElem_set_self,aof,List.take_set_of_le (by omega)];rfl
theorem eo.new{w:World}{B n:Nat}{a:Option Addr}(h:Own w B 75 1 a n n (madeCells #[Value.slice none 0 0] n).toList):eo w B a n (ao8 n ⟨none,0,[]⟩):=by
 refine⟨?_,fun x hx=>?_,fun x hx=>?_,fun i j x y hx hy _=>?_⟩
 ·rw[qc,List.map_replicate]
  rw[toList_madeCells_one]at h;exact h
 ·rw[(ao4.1 hx).2];exact Own.nil _ _ _ _
 ·rw[(ao4.1 hx).2];exact .inr (.inl rfl)
 ·rw[(ao4.1 (aou hx)).2];exact .inl rfl
theorem eo.cell{w:World}{B n k:Nat}{a:Option Addr}{C:List Cd}{x:Cd}(h:eo w B a n C)(hk:C[k]? =aos x):w.cell? ⟨bk a,fo a+k,none⟩=aos (.slice x.a x.l.length x.c)/\w.frozen? ⟨bk a,fo a+k,none⟩=false/\ ∀c w',(Instr.indexAt 23 (.slice a n c) (.int .i64 k)).run prog w'= .ok (.pointer (aos ⟨bk a,fo a+k,none⟩)) w':=by
 have hlt:=(ano.1 hk).1;have hl:=h.len;refine⟨?_,Own.frozen h.row (Own.some h.row (by omega)) k,fun c=>?_⟩
 ·have:=(Own.row h.row).cell k (by rw[qc,ao3];exact hlt)
  rw[this,qc,ao7,hk];rfl
 ·have:=sC (c:=c) (n:=n) (m:=1) (Own.row h.row) Ae.j4 Ae.cells Ae.isSome (by rw[qc,ao3];omega) (by have:=h.row.2;have:=(Own.cap h.row).2.1;unfold maxLen at this;omega) k (by omega) .i64
  simpa using this
theorem eo.mono{w:World}{B B' n:Nat}{a:Option Addr}{C:List Cd}(h:eo w B a n C)(hB:B'<=B):eo w B' a n C:=
 ⟨Own.mono h.row hB,fun x hx=>Own.mono (h.own x hx) hB,h.tB,h.nd⟩
theorem eo.step{w w':World}{B n rb:Nat}{a:Option Addr}{C:List Cd}(h:eo w B a n C)(s:St w w' rb)(hr:rb<B):eo w' B a n C:=
 h.kept s.grown (fun b hb=>by simp at hb;omega)
theorem NH{w:World}{B n k:Nat}{a:Option Addr}{C:List Cd}{x:Cd}(h:Own w B 75 1 a n n (flat nJ C))(hk:C[k]? =aos x):w.cell? ⟨bk a,fo a+k,none⟩=aos (.slice x.a x.l.length x.c)/\w.frozen? ⟨bk a,fo a+k,none⟩=false:=by
 have hlt:=(ano.1 hk).1;have hl:C.length=n:=by have:=h.1;rw[qc,ao3]at this;omega
 refine⟨?_,Own.frozen h (Own.some h (by omega)) k⟩;have:=(Own.row h).cell k (by rw[qc,ao3];exact hlt);rw[this,qc,ao7,hk];rfl
theorem ada(i:Ins): ∀u∈iC i,u.oneCell'=true:=by
 intro u hu;simp[iC]at hu;rcases hu with rfl|rfl|rfl|rfl|rfl|rfl|rfl|rfl<;>rfl
theorem bQ.code{w1 w:World}{s:Tx}{k n:Nat}{t:ak}{a:Option Addr}{C C':List Cd}(h:bQ w1 w s k { t with ca:=a,cc:=n,code:=C })(hl:C'.length=C.length):bQ w1 w s k { t with ca:=a,cc:=n,code:=C' }:=by
 refine⟨?_,h.bG,h.gl,h.sl,h.le⟩;have:=h.own;simp only[wm,cT]at this⊢;rw[hl];exact this
theorem St.more{w wi w':World}{rb:Nat}{r:Option Nat}(h:St w wi rb)(g:wi.grownBy w' r)(hr: ∀b,r=aos b->w.heap.size<=b):St w w' rb:=by
 refine⟨?_,.inl rfl⟩;refine⟨g.os.trans h.grown.os,g.tape.trans h.grown.tape,g.output.trans h.grown.output,Nat.le_trans h.grown.size g.size,fun k hk hne=>?_⟩;rw[g.block k (Nat.lt_of_lt_of_le hk h.grown.size) ?_]
 ·exact h.grown.block k hk hne
 ·intro e
  have:=hr k e.symm;omega
def kH(C:List Cd)(q kk:Nat):Prop:= ∀(j:Nat) (x:Cd),C[j]? =aos x->x.l.length<=if j<q then kk+1 else kk
theorem kH.skip{C:List Cd}{q kk:Nat}(h:kH C q kk):kH C (q+1) kk:=fun j x hx=>by
 have:=h j x hx
 split at this<;>split<;>omega
theorem kH.put{C:List Cd}{q kk:Nat}(h:kH C q kk){y:Cd}(hy:C[q]? =aos y)(a':Option Addr)(c':Nat)(i:Ins):kH (C.set q ⟨a',c',y.l++[i]⟩) (q+1) kk:=fun j x hx=>by
 rw[List.getElem?_set]at hx
 by_cases e:q=j
 ·rw[if_pos e,if_pos (ano.1 hy).1]at hx
  obtain rfl:=aoX hx;have:=h q y hy;rw[if_neg (Nat.lt_irrefl _)]at this;rw[if_pos (by omega)];simp;omega
 ·rw[if_neg e]at hx
  have:=h j x hx
  split at this<;>split<;>omega
theorem kH.all{C:List Cd}{q kk k3:Nat}(h:kH C q kk)(hk:kk<k3):kH C 0 k3:=fun j x hx=>by
 have:=h j x hx;rw[if_neg (Nat.not_lt_zero _)]
 split at this<;>omega
theorem kH.at{C:List Cd}{q kk:Nat}(h:kH C q kk){y:Cd}(hy:C[q]? =aos y):y.l.length<=kk:=by
 have:=h q y hy
 rwa[if_neg (Nat.lt_irrefl _)]at this
theorem kH.new(n kk:Nat):kH (ao8 n ⟨none,0,[]⟩) 0 kk:=fun j x hx=>by
 rw[(ao4.1 (aou hx)).2];exact Nat.zero_le _
theorem ajh(w:World)(i:Ins)(T:TypeId):Row (w.alloc (.cells #[.int .i64 i.op,.int .i64 i.d,.int .i64 i.a,.int .i64 i.b,.int .i64 i.ag,.string (tx i.loc),.string (tx i.label),.int .i64 i.ai] T)) (aos ⟨w.heap.size,0,none⟩) (iC i):=by
 have b:=aG.new w #[.int .i64 i.op,.int .i64 i.d,.int .i64 i.a,.int .i64 i.b,.int .i64 i.ag,.string (tx i.loc),.string (tx i.label),.int .i64 i.ai] T;refine⟨fun _=>rfl,fun i hi=>?_⟩;simp
end Go.Proofs.YtkbbgjloifmmbaaGreatDoor

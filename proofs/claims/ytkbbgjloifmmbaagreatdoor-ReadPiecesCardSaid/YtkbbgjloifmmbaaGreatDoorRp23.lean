/- What ReadPiecesP leans on, part 23. -/
import Derived.Test.YtkbbgjloifmmbaaGreatDoorRp22
set_option linter.unusedVariables false
namespace Go.Proofs.YtkbbgjloifmmbaaGreatDoor
open Go.RowKit Go.Sort
theorem flat_cCd(C:List Cd):flat cCd C=C.map fun x=>Value.slice x.a x.l.length x.c:=by
 induction C with
 |nil=>rfl
 |cons x C ih=>rw[flat_cons,ih];rfl
structure OwnCs(w:World)(B:Nat)(a:Option Addr)(n:Nat)(C:List Cd):Prop where
 row:Own w B 75 1 a n n (flat cCd C)
 own: ∀x∈C,Own w B 50 8 x.a x.l.length x.c (insC x.l)
 far: ∀x∈C,Apart a x.a
 nd: ∀(i j:Nat) (x y:Cd),C[i]? =Option.some x->C[j]? =Option.some y->i≠j->Apart x.a y.a
section
variable {w w':World} {B n:Nat} {a:Option Addr} {C:List Cd}
theorem OwnCs.len(h:OwnCs w B a n C):C.length=n:=by
 have:=h.row.1;rw[flat_cCd,List.length_map]at this;omega
theorem OwnCs.below(h:OwnCs w B a n C)(hb:Below w.heap.size w w'):OwnCs w' B a n C:=
 ⟨Own.below h.row hb,fun x hx=>Own.below (h.own x hx) hb,h.far,h.nd⟩
theorem OwnCs.kept{r:Option Nat}(h:OwnCs w B a n C)(hg:w.grownBy w' r)(hr: ∀b,r=Option.some b->b<B):OwnCs w' B a n C:=by
 have key: ∀{E size m c:Nat} {p:Option Addr} {xs:List Value},Own w B E size p m c xs->Own w' B E size p m c xs:=fun {E size m c p xs} ho=>by
  refine Own.kept ho hg ?_
  by_cases hp:p=none
  ·exact .inl hp
  ·have:=(Own.lt ho hp).1
   right;intro e
   have:=hr _ e.symm;omega
 exact⟨key h.row,fun x hx=>key (h.own x hx),h.far,h.nd⟩
theorem OwnCs.put(h:OwnCs w B a n C){k:Nat}{x:Cd}(hk:C[k]? =Option.some x){a':Option Addr}{c':Nat}{i:Ins}(ho:Own w' B 50 8 a' (x.l.length+1) c' (insC (x.l++[i])))(hg:Grew w w' x.a x.c a' c'):
 OwnCs (w'.setCell ⟨bk a,fo a+k,none⟩ (.slice a' (x.l.length+1) c')) B a n (C.set k ⟨a',c',x.l++[i]⟩)/\Step w' (w'.setCell ⟨bk a,fo a+k,none⟩ (.slice a' (x.l.length+1) c')) a a:=by
 have hx:=List.mem_of_getElem? hk;have hlt:=(List.getElem?_eq_some_iff.1 hk).1;have hl:=h.len;have ha:a≠none:=Own.some h.row (by omega);obtain⟨r1,ra⟩:=Own.step h.row hg.step (h.far x hx);obtain⟨r2,s2⟩:=Own.set r1 ha k (.slice a' (x.l.length+1) c')
 have oth: ∀j y,C[j]? =Option.some y->j≠k->Own (w'.setCell ⟨bk a,fo a+k,none⟩ (.slice a' (x.l.length+1) c')) B 50 8 y.a y.l.length y.c (insC y.l)/\Apart y.a a':=fun j y hj hne=>by
  have hy:=List.mem_of_getElem? hj;obtain⟨o1,o2⟩:=Own.step (h.own y hy) hg.step (h.nd j k y x hj hk hne);exact⟨(Own.step o1 s2 (h.far y hy).symm).1,o2⟩
 have get: ∀j y,(C.set k ⟨a',c',x.l++[i]⟩)[j]? =Option.some y->(j=k/\y=⟨a',c',x.l++[i]⟩)\/(j≠k/\C[j]? =Option.some y):=fun j y hj=>by
  rw[List.getElem?_set]at hj
  by_cases e:k=j
  ·rw[if_pos e,if_pos hlt]at hj
   exact .inl ⟨e.symm,(Option.some.inj hj).symm⟩
  ·rw[if_neg e]at hj
   exact .inr ⟨fun f=>e f.symm,hj⟩
 refine⟨⟨?_,fun y hy=>?_,fun y hy=>?_,fun p q y z hp hq hne=>?_⟩,s2⟩
 ·rw[flat_cCd,List.map_set,<-flat_cCd]
  simpa using r2
 ·obtain⟨j,hj⟩:=List.getElem?_of_mem hy
  rcases get j y hj with⟨-, rfl⟩|⟨hne,hj⟩
  ·have:=(Own.step ho s2 ra.symm).1
   simpa using this
  ·exact(oth j y hj hne).1
 ·obtain⟨j,hj⟩:=List.getElem?_of_mem hy
  rcases get j y hj with⟨-, rfl⟩|⟨hne,hj⟩
  ·exact ra
  ·exact h.far y (List.mem_of_getElem? hj)
 ·rcases get p y hp with⟨e1,rfl⟩|⟨h1,hp⟩
  ·rcases get q z hq with⟨e2,rfl⟩|⟨h2,hq⟩
   ·exact absurd (e1.trans e2.symm) hne
   ·exact(oth q z hq h2).2.symm
  ·rcases get q z hq with⟨e2,rfl⟩|⟨h2,hq⟩
   ·exact(oth p y hp h1).2
   ·exact h.nd p q y z hp hq hne
end
theorem splitC_pre(b M:Tx)(hb:(124:UInt8)∉b): ∃c0 R,splitC 124 M=c0::R/\splitC 124 (b++M)=(b++c0)::R:=by
 induction b with
 | nil=>
   cases e:splitC 124 M with
   |nil=>exact absurd e (splitC_ne 124 M)
   |cons c0 R=>exact⟨c0,R,rfl,e⟩
 | cons d b ih=>
   obtain⟨c0,R,h1,h2⟩:=ih (fun h=>hb (List.mem_cons_of_mem _ h));refine⟨c0,R,h1,?_⟩
   have hd:(d==(124:UInt8))=false:=by
    cases h:d==(124:UInt8)with
    |false=>rfl
    |true=>exact absurd (by simpa using h) (fun e=>hb (by rw[e];exact List.mem_cons_self))
   rw[List.cons_append,splitC,if_neg (by rw[hd];decide),h2];rfl
theorem blank_no124{b:Tx}(hb: ∀c∈b,blankC c=true):(124:UInt8)∉b:=fun h=>absurd (hb _ h) (by decide)
theorem trim_head{b:Tx}(hb: ∀c∈b,blankC c=true)(x:Tx):trimT (b++x)=trimT x:=by
 cases e:sgnL x with
 | nil=>
   have h1:=dw_nil e
   rw[(trim_none' x).2 h1,(trim_none' (b++x)).2 (fun c hc=>by
    rcases List.mem_append.1 hc with h|h
    ·exact hb c h
    ·exact h1 c h)]
 | cons c B=>
   have hc:blankC c=false:=head_dropWhile (l:=x) (p:=blankC) (by rw[show x.dropWhile blankC=c::B from e];rfl);have hx:x=x.takeWhile blankC++c::B:=by rw[<-e];exact(List.takeWhile_append_dropWhile ..).symm
   have ht: ∀d∈x.takeWhile blankC,blankC d=true:=fun d hd=>List.all_eq_true.1 (List.all_takeWhile) d hd
   have h1:=trimT_mid (x.takeWhile blankC) B c hc;have h2:=trimT_mid (b++x.takeWhile blankC) B c hc;rw[<-hx]at h1;rw[List.append_assoc,<-hx]at h2;rw[h1,h2,List.dropWhile_append_of_pos hb]
theorem sgn_head{b:Tx}(hb: ∀c∈b,blankC c=true)(x:Tx):sgnL (b++x)=sgnL x:=List.dropWhile_append_of_pos hb
theorem cells_trim{b M:Tx}(hb: ∀c∈b,blankC c=true):(splitC 124 (b++M)).map trimT=(splitC 124 M).map trimT:=by
 obtain⟨c0,R,h1,h2⟩:=splitC_pre b M (blank_no124 hb);rw[h1,h2,List.map_cons,List.map_cons,trim_head hb]
theorem cells_len{b M:Tx}(hb: ∀c∈b,blankC c=true):(splitC 124 (b++M)).length=(splitC 124 M).length:=by
 have:=congrArg List.length (cells_trim (b:=b) (M:=M) hb);simpa using this
theorem cells_b{arch:Int}{N:Nat}{b M u:Tx}(hb: ∀c∈b,blankC c=true)(acc:List (List Ins)):cellsP arch N (splitC 124 (b++M)) (b++u) acc=cellsP arch N (splitC 124 M) u acc:=by
 obtain⟨c0,R,h1,h2⟩:=splitC_pre b M (blank_no124 hb);rw[h1,h2];cases acc with
 |nil=>rfl
 | cons x acc=>
   have hd:(b++u).drop ((b++c0).length+1)=u.drop (c0.length+1):=by
    rw[List.length_append,Nat.add_assoc,<-List.drop_drop,List.drop_left]
   rw[cellsP,cellsP,trim_head hb,sgn_head hb,hd]
def KQ(D:List (List Ins)):EP (List (List Ins))->EP (List (List Ins))
 | .error e=>.error e
 | .ok r=>.ok (D++r)
section
variable {arch:Int} {N:Nat} {c v:Tx} {L:List Tx} {x:List Ins} {acc D:List (List Ins)}
theorem KQ_skip(h:trimT c=[]):KQ D (cellsP arch N (c::L) v (x::acc))=KQ (D++[x]) (cellsP arch N L (v.drop (c.length+1)) acc):=by
 rw[cellsP,if_pos h];cases cellsP arch N L (v.drop (c.length+1)) acc with
 |error e=>rfl
 |ok r=>simp[KQ]
theorem KQ_bad(h:trimT c≠[])(h2:insP arch (trimT c)=none):KQ D (cellsP arch N (c::L) v (x::acc))= .error (91,plc N (sgnL v)):=by
 rw[cellsP,if_neg h,h2];rfl
theorem KQ_put{i:Ins}(h:trimT c≠[])(h2:insP arch (trimT c)=Option.some i):KQ D (cellsP arch N (c::L) v (x::acc))=KQ (D++[x++[i]]) (cellsP arch N L (v.drop (c.length+1)) acc):=by
 rw[cellsP,if_neg h,h2]
 dsimp only
 cases cellsP arch N L (v.drop (c.length+1)) acc with
 |error e=>rfl
 |ok r=>simp[KQ]
end
section
variable {arch:Int} {N n:Nat} {r:Tx} {acc:List (List Ins)}
theorem rowsP_end(h:rowB (sgnL r)=false):rowsP arch N (n+1) r acc= .ok (acc,r):=by
 rw[rowsP];try dsimp only
 rw[if_pos h]
theorem rowsP_bad(h:rowB (sgnL r)=true)(h2:(cellsL (sgnL r)).length≠acc.length):rowsP arch N (n+1) r acc= .error (140,plc N (sgnL r)):=by
 rw[rowsP];try dsimp only
 rw[if_neg (by rw[h];decide),if_pos h2]
def thenR(arch:Int)(N n:Nat)(r:Tx):EP (List (List Ins))->EP (List (List Ins) × Tx)
 | .error e=>.error e
 | .ok l=>rowsP arch N n r l
theorem rowsP_row(h:rowB (sgnL r)=true)(h2:(cellsL (sgnL r)).length=acc.length):rowsP arch N (n+1) r acc=thenR arch N n (restL (sgnL r)) (cellsP arch N (cellsL (sgnL r)) (sgnL r) acc):=by
 rw[rowsP];try dsimp only
 rw[if_neg (by rw[h];decide),if_neg (by rw[h2];exact fun f=>f rfl)];cases cellsP arch N (cellsL (sgnL r)) (sgnL r) acc<;>rfl
end
theorem headsB_iff{l:List Tx}:headsB l=true<-> ∀(i:Nat) c,l[i]? =Option.some c->trimT c=80::Lib.itoa (i:Int):=by
 unfold headsB;rw[List.all_eq_true]
 constructor
 ·intro h i c hc
  have h2:(decide (trimT c=80::Lib.itoa (i:Int)))∈l.mapIdx (fun i c=>decide (trimT c=80::Lib.itoa (i:Int))):=by
   refine List.mem_of_getElem? (i:=i) ?_;rw[List.getElem?_mapIdx,hc];rfl
  have:=h _ h2;simpa using this
 ·intro h x hx
  obtain⟨i,hi⟩:=List.getElem?_of_mem hx;rw[List.getElem?_mapIdx]at hi;cases e:l[i]? with
  |none=>rw[e]at hi;cases hi
  | some c=>
    rw[e]at hi;obtain rfl:decide (trimT c=80::Lib.itoa (i:Int))=x:=Option.some.inj hi;simpa using h i c e
theorem tableP_no{arch:Int}{N:Nat}{r:Tx}(h:rowB (sgnL r)=false):tableP arch N r= .error (140,plc N (sgnL r)):=by
 unfold tableP;dsimp only;rw[if_pos (.inl h)]
theorem tableP_bad{arch:Int}{N:Nat}{r:Tx}(h:headsB (cellsL (sgnL r))=false):tableP arch N r= .error (140,plc N (sgnL r)):=by
 unfold tableP;dsimp only;rw[if_pos (.inr h)]
theorem tableP_ok{arch:Int}{N:Nat}{r:Tx}(h:rowB (sgnL r)=true)(h2:headsB (cellsL (sgnL r))=true):tableP arch N r=rowsP arch N (r.length+1) (restL (sgnL r)) (List.replicate (cellsL (sgnL r)).length []):=by
 unfold tableP;dsimp only;rw[if_neg (by rw[h,h2];rintro(f|f)<;>cases f)]
theorem own_kind9{w:World}{B E size n c:Nat}{a:Option Addr}{xs:List Value}(h:Own w B E size a n c xs): ∀g,a.map (·.block)=some g-> ∃cs fz,w.heap[g]? =some (.cells cs E fz):=by
 intro g hg;rcases h.2 with⟨h2,h0⟩|⟨g',cap,cur,hv,hbg,hh,r⟩
 ·simp only[Value.slice.injEq]at h2
  rw[h2.1]at hg;cases hg
 ·cases hv
  simp only[Option.map_some,Option.some.injEq]at hg;subst hg;exact⟨cur,_,hh⟩
theorem own_apart{w:World}{B B' E E' m m' n n' c c':Nat}{a r:Option Addr}{xs ys:List Value}(h:Own w B E m a n c xs)(h':Own w B' E' m' r n' c' ys)(hne:E≠E'):Apart a r:=by
 cases r with
 |none=>exact .inr (.inl rfl)
 | some p=>
   cases a with
   |none=>exact .inl rfl
   | some q=>
     refine .inr (.inr fun e=>?_);obtain⟨cs,fz,h1⟩:=own_kind9 h' p.block rfl;obtain⟨cs',fz',h2⟩:=own_kind9 h q.block rfl;rw[show q.block=p.block from e,h1]at h2;simp only[Option.some.injEq,Obj.cells.injEq]at h2;exact hne h2.2.1.symm
theorem own_cell{w:World}{B n c m:Nat}{a:Option Addr}{l:List Tx}{p:Tx}(h:Own w B 9 1 a n c (cellV l))(hp:l[m]? =Option.some p):w.cell? ⟨bk a,fo a+m,none⟩=Option.some (.string (tx p)):=by
 have:=(Own.row h).cell m (by unfold cellV;rw[List.length_map];exact(List.getElem?_eq_some_iff.1 hp).1);rw[this];unfold cellV;rw[List.getElem?_map,hp];rfl
theorem row_text{u:Tx}(h:rowB u=true): ∃z,u=(lineL u).dropLast++59::z:=by
 have h1:(lineL u).getLast?=Option.some 59:=by unfold rowB at h;simpa using h
 obtain⟨M,hM⟩:=last_iff.1 h1;obtain⟨b,hb, -⟩:=rdr_app (u.takeWhile (· != 10))
 have hu:u=lineL u++(b++u.dropWhile (· != 10)):=by
  rw[<-List.append_assoc];unfold lineL;rw[<-hb,List.takeWhile_append_dropWhile]
 refine⟨b++u.dropWhile (· != 10),?_⟩
 have h2:lineL u=(lineL u).dropLast++[59]:=by
  rw[hM];simp
 have h3:lineL u++(b++u.dropWhile (· != 10))=(lineL u).dropLast++59::(b++u.dropWhile (· != 10)):=by
  conv=>lhs;rw[h2]
  simp
 exact hu.trans h3
theorem rest_lt{u:Tx}(h:rowB u=true):(restL u).length<u.length:=by
 obtain⟨z,hz⟩:=row_text h;have h1:=(rest_suf u).length_le;rcases Nat.lt_or_ge (restL u).length u.length with h2|h2
 ·exact h2
 ·exfalso
  unfold restL at h2;have h3:=(List.dropWhile_suffix (l:=u) (· != 10)).length_le;rw[List.length_drop]at h2;have h4:0<u.length:=by rw[hz,List.length_append,List.length_cons];omega
  omega
theorem row_parts{u:Tx}(h:rowB u=true)(b:Tx): ∃z,b++u=partsB (59::z) (splitC 124 (b++(lineL u).dropLast)):=by
 obtain⟨z,hz⟩:=row_text h;refine⟨z,?_⟩;rw[partsB_split,List.append_assoc,<-hz]
theorem cell_step{z p x:Tx}{L:List Tx}{m:Nat}(hp:L[m]? =Option.some p)(hx:x=partsB (59::z) (L.drop m)): ∃d r,L.drop m=p::L.drop (m+1)/\x=p++d::r/\x.drop (p.length+1)=r/\(m+1<L.length->r=partsB (59::z) (L.drop (m+1))):=by
 obtain⟨h1,h2⟩:=List.getElem?_eq_some_iff.1 hp;have hdr:L.drop m=p::L.drop (m+1):=by rw[List.drop_eq_getElem_cons h1,h2]
 obtain⟨d,r,ex,er⟩:=partsB_cons (59::z) p (L.drop (m+1)) (by simp);rw[hdr,ex]at hx;refine⟨d,r,hdr,hx,by rw[hx,<-List.drop_drop];simp,fun h=>er (fun e=>?_)⟩;have:=congrArg List.length e;rw[List.length_drop]at this;simp at this;omega
theorem KQ_none{p:EP (List (List Ins))}:KQ [] p=p:=by cases p<;>rfl
theorem KQ_nil{arch:Int}{N:Nat}{v:Tx}{D acc:List (List Ins)}:KQ D (cellsP arch N [] v acc)= .ok (D++acc):=by
 rw[cellsP];rfl
theorem code_step{C:List Cd}{m:Nat}{x:Cd}(h:C[m]? =Option.some x):(C.drop m).map (·.l)=x.l::(C.drop (m+1)).map (·.l)/\(C.take (m+1)).map (·.l)=(C.take m).map (·.l)++[x.l]:=by
 obtain⟨h1,h2⟩:=List.getElem?_eq_some_iff.1 h
 constructor
 ·rw[List.drop_eq_getElem_cons h1,h2];rfl
 ·rw[List.take_succ_eq_append_getElem h1,h2,List.map_append];rfl
theorem code_put{C:List Cd}{m:Nat}{x y:Cd}(h:C[m]? =Option.some x):((C.set m y).drop (m+1)).map (·.l)=(C.drop (m+1)).map (·.l)/\((C.set m y).take (m+1)).map (·.l)=(C.take m).map (·.l)++[y.l]:=by
 obtain⟨h1,h2⟩:=List.getElem?_eq_some_iff.1 h
 constructor
 ·rw[List.drop_set_of_lt (by omega)]
 ·rw[List.take_succ_eq_append_getElem (by rw[List.length_set];exact h1),List.getElem_set_self,List.map_append,List.take_set_of_le (by omega)];rfl
theorem OwnCs.new{w:World}{B n:Nat}{a:Option Addr}(h:Own w B 75 1 a n n (madeCells #[Value.slice none 0 0] n).toList):OwnCs w B a n (List.replicate n ⟨none,0,[]⟩):=by
 refine⟨?_,fun x hx=>?_,fun x hx=>?_,fun i j x y hx hy _=>?_⟩
 ·rw[flat_cCd,List.map_replicate]
  rw[toList_madeCells_one]at h;exact h
 ·rw[(List.mem_replicate.1 hx).2];exact Own.nil _ _ _ _
 ·rw[(List.mem_replicate.1 hx).2];exact .inr (.inl rfl)
 ·rw[(List.mem_replicate.1 (List.mem_of_getElem? hx)).2];exact .inl rfl
theorem OwnCs.cell{w:World}{B n k:Nat}{a:Option Addr}{C:List Cd}{x:Cd}(h:OwnCs w B a n C)(hk:C[k]? =Option.some x):w.cell? ⟨bk a,fo a+k,none⟩=Option.some (.slice x.a x.l.length x.c)/\w.frozen? ⟨bk a,fo a+k,none⟩=false/\ ∀c w',(Instr.indexAt 23 (.slice a n c) (.int .i64 k)).run Tryz.prog w'= .ok (.pointer (Option.some ⟨bk a,fo a+k,none⟩)) w':=by
 have hlt:=(List.getElem?_eq_some_iff.1 hk).1;have hl:=h.len;refine⟨?_,Own.frozen h.row (Own.some h.row (by omega)) k,fun c=>?_⟩
 ·have:=(Own.row h.row).cell k (by rw[flat_cCd,List.length_map];exact hlt)
  rw[this,flat_cCd,List.getElem?_map,hk];rfl
 ·have:=run_idx (c:=c) (n:=n) (m:=1) (Own.row h.row) cdl.und cdl.cells cdl.isSome (by rw[flat_cCd,List.length_map];omega) (by have:=h.row.2;have:=(Own.cap h.row).2.1;unfold maxLen at this;omega) k (by omega) .i64
  simpa using this
theorem OwnCs.mono{w:World}{B B' n:Nat}{a:Option Addr}{C:List Cd}(h:OwnCs w B a n C)(hB:B'<=B):OwnCs w B' a n C:=
 ⟨Own.mono h.row hB,fun x hx=>Own.mono (h.own x hx) hB,h.far,h.nd⟩
theorem OwnCs.step{w w':World}{B n rb:Nat}{a:Option Addr}{C:List Cd}(h:OwnCs w B a n C)(s:St w w' rb)(hr:rb<B):OwnCs w' B a n C:=
 h.kept s.grown (fun b hb=>by simp at hb;omega)
theorem cd_at{w:World}{B n k:Nat}{a:Option Addr}{C:List Cd}{x:Cd}(h:Own w B 75 1 a n n (flat cCd C))(hk:C[k]? =Option.some x):w.cell? ⟨bk a,fo a+k,none⟩=Option.some (.slice x.a x.l.length x.c)/\w.frozen? ⟨bk a,fo a+k,none⟩=false:=by
 have hlt:=(List.getElem?_eq_some_iff.1 hk).1;have hl:C.length=n:=by have:=h.1;rw[flat_cCd,List.length_map]at this;omega
 refine⟨?_,Own.frozen h (Own.some h (by omega)) k⟩;have:=(Own.row h).cell k (by rw[flat_cCd,List.length_map];exact hlt);rw[this,flat_cCd,List.getElem?_map,hk];rfl
theorem insC_one8(i:Ins): ∀u∈iC i,u.oneCell'=true:=by
 intro u hu;simp[iC]at hu;rcases hu with rfl|rfl|rfl|rfl|rfl|rfl|rfl|rfl<;>rfl
theorem RdS.code{w1 w:World}{s:Tx}{k n:Nat}{t:Tst}{a:Option Addr}{C C':List Cd}(h:RdS w1 w s k { t with ca:=a,cc:=n,code:=C })(hl:C'.length=C.length):RdS w1 w s k { t with ca:=a,cc:=n,code:=C' }:=by
 refine⟨?_,h.bel,h.gl,h.sl,h.le⟩;have:=h.own;simp only[rdF,cT]at this⊢;rw[hl];exact this
theorem St.more{w wi w':World}{rb:Nat}{r:Option Nat}(h:St w wi rb)(g:wi.grownBy w' r)(hr: ∀b,r=Option.some b->w.heap.size<=b):St w w' rb:=by
 refine⟨?_,.inl rfl⟩;refine⟨g.os.trans h.grown.os,g.tape.trans h.grown.tape,g.output.trans h.grown.output,Nat.le_trans h.grown.size g.size,fun k hk hne=>?_⟩;rw[g.block k (Nat.lt_of_lt_of_le hk h.grown.size) ?_]
 ·exact h.grown.block k hk hne
 ·intro e
  have:=hr k e.symm;omega
def Lim(C:List Cd)(q kk:Nat):Prop:= ∀(j:Nat) (x:Cd),C[j]? =Option.some x->x.l.length<=if j<q then kk+1 else kk
theorem Lim.skip{C:List Cd}{q kk:Nat}(h:Lim C q kk):Lim C (q+1) kk:=fun j x hx=>by
 have:=h j x hx
 split at this<;>split<;>omega
theorem Lim.put{C:List Cd}{q kk:Nat}(h:Lim C q kk){y:Cd}(hy:C[q]? =Option.some y)(a':Option Addr)(c':Nat)(i:Ins):Lim (C.set q ⟨a',c',y.l++[i]⟩) (q+1) kk:=fun j x hx=>by
 rw[List.getElem?_set]at hx
 by_cases e:q=j
 ·rw[if_pos e,if_pos (List.getElem?_eq_some_iff.1 hy).1]at hx
  obtain rfl:=Option.some.inj hx;have:=h q y hy;rw[if_neg (Nat.lt_irrefl _)]at this;rw[if_pos (by omega)];simp;omega
 ·rw[if_neg e]at hx
  have:=h j x hx
  split at this<;>split<;>omega
theorem Lim.all{C:List Cd}{q kk k3:Nat}(h:Lim C q kk)(hk:kk<k3):Lim C 0 k3:=fun j x hx=>by
 have:=h j x hx;rw[if_neg (Nat.not_lt_zero _)]
 split at this<;>omega
theorem Lim.at{C:List Cd}{q kk:Nat}(h:Lim C q kk){y:Cd}(hy:C[q]? =Option.some y):y.l.length<=kk:=by
 have:=h q y hy
 rwa[if_neg (Nat.lt_irrefl _)]at this
theorem Lim.new(n kk:Nat):Lim (List.replicate n ⟨none,0,[]⟩) 0 kk:=fun j x hx=>by
 rw[(List.mem_replicate.1 (List.mem_of_getElem? hx)).2];exact Nat.zero_le _
theorem row_lit8(w:World)(i:Ins)(T:TypeId):Row (w.alloc (.cells #[.int .i64 i.op,.int .i64 i.d,.int .i64 i.a,.int .i64 i.b,.int .i64 i.imm,.string (tx i.loc),.string (tx i.label),.int .i64 i.fence] T)) (Option.some ⟨w.heap.size,0,none⟩) (iC i):=by
 have b:=BxL.new w #[.int .i64 i.op,.int .i64 i.d,.int .i64 i.a,.int .i64 i.b,.int .i64 i.imm,.string (tx i.loc),.string (tx i.label),.int .i64 i.fence] T;refine⟨fun _=>rfl,fun i hi=>?_⟩;simp
end Go.Proofs.YtkbbgjloifmmbaaGreatDoor

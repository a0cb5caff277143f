/- What ReadBlanksP leans on, part 14. -/
import Derived.Test.YtkbbgjloifmmbaaGreatDoorPc11
import Derived.Test.YtkbbgjloifmmbaaGreatDoorPc12
set_option linter.unusedVariables false
set_option maxRecDepth 100000
set_option maxHeartbeats 25600000
open _root_.Go.Proofs.Tryz
open _root_.Go.Instr renaming indexAt->anm
open _root_.List renaming getD_eq_getElem?_getD->aoF,getElem?_eq_getElem->am9
open _root_.And renaming intro->anY
open _root_.Go.World renaming frozen?->aoG,cell?->anq,frozen?_setCell->aoH
namespace Go.Proofs.YtkbbgjloifmmbaaGreatDoor
open Go.RowKit
variable{a:Addr}{l:List Tx}{b b' i j k:Nat}{op:Tx}{v:Value}{w wr:World}
abbrev qM:Obj:=.cells #[.int .i64 0,.int .i64 0,.int .i64 0] 201
abbrev zO:Obj:=.cells #[.bool false,.bool false,.bool false] 202
def gR(l:List Tx)(k j:Nat):Int:=if j<k then qC (l.getD j [])else 0
def gS(l:List Tx)(k j:Nat):Bool:=if j<k then qB (l.getD j [])==0 else false
structure oN(w wr:World)(l:List Tx)(k:Nat):Prop where
 i0: ∀j,j<8->wr.cell? ⟨w.heap.size,j,none⟩=(iC wv)[j]?
 i1: ∀j,j<8->wr.cell? ⟨w.heap.size+1,j,none⟩=(iC wv)[j]?
 r: ∀j,j<3->wr.cell? ⟨w.heap.size+2,j,none⟩=some (.int .i64 (gR l k j))
 s: ∀j,j<3->wr.cell? ⟨w.heap.size+3,j,none⟩=some (.bool (gS l k j))
 f: ∀b j,w.heap.size<=b->b<=w.heap.size+3->wr.frozen? ⟨b,j,none⟩=false
 size:w.heap.size+4<=wr.heap.size
 bu:Below w.heap.size w wr
theorem oN.below{w':World}(h:oN w wr l k)(hb:Below wr.heap.size wr w'):oN w w' l k:=by
 have hz:=h.size;refine⟨fun j hj=>?_,fun j hj=>?_,fun j hj=>?_,fun j hj=>?_,fun b j h1 h2=>?_,Nat.le_trans hz hb.size,h.bu.trans (hb.mono h.bu.size)⟩
 ·rw[hb.cell (p:=⟨w.heap.size,j,none⟩) (by dsimp only;omega)];exact h.i0 j hj
 ·rw[hb.cell (p:=⟨w.heap.size+1,j,none⟩) (by dsimp only;omega)];exact h.i1 j hj
 ·rw[hb.cell (p:=⟨w.heap.size+2,j,none⟩) (by dsimp only;omega)];exact h.r j hj
 ·rw[hb.cell (p:=⟨w.heap.size+3,j,none⟩) (by dsimp only;omega)];exact h.s j hj
 rw[hb.frozen (p:=⟨b,j,none⟩) (by dsimp only;omega)];exact h.f b j h1 h2
theorem oN.start(w:World)(l:List Tx):oN w ((((w.alloc bR).alloc bR).alloc qM).alloc zO) l 0:=by
 have s1:(w.alloc bR).heap.size=w.heap.size+1:=by simp
 have s2:((w.alloc bR).alloc bR).heap.size=w.heap.size+2:=by simp
 have s3:(((w.alloc bR).alloc bR).alloc qM).heap.size=w.heap.size+3:=by simp
 have s4:((((w.alloc bR).alloc bR).alloc qM).alloc zO).heap.size=w.heap.size+4:=by simp
 have B1:=al w bR;have B2:=al (w.alloc bR) bR;have B3:=al ((w.alloc bR).alloc bR) qM;have B4:=al (((w.alloc bR).alloc bR).alloc qM) zO;have h1:=heap_alloc_new w bR;have h2:=heap_alloc_new (w.alloc bR) bR;have h3:=heap_alloc_new ((w.alloc bR).alloc bR) qM;have h4:=heap_alloc_new (((w.alloc bR).alloc bR).alloc qM) zO
 have C1: ∀j,(w.alloc bR).cell? ⟨w.heap.size,j,none⟩=(iC wv)[j]? :=fun j=>by
  simp only[anq,h1];simp[iC,wv];rfl
 have C2: ∀j,((w.alloc bR).alloc bR).cell? ⟨w.heap.size+1,j,none⟩=(iC wv)[j]? :=fun j=>by
  rw[<-s1];simp only[anq,h2];simp[iC,wv];rfl
 have C3: ∀j,(((w.alloc bR).alloc bR).alloc qM).cell? ⟨w.heap.size+2,j,none⟩=([.int .i64 0,.int .i64 0,.int .i64 0]:List Value)[j]? :=fun j=>by
  rw[<-s2];simp only[anq,h3];simp
 have C4: ∀j,((((w.alloc bR).alloc bR).alloc qM).alloc zO).cell? ⟨w.heap.size+3,j,none⟩=([.bool false,.bool false,.bool false]:List Value)[j]? :=fun j=>by
  rw[<-s3];simp only[anq,h4];simp
 have F1: ∀j,(w.alloc bR).frozen? ⟨w.heap.size,j,none⟩=false:=fun j=>by simp only[aoG,h1];simp
 have F2: ∀j,((w.alloc bR).alloc bR).frozen? ⟨w.heap.size+1,j,none⟩=false:=fun j=>by rw[<-s1];simp only[aoG,h2];simp
 have F3: ∀j,(((w.alloc bR).alloc bR).alloc qM).frozen? ⟨w.heap.size+2,j,none⟩=false:=fun j=>by rw[<-s2];simp only[aoG,h3];simp
 have F4: ∀j,((((w.alloc bR).alloc bR).alloc qM).alloc zO).frozen? ⟨w.heap.size+3,j,none⟩=false:=fun j=>by rw[<-s3];simp only[aoG,h4];simp
 refine⟨fun j hj=>?_,fun j hj=>?_,fun j hj=>?_,fun j hj=>?_,fun b j hb de=>?_,by rw[s4];exact Nat.le_refl _,eZ (eZ (eZ B1 _) _) _⟩
 ·rw[B4.cell (p:=⟨w.heap.size,j,none⟩) (by dsimp only;omega),B3.cell (p:=⟨w.heap.size,j,none⟩) (by dsimp only;omega),B2.cell (p:=⟨w.heap.size,j,none⟩) (by dsimp only;omega)];exact C1 j
 ·rw[B4.cell (p:=⟨w.heap.size+1,j,none⟩) (by dsimp only;omega),B3.cell (p:=⟨w.heap.size+1,j,none⟩) (by dsimp only;omega)];exact C2 j
 ·rw[B4.cell (p:=⟨w.heap.size+2,j,none⟩) (by dsimp only;omega),C3 j]
  have hj:j=0\/j=1\/j=2:=by omega
  rcases hj with rfl|rfl|rfl<;>rfl
 ·rw[C4 j]
  have hj:j=0\/j=1\/j=2:=by omega
  rcases hj with rfl|rfl|rfl<;>rfl
 have hb:b=w.heap.size\/b=w.heap.size+1\/b=w.heap.size+2\/b=w.heap.size+3:=by omega
 rcases hb with rfl|rfl|rfl|rfl
 ·rw[B4.frozen (p:=⟨w.heap.size,j,none⟩) (by dsimp only;omega),B3.frozen (p:=⟨w.heap.size,j,none⟩) (by dsimp only;omega),B2.frozen (p:=⟨w.heap.size,j,none⟩) (by dsimp only;omega)];exact F1 j
 ·rw[B4.frozen (p:=⟨w.heap.size+1,j,none⟩) (by dsimp only;omega),B3.frozen (p:=⟨w.heap.size+1,j,none⟩) (by dsimp only;omega)];exact F2 j
 ·rw[B4.frozen (p:=⟨w.heap.size+2,j,none⟩) (by dsimp only;omega)];exact F3 j
 exact F4 j
theorem vw(h:b≠b'):(⟨b,i,none⟩:Addr)≠⟨b',j,none⟩:=by intro e;injection e with e1;exact h e1
theorem QJ(h:i≠j):(⟨b,i,none⟩:Addr)≠⟨b',j,none⟩:=by intro e;injection e with e1 e2;exact h e2
theorem sQ{b:Addr}(h:a≠b):(w.setCell a v).cell? b=w.cell? b:=World.cell?_setCell_other _ _ _ _ h
theorem css{u:Value}(h:w.cell? a=some u):(w.setCell a v).cell? a=some v:=World.cell?_setCell_same _ _ _ h
theorem oN.step{t:Tx}(h:oN w wr l k)(hk:k<3)(ht:l[k]? =some t):oN w ((wr.setCell ⟨w.heap.size+2,k,none⟩ (.int .i64 (qC t))).setCell ⟨w.heap.size+3,k,none⟩ (.bool (qB t==0))) l (k+1):=by
 have hg:l.getD k []=t:=by rw[aoF,ht];rfl
 refine⟨fun j hj=>?_,fun j hj=>?_,fun j hj=>?_,fun j hj=>?_,fun b j h1 h2=>?_,by simpa using h.size,vB (vB h.bu (by dsimp only;omega) _) (by dsimp only;omega) _⟩
 ·rw[sQ (vw (by omega)),sQ (vw (by omega))];exact h.i0 j hj
 ·rw[sQ (vw (by omega)),sQ (vw (by omega))];exact h.i1 j hj
 ·rw[sQ (vw (by omega))]
  by_cases hjk:j=k
  ·subst hjk
   rw[css (h.r j hj)];unfold gR;rw[if_pos (by omega),hg]
  rw[sQ (QJ (fun e=>hjk e.symm)),h.r j hj]
  unfold gR
  by_cases hlt:j<k
  ·rw[if_pos hlt,if_pos (by omega)]
  rw[if_neg hlt,if_neg (by omega)]
 ·by_cases hjk:j=k
  ·subst hjk
   rw[css (u:=.bool (gS l j j)) (by rw[sQ (vw (by omega))];exact h.s j hj)];unfold gS;rw[if_pos (by omega),hg]
  rw[sQ (QJ (fun e=>hjk e.symm)),sQ (vw (by omega)),h.s j hj]
  unfold gS
  by_cases hlt:j<k
  ·rw[if_pos hlt,if_pos (by omega)]
  rw[if_neg hlt,if_neg (by omega)]
 rw[aoH,aoH];exact h.f b j h1 h2
theorem aeC(x y:Tx):dX ⟨13,0,0,0,0,[],[],sW x y⟩ true=dZ [102,101,110,99,101] [x,y]:=by
 rw[Nr];unfold sW;cases hx:lH x with
 |none=>rfl
 | some a=>
   cases hy:lH y with
   |none=>rfl
   | some b=>
     obtain⟨i,hi,rfl, -⟩:=vJ hx;obtain⟨j,hj,rfl, -⟩:=vJ hy;exact Cf (by rw[JH];simp;omega)
theorem ajr(h1:op≠[108,119])(h2:op≠[115,119])(h3:op≠[111,114,105])(h4:op≠[120,111,114])(h5:op≠[97,100,100])(h6:op≠[98,110,101])(h7:op≠[102,101,110,99,101])(l:List Tx):dZ op l=none:=by
 by_cases hl:l.length=3
 ·obtain⟨x,y,z,rfl⟩:=yA hl
  rw[yS _ _ _ h1 h2 h7];cases bf x with
  |none=>rfl
  | some a=>cases bf y with
    |none=>rfl
    | some b=>
      simp only;rw[if_neg h6,if_neg h3];cases bf z with
      |none=>rfl
      |some c=>simp only;rw[if_neg h4,if_neg h5]
 exact yT h1 h2 h7 hl
def gO(l:List Tx)(j:Nat):Option Nat:=l[j]?.bind bf
theorem ac9(hk:l.length<=k\/3<=k)(hj:j<3)(hl:k<=l.length):gR l k j=fS (gO l j)/\gS l k j=(gO l j).isSome:=by
 unfold gR gS gO
 by_cases h:j<k
 ·rw[if_pos h,if_pos h,aoF,am9 (by omega),Option.getD_some,Option.bind_some,NG,NC]
  exact⟨rfl,rfl⟩
 rw[if_neg h,if_neg h,List.getElem?_eq_none (by omega)]
 exact⟨rfl,rfl⟩
theorem aja(l:List Tx):dZ [108,119] l=if l.length=2/\(gO l 0).isSome=true then dX ⟨6,fS (gO l 0),fS (ez (l.getD 1 [])),0,0,[],[],0⟩ (ez (l.getD 1 [])).isSome else none:=by
 by_cases h:l.length=2
 ·obtain⟨x,y,rfl⟩:=rM h
  rw[(Nt x y).trans (Vw kI EM).symm,show gO [x,y] 0=bf x from rfl];cases hx:bf x<;>simp[Ma]
 rw[Nu h,if_neg (fun e=>h e.1)]
theorem ajc(l:List Tx):dZ [115,119] l=if l.length=2/\(gO l 0).isSome=true then dX ⟨7,0,fS (ez (l.getD 1 [])),fS (gO l 0),0,[],[],0⟩ (ez (l.getD 1 [])).isSome else none:=by
 by_cases h:l.length=2
 ·obtain⟨x,y,rfl⟩:=rM h
  rw[(Nv x y).trans (Vx kI EM).symm,show gO [x,y] 0=bf x from rfl];cases hx:bf x<;>simp[Ma]
 rw[Nw h,if_neg (fun e=>h e.1)]
theorem agi(s:Tx): ∃v ok,Aw s v ok:=by
 cases h:cS s with
 |none=>exact⟨0,false,.inl ⟨h,rfl,rfl⟩⟩
 |some v=>exact⟨v,_,.inr ⟨h,rfl⟩⟩
theorem ajb{v:Int}{ok:Bool}(hv:Aw (l.getD 2 []) v ok):dZ [111,114,105] l=if l.length=3/\(gO l 0).isSome=true/\(gO l 1).isSome=true then dX ⟨8,fS (gO l 0),fS (gO l 1),0,v,[],[],0⟩ ok else none:=by
 by_cases h:l.length=3
 ·obtain⟨x,y,z,rfl⟩:=yA h
  rw[yS _ _ _ (by decide) (by decide) (by decide),show gO [x,y,z] 0=bf x from rfl,show gO [x,y,z] 1=bf y from rfl];cases hx:bf x with
  |none=>simp
  | some a=>cases hy:bf y with
    |none=>simp
    |some b=>rw[if_pos ⟨rfl,rfl,rfl⟩];exact(aeE (kI _ hx) (kI _ hy) hv).symm
 rw[yT (by decide) (by decide) (by decide) h,if_neg (fun e=>h e.1)]
theorem ajd{q:Int}(l:List Tx)(h:op=[120,111,114]/\q=9\/op=[97,100,100]/\q=10):dZ op l=dX ⟨q,fS (gO l 0),fS (gO l 1),fS (gO l 2),0,[],[],0⟩ (((((l.length:Nat):Int)==3)&&(gO l 0).isSome)&&(gO l 1).isSome&&(gO l 2).isSome):=by
 have hq:q=9\/q=10:=by omega
 have hn:op≠[108,119]/\op≠[115,119]/\op≠[102,101,110,99,101]/\op≠[98,110,101]/\op≠[111,114,105]:=by rcases h with⟨rfl, -⟩|⟨rfl, -⟩<;>decide
 by_cases h3:l.length=3
 ·obtain⟨x,y,z,rfl⟩:=yA h3
  rw[yS _ _ _ hn.1 hn.2.1 hn.2.2.1];rw[show gO [x,y,z] 0=bf x from rfl,show gO [x,y,z] 1=bf y from rfl,show gO [x,y,z] 2=bf z from rfl,show((([x,y,z].length:Nat):Int)==3)=true from rfl];cases hx:bf x with
  |none=>rfl
  | some a=>cases hy:bf y with
    |none=>rfl
    | some b=>
      refine Eq.trans ?_ (Mb hq (kI _ hx) (kI _ hy) (o:=bf z) kI).symm;simp only;rw[if_neg hn.2.2.2.1,if_neg hn.2.2.2.2];cases bf z with
      |none=>rfl
      |some c=>rcases h with⟨rfl,rfl⟩|⟨rfl,rfl⟩<;>rfl
 rw[yT hn.1 hn.2.1 hn.2.2.1 h3,show(((l.length:Nat):Int)==3)=false by simp;omega];rfl
theorem ai8(l:List Tx):dZ [98,110,101] l=if l.length=3 then dX ⟨11,0,fS (gO l 0),fS (gO l 1),0,[],l.getD 2 [],0⟩ ((gO l 0).isSome&&(gO l 1).isSome)else none:=by
 by_cases h:l.length=3
 ·obtain⟨x,y,z,rfl⟩:=yA h
  rw[yS _ _ _ (by decide) (by decide) (by decide),if_pos h];rw[show gO [x,y,z] 0=bf x from rfl,show gO [x,y,z] 1=bf y from rfl];cases hx:bf x with
  |none=>rfl
  | some a=>cases hy:bf y with
    |none=>rfl
    |some b=>exact(Vv (kI _ hx) (kI _ hy)).symm
 rw[yT (by decide) (by decide) (by decide) h,if_neg h]
theorem ai9(l:List Tx):dZ [102,101,110,99,101] l=if l.length=2 then dX ⟨13,0,0,0,0,[],[],sW (l.getD 0 []) (l.getD 1 [])⟩ true else none:=by
 by_cases h:l.length=2
 ·obtain⟨x,y,rfl⟩:=rM h
  rw[if_pos h];exact(aeC x y).symm
 rw[Ns h,if_neg h]
theorem oN.all(h:oN w wr l k){x0 x1 x2:Int}{y0 y1 y2:Bool}(H:(gR l k 0=x0/\gS l k 0=y0)/\(gR l k 1=x1/\gS l k 1=y1)/\(gR l k 2=x2/\gS l k 2=y2)):
 (wr.cell? ⟨w.heap.size,0,none⟩=some (.int .i64 0)/\wr.cell? ⟨w.heap.size,1,none⟩=some (.int .i64 0)/\wr.cell? ⟨w.heap.size,2,none⟩=some (.int .i64 0)/\wr.cell? ⟨w.heap.size,3,none⟩=some (.int .i64 0)/\wr.cell? ⟨w.heap.size,4,none⟩=some (.int .i64 0)/\wr.cell? ⟨w.heap.size,5,none⟩=some (.string ⟨#[]⟩)/\wr.cell? ⟨w.heap.size,6,none⟩=some (.string ⟨#[]⟩)/\wr.cell? ⟨w.heap.size,7,none⟩=some (.int .i64 0))/\
 (wr.cell? ⟨w.heap.size+1,0,none⟩=some (.int .i64 0)/\wr.cell? ⟨w.heap.size+1,1,none⟩=some (.int .i64 0)/\wr.cell? ⟨w.heap.size+1,2,none⟩=some (.int .i64 0)/\wr.cell? ⟨w.heap.size+1,3,none⟩=some (.int .i64 0)/\wr.cell? ⟨w.heap.size+1,4,none⟩=some (.int .i64 0)/\wr.cell? ⟨w.heap.size+1,5,none⟩=some (.string ⟨#[]⟩)/\wr.cell? ⟨w.heap.size+1,6,none⟩=some (.string ⟨#[]⟩)/\wr.cell? ⟨w.heap.size+1,7,none⟩=some (.int .i64 0))/\
 (wr.cell? ⟨w.heap.size+2,0,none⟩=some (.int .i64 x0)/\wr.cell? ⟨w.heap.size+2,1,none⟩=some (.int .i64 x1)/\wr.cell? ⟨w.heap.size+2,2,none⟩=some (.int .i64 x2)/\wr.cell? ⟨w.heap.size+3,0,none⟩=some (.bool y0)/\wr.cell? ⟨w.heap.size+3,1,none⟩=some (.bool y1)/\wr.cell? ⟨w.heap.size+3,2,none⟩=some (.bool y2))/\
 (∀j,wr.frozen? ⟨w.heap.size,j,none⟩=false)/\w.heap.size+4<=wr.heap.size/\Below w.heap.size w wr:=by
 obtain⟨⟨rfl,rfl⟩,⟨rfl,rfl⟩,rfl,rfl⟩:=H
 exact⟨⟨h.i0 0 (by omega),h.i0 1 (by omega),h.i0 2 (by omega),h.i0 3 (by omega),h.i0 4 (by omega),h.i0 5 (by omega),h.i0 6 (by omega),h.i0 7 (by omega)⟩,⟨h.i1 0 (by omega),h.i1 1 (by omega),h.i1 2 (by omega),h.i1 3 (by omega),h.i1 4 (by omega),h.i1 5 (by omega),h.i1 6 (by omega),h.i1 7 (by omega)⟩,
  ⟨h.r 0 (by omega),h.r 1 (by omega),h.r 2 (by omega),h.s 0 (by omega),h.s 1 (by omega),h.s 2 (by omega)⟩,fun j=>h.f _ j (by omega) (by omega),h.size,h.bu⟩
theorem Yq(op:Tx)(l:List Tx)(a:Option Addr)(c:Nat)(w:World)(h:bS w a l)(hs:Sm l):Calls prog 109 #[.string (tx op),.slice a l.length c] w (Rd (dZ op l) w):=by
 obtain⟨r,hr⟩:=aj (dZ op l);rw[hr];have HR:=hid hr;obtain⟨n,hn⟩:=aj l.length;have HN:=hid hn;have HS:=hid (fun(k:Nat) (u:Tx) (hu:l[k]? =some u)=>hs u (List.mem_of_getElem? hu));have HT:=hid h;rw[hn];have O0:=oN.start w l;have rF:=h.idx;rw[hn]at rF;have HI:=hid rF;have HX:=hid (fun(k:Nat) (hk:k<n)=>show ∃t,l[k]? =some t/\l.getD k []=t from⟨l[k],am9 _,by rw[aoF,am9 (by omega)];rfl⟩);have HB:=hid (by have:=h.len;omega:n<=1000000000000000000);clear hr hn hs rF h;go_in;go_wp2_with fail
 go_loopw [10] (fun i wr=> ∃k:Nat,k<=3/\k<=n/\i= .int .i64 k/\oN w wr l k) (fun i _=>3-(intOf i).toNat)
 ·exact⟨0,by omega,by omega,rfl,O0⟩
 clear O0;obtain⟨k,hk,hkn,rfl,O⟩:=hrel
 by_cases hlt:k<n/\k<3
 ·obtain⟨bM,bU⟩:=hlt
  obtain⟨t,ht, -⟩:=HX.out k bM;have ix:=HI.out k bM;have ck:=(HT.out.below O.bu).ri ht;have O2:=O.step bU ht;have mH:=fun j=>O.f (w.heap.size+2) j (by omega) (by omega)
  have hf3:=fun j=>O.f (w.heap.size+3) j (by omega) (by omega)
  obtain⟨-, -, ⟨dw,nE,hr2,hs0,hs1,hs2⟩,-, hsz, -⟩:=O.all ⟨⟨rfl,rfl⟩,⟨rfl,rfl⟩,rfl,rfl⟩;clear ht O;have qn:k=0\/k=1\/k=2:=by omega
  rcases qn with rfl|rfl|rfl
  all_goals
   (try replace ix: ∀c w',(anm 42 (.slice a n c) (.int .i64 0)).run prog w'= .ok (.pointer (some ⟨bk a,fo a,none⟩)) w':=ix)
   (try replace ix: ∀c w',(anm 42 (.slice a n c) (.int .i64 1)).run prog w'= .ok (.pointer (some ⟨bk a,fo a+1,none⟩)) w':=ix)
   (try replace ix: ∀c w',(anm 42 (.slice a n c) (.int .i64 2)).run prog w'= .ok (.pointer (some ⟨bk a,fo a+2,none⟩)) w':=ix)
   (try replace ck:wr.cell? ⟨bk a,fo a,none⟩=some (.string (tx t)):=ck)
   go_wp2_with (go_at_call 192;refine av (Yr t _) ?_)
   go_roundw;exact⟨_,by omega,by omega,by go_num,O2⟩;simp[intOf]<;>omega
 have hkk:l.length<=k\/3<=k:=by rw[HN.out];omega
 have hG:=fun j (hj:j<3)=>ac9 hkk hj (by rw[HN.out];exact hkn)
 obtain⟨x0,hx0⟩: ∃x,fS (gO l 0)=x:=⟨_,rfl⟩;obtain⟨x1,hx1⟩: ∃x,fS (gO l 1)=x:=⟨_,rfl⟩;obtain⟨x2,hx2⟩: ∃x,fS (gO l 2)=x:=⟨_,rfl⟩;obtain⟨y0,hy0⟩: ∃x,(gO l 0).isSome=x:=⟨_,rfl⟩;obtain⟨y1,hy1⟩: ∃x,(gO l 1).isSome=x:=⟨_,rfl⟩;obtain⟨y2,hy2⟩: ∃x,(gO l 2).isSome=x:=⟨_,rfl⟩;have HG:=hid (show(gR l k 0=x0/\gS l k 0=y0)/\(gR l k 1=x1/\gS l k 1=y1)/\(gR l k 2=x2/\gS l k 2=y2)from⟨⟨(hG 0 (by omega)).1.trans hx0,(hG 0 (by omega)).2.trans hy0⟩,⟨(hG 1 (by omega)).1.trans hx1,(hG 1 (by omega)).2.trans hy1⟩,(hG 2 (by omega)).1.trans hx2,(hG 2 (by omega)).2.trans hy2⟩);have HQ:=hid (anY (aja l) (anY (ajc l) (anY (fun v ok=>ajb (l:=l) (v:=v) (ok:=ok)) (anY (fun o q=>ajd (op:=o) (q:=q) l) (anY (ai8 l) (ai9 l))))));rw[hx0,hx1,hx2,hy0,hy1,hy2,HN.out]at HQ;obtain⟨⟨d0,d1,d2,d3,d4,d5,d6,d7⟩,⟨e0,e1,e2,e3,e4,e5,e6,e7⟩,⟨r0,r1,r2,s0,s1,s2⟩,gC,hsz,B⟩:=O.all HG.out;have HO:=hid O;clear hkk hG hx0 hx1 hx2 hy0 hy1 hy2 O;have K0:=hid (fun(h:none=r)=>show dX ⟨0,0,0,0,0,[],[],0⟩ false=r from h);have hend:n<=k\/(k<n/\3<=k):=by omega
 clear hlt;rcases hend with hge|⟨hge,h3k⟩
 all_goals
  have h12:op=[108,119]\/op≠[108,119]/\op=[115,119]\/op≠[108,119]/\op≠[115,119]:=by
   by_cases h1:op=[108,119]
   ·exact .inl h1
   by_cases h2:op=[115,119]
   ·exact .inr (.inl ⟨h1,h2⟩)
   exact .inr (.inr ⟨h1,h2⟩)
  rcases h12 with h1|⟨h1,h2⟩|⟨h1,h2⟩
  focus
   have z1:=rY op _ h1;have hq:=HQ.out.1;rw[<-h1,HR.out]at hq;clear h1
  rotate_left
  focus
   have z1:=cY op _ h1;have z2:=rY op _ h2;have hq:=HQ.out.2.1;rw[<-h2,HR.out]at hq;clear h1 h2
  rotate_left 2
  iterate 2
   focus
    by_cases hc:n=2/\y0=true
    rotate_left
    ·rw[if_neg hc]at hq
     have HK:=hid (K0.out hq.symm)
     have sZ:((n:Int) != 2)=true\/((n:Int) != 2)=false/\y0=false:=by
      by_cases n2:n=2
      ·exact .inr ⟨ ah,by cases y0;rfl;exact absurd ⟨n2,rfl⟩ hc⟩
      exact .inl ah
     clear hc hq;rcases sZ with z9|⟨z9,rfl⟩
     all_goals
      go_wp2_with fail;exact bodyPost_ret (by simp[results,results109,go_sem,d0,d1,d2,d3,d4,d5,d6,d7]) rfl (Rd.of ⟨rfl,aF⟩ HK.out)
    obtain⟨n2,rfl⟩:=hc
    rw[if_pos ⟨n2,rfl⟩]at hq;have z9:((n:Int) != 2)=false:=ah;obtain⟨u,hu,kf⟩:=HX.out 1 (by omega);rw[kf]at hq;have PL:=hid (fun w=>ajT u (HS.out 1 u hu) w);have ck:=(HT.out.below B).ri hu;have ix: ∀c w',(anm 42 (.slice a n c) (.int .i64 1)).run prog w'= .ok (.pointer (some ⟨bk a,fo a+1,none⟩)) w':=HI.out 1 (by omega);generalize ez u=o2 at*;have HK:=hid hq.symm;clear hu kf hq n2;go_wp2_with fail;refine(PL.out _).mono ?_;rintro e w2 ⟨rfl,E2⟩;clear ck d0 d1 d2 d3 d4 d5 d6 d7 e0 e1 e2 e3 e4 e5 e6 e7 r0 r1 r2 s0 s1 s2 gC hsz B;obtain⟨⟨d0,d1,d2,d3,d4,d5,d6,d7⟩,-, ⟨r0,-, -, -, -, -⟩,gC,hsz,B⟩:=(HO.out.below E2).all HG.out;clear E2;go_wp2_with fail;exact bodyPost_ret (by simp[results,results109,go_sem,d0,d1,d2,d3,d4,d5,d6,d7]) rfl (Rd.of ⟨rfl,aF⟩ HK.out)
  have z1:=cY op _ h1;have z2:=cY op _ h2;have Qg:=hid (anY h1 h2);clear h1 h2
  by_cases h3:op=[111,114,105]
  ·have z3:=rY op _ h3
   have hq:=HQ.out.2.2.1;rw[<-h3,HR.out]at hq;have PO:=hid hq;clear h3 hq
   by_cases hc:n=3/\y0=true/\y1=true
   rotate_left
   ·obtain⟨v,ok,hv⟩:=agi (l.getD 2 [])
    have HK:=hid (K0.out ((PO.out v ok hv).trans (if_neg hc)).symm)
    have sZ:((n:Int) != 3)=true\/((n:Int) != 3)=false/\y0=false\/((n:Int) != 3)=false/\y0=true/\y1=false:=by
     by_cases n2:n=3
     ·refine .inr ?_
      have z:((n:Int) != 3)=false:=ah;cases y0
      ·exact .inl ⟨z,rfl⟩
      cases y1
      ·exact .inr ⟨z,rfl,rfl⟩
      exact absurd ⟨n2,rfl,rfl⟩ hc
     exact .inl ah
    clear hc hv;rcases sZ with z9|⟨z9,rfl⟩|⟨z9,rfl,rfl⟩
    all_goals
     go_wp2_with fail;exact bodyPost_ret (by simp[results,results109,go_sem,d0,d1,d2,d3,d4,d5,d6,d7]) rfl (Rd.of ⟨rfl,aF⟩ HK.out)
   obtain⟨n2,rfl,rfl⟩:=hc
   have z9:((n:Int) != 3)=false:=ah;obtain⟨u,hu,kf⟩:=HX.out 2 (by omega);have ck:=(HT.out.below B).ri hu;have ix: ∀c w',(anm 42 (.slice a n c) (.int .i64 2)).run prog w'= .ok (.pointer (some ⟨bk a,fo a+2,none⟩)) w':=HI.out 2 (by omega);have HU:=hid (fun v ok (hv:Aw u v ok)=>((PO.out v ok (kf.symm▸hv)).trans (if_pos ⟨n2,rfl,rfl⟩)).symm);clear hu kf n2;go_wp2_with fail;refine(ajN u _).mono ?_;rintro e w2 ⟨⟨v,ok,rfl,hv⟩,rfl⟩;have HK:=hid (HU.out v ok hv);clear hv ck;go_wp2_with fail;exact bodyPost_ret (by simp[results,results109,go_sem,d0,d1,d2,d3,d4,d5,d6,d7]) rfl (Rd.of ⟨rfl,aF⟩ HK.out)
  have z3:=cY op _ h3;have N3:=hid h3;clear h3
  have h45:op=[120,111,114]\/op≠[120,111,114]/\op=[97,100,100]\/op≠[120,111,114]/\op≠[97,100,100]:=by
   by_cases h4:op=[120,111,114]
   ·exact .inl h4
   by_cases h5:op=[97,100,100]
   ·exact .inr (.inl ⟨h4,h5⟩)
   exact .inr (.inr ⟨h4,h5⟩)
  rcases h45 with h4|⟨h4,h5⟩|⟨h4,h5⟩
  focus
   have z4:=rY op _ h4;have hq:=HQ.out.2.2.2.1 _ 9 (.inl ⟨h4,rfl⟩);clear h4
  rotate_left
  focus
   have z4:=cY op _ h4;have z5:=rY op _ h5;have hq:=HQ.out.2.2.2.1 _ 10 (.inr ⟨h5,rfl⟩);clear h4 h5
  rotate_left 2
  iterate 2
   focus
    rw[HR.out]at hq;obtain⟨b3,eJ⟩: ∃b,((n:Int)==3)=b:=⟨_,rfl⟩;rw[eJ]at hq;have HK:=hid hq.symm;clear hq;have hc:b3=false\/b3=true/\y0=false\/b3=true/\y0=true/\y1=false\/b3=true/\y0=true/\y1=true:=by cases b3<;>cases y0<;>cases y1<;>simp
    rcases hc with rfl|⟨rfl,rfl⟩|⟨rfl,rfl,rfl⟩|⟨rfl,rfl,rfl⟩
    all_goals
     go_wp2_with fail
     go_big_region
     go_wp2_with fail;exact bodyPost_ret (by simp[results,results109,go_sem,d0,d1,d2,d3,d4,d5,d6,d7]) rfl (Rd.of ⟨rfl,aF⟩ HK.out)
  have z4:=cY op _ h4;have z5:=cY op _ h5;have Qh:=hid (anY h4 h5);clear h4 h5
  by_cases h6:op=[98,110,101]
  ·have z6:=rY op _ h6
   have hq:=HQ.out.2.2.2.2.1;rw[<-h6,HR.out]at hq;clear h6
   by_cases hc:n=3
   rotate_left
   ·have z9:((n:Int) != 3)=true:=ah
    rw[if_neg hc]at hq;have HK:=hid (K0.out hq.symm);clear hc hq;go_wp2_with fail;exact bodyPost_ret (by simp[results,results109,go_sem,d0,d1,d2,d3,d4,d5,d6,d7]) rfl (Rd.of ⟨rfl,aF⟩ HK.out)
   rw[if_pos hc]at hq
   have z9:((n:Int) != 3)=false:=ah;obtain⟨u,hu,kf⟩:=HX.out 2 (by omega);have ck:=(HT.out.below B).ri hu;have ix: ∀c w',(anm 42 (.slice a n c) (.int .i64 2)).run prog w'= .ok (.pointer (some ⟨bk a,fo a+2,none⟩)) w':=HI.out 2 (by omega);have dN:=HS.out 2 u hu;rw[kf]at hq;have HK:=hid hq.symm;clear hu kf hc hq;cases y0
   all_goals
    go_wp2_with fail
    go_big_region
    go_wp2_with fail;exact bodyPost_ret (by simp[results,results109,go_sem,d0,d1,d2,d3,d4,d5,d6,d7]) rfl ⟨11,0,x0,x1,0,u,0,_,rfl,HK.out,dN,aF⟩
  have z6:=cY op _ h6;have N6:=hid h6;clear h6
  by_cases h7:op=[102,101,110,99,101]
  ·have z7:=rY op _ h7
   have hq:=HQ.out.2.2.2.2.2;rw[<-h7,HR.out]at hq;clear h7
   by_cases hc:n=2
   rotate_left
   ·have z9:((n:Int) != 2)=true:=ah
    rw[if_neg hc]at hq;have HK:=hid (K0.out hq.symm);clear hc hq;go_wp2_with fail;exact bodyPost_ret (by simp[results,results109,go_sem,d0,d1,d2,d3,d4,d5,d6,d7]) rfl (Rd.of ⟨rfl,aF⟩ HK.out)
   rw[if_pos hc]at hq
   have z9:((n:Int) != 2)=false:=ah;obtain⟨u,hu,kf⟩:=HX.out 0 (by omega);obtain⟨v,hv,UI⟩:=HX.out 1 (by omega);have ck:wr.cell? ⟨bk a,fo a,none⟩=some (.string (tx u)):=(HT.out.below B).ri hu;have ck2:=(HT.out.below B).ri hv;have ix: ∀c w',(anm 42 (.slice a n c) (.int .i64 0)).run prog w'= .ok (.pointer (some ⟨bk a,fo a,none⟩)) w':=HI.out 0 (by omega);have Gi: ∀c w',(anm 42 (.slice a n c) (.int .i64 1)).run prog w'= .ok (.pointer (some ⟨bk a,fo a+1,none⟩)) w':=HI.out 1 (by omega);rw[kf,UI]at hq;have FN:=hid (fun w=>ajJ u v w);generalize sW u v=fv at*;have HK:=hid hq.symm;clear hu kf hv UI hc hq;go_wp2_with fail
   go_region_with (go_at_call 195;refine(FN.out _).mono ?_;rintro e' w' ⟨rfl,rfl⟩)
   all_goals
    go_wp2_with fail;exact bodyPost_ret (by simp[results,results109,go_sem,d0,d1,d2,d3,d4,d5,d6,d7]) rfl (Rd.of ⟨rfl,aF⟩ HK.out)
  have z7:=cY op _ h7;have HK:=hid (K0.out ((ajr Qg.out.1 Qg.out.2 N3.out Qh.out.1 Qh.out.2 N6.out h7 l).symm.trans HR.out));clear h7;go_wp2_with fail;exact bodyPost_ret (by simp[results,results109,go_sem,d0,d1,d2,d3,d4,d5,d6,d7]) rfl (Rd.of ⟨rfl,aF⟩ HK.out)
end Go.Proofs.YtkbbgjloifmmbaaGreatDoor

/- What ReadPiecesP leans on, part 36. -/
import Derived.Test.YtkbbgjloifmmbaaGreatDoorRp35
set_option linter.unusedVariables false
set_option maxRecDepth 100000
set_option maxHeartbeats 3200000
namespace Go.Proofs.YtkbbgjloifmmbaaGreatDoor
open Go.RowKit Go.Sort
def RetMw(o:Option Ins)(w:World)(e:Ending)(w':World):Prop:= ∃i ok,e= .returned (.tuple #[vI i,.bool ok])/\OptV o i ok/\Below w.heap.size w w'
theorem place3_if(x y z:Tx):place3 x y z=if(place3 x y z).isSome=true then some y else none:=by
 unfold place3;split<;>rfl
theorem movedW_1(p q r x:Tx):movedW [p,q,r,[44],x]=match givenX x with
 |some n=>(place3 p q r).map fun x=>⟨1,0,0,0,n,x,[],0⟩
 | none=>match place3 p q r,regOfX x with
   |some x,some r=>some ⟨2,0,r,0,0,x,[],0⟩
   |_,_=>none:=by
 rw[movedW,if_pos rfl];cases givenX x<;>rfl
abbrev zI8:Obj:=.cells #[.int .i64 0,.int .i64 0,.int .i64 0,.int .i64 0,.int .i64 0,.string ⟨#[]⟩,.string ⟨#[]⟩,.int .i64 0] 50
theorem put_below{w w1 w2:World}(E:Below w.heap.size w w1)(hg:w1.grownBy w2 (Option.some w.heap.size)):Below w.heap.size w w2:=E.grown hg E.size (fun r hr=>by simp at hr;omega)
theorem Txs.take3{w:World}{a:Option Addr}{p q r:Tx}{l:List Tx}(h:Txs w a (p::q::r::l)):Txs w a [p,q,r]:=⟨by have:=h.row.take 3;simpa using this,by simp⟩
theorem r09Moved_1(p q r x:Tx)(hq:q.length<=262144)(hx:x.length<=262144)(a:Option Addr)(c:Nat)(hc:5<=c)(w:World)(T:Txs w a [p,q,r,[44],x])(g:Gl w):Calls Tryz.prog 105 #[.slice a 5 c] w (RetMw (movedW [p,q,r,[44],x]) w):=by
 have E0:=al w zI8;have T1:=T.below E0;have HG:=hid (g.below E0);have i3: ∀w',(Instr.indexAt 42 (.slice a 5 c) (.int .i64 3)).run Tryz.prog w'=_:=T1.idx 3 (by simp) c;have i4: ∀w',(Instr.indexAt 42 (.slice a 5 c) (.int .i64 4)).run Tryz.prog w'=_:=T1.idx 4 (by simp) c;have c3:(w.alloc zI8).cell? ⟨bk a,fo a+3,none⟩=some (.string (tx [44])):=T1.cell 3 (by simp);have ct: ∀w',(Instr.sliceAt 42 (.slice a 5 c) none (some (.int .i64 3)) none).run Tryz.prog w'=_:=run_cut_to txl a 5 c 3 (by omega) .i64;have PL:=hid (r09Place p q r (by omega) a c (w.alloc zI8) T1.take3);have HT:=hid T1;obtain⟨b1,hb1⟩: ∃b1,(place3 p q r).isSome=b1:=⟨_,rfl⟩;have HP:=hid (show place3 p q r=if b1=true then some q else none by rw[<-hb1];exact place3_if p q r);rw[hb1]at PL;have z44:((tx [44]).toList==[44])=true:=by rw[tx_toList];decide
 generalize tx [44]=u44 at*;clear hb1 g T T1;go_enter Tryz.func105,Tryz.ntmps105;go_wp2_with fail;refine PL.out.mono ?_;rintro e w1 ⟨rfl,q1⟩;have E1:=QW.below (w:=w.alloc zI8) (w':=w1) q1;have T2:=HT.out.below E1;have c4:w1.cell? ⟨bk a,fo a+4,none⟩=some (.string (tx x)):=T2.cell 4 (by simp);have GV:=hid (fun(w2:World) (g:Gl w2)=>r09Given x (by omega) w2 g);have g1:=HG.out.below E1;have HE1:=hid E1;clear T2 q1;go_wp2_with fail;refine(GV.out _ g1).mono ?_;rintro e w2 ⟨v,ok,rfl,HO,E2⟩;have HO:=hid HO;have EA:=hid (ext_trans HE1.out E2);cases ok
 ·have HV:=hid HO.out.no
  have T3:=HT.out.below EA.out;have c4:w2.cell? ⟨bk a,fo a+4,none⟩=some (.string (tx x)):=T3.cell 4 (by simp);have RO:=fun w=>r09RegOf x w
  clear T3;cases hr:regOfX x with
  | none=>
    rw[hr]at RO;have RO:=hid (show ∀w,Calls Tryz.prog _ _ w (Ret w (.tuple #[.int .i64 0,.int .i64 90]))from RO);have HR:=hid hr;clear hr;cases b1
    ·go_wp2_with fail
     refine(RO.out _).mono ?_;rintro e w3 ⟨rfl,E3⟩;have EA:=hid (ext_trans EA.out E3);have b0:=(BxL.new w #[.int .i64 0,.int .i64 0,.int .i64 0,.int .i64 0,.int .i64 0,.string ⟨#[]⟩,.string ⟨#[]⟩,.int .i64 0] 50).below EA.out;have p0:=b0.get 0 _ rfl;have p1:=b0.get 1 _ rfl;have p2:=b0.get 2 _ rfl;have p3:=b0.get 3 _ rfl;have p4:=b0.get 4 _ rfl;have p5:=b0.get 5 _ rfl;have p6:=b0.get 6 _ rfl;have p7:=b0.get 7 _ rfl;have f0:=fun j=>(frz_below EA.out (b:=w.heap.size) (by simp) j).trans (frz_new w _ _ j)
     have hlt0:w.heap.size<w3.heap.size:=by have:=EA.out.size;simp at this;omega
     clear b0;go_wp2_with fail;exact bodyPost_ret (by first|(simp[results,Tryz.results105,go_sem,p0,p1,p2,p3,p4,p5,p6,p7,tx_nil];done)|(simp[results,Tryz.results105,go_sem,p0,p1,p2,p3,p4,p5,p6,p7,tx_nil];rfl)) rfl ⟨⟨2,0,0,0,0,q,[],0⟩,false,rfl,(by unfold OptV;rw[movedW_1,HV.out,HP.out,HR.out];rfl),put_below ((al w zI8).trans (EA.out.mono (by simp))) (by(repeat refine gr_put ?_ _ _);exact gr_refl _ _)⟩
    ·go_wp2_with fail
     refine(RO.out _).mono ?_;rintro e w3 ⟨rfl,E3⟩;have EA:=hid (ext_trans EA.out E3);have b0:=(BxL.new w #[.int .i64 0,.int .i64 0,.int .i64 0,.int .i64 0,.int .i64 0,.string ⟨#[]⟩,.string ⟨#[]⟩,.int .i64 0] 50).below EA.out;have p0:=b0.get 0 _ rfl;have p1:=b0.get 1 _ rfl;have p2:=b0.get 2 _ rfl;have p3:=b0.get 3 _ rfl;have p4:=b0.get 4 _ rfl;have p5:=b0.get 5 _ rfl;have p6:=b0.get 6 _ rfl;have p7:=b0.get 7 _ rfl;have f0:=fun j=>(frz_below EA.out (b:=w.heap.size) (by simp) j).trans (frz_new w _ _ j)
     have hlt0:w.heap.size<w3.heap.size:=by have:=EA.out.size;simp at this;omega
     clear b0;go_wp2_with fail;exact bodyPost_ret (by first|(simp[results,Tryz.results105,go_sem,p0,p1,p2,p3,p4,p5,p6,p7,tx_nil];done)|(simp[results,Tryz.results105,go_sem,p0,p1,p2,p3,p4,p5,p6,p7,tx_nil];rfl)) rfl ⟨⟨2,0,0,0,0,q,[],0⟩,false,rfl,(by unfold OptV;rw[movedW_1,HV.out,HP.out,HR.out];rfl),put_below ((al w zI8).trans (EA.out.mono (by simp))) (by(repeat refine gr_put ?_ _ _);exact gr_refl _ _)⟩
  | some k=>
    rw[hr]at RO;have RO:=hid (show ∀w,Calls Tryz.prog _ _ w (Ret w (.tuple #[.int .i64 k,.int .i64 0]))from RO);have HR:=hid hr;clear hr;cases b1
    ·go_wp2_with fail
     refine(RO.out _).mono ?_;rintro e w3 ⟨rfl,E3⟩;have EA:=hid (ext_trans EA.out E3);have b0:=(BxL.new w #[.int .i64 0,.int .i64 0,.int .i64 0,.int .i64 0,.int .i64 0,.string ⟨#[]⟩,.string ⟨#[]⟩,.int .i64 0] 50).below EA.out;have p0:=b0.get 0 _ rfl;have p1:=b0.get 1 _ rfl;have p2:=b0.get 2 _ rfl;have p3:=b0.get 3 _ rfl;have p4:=b0.get 4 _ rfl;have p5:=b0.get 5 _ rfl;have p6:=b0.get 6 _ rfl;have p7:=b0.get 7 _ rfl;have f0:=fun j=>(frz_below EA.out (b:=w.heap.size) (by simp) j).trans (frz_new w _ _ j)
     have hlt0:w.heap.size<w3.heap.size:=by have:=EA.out.size;simp at this;omega
     clear b0;go_wp2_with fail;exact bodyPost_ret (by first|(simp[results,Tryz.results105,go_sem,p0,p1,p2,p3,p4,p5,p6,p7,tx_nil];done)|(simp[results,Tryz.results105,go_sem,p0,p1,p2,p3,p4,p5,p6,p7,tx_nil];rfl)) rfl ⟨⟨2,0,k,0,0,q,[],0⟩,false,rfl,(by unfold OptV;rw[movedW_1,HV.out,HP.out,HR.out];rfl),put_below ((al w zI8).trans (EA.out.mono (by simp))) (by(repeat refine gr_put ?_ _ _);exact gr_refl _ _)⟩
    ·go_wp2_with fail
     refine(RO.out _).mono ?_;rintro e w3 ⟨rfl,E3⟩;have EA:=hid (ext_trans EA.out E3);have b0:=(BxL.new w #[.int .i64 0,.int .i64 0,.int .i64 0,.int .i64 0,.int .i64 0,.string ⟨#[]⟩,.string ⟨#[]⟩,.int .i64 0] 50).below EA.out;have p0:=b0.get 0 _ rfl;have p1:=b0.get 1 _ rfl;have p2:=b0.get 2 _ rfl;have p3:=b0.get 3 _ rfl;have p4:=b0.get 4 _ rfl;have p5:=b0.get 5 _ rfl;have p6:=b0.get 6 _ rfl;have p7:=b0.get 7 _ rfl;have f0:=fun j=>(frz_below EA.out (b:=w.heap.size) (by simp) j).trans (frz_new w _ _ j)
     have hlt0:w.heap.size<w3.heap.size:=by have:=EA.out.size;simp at this;omega
     clear b0;go_wp2_with fail;exact bodyPost_ret (by first|(simp[results,Tryz.results105,go_sem,p0,p1,p2,p3,p4,p5,p6,p7,tx_nil];done)|(simp[results,Tryz.results105,go_sem,p0,p1,p2,p3,p4,p5,p6,p7,tx_nil];rfl)) rfl ⟨⟨2,0,k,0,0,q,[],0⟩,true,rfl,(by unfold OptV;rw[movedW_1,HV.out,HP.out,HR.out];rfl),put_below ((al w zI8).trans (EA.out.mono (by simp))) (by(repeat refine gr_put ?_ _ _);exact gr_refl _ _)⟩
 ·have HV:=hid HO.out.yes
  have b0:=(BxL.new w #[.int .i64 0,.int .i64 0,.int .i64 0,.int .i64 0,.int .i64 0,.string ⟨#[]⟩,.string ⟨#[]⟩,.int .i64 0] 50).below EA.out;have p0:=b0.get 0 _ rfl;have p1:=b0.get 1 _ rfl;have p2:=b0.get 2 _ rfl;have p3:=b0.get 3 _ rfl;have p4:=b0.get 4 _ rfl;have p5:=b0.get 5 _ rfl;have p6:=b0.get 6 _ rfl;have p7:=b0.get 7 _ rfl;have f0:=fun j=>(frz_below EA.out (b:=w.heap.size) (by simp) j).trans (frz_new w _ _ j)
  have hlt0:w.heap.size<w2.heap.size:=by have:=EA.out.size;simp at this;omega
  clear b0;go_wp2_with fail;exact bodyPost_ret (by first|(simp[results,Tryz.results105,go_sem,p0,p1,p2,p3,p4,p5,p6,p7,tx_nil];done)|(simp[results,Tryz.results105,go_sem,p0,p1,p2,p3,p4,p5,p6,p7,tx_nil];rfl)) rfl ⟨⟨1,0,0,0,v,q,[],0⟩,b1,rfl,(by unfold OptV;rw[movedW_1,HV.out,HP.out];cases b1<;>rfl),put_below ((al w zI8).trans (EA.out.mono (by simp))) (by(repeat refine gr_put ?_ _ _);exact gr_refl _ _)⟩
theorem movedW_2(p r d x:Tx)(hd:d≠[44]):movedW [p,[44],r,d,x]=match regOfX p,place3 r d x with
 |some r,some x=>some ⟨3,r,0,0,0,x,[],0⟩
 |_,_=>none:=by
 rw[movedW,if_neg hd,if_pos rfl];cases regOfX p<;>cases place3 r d x<;>rfl
theorem Txs.drop2{w:World}{a:Option Addr}{p q:Tx}{l:List Tx}(h:Txs w a (p::q::l))(c:Nat)(hc:c≠2):Txs w (cutA a (c=2) (2*1)) l:=⟨by have:=h.row.drop (2*1) (c=2) (fun h=>absurd h hc);simpa using this,by have:=h.len;simp at this;omega⟩
theorem r09Moved_2(p r d x:Tx)(hd:d≠[44])(hq:d.length<=262144)(a:Option Addr)(c:Nat)(hc:5<=c)(w:World)(T:Txs w a [p,[44],r,d,x]):Calls Tryz.prog 105 #[.slice a 5 c] w (RetMw (movedW [p,[44],r,d,x]) w):=by
 have E0:=al w zI8;have T1:=T.below E0;have i0: ∀w',(Instr.indexAt 42 (.slice a 5 c) (.int .i64 0)).run Tryz.prog w'=_:=T1.idx 0 (by simp) c;have i1: ∀w',(Instr.indexAt 42 (.slice a 5 c) (.int .i64 1)).run Tryz.prog w'=_:=T1.idx 1 (by simp) c;have i3: ∀w',(Instr.indexAt 42 (.slice a 5 c) (.int .i64 3)).run Tryz.prog w'=_:=T1.idx 3 (by simp) c;have c0:(w.alloc zI8).cell? ⟨bk a,fo a+0,none⟩=some (.string (tx p)):=T1.cell 0 (by simp);have c1:(w.alloc zI8).cell? ⟨bk a,fo a+1,none⟩=some (.string (tx [44])):=T1.cell 1 (by simp);have c3:(w.alloc zI8).cell? ⟨bk a,fo a+3,none⟩=some (.string (tx d)):=T1.cell 3 (by simp);simp only[Nat.add_zero]at i0 c0;have ct: ∀w',(Instr.sliceAt 42 (.slice a 5 c) (some (.int .i64 2)) none none).run Tryz.prog w'=_:=run_cut_from txl a 5 c 2 (by omega) .i64;have HT:=hid T1;have zd:=tx_ne _ _ hd;obtain⟨b1,hb1⟩: ∃b1,(place3 r d x).isSome=b1:=⟨_,rfl⟩;have HP:=hid (show place3 r d x=if b1=true then some d else none by rw[<-hb1];exact place3_if r d x);have PL:=hid (fun(w2:World) (T:Txs w2 a [p,[44],r,d,x])=>r09Place r d x (by omega) (cutA a (c=2) (2*1)) (c-2) w2 (T.drop2 c (by omega)));rw[hb1]at PL;have z44:((tx [44]).toList==[44])=true:=by rw[tx_toList];decide
 generalize tx [44]=u44 at*;have RO:=fun w=>r09RegOf p w
 have HM:=hid (movedW_2 p r d x hd);generalize cutA a (c=2) (2*1)=a2 at*;have e52:5-2=3:=rfl;clear hb1 T T1 hd;cases hr:regOfX p with
 | none=>
   rw[hr]at RO;have RO:=hid (show ∀w,Calls Tryz.prog _ _ w (Ret w (.tuple #[.int .i64 0,.int .i64 90]))from RO);have HR:=hid hr;clear hr;go_enter Tryz.func105,Tryz.ntmps105;go_wp2_with fail;refine(RO.out _).mono ?_;rintro e w1 ⟨rfl,E1⟩;have HE1:=hid E1;have PL:=hid (PL.out w1 (HT.out.below E1));clear E1;go_wp2_with fail;refine PL.out.mono ?_;rintro e w2 ⟨rfl,q2⟩;have EA:=hid (ext_trans HE1.out (QW.below (w:=w1) (w':=w2) q2));clear q2;cases b1
   ·skip
    have b0:=(BxL.new w #[.int .i64 0,.int .i64 0,.int .i64 0,.int .i64 0,.int .i64 0,.string ⟨#[]⟩,.string ⟨#[]⟩,.int .i64 0] 50).below EA.out;have p0:=b0.get 0 _ rfl;have p1:=b0.get 1 _ rfl;have p2:=b0.get 2 _ rfl;have p3:=b0.get 3 _ rfl;have p4:=b0.get 4 _ rfl;have p5:=b0.get 5 _ rfl;have p6:=b0.get 6 _ rfl;have p7:=b0.get 7 _ rfl;have f0:=fun j=>(frz_below EA.out (b:=w.heap.size) (by simp) j).trans (frz_new w _ _ j)
    have hlt0:w.heap.size<w2.heap.size:=by have:=EA.out.size;simp at this;omega
    clear b0;go_wp2_with fail;exact bodyPost_ret (by first|(simp[results,Tryz.results105,go_sem,p0,p1,p2,p3,p4,p5,p6,p7,tx_nil];done)|(simp[results,Tryz.results105,go_sem,p0,p1,p2,p3,p4,p5,p6,p7,tx_nil];rfl)) rfl ⟨⟨3,0,0,0,0,d,[],0⟩,false,rfl,(by unfold OptV;rw[HM.out,HP.out,HR.out];rfl),put_below ((al w zI8).trans (EA.out.mono (by simp))) (by(repeat refine gr_put ?_ _ _);exact gr_refl _ _)⟩
   ·skip
    have b0:=(BxL.new w #[.int .i64 0,.int .i64 0,.int .i64 0,.int .i64 0,.int .i64 0,.string ⟨#[]⟩,.string ⟨#[]⟩,.int .i64 0] 50).below EA.out;have p0:=b0.get 0 _ rfl;have p1:=b0.get 1 _ rfl;have p2:=b0.get 2 _ rfl;have p3:=b0.get 3 _ rfl;have p4:=b0.get 4 _ rfl;have p5:=b0.get 5 _ rfl;have p6:=b0.get 6 _ rfl;have p7:=b0.get 7 _ rfl;have f0:=fun j=>(frz_below EA.out (b:=w.heap.size) (by simp) j).trans (frz_new w _ _ j)
    have hlt0:w.heap.size<w2.heap.size:=by have:=EA.out.size;simp at this;omega
    clear b0;go_wp2_with fail;exact bodyPost_ret (by first|(simp[results,Tryz.results105,go_sem,p0,p1,p2,p3,p4,p5,p6,p7,tx_nil];done)|(simp[results,Tryz.results105,go_sem,p0,p1,p2,p3,p4,p5,p6,p7,tx_nil];rfl)) rfl ⟨⟨3,0,0,0,0,d,[],0⟩,false,rfl,(by unfold OptV;rw[HM.out,HP.out,HR.out];rfl),put_below ((al w zI8).trans (EA.out.mono (by simp))) (by(repeat refine gr_put ?_ _ _);exact gr_refl _ _)⟩
 | some k=>
   rw[hr]at RO;have RO:=hid (show ∀w,Calls Tryz.prog _ _ w (Ret w (.tuple #[.int .i64 k,.int .i64 0]))from RO);have HR:=hid hr;clear hr;go_enter Tryz.func105,Tryz.ntmps105;go_wp2_with fail;refine(RO.out _).mono ?_;rintro e w1 ⟨rfl,E1⟩;have HE1:=hid E1;have PL:=hid (PL.out w1 (HT.out.below E1));clear E1;go_wp2_with fail;refine PL.out.mono ?_;rintro e w2 ⟨rfl,q2⟩;have EA:=hid (ext_trans HE1.out (QW.below (w:=w1) (w':=w2) q2));clear q2;cases b1
   ·skip
    have b0:=(BxL.new w #[.int .i64 0,.int .i64 0,.int .i64 0,.int .i64 0,.int .i64 0,.string ⟨#[]⟩,.string ⟨#[]⟩,.int .i64 0] 50).below EA.out;have p0:=b0.get 0 _ rfl;have p1:=b0.get 1 _ rfl;have p2:=b0.get 2 _ rfl;have p3:=b0.get 3 _ rfl;have p4:=b0.get 4 _ rfl;have p5:=b0.get 5 _ rfl;have p6:=b0.get 6 _ rfl;have p7:=b0.get 7 _ rfl;have f0:=fun j=>(frz_below EA.out (b:=w.heap.size) (by simp) j).trans (frz_new w _ _ j)
    have hlt0:w.heap.size<w2.heap.size:=by have:=EA.out.size;simp at this;omega
    clear b0;go_wp2_with fail;exact bodyPost_ret (by first|(simp[results,Tryz.results105,go_sem,p0,p1,p2,p3,p4,p5,p6,p7,tx_nil];done)|(simp[results,Tryz.results105,go_sem,p0,p1,p2,p3,p4,p5,p6,p7,tx_nil];rfl)) rfl ⟨⟨3,k,0,0,0,d,[],0⟩,false,rfl,(by unfold OptV;rw[HM.out,HP.out,HR.out];rfl),put_below ((al w zI8).trans (EA.out.mono (by simp))) (by(repeat refine gr_put ?_ _ _);exact gr_refl _ _)⟩
   ·skip
    have b0:=(BxL.new w #[.int .i64 0,.int .i64 0,.int .i64 0,.int .i64 0,.int .i64 0,.string ⟨#[]⟩,.string ⟨#[]⟩,.int .i64 0] 50).below EA.out;have p0:=b0.get 0 _ rfl;have p1:=b0.get 1 _ rfl;have p2:=b0.get 2 _ rfl;have p3:=b0.get 3 _ rfl;have p4:=b0.get 4 _ rfl;have p5:=b0.get 5 _ rfl;have p6:=b0.get 6 _ rfl;have p7:=b0.get 7 _ rfl;have f0:=fun j=>(frz_below EA.out (b:=w.heap.size) (by simp) j).trans (frz_new w _ _ j)
    have hlt0:w.heap.size<w2.heap.size:=by have:=EA.out.size;simp at this;omega
    clear b0;go_wp2_with fail;exact bodyPost_ret (by first|(simp[results,Tryz.results105,go_sem,p0,p1,p2,p3,p4,p5,p6,p7,tx_nil];done)|(simp[results,Tryz.results105,go_sem,p0,p1,p2,p3,p4,p5,p6,p7,tx_nil];rfl)) rfl ⟨⟨3,k,0,0,0,d,[],0⟩,true,rfl,(by unfold OptV;rw[HM.out,HP.out,HR.out];rfl),put_below ((al w zI8).trans (EA.out.mono (by simp))) (by(repeat refine gr_put ?_ _ _);exact gr_refl _ _)⟩
theorem movedW_len{L:List Tx}(h3:L.length≠3)(h5:L.length≠5):movedW L=none:=by
 match L,h3,h5 with
 |[],_,_=>rfl
 |[_],_,_=>rfl
 |[_,_],_,_=>rfl
 |[_,_,_],h,_=>exact absurd rfl h
 |[_,_,_,_],_,_=>rfl
 |[_,_,_,_,_],_,h=>exact absurd rfl h
 |_::_::_::_::_::_::_,_,_=>rfl
theorem movedW_out{L:List Tx}(h:L.length=5->L[3]? ≠some [44])(h2:L.length<3\/L[1]? ≠some [44]):movedW L=none:=by
 match L,h,h2 with
 |[],_,_=>rfl
 |[_],_,_=>rfl
 |[_,_],_,_=>rfl
 | [a,b,c],_,h2=>
   rcases h2 with h2|h2
   ·simp at h2
   ·simp only[movedW];rw[if_neg (fun e=>h2 (by rw[e];rfl))]
 |[_,_,_,_],_,_=>rfl
 | [a,b,c,d,e],h,h2=>
   rcases h2 with h2|h2
   ·exact absurd h2 (by simp)
   ·simp only[movedW];rw[if_neg (fun e=>h rfl (by rw[e];rfl)),if_neg (fun e=>h2 (by rw[e];rfl))]
 |_::_::_::_::_::_::_,_,_=>rfl
theorem movedW_4{p r:Tx}:movedW [p,[44],r]=match regOfX p,givenX r with
 |some r,some n=>some ⟨4,r,0,0,n,[],[],0⟩
 |_,_=>none:=by
 simp only[movedW];rw[if_pos trivial];cases regOfX p<;>cases givenX r<;>rfl
theorem r09Moved_3(L:List Tx)(h:L.length=5->L[3]? ≠some [44])(h2:L.length<3\/L[1]? ≠some [44])(a:Option Addr)(c:Nat)(w:World)(T:Txs w a L)(hn:L.length<=1000000):Calls Tryz.prog 105 #[.slice a L.length c] w (RetMw (movedW L) w):=by
 have T1:=T.below (al w zI8);have HM:=hid (show OptV (movedW L) ⟨0,0,0,0,0,[],[],0⟩ false by unfold OptV;rw[movedW_out h h2];rfl);obtain⟨n,hl⟩: ∃n,L.length=n:=⟨_,rfl⟩
 by_cases h5:n=5
 ·obtain⟨d,hd⟩: ∃d,L[3]? =some d:=⟨_,List.getElem?_eq_getElem (by omega)⟩
  obtain⟨q,hq⟩: ∃q,L[1]? =some q:=⟨_,List.getElem?_eq_getElem (by omega)⟩;have zd:=tx_ne d [44] (fun e=>h (by omega) (by rw[hd,e]))
  have zq:=tx_ne q [44] (fun e=>by
   rcases h2 with h2|h2
   ·omega
   ·exact h2 (by rw[hq,e]))
  have i3: ∀w',(Instr.indexAt 42 (.slice a L.length c) (.int .i64 3)).run Tryz.prog w'=_:=T1.idx 3 (by omega) c;have i1: ∀w',(Instr.indexAt 42 (.slice a L.length c) (.int .i64 1)).run Tryz.prog w'=_:=T1.idx 1 (by omega) c;have c3:=T1.cell 3 (by omega);rw[(List.getElem?_eq_some_iff.1 hd).2]at c3;have c1:=T1.cell 1 (by omega);rw[(List.getElem?_eq_some_iff.1 hq).2]at c1;rw[hl,h5]at i3 i1⊢;have b0:=BxL.new w #[.int .i64 0,.int .i64 0,.int .i64 0,.int .i64 0,.int .i64 0,.string ⟨#[]⟩,.string ⟨#[]⟩,.int .i64 0] 50;have p0:=b0.get 0 _ rfl;have p1:=b0.get 1 _ rfl;have p2:=b0.get 2 _ rfl;have p3:=b0.get 3 _ rfl;have p4:=b0.get 4 _ rfl;have p5:=b0.get 5 _ rfl;have p6:=b0.get 6 _ rfl;have p7:=b0.get 7 _ rfl;have f0:=fun j=>frz_new w #[.int .i64 0,.int .i64 0,.int .i64 0,.int .i64 0,.int .i64 0,.string ⟨#[]⟩,.string ⟨#[]⟩,.int .i64 0] 50 j
  clear b0;clear T T1 hd hq h h2 hl h5 hn;go_enter Tryz.func105,Tryz.ntmps105;go_wp2_with fail;exact bodyPost_ret (by first|(simp[results,Tryz.results105,go_sem,p0,p1,p2,p3,p4,p5,p6,p7,tx_nil];done)|(simp[results,Tryz.results105,go_sem,p0,p1,p2,p3,p4,p5,p6,p7,tx_nil];rfl)) rfl ⟨⟨0,0,0,0,0,[],[],0⟩,false,rfl,HM.out,put_below (al w zI8) (by(repeat refine gr_put ?_ _ _);exact gr_refl _ _)⟩
 ·by_cases h3:n<3
  have z5:((n:Int)==5)=false:=by simp;omega
  have z3:decide ((n:Int)<3)=true:=by simp;omega
  rw[hl];have b0:=BxL.new w #[.int .i64 0,.int .i64 0,.int .i64 0,.int .i64 0,.int .i64 0,.string ⟨#[]⟩,.string ⟨#[]⟩,.int .i64 0] 50;have p0:=b0.get 0 _ rfl;have p1:=b0.get 1 _ rfl;have p2:=b0.get 2 _ rfl;have p3:=b0.get 3 _ rfl;have p4:=b0.get 4 _ rfl;have p5:=b0.get 5 _ rfl;have p6:=b0.get 6 _ rfl;have p7:=b0.get 7 _ rfl;have f0:=fun j=>frz_new w #[.int .i64 0,.int .i64 0,.int .i64 0,.int .i64 0,.int .i64 0,.string ⟨#[]⟩,.string ⟨#[]⟩,.int .i64 0] 50 j
  clear b0;clear T T1 h h2 hl h5 hn h3;go_enter Tryz.func105,Tryz.ntmps105;go_wp2_with fail;exact bodyPost_ret (by first|(simp[results,Tryz.results105,go_sem,p0,p1,p2,p3,p4,p5,p6,p7,tx_nil];done)|(simp[results,Tryz.results105,go_sem,p0,p1,p2,p3,p4,p5,p6,p7,tx_nil];rfl)) rfl ⟨⟨0,0,0,0,0,[],[],0⟩,false,rfl,HM.out,put_below (al w zI8) (by(repeat refine gr_put ?_ _ _);exact gr_refl _ _)⟩
  ·obtain⟨q,hq⟩: ∃q,L[1]? =some q:=⟨_,List.getElem?_eq_getElem (by omega)⟩
   have zq:=tx_ne q [44] (fun e=>by
    rcases h2 with h2|h2
    ·omega
    ·exact h2 (by rw[hq,e]))
   have z5:((n:Int)==5)=false:=by simp;omega
   have z3:decide ((n:Int)<3)=false:=by simp;omega
   have i1: ∀w',(Instr.indexAt 42 (.slice a L.length c) (.int .i64 1)).run Tryz.prog w'=_:=T1.idx 1 (by omega) c;have c1:=T1.cell 1 (by omega);rw[(List.getElem?_eq_some_iff.1 hq).2]at c1;rw[hl]at i1⊢;have b0:=BxL.new w #[.int .i64 0,.int .i64 0,.int .i64 0,.int .i64 0,.int .i64 0,.string ⟨#[]⟩,.string ⟨#[]⟩,.int .i64 0] 50;have p0:=b0.get 0 _ rfl;have p1:=b0.get 1 _ rfl;have p2:=b0.get 2 _ rfl;have p3:=b0.get 3 _ rfl;have p4:=b0.get 4 _ rfl;have p5:=b0.get 5 _ rfl;have p6:=b0.get 6 _ rfl;have p7:=b0.get 7 _ rfl;have f0:=fun j=>frz_new w #[.int .i64 0,.int .i64 0,.int .i64 0,.int .i64 0,.int .i64 0,.string ⟨#[]⟩,.string ⟨#[]⟩,.int .i64 0] 50 j
   clear b0;clear T T1 hq h h2 hl h5 hn h3;go_enter Tryz.func105,Tryz.ntmps105;go_wp2_with fail;exact bodyPost_ret (by first|(simp[results,Tryz.results105,go_sem,p0,p1,p2,p3,p4,p5,p6,p7,tx_nil];done)|(simp[results,Tryz.results105,go_sem,p0,p1,p2,p3,p4,p5,p6,p7,tx_nil];rfl)) rfl ⟨⟨0,0,0,0,0,[],[],0⟩,false,rfl,HM.out,put_below (al w zI8) (by(repeat refine gr_put ?_ _ _);exact gr_refl _ _)⟩
theorem r09Moved_4(L:List Tx)(p r:Tx)(h0:L[0]? =some p)(h1:L[1]? =some [44])(h2:L[2]? =some r)(h5:L.length≠5)(hr:r.length<=262144)(a:Option Addr)(c:Nat)(w:World)(T:Txs w a L)(hn:L.length<=1000000)(g:Gl w):Calls Tryz.prog 105 #[.slice a L.length c] w (RetMw (movedW L) w):=by
 have T1:=T.below (al w zI8);have HG:=hid (g.below (al w zI8));have h2l:=(List.getElem?_eq_some_iff.1 h2).1;obtain⟨n,hl⟩: ∃n,L.length=n:=⟨_,rfl⟩;have z5:((n:Int)==5)=false:=by simp;omega
 have z3:decide ((n:Int)<3)=false:=by simp;omega
 obtain⟨b3,hb3⟩: ∃b,((n:Int)==3)=b:=⟨_,rfl⟩
 have HM:=hid (show movedW L=if b3=true then(match regOfX p,givenX r with
  |some r,some n=>some ⟨4,r,0,0,n,[],[],0⟩
  |_,_=>none)else none by
  cases b3 with
  | true=>
    have e3:L.length=3:=by simp at hb3;omega
    match L,e3 with
    | [x,y,z],_=>
      cases h0;cases h1;cases h2;rw[movedW_4,if_pos rfl]
  |false=>rw[if_neg (by decide),movedW_len (by simp at hb3;omega) h5])
 have i0: ∀w',(Instr.indexAt 42 (.slice a L.length c) (.int .i64 0)).run Tryz.prog w'=_:=T1.idx 0 (by omega) c;have i1: ∀w',(Instr.indexAt 42 (.slice a L.length c) (.int .i64 1)).run Tryz.prog w'=_:=T1.idx 1 (by omega) c;have i2: ∀w',(Instr.indexAt 42 (.slice a L.length c) (.int .i64 2)).run Tryz.prog w'=_:=T1.idx 2 (by omega) c;have c0:=T1.cell 0 (by omega);rw[(List.getElem?_eq_some_iff.1 h0).2]at c0;have c1:=T1.cell 1 (by omega);rw[(List.getElem?_eq_some_iff.1 h1).2]at c1;simp only[Nat.add_zero]at i0 c0;have HT:=hid T1;have H2:=hid h2;rw[hl]at i0 i1 i2⊢;have HL:=hid hl;have z44:((tx [44]).toList==[44])=true:=by rw[tx_toList];decide
 generalize tx [44]=u44 at*;have RO:=fun w=>r09RegOf p w
 have GV:=hid (fun(w2:World) (g:Gl w2)=>r09Given r (by omega) w2 g);clear T T1 g h0 h1 h2 h5 hl hn;cases hr:regOfX p with
 | none=>
   rw[hr]at RO HM;have RO:=hid (show ∀w,Calls Tryz.prog _ _ w (Ret w (.tuple #[.int .i64 0,.int .i64 90]))from RO);clear hr;go_enter Tryz.func105,Tryz.ntmps105;go_wp2_with fail;refine(RO.out _).mono ?_;rintro e w1 ⟨rfl,E1⟩;have T2:=HT.out.below E1;have c2:=T2.cell 2 (by omega);rw[(List.getElem?_eq_some_iff.1 H2.out).2]at c2;have g1:=HG.out.below E1;have HE1:=hid E1;clear E1 T2 c0 c1;go_wp2_with fail;refine(GV.out _ g1).mono ?_;rintro e w2 ⟨v,ok,rfl,HO,E2⟩;have EA:=hid (ext_trans HE1.out E2);have HO:=hid HO;clear c2 E2;cases ok<;>cases b3
   ·have HV:=hid HO.out.no
    have b0:=(BxL.new w #[.int .i64 0,.int .i64 0,.int .i64 0,.int .i64 0,.int .i64 0,.string ⟨#[]⟩,.string ⟨#[]⟩,.int .i64 0] 50).below EA.out;have p0:=b0.get 0 _ rfl;have p1:=b0.get 1 _ rfl;have p2:=b0.get 2 _ rfl;have p3:=b0.get 3 _ rfl;have p4:=b0.get 4 _ rfl;have p5:=b0.get 5 _ rfl;have p6:=b0.get 6 _ rfl;have p7:=b0.get 7 _ rfl;have f0:=fun j=>(frz_below EA.out (b:=w.heap.size) (by simp) j).trans (frz_new w _ _ j)
    have hlt0:w.heap.size<w2.heap.size:=by have:=EA.out.size;simp at this;omega
    clear b0;go_wp2_with fail;exact bodyPost_ret (by first|(simp[results,Tryz.results105,go_sem,p0,p1,p2,p3,p4,p5,p6,p7,tx_nil];done)|(simp[results,Tryz.results105,go_sem,p0,p1,p2,p3,p4,p5,p6,p7,tx_nil];rfl)) rfl ⟨⟨4,0,0,0,v,[],[],0⟩,false,rfl,(by unfold OptV;rw[HM.out];simp),put_below ((al w zI8).trans (EA.out.mono (by simp))) (by(repeat refine gr_put ?_ _ _);exact gr_refl _ _)⟩
   ·have HV:=hid HO.out.no
    have b0:=(BxL.new w #[.int .i64 0,.int .i64 0,.int .i64 0,.int .i64 0,.int .i64 0,.string ⟨#[]⟩,.string ⟨#[]⟩,.int .i64 0] 50).below EA.out;have p0:=b0.get 0 _ rfl;have p1:=b0.get 1 _ rfl;have p2:=b0.get 2 _ rfl;have p3:=b0.get 3 _ rfl;have p4:=b0.get 4 _ rfl;have p5:=b0.get 5 _ rfl;have p6:=b0.get 6 _ rfl;have p7:=b0.get 7 _ rfl;have f0:=fun j=>(frz_below EA.out (b:=w.heap.size) (by simp) j).trans (frz_new w _ _ j)
    have hlt0:w.heap.size<w2.heap.size:=by have:=EA.out.size;simp at this;omega
    clear b0;go_wp2_with fail;exact bodyPost_ret (by first|(simp[results,Tryz.results105,go_sem,p0,p1,p2,p3,p4,p5,p6,p7,tx_nil];done)|(simp[results,Tryz.results105,go_sem,p0,p1,p2,p3,p4,p5,p6,p7,tx_nil];rfl)) rfl ⟨⟨4,0,0,0,v,[],[],0⟩,false,rfl,(by unfold OptV;rw[HM.out];simp),put_below ((al w zI8).trans (EA.out.mono (by simp))) (by(repeat refine gr_put ?_ _ _);exact gr_refl _ _)⟩
   ·have HV:=hid HO.out.yes
    have b0:=(BxL.new w #[.int .i64 0,.int .i64 0,.int .i64 0,.int .i64 0,.int .i64 0,.string ⟨#[]⟩,.string ⟨#[]⟩,.int .i64 0] 50).below EA.out;have p0:=b0.get 0 _ rfl;have p1:=b0.get 1 _ rfl;have p2:=b0.get 2 _ rfl;have p3:=b0.get 3 _ rfl;have p4:=b0.get 4 _ rfl;have p5:=b0.get 5 _ rfl;have p6:=b0.get 6 _ rfl;have p7:=b0.get 7 _ rfl;have f0:=fun j=>(frz_below EA.out (b:=w.heap.size) (by simp) j).trans (frz_new w _ _ j)
    have hlt0:w.heap.size<w2.heap.size:=by have:=EA.out.size;simp at this;omega
    clear b0;go_wp2_with fail;exact bodyPost_ret (by first|(simp[results,Tryz.results105,go_sem,p0,p1,p2,p3,p4,p5,p6,p7,tx_nil];done)|(simp[results,Tryz.results105,go_sem,p0,p1,p2,p3,p4,p5,p6,p7,tx_nil];rfl)) rfl ⟨⟨4,0,0,0,v,[],[],0⟩,false,rfl,(by unfold OptV;rw[HM.out];simp),put_below ((al w zI8).trans (EA.out.mono (by simp))) (by(repeat refine gr_put ?_ _ _);exact gr_refl _ _)⟩
   ·have HV:=hid HO.out.yes
    have b0:=(BxL.new w #[.int .i64 0,.int .i64 0,.int .i64 0,.int .i64 0,.int .i64 0,.string ⟨#[]⟩,.string ⟨#[]⟩,.int .i64 0] 50).below EA.out;have p0:=b0.get 0 _ rfl;have p1:=b0.get 1 _ rfl;have p2:=b0.get 2 _ rfl;have p3:=b0.get 3 _ rfl;have p4:=b0.get 4 _ rfl;have p5:=b0.get 5 _ rfl;have p6:=b0.get 6 _ rfl;have p7:=b0.get 7 _ rfl;have f0:=fun j=>(frz_below EA.out (b:=w.heap.size) (by simp) j).trans (frz_new w _ _ j)
    have hlt0:w.heap.size<w2.heap.size:=by have:=EA.out.size;simp at this;omega
    clear b0;go_wp2_with fail;exact bodyPost_ret (by first|(simp[results,Tryz.results105,go_sem,p0,p1,p2,p3,p4,p5,p6,p7,tx_nil];done)|(simp[results,Tryz.results105,go_sem,p0,p1,p2,p3,p4,p5,p6,p7,tx_nil];rfl)) rfl ⟨⟨4,0,0,0,v,[],[],0⟩,false,rfl,(by unfold OptV;rw[HM.out];simp),put_below ((al w zI8).trans (EA.out.mono (by simp))) (by(repeat refine gr_put ?_ _ _);exact gr_refl _ _)⟩
 | some k=>
   rw[hr]at RO HM;have RO:=hid (show ∀w,Calls Tryz.prog _ _ w (Ret w (.tuple #[.int .i64 k,.int .i64 0]))from RO);clear hr;go_enter Tryz.func105,Tryz.ntmps105;go_wp2_with fail;refine(RO.out _).mono ?_;rintro e w1 ⟨rfl,E1⟩;have T2:=HT.out.below E1;have c2:=T2.cell 2 (by omega);rw[(List.getElem?_eq_some_iff.1 H2.out).2]at c2;have g1:=HG.out.below E1;have HE1:=hid E1;clear E1 T2 c0 c1;go_wp2_with fail;refine(GV.out _ g1).mono ?_;rintro e w2 ⟨v,ok,rfl,HO,E2⟩;have EA:=hid (ext_trans HE1.out E2);have HO:=hid HO;clear c2 E2;cases ok<;>cases b3
   ·have HV:=hid HO.out.no
    have b0:=(BxL.new w #[.int .i64 0,.int .i64 0,.int .i64 0,.int .i64 0,.int .i64 0,.string ⟨#[]⟩,.string ⟨#[]⟩,.int .i64 0] 50).below EA.out;have p0:=b0.get 0 _ rfl;have p1:=b0.get 1 _ rfl;have p2:=b0.get 2 _ rfl;have p3:=b0.get 3 _ rfl;have p4:=b0.get 4 _ rfl;have p5:=b0.get 5 _ rfl;have p6:=b0.get 6 _ rfl;have p7:=b0.get 7 _ rfl;have f0:=fun j=>(frz_below EA.out (b:=w.heap.size) (by simp) j).trans (frz_new w _ _ j)
    have hlt0:w.heap.size<w2.heap.size:=by have:=EA.out.size;simp at this;omega
    clear b0;go_wp2_with fail;exact bodyPost_ret (by first|(simp[results,Tryz.results105,go_sem,p0,p1,p2,p3,p4,p5,p6,p7,tx_nil];done)|(simp[results,Tryz.results105,go_sem,p0,p1,p2,p3,p4,p5,p6,p7,tx_nil];rfl)) rfl ⟨⟨4,k,0,0,v,[],[],0⟩,false,rfl,(by unfold OptV;rw[HM.out,HV.out];first|done|rfl|simp),put_below ((al w zI8).trans (EA.out.mono (by simp))) (by(repeat refine gr_put ?_ _ _);exact gr_refl _ _)⟩
   ·have HV:=hid HO.out.no
    have b0:=(BxL.new w #[.int .i64 0,.int .i64 0,.int .i64 0,.int .i64 0,.int .i64 0,.string ⟨#[]⟩,.string ⟨#[]⟩,.int .i64 0] 50).below EA.out;have p0:=b0.get 0 _ rfl;have p1:=b0.get 1 _ rfl;have p2:=b0.get 2 _ rfl;have p3:=b0.get 3 _ rfl;have p4:=b0.get 4 _ rfl;have p5:=b0.get 5 _ rfl;have p6:=b0.get 6 _ rfl;have p7:=b0.get 7 _ rfl;have f0:=fun j=>(frz_below EA.out (b:=w.heap.size) (by simp) j).trans (frz_new w _ _ j)
    have hlt0:w.heap.size<w2.heap.size:=by have:=EA.out.size;simp at this;omega
    clear b0;go_wp2_with fail;exact bodyPost_ret (by first|(simp[results,Tryz.results105,go_sem,p0,p1,p2,p3,p4,p5,p6,p7,tx_nil];done)|(simp[results,Tryz.results105,go_sem,p0,p1,p2,p3,p4,p5,p6,p7,tx_nil];rfl)) rfl ⟨⟨4,k,0,0,v,[],[],0⟩,false,rfl,(by unfold OptV;rw[HM.out,HV.out];first|done|rfl|simp),put_below ((al w zI8).trans (EA.out.mono (by simp))) (by(repeat refine gr_put ?_ _ _);exact gr_refl _ _)⟩
   ·have HV:=hid HO.out.yes
    have b0:=(BxL.new w #[.int .i64 0,.int .i64 0,.int .i64 0,.int .i64 0,.int .i64 0,.string ⟨#[]⟩,.string ⟨#[]⟩,.int .i64 0] 50).below EA.out;have p0:=b0.get 0 _ rfl;have p1:=b0.get 1 _ rfl;have p2:=b0.get 2 _ rfl;have p3:=b0.get 3 _ rfl;have p4:=b0.get 4 _ rfl;have p5:=b0.get 5 _ rfl;have p6:=b0.get 6 _ rfl;have p7:=b0.get 7 _ rfl;have f0:=fun j=>(frz_below EA.out (b:=w.heap.size) (by simp) j).trans (frz_new w _ _ j)
    have hlt0:w.heap.size<w2.heap.size:=by have:=EA.out.size;simp at this;omega
    clear b0;go_wp2_with fail;exact bodyPost_ret (by first|(simp[results,Tryz.results105,go_sem,p0,p1,p2,p3,p4,p5,p6,p7,tx_nil];done)|(simp[results,Tryz.results105,go_sem,p0,p1,p2,p3,p4,p5,p6,p7,tx_nil];rfl)) rfl ⟨⟨4,k,0,0,v,[],[],0⟩,false,rfl,(by unfold OptV;rw[HM.out,HV.out];first|done|rfl|simp),put_below ((al w zI8).trans (EA.out.mono (by simp))) (by(repeat refine gr_put ?_ _ _);exact gr_refl _ _)⟩
   ·have HV:=hid HO.out.yes
    have b0:=(BxL.new w #[.int .i64 0,.int .i64 0,.int .i64 0,.int .i64 0,.int .i64 0,.string ⟨#[]⟩,.string ⟨#[]⟩,.int .i64 0] 50).below EA.out;have p0:=b0.get 0 _ rfl;have p1:=b0.get 1 _ rfl;have p2:=b0.get 2 _ rfl;have p3:=b0.get 3 _ rfl;have p4:=b0.get 4 _ rfl;have p5:=b0.get 5 _ rfl;have p6:=b0.get 6 _ rfl;have p7:=b0.get 7 _ rfl;have f0:=fun j=>(frz_below EA.out (b:=w.heap.size) (by simp) j).trans (frz_new w _ _ j)
    have hlt0:w.heap.size<w2.heap.size:=by have:=EA.out.size;simp at this;omega
    clear b0;go_wp2_with fail;exact bodyPost_ret (by first|(simp[results,Tryz.results105,go_sem,p0,p1,p2,p3,p4,p5,p6,p7,tx_nil];done)|(simp[results,Tryz.results105,go_sem,p0,p1,p2,p3,p4,p5,p6,p7,tx_nil];rfl)) rfl ⟨⟨4,k,0,0,v,[],[],0⟩,true,rfl,(by unfold OptV;rw[HM.out,HV.out];first|done|rfl|simp),put_below ((al w zI8).trans (EA.out.mono (by simp))) (by(repeat refine gr_put ?_ _ _);exact gr_refl _ _)⟩
theorem r09Moved(L:List Tx)(hL: ∀x∈L,x.length<=262144)(a:Option Addr)(c:Nat)(hc:L.length<=c)(w:World)(T:Txs w a L)(hn:L.length<=1000000)(g:Gl w):Calls Tryz.prog 105 #[.slice a L.length c] w (RetMw (movedW L) w):=by
 by_cases h5:L.length=5
 ·match L,h5 with
  | [p,q,r,d,x],_=>
    by_cases hd:d=[44]
    ·subst hd
     exact r09Moved_1 p q r x (hL _ (by simp)) (hL _ (by simp)) a c hc w T g
    ·by_cases hq:q=[44]
     ·subst hq
      exact r09Moved_2 p r d x hd (hL _ (by simp)) a c hc w T
     ·exact r09Moved_3 [p,q,r,d,x] (fun _ e=>hd (by simpa using e)) (.inr fun e=>hq (by simpa using e)) a c w T hn
 ·by_cases h3:L.length<3
  ·exact r09Moved_3 L (fun h=>absurd h h5) (.inl h3) a c w T hn
  ·obtain⟨p,hp⟩: ∃p,L[0]? =some p:=⟨_,List.getElem?_eq_getElem (by omega)⟩
   obtain⟨q,hq⟩: ∃q,L[1]? =some q:=⟨_,List.getElem?_eq_getElem (by omega)⟩;obtain⟨r,hr⟩: ∃r,L[2]? =some r:=⟨_,List.getElem?_eq_getElem (by omega)⟩
   by_cases hq2:q=[44]
   ·subst hq2
    exact r09Moved_4 L p r hp hq hr h5 (hL _ (List.mem_of_getElem? hr)) a c w T hn g
   ·exact r09Moved_3 L (fun h=>absurd h h5) (.inr fun e=>hq2 (by rw[hq]at e;cases e;rfl)) a c w T hn
end Go.Proofs.YtkbbgjloifmmbaaGreatDoor

/- What ReadBlanksP leans on, part 26. -/
import Derived.Test.YtkbbgjloifmmbaaGreatDoorPc23
set_option linter.unusedVariables false
set_option maxRecDepth 100000
set_option maxHeartbeats 6400000
open _root_.Go.Proofs.Tryz
open _root_.List renaming getElem?_eq_some_iff->anx,length_cons->ans,getElem?_eq_getElem->am9,getElem_cons_zero->ap6,length_nil->apa,length_append->aoW,mem_singleton->aoi,mem_append->aok
open _root_.Go.Instr renaming indexAt->anm,sliceAt->anh
open _root_.Nat renaming add_zero->ano
open _root_.Go.World renaming frozen?->aoG
open _root_.Go.RowKit.Below renaming refl->anM,setCell->anc
namespace Go.Proofs.YtkbbgjloifmmbaaGreatDoor
open Go.RowKit Go.Sort
variable{ok:Bool}{e:Ending}{x:aL}{af n:Int}{l r:List Tok}{L:List Tx}{i:Nat}{a:Option Addr}{lc p q s u:Tx}{w w' w1:World}
def AB(o:Option ay)(w:World)(e:Ending)(w':World):Prop:= ∃i ok,e= .returned (.tuple #[vI i,.bool ok])/\bP o i ok/\Below w.heap.size w w'
theorem Xy(x y z:Tx):fA x y z=if(fA x y z).isSome=true then some y else none:=by
 unfold fA;split<;>rfl
theorem Cs(p q r x:Tx):ew [p,q,r,[44],x]=match gM x with
 |some n=>(fA p q r).map fun x=>⟨1,0,0,0,n,x,[],0⟩
 | none=>match fA p q r,cK x with
   |some x,some r=>some ⟨2,0,r,0,0,x,[],0⟩
   |_,_=>none:=by
 rw[ew,if_pos rfl];cases gM x<;>rfl
abbrev fK:Obj:=.cells #[.int .i64 0,.int .i64 0,.int .i64 0,.int .i64 0,.int .i64 0,.string ⟨#[]⟩,.string ⟨#[]⟩,.int .i64 0] 50
theorem kH{w2:World}(E:Below w.heap.size w w1)(hg:w1.grownBy w2 (Option.some w.heap.size)):Below w.heap.size w w2:=E.grown hg E.size (fun r hr=>by simp at hr;omega)
theorem bS.take3{r:Tx}{l:List Tx}(h:bS w a (p::q::r::l)):bS w a [p,q,r]:=⟨by have:=h.row.take 3;simpa using this,by simp⟩
theorem ah6(p q r x:Tx)(hq:q.length<=262144)(hx:x.length<=262144)(a:Option Addr)(c:Nat)(hc:5<=c)(w:World)(T:bS w a [p,q,r,[44],x])(g:Gl w):Calls prog 105 #[.slice a 5 c] w (AB (ew [p,q,r,[44],x]) w):=by
 have E0:=al w fK;have T1:=T.below E0;have HG:=hid (g.below E0);have i3: ∀w',(anm 42 (.slice a 5 c) (.int .i64 3)).run prog w'=_:=T1.idx 3 (by simp) c;have i4: ∀w',(anm 42 (.slice a 5 c) (.int .i64 4)).run prog w'=_:=T1.idx 4 (by simp) c;have c3:(w.alloc fK).cell? ⟨bk a,fo a+3,none⟩=some (.string (tx [44])):=T1.cell 3 (by simp);have ct: ∀w',(anh 42 (.slice a 5 c) none (some (.int .i64 3)) none).run prog w'=_:=Y9 jc a 5 c 3 (by omega) .i64;have PL:=hid (Ye p q r (by omega) a c (w.alloc fK) T1.take3);have HT:=hid T1;obtain⟨b1,dH⟩:=aj ((fA p q r).isSome);have HP:=hid (show fA p q r=if b1=true then some q else none by rw[<-dH];exact Xy p q r);rw[dH]at PL;have z44:((tx [44]).toList==[44])=true:=by rw[bh];decide
 generalize tx [44]=ZS at*;clear dH g T T1;go_in;go_wp2_with fail;refine PL.out.mono ?_;rintro e w1 ⟨rfl,q1⟩;have E1:=QW.below (w:=w.alloc fK) (w':=w1) q1;have T2:=HT.out.below E1;have c4:w1.cell? ⟨bk a,fo a+4,none⟩=some (.string (tx x)):=T2.cell 4 (by simp);have GV:=hid (fun(w2:World) (g:Gl w2)=>Yd x (by omega) w2 g);have g1:=HG.out.below E1;have jT:=hid E1;clear T2 q1;go_wp2_with fail;refine(GV.out _ g1).mono ?_;rintro e w2 ⟨v,ok,rfl,HO,E2⟩;have HO:=hid HO;have EA:=hid (aB jT.out E2);cases ok
 ·have HV:=hid HO.out.no
  have T3:=HT.out.below EA.out;have c4:w2.cell? ⟨bk a,fo a+4,none⟩=some (.string (tx x)):=T3.cell 4 (by simp);have RO:=fun w=>Nj x w
  clear T3;cases hr:cK x with
  | none=>
    rw[hr]at RO;have RO:=hid (show ∀w,Calls prog _ _ w (aJ w (.tuple #[.int .i64 0,.int .i64 90]))from RO);have HR:=hid hr;clear hr;cases b1
    ·go_wp2_with fail
     refine(RO.out _).mono ?_;rintro e w3 ⟨rfl,E3⟩;have EA:=hid (aB EA.out E3);have b0:=(aA.new w #[.int .i64 0,.int .i64 0,.int .i64 0,.int .i64 0,.int .i64 0,.string ⟨#[]⟩,.string ⟨#[]⟩,.int .i64 0] 50).below EA.out;obtain⟨p0,p1,p2,p3,p4,p5,p6,p7⟩:=b0.gJ;have f0:=fun j=>(dM EA.out (b:=w.heap.size) (by simp) j).trans (aV w _ _ j)
     have dV:w.heap.size<w3.heap.size:=by have:=EA.out.size;simp at this;omega
     clear b0;go_wp2_with fail;exact bodyPost_ret (by simp[results,results105,go_sem,p0,p1,p2,p3,p4,p5,p6,p7,aS]<;>rfl) rfl ⟨⟨2,0,0,0,0,q,[],0⟩,false,rfl,(by unfold bP;rw[Cs,HV.out,HP.out,HR.out];rfl),kH ((al w fK).trans (EA.out.mono (by simp))) cW⟩
    go_wp2_with fail
    refine(RO.out _).mono ?_;rintro e w3 ⟨rfl,E3⟩;have EA:=hid (aB EA.out E3);have b0:=(aA.new w #[.int .i64 0,.int .i64 0,.int .i64 0,.int .i64 0,.int .i64 0,.string ⟨#[]⟩,.string ⟨#[]⟩,.int .i64 0] 50).below EA.out;obtain⟨p0,p1,p2,p3,p4,p5,p6,p7⟩:=b0.gJ;have f0:=fun j=>(dM EA.out (b:=w.heap.size) (by simp) j).trans (aV w _ _ j)
    have dV:w.heap.size<w3.heap.size:=by have:=EA.out.size;simp at this;omega
    clear b0;go_wp2_with fail;exact bodyPost_ret (by simp[results,results105,go_sem,p0,p1,p2,p3,p4,p5,p6,p7,aS]<;>rfl) rfl ⟨⟨2,0,0,0,0,q,[],0⟩,false,rfl,(by unfold bP;rw[Cs,HV.out,HP.out,HR.out];rfl),kH ((al w fK).trans (EA.out.mono (by simp))) cW⟩
  | some k=>
    rw[hr]at RO;have RO:=hid (show ∀w,Calls prog _ _ w (aJ w (.tuple #[.int .i64 k,.int .i64 0]))from RO);have HR:=hid hr;clear hr;cases b1
    ·go_wp2_with fail
     refine(RO.out _).mono ?_;rintro e w3 ⟨rfl,E3⟩;have EA:=hid (aB EA.out E3);have b0:=(aA.new w #[.int .i64 0,.int .i64 0,.int .i64 0,.int .i64 0,.int .i64 0,.string ⟨#[]⟩,.string ⟨#[]⟩,.int .i64 0] 50).below EA.out;obtain⟨p0,p1,p2,p3,p4,p5,p6,p7⟩:=b0.gJ;have f0:=fun j=>(dM EA.out (b:=w.heap.size) (by simp) j).trans (aV w _ _ j)
     have dV:w.heap.size<w3.heap.size:=by have:=EA.out.size;simp at this;omega
     clear b0;go_wp2_with fail;exact bodyPost_ret (by simp[results,results105,go_sem,p0,p1,p2,p3,p4,p5,p6,p7,aS]<;>rfl) rfl ⟨⟨2,0,k,0,0,q,[],0⟩,false,rfl,(by unfold bP;rw[Cs,HV.out,HP.out,HR.out];rfl),kH ((al w fK).trans (EA.out.mono (by simp))) cW⟩
    go_wp2_with fail
    refine(RO.out _).mono ?_;rintro e w3 ⟨rfl,E3⟩;have EA:=hid (aB EA.out E3);have b0:=(aA.new w #[.int .i64 0,.int .i64 0,.int .i64 0,.int .i64 0,.int .i64 0,.string ⟨#[]⟩,.string ⟨#[]⟩,.int .i64 0] 50).below EA.out;obtain⟨p0,p1,p2,p3,p4,p5,p6,p7⟩:=b0.gJ;have f0:=fun j=>(dM EA.out (b:=w.heap.size) (by simp) j).trans (aV w _ _ j)
    have dV:w.heap.size<w3.heap.size:=by have:=EA.out.size;simp at this;omega
    clear b0;go_wp2_with fail;exact bodyPost_ret (by simp[results,results105,go_sem,p0,p1,p2,p3,p4,p5,p6,p7,aS]<;>rfl) rfl ⟨⟨2,0,k,0,0,q,[],0⟩,true,rfl,(by unfold bP;rw[Cs,HV.out,HP.out,HR.out];rfl),kH ((al w fK).trans (EA.out.mono (by simp))) cW⟩
 have HV:=hid HO.out.yes
 have b0:=(aA.new w #[.int .i64 0,.int .i64 0,.int .i64 0,.int .i64 0,.int .i64 0,.string ⟨#[]⟩,.string ⟨#[]⟩,.int .i64 0] 50).below EA.out;obtain⟨p0,p1,p2,p3,p4,p5,p6,p7⟩:=b0.gJ;have f0:=fun j=>(dM EA.out (b:=w.heap.size) (by simp) j).trans (aV w _ _ j)
 have dV:w.heap.size<w2.heap.size:=by have:=EA.out.size;simp at this;omega
 clear b0;go_wp2_with fail;exact bodyPost_ret (by simp[results,results105,go_sem,p0,p1,p2,p3,p4,p5,p6,p7,aS]<;>rfl) rfl ⟨⟨1,0,0,0,v,q,[],0⟩,b1,rfl,(by unfold bP;rw[Cs,HV.out,HP.out];cases b1<;>rfl),kH ((al w fK).trans (EA.out.mono (by simp))) cW⟩
theorem afO(p r d x:Tx)(hd:d≠[44]):ew [p,[44],r,d,x]=match cK p,fA r d x with
 |some r,some x=>some ⟨3,r,0,0,0,x,[],0⟩
 |_,_=>none:=by
 rw[ew,if_neg hd,if_pos rfl];cases cK p<;>cases fA r d x<;>rfl
theorem bS.acA{l:List Tx}(h:bS w a (p::q::l))(c:Nat)(hc:c≠2):bS w (j8 a (c=2) (2*1)) l:=⟨by have:=h.row.drop (2*1) (c=2) (fun h=>absurd h hc);simpa using this,by have:=h.len;simp at this;omega⟩
theorem ah7(p r d x:Tx)(hd:d≠[44])(hq:d.length<=262144)(a:Option Addr)(c:Nat)(hc:5<=c)(w:World)(T:bS w a [p,[44],r,d,x]):Calls prog 105 #[.slice a 5 c] w (AB (ew [p,[44],r,d,x]) w):=by
 have E0:=al w fK;have T1:=T.below E0;have i0: ∀w',(anm 42 (.slice a 5 c) (.int .i64 0)).run prog w'=_:=T1.idx 0 (by simp) c;have i1: ∀w',(anm 42 (.slice a 5 c) (.int .i64 1)).run prog w'=_:=T1.idx 1 (by simp) c;have i3: ∀w',(anm 42 (.slice a 5 c) (.int .i64 3)).run prog w'=_:=T1.idx 3 (by simp) c;have c0:(w.alloc fK).cell? ⟨bk a,fo a+0,none⟩=some (.string (tx p)):=T1.cell 0 (by simp);have c1:(w.alloc fK).cell? ⟨bk a,fo a+1,none⟩=some (.string (tx [44])):=T1.cell 1 (by simp);have c3:(w.alloc fK).cell? ⟨bk a,fo a+3,none⟩=some (.string (tx d)):=T1.cell 3 (by simp);simp only[ano]at i0 c0;have ct: ∀w',(anh 42 (.slice a 5 c) (some (.int .i64 2)) none none).run prog w'=_:=GU jc a 5 c 2 (by omega) .i64;have HT:=hid T1;have zd:=cY _ _ hd;obtain⟨b1,dH⟩:=aj ((fA r d x).isSome);have HP:=hid (show fA r d x=if b1=true then some d else none by rw[<-dH];exact Xy r d x);have PL:=hid (fun(w2:World) (T:bS w2 a [p,[44],r,d,x])=>Ye r d x (by omega) (j8 a (c=2) (2*1)) (c-2) w2 (T.acA c (by omega)));rw[dH]at PL;have z44:((tx [44]).toList==[44])=true:=by rw[bh];decide
 generalize tx [44]=ZS at*;have RO:=fun w=>Nj p w
 have HM:=hid (afO p r d x hd);generalize j8 a (c=2) (2*1)=a2 at*;have e52:5-2=3:=rfl;clear dH T T1 hd;cases hr:cK p with
 | none=>
   rw[hr]at RO;have RO:=hid (show ∀w,Calls prog _ _ w (aJ w (.tuple #[.int .i64 0,.int .i64 90]))from RO);have HR:=hid hr;clear hr;go_in;go_wp2_with fail;refine(RO.out _).mono ?_;rintro e w1 ⟨rfl,E1⟩;have jT:=hid E1;have PL:=hid (PL.out w1 (HT.out.below E1));clear E1;go_wp2_with fail;refine PL.out.mono ?_;rintro e w2 ⟨rfl,q2⟩;have EA:=hid (aB jT.out (QW.below (w:=w1) (w':=w2) q2));clear q2;cases b1
   ·skip
    have b0:=(aA.new w #[.int .i64 0,.int .i64 0,.int .i64 0,.int .i64 0,.int .i64 0,.string ⟨#[]⟩,.string ⟨#[]⟩,.int .i64 0] 50).below EA.out;obtain⟨p0,p1,p2,p3,p4,p5,p6,p7⟩:=b0.gJ;have f0:=fun j=>(dM EA.out (b:=w.heap.size) (by simp) j).trans (aV w _ _ j)
    have dV:w.heap.size<w2.heap.size:=by have:=EA.out.size;simp at this;omega
    clear b0;go_wp2_with fail;exact bodyPost_ret (by simp[results,results105,go_sem,p0,p1,p2,p3,p4,p5,p6,p7,aS]<;>rfl) rfl ⟨⟨3,0,0,0,0,d,[],0⟩,false,rfl,(by unfold bP;rw[HM.out,HP.out,HR.out];rfl),kH ((al w fK).trans (EA.out.mono (by simp))) cW⟩
   skip
   have b0:=(aA.new w #[.int .i64 0,.int .i64 0,.int .i64 0,.int .i64 0,.int .i64 0,.string ⟨#[]⟩,.string ⟨#[]⟩,.int .i64 0] 50).below EA.out;obtain⟨p0,p1,p2,p3,p4,p5,p6,p7⟩:=b0.gJ;have f0:=fun j=>(dM EA.out (b:=w.heap.size) (by simp) j).trans (aV w _ _ j)
   have dV:w.heap.size<w2.heap.size:=by have:=EA.out.size;simp at this;omega
   clear b0;go_wp2_with fail;exact bodyPost_ret (by simp[results,results105,go_sem,p0,p1,p2,p3,p4,p5,p6,p7,aS]<;>rfl) rfl ⟨⟨3,0,0,0,0,d,[],0⟩,false,rfl,(by unfold bP;rw[HM.out,HP.out,HR.out];rfl),kH ((al w fK).trans (EA.out.mono (by simp))) cW⟩
 | some k=>
   rw[hr]at RO;have RO:=hid (show ∀w,Calls prog _ _ w (aJ w (.tuple #[.int .i64 k,.int .i64 0]))from RO);have HR:=hid hr;clear hr;go_in;go_wp2_with fail;refine(RO.out _).mono ?_;rintro e w1 ⟨rfl,E1⟩;have jT:=hid E1;have PL:=hid (PL.out w1 (HT.out.below E1));clear E1;go_wp2_with fail;refine PL.out.mono ?_;rintro e w2 ⟨rfl,q2⟩;have EA:=hid (aB jT.out (QW.below (w:=w1) (w':=w2) q2));clear q2;cases b1
   ·skip
    have b0:=(aA.new w #[.int .i64 0,.int .i64 0,.int .i64 0,.int .i64 0,.int .i64 0,.string ⟨#[]⟩,.string ⟨#[]⟩,.int .i64 0] 50).below EA.out;obtain⟨p0,p1,p2,p3,p4,p5,p6,p7⟩:=b0.gJ;have f0:=fun j=>(dM EA.out (b:=w.heap.size) (by simp) j).trans (aV w _ _ j)
    have dV:w.heap.size<w2.heap.size:=by have:=EA.out.size;simp at this;omega
    clear b0;go_wp2_with fail;exact bodyPost_ret (by simp[results,results105,go_sem,p0,p1,p2,p3,p4,p5,p6,p7,aS]<;>rfl) rfl ⟨⟨3,k,0,0,0,d,[],0⟩,false,rfl,(by unfold bP;rw[HM.out,HP.out,HR.out];rfl),kH ((al w fK).trans (EA.out.mono (by simp))) cW⟩
   skip
   have b0:=(aA.new w #[.int .i64 0,.int .i64 0,.int .i64 0,.int .i64 0,.int .i64 0,.string ⟨#[]⟩,.string ⟨#[]⟩,.int .i64 0] 50).below EA.out;obtain⟨p0,p1,p2,p3,p4,p5,p6,p7⟩:=b0.gJ;have f0:=fun j=>(dM EA.out (b:=w.heap.size) (by simp) j).trans (aV w _ _ j)
   have dV:w.heap.size<w2.heap.size:=by have:=EA.out.size;simp at this;omega
   clear b0;go_wp2_with fail;exact bodyPost_ret (by simp[results,results105,go_sem,p0,p1,p2,p3,p4,p5,p6,p7,aS]<;>rfl) rfl ⟨⟨3,k,0,0,0,d,[],0⟩,true,rfl,(by unfold bP;rw[HM.out,HP.out,HR.out];rfl),kH ((al w fK).trans (EA.out.mono (by simp))) cW⟩
theorem afQ(h3:L.length≠3)(h5:L.length≠5):ew L=none:=by
 match L,h3,h5 with
 |[],_,_=>rfl
 |[_],_,_=>rfl
 |[_,_],_,_=>rfl
 |[_,_,_],h,_=>exact absurd rfl h
 |[_,_,_,_],_,_=>rfl
 |[_,_,_,_,_],_,h=>exact absurd rfl h
 |_::_::_::_::_::_::_,_,_=>rfl
theorem afS(h:L.length=5->L[3]? ≠some [44])(h2:L.length<3\/L[1]? ≠some [44]):ew L=none:=by
 match L,h,h2 with
 |[],_,_=>rfl
 |[_],_,_=>rfl
 |[_,_],_,_=>rfl
 | [a,b,c],_,h2=>
   rcases h2 with h2|h2
   ·simp at h2
   simp only[ew];rw[if_neg (fun e=>h2 (by rw[e];rfl))]
 |[_,_,_,_],_,_=>rfl
 | [a,b,c,d,e],h,h2=>
   rcases h2 with h2|h2
   ·exact absurd h2 (by simp)
   simp only[ew];rw[if_neg (fun e=>h rfl (by rw[e];rfl)),if_neg (fun e=>h2 (by rw[e];rfl))]
 |_::_::_::_::_::_::_,_,_=>rfl
theorem afP{r:Tx}:ew [p,[44],r]=match cK p,gM r with
 |some r,some n=>some ⟨4,r,0,0,n,[],[],0⟩
 |_,_=>none:=by
 simp only[ew];rw[if_pos trivial];cases cK p<;>cases gM r<;>rfl
theorem Nh(L:List Tx)(h:L.length=5->L[3]? ≠some [44])(h2:L.length<3\/L[1]? ≠some [44])(a:Option Addr)(c:Nat)(w:World)(T:bS w a L)(hn:L.length<=1000000):Calls prog 105 #[.slice a L.length c] w (AB (ew L) w):=by
 have T1:=T.below (al w fK);have HM:=hid (show bP (ew L) ⟨0,0,0,0,0,[],[],0⟩ false by unfold bP;rw[afS h h2];rfl);obtain⟨n,hl⟩:=aj L.length
 by_cases h5:n=5
 ·obtain⟨d,hd⟩: ∃d,L[3]? =some d:=⟨_,am9 (by omega)⟩
  obtain⟨q,hq⟩: ∃q,L[1]? =some q:=⟨_,am9 (by omega)⟩;have zd:=cY d [44] (fun e=>h (by omega) (by rw[hd,e]))
  have zq:=cY q [44] (fun e=>by
   rcases h2 with h2|h2
   ·omega
   exact h2 (by rw[hq,e]))
  have i3: ∀w',(anm 42 (.slice a L.length c) (.int .i64 3)).run prog w'=_:=T1.idx 3 (by omega) c;have i1: ∀w',(anm 42 (.slice a L.length c) (.int .i64 1)).run prog w'=_:=T1.idx 1 (by omega) c;have c3:=T1.cell 3 (by omega);rw[(anx.1 hd).2]at c3;have c1:=T1.cell 1 (by omega);rw[(anx.1 hq).2]at c1;rw[hl,h5]at i3 i1⊢;have b0:=aA.new w #[.int .i64 0,.int .i64 0,.int .i64 0,.int .i64 0,.int .i64 0,.string ⟨#[]⟩,.string ⟨#[]⟩,.int .i64 0] 50;obtain⟨p0,p1,p2,p3,p4,p5,p6,p7⟩:=b0.gJ;have f0:=fun j=>aV w #[.int .i64 0,.int .i64 0,.int .i64 0,.int .i64 0,.int .i64 0,.string ⟨#[]⟩,.string ⟨#[]⟩,.int .i64 0] 50 j
  clear b0;clear T T1 hd hq h h2 hl h5 hn;go_in;go_wp2_with fail;exact bodyPost_ret (by simp[results,results105,go_sem,p0,p1,p2,p3,p4,p5,p6,p7,aS]<;>rfl) rfl ⟨⟨0,0,0,0,0,[],[],0⟩,false,rfl,HM.out,kH (al w fK) cW⟩
 by_cases h3:n<3
 have z5:((n:Int)==5)=false:=ah;have z3:decide ((n:Int)<3)=true:=ah;rw[hl];have b0:=aA.new w #[.int .i64 0,.int .i64 0,.int .i64 0,.int .i64 0,.int .i64 0,.string ⟨#[]⟩,.string ⟨#[]⟩,.int .i64 0] 50;obtain⟨p0,p1,p2,p3,p4,p5,p6,p7⟩:=b0.gJ;have f0:=fun j=>aV w #[.int .i64 0,.int .i64 0,.int .i64 0,.int .i64 0,.int .i64 0,.string ⟨#[]⟩,.string ⟨#[]⟩,.int .i64 0] 50 j
 clear b0;clear T T1 h h2 hl h5 hn h3;go_in;go_wp2_with fail;exact bodyPost_ret (by simp[results,results105,go_sem,p0,p1,p2,p3,p4,p5,p6,p7,aS]<;>rfl) rfl ⟨⟨0,0,0,0,0,[],[],0⟩,false,rfl,HM.out,kH (al w fK) cW⟩
 obtain⟨q,hq⟩: ∃q,L[1]? =some q:=⟨_,am9 (by omega)⟩
 have zq:=cY q [44] (fun e=>by
  rcases h2 with h2|h2
  ·omega
  exact h2 (by rw[hq,e]))
 have z5:((n:Int)==5)=false:=ah;have z3:decide ((n:Int)<3)=false:=ah;have i1: ∀w',(anm 42 (.slice a L.length c) (.int .i64 1)).run prog w'=_:=T1.idx 1 (by omega) c;have c1:=T1.cell 1 (by omega);rw[(anx.1 hq).2]at c1;rw[hl]at i1⊢;have b0:=aA.new w #[.int .i64 0,.int .i64 0,.int .i64 0,.int .i64 0,.int .i64 0,.string ⟨#[]⟩,.string ⟨#[]⟩,.int .i64 0] 50;obtain⟨p0,p1,p2,p3,p4,p5,p6,p7⟩:=b0.gJ;have f0:=fun j=>aV w #[.int .i64 0,.int .i64 0,.int .i64 0,.int .i64 0,.int .i64 0,.string ⟨#[]⟩,.string ⟨#[]⟩,.int .i64 0] 50 j
 clear b0;clear T T1 hq h h2 hl h5 hn h3;go_in;go_wp2_with fail;exact bodyPost_ret (by simp[results,results105,go_sem,p0,p1,p2,p3,p4,p5,p6,p7,aS]<;>rfl) rfl ⟨⟨0,0,0,0,0,[],[],0⟩,false,rfl,HM.out,kH (al w fK) cW⟩
theorem ah8(L:List Tx)(p r:Tx)(h0:L[0]? =some p)(h1:L[1]? =some [44])(h2:L[2]? =some r)(h5:L.length≠5)(hr:r.length<=262144)(a:Option Addr)(c:Nat)(w:World)(T:bS w a L)(hn:L.length<=1000000)(g:Gl w):Calls prog 105 #[.slice a L.length c] w (AB (ew L) w):=by
 have T1:=T.below (al w fK);have HG:=hid (g.below (al w fK));have Tq:=(anx.1 h2).1;obtain⟨n,hl⟩:=aj L.length;have z5:((n:Int)==5)=false:=ah;have z3:decide ((n:Int)<3)=false:=ah;obtain⟨b3,eJ⟩: ∃b,((n:Int)==3)=b:=⟨_,rfl⟩
 have HM:=hid (show ew L=if b3=true then(match cK p,gM r with
  |some r,some n=>some ⟨4,r,0,0,n,[],[],0⟩
  |_,_=>none)else none by
  cases b3 with
  | true=>
    have e3:L.length=3:=by simp at eJ;omega
    match L,e3 with
    | [x,y,z],_=>
      cases h0;cases h1;cases h2;rw[afP,if_pos rfl]
  |false=>rw[if_neg (by decide),afQ (by simp at eJ;omega) h5])
 have i0: ∀w',(anm 42 (.slice a L.length c) (.int .i64 0)).run prog w'=_:=T1.idx 0 (by omega) c;have i1: ∀w',(anm 42 (.slice a L.length c) (.int .i64 1)).run prog w'=_:=T1.idx 1 (by omega) c;have i2: ∀w',(anm 42 (.slice a L.length c) (.int .i64 2)).run prog w'=_:=T1.idx 2 (by omega) c;have c0:=T1.cell 0 (by omega);rw[(anx.1 h0).2]at c0;have c1:=T1.cell 1 (by omega);rw[(anx.1 h1).2]at c1;simp only[ano]at i0 c0;have HT:=hid T1;have H2:=hid h2;rw[hl]at i0 i1 i2⊢;have HL:=hid hl;have z44:((tx [44]).toList==[44])=true:=by rw[bh];decide
 generalize tx [44]=ZS at*;have RO:=fun w=>Nj p w
 have GV:=hid (fun(w2:World) (g:Gl w2)=>Yd r (by omega) w2 g);clear T T1 g h0 h1 h2 h5 hl hn;cases hr:cK p with
 | none=>
   rw[hr]at RO HM;have RO:=hid (show ∀w,Calls prog _ _ w (aJ w (.tuple #[.int .i64 0,.int .i64 90]))from RO);clear hr;go_in;go_wp2_with fail;refine(RO.out _).mono ?_;rintro e w1 ⟨rfl,E1⟩;have T2:=HT.out.below E1;have c2:=T2.cell 2 (by omega);rw[(anx.1 H2.out).2]at c2;have g1:=HG.out.below E1;have jT:=hid E1;clear E1 T2 c0 c1;go_wp2_with fail;refine(GV.out _ g1).mono ?_;rintro e w2 ⟨v,ok,rfl,HO,E2⟩;have EA:=hid (aB jT.out E2);have HO:=hid HO;clear c2 E2;cases ok<;>cases b3
   ·have HV:=hid HO.out.no
    have b0:=(aA.new w #[.int .i64 0,.int .i64 0,.int .i64 0,.int .i64 0,.int .i64 0,.string ⟨#[]⟩,.string ⟨#[]⟩,.int .i64 0] 50).below EA.out;obtain⟨p0,p1,p2,p3,p4,p5,p6,p7⟩:=b0.gJ;have f0:=fun j=>(dM EA.out (b:=w.heap.size) (by simp) j).trans (aV w _ _ j)
    have dV:w.heap.size<w2.heap.size:=by have:=EA.out.size;simp at this;omega
    clear b0;go_wp2_with fail;exact bodyPost_ret (by simp[results,results105,go_sem,p0,p1,p2,p3,p4,p5,p6,p7,aS]<;>rfl) rfl ⟨⟨4,0,0,0,v,[],[],0⟩,false,rfl,(by unfold bP;rw[HM.out];simp),kH ((al w fK).trans (EA.out.mono (by simp))) cW⟩
   ·have HV:=hid HO.out.no
    have b0:=(aA.new w #[.int .i64 0,.int .i64 0,.int .i64 0,.int .i64 0,.int .i64 0,.string ⟨#[]⟩,.string ⟨#[]⟩,.int .i64 0] 50).below EA.out;obtain⟨p0,p1,p2,p3,p4,p5,p6,p7⟩:=b0.gJ;have f0:=fun j=>(dM EA.out (b:=w.heap.size) (by simp) j).trans (aV w _ _ j)
    have dV:w.heap.size<w2.heap.size:=by have:=EA.out.size;simp at this;omega
    clear b0;go_wp2_with fail;exact bodyPost_ret (by simp[results,results105,go_sem,p0,p1,p2,p3,p4,p5,p6,p7,aS]<;>rfl) rfl ⟨⟨4,0,0,0,v,[],[],0⟩,false,rfl,(by unfold bP;rw[HM.out];simp),kH ((al w fK).trans (EA.out.mono (by simp))) cW⟩
   ·have HV:=hid HO.out.yes
    have b0:=(aA.new w #[.int .i64 0,.int .i64 0,.int .i64 0,.int .i64 0,.int .i64 0,.string ⟨#[]⟩,.string ⟨#[]⟩,.int .i64 0] 50).below EA.out;obtain⟨p0,p1,p2,p3,p4,p5,p6,p7⟩:=b0.gJ;have f0:=fun j=>(dM EA.out (b:=w.heap.size) (by simp) j).trans (aV w _ _ j)
    have dV:w.heap.size<w2.heap.size:=by have:=EA.out.size;simp at this;omega
    clear b0;go_wp2_with fail;exact bodyPost_ret (by simp[results,results105,go_sem,p0,p1,p2,p3,p4,p5,p6,p7,aS]<;>rfl) rfl ⟨⟨4,0,0,0,v,[],[],0⟩,false,rfl,(by unfold bP;rw[HM.out];simp),kH ((al w fK).trans (EA.out.mono (by simp))) cW⟩
   have HV:=hid HO.out.yes
   have b0:=(aA.new w #[.int .i64 0,.int .i64 0,.int .i64 0,.int .i64 0,.int .i64 0,.string ⟨#[]⟩,.string ⟨#[]⟩,.int .i64 0] 50).below EA.out;obtain⟨p0,p1,p2,p3,p4,p5,p6,p7⟩:=b0.gJ;have f0:=fun j=>(dM EA.out (b:=w.heap.size) (by simp) j).trans (aV w _ _ j)
   have dV:w.heap.size<w2.heap.size:=by have:=EA.out.size;simp at this;omega
   clear b0;go_wp2_with fail;exact bodyPost_ret (by simp[results,results105,go_sem,p0,p1,p2,p3,p4,p5,p6,p7,aS]<;>rfl) rfl ⟨⟨4,0,0,0,v,[],[],0⟩,false,rfl,(by unfold bP;rw[HM.out];simp),kH ((al w fK).trans (EA.out.mono (by simp))) cW⟩
 | some k=>
   rw[hr]at RO HM;have RO:=hid (show ∀w,Calls prog _ _ w (aJ w (.tuple #[.int .i64 k,.int .i64 0]))from RO);clear hr;go_in;go_wp2_with fail;refine(RO.out _).mono ?_;rintro e w1 ⟨rfl,E1⟩;have T2:=HT.out.below E1;have c2:=T2.cell 2 (by omega);rw[(anx.1 H2.out).2]at c2;have g1:=HG.out.below E1;have jT:=hid E1;clear E1 T2 c0 c1;go_wp2_with fail;refine(GV.out _ g1).mono ?_;rintro e w2 ⟨v,ok,rfl,HO,E2⟩;have EA:=hid (aB jT.out E2);have HO:=hid HO;clear c2 E2;cases ok<;>cases b3
   ·have HV:=hid HO.out.no
    have b0:=(aA.new w #[.int .i64 0,.int .i64 0,.int .i64 0,.int .i64 0,.int .i64 0,.string ⟨#[]⟩,.string ⟨#[]⟩,.int .i64 0] 50).below EA.out;obtain⟨p0,p1,p2,p3,p4,p5,p6,p7⟩:=b0.gJ;have f0:=fun j=>(dM EA.out (b:=w.heap.size) (by simp) j).trans (aV w _ _ j)
    have dV:w.heap.size<w2.heap.size:=by have:=EA.out.size;simp at this;omega
    clear b0;go_wp2_with fail;exact bodyPost_ret (by simp[results,results105,go_sem,p0,p1,p2,p3,p4,p5,p6,p7,aS]<;>rfl) rfl ⟨⟨4,k,0,0,v,[],[],0⟩,false,rfl,(by unfold bP;rw[HM.out,HV.out];first|done|rfl|simp),kH ((al w fK).trans (EA.out.mono (by simp))) cW⟩
   ·have HV:=hid HO.out.no
    have b0:=(aA.new w #[.int .i64 0,.int .i64 0,.int .i64 0,.int .i64 0,.int .i64 0,.string ⟨#[]⟩,.string ⟨#[]⟩,.int .i64 0] 50).below EA.out;obtain⟨p0,p1,p2,p3,p4,p5,p6,p7⟩:=b0.gJ;have f0:=fun j=>(dM EA.out (b:=w.heap.size) (by simp) j).trans (aV w _ _ j)
    have dV:w.heap.size<w2.heap.size:=by have:=EA.out.size;simp at this;omega
    clear b0;go_wp2_with fail;exact bodyPost_ret (by simp[results,results105,go_sem,p0,p1,p2,p3,p4,p5,p6,p7,aS]<;>rfl) rfl ⟨⟨4,k,0,0,v,[],[],0⟩,false,rfl,(by unfold bP;rw[HM.out,HV.out];first|done|rfl|simp),kH ((al w fK).trans (EA.out.mono (by simp))) cW⟩
   ·have HV:=hid HO.out.yes
    have b0:=(aA.new w #[.int .i64 0,.int .i64 0,.int .i64 0,.int .i64 0,.int .i64 0,.string ⟨#[]⟩,.string ⟨#[]⟩,.int .i64 0] 50).below EA.out;obtain⟨p0,p1,p2,p3,p4,p5,p6,p7⟩:=b0.gJ;have f0:=fun j=>(dM EA.out (b:=w.heap.size) (by simp) j).trans (aV w _ _ j)
    have dV:w.heap.size<w2.heap.size:=by have:=EA.out.size;simp at this;omega
    clear b0;go_wp2_with fail;exact bodyPost_ret (by simp[results,results105,go_sem,p0,p1,p2,p3,p4,p5,p6,p7,aS]<;>rfl) rfl ⟨⟨4,k,0,0,v,[],[],0⟩,false,rfl,(by unfold bP;rw[HM.out,HV.out];first|done|rfl|simp),kH ((al w fK).trans (EA.out.mono (by simp))) cW⟩
   have HV:=hid HO.out.yes
   have b0:=(aA.new w #[.int .i64 0,.int .i64 0,.int .i64 0,.int .i64 0,.int .i64 0,.string ⟨#[]⟩,.string ⟨#[]⟩,.int .i64 0] 50).below EA.out;obtain⟨p0,p1,p2,p3,p4,p5,p6,p7⟩:=b0.gJ;have f0:=fun j=>(dM EA.out (b:=w.heap.size) (by simp) j).trans (aV w _ _ j)
   have dV:w.heap.size<w2.heap.size:=by have:=EA.out.size;simp at this;omega
   clear b0;go_wp2_with fail;exact bodyPost_ret (by simp[results,results105,go_sem,p0,p1,p2,p3,p4,p5,p6,p7,aS]<;>rfl) rfl ⟨⟨4,k,0,0,v,[],[],0⟩,true,rfl,(by unfold bP;rw[HM.out,HV.out];first|done|rfl|simp),kH ((al w fK).trans (EA.out.mono (by simp))) cW⟩
theorem ah5(L:List Tx)(hL: ∀x∈L,x.length<=262144)(a:Option Addr)(c:Nat)(hc:L.length<=c)(w:World)(T:bS w a L)(hn:L.length<=1000000)(g:Gl w):Calls prog 105 #[.slice a L.length c] w (AB (ew L) w):=by
 by_cases h5:L.length=5
 ·match L,h5 with
  | [p,q,r,d,x],_=>
    by_cases hd:d=[44]
    ·subst hd
     exact ah6 p q r x (hL _ (by simp)) (hL _ (by simp)) a c hc w T g
    by_cases hq:q=[44]
    ·subst hq
     exact ah7 p r d x hd (hL _ (by simp)) a c hc w T
    exact Nh [p,q,r,d,x] (fun _ e=>hd (by simpa using e)) (.inr fun e=>hq (by simpa using e)) a c w T hn
 by_cases h3:L.length<3
 ·exact Nh L (fun h=>absurd h h5) (.inl h3) a c w T hn
 obtain⟨p,hp⟩: ∃p,L[0]? =some p:=⟨_,am9 (by omega)⟩
 obtain⟨q,hq⟩: ∃q,L[1]? =some q:=⟨_,am9 (by omega)⟩;obtain⟨r,hr⟩: ∃r,L[2]? =some r:=⟨_,am9 (by omega)⟩
 by_cases lJ:q=[44]
 ·subst lJ
  exact ah8 L p r hp hq hr h5 (hL _ (List.mem_of_getElem? hr)) a c w T hn g
 exact Nh L (fun h=>absurd h h5) (.inr fun e=>lJ (by rw[hq]at e;cases e;rfl)) a c w T hn
theorem Hw: ∀(s u:Tx),(jm u s).length<=2*s.length+1/\ ∀w∈jm u s,w.length<=u.length+s.length
 | [],u=>by
   rw[qK];unfold fJ;split
   ·exact⟨by simp,fun w hw=>by cases hw⟩
   exact⟨by simp,fun w hw=>by rcases aoi.1 hw with rfl;simp⟩
 | c::r,u=>by
   have hf:(fJ u).length<=1/\ ∀w∈fJ u,w.length<=u.length:=by
    unfold fJ;split
    ·exact⟨by simp,fun w hw=>by cases hw⟩
    exact⟨by simp,fun w hw=>by rcases aoi.1 hw with rfl;simp⟩
   rcases tR c with h|h|h
   ·obtain⟨i1,i2⟩:=Hw r []
    rw[pO u r h];unfold aR;refine⟨by rw[aoW,ans];omega,fun w hw=>?_⟩;rcases aok.1 hw with hw|hw
    ·have:=hf.2 w hw;simp only[ans];omega
    have:=i2 w hw;simp only[ans,apa]at this ⊢; omega
   ·obtain⟨i1,i2⟩:=Hw r []
    rw[qL u r h];unfold aR;refine⟨by rw[aoW,ans,ans];omega,fun w hw=>?_⟩;rcases aok.1 hw with hw|hw
    ·have:=hf.2 w hw;simp only[ans];omega
    rcases List.mem_cons.1 hw with rfl|hw
    ·simp only[ans,apa];omega
    have:=i2 w hw;simp only[ans,apa]at this ⊢; omega
   obtain⟨i1,i2⟩:=Hw r (u++[c])
   rw[rZ u r h];refine⟨by simp only[ans];omega,fun w hw=>?_⟩;have:=i2 w hw;simp only[aoW,ans,apa]at this ⊢; omega
theorem bS.tail{l:List Tx}(h:bS w a (p::l))(c:Nat)(hc:c=1->l=[]):bS w (j8 a (c=1) (1*1)) l:=⟨by have:=h.row.drop (1*1) (c=1) (fun h=>.inl (by simp[hc h]));simpa using this,by have:=h.len;simp at this;omega⟩
theorem agE(hl:s.length<=262144)(h:aR s=[[77,70,69,78,67,69]]):dY s=some ⟨5,0,0,0,0,[],[],0⟩:=by
 rw[<-M0];unfold CG;rw[if_neg (by omega),if_pos h];rfl
theorem Xc(hl:s.length<=262144)(h:aR s≠[[77,70,69,78,67,69]])(h2:(aR s).length<4\/(aR s).head?≠some [77,79,86]\/n9 s=false):dY s=none:=by
 rw[<-M0];unfold CG;rw[if_neg (by omega),if_neg h,if_pos h2]
theorem agF(hl:s.length<=262144)(h:aR s=[77,79,86]::L)(h2:3<=L.length)(h3:n9 s=true):dY s=ew L:=by
 rw[<-M0];unfold CG
 rw[if_neg (by omega),if_neg (by rw[h];intro e;have:=(List.cons.inj e).1;revert this;decide),if_neg (by
  rw[h];rintro(h4|h4|h4)
  ·simp at h4;omega
  ·exact h4 rfl
  rw[h3]at h4;cases h4),h]
 rfl
theorem bI.of{o:Option ay}{i:ay}(h:bP o i ok)(he:e= .returned (.tuple #[if ok=true then vI i else .agg #[.int .i64 0,.int .i64 0,.int .i64 0,.int .i64 0,.int .i64 0,.string ⟨#[]⟩,.string ⟨#[]⟩,.int .i64 0],.int .i64 (if ok=true then 0 else 91)]))(hb:Below w.heap.size w w'):bI o w e w':=by
 cases ok with
 |true=>rw[h.yes];exact⟨he,hb⟩
 |false=>rw[h.no];exact⟨he,hb⟩
theorem ah9(s:Tx)(w:World)(g:Gl w):Calls prog 46 #[.string (tx s)] w (bI (dY s) w):=by
 obtain⟨n,hn⟩:=aj ((tx s).size);have HN:=hid (show n=s.length by rw[<-hn,aM])
 by_cases hl:262144<s.length
 ·have HP:=hid (show dY s=none by unfold dY;rw[if_pos hl])
  have z:decide (262144<(n:Int))=true:=by have:=HN.out;simp;omega
  generalize dY s=r at*;clear hl;go_in;go_wp2_with fail;exact bodyPost_ret (by simp[results,results46,go_sem]) rfl (bI.no HP.out rfl aF)
 have hl:s.length<=262144:=by omega
 have z:decide (262144<(n:Int))=false:=by have:=HN.out;simp;omega
 have WD:=hid (fun w=>aia s hl w);have AP:=hid (fun w=>ah2 s hl w);obtain⟨f1,f2⟩:=Hw s [];obtain⟨L,hL⟩:=aj (aR s);have hL':jm [] s=L:=hL;rw[hL']at f1 f2;simp only[apa,Nat.zero_add]at f2;have g0:=hid g;have HW:=hid (show ∀w,Calls prog 103 #[.string (tx s)] w fun e w'=> ∃a c,e= .returned (.slice a L.length c)/\bS w' a L/\L.length<=c/\Below w.heap.size w w' from fun w=>(WD.out w).mono fun e w' ⟨a,c,h1,h2,h3⟩=>⟨a,c,by rw[<-hL];exact h1,by rw[<-hL];exact h2.lP (by rw[hL];omega),by rw[<-hL];exact(Own.cap h2).1,h3⟩)
 by_cases h1:L=[[77,70,69,78,67,69]]
 ·have HP:=hid (agE hl (hL.trans h1))
  subst h1;generalize dY s=r at*;have z2:((tx [77,70,69,78,67,69]).toList==[77,70,69,78,67,69])=true:=by rw[bh];rfl
  clear hl hL hL' f1 f2;go_in;go_wp2_with fail;refine(HW.out _).mono ?_;rintro e w1 ⟨a,c,rfl,T,hc,E⟩;have c0:=T.cell 0 (by simp);have i0: ∀w',(anm 42 (.slice a 1 c) (.int .i64 0)).run prog w'=_:=T.idx 0 (by simp) c;simp only[ano,ap6]at i0 c0;obtain⟨⟨d0,d1,d2,d3,d4,d5,d6,d7⟩,hf,hlt,B⟩:=dR E;generalize tx [77,70,69,78,67,69]=um at*;clear T;go_wp2_with fail;exact bodyPost_ret (by simp[results,results46,go_sem,d0,d1,d2,d3,d4,d5,d6,d7,aS]) rfl (bI.yes HP.out rfl aF)
 by_cases h4:L.length<4\/L.head?≠some [77,79,86]
 ·have HP:=hid (Xc hl (by rw[hL];exact h1) (by rw[hL];rcases h4 with h|h;exact .inl h;exact .inr (.inl h)))
  generalize dY s=r at*;obtain⟨m,hm⟩:=aj L.length
  by_cases tg:m=1
  ·match L,(hm.trans tg)with
   | [x],_=>
     have zx:=cY x [77,70,69,78,67,69] (fun e=>h1 (by rw[e]));clear hl hL hL' f1 f2 h1 h4 hm;go_in;go_wp2_with fail;refine(HW.out _).mono ?_;rintro e w1 ⟨a,c,rfl,T,hc,E⟩;have c0:=T.cell 0 (by simp);have i0: ∀w',(anm 42 (.slice a 1 c) (.int .i64 0)).run prog w'=_:=T.idx 0 (by simp) c;simp only[ano,ap6]at i0 c0;obtain⟨⟨d0,d1,d2,d3,d4,d5,d6,d7⟩,hf,hlt,B⟩:=dR E;clear T;go_wp2_with fail;exact bodyPost_ret (by simp[results,results46,go_sem,d0,d1,d2,d3,d4,d5,d6,d7]) rfl (bI.no HP.out rfl aF)
  have zm:((m:Int)==1)=false:=ah
  by_cases hm4:m<4
  ·have zm4:decide ((m:Int)<4)=true:=ah
   have HM:=hid hm;rw[hm]at HW;clear hl hL hL' f1 f2 h1 h4 hm;go_in;go_wp2_with fail;refine(HW.out _).mono ?_;rintro e w1 ⟨a,c,rfl,T,hc,E⟩;obtain⟨⟨d0,d1,d2,d3,d4,d5,d6,d7⟩,hf,hlt,B⟩:=dR E;clear T;go_wp2_with fail;exact bodyPost_ret (by simp[results,results46,go_sem,d0,d1,d2,d3,d4,d5,d6,d7]) rfl (bI.no HP.out rfl aF)
  have zm4:decide ((m:Int)<4)=false:=ah
  have HM:=hid hm;obtain⟨x,hx⟩: ∃x,L[0]? =some x:=⟨_,am9 (by omega)⟩
  have zx:=cY x [77,79,86] (fun e=>by
   rcases h4 with h|h
   ·omega
   exact h (by rw[List.head?_eq_getElem?,hx,e]))
  have HX:=hid hx;rw[hm]at HW;clear hl hL hL' f1 f2 h1 h4 hm hx;go_in;go_wp2_with fail;refine(HW.out _).mono ?_;rintro e w1 ⟨a,c,rfl,T,hc,E⟩;have c0:=T.cell 0 (aI HM.out);rw[(anx.1 HX.out).2]at c0;have i0: ∀w',(anm 42 (.slice a L.length c) (.int .i64 0)).run prog w'=_:=T.idx 0 (aI HM.out) c;rw[HM.out]at i0;simp only[ano]at i0 c0;obtain⟨⟨d0,d1,d2,d3,d4,d5,d6,d7⟩,hf,hlt,B⟩:=dR E;clear T;go_wp2_with fail;exact bodyPost_ret (by simp[results,results46,go_sem,d0,d1,d2,d3,d4,d5,d6,d7]) rfl (bI.no HP.out rfl aF)
 rw[not_or]at h4;obtain⟨h4,h5⟩:=h4;cases L with
 |nil=>exact absurd (by simp) h4
 | cons x L=>
   obtain rfl:x=[77,79,86]:=by have:=Classical.byContradiction h5;simpa using this
   have Ty:3<=L.length:=by simp at h4;omega
   obtain⟨b,hb⟩:=aj (n9 s);rw[hb]at AP;obtain⟨m,hm⟩:=aj L.length;obtain⟨q,hq⟩:=aj (m+1);have zm:((q:Int)==1)=false:=ah;have zm4:decide ((q:Int)<4)=false:=ah;have Lg:4<=q:=by omega
   have hqm:q-1=m:=by omega
   have z2:((tx [77,79,86]).toList==[77,79,86])=true:=by rw[bh];rfl
   have HM:=hid (show([77,79,86]::L).length=q by rw[ans,hm,hq]);rw[HM.out]at HW;have hmb:q<=600001:=by simp at f1;omega
   cases b with
   | false=>
     have HP:=hid (Xc hl (by rw[hL];exact h1) (.inr (.inr hb)));generalize dY s=r at*;clear hl hL hL' f1 f2 h1 h4 hm hb h5 hq;go_in;go_wp2_with fail;refine(HW.out _).mono ?_;rintro e w1 ⟨a,c,rfl,T,hc,E⟩;have c0:=T.cell 0 (by simp);have i0: ∀w',(anm 42 (.slice a ([77,79,86]::L).length c) (.int .i64 0)).run prog w'=_:=T.idx 0 (by simp) c;rw[HM.out]at i0;simp only[ano,ap6]at i0 c0;obtain⟨⟨d0,d1,d2,d3,d4,d5,d6,d7⟩,hf,hlt,B⟩:=dR E;generalize tx [77,79,86]=um at*;clear T
     go_wp2_with (go_at_call 104;refine av (AP.out _) ?_)
     exact bodyPost_ret (by simp[results,results46,go_sem,d0,d1,d2,d3,d4,d5,d6,d7]) rfl (bI.no HP.out rfl aF)
   | true=>
     have HP:=hid (agF hl hL Ty hb);have Ef:=hid hm;have MV:=hid (fun(a:Option Addr) (c:Nat) (hc:L.length<=c) (w:World) (T:bS w a L) (g:Gl w)=>ah5 L (fun x hx=>by have:=f2 x (List.mem_cons_of_mem _ hx);omega) a c hc w T (by omega) g);rw[hm]at MV;generalize dY s=r at*;clear hl hL hL' f1 f2 h1 h4 hm hb h5 Ty hq;go_in;go_wp2_with fail;refine(HW.out _).mono ?_;rintro e w1 ⟨a,c,rfl,T,hc,E⟩;have c0:=T.cell 0 (by simp);have i0: ∀w',(anm 42 (.slice a ([77,79,86]::L).length c) (.int .i64 0)).run prog w'=_:=T.idx 0 (by simp) c;rw[HM.out]at i0;simp only[ano,ap6]at i0 c0;have ct: ∀w',(anh 42 (.slice a q c) (some (.int .i64 1)) none none).run prog w'=_:=GU jc a q c 1 (by omega) .i64;rw[hqm]at ct;have MV:=hid (MV.out (j8 a (c=1) (1*1)) (c-1) (by omega) w1 (T.tail c (fun h=>by omega)) (g0.out.below (aB (al w fK) E)));generalize tx [77,79,86]=um at*;generalize j8 a (c=1) (1*1)=a2 at*;have HE:=hid E;clear T E
     go_wp2_with (first|(go_at_call 104;refine av (AP.out _) ?_)|fail)
     refine MV.out.mono ?_;rintro e w2 ⟨i,ok,rfl,HO,E2⟩;have E:=aB HE.out E2;obtain⟨⟨d0,d1,d2,d3,d4,d5,d6,d7⟩,hf,hlt,B⟩:=dR E;have HO:=hid (show bP r i ok by rw[HP.out];exact HO);cases ok with
     | false=>
       go_wp2_with fail;exact bodyPost_ret (by simp[results,results46,go_sem,d0,d1,d2,d3,d4,d5,d6,d7,hlt]) rfl (bI.of HO.out rfl aF)
     | true=>
       go_wp2_with fail;exact bodyPost_ret (by simp[results,results46,go_sem,d0,d1,d2,d3,d4,d5,d6,d7,hlt]) rfl (bI.of HO.out rfl aF)
abbrev ZD(N:Nat)(l:List Tok):Value:=.tuple #[.int .i64 (aY (au l)),.string (tx (au l)),.int .i64 (dz N l),.int .i64 (gh N l)]
theorem ah0(hl:s.length<=262144)(hi:i<=s.length)(w:World):Calls prog 54 #[.string (tx s),.int .i64 i] w (aJ w (ZD s.length (lex i (s.drop i)))):=by
 have TK:=hid (fun w=>GI (s:=s) hl hi w);generalize lex i (s.drop i)=l at*;obtain⟨k,hk⟩:=aj (aY (au l));obtain⟨u,hu⟩:=aj (tx (au l));obtain⟨p,hp⟩:=aj (dz s.length l);obtain⟨n,hn⟩:=aj (gh s.length l);unfold ZD;unfold Dz zK at TK;rw[hk,hu,hp,hn]at TK⊢;clear hk hu hp hn;go_in;go_wp2_with fail;refine(TK.out _).mono ?_;rintro e w1 ⟨rfl,E⟩
 go_upto_region 2 with(fail)
 have b0:=aA.new w1 #[.int .i64 k,.string u,.int .i64 p,.int .i64 n] 145;obtain⟨p0,p1,p2,p3⟩:=b0.AV;have hlt:=b0.1;clear b0
 go_region
 all_goals go_wp2_with fail
 all_goals exact bodyPost_ret (by simp[results,results54,go_sem]) rfl ⟨rfl,jt (eZ E _)⟩
def EG(s:Tx)(i:Int)(k:Nat)(u:Tx)(p n:Nat):Prop:= ∀w,Calls prog 54 #[.string (tx s),.int .i64 i] w (aJ w (.tuple #[.int .i64 k,.string (tx u),.int .i64 p,.int .i64 n]))
theorem wS(hl:s.length<=262144)(hi:i<=s.length)(h:lex i (s.drop i)=l):EG s i (aY (au l)) (au l) (dz s.length l) (gh s.length l)/\gh s.length l<=s.length/\lex (gh s.length l) (s.drop (gh s.length l))=l.tail/\(au l).length<=s.length:=by
 have X:Lx s l:=⟨i,hi,h⟩;exact⟨fun w=>by rw[<-h];exact ah0 hl hi w,X.next.1,X.next.2,X.au⟩
def vq(o:Option (Tx × Int))(nx:Nat)(w:World)(e:Ending)(w':World):Prop:=Below w.heap.size w w'/\ ∃lc n ok,e= .returned (.tuple #[.agg #[.string (tx lc),.int .i64 n],.int .i64 nx,.bool ok])/\bP o (lc,n) ok
theorem vq.mk{o:Option (Tx × Int)}{nx:Nat}(ho:bP o (lc,n) ok)(he:e= .returned (.tuple #[.agg #[.string (tx lc),.int .i64 n],.int .i64 nx,.bool ok]))(hb:Below w.heap.size w w'):vq o nx w e w':=⟨hb,lc,n,ok,he,ho⟩
theorem al2(k:aY u=2):eG u=(aU u).map fun n=>([],n):=by
 unfold eG;cases aU u with
 |some n=>rfl
 |none=>simp only;rw[if_neg (by rw[Wl k];decide)];rfl
theorem al4(k:aY u≠2):eG u=if aC u=true then some (u,0)else none:=by
 unfold eG;rw[WG k]
theorem X8(s:Tx): ∃v ok,bP (aU s) v ok/\ ∀w,Calls prog 116 #[.string (tx s)] w (aJ w (.tuple #[.int .i64 v,.bool ok])):=
 ⟨(aU s).getD 0,(aU s).isSome,by unfold bP;cases aU s<;>rfl,fun w=>(Ng s w).mono fun e w' ⟨h,h2⟩=>⟨h,by subst h2;exact anM _ _⟩⟩
theorem fY{o:Obj}(E:Below (w.alloc o).heap.size (w.alloc o) w1):Below w.heap.size w w1:=(al w o).trans (E.mono (by simp))
theorem aiK(hl:s.length<=262144)(hi:i<=s.length)(h:lex i (s.drop i)=l)(w:World):Calls prog 55 #[.string (tx s),.int .i64 i] w (vq (eG (au l)) (gh s.length l) w):=by
 obtain⟨T1,-, -, dN⟩:=wS hl hi h;have TK:=hid T1;unfold EG at TK;obtain⟨u,hu⟩:=aj (au l);obtain⟨p,hp⟩:=aj (dz s.length l);obtain⟨n,hn⟩:=aj (gh s.length l);rw[hu,hp,hn]at TK;rw[hu,hn];rw[hu]at dN;obtain⟨k,hk⟩:=aj (aY u);rw[hk]at TK;obtain⟨v,ok,HO,NU⟩:=X8 u;have NU:=hid NU;have HO:=hid HO;have NA:=hid (fun w=>yO u (by omega) w);clear T1 hu hp hn h hi;go_in;go_wp2_with fail;refine(TK.out _).mono ?_;rintro e w1 ⟨rfl,E1⟩
 by_cases k2:k=2
 ·have zk:((k:Int)==2)=true:=by rw[k2];rfl
  have HV:=hid (al2 (hk.trans k2));clear k2;go_wp2_with fail;refine(NU.out _).mono ?_;rintro e w2 ⟨rfl,E2⟩;have E:=aB E1 E2;have bz:=(aA.new w #[.string ⟨#[]⟩,.int .i64 0] 54).below ((al (w.alloc (.cells #[.string ⟨#[]⟩,.int .i64 0] 54)) (.cells #[.string ⟨#[]⟩,.int .i64 0] 54)).trans (E.mono (by simp)));obtain⟨p0,p1⟩:=bz.mB;have bo:=(aA.new (w.alloc (.cells #[.string ⟨#[]⟩,.int .i64 0] 54)) #[.string ⟨#[]⟩,.int .i64 0] 54).below E;obtain⟨q0,q1⟩:=bo.mB;simp only[cR]at q0 q1;have dV:=bz.1;have bM:=bo.1;simp only[cR]at bM;have f0:=fun j=>(dM ((al (w.alloc (.cells #[.string ⟨#[]⟩,.int .i64 0] 54)) (.cells #[.string ⟨#[]⟩,.int .i64 0] 54)).trans (E.mono (by simp))) (b:=w.heap.size) (by simp) j).trans (aV w _ _ j)
  have EB:=hid (fY (fY E));clear bz bo;go_wp2_with fail;exact bodyPost_ret (by simp[results,results55,go_sem,p0,p1]<;>rfl) rfl (vq.mk (lc:=[]) (n:=v) (ok:=ok) (by unfold bP;rw[HV.out,HO.out];cases ok<;>rfl) (by first|rfl|(rw[aS])) (iZ EB.out))
 have zk:((k:Int)==2)=false:=ah
 have HV:=hid (al4 (by rw[hk];exact k2));cases hn:aC u with
 | false=>
   rw[hn]at NA HV;have HV:=hid (show eG u=none from HV.out);have bz:=(aA.new w #[.string ⟨#[]⟩,.int .i64 0] 54).below ((al (w.alloc (.cells #[.string ⟨#[]⟩,.int .i64 0] 54)) (.cells #[.string ⟨#[]⟩,.int .i64 0] 54)).trans (E1.mono (by simp)));obtain⟨p0,p1⟩:=bz.mB;have bo:=(aA.new (w.alloc (.cells #[.string ⟨#[]⟩,.int .i64 0] 54)) #[.string ⟨#[]⟩,.int .i64 0] 54).below E1;obtain⟨q0,q1⟩:=bo.mB;simp only[cR]at q0 q1;have dV:=bz.1;have bM:=bo.1;simp only[cR]at bM;have f0:=fun j=>(dM ((al (w.alloc (.cells #[.string ⟨#[]⟩,.int .i64 0] 54)) (.cells #[.string ⟨#[]⟩,.int .i64 0] 54)).trans (E1.mono (by simp))) (b:=w.heap.size) (by simp) j).trans (aV w _ _ j)
   have EB:=hid (fY (fY E1));clear bz bo
   by_cases k1:k=1
   ·have zk1:((k:Int) != 1)=false:=ah
    clear hn hk k2
    go_wp2_with (go_at_call 118;refine av (NA.out _) ?_)
    go_wp2_with fail;exact bodyPost_ret (by simp[results,results55,go_sem,p0,p1]<;>rfl) rfl (vq.mk (lc:=[]) (n:=0) (ok:=false) HV.out (by first|rfl|(rw[aS])) (iZ EB.out))
   have zk1:((k:Int) != 1)=true:=ah
   clear hn hk k2;go_wp2_with fail;exact bodyPost_ret (by simp[results,results55,go_sem,p0,p1]<;>rfl) rfl (vq.mk (lc:=[]) (n:=0) (ok:=false) HV.out (by first|rfl|(rw[aS])) (iZ EB.out))
 | true=>
   rw[hn]at NA HV;have HV:=hid (show eG u=some (u,0)from HV.out);have k1:k=1:=by rw[<-hk];exact yu hn
   have zk1:((k:Int) != 1)=false:=ah;have bz:=(aA.new w #[.string ⟨#[]⟩,.int .i64 0] 54).below ((al (w.alloc (.cells #[.string ⟨#[]⟩,.int .i64 0] 54)) (.cells #[.string ⟨#[]⟩,.int .i64 0] 54)).trans (E1.mono (by simp)));obtain⟨p0,p1⟩:=bz.mB;have bo:=(aA.new (w.alloc (.cells #[.string ⟨#[]⟩,.int .i64 0] 54)) #[.string ⟨#[]⟩,.int .i64 0] 54).below E1;obtain⟨q0,q1⟩:=bo.mB;simp only[cR]at q0 q1;have dV:=bz.1;have bM:=bo.1;simp only[cR]at bM;have f0:=fun j=>(dM ((al (w.alloc (.cells #[.string ⟨#[]⟩,.int .i64 0] 54)) (.cells #[.string ⟨#[]⟩,.int .i64 0] 54)).trans (E1.mono (by simp))) (b:=w.heap.size) (by simp) j).trans (aV w _ _ j)
   have EB:=hid (fY (fY E1));clear bz bo;clear hn hk k2
   go_wp2_with (go_at_call 118;refine av (NA.out _) ?_)
   go_wp2_with fail;exact bodyPost_ret (by simp[results,results55,go_sem,p0,p1]<;>rfl) rfl (vq.mk (lc:=u) (n:=0) (ok:=true) HV.out (by first|rfl|(rw[aS])) (iZ EB.out))
def iE(p:Option (aL × List Tok))(s:Tx)(w:World)(e:Ending)(w':World):Prop:=Below w.heap.size w w'/\match p with
 |some (x,r)=> ∃nx:Nat,nx<=s.length/\lex nx (s.drop nx)=r/\e= .returned (.tuple #[lQ x,.int .i64 nx,.bool true])
 |none=> ∃(y:aL) (nx:Nat),e= .returned (.tuple #[lQ y,.int .i64 nx,.bool false])
theorem iE.no{p:Option (aL × List Tok)}(hp:p=none)(y:aL)(nx:Nat)(he:e= .returned (.tuple #[lQ y,.int .i64 nx,.bool false]))(hb:Below w.heap.size w w'):iE p s w e w':=by subst hp;exact⟨hb,y,nx,he⟩
theorem iE.yes{p:Option (aL × List Tok)}(hp:p=some (x,r))(nx:Nat)(h1:nx<=s.length)(h2:lex nx (s.drop nx)=r)(he:e= .returned (.tuple #[lQ x,.int .i64 nx,.bool true]))(hb:Below w.heap.size w w'):iE p s w e w':=by subst hp;exact⟨hb,nx,h1,h2,he⟩
section
variable {af:Int} {l:List Tok}
theorem ak3(k:aY (au l)=2)(h:aU (au l)=none):fC af l=none:=by
 unfold fC;rw[if_pos k,h];split<;>rfl
theorem ak4(k:aY (au l)=2){v:Int}(h:aU (au l)=some v)(h2: ¬(0<=v/\v<16)):fC af l=none:=by
 unfold fC;rw[if_pos k,h];split
 ·cases dh af (au l.tail.tail)with
  |none=>rfl
  |some r=>exact if_neg h2
 rfl
theorem ak5(k:aY (au l)=2)(h:au l.tail≠[58]):fC af l=none:=by
 unfold fC;rw[if_pos k,if_neg h]
theorem ak6(k:aY (au l)=2)(h:dh af (au l.tail.tail)=none):fC af l=none:=by
 unfold fC;rw[if_pos k,h];split
 ·cases aU (au l)<;>rfl
 rfl
theorem ak7(k:aY (au l)=2){v:Int}{r:Nat}(h:aU (au l)=some v)(h2:0<=v/\v<16)(h3:au l.tail=[58])(h4:dh af (au l.tail.tail)=some r):fC af l=some (⟨v,r,[],[],0⟩,l.tail.tail.tail):=by
 unfold fC;rw[if_pos k,if_pos h3,h,h4];exact if_pos h2
theorem ak8(h:au l=[91])(h2: ¬(aC (au l.tail)=true/\au l.tail.tail=[93])):fC af l=none:=by
 unfold fC;rw[if_neg (by rw[h];decide),if_pos h,if_neg h2]
theorem ak9(h:au l=[91])(h2:aC (au l.tail)=true/\au l.tail.tail=[93]):fC af l=some (⟨-1,0,au l.tail,[],0⟩,l.tail.tail.tail):=by
 unfold fC;rw[if_neg (by rw[h];decide),if_pos h,if_pos h2]
theorem ala(k:aY (au l)≠2)(h:au l≠[91])(h2:aC (au l)=false):fC af l=none:=by
 unfold fC;rw[if_neg k,if_neg h,if_neg (by rw[h2];decide)]
theorem alb(k:aY (au l)≠2)(h:au l≠[91])(h2:aC (au l)=true):fC af l=some (⟨-1,0,au l,[],0⟩,l.tail):=by
 unfold fC;rw[if_neg k,if_neg h,if_pos h2]
end
theorem aiJ(af:Int)(hl:s.length<=262144)(w:World):Calls prog 53 #[.int .i64 af,.string (tx s)] w (iE (fC af (lex 0 s)) s w):=by
 obtain⟨l,hL⟩:=aj (lex 0 s);rw[hL];obtain⟨T0,m1,e1,b0⟩:=wS (i:=0) hl (Nat.zero_le _) (show lex 0 (s.drop 0)=l by rw[List.drop_zero];exact hL);obtain⟨T1,m2,e2,b1⟩:=wS hl m1 e1;obtain⟨T2,m3,e3,b2⟩:=wS hl m2 e2;have T0:=hid T0;have T1:=hid T1;have T2:=hid T2;unfold EG at T0 T1 T2;have M1:=hid m1;have M3:=hid m3;have X1:=hid e1;have X3:=hid e3;obtain⟨n1,jK⟩: ∃n,gh s.length l=n:=⟨_,rfl⟩;obtain⟨n2,hn2⟩: ∃n,gh s.length l.tail=n:=⟨_,rfl⟩;obtain⟨n3,rI⟩: ∃n,gh s.length l.tail.tail=n:=⟨_,rfl⟩;obtain⟨u0,wk⟩: ∃u,au l=u:=⟨_,rfl⟩;obtain⟨u1,hu1⟩: ∃u,au l.tail=u:=⟨_,rfl⟩;obtain⟨u2,kf⟩: ∃u,au l.tail.tail=u:=⟨_,rfl⟩;generalize dz s.length l=q0p at*;generalize dz s.length l.tail=q1p at*;generalize dz s.length l.tail.tail=q2p at*;rw[jK]at T0 T1 M1 X1;rw[hn2]at T1 T2;rw[rI]at T2 M3 X3;rw[wk]at T0 b0;rw[hu1]at T1 b1;rw[kf]at T2 b2;have D1:=hid (fun k h=>ak3 (af:=af) (l:=l) k h);have D2:=hid (fun k v h h2=>ak4 (af:=af) (l:=l) k (v:=v) h h2);have D3:=hid (fun k h=>ak5 (af:=af) (l:=l) k h);have D4:=hid (fun k h=>ak6 (af:=af) (l:=l) k h);have D5:=hid (fun k v r h h2 h3 h4=>ak7 (af:=af) (l:=l) k (v:=v) (r:=r) h h2 h3 h4);have D6:=hid (fun h h2=>ak8 (af:=af) (l:=l) h h2);have D7:=hid (fun h h2=>ak9 (af:=af) (l:=l) h h2);have D8:=hid (fun k h h2=>ala (af:=af) (l:=l) k h h2);have D9:=hid (fun k h h2=>alb (af:=af) (l:=l) k h h2);rw[wk]at D1 D2 D3 D4 D5 D6 D7 D8 D9;rw[hu1]at D3 D5 D6 D7;rw[kf]at D4 D5 D6 D7
 generalize fC af l=pp at*;obtain⟨k0,hk0⟩: ∃k,aY u0=k:=⟨_,rfl⟩;obtain⟨k1,fQ⟩: ∃k,aY u1=k:=⟨_,rfl⟩;obtain⟨k2,hk2⟩: ∃k,aY u2=k:=⟨_,rfl⟩;rw[hk0]at T0 D1 D2 D3 D4 D5 D8 D9;rw[fQ]at T1;rw[hk2]at T2;have K0:=hid hk0;have K1:=hid fQ;have K2:=hid hk2;obtain⟨v,ok,HO,NU⟩:=X8 u0;have NU:=hid NU;have HO:=hid HO;have Ep:=hid (fun w=>yO u0 (by omega) w);have Er:=hid (fun w=>yO u1 (by omega) w);have RO:=hid (fun w=>Ya af u2 w);clear hL m1 e1 m2 e2 m3 e3 jK hn2 rI wk hu1 kf hk0 fQ hk2 b0 b1 b2 hl;go_in;go_wp2_with fail;refine(T0.out _).mono ?_;rintro e w1 ⟨rfl,E1⟩
 by_cases c0:k0=2
 ·have zk:((k0:Int)==2)=true:=by rw[c0];rfl
  have C0:=hid c0;go_wp2_with fail;refine(NU.out _).mono ?_;rintro e w2 ⟨rfl,E2⟩;have E:=hid (aB E1 E2);clear E1 E2;go_wp2_with fail;refine(T1.out _).mono ?_;rintro e w3 ⟨rfl,E3⟩;have E:=hid (aB E.out E3);clear E3;go_wp2_with fail;refine(T2.out _).mono ?_;rintro e w4 ⟨rfl,E4⟩;have E:=hid (aB E.out E4);clear E4;cases hr:dh af u2 with
  | none=>
    rw[hr]at RO;have HR:=hid hr;clear hr;go_wp2_with fail;refine(RO.out _).mono ?_;rintro e w5 ⟨E5,rfl⟩;have E:=aB E.out E5;have bz:=(aA.new w #[.int .i64 0,.int .i64 0,.string ⟨#[]⟩,.string ⟨#[]⟩,.int .i64 0] 56).below ((al (w.alloc (.cells #[.int .i64 0,.int .i64 0,.string ⟨#[]⟩,.string ⟨#[]⟩,.int .i64 0] 56)) (.cells #[.int .i64 (-1),.int .i64 0,.string ⟨#[]⟩,.string ⟨#[]⟩,.int .i64 0] 56)).trans (E.mono (by simp)));obtain⟨p0,p1,p2,p3,p4⟩:=bz.fc;have bo:=(aA.new (w.alloc (.cells #[.int .i64 0,.int .i64 0,.string ⟨#[]⟩,.string ⟨#[]⟩,.int .i64 0] 56)) #[.int .i64 (-1),.int .i64 0,.string ⟨#[]⟩,.string ⟨#[]⟩,.int .i64 0] 56).below E;obtain⟨q0,q1,q2,q3,q4⟩:=bo.fc;simp only[cR]at q0 q1 q2 q3 q4;have dV:=bz.1;have bM:=bo.1;simp only[cR]at bM;have fz:=fun j=>(dM ((al (w.alloc (.cells #[.int .i64 0,.int .i64 0,.string ⟨#[]⟩,.string ⟨#[]⟩,.int .i64 0] 56)) (.cells #[.int .i64 (-1),.int .i64 0,.string ⟨#[]⟩,.string ⟨#[]⟩,.int .i64 0] 56)).trans (E.mono (by simp))) (b:=w.heap.size) (by simp) j).trans (aV w _ _ j)
    have fo: ∀j,aoG _ ⟨w.heap.size+1,j,none⟩=false:=fun j=>(E.frozen (p:=⟨w.heap.size+1,j,none⟩) (by simp)).trans (by have:=aV (w.alloc (.cells #[.int .i64 0,.int .i64 0,.string ⟨#[]⟩,.string ⟨#[]⟩,.int .i64 0] 56)) #[.int .i64 (-1),.int .i64 0,.string ⟨#[]⟩,.string ⟨#[]⟩,.int .i64 0] 56 j;rw[cR]at this;exact this)
    have o0:=fo 0;have o1:=fo 1;have o2:=fo 2;have EB:=hid (fY (fY E));clear bz bo;cases ok with
    | false=>
      go_wp2_with fail;exact bodyPost_ret (by simp[results,results53,go_sem,p0,p1,p2,p3,p4,aS]<;>rfl) rfl (iE.no (D1.out C0.out HO.out.no) (⟨v,0,[],[],0⟩:aL) n3 rfl (iZ EB.out))
    | true=>
      by_cases v0:0<=v
      ·have y0:decide (0<=v)=true:=decide_eq_true v0
       by_cases v1:v<16
       ·have y1:decide (v<16)=true:=decide_eq_true v1
        by_cases c1:k1=3
        ·have y2:((k1:Int)==3)=true:=by rw[c1];rfl
         by_cases g1:u1=[58]
         ·have HG:=hid g1
          subst g1;have y3:((tx [58]).toList==[58])=true:=by rw[bh];decide
          generalize tx [58]=ux at*
          by_cases c2:k2=1
          ·have y4:((k2:Int)==1)=true:=by rw[c2];rfl
           go_wp2_with fail;exact bodyPost_ret (by simp[results,results53,go_sem,p0,p1,p2,p3,p4,aS]<;>rfl) rfl (iE.no (D4.out C0.out HR.out) (⟨v,0,[],[],0⟩:aL) n3 rfl (iZ EB.out))
          have y4:((k2:Int)==1)=false:=ah
          go_wp2_with fail;exact bodyPost_ret (by simp[results,results53,go_sem,p0,p1,p2,p3,p4,aS]<;>rfl) rfl (iE.no (D4.out C0.out HR.out) (⟨v,0,[],[],0⟩:aL) n3 rfl (iZ EB.out))
         have y3:=cY _ _ g1
         go_wp2_with fail;exact bodyPost_ret (by simp[results,results53,go_sem,p0,p1,p2,p3,p4,aS]<;>rfl) rfl (iE.no (D3.out C0.out g1) (⟨v,0,[],[],0⟩:aL) n3 rfl (iZ EB.out))
        have y2:((k1:Int)==3)=false:=ah
        have HD:=hid (D3.out C0.out (fun h=>c1 (by rw[<-K1.out,h];rfl)));go_wp2_with fail;exact bodyPost_ret (by simp[results,results53,go_sem,p0,p1,p2,p3,p4,aS]<;>rfl) rfl (iE.no HD.out (⟨v,0,[],[],0⟩:aL) n3 rfl (iZ EB.out))
       have y1:decide (v<16)=false:=decide_eq_false v1
       go_wp2_with fail;exact bodyPost_ret (by simp[results,results53,go_sem,p0,p1,p2,p3,p4,aS]<;>rfl) rfl (iE.no (D2.out C0.out v HO.out.yes (fun h=>by omega)) (⟨v,0,[],[],0⟩:aL) n3 rfl (iZ EB.out))
      have y0:decide (0<=v)=false:=decide_eq_false v0
      go_wp2_with fail;exact bodyPost_ret (by simp[results,results53,go_sem,p0,p1,p2,p3,p4,aS]<;>rfl) rfl (iE.no (D2.out C0.out v HO.out.yes (fun h=>by omega)) (⟨v,0,[],[],0⟩:aL) n3 rfl (iZ EB.out))
  | some rr=>
    rw[hr]at RO;have HR:=hid hr;clear hr;go_wp2_with fail;refine(RO.out _).mono ?_;rintro e w5 ⟨E5,rfl⟩;have E:=aB E.out E5;have bz:=(aA.new w #[.int .i64 0,.int .i64 0,.string ⟨#[]⟩,.string ⟨#[]⟩,.int .i64 0] 56).below ((al (w.alloc (.cells #[.int .i64 0,.int .i64 0,.string ⟨#[]⟩,.string ⟨#[]⟩,.int .i64 0] 56)) (.cells #[.int .i64 (-1),.int .i64 0,.string ⟨#[]⟩,.string ⟨#[]⟩,.int .i64 0] 56)).trans (E.mono (by simp)));obtain⟨p0,p1,p2,p3,p4⟩:=bz.fc;have bo:=(aA.new (w.alloc (.cells #[.int .i64 0,.int .i64 0,.string ⟨#[]⟩,.string ⟨#[]⟩,.int .i64 0] 56)) #[.int .i64 (-1),.int .i64 0,.string ⟨#[]⟩,.string ⟨#[]⟩,.int .i64 0] 56).below E;obtain⟨q0,q1,q2,q3,q4⟩:=bo.fc;simp only[cR]at q0 q1 q2 q3 q4;have dV:=bz.1;have bM:=bo.1;simp only[cR]at bM;have fz:=fun j=>(dM ((al (w.alloc (.cells #[.int .i64 0,.int .i64 0,.string ⟨#[]⟩,.string ⟨#[]⟩,.int .i64 0] 56)) (.cells #[.int .i64 (-1),.int .i64 0,.string ⟨#[]⟩,.string ⟨#[]⟩,.int .i64 0] 56)).trans (E.mono (by simp))) (b:=w.heap.size) (by simp) j).trans (aV w _ _ j)
    have fo: ∀j,aoG _ ⟨w.heap.size+1,j,none⟩=false:=fun j=>(E.frozen (p:=⟨w.heap.size+1,j,none⟩) (by simp)).trans (by have:=aV (w.alloc (.cells #[.int .i64 0,.int .i64 0,.string ⟨#[]⟩,.string ⟨#[]⟩,.int .i64 0] 56)) #[.int .i64 (-1),.int .i64 0,.string ⟨#[]⟩,.string ⟨#[]⟩,.int .i64 0] 56 j;rw[cR]at this;exact this)
    have o0:=fo 0;have o1:=fo 1;have o2:=fo 2;have EB:=hid (fY (fY E));clear bz bo;cases ok with
    | false=>
      go_wp2_with fail;exact bodyPost_ret (by simp[results,results53,go_sem,p0,p1,p2,p3,p4,aS]<;>rfl) rfl (iE.no (D1.out C0.out HO.out.no) (⟨v,rr,[],[],0⟩:aL) n3 rfl (iZ EB.out))
    | true=>
      by_cases v0:0<=v
      ·have y0:decide (0<=v)=true:=decide_eq_true v0
       by_cases v1:v<16
       ·have y1:decide (v<16)=true:=decide_eq_true v1
        by_cases c1:k1=3
        ·have y2:((k1:Int)==3)=true:=by rw[c1];rfl
         by_cases g1:u1=[58]
         ·have HG:=hid g1
          subst g1;have y3:((tx [58]).toList==[58])=true:=by rw[bh];decide
          generalize tx [58]=ux at*
          by_cases c2:k2=1
          ·have y4:((k2:Int)==1)=true:=by rw[c2];rfl
           go_wp2_with fail;exact bodyPost_ret (by simp[results,results53,go_sem,p0,p1,p2,p3,p4,aS]<;>rfl) rfl (iE.yes (D5.out C0.out v rr HO.out.yes ⟨v0,v1⟩ HG.out HR.out) n3 M3.out X3.out rfl (iZ EB.out))
          have y4:((k2:Int)==1)=false:=ah
          exact absurd (K2.out.symm.trans (Md HR.out)) c2
         have y3:=cY _ _ g1
         go_wp2_with fail;exact bodyPost_ret (by simp[results,results53,go_sem,p0,p1,p2,p3,p4,aS]<;>rfl) rfl (iE.no (D3.out C0.out g1) (⟨v,rr,[],[],0⟩:aL) n3 rfl (iZ EB.out))
        have y2:((k1:Int)==3)=false:=ah
        have HD:=hid (D3.out C0.out (fun h=>c1 (by rw[<-K1.out,h];rfl)));go_wp2_with fail;exact bodyPost_ret (by simp[results,results53,go_sem,p0,p1,p2,p3,p4,aS]<;>rfl) rfl (iE.no HD.out (⟨v,rr,[],[],0⟩:aL) n3 rfl (iZ EB.out))
       have y1:decide (v<16)=false:=decide_eq_false v1
       go_wp2_with fail;exact bodyPost_ret (by simp[results,results53,go_sem,p0,p1,p2,p3,p4,aS]<;>rfl) rfl (iE.no (D2.out C0.out v HO.out.yes (fun h=>by omega)) (⟨v,rr,[],[],0⟩:aL) n3 rfl (iZ EB.out))
      have y0:decide (0<=v)=false:=decide_eq_false v0
      go_wp2_with fail;exact bodyPost_ret (by simp[results,results53,go_sem,p0,p1,p2,p3,p4,aS]<;>rfl) rfl (iE.no (D2.out C0.out v HO.out.yes (fun h=>by omega)) (⟨v,rr,[],[],0⟩:aL) n3 rfl (iZ EB.out))
 have zk:((k0:Int)==2)=false:=ah
 have C0:=hid c0
 by_cases g0:u0=[91]
 ·have k03:k0=3:=by rw[<-K0.out,g0];rfl
  have y0:((k0:Int)==3)=true:=by rw[k03];rfl
  have HG:=hid g0;subst g0;have y1:((tx [91]).toList==[91])=true:=by rw[bh];decide
  generalize tx [91]=ux at*;go_wp2_with fail;refine(T1.out _).mono ?_;rintro e w3 ⟨rfl,E3⟩;have E:=hid (aB E1 E3);clear E3 E1;cases hn:aC u1 with
  | false=>
    rw[hn]at Er;have HD:=hid (D6.out HG.out (fun h=>by rw[hn]at h;cases h.1));have E:=E.out;have bz:=(aA.new w #[.int .i64 0,.int .i64 0,.string ⟨#[]⟩,.string ⟨#[]⟩,.int .i64 0] 56).below ((al (w.alloc (.cells #[.int .i64 0,.int .i64 0,.string ⟨#[]⟩,.string ⟨#[]⟩,.int .i64 0] 56)) (.cells #[.int .i64 (-1),.int .i64 0,.string ⟨#[]⟩,.string ⟨#[]⟩,.int .i64 0] 56)).trans (E.mono (by simp)));obtain⟨p0,p1,p2,p3,p4⟩:=bz.fc;have bo:=(aA.new (w.alloc (.cells #[.int .i64 0,.int .i64 0,.string ⟨#[]⟩,.string ⟨#[]⟩,.int .i64 0] 56)) #[.int .i64 (-1),.int .i64 0,.string ⟨#[]⟩,.string ⟨#[]⟩,.int .i64 0] 56).below E;obtain⟨q0,q1,q2,q3,q4⟩:=bo.fc;simp only[cR]at q0 q1 q2 q3 q4;have dV:=bz.1;have bM:=bo.1;simp only[cR]at bM;have fz:=fun j=>(dM ((al (w.alloc (.cells #[.int .i64 0,.int .i64 0,.string ⟨#[]⟩,.string ⟨#[]⟩,.int .i64 0] 56)) (.cells #[.int .i64 (-1),.int .i64 0,.string ⟨#[]⟩,.string ⟨#[]⟩,.int .i64 0] 56)).trans (E.mono (by simp))) (b:=w.heap.size) (by simp) j).trans (aV w _ _ j)
    have fo: ∀j,aoG _ ⟨w.heap.size+1,j,none⟩=false:=fun j=>(E.frozen (p:=⟨w.heap.size+1,j,none⟩) (by simp)).trans (by have:=aV (w.alloc (.cells #[.int .i64 0,.int .i64 0,.string ⟨#[]⟩,.string ⟨#[]⟩,.int .i64 0] 56)) #[.int .i64 (-1),.int .i64 0,.string ⟨#[]⟩,.string ⟨#[]⟩,.int .i64 0] 56 j;rw[cR]at this;exact this)
    have o0:=fo 0;have o1:=fo 1;have o2:=fo 2;have EB:=hid (fY (fY E));clear bz bo
    by_cases c1:k1=1
    ·have z1:((k1:Int) != 1)=false:=ah
     go_wp2_with (go_at_call 118;refine av (Er.out _) ?_)
     go_wp2_with fail;exact bodyPost_ret (by simp[results,results53,go_sem,p0,p1,p2,p3,p4,aS]<;>rfl) rfl (iE.no HD.out ⟨-1,0,[],[],0⟩ n2 rfl (iZ EB.out))
    have z1:((k1:Int) != 1)=true:=ah
    go_wp2_with fail;exact bodyPost_ret (by simp[results,results53,go_sem,p0,p1,p2,p3,p4,aS]<;>rfl) rfl (iE.no HD.out ⟨-1,0,[],[],0⟩ n2 rfl (iZ EB.out))
  | true=>
    rw[hn]at Er;have HN:=hid hn;have c1:k1=1:=by rw[<-K1.out];exact yu hn
    have z1:((k1:Int) != 1)=false:=ah;clear hn;have E9:=E.out;have bz:=(aA.new w #[.int .i64 0,.int .i64 0,.string ⟨#[]⟩,.string ⟨#[]⟩,.int .i64 0] 56).below ((al (w.alloc (.cells #[.int .i64 0,.int .i64 0,.string ⟨#[]⟩,.string ⟨#[]⟩,.int .i64 0] 56)) (.cells #[.int .i64 (-1),.int .i64 0,.string ⟨#[]⟩,.string ⟨#[]⟩,.int .i64 0] 56)).trans (E9.mono (by simp)));obtain⟨p0,p1,p2,p3,p4⟩:=bz.fc;have bo:=(aA.new (w.alloc (.cells #[.int .i64 0,.int .i64 0,.string ⟨#[]⟩,.string ⟨#[]⟩,.int .i64 0] 56)) #[.int .i64 (-1),.int .i64 0,.string ⟨#[]⟩,.string ⟨#[]⟩,.int .i64 0] 56).below E9;obtain⟨q0,q1,q2,q3,q4⟩:=bo.fc;simp only[cR]at q0 q1 q2 q3 q4;have dV:=bz.1;have bM:=bo.1;simp only[cR]at bM;have fz:=fun j=>(dM ((al (w.alloc (.cells #[.int .i64 0,.int .i64 0,.string ⟨#[]⟩,.string ⟨#[]⟩,.int .i64 0] 56)) (.cells #[.int .i64 (-1),.int .i64 0,.string ⟨#[]⟩,.string ⟨#[]⟩,.int .i64 0] 56)).trans (E9.mono (by simp))) (b:=w.heap.size) (by simp) j).trans (aV w _ _ j)
    have fo: ∀j,aoG _ ⟨w.heap.size+1,j,none⟩=false:=fun j=>(E9.frozen (p:=⟨w.heap.size+1,j,none⟩) (by simp)).trans (by have:=aV (w.alloc (.cells #[.int .i64 0,.int .i64 0,.string ⟨#[]⟩,.string ⟨#[]⟩,.int .i64 0] 56)) #[.int .i64 (-1),.int .i64 0,.string ⟨#[]⟩,.string ⟨#[]⟩,.int .i64 0] 56 j;rw[cR]at this;exact this)
    have o0:=fo 0;have o1:=fo 1;have o2:=fo 2;have EB:=hid (fY (fY E9));clear bz bo;have BZ:=hid ((aA.new w #[.int .i64 0,.int .i64 0,.string ⟨#[]⟩,.string ⟨#[]⟩,.int .i64 0] 56).below ((al (w.alloc (.cells #[.int .i64 0,.int .i64 0,.string ⟨#[]⟩,.string ⟨#[]⟩,.int .i64 0] 56)) (.cells #[.int .i64 (-1),.int .i64 0,.string ⟨#[]⟩,.string ⟨#[]⟩,.int .i64 0] 56)).trans (E9.mono (by simp))));have BO:=hid ((aA.new (w.alloc (.cells #[.int .i64 0,.int .i64 0,.string ⟨#[]⟩,.string ⟨#[]⟩,.int .i64 0] 56)) #[.int .i64 (-1),.int .i64 0,.string ⟨#[]⟩,.string ⟨#[]⟩,.int .i64 0] 56).below E9);have FZ:=hid fz;have FO:=hid fo;have hs3:w.heap.size+1<w3.heap.size:=bM;clear EB
    go_wp2_with (first|(go_at_call 118;refine av (Er.out _) ?_)|fail)
    refine(T2.out _).mono ?_;rintro e w4 ⟨rfl,E4⟩;clear p0 p1 p2 p3 p4 q0 q1 q2 q3 q4 dV bM fz fo o0 o1 o2;have bz:=(aA.gr BZ.out (anM _ _) (show World.grownBy w3 (w3.setCell ⟨w.heap.size+1,2,none⟩ (.string (tx u1))) (Option.some (w.heap.size+1))from pz (pE _ _) 2 _) (fun c hc=>by simp at hc<;>omega)).below E4
    have bo:=BO.out;simp only[cR]at bo;have bo:=(bo.set 2 (.string (tx u1))).below E4;obtain⟨p0,p1,p2,p3,p4⟩:=bz.fc;obtain⟨q0,q1,q2,q3,q4⟩:=bo.fc;have dV:=bz.1;have bM:=bo.1;have f0: ∀j,w4.frozen? ⟨w.heap.size,j,none⟩=false:=fun j=>by rw[E4.frozen (p:=⟨w.heap.size,j,none⟩) (by simp<;>omega),World.frozen?_setCell];exact FZ.out j
    have EB:=hid (((fY (fY E9)).setCell (p:=⟨w.heap.size+1,2,none⟩) (by simp) (.string (tx u1))).trans (E4.mono (by simp<;>omega)))
    clear bz bo
    by_cases c2:k2=3
    ·have y2:((k2:Int)==3)=true:=by rw[c2];rfl
     by_cases g2:u2=[93]
     ·have y3:((tx u2).toList==[93])=true:=by rw[bh,g2];decide
      have G2:=hid g2;clear g2;go_wp2_with fail;exact bodyPost_ret (by simp[results,results53,go_sem,p0,p1,p2,p3,p4,aS]<;>rfl) rfl (iE.yes (D7.out HG.out ⟨HN.out,G2.out⟩) n3 M3.out X3.out rfl (iZ EB.out))
     have y3:=cY _ _ g2
     go_wp2_with fail;exact bodyPost_ret (by simp[results,results53,go_sem,p0,p1,p2,p3,p4,aS]<;>rfl) rfl (iE.no (D6.out HG.out (fun h=>g2 h.2)) ⟨-1,0,u1,[],0⟩ n3 rfl (iZ EB.out))
    have y2:((k2:Int)==3)=false:=ah
    have HD:=hid (D6.out HG.out (fun h=>c2 (by rw[<-K2.out,h.2];rfl)));go_wp2_with fail;exact bodyPost_ret (by simp[results,results53,go_sem,p0,p1,p2,p3,p4,aS]<;>rfl) rfl (iE.no HD.out ⟨-1,0,u1,[],0⟩ n3 rfl (iZ EB.out))
 have y1:=cY _ _ g0
 have G0:=hid g0;obtain⟨b3,eJ⟩: ∃b,((k0:Int)==3)=b:=⟨_,rfl⟩;cases hn:aC u0 with
 | false=>
   rw[hn]at Ep;have HD:=hid (D8.out C0.out G0.out hn);have bz:=(aA.new w #[.int .i64 0,.int .i64 0,.string ⟨#[]⟩,.string ⟨#[]⟩,.int .i64 0] 56).below ((al (w.alloc (.cells #[.int .i64 0,.int .i64 0,.string ⟨#[]⟩,.string ⟨#[]⟩,.int .i64 0] 56)) (.cells #[.int .i64 (-1),.int .i64 0,.string ⟨#[]⟩,.string ⟨#[]⟩,.int .i64 0] 56)).trans (E1.mono (by simp)));obtain⟨p0,p1,p2,p3,p4⟩:=bz.fc;have bo:=(aA.new (w.alloc (.cells #[.int .i64 0,.int .i64 0,.string ⟨#[]⟩,.string ⟨#[]⟩,.int .i64 0] 56)) #[.int .i64 (-1),.int .i64 0,.string ⟨#[]⟩,.string ⟨#[]⟩,.int .i64 0] 56).below E1;obtain⟨q0,q1,q2,q3,q4⟩:=bo.fc;simp only[cR]at q0 q1 q2 q3 q4;have dV:=bz.1;have bM:=bo.1;simp only[cR]at bM;have fz:=fun j=>(dM ((al (w.alloc (.cells #[.int .i64 0,.int .i64 0,.string ⟨#[]⟩,.string ⟨#[]⟩,.int .i64 0] 56)) (.cells #[.int .i64 (-1),.int .i64 0,.string ⟨#[]⟩,.string ⟨#[]⟩,.int .i64 0] 56)).trans (E1.mono (by simp))) (b:=w.heap.size) (by simp) j).trans (aV w _ _ j)
   have fo: ∀j,aoG _ ⟨w.heap.size+1,j,none⟩=false:=fun j=>(E1.frozen (p:=⟨w.heap.size+1,j,none⟩) (by simp)).trans (by have:=aV (w.alloc (.cells #[.int .i64 0,.int .i64 0,.string ⟨#[]⟩,.string ⟨#[]⟩,.int .i64 0] 56)) #[.int .i64 (-1),.int .i64 0,.string ⟨#[]⟩,.string ⟨#[]⟩,.int .i64 0] 56 j;rw[cR]at this;exact this)
   have o0:=fo 0;have o1:=fo 1;have o2:=fo 2;have EB:=hid (fY (fY E1));clear bz bo
   by_cases c1:k0=1
   ·have z1:((k0:Int) != 1)=false:=ah
    have z3:((k0:Int)==3)=false:=ah
    go_wp2_with (go_at_call 118;refine av (Ep.out _) ?_)
    go_wp2_with fail;exact bodyPost_ret (by simp[results,results53,go_sem,p0,p1,p2,p3,p4,aS]<;>rfl) rfl (iE.no HD.out ⟨-1,0,[],[],0⟩ n1 rfl (iZ EB.out))
   have z1:((k0:Int) != 1)=true:=ah
   cases b3
   all_goals
    go_wp2_with fail;exact bodyPost_ret (by simp[results,results53,go_sem,p0,p1,p2,p3,p4,aS]<;>rfl) rfl (iE.no HD.out ⟨-1,0,[],[],0⟩ n1 rfl (iZ EB.out))
 | true=>
   rw[hn]at Ep;have c1:k0=1:=by rw[<-K0.out];exact yu hn
   have z1:((k0:Int) != 1)=false:=ah;have z3:((k0:Int)==3)=false:=ah;have HD:=hid (D9.out C0.out G0.out hn);have bz:=(aA.new w #[.int .i64 0,.int .i64 0,.string ⟨#[]⟩,.string ⟨#[]⟩,.int .i64 0] 56).below ((al (w.alloc (.cells #[.int .i64 0,.int .i64 0,.string ⟨#[]⟩,.string ⟨#[]⟩,.int .i64 0] 56)) (.cells #[.int .i64 (-1),.int .i64 0,.string ⟨#[]⟩,.string ⟨#[]⟩,.int .i64 0] 56)).trans (E1.mono (by simp)));obtain⟨p0,p1,p2,p3,p4⟩:=bz.fc;have bo:=(aA.new (w.alloc (.cells #[.int .i64 0,.int .i64 0,.string ⟨#[]⟩,.string ⟨#[]⟩,.int .i64 0] 56)) #[.int .i64 (-1),.int .i64 0,.string ⟨#[]⟩,.string ⟨#[]⟩,.int .i64 0] 56).below E1;obtain⟨q0,q1,q2,q3,q4⟩:=bo.fc;simp only[cR]at q0 q1 q2 q3 q4;have dV:=bz.1;have bM:=bo.1;simp only[cR]at bM;have fz:=fun j=>(dM ((al (w.alloc (.cells #[.int .i64 0,.int .i64 0,.string ⟨#[]⟩,.string ⟨#[]⟩,.int .i64 0] 56)) (.cells #[.int .i64 (-1),.int .i64 0,.string ⟨#[]⟩,.string ⟨#[]⟩,.int .i64 0] 56)).trans (E1.mono (by simp))) (b:=w.heap.size) (by simp) j).trans (aV w _ _ j)
   have fo: ∀j,aoG _ ⟨w.heap.size+1,j,none⟩=false:=fun j=>(E1.frozen (p:=⟨w.heap.size+1,j,none⟩) (by simp)).trans (by have:=aV (w.alloc (.cells #[.int .i64 0,.int .i64 0,.string ⟨#[]⟩,.string ⟨#[]⟩,.int .i64 0] 56)) #[.int .i64 (-1),.int .i64 0,.string ⟨#[]⟩,.string ⟨#[]⟩,.int .i64 0] 56 j;rw[cR]at this;exact this)
   have o0:=fo 0;have o1:=fo 1;have o2:=fo 2;have EB:=hid (fY (fY E1));clear bz bo
   go_wp2_with (go_at_call 118;refine av (Ep.out _) ?_)
   go_wp2_with fail;exact bodyPost_ret (by simp[results,results53,go_sem,p0,p1,p2,p3,p4,aS]<;>rfl) rfl (iE.yes HD.out n1 M1.out X1.out rfl (iZ EB.out))
abbrev si:Obj:=.cells #[.int .i64 0,.int .i64 0,.int .i64 0,.int .i64 0,.int .i64 0,.string ⟨#[]⟩,.string ⟨#[]⟩,.int .i64 0] 50
theorem aiE(af:Int)(s:Tx)(w:World)(g:Gl w):Calls prog 20 #[.int .i64 af,.string (tx s)] w (if bF af=true then bI (mM af s) w else aJ w (.tuple #[vI ⟨0,0,0,0,0,[],[],0⟩,.int .i64 5])):=by
 have KN:=hid (fun w=>wI af w);have g2:=hid (g.below (eZ (al w si) si));have E0:=hid (eZ (al w si) si);have bz:=(aA.new w #[.int .i64 0,.int .i64 0,.int .i64 0,.int .i64 0,.int .i64 0,.string ⟨#[]⟩,.string ⟨#[]⟩,.int .i64 0] 50).below (al _ si);have bo:=aA.new (w.alloc si) #[.int .i64 0,.int .i64 0,.int .i64 0,.int .i64 0,.int .i64 0,.string ⟨#[]⟩,.string ⟨#[]⟩,.int .i64 0] 50;cases ha:bF af with
 | false=>
   rw[if_neg (by decide)];have HA:=hid ha;obtain⟨p0,p1,p2,p3,p4,p5,p6,p7⟩:=bz.gJ;obtain⟨q0,q1,q2,q3,q4,q5,q6,q7⟩:=bo.gJ;simp only[cR]at q0 q1 q2 q3 q4 q5 q6 q7;clear ha g bz bo;go_in
   go_wp2_with (go_at_call 45;refine av (KN.out _) ?_;rw[HA.out])
   exact bodyPost_ret (by simp[results,results20,go_sem,aS]<;>rfl) rfl ⟨rfl,bC⟩
 | true=>
   rw[if_pos rfl];have HA:=hid ha;unfold mM;have fz:=fun j=>aV w #[.int .i64 0,.int .i64 0,.int .i64 0,.int .i64 0,.int .i64 0,.string ⟨#[]⟩,.string ⟨#[]⟩,.int .i64 0] 50 j
   rcases Jn ha with rfl|rfl
   ·rw[if_pos rfl]
    have PP:=hid (fun(w:World) (g:Gl w)=>ah9 s w g);generalize dY s=r at*;have BZ:=hid bz;have FZ:=hid fz;clear ha g bz bo fz;go_in
    go_wp2_with (first|(go_at_call 45;refine av (KN.out _) ?_;rw[HA.out])|fail)
    refine(PP.out _ g2.out).mono ?_;rintro e w5 ⟨rfl,E5⟩;have b5:=BZ.out.below E5;obtain⟨p0,p1,p2,p3,p4,p5,p6,p7⟩:=b5.gJ;have hlt:=b5.1;have f5:=fun j=>(E5.frozen (p:=⟨w.heap.size,j,none⟩) ah).trans ((((al (w.alloc si) si)).frozen (p:=⟨w.heap.size,j,none⟩) (by simp)).trans (FZ.out j))
    have EB:=hid (E0.out.trans (E5.mono ah));clear b5 E5;go_wp2_with fail;exact bodyPost_ret (by simp[results,results20,go_sem,p0,p1,p2,p3,p4,p5,p6,p7]<;>rfl) rfl ⟨rfl,(by(repeat with_reducible refine anc ?_ (by simp) _);exact EB.out)⟩
   rw[if_neg (by decide)]
   have PP:=hid (fun(w:World) (g:Gl w)=>ajO s w);generalize fT s=r at*;have BZ:=hid bz;have FZ:=hid fz;clear ha g bz bo fz;go_in
   go_wp2_with (first|(go_at_call 45;refine av (KN.out _) ?_;rw[HA.out])|fail)
   refine(PP.out _ g2.out).mono ?_;rintro e w5 ⟨rfl,E5⟩;have b5:=BZ.out.below E5;obtain⟨p0,p1,p2,p3,p4,p5,p6,p7⟩:=b5.gJ;have hlt:=b5.1;have f5:=fun j=>(E5.frozen (p:=⟨w.heap.size,j,none⟩) ah).trans ((((al (w.alloc si) si)).frozen (p:=⟨w.heap.size,j,none⟩) (by simp)).trans (FZ.out j))
   have EB:=hid (E0.out.trans (E5.mono ah));clear b5 E5;go_wp2_with fail;exact bodyPost_ret (by simp[results,results20,go_sem,p0,p1,p2,p3,p4,p5,p6,p7]<;>rfl) rfl ⟨rfl,(by(repeat with_reducible refine anc ?_ (by simp) _);exact EB.out)⟩
abbrev gG:Obj:=.cells #[.int .i64 0,.int .i64 0,.string ⟨#[]⟩,.string ⟨#[]⟩,.int .i64 0] 56
theorem ad6(h:fC af l=none):nH af l=none:=by unfold nH;rw[h]
theorem U4(h:fC af l=some (x,r))(h2:au r≠[61]):nH af l=none:=by unfold nH;rw[h];exact if_neg h2
theorem ad7(h:fC af l=some (x,r))(h2:eG (au r.tail)=none):nH af l=none:=by
 unfold nH;rw[h];simp only;rw[h2];split<;>rfl
theorem ad8(h:fC af l=some (x,r))(h2:r.tail.tail≠[]):nH af l=none:=by
 unfold nH;rw[h];simp only;split
 ·cases eG (au r.tail)with
  |none=>rfl
  |some q=>rfl
 rfl
theorem ad9(h:fC af l=some (x,r))(h2:au r=[61])(h3:eG (au r.tail)=some (lc,n))(h4:r.tail.tail=[]):nH af l=some ⟨x.thread,x.az,x.loc,lc,n⟩:=by
 unfold nH;rw[h];simp only;rw[if_pos h2,h3];exact if_pos h4
theorem aeJ{c:UInt8}{r:Tx}:aY (c::r)≠0:=by
 rw[uI];split
 ·decide
 split<;>decide
theorem aeK(h:Lx s l):aY (au l)=0<->l=[]:=by
 cases l with
 |nil=>exact⟨fun _=>rfl,fun _=>rfl⟩
 | cons t r=>
   have h1:=h.head.1
   constructor
   ·intro k
    exfalso;have k:aY t.1=0:=k;cases e:t.1 with
    |nil=>rw[e]at h1;simp at h1
    |cons c x=>rw[e]at k;exact aeJ k
   intro e;cases e
theorem aec(hl:s.length<=262144):fR af s=nH af (lex 0 s):=by
 rw[Ce hl,aeb];unfold lP;rw[Gn]
theorem aiB(af:Int)(s:Tx)(ha:bF af=true)(hl:262144<s.length)(w:World):Calls prog 22 #[.int .i64 af,.string (tx s)] w (jr (fR af s) w):=by
 have KN:=hid (fun w=>wI af w);have HA:=hid ha;have HP:=hid (show fR af s=none by unfold fR;rw[if_pos (.inl hl)]);generalize fR af s=r at*;obtain⟨n,hn⟩:=aj ((tx s).size);have z:decide (262144<(n:Int))=true:=by rw[aM]at hn;simp;omega
 clear ha hl;have E0:=anM ((w.alloc gG).alloc gG).heap.size ((w.alloc gG).alloc gG);have bz:=(aA.new w #[.int .i64 0,.int .i64 0,.string ⟨#[]⟩,.string ⟨#[]⟩,.int .i64 0] 56).below ((al (w.alloc gG) gG).trans (E0.mono (by simp)));have bo:=(aA.new (w.alloc gG) #[.int .i64 0,.int .i64 0,.string ⟨#[]⟩,.string ⟨#[]⟩,.int .i64 0] 56).below E0;obtain⟨p0,p1,p2,p3,p4⟩:=bz.fc;obtain⟨q0,q1,q2,q3,q4⟩:=bo.fc;simp only[cR]at q0 q1 q2 q3 q4;have dV:=bz.1;have bM:=bo.1;simp only[cR]at bM;have f0:=fun j=>(dM ((al (w.alloc gG) gG).trans (E0.mono (by simp))) (b:=w.heap.size) (by simp) j).trans (aV w _ _ j)
 have EB:=hid (fY (fY E0));clear bz bo;go_in
 go_wp2_with (go_at_call 45;refine av (KN.out _) ?_;rw[HA.out])
 exact bodyPost_ret (by simp[results,results22,go_sem,p0,p1,p2,p3,p4]<;>rfl) rfl (jr.no HP.out (by rfl) (by(repeat(first|with_reducible refine anc ?_ qw _|with_reducible refine Below.alloc ?_ qw _));(first|exact EB.out|exact anM _ _)))
theorem aiA(af:Int)(s:Tx)(ha:bF af=true)(hl:s.length<=262144)(w:World):Calls prog 22 #[.int .i64 af,.string (tx s)] w (jr (fR af s) w):=by
 rw[aec hl];have KN:=hid (fun w=>wI af w);have HA:=hid ha;obtain⟨n,hn⟩:=aj ((tx s).size);have z:decide (262144<(n:Int))=false:=by rw[aM]at hn;simp;omega
 have TG:=hid (fun w=>aiJ (s:=s) af hl w);have HL:=hid hl;obtain⟨pp,eC⟩:=aj (fC af (lex 0 s));have HP:=hid eC;rw[eC]at TG;generalize hD:nH af (lex 0 s)=r at*;have HD:=hid hD;clear ha hl eC hD;go_in
 go_wp2_with (first|(go_at_call 45;refine av (KN.out _) ?_;rw[HA.out])|fail)
 refine(TG.out _).mono ?_;rintro e w1 ⟨E1,h⟩;cases pp with
 | none=>
   obtain⟨y,nx,rfl⟩:=h;have HZ:=hid (show r=none by rw[<-HD.out];exact ad6 HP.out);have bz:=(aA.new w #[.int .i64 0,.int .i64 0,.string ⟨#[]⟩,.string ⟨#[]⟩,.int .i64 0] 56).below ((al (w.alloc gG) gG).trans (E1.mono (by simp)));have bo:=(aA.new (w.alloc gG) #[.int .i64 0,.int .i64 0,.string ⟨#[]⟩,.string ⟨#[]⟩,.int .i64 0] 56).below E1;obtain⟨p0,p1,p2,p3,p4⟩:=bz.fc;obtain⟨q0,q1,q2,q3,q4⟩:=bo.fc;simp only[cR]at q0 q1 q2 q3 q4;have dV:=bz.1;have bM:=bo.1;simp only[cR]at bM;have f0:=fun j=>(dM ((al (w.alloc gG) gG).trans (E1.mono (by simp))) (b:=w.heap.size) (by simp) j).trans (aV w _ _ j)
   have EB:=hid (fY (fY E1));clear bz bo;go_wp2_with fail;exact bodyPost_ret (by simp[results,results22,go_sem,p0,p1,p2,p3,p4,aS,dV]<;>rfl) rfl (jr.no HZ.out rfl (yx EB.out))
 | some q=>
   obtain⟨x,l⟩:=q;obtain⟨nx,iJ,FY,rfl⟩:=h;obtain⟨T1,m1,e1,b1⟩:=wS HL.out iJ FY;have VA:=hid (fun w=>aiK HL.out m1 e1 w);obtain⟨-, m2,e2, -⟩:=wS HL.out m1 e1;obtain⟨T3,-, -, -⟩:=wS HL.out m2 e2;have T1:=hid T1;have T3:=hid T3;unfold EG at T1 T3;have KZ:=hid (aeK (s:=s) (l:=l.tail.tail) ⟨_,m2,e2⟩);obtain⟨n1,jK⟩: ∃n,gh s.length l=n:=⟨_,rfl⟩;obtain⟨n2,hn2⟩: ∃n,gh s.length l.tail=n:=⟨_,rfl⟩;obtain⟨n3,rI⟩: ∃n,gh s.length l.tail.tail=n:=⟨_,rfl⟩;obtain⟨u0,wk⟩: ∃u,au l=u:=⟨_,rfl⟩;obtain⟨u2,kf⟩: ∃u,au l.tail.tail=u:=⟨_,rfl⟩;generalize dz s.length l=q0p at*;generalize dz s.length l.tail.tail=q2p at*;rw[jK]at T1 VA;rw[hn2]at VA T3;rw[rI]at T3;rw[wk]at T1;rw[kf]at T3 KZ;obtain⟨k0,hk0⟩: ∃k,aY u0=k:=⟨_,rfl⟩;obtain⟨k2,hk2⟩: ∃k,aY u2=k:=⟨_,rfl⟩;rw[hk0]at T1;rw[hk2]at T3 KZ;have K0:=hid hk0;have U0:=hid wk;have HLX:=hid FY;clear m1 e1 m2 e2 jK hn2 rI wk kf hk0 hk2 b1 iJ FY;have Rg:=aA.new w1 #[.int .i64 x.thread,.int .i64 x.az,.string (tx x.loc),.string (tx x.aT),.int .i64 x.n] 56;go_wp2_with fail;refine(T1.out _).mono ?_;rintro e w2 ⟨rfl,E2⟩;have Ij:=hid (aB (eZ E1 (.cells #[.int .i64 x.thread,.int .i64 x.az,.string (tx x.loc),.string (tx x.aT),.int .i64 x.n] 56)) E2);have BX:=hid (Rg.below E2);have sD:=hid (show w1.heap.size<w2.heap.size by have:=E2.size;simp at this;omega);have HS0:=hid (show w.heap.size+2<=w1.heap.size by have:=E1.size;simp at this;omega);have FX:=hid (fun j=>(E2.frozen (p:=⟨w1.heap.size,j,none⟩) (by simp)).trans (aV w1 #[.int .i64 x.thread,.int .i64 x.az,.string (tx x.loc),.string (tx x.aT),.int .i64 x.n] 56 j))
   clear E1 E2 Rg
   by_cases c0:k0=3
   ·have zk:((k0:Int) != 3)=false:=ah
    by_cases g0:u0=[61]
    ·have HG:=hid g0
     subst g0;have zu:((tx [61]).toList==[61])=true:=by rw[bh];decide
     generalize tx [61]=ux at*;go_wp2_with fail;refine(VA.out _).mono ?_;rintro e w3 ⟨E3,lc,vn,ok,rfl,HO⟩;have HO:=hid HO;go_wp2_with fail;refine(T3.out _).mono ?_;rintro e w4 ⟨rfl,E4⟩;have Jx:=(aA.new w3 #[.string (tx lc),.int .i64 vn] 54).below E4;obtain⟨y0,y1⟩:=Jx.mB;have hy:=Jx.1;have hy3:w2.heap.size<=w3.heap.size:=E3.size;have jn:=aB E3 (aB (al w3 (.cells #[.string (tx lc),.int .i64 vn] 54)) E4);have bx:=BX.out.below jn;obtain⟨x0,x1,x2,x3,x4⟩:=bx.fc;have fx:=fun j=>(jn.frozen (p:=⟨w1.heap.size,j,none⟩) sD.out).trans (FX.out j)
     have fx3:=fx 3;have fx4:=fx 4;have hs1:=sD.out;have hs0:=HS0.out;have E:=aB Ij.out jn;clear bx Jx E3 E4 jn;have bz:=(aA.new w #[.int .i64 0,.int .i64 0,.string ⟨#[]⟩,.string ⟨#[]⟩,.int .i64 0] 56).below ((al (w.alloc gG) gG).trans (E.mono (by simp)));have bo:=(aA.new (w.alloc gG) #[.int .i64 0,.int .i64 0,.string ⟨#[]⟩,.string ⟨#[]⟩,.int .i64 0] 56).below E;obtain⟨p0,p1,p2,p3,p4⟩:=bz.fc;obtain⟨q0,q1,q2,q3,q4⟩:=bo.fc;simp only[cR]at q0 q1 q2 q3 q4;have dV:=bz.1;have bM:=bo.1;simp only[cR]at bM;have f0:=fun j=>(dM ((al (w.alloc gG) gG).trans (E.mono (by simp))) (b:=w.heap.size) (by simp) j).trans (aV w _ _ j)
     have EB:=hid (fY (fY E));clear bz bo;cases ok with
     | false=>
       have HZ:=hid (show r=none by rw[<-HD.out];exact ad7 HP.out HO.out.no);go_wp2_with fail;exact bodyPost_ret (by simp[results,results22,go_sem,p0,p1,p2,p3,p4,aS]<;>rfl) rfl (jr.no HZ.out rfl (yx EB.out))
     | true=>
       by_cases c2:k2=0
       ·have HZ:=hid (show r=some ⟨x.thread,x.az,x.loc,lc,vn⟩ by rw[<-HD.out];exact ad9 HP.out (U0.out.trans rfl) HO.out.yes (KZ.out.1 c2))
        have nj:((k2:Int) != 0)=false:=ah;go_wp2_with fail;exact bodyPost_ret (by simp[results,results22,go_sem,p0,p1,p2,p3,p4]<;>rfl) rfl (jr.yes HZ.out rfl (yx EB.out))
       have HZ:=hid (show r=none by rw[<-HD.out];exact ad8 HP.out (fun h=>c2 (KZ.out.2 h)))
       have nj:((k2:Int) != 0)=true:=ah;go_wp2_with fail;exact bodyPost_ret (by simp[results,results22,go_sem,p0,p1,p2,p3,p4,aS]<;>rfl) rfl (jr.no HZ.out rfl (yx EB.out))
    have zu:=cY _ _ g0
    have HZ:=hid (show r=none by rw[<-HD.out];exact U4 HP.out (by rw[U0.out];exact g0));have E:=Ij.out;have bz:=(aA.new w #[.int .i64 0,.int .i64 0,.string ⟨#[]⟩,.string ⟨#[]⟩,.int .i64 0] 56).below ((al (w.alloc gG) gG).trans (E.mono (by simp)));have bo:=(aA.new (w.alloc gG) #[.int .i64 0,.int .i64 0,.string ⟨#[]⟩,.string ⟨#[]⟩,.int .i64 0] 56).below E;obtain⟨p0,p1,p2,p3,p4⟩:=bz.fc;obtain⟨q0,q1,q2,q3,q4⟩:=bo.fc;simp only[cR]at q0 q1 q2 q3 q4;have dV:=bz.1;have bM:=bo.1;simp only[cR]at bM;have f0:=fun j=>(dM ((al (w.alloc gG) gG).trans (E.mono (by simp))) (b:=w.heap.size) (by simp) j).trans (aV w _ _ j)
    have EB:=hid (fY (fY E));clear bz bo;go_wp2_with fail;exact bodyPost_ret (by simp[results,results22,go_sem,p0,p1,p2,p3,p4,aS]<;>rfl) rfl (jr.no HZ.out rfl (yx EB.out))
   have zk:((k0:Int) != 3)=true:=ah
   have HZ:=hid (show r=none by rw[<-HD.out];exact U4 HP.out (by rw[U0.out];intro h;exact c0 (by rw[<-K0.out,h];rfl)));have E:=Ij.out;have bz:=(aA.new w #[.int .i64 0,.int .i64 0,.string ⟨#[]⟩,.string ⟨#[]⟩,.int .i64 0] 56).below ((al (w.alloc gG) gG).trans (E.mono (by simp)));have bo:=(aA.new (w.alloc gG) #[.int .i64 0,.int .i64 0,.string ⟨#[]⟩,.string ⟨#[]⟩,.int .i64 0] 56).below E;obtain⟨p0,p1,p2,p3,p4⟩:=bz.fc;obtain⟨q0,q1,q2,q3,q4⟩:=bo.fc;simp only[cR]at q0 q1 q2 q3 q4;have dV:=bz.1;have bM:=bo.1;simp only[cR]at bM;have f0:=fun j=>(dM ((al (w.alloc gG) gG).trans (E.mono (by simp))) (b:=w.heap.size) (by simp) j).trans (aV w _ _ j)
   have EB:=hid (fY (fY E));clear bz bo;go_wp2_with fail;exact bodyPost_ret (by simp[results,results22,go_sem,p0,p1,p2,p3,p4,aS]<;>rfl) rfl (jr.no HZ.out rfl (yx EB.out))
theorem aiz(af:Int)(ha:bF af=true)(s:Tx)(w:World):Calls prog 22 #[.int .i64 af,.string (tx s)] w (jr (fR af s) w):=by
 rcases Nat.lt_or_ge 262144 s.length with hl|hl
 ·exact aiB af s ha hl w
 exact aiA af s ha hl w
end Go.Proofs.YtkbbgjloifmmbaaGreatDoor

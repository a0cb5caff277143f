/- What ReadAgainP leans on, part 8. -/
import Derived.Test.YtkbbgjloifmmbaaGreatDoorPf5
import Derived.Test.YtkbbgjloifmmbaaGreatDoorPf6
import Derived.Deep.RegionHeld3
set_option linter.unusedVariables false
open _root_.Go.Proofs.Tryz
open _root_.Go.Lib renaming trimRightB->aBV,trimB->aBW
open _root_.Go.Op renaming stringOp->aBG
namespace Go.Proofs.YtkbbgjloifmmbaaGreatDoor
open Go.RowKit Go.Sort
variable{ag:Int}{k:Nat}{a:Option Addr}{w:World}
theorem ar2(h:k<15)(h':k<yT.length):yT[k]=cg k:=by
 unfold cg;rw[pY,aV h'];rfl
structure xQ(w:World)(a:Option Addr):Prop where
 lF:cO w a yT
theorem xQ.cell(h:xQ w a)(hk:k<15):w.cell? ⟨bk a,fo a+k,none⟩=some (.string (tx (cg k))):=by
 rw[h.lF.cell k (show k<yT.length from hk),ar2 hk]
theorem xQ.idx(h:xQ w a)(hk:k<15): ∀w',(Instr.indexAt 42 (.slice a 15 15) (.int .i64 k)).run prog w'= .ok (.pointer (some ⟨bk a,fo a+k,none⟩)) w':=h.lF.idx k hk 15
theorem xQ.below{w':World}(h:xQ w a)(hb:Below w.heap.size w w'):xQ w' a:=⟨h.lF.below hb⟩
theorem avo(w:World):Calls prog 216 #[] w fun e w'=> ∃a,e= .returned (.slice a 15 15)/\xQ w' a/\Below w.heap.size w w':=by
 exact adT
theorem amC(w:World):Calls prog 271 #[] w fun e w'=> ∃a,e= .returned (.slice a 15 15)/\xQ w' a/\Below w.heap.size w w':=by
 exact adT
theorem abR(ag:Int)(k:Nat)(hk:(k:Int)<dU ag)(w:World):Calls prog 211 #[.int .i64 ag,.int .i64 k] w (bg w (.string (tx (dy ag k)))):=by
 by_cases h1:ag=1
 ·subst h1
  have JY:k<15:=by unfold dU at hk;rw[ak rfl]at hk;omega
  have h0:(0:Int)<=(k:Int):=ah;have h1:(k:Int)<15:=ah;have e:dy 1 k=cg k:=rfl;rw[e];clear e hk;go_in;go_wp2_with fail;refine(amC _).mono ?_;rintro e w1 ⟨a,rfl,T,B⟩;have ix:=T.idx JY;have cx:=T.cell JY;go_wp2;go_ret;exact⟨rfl,B⟩
 have z1:(ag==1)=false:=aS h1
 have e:dy ag k=cZ k:=by unfold dy;rw[ai h1]
 have Ow:k<32:=by unfold dU at hk;rw[ai h1]at hk;omega
 rw[e];have cx:=Jw k;clear e hk h1;go_in
 go_wp2_with (go_at_call 57;refine aK (Dl k ah _) ?_)
 go_ret;exact Fq
theorem alL(k:Nat)(h:k<100): ∀w,(aBG .add ⟨#[82]⟩ (tx (gf k))).run prog w= .ok (.string (tx (82::gf k))) w:=lX [82] (gf k) (by have:=UB k;simp;omega)
theorem alM(k:Nat)(h:k<100): ∀w,(aBG .add (tx (82::gf k)) ⟨#[68]⟩).run prog w= .ok (.string (tx (82::gf k++[68]))) w:=lX (82::gf k) [68] (by have:=UB k;simp;omega)
theorem awJ: ∀k:Fin 15,7<=k.val->82::gf (k.val+1)++[68]=cg k.val:=dD
theorem aus(ag:Int)(k:Nat)(hk:(k:Int)<dU ag)(w:World):Calls prog 203 #[.int .i64 ag,.int .i64 k] w (zU w (.string (tx (dy ag k)))):=by
 by_cases h1:ag=1
 ·subst h1
  have JY:k<15:=by unfold dU at hk;rw[ak rfl]at hk;omega
  have e:dy 1 k=cg k:=rfl;rw[e];clear e hk
  by_cases h7:7<=k
  ·have e:=awJ ⟨k,JY⟩ h7
   have z7:(7:Int)<=k:=ah;have c1:=alL (k+1) ah;simp only at e;have c2: ∀w,(aBG .add (tx (82::gf (k+1))) ⟨#[68]⟩).run prog w= .ok (.string (tx (cg k))) w:=fun w=>by rw[<-e];exact alM (k+1) ah w
   have hI:=Dl (k+1) ah;rw[show((k+1:Nat):Int)=(k:Int)+1 by omega]at hI;have hI:=af hI;clear e;have hkk:(k:Int)+1<=100:=ah;go_in
   go_wp2_with (go_at_call 57;refine aK (hI.oo _) ?_)
   go_ret;exact⟨rfl,oJ⟩
  have h:k=0\/k=1\/k=2\/k=3\/k=4\/k=5\/k=6:=ah
  clear JY h7;rcases h with rfl|rfl|rfl|rfl|rfl|rfl|rfl
  all_goals
   go_in;go_wp2;go_ret;exact⟨Qv dD,oJ⟩
 have z1:(ag != 1)=true:=aS h1
 have e:dy ag k=cZ k:=by unfold dy;rw[ai h1]
 have Ow:k<32:=by unfold dU at hk;rw[ai h1]at hk;omega
 rw[e];have cx:=Jw k;clear e hk h1;go_in
 go_wp2_with (go_at_call 57;refine aK (Dl k ah _) ?_)
 go_ret;exact⟨rfl,oJ⟩
theorem ayk{t:Th}(h:t.aO= -1):ue ag t=t.aj:=by unfold ue;rw[ak h]
theorem ayl(i k:Nat):ue ag ⟨i,k,[]⟩=Lib.itoa i++[58]++dy ag k:=by
 unfold ue;rw[ai (by simp only;omega)];simp
abbrev cC(q:Int)(x:Nd):List Value:=[.int .i64 q,.int .i64 x.kind,.int .i64 x.th.aO,.int .i64 x.th.aR,.string (tx x.th.aj),.int .i64 x.val,.slice x.a x.aP.length x.c]
theorem aW.cC{b:Nat}{q:Int}{x:Nd}(h:aW w b (cC q x)):w.cell? ⟨b,0,none⟩=some (.int .i64 q)/\w.cell? ⟨b,1,none⟩=some (.int .i64 x.kind)/\w.cell? ⟨b,2,none⟩=some (.int .i64 x.th.aO)/\w.cell? ⟨b,3,none⟩=some (.int .i64 x.th.aR)/\w.cell? ⟨b,4,none⟩=some (.string (tx x.th.aj))/\w.cell? ⟨b,5,none⟩=some (.int .i64 x.val)/\w.cell? ⟨b,6,none⟩=some (.slice x.a x.aP.length x.c):=
 ⟨h.get 0 _ rfl,h.get 1 _ rfl,h.get 2 _ rfl,h.get 3 _ rfl,h.get 4 _ rfl,h.get 5 _ rfl,h.get 6 _ rfl⟩
theorem JH{α:Type}(p:α->Bool): ∀x:List α,(x.dropWhile p).length<=x.length
 |[]=>by simp
 | a::r=>by
   rw[k7];split
   ·have:=JH p r;simp;omega
   exact aX _
theorem UG{α:Type}(p:α->Bool)(x:List α):x.dropWhile p=x<-> ∀a,x.head?=some a->p a=false:=by
 cases x with
 |nil=>simp
 | cons a r=>
   rw[k7];cases h:p a
   ·simp[h]
   simp only[lG,ya,qM]
   constructor
   ·intro e
    have h1:=JH p r;have h2:=congrArg List.length e;simp at h2;omega
   intro e
   have:=e a rfl;rw[h]at this;cases this
theorem ayK(l:Tx):aBW l 32=l<->uK l=true:=by
 have hR:aBV l 32=l<-> ∀a,l.getLast?=some a->(a==32)=false:=by
  rw[<-I9,<-UG];unfold aBV;constructor
  ·intro e
   have:=congrArg List.reverse e
   rwa[BQ]at this
  intro e
  rw[e,BQ]
 have hL: ∀r:Tx,Lib.trimLeftB r 32=r<-> ∀a,r.head?=some a->(a==32)=false:=fun r=>by
  rw[<-UG];rfl
 have aAr:(aBV l 32).length<=l.length:=by
  unfold aBV;have:=JH (· ==(32:UInt8)) l.reverse;rw[BT]at this⊢;exact this
 have apr:aBW l 32=l->aBV l 32=l:=by
  intro e;rw[hR,<-I9,<-UG];have h1:=congrArg List.length e;unfold aBW Lib.trimLeftB at h1;have h2:=JH (· ==(32:UInt8)) (aBV l 32)
  have h3:(l.reverse.dropWhile (· ==(32:UInt8))).length=l.reverse.length:=by
   have:(aBV l 32).length=(l.reverse.dropWhile (· ==(32:UInt8))).length:=by unfold aBV;rw[BT]
   have h4:=JH (· ==(32:UInt8)) l.reverse;rw[BT]at h4⊢;omega
  exact(iu _).eq_of_length h3
 have hfl:uK l=true<->(∀a,l.head?=some a->(a==32)=false)/\(∀a,l.getLast?=some a->(a==32)=false):=by
  unfold uK;cases l with
  |nil=>simp
  | cons c r=>
    have:(c::r).getLast?=some ((c::r).getLast aq):=pz aq;rw[this];simp
 rw[hfl];constructor
 ·intro e
  have h1:=apr e;have h2:Lib.trimLeftB l 32=l:=by unfold aBW at e;rwa[h1]at e
  exact⟨(hL l).1 h2,hR.1 h1⟩
 rintro⟨h1,h2⟩
 unfold aBW;rw[hR.2 h2];exact(hL l).2 h1
end Go.Proofs.YtkbbgjloifmmbaaGreatDoor

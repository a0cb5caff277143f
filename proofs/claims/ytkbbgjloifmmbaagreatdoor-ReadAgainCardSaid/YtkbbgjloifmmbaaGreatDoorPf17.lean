/- What ReadAgainP leans on, part 17. -/
import Derived.Test.YtkbbgjloifmmbaaGreatDoorPf16
import Derived.Test.YtkbbgjloifmmbaaGreatDoorPf14
import Derived.Test.YtkbbgjloifmmbaaGreatDoorPf15
set_option linter.unusedVariables false
set_option maxRecDepth 100000
set_option maxHeartbeats 12800000
open _root_.Go.Proofs.Tryz
open _root_.Option renaming some->aBf
open _root_.Go renaming World->aAX,Calls->aA7,Ending->aBp
open _root_.Go.Instr renaming indexAt->aA2,sliceAt->aA1
open _root_.Go.RowKit renaming Below->aAW
namespace Go.Proofs.YtkbbgjloifmmbaaGreatDoor
open Go.RowKit Go.Sort
variable{e:aBp}{x:bF}{ag k n:Int}{aD:List Nd}{l r r2:List Tok}{one:List Tok->PR Nd}{L:List Tx}{B b c c' f rb:Nat}{a a':Option Addr}{o:Option bF}{pp:PR Nd}{t:Th}{S p s sign v:Tx}{W w w' w1 w2:aAX}
theorem ays(h:bP (aJ l)=2)(h2: ∀v,bN (aJ l)=some v->v<0\/16<=v):fQ ag l= .error l:=by
 rw[QN,ak h]
 have e:lq 0 15 l= .error l:=by
  cases l with
  |nil=>rfl
  | cons t r=>
    rw[sw];cases hn:bN t.1 with
    |none=>rfl
    |some v=>have:=h2 v hn;simp only;rw[ai ah]
 rw[e]
theorem ayt(h:bP (aJ l)=2)(hn:bN (aJ l)=some n)(h0:0<=n)(h1:n<16):fQ ag l=match bQ [58] l.tail with
 | .error e=>.error e
 | .ok r=>match dX ag (aJ r)with
   |none=>.error r
   |some k=>.ok (⟨n,k,[]⟩,r.tail):=by
 rw[QN,ak h];cases l with
 |nil=>cases h
 |cons t r=>rw[sw,show bN t.1=some n from hn];simp only;rw[ak ah];rfl
theorem agD(h:aU (aJ l)=false):jN l= .error l:=by
 cases l with
 |nil=>rfl
 |cons t r=>rw[vm,ai (by rw[show aU t.1=false from h];decide)]
theorem agG(h:aU (aJ l)=true):jN l= .ok (aJ l,l.tail):=by
 cases l with
 |nil=>cases h
 |cons t r=>rw[vm,ak (show aU t.1=true from h)];rfl
theorem ayu(h:aJ l=[91]):fQ ag l=match jN l.tail with
 | .error e=>.error e
 | .ok (x,r)=>match bQ [93] r with
   | .error e=>.error e
   | .ok r=>.ok (⟨-1,0,x⟩,r):=by
 rw[QN,ai (by rw[h];decide),ak h];rfl
theorem ayv(h:bP (aJ l)≠2)(h2:aJ l≠[91]):fQ ag l=match jN l with
 | .error e=>.error e
 | .ok (x,r)=>.ok (⟨-1,0,x⟩,r):=by
 rw[QN,ai h,ai h2];rfl
theorem Yc(s:Tx)(w:aAX):aA7 prog 116 #[.string (tx s)] w fun e w'=>e= .returned (.tuple #[.int .i64 ((bN s).getD 0),.bool (bN s).isSome])/\w=w':=by
 refine(aun s w).mono ?_;rintro e w' ⟨rfl,h⟩;refine⟨?_,rfl⟩;rw[asc];cases hv:fF s with
 |none=>rw[hv]at h;exact h
 | some v=>
   rw[hv]at h;simp only[Tl]at h⊢
   split at h<;>rename_i hq
   ·rw[ak hq];exact h
   rw[ai hq];exact h
theorem wP(h:w.grownBy w' (aBf b))(j:Nat)(v:Value):w.grownBy (w'.setCell ⟨b,j,none⟩ v) (aBf b):=
 ⟨h.os,h.tape,h.output,by simpa using h.size,fun k hk aN=>by rw[BU _ _ _ _ (by simp;exact fun e=>aN (by rw[e]))];exact h.block k hk aN⟩
theorem wQ(w:aAX)(b:Nat):w.grownBy w (aBf b):=⟨rfl,rfl,rfl,aX _,fun k hk aN=>rfl⟩
theorem iQ(h:w.grownBy w' (aBf b):=by(repeat refine wP ?_ _ _);exact wQ _ _):w.grownBy w' (aBf b):=h
theorem fW(hs:aAW w.heap.size w w1)(hb:b<w.heap.size)(k:Nat):w1.frozen? ⟨b,k,none⟩=w.frozen? ⟨b,k,none⟩:=by
 unfold World.frozen?;rw[hs.block b hb]
theorem aut(ag:Int)(s:Tx)(w:aAX):aA7 prog 117 #[.int .i64 ag,.string (tx s)] w fun e w'=>e= .returned (.tuple #[.int .i64 ((((dX ag s).getD 0:Nat):Int)),.bool (dX ag s).isSome])/\aAW w.heap.size w w':=by
 refine(aip ag s w).mono ?_;rintro e w' ⟨h1,h⟩;refine⟨?_,h1⟩;cases hv:dX ag s with
 |none=>rw[hv]at h;exact h
 |some v=>rw[hv]at h;exact h
def JT(e:aBp):Prop:= ∃t:Th,e= .returned (mz t)/\t.aj.length<=262144
structure me(w wx:aAX)(B rb:Nat)(ag:Int)(S:Tx)(l:List Tok)(b:Int):Prop where
 rd:dM wx B rb ag S l b
 st:St ((w.alloc ke).alloc ke) wx rb
 hr:rb<w.heap.size
section
variable {w wx wy:aAX} {B rb:Nat} {ag:Int} {S:Tx} {l l':List Tok} {b b':Int}
theorem me.new(R:dM w B rb ag S l b):me w ((w.alloc ke).alloc ke) B rb ag S l b:=
 ⟨(R.below (al _ _)).below (al _ _),St.refl _ _,R.cells.lt⟩
theorem me.step(h:me w wx B rb ag S l b)(hs:St wx wy rb)(hr:dM wy B rb ag S l' b'):me w wy B rb ag S l' b':=⟨hr,h.st.trans hs,h.hr⟩
theorem me.below(h:me w wx B rb ag S l b)(hb:aAW wx.heap.size wx wy):me w wy B rb ag S l b:=⟨h.rd.below hb,h.st.trans (bX hb),h.hr⟩
structure ThF(w wx:aAX):Prop where
 p0:wx.cell? ⟨w.heap.size,0,none⟩=aBf (.int .i64 0)
 p1:wx.cell? ⟨w.heap.size,1,none⟩=aBf (.int .i64 0)
 p2:wx.cell? ⟨w.heap.size,2,none⟩=aBf (.string ⟨#[]⟩)
 q0:wx.cell? ⟨w.heap.size+1,0,none⟩=aBf (.int .i64 0)
 q1:wx.cell? ⟨w.heap.size+1,1,none⟩=aBf (.int .i64 0)
 q2:wx.cell? ⟨w.heap.size+1,2,none⟩=aBf (.string ⟨#[]⟩)
 f1: ∀j,wx.frozen? ⟨w.heap.size,j,none⟩=false
 f2: ∀j,wx.frozen? ⟨w.heap.size+1,j,none⟩=false
 sz:w.heap.size+2<=wx.heap.size
theorem me.vars(h:me w wx B rb ag S l b):ThF w wx:=by
 have hr:=h.hr;have e1:(w.alloc ke).heap.size=w.heap.size+1:=aq;have a:=(((aW.new w #[.int .i64 0,.int .i64 0,.string ⟨#[]⟩] 25).below (al _ ke)).step h.st ah);have c:=((aW.new (w.alloc ke) #[.int .i64 0,.int .i64 0,.string ⟨#[]⟩] 25).step h.st ah);rw[e1]at c;have hz:=h.st.grown.size;refine⟨a.get 0 _ rfl,a.get 1 _ rfl,a.get 2 _ rfl,c.get 0 _ rfl,c.get 1 _ rfl,c.get 2 _ rfl,fun j=>?_,fun j=>?_,by simp at hz;omega⟩
 ·rw[iE h.st aC ah j]
  rw[fW (w:=w.alloc ke) (al _ _) aq j];exact Fu
 rw[iE h.st aq ah j,<-e1];exact cJ (w.alloc ke) _ _ j
theorem me.fin(h:me w wx B rb ag S l b)(hg:wx.grownBy wy (aBf w.heap.size)):St w wy rb/\dM wy B rb ag S l b:=by
 have hr:=h.hr;refine⟨⟨⟨?_,?_,?_,?_,fun k hk aN=>?_⟩,.inl rfl⟩,h.rd.mj hg ah⟩
 all_goals have h1:=((St.new (St.new (St.refl w rb) ke) ke).trans h.st).grown
 ·exact hg.os.trans h1.os
 ·exact hg.tape.trans h1.tape
 ·exact hg.output.trans h1.output
 ·exact dY h1.size hg.size
 rw[hg.block k (ou hk h1.size) aC];exact h1.block k hk aN
theorem me.all(h:me w wx B rb ag S l b):wx.cell? ⟨w.heap.size,0,none⟩=aBf (.int .i64 0)/\wx.cell? ⟨w.heap.size,1,none⟩=aBf (.int .i64 0)/\wx.cell? ⟨w.heap.size,2,none⟩=aBf (.string ⟨#[]⟩)/\wx.cell? ⟨w.heap.size+1,0,none⟩=aBf (.int .i64 0)/\wx.cell? ⟨w.heap.size+1,1,none⟩=aBf (.int .i64 0)/\wx.cell? ⟨w.heap.size+1,2,none⟩=aBf (.string ⟨#[]⟩)/\(∀j,wx.frozen? ⟨w.heap.size,j,none⟩=false)/\(∀j,wx.frozen? ⟨w.heap.size+1,j,none⟩=false)/\
 wx.cell? ⟨rb,0,none⟩=aBf (.int .i64 ag)/\wx.cell? ⟨rb,1,none⟩=aBf (.string (tx S))/\wx.cell? ⟨rb,2,none⟩=aBf (.int .i64 (bP (aJ l)))/\wx.cell? ⟨rb,3,none⟩=aBf (.string (tx (aJ l)))/\wx.cell? ⟨rb,4,none⟩=aBf (.int .i64 (eI S.length l))/\wx.cell? ⟨rb,5,none⟩=aBf (.int .i64 (iR S.length l))/\wx.cell? ⟨rb,6,none⟩=aBf (.int .i64 b)/\(∀j,wx.frozen? ⟨rb,j,none⟩=false)/\rb<wx.heap.size/\rb<w.heap.size/\w.heap.size≠rb/\w.heap.size<wx.heap.size/\w.heap.size+1<wx.heap.size:=by
 have v:=h.vars;have r:=h.rd.cells;have hr:=h.hr;have sz:=v.sz;exact⟨v.p0,v.p1,v.p2,v.q0,v.q1,v.q2,v.f1,v.f2,r.c0,r.c1,r.c2,r.c3,r.c4,r.c5,r.c6,r.fz,r.lt,hr,ah,ah,ah⟩
theorem me.err{l0:List Tok}{p:PR Th}{e:aBp}(h:me w wx B rb ag S l (eI S.length l0))(hp:p= .error l0)(hg:wx.grownBy wy (aBf w.heap.size))(hj:JT e):oq w B rb ag S p VT JT e wy:=
 ⟨(h.fin hg).1,.inl ⟨_,_,hp,hj,(h.fin hg).2⟩⟩
theorem me.ez{e:aBp}{p:PR Th}{t:Th}(h:me w wx B rb ag S l (-1))(hp:p= .ok (t,l))(hg:wx.grownBy wy (aBf w.heap.size))(he:e= .returned (mz t))(ht:t.aj.length<=262144):oq w B rb ag S p VT JT e wy:=
 ⟨(h.fin hg).1,.inr ⟨_,_,hp,⟨he,ht⟩,(h.fin hg).2⟩⟩
theorem auw(R:dM w B rb ag S l (-1)):aA7 prog 301 #[.pointer (some ⟨rb,0,none⟩)] w (oq w B rb ag S (fQ ag l) VT JT):=by
 have NM:=af (fun w=>Yc (aJ l) w);have IS:=af (fun(w:aAX) (R:dM w B rb ag S l (-1))=>A6 R 3 [91] rfl);have V:=af (me.new R);have ha:=R.lx.aJ;have ha2:=R.lx.tail.aJ;have uY:=R.sl;have A1:=af (fun h h2=>ays (ag:=ag) (l:=l) h h2);have A2:=af (fun h n hn h0 h1=>ayt (ag:=ag) (l:=l) (n:=n) h hn h0 h1);have A3:=af (fun h=>ayu (ag:=ag) (l:=l) h);have A4:=af (fun h h2=>ayv (ag:=ag) (l:=l) h h2);generalize fQ ag l=P at*;obtain⟨p0,p1,p2,q0,q1,q2,f1,f2,c0,c1,c2,c3,c4,c5,c6,fz,lt,fk,aN,dn,dS⟩:=V.oo.all;go_in
 by_cases hk:bP (aJ l)=2
 ·have zk:((bP (aJ l):Int)==2)=true:=by rw[hk];rfl
  obtain⟨v,ok,hv⟩: ∃v ok,(bN (aJ l)).getD 0=v/\(bN (aJ l)).isSome=ok:=⟨_,_,rfl,rfl⟩;rw[hv.1,hv.2]at NM
  by_cases hb:ok=true/\0<=v/\v<16
  rotate_left
  ·have HP:=af (A1.oo hk fun x hx=>by
    rw[hx]at hv;obtain⟨rfl,rfl⟩:=hv;simp only[Ti,Option.isSome_some,true_and]at hb
    omega)
   have eG:ok=false\/ok=true/\v<0\/ok=true/\0<=v/\16<=v:=by cases ok<;>simp at hb⊢ <;>omega
   have WR:=af (Dz V.oo.rd);rcases eG with rfl|⟨rfl,hb⟩|⟨rfl,hb,jn⟩
   all_goals
    go_wp2_with (go_at_call 116;refine aK (NM.oo _) ?_)
    refine WR.oo.mono ?_;rintro e w1 ⟨rfl,S1,R1⟩;have V:=af (V.oo.step S1 R1);obtain⟨p0,p1,p2,q0,q1,q2,f1,f2,c0,c1,c2,c3,c4,c5,c6,fz,lt,fk,aN,dn,dS⟩:=V.oo.all;go_wp2_with fail;exact aZ (by simp[results,results301,go_sem,p0,p1,p2,dQ,dP]<;>rfl) rfl (V.oo.err HP.oo (by(repeat refine wP ?_ _ _);exact wQ _ _) ⟨dQ,rfl,ay⟩)
  obtain⟨rfl,eW,eG⟩:=hb
  have HA:=af (A2.oo hk v (by
   cases h:bN (aJ l)with
   |none=>rw[h]at hv;cases hv.2
   |some x=>rw[h]at hv;rw[<-hv.1];rfl) eW eG)
  have ON:=af (sF V.oo.rd)
  go_wp2_with (go_at_call 116;refine aK (NM.oo _) ?_)
  refine ON.oo.mono ?_;rintro e w1 ⟨rfl,S1,R1⟩;have V:=af (V.oo.step S1 R1);obtain⟨p0,p1,p2,q0,q1,q2,f1,f2,c0,c1,c2,c3,c4,c5,c6,fz,lt,fk,aN,dn,dS⟩:=V.oo.all;have WN:=af (A7 V.oo.rd 3 [58] rfl ay);rcases ht:bQ [58] l.tail with er|r
  ·rw[ht]at HA WN
   go_wp2_with fail;refine WN.oo.mono ?_;rintro e w2 h;obtain⟨hv,S1,l',R1⟩:=h.err (l:=er) rfl;unfold JU at hv;subst hv;exact acj
  rw[ht]at HA WN;go_wp2_with fail;refine WN.oo.mono ?_;rintro e w2 h;obtain⟨hv,R1,S1⟩:=h.ez (x:=()) (r:=r) rfl;unfold VU at hv;subst hv;have V:=af (V.oo.step S1 R1);obtain⟨p0,p1,p2,q0,q1,q2,f1,f2,c0,c1,c2,c3,c4,c5,c6,fz,lt,fk,aN,dn,dS⟩:=V.oo.all;have T:me w w2.drew B rb ag S r (-1):=V.oo.below (below_drewN w2 1);have RO:=af (fun w=>aut ag (aJ r) w);obtain⟨v2,hv⟩: ∃v,aJ r=v:=⟨_,rfl⟩;obtain⟨d0,-, -, d3, -⟩:=T.rd.cells;rw[hv]at d3 RO HA c3;have HV:=af hv;go_wp2_with fail
  go_region_held3 (fun w'=>me w w' B rb ag S r (-1)/\w'.cell? ⟨rb,0,none⟩=some (.int .i64 ag)/\w'.cell? ⟨rb,3,none⟩=some (.string (tx v2))) (first|exact⟨by assumption,by assumption,by assumption⟩)
   ((go_at_call 117;refine aQ (RO.oo _) fun w' E'=>?_;have T:=T.below E';have d0:=T.rd.cells.c0;have d3:=T.rd.cells.c3;rw[HV.oo]at d3))
  have V:=af T;obtain⟨p0,p1,p2,q0,q1,q2,f1,f2,c0,c1,c2,c3,c4,c5,c6,fz,lt,fk,aN,dn,dS⟩:=V.oo.all;rw[HV.oo]at c2 c3;cases hr:dX ag v2 with
  | some k=>
    have iG:bP v2=1:=Xb hr;rw[hr]at HA;have ON:=af (sF V.oo.rd);go_wp2_with fail;refine ON.oo.mono ?_;rintro e w3 ⟨rfl,S1,R1⟩;have V:=af (V.oo.step S1 R1);obtain⟨p0,p1,p2,q0,q1,q2,f1,f2,c0,c1,c2,c3,c4,c5,c6,fz,lt,fk,aN,dn,dS⟩:=V.oo.all;go_wp2_with fail;exact aZ (by simp[results,results301,go_sem,p0,p1,p2,dP]<;>rfl) rfl (V.oo.ez (t:=⟨v,k,[]⟩) HA.oo (by(repeat refine wP ?_ _ _);exact wQ _ _) rfl aq)
  | none=>
    rw[hr]at HA;have WR:=af (Dz V.oo.rd)
    by_cases iG:bP v2=1
    all_goals
     go_wp2_with fail;refine WR.oo.mono ?_;rintro e w3 ⟨rfl,S1,R1⟩;exact acj
 have zk:((bP (aJ l):Int)==2)=false:=aC
 by_cases kN:aJ l=[91]
 ·have HA:=af (A3.oo kN)
  have HI:=af (show decide (aJ l=[91])=true from eU kN);have ON:=af (sF V.oo.rd)
  go_wp2_with (go_at_call 159;refine aK (IS.oo _ V.oo.rd) ?_;rw[HI.oo])
  refine ON.oo.mono ?_;rintro e w1 ⟨rfl,S1,R1⟩;have V:=af (V.oo.step S1 R1);obtain⟨p0,p1,p2,q0,q1,q2,f1,f2,c0,c1,c2,c3,c4,c5,c6,fz,lt,fk,aN,dn,dS⟩:=V.oo.all;generalize l.tail=l1 at*;have NA:=af (fun w=>GL (aJ l1) ah w)
  have hcase:aU (aJ l1)=true/\bP (aJ l1)=1\/aU (aJ l1)=false/\bP (aJ l1)=1\/aU (aJ l1)=false/\bP (aJ l1)≠1:=by
   cases h:aU (aJ l1)
   ·by_cases hk:bP (aJ l1)=1
    ·exact .inr (.inl ⟨rfl,hk⟩)
    exact .inr (.inr ⟨rfl,hk⟩)
   exact .inl ⟨rfl,Gi h⟩
  rcases hcase with⟨hn,iG⟩|⟨hn,iG⟩|⟨hn,iG⟩
  rotate_left
  iterate 2
   focus
    rw[agD hn]at HA;rw[hn]at NA;have WR:=af (Dz V.oo.rd)
    go_wp2_with (first|(go_at_call 159;refine aK (IS.oo _ V.oo.rd) ?_;rw[HI.oo])|(go_at_call 118;refine aK (NA.oo _) ?_))
    exact acm
  rw[agG hn]at HA;rw[hn]at NA;have ON:=af (sF V.oo.rd)
  go_wp2_with (first|(go_at_call 159;refine aK (IS.oo _ V.oo.rd) ?_;rw[HI.oo])|(go_at_call 118;refine aK (NA.oo _) ?_))
  refine ON.oo.mono ?_;rintro e w2 ⟨rfl,S1,R1⟩;have V:=af (V.oo.step S1 R1);obtain⟨p0,p1,p2,q0,q1,q2,f1,f2,c0,c1,c2,c3,c4,c5,c6,fz,lt,fk,aN,dn,dS⟩:=V.oo.all;have eL:(aJ l1).length<=262144:=ah;have WN:=af (A7 V.oo.rd 3 [93] rfl ay)
  have HA:Hid (P=match bQ [93] l1.tail with
   | .error e=>.error e
   | .ok r=>.ok (⟨-1,0,aJ l1⟩,r)):=HA
  rcases ht:bQ [93] l1.tail with er|r
  ·rw[ht]at WN HA
   go_wp2_with fail;refine WN.oo.mono ?_;rintro e w3 h;obtain⟨hv,S1,l',R1⟩:=h.err (l:=er) rfl;unfold JU at hv;subst hv;have V:=af (V.oo.step S1 R1);obtain⟨p0,p1,p2,q0,q1,q2,f1,f2,c0,c1,c2,c3,c4,c5,c6,fz,lt,fk,aN,dn,dS⟩:=V.oo.all;go_wp2_with fail;exact aZ (by simp[results,results301,go_sem,p0,p1,p2]<;>rfl) rfl (V.oo.err HA.oo (by(repeat refine wP ?_ _ _);exact wQ _ _) ⟨⟨-1,0,aJ l1⟩,rfl,eL⟩)
  rw[ht]at WN HA;go_wp2_with fail;refine WN.oo.mono ?_;rintro e w3 h;obtain⟨hv,R1,S1⟩:=h.ez (x:=()) (r:=r) rfl;unfold VU at hv;subst hv;have V:=af (V.oo.step S1 R1);obtain⟨p0,p1,p2,q0,q1,q2,f1,f2,c0,c1,c2,c3,c4,c5,c6,fz,lt,fk,aN,dn,dS⟩:=V.oo.all;go_wp2_with fail;exact aZ (by simp[results,results301,go_sem,p0,p1,p2]<;>rfl) rfl (V.oo.ez (t:=⟨-1,0,aJ l1⟩) HA.oo (by(repeat refine wP ?_ _ _);exact wQ _ _) rfl eL)
 have HA:=af (A4.oo hk kN)
 have HI:=af (show decide (aJ l=[91])=false from eZ kN);have NA:=af (fun w=>GL (aJ l) ah w)
 have hcase:aU (aJ l)=true/\bP (aJ l)=1\/aU (aJ l)=false/\bP (aJ l)=1\/aU (aJ l)=false/\bP (aJ l)≠1:=by
  cases h:aU (aJ l)
  ·by_cases hk:bP (aJ l)=1
   ·exact .inr (.inl ⟨rfl,hk⟩)
   exact .inr (.inr ⟨rfl,hk⟩)
  exact .inl ⟨rfl,Gi h⟩
 rcases hcase with⟨hn,iG⟩|⟨hn,iG⟩|⟨hn,iG⟩
 rotate_left
 iterate 2
  focus
   rw[agD hn]at HA;rw[hn]at NA;have WR:=af (Dz V.oo.rd)
   go_wp2_with (first|(go_at_call 159;refine aK (IS.oo _ V.oo.rd) ?_;rw[HI.oo])|(go_at_call 118;refine aK (NA.oo _) ?_))
   exact acm
 rw[agG hn]at HA;rw[hn]at NA;have ON:=af (sF V.oo.rd)
 go_wp2_with (first|(go_at_call 159;refine aK (IS.oo _ V.oo.rd) ?_;rw[HI.oo])|(go_at_call 118;refine aK (NA.oo _) ?_))
 refine ON.oo.mono ?_;rintro e w2 ⟨rfl,S1,R1⟩;have V:=af (V.oo.step S1 R1);obtain⟨p0,p1,p2,q0,q1,q2,f1,f2,c0,c1,c2,c3,c4,c5,c6,fz,lt,fk,aN,dn,dS⟩:=V.oo.all;have eL:(aJ l).length<=262144:=ah;go_wp2_with fail;exact aZ (by simp[results,results301,go_sem,p0,p1,p2]<;>rfl) rfl (V.oo.ez (t:=⟨-1,0,aJ l⟩) HA.oo (by(repeat refine wP ?_ _ _);exact wQ _ _) rfl eL)
end
theorem aww(s:Tx):dX 1 s=dK s:=by
 unfold dX dK dU dy;simp
theorem awx(s:Tx):dX 2 s=bR s:=by
 unfold dX bR dU dy;simp
def akO(o:Option Nat)(w:aAX)(e:aBp)(w':aAX):Prop:= ∃(k:Nat) (ok:Bool),e= .returned (.tuple #[.int .i64 k,.bool ok])/\de o k ok/\w=w'
theorem TB(h:bD ag=true):ag=1\/ag=2:=by
 unfold bD at h;simpa using h
theorem avS(ag:Int)(ha:bD ag=true)(s:Tx)(w:aAX)(g:Gl w):aA7 prog 112 #[.int .i64 ag,.string (tx s)] w (akO (dX ag s) w):=by
 rcases TB ha with rfl|rfl
 ·rw[aww]
  have RO:=af (WT s w g);cases hr:dK s with
  | none=>
    rw[hr]at RO;have RO:=af (show aA7 prog _ _ w (fun e w'=>e= .returned (.tuple #[.int .i64 0,.int .i64 90])/\w=w')from RO.oo);go_in
    go_wp2_with (go_at_call 176;refine aK RO.oo ?_)
    go_ret2;exact⟨0,false,rfl,rfl,rfl⟩
  | some k=>
    rw[hr]at RO;have RO:=af (show aA7 prog _ _ w (fun e w'=>e= .returned (.tuple #[.int .i64 k,.int .i64 0])/\w=w')from RO.oo);go_in
    go_wp2_with (go_at_call 176;refine aK RO.oo ?_)
    go_ret2;exact⟨k,true,rfl,rfl,rfl⟩
 rw[awx]
 have RO:=af (aii s w);unfold vw vu at RO;cases hr:bR s with
 | none=>
   rw[hr]at RO;have RO:=af (show aA7 prog _ _ w (fun e w'=>e= .returned (.tuple #[.int .i64 0,.int .i64 90])/\w=w')from RO.oo);go_in
   go_wp2_with (go_at_call 197;refine aK RO.oo ?_)
   go_ret2;exact⟨0,false,rfl,rfl,rfl⟩
 | some k=>
   rw[hr]at RO;have RO:=af (show aA7 prog _ _ w (fun e w'=>e= .returned (.tuple #[.int .i64 k,.int .i64 0])/\w=w')from RO.oo);go_in
   go_wp2_with (go_at_call 197;refine aK RO.oo ?_)
   go_ret2;exact⟨k,true,rfl,rfl,rfl⟩
abbrev LZ:Obj:=.cells #[.int .i64 0,.int .i64 0,.string ⟨#[]⟩,.string ⟨#[]⟩,.int .i64 0] 56
theorem yE(E:aAW (w.alloc LZ).heap.size (w.alloc LZ) w1):(w1.cell? ⟨w.heap.size,0,none⟩=some (.int .i64 0)/\w1.cell? ⟨w.heap.size,1,none⟩=some (.int .i64 0)/\w1.cell? ⟨w.heap.size,2,none⟩=some (.string ⟨#[]⟩)/\w1.cell? ⟨w.heap.size,3,none⟩=some (.string ⟨#[]⟩)/\w1.cell? ⟨w.heap.size,4,none⟩=some (.int .i64 0))/\(∀j,w1.frozen? ⟨w.heap.size,j,none⟩=false)/\w.heap.size<w1.heap.size/\aAW w.heap.size w w1:=by
 have b0:=(aW.new w #[.int .i64 0,.int .i64 0,.string ⟨#[]⟩,.string ⟨#[]⟩,.int .i64 0] 56).below E;refine⟨⟨b0.get 0 _ rfl,b0.get 1 _ rfl,b0.get 2 _ rfl,b0.get 3 _ rfl,b0.get 4 _ rfl⟩,fun j=>(fW E (b:=w.heap.size) aq j).trans (cJ w _ _ j),?_,(al w LZ).trans (E.mono aq)⟩;have:=E.size;exact Cy
theorem Dx(E:aAW w.heap.size w w1)(hg:w1.grownBy w2 (aBf w.heap.size)):aAW w.heap.size w w2:=E.grown hg E.size (fun r hr=>by simp at hr;omega)
def akK(o:Option bF)(w:aAX)(e:aBp)(w':aAX):Prop:= ∃(x:bF) (ok:Bool),e= .returned (.tuple #[od x,.bool ok])/\de o x ok/\aAW w.heap.size w w'
theorem ayC{m:Tx}(e:s=91::(m++[93])):de (mQ ag s) ⟨-1,0,aG m,[],0⟩ (aU (aG m)):=by
 have e2:(s.drop 1).dropLast=m:=by rw[e];simp
 unfold de mQ;rw[e2,ak ⟨by rw[e];rfl,by rw[e];exact Pq _ _ _,by rw[e];simp⟩]
theorem ayA(h: ¬(s.head?=some 91/\s.getLast?=some 93))(h2:(58:UInt8)∉s):de (mQ ag s) ⟨-1,0,s,[],0⟩ (aU s):=by
 unfold de mQ;rw[ai (fun hh=>h ⟨hh.1,hh.2.1⟩),ai h2]
theorem ayB{k:Nat}{b1 b2:Bool}(h: ¬(s.head?=some 91/\s.getLast?=some 93))(h2:(58:UInt8)∈s)(h3:de (bN (aG (s.takeWhile (· != 58)))) n b1)(h4:de (dX ag (aG ((s.dropWhile (· != 58)).drop 1))) k b2):
 de (mQ ag s) ⟨n,k,[],[],0⟩ (b1&&(b2&&(decide (0<=n)&&decide (n<16)))):=by
 unfold de at*;unfold mQ;rw[ai (fun hh=>h ⟨hh.1,hh.2.1⟩),ak h2,h3,h4];cases b1<;>cases b2<;>simp
theorem avV(ag:Int)(ha:bD ag=true)(s:Tx)(hl:s.length<=262144)(w:aAX)(g:Gl w):aA7 prog 49 #[.int .i64 ag,.string (tx s)] w (akK (mQ ag s) w):=by
 have hsz:=bC s;have P1:=af (fun w=>xy s [91] w);rw[aia]at P1;have P2:=af (fun w=>Lm s 93 ah w);have g0:=g.below (al w LZ)
 by_cases h1:s.head?=some 91/\s.getLast?=some 93
 ·obtain⟨m,e⟩: ∃m,s=91::(m++[93]):=by
   cases s with
   |nil=>cases h1.1
   | cons c r=>
     obtain rfl:c=91:=aS h1.1;cases r with
     |nil=>exact absurd h1.2 ay
     | cons d r=>
       have h2:(d::r).getLast?=some 93:=aS h1.2;obtain⟨m,hm⟩:=vh.1 h2;exact⟨m,by rw[hm]⟩
  subst e;obtain⟨n,hn⟩:=aF ((tx (91::(m++[93]))).size);have gF:n=m.length+2:=by rw[<-hn,hsz];simp
  have hml:m.length<=262144:=by simp at hl;omega
  have sl:=nB (91::(m++[93])) 1 (m.length+1) ah aq;have e2:((91::(m++[93])).take (m.length+1)).drop 1=m:=aq;rw[e2,show((m.length+1:Nat):Int)=(n:Int)-1 by omega,show((1:Nat):Int)=1 by rfl]at sl;have HO:=af (ayC (ag:=ag) (s:=91::(m++[93])) rfl);have TR:=af (fun w=>tZ m ah w);have htl:=lZ m;have NM:=af (fun w=>Yk (aG m) ah w);rw[show((91::(m++[93])).head?==some 91)=true by rfl]at P1;rw[show((91::(m++[93])).getLast?==some 93)=true by rw[h1.2];rfl]at P2;generalize mQ ag (91::(m++[93]))=o at*;generalize aG m=t at*;generalize aU t=b at*;have uV:n<=1000000:=ah;have hn4:2<=n:=ah;clear hl hsz gF e2 g g0 h1 htl hml;go_in;go_wp2_with fail;refine aQ (P1.oo _) fun w1 E=>?_
  go_wp2_with (first|(go_at_call 99;refine aK (P2.oo _) ?_)|fail)
  refine aQ (TR.oo _) fun w2 E2=>?_
  have E:=aI E E2;obtain⟨⟨d0,d1,d2,d3,d4⟩,hf,aA,B⟩:=yE E;clear E
  go_wp2_with (go_at_call 52;refine aK (NM.oo _) ?_)
  exact aZ (by simp[results,results49,go_sem,d0,d1,d2,d3,d4,dP]<;>rfl) rfl ⟨⟨-1,0,t,[],0⟩,b,rfl,HO.oo,Dx B iQ⟩
 have hno:=af h1
 have HG:=af g0;have CU:=af (fun w (g:Gl w)=>Uz s 58 ah w);rw[NK]at CU
 have hb:((s.head?==some 91)=false)\/((s.head?==some 91)=true/\(s.getLast?==some 93)=false):=by
  cases h:s.head?==some 91 with
  |false=>exact .inl rfl
  | true=>
    refine .inr ⟨rfl,?_⟩;cases h':s.getLast?==some 93 with
    |false=>rfl
    |true=>exact absurd ⟨by simpa using h,by simpa using h'⟩ h1
 generalize (s.head?==some 91)=b1 at*;generalize (s.getLast?==some 93)=b2 at*
 by_cases uL:(58:UInt8)∈s
 ·rw[ak uL]at CU
  simp only at CU;obtain⟨x,hx⟩:=aF (s.takeWhile (· != 58));obtain⟨y,hy⟩:=aF ((s.dropWhile (· != 58)).drop 1);have hxl:x.length<=262144:=by rw[<-hx];have:=ud (· != 58) s;omega
  have Dh:y.length<=262144:=by rw[<-hy];have:=(iu (fun x=>x != 58) (l:=s)).length_le;simp;omega
  have HK:=af (fun(n:Int) (k:Nat) (b1 b2:Bool) h3 h4=>ayB (ag:=ag) (s:=s) (n:=n) (k:=k) (b1:=b1) (b2:=b2) hno.oo uL h3 h4);rw[hx,hy]at CU HK;have TX:=af (fun w=>tZ x ah w);have TY:=af (fun w=>tZ y ah w);have NX:=af (fun w g=>aiB (aG x) (by have:=lZ x;omega) w g);have RY:=af (fun w g=>avS ag ha (aG y) w g);generalize aG x=QU at*;generalize aG y=DS at*;generalize mQ ag s=o at*;generalize bN QU=on at*;generalize dX ag DS=ok0 at*;clear hl hsz h1 g g0 hno uL hx hy hxl Dh;rcases hb with rfl|⟨rfl,rfl⟩
  ·go_in
   go_wp2_with fail;refine aQ (P1.oo _) fun w1 E=>?_
   have g1:=HG.oo.below E;go_wp2_with fail;refine aQ (CU.oo _ g1) fun w2 E2=>?_
   have E:=aI E E2;clear g1 E2;go_wp2_with fail;refine aQ (TX.oo _) fun w3 E3=>?_
   have E:=aI E E3;have g1:=HG.oo.below E;go_wp2_with fail;refine(NX.oo _ g1).mono ?_;rintro e w4 ⟨n,bn,rfl,HN,E4⟩;have E:=aI E E4;clear g1 E3 E4;go_wp2_with fail;refine aQ (TY.oo _) fun w5 E5=>?_
   have E:=aI E E5;have g1:=HG.oo.below E;go_wp2_with fail;refine(RY.oo _ g1).mono ?_;rintro e w6 ⟨k,Jn,rfl,HR,rfl⟩;have HO:=af (HK.oo n k bn Jn HN HR);clear g1 E5 HN HR;cases bn
   ·skip
    exact N0
   cases Jn
   ·skip
    exact N0
   simp only[yc]at HO
   by_cases h0:0<=n
   ·have z0:decide (0<=n)=true:=aS h0
    exact acn
   have z0:decide (0<=n)=false:=aS h0
   exact aco
  go_in
  go_wp2_with fail;refine aQ (P1.oo _) fun w1 E=>?_
  have g1:=HG.oo.below E
  go_wp2_with (first|(go_at_call 99;refine aK (P2.oo _) ?_)|fail)
  refine aQ (CU.oo _ g1) fun w2 E2=>?_
  have E:=aI E E2;clear g1 E2;go_wp2_with fail;refine aQ (TX.oo _) fun w3 E3=>?_
  have E:=aI E E3;have g1:=HG.oo.below E;go_wp2_with fail;refine(NX.oo _ g1).mono ?_;rintro e w4 ⟨n,bn,rfl,HN,E4⟩;have E:=aI E E4;clear g1 E3 E4;go_wp2_with fail;refine aQ (TY.oo _) fun w5 E5=>?_
  have E:=aI E E5;have g1:=HG.oo.below E;go_wp2_with fail;refine(RY.oo _ g1).mono ?_;rintro e w6 ⟨k,Jn,rfl,HR,rfl⟩;have HO:=af (HK.oo n k bn Jn HN HR);clear g1 E5 HN HR;cases bn
  ·skip
   exact N0
  cases Jn
  ·skip
   exact N0
  simp only[yc]at HO
  by_cases h0:0<=n
  ·have z0:decide (0<=n)=true:=aS h0
   exact acn
  have z0:decide (0<=n)=false:=aS h0
  exact aco
 rw[ai uL]at CU
 simp only at CU;have HO:=af (ayA (ag:=ag) hno.oo uL);have NM:=af (fun w=>Yk s ah w);generalize mQ ag s=o at*;generalize aU s=b at*;clear hl hsz h1 g g0 hno uL;rcases hb with rfl|⟨rfl,rfl⟩
 ·go_in
  go_wp2_with fail;refine aQ (P1.oo _) fun w1 E=>?_
  have g1:=HG.oo.below E;go_wp2_with fail;refine aQ (CU.oo _ g1) fun w2 E2=>?_
  have E:=aI E E2;clear g1 E2;obtain⟨⟨d0,d1,d2,d3,d4⟩,hf,aA,B⟩:=yE E;clear E
  go_wp2_with (go_at_call 52;refine aK (NM.oo _) ?_)
  exact acp
 go_in
 go_wp2_with fail;refine aQ (P1.oo _) fun w1 E=>?_
 have g1:=HG.oo.below E
 go_wp2_with (first|(go_at_call 99;refine aK (P2.oo _) ?_)|fail)
 refine aQ (CU.oo _ g1) fun w2 E2=>?_
 have E:=aI E E2;clear g1 E2;obtain⟨⟨d0,d1,d2,d3,d4⟩,hf,aA,B⟩:=yE E;clear E
 go_wp2_with (go_at_call 52;refine aK (NM.oo _) ?_)
 exact acp
def mF(o:Option bF)(w:aAX)(e:aBp)(w':aAX):Prop:=aAW w.heap.size w w'/\match o with
 |some x=>e= .returned (.tuple #[od x,.int .i64 0])
 |none=>e= .returned (.tuple #[od ⟨0,0,[],[],0⟩,.int .i64 140])
theorem mF.no(ho:o=none)(h:e= .returned (.tuple #[od ⟨0,0,[],[],0⟩,.int .i64 140]))(hb:aAW w.heap.size w w'):mF o w e w':=by subst ho;exact⟨hb,h⟩
theorem mF.yes(ho:o=some x)(h:e= .returned (.tuple #[od x,.int .i64 0]))(hb:aAW w.heap.size w w'):mF o w e w':=by subst ho;exact⟨hb,h⟩
theorem ayn(h:mQ ag s=some x):x.bH=[]/\x.n=0:=by
 unfold mQ at h
 split at h
 ·split at h
  ·cases h;exact⟨rfl,rfl⟩
  cases h
 split at h
 ·split at h
  ·split at h
   ·cases h;exact⟨rfl,rfl⟩
   cases h
  cases h
 split at h
 ·cases h;exact⟨rfl,rfl⟩
 cases h
theorem QF{n:Nat}(h:aAW n w w')(hb:n<=b)(j:Nat)(v:Value):aAW n w (w'.setCell ⟨b,j,none⟩ v):=h.setCell hb _
theorem apM(h: ¬262144<s.length)(h2:(61:UInt8)∈s):jr ag s=qj (mQ ag (aG (s.takeWhile (· != 61)))) (fA (aG ((s.dropWhile (· != 61)).drop 1))):=by
 unfold jr;rw[ai (by rintro(a|a);exact h a;exact a h2)]
theorem azk(h:de (bN v) n true):fA v=some ([],n):=by unfold fA;rw[h.yes]
theorem azl(h:de (bN v) n false)(h2:aU v=true):fA v=some (v,0):=by unfold fA;rw[h.no];exact ak h2
theorem azm(h:de (bN v) n false)(h2:aU v=false):fA v=none:=by unfold fA;rw[h.no];exact ai (by rw[h2];decide)
theorem afI{l:Tx}(h:o=some x):qj o (some (l,n))=some ⟨x.aO,x.aR,x.aj,l,n⟩:=by subst h;rfl
theorem avO(ag:Int)(ha:bD ag=true)(s:Tx)(hl:s.length<=9223372036854775807)(w:aAX)(g:Gl w):aA7 prog 21 #[.int .i64 ag,.string (tx s)] w (mF (jr ag s) w):=by
 have hsz:=bC s;have KN:=af (fun w=>aiA ag w);have HA:=af ha;have HG:=af (g.below (al w LZ));have CU:=af (fun w (g:Gl w)=>Uz s 61 hl w);rw[NK]at CU;obtain⟨n,hn⟩:=aF ((tx s).size)
 by_cases hb:262144<s.length\/(61:UInt8)∉s
 ·have HP:=af (show jr ag s=none by unfold jr;rw[ak hb])
  have z:decide ((262144:Int)<(n:Int))=true\/decide ((262144:Int)<(n:Int))=false/\(if(61:UInt8)∈s then(s.takeWhile (· != 61),(s.dropWhile (· != 61)).drop 1,true)else(s,[],false)).2.2=false:=by
   by_cases h3:262144<s.length
   ·exact .inl aC
   exact .inr ⟨ aC,by rw[ai (by rcases hb with h|h;exact absurd h h3;exact h)]⟩
  generalize (if(61:UInt8)∈s then(s.takeWhile (· != 61),(s.dropWhile (· != 61)).drop 1,true)else(s,[],false))=cu at*;obtain⟨c1,c2,c3⟩:=cu;simp only at CU z;generalize jr ag s=o at*;clear hl hsz hb g ha;rcases z with z|⟨z,rfl⟩
  all_goals
   go_in
   go_wp2_with (first|(go_at_call 42;refine aK (KN.oo _) ?_;rw[HA.oo])|fail)
   refine aQ (CU.oo _ HG.oo) fun w1 E=>?_
   obtain⟨⟨d0,d1,d2,d3,d4⟩,hf,aA,B⟩:=yE E;clear E;go_wp2;exact acq
 have h3: ¬262144<s.length:=fun h=>hb (.inl h)
 have AD:(61:UInt8)∈s:=MO fun h=>hb (.inr h)
 rw[ak AD]at CU;simp only at CU;obtain⟨x,hx⟩:=aF (s.takeWhile (· != 61));obtain⟨y,hy⟩:=aF ((s.dropWhile (· != 61)).drop 1);have hxl:x.length<=s.length:=by rw[<-hx];exact ud (· != 61) s
 have Dh:y.length<=s.length:=by rw[<-hy];have:=(iu (fun x=>x != 61) (l:=s)).length_le;simp;omega
 have HI:=af (apM (ag:=ag) h3 AD);rw[hx,hy]at CU HI;have z:decide ((262144:Int)<(n:Int))=false:=aC;have TX:=af (fun w=>tZ x ah w);have TH:=af (fun w g=>avV ag ha (aG x) (by have:=lZ x;omega) w g);have TP:=af (fun o=>ayn (ag:=ag) (s:=aG x) (x:=o));have TY:=af (fun w=>tZ y ah w);have NY:=af (fun w g=>aiB (aG y) (by have:=lZ y;omega) w g);have MY:=af (fun w=>Yk (aG y) (by have:=lZ y;omega) w);have V1:=af (fun n=>azk (v:=aG y) (n:=n));have V2:=af (fun n=>azl (v:=aG y) (n:=n));have V3:=af (fun n=>azm (v:=aG y) (n:=n));generalize aG x=QU at*;generalize aG y=DS at*;generalize jr ag s=o at*;generalize mQ ag QU=ot at*;generalize fA DS=ov at*;generalize bN DS=on at*;clear hl hsz hb AD hx hy hxl Dh h3 g ha;go_in
 go_wp2_with (first|(go_at_call 42;refine aK (KN.oo _) ?_;rw[HA.oo])|fail)
 refine aQ (CU.oo _ HG.oo) fun w1 E=>?_
 go_wp2_with fail;refine aQ (TX.oo _) fun w2 E2=>?_
 have E:=aI E E2;have g1:=HG.oo.below E;go_wp2_with fail;refine(TH.oo _ g1).mono ?_;rintro e w3 ⟨⟨th,rg,lc,vl,vn⟩,ok,rfl,HT,E3⟩;have E:=aI E E3;clear g1 E2 E3;cases ok
 ·have HP:=af (show o=none by rw[HI.oo,HT.no];exact ql _)
  clear HT;obtain⟨⟨d0,d1,d2,d3,d4⟩,hf,aA,B⟩:=yE E;clear E;go_wp2;exact aZ (by simp[results,results21,go_sem,d0,d1,d2,d3,d4,aA,dP]) rfl (mF.no HP.oo rfl cG)
 have HT:=af HT.yes
 obtain⟨e1,e2⟩:=TP.oo _ HT.oo;simp only at e1 e2;subst e1;subst e2;have hw3:=E.size;have E:=af E;go_wp2_with fail;refine aQ (TY.oo _) fun w4 E4=>?_
 have XB:=(aW.new w3 #[.int .i64 th,.int .i64 rg,.string (tx lc),.string ⟨#[]⟩,.int .i64 0] 56).below E4;have XF:=fun j=>(fW E4 (b:=w3.heap.size) aq j).trans (cJ w3 _ _ j)
 have EE:=af (aI E.oo ((al w3 _).trans (E4.mono aq)));have g1:=HG.oo.below EE.oo;have XL:w3.heap.size<w4.heap.size:=XB.1;clear E4;have XB:=af XB;have XF:=af XF;go_wp2_with fail;refine(NY.oo _ g1).mono ?_;rintro e w5 ⟨v,bn,rfl,HN,E5⟩;have XB:=XB.oo.below E5;have XF:=fun j=>(fW E5 XL j).trans (XF.oo j)
 have E:=aI EE.oo E5;have XL:w3.heap.size<w5.heap.size:=XB.1;obtain⟨⟨d0,d1,d2,d3,d4⟩,hf,aA,B⟩:=yE E;have aN:w.heap.size≠w3.heap.size:=by simp at hw3;omega
 have CZ:=aN.symm;obtain⟨q0,q1,q2,q3,q4⟩:=XB.ji;have BW:w.heap.size<=w3.heap.size:=by simp at hw3;omega
 clear g1 E XB hw3;cases bn
 ·obtain⟨b,hb⟩:=aF (aU DS)
  have ZX:=af (fun h=>V2.oo _ HN h);have ZY:=af (fun h=>V3.oo _ HN h);rw[hb]at MY ZX ZY;clear HN hb;cases b
  ·have HP:=af (show o=none by rw[HI.oo,ZY.oo rfl];exact AR _)
   go_wp2_with (go_at_call 52;refine aK (MY.oo _) ?_)
   exact acq
  have HP:=af (show o=some ⟨th,rg,lc,DS,0⟩ by rw[HI.oo,ZX.oo rfl,afI HT.oo])
  go_wp2_with (go_at_call 52;refine aK (MY.oo _) ?_)
  exact aZ (by simp[results,results21,go_sem,d0,d1,d2,d3,d4]) rfl (mF.yes HP.oo rfl (by
   (repeat first|with_reducible refine QF ?_ (aX _) _ _|with_reducible refine QF ?_ BW _ _)
   exact B))
 have HP:=af (show o=some ⟨th,rg,lc,[],v⟩ by rw[HI.oo,V1.oo _ HN,afI HT.oo])
 clear HN;go_wp2
 exact aZ (by simp[results,results21,go_sem,d0,d1,d2,d3,d4,dP]) rfl (mF.yes HP.oo rfl (by
  (repeat first|with_reducible refine QF ?_ (aX _) _ _|with_reducible refine QF ?_ BW _ _)
  exact B))
abbrev Q8:Obj:=.cells #[.int .i64 0,.int .i64 0,.int .i64 0,.int .i64 0,.int .i64 0,.string ⟨#[]⟩,.string ⟨#[]⟩,.int .i64 0] 50
theorem aor(E:aAW (w.alloc Q8).heap.size (w.alloc Q8) w1):(w1.cell? ⟨w.heap.size,0,none⟩=some (.int .i64 0)/\w1.cell? ⟨w.heap.size,1,none⟩=some (.int .i64 0)/\w1.cell? ⟨w.heap.size,2,none⟩=some (.int .i64 0)/\w1.cell? ⟨w.heap.size,3,none⟩=some (.int .i64 0)/\w1.cell? ⟨w.heap.size,4,none⟩=some (.int .i64 0)/\w1.cell? ⟨w.heap.size,5,none⟩=some (.string ⟨#[]⟩)/\w1.cell? ⟨w.heap.size,6,none⟩=some (.string ⟨#[]⟩)/\w1.cell? ⟨w.heap.size,7,none⟩=some (.int .i64 0))/\(∀j,w1.frozen? ⟨w.heap.size,j,none⟩=false)/\w.heap.size<w1.heap.size/\aAW w.heap.size w w1:=by
 have b0:=(aW.new w #[.int .i64 0,.int .i64 0,.int .i64 0,.int .i64 0,.int .i64 0,.string ⟨#[]⟩,.string ⟨#[]⟩,.int .i64 0] 50).below E;refine⟨⟨b0.get 0 _ rfl,b0.get 1 _ rfl,b0.get 2 _ rfl,b0.get 3 _ rfl,b0.get 4 _ rfl,b0.get 5 _ rfl,b0.get 6 _ rfl,b0.get 7 _ rfl⟩,fun j=>(fW E (b:=w.heap.size) aq j).trans (cJ w _ _ j),?_,(al w Q8).trans (E.mono aq)⟩;have:=E.size;exact Cy
theorem avQ(ag:Int)(ha:bD ag=true)(s:Tx)(w:aAX)(g:Gl w):aA7 prog 19 #[.int .i64 ag,.string (tx s)] w (dr (oI ag s) w):=by
 have KN:=af (fun w=>aiA ag w);have HA:=af ha;have g0:=g.below (al w Q8);unfold oI;rcases TB ha with rfl|rfl
 ·rw[ak rfl]
  have PX:=af (ap4 s _ g0);generalize fG s=r at*;unfold dr at*;generalize Ve r=er at*;generalize WJ r=I at*;obtain⟨op,d,a,b,ax,aj,av,az⟩:=I;go_in
  go_wp2_with (first|(go_at_call 42;refine aK (KN.oo _) ?_;rw[HA.oo])|fail)
  refine aQ PX.oo fun w1 E=>?_
  exact acr
 rw[ai ay]
 have PX:=af (atU s _ g0);generalize eN s=r at*;unfold dr at*;generalize Ve r=er at*;generalize WJ r=I at*;obtain⟨op,d,a,b,ax,aj,av,az⟩:=I;go_in
 go_wp2_with (first|(go_at_call 42;refine aK (KN.oo _) ?_;rw[HA.oo])|fail)
 refine aQ PX.oo fun w1 E=>?_
 exact acr
def IA(o:Option aL)(w:aAX)(e:aBp)(w':aAX):Prop:= ∃i ok,e= .returned (.tuple #[vI i,.bool ok])/\de o i ok/\aAW w.heap.size w w'
theorem ah6(x y z:Tx):gp x y z=if(gp x y z).isSome=true then some y else none:=by
 unfold gp;split<;>rfl
theorem PM(p q r x:Tx):eY [p,q,r,[44],x]=match gX x with
 |some n=>(gp p q r).map fun x=>⟨1,0,0,0,n,x,[],0⟩
 | none=>match gp p q r,dK x with
   |some x,some r=>some ⟨2,0,r,0,0,x,[],0⟩
   |_,_=>none:=by
 rw[eY,ak rfl];cases gX x<;>rfl
abbrev kZ:Obj:=.cells #[.int .i64 0,.int .i64 0,.int .i64 0,.int .i64 0,.int .i64 0,.string ⟨#[]⟩,.string ⟨#[]⟩,.int .i64 0] 50
theorem tY(E:aAW w.heap.size w w1)(hg:w1.grownBy w2 (aBf w.heap.size)):aAW w.heap.size w w2:=E.grown hg E.size (fun r hr=>by simp at hr;omega)
theorem cO.take3{q r:Tx}{l:List Tx}(h:cO w a (p::q::r::l)):cO w a [p,q,r]:=⟨by have:=h.row.take 3;simpa using this,aq⟩
theorem auE(p q r x:Tx)(hq:q.length<=262144)(hx:x.length<=262144)(a:Option Addr)(c:Nat)(hc:5<=c)(w:aAX)(T:cO w a [p,q,r,[44],x])(g:Gl w):aA7 prog 105 #[.slice a 5 c] w (IA (eY [p,q,r,[44],x]) w):=by
 have E0:=al w kZ;have T1:=T.below E0;have HG:=af (g.below E0);have i3: ∀w',(aA2 42 (.slice a 5 c) (.int .i64 3)).run prog w'=_:=T1.idx 3 aq c;have i4: ∀w',(aA2 42 (.slice a 5 c) (.int .i64 4)).run prog w'=_:=T1.idx 4 aq c;have c3:(w.alloc kZ).cell? ⟨bk a,fo a+3,none⟩=some (.string (tx [44])):=T1.cell 3 aq;have ct: ∀w',(aA1 42 (.slice a 5 c) none (some (.int .i64 3)) none).run prog w'=_:=ajr jR a 5 c 3 ah .i64;have PL:=af (ait p q r ah a c (w.alloc kZ) T1.take3);have HT:=af T1;obtain⟨b1,eW⟩:=aF ((gp p q r).isSome);have HP:=af (show gp p q r=if b1=true then some q else none by rw[<-eW];exact ah6 p q r);rw[eW]at PL;have z44:((tx [44]).toList==[44])=true:=by rw[bU];decide
 generalize tx [44]=u44 at*;go_in;go_wp2_with fail;refine PL.oo.mono ?_;rintro e w1 ⟨rfl,q1⟩;have E1:=QW.below (w:=w.alloc kZ) (w':=w1) q1;have T2:=HT.oo.below E1;have c4:w1.cell? ⟨bk a,fo a+4,none⟩=some (.string (tx x)):=T2.cell 4 aq;have GV:=af (fun(w2:aAX) (g:Gl w2)=>ais x ah w2 g);have g1:=HG.oo.below E1;have nE:=af E1;go_wp2_with fail;refine(GV.oo _ g1).mono ?_;rintro e w2 ⟨v,ok,rfl,HO,E2⟩;have HO:=af HO;have EA:=af (aI nE.oo E2);cases ok
 ·have HV:=af HO.oo.no
  have T3:=HT.oo.below EA.oo;have c4:w2.cell? ⟨bk a,fo a+4,none⟩=some (.string (tx x)):=T3.cell 4 aq;have RO:=fun w=>Yf x w
  cases hr:dK x with
  | none=>
    rw[hr]at RO;have RO:=af (show ∀w,aA7 prog _ _ w (bg w (.tuple #[.int .i64 0,.int .i64 90]))from RO);have HR:=af hr;cases b1
    ·go_wp2_with fail
     refine aQ (RO.oo _) fun w3 E3=>?_
     have EA:=af (aI EA.oo E3);have b0:=(aW.new w #[.int .i64 0,.int .i64 0,.int .i64 0,.int .i64 0,.int .i64 0,.string ⟨#[]⟩,.string ⟨#[]⟩,.int .i64 0] 50).below EA.oo;obtain⟨p0,p1,p2,p3,p4,p5,p6,p7⟩:=b0.jj;have f0:=fun j=>(fW EA.oo (b:=w.heap.size) aq j).trans (cJ w _ _ j)
     have gi:w.heap.size<w3.heap.size:=by have:=EA.oo.size;simp at this;omega
     exact acs
    go_wp2_with fail
    refine aQ (RO.oo _) fun w3 E3=>?_
    have EA:=af (aI EA.oo E3);have b0:=(aW.new w #[.int .i64 0,.int .i64 0,.int .i64 0,.int .i64 0,.int .i64 0,.string ⟨#[]⟩,.string ⟨#[]⟩,.int .i64 0] 50).below EA.oo;obtain⟨p0,p1,p2,p3,p4,p5,p6,p7⟩:=b0.jj;have f0:=fun j=>(fW EA.oo (b:=w.heap.size) aq j).trans (cJ w _ _ j)
    have gi:w.heap.size<w3.heap.size:=by have:=EA.oo.size;simp at this;omega
    exact acs
  | some k=>
    rw[hr]at RO;have RO:=af (show ∀w,aA7 prog _ _ w (bg w (.tuple #[.int .i64 k,.int .i64 0]))from RO);have HR:=af hr;cases b1
    ·go_wp2_with fail
     refine aQ (RO.oo _) fun w3 E3=>?_
     have EA:=af (aI EA.oo E3);have b0:=(aW.new w #[.int .i64 0,.int .i64 0,.int .i64 0,.int .i64 0,.int .i64 0,.string ⟨#[]⟩,.string ⟨#[]⟩,.int .i64 0] 50).below EA.oo;obtain⟨p0,p1,p2,p3,p4,p5,p6,p7⟩:=b0.jj;have f0:=fun j=>(fW EA.oo (b:=w.heap.size) aq j).trans (cJ w _ _ j)
     have gi:w.heap.size<w3.heap.size:=by have:=EA.oo.size;simp at this;omega
     go_wp2;exact aZ (by simp[results,results105,go_sem,p0,p1,p2,p3,p4,p5,p6,p7,dP]<;>rfl) rfl ⟨⟨2,0,k,0,0,q,[],0⟩,false,rfl,(by unfold de;rw[PM,HV.oo,HP.oo,HR.oo];rfl),tY ((al w kZ).trans (EA.oo.mono aq)) iQ⟩
    go_wp2_with fail
    refine aQ (RO.oo _) fun w3 E3=>?_
    have EA:=af (aI EA.oo E3);have b0:=(aW.new w #[.int .i64 0,.int .i64 0,.int .i64 0,.int .i64 0,.int .i64 0,.string ⟨#[]⟩,.string ⟨#[]⟩,.int .i64 0] 50).below EA.oo;obtain⟨p0,p1,p2,p3,p4,p5,p6,p7⟩:=b0.jj;have f0:=fun j=>(fW EA.oo (b:=w.heap.size) aq j).trans (cJ w _ _ j)
    have gi:w.heap.size<w3.heap.size:=by have:=EA.oo.size;simp at this;omega
    go_wp2;exact aZ (by simp[results,results105,go_sem,p0,p1,p2,p3,p4,p5,p6,p7,dP]<;>rfl) rfl ⟨⟨2,0,k,0,0,q,[],0⟩,true,rfl,(by unfold de;rw[PM,HV.oo,HP.oo,HR.oo];rfl),tY ((al w kZ).trans (EA.oo.mono aq)) iQ⟩
 have HV:=af HO.oo.yes
 have b0:=(aW.new w #[.int .i64 0,.int .i64 0,.int .i64 0,.int .i64 0,.int .i64 0,.string ⟨#[]⟩,.string ⟨#[]⟩,.int .i64 0] 50).below EA.oo;obtain⟨p0,p1,p2,p3,p4,p5,p6,p7⟩:=b0.jj;have f0:=fun j=>(fW EA.oo (b:=w.heap.size) aq j).trans (cJ w _ _ j)
 have gi:w.heap.size<w2.heap.size:=by have:=EA.oo.size;simp at this;omega
 go_wp2;exact aZ (by simp[results,results105,go_sem,p0,p1,p2,p3,p4,p5,p6,p7,dP]<;>rfl) rfl ⟨⟨1,0,0,0,v,q,[],0⟩,b1,rfl,(by unfold de;rw[PM,HV.oo,HP.oo];cases b1<;>rfl),tY ((al w kZ).trans (EA.oo.mono aq)) iQ⟩
theorem arF(p r d x:Tx)(hd:d≠[44]):eY [p,[44],r,d,x]=match dK p,gp r d x with
 |some r,some x=>some ⟨3,r,0,0,0,x,[],0⟩
 |_,_=>none:=by
 rw[eY,ai hd,ak rfl];cases dK p<;>cases gp r d x<;>rfl
theorem cO.anx{q:Tx}{l:List Tx}(h:cO w a (p::q::l))(c:Nat)(hc:c≠2):cO w (mK a (c=2) (2*1)) l:=⟨by have:=h.row.drop (2*1) (c=2) (fun h=>absurd h hc);simpa using this,by have:=h.len;simp at this;omega⟩
theorem auF(p r d x:Tx)(hd:d≠[44])(hq:d.length<=262144)(a:Option Addr)(c:Nat)(hc:5<=c)(w:aAX)(T:cO w a [p,[44],r,d,x]):aA7 prog 105 #[.slice a 5 c] w (IA (eY [p,[44],r,d,x]) w):=by
 have E0:=al w kZ;have T1:=T.below E0;have i0: ∀w',(aA2 42 (.slice a 5 c) (.int .i64 0)).run prog w'=_:=T1.idx 0 aq c;have i1: ∀w',(aA2 42 (.slice a 5 c) (.int .i64 1)).run prog w'=_:=T1.idx 1 aq c;have i3: ∀w',(aA2 42 (.slice a 5 c) (.int .i64 3)).run prog w'=_:=T1.idx 3 aq c;have c0:(w.alloc kZ).cell? ⟨bk a,fo a+0,none⟩=some (.string (tx p)):=T1.cell 0 aq;have c1:(w.alloc kZ).cell? ⟨bk a,fo a+1,none⟩=some (.string (tx [44])):=T1.cell 1 aq;have c3:(w.alloc kZ).cell? ⟨bk a,fo a+3,none⟩=some (.string (tx d)):=T1.cell 3 aq;simp only[gK]at i0 c0;have ct: ∀w',(aA1 42 (.slice a 5 c) (some (.int .i64 2)) none none).run prog w'=_:=Qx jR a 5 c 2 ah .i64;have HT:=af T1;have zd:=eD _ _ hd;obtain⟨b1,eW⟩:=aF ((gp r d x).isSome);have HP:=af (show gp r d x=if b1=true then some d else none by rw[<-eW];exact ah6 r d x);have PL:=af (fun(w2:aAX) (T:cO w2 a [p,[44],r,d,x])=>ait r d x ah (mK a (c=2) (2*1)) (c-2) w2 (T.anx c ah));rw[eW]at PL;have z44:((tx [44]).toList==[44])=true:=by rw[bU];decide
 generalize tx [44]=u44 at*;have RO:=fun w=>Yf p w
 have HM:=af (arF p r d x hd);generalize mK a (c=2) (2*1)=a2 at*;have e52:5-2=3:=rfl;cases hr:dK p with
 | none=>
   rw[hr]at RO;have RO:=af (show ∀w,aA7 prog _ _ w (bg w (.tuple #[.int .i64 0,.int .i64 90]))from RO);have HR:=af hr;go_in;go_wp2_with fail;refine aQ (RO.oo _) fun w1 E1=>?_
   have nE:=af E1;have PL:=af (PL.oo w1 (HT.oo.below E1));go_wp2_with fail;refine PL.oo.mono ?_;rintro e w2 ⟨rfl,q2⟩;have EA:=af (aI nE.oo (QW.below (w:=w1) (w':=w2) q2));cases b1
   ·skip
    have b0:=(aW.new w #[.int .i64 0,.int .i64 0,.int .i64 0,.int .i64 0,.int .i64 0,.string ⟨#[]⟩,.string ⟨#[]⟩,.int .i64 0] 50).below EA.oo;obtain⟨p0,p1,p2,p3,p4,p5,p6,p7⟩:=b0.jj;have f0:=fun j=>(fW EA.oo (b:=w.heap.size) aq j).trans (cJ w _ _ j)
    have gi:w.heap.size<w2.heap.size:=by have:=EA.oo.size;simp at this;omega
    exact acu
   skip
   have b0:=(aW.new w #[.int .i64 0,.int .i64 0,.int .i64 0,.int .i64 0,.int .i64 0,.string ⟨#[]⟩,.string ⟨#[]⟩,.int .i64 0] 50).below EA.oo;obtain⟨p0,p1,p2,p3,p4,p5,p6,p7⟩:=b0.jj;have f0:=fun j=>(fW EA.oo (b:=w.heap.size) aq j).trans (cJ w _ _ j)
   have gi:w.heap.size<w2.heap.size:=by have:=EA.oo.size;simp at this;omega
   exact acu
 | some k=>
   rw[hr]at RO;have RO:=af (show ∀w,aA7 prog _ _ w (bg w (.tuple #[.int .i64 k,.int .i64 0]))from RO);have HR:=af hr;go_in;go_wp2_with fail;refine aQ (RO.oo _) fun w1 E1=>?_
   have nE:=af E1;have PL:=af (PL.oo w1 (HT.oo.below E1));go_wp2_with fail;refine PL.oo.mono ?_;rintro e w2 ⟨rfl,q2⟩;have EA:=af (aI nE.oo (QW.below (w:=w1) (w':=w2) q2));cases b1
   ·skip
    have b0:=(aW.new w #[.int .i64 0,.int .i64 0,.int .i64 0,.int .i64 0,.int .i64 0,.string ⟨#[]⟩,.string ⟨#[]⟩,.int .i64 0] 50).below EA.oo;obtain⟨p0,p1,p2,p3,p4,p5,p6,p7⟩:=b0.jj;have f0:=fun j=>(fW EA.oo (b:=w.heap.size) aq j).trans (cJ w _ _ j)
    have gi:w.heap.size<w2.heap.size:=by have:=EA.oo.size;simp at this;omega
    go_wp2;exact aZ (by simp[results,results105,go_sem,p0,p1,p2,p3,p4,p5,p6,p7,dP]<;>rfl) rfl ⟨⟨3,k,0,0,0,d,[],0⟩,false,rfl,(by unfold de;rw[HM.oo,HP.oo,HR.oo];rfl),tY ((al w kZ).trans (EA.oo.mono aq)) iQ⟩
   skip
   have b0:=(aW.new w #[.int .i64 0,.int .i64 0,.int .i64 0,.int .i64 0,.int .i64 0,.string ⟨#[]⟩,.string ⟨#[]⟩,.int .i64 0] 50).below EA.oo;obtain⟨p0,p1,p2,p3,p4,p5,p6,p7⟩:=b0.jj;have f0:=fun j=>(fW EA.oo (b:=w.heap.size) aq j).trans (cJ w _ _ j)
   have gi:w.heap.size<w2.heap.size:=by have:=EA.oo.size;simp at this;omega
   go_wp2;exact aZ (by simp[results,results105,go_sem,p0,p1,p2,p3,p4,p5,p6,p7,dP]<;>rfl) rfl ⟨⟨3,k,0,0,0,d,[],0⟩,true,rfl,(by unfold de;rw[HM.oo,HP.oo,HR.oo];rfl),tY ((al w kZ).trans (EA.oo.mono aq)) iQ⟩
theorem arH(h3:L.length≠3)(h5:L.length≠5):eY L=none:=by
 match L,h3,h5 with
 |[],_,_=>rfl
 |[_],_,_=>rfl
 |[_,_],_,_=>rfl
 |[_,_,_],h,_=>exact absurd rfl h
 |[_,_,_,_],_,_=>rfl
 |[_,_,_,_,_],_,h=>exact absurd rfl h
 |_::_::_::_::_::_::_,_,_=>rfl
theorem arJ(h:L.length=5->L[3]? ≠some [44])(h2:L.length<3\/L[1]? ≠some [44]):eY L=none:=by
 match L,h,h2 with
 |[],_,_=>rfl
 |[_],_,_=>rfl
 |[_,_],_,_=>rfl
 | [a,b,c],_,h2=>
   rcases h2 with h2|h2
   ·simp at h2
   simp only[eY];rw[ai (fun e=>h2 (by rw[e];rfl))]
 |[_,_,_,_],_,_=>rfl
 | [a,b,c,d,e],h,h2=>
   rcases h2 with h2|h2
   ·exact absurd h2 aq
   simp only[eY];rw[ai (fun e=>h rfl (by rw[e];rfl)),ai (fun e=>h2 (by rw[e];rfl))]
 |_::_::_::_::_::_::_,_,_=>rfl
theorem arG{r:Tx}:eY [p,[44],r]=match dK p,gX r with
 |some r,some n=>some ⟨4,r,0,0,n,[],[],0⟩
 |_,_=>none:=by
 simp only[eY];rw[ak trivial];cases dK p<;>cases gX r<;>rfl
theorem Yd(L:List Tx)(h:L.length=5->L[3]? ≠some [44])(h2:L.length<3\/L[1]? ≠some [44])(a:Option Addr)(c:Nat)(w:aAX)(T:cO w a L)(hn:L.length<=1000000):aA7 prog 105 #[.slice a L.length c] w (IA (eY L) w):=by
 have T1:=T.below (al w kZ);have HM:=af (show de (eY L) ⟨0,0,0,0,0,[],[],0⟩ false by unfold de;rw[arJ h h2];rfl);obtain⟨n,hl⟩:=aF L.length
 by_cases h5:n=5
 ·obtain⟨d,hd⟩: ∃d,L[3]? =some d:=⟨_,aV ah⟩
  obtain⟨q,hq⟩: ∃q,L[1]? =some q:=⟨_,aV ah⟩;have zd:=eD d [44] (fun e=>h ah (by rw[hd,e]))
  have zq:=eD q [44] (fun e=>by
   rcases h2 with h2|h2
   ·omega
   exact h2 (by rw[hq,e]))
  have i3: ∀w',(aA2 42 (.slice a L.length c) (.int .i64 3)).run prog w'=_:=T1.idx 3 ah c;have i1: ∀w',(aA2 42 (.slice a L.length c) (.int .i64 1)).run prog w'=_:=T1.idx 1 ah c;have c3:=T1.cell 3 ah;rw[(bt.1 hd).2]at c3;have c1:=T1.cell 1 ah;rw[(bt.1 hq).2]at c1;rw[hl,h5]at i3 i1⊢;have b0:=aW.new w #[.int .i64 0,.int .i64 0,.int .i64 0,.int .i64 0,.int .i64 0,.string ⟨#[]⟩,.string ⟨#[]⟩,.int .i64 0] 50;obtain⟨p0,p1,p2,p3,p4,p5,p6,p7⟩:=b0.jj;have f0:=fun j=>cJ w #[.int .i64 0,.int .i64 0,.int .i64 0,.int .i64 0,.int .i64 0,.string ⟨#[]⟩,.string ⟨#[]⟩,.int .i64 0] 50 j
  clear b0;clear T T1 hd hq h h2 hl h5 hn;exact acv
 by_cases h3:n<3
 ·have z5:((n:Int)==5)=false:=aC;have z3:decide ((n:Int)<3)=true:=aC;rw[hl];have b0:=aW.new w #[.int .i64 0,.int .i64 0,.int .i64 0,.int .i64 0,.int .i64 0,.string ⟨#[]⟩,.string ⟨#[]⟩,.int .i64 0] 50;obtain⟨p0,p1,p2,p3,p4,p5,p6,p7⟩:=b0.jj;have f0:=fun j=>cJ w #[.int .i64 0,.int .i64 0,.int .i64 0,.int .i64 0,.int .i64 0,.string ⟨#[]⟩,.string ⟨#[]⟩,.int .i64 0] 50 j
  clear b0;clear T T1 h h2 hl h5 hn h3;go_in;go_wp2;exact aZ (by simp[results,results105,go_sem,p0,p1,p2,p3,p4,p5,p6,p7,dP]<;>rfl) rfl ⟨⟨0,0,0,0,0,[],[],0⟩,false,rfl,HM.oo,tY (al w kZ) iQ⟩
 obtain⟨q,hq⟩: ∃q,L[1]? =some q:=⟨_,aV ah⟩
 have zq:=eD q [44] (fun e=>by
  rcases h2 with h2|h2
  ·omega
  exact h2 (by rw[hq,e]))
 have z5:((n:Int)==5)=false:=aC;have z3:decide ((n:Int)<3)=false:=aC;have i1: ∀w',(aA2 42 (.slice a L.length c) (.int .i64 1)).run prog w'=_:=T1.idx 1 ah c;have c1:=T1.cell 1 ah;rw[(bt.1 hq).2]at c1;rw[hl]at i1⊢;have b0:=aW.new w #[.int .i64 0,.int .i64 0,.int .i64 0,.int .i64 0,.int .i64 0,.string ⟨#[]⟩,.string ⟨#[]⟩,.int .i64 0] 50;obtain⟨p0,p1,p2,p3,p4,p5,p6,p7⟩:=b0.jj;have f0:=fun j=>cJ w #[.int .i64 0,.int .i64 0,.int .i64 0,.int .i64 0,.int .i64 0,.string ⟨#[]⟩,.string ⟨#[]⟩,.int .i64 0] 50 j
 clear b0;clear T T1 hq h h2 hl h5 hn h3;exact acv
theorem auG(L:List Tx)(p r:Tx)(h0:L[0]? =some p)(h1:L[1]? =some [44])(h2:L[2]? =some r)(h5:L.length≠5)(hr:r.length<=262144)(a:Option Addr)(c:Nat)(w:aAX)(T:cO w a L)(hn:L.length<=1000000)(g:Gl w):aA7 prog 105 #[.slice a L.length c] w (IA (eY L) w):=by
 have T1:=T.below (al w kZ);have HG:=af (g.below (al w kZ));have h2l:=(bt.1 h2).1;obtain⟨n,hl⟩:=aF L.length;have z5:((n:Int)==5)=false:=aC;have z3:decide ((n:Int)<3)=false:=aC;obtain⟨b3,jn⟩: ∃b,((n:Int)==3)=b:=⟨_,rfl⟩
 have HM:=af (show eY L=if b3=true then(match dK p,gX r with
  |some r,some n=>some ⟨4,r,0,0,n,[],[],0⟩
  |_,_=>none)else none by
  cases b3 with
  | true=>
    have e3:L.length=3:=by simp at jn;omega
    match L,e3 with
    | [x,y,z],_=>
      cases h0;cases h1;cases h2;rw[arG,ak rfl]
  |false=>rw[ai ay,arH (by simp at jn;omega) h5])
 have i0: ∀w',(aA2 42 (.slice a L.length c) (.int .i64 0)).run prog w'=_:=T1.idx 0 ah c;have i1: ∀w',(aA2 42 (.slice a L.length c) (.int .i64 1)).run prog w'=_:=T1.idx 1 ah c;have i2: ∀w',(aA2 42 (.slice a L.length c) (.int .i64 2)).run prog w'=_:=T1.idx 2 ah c;have c0:=T1.cell 0 ah;rw[(bt.1 h0).2]at c0;have c1:=T1.cell 1 ah;rw[(bt.1 h1).2]at c1;simp only[gK]at i0 c0;have HT:=af T1;have H2:=af h2;rw[hl]at i0 i1 i2⊢;have HL:=af hl;have z44:((tx [44]).toList==[44])=true:=by rw[bU];decide
 generalize tx [44]=u44 at*;have RO:=fun w=>Yf p w
 have GV:=af (fun(w2:aAX) (g:Gl w2)=>ais r ah w2 g);cases hr:dK p with
 | none=>
   rw[hr]at RO HM;have RO:=af (show ∀w,aA7 prog _ _ w (bg w (.tuple #[.int .i64 0,.int .i64 90]))from RO);go_in;go_wp2_with fail;refine aQ (RO.oo _) fun w1 E1=>?_
   have T2:=HT.oo.below E1;have c2:=T2.cell 2 ah;rw[(bt.1 H2.oo).2]at c2;have g1:=HG.oo.below E1;have nE:=af E1;go_wp2_with fail;refine(GV.oo _ g1).mono ?_;rintro e w2 ⟨v,ok,rfl,HO,E2⟩;have EA:=af (aI nE.oo E2);have HO:=af HO;cases ok<;>cases b3
   ·have HV:=af HO.oo.no
    have b0:=(aW.new w #[.int .i64 0,.int .i64 0,.int .i64 0,.int .i64 0,.int .i64 0,.string ⟨#[]⟩,.string ⟨#[]⟩,.int .i64 0] 50).below EA.oo;obtain⟨p0,p1,p2,p3,p4,p5,p6,p7⟩:=b0.jj;have f0:=fun j=>(fW EA.oo (b:=w.heap.size) aq j).trans (cJ w _ _ j)
    have gi:w.heap.size<w2.heap.size:=by have:=EA.oo.size;simp at this;omega
    exact N8
   ·have HV:=af HO.oo.no
    have b0:=(aW.new w #[.int .i64 0,.int .i64 0,.int .i64 0,.int .i64 0,.int .i64 0,.string ⟨#[]⟩,.string ⟨#[]⟩,.int .i64 0] 50).below EA.oo;obtain⟨p0,p1,p2,p3,p4,p5,p6,p7⟩:=b0.jj;have f0:=fun j=>(fW EA.oo (b:=w.heap.size) aq j).trans (cJ w _ _ j)
    have gi:w.heap.size<w2.heap.size:=by have:=EA.oo.size;simp at this;omega
    exact N8
   ·have HV:=af HO.oo.yes
    have b0:=(aW.new w #[.int .i64 0,.int .i64 0,.int .i64 0,.int .i64 0,.int .i64 0,.string ⟨#[]⟩,.string ⟨#[]⟩,.int .i64 0] 50).below EA.oo;obtain⟨p0,p1,p2,p3,p4,p5,p6,p7⟩:=b0.jj;have f0:=fun j=>(fW EA.oo (b:=w.heap.size) aq j).trans (cJ w _ _ j)
    have gi:w.heap.size<w2.heap.size:=by have:=EA.oo.size;simp at this;omega
    exact N8
   have HV:=af HO.oo.yes
   have b0:=(aW.new w #[.int .i64 0,.int .i64 0,.int .i64 0,.int .i64 0,.int .i64 0,.string ⟨#[]⟩,.string ⟨#[]⟩,.int .i64 0] 50).below EA.oo;obtain⟨p0,p1,p2,p3,p4,p5,p6,p7⟩:=b0.jj;have f0:=fun j=>(fW EA.oo (b:=w.heap.size) aq j).trans (cJ w _ _ j)
   have gi:w.heap.size<w2.heap.size:=by have:=EA.oo.size;simp at this;omega
   exact N8
 | some k=>
   rw[hr]at RO HM;have RO:=af (show ∀w,aA7 prog _ _ w (bg w (.tuple #[.int .i64 k,.int .i64 0]))from RO);go_in;go_wp2_with fail;refine aQ (RO.oo _) fun w1 E1=>?_
   have T2:=HT.oo.below E1;have c2:=T2.cell 2 ah;rw[(bt.1 H2.oo).2]at c2;have g1:=HG.oo.below E1;have nE:=af E1;go_wp2_with fail;refine(GV.oo _ g1).mono ?_;rintro e w2 ⟨v,ok,rfl,HO,E2⟩;have EA:=af (aI nE.oo E2);have HO:=af HO;cases ok<;>cases b3
   ·have HV:=af HO.oo.no
    have b0:=(aW.new w #[.int .i64 0,.int .i64 0,.int .i64 0,.int .i64 0,.int .i64 0,.string ⟨#[]⟩,.string ⟨#[]⟩,.int .i64 0] 50).below EA.oo;obtain⟨p0,p1,p2,p3,p4,p5,p6,p7⟩:=b0.jj;have f0:=fun j=>(fW EA.oo (b:=w.heap.size) aq j).trans (cJ w _ _ j)
    have gi:w.heap.size<w2.heap.size:=by have:=EA.oo.size;simp at this;omega
    exact UN
   ·have HV:=af HO.oo.no
    have b0:=(aW.new w #[.int .i64 0,.int .i64 0,.int .i64 0,.int .i64 0,.int .i64 0,.string ⟨#[]⟩,.string ⟨#[]⟩,.int .i64 0] 50).below EA.oo;obtain⟨p0,p1,p2,p3,p4,p5,p6,p7⟩:=b0.jj;have f0:=fun j=>(fW EA.oo (b:=w.heap.size) aq j).trans (cJ w _ _ j)
    have gi:w.heap.size<w2.heap.size:=by have:=EA.oo.size;simp at this;omega
    exact UN
   ·have HV:=af HO.oo.yes
    have b0:=(aW.new w #[.int .i64 0,.int .i64 0,.int .i64 0,.int .i64 0,.int .i64 0,.string ⟨#[]⟩,.string ⟨#[]⟩,.int .i64 0] 50).below EA.oo;obtain⟨p0,p1,p2,p3,p4,p5,p6,p7⟩:=b0.jj;have f0:=fun j=>(fW EA.oo (b:=w.heap.size) aq j).trans (cJ w _ _ j)
    have gi:w.heap.size<w2.heap.size:=by have:=EA.oo.size;simp at this;omega
    exact UN
   have HV:=af HO.oo.yes
   have b0:=(aW.new w #[.int .i64 0,.int .i64 0,.int .i64 0,.int .i64 0,.int .i64 0,.string ⟨#[]⟩,.string ⟨#[]⟩,.int .i64 0] 50).below EA.oo;obtain⟨p0,p1,p2,p3,p4,p5,p6,p7⟩:=b0.jj;have f0:=fun j=>(fW EA.oo (b:=w.heap.size) aq j).trans (cJ w _ _ j)
   have gi:w.heap.size<w2.heap.size:=by have:=EA.oo.size;simp at this;omega
   go_wp2;exact aZ (by simp[results,results105,go_sem,p0,p1,p2,p3,p4,p5,p6,p7,dP]<;>rfl) rfl ⟨⟨4,k,0,0,v,[],[],0⟩,true,rfl,(by unfold de;rw[HM.oo,HV.oo];first|done|rfl|simp),tY ((al w kZ).trans (EA.oo.mono aq)) iQ⟩
theorem auD(L:List Tx)(hL: ∀x∈L,x.length<=262144)(a:Option Addr)(c:Nat)(hc:L.length<=c)(w:aAX)(T:cO w a L)(hn:L.length<=1000000)(g:Gl w):aA7 prog 105 #[.slice a L.length c] w (IA (eY L) w):=by
 by_cases h5:L.length=5
 ·match L,h5 with
  | [p,q,r,d,x],_=>
    by_cases hd:d=[44]
    ·subst hd
     exact auE p q r x (hL _ aq) (hL _ aq) a c hc w T g
    by_cases hq:q=[44]
    ·subst hq
     exact auF p r d x hd (hL _ aq) a c hc w T
    exact Yd [p,q,r,d,x] (fun _ e=>hd (aS e)) (.inr fun e=>hq (aS e)) a c w T hn
 by_cases h3:L.length<3
 ·exact Yd L (fun h=>absurd h h5) (.inl h3) a c w T hn
 obtain⟨p,hp⟩: ∃p,L[0]? =some p:=⟨_,aV ah⟩
 obtain⟨q,hq⟩: ∃q,L[1]? =some q:=⟨_,aV ah⟩;obtain⟨r,hr⟩: ∃r,L[2]? =some r:=⟨_,aV ah⟩
 by_cases qX:q=[44]
 ·subst qX
  exact auG L p r hp hq hr h5 (hL _ (cV hr)) a c w T hn g
 exact Yd L (fun h=>absurd h h5) (.inr fun e=>qX (by rw[hq]at e;cases e;rfl)) a c w T hn
theorem Q1: ∀(s u:Tx),(kY u s).length<=2*s.length+1/\ ∀w∈kY u s,w.length<=u.length+s.length
 | [],u=>by
   rw[vG];unfold gW;split
   ·exact⟨ aq,fun w hw=>by cases hw⟩
   exact acy
 | c::r,u=>by
   have hf:(gW u).length<=1/\ ∀w∈gW u,w.length<=u.length:=by
    unfold gW;split
    ·exact⟨ aq,fun w hw=>by cases hw⟩
    exact acy
   rcases zF c with h|h|h
   ·obtain⟨i1,i2⟩:=Q1 r []
    rw[ug u r h];unfold bI;refine⟨by rw[bu,cy];omega,fun w hw=>?_⟩;rcases fc.1 hw with hw|hw
    ·have:=hf.2 w hw;simp only[cy];omega
    have:=i2 w hw;simp only[cy,je]at this ⊢; omega
   ·obtain⟨i1,i2⟩:=Q1 r []
    rw[vH u r h];unfold bI;refine⟨by rw[bu,cy,cy];omega,fun w hw=>?_⟩;rcases fc.1 hw with hw|hw
    ·have:=hf.2 w hw;simp only[cy];omega
    rcases cq.1 hw with rfl|hw
    ·simp only[cy,je];omega
    have:=i2 w hw;simp only[cy,je]at this ⊢; omega
   obtain⟨i1,i2⟩:=Q1 r (u++[c])
   rw[xH u r h];refine⟨by simp only[cy];omega,fun w hw=>?_⟩;have:=i2 w hw;simp only[bu,cy,je]at this ⊢; omega
theorem cO.tail{l:List Tx}(h:cO w a (p::l))(c:Nat)(hc:c=1->l=[]):cO w (mK a (c=1) (1*1)) l:=⟨by have:=h.row.drop (1*1) (c=1) (fun h=>.inl (by simp[hc h]));simpa using this,by have:=h.len;simp at this;omega⟩
theorem asA(hl:s.length<=262144)(h:bI s=[[77,70,69,78,67,69]]):fG s=some ⟨5,0,0,0,0,[],[],0⟩:=by
 rw[<-P7];unfold GF;rw[ai ah,ak h];rfl
theorem ahC(hl:s.length<=262144)(h:bI s≠[[77,70,69,78,67,69]])(h2:(bI s).length<4\/(bI s).head?≠some [77,79,86]\/rQ s=false):fG s=none:=by
 rw[<-P7];unfold GF;rw[ai ah,ai h,ak h2]
theorem asB(hl:s.length<=262144)(h:bI s=[77,79,86]::L)(h2:3<=L.length)(h3:rQ s=true):fG s=eY L:=by
 rw[<-P7];unfold GF
 rw[ai ah,ai (by rw[h];intro e;have:=(Ch e).1;revert this;decide),ai (by
  rw[h];rintro(h4|h4|h4)
  ·simp at h4;omega
  ·exact h4 rfl
  rw[h3]at h4;cases h4),h]
 rfl
theorem dr.of{o:Option aL}{i:aL}{ok:Bool}(h:de o i ok)(he:e= .returned (.tuple #[if ok=true then vI i else .agg #[.int .i64 0,.int .i64 0,.int .i64 0,.int .i64 0,.int .i64 0,.string ⟨#[]⟩,.string ⟨#[]⟩,.int .i64 0],.int .i64 (if ok=true then 0 else 91)]))(hb:aAW w.heap.size w w'):dr o w e w':=by
 cases ok with
 |true=>rw[h.yes];exact⟨he,hb⟩
 |false=>rw[h.no];exact⟨he,hb⟩
theorem auH(s:Tx)(w:aAX)(g:Gl w):aA7 prog 46 #[.string (tx s)] w (dr (fG s) w):=by
 obtain⟨n,hn⟩:=aF ((tx s).size);have HN:=af (show n=s.length by rw[<-hn,bC])
 by_cases hl:262144<s.length
 ·have HP:=af (show fG s=none by unfold fG;rw[ak hl])
  have z:decide (262144<(n:Int))=true:=by have:=HN.oo;simp;omega
  generalize fG s=r at*;go_in;go_wp2;exact aZ (by simp[results,results46,go_sem]) rfl (dr.no HP.oo rfl cG)
 have hl:s.length<=262144:=ah;have z:decide (262144<(n:Int))=false:=by have:=HN.oo;simp;omega
 have WD:=af (fun w=>auI s hl w);have AP:=af (fun w=>auA s hl w);obtain⟨f1,f2⟩:=Q1 s [];obtain⟨L,hL⟩:=aF (bI s);have hL':kY [] s=L:=hL;rw[hL']at f1 f2;simp only[je,jT]at f2;have g0:=af g;have HW:=af (show ∀w,aA7 prog 103 #[.string (tx s)] w fun e w'=> ∃a c,e= .returned (.slice a L.length c)/\cO w' a L/\L.length<=c/\aAW w.heap.size w w' from fun w=>(WD.oo w).mono fun e w' ⟨a,c,h1,h2,h3⟩=>⟨a,c,by rw[<-hL];exact h1,by rw[<-hL];exact h2.lF (by rw[hL];omega),by rw[<-hL];exact(au.cap h2).1,h3⟩)
 by_cases h1:L=[[77,70,69,78,67,69]]
 ·have HP:=af (asA hl (hL.trans h1))
  subst h1;generalize fG s=r at*;have z2:((tx [77,70,69,78,67,69]).toList==[77,70,69,78,67,69])=true:=by rw[bU];rfl
  go_in;go_wp2_with fail;refine(HW.oo _).mono ?_;rintro e w1 ⟨a,c,rfl,T,hc,E⟩;have c0:=T.cell 0 aq;have i0: ∀w',(aA2 42 (.slice a 1 c) (.int .i64 0)).run prog w'=_:=T.idx 0 aq c;simp only[gK,IL]at i0 c0;obtain⟨⟨d0,d1,d2,d3,d4,d5,d6,d7⟩,hf,aA,B⟩:=gE E;generalize tx [77,70,69,78,67,69]=um at*;go_wp2;exact aZ (by simp[results,results46,go_sem,d0,d1,d2,d3,d4,d5,d6,d7,dP]) rfl (dr.yes HP.oo rfl cG)
 by_cases h4:L.length<4\/L.head?≠some [77,79,86]
 ·have HP:=af (ahC hl (by rw[hL];exact h1) (by rw[hL];rcases h4 with h|h;exact .inl h;exact .inr (.inl h)))
  generalize fG s=r at*;obtain⟨m,hm⟩:=aF L.length
  by_cases yK:m=1
  ·match L,(hm.trans yK)with
   | [x],_=>
     have zx:=eD x [77,70,69,78,67,69] (fun e=>h1 (by rw[e]));go_in;go_wp2_with fail;refine(HW.oo _).mono ?_;rintro e w1 ⟨a,c,rfl,T,hc,E⟩;have c0:=T.cell 0 aq;have i0: ∀w',(aA2 42 (.slice a 1 c) (.int .i64 0)).run prog w'=_:=T.idx 0 aq c;simp only[gK,IL]at i0 c0;exact UO
  have zm:((m:Int)==1)=false:=aC
  by_cases hm4:m<4
  ·have zm4:decide ((m:Int)<4)=true:=aC
   have HM:=af hm;rw[hm]at HW;go_in;go_wp2_with fail;refine(HW.oo _).mono ?_;rintro e w1 ⟨a,c,rfl,T,hc,E⟩;exact UO
  have zm4:decide ((m:Int)<4)=false:=aC
  have HM:=af hm;obtain⟨x,hx⟩: ∃x,L[0]? =some x:=⟨_,aV ah⟩
  have zx:=eD x [77,79,86] (fun e=>by
   rcases h4 with h|h
   ·omega
   exact h (by rw[SJ,hx,e]))
  have HX:=af hx;rw[hm]at HW;go_in;go_wp2_with fail;refine(HW.oo _).mono ?_;rintro e w1 ⟨a,c,rfl,T,hc,E⟩;have c0:=T.cell 0 (bE HM.oo);rw[(bt.1 HX.oo).2]at c0;have i0: ∀w',(aA2 42 (.slice a L.length c) (.int .i64 0)).run prog w'=_:=T.idx 0 (bE HM.oo) c;rw[HM.oo]at i0;simp only[gK]at i0 c0;exact UO
 rw[tf]at h4;obtain⟨h4,h5⟩:=h4;cases L with
 |nil=>exact absurd aq h4
 | cons x L=>
   obtain rfl:x=[77,79,86]:=by have:=MO h5;simpa using this
   have hL3:3<=L.length:=by simp at h4;omega
   obtain⟨b,hb⟩:=aF (rQ s);rw[hb]at AP;obtain⟨m,hm⟩:=aF L.length;obtain⟨q,hq⟩:=aF (m+1);have zm:((q:Int)==1)=false:=aC;have zm4:decide ((q:Int)<4)=false:=aC;have hq4:4<=q:=ah;have hqm:q-1=m:=ah;have z2:((tx [77,79,86]).toList==[77,79,86])=true:=by rw[bU];rfl
   have HM:=af (show([77,79,86]::L).length=q by rw[cy,hm,hq]);rw[HM.oo]at HW;have hmb:q<=600001:=by simp at f1;omega
   cases b with
   | false=>
     have HP:=af (ahC hl (by rw[hL];exact h1) (.inr (.inr hb)));generalize fG s=r at*;go_in;go_wp2_with fail;refine(HW.oo _).mono ?_;rintro e w1 ⟨a,c,rfl,T,hc,E⟩;have c0:=T.cell 0 aq;have i0: ∀w',(aA2 42 (.slice a ([77,79,86]::L).length c) (.int .i64 0)).run prog w'=_:=T.idx 0 aq c;rw[HM.oo]at i0;simp only[gK,IL]at i0 c0;obtain⟨⟨d0,d1,d2,d3,d4,d5,d6,d7⟩,hf,aA,B⟩:=gE E;generalize tx [77,79,86]=um at*
     go_wp2_with (go_at_call 104;refine aK (AP.oo _) ?_)
     exact aZ (by simp[results,results46,go_sem,d0,d1,d2,d3,d4,d5,d6,d7]) rfl (dr.no HP.oo rfl cG)
   | true=>
     have HP:=af (asB hl hL hL3 hb);have Rq:=af hm;have MV:=af (fun(a:Option Addr) (c:Nat) (hc:L.length<=c) (w:aAX) (T:cO w a L) (g:Gl w)=>auD L (fun x hx=>by have:=f2 x (zW _ hx);omega) a c hc w T ah g);rw[hm]at MV;generalize fG s=r at*;go_in;go_wp2_with fail;refine(HW.oo _).mono ?_;rintro e w1 ⟨a,c,rfl,T,hc,E⟩;have c0:=T.cell 0 aq;have i0: ∀w',(aA2 42 (.slice a ([77,79,86]::L).length c) (.int .i64 0)).run prog w'=_:=T.idx 0 aq c;rw[HM.oo]at i0;simp only[gK,IL]at i0 c0;have ct: ∀w',(aA1 42 (.slice a q c) (some (.int .i64 1)) none none).run prog w'=_:=Qx jR a q c 1 ah .i64;rw[hqm]at ct;have MV:=af (MV.oo (mK a (c=1) (1*1)) (c-1) ah w1 (T.tail c (fun h=>by omega)) (g0.oo.below (aI (al w kZ) E)));generalize tx [77,79,86]=um at*;generalize mK a (c=1) (1*1)=a2 at*;have HE:=af E
     go_wp2_with (first|(go_at_call 104;refine aK (AP.oo _) ?_)|fail)
     refine MV.oo.mono ?_;rintro e w2 ⟨i,ok,rfl,HO,E2⟩;have E:=aI HE.oo E2;obtain⟨⟨d0,d1,d2,d3,d4,d5,d6,d7⟩,hf,aA,B⟩:=gE E;have HO:=af (show de r i ok by rw[HP.oo];exact HO);cases ok with
     | false=>
       exact acz
     | true=>
       exact acz
theorem aks{P:Program}{ops:Array Oper}{rest:List Oper}{o:Oper}{a:Act}{Q:Exit->Act->aAX->Prop}{t e:TypeId}{z:Value}{size bytes:Nat}(T:kg P t e z size bytes)(s x:Operand)(hgd:o.guard=none)(ho:o.op= .call { callee:=.builtin .append,args:=#[s,x],argTypes:=#[t,t] })
 {n:Nat} {sa:Option Addr} {xs:List Value} (hs:a.eval s= .slice sa n c) (hown:au w B e size sa n c xs) {us:Array Value} {zz:Nat} (hzz:w.heap.size=zz) (hx:a.eval x= .slice (some ⟨zz,0,none⟩) 1 1) (hl:us.size=size) (h1c: ∀u∈us.toList,u.oneCell'=true)
 (sg:B<=w.heap.size) (hbytes:(n+1)*bytes<=140737488355328) (hm:n+1<=maxLen)
 (h: ∀a' c' w',au w' B e size a' (n+1) c' (xs++us.toList)->mS w w' sa c a' c'->wpList P ops Q rest (a.put o.dst (.slice a' (n+1) c')) w'):wpList P ops Q (o::rest) a (w.alloc (.cells us e)):=by
 subst hzz;exact mR T s x hgd ho hs hown hx hl h1c (bS _ w) sg hbytes hm fun a' c' w' h1 h2 _=>h a' c' w' h1 h2
def JN(e:aBp):Prop:= ∃y:Nd,e= .returned (vN y)
abbrev y8(w:aAX)(b:Nat)(x:Nd):aAX:=(((((w.setCell ⟨b,0,none⟩ (.int .i64 x.kind)).setCell ⟨b,1,none⟩ (.int .i64 x.th.aO)).setCell ⟨b,2,none⟩ (.int .i64 x.th.aR)).setCell ⟨b,3,none⟩ (.string (tx x.th.aj))).setCell ⟨b,4,none⟩ (.int .i64 x.val)).setCell ⟨b,5,none⟩ (.slice x.a x.aP.length x.c)
theorem Bf(w:aAX)(b:Nat)(x:Nd):w.grownBy (y8 w b x) (aBf b):=by
 repeat refine wP ?_ _ _
 exact wQ _ _
def KS(w:aAX)(B:Nat)(a:Option Addr)(c:Nat)(l:List Nd):Prop:=(l=[]/\a=none/\c=0)\/iM w B a c l
theorem DJ{u v v':aAX}{q:Nat}(h:St u v rb)(hg:v.grownBy v' (aBf q))(hq:u.heap.size<=q):St u v' rb:=
 ⟨⟨hg.os.trans h.grown.os,hg.tape.trans h.grown.tape,hg.output.trans h.grown.output,dY h.grown.size hg.size,fun k hk aN=>by
   rw[hg.block k (ou hk h.grown.size) aC];exact h.grown.block k hk aN⟩,.inl rfl⟩
theorem KS.own{l:List Nd}(h:KS w B a c l)(hs:St w W rb)(hr:rb<B):nH W B a l.length c l:=by
 rcases h with⟨rfl,rfl,rfl⟩|h
 ·exact au.nil _ _ _ _
 exact(h.st hs hr).own
theorem KS.q{l:List Nd}(h:KS w B a c l)(hB:B<=w.heap.size)(hg:mS W w2 a c a' c'): ∃q,B<=q/\W.grownBy w2 (aBf q):=by
 have key: ∀{q},W.grownBy w2 none->W.grownBy w2 (aBf q):=fun h=>⟨h.os,h.tape,h.output,h.size,fun k hk _=>h.block k hk aq⟩
 have:=hg.step.grown;rcases h with⟨rfl,rfl,rfl⟩|h
 ·exact⟨B,aX _,key this⟩
 refine⟨bk a,h.lt.1,?_⟩
 cases a with
 |none=>exact absurd rfl h.ne
 |some p=>exact this
theorem KS.app{l:List Nd}{x:Nd}(h:KS w B a c l)(hB:B<=w.heap.size)(hs:St w W rb)(hr:rb<B)(ho:cI W w.heap.size x)(hn:(jF x).Nodup)(hO:nH w2 B a' (l++[x]).length c' (l++[x]))(hg:mS W w2 a c a' c')(ha':a'≠none):iM w2 B a' c' (l++[x]):=by
 rcases h with⟨rfl,rfl,rfl⟩|h
 ·have hst:=hg.step.grown
  have hnew:W.heap.size<=bk a':=by
   rcases hg with⟨e, -⟩|⟨e, -⟩
   ·exact absurd e ha'
   exact e
  refine⟨hO,fun k hk=>?_,?_,ha'⟩
  ·rw[eE,kJ]at hk
   rw[hk];exact(ho.mono hB).kept hst fun b hb e=>by cases e
  rw[eE,Ns,Jd]
  refine⟨fun hb=>?_,hn⟩;have:=(ho.lt _ hb).2;omega
 exact(h.app hB hs hr ho hn hO hg ha').1
theorem VN.Vj{o:Obj}(hG:dM w1 B rb ag S l (-1))(hS:St (w.alloc o) w1 rb)(hg:w1.grownBy w2 (aBf w.heap.size))(hrb:rb<w.heap.size)(y:Nd)(hN:cI w1 (w.heap.size+1) y)(hn:(jF y).Nodup)(hp:pp= .ok (bO y,l))(he:e= .returned (vN y)):oq w B rb ag S pp (VN w.heap.size) JN e w2:=by
 refine⟨DJ ((St.new (St.refl w rb) o).trans hS) hg (aX _),.inr ⟨_,_,hp,⟨y,rfl,he,?_,hn⟩,hG.mj hg ah⟩⟩;refine(hN.mono (B':=w.heap.size) ah).kept hg fun b hb e=>?_
 exact Oi
theorem VN.Vd{er:List Tok}{o:Obj}(hG:dM w1 B rb ag S l (eI S.length er))(hS:St (w.alloc o) w1 rb)(hg:w1.grownBy w2 (aBf w.heap.size))(hrb:rb<w.heap.size)(hp:pp= .error er)(hj:JN e):oq w B rb ag S pp (VN w.heap.size) JN e w2:=
 ⟨DJ ((St.new (St.refl w rb) o).trans hS) hg (aX _),.inl ⟨_,_,hp,hj,hG.mj hg ah⟩⟩
def Sc(F:Nat)(xs:Array Value)(B rb:Nat)(ag:Int)(S:Tx)(m:Nat)(one:List Tok->PR Nd):Prop:=
 ∀(w:aAX) (l:List Tok),dM w B rb ag S l (-1)->l.length<=m->aA7 prog F xs w (oq w B rb ag S (one l) (VN w.heap.size) JN)
def yz(k:Int)(sign:Tx)(one:List Tok->PR Nd)(f:Nat)(aD:List Nd)(l:List Tok):PR Nd:=match one l with
 | .error e=>.error e
 | .ok (x,r)=>ja k sign one f (aD++[x]) r
theorem ank{e:List Tok}(h:one l= .error e):yz k sign one f aD l= .error e:=by unfold yz;rw[h]
theorem anl{x:Nd}(h:one l= .ok (x,r)):yz k sign one f aD l=ja k sign one f (aD++[x]) r:=by unfold yz;rw[h]
theorem awU{n:Nat}(h:aJ l=sign):ja k sign one (n+1) aD l=yz k sign one n aD l.tail:=by rw[Qw h];rfl
theorem ai1{k:Int}{sign:Tx}{one:List Tok->PR Nd}(hs:sign≠[]): ∀(n m:Nat) (aD:List Nd) (l:List Tok),(∀l' x r,l'.length<l.length->one l'= .ok (x,r)->r.length<l'.length)->l.length<=n->l.length<=m->ja k sign one n aD l=ja k sign one m aD l
 |0,0,_,_,_,_,_=>rfl
 | 0,m+1,aD,l,_,h,_=>by
   have e:l=[]:=lH ah;rw[e,Be (by exact fun h=>hs h.symm),Be (by exact fun h=>hs h.symm)]
 | n+1,0,aD,l,_,_,h=>by
   have e:l=[]:=lH ah;rw[e,Be (by exact fun h=>hs h.symm),Be (by exact fun h=>hs h.symm)]
 | n+1,m+1,aD,l,H,h1,h2=>by
   by_cases hh:aJ l=sign
   ·rw[Qw hh,Qw hh]
    have hl:0<l.length:=by
     cases l with
     |nil=>exact absurd hh.symm hs
     |cons t r=>simp
    have ht:l.tail.length=l.length-1:=Cb;cases ho:one l.tail with
    |error e=>rfl
    | ok p=>
      obtain⟨x,r⟩:=p;have hr:=H l.tail x r ah ho;exact ai1 hs n m _ r (fun l' y s hl'=>H l' y s ah) ah ah
   rw[Be hh,Be hh]
theorem awV(hs:sign≠[])(H: ∀l' x r,l'.length<=l.length->one l'= .ok (x,r)->r.length<l'.length):jc k sign one l=yz k sign one l.length [] l:=by
 unfold jc yz;cases ho:one l with
 |error e=>rfl
 | ok p=>
   obtain⟨x,r⟩:=p;have hr:=H l x r (aX _) ho;exact ai1 hs _ _ _ r (fun l' y s hl'=>H l' y s ah) (aX _) ah
abbrev y5:Bool->Tx|false=>[47,92]|true=>[92,47]
abbrev kB:Bool->Int|false=>4|true=>5
abbrev fB:Bool->Nat|false=>240|true=>162
abbrev xB(rb:Nat):Bool->Array Value|false=>#[.pointer (some ⟨rb,0,none⟩)]|true=>#[.pointer (some ⟨rb,0,none⟩),.bool false]
theorem Qf{b b':Bool}(hb:b=b'){m:Nat}(R:dM w B rb ag S l (-1))(hm:l.length<=m)
 (ONE:Sc (fB b') (xB rb b') B rb ag S m one) (H: ∀l x r,l.length<=m->one l= .ok (x,r)->r.length<l.length):
 aA7 prog 162 #[.pointer (some ⟨rb,0,none⟩),.bool b'] w (oq w B rb ag S (jc (kB b) (y5 b) one l) (VN w.heap.size) JN):=by
 rw[awV (by cases b<;>decide) (fun l' x r hl=>H l' x r ah)]
 obtain⟨pp,fX⟩:=aF (yz (kB b) (y5 b) one l.length [] l);rw[fX];have jS:=af fX;have Ru:=af ONE;have HH:=af H;have hrb:=R.cells.lt;have Pb:=R.cells.ge;obtain⟨N,hN⟩:=aF l.length;have hNN:N<=262144:=by have:=R.lx.len;have:=R.sl;omega
 have OZ:N<=m:=ah;have R0:=af (R.below (al w fR));have IS:=af (fun(w:aAX) (l:List Tok) (R:dM w B rb ag S l (-1))=>A6 R 3 (y5 b) (by cases b<;>rfl))
 obtain⟨L,hL⟩:=aF (tx (y5 b));rw[hL]at IS;have hL:=af (show tx (y5 b')=L by rw[<-hb];exact hL);have HK:=af (congrArg kB hb);rw[hN]at jS;clear fX ONE H R hm hb;have ZM:=af hN;clear hN;cases b'
 all_goals
  have hL:=hL.oo;subst hL;go_in;go_wp2
  go_loopw [5] (fun v wr=> ∃(a2:Option Addr) (c2 n2:Nat) (l2:List Nd) (l':List Tok),v= .slice a2 l2.length c2/\Hid (pp=yz (kB b) (y5 b) one n2 (fL l2) l')/\l'.length<=n2+1/\l2.length+l'.length<=N/\Hid (dM wr B rb ag S l' (-1))/\Hid (KS wr (w.heap.size+1) a2 c2 l2)/\Hid (St (w.alloc fR) wr rb)) (fun v _=>match v with| .slice _ n _=>300000-n|_=>0)
  ·exact⟨none,0,N,[],l,rfl,jS.oo.symm,by have:=ZM.oo;omega,by have:=ZM.oo;simp;omega,R0,.inl ⟨rfl,rfl,rfl⟩,St.refl _ _⟩
  obtain⟨a2,c2,n2,l2,l',rfl,HP,hn2,gh,ZT,fC,l7⟩:=hrel;have hs1:w.heap.size+1<=wr.heap.size:=by have:=l7.oo.grown.size;simpa using this
  obtain⟨c0,c1,oC,c3,c4,c5,c6,fz,lt, -⟩:=ZT.oo.cells;have O:=Ru.oo (wr.alloc fR) l' (ZT.oo.below (al _ _)) ah;cases hone:one l' with
  | error er=>
    have fS:=af (HP.oo.trans (ank hone));rw[hone]at O;have O:=af O;clear hone HP;go_wp2_with fail;refine O.oo.mono ?_;rintro e w3 h;obtain⟨⟨y2,rfl⟩,S3,l3,R3⟩:=h.err rfl;have Sn:=S3;have b3:=j8 S3 (by omega:rb<wr.heap.size);obtain⟨d0,d1,d2,d3,d4,d5⟩:=b3.kK;have gz:=fun j=>(iE S3 (b:=wr.heap.size) aq ah j).trans (cJ wr _ _ j)
    have Wv:wr.heap.size+1<=w3.heap.size:=by have:=S3.grown.size;simpa using this
    have S4:=af (DJ ((St.new (St.refl wr rb) fR).trans S3) (Bf w3 wr.heap.size y2) (aX _));have R4:=af (R3.mj (Bf w3 wr.heap.size y2) ah);have hO:=fC.oo.own S4.oo ah;have Kr:(y8 w3 wr.heap.size y2).heap.size=w3.heap.size:=aq;have apd:wr.heap.size<w3.heap.size:=ah;clear h S3 Sn b3 R3
    go_wp2_with (at_builtin;go_loud(refine aks qo (.tmp 20) (.tmp 22) rfl rfl rfl hO Kr rfl rfl (by exact Ue y2) (by rw[Kr];omega) ah dx ?_))
    intro a' c' w4 k9 hg
    have jJ:nH w4 (w.heap.size+1) a' (l2++[y2]).length c' (l2++[y2]):=by
     exact U9
    have ha':a'≠none:=au.some jJ aq;obtain⟨q,hq,gq⟩:=fC.oo.q hs1 hg;have S5:=af (DJ (l7.oo.trans S4.oo) gq (aS hq));have R5:=af (R4.oo.mj gq ah);obtain⟨n,hn⟩:=aF (l2.length+1);rw[hn];have hnb:1<=n/\n<=300000:=ah;have HN:=af hn;have jJ:=af jJ;clear hO k9 hg gq hn;obtain⟨k0,k1,k2,k3,k4,k5,k6,kz,klt, -⟩:=R5.oo.cells;have b8:=j8 S5.oo hrb;have fz:=fun j=>(iE S5.oo (b:=w.heap.size) aq ah j).trans (cJ w _ _ j)
    obtain⟨p0,p1,p2,p3,p4,p5⟩:=b8.kK;clear b8
    by_cases h1:n=1
    ·subst h1
     obtain rfl:l2=[]:=lH (bE HN.oo);have EL:cQ cN w4 a' [y2]:=nH.els jJ.oo aq;have ix:=EL.idx qo nN 0 aq c';rw[show((0:Nat):Int)=0 from rfl,yj]at ix;simp only[td,gK]at ix;obtain⟨e0,e1,e2,e3,e4,e5⟩:=cQ.nd (k:=0) EL rfl;simp only[td,gK]at e0 e1 e2 e3 e4 e5;clear EL;go_wp2;exact aZ (by simp[results,results162,go_sem,p0,p1,p2,p3,p4,p5]) rfl (VN.Vd R5.oo S5.oo iQ hrb fS.oo ⟨y2,rfl⟩)
    have z1:((n:Int)==1)=false:=aC
    go_wp2;exact aZ (by simp[results,results162,go_sem,p0,p1,p2,p3,p4,p5,HN.oo,HK.oo,kB,Nd.kind,Nd.th,dQ,Nd.val,Nd.a,Nd.c,Nd.aP,dP]) rfl (VN.Vd R5.oo S5.oo iQ hrb fS.oo ⟨(.mk (kB b) dQ 0 a' c' (l2++[y2])),rfl⟩)
  | ok p2=>
    obtain⟨x2,r2⟩:=p2;have hr2:=HH.oo _ _ _ ah hone;have fS:=af (HP.oo.trans (anl hone));rw[hone]at O;have O:=af O;clear hone HP;go_wp2_with fail;refine O.oo.mono ?_;rintro e w3 h;obtain⟨⟨y2,hy2,rfl,dm,iI⟩,R3,S3⟩:=h.ez rfl;have Sn:=S3;have b3:=j8 S3 (by omega:rb<wr.heap.size);obtain⟨d0,d1,d2,d3,d4,d5⟩:=b3.kK;have gz:=fun j=>(iE S3 (b:=wr.heap.size) aq ah j).trans (cJ wr _ _ j)
    have Wv:wr.heap.size+1<=w3.heap.size:=by have:=S3.grown.size;simpa using this
    have S4:=af (DJ ((St.new (St.refl wr rb) fR).trans S3) (Bf w3 wr.heap.size y2) (aX _));have R4:=af (R3.mj (Bf w3 wr.heap.size y2) ah);have hO:=fC.oo.own S4.oo ah;have Kr:(y8 w3 wr.heap.size y2).heap.size=w3.heap.size:=aq;have dm:=af ((dm.mono (B':=wr.heap.size) aq).kept (Bf w3 wr.heap.size y2) (fun b hb e=>by have:=(dm.lt b hb).1;simp at e this;omega));have iI:=af iI;have apd:wr.heap.size<w3.heap.size:=ah;clear h S3 Sn b3 R3
    go_wp2_with (at_builtin;go_loud(refine aks qo (.tmp 20) (.tmp 22) rfl rfl rfl hO Kr rfl rfl (by exact Ue y2) (by rw[Kr];omega) ah dx ?_))
    intro a' c' w4 k9 hg
    have jJ:nH w4 (w.heap.size+1) a' (l2++[y2]).length c' (l2++[y2]):=by
     exact U9
    have ha':a'≠none:=au.some jJ aq;obtain⟨q,hq,gq⟩:=fC.oo.q hs1 hg;have S5:=af (DJ (l7.oo.trans S4.oo) gq (aS hq));have R5:=af (R4.oo.mj gq ah);obtain⟨n,hn⟩:=aF (l2.length+1);rw[hn];have hnb:1<=n/\n<=300000:=ah;have HN:=af hn;have N5:=af (fC.oo.app hs1 S4.oo ah dm.oo iI.oo jJ hg ha');have HB:=af (show fL (l2++[y2])=fL l2++[x2] by rw[aaP,wG,qa,hy2]);have jJ:=af jJ;clear hO k9 hg gq hn;obtain⟨k0,k1,k2,k3,k4,k5,k6,kz,klt, -⟩:=R5.oo.cells;have RI:=af (fun(w:aAX) (R:dM w B rb ag S r2 (-1))=>IS.oo w r2 R)
    by_cases jZ:aJ r2=y5 b
    ·have HI:=af (show decide (aJ r2=y5 b)=true from eU jZ)
     have hlr:0<r2.length:=by
      cases r2 with
      |nil=>exact absurd jZ (by cases b<;>decide)
      |cons t r=>simp
     obtain⟨n3,rfl⟩: ∃n3,n2=n3+1:=⟨n2-1,ah⟩;have Rw:=af (fS.oo.trans (awU jZ));have afn:r2.tail.length=r2.length-1:=Cb;have ON:=af (sF R5.oo);clear jZ
     go_wp2_with (go_at_call 159;refine aK (RI.oo _ R5.oo) ?_;rw[HI.oo])
     refine ON.oo.mono ?_;rintro e w5 ⟨rfl,S6,R6⟩;have S7:=af (S5.oo.trans S6);have N7:=af (N5.oo.st S6 ah);have R6:=af R6;clear S6;go_wp2
     go_roundw;exact⟨a',c',n3,l2++[y2],r2.tail,by rw[bu,yj,HN.oo],by rw[HB.oo];exact Rw,ah,by have:=HN.oo;rw[bu,yj];omega,R6,.inr N7.oo,S7⟩;have:=HN.oo;simp;omega
    have HI:=af (show decide (aJ r2=y5 b)=false from eZ jZ)
    have fS:=af (fS.oo.trans (Be jZ));clear jZ;have b8:=j8 S5.oo hrb;have fz:=fun j=>(iE S5.oo (b:=w.heap.size) aq ah j).trans (cJ w _ _ j)
    obtain⟨p0,p1,p2,p3,p4,p5⟩:=b8.kK;clear b8
    by_cases h1:n=1
    ·subst h1
     obtain rfl:l2=[]:=lH (bE HN.oo);have EL:cQ cN w4 a' [y2]:=nH.els jJ.oo aq;have ix:=EL.idx qo nN 0 aq c';rw[show((0:Nat):Int)=0 from rfl,yj]at ix;simp only[td,gK]at ix;obtain⟨e0,e1,e2,e3,e4,e5⟩:=cQ.nd (k:=0) EL rfl;simp only[td,gK]at e0 e1 e2 e3 e4 e5;clear EL;have N6:=af (show iM w4 (w.heap.size+1) a' c' [y2]from N5.oo)
     go_wp2_with (go_at_call 159;refine aK (RI.oo _ R5.oo) ?_;rw[HI.oo])
     exact aZ (by simp[results,results162,go_sem,p0,p1,p2,p3,p4,p5]) rfl (VN.Vj R5.oo S5.oo iQ hrb y2 N6.oo.QG.1 N6.oo.QG.2 (by rw[fS.oo,<-HB.oo];rfl) rfl)
    have z1:((n:Int)==1)=false:=aC
    have N6:=af (N5.oo.node (kB b) dQ 0 (by cases b<;>decide) (by have:=HN.oo;simp;omega))
    go_wp2_with (go_at_call 159;refine aK (RI.oo _ R5.oo) ?_;rw[HI.oo])
    exact aZ (by simp[results,results162,go_sem,p0,p1,p2,p3,p4,p5,HN.oo,HK.oo,kB,Nd.kind,Nd.th,dQ,Nd.val,Nd.a,Nd.c,Nd.aP,dP]) rfl (VN.Vj R5.oo S5.oo iQ hrb (.mk (kB b) dQ 0 a' c' (l2++[y2])) N6.oo.1 N6.oo.2 (by rw[fS.oo,<-HB.oo,Al,ahp (by rw[Jl,bu,yj,HN.oo];exact h1)];rfl) rfl)
theorem ak9{e:List Tok}(h:fQ ag l= .error e):jU ag l= .error e:=by unfold jU;rw[h]
theorem ala{e:List Tok}(h:fQ ag l= .ok (t,r))(h2:bQ [61] r= .error e):jU ag l= .error e:=by unfold jU;rw[h];simp only;rw[h2]
theorem alb(h:fQ ag l= .ok (t,r))(h2:bQ [61] r= .ok r2)(h3:bN (aJ r2)=none):jU ag l= .error r2:=by
 unfold jU;rw[h];simp only;rw[h2];simp only;cases r2 with
 |nil=>rfl
 |cons a b=>rw[sw,show bN a.1=none from h3]
theorem alc{v:Int}(h:fQ ag l= .ok (t,r))(h2:bQ [61] r= .ok r2)(h3:bN (aJ r2)=some v):jU ag l= .ok (.mk 2 t v none 0 [],r2.tail):=by
 have hb:=(nt.1 h3).2;unfold jU;rw[h];simp only;rw[h2];simp only;cases r2 with
 |nil=>exact absurd (Kv h3) ay
 | cons a b=>
   rw[sw,show bN a.1=some v from h3];simp only;unfold bJ at hb;simp only[bV,dw]at hb;rw[ak hb];rfl
abbrev zNd:Nd:=.mk 0 dQ 0 none 0 []
structure l8(w wx:aAX)(B rb:Nat)(ag:Int)(S:Tx)(l:List Tok)(b:Int):Prop where
 rd:dM wx B rb ag S l b
 st:St ((w.alloc fR).alloc fR) wx rb
 hr:rb<w.heap.size
section
variable {w wx wy:aAX} {B rb:Nat} {ag:Int} {S:Tx} {l l':List Tok} {b b':Int}
theorem l8.new(R:dM w B rb ag S l b):l8 w ((w.alloc fR).alloc fR) B rb ag S l b:=
 ⟨(R.below (al _ _)).below (al _ _),St.refl _ _,R.cells.lt⟩
theorem l8.step(h:l8 w wx B rb ag S l b)(hs:St wx wy rb)(hr:dM wy B rb ag S l' b'):l8 w wy B rb ag S l' b':=⟨hr,h.st.trans hs,h.hr⟩
theorem l8.below(h:l8 w wx B rb ag S l b)(hb:aAW wx.heap.size wx wy):l8 w wy B rb ag S l b:=⟨h.rd.below hb,h.st.trans (bX hb),h.hr⟩
theorem l8.all(h:l8 w wx B rb ag S l b):wx.cell? ⟨w.heap.size,0,none⟩=aBf (.int .i64 0)/\wx.cell? ⟨w.heap.size,1,none⟩=aBf (.int .i64 0)/\wx.cell? ⟨w.heap.size,2,none⟩=aBf (.int .i64 0)/\wx.cell? ⟨w.heap.size,3,none⟩=aBf (.string ⟨#[]⟩)/\wx.cell? ⟨w.heap.size,4,none⟩=aBf (.int .i64 0)/\wx.cell? ⟨w.heap.size,5,none⟩=aBf (.slice none 0 0)/\wx.cell? ⟨w.heap.size+1,0,none⟩=aBf (.int .i64 0)/\wx.cell? ⟨w.heap.size+1,1,none⟩=aBf (.int .i64 0)/\wx.cell? ⟨w.heap.size+1,2,none⟩=aBf (.int .i64 0)/\wx.cell? ⟨w.heap.size+1,3,none⟩=aBf (.string ⟨#[]⟩)/\wx.cell? ⟨w.heap.size+1,4,none⟩=aBf (.int .i64 0)/\wx.cell? ⟨w.heap.size+1,5,none⟩=aBf (.slice none 0 0)/\(∀j,wx.frozen? ⟨w.heap.size,j,none⟩=false)/\(∀j,wx.frozen? ⟨w.heap.size+1,j,none⟩=false)/\wx.cell? ⟨rb,0,none⟩=aBf (.int .i64 ag)/\wx.cell? ⟨rb,1,none⟩=aBf (.string (tx S))/\wx.cell? ⟨rb,2,none⟩=aBf (.int .i64 (bP (aJ l)))/\wx.cell? ⟨rb,3,none⟩=aBf (.string (tx (aJ l)))/\wx.cell? ⟨rb,4,none⟩=aBf (.int .i64 (eI S.length l))/\wx.cell? ⟨rb,5,none⟩=aBf (.int .i64 (iR S.length l))/\wx.cell? ⟨rb,6,none⟩=aBf (.int .i64 b)/\(∀j,wx.frozen? ⟨rb,j,none⟩=false)/\rb<wx.heap.size/\rb<w.heap.size/\w.heap.size≠rb/\w.heap.size<wx.heap.size/\w.heap.size+1<wx.heap.size:=by
 have hr:=h.hr;have r:=h.rd.cells;have e1:(w.alloc fR).heap.size=w.heap.size+1:=aq;have a:=(((aW.new w #[.int .i64 0,.int .i64 0,.int .i64 0,.string ⟨#[]⟩,.int .i64 0,.slice none 0 0] 28).below (al _ fR)).step h.st ah);have c:=((aW.new (w.alloc fR) #[.int .i64 0,.int .i64 0,.int .i64 0,.string ⟨#[]⟩,.int .i64 0,.slice none 0 0] 28).step h.st ah);rw[e1]at c;have hz:=h.st.grown.size;simp at hz;refine⟨a.get 0 _ rfl,a.get 1 _ rfl,a.get 2 _ rfl,a.get 3 _ rfl,a.get 4 _ rfl,a.get 5 _ rfl,c.get 0 _ rfl,c.get 1 _ rfl,c.get 2 _ rfl,c.get 3 _ rfl,c.get 4 _ rfl,c.get 5 _ rfl,fun j=>?_,fun j=>?_,r.c0,r.c1,r.c2,r.c3,r.c4,r.c5,r.c6,r.fz,r.lt,hr,ah,ah,ah⟩
 ·rw[iE h.st aC ah j]
  rw[fW (w:=w.alloc fR) (al _ _) aq j];exact Fu
 rw[iE h.st aq ah j,<-e1];exact cJ (w.alloc fR) _ _ j
theorem l8.mj(h:l8 w wx B rb ag S l b){c:Nat}(hg:wx.grownBy wy (aBf c))(hc:w.heap.size+2<=c):l8 w wy B rb ag S l b:=
 ⟨h.rd.mj hg (bE h.hr),DJ h.st hg aC,h.hr⟩
theorem l8.st1(h:l8 w wx B rb ag S l b):St (w.alloc fR) wx rb:=(St.new (St.refl _ rb) fR).trans h.st
theorem l8.err{l0:List Tok}{p:PR Nd}{e:aBp}(h:l8 w wx B rb ag S l (eI S.length l0))(hp:p= .error l0)(hg:wx.grownBy wy (aBf w.heap.size))(hj:JN e):oq w B rb ag S p (VN w.heap.size) JN e wy:=
 VN.Vd h.rd h.st1 hg h.hr hp hj
theorem l8.ez{p:PR Nd}{e:aBp}{x:Nd}(h:l8 w wx B rb ag S l (-1))(hp:p= .ok (x,l))(hg:wx.grownBy wy (aBf w.heap.size))(y:Nd)(hN:cI wx (w.heap.size+1) y)(hn:(jF y).Nodup)(hx:bO y=x)(he:e= .returned (vN y)):oq w B rb ag S p (VN w.heap.size) JN e wy:=
 VN.Vj h.rd h.st1 hg h.hr y hN hn (by rw[hx];exact hp) he
theorem ain(R:dM w B rb ag S l (-1)){n m:Nat}(hm:l.length<=m+1)(NOT:aJ l≠[]->Sc 240 #[.pointer (some ⟨rb,0,none⟩)] B rb ag S m (cz ag n)):aA7 prog 240 #[.pointer (some ⟨rb,0,none⟩)] w (oq w B rb ag S (cz ag (n+1) l) (VN w.heap.size) JN):=by
 have htl:l.tail.length=l.length-1:=Cb;have NT:=af (fun(w:aAX) (R:dM w B rb ag S l.tail (-1)) (h:aJ l≠[])=>NOT h w l.tail R ah);have OT:=af (fun(w:aAX) (R:dM w B rb ag S l.tail (-1)) (h:aJ l≠[])=>show aA7 prog 162 #[.pointer (some ⟨rb,0,none⟩),.bool true] w (oq w B rb ag S (jt (cz ag n) l.tail) (VN w.heap.size) JN)from Qf (b:=true) rfl R (m:=m) ah (fun w l R hm=>Qf (b:=false) rfl R hm (NOT h) (fun l x r _ h=>(vp ag n l x r h).2)) (fun l x r _ h=>(G6 (.inl rfl) (vp ag n) l x r h).2));have I1:=af (fun(w:aAX) (R:dM w B rb ag S l (-1))=>A6 R 3 [126] rfl);have I2:=af (fun(w:aAX) (R:dM w B rb ag S l (-1))=>A6 R 3 [40] rfl);have I3:=af (fun(w:aAX) (R:dM w B rb ag S l (-1))=>A6 R 1 [116,114,117,101] rfl);have TK:=af (fun w=>Qh (s:=S) R.sl R.lx.next.1 w);rw[R.lx.next.2]at TK;have A1:=af (fun h=>ag6 (ag:=ag) (n:=n) (l:=l) h);have A2:=af (fun h=>ag7 (ag:=ag) (n:=n) (l:=l) h);have A3:=af (fun h h2=>ag8 (ag:=ag) (n:=n) (l:=l) h h2);have A4:=af (fun h1 h2 h3=>ag9 (ag:=ag) (n:=n) (l:=l) h1 h2 h3);generalize cz ag (n+1) l=P at*;have V:=af (l8.new R);obtain⟨p0,p1,p2,p3,p4,p5,q0,q1,q2,q3,q4,q5,f1,f2,c0,c1,c2,c3,c4,c5,c6,fz,lt,fk,aN,dn,dS⟩:=V.oo.all;go_in
 by_cases h1:aJ l=[126]
 ·have HA:=af (A1.oo h1)
  have H1:=af (show decide (aJ l=[126])=true from eU h1);have ON:=af (sF V.oo.rd);have NT:=af (fun w R=>NT.oo w R (by rw[h1];decide))
  go_wp2_with (go_at_call 159;refine aK (I1.oo _ V.oo.rd) ?_;rw[H1.oo])
  refine(ON.oo).mono ?_;rintro e w1 ⟨rfl,S1,R1⟩;have V:=af (V.oo.step S1 R1);obtain⟨p0,p1,p2,p3,p4,p5,q0,q1,q2,q3,q4,q5,f1,f2,c0,c1,c2,c3,c4,c5,c6,fz,lt,fk,aN,dn,dS⟩:=V.oo.all;go_wp2_with fail;refine(NT.oo _ V.oo.rd).mono ?_;rintro e w2 h;rcases hnt:cz ag n l.tail with er|⟨x,r⟩
  ·rw[hnt]at HA h
   obtain⟨⟨y,rfl⟩,S1,l2,R1⟩:=h.err (l:=er) rfl;have V:=af (V.oo.step S1 R1);obtain⟨p0,p1,p2,p3,p4,p5,q0,q1,q2,q3,q4,q5,f1,f2,c0,c1,c2,c3,c4,c5,c6,fz,lt,fk,aN,dn,dS⟩:=V.oo.all;have V:=af ((V.oo.below (al _ (bY y))).below (al _ (bY y)));go_wp2_with fail;exact aZ (by simp[results,results240,go_sem,p0,p1,p2,p3,p4,p5,dn,dQ,Nd.kind,Nd.th,Nd.val,Nd.a,Nd.c,Nd.aP,dP]<;>rfl) rfl (V.oo.err HA.oo (bK.grown (by refine bK.al ?_ _;refine bK.al ?_ _;(repeat refine bK.put ?_ _ _);exact bK.refl _ _)) ⟨.mk 3 dQ 0 (aBf ⟨w2.heap.size+1,0,none⟩) 1 [y],rfl⟩)
  rw[hnt]at HA h
  obtain⟨⟨y,hy,rfl,dm,iI⟩,R1,S1⟩:=h.ez (x:=x) (r:=r) rfl;have V:=af (V.oo.step S1 R1);obtain⟨p0,p1,p2,p3,p4,p5,q0,q1,q2,q3,q4,q5,f1,f2,c0,c1,c2,c3,c4,c5,c6,fz,lt,fk,aN,dn,dS⟩:=V.oo.all;have N1:=iM.one ((dm.keep (al _ (bY y))).mono (B':=w.heap.size+1) ah) iI aC;rw[gQ]at N1;have N1:=af (N1.node 3 dQ 0 ay aq);have HY:=af hy;have V:=af ((V.oo.below (al _ (bY y))).below (al _ (bY y)));go_wp2_with fail;exact aZ (by simp[results,results240,go_sem,p0,p1,p2,p3,p4,p5,dn,dQ,Nd.kind,Nd.th,Nd.val,Nd.a,Nd.c,Nd.aP,dP]<;>rfl) rfl (V.oo.ez HA.oo (bK.grown (by refine bK.al ?_ _;refine bK.al ?_ _;(repeat refine bK.put ?_ _ _);exact bK.refl _ _)) (.mk 3 dQ 0 (aBf ⟨w2.heap.size+1,0,none⟩) 1 [y]) N1.oo.1 N1.oo.2 (by rw[bO,wG,qa,HY.oo];rfl) rfl)
 have H1:=af (show decide (aJ l=[126])=false from eZ h1)
 by_cases h2:aJ l=[40]
 ·have HA:=af (A2.oo h2)
  have H2:=af (show decide (aJ l=[40])=true from eU h2);have ON:=af (sF V.oo.rd);have OT:=af (fun w R=>OT.oo w R (by rw[h2];decide));go_wp2_with fail;refine aK (I1.oo _ V.oo.rd) ?_;rw[H1.oo];go_wp2_with fail;refine aK (I2.oo _ V.oo.rd) ?_;rw[H2.oo];go_wp2_with fail;refine(ON.oo).mono ?_;rintro e w1 ⟨rfl,S1,R1⟩;have V:=af (V.oo.step S1 R1);obtain⟨p0,p1,p2,p3,p4,p5,q0,q1,q2,q3,q4,q5,f1,f2,c0,c1,c2,c3,c4,c5,c6,fz,lt,fk,aN,dn,dS⟩:=V.oo.all;go_wp2_with fail;refine(OT.oo _ V.oo.rd).mono ?_;rintro e w2 h;rcases hnt:jt (cz ag n) l.tail with er|⟨x,r⟩
  ·rw[hnt]at HA h
   obtain⟨⟨y,rfl⟩,S1,l2,R1⟩:=h.err (l:=er) rfl;have V:=af (V.oo.step S1 R1);obtain⟨p0,p1,p2,p3,p4,p5,q0,q1,q2,q3,q4,q5,f1,f2,c0,c1,c2,c3,c4,c5,c6,fz,lt,fk,aN,dn,dS⟩:=V.oo.all;have V:=af (V.oo.below (al _ (bY y)));have WB:=af (KW V.oo.rd ah 3 [41])
   go_wp2_with (go_at_call 161;refine aK WB.oo ?_)
   exact aZ (by simp[results,results240,go_sem,p0,p1,p2,p3,p4,p5,dn]<;>rfl) rfl (V.oo.err HA.oo (bK.grown (by refine bK.al ?_ _;(repeat refine bK.put ?_ _ _);exact bK.refl _ _)) ⟨y,rfl⟩)
  rw[hnt]at HA h
  obtain⟨⟨y,hy,rfl,dm,iI⟩,R1,S1⟩:=h.ez (x:=x) (r:=r) rfl;have V:=af (V.oo.step S1 R1);obtain⟨p0,p1,p2,p3,p4,p5,q0,q1,q2,q3,q4,q5,f1,f2,c0,c1,c2,c3,c4,c5,c6,fz,lt,fk,aN,dn,dS⟩:=V.oo.all;have hrw:rb<w2.heap.size:=ah;have V:=af (V.oo.below (al _ (bY y)));have dm:=af (dm.keep (al _ (bY y)));have iI:=af iI;have HY:=af hy;have WN:=af (A7 V.oo.rd 3 [41] rfl ay);go_wp2_with fail;refine(WN.oo).mono ?_;rintro e w3 h;rcases ht:bQ [41] r with er|r2
  ·rw[ht]at HA h
   obtain⟨hv,S1,l2,R1⟩:=h.err (l:=er) rfl;unfold JU at hv;subst hv;have b5:=j8 S1 hrw;obtain⟨e0,e1,e2,e3,e4,e5⟩:=b5.kK;have Ww:w2.heap.size<w3.heap.size:=by have:=S1.grown.size;simp at this;omega
   have V:=af (V.oo.step S1 R1);obtain⟨p0,p1,p2,p3,p4,p5,q0,q1,q2,q3,q4,q5,f1,f2,c0,c1,c2,c3,c4,c5,c6,fz,lt,fk,aN,dn,dS⟩:=V.oo.all;go_wp2_with fail;exact aZ (by simp[results,results240,go_sem,p0,p1,p2,p3,p4,p5]<;>rfl) rfl (V.oo.err HA.oo iQ ⟨y,rfl⟩)
  rw[ht]at HA h
  obtain⟨hv,R1,S1⟩:=h.ez (x:=()) (r:=r2) rfl;unfold VU at hv;subst hv;have b5:=j8 S1 hrw;obtain⟨e0,e1,e2,e3,e4,e5⟩:=b5.kK;have Ww:w2.heap.size<w3.heap.size:=by have:=S1.grown.size;simp at this;omega
  have dm:=af ((dm.oo.mono (B':=w.heap.size+1) ah).st S1 ah);have V:=af (V.oo.step S1 R1);obtain⟨p0,p1,p2,p3,p4,p5,q0,q1,q2,q3,q4,q5,f1,f2,c0,c1,c2,c3,c4,c5,c6,fz,lt,fk,aN,dn,dS⟩:=V.oo.all;go_wp2_with fail;exact aZ (by simp[results,results240,go_sem,p0,p1,p2,p3,p4,p5]<;>rfl) rfl (V.oo.ez HA.oo iQ y dm.oo iI.oo HY.oo rfl)
 have H2:=af (show decide (aJ l=[40])=false from eZ h2);have A4:=af (fun h=>A4.oo h1 h2 h)
 by_cases h3:aJ l=[116,114,117,101]
 focus
  have H3:=af (show decide (aJ l=[116,114,117,101])=true from eU h3);have A3:=af (A3.oo h3);go_wp2_with fail;refine aK (I1.oo _ V.oo.rd) ?_;rw[H1.oo];go_wp2_with fail;refine aK (I2.oo _ V.oo.rd) ?_;rw[H2.oo];go_wp2_with fail;refine aK (I3.oo _ V.oo.rd) ?_;rw[H3.oo];go_upto_region 12 with(fail);generalize (w.alloc fR).alloc fR=W0 at*;have E0:aAW W0.heap.size W0 W0.drew:=below_drewN W0 1;have V0:=af (V.oo.below E0);obtain⟨c0,c1,c2,c3,c4,c5,c6,fz,lt, -⟩:=V0.oo.rd.cells
  go_cut [6] (fun x wx=> ∃b6:Nat,x= .pointer (some ⟨b6,0,none⟩)/\l8 w wx B rb ag S l (-1)/\aW wx b6 [.int .i64 (bP (aJ l.tail)),.string (tx (aJ l.tail)),.int .i64 (eI S.length l.tail),.int .i64 (iR S.length l.tail)])
  case first=>
   go_region_with (go_at_call 119;refine aQ (TK.oo _) fun w1 E1=>?_;first|(have V1:=af (V0.oo.below E1))|(have V1:=af ((V0.oo.below (al _ (.cells #[.int .i64 0,.string ⟨#[]⟩,.int .i64 0,.int .i64 0] 145))).below E1);have b6:=(aW.new W0.drew #[.int .i64 0,.string ⟨#[]⟩,.int .i64 0,.int .i64 0] 145).below E1;have u0:w1.cell? ⟨W0.heap.size,0,none⟩=some (.int .i64 0):=b6.get 0 _ rfl;have u1:w1.cell? ⟨W0.heap.size,1,none⟩=some (.string ⟨#[]⟩):=b6.get 1 _ rfl;have u2:w1.cell? ⟨W0.heap.size,2,none⟩=some (.int .i64 0):=b6.get 2 _ rfl;have u3:w1.cell? ⟨W0.heap.size,3,none⟩=some (.int .i64 0):=b6.get 3 _ rfl;have fu: ∀j,w1.frozen? ⟨W0.heap.size,j,none⟩=false:=fun j=>(fW E1 (b:=W0.drew.heap.size) aq j).trans (cJ W0.drew _ _ j)))
   all_goals(go_wp2_with fail;go_meet)
   all_goals first|(refine⟨w1.heap.size,(by with_reducible rfl),?_,?_⟩;exact V1.oo.below (al _ _);exact aW.new w1 _ _)|(refine⟨W0.heap.size,(by with_reducible rfl),?_,?_⟩;exact V1.oo.mj iQ ah;exact((((show aW w1 W0.heap.size _ from b6).set 0 _).set 1 _).set 2 _).set 3 _)
  obtain⟨b6,rfl,V,Nn⟩:=hcut;have V:=af V;obtain⟨p0,p1,p2,p3,p4,p5,q0,q1,q2,q3,q4,q5,f1,f2,c0,c1,c2,c3,c4,c5,c6,fz,lt,fk,aN,dn,dS⟩:=V.oo.all
  by_cases h4:aJ l.tail=[61]
  rotate_left
  ·have HA:=af (A3.oo h4)
   have z:=eD _ _ h4;obtain⟨t0,t1⟩:=Nn.qb;have ON:=af (sF V.oo.rd)
   by_cases hk:bP (aJ l.tail)=3
   all_goals
    go_wp2_with fail;refine(ON.oo).mono ?_;rintro e w1 ⟨rfl,S1,R1⟩;have V:=af (V.oo.step S1 R1);obtain⟨p0,p1,p2,p3,p4,p5,q0,q1,q2,q3,q4,q5,f1,f2,c0,c1,c2,c3,c4,c5,c6,fz,lt,fk,aN,dn,dS⟩:=V.oo.all;go_wp2_with fail;exact aZ (by simp[results,results240,go_sem,p0,p1,p2,p3,p4,p5,dQ,Nd.kind,Nd.th,Nd.val,Nd.a,Nd.c,Nd.aP,dP]<;>rfl) rfl (V.oo.ez HA.oo iQ (.mk 1 dQ 0 none 0 []) (cI.leaf _ _ 1 dQ 0 ay).1 (cI.leaf w 0 1 dQ 0 ay).2 (by rw[bO,qa];rfl) rfl)
  have HA:=af (A4.oo (.inr h4));rw[h4]at Nn;have uQ:bP [61]=3:=rfl;have z61:((tx [61]).toList==[61])=true:=by rw[bU];decide
  rw[uQ]at Nn;obtain⟨t0,t1⟩:=Nn.qb;generalize tx [61]=u61 at*
 rotate_left
 focus
  have H3:=af (show decide (aJ l=[116,114,117,101])=false from eZ h3);have HA:=af (A4.oo (.inl h3));go_wp2_with fail;refine aK (I1.oo _ V.oo.rd) ?_;rw[H1.oo];go_wp2_with fail;refine aK (I2.oo _ V.oo.rd) ?_;rw[H2.oo];go_wp2_with fail;refine aK (I3.oo _ V.oo.rd) ?_;rw[H3.oo]
 all_goals
  go_wp2_with fail;refine(auw V.oo.rd).mono ?_;rintro e w2 h;rcases tS:fQ ag l with er|⟨t,r⟩
  ·have HA:=af (HA.oo.trans (ak9 tS))
   rw[tS]at h;obtain⟨⟨t,rfl,htl⟩,S1,l2,R1⟩:=h.err (l:=er) rfl;have V:=af (V.oo.step S1 R1);obtain⟨p0,p1,p2,p3,p4,p5,q0,q1,q2,q3,q4,q5,f1,f2,c0,c1,c2,c3,c4,c5,c6,fz,lt,fk,aN,dn,dS⟩:=V.oo.all;have V:=af (V.oo.below (al _ (.cells #[.int .i64 t.aO,.int .i64 t.aR,.string (tx t.aj)] 25)));have WB:=af (KW V.oo.rd ah 3 [61])
   go_wp2_with (go_at_call 161;refine aK WB.oo ?_)
   exact aZ (by simp[results,results240,go_sem,p0,p1,p2,p3,p4,p5,dn,dQ,Nd.kind,Nd.th,Nd.val,Nd.a,Nd.c,Nd.aP,dP]<;>rfl) rfl (V.oo.err HA.oo (bK.grown (by refine bK.al ?_ _;(repeat refine bK.put ?_ _ _);exact bK.refl _ _)) ⟨zNd,rfl⟩)
  rw[tS]at h;obtain⟨⟨rfl,htl⟩,R1,S1⟩:=h.ez (x:=t) (r:=r) rfl;have V:=af (V.oo.step S1 R1);obtain⟨p0,p1,p2,p3,p4,p5,q0,q1,q2,q3,q4,q5,f1,f2,c0,c1,c2,c3,c4,c5,c6,fz,lt,fk,aN,dn,dS⟩:=V.oo.all;have hrw:rb<w2.heap.size:=ah;have V:=af (V.oo.below (al _ (.cells #[.int .i64 t.aO,.int .i64 t.aR,.string (tx t.aj)] 25)));have WN:=af (A7 V.oo.rd 3 [61] rfl ay);have rM:=af tS;go_wp2_with fail;refine(WN.oo).mono ?_;rintro e w3 h;rcases ht:bQ [61] r with er|r2
  ·have HA:=af (HA.oo.trans (ala rM.oo ht))
   rw[ht]at h;obtain⟨hv,S1,l2,R1⟩:=h.err (l:=er) rfl;unfold JU at hv;subst hv;exact acA
  have HT:=af ht;rw[ht]at h;obtain⟨hv,R1,S1⟩:=h.ez (x:=()) (r:=r2) rfl;unfold VU at hv;subst hv;have b7:=j8 S1 hrw;have hz7:w2.heap.size<w3.heap.size:=by have:=S1.grown.size;simp at this;omega
  have V:=af (V.oo.step S1 R1);obtain⟨p0,p1,p2,p3,p4,p5,q0,q1,q2,q3,q4,q5,f1,f2,c0,c1,c2,c3,c4,c5,c6,fz,lt,fk,aN,dn,dS⟩:=V.oo.all;have NM:=af (fun w=>Yc (aJ r2) w);rcases hn:bN (aJ r2)with- |v
  ·have HA:=af (HA.oo.trans (alb rM.oo HT.oo hn))
   have Rt:=af hn;have WR:=af (Dz V.oo.rd)
   by_cases hk2:bP (aJ r2)=2
   all_goals
    go_wp2_with (go_at_call 116;refine aK (NM.oo _) ?_;rw[Rt.oo])
    refine(WR.oo).mono ?_;rintro e w4 ⟨rfl,S1,R1⟩;exact acA
  have HA:=af (HA.oo.trans (alc rM.oo HT.oo hn));have Rt:=af hn;have hk2:bP (aJ r2)=2:=Kv hn;have ON:=af (sF V.oo.rd)
  go_wp2_with (go_at_call 116;refine aK (NM.oo _) ?_;rw[Rt.oo])
  refine(ON.oo).mono ?_;rintro e w4 ⟨rfl,S1,R1⟩;have b7:=b7.step S1 ah;obtain⟨u0,u1,u2⟩:=b7.tI;have hz8:w2.heap.size<w4.heap.size:=by have:=S1.grown.size;omega
  have V:=af (V.oo.step S1 R1);obtain⟨p0,p1,p2,p3,p4,p5,q0,q1,q2,q3,q4,q5,f1,f2,c0,c1,c2,c3,c4,c5,c6,fz,lt,fk,aN,dn,dS⟩:=V.oo.all;go_wp2_with fail;exact aZ (by simp[results,results240,go_sem,p0,p1,p2,p3,p4,p5,Nd.kind,Nd.th,Nd.val,Nd.a,Nd.c,Nd.aP]<;>rfl) rfl (V.oo.ez HA.oo iQ (.mk 2 t v none 0 []) (cI.leaf _ _ 2 t v htl).1 (cI.leaf w 0 2 t v htl).2 (by rw[bO,qa]) rfl)
theorem aum(n:Nat):Sc 240 #[.pointer (some ⟨rb,0,none⟩)] B rb ag S n (cz ag (n+1)):=by
 induction n with
 |zero=>exact fun w l R hm=>ain R (m:=0) ah fun h=>absurd (by rw[lH (Nat.le_zero.1 hm)];rfl) h
 |succ n ih=>exact fun w l R hm=>ain R hm fun _=>ih
theorem aul(R:dM w B rb ag S l (-1)):aA7 prog 162 #[.pointer (some ⟨rb,0,none⟩),.bool true] w (oq w B rb ag S (jt (cz ag (l.length+1)) l) (VN w.heap.size) JN):=
 Qf (b:=true) rfl R (m:=l.length) (aX _) (fun w l' R hm=>Qf (b:=false) rfl R hm (aum _) (fun l x r _ h=>(vp ag _ l x r h).2)) (fun l x r _ h=>(G6 (.inl rfl) (vp ag _) l x r h).2)
end
theorem ajE(w:aAX)(b:Nat)(x:Nd):(((((w.setCell ⟨b,0,none⟩ (.int .i64 x.kind)).setCell ⟨b,1,none⟩ (.int .i64 x.th.aO)).setCell ⟨b,2,none⟩ (.int .i64 x.th.aR)).setCell ⟨b,3,none⟩ (.string (tx x.th.aj))).setCell ⟨b,4,none⟩ (.int .i64 x.val)).setCell ⟨b,5,none⟩ (.slice x.a x.aP.length x.c)=y8 w b x:=rfl
abbrev Q7:List Value:=[.int .i64 0,.int .i64 0,.int .i64 0,.int .i64 0,.string ⟨#[]⟩,.int .i64 0,.slice none 0 0]
structure l9(w wx:aAX)(rb:Nat)(ag:Int)(S:Tx)(l:List Tok)(b:Int):Prop where
 rd:dM wx w.heap.size rb ag S l b
 b0:aW wx w.heap.size Q7
 b1:aW wx (w.heap.size+1) Q7
 f0: ∀j,wx.frozen? ⟨w.heap.size,j,none⟩=false
 cF:aAW w.heap.size w wx
 hr:w.heap.size+2<=rb
 sz:w.heap.size+2<=wx.heap.size
section
variable {w wx wy:aAX} {rb:Nat} {ag:Int} {S:Tx} {l l':List Tok} {b b':Int}
theorem l9.below(h:l9 w wx rb ag S l b)(hb:aAW wx.heap.size wx wy):l9 w wy rb ag S l b:=by
 have hs:=h.sz;have hz:=hb.size;exact⟨h.rd.below hb,h.b0.below hb,h.b1.below hb,fun j=>(fW hb ah j).trans (h.f0 j),aI h.cF hb,h.hr,ah⟩
theorem l9.step(h:l9 w wx rb ag S l b)(hs:St wx wy rb)(hr:dM wy w.heap.size rb ag S l' b'):l9 w wy rb ag S l' b':=by
 have hsz:=h.sz;have hz:=hs.grown.size;have h0:=h.hr;exact⟨hr,h.b0.step hs ah,h.b1.step hs ah,fun j=>(iE hs ah ah j).trans (h.f0 j),h.cF.grown hs.grown h.cF.size (fun r hr'=>by simp at hr';omega),h0,ah⟩
abbrev aiw(ag:Int)(S:Tx)(l:List Tok):Obj:=.cells #[.int .i64 ag,.string (tx S),.int .i64 (bP (aJ l)),.string (tx (aJ l)),.int .i64 (eI S.length l),.int .i64 (iR S.length l),.int .i64 (-1)] 189
theorem l9.new{w w2:aAX}{ag:Int}{S:Tx}{l:List Tok}(E:aAW ((w.alloc (zC 0)).alloc (zC 0)).heap.size ((w.alloc (zC 0)).alloc (zC 0)) w2)(hx:Lx S l)(hs:S.length<=262144):l9 w (w2.alloc (aiw ag S l)) w2.heap.size ag S l (-1):=by
 have hz:=E.size;simp only[gQ]at hz;have e1:(w.alloc (zC 0)).heap.size=w.heap.size+1:=aq;have a:aW w2 w.heap.size Q7:=((aW.new w #[.int .i64 0,.int .i64 0,.int .i64 0,.int .i64 0,.string ⟨#[]⟩,.int .i64 0,.slice none 0 0] 30).below (al _ (zC 0))).below E
 have c:aW w2 (w.heap.size+1) Q7:=by
  have:=(aW.new (w.alloc (zC 0)) #[.int .i64 0,.int .i64 0,.int .i64 0,.int .i64 0,.string ⟨#[]⟩,.int .i64 0,.slice none 0 0] 30).below E;rw[e1]at this;exact this
 refine⟨⟨?_,hx,hs⟩,a.below (al _ _),c.below (al _ _),fun j=>?_,?_,ah,aC⟩
 ·exact Ab w2 (e:=189) #[.int .i64 ag,.string (tx S),.int .i64 (bP (aJ l)),.string (tx (aJ l)),.int .i64 (eI S.length l),.int .i64 (iR S.length l),.int .i64 (-1)] 1 ah (size:=7) dx aq
 ·rw[fW (al w2 _) ah j,fW E aC j,fW (w:=w.alloc (zC 0)) (al _ _) aq j]
  exact Fu
 exact(((al w (zC 0)).trans ((al _ (zC 0)).mono aq)).trans (E.mono aC)).trans ((al w2 _).mono ah)
theorem l9.fin(h:l9 w wx rb ag S l b)(hg:wx.grownBy wy (aBf w.heap.size)):aAW w.heap.size w wy:=
 h.cF.grown hg h.cF.size (fun r hr'=>by simp at hr';omega)
theorem l9.mj(h:l9 w wx rb ag S l b){c:Nat}(hg:wx.grownBy wy (aBf c))(hc:w.heap.size+2<=c)(hr:c≠rb):l9 w wy rb ag S l b:=by
 have hz:=hg.size;have hs:=h.sz;have hst:St wx wy c:=ae3 hg;exact⟨h.rd.mj hg hr,h.b0.step hst ah,h.b1.step hst ah,fun j=>(iE hst ah ah j).trans (h.f0 j),h.cF.grown hg h.cF.size (fun r hr'=>by simp at hr';omega),h.hr,ah⟩
theorem l9.err(h:l9 w wx rb ag S l b)(hg:wx.grownBy wy (aBf w.heap.size)){n:Int}{k:Nat}{e:aBp}{pp:Except (Int × Nat) (Int × Nd)}(hp:pp= .error (n,k))(he:e= .returned (.tuple #[.agg #[.int .i64 0,.int .i64 0,.int .i64 0,.int .i64 0,.string ⟨#[]⟩,.int .i64 0,.slice none 0 0],.int .i64 n,.int .i64 k])):pg pp w e wy:=by
 subst hp;exact⟨h.fin hg,he⟩
theorem l9.ez(h:l9 w wx rb ag S l b)(hg:wx.grownBy wy (aBf w.heap.size)){q:Int}{x y:Nd}{e:aBp}{pp:Except (Int × Nat) (Int × Nd)}(hp:pp= .ok (q,x))(hN:cI wx (w.heap.size+1) y)(hn:(jF y).Nodup)(hy:bO y=x)(he:e= .returned (.tuple #[vC q y,.int .i64 0,.int .i64 0])):pg pp w e wy:=by
 subst hp;refine⟨h.fin hg,y,hy,he,?_,hn⟩;refine(hN.mono (B':=w.heap.size) ah).kept hg fun b hb e=>?_
 exact Oi
theorem l9.all(h:l9 w wx rb ag S l b):wx.cell? ⟨w.heap.size,0,none⟩=aBf (.int .i64 0)/\wx.cell? ⟨w.heap.size,1,none⟩=aBf (.int .i64 0)/\wx.cell? ⟨w.heap.size,2,none⟩=aBf (.int .i64 0)/\wx.cell? ⟨w.heap.size,3,none⟩=aBf (.int .i64 0)/\wx.cell? ⟨w.heap.size,4,none⟩=aBf (.string ⟨#[]⟩)/\wx.cell? ⟨w.heap.size,5,none⟩=aBf (.int .i64 0)/\wx.cell? ⟨w.heap.size,6,none⟩=aBf (.slice none 0 0)/\wx.cell? ⟨w.heap.size+1,0,none⟩=aBf (.int .i64 0)/\wx.cell? ⟨w.heap.size+1,1,none⟩=aBf (.int .i64 0)/\wx.cell? ⟨w.heap.size+1,2,none⟩=aBf (.int .i64 0)/\wx.cell? ⟨w.heap.size+1,3,none⟩=aBf (.int .i64 0)/\wx.cell? ⟨w.heap.size+1,4,none⟩=aBf (.string ⟨#[]⟩)/\wx.cell? ⟨w.heap.size+1,5,none⟩=aBf (.int .i64 0)/\wx.cell? ⟨w.heap.size+1,6,none⟩=aBf (.slice none 0 0)/\(∀j,wx.frozen? ⟨w.heap.size,j,none⟩=false)/\wx.cell? ⟨rb,0,none⟩=aBf (.int .i64 ag)/\wx.cell? ⟨rb,1,none⟩=aBf (.string (tx S))/\wx.cell? ⟨rb,2,none⟩=aBf (.int .i64 (bP (aJ l)))/\wx.cell? ⟨rb,3,none⟩=aBf (.string (tx (aJ l)))/\wx.cell? ⟨rb,4,none⟩=aBf (.int .i64 (eI S.length l))/\wx.cell? ⟨rb,5,none⟩=aBf (.int .i64 (iR S.length l))/\wx.cell? ⟨rb,6,none⟩=aBf (.int .i64 b)/\(∀j,wx.frozen? ⟨rb,j,none⟩=false)/\rb<wx.heap.size/\w.heap.size+2<=wx.heap.size/\w.heap.size+2<=rb:=by
 have r:=h.rd.cells;exact⟨h.b0.get 0 _ rfl,h.b0.get 1 _ rfl,h.b0.get 2 _ rfl,h.b0.get 3 _ rfl,h.b0.get 4 _ rfl,h.b0.get 5 _ rfl,h.b0.get 6 _ rfl,h.b1.get 0 _ rfl,h.b1.get 1 _ rfl,h.b1.get 2 _ rfl,h.b1.get 3 _ rfl,h.b1.get 4 _ rfl,h.b1.get 5 _ rfl,h.b1.get 6 _ rfl,h.f0,r.c0,r.c1,r.c2,r.c3,r.c4,r.c5,r.c6,r.fz,r.lt,h.sz,h.hr⟩
end
theorem aqo(h:Lx S l)(hl:l≠[]):bP (aJ l)≠0:=by
 cases l with
 |nil=>exact absurd rfl hl
 | cons t r=>
   have h1:=h.head.1;show bP t.1≠0;cases ht:t.1 with
   |nil=>rw[ht]at h1;simp at h1
   | cons c u=>
     rw[AV];split
     ·simp
     split<;>simp
theorem amo(h:aJ l=[102,111,114,97,108,108]):jk l= .ok (3,l.tail):=by unfold jk;rw[ak h]
theorem amq(h:aJ l=[126]):jk l=match bQ [101,120,105,115,116,115] l.tail with
 | .error e=>.error e
 | .ok r=>.ok (2,r):=by unfold jk;rw[ai (by rw[h];decide),ak h];rfl
theorem amr(h:aJ l≠[102,111,114,97,108,108])(h2:aJ l≠[126]):jk l=match bQ [101,120,105,115,116,115] l with
 | .error e=>.error e
 | .ok r=>.ok (1,r):=by unfold jk;rw[ai h,ai h2];rfl
theorem amY{e:List Tok}(h:jk l= .error e):mJ ag l= .error e:=by rw[JE,h]
theorem am1{q:Int}(h:jk l= .ok (q,r)):mJ ag l=mY ag q r:=by rw[JE,h]
theorem aup(h:bD ag=false)(w:aAX):aA7 prog 90 #[.int .i64 ag,.string (tx s)] w (pg (dI ag s) w):=by
 rw[ahH h];have KN:=af (fun w=>Dy ag w);have HA:=af h;go_in
 go_wp2_with (go_at_call 45;refine aK (KN.oo _) ?_;rw[HA.oo])
 exact acB
theorem auq(h:bD ag=true)(hl:262144<s.length)(hm:s.length<=9223372036854775807)(w:aAX):aA7 prog 90 #[.int .i64 ag,.string (tx s)] w (pg (dI ag s) w):=by
 rw[ahI h hl];have KN:=af (fun w=>Dy ag w);have HA:=af h;have hsz:(tx s).size=s.length:=bC s;generalize tx s=u at*;have z:decide ((262144:Int)<(u.size:Int))=true:=aC;have hm2:u.size<=9223372036854775807:=ah;go_in
 go_wp2_with (go_at_call 45;refine aK (KN.oo _) ?_;rw[HA.oo])
 exact acB
def akF(N:Nat)(l0:List Tok)(q b:Int)(l1:List Tok):Prop:=(∃er,jk l0= .error er/\b=(eI N er:Int))\/(jk l0= .ok (q,l1)/\b= -1)
theorem aur(h:bD ag=true)(hl:s.length<=262144)(w:aAX):aA7 prog 90 #[.int .i64 ag,.string (tx s)] w (pg (dI ag s) w):=by
 have KN:=af (fun w=>Dy ag w);have HA:=af h;have TK:=af (fun w=>Qh (s:=s) hl (dW _) w);rw[jg]at TK;have LX:=af (Lx.start s);obtain⟨l0,hl0⟩:=aF (lex 0 s);obtain⟨pp,fX⟩:=aF (dI ag s);have jS:=af fX;have Ic:=af hl0;have ZU:=af hl;rw[fX];rw[hl0]at TK LX;have hsz:(tx s).size=s.length:=bC s;obtain⟨u,hu⟩:=aF (tx s);have HU:=af hu;rw[hu]at hsz⊢;rw[hu]at TK;have z:decide ((262144:Int)<(u.size:Int))=false:=aC;have hm2:u.size<=9223372036854775807:=ah;go_in
 go_wp2_with (go_at_call 45;refine aK (KN.oo _) ?_;rw[HA.oo])
 refine aQ (TK.oo _) fun w2 E2=>?_
 have V:=af (l9.new (ag:=ag) E2 LX.oo ZU.oo);have AQ:w.heap.size+2<=w2.heap.size:=by have:=E2.size;simp at this;omega
 have hu:=HU.oo;subst hu;obtain⟨b1,eW⟩:=aF (decide (aJ l0=[102,111,114,97,108,108]));have Z1:=af (A6 V.oo.rd 1 [102,111,114,97,108,108] rfl);rw[eW]at Z1;have Hz:=af eW;obtain⟨c0,c1,c2,c3,c4,c5,c6,fz,lt, -⟩:=V.oo.rd.cells
 go_upto_if 28 with(go_at_call 159;refine aK Z1.oo ?_)
 obtain⟨rb,hrb⟩:=aF w2.heap.size;rw[hrb]at V⊢;rw[hrb]at c0 c1 c2 c3 c4 c5 c6 fz lt;generalize w2.alloc (aiw ag s l0)=W6 at*
 go_cut [9] (fun q wx=> ∃(q1 b1:Int) (l1:List Tok),q= .int .i64 q1/\l9 w wx rb ag s l1 b1/\Hid (akF s.length l0 q1 b1 l1))
 case first=>
  cases b1 with
  | true=>
    have HH:=af (amo (l:=l0) (wB Hz.oo));have ON:=af (sF V.oo.rd);go_wp2_with fail;refine(ON.oo).mono ?_;rintro e w3 ⟨rfl,S1,R1⟩;have V:=af (V.oo.step S1 R1);go_wp2_with fail
    go_meet
    exact⟨3, -1,l0.tail,rfl,V.oo,af (.inr ⟨HH.oo,rfl⟩)⟩
  | false=>
    have h1:aJ l0≠[102,111,114,97,108,108]:=Ex Hz.oo;have Z2:=af (A6 V.oo.rd 3 [126] rfl)
    obtain⟨k,l2,HH,hk⟩: ∃(k:Int) (l2:List Tok),Hid (jk l0=match bQ [101,120,105,115,116,115] l2 with
     | .error e=>.error e
     | .ok r=>.ok (k,r))/\(aJ l0=[126]/\k=2/\l2=l0.tail\/aJ l0≠[126]/\k=1/\l0=l2):=by
     by_cases h2:aJ l0=[126]
     ·exact⟨2,_,af (amq h2),.inl ⟨h2,rfl,rfl⟩⟩
     exact⟨1,_,af (amr h1 h2),.inr ⟨h2,rfl,rfl⟩⟩
    rcases hk with⟨h2,rfl,rfl⟩|⟨h2,rfl,rfl⟩
    focus
     have H2:=af (show decide (aJ l0=[126])=true from eU h2);have ON:=af (sF V.oo.rd)
     go_wp2_with (go_at_call 159;refine aK Z2.oo ?_;rw[H2.oo])
     refine(ON.oo).mono ?_;rintro e w3 ⟨rfl,S1,R1⟩;have V:=af (V.oo.step S1 R1);obtain⟨c0,c1,c2,c3,c4,c5,c6,fz,lt, -⟩:=V.oo.rd.cells;have WN:=af (A7 V.oo.rd 1 [101,120,105,115,116,115] rfl ay);go_wp2_with fail
    rotate_left
    focus
     have H2:=af (show decide (aJ l0=[126])=false from eZ h2);have WN:=af (A7 V.oo.rd 1 [101,120,105,115,116,115] rfl ay)
     go_wp2_with (go_at_call 159;refine aK Z2.oo ?_;rw[H2.oo])
    all_goals
     refine WN.oo.mono ?_;rintro e w4 h;generalize bQ [101,120,105,115,116,115] _=T at*;rcases T with er|r
     ·obtain⟨hv,S1,l2,R1⟩:=h.err (l:=er) rfl
      unfold JU at hv;subst hv;have V:=af (V.oo.step S1 R1);go_wp2_with fail
      go_meet
      exact⟨_,_,_,rfl,V.oo,af (.inl ⟨er,HH.oo,rfl⟩)⟩
     obtain⟨hv,R1,S1⟩:=h.ez (x:=()) (r:=r) rfl;unfold VU at hv;subst hv;have V:=af (V.oo.step S1 R1);go_wp2_with fail
     go_meet
     exact⟨_, -1,r,rfl,V.oo,af (.inr ⟨HH.oo,rfl⟩)⟩
 case rest=>
  obtain⟨q,bb,l1,rfl,V,HQ⟩:=hcut;have V:=af V;obtain⟨p0,p1,p2,p3,p4,p5,p6,q0,q1,q2,q3,q4,q5,q6,f0,c0,c1,c2,c3,c4,c5,c6,fz,lt,sz,fk⟩:=V.oo.all;have HL:=af (show bD ag=true/\s.length<=262144 from⟨HA.oo,ZU.oo⟩);rcases HQ.oo with⟨er,he,rfl⟩|⟨he,rfl⟩
  focus
   have HC:=af (amY (ag:=ag) he);have WB:=af (KW V.oo.rd ah 3 [40]);go_wp2_with fail;refine(WB.oo).mono ?_;rintro e w4 ⟨rfl,rfl⟩
  rotate_left
  focus
   have HC:=af (am1 (ag:=ag) he);have WN:=af (A7 V.oo.rd 3 [40] rfl ay);go_wp2_with fail;refine(WN.oo).mono ?_;rintro e w4 h;rcases h1:bQ [40] l1 with er|l2
   rotate_left
   ·skip
    have H1:=af h1;have ND:=af (fun(w0:aAX) (R:dM w0 w.heap.size rb ag s l2 (-1))=>aul R);rw[h1]at h;obtain⟨hv,R1,S1⟩:=h.ez (x:=()) (r:=l2) rfl;unfold VU at hv;subst hv;have V:=af (V.oo.step S1 R1);obtain⟨p0,p1,p2,p3,p4,p5,p6,q0,q1,q2,q3,q4,q5,q6,f0,c0,c1,c2,c3,c4,c5,c6,fz,lt,sz,fk⟩:=V.oo.all;have hw4:w.heap.size+2<=w4.heap.size/\rb<w4.heap.size:=⟨sz,lt⟩;have V:=af (V.oo.below (al _ fR));go_wp2_with fail;refine(ND.oo _ V.oo.rd).mono ?_;rintro e w5 h;rcases h2:jt (cz ag (l2.length+1)) l2 with er|⟨x,l3⟩
    ·have HC:=af (HC.oo.trans (abU H1.oo h2))
     rw[h2]at h;obtain⟨⟨y,rfl⟩,S1,l3',R1⟩:=h.err (l:=er) rfl;have b5:=j8 S1 lt;have Ww:w4.heap.size<w5.heap.size:=by have:=S1.grown.size;simp at this;omega
     obtain⟨d0,d1,d2,d3,d4,d5⟩:=b5.kK;have gz:=fun j=>(iE S1 (b:=w4.heap.size) aq ah j).trans (cJ w4 _ _ j)
     have V:=af ((V.oo.step S1 R1).mj (Bf w5 w4.heap.size y) ah ah);go_wp2_with fail;rw[ajE];have hz6:w4.heap.size<(y8 w5 w4.heap.size y).heap.size:=aC;generalize y8 w5 w4.heap.size y=wq at*;have WB:=af (KW V.oo.rd ah 3 [41]);refine WB.oo.mono ?_;rintro e w6 ⟨rfl,rfl⟩;obtain⟨p0,p1,p2,p3,p4,p5,p6,q0,q1,q2,q3,q4,q5,q6,f0,c0,c1,c2,c3,c4,c5,c6,fz,lt,sz,fk⟩:=V.oo.all;go_wp2_with fail
     go_big_region
     all_goals go_wp2_with fail
     all_goals exact aZ (by simp[results,results90,go_sem,p0,p1,p2,p3,p4,p5,p6]<;>rfl) rfl (V.oo.err (n:=80) (k:=eI s.length er) (bK.grown Gm) (by rw[<-jS.oo,KR HL.oo.1 HL.oo.2 (Ic.oo.symm▸HC.oo)]) rfl)
    have H2:=af h2;rw[h2]at h;obtain⟨⟨y,hy,rfl,dm,iI⟩,R1,S1⟩:=h.ez (x:=x) (r:=l3) rfl;have b5:=j8 S1 lt;have Ww:w4.heap.size<w5.heap.size:=by have:=S1.grown.size;simp at this;omega
    obtain⟨d0,d1,d2,d3,d4,d5⟩:=b5.kK;have gz:=fun j=>(iE S1 (b:=w4.heap.size) aq ah j).trans (cJ w4 _ _ j)
    have V:=af ((V.oo.step S1 R1).mj (Bf w5 w4.heap.size y) ah ah);have b6:aW (y8 w5 w4.heap.size y) w4.heap.size (cN y):=(((((b5.set 0 (.int .i64 y.kind)).set 1 (.int .i64 y.th.aO)).set 2 (.int .i64 y.th.aR)).set 3 (.string (tx y.th.aj))).set 4 (.int .i64 y.val)).set 5 (.slice y.a y.aP.length y.c);have dm:=af ((dm.mono (B':=w4.heap.size+1) aq).kept (Bf w5 w4.heap.size y) (fun b hb e=>by have:=(dm.lt b hb).1;simp at e this;omega));have iI:=af iI;have HY:=af hy;go_wp2_with fail;rw[ajE];have hz6:w4.heap.size<(y8 w5 w4.heap.size y).heap.size:=aC;generalize y8 w5 w4.heap.size y=wq at*;have WN:=af (A7 V.oo.rd 3 [41] rfl ay);obtain⟨p0,p1,p2,p3,p4,p5,p6,q0,q1,q2,q3,q4,q5,q6,f0,c0,c1,c2,c3,c4,c5,c6,fz,lt,sz,fk⟩:=V.oo.all;refine WN.oo.mono ?_;rintro e w6 h;rcases h3:bQ [41] l3 with er|l4
    ·have HC:=af (HC.oo.trans (abV H1.oo H2.oo h3))
     rw[h3]at h;obtain⟨hv,S1,l4',R1⟩:=h.err (l:=er) rfl;unfold JU at hv;subst hv;have V:=af (V.oo.step S1 R1);obtain⟨p0,p1,p2,p3,p4,p5,p6,q0,q1,q2,q3,q4,q5,q6,f0,c0,c1,c2,c3,c4,c5,c6,fz,lt,sz,fk⟩:=V.oo.all;go_wp2_with fail
     go_big_region
     all_goals go_wp2_with fail
     all_goals exact aZ (by simp[results,results90,go_sem,p0,p1,p2,p3,p4,p5,p6]<;>rfl) rfl (V.oo.err (n:=80) (k:=eI s.length er) (bK.grown Gm) (by rw[<-jS.oo,KR HL.oo.1 HL.oo.2 (Ic.oo.symm▸HC.oo)]) rfl)
    have H3:=af h3;rw[h3]at h;obtain⟨hv,R1,S1⟩:=h.ez (x:=()) (r:=l4) rfl;unfold VU at hv;subst hv;have V:=af (V.oo.step S1 R1);have dm:=af (dm.oo.st S1 ah);have b6:=b6.step S1 ah;have hz7:=S1.grown.size;obtain⟨p0,p1,p2,p3,p4,p5,p6,q0,q1,q2,q3,q4,q5,q6,f0,c0,c1,c2,c3,c4,c5,c6,fz,lt,sz,fk⟩:=V.oo.all
    by_cases h4:l4=[]
    rotate_left
    ·have HC:=af (HC.oo.trans (abW H1.oo H2.oo H3.oo h4))
     have WR:=af (Dz V.oo.rd);have hk:=aqo V.oo.rd.lx h4;go_wp2_with fail;refine(WR.oo).mono ?_;rintro e w7 ⟨rfl,S1,R1⟩;have V:=af (V.oo.step S1 R1);obtain⟨p0,p1,p2,p3,p4,p5,p6,q0,q1,q2,q3,q4,q5,q6,f0,c0,c1,c2,c3,c4,c5,c6,fz,lt,sz,fk⟩:=V.oo.all;go_wp2_with fail
     go_big_region
     all_goals go_wp2_with fail
     all_goals exact aZ (by simp[results,results90,go_sem,p0,p1,p2,p3,p4,p5,p6]<;>rfl) rfl (V.oo.err (n:=80) (k:=eI s.length l4) (bK.grown Gm) (by rw[<-jS.oo,KR HL.oo.1 HL.oo.2 (Ic.oo.symm▸HC.oo)]) rfl)
    subst h4;have hk0:bP (aJ ([]:List Tok))=0:=rfl;have HC:=af (show mJ ag (lex 0 s)= .ok ((q,x),[]) by rw[Ic.oo,HC.oo,abX H1.oo H2.oo H3.oo rfl]);obtain⟨u0,u1,u2,u3,u4,u5⟩:=b6.kK;have hz8:w4.heap.size<w6.heap.size:=ah;rw[hk0]at c2;have CK:=af (Yb ag q y (w6.alloc (kR q y)) (dm.oo.keep (al _ (kR q y))).su);rw[<-abC,HY.oo]at CK;have V:=af (V.oo.below (al _ (kR q y)));have dm:=af (dm.oo.keep (al _ (kR q y)));obtain⟨ee,hee⟩:=aF (dh ag q x);rw[hee]at CK;have Br:=af hee;go_wp2_with fail;refine aQ (CK.oo) fun w7 E7=>?_
    have V:=af (V.oo.below E7);have dm:=af (dm.oo.keep E7);have b7:=(aW.new w6 #[.int .i64 q,.int .i64 y.kind,.int .i64 y.th.aO,.int .i64 y.th.aR,.string (tx y.th.aj),.int .i64 y.val,.slice y.a y.aP.length y.c] 30).below E7;obtain⟨v0,v1,v2,v3,v4,v5,v6⟩:=b7.pI;have hz9:w6.heap.size<w7.heap.size:=by have:=E7.size;simp at this;omega
    obtain⟨p0,p1,p2,p3,p4,p5,p6,q0,q1,q2,q3,q4,q5,q6,f0,c0,c1,c2,c3,c4,c5,c6,fz,lt,sz,fk⟩:=V.oo.all
    by_cases h0:ee=0
    ·subst h0
     go_wp2_with fail;exact aZ (by simp[results,results90,go_sem,p0,p1,p2,p3,p4,p5,p6]<;>rfl) rfl (V.oo.ez (bK.grown Gm) (by rw[<-jS.oo,ahJ HL.oo.1 HL.oo.2 HC.oo Br.oo]) (dm.oo.mono (B':=w.heap.size+1) ah) iI.oo HY.oo rfl)
    have z0:(ee==0)=false:=aS h0;have HC:=af (show dI ag s= .error (ee,0) by rw[ahK HL.oo.1 HL.oo.2 HC.oo (by rw[Br.oo];exact h0),Br.oo]);go_wp2_with fail;exact aZ (by simp[results,results90,go_sem,p0,p1,p2,p3,p4,p5,p6]<;>rfl) rfl (V.oo.err (n:=ee) (k:=0) (bK.grown Gm) (by rw[<-jS.oo,HC.oo]) rfl)
   have HC:=af (HC.oo.trans (abT h1));rw[h1]at h;obtain⟨hv,S1,l2,R1⟩:=h.err (l:=er) rfl;unfold JU at hv;subst hv;have V:=af (V.oo.step S1 R1)
  all_goals
   have V:=af (V.oo.below (al _ fR));have WB:=af (KW V.oo.rd ah 3 [41]);obtain⟨p0,p1,p2,p3,p4,p5,p6,q0,q1,q2,q3,q4,q5,q6,f0,c0,c1,c2,c3,c4,c5,c6,fz,lt,sz,fk⟩:=V.oo.all;go_wp2_with fail;refine(WB.oo).mono ?_;rintro e w5 ⟨rfl,rfl⟩;go_wp2_with fail
   go_big_region
   all_goals go_wp2_with fail
   all_goals exact aZ (by simp[results,results90,go_sem,p0,p1,p2,p3,p4,p5,p6]<;>rfl) rfl (V.oo.err (n:=80) (k:=eI s.length er) (bK.grown Gm) (by rw[<-jS.oo,KR HL.oo.1 HL.oo.2 (Ic.oo.symm▸HC.oo)]) rfl)
theorem auo(ag:Int)(s:Tx)(hm:s.length<=9223372036854775807)(w:aAX):aA7 prog 90 #[.int .i64 ag,.string (tx s)] w (pg (dI ag s) w):=by
 cases h:bD ag with
 |false=>exact aup h w
 | true=>
   by_cases hl:262144<s.length
   ·exact auq h hl hm w
   exact aur h ah w
end Go.Proofs.YtkbbgjloifmmbaaGreatDoor

/- What ReadBlanksP leans on, part 23. -/
import Derived.Test.YtkbbgjloifmmbaaGreatDoorPc21
import Derived.Test.YtkbbgjloifmmbaaGreatDoorPc20
import Derived.Test.YtkbbgjloifmmbaaGreatDoorPc22
import Derived.Deep.RegionLaw
set_option linter.unusedVariables false
set_option maxRecDepth 100000
set_option maxHeartbeats 12800000
open _root_.Go.Proofs.Tryz
open _root_.Option renaming some->an7
open _root_.Nat renaming le_trans->ap1,le_refl->anb,lt_of_lt_of_le->anW
open _root_.List renaming length_append->aoW,dropWhile_suffix->apr,drop_drop->apD,takeWhile_cons_of_pos->aps,getElem?_eq_some_iff->anx,getElem?_eq_getElem->am9,mem_cons_of_mem->apF,length_drop->aoN
open _root_.Option.some renaming inj->an4
namespace Go.Proofs.YtkbbgjloifmmbaaGreatDoor
open Go.RowKit Go.Sort
variable{e:Ending}{x:aL}{af n:Int}{acc:List aL}{l:List Tok}{L:List Tx}{xs:List Value}{B N b c k size:Nat}{o:Option aL}{t:aG}{p r s v:Tx}{w w' w1 w2:World}
theorem alj(h:aY (au l)=2)(h2: ∀v,aU (au l)=some v->v<0\/16<=v):eY af l= .error l:=by
 rw[Hh,if_pos h]
 have e:jM 0 15 l= .error l:=by
  cases l with
  |nil=>rfl
  | cons t r=>
    rw[pG];cases hn:aU t.1 with
    |none=>rfl
    |some v=>have:=h2 v hn;simp only;rw[if_neg (by omega)]
 rw[e]
theorem alk(h:aY (au l)=2)(hn:aU (au l)=some n)(h0:0<=n)(h1:n<16):eY af l=match bg [58] l.tail with
 | .error e=>.error e
 | .ok r=>match dh af (au r)with
   |none=>.error r
   |some k=>.ok (⟨n,k,[]⟩,r.tail):=by
 rw[Hh,if_pos h];cases l with
 |nil=>cases h
 |cons t r=>rw[pG,show aU t.1=some n from hn];simp only;rw[if_pos (by omega)];rfl
theorem VR(h:aC (au l)=false):iL l= .error l:=by
 cases l with
 |nil=>rfl
 |cons t r=>rw[rN,if_neg (by rw[show aC t.1=false from h];decide)]
theorem VX(h:aC (au l)=true):iL l= .ok (au l,l.tail):=by
 cases l with
 |nil=>cases h
 |cons t r=>rw[rN,if_pos (show aC t.1=true from h)];rfl
theorem alm(h:au l=[91]):eY af l=match iL l.tail with
 | .error e=>.error e
 | .ok (x,r)=>match bg [93] r with
   | .error e=>.error e
   | .ok r=>.ok (⟨-1,0,x⟩,r):=by
 rw[Hh,if_neg (by rw[h];decide),if_pos h];rfl
theorem aln(h:aY (au l)≠2)(h2:au l≠[91]):eY af l=match iL l with
 | .error e=>.error e
 | .ok (x,r)=>.ok (⟨-1,0,x⟩,r):=by
 rw[Hh,if_neg h,if_neg h2];rfl
theorem Ng(s:Tx)(w:World):Calls prog 116 #[.string (tx s)] w fun e w'=>e= .returned (.tuple #[.int .i64 ((aU s).getD 0),.bool (aU s).isSome])/\w=w':=by
 refine(ahP s w).mono ?_;rintro e w' ⟨rfl,h⟩;refine⟨?_,rfl⟩;rw[agk];cases hv:cS s with
 |none=>rw[hv]at h;exact h
 | some v=>
   rw[hv]at h;simp only[Option.bind_some]at h⊢
   split at h<;>rename_i hq
   ·rw[if_pos hq];exact h
   rw[if_neg hq];exact h
theorem pz(h:w.grownBy w' (an7 b))(j:Nat)(v:Value):w.grownBy (w'.setCell ⟨b,j,none⟩ v) (an7 b):=
 ⟨h.os,h.tape,h.output,by simpa using h.size,fun k hk hne=>by rw[Below.heap_setCell _ _ _ _ (by simp;exact fun e=>hne (by rw[e]))];exact h.block k hk hne⟩
theorem pE(w:World)(b:Nat):w.grownBy w (an7 b):=⟨rfl,rfl,rfl,anb _,fun k hk hne=>rfl⟩
theorem cW(h:w.grownBy w' (an7 b):=by(repeat refine pz ?_ _ _);exact pE _ _):w.grownBy w' (an7 b):=h
theorem dM(hs:Below w.heap.size w w1)(hb:b<w.heap.size)(k:Nat):w1.frozen? ⟨b,k,none⟩=w.frozen? ⟨b,k,none⟩:=by
 unfold World.frozen?;rw[hs.block b hb]
theorem ahV(af:Int)(s:Tx)(w:World):Calls prog 117 #[.int .i64 af,.string (tx s)] w fun e w'=>e= .returned (.tuple #[.int .i64 ((((dh af s).getD 0:Nat):Int)),.bool (dh af s).isSome])/\Below w.heap.size w w':=by
 refine(Ya af s w).mono ?_;rintro e w' ⟨h1,h⟩;refine⟨?_,h1⟩;cases hv:dh af s with
 |none=>rw[hv]at h;exact h
 |some v=>rw[hv]at h;exact h
def JT(e:Ending):Prop:= ∃t:Th,e= .returned (ko t)/\t.loc.length<=262144
structure j6(w wx:World)(B rb:Nat)(af:Int)(S:Tx)(l:List Tok)(b:Int):Prop where
 rd:cD wx B rb af S l b
 st:St ((w.alloc iz).alloc iz) wx rb
 hr:rb<w.heap.size
section
variable {w wx wy:World} {B rb:Nat} {af:Int} {S:Tx} {l l':List Tok} {b b':Int}
theorem j6.new(R:cD w B rb af S l b):j6 w ((w.alloc iz).alloc iz) B rb af S l b:=
 ⟨(R.below (al _ _)).below (al _ _),St.refl _ _,R.cells.lt⟩
theorem j6.step(h:j6 w wx B rb af S l b)(hs:St wx wy rb)(hr:cD wy B rb af S l' b'):j6 w wy B rb af S l' b':=⟨hr,h.st.trans hs,h.hr⟩
theorem j6.below(h:j6 w wx B rb af S l b)(hb:Below wx.heap.size wx wy):j6 w wy B rb af S l b:=⟨h.rd.below hb,h.st.trans (aX hb),h.hr⟩
structure ThF(w wx:World):Prop where
 p0:wx.cell? ⟨w.heap.size,0,none⟩=an7 (.int .i64 0)
 p1:wx.cell? ⟨w.heap.size,1,none⟩=an7 (.int .i64 0)
 p2:wx.cell? ⟨w.heap.size,2,none⟩=an7 (.string ⟨#[]⟩)
 q0:wx.cell? ⟨w.heap.size+1,0,none⟩=an7 (.int .i64 0)
 q1:wx.cell? ⟨w.heap.size+1,1,none⟩=an7 (.int .i64 0)
 q2:wx.cell? ⟨w.heap.size+1,2,none⟩=an7 (.string ⟨#[]⟩)
 f1: ∀j,wx.frozen? ⟨w.heap.size,j,none⟩=false
 f2: ∀j,wx.frozen? ⟨w.heap.size+1,j,none⟩=false
 sz:w.heap.size+2<=wx.heap.size
theorem j6.vars(h:j6 w wx B rb af S l b):ThF w wx:=by
 have hr:=h.hr;have e1:(w.alloc iz).heap.size=w.heap.size+1:=by simp
 have a:=(((aA.new w #[.int .i64 0,.int .i64 0,.string ⟨#[]⟩] 25).below (al _ iz)).step h.st (by omega));have c:=((aA.new (w.alloc iz) #[.int .i64 0,.int .i64 0,.string ⟨#[]⟩] 25).step h.st (by omega));rw[e1]at c;have hz:=h.st.grown.size;refine⟨a.get 0 _ rfl,a.get 1 _ rfl,a.get 2 _ rfl,c.get 0 _ rfl,c.get 1 _ rfl,c.get 2 _ rfl,fun j=>?_,fun j=>?_,by simp at hz;omega⟩
 ·rw[eW h.st ah (by omega) j]
  rw[dM (w:=w.alloc iz) (al _ _) (by simp) j];exact aV w _ _ j
 rw[eW h.st (by simp) (by omega) j,<-e1];exact aV (w.alloc iz) _ _ j
theorem j6.fin(h:j6 w wx B rb af S l b)(hg:wx.grownBy wy (an7 w.heap.size)):St w wy rb/\cD wy B rb af S l b:=by
 have hr:=h.hr;refine⟨⟨⟨?_,?_,?_,?_,fun k hk hne=>?_⟩,.inl rfl⟩,h.rd.gb hg (by omega)⟩
 all_goals have h1:=((St.new (St.new (St.refl w rb) iz) iz).trans h.st).grown
 ·exact hg.os.trans h1.os
 ·exact hg.tape.trans h1.tape
 ·exact hg.output.trans h1.output
 ·exact ap1 h1.size hg.size
 rw[hg.block k (anW hk h1.size) ah];exact h1.block k hk hne
theorem j6.all(h:j6 w wx B rb af S l b):wx.cell? ⟨w.heap.size,0,none⟩=an7 (.int .i64 0)/\wx.cell? ⟨w.heap.size,1,none⟩=an7 (.int .i64 0)/\wx.cell? ⟨w.heap.size,2,none⟩=an7 (.string ⟨#[]⟩)/\wx.cell? ⟨w.heap.size+1,0,none⟩=an7 (.int .i64 0)/\wx.cell? ⟨w.heap.size+1,1,none⟩=an7 (.int .i64 0)/\wx.cell? ⟨w.heap.size+1,2,none⟩=an7 (.string ⟨#[]⟩)/\(∀j,wx.frozen? ⟨w.heap.size,j,none⟩=false)/\(∀j,wx.frozen? ⟨w.heap.size+1,j,none⟩=false)/\
 wx.cell? ⟨rb,0,none⟩=an7 (.int .i64 af)/\wx.cell? ⟨rb,1,none⟩=an7 (.string (tx S))/\wx.cell? ⟨rb,2,none⟩=an7 (.int .i64 (aY (au l)))/\wx.cell? ⟨rb,3,none⟩=an7 (.string (tx (au l)))/\wx.cell? ⟨rb,4,none⟩=an7 (.int .i64 (dz S.length l))/\wx.cell? ⟨rb,5,none⟩=an7 (.int .i64 (gh S.length l))/\wx.cell? ⟨rb,6,none⟩=an7 (.int .i64 b)/\(∀j,wx.frozen? ⟨rb,j,none⟩=false)/\rb<wx.heap.size/\rb<w.heap.size/\w.heap.size≠rb/\w.heap.size<wx.heap.size/\w.heap.size+1<wx.heap.size:=by
 have v:=h.vars;have r:=h.rd.cells;have hr:=h.hr;have sz:=v.sz;exact⟨v.p0,v.p1,v.p2,v.q0,v.q1,v.q2,v.f1,v.f2,r.c0,r.c1,r.c2,r.c3,r.c4,r.c5,r.c6,r.fz,r.lt,hr,by omega,by omega,by omega⟩
theorem j6.err{l0:List Tok}{p:PR Th}{e:Ending}(h:j6 w wx B rb af S l (dz S.length l0))(hp:p= .error l0)(hg:wx.grownBy wy (an7 w.heap.size))(hj:JT e):k9 w B rb af S p VT JT e wy:=
 ⟨(h.fin hg).1,.inl ⟨_,_,hp,hj,(h.fin hg).2⟩⟩
theorem j6.cX{e:Ending}{p:PR Th}{t:Th}(h:j6 w wx B rb af S l (-1))(hp:p= .ok (t,l))(hg:wx.grownBy wy (an7 w.heap.size))(he:e= .returned (ko t))(ht:t.loc.length<=262144):k9 w B rb af S p VT JT e wy:=
 ⟨(h.fin hg).1,.inr ⟨_,_,hp,⟨he,ht⟩,(h.fin hg).2⟩⟩
theorem ahZ(R:cD w B rb af S l (-1)):Calls prog 301 #[.pointer (some ⟨rb,0,none⟩)] w (k9 w B rb af S (eY af l) VT JT):=by
 have NM:=hid (fun w=>Ng (au l) w);have IS:=hid (fun(w:World) (R:cD w B rb af S l (-1))=>tH R 3 [91] rfl);have V:=hid (j6.new R);have ha:=R.lx.au;have ha2:=R.lx.tail.au;have l5:=R.sl;have A1:=hid (fun h h2=>alj (af:=af) (l:=l) h h2);have A2:=hid (fun h n hn h0 h1=>alk (af:=af) (l:=l) (n:=n) h hn h0 h1);have A3:=hid (fun h=>alm (af:=af) (l:=l) h);have A4:=hid (fun h h2=>aln (af:=af) (l:=l) h h2);generalize eY af l=P at*;obtain⟨p0,p1,p2,q0,q1,q2,f1,f2,c0,c1,c2,c3,c4,c5,c6,fz,lt,dw,hne,bM,bU⟩:=V.out.all;clear R;go_in
 by_cases hk:aY (au l)=2
 ·have zk:((aY (au l):Int)==2)=true:=by rw[hk];rfl
  obtain⟨v,ok,hv⟩: ∃v ok,(aU (au l)).getD 0=v/\(aU (au l)).isSome=ok:=⟨_,_,rfl,rfl⟩;rw[hv.1,hv.2]at NM
  by_cases hb:ok=true/\0<=v/\v<16
  rotate_left
  ·have HP:=hid (A1.out hk fun x hx=>by
    rw[hx]at hv;obtain⟨rfl,rfl⟩:=hv;simp only[Option.getD_some,Option.isSome_some,true_and]at hb
    omega)
   have de:ok=false\/ok=true/\v<0\/ok=true/\0<=v/\16<=v:=by cases ok<;>simp at hb⊢ <;>omega
   have WR:=hid (wJ V.out.rd);clear hk hv hb;rcases de with rfl|⟨rfl,hb⟩|⟨rfl,hb,eJ⟩
   all_goals
    go_wp2_with (go_at_call 116;refine av (NM.out _) ?_)
    refine WR.out.mono ?_;rintro e w1 ⟨rfl,S1,R1⟩;have V:=hid (V.out.step S1 R1);obtain⟨p0,p1,p2,q0,q1,q2,f1,f2,c0,c1,c2,c3,c4,c5,c6,fz,lt,dw,hne,bM,bU⟩:=V.out.all;go_wp2_with fail;exact bodyPost_ret (by simp[results,results301,go_sem,p0,p1,p2,bT,aS]<;>rfl) rfl (V.out.err HP.out (by(repeat refine pz ?_ _ _);exact pE _ _) ⟨bT,rfl,by decide⟩)
  obtain⟨rfl,dH,de⟩:=hb
  have HA:=hid (A2.out hk v (by
   cases h:aU (au l)with
   |none=>rw[h]at hv;cases hv.2
   |some x=>rw[h]at hv;rw[<-hv.1];rfl) dH de)
  have ON:=hid (nO V.out.rd);clear hk hv
  go_wp2_with (go_at_call 116;refine av (NM.out _) ?_)
  refine ON.out.mono ?_;rintro e w1 ⟨rfl,S1,R1⟩;have V:=hid (V.out.step S1 R1);obtain⟨p0,p1,p2,q0,q1,q2,f1,f2,c0,c1,c2,c3,c4,c5,c6,fz,lt,dw,hne,bM,bU⟩:=V.out.all;have WN:=hid (uO V.out.rd 3 [58] rfl (by decide));clear S1 R1 ON;rcases ht:bg [58] l.tail with er|r
  ·rw[ht]at HA WN
   go_wp2_with fail;refine WN.out.mono ?_;rintro e w2 h;obtain⟨hv,S1,l',R1⟩:=h.err (l:=er) rfl;unfold JU at hv;subst hv;have V:=hid (V.out.step S1 R1);obtain⟨p0,p1,p2,q0,q1,q2,f1,f2,c0,c1,c2,c3,c4,c5,c6,fz,lt,dw,hne,bM,bU⟩:=V.out.all;clear ht;go_wp2_with fail;exact bodyPost_ret (by simp[results,results301,go_sem,p0,p1,p2,bT,aS]<;>rfl) rfl (V.out.err HA.out (by(repeat refine pz ?_ _ _);exact pE _ _) ⟨bT,rfl,by decide⟩)
  rw[ht]at HA WN;clear ht;go_wp2_with fail;refine WN.out.mono ?_;rintro e w2 h;obtain⟨hv,R1,S1⟩:=h.cX (x:=()) (r:=r) rfl;unfold VU at hv;subst hv;have V:=hid (V.out.step S1 R1);obtain⟨p0,p1,p2,q0,q1,q2,f1,f2,c0,c1,c2,c3,c4,c5,c6,fz,lt,dw,hne,bM,bU⟩:=V.out.all;clear h S1 R1 WN;have T:j6 w w2.drew B rb af S r (-1):=V.out.below (below_drewN w2 1);have RO:=hid (fun w=>ahV af (au r) w);obtain⟨v2,hv⟩: ∃v,au r=v:=⟨_,rfl⟩;obtain⟨d0,-, -, d3, -⟩:=T.rd.cells;rw[hv]at d3 RO HA c3;have HV:=hid hv;clear hv V;go_wp2_with fail
  go_region_held3 (fun w'=>j6 w w' B rb af S r (-1)/\w'.cell? ⟨rb,0,none⟩=some (.int .i64 af)/\w'.cell? ⟨rb,3,none⟩=some (.string (tx v2))) (first|exact⟨by assumption,by assumption,by assumption⟩)
   ((go_at_call 117;refine(RO.out _).mono ?_;rintro e w' ⟨rfl,E'⟩;have T:=T.below E';have d0:=T.rd.cells.c0;have d3:=T.rd.cells.c3;rw[HV.out]at d3))
  have V:=hid T;obtain⟨p0,p1,p2,q0,q1,q2,f1,f2,c0,c1,c2,c3,c4,c5,c6,fz,lt,dw,hne,bM,bU⟩:=V.out.all;rw[HV.out]at c2 c3;clear T;cases hr:dh af v2 with
  | some k=>
    have fQ:aY v2=1:=Md hr;rw[hr]at HA;have ON:=hid (nO V.out.rd);clear hr;go_wp2_with fail;refine ON.out.mono ?_;rintro e w3 ⟨rfl,S1,R1⟩;have V:=hid (V.out.step S1 R1);obtain⟨p0,p1,p2,q0,q1,q2,f1,f2,c0,c1,c2,c3,c4,c5,c6,fz,lt,dw,hne,bM,bU⟩:=V.out.all;go_wp2_with fail;exact bodyPost_ret (by simp[results,results301,go_sem,p0,p1,p2,aS]<;>rfl) rfl (V.out.cX (t:=⟨v,k,[]⟩) HA.out (by(repeat refine pz ?_ _ _);exact pE _ _) rfl (by simp))
  | none=>
    rw[hr]at HA;have WR:=hid (wJ V.out.rd);clear hr
    by_cases fQ:aY v2=1
    all_goals
     go_wp2_with fail;refine WR.out.mono ?_;rintro e w3 ⟨rfl,S1,R1⟩;have V:=hid (V.out.step S1 R1);obtain⟨p0,p1,p2,q0,q1,q2,f1,f2,c0,c1,c2,c3,c4,c5,c6,fz,lt,dw,hne,bM,bU⟩:=V.out.all;go_wp2_with fail;exact bodyPost_ret (by simp[results,results301,go_sem,p0,p1,p2,bT,aS]<;>rfl) rfl (V.out.err HA.out (by(repeat refine pz ?_ _ _);exact pE _ _) ⟨bT,rfl,by decide⟩)
 have zk:((aY (au l):Int)==2)=false:=ah
 by_cases gB:au l=[91]
 ·have HA:=hid (A3.out gB)
  have HI:=hid (show decide (au l=[91])=true from decide_eq_true gB);have ON:=hid (nO V.out.rd);clear hk gB A1 A2 A4
  go_wp2_with (go_at_call 159;refine av (IS.out _ V.out.rd) ?_;rw[HI.out])
  refine ON.out.mono ?_;rintro e w1 ⟨rfl,S1,R1⟩;have V:=hid (V.out.step S1 R1);obtain⟨p0,p1,p2,q0,q1,q2,f1,f2,c0,c1,c2,c3,c4,c5,c6,fz,lt,dw,hne,bM,bU⟩:=V.out.all;generalize l.tail=l1 at*;clear S1 R1 ON;have NA:=hid (fun w=>yO (au l1) (by omega) w)
  have vP:aC (au l1)=true/\aY (au l1)=1\/aC (au l1)=false/\aY (au l1)=1\/aC (au l1)=false/\aY (au l1)≠1:=by
   cases h:aC (au l1)
   ·by_cases hk:aY (au l1)=1
    ·exact .inr (.inl ⟨rfl,hk⟩)
    exact .inr (.inr ⟨rfl,hk⟩)
   exact .inl ⟨rfl,yu h⟩
  rcases vP with⟨hn,fQ⟩|⟨hn,fQ⟩|⟨hn,fQ⟩
  rotate_left
  iterate 2
   focus
    rw[VR hn]at HA;rw[hn]at NA;have WR:=hid (wJ V.out.rd);clear hn
    go_wp2_with (first|(go_at_call 159;refine av (IS.out _ V.out.rd) ?_;rw[HI.out])|(go_at_call 118;refine av (NA.out _) ?_))
    refine WR.out.mono ?_;rintro e w2 ⟨rfl,S1,R1⟩;have V:=hid (V.out.step S1 R1);obtain⟨p0,p1,p2,q0,q1,q2,f1,f2,c0,c1,c2,c3,c4,c5,c6,fz,lt,dw,hne,bM,bU⟩:=V.out.all;go_wp2_with fail;exact bodyPost_ret (by simp[results,results301,go_sem,p0,p1,p2,bT,aS]<;>rfl) rfl (V.out.err HA.out (by(repeat refine pz ?_ _ _);exact pE _ _) ⟨bT,rfl,by decide⟩)
  rw[VX hn]at HA;rw[hn]at NA;have ON:=hid (nO V.out.rd);clear hn
  go_wp2_with (first|(go_at_call 159;refine av (IS.out _ V.out.rd) ?_;rw[HI.out])|(go_at_call 118;refine av (NA.out _) ?_))
  refine ON.out.mono ?_;rintro e w2 ⟨rfl,S1,R1⟩;have V:=hid (V.out.step S1 R1);obtain⟨p0,p1,p2,q0,q1,q2,f1,f2,c0,c1,c2,c3,c4,c5,c6,fz,lt,dw,hne,bM,bU⟩:=V.out.all;clear S1 R1 ON;have dK:(au l1).length<=262144:=by omega
  have WN:=hid (uO V.out.rd 3 [93] rfl (by decide))
  have HA:Hid (P=match bg [93] l1.tail with
   | .error e=>.error e
   | .ok r=>.ok (⟨-1,0,au l1⟩,r)):=HA
  rcases ht:bg [93] l1.tail with er|r
  ·rw[ht]at WN HA
   clear ht;go_wp2_with fail;refine WN.out.mono ?_;rintro e w3 h;obtain⟨hv,S1,l',R1⟩:=h.err (l:=er) rfl;unfold JU at hv;subst hv;have V:=hid (V.out.step S1 R1);obtain⟨p0,p1,p2,q0,q1,q2,f1,f2,c0,c1,c2,c3,c4,c5,c6,fz,lt,dw,hne,bM,bU⟩:=V.out.all;go_wp2_with fail;exact bodyPost_ret (by simp[results,results301,go_sem,p0,p1,p2]<;>rfl) rfl (V.out.err HA.out (by(repeat refine pz ?_ _ _);exact pE _ _) ⟨⟨-1,0,au l1⟩,rfl,dK⟩)
  rw[ht]at WN HA;clear ht;go_wp2_with fail;refine WN.out.mono ?_;rintro e w3 h;obtain⟨hv,R1,S1⟩:=h.cX (x:=()) (r:=r) rfl;unfold VU at hv;subst hv;have V:=hid (V.out.step S1 R1);obtain⟨p0,p1,p2,q0,q1,q2,f1,f2,c0,c1,c2,c3,c4,c5,c6,fz,lt,dw,hne,bM,bU⟩:=V.out.all;go_wp2_with fail;exact bodyPost_ret (by simp[results,results301,go_sem,p0,p1,p2]<;>rfl) rfl (V.out.cX (t:=⟨-1,0,au l1⟩) HA.out (by(repeat refine pz ?_ _ _);exact pE _ _) rfl dK)
 have HA:=hid (A4.out hk gB)
 have HI:=hid (show decide (au l=[91])=false from decide_eq_false gB);clear hk gB A1 A2 A3;have NA:=hid (fun w=>yO (au l) (by omega) w)
 have vP:aC (au l)=true/\aY (au l)=1\/aC (au l)=false/\aY (au l)=1\/aC (au l)=false/\aY (au l)≠1:=by
  cases h:aC (au l)
  ·by_cases hk:aY (au l)=1
   ·exact .inr (.inl ⟨rfl,hk⟩)
   exact .inr (.inr ⟨rfl,hk⟩)
  exact .inl ⟨rfl,yu h⟩
 rcases vP with⟨hn,fQ⟩|⟨hn,fQ⟩|⟨hn,fQ⟩
 rotate_left
 iterate 2
  focus
   rw[VR hn]at HA;rw[hn]at NA;have WR:=hid (wJ V.out.rd);clear hn
   go_wp2_with (first|(go_at_call 159;refine av (IS.out _ V.out.rd) ?_;rw[HI.out])|(go_at_call 118;refine av (NA.out _) ?_))
   refine WR.out.mono ?_;rintro e w2 ⟨rfl,S1,R1⟩;have V:=hid (V.out.step S1 R1);obtain⟨p0,p1,p2,q0,q1,q2,f1,f2,c0,c1,c2,c3,c4,c5,c6,fz,lt,dw,hne,bM,bU⟩:=V.out.all;go_wp2_with fail;exact bodyPost_ret (by simp[results,results301,go_sem,p0,p1,p2,bT,aS]<;>rfl) rfl (V.out.err HA.out (by(repeat refine pz ?_ _ _);exact pE _ _) ⟨bT,rfl,by decide⟩)
 rw[VX hn]at HA;rw[hn]at NA;have ON:=hid (nO V.out.rd);clear hn
 go_wp2_with (first|(go_at_call 159;refine av (IS.out _ V.out.rd) ?_;rw[HI.out])|(go_at_call 118;refine av (NA.out _) ?_))
 refine ON.out.mono ?_;rintro e w2 ⟨rfl,S1,R1⟩;have V:=hid (V.out.step S1 R1);obtain⟨p0,p1,p2,q0,q1,q2,f1,f2,c0,c1,c2,c3,c4,c5,c6,fz,lt,dw,hne,bM,bU⟩:=V.out.all;clear S1 R1 ON;have dK:(au l).length<=262144:=by omega
 go_wp2_with fail;exact bodyPost_ret (by simp[results,results301,go_sem,p0,p1,p2]<;>rfl) rfl (V.out.cX (t:=⟨-1,0,au l⟩) HA.out (by(repeat refine pz ?_ _ _);exact pE _ _) rfl dK)
end
theorem ajV(s:Tx):dh 1 s=cK s:=by
 unfold dh cK dO ek;simp
theorem ajW(s:Tx):dh 2 s=bf s:=by
 unfold dh bf dO ek;simp
def aay(o:Option Nat)(w:World)(e:Ending)(w':World):Prop:= ∃(k:Nat) (ok:Bool),e= .returned (.tuple #[.int .i64 k,.bool ok])/\bP o k ok/\w=w'
theorem Jn(h:bF af=true):af=1\/af=2:=by
 unfold bF at h;simpa using h
theorem ajl(af:Int)(ha:bF af=true)(s:Tx)(w:World)(g:Gl w):Calls prog 112 #[.int .i64 af,.string (tx s)] w (aay (dh af s) w):=by
 rcases Jn ha with rfl|rfl
 ·rw[ajV]
  have RO:=hid (L8 s w g);clear ha g;cases hr:cK s with
  | none=>
    rw[hr]at RO;have RO:=hid (show Calls prog _ _ w (fun e w'=>e= .returned (.tuple #[.int .i64 0,.int .i64 90])/\w=w')from RO.out);clear hr;go_in
    go_wp2_with (go_at_call 176;refine av RO.out ?_)
    go_ret2
    exact⟨0,false,rfl,rfl,rfl⟩
  | some k=>
    rw[hr]at RO;have RO:=hid (show Calls prog _ _ w (fun e w'=>e= .returned (.tuple #[.int .i64 k,.int .i64 0])/\w=w')from RO.out);clear hr;go_in
    go_wp2_with (go_at_call 176;refine av RO.out ?_)
    go_ret2
    exact⟨k,true,rfl,rfl,rfl⟩
 rw[ajW]
 have RO:=hid (XQ s w);clear ha g;unfold qC qB at RO;cases hr:bf s with
 | none=>
   rw[hr]at RO;have RO:=hid (show Calls prog _ _ w (fun e w'=>e= .returned (.tuple #[.int .i64 0,.int .i64 90])/\w=w')from RO.out);clear hr;go_in
   go_wp2_with (go_at_call 197;refine av RO.out ?_)
   go_ret2
   exact⟨0,false,rfl,rfl,rfl⟩
 | some k=>
   rw[hr]at RO;have RO:=hid (show Calls prog _ _ w (fun e w'=>e= .returned (.tuple #[.int .i64 k,.int .i64 0])/\w=w')from RO.out);clear hr;go_in
   go_wp2_with (go_at_call 197;refine av RO.out ?_)
   go_ret2
   exact⟨k,true,rfl,rfl,rfl⟩
abbrev DO:Obj:=.cells #[.int .i64 0,.int .i64 0,.string ⟨#[]⟩,.string ⟨#[]⟩,.int .i64 0] 56
theorem nA(E:Below (w.alloc DO).heap.size (w.alloc DO) w1):(w1.cell? ⟨w.heap.size,0,none⟩=some (.int .i64 0)/\w1.cell? ⟨w.heap.size,1,none⟩=some (.int .i64 0)/\w1.cell? ⟨w.heap.size,2,none⟩=some (.string ⟨#[]⟩)/\w1.cell? ⟨w.heap.size,3,none⟩=some (.string ⟨#[]⟩)/\w1.cell? ⟨w.heap.size,4,none⟩=some (.int .i64 0))/\(∀j,w1.frozen? ⟨w.heap.size,j,none⟩=false)/\w.heap.size<w1.heap.size/\Below w.heap.size w w1:=by
 have b0:=(aA.new w #[.int .i64 0,.int .i64 0,.string ⟨#[]⟩,.string ⟨#[]⟩,.int .i64 0] 56).below E;refine⟨⟨b0.get 0 _ rfl,b0.get 1 _ rfl,b0.get 2 _ rfl,b0.get 3 _ rfl,b0.get 4 _ rfl⟩,fun j=>(dM E (b:=w.heap.size) (by simp) j).trans (aV w _ _ j),?_,(al w DO).trans (E.mono (by simp))⟩;have:=E.size;simp at this;omega
theorem mO(E:Below w.heap.size w w1)(hg:w1.grownBy w2 (an7 w.heap.size)):Below w.heap.size w w2:=E.grown hg E.size (fun r hr=>by simp at hr;omega)
def aas(o:Option aL)(w:World)(e:Ending)(w':World):Prop:= ∃(x:aL) (ok:Bool),e= .returned (.tuple #[lQ x,.bool ok])/\bP o x ok/\Below w.heap.size w w'
theorem alu{m:Tx}(e:s=91::(m++[93])):bP (kK af s) ⟨-1,0,ak m,[],0⟩ (aC (ak m)):=by
 have e2:(s.drop 1).dropLast=m:=by rw[e];simp
 unfold bP kK;rw[e2,if_pos ⟨by rw[e];rfl,by rw[e];exact Gj _ _ _,by rw[e];simp⟩]
theorem alr(h: ¬(s.head?=some 91/\s.getLast?=some 93))(h2:(58:UInt8)∉s):bP (kK af s) ⟨-1,0,s,[],0⟩ (aC s):=by
 unfold bP kK;rw[if_neg (fun hh=>h ⟨hh.1,hh.2.1⟩),if_neg h2]
theorem als{b1 b2:Bool}(h: ¬(s.head?=some 91/\s.getLast?=some 93))(h2:(58:UInt8)∈s)(h3:bP (aU (ak (s.takeWhile (· != 58)))) n b1)(h4:bP (dh af (ak ((s.dropWhile (· != 58)).drop 1))) k b2):
 bP (kK af s) ⟨n,k,[],[],0⟩ (b1&&(b2&&(decide (0<=n)&&decide (n<16)))):=by
 unfold bP at*;unfold kK;rw[if_neg (fun hh=>h ⟨hh.1,hh.2.1⟩),if_pos h2,h3,h4];cases b1<;>cases b2<;>simp
theorem ajo(af:Int)(ha:bF af=true)(s:Tx)(hl:s.length<=262144)(w:World)(g:Gl w):Calls prog 49 #[.int .i64 af,.string (tx s)] w (aas (kK af s) w):=by
 have hsz:=aM s;have P1:=hid (fun w=>rV s [91] w);rw[XG]at P1;have P2:=hid (fun w=>Dp s 93 (by omega) w);have g0:=g.below (al w DO)
 by_cases h1:s.head?=some 91/\s.getLast?=some 93
 ·obtain⟨m,e⟩: ∃m,s=91::(m++[93]):=by
   cases s with
   |nil=>cases h1.1
   | cons c r=>
     obtain rfl:c=91:=by simpa using h1.1
     cases r with
     |nil=>exact absurd h1.2 (by decide)
     | cons d r=>
       have h2:(d::r).getLast?=some 93:=by simpa using h1.2
       obtain⟨m,hm⟩:=qv.1 h2;exact⟨m,by rw[hm]⟩
  subst e;obtain⟨n,hn⟩:=aj ((tx (91::(m++[93]))).size);have fk:n=m.length+2:=by rw[<-hn,hsz];simp
  have hml:m.length<=262144:=by simp at hl;omega
  have sl:=jD (91::(m++[93])) 1 (m.length+1) (by omega) (by simp);have e2:((91::(m++[93])).take (m.length+1)).drop 1=m:=by simp
  rw[e2,show((m.length+1:Nat):Int)=(n:Int)-1 by omega,show((1:Nat):Int)=1 by rfl]at sl;have HO:=hid (alu (af:=af) (s:=91::(m++[93])) rfl);have TR:=hid (fun w=>pI m (by omega) w);have htl:=jS m;have NM:=hid (fun w=>Nq (ak m) (by omega) w);rw[show((91::(m++[93])).head?==some 91)=true by rfl]at P1;rw[show((91::(m++[93])).getLast?==some 93)=true by rw[h1.2];rfl]at P2;generalize kK af (91::(m++[93]))=o at*;generalize ak m=t at*;generalize aC t=b at*;have rI:n<=1000000:=by omega
  have hn4:2<=n:=by omega
  clear hl hsz fk e2 g g0 h1 htl hml;go_in;go_wp2_with fail;refine(P1.out _).mono ?_;rintro e w1 ⟨rfl,E⟩
  go_wp2_with (first|(go_at_call 99;refine av (P2.out _) ?_)|fail)
  refine(TR.out _).mono ?_;rintro e w2 ⟨rfl,E2⟩;have E:=aB E E2;obtain⟨⟨d0,d1,d2,d3,d4⟩,hf,hlt,B⟩:=nA E;clear E
  go_wp2_with (go_at_call 52;refine av (NM.out _) ?_)
  exact bodyPost_ret (by simp[results,results49,go_sem,d0,d1,d2,d3,d4,aS]<;>rfl) rfl ⟨⟨-1,0,t,[],0⟩,b,rfl,HO.out,mO B cW⟩
 have hno:=hid h1
 have HG:=hid g0;have CU:=hid (fun w (g:Gl w)=>JW s 58 (by omega) w);rw[Fh]at CU
 have hb:((s.head?==some 91)=false)\/((s.head?==some 91)=true/\(s.getLast?==some 93)=false):=by
  cases h:s.head?==some 91 with
  |false=>exact .inl rfl
  | true=>
    refine .inr ⟨rfl,?_⟩;cases h':s.getLast?==some 93 with
    |false=>rfl
    |true=>exact absurd ⟨by simpa using h,by simpa using h'⟩ h1
 generalize (s.head?==some 91)=b1 at*;generalize (s.getLast?==some 93)=b2 at*
 by_cases qh:(58:UInt8)∈s
 ·rw[if_pos qh]at CU
  simp only at CU;obtain⟨x,hx⟩:=aj (s.takeWhile (· != 58));obtain⟨y,hy⟩:=aj ((s.dropWhile (· != 58)).drop 1);have hxl:x.length<=262144:=by rw[<-hx];have:=pM (· != 58) s;omega
  have wo:y.length<=262144:=by rw[<-hy];have:=(apr (fun x=>x != 58) (l:=s)).length_le;simp;omega
  have HK:=hid (fun(n:Int) (k:Nat) (b1 b2:Bool) h3 h4=>als (af:=af) (s:=s) (n:=n) (k:=k) (b1:=b1) (b2:=b2) hno.out qh h3 h4);rw[hx,hy]at CU HK;have TX:=hid (fun w=>pI x (by omega) w);have TY:=hid (fun w=>pI y (by omega) w);have NX:=hid (fun w g=>Ym (ak x) (by have:=jS x;omega) w g);have RY:=hid (fun w g=>ajl af ha (ak y) w g);generalize ak x=Ho at*;generalize ak y=wW at*;generalize kK af s=o at*;generalize aU Ho=on at*;generalize dh af wW=ok0 at*;clear hl hsz h1 g g0 hno qh hx hy hxl wo;rcases hb with rfl|⟨rfl,rfl⟩
  ·go_in
   go_wp2_with fail;refine(P1.out _).mono ?_;rintro e w1 ⟨rfl,E⟩;have g1:=HG.out.below E;go_wp2_with fail;refine(CU.out _ g1).mono ?_;rintro e w2 ⟨rfl,E2⟩;have E:=aB E E2;clear g1 E2;go_wp2_with fail;refine(TX.out _).mono ?_;rintro e w3 ⟨rfl,E3⟩;have E:=aB E E3;have g1:=HG.out.below E;go_wp2_with fail;refine(NX.out _ g1).mono ?_;rintro e w4 ⟨n,bn,rfl,HN,E4⟩;have E:=aB E E4;clear g1 E3 E4;go_wp2_with fail;refine(TY.out _).mono ?_;rintro e w5 ⟨rfl,E5⟩;have E:=aB E E5;have g1:=HG.out.below E;go_wp2_with fail;refine(RY.out _ g1).mono ?_;rintro e w6 ⟨k,AQ,rfl,HR,rfl⟩;have HO:=hid (HK.out n k bn AQ HN HR);clear g1 E5 HN HR;cases bn
   ·skip
    obtain⟨⟨d0,d1,d2,d3,d4⟩,hf,hlt,B⟩:=nA E;clear E;go_wp2;exact bodyPost_ret (by simp[results,results49,go_sem,d0,d1,d2,d3,d4,aS]<;>rfl) rfl ⟨⟨n,k,[],[],0⟩,false,rfl,HO.out,mO B cW⟩
   cases AQ
   ·skip
    obtain⟨⟨d0,d1,d2,d3,d4⟩,hf,hlt,B⟩:=nA E;clear E;go_wp2;exact bodyPost_ret (by simp[results,results49,go_sem,d0,d1,d2,d3,d4,aS]<;>rfl) rfl ⟨⟨n,k,[],[],0⟩,false,rfl,HO.out,mO B cW⟩
   simp only[Bool.true_and]at HO
   by_cases h0:0<=n
   ·have z0:decide (0<=n)=true:=by simpa using h0
    have HO:=hid HO.out;rw[z0]at HO;clear h0;obtain⟨⟨d0,d1,d2,d3,d4⟩,hf,hlt,B⟩:=nA E;clear E;go_wp2;exact bodyPost_ret (by simp[results,results49,go_sem,d0,d1,d2,d3,d4,aS]<;>rfl) rfl ⟨⟨n,k,[],[],0⟩,(decide (n<16)),rfl,HO.out,mO B cW⟩
   have z0:decide (0<=n)=false:=by simpa using h0
   have HO:=hid HO.out;rw[z0]at HO;clear h0;obtain⟨⟨d0,d1,d2,d3,d4⟩,hf,hlt,B⟩:=nA E;clear E;go_wp2;exact bodyPost_ret (by simp[results,results49,go_sem,d0,d1,d2,d3,d4,aS]<;>rfl) rfl ⟨⟨n,k,[],[],0⟩,false,rfl,HO.out,mO B cW⟩
  go_in
  go_wp2_with fail;refine(P1.out _).mono ?_;rintro e w1 ⟨rfl,E⟩;have g1:=HG.out.below E
  go_wp2_with (first|(go_at_call 99;refine av (P2.out _) ?_)|fail)
  refine(CU.out _ g1).mono ?_;rintro e w2 ⟨rfl,E2⟩;have E:=aB E E2;clear g1 E2;go_wp2_with fail;refine(TX.out _).mono ?_;rintro e w3 ⟨rfl,E3⟩;have E:=aB E E3;have g1:=HG.out.below E;go_wp2_with fail;refine(NX.out _ g1).mono ?_;rintro e w4 ⟨n,bn,rfl,HN,E4⟩;have E:=aB E E4;clear g1 E3 E4;go_wp2_with fail;refine(TY.out _).mono ?_;rintro e w5 ⟨rfl,E5⟩;have E:=aB E E5;have g1:=HG.out.below E;go_wp2_with fail;refine(RY.out _ g1).mono ?_;rintro e w6 ⟨k,AQ,rfl,HR,rfl⟩;have HO:=hid (HK.out n k bn AQ HN HR);clear g1 E5 HN HR;cases bn
  ·skip
   obtain⟨⟨d0,d1,d2,d3,d4⟩,hf,hlt,B⟩:=nA E;clear E;go_wp2;exact bodyPost_ret (by simp[results,results49,go_sem,d0,d1,d2,d3,d4,aS]<;>rfl) rfl ⟨⟨n,k,[],[],0⟩,false,rfl,HO.out,mO B cW⟩
  cases AQ
  ·skip
   obtain⟨⟨d0,d1,d2,d3,d4⟩,hf,hlt,B⟩:=nA E;clear E;go_wp2;exact bodyPost_ret (by simp[results,results49,go_sem,d0,d1,d2,d3,d4,aS]<;>rfl) rfl ⟨⟨n,k,[],[],0⟩,false,rfl,HO.out,mO B cW⟩
  simp only[Bool.true_and]at HO
  by_cases h0:0<=n
  ·have z0:decide (0<=n)=true:=by simpa using h0
   have HO:=hid HO.out;rw[z0]at HO;clear h0;obtain⟨⟨d0,d1,d2,d3,d4⟩,hf,hlt,B⟩:=nA E;clear E;go_wp2;exact bodyPost_ret (by simp[results,results49,go_sem,d0,d1,d2,d3,d4,aS]<;>rfl) rfl ⟨⟨n,k,[],[],0⟩,(decide (n<16)),rfl,HO.out,mO B cW⟩
  have z0:decide (0<=n)=false:=by simpa using h0
  have HO:=hid HO.out;rw[z0]at HO;clear h0;obtain⟨⟨d0,d1,d2,d3,d4⟩,hf,hlt,B⟩:=nA E;clear E;go_wp2;exact bodyPost_ret (by simp[results,results49,go_sem,d0,d1,d2,d3,d4,aS]<;>rfl) rfl ⟨⟨n,k,[],[],0⟩,false,rfl,HO.out,mO B cW⟩
 rw[if_neg qh]at CU
 simp only at CU;have HO:=hid (alr (af:=af) hno.out qh);have NM:=hid (fun w=>Nq s (by omega) w);generalize kK af s=o at*;generalize aC s=b at*;clear hl hsz h1 g g0 hno qh;rcases hb with rfl|⟨rfl,rfl⟩
 ·go_in
  go_wp2_with fail;refine(P1.out _).mono ?_;rintro e w1 ⟨rfl,E⟩;have g1:=HG.out.below E;go_wp2_with fail;refine(CU.out _ g1).mono ?_;rintro e w2 ⟨rfl,E2⟩;have E:=aB E E2;clear g1 E2;obtain⟨⟨d0,d1,d2,d3,d4⟩,hf,hlt,B⟩:=nA E;clear E
  go_wp2_with (go_at_call 52;refine av (NM.out _) ?_)
  exact bodyPost_ret (by simp[results,results49,go_sem,d0,d1,d2,d3,d4,aS]<;>rfl) rfl ⟨⟨-1,0,s,[],0⟩,b,rfl,HO.out,mO B cW⟩
 go_in
 go_wp2_with fail;refine(P1.out _).mono ?_;rintro e w1 ⟨rfl,E⟩;have g1:=HG.out.below E
 go_wp2_with (first|(go_at_call 99;refine av (P2.out _) ?_)|fail)
 refine(CU.out _ g1).mono ?_;rintro e w2 ⟨rfl,E2⟩;have E:=aB E E2;clear g1 E2;obtain⟨⟨d0,d1,d2,d3,d4⟩,hf,hlt,B⟩:=nA E;clear E
 go_wp2_with (go_at_call 52;refine av (NM.out _) ?_)
 exact bodyPost_ret (by simp[results,results49,go_sem,d0,d1,d2,d3,d4,aS]<;>rfl) rfl ⟨⟨-1,0,s,[],0⟩,b,rfl,HO.out,mO B cW⟩
def jr(o:Option aL)(w:World)(e:Ending)(w':World):Prop:=Below w.heap.size w w'/\match o with
 |some x=>e= .returned (.tuple #[lQ x,.int .i64 0])
 |none=>e= .returned (.tuple #[lQ ⟨0,0,[],[],0⟩,.int .i64 140])
theorem jr.no(ho:o=none)(h:e= .returned (.tuple #[lQ ⟨0,0,[],[],0⟩,.int .i64 140]))(hb:Below w.heap.size w w'):jr o w e w':=by subst ho;exact⟨hb,h⟩
theorem jr.yes(ho:o=some x)(h:e= .returned (.tuple #[lQ x,.int .i64 0]))(hb:Below w.heap.size w w'):jr o w e w':=by subst ho;exact⟨hb,h⟩
theorem ale(h:kK af s=some x):x.aT=[]/\x.n=0:=by
 unfold kK at h
 split at h
 ·split at h
  ·cases h;exact⟨rfl,rfl⟩
  cases h
 split at h
 ·split at h
  ·split at h
   ·cases h;exact⟨rfl,rfl⟩
   cases h
  cases h
 split at h
 ·cases h;exact⟨rfl,rfl⟩
 cases h
theorem G6{n:Nat}(h:Below n w w')(hb:n<=b)(j:Nat)(v:Value):Below n w (w'.setCell ⟨b,j,none⟩ v):=h.setCell hb _
theorem aed(h: ¬262144<s.length)(h2:(61:UInt8)∈s):fR af s=nG (kK af (ak (s.takeWhile (· != 61)))) (eG (ak ((s.dropWhile (· != 61)).drop 1))):=by
 unfold fR;rw[if_neg (by rintro(a|a);exact h a;exact a h2)]
theorem alZ(h:bP (aU v) n true):eG v=some ([],n):=by unfold eG;rw[h.yes]
theorem al0(h:bP (aU v) n false)(h2:aC v=true):eG v=some (v,0):=by unfold eG;rw[h.no];exact if_pos h2
theorem al1(h:bP (aU v) n false)(h2:aC v=false):eG v=none:=by unfold eG;rw[h.no];exact if_neg (by rw[h2];decide)
theorem U3{l:Tx}(h:o=some x):nG o (some (l,n))=some ⟨x.thread,x.az,x.loc,l,n⟩:=by subst h;rfl
theorem ajh(af:Int)(ha:bF af=true)(s:Tx)(hl:s.length<=9223372036854775807)(w:World)(g:Gl w):Calls prog 21 #[.int .i64 af,.string (tx s)] w (jr (fR af s) w):=by
 have hsz:=aM s;have KN:=hid (fun w=>Yl af w);have HA:=hid ha;have HG:=hid (g.below (al w DO));have CU:=hid (fun w (g:Gl w)=>JW s 61 hl w);rw[Fh]at CU;obtain⟨n,hn⟩:=aj ((tx s).size)
 by_cases hb:262144<s.length\/(61:UInt8)∉s
 ·have HP:=hid (show fR af s=none by unfold fR;rw[if_pos hb])
  have z:decide ((262144:Int)<(n:Int))=true\/decide ((262144:Int)<(n:Int))=false/\(if(61:UInt8)∈s then(s.takeWhile (· != 61),(s.dropWhile (· != 61)).drop 1,true)else(s,[],false)).2.2=false:=by
   by_cases h3:262144<s.length
   ·exact .inl ah
   exact .inr ⟨ ah,by rw[if_neg (by rcases hb with h|h;exact absurd h h3;exact h)]⟩
  generalize (if(61:UInt8)∈s then(s.takeWhile (· != 61),(s.dropWhile (· != 61)).drop 1,true)else(s,[],false))=cu at*;obtain⟨c1,c2,c3⟩:=cu;simp only at CU z;generalize fR af s=o at*;clear hl hsz hb g ha;rcases z with z|⟨z,rfl⟩
  all_goals
   go_in
   go_wp2_with (first|(go_at_call 42;refine av (KN.out _) ?_;rw[HA.out])|fail)
   refine(CU.out _ HG.out).mono ?_;rintro e w1 ⟨rfl,E⟩;obtain⟨⟨d0,d1,d2,d3,d4⟩,hf,hlt,B⟩:=nA E;clear E;go_wp2;exact bodyPost_ret (by simp[results,results21,go_sem,d0,d1,d2,d3,d4,aS]<;>rfl) rfl (jr.no HP.out rfl (mO B cW))
 have h3: ¬262144<s.length:=fun h=>hb (.inl h)
 have uv:(61:UInt8)∈s:=Classical.byContradiction fun h=>hb (.inr h)
 rw[if_pos uv]at CU;simp only at CU;obtain⟨x,hx⟩:=aj (s.takeWhile (· != 61));obtain⟨y,hy⟩:=aj ((s.dropWhile (· != 61)).drop 1);have hxl:x.length<=s.length:=by rw[<-hx];exact pM (· != 61) s
 have wo:y.length<=s.length:=by rw[<-hy];have:=(apr (fun x=>x != 61) (l:=s)).length_le;simp;omega
 have HI:=hid (aed (af:=af) h3 uv);rw[hx,hy]at CU HI;have z:decide ((262144:Int)<(n:Int))=false:=ah;have TX:=hid (fun w=>pI x (by omega) w);have TH:=hid (fun w g=>ajo af ha (ak x) (by have:=jS x;omega) w g);have TP:=hid (fun o=>ale (af:=af) (s:=ak x) (x:=o));have TY:=hid (fun w=>pI y (by omega) w);have NY:=hid (fun w g=>Ym (ak y) (by have:=jS y;omega) w g);have MY:=hid (fun w=>Nq (ak y) (by have:=jS y;omega) w);have V1:=hid (fun n=>alZ (v:=ak y) (n:=n));have V2:=hid (fun n=>al0 (v:=ak y) (n:=n));have V3:=hid (fun n=>al1 (v:=ak y) (n:=n));generalize ak x=Ho at*;generalize ak y=wW at*;generalize fR af s=o at*;generalize kK af Ho=ot at*;generalize eG wW=ov at*;generalize aU wW=on at*;clear hl hsz hb uv hx hy hxl wo h3 g ha;go_in
 go_wp2_with (first|(go_at_call 42;refine av (KN.out _) ?_;rw[HA.out])|fail)
 refine(CU.out _ HG.out).mono ?_;rintro e w1 ⟨rfl,E⟩;go_wp2_with fail;refine(TX.out _).mono ?_;rintro e w2 ⟨rfl,E2⟩;have E:=aB E E2;have g1:=HG.out.below E;go_wp2_with fail;refine(TH.out _ g1).mono ?_;rintro e w3 ⟨⟨th,rg,lc,vl,vn⟩,ok,rfl,HT,E3⟩;have E:=aB E E3;clear g1 E2 E3;cases ok
 ·have HP:=hid (show o=none by rw[HI.out,HT.no];exact mL _)
  clear HT;obtain⟨⟨d0,d1,d2,d3,d4⟩,hf,hlt,B⟩:=nA E;clear E;go_wp2;exact bodyPost_ret (by simp[results,results21,go_sem,d0,d1,d2,d3,d4,hlt,aS]) rfl (jr.no HP.out rfl aF)
 have HT:=hid HT.yes
 obtain⟨e1,e2⟩:=TP.out _ HT.out;simp only at e1 e2;subst e1;subst e2;have hw3:=E.size;have E:=hid E;go_wp2_with fail;refine(TY.out _).mono ?_;rintro e w4 ⟨rfl,E4⟩;have XB:=(aA.new w3 #[.int .i64 th,.int .i64 rg,.string (tx lc),.string ⟨#[]⟩,.int .i64 0] 56).below E4;have XF:=fun j=>(dM E4 (b:=w3.heap.size) (by simp) j).trans (aV w3 _ _ j)
 have EE:=hid (aB E.out ((al w3 _).trans (E4.mono (by simp))));have g1:=HG.out.below EE.out;have XL:w3.heap.size<w4.heap.size:=XB.1;clear E4;have XB:=hid XB;have XF:=hid XF;go_wp2_with fail;refine(NY.out _ g1).mono ?_;rintro e w5 ⟨v,bn,rfl,HN,E5⟩;have XB:=XB.out.below E5;have XF:=fun j=>(dM E5 XL j).trans (XF.out j)
 have E:=aB EE.out E5;have XL:w3.heap.size<w5.heap.size:=XB.1;obtain⟨⟨d0,d1,d2,d3,d4⟩,hf,hlt,B⟩:=nA E;have hne:w.heap.size≠w3.heap.size:=by simp at hw3;omega
 have vU:=hne.symm;obtain⟨q0,q1,q2,q3,q4⟩:=XB.fc;have BW:w.heap.size<=w3.heap.size:=by simp at hw3;omega
 clear g1 E XB hw3;cases bn
 ·obtain⟨b,hb⟩:=aj (aC wW)
  have PZ:=hid (fun h=>V2.out _ HN h);have P5:=hid (fun h=>V3.out _ HN h);rw[hb]at MY PZ P5;clear HN hb;cases b
  ·have HP:=hid (show o=none by rw[HI.out,P5.out rfl];exact uH _)
   go_wp2_with (go_at_call 52;refine av (MY.out _) ?_)
   exact bodyPost_ret (by simp[results,results21,go_sem,d0,d1,d2,d3,d4,aS]<;>rfl) rfl (jr.no HP.out rfl (mO B cW))
  have HP:=hid (show o=some ⟨th,rg,lc,wW,0⟩ by rw[HI.out,PZ.out rfl,U3 HT.out])
  go_wp2_with (go_at_call 52;refine av (MY.out _) ?_)
  exact bodyPost_ret (by simp[results,results21,go_sem,d0,d1,d2,d3,d4]) rfl (jr.yes HP.out rfl (by
   (repeat first|with_reducible refine G6 ?_ (anb _) _ _|with_reducible refine G6 ?_ BW _ _)
   exact B))
 have HP:=hid (show o=some ⟨th,rg,lc,[],v⟩ by rw[HI.out,V1.out _ HN,U3 HT.out])
 clear HN;go_wp2
 exact bodyPost_ret (by simp[results,results21,go_sem,d0,d1,d2,d3,d4,aS]) rfl (jr.yes HP.out rfl (by
  (repeat first|with_reducible refine G6 ?_ (anb _) _ _|with_reducible refine G6 ?_ BW _ _)
  exact B))
abbrev Ib:Obj:=.cells #[.int .i64 0,.int .i64 0,.int .i64 0,.int .i64 0,.int .i64 0,.string ⟨#[]⟩,.string ⟨#[]⟩,.int .i64 0] 50
theorem Te(E:Below (w.alloc Ib).heap.size (w.alloc Ib) w1):(w1.cell? ⟨w.heap.size,0,none⟩=some (.int .i64 0)/\w1.cell? ⟨w.heap.size,1,none⟩=some (.int .i64 0)/\w1.cell? ⟨w.heap.size,2,none⟩=some (.int .i64 0)/\w1.cell? ⟨w.heap.size,3,none⟩=some (.int .i64 0)/\w1.cell? ⟨w.heap.size,4,none⟩=some (.int .i64 0)/\w1.cell? ⟨w.heap.size,5,none⟩=some (.string ⟨#[]⟩)/\w1.cell? ⟨w.heap.size,6,none⟩=some (.string ⟨#[]⟩)/\w1.cell? ⟨w.heap.size,7,none⟩=some (.int .i64 0))/\(∀j,w1.frozen? ⟨w.heap.size,j,none⟩=false)/\w.heap.size<w1.heap.size/\Below w.heap.size w w1:=by
 have b0:=(aA.new w #[.int .i64 0,.int .i64 0,.int .i64 0,.int .i64 0,.int .i64 0,.string ⟨#[]⟩,.string ⟨#[]⟩,.int .i64 0] 50).below E;refine⟨⟨b0.get 0 _ rfl,b0.get 1 _ rfl,b0.get 2 _ rfl,b0.get 3 _ rfl,b0.get 4 _ rfl,b0.get 5 _ rfl,b0.get 6 _ rfl,b0.get 7 _ rfl⟩,fun j=>(dM E (b:=w.heap.size) (by simp) j).trans (aV w _ _ j),?_,(al w Ib).trans (E.mono (by simp))⟩;have:=E.size;simp at this;omega
theorem ajj(af:Int)(ha:bF af=true)(s:Tx)(w:World)(g:Gl w):Calls prog 19 #[.int .i64 af,.string (tx s)] w (bI (mM af s) w):=by
 have KN:=hid (fun w=>Yl af w);have HA:=hid ha;have g0:=g.below (al w Ib);unfold mM;rcases Jn ha with rfl|rfl
 ·rw[if_pos rfl]
  have PX:=hid (aes s _ g0);generalize dY s=r at*;unfold bI at*;generalize J4 r=er at*;generalize LZ r=I at*;obtain⟨op,d,a,b,ag,loc,label,ai⟩:=I;clear g g0 ha;go_in
  go_wp2_with (first|(go_at_call 42;refine av (KN.out _) ?_;rw[HA.out])|fail)
  refine PX.out.mono ?_;rintro e w1 ⟨rfl,E⟩;obtain⟨⟨d0,d1,d2,d3,d4,d5,d6,d7⟩,hf,hlt,B⟩:=Te E;clear E PX;go_wp2;exact bodyPost_ret (by simp[results,results19,go_sem,d0,d1,d2,d3,d4,d5,d6,d7]) rfl ⟨rfl,mO B cW⟩
 rw[if_neg (by decide)]
 have PX:=hid (ahs s _ g0);generalize fT s=r at*;unfold bI at*;generalize J4 r=er at*;generalize LZ r=I at*;obtain⟨op,d,a,b,ag,loc,label,ai⟩:=I;clear g g0 ha;go_in
 go_wp2_with (first|(go_at_call 42;refine av (KN.out _) ?_;rw[HA.out])|fail)
 refine PX.out.mono ?_;rintro e w1 ⟨rfl,E⟩;obtain⟨⟨d0,d1,d2,d3,d4,d5,d6,d7⟩,hf,hlt,B⟩:=Te E;clear E PX;go_wp2;exact bodyPost_ret (by simp[results,results19,go_sem,d0,d1,d2,d3,d4,d5,d6,d7]) rfl ⟨rfl,mO B cW⟩
theorem Oi{P:Program}{t e:TypeId}{z:Value}{bytes:Nat}(T:gQ P t e z size bytes){ops:Array Oper}{o:Oper}{f:Act}{K:Act->World->Prop}{Q:Exit->Act->World->Prop}{E:Prop}(s x:Operand)(hgd:o.guard=none)(ho:o.op= .call { callee:=.builtin .append,args:=#[s,x],argTypes:=#[t,t] })
 {n:Nat} {sa:Option Addr}  (hs:f.eval s= .slice sa n c) (hown:Own w B e size sa n c xs)
 {xa:Option Addr} {m xc:Nat} {ys:List Value} (hx:f.eval x= .slice xa m xc) (hrow:Row w xa ys) (hl:ys.length=m*size) (h1c: ∀u∈ys,u.oneCell'=true)
 (og:B<=w.heap.size) (hbytes:(n+m)*bytes<=140737488355328) (hm:n+m<=maxLen)
 (h: ∀a' c' w',Own w' B e size a' (n+m) c' (xs++ys)->jF w w' sa c a' c'->K (f.put o.dst (.slice a' (n+m) c')) w'):if Region.wanted o (yielded ops f.tmps)=true then Oper.wp P o f w K Q else E:=by
 have hw:Region.wanted o (yielded ops f.tmps)=true:=by simp[Region.wanted,hgd]
 rw[if_pos hw];obtain⟨a',c',w',hrun,h1,h2⟩:=Y8 T o.type hown (xc:=xc) hrow hl h1c hbytes hm og;unfold Oper.wp execOp;simp only[ho,resolve,invoke,builtin,Sem.run_bind,Sem.run_pure,Result.andThen_ok,List.map_toArray,List.map_cons,List.map_nil,hs,hx,hrun];exact h a' c' w' h1 h2
abbrev nY(w:World)(B:Nat)(a:Option Addr)(n c:Nat)(l:List aL):Prop:=Own w B 56 5 a n c (flat fN l)
def I9(p:EP (List aL × Tx))(w1 w:World)(s:Tx)(t:aG)(e:Ending)(w':World):Prop:=Below w1.heap.size w1 w'/\((∃er k,p= .error (er,k)/\e=pW er k)\/(∃l r1 k' a c,p= .ok (l,r1)/\s.drop k'=r1/\e= .returned (.tuple #[])/\St w w' w1.heap.size/\cM w1 w' s k' { t with ia:=a,ic:=c,init:=l }/\nY w' w.heap.size a l.length c l))
theorem U8(h:(ax r).head?≠some 123\/(125:UInt8)∉ax r):eM af N r= .error (140,bJ N (ax r)):=by
 unfold eM;dsimp only;rw[if_pos h]
theorem U6(h:ax r=123::v)(h2:(125:UInt8)∈v):eM af N r=match gF af N (aH 59 (v.takeWhile (· != 125))) v []with
 | .error e=>.error e
 | .ok l=>.ok (l,(v.dropWhile (· != 125)).drop 1):=by
 unfold eM;dsimp only;rw[h,if_neg (by rintro(f|f);exact f rfl;exact f (apF _ h2)),aps (by decide),List.dropWhile_cons_of_pos (by decide)];rfl
def lN(W:Tx):List Tx->Tx
 |[]=>W
 |[p]=>p++W
 |p::L=>p++59::lN W L
theorem M6(W:Tx): ∀A:Tx,lN W (aH 59 A)=A++W
 |[]=>rfl
 | c::A=>by
   have ih:=M6 W A;cases h:c==59 with
   | true=>
     obtain rfl:c=59:=by simpa using h
     rw[aH,if_pos h];cases e:aH 59 A with
     |nil=>exact absurd e (mW 59 A)
     |cons x t=>rw[e]at ih;show[]++59::lN W (x::t)=_;rw[ih];rfl
   | false=>
     rw[aH,if_neg (by rw[h];decide)];cases e:aH 59 A with
     |nil=>exact absurd e (mW 59 A)
     | cons x t=>
       rw[e]at ih;cases t with
       |nil=>show(c::x)++W=_;rw[show c::A++W=c::(A++W)from rfl,<-ih];rfl
       |cons y t=>show(c::x)++59::lN W (y::t)=_;rw[show c::A++W=c::(A++W)from rfl,<-ih];rfl
theorem agW(W p:Tx)(L:List Tx)(hW:W≠[]): ∃d r,lN W (p::L)=p++d::r/\(L≠[]->r=lN W L):=by
 cases L with
 | nil=>
   cases W with
   |nil=>exact absurd rfl hW
   |cons d r=>exact⟨d,r,rfl,fun h=>absurd rfl h⟩
 |cons x L=>exact⟨59,lN W (x::L),rfl,fun _=>rfl⟩
theorem Xu(h:ak p=[]):gF af N (p::L) v acc=gF af N L (v.drop (p.length+1)) acc:=by rw[gF,if_pos h]
theorem Xs(h:ak p≠[])(h2:fR af p=none):gF af N (p::L) v acc= .error (140,bJ N (ax v)):=by rw[gF,if_neg h,h2]
theorem Xt(h:ak p≠[])(h2:fR af p=some x):gF af N (p::L) v acc=gF af N L (v.drop (p.length+1)) (acc++[x]):=by rw[gF,if_neg h,h2]
theorem NW(h:ak p≠[]):ax (p++r)=ax p++r:=by
 have:ax p≠[]:=fun e=>h ((wT p).2 (ru e))
 unfold ax at this⊢;rw[List.dropWhile_append,if_neg (by simpa using this)]
theorem noInit(h:t.ia=none/\t.ic=0/\t.init=[]):{ t with ia:=none,ic:=0,init:=[] }=t:=by
 obtain⟨af,name,bD,ia,ic,init,ca,cc,code,q,node⟩:=t;obtain⟨h1,h2,h3⟩:=h;simp only at h1 h2 h3;subst h1;subst h2;subst h3;rfl
theorem aA.gr{l:List Value}{r:Option Nat}(h:aA w b l)(hb:Below w.heap.size w w1)(hg:w1.grownBy w2 r)(hr: ∀c,r=some c->c≠b):aA w2 b l:=by
 have h1:=h.below hb;refine⟨anW h1.1 hg.size,fun j hj=>?_⟩;have h2:=h1.2 j hj;rw[am9 hj]at h2⊢;refine hg.cell h2 ?_;cases r with
 |none=>simp
 |some c=>have:=hr c rfl;simpa using fun e=>this e.symm
theorem YU(w:World)(x:aL)(T:TypeId):Row (w.alloc (.cells #[.int .i64 x.thread,.int .i64 x.az,.string (tx x.loc),.string (tx x.aT),.int .i64 x.n] T)) (an7 ⟨w.heap.size,0,none⟩) (fN x):=by
 have b:=aA.new w #[.int .i64 x.thread,.int .i64 x.az,.string (tx x.loc),.string (tx x.aT),.int .i64 x.n] T;refine⟨fun _=>rfl,fun i hi=>?_⟩;simp
theorem Xq{d:UInt8}(h:ak p≠[])(hN:(p++d::r).length<=N):((N-(p++d::r).length:Nat):Int)+((p.length-(ax p).length:Nat):Int)=(bJ N (ax (p++d::r)):Nat):=by
 rw[NW h];unfold bJ;have:=(apr (l:=p) aq).length_le;unfold ax;simp only[aoW,List.length_cons]at hN⊢;omega
theorem agL{er:Int}{i:Int}(h:i=(k:Int)):Ending.panicked [{ v:=.iface 65 (.agg #[.int .i64 er,.int .i64 i]),recovered:=false }]=pW er k:=by subst h;rfl
theorem St.app{wi:World}{rb:Nat}{n c':Nat}{E:Nat}{a a':Option Addr}(h:St w wi rb)(ho:Own wi B E size a n c xs)(hB:w.heap.size<=B)(hg:jF wi w' a c a' c'):St w w' rb:=by
 refine⟨?_,.inl rfl⟩;have g:=hg.step.grown;refine⟨g.os.trans h.grown.os,g.tape.trans h.grown.tape,g.output.trans h.grown.output,ap1 h.grown.size g.size,fun k hk hne=>?_⟩;rw[g.block k (anW hk h.grown.size) ?_]
 ·exact h.grown.block k hk hne
 cases a with
 |none=>simp
 | some x=>
   have:=(Own.lt ho (by simp)).1;simp[bk]at this ⊢; omega
theorem aji(R:cM w1 w s k t)(ha:bF t.af=true)(h0:t.ia=none/\t.ic=0/\t.init=[]):Calls prog 29 #[.pointer (some ⟨w1.heap.size,0,none⟩)] w (I9 (eM t.af s.length (s.drop k)) w1 w s t):=by
 obtain⟨c0,c1⟩:=R.bx.mB;have hl:=R.sl;have PK:=hid (De s w1.heap.size k R.le R.sl w c0 c1);have FL:=hid (fun p er k w=>Dc p er k w);have HR:=hid R;obtain⟨u,hu⟩:=aj (ax (s.drop k));obtain⟨N,hN⟩:=aj s.length;have P1:=hid (fun h=>U8 (af:=t.af) (N:=N) (r:=s.drop k) h);have P2:=hid (fun v h h2=>U6 (af:=t.af) (N:=N) (r:=s.drop k) (v:=v) h h2);rw[hu]at P1 P2;rw[hN]at PK⊢;have HN:=hid hN;generalize eM t.af N (s.drop k)=hp at*;clear c0 c1;go_in;go_wp2_with fail;refine PK.out.mono ?_;rintro e w2 ⟨hv,E2⟩;unfold sJ at hv;rw[hu]at hv;rcases hv with⟨mg,rfl⟩|⟨b,mg,hb,h10,kA,rfl⟩
 ·have P1:=hid (P1.out (.inl (by rw[mg];simp)))
  rw[mg,yK]at P1;have E:=hid E2;clear hu mg E2;go_wp2_with fail;refine(FL.out _ _ _ _).mono ?_;rintro e w4 ⟨rfl,E4⟩;have E:=hid (aB E.out E4);clear E4;go_wp2_with fail;exact⟨rfl,(HR.out.below E.out).bu,.inl ⟨_,_,P1.out,rfl⟩⟩
 obtain⟨c,hc⟩: ∃c,u.head?=some c:=by
  cases u with
  |nil=>exact absurd rfl mg
  |cons c r=>exact⟨c,rfl⟩
 have hcb:aq c=false:=je (l:=s.drop k) (p:=aq) (by rw[show(s.drop k).dropWhile aq=u from hu];exact hc);obtain⟨q1,q2,q3⟩:=Cn hc hcb hb;have dN:u.length<=N:=by rw[<-hu,<-hN];have:=(kX (s.drop k)).length_le;have:=aoN (i:=k) (l:=s);omega
 have hin:b.length+u.length<=N:=by unfold bJ at kA;omega
 have hlen:(b++u.takeWhile (· != 10)).length<=262144:=by have:=pM (· != 10) u;rw[aoW];omega
 have TR:=hid (fun w=>pI (b++u.takeWhile (· != 10)) (by omega) w);rw[q1]at TR
 obtain⟨r0,dw⟩: ∃r0,aK u=c::r0:=by
  cases Ld:aK u with
  |nil=>rw[Ld]at q3;cases q3
  |cons d r0=>rw[Ld]at q3;exact⟨r0,by rw[show d=c from an4 q3]⟩
 rw[dw]at TR;have i0:=kJ (c::r0) c rfl;generalize b++u.takeWhile (· != 10)=ln at*;have E2:=hid E2;clear q1 q2 q3 dw hin hlen hb h10 kA;go_wp2_with fail;refine(TR.out _).mono ?_;rintro e w3 ⟨rfl,E3⟩;have E:=hid (aB E2.out E3);clear E3
 by_cases FF:c=123
 ·subst FF
  have y0:(((123:UInt8).toNat:Int) != 123)=false:=by decide
  obtain⟨v,rfl⟩: ∃v,u=123::v:=by
   cases u with
   |nil=>exact absurd rfl mg
   |cons d v=>exact⟨v,by rw[show d=123 from an4 hc]⟩
  have yg:s.drop (N-(v.length+1))=123::v:=by
   have:=Bi (s:=s) (u:=123::v) (k:=k) (by rw[<-hu];exact kX _);rw[hN]at this;exact this
  have hpl:bJ N (123::v)=N-(v.length+1):=rfl;rw[hpl]at*;have hvN:v.length+1<=N:=dN;have R3:=HR.out.below E.out;have e0:=R3.bx.get 0 _ rfl;have hrb:=R3.lt;have sl:=GX s (N-(v.length+1)) (by omega);rw[yg]at sl;have IB:=hid (fun w=>LV (123::v) 125 w);obtain⟨i1,i2⟩:=LU 125 (123::v)
  by_cases vL:(125:UInt8)∈v
  ·obtain⟨A,hA⟩:=aj (v.takeWhile (· != 125))
   obtain⟨Y,hY⟩: ∃Y,v.dropWhile (· != 125)=125::Y:=by
    cases hd:v.dropWhile (· != 125)with
    |nil=>exact absurd (ru hd 125 vL) (by simp)
    | cons d Y=>
      have:=je (l:=v) (p:=(· != 125)) (c:=d) (by rw[hd];rfl);have:d=125:=by simpa using this
      subst this;exact⟨Y,rfl⟩
   have hv:v=A++125::Y:=by rw[<-hA,<-hY];exact(List.takeWhile_append_dropWhile ..).symm
   have e8:=i2 (apF _ vL);rw[aps (p:=fun x=>x != 125) (by decide),hA]at e8;obtain⟨q8,Lh⟩:=aj ((123::A).length);rw[Lh]at e8;have UA:q8=A.length+1:=by rw[<-Lh];rfl
   have IB:=hid (fun w=>e8▸IB.out w);have P2:=hid (P2.out v rfl vL);rw[hA,hY,List.drop_one,List.tail_cons]at P2;have hvl:v.length=A.length+Y.length+1:=by rw[hv];simp;omega
   generalize di:N-(v.length+1)=p0 at*;have amV:p0+v.length+1=N:=by omega
   have Kr:N<=262144:=by rw[<-hN];exact hl
   have z8:decide ((q8:Int)<0)=false:=by simp
   have nR: ∀w,(Instr.sliceAt 9 (.string (tx s)) (some (.int .i64 ((p0:Int)+1))) (some (.int .i64 ((p0:Int)+(q8:Int)))) none).run prog w= .ok (.string (tx A)) w:=by
    have:=jD s (p0+1) (p0+q8) (by omega) (by omega)
    have e:(s.take (p0+q8)).drop (p0+1)=A:=by
     rw[List.drop_take,show p0+q8-(p0+1)=A.length by omega,<-apD,yg];show(v.take A.length)=A;rw[hv];simp
    rw[e,show((p0+1:Nat):Int)=(p0:Int)+1 by omega,show((p0+q8:Nat):Int)=(p0:Int)+(q8:Int) by omega]at this;exact this
   have TV:s.drop (p0+q8+1)=Y:=by
    rw[show p0+q8+1=p0+(q8+1) by omega,<-apD,yg,UA];show v.drop (A.length+1)=Y;rw[hv,<-apD];simp
   have SP:=hid (fun w g=>Zo A 59 (by omega) w g);have hJ:=M6 (125::Y) A;rw[<-hv]at hJ;have hne:=mW 59 A;have qp: ∀p∈aH 59 A,p.length<=262144:=fun p hp=>by have:=wQ 59 A p hp;omega
   have hLn:=qG 59 A;generalize aH 59 A=L at*;obtain⟨n,hn⟩:=aj L.length;rw[hn]at SP hLn;have fk:n<=262145:=by omega
   have eT:=hid hn;have ID:=hid qp;have HJ:=hid hJ;have HSD:=hid yg;have HNE:=hid hne;have g4:=HR.out.g.below E.out;have cE:=hid TV;have hk2:p0+q8+1<=N:=by omega
   have hn0:n≠0:=fun h=>hne (List.length_eq_zero_iff.1 (hn.trans h))
   have IJ:=hid (noInit h0);clear hu i1 i2 e8 vL yg R3 P1 hc mg hA hY hv Lh hvl TV hJ hne qp hn hLn hpl dN hvN di h0 UA
   go_wp2_with (first|(go_at_call 78;refine av (IB.out _) ?_)|fail)
   refine(SP.out _ g4).mono ?_;rintro e w4 ⟨a,rfl,oA,T,E4⟩;have adl:w3.heap.size<=bk a:=(Own.lt oA (Own.some oA (by omega))).1;clear oA;have E:=hid (aB E.out E4)
   have hab:bk a<w4.heap.size:=by
    have:=Row.lt T.row (by intro h;apply hn0;rw[<-eT.out];simpa using congrArg List.length h);exact this
   have oQ:=hid (aX (bw:=w1.heap.size) E.out);have R4:=hid (show cM w1 w4 s k { t with ia:=none,ic:=0,init:=[] } by rw[IJ.out];exact HR.out.below E.out);have T:=hid T;obtain⟨pp,eC⟩:=aj (gF t.af N L v []);rw[eC]at P2;have iA:=hid eC;have UH:=E.out.size;clear E4 e0 eC g4 oQ;go_wp2_with fail
   go_loopw [7,55] (fun f i wi=> ∃(m:Nat) (acc:List aL) (ia:Option Addr) (ic:Nat) (x:Tx),i= .int .i64 m/\m<=n/\f= .int .i64 (N-x.length:Nat)/\x.length<=N/\acc.length<=m/\Hid (m<n->x=lN (125::Y) (L.drop m))/\Hid (pp=gF t.af N (L.drop m) x acc)/\Hid (cM w1 wi s k { t with ia:=ia,ic:=ic,init:=acc })/\Hid (nY wi w4.heap.size ia acc.length ic acc)/\Hid (St w wi w1.heap.size)/\Hid (bS wi a L)/\w4.heap.size<=wi.heap.size) (fun _ i _=>n-(intOf i).toNat)
   case atStart=>
    refine⟨0,[],none,0,v,rfl,Nat.zero_le _,?_,by omega,anb _,hid fun _=>by rw[List.drop_zero];exact HJ.out.symm,hid (by rw[List.drop_zero];exact iA.out.symm),R4,hid (Own.nil _ _ _ _),hid (aX E.out),T,anb _⟩
    congr 1;omega
   obtain⟨m,acc,ia,ic,x,rfl,hmn,rfl,Ga,adm,HX,HP,RR,OO,SS,TT,Tu⟩:=hrel
   by_cases hlt:m<n
   ·obtain⟨p,jL⟩: ∃p,L[m]? =some p:=⟨_,am9 (by rw[eT.out];exact hlt)⟩
    have hdr:L.drop m=p::L.drop (m+1):=by
     obtain⟨h1,h2⟩:=anx.1 jL;rw[List.drop_eq_getElem_cons h1,h2]
    have ix:=TT.out.idx m (by rw[eT.out];exact hlt) n;rw[eT.out]at ix;have cl:=TT.out.cell m (by rw[eT.out];exact hlt);rw[(anx.1 jL).2]at cl;obtain⟨d,r,ex,er⟩:=agW (125::Y) p (L.drop (m+1)) (by simp);have hx:=HX.out hlt;rw[hdr,ex]at hx;have hxl:x.length=p.length+1+r.length:=by rw[hx];simp;omega
    have kR:x.drop (p.length+1)=r:=by rw[hx,<-apD];simp
    have amX:p.length<=262144:=by omega
    have iB:=hid (show m+1<n->r=lN (125::Y) (L.drop (m+1))from fun h=>er (fun e=>by
     have:=congrArg List.length e;rw[aoN,eT.out]at this;simp at this;omega))
    have TP:=hid (fun w=>pI p (by omega) w);obtain⟨pl,hpl⟩:=aj ((tx p).size);have qp:pl=p.length:=by rw[<-hpl,aM]
    have adM:pl<=262144:=by omega
    have hfr:((N-x.length:Nat):Int)+((pl:Int)+1)=((N-r.length:Nat):Int):=by omega
    have Eb:=hid hfr;have HXE:=hid hx;have tS:decide ((m:Int)<(n:Int))=true:=ah;have vY:r.length<=N:=by omega
    have mc:N-x.length<=262144:=by omega
    rw[hdr]at HP
    by_cases hb:ak p=[]
    ·have dm:=hid (show pp=gF t.af N (L.drop (m+1)) r acc by rw[HP.out,Xu hb,kR])
     rw[hb]at TP;have TP:=hid (fun w=>(show aJ w (.string (tx []))=aJ w (.string ⟨#[]⟩)from rfl)▸TP.out w);clear jL hdr ex er hx hxl kR qp hfr hb HP HX;go_wp2_with fail;refine(TP.out _).mono ?_;rintro e w5 ⟨rfl,E5⟩;have RR:=hid (RR.out.below E5);have OO:=hid (Own.below OO.out E5);have SS:=hid (SS.out.trans (aX (bw:=w1.heap.size) E5));have TT:=hid (TT.out.below E5);have Kh:=ap1 Tu E5.size;clear E5 cl;go_wp2_with fail
     go_roundw;exact⟨m+1,acc,ia,ic,r,by go_num,by omega,by rw[Eb.out],vY,by omega,iB,dm,RR,OO,SS,TT,Kh⟩;simp[intOf];omega
    obtain⟨tp,wj⟩:=aj (ak p)
    have zt:(tx tp).toList.isEmpty=false:=by
     rw[bh,<-wj];cases e:ak p with
     |nil=>exact absurd e hb
     |cons a b=>rfl
    rw[wj]at TP;have RI:=hid (fun w g=>ajh t.af ha p (by omega) w g);have LD:=hid (fun w=>Dd p (by omega) w);cases hI:fR t.af p with
    | none=>
      have PE:=hid (show hp= .error (140,bJ N (ax x)) by rw[P2.out,HP.out,Xs hb hI]);have hpa:=hid (show((N-x.length:Nat):Int)+((p.length-(ax p).length:Nat):Int)=(bJ N (ax x):Nat) by rw[hx];exact Xq hb (by rw[<-hx];exact Ga));rw[hI]at RI;obtain⟨ld,mh⟩:=aj (p.length-(ax p).length);rw[mh]at LD hpa;have adE:ld<=262144:=by omega
      clear jL hdr ex er hx hxl kR qp hfr hb wj hI HP HX iB;go_wp2_with fail;refine(TP.out _).mono ?_;rintro e w5 ⟨rfl,E5⟩;have sK:=RR.out.below E5;have q2:=sK.bx.get 2 _ rfl;have g5:=sK.g;have we:=sK.lt;have E5:=hid E5;clear sK cl;go_wp2_with fail;refine(RI.out _ g5).mono ?_;rintro e w6 h;obtain⟨E6,rfl⟩:Below w5.heap.size w5 w6/\e= .returned (.tuple #[lQ ⟨0,0,[],[],0⟩,.int .i64 140]):=h;have E6:=hid (aB E5.out E6);clear q2 g5 we;go_wp2_with fail;refine(LD.out _).mono ?_;rintro e w7 ⟨rfl,E7⟩;have E7:=hid (aB (aB E6.out (al w6 _)) E7);go_wp2_with fail;refine(FL.out _ _ _ _).mono ?_;rintro e w8 ⟨rfl,E8⟩;have E8:=hid (aB E7.out E8);go_wp2_with fail;exact⟨rfl,(RR.out.below E8.out).bu,.inl ⟨_,_,PE.out,agL hpa.out⟩⟩
    | some y=>
      have dm:=hid (show pp=gF t.af N (L.drop (m+1)) r (acc++[y]) by rw[HP.out,Xt hb hI,kR]);rw[hI]at RI;obtain⟨th,rg,lc,vl,vn⟩:=y;clear jL hdr ex er hx hxl kR qp hfr hb wj hI HP HX LD;go_wp2_with fail;refine(TP.out _).mono ?_;rintro e w5 ⟨rfl,E5⟩;have sK:=RR.out.below E5;have q2:=sK.bx.get 2 _ rfl;have g5:=sK.g;have we:=sK.lt;have E5:=hid E5;clear sK cl;go_wp2_with fail;refine(RI.out _ g5).mono ?_;rintro e w6 h;obtain⟨E6,rfl⟩:Below w5.heap.size w5 w6/\e= .returned (.tuple #[lQ ⟨th,rg,lc,vl,vn⟩,.int .i64 0]):=h;have E6:=aB E5.out E6;clear q2 g5 we
      go_upto_region 14 with(fail)
      have XB:=aA.new w6 #[.int .i64 th,.int .i64 rg,.string (tx lc),.string (tx vl),.int .i64 vn] 56;have EW:Below wr.heap.size wr (w6.alloc (.cells #[.int .i64 th,.int .i64 rg,.string (tx lc),.string (tx vl),.int .i64 vn] 56)):=aB E6 (al w6 _);have BC:w6.heap.size≠w1.heap.size:=by have:=RR.out.lt;have:=E6.size;omega
      have adq:=BC.symm;have adr:wr.heap.size<=w6.heap.size:=E6.size;generalize hW:w6.alloc (.cells #[.int .i64 th,.int .i64 rg,.string (tx lc),.string (tx vl),.int .i64 vn] 56)=W at*;generalize amx:w6.heap.size=b9 at*;have RW:=RR.out.below EW;have OW:=Own.below OO.out EW;have TW:=TT.out.below EW;have SW:=hid (SS.out.trans (aX (bw:=w1.heap.size) EW));obtain⟨x0,x1,x2,x3,x4⟩:=XB.fc;have q5:=RW.bx.get 5 _ rfl;have Un:=RW.dG 5;have Ll:=RW.lt;have hbW:=XB.1;have UK:w4.heap.size<=W.heap.size:=ap1 Tu EW.size;have Kz:acc.length<=262145:=by omega
      have sC:=hid RW;have Ae:=hid OW;have PY:=hid TW
      have rE: ∀b,ia.map (·.block)=some b->w1.heap.size<b:=fun b hb=>by
       cases ia with
       |none=>cases hb
       | some z=>
         have:=(Own.lt OW (by simp)).1;simp[bk]at hb this;have:=HR.out.lt;omega
      have FU: ∀b,ia.map (·.block)=some b->b≠b9:=fun b hb=>by
       cases ia with
       |none=>cases hb
       | some z=>
         have h1:=(Own.lt OO.out (by simp)).2;simp[bk]at hb h1;omega
      have EH:=hid XB;clear RW OW TW XB E5 EW hW;have Ph:=jt (eZ (Below.refl W.heap.size W) (.cells #[.int .i64 th,.int .i64 rg,.string (tx lc),.string (tx vl),.int .i64 vn] 56));have H7:=hid Ph;clear Ph
      go_region_law
       ((refine Oi pF (.tmp 85) (.tmp 87) (by rfl) (by rfl) (B:=w4.heap.size) (n:=acc.length) (c:=ic) (sa:=ia) (xs:=flat fN acc) (by rfl) (Own.below Ae.out H7.out) (xa:=some ⟨W.heap.size,0,none⟩) (xc:=1) (m:=1) (ys:=fN ⟨th,rg,lc,vl,vn⟩) (by rfl) ((YU W ⟨th,rg,lc,vl,vn⟩ _).below (below_drewN _ 1)) (by rfl) (Ri _) (ap1 UK H7.out.size) (by omega) cz ?_
         intro a' c' w' ho hg;have qm:=hid hg;have vW:=hid ho;have R7:=(sC.out.below H7.out).kept hg.step.grown rE;have XW:=aA.gr EH.out H7.out hg.step.grown FU;have q57:=R7.bx.get 5 _ rfl;have amD:=R7.dG 5;obtain⟨y0,y1,y2,y3,y4⟩:=XW.fc;have R7:=hid R7;clear ho hg XW))
      all_goals
       have R8:=R7.out.put 5 (.slice a' (acc.length+1) c') (k':=k) (t':={ t with ia:=a',ic:=c',init:=acc++[⟨th,rg,lc,vl,vn⟩] }) (by simp[wK,cT]) (aI R7.out.le);have Et:=hid (Own.below Ae.out H7.out);have S7:=hid (St.app (SW.out.trans (aX (bw:=w1.heap.size) H7.out)) Et.out UH qm.out);have S8:=hid (S7.out.trans R8.2);have hz:=qm.out.step.grown.size
       have O8:=hid (show nY _ w4.heap.size a' (acc++[(⟨th,rg,lc,vl,vn⟩:aL)]).length c' (acc++[(⟨th,rg,lc,vl,vn⟩:aL)])from by
        have:=Own.kept vW.out R8.2.grown (by
         by_cases h:a'=none
         ·exact .inl h
         have:=(Own.lt vW.out h).1;have:=HR.out.lt;right;simp;omega)
        rw[aoW,nY,j9,lG];exact this)
       have T8:=hid (show bS _ a L from⟨Row.step (Row.step (PY.out.below H7.out).row qm.out.step (by
        by_cases h:ia=none
        ·exact .inr (.inl h)
        have:=(Own.lt Et.out h).1;right;right;omega)) R8.2 (by right;right;have:=HR.out.lt;simp;omega),PY.out.len⟩)
       have Ip:=ap1 UK (ap1 H7.out.size (ap1 hz R8.2.grown.size));replace R8:=hid R8.1;go_wp2_with fail
       go_roundw;exact⟨m+1,acc++[⟨th,rg,lc,vl,vn⟩],a',c',r,by go_num,by omega,by rw[Eb.out],vY,by rw[aoW];simp;omega,iB,dm,R8,O8,S8,T8,Ip⟩;simp[intOf];omega
   obtain rfl:m=n:=by omega
   have dm:=hid (show pp= .ok acc by rw[HP.out,List.drop_eq_nil_of_le (by rw[eT.out];exact anb _)];rfl);have zn:decide ((m:Int)<(m:Int))=false:=by simp
   have R5:=RR.out;have q1:=R5.bx.get 1 _ rfl;have uA:=R5.dG 1;have we:=R5.lt;have R6:=R5.put 1 (.int .i64 (p0+q8+1:Nat)) (k':=p0+q8+1) (t':={ t with ia:=ia,ic:=ic,init:=acc }) rfl (by rw[HN.out];exact hk2);have ST:=hid (SS.out.trans R6.2)
   have OK:=hid (Own.kept (Own.mono OO.out UH) R6.2.grown (by
    by_cases h:ia=none
    ·exact .inl h
    have:=(Own.lt OO.out h).1;have:=HR.out.lt;right;simp;omega))
   have hcast:(p0:Int)+(q8:Int)+1=((p0+q8+1:Nat):Int):=by omega
   rw[<-hcast]at R6 ST OK;replace R6:=hid R6.1;clear R5 hcast;go_wp2_with fail
   go_end0
   exact⟨R6.out.bu,.inr ⟨acc,Y,_,ia,ic,by rw[P2.out,dm.out],cE.out,rfl,ST.out,R6.out,OK.out⟩⟩
  have e8:=i1 (by rw[List.mem_cons];rintro(f|f);(revert f;decide);exact vL f)
  have IB:=hid (fun w=>e8▸IB.out w);have P1:=hid (P1.out (.inr (by rw[List.mem_cons];rintro(f|f);(revert f;decide);exact vL f)));clear hu i1 i2 e8 vL yg R3 P2 hc mg
  go_wp2_with (first|(go_at_call 78;refine av (IB.out _) ?_)|fail)
  refine(FL.out _ _ _ _).mono ?_;rintro e w4 ⟨rfl,E4⟩;have E:=hid (aB E.out E4);clear E4;go_wp2_with fail;exact⟨rfl,(HR.out.below E.out).bu,.inl ⟨_,_,P1.out,rfl⟩⟩
 have P1:=hid (P1.out (.inl (by rw[hc];simpa using FF)))
 have y0:((c.toNat:Int) != 123)=true:=mZ c 123 FF;clear P2 FF hu hc;go_wp2_with fail;refine(FL.out _ _ _ _).mono ?_;rintro e w4 ⟨rfl,E4⟩;have E:=hid (aB E.out E4);clear E4;go_wp2_with fail;exact⟨rfl,(HR.out.below E.out).bu,.inl ⟨_,_,P1.out,rfl⟩⟩
end Go.Proofs.YtkbbgjloifmmbaaGreatDoor

/- What ReadBlanksP leans on, part 24. -/
import Derived.Test.YtkbbgjloifmmbaaGreatDoorPc20
import Derived.Defers
import Derived.Recover
import Derived.Test.YtkbbgjloifmmbaaGreatDoorPc21
set_option linter.unusedVariables false
set_option maxRecDepth 100000
set_option maxHeartbeats 3200000
open _root_.Go.Proofs.Tryz
open _root_.Go.World renaming frozen?_setCell->aoH
open _root_.List renaming length_drop->aoN,length_append->aoW,dropWhile_append_of_pos->apu,drop_zero->ap0,length->anO,drop_length->aob
open _root_.Nat renaming le_refl->anb,zero_le->apL
open _root_.Go.Instr renaming makeFunc->ap3
open _root_.Except renaming error->apT,ok->apV
open _root_.Go.RowKit.Below renaming refl->anM,setCell->anc
open _root_.Go.Exit renaming thenS->ap4
open _root_.Option renaming some->an7
open _root_.Array renaming replicate->ap5
namespace Go.Proofs.YtkbbgjloifmmbaaGreatDoor
open Go.RowKit Go.Sort
variable{af q:Int}{L e l l1 l2 l3:List Tok}{c rb:Nat}{x:Nd}{a:Option Addr}{s:Tx}{w:World}
def kO(af q:Int)(l:List Tok):PR (Int × Nd):=match bg [40] l with
 | .error e=>.error e
 | .ok l=>match gY (bV af (l.length+1)) l with
   | .error e=>.error e
   | .ok (x,l)=>match bg [41] l with
     | .error e=>.error e
     | .ok l=>if l=[]then .ok ((q,x),[])else .error l
def j7(af:Int)(l:List Tok):PR (Int × Nd):=match gy af l with
 | .error e=>.error e
 | .ok p=>.ok (p,[])
theorem Be(af:Int)(l:List Tok):j7 af l=match gW l with
 | .error e=>.error e
 | .ok (q,l)=>kO af q l:=by
 unfold j7 gy kO;cases gW l with
 |error e=>rfl
 | ok p=>
   obtain⟨q,r⟩:=p;simp only;cases bg [40] r with
   |error e=>rfl
   | ok r=>
     simp only;cases gY (bV af (r.length+1)) r with
     |error e=>rfl
     | ok p=>
       obtain⟨x,r⟩:=p;simp only;cases bg [41] r with
       |error e=>rfl
       | ok r=>
         simp only
         by_cases hr:r=[]
         ·rw[if_pos hr,if_pos hr]
         rw[if_neg hr,if_neg hr]
theorem abY(h:au l=[102,111,114,97,108,108]):j7 af l=kO af 3 l.tail:=by
 rw[Be,gW,if_pos h]
theorem abZ(h:au l=[126]):j7 af l=match bg [101,120,105,115,116,115] l.tail with
 | .error e=>.error e
 | .ok r=>kO af 2 r:=by
 rw[Be,gW,if_neg (by rw[h];decide),if_pos h];cases bg [101,120,105,115,116,115] l.tail<;>rfl
theorem ab0(h:au l≠[102,111,114,97,108,108])(h2:au l≠[126]):j7 af l=match bg [101,120,105,115,116,115] l with
 | .error e=>.error e
 | .ok r=>kO af 1 r:=by
 rw[Be,gW,if_neg h,if_neg h2];cases bg [101,120,105,115,116,115] l<;>rfl
theorem Si(h:bg [40] l= .error e):kO af q l= .error e:=by unfold kO;rw[h]
theorem Sj(h:bg [40] l= .ok l1)(h2:gY (bV af (l1.length+1)) l1= .error e):kO af q l= .error e:=by unfold kO;rw[h];simp only;rw[h2]
theorem Sk(h:bg [40] l= .ok l1)(h2:gY (bV af (l1.length+1)) l1= .ok (x,l2))(h3:bg [41] l2= .error e):kO af q l= .error e:=by unfold kO;rw[h];simp only;rw[h2];simp only;rw[h3]
theorem Sl(h:bg [40] l= .ok l1)(h2:gY (bV af (l1.length+1)) l1= .ok (x,l2))(h3:bg [41] l2= .ok l3)(h4:l3≠[]):kO af q l= .error l3:=by unfold kO;rw[h];simp only;rw[h2];simp only;rw[h3];simp only;rw[if_neg h4]
theorem Sn(h:bg [40] l= .ok l1)(h2:gY (bV af (l1.length+1)) l1= .ok (x,l2))(h3:bg [41] l2= .ok l3)(h4:l3=[]):kO af q l= .ok ((q,x),[]):=by unfold kO;rw[h];simp only;rw[h2];simp only;rw[h3];simp only;rw[if_pos h4]
theorem aP.drew{w':World}{b:Nat}(h:aP w w' b):aP w w'.drew b:=⟨⟨h.grown.os,h.grown.tape,h.grown.output,h.grown.size,h.grown.block⟩,h.size⟩
abbrev zC(q:Int):Obj:=.cells #[.int .i64 q,.int .i64 0,.int .i64 0,.int .i64 0,.string ⟨#[]⟩,.int .i64 0,.slice none 0 0] 30
structure lR(w0 w wx:World)(rb:Nat)(af:Int)(s:Tx)(a:Option Addr)(c:Nat)(L:List Tok)(k:Nat)(l:List Value):Prop where
 rd:dA w0 wx rb af s a c L k
 st:St (w.alloc (zC 0)) wx rb
 bx:aA wx (w.heap.size+1) l
 fz: ∀j,wx.frozen? ⟨w.heap.size+1,j,none⟩=false
 hr:rb<w.heap.size
 ht:L≠[]->bk a<w.heap.size
section
variable {w0 w wx wy:World} {rb:Nat} {af:Int} {s:Tx} {a:Option Addr} {c:Nat} {L:List Tok} {k k':Nat} {l:List Value}
theorem lR.new(R:dA w0 w rb af s a c L k):lR w0 w ((w.alloc (zC 0)).alloc (zC 1)) rb af s a c L k [.int .i64 1,.int .i64 0,.int .i64 0,.int .i64 0,.string ⟨#[]⟩,.int .i64 0,.slice none 0 0]:=by
 refine⟨(R.below (al w (zC 0))).below (al _ (zC 1)),St.new (St.refl _ _) _,?_,fun j=>?_,R.lo.2,fun h=>R.rd.toks.lt kr (by omega) h⟩
 ·have:=aA.new (w.alloc (zC 0)) #[.int .i64 1,.int .i64 0,.int .i64 0,.int .i64 0,.string ⟨#[]⟩,.int .i64 0,.slice none 0 0] 30
  simpa using this
 have:=aV (w.alloc (zC 0)) #[.int .i64 1,.int .i64 0,.int .i64 0,.int .i64 0,.string ⟨#[]⟩,.int .i64 0,.slice none 0 0] 30 j
 rw[cR]at this;exact this
theorem lR.step(h:lR w0 w wx rb af s a c L k l)(hs:St wx wy rb)(hr:cU wy w0.heap.size rb af s a c L k'):lR w0 w wy rb af s a c L k' l:=by
 have:=h.hr;have hlt:=h.bx.1;exact⟨h.rd.st hs hr,h.st.trans hs,h.bx.step hs (by omega),fun j=>(eW hs hlt (by omega) j).trans (h.fz j),h.hr,h.ht⟩
theorem lR.below(h:lR w0 w wx rb af s a c L k l)(hb:Below wx.heap.size wx wy):lR w0 w wy rb af s a c L k l:=
 h.step (aX hb) (h.rd.below hb).rd
theorem lR.next(h:lR w0 w wx rb af s a c L k l)(hk:k<L.length):lR w0 w (wx.setCell ⟨rb,3,none⟩ (.int .i64 ((k:Int)+1))) rb af s a c L (k+1) l:=by
 obtain⟨R2,S2⟩:=h.rd.rd.next hk;exact h.step S2 R2
theorem lR.set(h:lR w0 w wx rb af s a c L k l)(j:Nat)(v:Value):lR w0 w (wx.setCell ⟨w.heap.size+1,j,none⟩ v) rb af s a c L k (l.set j v):=by
 have h1:=h.hr;have h0:=h.rd.lo.1;exact⟨h.rd.gb (ur (uu _ _) j v) (by omega) (fun e=>by have:=h.ht e;omega) (by omega),St.put h.st (by simp) j v,h.bx.set j v,fun i=>by rw[Tf];exact h.fz i,h.hr,h.ht⟩
end
def QF(B:Nat)(x:Int × Nd)(e:Ending)(w:World):Prop:= ∃y,bG y=x.2/\e= .returned (vC x.1 y)/\aZ w B y/\(dL y).Nodup
theorem lR.fin{w0 wx w2:World}{k:Nat}{l:List Value}{e:Ending}{y:Nd}(hC:lR w0 w wx rb af s a c L k l)(hg:wx.grownBy w2 (an7 w.heap.size))(hN:aZ wx (w.heap.size+2) y)(hn:(dL y).Nodup)(hy:bG y=x)(hk:L.drop k=[])(he:e= .returned (vC q y)):gu w w0.heap.size rb af s a c L (.ok ((q,x),[])) (QF w.heap.size) e w2:=by
 have h0:=hC.rd.lo.1;have h2:=hC.hr;have h1:=hC.rd.gb hg (by omega) (fun h=>by have:=hC.ht h;omega) (by omega);have hs:=(St.new (St.refl w rb) (zC 0)).trans hC.st;refine⟨⟨⟨hg.os.trans hs.grown.os,hg.tape.trans hs.grown.tape,hg.output.trans hs.grown.output,Nat.le_trans hs.grown.size hg.size,fun j hj hne=>?_⟩,.inl rfl⟩,.inr ⟨_,k,by rw[hk],⟨y,hy,he,?_,hn⟩,h1.rd⟩⟩
 ·rw[hg.block j (Nat.lt_of_lt_of_le hj hs.grown.size) ah]
  exact hs.grown.block j hj hne
 refine(hN.mono (B':=w.heap.size) (by omega)).kept hg fun b hb e=>?_
 have:=(hN.lt b hb).1;simp at e;omega
def xM(af q:Int)(l:List Tok):PR (Int × Nd):=match bg [101,120,105,115,116,115] l with
 | .error e=>.error e
 | .ok r=>kO af q r
theorem acm(h:bg [101,120,105,115,116,115] l= .error e):xM af q l= .error e:=by unfold xM;rw[h]
theorem acn{r:List Tok}(h:bg [101,120,105,115,116,115] l= .ok r):xM af q l=kO af q r:=by unfold xM;rw[h]
section
variable {w0 w:World} {rb:Nat} {af:Int} {s:Tx} {a:Option Addr} {c:Nat} {L:List Tok} {k:Nat}
theorem Np(R:dA w0 w rb af s a c L k):
 Calls prog 158 #[.pointer (some ⟨rb,0,none⟩)] w (gu w w0.heap.size rb af s a c L (j7 af (L.drop k)) (QF w.heap.size)):=by
 have C0:=hid (lR.new R);have PK:=hid (rS C0.out.rd.rd);unfold pX at PK;have hrb:=R.lo.2;have BU:=R.lo.1;have hne:w.heap.size+1≠rb:=by omega
 have vU:rb≠w.heap.size+1:=by omega
 have hL:L.length<=262144:=R.rd.sm;have TE:=hid (fun(w:World) (k':Nat) (R:cU w w0.heap.size rb af s a c L k')=>vG R [101,120,105,115,116,115] (by decide));have T40:=hid (fun(w:World) (k':Nat) (R:cU w w0.heap.size rb af s a c L k')=>vG R [40] (by decide));have T41:=hid (fun(w:World) (k':Nat) (R:cU w w0.heap.size rb af s a c L k')=>vG R [41] (by decide));have ND:=hid (fun(w:World) (k':Nat) (R:dA w0 w rb af s a c L k')=>ajk R);have FL:=hid (fun(w:World) (k':Nat) (R:cU w w0.heap.size rb af s a c L k')=>Bb R);obtain⟨Z,hZ⟩:=aj (j7 af (L.drop k));rw[hZ];obtain⟨u,hu⟩:=aj (au (L.drop k));rw[hu]at PK;clear R
 have HC:Hid ((u=[102,111,114,97,108,108]/\k<L.length/\kO af 3 (L.drop (k+1))=Z)\/(u=[126]/\k<L.length/\xM af 2 (L.drop (k+1))=Z)\/(u≠[102,111,114,97,108,108]/\u≠[126]/\xM af 1 (L.drop k)=Z)):=hid (by
  by_cases h1:u=[102,111,114,97,108,108]
  ·refine .inl ⟨h1,uz (L:=L) (k:=k) (by rw[hu,h1];decide),?_⟩
   rw[<-hZ,abY (hu.trans h1),List.tail_drop]
  by_cases h2:u=[126]
  ·refine .inr (.inl ⟨h2,uz (L:=L) (k:=k) (by rw[hu,h2];decide),?_⟩)
   rw[<-hZ,abZ (hu.trans h2),List.tail_drop];rfl
  refine .inr (.inr ⟨h1,h2,?_⟩)
  rw[<-hZ,ab0 (by rw[hu];exact h1) (by rw[hu];exact h2)];rfl)
 clear hZ hu;rcases HC.out with⟨h1,h2,h3⟩|⟨h1,h2,h3⟩|⟨h1,h2,h3⟩
 all_goals
  have HZ:=hid h3;clear h3 HC
 rotate_left
 iterate 2
  first
   | have z1:((tx u).toList==[102,111,114,97,108,108])=false:=by rw[bh,h1];decide
     have z2:((tx u).toList==[126])=true:=by rw[bh,h1];decide
     have HK:=hid h2;generalize tx u=v at*;clear h1
   | have z1:((tx u).toList==[102,111,114,97,108,108])=false:=cY _ _ h1
     have z2:((tx u).toList==[126])=false:=cY _ _ h2;generalize tx u=v at*;clear h1 h2
  go_in;go_wp2_with fail;refine PK.out.mono ?_;rintro e w1 ⟨rfl,q⟩;have C:=C0.out.below q.bt;clear q
  first
   | have cE:=HK.out
     obtain⟨c0,c1,c2,c3,f3,lt⟩:=C.rd.rd.cells;have d0:=C.bx.get 0 _ rfl;have e0:=C.fz 0;replace C:=hid ((C.set 0 (.int .i64 2)).next cE)
   |replace C:=hid C
  have TX:=hid (TE.out _ _ C.out.rd.rd);generalize L.drop _=m0 at HZ TX;rcases h0:bg [101,120,105,115,116,115] m0 with er|l0
  ·obtain rfl:=HZ.out.symm.trans (acm h0)
   have HX:=hid h0;clear h0;go_wp2_with fail;refine TX.out.mono ?_;rintro e wa h;obtain⟨rfl,S9⟩:=h.err (show _=apT er by rw[HX.out];rfl);unfold fG;go_wp2_with fail;exact⟨rfl,(St.new (St.refl w rb) (zC 0)).trans (C.out.st.trans S9),.inl ⟨_,rfl,rfl⟩⟩
  replace HZ:=hid ((acn h0).symm.trans HZ.out);have aal:=hid h0;clear h0;go_wp2_with fail;refine TX.out.mono ?_;rintro e wh h;obtain⟨kh,rfl,hv,R9,S9⟩:=h.cX (show _=apV ((),l0) by rw[aal.out];rfl);unfold VU at hv;subst hv;have C:=hid (C.out.step S9 R9);clear h TX R9 S9
  rotate_left
 have z1:((tx u).toList==[102,111,114,97,108,108])=true:=by rw[bh,h1];decide
 have HK:=hid h2;generalize tx u=v at*;clear h1;go_in;go_wp2_with fail;refine PK.out.mono ?_;rintro e w1 ⟨rfl,q⟩;have C:=C0.out.below q.bt;clear q;obtain⟨c0,c1,c2,c3,f3,lt⟩:=C.rd.rd.cells;have d0:=C.bx.get 0 _ rfl;have e0:=C.fz 0;replace C:=hid ((C.set 0 (.int .i64 3)).next HK.out)
 all_goals
  have TX:=hid (T40.out _ _ C.out.rd.rd);generalize L.drop _=l0 at HZ TX;rcases h1:bg [40] l0 with er|r1
  ·obtain rfl:=HZ.out.symm.trans (Si h1)
   have HX:=hid h1;clear h1;go_wp2_with fail;refine TX.out.mono ?_;rintro e wa h;obtain⟨rfl,S9⟩:=h.err (show _=apT er by rw[HX.out];rfl);unfold fG;go_wp2_with fail;exact⟨rfl,(St.new (St.refl w rb) (zC 0)).trans (C.out.st.trans S9),.inl ⟨_,rfl,rfl⟩⟩
  have Aq:=hid h1;clear h1;go_wp2_with fail;refine TX.out.mono ?_;rintro e wa h;obtain⟨k2,rfl,hv,R9,S9⟩:=h.cX (show _=apV ((),r1) by rw[Aq.out];rfl);unfold VU at hv;subst hv;have C:=hid (C.out.step S9 R9);clear h TX R9 S9;have TX:=hid (ND.out _ _ C.out.rd);rcases h2:gY (bV af ((L.drop k2).length+1)) (L.drop k2)with er|⟨x,r2⟩
  ·obtain rfl:=HZ.out.symm.trans (Sj Aq.out h2)
   have HX:=hid h2;clear h2;go_wp2_with fail;refine TX.out.mono ?_;rintro e wb h;obtain⟨rfl,S9⟩:=h.err (show _=apT er by rw[HX.out]);unfold fG;go_wp2_with fail;exact⟨rfl,(St.new (St.refl w rb) (zC 0)).trans (C.out.st.trans S9),.inl ⟨_,rfl,rfl⟩⟩
  have El:=hid h2;clear h2;have lo4:=C.out.rd.lo.2;have amo:=C.out.bx.1;go_wp2_with fail;refine TX.out.mono ?_;rintro e wb h;obtain⟨k3,rfl,⟨y,hy,rfl,bH,dW⟩,R9,S9⟩:=h.cX (show _=apV (x,r2) by rw[El.out]);have C:=C.out.step S9 R9;obtain⟨-, d1,d2,d3,d4,d5,d6⟩:=C.bx.lA;have e1:=C.fz;have bH:=hid (bH.mono (B':=w.heap.size+2) (by omega));have C:=hid ((((((C.set 1 (.int .i64 y.kind)).set 2 (.int .i64 y.th.thread)).set 3 (.int .i64 y.th.az)).set 4 (.string (tx y.th.loc))).set 5 (.int .i64 y.val)).set 6 (.slice y.a y.kids.length y.c));have UT:=hid (bH.out.kept (w':=((((((wb.setCell ⟨w.heap.size+1,1,none⟩ (.int .i64 y.kind)).setCell ⟨w.heap.size+1,2,none⟩ (.int .i64 y.th.thread)).setCell ⟨w.heap.size+1,3,none⟩ (.int .i64 y.th.az)).setCell ⟨w.heap.size+1,4,none⟩ (.string (tx y.th.loc))).setCell ⟨w.heap.size+1,5,none⟩ (.int .i64 y.val)).setCell ⟨w.heap.size+1,6,none⟩ (.slice y.a y.kids.length y.c))) (aP.grown (b:=w.heap.size+1) tu) (fun b hb e=>by have:=(bH.out.lt b hb).1;simp at e;omega));clear h TX R9 S9;have TX:=hid (T41.out _ _ C.out.rd.rd);rcases h3:bg [41] (L.drop k3)with er|r3
  ·obtain rfl:=HZ.out.symm.trans (Sk Aq.out El.out h3)
   have HX:=hid h3;clear h3;go_wp2_with fail;refine TX.out.mono ?_;rintro e wc h;obtain⟨rfl,S9⟩:=h.err (show _=apT er by rw[HX.out];rfl);unfold fG;go_wp2_with fail;exact⟨rfl,(St.new (St.refl w rb) (zC 0)).trans (C.out.st.trans S9),.inl ⟨_,rfl,rfl⟩⟩
  have IL:=hid h3;clear h3;go_wp2_with fail;refine TX.out.mono ?_;rintro e wc h;obtain⟨k4,rfl,hv,R9,S9⟩:=h.cX (show _=apV ((),r3) by rw[IL.out];rfl);unfold VU at hv;subst hv;have bH:=hid (UT.out.st S9 (by omega));have C:=hid (C.out.step S9 R9);clear h TX R9 S9 UT;obtain⟨c0,c1,c2,c3,f3,lt⟩:=C.out.rd.rd.cells;have hk4:=C.out.rd.rd.le
  by_cases hnil:L.drop k4=[]
  ·obtain rfl:=HZ.out.symm.trans (Sn Aq.out El.out IL.out hnil)
   have z9:decide ((k4:Int)<(L.length:Int))=false:=by
    have:L.length<=k4:=by have:=congrArg anO hnil;simp at this;omega
    simp;omega
   have z8:decide (k4<L.length)=false:=by simpa using z9
   have b8:=gj C.out.st hrb;have bx:=C.out.bx;have fz:=fun j=>(eW C.out.st (b:=w.heap.size) (by simp) (by omega) j).trans (aV w _ _ j)
   obtain⟨p0,p1,p2,p3,p4,p5,p6⟩:=b8.lA;obtain⟨q0,q1,q2,q3,q4,q5,q6⟩:=bx.lA;clear b8 bx;go_wp2_with fail
   go_big_region
   all_goals go_wp2_with fail
   all_goals exact bodyPost_ret (by simp[results,results158,go_sem,p0,p1,p2,p3,p4,p5,p6]) rfl (C.out.fin (aP.grown (by(repeat first|with_reducible refine aP.put ?_ _ _|with_reducible refine aP.drew ?_);exact aP.refl _ _)) bH.out dW hy hnil rfl)
  obtain rfl:=HZ.out.symm.trans (Sl Aq.out El.out IL.out hnil)
  have z9:decide ((k4:Int)<(L.length:Int))=true:=by
   have:k4<L.length:=by rcases Nat.lt_or_ge k4 L.length with h|h;exact h;exact absurd (List.drop_eq_nil_of_le h) hnil
   simp;omega
  have z8:decide (k4<L.length)=true:=by simpa using z9
  go_wp2_with fail
  go_big_region
  all_goals go_wp2_with fail
  all_goals
   first|refine(FL.out wc.drew k4 (C.out.rd.rd.below (below_drewN wc 1))).mono ?_|refine(FL.out wc k4 C.out.rd.rd).mono ?_
   rintro e wd ⟨rfl,q⟩;unfold fG;go_wp2_with fail;exact⟨rfl,(St.new (St.refl w rb) (zC 0)).trans (C.out.st.trans (by first|exact(aX (below_drewN wc 1)).trans (aX (bw:=rb) q.bt)|exact aX (bw:=rb) q.bt)),.inl ⟨_,rfl,rfl⟩⟩
end
theorem akR(v:Value)(w:World):(Instr.typeAssert (.iface 180 v) 20 180 false).run prog w= .ok v w:=by kernel_rfl
theorem akS(n:Int)(w:World):(Instr.field 180 (.agg #[.int .i64 n]) 0).run prog w= .ok (.int .i64 n) w:=by kernel_rfl
theorem Sp(p q r:Addr)(w:World):
 CallsD prog 156 #[.pointer (some p),.pointer (some q),.pointer (some r)] .returning w fun e u' w'=>e= .returned (.tuple #[])/\u'= .returning/\w'=w:=by
 refine callsD_of_wpS func156 rfl fun c₀ cs hu=>?_
 apply wpS_seq;apply wpS_region;simp[wpOpsS,go_sem,recoverD,hu,ntmps156,ap4];apply wpS_seq;apply wpS_region;simp[wpOpsS,go_sem,ap4];refine wpS_cond (t:=false) (by simp[Act.eval,ap5]) ?_;simp only[Bool.false_eq_true,if_false];refine wpS_of_wp (wp_skip ?_);cases c₀
 simp_all [bodyPostS,results,results156]
theorem aco(bp bq br:Nat)(n:Int)(w:World)(older:List PanicEntry)(us:List Value)(x y:Value)(hl:us.length=7)
 (h1:aA w bp us) (h2:w.cell? ⟨bq,0,none⟩=some x) (h3:w.cell? ⟨br,0,none⟩=some y) (f1: ∀j,w.frozen? ⟨bp,j,none⟩=false) (f2:w.frozen? ⟨bq,0,none⟩=false) (f3:w.frozen? ⟨br,0,none⟩=false)
 (n1:bp≠bq) (n2:bp≠br) (n3:bq≠br):
 CallsD prog 156 #[.pointer (some ⟨bp,0,none⟩),.pointer (some ⟨bq,0,none⟩),.pointer (some ⟨br,0,none⟩)] (.panicking ({ v:=.iface 180 (.agg #[.int .i64 n]),recovered:=false }::older)) w fun e u' w'=>e= .returned (.tuple #[])/\u'= .panicking ({ v:=.iface 180 (.agg #[.int .i64 n]),recovered:=true }::older)/\
  (∀B,B<=bp->B<=bq->B<=br->Below B w w')/\aA w' bp [.int .i64 0,.int .i64 0,.int .i64 0,.int .i64 0,.string ⟨#[]⟩,.int .i64 0,.slice none 0 0]/\w'.cell? ⟨bq,0,none⟩=some (.int .i64 80)/\w'.cell? ⟨br,0,none⟩=some (.int .i64 n):=by
 match us,hl with
 |[u0,u1,u2,u3,u4,u5,u6],_=>
 obtain⟨p0,p1,p2,p3,p4,p5,p6⟩:=h1.lA;refine callsD_of_wpS func156 rfl fun c₀ cs hu=>?_
 apply wpS_seq;apply wpS_region;simp[wpOpsS,go_sem,recoverD,hu,ntmps156,ap4];apply wpS_seq;apply wpS_region;simp[wpOpsS,go_sem,ap4];refine wpS_cond (t:=true) (by simp[Act.eval,ap5]) ?_;simp only[if_true];refine wpS_of_wp ?_;have hx:=h1.1;have ta:=akR;have tb:=akS n;clear hl h1;have f10:=f1 0;have f11:=f1 1;have f12:=f1 2;have f13:=f1 3;have f14:=f1 4;have f15:=f1 5;have f16:=f1 6;refine(?_:Code.wp prog _ _ ⟨#[.pointer (some ⟨bp,0,none⟩),.pointer (some ⟨bq,0,none⟩),.pointer (some ⟨br,0,none⟩),.iface 180 (.agg #[.int .i64 n]),.iface 180 (.agg #[.int .i64 n]),.iface 180 (.agg #[.int .i64 n]),.bool true,undef,undef,undef,undef],[]⟩ w)
 go_big_region
 all_goals(try go_wp2_with fail)
 refine⟨rfl,_,rfl,.tuple #[],by simp[results,results156],rfl,rfl,fun B b1 b2 b3=>?_,⟨by simpa using hx,fun j hj=>?_⟩,by simp[go_sem,h2],by simp[go_sem,h3]⟩
 ·(repeat first|with_reducible refine anc ?_ b1 _|with_reducible refine anc ?_ b2 _|with_reducible refine anc ?_ b3 _|with_reducible refine Below.drew ?_)
  exact anM _ _
 have:j=0\/j=1\/j=2\/j=3\/j=4\/j=5\/j=6:=by simp at hj;omega
 rcases this with rfl|rfl|rfl|rfl|rfl|rfl|rfl<;>simp[go_sem,p0,p1,p2,p3,p4,p5,p6]
theorem Mr: ∀(n p:Nat) (s:Tx),s.length<=n-> ∀t∈lex p s,t.1.length<=s.length
 |_,p,[],_,t,ht=>by rw[lex_nil]at ht;cases ht
 |0,p,c::r,h,t,ht=>by simp at h
 | n+1,p,c::r,h,t,ht=>by
   have hr:r.length<=n:=by simpa using h
   cases hb:aq c with
   | true=>
     rw[yD p r hb]at ht;have:=Mr n _ r hr t ht;simp;omega
   | false=>
     rw[Cm p r hb]at ht;have h1:=nJ c r;rcases List.mem_cons.1 ht with rfl|ht
     ·simp;omega
     have:=Mr n _ _ ah t ht
     simp at this ⊢; omega
def lT(p:Except (Int × Nat) (Int × Nd))(w:World)(e:Ending)(w':World):Prop:=Below w.heap.size w w'/\match p with
 | .error (n,k)=>e= .returned (.tuple #[.agg #[.int .i64 0,.int .i64 0,.int .i64 0,.int .i64 0,.string ⟨#[]⟩,.int .i64 0,.slice none 0 0],.int .i64 n,.int .i64 k])
 | .ok (q,x)=> ∃y,bG y=x/\e= .returned (.tuple #[vC q y,.int .i64 0,.int .i64 0])/\aZ w' w.heap.size y/\(dL y).Nodup
theorem Xg(h:bF af=false):cJ af s= .error (5,0):=by unfold cJ;rw[if_pos h]
theorem Xh(h:bF af=true)(hl:262144<s.length):cJ af s= .error (2,0):=by unfold cJ;rw[if_neg (by rw[h];decide),if_pos hl]
theorem ab1(hc:j7 af L= .error l):gy af L= .error l:=by
 unfold j7 at hc;cases h:gy af L with
 |error e=>rw[h]at hc;cases hc;rfl
 |ok p=>rw[h]at hc;cases hc
theorem Se{p:Int × Nd}(hc:j7 af L= .ok (p,l)):gy af L= .ok p:=by
 unfold j7 at hc;cases h:gy af L with
 |error e=>rw[h]at hc;cases hc
 |ok p=>rw[h]at hc;cases hc;rfl
theorem CD(h:bF af=true)(hl:s.length<=262144)(hc:j7 af (lex 0 s)= .error l):cJ af s= .error (80,dz s.length l):=by
 unfold cJ;rw[if_neg (by rw[h];decide),if_neg (by omega),ab1 hc];rfl
theorem Xi(h:bF af=true)(hl:s.length<=262144)(hc:j7 af (lex 0 s)= .ok ((q,x),l))(h0:cV af q x=0):cJ af s= .ok (q,x):=by
 unfold cJ;rw[if_neg (by rw[h];decide),if_neg (by omega),Se hc];simp only;rw[if_pos h0]
theorem Xj(h:bF af=true)(hl:s.length<=262144)(hc:j7 af (lex 0 s)= .ok ((q,x),l))(h0:cV af q x≠0):cJ af s= .error (cV af q x,0):=by
 unfold cJ;rw[if_neg (by rw[h];decide),if_neg (by omega),Se hc];simp only;rw[if_neg h0]
theorem abT(h:bF af=false)(w:World):Calls prog 82 #[.int .i64 af,.string (tx s)] w (lT (cJ af s) w):=by
 rw[Xg h];have KN:=hid (fun w=>xL af w);have HA:=hid h;clear h;have yf: ∀(fn:Fn) (first cap:Array Value) (w:World),(ap3 fn first cap).run prog w= .ok (.func fn first cap) w:=fun _ _ _ _=>rfl
 go_enter_defers func82,ntmps82
 go_wp2_with (go_at_call 142;refine av (KN.out _) ?_;rw[HA.out])
 refine⟨_,by simp[results,results82,go_sem];rfl,?_⟩;exact⟨bC,rfl⟩
theorem abU(h:bF af=true)(hl:262144<s.length)(hm:s.length<=9223372036854775807)(w:World):Calls prog 82 #[.int .i64 af,.string (tx s)] w (lT (cJ af s) w):=by
 rw[Xh h hl];have KN:=hid (fun w=>xL af w);have HA:=hid h;have hsz:(tx s).size=s.length:=aM s;generalize tx s=u at*;have z:decide ((262144:Int)<(u.size:Int))=true:=ah;have hm2:u.size<=9223372036854775807:=by omega
 clear h hsz hl hm;have yf: ∀(fn:Fn) (first cap:Array Value) (w:World),(ap3 fn first cap).run prog w= .ok (.func fn first cap) w:=fun _ _ _ _=>rfl
 go_enter_defers func82,ntmps82
 go_wp2_with (go_at_call 142;refine av (KN.out _) ?_;rw[HA.out])
 refine⟨_,by simp[results,results82,go_sem];rfl,?_⟩;exact⟨bC,rfl⟩
abbrev GK(af:Int)(s:Tx)(a:Option Addr)(n c:Nat):Obj:=.cells #[.int .i64 af,.string (tx s),.slice a n c,.int .i64 0] 185
theorem dA.new(hO:Ay w 0 a (lex 0 s).length c (lex 0 s))(hs:s.length<=262144)(g:Gl w):dA w (w.alloc (GK af s a (lex 0 s).length c)) w.heap.size af s a c (lex 0 s) 0:=by
 have hl:=Ck _ 0 s (anb _);have hT:bK AZ w a (lex 0 s):=⟨Own.row hO,by omega⟩;refine⟨⟨?_,hT.below (al w _),fun h=>?_,apL _,by omega,hs⟩,g,al w _,Mr _ 0 s (anb _)⟩
 ·exact World.ownsRow_lit w (e:=185) #[.int .i64 af,.string (tx s),.slice a (lex 0 s).length c,.int .i64 0] 1 (anb w.heap.size) (size:=4) cz (by simp)
 have:=hT.lt kr (by omega) h
 omega
abbrev zE:Obj:=.cells #[.int .i64 0] 33
abbrev zI:Obj:=.cells #[.int .i64 0] 3
abbrev uZ(w:World):World:=((w.alloc (zC 0)).alloc zE).alloc zI
theorem xF(w:World):Below w.heap.size w (uZ w):=bC
theorem OM{w4:World}(S:St (uZ w) w4 rb)(hr:w.heap.size+2<rb):aA w4 w.heap.size [.int .i64 0,.int .i64 0,.int .i64 0,.int .i64 0,.string ⟨#[]⟩,.int .i64 0,.slice none 0 0]/\w4.cell? ⟨w.heap.size+1,0,none⟩=some (.int .i64 0)/\w4.cell? ⟨w.heap.size+1+1,0,none⟩=some (.int .i64 0)/\(∀j,w4.frozen? ⟨w.heap.size,j,none⟩=false)/\(∀j,w4.frozen? ⟨w.heap.size+1,j,none⟩=false)/\(∀j,w4.frozen? ⟨w.heap.size+1+1,j,none⟩=false):=by
 have a1:=al w (zC 0);have a2:=al (w.alloc (zC 0)) zE;have a3:=al ((w.alloc (zC 0)).alloc zE) zI;have b1:=(((aA.new w #[.int .i64 0,.int .i64 0,.int .i64 0,.int .i64 0,.string ⟨#[]⟩,.int .i64 0,.slice none 0 0] 30).below a2).below a3).step S (by omega);have b2:=((aA.new (w.alloc (zC 0)) #[.int .i64 0] 33).below a3).step S qw;have b3:=(aA.new ((w.alloc (zC 0)).alloc zE) #[.int .i64 0] 3).step S qw;have c2:=b2.get 0 _ rfl;have c3:=b3.get 0 _ rfl;simp only[cR]at c2 c3;refine⟨b1,c2,c3,fun j=>?_,fun j=>?_,fun j=>?_⟩
 ·rw[eW S qw (by omega),a3.frozen (p:=⟨w.heap.size,j,none⟩) qw,a2.frozen (p:=⟨w.heap.size,j,none⟩) (by simp)]
  exact aV w _ _ j
 ·rw[eW S qw (by omega),a3.frozen (p:=⟨w.heap.size+1,j,none⟩) (by simp)]
  have:=aV (w.alloc (zC 0)) #[.int .i64 0] 33 j;rw[cR]at this;exact this
 rw[eW S (by simp) (by omega)]
 have:=aV ((w.alloc (zC 0)).alloc zE) #[.int .i64 0] 3 j;rw[cR,cR]at this;exact this
theorem abV(h:bF af=true)(hl:s.length<=262144)(hc:j7 af (lex 0 s)= .error l)(w:World)(g:Gl w):Calls prog 82 #[.int .i64 af,.string (tx s)] w (lT (cJ af s) w):=by
 rw[CD h hl hc];have KN:=hid (fun w=>xL af w);have TK:=hid (JR s hl (uZ w));have HA:=hid h;have hsz:(tx s).size=s.length:=aM s;have HS:=hid hl;have HC:=hid hc;have HG:=hid g;generalize hu:tx s=u at*;have z:decide ((262144:Int)<(u.size:Int))=false:=ah;have hm2:u.size<=9223372036854775807:=by omega
 clear h hsz hl hc g;have yf: ∀(fn:Fn) (first cap:Array Value) (w:World),(ap3 fn first cap).run prog w= .ok (.func fn first cap) w:=fun _ _ _ _=>rfl
 go_enter_defers func82,ntmps82
 go_wp2_with (first|(go_at_call 142;refine av (KN.out _) ?_;rw[HA.out])|fail)
 refine TK.out.mono ?_;rintro e w2 ⟨a,c,rfl,hO,E2⟩;subst hu;have uG:=E2.size;have RC:=hid (Np (dA.new (af:=af) (Own.mono hO (apL _)) HS.out ((HG.out.below (xF w)).below E2)));have E2:=hid E2;clear hO;go_wp2_with fail;refine RC.out.mono ?_;rintro e w4 h;obtain⟨rfl,S3⟩:=h.err (show _=apT l by rw[ap0];exact HC.out);have S:St (uZ w) w4 w2.heap.size:=(aX E2.out).trans ((aX (al w2 (GK af s a (lex 0 s).length c))).trans S3);have hrb:w.heap.size+2<w2.heap.size:=by simp at uG;omega
 obtain⟨v1,v2,v3,f1,f2,f3⟩:=OM S hrb;have B4:Below w.heap.size w w4:=(xF w).grown S.grown ah (fun r hr=>by simp at hr;omega);clear h S3;unfold fG;go_wp2_with fail;refine leaves_cons (f:=156) (args:=#[.pointer (some ⟨w.heap.size,0,none⟩),.pointer (some ⟨w.heap.size+1,0,none⟩),.pointer (some ⟨w.heap.size+1+1,0,none⟩)]) (by simp) (by simp[go_sem]) ?_;refine(aco w.heap.size (w.heap.size+1) (w.heap.size+1+1) _ w4 [] _ _ _ rfl v1 v2 v3 f1 (f2 0) (f3 0) (by omega) (by omega) (by omega)).mono ?_;rintro e u' w5 ⟨rfl,rfl,hB,hx,hq,hr⟩;obtain⟨p0,p1,p2,p3,p4,p5,p6⟩:=hx.lA;refine⟨.tuple #[.agg #[.int .i64 0,.int .i64 0,.int .i64 0,.int .i64 0,.string ⟨#[]⟩,.int .i64 0,.slice none 0 0],.int .i64 80,.int .i64 (dz s.length l)],by simp[results,results82,go_sem,p0,p1,p2,p3,p4,p5,p6,hq,hr],?_⟩;exact⟨B4.trans (hB _ (anb _) (by omega) (by omega)),rfl⟩
mutual
theorem Z5(af:Int): ∀(x:Nd) (met deep:Nat),eO af (bG x) met deep=eO af x met deep
 | .mk k t v a c l,met,deep=>by
   rw[bG,eO,eO,AL,Z2 af l]
theorem Z2(af:Int): ∀(l:List Nd) (met deep:Nat),jl af (eU l) met deep=jl af l met deep
 |[],met,deep=>by rw[eU]
 |x::r,met,deep=>by rw[eU,jl,jl,Z5 af x,Z2 af r]
end
abbrev pC(w4:World)(b:Nat)(q:Int)(y:Nd):World:=((((((w4.setCell ⟨b,0,none⟩ (.int .i64 q)).setCell ⟨b,1,none⟩ (.int .i64 y.kind)).setCell ⟨b,2,none⟩ (.int .i64 y.th.thread)).setCell ⟨b,3,none⟩ (.int .i64 y.th.az)).setCell ⟨b,4,none⟩ (.string (tx y.th.loc))).setCell ⟨b,5,none⟩ (.int .i64 y.val)).setCell ⟨b,6,none⟩ (.slice y.a y.kids.length y.c)
theorem yN{w w5 w6 w7 w8:World}{B:Nat}(h0:Below B w w5)(h3:aP w7 w8 (B+1+1))(h2:aP w6 w7 (B+1))(h1:aP w5 w6 B)(hB:B<=w5.heap.size):Below B w w8:=by
 have a1:=h0.grown h1.grown hB (fun r hr=>by simp at hr;omega);have a2:=a1.grown h2.grown (by rw[h1.size];exact hB) (fun r hr=>by simp at hr;omega);exact a2.grown h3.grown (by rw[h2.size,h1.size];exact hB) (fun r hr=>by simp at hr;omega)
theorem aZ.yN{w5 w6 w7 w8:World}{B:Nat}{y:Nd}(h0:aZ w5 (B+3) y)(h3:aP w7 w8 (B+1+1))(h2:aP w6 w7 (B+1))(h1:aP w5 w6 B):aZ w8 B y:=by
 have a1:=h0.kept h1.grown (fun b hb e=>by have:=(h0.lt b hb).1;simp at e;omega);have a2:=a1.kept h2.grown (fun b hb e=>by have:=(a1.lt b hb).1;simp at e;omega);exact(a2.kept h3.grown (fun b hb e=>by have:=(a2.lt b hb).1;simp at e;omega)).mono (by omega)
theorem acU{w w5 w6 w7 w8:World}{q:Int}{x y:Nd}{e:Ending}(h0:Below w.heap.size w w5)(hN:aZ w5 (w.heap.size+3) y)(hn:(dL y).Nodup)(hy:bG y=x)(he:e= .returned (.tuple #[vC q y,.int .i64 0,.int .i64 0]))(h3:aP w7 w8 (w.heap.size+1+1))(h2:aP w6 w7 (w.heap.size+1))(h1:aP w5 w6 w.heap.size):lT (.ok (q,x)) w e w8:=
 ⟨yN h0 h3 h2 h1 h0.size,y,hy,he,hN.yN h3 h2 h1,hn⟩
theorem acV{w w5 w6 w7 w8:World}{er:Int}{e:Ending}(h0:Below w.heap.size w w5)(he:e= .returned (.tuple #[.agg #[.int .i64 0,.int .i64 0,.int .i64 0,.int .i64 0,.string ⟨#[]⟩,.int .i64 0,.slice none 0 0],.int .i64 er,.int .i64 0]))(h3:aP w7 w8 (w.heap.size+1+1))(h2:aP w6 w7 (w.heap.size+1))(h1:aP w5 w6 w.heap.size):lT (.error (er,0)) w e w8:=
 ⟨yN h0 h3 h2 h1 h0.size,he⟩
theorem JO(af q:Int)(x:Nd):cV af q (bG x)=cV af q x:=by unfold cV;rw[Z5]
theorem abW{af q:Int}{s:Tx}{l:List Tok}{x:Nd}(h:bF af=true)(hl:s.length<=262144)(hc:j7 af (lex 0 s)= .ok ((q,x),l))(h0:cV af q x=0)(w:World)(g:Gl w):Calls prog 82 #[.int .i64 af,.string (tx s)] w (lT (cJ af s) w):=by
 rw[Xi h hl hc h0];have KN:=hid (fun w=>xL af w);have TK:=hid (JR s hl (uZ w));have HA:=hid h;have hsz:(tx s).size=s.length:=aM s;have HS:=hid hl;have HC:=hid hc;have HG:=hid g;generalize hu:tx s=u at*;have z:decide ((262144:Int)<(u.size:Int))=false:=ah;have hm2:u.size<=9223372036854775807:=by omega
 obtain⟨er,ql⟩:=aj (cV af q x);have HE:=hid ql;rw[ql]at h0;have z0:(er==0)=true:=by simpa using h0
 have gg:=z0;clear h hsz hl hc g ql;have yf: ∀(fn:Fn) (first cap:Array Value) (w:World),(ap3 fn first cap).run prog w= .ok (.func fn first cap) w:=fun _ _ _ _=>rfl
 go_enter_defers func82,ntmps82
 go_wp2_with (first|(go_at_call 142;refine av (KN.out _) ?_;rw[HA.out])|fail)
 refine TK.out.mono ?_;rintro e w2 ⟨a,c,rfl,hO,E2⟩;subst hu;have uG:=E2.size;have RC:=hid (Np (dA.new (af:=af) (Own.mono hO (apL _)) HS.out ((HG.out.below (xF w)).below E2)));have E2:=hid E2;clear hO;go_wp2_with fail;refine RC.out.mono ?_;rintro e w4 h;obtain⟨k1,-, ⟨y,hy,rfl,bH,dW⟩,R3,S3⟩:=h.cX (show _=apV ((q,x),l) by rw[ap0];exact HC.out);have S:St (uZ w) w4 w2.heap.size:=(aX E2.out).trans ((aX (al w2 (GK af s a (lex 0 s).length c))).trans S3);have hrb:w.heap.size+2<w2.heap.size:=by simp at uG;omega
 have Lm:=S3.grown.size;obtain⟨v1,v2,v3,f1,f2,f3⟩:=OM S hrb;have bH:=bH.mono (B':=w.heap.size+3) ah;have KL:=f1 0;have KM:=f2 0;have KO:=f3 0;obtain⟨p0,p1,p2,p3,p4,p5,p6⟩:=v1.lA;have hne:w2.heap.size≠w.heap.size:=by omega
 have B4:Below w.heap.size w w4:=(xF w).grown S.grown ah (fun r hr=>by simp at hr;omega);clear h S3 R3 S;have adR:w.heap.size+3<=w4.heap.size:=by simp at Lm;omega
 have I5:=bH.kept (w':=pC w4 w.heap.size q y) (aP.grown (b:=w.heap.size) tu) (fun b hb e=>by have:=(bH.lt b hb).1;simp at e;omega);have PG:w4.grownBy (pC w4 w.heap.size q y) (an7 w.heap.size):=aP.grown tu;unfold pC at I5 PG;have g2:=PG.cell v2 (by simp);have g3:=PG.cell v3 ah;have B4:=B4.grown PG (by omega) (fun r hr=>by simp at hr;omega);have bx:=((((((v1.set 0 (.int .i64 q)).set 1 (.int .i64 y.kind)).set 2 (.int .i64 y.th.thread)).set 3 (.int .i64 y.th.az)).set 4 (.string (tx y.th.loc))).set 5 (.int .i64 y.val)).set 6 (.slice y.a y.kids.length y.c);have F1:=hid f1;have F2:=hid f2;have F3:=hid f3;have lZ: ∀a:Nat,a<w.heap.size+3->a<(pC w4 w.heap.size q y).heap.size:=fun a h=>by simp;omega
 unfold pC at lZ;have bx:=hid bx;have g2:=hid g2;have g3:=hid g3;have lZ:=hid lZ;have hy:=hid hy;have dW:=hid dW;clear PG v2 v3;have CK:=hid (Ff af q y _ I5.lK);rw[<-JO,hy.out,HE.out]at CK;have I5:=hid I5;have B4:=hid B4;clear bH v1;go_wp2_with fail;refine CK.out.mono ?_;rintro e w5 ⟨rfl,E5⟩;have d2:=(E5.cell (p:=⟨w.heap.size+1,0,none⟩) (lZ.out (w.heap.size+1) (by omega))).trans g2.out;have d3:=(E5.cell (p:=⟨w.heap.size+1+1,0,none⟩) (lZ.out (w.heap.size+1+1) (by omega))).trans g3.out;have h10: ∀j,w5.frozen? ⟨w.heap.size,j,none⟩=false:=fun j=>by rw[E5.frozen (p:=⟨w.heap.size,j,none⟩) (lZ.out (w.heap.size) (by omega))];simp only[aoH];exact F1.out j
 have h20: ∀j,w5.frozen? ⟨w.heap.size+1,j,none⟩=false:=fun j=>by rw[E5.frozen (p:=⟨w.heap.size+1,j,none⟩) (lZ.out (w.heap.size+1) (by omega))];simp only[aoH];exact F2.out j
 have h30: ∀j,w5.frozen? ⟨w.heap.size+1+1,j,none⟩=false:=fun j=>by rw[E5.frozen (p:=⟨w.heap.size+1+1,j,none⟩) (lZ.out (w.heap.size+1+1) (by omega))];simp only[aoH];exact F3.out j
 have b5:=bx.out.below E5;obtain⟨q0,q1,q2,q3,q4,q5,q6⟩:=b5.lA;have I6:=hid (I5.out.keep E5);have B5:=hid (B4.out.trans (E5.mono B4.out.size));clear f1 f2 f3 E5 b5 p0 p1 p2 p3 p4 p5 p6 KL KM KO;go_wp2_with fail;refine leaves_cons (f:=156) (args:=#[.pointer (some ⟨w.heap.size,0,none⟩),.pointer (some ⟨w.heap.size+1,0,none⟩),.pointer (some ⟨w.heap.size+1+1,0,none⟩)]) (by simp) (by simp[go_sem]) ?_;refine(Sp ⟨w.heap.size,0,none⟩ ⟨w.heap.size+1,0,none⟩ ⟨w.heap.size+1+1,0,none⟩ _).mono ?_;rintro e u' w6 ⟨rfl,rfl,rfl⟩;refine⟨.tuple #[vC q y,.int .i64 0,.int .i64 0],by simp[results,results82,go_sem,q0,q1,q2,q3,q4,q5,q6,d2,d3],?_⟩;exact acU B5.out I6.out dW.out hy.out rfl ((aP.refl _ _).put 0 _) ((aP.refl _ _).put 0 _) ((((((((aP.refl _ _).put 0 _).put 1 _).put 2 _).put 3 _).put 4 _).put 5 _).put 6 _)
theorem abX{af q:Int}{s:Tx}{l:List Tok}{x:Nd}(h:bF af=true)(hl:s.length<=262144)(hc:j7 af (lex 0 s)= .ok ((q,x),l))(h0:cV af q x≠0)(w:World)(g:Gl w):Calls prog 82 #[.int .i64 af,.string (tx s)] w (lT (cJ af s) w):=by
 rw[Xj h hl hc h0];have KN:=hid (fun w=>xL af w);have TK:=hid (JR s hl (uZ w));have HA:=hid h;have hsz:(tx s).size=s.length:=aM s;have HS:=hid hl;have HC:=hid hc;have HG:=hid g;generalize hu:tx s=u at*;have z:decide ((262144:Int)<(u.size:Int))=false:=ah;have hm2:u.size<=9223372036854775807:=by omega
 obtain⟨er,ql⟩:=aj (cV af q x);have HE:=hid ql;rw[ql]at h0;have z0:(er != 0)=true:=by simpa using h0
 rw[ql];clear h hsz hl hc g ql;have yf: ∀(fn:Fn) (first cap:Array Value) (w:World),(ap3 fn first cap).run prog w= .ok (.func fn first cap) w:=fun _ _ _ _=>rfl
 go_enter_defers func82,ntmps82
 go_wp2_with (first|(go_at_call 142;refine av (KN.out _) ?_;rw[HA.out])|fail)
 refine TK.out.mono ?_;rintro e w2 ⟨a,c,rfl,hO,E2⟩;subst hu;have uG:=E2.size;have RC:=hid (Np (dA.new (af:=af) (Own.mono hO (apL _)) HS.out ((HG.out.below (xF w)).below E2)));have E2:=hid E2;clear hO;go_wp2_with fail;refine RC.out.mono ?_;rintro e w4 h;obtain⟨k1,-, ⟨y,hy,rfl,bH,dW⟩,R3,S3⟩:=h.cX (show _=apV ((q,x),l) by rw[ap0];exact HC.out);have S:St (uZ w) w4 w2.heap.size:=(aX E2.out).trans ((aX (al w2 (GK af s a (lex 0 s).length c))).trans S3);have hrb:w.heap.size+2<w2.heap.size:=by simp at uG;omega
 have Lm:=S3.grown.size;obtain⟨v1,v2,v3,f1,f2,f3⟩:=OM S hrb;have bH:=bH.mono (B':=w.heap.size+3) ah;have KL:=f1 0;have KM:=f2 0;have KO:=f3 0;obtain⟨p0,p1,p2,p3,p4,p5,p6⟩:=v1.lA;have hne:w2.heap.size≠w.heap.size:=by omega
 have B4:Below w.heap.size w w4:=(xF w).grown S.grown ah (fun r hr=>by simp at hr;omega);clear h S3 R3 S;have adR:w.heap.size+3<=w4.heap.size:=by simp at Lm;omega
 have I5:=bH.kept (w':=pC w4 w.heap.size q y) (aP.grown (b:=w.heap.size) tu) (fun b hb e=>by have:=(bH.lt b hb).1;simp at e;omega);have PG:w4.grownBy (pC w4 w.heap.size q y) (an7 w.heap.size):=aP.grown tu;unfold pC at I5 PG;have g2:=PG.cell v2 (by simp);have g3:=PG.cell v3 ah;have B4:=B4.grown PG (by omega) (fun r hr=>by simp at hr;omega);have bx:=((((((v1.set 0 (.int .i64 q)).set 1 (.int .i64 y.kind)).set 2 (.int .i64 y.th.thread)).set 3 (.int .i64 y.th.az)).set 4 (.string (tx y.th.loc))).set 5 (.int .i64 y.val)).set 6 (.slice y.a y.kids.length y.c);have F1:=hid f1;have F2:=hid f2;have F3:=hid f3;have lZ: ∀a:Nat,a<w.heap.size+3->a<(pC w4 w.heap.size q y).heap.size:=fun a h=>by simp;omega
 unfold pC at lZ;have bx:=hid bx;have g2:=hid g2;have g3:=hid g3;have lZ:=hid lZ;have hy:=hid hy;have dW:=hid dW;clear PG v2 v3;have CK:=hid (Ff af q y _ I5.lK);rw[<-JO,hy.out,HE.out]at CK;have I5:=hid I5;have B4:=hid B4;clear bH v1;go_wp2_with fail;refine CK.out.mono ?_;rintro e w5 ⟨rfl,E5⟩;have d2:=(E5.cell (p:=⟨w.heap.size+1,0,none⟩) (lZ.out (w.heap.size+1) (by omega))).trans g2.out;have d3:=(E5.cell (p:=⟨w.heap.size+1+1,0,none⟩) (lZ.out (w.heap.size+1+1) (by omega))).trans g3.out;have h10: ∀j,w5.frozen? ⟨w.heap.size,j,none⟩=false:=fun j=>by rw[E5.frozen (p:=⟨w.heap.size,j,none⟩) (lZ.out (w.heap.size) (by omega))];simp only[aoH];exact F1.out j
 have h20: ∀j,w5.frozen? ⟨w.heap.size+1,j,none⟩=false:=fun j=>by rw[E5.frozen (p:=⟨w.heap.size+1,j,none⟩) (lZ.out (w.heap.size+1) (by omega))];simp only[aoH];exact F2.out j
 have h30: ∀j,w5.frozen? ⟨w.heap.size+1+1,j,none⟩=false:=fun j=>by rw[E5.frozen (p:=⟨w.heap.size+1+1,j,none⟩) (lZ.out (w.heap.size+1+1) (by omega))];simp only[aoH];exact F3.out j
 have b5:=bx.out.below E5;obtain⟨q0,q1,q2,q3,q4,q5,q6⟩:=b5.lA;have I6:=hid (I5.out.keep E5);have B5:=hid (B4.out.trans (E5.mono B4.out.size));clear f1 f2 f3 E5 b5 p0 p1 p2 p3 p4 p5 p6 KL KM KO;go_wp2_with fail;refine leaves_cons (f:=156) (args:=#[.pointer (some ⟨w.heap.size,0,none⟩),.pointer (some ⟨w.heap.size+1,0,none⟩),.pointer (some ⟨w.heap.size+1+1,0,none⟩)]) (by simp) (by simp[go_sem]) ?_;refine(Sp ⟨w.heap.size,0,none⟩ ⟨w.heap.size+1,0,none⟩ ⟨w.heap.size+1+1,0,none⟩ _).mono ?_;rintro e u' w6 ⟨rfl,rfl,rfl⟩;refine⟨.tuple #[.agg #[.int .i64 0,.int .i64 0,.int .i64 0,.int .i64 0,.string ⟨#[]⟩,.int .i64 0,.slice none 0 0],.int .i64 er,.int .i64 0],by simp[results,results82,go_sem,q0,q1,q2,q3,q4,q5,q6,d2,d3],?_⟩;exact acV B5.out rfl ((aP.refl _ _).put 0 _) ((aP.refl _ _).put 0 _) ((((((((aP.refl _ _).put 0 _).put 1 _).put 2 _).put 3 _).put 4 _).put 5 _).put 6 _)
theorem abS{af:Int}{s:Tx}(hm:s.length<=9223372036854775807)(w:World)(g:Gl w):Calls prog 82 #[.int .i64 af,.string (tx s)] w (lT (cJ af s) w):=by
 cases h:bF af with
 |false=>exact abT h w
 | true=>
   rcases Nat.lt_or_ge 262144 s.length with hl|hl
   ·exact abU h hl hm w
   cases hc:j7 af (lex 0 s)with
   |error l=>exact abV h hl hc w g
   | ok p=>
     obtain⟨⟨q,x⟩,l⟩:=p
     by_cases h0:cV af q x=0
     ·exact abW h hl hc h0 w g
     exact abX h hl hc h0 w g
def Ev(p:EP (Int × Nd))(w1 w:World)(s:Tx)(k:Nat)(t:aG)(e:Ending)(w':World):Prop:=
 (Below w1.heap.size w1 w'/\ ∃er k1,p= .error (er,k1)/\e=pW er k1)\/
 ∃q x y,p= .ok (q,x)/\bG y=x/\e= .returned (.tuple #[])/\St w w' w1.heap.size/\cM w1 w' s k { t with q:=q,node:=y }/\aZ w' w.heap.size y/\(dL y).Nodup
theorem akC{b:Tx}(hb: ∀c∈b,aq c=true)(x:Tx):ax (b++x)=ax x:=apu hb
theorem Mo(l:Tx):aO (ax l)=aO l:=Ci l
theorem aff{b:Tx}(hb: ∀c∈b,aq c=true)(u:Tx):aO (b++u)=aO u:=by
 rw[<-Mo (b++u),akC hb,Mo]
theorem agN{af:Int}{s r:Tx}{e:Int}{k:Nat}(h:cJ af s= .error (e,k))(hr:aO s=aO r)(hs:s.length<=262144)(hl:r.length<=262144): ∃k2,cJ af r= .error (e,k2):=by
 unfold cJ at h⊢
 split at h
 ·rename_i h1
  rw[if_pos h1];cases h;exact⟨_,rfl⟩
 rename_i h1
 rw[if_neg (by omega)]at h;rw[if_neg h1,if_neg (by omega)];cases hc:gy af (lex 0 s)with
 | error l=>
   rw[hc]at h;cases hd:gy af (lex 0 r)with
   |error l2=>cases h;exact⟨_,rfl⟩
   |ok p=>rw[JQ hd hr.symm]at hc;cases hc
 | ok p=>
   rw[hc]at h;obtain⟨q,x⟩:=p;rw[JQ hc hr]
   by_cases h0:cV af q x=0
   ·simp only[if_pos h0]at h;cases h
   simp only[if_neg h0]at h ⊢; cases h;exact⟨_,rfl⟩
theorem Xl{af:Int}{s:Tx}{e:Int}{k:Nat}(h:cJ af s= .error (e,k)):e≠0:=by
 unfold cJ at h
 split at h
 ·cases h;decide
 split at h
 ·cases h;decide
 split at h
 ·cases h;decide
 rename_i q x _
 by_cases h0:cV af q x=0
 ·simp only[if_pos h0]at h;cases h
 simp only[if_neg h0]at h;cases h;exact h0
theorem Sd{af:Int}{N:Nat}{r:Tx}{c:Int × Nd}(h:cJ af (ax r)= .ok c):gL af N r= .ok c:=by
 unfold gL;dsimp only;rw[h]
theorem Sc{af:Int}{N:Nat}{r:Tx}{e:Int}{k:Nat}(h:cJ af (ax r)= .error (e,k)):gL af N r= .error (e,if e=2 then 0 else bJ N (ax r)+k):=by
 unfold gL;dsimp only;rw[h]
theorem agP{af:Int}{b u:Tx}{e:Int}{k0 k2:Nat}(ha:bF af=true)(hb: ∀c∈b,aq c=true)(hl:b.length+u.length<=262144)(h:cJ af (b++u)= .error (e,k0))(h2:cJ af u= .error (e,k2))(he:e≠2):k0=b.length+k2:=by
 rw[agM ha hb hl,h2]at h;simp only[if_neg he]at h;cases h;rfl
theorem cM.cond{w1 w:World}{s:Tx}{k:Nat}{t:aG}(R:cM w1 w s k t)(q:Int)(y:Nd):cM w1 ((((((((w.setCell ⟨w1.heap.size,7,none⟩ (.int .i64 q)).setCell ⟨w1.heap.size,8,none⟩ (.int .i64 y.kind)).setCell ⟨w1.heap.size,9,none⟩ (.int .i64 y.th.thread)).setCell ⟨w1.heap.size,10,none⟩ (.int .i64 y.th.az)).setCell ⟨w1.heap.size,11,none⟩ (.string (tx y.th.loc))).setCell ⟨w1.heap.size,12,none⟩ (.int .i64 y.val)).setCell ⟨w1.heap.size,13,none⟩ (.slice y.a y.kids.length y.c))) s k { t with q:=q,node:=y }/\St w ((((((((w.setCell ⟨w1.heap.size,7,none⟩ (.int .i64 q)).setCell ⟨w1.heap.size,8,none⟩ (.int .i64 y.kind)).setCell ⟨w1.heap.size,9,none⟩ (.int .i64 y.th.thread)).setCell ⟨w1.heap.size,10,none⟩ (.int .i64 y.th.az)).setCell ⟨w1.heap.size,11,none⟩ (.string (tx y.th.loc))).setCell ⟨w1.heap.size,12,none⟩ (.int .i64 y.val)).setCell ⟨w1.heap.size,13,none⟩ (.slice y.a y.kids.length y.c))) w1.heap.size:=by
 have R1:=R.put 7 (.int .i64 q) (k':=k) (t':={ t with q:=q }) rfl R.le;have R2:=R1.1.put 8 (.int .i64 y.kind) (k':=k) (t':={ t with q:=q,node:=.mk y.kind t.node.th t.node.val t.node.a t.node.c t.node.kids }) rfl R.le;have R3:=R2.1.put 9 (.int .i64 y.th.thread) (k':=k) (t':={ t with q:=q,node:=.mk y.kind ⟨y.th.thread,t.node.th.az,t.node.th.loc⟩ t.node.val t.node.a t.node.c t.node.kids }) rfl R.le;have R4:=R3.1.put 10 (.int .i64 y.th.az) (k':=k) (t':={ t with q:=q,node:=.mk y.kind ⟨y.th.thread,y.th.az,t.node.th.loc⟩ t.node.val t.node.a t.node.c t.node.kids }) rfl R.le;have R5:=R4.1.put 11 (.string (tx y.th.loc)) (k':=k) (t':={ t with q:=q,node:=.mk y.kind ⟨y.th.thread,y.th.az,y.th.loc⟩ t.node.val t.node.a t.node.c t.node.kids }) rfl R.le;have R6:=R5.1.put 12 (.int .i64 y.val) (k':=k) (t':={ t with q:=q,node:=.mk y.kind ⟨y.th.thread,y.th.az,y.th.loc⟩ y.val t.node.a t.node.c t.node.kids }) rfl R.le;have R7:=R6.1.put 13 (.slice y.a y.kids.length y.c) (k':=k) (t':={ t with q:=q,node:=y }) rfl R.le;exact⟨R7.1,R1.2.trans (R2.2.trans (R3.2.trans (R4.2.trans (R5.2.trans (R6.2.trans R7.2)))))⟩
def pQ(p:Except (Int × Nat) (Int × Nd))(q:Int)(y:Nd)(er:Int)(k:Nat)(w:World)(B:Nat):Prop:=p= .error (er,k)\/(er=0/\ ∃x,p= .ok (q,x)/\bG y=x/\aZ w B y/\(dL y).Nodup)
theorem lT.one{p:Except (Int × Nat) (Int × Nd)}{w w':World}{e:Ending}(h:lT p w e w'): ∃(q:Int) (y:Nd) (er:Int) (k:Nat),e= .returned (.tuple #[vC q y,.int .i64 er,.int .i64 k])/\Below w.heap.size w w'/\pQ p q y er k w' w.heap.size:=by
 unfold lT at h;cases p with
 |error nk=>obtain⟨n,k⟩:=nk;exact⟨0,.mk 0 ⟨0,0,[]⟩ 0 none 0 [],n,k,h.2,h.1,.inl rfl⟩
 | ok qx=>
   obtain⟨q,x⟩:=qx;obtain⟨hb,y,hy,he,hN,hnd⟩:=h;exact⟨q,y,0,0,he,hb,.inr ⟨rfl,x,rfl,hy,hN,hnd⟩⟩
theorem pQ.keep{p:Except (Int × Nat) (Int × Nd)}{q:Int}{y:Nd}{er:Int}{k:Nat}{w w':World}{B B':Nat}(h:pQ p q y er k w B)(hb:Below w.heap.size w w')(hB:B'<=B):pQ p q y er k w' B':=by
 rcases h with h|⟨h1,x,h2,h3,h4,h5⟩
 ·exact .inl h
 exact .inr ⟨h1,x,h2,h3,aZ.mono hB (aZ.keep hb h4),h5⟩
theorem pQ.put{p:Except (Int × Nat) (Int × Nd)}{q:Int}{y:Nd}{er:Int}{k:Nat}{w w':World}{b:Nat}(h:pQ p q y er k w (b+1))(hg:w.grownBy w' (some b)):pQ p q y er k w' b:=by
 rcases h with h|⟨h1,x,h2,h3,h4,h5⟩
 ·exact .inl h
 exact .inr ⟨h1,x,h2,h3,aZ.mono (B':=b) (by omega) (aZ.kept (r:=some b) hg h4 (fun c hc e=>by have:=(h4.lt c hc).1;simp at e this;omega)),h5⟩
theorem agZ{af:Int}{s:Tx}{k:Nat}{e:Ending}(ha:bF af=true)(hl:s.length<=262144)(hk:k<=s.length)(hv:sJ s.length (s.drop k) e):
 ∃ (ln:Tx) (p0 bl fr:Nat) (v3:Value) (is:Bool),e= .returned (.tuple #[.string (tx ln),.int .i64 (p0:Nat),v3,.bool is])/\ln.length<=262144/\ln.length-(ax ln).length=bl/\(p0:Int)-(bl:Nat)=(fr:Nat)/\fr<=s.length/\(is=true\/(is=false/\fr=s.length))/\p0<=262144/\bl<=262144/\
   (∀c,cJ af (s.drop fr)= .ok c->gL af s.length (s.drop k)= .ok c)/\ ∀n i,cJ af (s.drop fr)= .error (n,i)->gL af s.length (s.drop k)= .error (n,if n=2 then 0 else fr+i):=by
 obtain⟨u,hu⟩:=aj (ax (s.drop k));have P1:=fun c h=>Sd (af:=af) (N:=s.length) (r:=s.drop k) (c:=c) h
 have P2:=fun e k1 h=>Sc (af:=af) (N:=s.length) (r:=s.drop k) (e:=e) (k:=k1) h
 rw[hu]at P1 P2;unfold sJ at hv;rw[hu]at hv;rcases hv with⟨h0,rfl⟩|⟨b,h0,hb,h10,kA,rfl⟩
 ·subst h0
  refine⟨[],s.length,0,s.length,_,false,rfl,by simp,rfl,by simp,anb _,.inr ⟨rfl,rfl⟩,hl,by omega,?_,?_⟩
  ·rw[aob];exact P1
  rw[aob];exact P2
 have am4:u.length<=s.length:=by rw[<-hu];have:=(kX (s.drop k)).length_le;have:=aoN (i:=k) (l:=s);omega
 have dN:u.length<=262144:=by omega
 have hin:b.length+u.length<=(s.drop k).length:=kA.2;have hkl:(s.drop k).length=s.length-k:=aoN;obtain⟨fr,hfr⟩:=aj (s.length-(b.length+u.length));have am5:(s.drop fr).length=b.length+u.length:=by rw[aoN];omega
 obtain⟨HV,b',LG,dU⟩:aO (s.drop fr)=aO u/\ ∃b',s.drop fr=b'++u/\ ∀c∈b',aq c=true:=by
  have h1:s.drop k=(s.drop k).takeWhile aq++u:=by rw[<-hu];exact(List.takeWhile_append_dropWhile ..).symm
  have h2:s.drop fr=(s.drop k).drop (fr-k):=by rw[List.drop_drop,show k+(fr-k)=fr by omega]
  have h3:=congrArg anO h1;rw[aoW]at h3
  have h4:s.drop fr=((s.drop k).takeWhile aq).drop (fr-k)++u:=by
   rw[h2]
   conv=>lhs;rw[h1]
   rw[List.drop_append_of_le_length (by omega)]
  have h5: ∀c∈((s.drop k).takeWhile aq).drop (fr-k),aq c=true:=fun c hc=>List.all_eq_true.1 (List.all_takeWhile) c (List.mem_of_mem_drop hc)
  rw[h4];exact⟨aff h5 u,_,rfl,h5⟩
 have hvl:(s.drop fr).length<=262144:=by omega
 obtain⟨c,hc⟩: ∃c,u.head?=some c:=by
  cases u with
  |nil=>exact absurd rfl h0
  |cons c r=>exact⟨c,rfl⟩
 have hcb:aq c=false:=je (l:=s.drop k) (p:=aq) (by rw[show(s.drop k).dropWhile aq=u from hu];exact hc);have hlen:(b++u.takeWhile (· != 10)).length<=262144:=by have:=pM (· != 10) u;rw[aoW];omega
 have mh:(b++u.takeWhile (· != 10)).length-(ax (b++u.takeWhile (· != 10))).length=b.length:=by
  have:ax (b++u.takeWhile (· != 10))=u.takeWhile (· != 10):=by
   unfold ax;rw[apu hb];cases u with
   |nil=>rfl
   | cons d r=>
     obtain rfl:d=c:=by simpa using hc
     rw[List.takeWhile_cons_of_pos (p:=fun x=>x != 10) (by rw[bne_iff_ne];rintro rfl;revert hcb;decide),List.dropWhile_cons_of_neg (by rw[hcb];decide)]
  rw[this,aoW];omega
 refine⟨_,bJ s.length u,b.length,fr,_,true,rfl,hlen,mh,by unfold bJ;omega,by omega,.inl rfl,by unfold bJ;omega,by omega,fun c h=>P1 c (Xn h HV dN),fun n i h=>?_⟩;obtain⟨i2,h2⟩:=agN h HV hvl dN;rw[P2 n i2 h2]
 by_cases he:n=2
 ·rw[if_pos he,if_pos he]
 rw[if_neg he,if_neg he]
 have qo:=congrArg anO LG;rw[aoW]at qo;rw[LG]at h;rw[agP ha dU (by omega) h h2 he];unfold bJ;rw[show s.length-u.length+i2=fr+(b'.length+i2) by omega]
theorem aiY{w1 w:World}{s:Tx}{k:Nat}{t:aG}(R:cM w1 w s k t)(ha:bF t.af=true):Calls prog 31 #[.pointer (some ⟨w1.heap.size,0,none⟩)] w (Ev (gL t.af s.length (s.drop k)) w1 w s k t):=by
 obtain⟨c0,c1⟩:=R.bx.mB;have hl:=R.sl;have PK:=hid (De s w1.heap.size k R.le R.sl w c0 c1);have FL:=hid (fun p er k w=>Dc p er k w);have HR:=hid R;have PE:=hid (fun e h=>agZ (e:=e) ha hl R.le h);have Pf:=hid (fun(s:Tx) (h:s.length<=262144) w g=>abS (af:=t.af) (s:=s) (by omega) w g);generalize gL t.af s.length (s.drop k)=hp at*;obtain⟨N,hN⟩:=aj ((tx s).size);have TD:N=s.length:=by rw[<-hN,aM]
 have Kr:N<=262144:=by omega
 clear c0 c1
 go_in
 go_wp2_with fail;refine PK.out.mono ?_;rintro e w2 ⟨hv,E2⟩;obtain⟨ln,p0,bl,fr,v3,is,rfl,mI,mh,hF,hfN,Us,amW,amy,P1,P2⟩:=PE.out _ hv;rw[<-TD]at Us;have amI:fr<=262144:=by omega
 have LD:=hid (fun w=>Dd ln (by omega) w);rw[mh]at LD;have sl:=GX s fr hfN;have CP:=hid (fun w g=>Pf.out (s.drop fr) (by rw[aoN];omega) w g);have NZ:=hid (fun e k2 (h:cJ t.af (s.drop fr)= .error (e,k2))=>Xl h);have PC:=hid (fun e k2 (h:cJ t.af (s.drop fr)= .error (e,k2))=>Nat.le_trans (Xm h) (by rw[aoN];omega:(s.drop fr).length<=262144));have P1:=hid P1;have P2:=hid P2;generalize cJ t.af (s.drop fr)=pc at*;generalize s.drop fr=vv at*;have E2:=hid E2;clear hv PE Pf TD mI mh hl;go_wp2_with fail;refine(LD.out _).mono ?_;rintro e w3 ⟨rfl,E3⟩;have RR:=HR.out.below (aB E2.out E3);have EE:=hid (aB E2.out E3);obtain⟨c0,-, c2⟩:=RR.bx.oa;have hrb:=RR.lt;have gl:=hid (fun(w':World) (B:Below w3.heap.size w3 w')=>RR.g.below B);have Jy:=hid (fun(w':World) (B:Below w3.heap.size w3 w')=>(And.intro ((B.cell (p:=⟨w1.heap.size,0,none⟩) hrb).trans c0) ((B.cell (p:=⟨w1.heap.size,2,none⟩) hrb).trans c2)));clear E3 RR;rcases Us with rfl|⟨rfl,rfl⟩
 all_goals
  go_upto_region 4 with(fail)
  have B0:=anM w3.heap.size w3
  go_cut [7,8,9] (fun s7 s8 s9 wx=> ∃(b':Nat) (q:Int) (y:Nd) (er:Int) (kp:Nat),s7= .pointer (some ⟨b',0,none⟩)/\s8= .int .i64 er/\s9= .int .i64 kp/\aA wx b' (.int .i64 q::cN y)/\Below w3.heap.size w3 wx/\w3.heap.size<=b'/\pQ pc q y er kp wx w3.heap.size)
  case first=>
   go_region_held3 (fun w'=>Below w3.heap.size w3 w'/\w'.cell? ⟨w1.heap.size,0,none⟩=some (.string (tx s))/\w'.cell? ⟨w1.heap.size,2,none⟩=some (.int .i64 t.af))
    (exact⟨aF,Jy.out _ aF⟩)
    (first
     |(go_at_call 82
       refine(CP.out _ (gl.out _ (jt (anM w3.heap.size w3)))).mono ?_;rintro e w9 h;obtain⟨q,y,er,kp,rfl,E9,hc⟩:=h.one;have B9:=aB (jt (anM w3.heap.size w3)) E9;obtain⟨a1,a2⟩:=Jy.out _ B9)
     |(go_at_call 82
       refine(CP.out _ (gl.out _ (jt (eZ (anM w3.heap.size w3) _)))).mono ?_;rintro e w9 h;obtain⟨q,y,er,kp,rfl,E9,hc⟩:=h.one;have B9:=aB (jt (eZ (anM w3.heap.size w3) _)) E9;obtain⟨a1,a2⟩:=Jy.out _ B9;have XN:=((aA.new w3 #[.int .i64 0,.int .i64 0,.int .i64 0,.int .i64 0,.string ⟨#[]⟩,.int .i64 0,.slice none 0 0] 30).below (below_drewN _ 1)).below E9;obtain⟨n0,n1,n2,n3,n4,n5,n6⟩:=XN.lA;have nf: ∀j,w9.frozen? ⟨w3.heap.size,j,none⟩=false:=fun j=>(E9.frozen (p:=⟨w3.heap.size,j,none⟩) (by simp)).trans (aV w3 _ _ j)
       have f0:=nf 0;have f1:=nf 1;have f2:=nf 2;have f3:=nf 3;have f4:=nf 4;have f5:=nf 5;have f6:=nf 6))
   all_goals(go_wp2_with fail;go_meet)
   ·exact⟨w9.heap.size,q,y,er,kp,rfl,rfl,rfl,aA.new _ _ _,(uJ B9.size),B9.size,hc.keep (al w9 _) (anb _)⟩
   exact⟨w3.heap.size,q,y,er,kp,rfl,rfl,rfl,((((((XN.set 0 (.int .i64 q)).set 1 (.int .i64 y.kind)).set 2 (.int .i64 y.th.thread)).set 3 (.int .i64 y.th.az)).set 4 (.string (tx y.th.loc))).set 5 (.int .i64 y.val)).set 6 (.slice y.a y.kids.length y.c),(uJ B9.size),anb _,pQ.put (b:=w3.heap.size) (by simpa using hc) (aP.grown (b:=w3.heap.size) tu)⟩
  obtain⟨b',q,y,er,kp,rfl,rfl,rfl,XB,B5,hb',hc⟩:=hcut;rcases hc with hc|⟨rfl,x,hx,hy,hN,hnd⟩
  ·have HE:=hid (P2.out er kp hc)
   have hnz:=NZ.out er kp hc;have hkp:=PC.out er kp hc;have B5:=hid B5;clear hc XB B0
   by_cases mG:er=2
   ·subst mG
    go_wp2_with fail;refine(FL.out _ _ _ _).mono ?_;rintro e w8 ⟨rfl,E8⟩;have E:=hid (aB B5.out E8);clear E8;go_wp2_with fail;exact⟨rfl,.inl ⟨(HR.out.below (aB EE.out E.out)).bu,_,0,(by rw[HE.out];first|rw[if_pos rfl]|rw[if_pos trivial]),rfl⟩⟩
   have y2:((er:Int)==2)=false:=by simpa using mG
   have y0:((er:Int)==0)=false:=by simpa using hnz
   go_wp2_with fail;refine(FL.out _ _ _ _).mono ?_;rintro e w8 ⟨rfl,E8⟩;have E:=hid (aB B5.out E8);clear E8;go_wp2_with fail;exact⟨rfl,.inl ⟨(HR.out.below (aB EE.out E.out)).bu,_,_,(by rw[HE.out,if_neg mG]),rfl⟩⟩
  have HE:=hid (P1.out _ hx)
  have RW:=HR.out.below (aB EE.out B5);have RC:=RW.cond q y;obtain⟨x0,x1,x2,x3,x4,x5,x6⟩:=XB.lA;obtain⟨-, -, -, -, -, -, -, q7,q8,q9,iN,iO,XU,XV⟩:=RW.bx.aa4;have f7:=RW.dG 7;have f8:=RW.dG 8;have f9:=RW.dG 9;have f10:=RW.dG 10;have f11:=RW.dG 11;have f12:=RW.dG 12;have f13:=RW.dG 13;have ST:=hid ((aX (bw:=w1.heap.size) (aB EE.out B5)).trans RC.2);have HNW:=hid (aZ.mono EE.out.size (aZ.st hN RC.2 hrb));have RC:=hid RC.1;have HY:=hid hy;have hnd:=hid hnd;have rC:b'≠w1.heap.size:=by omega
  clear RW XB B5 hN B0 hx hy;go_wp2_with fail;exact bodyPost_ret (by simp[results,results31,go_sem]) rfl (.inr ⟨q,x,y,HE.out,HY.out,rfl,ST.out,RC.out,HNW.out,hnd.out⟩)
end Go.Proofs.YtkbbgjloifmmbaaGreatDoor

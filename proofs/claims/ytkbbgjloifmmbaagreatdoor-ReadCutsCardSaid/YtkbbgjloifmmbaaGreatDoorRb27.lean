/- What ReadBackP leans on, part 27. -/
import Derived.Test.YtkbbgjloifmmbaaGreatDoorRb26
import Derived.Defers
import Derived.Recover
set_option linter.unusedVariables false
set_option maxRecDepth 100000
set_option maxHeartbeats 3200000
namespace Go.Proofs.YtkbbgjloifmmbaaGreatDoor
open _root_.Go.Proofs.Tryz
open _root_.Go.World renaming frozen?_setCell->aph
open _root_.Go.Instr renaming makeFunc->api
open _root_.Except renaming error->apd,ok->ape
open _root_.Nat renaming le_refl->amS,zero_le->apj
open _root_.List renaming drop_zero->aoY
open _root_.Go.Exit renaming thenS->apk
open _root_.Go.RowKit.Below renaming setCell->apl
open _root_.Option renaming some->aos
open _root_.Array renaming replicate->apm
open Go.RowKit Go.Sort
def jS(af q:Int)(l:List Tok):PR (Int × Nd):=match bt [40] l with
 | .error e=>.error e
 | .ok l=>match gI (bg af (l.length+1)) l with
   | .error e=>.error e
   | .ok (x,l)=>match bt [41] l with
     | .error e=>.error e
     | .ok l=>if l=[]then .ok ((q,x),[])else .error l
def jR(af:Int)(l:List Tok):PR (Int × Nd):=match ep af l with
 | .error e=>.error e
 | .ok p=>.ok (p,[])
theorem Ho(af:Int)(l:List Tok):jR af l=match kf l with
 | .error e=>.error e
 | .ok (q,l)=>jS af q l:=by
 unfold jR ep jS;cases kf l with
 |error e=>rfl
 | ok p=>
   obtain⟨q,r⟩:=p;simp only;cases bt [40] r with
   |error e=>rfl
   | ok r=>
     simp only;cases gI (bg af (r.length+1)) r with
     |error e=>rfl
     | ok p=>
       obtain⟨x,r⟩:=p;simp only;cases bt [41] r with
       |error e=>rfl
       | ok r=>
         simp only
         by_cases hr:r=[]
         ·rw[if_pos hr,if_pos hr]
         ·rw[if_neg hr,if_neg hr]
theorem aaj{af:Int}{l:List Tok}(h:aA l=[102,111,114,97,108,108]):jR af l=jS af 3 l.tail:=by
 rw[Ho,kf,if_pos h]
theorem aak{af:Int}{l:List Tok}(h:aA l=[126]):jR af l=match bt [101,120,105,115,116,115] l.tail with
 | .error e=>.error e
 | .ok r=>jS af 2 r:=by
 rw[Ho,kf,if_neg (by rw[h];decide),if_pos h];cases bt [101,120,105,115,116,115] l.tail<;>rfl
theorem aal{af:Int}{l:List Tok}(h:aA l≠[102,111,114,97,108,108])(h2:aA l≠[126]):jR af l=match bt [101,120,105,115,116,115] l with
 | .error e=>.error e
 | .ok r=>jS af 1 r:=by
 rw[Ho,kf,if_neg h,if_neg h2];cases bt [101,120,105,115,116,115] l<;>rfl
theorem aau{af q:Int}{l e:List Tok}(h:bt [40] l= .error e):jS af q l= .error e:=by unfold jS;rw[h]
theorem aav{af q:Int}{l e:List Tok}{l1:List Tok}(h:bt [40] l= .ok l1)(h2:gI (bg af (l1.length+1)) l1= .error e):jS af q l= .error e:=by unfold jS;rw[h];simp only;rw[h2]
theorem aaw{af q:Int}{l e:List Tok}{l1 l2:List Tok}{x:Nd}(h:bt [40] l= .ok l1)(h2:gI (bg af (l1.length+1)) l1= .ok (x,l2))(h3:bt [41] l2= .error e):jS af q l= .error e:=by unfold jS;rw[h];simp only;rw[h2];simp only;rw[h3]
theorem aax{af q:Int}{l:List Tok}{l1 l2 l3:List Tok}{x:Nd}(h:bt [40] l= .ok l1)(h2:gI (bg af (l1.length+1)) l1= .ok (x,l2))(h3:bt [41] l2= .ok l3)(h4:l3≠[]):jS af q l= .error l3:=by unfold jS;rw[h];simp only;rw[h2];simp only;rw[h3];simp only;rw[if_neg h4]
theorem aay{af q:Int}{l:List Tok}{l1 l2 l3:List Tok}{x:Nd}(h:bt [40] l= .ok l1)(h2:gI (bg af (l1.length+1)) l1= .ok (x,l2))(h3:bt [41] l2= .ok l3)(h4:l3=[]):jS af q l= .ok ((q,x),[]):=by unfold jS;rw[h];simp only;rw[h2];simp only;rw[h3];simp only;rw[if_pos h4]
theorem aM.drew{w w':World}{b:Nat}(h:aM w w' b):aM w w'.drew b:=⟨⟨h.grown.os,h.grown.tape,h.grown.output,h.grown.size,h.grown.block⟩,h.size⟩
abbrev zC(q:Int):Obj:=.cells #[.int .i64 q,.int .i64 0,.int .i64 0,.int .i64 0,.string ⟨#[]⟩,.int .i64 0,.slice none 0 0] 30
structure j6(w0 w wx:World)(rb:Nat)(af:Int)(s:Tx)(a:Option Addr)(c:Nat)(L:List Tok)(k:Nat)(l:List Value):Prop where
 rd:cJ w0 wx rb af s a c L k
 st:St (w.alloc (zC 0)) wx rb
 bx:aG wx (w.heap.size+1) l
 fz: ∀j,wx.frozen? ⟨w.heap.size+1,j,none⟩=false
 hr:rb<w.heap.size
 ht:L≠[]->bk a<w.heap.size
section
variable {w0 w wx wy:World} {rb:Nat} {af:Int} {s:Tx} {a:Option Addr} {c:Nat} {L:List Tok} {k k':Nat} {l:List Value}
theorem j6.new(R:cJ w0 w rb af s a c L k):j6 w0 w ((w.alloc (zC 0)).alloc (zC 1)) rb af s a c L k [.int .i64 1,.int .i64 0,.int .i64 0,.int .i64 0,.string ⟨#[]⟩,.int .i64 0,.slice none 0 0]:=by
 refine⟨(R.below (al w (zC 0))).below (al _ (zC 1)),St.new (St.refl _ _) _,?_,fun j=>?_,R.lo.2,fun h=>R.rd.toks.lt jb (by omega) h⟩
 ·have:=aG.new (w.alloc (zC 0)) #[.int .i64 1,.int .i64 0,.int .i64 0,.int .i64 0,.string ⟨#[]⟩,.int .i64 0,.slice none 0 0] 30
  simpa using this
 ·have:=ew (w.alloc (zC 0)) #[.int .i64 1,.int .i64 0,.int .i64 0,.int .i64 0,.string ⟨#[]⟩,.int .i64 0,.slice none 0 0] 30 j
  rw[lz]at this;exact this
theorem j6.step(h:j6 w0 w wx rb af s a c L k l)(hs:St wx wy rb)(hr:b7 wy w0.heap.size rb af s a c L k'):j6 w0 w wy rb af s a c L k' l:=by
 have:=h.hr;have hlt:=h.bx.1;exact⟨h.rd.st hs hr,h.st.trans hs,h.bx.step hs (by omega),fun j=>(iO hs hlt (by omega) j).trans (h.fz j),h.hr,h.ht⟩
theorem j6.below(h:j6 w0 w wx rb af s a c L k l)(hb:Below wx.heap.size wx wy):j6 w0 w wy rb af s a c L k l:=
 h.step (aX hb) (h.rd.below hb).rd
theorem j6.next(h:j6 w0 w wx rb af s a c L k l)(hk:k<L.length):j6 w0 w (wx.setCell ⟨rb,3,none⟩ (.int .i64 ((k:Int)+1))) rb af s a c L (k+1) l:=by
 obtain⟨R2,S2⟩:=h.rd.rd.next hk;exact h.step S2 R2
theorem j6.set(h:j6 w0 w wx rb af s a c L k l)(j:Nat)(v:Value):j6 w0 w (wx.setCell ⟨w.heap.size+1,j,none⟩ v) rb af s a c L k (l.set j v):=by
 have h1:=h.hr;have h0:=h.rd.lo.1;exact⟨h.rd.qd (tD (tE _ _) j v) (by omega) (fun e=>by have:=h.ht e;omega) (by omega),St.put h.st (by simp) j v,h.bx.set j v,fun i=>by rw[PI];exact h.fz i,h.hr,h.ht⟩
end
def MQ(B:Nat)(x:Int × Nd)(e:Ending)(w:World):Prop:= ∃y,aL y=x.2/\e= .returned (vC x.1 y)/\bz w B y/\(gA y).Nodup
theorem j6.fin{w0 w wx w2:World}{rb:Nat}{af:Int}{s:Tx}{a:Option Addr}{c:Nat}{L:List Tok}{k:Nat}{l:List Value}{e:Ending}{q:Int}{x y:Nd}(hC:j6 w0 w wx rb af s a c L k l)(hg:wx.grownBy w2 (aos w.heap.size))(hN:bz wx (w.heap.size+2) y)(hn:(gA y).Nodup)(hy:aL y=x)(hk:L.drop k=[])(he:e= .returned (vC q y)):eO w w0.heap.size rb af s a c L (.ok ((q,x),[])) (MQ w.heap.size) e w2:=by
 have h0:=hC.rd.lo.1;have h2:=hC.hr;have h1:=hC.rd.qd hg (by omega) (fun h=>by have:=hC.ht h;omega) (by omega);have hs:=(St.new (St.refl w rb) (zC 0)).trans hC.st;refine⟨⟨⟨hg.os.trans hs.grown.os,hg.tape.trans hs.grown.tape,hg.output.trans hs.grown.output,Nat.le_trans hs.grown.size hg.size,fun j hj hne=>?_⟩,.inl rfl⟩,.inr ⟨_,k,by rw[hk],⟨y,hy,he,?_,hn⟩,h1.rd⟩⟩
 ·rw[hg.block j (Nat.lt_of_lt_of_le hj hs.grown.size) (by simp;omega)]
  exact hs.grown.block j hj hne
 ·refine(hN.mono (B':=w.heap.size) (by omega)).kept hg fun b hb e=>?_
  have:=(hN.lt b hb).1;simp at e;omega
def xF(af q:Int)(l:List Tok):PR (Int × Nd):=match bt [101,120,105,115,116,115] l with
 | .error e=>.error e
 | .ok r=>jS af q r
theorem aaG{af q:Int}{l e:List Tok}(h:bt [101,120,105,115,116,115] l= .error e):xF af q l= .error e:=by unfold xF;rw[h]
theorem aaH{af q:Int}{l r:List Tok}(h:bt [101,120,105,115,116,115] l= .ok r):xF af q l=jS af q r:=by unfold xF;rw[h]
section
variable {w0 w:World} {rb:Nat} {af:Int} {s:Tx} {a:Option Addr} {c:Nat} {L:List Tok} {k:Nat}
theorem Kv(R:cJ w0 w rb af s a c L k):
 Calls prog 158 #[.pointer (some ⟨rb,0,none⟩)] w (eO w w0.heap.size rb af s a c L (jR af (L.drop k)) (MQ w.heap.size)):=by
 have C0:=hid (j6.new R);have PK:=hid (qz C0.out.rd.rd);unfold oN at PK;have hrb:=R.lo.2;have Jc:=R.lo.1;have hne:w.heap.size+1≠rb:=by omega
 have I7:rb≠w.heap.size+1:=by omega
 have hL:L.length<=262144:=R.rd.sm;have TE:=hid (fun(w:World) (k':Nat) (R:b7 w w0.heap.size rb af s a c L k')=>vo R [101,120,105,115,116,115] (by decide));have Yj:=hid (fun(w:World) (k':Nat) (R:b7 w w0.heap.size rb af s a c L k')=>vo R [40] (by decide));have Yk:=hid (fun(w:World) (k':Nat) (R:b7 w w0.heap.size rb af s a c L k')=>vo R [41] (by decide));have ND:=hid (fun(w:World) (k':Nat) (R:cJ w0 w rb af s a c L k')=>ah9 R);have FL:=hid (fun(w:World) (k':Nat) (R:b7 w w0.heap.size rb af s a c L k')=>Ai R);obtain⟨Z,hZ⟩: ∃Z,jR af (L.drop k)=Z:=⟨_,rfl⟩;rw[hZ];obtain⟨u,hu⟩: ∃u,aA (L.drop k)=u:=⟨_,rfl⟩;rw[hu]at PK;clear R
 have HC:Hid ((u=[102,111,114,97,108,108]/\k<L.length/\jS af 3 (L.drop (k+1))=Z)\/(u=[126]/\k<L.length/\xF af 2 (L.drop (k+1))=Z)\/(u≠[102,111,114,97,108,108]/\u≠[126]/\xF af 1 (L.drop k)=Z)):=hid (by
  by_cases h1:u=[102,111,114,97,108,108]
  ·refine .inl ⟨h1,tK (L:=L) (k:=k) (by rw[hu,h1];decide),?_⟩
   rw[<-hZ,aaj (hu.trans h1),List.tail_drop]
  ·by_cases h2:u=[126]
   ·refine .inr (.inl ⟨h2,tK (L:=L) (k:=k) (by rw[hu,h2];decide),?_⟩)
    rw[<-hZ,aak (hu.trans h2),List.tail_drop];rfl
   ·refine .inr (.inr ⟨h1,h2,?_⟩)
    rw[<-hZ,aal (by rw[hu];exact h1) (by rw[hu];exact h2)];rfl)
 clear hZ hu;rcases HC.out with⟨h1,h2,h3⟩|⟨h1,h2,h3⟩|⟨h1,h2,h3⟩
 all_goals
  have HZ:=hid h3;clear h3 HC
 rotate_left
 iterate 2
  first
   | have z1:((tx u).toList==[102,111,114,97,108,108])=false:=by rw[aW,h1];decide
     have z2:((tx u).toList==[126])=true:=by rw[aW,h1];decide
     have HK:=hid h2;generalize tx u=v at*;clear h1
   | have z1:((tx u).toList==[102,111,114,97,108,108])=false:=jm _ _ h1
     have z2:((tx u).toList==[126])=false:=jm _ _ h2;generalize tx u=v at*;clear h1 h2
  go_in;go_wp2_with fail;refine PK.out.mono ?_;rintro e w1 ⟨rfl,q⟩;have C:=C0.out.below q.aQ;clear q
  first
   | have fJ:=HK.out
     obtain⟨c0,c1,c2,c3,f3,lt⟩:=C.rd.rd.cells;have d0:=C.bx.get 0 _ rfl;have e0:=C.fz 0;replace C:=hid ((C.set 0 (.int .i64 2)).next fJ)
   |replace C:=hid C
  have TX:=hid (TE.out _ _ C.out.rd.rd);generalize L.drop _=m0 at HZ TX;rcases h0:bt [101,120,105,115,116,115] m0 with er|l0
  ·obtain rfl:=HZ.out.symm.trans (aaG h0)
   have HX:=hid h0;clear h0;go_wp2_with fail;refine TX.out.mono ?_;rintro e wa h;obtain⟨rfl,S9⟩:=h.err (show _=apd er by rw[HX.out];rfl);unfold dU;go_wp2_with fail;exact⟨rfl,(St.new (St.refl w rb) (zC 0)).trans (C.out.st.trans S9),.inl ⟨_,rfl,rfl⟩⟩
  replace HZ:=hid ((aaH h0).symm.trans HZ.out);have XU:=hid h0;clear h0;go_wp2_with fail;refine TX.out.mono ?_;rintro e wh h;obtain⟨kh,rfl,hv,R9,S9⟩:=h.fP (show _=ape ((),l0) by rw[XU.out];rfl);unfold VU at hv;subst hv;have C:=hid (C.out.step S9 R9);clear h TX R9 S9
  rotate_left
 have z1:((tx u).toList==[102,111,114,97,108,108])=true:=by rw[aW,h1];decide
 have HK:=hid h2;generalize tx u=v at*;clear h1;go_in;go_wp2_with fail;refine PK.out.mono ?_;rintro e w1 ⟨rfl,q⟩;have C:=C0.out.below q.aQ;clear q;obtain⟨c0,c1,c2,c3,f3,lt⟩:=C.rd.rd.cells;have d0:=C.bx.get 0 _ rfl;have e0:=C.fz 0;replace C:=hid ((C.set 0 (.int .i64 3)).next HK.out)
 all_goals
  have TX:=hid (Yj.out _ _ C.out.rd.rd);generalize L.drop _=l0 at HZ TX;rcases h1:bt [40] l0 with er|r1
  ·obtain rfl:=HZ.out.symm.trans (aau h1)
   have HX:=hid h1;clear h1;go_wp2_with fail;refine TX.out.mono ?_;rintro e wa h;obtain⟨rfl,S9⟩:=h.err (show _=apd er by rw[HX.out];rfl);unfold dU;go_wp2_with fail;exact⟨rfl,(St.new (St.refl w rb) (zC 0)).trans (C.out.st.trans S9),.inl ⟨_,rfl,rfl⟩⟩
  have zH:=hid h1;clear h1;go_wp2_with fail;refine TX.out.mono ?_;rintro e wa h;obtain⟨k2,rfl,hv,R9,S9⟩:=h.fP (show _=ape ((),r1) by rw[zH.out];rfl);unfold VU at hv;subst hv;have C:=hid (C.out.step S9 R9);clear h TX R9 S9;have TX:=hid (ND.out _ _ C.out.rd);rcases h2:gI (bg af ((L.drop k2).length+1)) (L.drop k2)with er|⟨x,r2⟩
  ·obtain rfl:=HZ.out.symm.trans (aav zH.out h2)
   have HX:=hid h2;clear h2;go_wp2_with fail;refine TX.out.mono ?_;rintro e wb h;obtain⟨rfl,S9⟩:=h.err (show _=apd er by rw[HX.out]);unfold dU;go_wp2_with fail;exact⟨rfl,(St.new (St.refl w rb) (zC 0)).trans (C.out.st.trans S9),.inl ⟨_,rfl,rfl⟩⟩
  have C5:=hid h2;clear h2;have lo4:=C.out.rd.lo.2;have alR:=C.out.bx.1;go_wp2_with fail;refine TX.out.mono ?_;rintro e wb h;obtain⟨k3,rfl,⟨y,hy,rfl,cL,iR⟩,R9,S9⟩:=h.fP (show _=ape (x,r2) by rw[C5.out]);have C:=C.out.step S9 R9;have d1:=C.bx.get 1 _ rfl;have d2:=C.bx.get 2 _ rfl;have d3:=C.bx.get 3 _ rfl;have d4:=C.bx.get 4 _ rfl;have d5:=C.bx.get 5 _ rfl;have d6:=C.bx.get 6 _ rfl;have e1:=C.fz;have cL:=hid (cL.mono (B':=w.heap.size+2) (by omega));have C:=hid ((((((C.set 1 (.int .i64 y.kind)).set 2 (.int .i64 y.th.thread)).set 3 (.int .i64 y.th.au)).set 4 (.string (tx y.th.loc))).set 5 (.int .i64 y.val)).set 6 (.slice y.a y.kids.length y.c));have Q3:=hid (cL.out.kept (w':=((((((wb.setCell ⟨w.heap.size+1,1,none⟩ (.int .i64 y.kind)).setCell ⟨w.heap.size+1,2,none⟩ (.int .i64 y.th.thread)).setCell ⟨w.heap.size+1,3,none⟩ (.int .i64 y.th.au)).setCell ⟨w.heap.size+1,4,none⟩ (.string (tx y.th.loc))).setCell ⟨w.heap.size+1,5,none⟩ (.int .i64 y.val)).setCell ⟨w.heap.size+1,6,none⟩ (.slice y.a y.kids.length y.c))) (aM.grown (b:=w.heap.size+1) (by(repeat refine aM.put ?_ _ _);exact aM.refl _ _)) (fun b hb e=>by have:=(cL.out.lt b hb).1;simp at e;omega));clear h TX R9 S9;have TX:=hid (Yk.out _ _ C.out.rd.rd);rcases h3:bt [41] (L.drop k3)with er|r3
  ·obtain rfl:=HZ.out.symm.trans (aaw zH.out C5.out h3)
   have HX:=hid h3;clear h3;go_wp2_with fail;refine TX.out.mono ?_;rintro e wc h;obtain⟨rfl,S9⟩:=h.err (show _=apd er by rw[HX.out];rfl);unfold dU;go_wp2_with fail;exact⟨rfl,(St.new (St.refl w rb) (zC 0)).trans (C.out.st.trans S9),.inl ⟨_,rfl,rfl⟩⟩
  have Gn:=hid h3;clear h3;go_wp2_with fail;refine TX.out.mono ?_;rintro e wc h;obtain⟨k4,rfl,hv,R9,S9⟩:=h.fP (show _=ape ((),r3) by rw[Gn.out];rfl);unfold VU at hv;subst hv;have cL:=hid (Q3.out.st S9 (by omega));have C:=hid (C.out.step S9 R9);clear h TX R9 S9 Q3;obtain⟨c0,c1,c2,c3,f3,lt⟩:=C.out.rd.rd.cells;have hk4:=C.out.rd.rd.le
  by_cases hnil:L.drop k4=[]
  ·obtain rfl:=HZ.out.symm.trans (aay zH.out C5.out Gn.out hnil)
   have z9:decide ((k4:Int)<(L.length:Int))=false:=by
    have:L.length<=k4:=by have:=congrArg List.length hnil;simp at this;omega
    simp;omega
   have z8:decide (k4<L.length)=false:=by simpa using z9
   have b8:=kD C.out.st hrb;have bx:=C.out.bx;have fz:=fun j=>(iO C.out.st (b:=w.heap.size) (by simp) (by omega) j).trans (ew w _ _ j)
   have p0:=b8.get 0 _ rfl;have p1:=b8.get 1 _ rfl;have p2:=b8.get 2 _ rfl;have p3:=b8.get 3 _ rfl;have p4:=b8.get 4 _ rfl;have p5:=b8.get 5 _ rfl;have p6:=b8.get 6 _ rfl;have q0:=bx.get 0 _ rfl;have q1:=bx.get 1 _ rfl;have q2:=bx.get 2 _ rfl;have q3:=bx.get 3 _ rfl;have q4:=bx.get 4 _ rfl;have q5:=bx.get 5 _ rfl;have q6:=bx.get 6 _ rfl;clear b8 bx;go_wp2_with fail
   go_big_region
   all_goals go_wp2_with fail
   all_goals exact bodyPost_ret (by simp[results,results158,go_sem,p0,p1,p2,p3,p4,p5,p6]) rfl (C.out.fin (aM.grown (by(repeat first|with_reducible refine aM.put ?_ _ _|with_reducible refine aM.drew ?_);exact aM.refl _ _)) cL.out iR hy hnil rfl)
  ·obtain rfl:=HZ.out.symm.trans (aax zH.out C5.out Gn.out hnil)
   have z9:decide ((k4:Int)<(L.length:Int))=true:=by
    have:k4<L.length:=by rcases Nat.lt_or_ge k4 L.length with h|h;exact h;exact absurd (List.drop_eq_nil_of_le h) hnil
    simp;omega
   have z8:decide (k4<L.length)=true:=by simpa using z9
   go_wp2_with fail
   go_big_region
   all_goals go_wp2_with fail
   all_goals
    first|refine(FL.out wc.drew k4 (C.out.rd.rd.below (below_drewN wc 1))).mono ?_|refine(FL.out wc k4 C.out.rd.rd).mono ?_
    rintro e wd ⟨rfl,q⟩;unfold dU;go_wp2_with fail;exact⟨rfl,(St.new (St.refl w rb) (zC 0)).trans (C.out.st.trans (by first|exact(aX (below_drewN wc 1)).trans (aX (bw:=rb) q.aQ)|exact aX (bw:=rb) q.aQ)),.inl ⟨_,rfl,rfl⟩⟩
end
theorem aj4(v:Value)(w:World):(Instr.typeAssert (.iface 180 v) 20 180 false).run prog w= .ok v w:=by kernel_rfl
theorem aj5(n:Int)(w:World):(Instr.field 180 (.agg #[.int .i64 n]) 0).run prog w= .ok (.int .i64 n) w:=by kernel_rfl
theorem OS(p q r:Addr)(w:World):
 CallsD prog 156 #[.pointer (some p),.pointer (some q),.pointer (some r)] .returning w fun e u' w'=>e= .returned (.tuple #[])/\u'= .returning/\w'=w:=by
 refine callsD_of_wpS func156 rfl fun c₀ cs hu=>?_
 apply wpS_seq;apply wpS_region;simp[wpOpsS,go_sem,recoverD,hu,ntmps156,apk];apply wpS_seq;apply wpS_region;simp[wpOpsS,go_sem,apk];refine wpS_cond (t:=false) (by simp[Act.eval,apm]) ?_;simp only[Bool.false_eq_true,if_false];refine wpS_of_wp (wp_skip ?_);cases c₀
 simp_all [bodyPostS,results,results156]
theorem aaJ(bp bq br:Nat)(n:Int)(w:World)(older:List PanicEntry)(us:List Value)(x y:Value)(hl:us.length=7)
 (h1:aG w bp us) (h2:w.cell? ⟨bq,0,none⟩=some x) (h3:w.cell? ⟨br,0,none⟩=some y) (f1: ∀j,w.frozen? ⟨bp,j,none⟩=false) (f2:w.frozen? ⟨bq,0,none⟩=false) (f3:w.frozen? ⟨br,0,none⟩=false)
 (n1:bp≠bq) (n2:bp≠br) (n3:bq≠br):
 CallsD prog 156 #[.pointer (some ⟨bp,0,none⟩),.pointer (some ⟨bq,0,none⟩),.pointer (some ⟨br,0,none⟩)] (.panicking ({ v:=.iface 180 (.agg #[.int .i64 n]),recovered:=false }::older)) w fun e u' w'=>e= .returned (.tuple #[])/\u'= .panicking ({ v:=.iface 180 (.agg #[.int .i64 n]),recovered:=true }::older)/\
  (∀B,B<=bp->B<=bq->B<=br->Below B w w')/\aG w' bp [.int .i64 0,.int .i64 0,.int .i64 0,.int .i64 0,.string ⟨#[]⟩,.int .i64 0,.slice none 0 0]/\w'.cell? ⟨bq,0,none⟩=some (.int .i64 80)/\w'.cell? ⟨br,0,none⟩=some (.int .i64 n):=by
 match us,hl with
 |[u0,u1,u2,u3,u4,u5,u6],_=>
 have p0:=h1.get 0 _ rfl;have p1:=h1.get 1 _ rfl;have p2:=h1.get 2 _ rfl;have p3:=h1.get 3 _ rfl;have p4:=h1.get 4 _ rfl;have p5:=h1.get 5 _ rfl;have p6:=h1.get 6 _ rfl;refine callsD_of_wpS func156 rfl fun c₀ cs hu=>?_
 apply wpS_seq;apply wpS_region;simp[wpOpsS,go_sem,recoverD,hu,ntmps156,apk];apply wpS_seq;apply wpS_region;simp[wpOpsS,go_sem,apk];refine wpS_cond (t:=true) (by simp[Act.eval,apm]) ?_;simp only[if_true];refine wpS_of_wp ?_;have hx:=h1.1;have ta:=aj4;have tb:=aj5 n;clear hl h1;have f10:=f1 0;have f11:=f1 1;have f12:=f1 2;have f13:=f1 3;have f14:=f1 4;have f15:=f1 5;have f16:=f1 6;refine(?_:Code.wp prog _ _ ⟨#[.pointer (some ⟨bp,0,none⟩),.pointer (some ⟨bq,0,none⟩),.pointer (some ⟨br,0,none⟩),.iface 180 (.agg #[.int .i64 n]),.iface 180 (.agg #[.int .i64 n]),.iface 180 (.agg #[.int .i64 n]),.bool true,undef,undef,undef,undef],[]⟩ w)
 go_big_region
 all_goals(try go_wp2_with fail)
 refine⟨rfl,_,rfl,.tuple #[],by simp[results,results156],rfl,rfl,fun B b1 b2 b3=>?_,⟨by simpa using hx,fun j hj=>?_⟩,by simp[go_sem,h2],by simp[go_sem,h3]⟩
 ·(repeat first|with_reducible refine apl ?_ b1 _|with_reducible refine apl ?_ b2 _|with_reducible refine apl ?_ b3 _|with_reducible refine Below.drew ?_)
  exact Below.refl _ _
 ·have:j=0\/j=1\/j=2\/j=3\/j=4\/j=5\/j=6:=by simp at hj;omega
  rcases this with rfl|rfl|rfl|rfl|rfl|rfl|rfl<;>simp[go_sem,p0,p1,p2,p3,p4,p5,p6]
theorem JP: ∀(n p:Nat) (s:Tx),s.length<=n-> ∀t∈lex p s,t.1.length<=s.length
 |_,p,[],_,t,ht=>by rw[lex_nil]at ht;cases ht
 |0,p,c::r,h,t,ht=>by simp at h
 | n+1,p,c::r,h,t,ht=>by
   have hr:r.length<=n:=by simpa using h
   cases hb:aj c with
   | true=>
     rw[yx p r hb]at ht;have:=JP n _ r hr t ht;simp;omega
   | false=>
     rw[Bh p r hb]at ht;have h1:=mB c r;rcases List.mem_cons.1 ht with rfl|ht
     ·simp;omega
     ·have:=JP n _ _ (by simp;omega) t ht
      simp at this ⊢; omega
def sX(p:Except (Int × Nat) (Int × Nd))(w:World)(e:Ending)(w':World):Prop:=Below w.heap.size w w'/\match p with
 | .error (n,k)=>e= .returned (.tuple #[.agg #[.int .i64 0,.int .i64 0,.int .i64 0,.int .i64 0,.string ⟨#[]⟩,.int .i64 0,.slice none 0 0],.int .i64 n,.int .i64 k])
 | .ok (q,x)=> ∃y,aL y=x/\e= .returned (.tuple #[vC q y,.int .i64 0,.int .i64 0])/\bz w' w.heap.size y/\(gA y).Nodup
theorem afx{af:Int}{s:Tx}(h:aH af=false):cM af s= .error (5,0):=by unfold cM;rw[if_pos h]
theorem afy{af:Int}{s:Tx}(h:aH af=true)(hl:262144<s.length):cM af s= .error (2,0):=by unfold cM;rw[if_neg (by rw[h];decide),if_pos hl]
theorem aam{af:Int}{L l:List Tok}(hc:jR af L= .error l):ep af L= .error l:=by
 unfold jR at hc;cases h:ep af L with
 |error e=>rw[h]at hc;cases hc;rfl
 |ok p=>rw[h]at hc;cases hc
theorem OD{af:Int}{L l:List Tok}{p:Int × Nd}(hc:jR af L= .ok (p,l)):ep af L= .ok p:=by
 unfold jR at hc;cases h:ep af L with
 |error e=>rw[h]at hc;cases hc
 |ok p=>rw[h]at hc;cases hc;rfl
theorem afz{af:Int}{s:Tx}{l:List Tok}(h:aH af=true)(hl:s.length<=262144)(hc:jR af (lex 0 s)= .error l):cM af s= .error (80,iX s.length l):=by
 unfold cM;rw[if_neg (by rw[h];decide),if_neg (by omega),aam hc];rfl
theorem afA{af q:Int}{s:Tx}{l:List Tok}{x:Nd}(h:aH af=true)(hl:s.length<=262144)(hc:jR af (lex 0 s)= .ok ((q,x),l))(h0:bF af q x=0):cM af s= .ok (q,x):=by
 unfold cM;rw[if_neg (by rw[h];decide),if_neg (by omega),OD hc];simp only;rw[if_pos h0]
theorem afB{af q:Int}{s:Tx}{l:List Tok}{x:Nd}(h:aH af=true)(hl:s.length<=262144)(hc:jR af (lex 0 s)= .ok ((q,x),l))(h0:bF af q x≠0):cM af s= .error (bF af q x,0):=by
 unfold cM;rw[if_neg (by rw[h];decide),if_neg (by omega),OD hc];simp only;rw[if_neg h0]
theorem aad{af:Int}{s:Tx}(h:aH af=false)(w:World):Calls prog 82 #[.int .i64 af,.string (tx s)] w (sX (cM af s) w):=by
 rw[afx h];have KN:=hid (fun w=>xE af w);have HA:=hid h;clear h;have ye: ∀(fn:Fn) (first cap:Array Value) (w:World),(api fn first cap).run prog w= .ok (.func fn first cap) w:=fun _ _ _ _=>rfl
 go_enter_defers func82,ntmps82
 go_wp2_with (go_at_call 142;refine(KN.out _).mono ?_;rintro e w' ⟨rfl,rfl⟩;rw[HA.out])
 refine⟨_,by simp[results,results82,go_sem];rfl,?_⟩;exact⟨aN,rfl⟩
theorem aae{af:Int}{s:Tx}(h:aH af=true)(hl:262144<s.length)(hm:s.length<=9223372036854775807)(w:World):Calls prog 82 #[.int .i64 af,.string (tx s)] w (sX (cM af s) w):=by
 rw[afy h hl];have KN:=hid (fun w=>xE af w);have HA:=hid h;have hsz:(tx s).size=s.length:=aP s;generalize tx s=u at*;have z:decide ((262144:Int)<(u.size:Int))=true:=by simp;omega
 have hm2:u.size<=9223372036854775807:=by omega
 clear h hsz hl hm;have ye: ∀(fn:Fn) (first cap:Array Value) (w:World),(api fn first cap).run prog w= .ok (.func fn first cap) w:=fun _ _ _ _=>rfl
 go_enter_defers func82,ntmps82
 go_wp2_with (go_at_call 142;refine(KN.out _).mono ?_;rintro e w' ⟨rfl,rfl⟩;rw[HA.out])
 refine⟨_,by simp[results,results82,go_sem];rfl,?_⟩;exact⟨aN,rfl⟩
abbrev EU(af:Int)(s:Tx)(a:Option Addr)(n c:Nat):Obj:=.cells #[.int .i64 af,.string (tx s),.slice a n c,.int .i64 0] 185
theorem cJ.new{w:World}{af:Int}{s:Tx}{a:Option Addr}{c:Nat}(hO:zN w 0 a (lex 0 s).length c (lex 0 s))(hs:s.length<=262144)(g:Gl w):cJ w (w.alloc (EU af s a (lex 0 s).length c)) w.heap.size af s a c (lex 0 s) 0:=by
 have hl:=Bg _ 0 s (amS _);have hT:bf Ac w a (lex 0 s):=⟨Own.row hO,by omega⟩;refine⟨⟨?_,hT.below (al w _),fun h=>?_,apj _,by omega,hs⟩,g,al w _,JP _ 0 s (amS _)⟩
 ·exact World.ownsRow_lit w (e:=185) #[.int .i64 af,.string (tx s),.slice a (lex 0 s).length c,.int .i64 0] 1 (amS w.heap.size) (size:=4) (by unfold maxLen;omega) (by simp)
 ·have:=hT.lt jb (by omega) h
  omega
abbrev zE:Obj:=.cells #[.int .i64 0] 33
abbrev zI:Obj:=.cells #[.int .i64 0] 3
abbrev uA(w:World):World:=((w.alloc (zC 0)).alloc zE).alloc zI
theorem xz(w:World):Below w.heap.size w (uA w):=aN
theorem LL{w w4:World}{rb:Nat}(S:St (uA w) w4 rb)(hr:w.heap.size+2<rb):aG w4 w.heap.size [.int .i64 0,.int .i64 0,.int .i64 0,.int .i64 0,.string ⟨#[]⟩,.int .i64 0,.slice none 0 0]/\w4.cell? ⟨w.heap.size+1,0,none⟩=some (.int .i64 0)/\w4.cell? ⟨w.heap.size+1+1,0,none⟩=some (.int .i64 0)/\(∀j,w4.frozen? ⟨w.heap.size,j,none⟩=false)/\(∀j,w4.frozen? ⟨w.heap.size+1,j,none⟩=false)/\(∀j,w4.frozen? ⟨w.heap.size+1+1,j,none⟩=false):=by
 have a1:=al w (zC 0);have a2:=al (w.alloc (zC 0)) zE;have a3:=al ((w.alloc (zC 0)).alloc zE) zI;have b1:=(((aG.new w #[.int .i64 0,.int .i64 0,.int .i64 0,.int .i64 0,.string ⟨#[]⟩,.int .i64 0,.slice none 0 0] 30).below a2).below a3).step S (by omega);have b2:=((aG.new (w.alloc (zC 0)) #[.int .i64 0] 33).below a3).step S (by simp<;>omega);have b3:=(aG.new ((w.alloc (zC 0)).alloc zE) #[.int .i64 0] 3).step S (by simp<;>omega);have c2:=b2.get 0 _ rfl;have c3:=b3.get 0 _ rfl;simp only[lz]at c2 c3;refine⟨b1,c2,c3,fun j=>?_,fun j=>?_,fun j=>?_⟩
 ·rw[iO S (by simp<;>omega) (by omega),a3.frozen (p:=⟨w.heap.size,j,none⟩) (by simp<;>omega),a2.frozen (p:=⟨w.heap.size,j,none⟩) (by simp)]
  exact ew w _ _ j
 ·rw[iO S (by simp<;>omega) (by omega),a3.frozen (p:=⟨w.heap.size+1,j,none⟩) (by simp)]
  have:=ew (w.alloc (zC 0)) #[.int .i64 0] 33 j;rw[lz]at this;exact this
 ·rw[iO S (by simp) (by omega)]
  have:=ew ((w.alloc (zC 0)).alloc zE) #[.int .i64 0] 3 j;rw[lz,lz]at this;exact this
theorem aaf{af:Int}{s:Tx}{l:List Tok}(h:aH af=true)(hl:s.length<=262144)(hc:jR af (lex 0 s)= .error l)(w:World)(g:Gl w):Calls prog 82 #[.int .i64 af,.string (tx s)] w (sX (cM af s) w):=by
 rw[afz h hl hc];have KN:=hid (fun w=>xE af w);have TK:=hid (Hq s hl (uA w));have HA:=hid h;have hsz:(tx s).size=s.length:=aP s;have HS:=hid hl;have HC:=hid hc;have HG:=hid g;generalize hu:tx s=u at*;have z:decide ((262144:Int)<(u.size:Int))=false:=by simp;omega
 have hm2:u.size<=9223372036854775807:=by omega
 clear h hsz hl hc g;have ye: ∀(fn:Fn) (first cap:Array Value) (w:World),(api fn first cap).run prog w= .ok (.func fn first cap) w:=fun _ _ _ _=>rfl
 go_enter_defers func82,ntmps82
 go_wp2_with (first|(go_at_call 142;refine(KN.out _).mono ?_;rintro e w' ⟨rfl,rfl⟩;rw[HA.out])|fail)
 refine TK.out.mono ?_;rintro e w2 ⟨a,c,rfl,hO,E2⟩;subst hu;have A6:=E2.size;have RC:=hid (Kv (cJ.new (af:=af) (Own.mono hO (apj _)) HS.out ((HG.out.below (xz w)).below E2)));have E2:=hid E2;clear hO;go_wp2_with fail;refine RC.out.mono ?_;rintro e w4 h;obtain⟨rfl,S3⟩:=h.err (show _=apd l by rw[aoY];exact HC.out);have S:St (uA w) w4 w2.heap.size:=(aX E2.out).trans ((aX (al w2 (EU af s a (lex 0 s).length c))).trans S3);have hrb:w.heap.size+2<w2.heap.size:=by simp at A6;omega
 obtain⟨v1,v2,v3,f1,f2,f3⟩:=LL S hrb;have B4:Below w.heap.size w w4:=(xz w).grown S.grown (by simp;omega) (fun r hr=>by simp at hr;omega);clear h S3;unfold dU;go_wp2_with fail;refine leaves_cons (f:=156) (args:=#[.pointer (some ⟨w.heap.size,0,none⟩),.pointer (some ⟨w.heap.size+1,0,none⟩),.pointer (some ⟨w.heap.size+1+1,0,none⟩)]) (by simp) (by simp[go_sem]) ?_;refine(aaJ w.heap.size (w.heap.size+1) (w.heap.size+1+1) _ w4 [] _ _ _ rfl v1 v2 v3 f1 (f2 0) (f3 0) (by omega) (by omega) (by omega)).mono ?_;rintro e u' w5 ⟨rfl,rfl,hB,hx,hq,hr⟩;have p0:=hx.get 0 _ rfl;have p1:=hx.get 1 _ rfl;have p2:=hx.get 2 _ rfl;have p3:=hx.get 3 _ rfl;have p4:=hx.get 4 _ rfl;have p5:=hx.get 5 _ rfl;have p6:=hx.get 6 _ rfl;refine⟨.tuple #[.agg #[.int .i64 0,.int .i64 0,.int .i64 0,.int .i64 0,.string ⟨#[]⟩,.int .i64 0,.slice none 0 0],.int .i64 80,.int .i64 (iX s.length l)],by simp[results,results82,go_sem,p0,p1,p2,p3,p4,p5,p6,hq,hr],?_⟩;exact⟨B4.trans (hB _ (amS _) (by omega) (by omega)),rfl⟩
mutual
theorem Wz(af:Int): ∀(x:Nd) (met deep:Nat),dA af (aL x) met deep=dA af x met deep
 | .mk k t v a c l,met,deep=>by
   rw[aL,dA,dA,Dl,Ww af l]
theorem Ww(af:Int): ∀(l:List Nd) (met deep:Nat),gP af (dx l) met deep=gP af l met deep
 |[],met,deep=>by rw[dx]
 |x::r,met,deep=>by rw[dx,gP,gP,Wz af x,Ww af r]
end
abbrev pC(w4:World)(b:Nat)(q:Int)(y:Nd):World:=((((((w4.setCell ⟨b,0,none⟩ (.int .i64 q)).setCell ⟨b,1,none⟩ (.int .i64 y.kind)).setCell ⟨b,2,none⟩ (.int .i64 y.th.thread)).setCell ⟨b,3,none⟩ (.int .i64 y.th.au)).setCell ⟨b,4,none⟩ (.string (tx y.th.loc))).setCell ⟨b,5,none⟩ (.int .i64 y.val)).setCell ⟨b,6,none⟩ (.slice y.a y.kids.length y.c)
theorem yI{w w5 w6 w7 w8:World}{B:Nat}(h0:Below B w w5)(h3:aM w7 w8 (B+1+1))(h2:aM w6 w7 (B+1))(h1:aM w5 w6 B)(hB:B<=w5.heap.size):Below B w w8:=by
 have a1:=h0.grown h1.grown hB (fun r hr=>by simp at hr;omega);have a2:=a1.grown h2.grown (by rw[h1.size];exact hB) (fun r hr=>by simp at hr;omega);exact a2.grown h3.grown (by rw[h2.size,h1.size];exact hB) (fun r hr=>by simp at hr;omega)
theorem bz.yI{w5 w6 w7 w8:World}{B:Nat}{y:Nd}(h0:bz w5 (B+3) y)(h3:aM w7 w8 (B+1+1))(h2:aM w6 w7 (B+1))(h1:aM w5 w6 B):bz w8 B y:=by
 have a1:=h0.kept h1.grown (fun b hb e=>by have:=(h0.lt b hb).1;simp at e;omega);have a2:=a1.kept h2.grown (fun b hb e=>by have:=(a1.lt b hb).1;simp at e;omega);exact(a2.kept h3.grown (fun b hb e=>by have:=(a2.lt b hb).1;simp at e;omega)).mono (by omega)
theorem abo{w w5 w6 w7 w8:World}{q:Int}{x y:Nd}{e:Ending}(h0:Below w.heap.size w w5)(hN:bz w5 (w.heap.size+3) y)(hn:(gA y).Nodup)(hy:aL y=x)(he:e= .returned (.tuple #[vC q y,.int .i64 0,.int .i64 0]))(h3:aM w7 w8 (w.heap.size+1+1))(h2:aM w6 w7 (w.heap.size+1))(h1:aM w5 w6 w.heap.size):sX (.ok (q,x)) w e w8:=
 ⟨yI h0 h3 h2 h1 h0.size,y,hy,he,hN.yI h3 h2 h1,hn⟩
theorem abp{w w5 w6 w7 w8:World}{er:Int}{e:Ending}(h0:Below w.heap.size w w5)(he:e= .returned (.tuple #[.agg #[.int .i64 0,.int .i64 0,.int .i64 0,.int .i64 0,.string ⟨#[]⟩,.int .i64 0,.slice none 0 0],.int .i64 er,.int .i64 0]))(h3:aM w7 w8 (w.heap.size+1+1))(h2:aM w6 w7 (w.heap.size+1))(h1:aM w5 w6 w.heap.size):sX (.error (er,0)) w e w8:=
 ⟨yI h0 h3 h2 h1 h0.size,he⟩
theorem Oq(af q:Int)(x:Nd):bF af q (aL x)=bF af q x:=by unfold bF;rw[Wz]
theorem aag{af q:Int}{s:Tx}{l:List Tok}{x:Nd}(h:aH af=true)(hl:s.length<=262144)(hc:jR af (lex 0 s)= .ok ((q,x),l))(h0:bF af q x=0)(w:World)(g:Gl w):Calls prog 82 #[.int .i64 af,.string (tx s)] w (sX (cM af s) w):=by
 rw[afA h hl hc h0];have KN:=hid (fun w=>xE af w);have TK:=hid (Hq s hl (uA w));have HA:=hid h;have hsz:(tx s).size=s.length:=aP s;have HS:=hid hl;have HC:=hid hc;have HG:=hid g;generalize hu:tx s=u at*;have z:decide ((262144:Int)<(u.size:Int))=false:=by simp;omega
 have hm2:u.size<=9223372036854775807:=by omega
 obtain⟨er,tL⟩: ∃er,bF af q x=er:=⟨_,rfl⟩;have HE:=hid tL;rw[tL]at h0;have z0:(er==0)=true:=by simpa using h0
 have gg:=z0;clear h hsz hl hc g tL;have ye: ∀(fn:Fn) (first cap:Array Value) (w:World),(api fn first cap).run prog w= .ok (.func fn first cap) w:=fun _ _ _ _=>rfl
 go_enter_defers func82,ntmps82
 go_wp2_with (first|(go_at_call 142;refine(KN.out _).mono ?_;rintro e w' ⟨rfl,rfl⟩;rw[HA.out])|fail)
 refine TK.out.mono ?_;rintro e w2 ⟨a,c,rfl,hO,E2⟩;subst hu;have A6:=E2.size;have RC:=hid (Kv (cJ.new (af:=af) (Own.mono hO (apj _)) HS.out ((HG.out.below (xz w)).below E2)));have E2:=hid E2;clear hO;go_wp2_with fail;refine RC.out.mono ?_;rintro e w4 h;obtain⟨k1,-, ⟨y,hy,rfl,cL,iR⟩,R3,S3⟩:=h.fP (show _=ape ((q,x),l) by rw[aoY];exact HC.out);have S:St (uA w) w4 w2.heap.size:=(aX E2.out).trans ((aX (al w2 (EU af s a (lex 0 s).length c))).trans S3);have hrb:w.heap.size+2<w2.heap.size:=by simp at A6;omega
 have nU:=S3.grown.size;obtain⟨v1,v2,v3,f1,f2,f3⟩:=LL S hrb;have cL:=cL.mono (B':=w.heap.size+3) (by simp;omega);have IL:=f1 0;have IP:=f2 0;have IU:=f3 0;have p0:=v1.get 0 _ rfl;have p1:=v1.get 1 _ rfl;have p2:=v1.get 2 _ rfl;have p3:=v1.get 3 _ rfl;have p4:=v1.get 4 _ rfl;have p5:=v1.get 5 _ rfl;have p6:=v1.get 6 _ rfl;have hne:w2.heap.size≠w.heap.size:=by omega
 have B4:Below w.heap.size w w4:=(xz w).grown S.grown (by simp;omega) (fun r hr=>by simp at hr;omega);clear h S3 R3 S;have acH:w.heap.size+3<=w4.heap.size:=by simp at nU;omega
 have I5:=cL.kept (w':=pC w4 w.heap.size q y) (aM.grown (b:=w.heap.size) (by(repeat with_reducible refine aM.put ?_ _ _);exact aM.refl _ _)) (fun b hb e=>by have:=(cL.lt b hb).1;simp at e;omega);have PG:w4.grownBy (pC w4 w.heap.size q y) (aos w.heap.size):=aM.grown (by(repeat with_reducible refine aM.put ?_ _ _);exact aM.refl _ _);unfold pC at I5 PG;have g2:=PG.cell v2 (by simp);have g3:=PG.cell v3 (by simp;omega);have B4:=B4.grown PG (by omega) (fun r hr=>by simp at hr;omega);have bx:=((((((v1.set 0 (.int .i64 q)).set 1 (.int .i64 y.kind)).set 2 (.int .i64 y.th.thread)).set 3 (.int .i64 y.th.au)).set 4 (.string (tx y.th.loc))).set 5 (.int .i64 y.val)).set 6 (.slice y.a y.kids.length y.c);have F1:=hid f1;have F2:=hid f2;have F3:=hid f3;have kn: ∀a:Nat,a<w.heap.size+3->a<(pC w4 w.heap.size q y).heap.size:=fun a h=>by simp;omega
 unfold pC at kn;have bx:=hid bx;have g2:=hid g2;have g3:=hid g3;have kn:=hid kn;have hy:=hid hy;have iR:=hid iR;clear PG v2 v3;have CK:=hid (Ah af q y _ I5.vO);rw[<-Oq,hy.out,HE.out]at CK;have I5:=hid I5;have B4:=hid B4;clear cL v1;go_wp2_with fail;refine CK.out.mono ?_;rintro e w5 ⟨rfl,E5⟩;have d2:=(E5.cell (p:=⟨w.heap.size+1,0,none⟩) (kn.out (w.heap.size+1) (by omega))).trans g2.out;have d3:=(E5.cell (p:=⟨w.heap.size+1+1,0,none⟩) (kn.out (w.heap.size+1+1) (by omega))).trans g3.out;have h10: ∀j,w5.frozen? ⟨w.heap.size,j,none⟩=false:=fun j=>by rw[E5.frozen (p:=⟨w.heap.size,j,none⟩) (kn.out (w.heap.size) (by omega))];simp only[aph];exact F1.out j
 have h20: ∀j,w5.frozen? ⟨w.heap.size+1,j,none⟩=false:=fun j=>by rw[E5.frozen (p:=⟨w.heap.size+1,j,none⟩) (kn.out (w.heap.size+1) (by omega))];simp only[aph];exact F2.out j
 have h30: ∀j,w5.frozen? ⟨w.heap.size+1+1,j,none⟩=false:=fun j=>by rw[E5.frozen (p:=⟨w.heap.size+1+1,j,none⟩) (kn.out (w.heap.size+1+1) (by omega))];simp only[aph];exact F3.out j
 have b5:=bx.out.below E5;have q0:=b5.get 0 _ rfl;have q1:=b5.get 1 _ rfl;have q2:=b5.get 2 _ rfl;have q3:=b5.get 3 _ rfl;have q4:=b5.get 4 _ rfl;have q5:=b5.get 5 _ rfl;have q6:=b5.get 6 _ rfl;have I6:=hid (I5.out.keep E5);have B5:=hid (B4.out.trans (E5.mono B4.out.size));clear f1 f2 f3 E5 b5 p0 p1 p2 p3 p4 p5 p6 IL IP IU;go_wp2_with fail;refine leaves_cons (f:=156) (args:=#[.pointer (some ⟨w.heap.size,0,none⟩),.pointer (some ⟨w.heap.size+1,0,none⟩),.pointer (some ⟨w.heap.size+1+1,0,none⟩)]) (by simp) (by simp[go_sem]) ?_;refine(OS ⟨w.heap.size,0,none⟩ ⟨w.heap.size+1,0,none⟩ ⟨w.heap.size+1+1,0,none⟩ _).mono ?_;rintro e u' w6 ⟨rfl,rfl,rfl⟩;refine⟨.tuple #[vC q y,.int .i64 0,.int .i64 0],by simp[results,results82,go_sem,q0,q1,q2,q3,q4,q5,q6,d2,d3],?_⟩;exact abo B5.out I6.out iR.out hy.out rfl ((aM.refl _ _).put 0 _) ((aM.refl _ _).put 0 _) ((((((((aM.refl _ _).put 0 _).put 1 _).put 2 _).put 3 _).put 4 _).put 5 _).put 6 _)
theorem aah{af q:Int}{s:Tx}{l:List Tok}{x:Nd}(h:aH af=true)(hl:s.length<=262144)(hc:jR af (lex 0 s)= .ok ((q,x),l))(h0:bF af q x≠0)(w:World)(g:Gl w):Calls prog 82 #[.int .i64 af,.string (tx s)] w (sX (cM af s) w):=by
 rw[afB h hl hc h0];have KN:=hid (fun w=>xE af w);have TK:=hid (Hq s hl (uA w));have HA:=hid h;have hsz:(tx s).size=s.length:=aP s;have HS:=hid hl;have HC:=hid hc;have HG:=hid g;generalize hu:tx s=u at*;have z:decide ((262144:Int)<(u.size:Int))=false:=by simp;omega
 have hm2:u.size<=9223372036854775807:=by omega
 obtain⟨er,tL⟩: ∃er,bF af q x=er:=⟨_,rfl⟩;have HE:=hid tL;rw[tL]at h0;have z0:(er != 0)=true:=by simpa using h0
 rw[tL];clear h hsz hl hc g tL;have ye: ∀(fn:Fn) (first cap:Array Value) (w:World),(api fn first cap).run prog w= .ok (.func fn first cap) w:=fun _ _ _ _=>rfl
 go_enter_defers func82,ntmps82
 go_wp2_with (first|(go_at_call 142;refine(KN.out _).mono ?_;rintro e w' ⟨rfl,rfl⟩;rw[HA.out])|fail)
 refine TK.out.mono ?_;rintro e w2 ⟨a,c,rfl,hO,E2⟩;subst hu;have A6:=E2.size;have RC:=hid (Kv (cJ.new (af:=af) (Own.mono hO (apj _)) HS.out ((HG.out.below (xz w)).below E2)));have E2:=hid E2;clear hO;go_wp2_with fail;refine RC.out.mono ?_;rintro e w4 h;obtain⟨k1,-, ⟨y,hy,rfl,cL,iR⟩,R3,S3⟩:=h.fP (show _=ape ((q,x),l) by rw[aoY];exact HC.out);have S:St (uA w) w4 w2.heap.size:=(aX E2.out).trans ((aX (al w2 (EU af s a (lex 0 s).length c))).trans S3);have hrb:w.heap.size+2<w2.heap.size:=by simp at A6;omega
 have nU:=S3.grown.size;obtain⟨v1,v2,v3,f1,f2,f3⟩:=LL S hrb;have cL:=cL.mono (B':=w.heap.size+3) (by simp;omega);have IL:=f1 0;have IP:=f2 0;have IU:=f3 0;have p0:=v1.get 0 _ rfl;have p1:=v1.get 1 _ rfl;have p2:=v1.get 2 _ rfl;have p3:=v1.get 3 _ rfl;have p4:=v1.get 4 _ rfl;have p5:=v1.get 5 _ rfl;have p6:=v1.get 6 _ rfl;have hne:w2.heap.size≠w.heap.size:=by omega
 have B4:Below w.heap.size w w4:=(xz w).grown S.grown (by simp;omega) (fun r hr=>by simp at hr;omega);clear h S3 R3 S;have acH:w.heap.size+3<=w4.heap.size:=by simp at nU;omega
 have I5:=cL.kept (w':=pC w4 w.heap.size q y) (aM.grown (b:=w.heap.size) (by(repeat with_reducible refine aM.put ?_ _ _);exact aM.refl _ _)) (fun b hb e=>by have:=(cL.lt b hb).1;simp at e;omega);have PG:w4.grownBy (pC w4 w.heap.size q y) (aos w.heap.size):=aM.grown (by(repeat with_reducible refine aM.put ?_ _ _);exact aM.refl _ _);unfold pC at I5 PG;have g2:=PG.cell v2 (by simp);have g3:=PG.cell v3 (by simp;omega);have B4:=B4.grown PG (by omega) (fun r hr=>by simp at hr;omega);have bx:=((((((v1.set 0 (.int .i64 q)).set 1 (.int .i64 y.kind)).set 2 (.int .i64 y.th.thread)).set 3 (.int .i64 y.th.au)).set 4 (.string (tx y.th.loc))).set 5 (.int .i64 y.val)).set 6 (.slice y.a y.kids.length y.c);have F1:=hid f1;have F2:=hid f2;have F3:=hid f3;have kn: ∀a:Nat,a<w.heap.size+3->a<(pC w4 w.heap.size q y).heap.size:=fun a h=>by simp;omega
 unfold pC at kn;have bx:=hid bx;have g2:=hid g2;have g3:=hid g3;have kn:=hid kn;have hy:=hid hy;have iR:=hid iR;clear PG v2 v3;have CK:=hid (Ah af q y _ I5.vO);rw[<-Oq,hy.out,HE.out]at CK;have I5:=hid I5;have B4:=hid B4;clear cL v1;go_wp2_with fail;refine CK.out.mono ?_;rintro e w5 ⟨rfl,E5⟩;have d2:=(E5.cell (p:=⟨w.heap.size+1,0,none⟩) (kn.out (w.heap.size+1) (by omega))).trans g2.out;have d3:=(E5.cell (p:=⟨w.heap.size+1+1,0,none⟩) (kn.out (w.heap.size+1+1) (by omega))).trans g3.out;have h10: ∀j,w5.frozen? ⟨w.heap.size,j,none⟩=false:=fun j=>by rw[E5.frozen (p:=⟨w.heap.size,j,none⟩) (kn.out (w.heap.size) (by omega))];simp only[aph];exact F1.out j
 have h20: ∀j,w5.frozen? ⟨w.heap.size+1,j,none⟩=false:=fun j=>by rw[E5.frozen (p:=⟨w.heap.size+1,j,none⟩) (kn.out (w.heap.size+1) (by omega))];simp only[aph];exact F2.out j
 have h30: ∀j,w5.frozen? ⟨w.heap.size+1+1,j,none⟩=false:=fun j=>by rw[E5.frozen (p:=⟨w.heap.size+1+1,j,none⟩) (kn.out (w.heap.size+1+1) (by omega))];simp only[aph];exact F3.out j
 have b5:=bx.out.below E5;have q0:=b5.get 0 _ rfl;have q1:=b5.get 1 _ rfl;have q2:=b5.get 2 _ rfl;have q3:=b5.get 3 _ rfl;have q4:=b5.get 4 _ rfl;have q5:=b5.get 5 _ rfl;have q6:=b5.get 6 _ rfl;have I6:=hid (I5.out.keep E5);have B5:=hid (B4.out.trans (E5.mono B4.out.size));clear f1 f2 f3 E5 b5 p0 p1 p2 p3 p4 p5 p6 IL IP IU;go_wp2_with fail;refine leaves_cons (f:=156) (args:=#[.pointer (some ⟨w.heap.size,0,none⟩),.pointer (some ⟨w.heap.size+1,0,none⟩),.pointer (some ⟨w.heap.size+1+1,0,none⟩)]) (by simp) (by simp[go_sem]) ?_;refine(OS ⟨w.heap.size,0,none⟩ ⟨w.heap.size+1,0,none⟩ ⟨w.heap.size+1+1,0,none⟩ _).mono ?_;rintro e u' w6 ⟨rfl,rfl,rfl⟩;refine⟨.tuple #[.agg #[.int .i64 0,.int .i64 0,.int .i64 0,.int .i64 0,.string ⟨#[]⟩,.int .i64 0,.slice none 0 0],.int .i64 er,.int .i64 0],by simp[results,results82,go_sem,q0,q1,q2,q3,q4,q5,q6,d2,d3],?_⟩;exact abp B5.out rfl ((aM.refl _ _).put 0 _) ((aM.refl _ _).put 0 _) ((((((((aM.refl _ _).put 0 _).put 1 _).put 2 _).put 3 _).put 4 _).put 5 _).put 6 _)
theorem aac{af:Int}{s:Tx}(hm:s.length<=9223372036854775807)(w:World)(g:Gl w):Calls prog 82 #[.int .i64 af,.string (tx s)] w (sX (cM af s) w):=by
 cases h:aH af with
 |false=>exact aad h w
 | true=>
   rcases Nat.lt_or_ge 262144 s.length with hl|hl
   ·exact aae h hl hm w
   ·cases hc:jR af (lex 0 s)with
    |error l=>exact aaf h hl hc w g
    | ok p=>
      obtain⟨⟨q,x⟩,l⟩:=p
      by_cases h0:bF af q x=0
      ·exact aag h hl hc h0 w g
      ·exact aah h hl hc h0 w g
end Go.Proofs.YtkbbgjloifmmbaaGreatDoor

/- What ReadPiecesP leans on, part 20. -/
import Derived.Test.YtkbbgjloifmmbaaGreatDoorRp19
import Derived.Test.YtkbbgjloifmmbaaGreatDoorRp16
set_option linter.unusedVariables false
set_option maxRecDepth 100000
set_option maxHeartbeats 12800000
namespace Go.Proofs.YtkbbgjloifmmbaaGreatDoor
open Go.RowKit Go.Sort
abbrev vTd(N:Nat)(l:List Tok):Value:=vTk (kindT (headS l)) (headS l) (stopAt N l) (nextT N l)
theorem ret_tk{w:World}{k:Nat}{u:Tx}{p q:Nat}{e:Ending}{w':World}{N:Nat}{l:List Tok}(h:Ret w (vTk k u p q) e w')(h1:kindT (headS l)=k)(h2:headS l=u)(h3:stopAt N l=p)(h4:nextT N l=q):Ret w (vTd N l) e w':=by
 subst h1 h2 h3 h4;exact h
theorem r08Tok{s:Tx}(hl:s.length<=262144){i:Nat}(hi:i<=s.length)(w:World):Calls Tryz.prog 119 #[.string (tx s),.int .i64 i] w (Ret w (vTd s.length (lex i (s.drop i)))):=by
 obtain⟨j,h1,h2,h3,h4,h5⟩:=lex_skip s _ i (Nat.le_refl _) hi;rw[h5];rcases Nat.lt_or_ge j s.length with hlt|hge
 ·obtain⟨c,hc⟩: ∃c,s[j]? =some c:=⟨_,List.getElem?_eq_getElem hlt⟩
  have hcb:=h4 c hc;obtain⟨t1,t2,t3,t4⟩:=tok_some hc hcb
  by_cases hlc:letterC c=true
  ·obtain⟨q,q1,q2,q3,q4,q5⟩:=run_to nameC s _ (j+1) (Nat.le_refl _) hlt
   have e:=long_word hc hlc q5 q1;rw[if_pos hlc]at t4;rw[e]at t2 t3;exact(r08Tok_word hl h1 h2 h3 hc hcb hlc q1 q2 q3 q4 w).mono fun e w' h=>ret_tk h t4 t3 t1 t2
  ·rw[if_neg hlc]at t4
   have hlc:letterC c=false:=by simpa using hlc
   by_cases hdc:digitC c=true
   ·obtain⟨q,q1,q2,q3,q4,q5⟩:=run_to digitC s _ (j+1) (Nat.le_refl _) hlt
    have e:=long_num hc hlc (by rw[hdc];rfl) q5 q1;rw[if_pos (by rw[hdc];rfl)]at t4;rw[e]at t2 t3;exact(r08Tok_num hl h1 h2 h3 hc hcb hlc hdc q1 q2 q3 q4 w).mono fun e w' h=>ret_tk h t4 t3 t1 t2
   ·have hdc:digitC c=false:=by simpa using hdc
    have b45:((c.toNat:Int)==45)=(c==45):=byte_eq (x:=c) 45 (by decide);have b47:((c.toNat:Int)==47)=(c==47):=byte_eq (x:=c) 47 (by decide);have b92:((c.toNat:Int)==92)=(c==92):=byte_eq (x:=c) 92 (by decide)
    by_cases hn:(c==45&&((s[j+1]?).any digitC))=true
    ·obtain⟨q,q1,q2,q3,q4,q5⟩:=run_to digitC s _ (j+1) (Nat.le_refl _) hlt
     have e:=long_num hc hlc (by rw[hn];simp) q5 q1;rw[if_pos (by rw[hn];simp)]at t4;rw[e]at t2 t3;simp only[Bool.and_eq_true]at hn
     have hj1:j+1<q:=by
      rcases Nat.lt_or_ge (j+1) q with h|h
      ·exact h
      ·have e1:q=j+1:=by omega
       subst e1;cases hd:s[j+1]? with
       |none=>rw[hd]at hn;exact absurd hn.2 (by simp)
       |some d=>rw[hd]at hn;have:=q4 d hd;simp only[Option.any_some]at hn;rw[hn.2]at this;cases this
     exact(r08Tok_neg hl h1 h2 h3 hc hcb hlc hdc (by rw[b45];exact hn.1) q1 q2 q3 q4 hj1 w).mono fun e w' h=>ret_tk h t4 t3 t1 t2
    ·have hn:(c==45&&((s[j+1]?).any digitC))=false:=by simpa using hn
     have hn2:(digitC c||(c==45&&((s[j+1]?).any digitC)))=false:=by rw[hdc,hn];rfl
     rw[if_neg (by rw[hn2];decide)]at t4;have e:=long_sign hc hlc hn2;rw[e]at t2 t3;cases hd:s[j+1]? with
     | none=>
       have hend:j+1=s.length:=by have:=List.getElem?_eq_none_iff.1 hd;omega
       rw[hd]at t2 t3;rw[if_neg (by simp)]at t2 t3;exact(r08Tok_s0 hl h1 h2 h3 hc hcb hlc hdc hend w).mono fun e w' h=>ret_tk h t4 t3 t1 t2
     | some d=>
       have d92:((d.toNat:Int)==92)=(d==92):=byte_eq (x:=d) 92 (by decide);have d47:((d.toNat:Int)==47)=(d==47):=byte_eq (x:=d) 47 (by decide);rw[hd]at t2 t3 hn;simp only[Option.any_some]at hn
       by_cases h45:c=45
       ·subst h45
        rw[if_neg (by simp)]at t2 t3;exact(r08Tok_s1 hl h1 h2 h3 hc hcb hlc hdc (by decide) hd (by simpa using hn) (by decide) (by decide) w).mono fun e w' h=>ret_tk h t4 t3 t1 t2
       ·have n45:((c.toNat:Int)==45)=false:=by rw[b45];simpa using h45
        by_cases h47:c=47
        ·subst h47
         by_cases h9:d=92
         ·subst h9
          rw[if_pos (by decide)]at t2 t3;exact(r08Tok_s3 hl h1 h2 h3 hc hcb hlc hdc n45 hd (by decide) (by decide) w).mono fun e w' h=>ret_tk h t4 t3 t1 t2
         ·rw[if_neg (by simp[h9])]at t2 t3
          exact(r08Tok_s4 hl h1 h2 h3 hc hcb hlc hdc n45 hd (by decide) (by rw[d92];simpa using h9) (by decide) w).mono fun e w' h=>ret_tk h t4 t3 t1 t2
        ·by_cases h92:c=92
         ·subst h92
          by_cases h9:d=47
          ·subst h9
           rw[if_pos (by decide)]at t2 t3;exact(r08Tok_s5 hl h1 h2 h3 hc hcb hlc hdc n45 hd (by decide) (by decide) (by decide) w).mono fun e w' h=>ret_tk h t4 t3 t1 t2
          ·rw[if_neg (by simp[h9])]at t2 t3
           exact(r08Tok_s6 hl h1 h2 h3 hc hcb hlc hdc n45 hd (by decide) (by decide) (by rw[d47];simpa using h9) w).mono fun e w' h=>ret_tk h t4 t3 t1 t2
         ·rw[if_neg (by simp[h47,h92])]at t2 t3
          exact(r08Tok_s2 hl h1 h2 h3 hc hcb hlc hdc n45 hd (by rw[b47];simpa using h47) (by rw[b92];simpa using h92) w).mono fun e w' h=>ret_tk h t4 t3 t1 t2
 ·have he:j=s.length:=by omega
  obtain⟨⟨t1,t2,t3,t4⟩,t5⟩:=tok_none (S:=s) hge h2;exact(r08Tok_end hl h1 h2 h3 he w).mono fun e w' h=>ret_tk h t4 t5 t1 t2
abbrev rdD(arch:Int)(S:Tx)(l:List Tok)(b:Int):List Value:=[.int .i64 arch,.string (tx S),.int .i64 (kindT (headS l)),.string (tx (headS l)),.int .i64 (stopAt S.length l),.int .i64 (nextT S.length l),.int .i64 b]
structure Rdd(w:World)(B rb:Nat)(arch:Int)(S:Tx)(l:List Tok)(b:Int):Prop where
 own:Own w B 189 7 (Option.some ⟨rb,0,none⟩) 1 1 (rdD arch S l b)
 lx:Lx S l
 sl:S.length<=262144
section
variable {w w1:World} {B rb:Nat} {arch:Int} {S:Tx} {l:List Tok} {b:Int}
structure RdCells(w:World)(rb:Nat)(arch:Int)(S:Tx)(l:List Tok)(b:Int):Prop where
 c0:w.cell? ⟨rb,0,none⟩=Option.some (.int .i64 arch)
 c1:w.cell? ⟨rb,1,none⟩=Option.some (.string (tx S))
 c2:w.cell? ⟨rb,2,none⟩=Option.some (.int .i64 (kindT (headS l)))
 c3:w.cell? ⟨rb,3,none⟩=Option.some (.string (tx (headS l)))
 c4:w.cell? ⟨rb,4,none⟩=Option.some (.int .i64 (stopAt S.length l))
 c5:w.cell? ⟨rb,5,none⟩=Option.some (.int .i64 (nextT S.length l))
 c6:w.cell? ⟨rb,6,none⟩=Option.some (.int .i64 b)
 fz: ∀j,w.frozen? ⟨rb,j,none⟩=false
 lt:rb<w.heap.size
 ge:B<=rb
theorem Rdd.cells(h:Rdd w B rb arch S l b): @RdCells B w rb arch S l b:=by
 have f:=fun j=>Own.frozen h.own (by simp) j
 have c0:=(Own.row h.own).cell 0 (by simp);have c1:=(Own.row h.own).cell 1 (by simp);have c2:=(Own.row h.own).cell 2 (by simp);have c3:=(Own.row h.own).cell 3 (by simp);have c4:=(Own.row h.own).cell 4 (by simp);have c5:=(Own.row h.own).cell 5 (by simp);have c6:=(Own.row h.own).cell 6 (by simp);have lt:=Own.lt h.own (by simp);simp only[bk_some,fo_some,Nat.zero_add]at f c0 c1 c2 c3 c4 c5 c6 lt;exact⟨c0,c1,c2,c3,c4,c5,c6,f,lt.2,lt.1⟩
theorem Rdd.below(h:Rdd w B rb arch S l b)(hb:Below w.heap.size w w1):Rdd w1 B rb arch S l b:=⟨Own.below h.own hb,h.lx,h.sl⟩
theorem Rdd.grew(h:Rdd w B rb arch S l b){c:Nat}(hg:w.grownBy w1 (Option.some c))(hc:c≠rb):Rdd w1 B rb arch S l b:=
 ⟨Own.kept h.own hg (.inr (by simp;exact fun e=>hc e.symm)),h.lx,h.sl⟩
theorem Rdd.four(h:Rdd w B rb arch S l b){l':List Tok}(hx:Lx S l'):Rdd ((((w.setCell ⟨rb,2,none⟩ (.int .i64 (kindT (headS l')))).setCell ⟨rb,3,none⟩ (.string (tx (headS l')))).setCell ⟨rb,4,none⟩ (.int .i64 (stopAt S.length l'))).setCell ⟨rb,5,none⟩ (.int .i64 (nextT S.length l'))) B rb arch S l' b/\
 St w ((((w.setCell ⟨rb,2,none⟩ (.int .i64 (kindT (headS l')))).setCell ⟨rb,3,none⟩ (.string (tx (headS l')))).setCell ⟨rb,4,none⟩ (.int .i64 (stopAt S.length l'))).setCell ⟨rb,5,none⟩ (.int .i64 (nextT S.length l'))) rb:=by
 obtain⟨o1,s1⟩:=Own.set h.own (by simp) 2 (.int .i64 (kindT (headS l')));obtain⟨o2,s2⟩:=Own.set o1 (by simp) 3 (.string (tx (headS l')));obtain⟨o3,s3⟩:=Own.set o2 (by simp) 4 (.int .i64 (stopAt S.length l'));obtain⟨o4,s4⟩:=Own.set o3 (by simp) 5 (.int .i64 (nextT S.length l'));simp only[bk_some,fo_some,Nat.zero_add]at o4 s1 s2 s3 s4;exact⟨⟨o4,hx,h.sl⟩,((s1.trans s2).trans s3).trans s4⟩
theorem Rdd.bad(h:Rdd w B rb arch S l b)(b':Int):Rdd (w.setCell ⟨rb,6,none⟩ (.int .i64 b')) B rb arch S l b'/\St w (w.setCell ⟨rb,6,none⟩ (.int .i64 b')) rb:=by
 obtain⟨o1,s1⟩:=Own.set h.own (by simp) 6 (.int .i64 b');simp only[bk_some,fo_some,Nat.zero_add]at o1 s1;exact⟨⟨o1,h.lx,h.sl⟩,s1⟩
def RetD{α:Type}(w:World)(B rb:Nat)(arch:Int)(S:Tx)(p:PR α)(V:α->Ending->World->Prop)(J:Ending->Prop)(e:Ending)(w':World):Prop:=
 St w w' rb/\((∃l l',p= .error l/\J e/\Rdd w' B rb arch S l' (stopAt S.length l))\/(∃x r,p= .ok (x,r)/\V x e w'/\Rdd w' B rb arch S r (-1)))
theorem RetD.okay{α:Type}{p:PR α}{V:α->Ending->World->Prop}{J:Ending->Prop}{e:Ending}(h:RetD w B rb arch S p V J e w1){x:α}{r:List Tok}(hp:p= .ok (x,r)):V x e w1/\Rdd w1 B rb arch S r (-1)/\St w w1 rb:=by
 obtain⟨h1,⟨l,l',h2,h3⟩|⟨y,k,h2,h3,h4⟩⟩:=h
 ·rw[hp]at h2;cases h2
 ·rw[hp]at h2;cases h2;exact⟨h3,h4,h1⟩
theorem RetD.err{α:Type}{p:PR α}{V:α->Ending->World->Prop}{J:Ending->Prop}{e:Ending}(h:RetD w B rb arch S p V J e w1){l:List Tok}(hp:p= .error l):J e/\St w w1 rb/\ ∃l',Rdd w1 B rb arch S l' (stopAt S.length l):=by
 obtain⟨h1,⟨l,l',h2,h3,h4⟩|⟨y,k,h2,h3,h4⟩⟩:=h
 ·rw[hp]at h2;cases h2;exact⟨h3,h1,l',h4⟩
 ·rw[hp]at h2;cases h2
end
theorem r08NumR(s:Tx)(w:World):Calls Tryz.prog 116 #[.string (tx s)] w fun e w'=>e= .returned (.tuple #[.int .i64 ((numR s).getD 0),.bool (numR s).isSome])/\w=w':=by
 refine(r08NumberT s w).mono ?_;rintro e w' ⟨rfl,h⟩;refine⟨?_,rfl⟩;rw[numR_numV];cases hv:numV s with
 |none=>rw[hv]at h;exact h
 | some v=>
   rw[hv]at h;simp only[Option.bind_some]at h⊢
   split at h<;>rename_i hq
   ·rw[if_pos hq];exact h
   ·rw[if_neg hq];exact h
theorem gr_put{w w':World}{b:Nat}(h:w.grownBy w' (Option.some b))(j:Nat)(v:Value):w.grownBy (w'.setCell ⟨b,j,none⟩ v) (Option.some b):=
 ⟨h.os,h.tape,h.output,by simpa using h.size,fun k hk hne=>by rw[Below.heap_setCell _ _ _ _ (by simp;exact fun e=>hne (by rw[e]))];exact h.block k hk hne⟩
theorem gr_refl(w:World)(b:Nat):w.grownBy w (Option.some b):=⟨rfl,rfl,rfl,Nat.le_refl _,fun k hk hne=>rfl⟩
theorem frz_below{w w1:World}{b:Nat}(hs:Below w.heap.size w w1)(hb:b<w.heap.size)(k:Nat):w1.frozen? ⟨b,k,none⟩=w.frozen? ⟨b,k,none⟩:=by
 unfold World.frozen?;rw[hs.block b hb]
def JT(e:Ending):Prop:= ∃t:Th,e= .returned (vTh t)/\t.loc.length<=262144
structure ThD(w wx:World)(B rb:Nat)(arch:Int)(S:Tx)(l:List Tok)(b:Int):Prop where
 rd:Rdd wx B rb arch S l b
 st:St ((w.alloc zT0).alloc zT0) wx rb
 hr:rb<w.heap.size
section
variable {w wx wy:World} {B rb:Nat} {arch:Int} {S:Tx} {l l':List Tok} {b b':Int}
theorem ThD.new(R:Rdd w B rb arch S l b):ThD w ((w.alloc zT0).alloc zT0) B rb arch S l b:=
 ⟨(R.below (al _ _)).below (al _ _),St.refl _ _,R.cells.lt⟩
theorem ThD.step(h:ThD w wx B rb arch S l b)(hs:St wx wy rb)(hr:Rdd wy B rb arch S l' b'):ThD w wy B rb arch S l' b':=⟨hr,h.st.trans hs,h.hr⟩
theorem ThD.below(h:ThD w wx B rb arch S l b)(hb:Below wx.heap.size wx wy):ThD w wy B rb arch S l b:=⟨h.rd.below hb,h.st.trans (step_below hb),h.hr⟩
structure ThF(w wx:World):Prop where
 p0:wx.cell? ⟨w.heap.size,0,none⟩=Option.some (.int .i64 0)
 p1:wx.cell? ⟨w.heap.size,1,none⟩=Option.some (.int .i64 0)
 p2:wx.cell? ⟨w.heap.size,2,none⟩=Option.some (.string ⟨#[]⟩)
 q0:wx.cell? ⟨w.heap.size+1,0,none⟩=Option.some (.int .i64 0)
 q1:wx.cell? ⟨w.heap.size+1,1,none⟩=Option.some (.int .i64 0)
 q2:wx.cell? ⟨w.heap.size+1,2,none⟩=Option.some (.string ⟨#[]⟩)
 f1: ∀j,wx.frozen? ⟨w.heap.size,j,none⟩=false
 f2: ∀j,wx.frozen? ⟨w.heap.size+1,j,none⟩=false
 sz:w.heap.size+2<=wx.heap.size
theorem ThD.vars(h:ThD w wx B rb arch S l b):ThF w wx:=by
 have hr:=h.hr;have e1:(w.alloc zT0).heap.size=w.heap.size+1:=by simp
 have a:=(((BxL.new w #[.int .i64 0,.int .i64 0,.string ⟨#[]⟩] 25).below (al _ zT0)).step h.st (by omega));have c:=((BxL.new (w.alloc zT0) #[.int .i64 0,.int .i64 0,.string ⟨#[]⟩] 25).step h.st (by omega));rw[e1]at c;have hz:=h.st.grown.size;refine⟨a.get 0 _ rfl,a.get 1 _ rfl,a.get 2 _ rfl,c.get 0 _ rfl,c.get 1 _ rfl,c.get 2 _ rfl,fun j=>?_,fun j=>?_,by simp at hz;omega⟩
 ·rw[frz_step h.st (by simp;omega) (by omega) j]
  rw[frz_below (w:=w.alloc zT0) (al _ _) (by simp) j];exact frz_new w _ _ j
 ·rw[frz_step h.st (by simp) (by omega) j,<-e1];exact frz_new (w.alloc zT0) _ _ j
theorem ThD.fin(h:ThD w wx B rb arch S l b)(hg:wx.grownBy wy (Option.some w.heap.size)):St w wy rb/\Rdd wy B rb arch S l b:=by
 have hr:=h.hr;refine⟨⟨⟨?_,?_,?_,?_,fun k hk hne=>?_⟩,.inl rfl⟩,h.rd.grew hg (by omega)⟩
 all_goals have h1:=((St.new (St.new (St.refl w rb) zT0) zT0).trans h.st).grown
 ·exact hg.os.trans h1.os
 ·exact hg.tape.trans h1.tape
 ·exact hg.output.trans h1.output
 ·exact Nat.le_trans h1.size hg.size
 ·rw[hg.block k (Nat.lt_of_lt_of_le hk h1.size) (by simp;omega)];exact h1.block k hk hne
theorem ThD.err{l0:List Tok}{e:Ending}(h:ThD w wx B rb arch S l (stopAt S.length l0))(hg:wx.grownBy wy (Option.some w.heap.size))(hj:JT e):RetD w B rb arch S (.error l0) VT JT e wy:=
 ⟨(h.fin hg).1,.inl ⟨_,_,rfl,hj,(h.fin hg).2⟩⟩
theorem ThD.okay{e:Ending}{t:Th}(h:ThD w wx B rb arch S l (-1))(hg:wx.grownBy wy (Option.some w.heap.size))(he:e= .returned (vTh t))(ht:t.loc.length<=262144):RetD w B rb arch S (.ok (t,l)) VT JT e wy:=
 ⟨(h.fin hg).1,.inr ⟨_,_,rfl,⟨he,ht⟩,(h.fin hg).2⟩⟩
section
variable (R:Rdd w B rb arch S l (-1))
include R
end
end
theorem regOfA_1(s:Tx):regOfA 1 s=regOfX s:=by
 unfold regOfA regOfX regsN regA;simp
theorem regOfA_2(s:Tx):regOfA 2 s=regOf s:=by
 unfold regOfA regOf regsN regA;simp
def RetReg(o:Option Nat)(w:World)(e:Ending)(w':World):Prop:= ∃(k:Nat) (ok:Bool),e= .returned (.tuple #[.int .i64 k,.bool ok])/\OptV o k ok/\w=w'
theorem arch_two{arch:Int}(h:archB arch=true):arch=1\/arch=2:=by
 unfold archB at h;simpa using h
theorem readRegister(arch:Int)(ha:archB arch=true)(s:Tx)(w:World)(g:Gl w):Calls Tryz.prog 112 #[.int .i64 arch,.string (tx s)] w (RetReg (regOfA arch s) w):=by
 rcases arch_two ha with rfl|rfl
 ·rw[regOfA_1]
  have RO:=hid (intelRegOf s w g);clear ha g;cases hr:regOfX s with
  | none=>
    rw[hr]at RO;have RO:=hid (show Calls Tryz.prog _ _ w (fun e w'=>e= .returned (.tuple #[.int .i64 0,.int .i64 90])/\w=w')from RO.out);clear hr;go_enter Tryz.func112,Tryz.ntmps112
    go_wp2_with (go_at_call 176;refine RO.out.mono ?_;rintro e w' ⟨rfl,rfl⟩)
    go_ret2
    exact⟨0,false,rfl,rfl,rfl⟩
  | some k=>
    rw[hr]at RO;have RO:=hid (show Calls Tryz.prog _ _ w (fun e w'=>e= .returned (.tuple #[.int .i64 k,.int .i64 0])/\w=w')from RO.out);clear hr;go_enter Tryz.func112,Tryz.ntmps112
    go_wp2_with (go_at_call 176;refine RO.out.mono ?_;rintro e w' ⟨rfl,rfl⟩)
    go_ret2
    exact⟨k,true,rfl,rfl,rfl⟩
 ·rw[regOfA_2]
  have RO:=hid (progRegOf s w);clear ha g;unfold regN regE at RO;cases hr:regOf s with
  | none=>
    rw[hr]at RO;have RO:=hid (show Calls Tryz.prog _ _ w (fun e w'=>e= .returned (.tuple #[.int .i64 0,.int .i64 90])/\w=w')from RO.out);clear hr;go_enter Tryz.func112,Tryz.ntmps112
    go_wp2_with (go_at_call 197;refine RO.out.mono ?_;rintro e w' ⟨rfl,rfl⟩)
    go_ret2
    exact⟨0,false,rfl,rfl,rfl⟩
  | some k=>
    rw[hr]at RO;have RO:=hid (show Calls Tryz.prog _ _ w (fun e w'=>e= .returned (.tuple #[.int .i64 k,.int .i64 0])/\w=w')from RO.out);clear hr;go_enter Tryz.func112,Tryz.ntmps112
    go_wp2_with (go_at_call 197;refine RO.out.mono ?_;rintro e w' ⟨rfl,rfl⟩)
    go_ret2
    exact⟨k,true,rfl,rfl,rfl⟩
abbrev zIn:Obj:=.cells #[.int .i64 0,.int .i64 0,.string ⟨#[]⟩,.string ⟨#[]⟩,.int .i64 0] 56
theorem fresh5{w w1:World}(E:Below (w.alloc zIn).heap.size (w.alloc zIn) w1):(w1.cell? ⟨w.heap.size,0,none⟩=some (.int .i64 0)/\w1.cell? ⟨w.heap.size,1,none⟩=some (.int .i64 0)/\w1.cell? ⟨w.heap.size,2,none⟩=some (.string ⟨#[]⟩)/\w1.cell? ⟨w.heap.size,3,none⟩=some (.string ⟨#[]⟩)/\w1.cell? ⟨w.heap.size,4,none⟩=some (.int .i64 0))/\(∀j,w1.frozen? ⟨w.heap.size,j,none⟩=false)/\w.heap.size<w1.heap.size/\Below w.heap.size w w1:=by
 have b0:=(BxL.new w #[.int .i64 0,.int .i64 0,.string ⟨#[]⟩,.string ⟨#[]⟩,.int .i64 0] 56).below E;refine⟨⟨b0.get 0 _ rfl,b0.get 1 _ rfl,b0.get 2 _ rfl,b0.get 3 _ rfl,b0.get 4 _ rfl⟩,fun j=>(frz_below E (b:=w.heap.size) (by simp) j).trans (frz_new w _ _ j),?_,(al w zIn).trans (E.mono (by simp))⟩;have:=E.size;simp at this;omega
theorem put_below'{w w1 w2:World}(E:Below w.heap.size w w1)(hg:w1.grownBy w2 (Option.some w.heap.size)):Below w.heap.size w w2:=E.grown hg E.size (fun r hr=>by simp at hr;omega)
def RetIn(o:Option Ini)(w:World)(e:Ending)(w':World):Prop:= ∃(x:Ini) (ok:Bool),e= .returned (.tuple #[vIni x,.bool ok])/\OptV o x ok/\Below w.heap.size w w'
theorem thing_sq{arch:Int}{s m:Tx}(e:s=91::(m++[93])):OptV (thingI arch s) ⟨-1,0,trimT m,[],0⟩ (nameB (trimT m)):=by
 have e2:(s.drop 1).dropLast=m:=by rw[e];simp
 unfold OptV thingI;rw[e2,if_pos ⟨by rw[e];rfl,by rw[e];exact last_cm _ _ _,by rw[e];simp⟩]
theorem thing_nm{arch:Int}{s:Tx}(h: ¬(s.head?=some 91/\s.getLast?=some 93))(h2:(58:UInt8)∉s):OptV (thingI arch s) ⟨-1,0,s,[],0⟩ (nameB s):=by
 unfold OptV thingI;rw[if_neg (fun hh=>h ⟨hh.1,hh.2.1⟩),if_neg h2]
theorem thing_rg{arch:Int}{s:Tx}{n:Int}{k:Nat}{b1 b2:Bool}(h: ¬(s.head?=some 91/\s.getLast?=some 93))(h2:(58:UInt8)∈s)(h3:OptV (numR (trimT (s.takeWhile (· != 58)))) n b1)(h4:OptV (regOfA arch (trimT ((s.dropWhile (· != 58)).drop 1))) k b2):
 OptV (thingI arch s) ⟨n,k,[],[],0⟩ (b1&&(b2&&(decide (0<=n)&&decide (n<16)))):=by
 unfold OptV at*;unfold thingI;rw[if_neg (fun hh=>h ⟨hh.1,hh.2.1⟩),if_pos h2,h3,h4];cases b1<;>cases b2<;>simp
theorem readThingR(arch:Int)(ha:archB arch=true)(s:Tx)(hl:s.length<=262144)(w:World)(g:Gl w):Calls Tryz.prog 49 #[.int .i64 arch,.string (tx s)] w (RetIn (thingI arch s) w):=by
 have hsz:=tx_size s;have P1:=hid (fun w=>run_prefix s [91] w);rw[pre_one]at P1;have P2:=hid (fun w=>suffix_any s 93 (by omega) w);have g0:=g.below (al w zIn)
 by_cases h1:s.head?=some 91/\s.getLast?=some 93
 ·obtain⟨m,e⟩: ∃m,s=91::(m++[93]):=by
   cases s with
   |nil=>cases h1.1
   | cons c r=>
     obtain rfl:c=91:=by simpa using h1.1
     cases r with
     |nil=>exact absurd h1.2 (by decide)
     | cons d r=>
       have h2:(d::r).getLast?=some 93:=by simpa using h1.2
       obtain⟨m,hm⟩:=last_iff.1 h2;exact⟨m,by rw[hm]⟩
  subst e;obtain⟨n,hn⟩: ∃n,(tx (91::(m++[93]))).size=n:=⟨_,rfl⟩;have hnl:n=m.length+2:=by rw[<-hn,hsz];simp
  have hml:m.length<=262144:=by simp at hl;omega
  have sl:=run_strsl (91::(m++[93])) 1 (m.length+1) (by omega) (by simp);have e2:((91::(m++[93])).take (m.length+1)).drop 1=m:=by simp
  rw[e2,show((m.length+1:Nat):Int)=(n:Int)-1 by omega,show((1:Nat):Int)=1 by rfl]at sl;have HO:=hid (thing_sq (arch:=arch) (s:=91::(m++[93])) rfl);have TR:=hid (fun w=>readTrim m (by omega) w);have htl:=trimT_length m;have NM:=hid (fun w=>readNamed (trimT m) (by omega) w);rw[show((91::(m++[93])).head?==some 91)=true by rfl]at P1;rw[show((91::(m++[93])).getLast?==some 93)=true by rw[h1.2];rfl]at P2;generalize thingI arch (91::(m++[93]))=o at*;generalize trimT m=t at*;generalize nameB t=b at*;have hn3:n<=1000000:=by omega
  have hn4:2<=n:=by omega
  clear hl hsz hnl e2 g g0 h1 htl hml;go_enter Tryz.func49,Tryz.ntmps49;go_wp2_with fail;refine(P1.out _).mono ?_;rintro e w1 ⟨rfl,E⟩
  go_wp2_with (first|(go_at_call 99;refine(P2.out _).mono ?_;rintro e w' ⟨rfl,rfl⟩)|fail)
  refine(TR.out _).mono ?_;rintro e w2 ⟨rfl,E2⟩;have E:=ext_trans E E2;obtain⟨⟨d0,d1,d2,d3,d4⟩,hf,hlt,B⟩:=fresh5 E;clear E
  go_wp2_with (go_at_call 52;refine(NM.out _).mono ?_;rintro e w' ⟨rfl,rfl⟩)
  exact bodyPost_ret (by first|(simp[results,Tryz.results49,go_sem,d0,d1,d2,d3,d4,tx_nil];done)|(simp[results,Tryz.results49,go_sem,d0,d1,d2,d3,d4,tx_nil];rfl)) rfl ⟨⟨-1,0,t,[],0⟩,b,rfl,HO.out,put_below' B (by(repeat refine gr_put ?_ _ _);exact gr_refl _ _)⟩
 ·have hno:=hid h1
  have HG:=hid g0;have CU:=hid (fun w (g:Gl w)=>cut_w s 58 (by omega) w);rw[cut_one]at CU
  have hb:((s.head?==some 91)=false)\/((s.head?==some 91)=true/\(s.getLast?==some 93)=false):=by
   cases h:s.head?==some 91 with
   |false=>exact .inl rfl
   | true=>
     refine .inr ⟨rfl,?_⟩;cases h':s.getLast?==some 93 with
     |false=>rfl
     |true=>exact absurd ⟨by simpa using h,by simpa using h'⟩ h1
  generalize (s.head?==some 91)=b1 at*;generalize (s.getLast?==some 93)=b2 at*
  by_cases h58:(58:UInt8)∈s
  ·rw[if_pos h58]at CU
   simp only at CU;obtain⟨x,hx⟩: ∃x,s.takeWhile (· != 58)=x:=⟨_,rfl⟩;obtain⟨y,hy⟩: ∃y,(s.dropWhile (· != 58)).drop 1=y:=⟨_,rfl⟩;have hxl:x.length<=262144:=by rw[<-hx];have:=takeWhile_le (· != 58) s;omega
   have hyl:y.length<=262144:=by rw[<-hy];have:=(List.dropWhile_suffix (fun x=>x != 58) (l:=s)).length_le;simp;omega
   have HK:=hid (fun(n:Int) (k:Nat) (b1 b2:Bool) h3 h4=>thing_rg (arch:=arch) (s:=s) (n:=n) (k:=k) (b1:=b1) (b2:=b2) hno.out h58 h3 h4);rw[hx,hy]at CU HK;have TX:=hid (fun w=>readTrim x (by omega) w);have TY:=hid (fun w=>readTrim y (by omega) w);have NX:=hid (fun w g=>readNum (trimT x) (by have:=trimT_length x;omega) w g);have RY:=hid (fun w g=>readRegister arch ha (trimT y) w g);generalize trimT x=tx0 at*;generalize trimT y=ty0 at*;generalize thingI arch s=o at*;generalize numR tx0=on at*;generalize regOfA arch ty0=ok0 at*;clear hl hsz h1 g g0 hno h58 hx hy hxl hyl;rcases hb with rfl|⟨rfl,rfl⟩
   ·go_enter Tryz.func49,Tryz.ntmps49
    go_wp2_with fail;refine(P1.out _).mono ?_;rintro e w1 ⟨rfl,E⟩;have g1:=HG.out.below E;go_wp2_with fail;refine(CU.out _ g1).mono ?_;rintro e w2 ⟨rfl,E2⟩;have E:=ext_trans E E2;clear g1 E2;go_wp2_with fail;refine(TX.out _).mono ?_;rintro e w3 ⟨rfl,E3⟩;have E:=ext_trans E E3;have g1:=HG.out.below E;go_wp2_with fail;refine(NX.out _ g1).mono ?_;rintro e w4 ⟨n,bn,rfl,HN,E4⟩;have E:=ext_trans E E4;clear g1 E3 E4;go_wp2_with fail;refine(TY.out _).mono ?_;rintro e w5 ⟨rfl,E5⟩;have E:=ext_trans E E5;have g1:=HG.out.below E;go_wp2_with fail;refine(RY.out _ g1).mono ?_;rintro e w6 ⟨k,bk0,rfl,HR,rfl⟩;have HO:=hid (HK.out n k bn bk0 HN HR);clear g1 E5 HN HR;cases bn
    ·skip
     obtain⟨⟨d0,d1,d2,d3,d4⟩,hf,hlt,B⟩:=fresh5 E;clear E;go_wp2_with fail;exact bodyPost_ret (by first|(simp[results,Tryz.results49,go_sem,d0,d1,d2,d3,d4,tx_nil];done)|(simp[results,Tryz.results49,go_sem,d0,d1,d2,d3,d4,tx_nil];rfl)) rfl ⟨⟨n,k,[],[],0⟩,false,rfl,HO.out,put_below' B (by(repeat refine gr_put ?_ _ _);exact gr_refl _ _)⟩
    cases bk0
    ·skip
     obtain⟨⟨d0,d1,d2,d3,d4⟩,hf,hlt,B⟩:=fresh5 E;clear E;go_wp2_with fail;exact bodyPost_ret (by first|(simp[results,Tryz.results49,go_sem,d0,d1,d2,d3,d4,tx_nil];done)|(simp[results,Tryz.results49,go_sem,d0,d1,d2,d3,d4,tx_nil];rfl)) rfl ⟨⟨n,k,[],[],0⟩,false,rfl,HO.out,put_below' B (by(repeat refine gr_put ?_ _ _);exact gr_refl _ _)⟩
    simp only[Bool.true_and]at HO
    by_cases h0:0<=n
    ·have z0:decide (0<=n)=true:=by simpa using h0
     have HO:=hid HO.out;rw[z0]at HO;clear h0;obtain⟨⟨d0,d1,d2,d3,d4⟩,hf,hlt,B⟩:=fresh5 E;clear E;go_wp2_with fail;exact bodyPost_ret (by first|(simp[results,Tryz.results49,go_sem,d0,d1,d2,d3,d4,tx_nil];done)|(simp[results,Tryz.results49,go_sem,d0,d1,d2,d3,d4,tx_nil];rfl)) rfl ⟨⟨n,k,[],[],0⟩,(decide (n<16)),rfl,HO.out,put_below' B (by(repeat refine gr_put ?_ _ _);exact gr_refl _ _)⟩
    ·have z0:decide (0<=n)=false:=by simpa using h0
     have HO:=hid HO.out;rw[z0]at HO;clear h0;obtain⟨⟨d0,d1,d2,d3,d4⟩,hf,hlt,B⟩:=fresh5 E;clear E;go_wp2_with fail;exact bodyPost_ret (by first|(simp[results,Tryz.results49,go_sem,d0,d1,d2,d3,d4,tx_nil];done)|(simp[results,Tryz.results49,go_sem,d0,d1,d2,d3,d4,tx_nil];rfl)) rfl ⟨⟨n,k,[],[],0⟩,false,rfl,HO.out,put_below' B (by(repeat refine gr_put ?_ _ _);exact gr_refl _ _)⟩
   ·go_enter Tryz.func49,Tryz.ntmps49
    go_wp2_with fail;refine(P1.out _).mono ?_;rintro e w1 ⟨rfl,E⟩;have g1:=HG.out.below E
    go_wp2_with (first|(go_at_call 99;refine(P2.out _).mono ?_;rintro e w' ⟨rfl,rfl⟩)|fail)
    refine(CU.out _ g1).mono ?_;rintro e w2 ⟨rfl,E2⟩;have E:=ext_trans E E2;clear g1 E2;go_wp2_with fail;refine(TX.out _).mono ?_;rintro e w3 ⟨rfl,E3⟩;have E:=ext_trans E E3;have g1:=HG.out.below E;go_wp2_with fail;refine(NX.out _ g1).mono ?_;rintro e w4 ⟨n,bn,rfl,HN,E4⟩;have E:=ext_trans E E4;clear g1 E3 E4;go_wp2_with fail;refine(TY.out _).mono ?_;rintro e w5 ⟨rfl,E5⟩;have E:=ext_trans E E5;have g1:=HG.out.below E;go_wp2_with fail;refine(RY.out _ g1).mono ?_;rintro e w6 ⟨k,bk0,rfl,HR,rfl⟩;have HO:=hid (HK.out n k bn bk0 HN HR);clear g1 E5 HN HR;cases bn
    ·skip
     obtain⟨⟨d0,d1,d2,d3,d4⟩,hf,hlt,B⟩:=fresh5 E;clear E;go_wp2_with fail;exact bodyPost_ret (by first|(simp[results,Tryz.results49,go_sem,d0,d1,d2,d3,d4,tx_nil];done)|(simp[results,Tryz.results49,go_sem,d0,d1,d2,d3,d4,tx_nil];rfl)) rfl ⟨⟨n,k,[],[],0⟩,false,rfl,HO.out,put_below' B (by(repeat refine gr_put ?_ _ _);exact gr_refl _ _)⟩
    cases bk0
    ·skip
     obtain⟨⟨d0,d1,d2,d3,d4⟩,hf,hlt,B⟩:=fresh5 E;clear E;go_wp2_with fail;exact bodyPost_ret (by first|(simp[results,Tryz.results49,go_sem,d0,d1,d2,d3,d4,tx_nil];done)|(simp[results,Tryz.results49,go_sem,d0,d1,d2,d3,d4,tx_nil];rfl)) rfl ⟨⟨n,k,[],[],0⟩,false,rfl,HO.out,put_below' B (by(repeat refine gr_put ?_ _ _);exact gr_refl _ _)⟩
    simp only[Bool.true_and]at HO
    by_cases h0:0<=n
    ·have z0:decide (0<=n)=true:=by simpa using h0
     have HO:=hid HO.out;rw[z0]at HO;clear h0;obtain⟨⟨d0,d1,d2,d3,d4⟩,hf,hlt,B⟩:=fresh5 E;clear E;go_wp2_with fail;exact bodyPost_ret (by first|(simp[results,Tryz.results49,go_sem,d0,d1,d2,d3,d4,tx_nil];done)|(simp[results,Tryz.results49,go_sem,d0,d1,d2,d3,d4,tx_nil];rfl)) rfl ⟨⟨n,k,[],[],0⟩,(decide (n<16)),rfl,HO.out,put_below' B (by(repeat refine gr_put ?_ _ _);exact gr_refl _ _)⟩
    ·have z0:decide (0<=n)=false:=by simpa using h0
     have HO:=hid HO.out;rw[z0]at HO;clear h0;obtain⟨⟨d0,d1,d2,d3,d4⟩,hf,hlt,B⟩:=fresh5 E;clear E;go_wp2_with fail;exact bodyPost_ret (by first|(simp[results,Tryz.results49,go_sem,d0,d1,d2,d3,d4,tx_nil];done)|(simp[results,Tryz.results49,go_sem,d0,d1,d2,d3,d4,tx_nil];rfl)) rfl ⟨⟨n,k,[],[],0⟩,false,rfl,HO.out,put_below' B (by(repeat refine gr_put ?_ _ _);exact gr_refl _ _)⟩
  ·rw[if_neg h58]at CU
   simp only at CU;have HO:=hid (thing_nm (arch:=arch) hno.out h58);have NM:=hid (fun w=>readNamed s (by omega) w);generalize thingI arch s=o at*;generalize nameB s=b at*;clear hl hsz h1 g g0 hno h58;rcases hb with rfl|⟨rfl,rfl⟩
   ·go_enter Tryz.func49,Tryz.ntmps49
    go_wp2_with fail;refine(P1.out _).mono ?_;rintro e w1 ⟨rfl,E⟩;have g1:=HG.out.below E;go_wp2_with fail;refine(CU.out _ g1).mono ?_;rintro e w2 ⟨rfl,E2⟩;have E:=ext_trans E E2;clear g1 E2;obtain⟨⟨d0,d1,d2,d3,d4⟩,hf,hlt,B⟩:=fresh5 E;clear E
    go_wp2_with (go_at_call 52;refine(NM.out _).mono ?_;rintro e w' ⟨rfl,rfl⟩)
    exact bodyPost_ret (by first|(simp[results,Tryz.results49,go_sem,d0,d1,d2,d3,d4,tx_nil];done)|(simp[results,Tryz.results49,go_sem,d0,d1,d2,d3,d4,tx_nil];rfl)) rfl ⟨⟨-1,0,s,[],0⟩,b,rfl,HO.out,put_below' B (by(repeat refine gr_put ?_ _ _);exact gr_refl _ _)⟩
   ·go_enter Tryz.func49,Tryz.ntmps49
    go_wp2_with fail;refine(P1.out _).mono ?_;rintro e w1 ⟨rfl,E⟩;have g1:=HG.out.below E
    go_wp2_with (first|(go_at_call 99;refine(P2.out _).mono ?_;rintro e w' ⟨rfl,rfl⟩)|fail)
    refine(CU.out _ g1).mono ?_;rintro e w2 ⟨rfl,E2⟩;have E:=ext_trans E E2;clear g1 E2;obtain⟨⟨d0,d1,d2,d3,d4⟩,hf,hlt,B⟩:=fresh5 E;clear E
    go_wp2_with (go_at_call 52;refine(NM.out _).mono ?_;rintro e w' ⟨rfl,rfl⟩)
    exact bodyPost_ret (by first|(simp[results,Tryz.results49,go_sem,d0,d1,d2,d3,d4,tx_nil];done)|(simp[results,Tryz.results49,go_sem,d0,d1,d2,d3,d4,tx_nil];rfl)) rfl ⟨⟨-1,0,s,[],0⟩,b,rfl,HO.out,put_below' B (by(repeat refine gr_put ?_ _ _);exact gr_refl _ _)⟩
def RetIni(o:Option Ini)(w:World)(e:Ending)(w':World):Prop:=Below w.heap.size w w'/\match o with
 |some x=>e= .returned (.tuple #[vIni x,.int .i64 0])
 |none=>e= .returned (.tuple #[vIni ⟨0,0,[],[],0⟩,.int .i64 140])
theorem RetIni.no{o:Option Ini}{w w':World}{e:Ending}(ho:o=none)(h:e= .returned (.tuple #[vIni ⟨0,0,[],[],0⟩,.int .i64 140]))(hb:Below w.heap.size w w'):RetIni o w e w':=by subst ho;exact⟨hb,h⟩
theorem RetIni.yes{o:Option Ini}{w w':World}{e:Ending}{x:Ini}(ho:o=some x)(h:e= .returned (.tuple #[vIni x,.int .i64 0]))(hb:Below w.heap.size w w'):RetIni o w e w':=by subst ho;exact⟨hb,h⟩
theorem thingI_plain{arch:Int}{s:Tx}{x:Ini}(h:thingI arch s=some x):x.vloc=[]/\x.n=0:=by
 unfold thingI at h
 split at h
 ·split at h
  ·cases h;exact⟨rfl,rfl⟩
  ·cases h
 ·split at h
  ·split at h
   ·split at h
    ·cases h;exact⟨rfl,rfl⟩
    ·cases h
   ·cases h
  ·split at h
   ·cases h;exact⟨rfl,rfl⟩
   ·cases h
theorem setB{n b:Nat}{w w':World}(h:Below n w w')(hb:n<=b)(j:Nat)(v:Value):Below n w (w'.setCell ⟨b,j,none⟩ v):=h.setCell hb _
theorem initR_cut{arch:Int}{s:Tx}(h: ¬262144<s.length)(h2:(61:UInt8)∈s):initR arch s=initC (thingI arch (trimT (s.takeWhile (· != 61)))) (valZ (trimT ((s.dropWhile (· != 61)).drop 1))):=by
 unfold initR;rw[if_neg (by rintro(a|a);exact h a;exact a h2)]
theorem valZ_1{v:Tx}{n:Int}(h:OptV (numR v) n true):valZ v=some ([],n):=by unfold valZ;rw[h.yes]
theorem valZ_2{v:Tx}{n:Int}(h:OptV (numR v) n false)(h2:nameB v=true):valZ v=some (v,0):=by unfold valZ;rw[h.no];exact if_pos h2
theorem valZ_3{v:Tx}{n:Int}(h:OptV (numR v) n false)(h2:nameB v=false):valZ v=none:=by unfold valZ;rw[h.no];exact if_neg (by rw[h2];decide)
theorem initC_1{x:Ini}{o:Option Ini}{l:Tx}{n:Int}(h:o=some x):initC o (some (l,n))=some ⟨x.thread,x.reg,x.loc,l,n⟩:=by subst h;rfl
theorem readInit_arch(arch:Int)(h:archB arch=false)(s:Tx)(w:World):Calls Tryz.prog 21 #[.int .i64 arch,.string (tx s)] w (Ret w (.tuple #[vIni ⟨0,0,[],[],0⟩,.int .i64 5])):=by
 have KN:=hid (fun w=>readKnown arch w);have HA:=hid h;obtain⟨⟨d0,d1,d2,d3,d4⟩,hf,hlt,B⟩:=fresh5 (Below.refl _ (w.alloc zIn));clear h;go_enter Tryz.func21,Tryz.ntmps21
 go_wp2_with (go_at_call 42;refine(KN.out _).mono ?_;rintro e w' ⟨rfl,rfl⟩;rw[HA.out])
 exact bodyPost_ret (by simp[results,Tryz.results21,go_sem,tx_nil]) rfl ⟨rfl,blN⟩
theorem readInit(arch:Int)(ha:archB arch=true)(s:Tx)(hl:s.length<=9223372036854775807)(w:World)(g:Gl w):Calls Tryz.prog 21 #[.int .i64 arch,.string (tx s)] w (RetIni (initR arch s) w):=by
 have hsz:=tx_size s;have KN:=hid (fun w=>readKnown arch w);have HA:=hid ha;have HG:=hid (g.below (al w zIn));have CU:=hid (fun w (g:Gl w)=>cut_w s 61 hl w);rw[cut_one]at CU;obtain⟨n,hn⟩: ∃n,(tx s).size=n:=⟨_,rfl⟩
 by_cases hb:262144<s.length\/(61:UInt8)∉s
 ·have HP:=hid (show initR arch s=none by unfold initR;rw[if_pos hb])
  have z:decide ((262144:Int)<(n:Int))=true\/decide ((262144:Int)<(n:Int))=false/\(if(61:UInt8)∈s then(s.takeWhile (· != 61),(s.dropWhile (· != 61)).drop 1,true)else(s,[],false)).2.2=false:=by
   by_cases h3:262144<s.length
   ·exact .inl (by simp;omega)
   ·exact .inr ⟨by simp;omega,by rw[if_neg (by rcases hb with h|h;exact absurd h h3;exact h)]⟩
  generalize (if(61:UInt8)∈s then(s.takeWhile (· != 61),(s.dropWhile (· != 61)).drop 1,true)else(s,[],false))=cu at*;obtain⟨c1,c2,c3⟩:=cu;simp only at CU z;generalize initR arch s=o at*;clear hl hsz hb g ha;rcases z with z|⟨z,rfl⟩
  all_goals
   go_enter Tryz.func21,Tryz.ntmps21
   go_wp2_with (first|(go_at_call 42;refine(KN.out _).mono ?_;rintro e w' ⟨rfl,rfl⟩;rw[HA.out])|fail)
   refine(CU.out _ HG.out).mono ?_;rintro e w1 ⟨rfl,E⟩;obtain⟨⟨d0,d1,d2,d3,d4⟩,hf,hlt,B⟩:=fresh5 E;clear E;go_wp2_with fail;exact bodyPost_ret (by first|(simp[results,Tryz.results21,go_sem,d0,d1,d2,d3,d4,tx_nil];done)|(simp[results,Tryz.results21,go_sem,d0,d1,d2,d3,d4,tx_nil];rfl)) rfl (RetIni.no HP.out rfl (put_below' B (by(repeat refine gr_put ?_ _ _);exact gr_refl _ _)))
 have h3: ¬262144<s.length:=fun h=>hb (.inl h)
 have h61:(61:UInt8)∈s:=Classical.byContradiction fun h=>hb (.inr h)
 rw[if_pos h61]at CU;simp only at CU;obtain⟨x,hx⟩: ∃x,s.takeWhile (· != 61)=x:=⟨_,rfl⟩;obtain⟨y,hy⟩: ∃y,(s.dropWhile (· != 61)).drop 1=y:=⟨_,rfl⟩;have hxl:x.length<=s.length:=by rw[<-hx];exact takeWhile_le (· != 61) s
 have hyl:y.length<=s.length:=by rw[<-hy];have:=(List.dropWhile_suffix (fun x=>x != 61) (l:=s)).length_le;simp;omega
 have HI:=hid (initR_cut (arch:=arch) h3 h61);rw[hx,hy]at CU HI;have z:decide ((262144:Int)<(n:Int))=false:=by simp;omega
 have TX:=hid (fun w=>readTrim x (by omega) w);have TH:=hid (fun w g=>readThingR arch ha (trimT x) (by have:=trimT_length x;omega) w g);have TP:=hid (fun o=>thingI_plain (arch:=arch) (s:=trimT x) (x:=o));have TY:=hid (fun w=>readTrim y (by omega) w);have NY:=hid (fun w g=>readNum (trimT y) (by have:=trimT_length y;omega) w g);have MY:=hid (fun w=>readNamed (trimT y) (by have:=trimT_length y;omega) w);have V1:=hid (fun n=>valZ_1 (v:=trimT y) (n:=n));have V2:=hid (fun n=>valZ_2 (v:=trimT y) (n:=n));have V3:=hid (fun n=>valZ_3 (v:=trimT y) (n:=n));generalize trimT x=tx0 at*;generalize trimT y=ty0 at*;generalize initR arch s=o at*;generalize thingI arch tx0=ot at*;generalize valZ ty0=ov at*;generalize numR ty0=on at*;clear hl hsz hb h61 hx hy hxl hyl h3 g ha;go_enter Tryz.func21,Tryz.ntmps21
 go_wp2_with (first|(go_at_call 42;refine(KN.out _).mono ?_;rintro e w' ⟨rfl,rfl⟩;rw[HA.out])|fail)
 refine(CU.out _ HG.out).mono ?_;rintro e w1 ⟨rfl,E⟩;go_wp2_with fail;refine(TX.out _).mono ?_;rintro e w2 ⟨rfl,E2⟩;have E:=ext_trans E E2;have g1:=HG.out.below E;go_wp2_with fail;refine(TH.out _ g1).mono ?_;rintro e w3 ⟨⟨th,rg,lc,vl,vn⟩,ok,rfl,HT,E3⟩;have E:=ext_trans E E3;clear g1 E2 E3;cases ok
 ·have HP:=hid (show o=none by rw[HI.out,HT.no];exact initC_no _)
  clear HT;obtain⟨⟨d0,d1,d2,d3,d4⟩,hf,hlt,B⟩:=fresh5 E;clear E;go_wp2_with fail;exact bodyPost_ret (by simp[results,Tryz.results21,go_sem,d0,d1,d2,d3,d4,hlt,tx_nil]) rfl (RetIni.no HP.out rfl blA)
 ·have HT:=hid HT.yes
  obtain⟨e1,e2⟩:=TP.out _ HT.out;simp only at e1 e2;subst e1;subst e2;have hw3:=E.size;have E:=hid E;go_wp2_with fail;refine(TY.out _).mono ?_;rintro e w4 ⟨rfl,E4⟩;have XB:=(BxL.new w3 #[.int .i64 th,.int .i64 rg,.string (tx lc),.string ⟨#[]⟩,.int .i64 0] 56).below E4;have XF:=fun j=>(frz_below E4 (b:=w3.heap.size) (by simp) j).trans (frz_new w3 _ _ j)
  have EE:=hid (ext_trans E.out ((al w3 _).trans (E4.mono (by simp))));have g1:=HG.out.below EE.out;have XL:w3.heap.size<w4.heap.size:=XB.1;clear E4;have XB:=hid XB;have XF:=hid XF;go_wp2_with fail;refine(NY.out _ g1).mono ?_;rintro e w5 ⟨v,bn,rfl,HN,E5⟩;have XB:=XB.out.below E5;have XF:=fun j=>(frz_below E5 XL j).trans (XF.out j)
  have E:=ext_trans EE.out E5;have XL:w3.heap.size<w5.heap.size:=XB.1;obtain⟨⟨d0,d1,d2,d3,d4⟩,hf,hlt,B⟩:=fresh5 E;have hne:w.heap.size≠w3.heap.size:=by simp at hw3;omega
  have hne2:=hne.symm;have q0:=XB.get 0 _ rfl;have q1:=XB.get 1 _ rfl;have q2:=XB.get 2 _ rfl;have q3:=XB.get 3 _ rfl;have q4:=XB.get 4 _ rfl;have BW:w.heap.size<=w3.heap.size:=by simp at hw3;omega
  clear g1 E XB hw3;cases bn
  ·obtain⟨b,hb⟩: ∃b,nameB ty0=b:=⟨_,rfl⟩
   have HV2:=hid (fun h=>V2.out _ HN h);have HV3:=hid (fun h=>V3.out _ HN h);rw[hb]at MY HV2 HV3;clear HN hb;cases b
   ·have HP:=hid (show o=none by rw[HI.out,HV3.out rfl];exact initC_none _)
    go_wp2_with (go_at_call 52;refine(MY.out _).mono ?_;rintro e w' ⟨rfl,rfl⟩)
    exact bodyPost_ret (by first|(simp[results,Tryz.results21,go_sem,d0,d1,d2,d3,d4,tx_nil];done)|(simp[results,Tryz.results21,go_sem,d0,d1,d2,d3,d4,tx_nil];rfl)) rfl (RetIni.no HP.out rfl (put_below' B (by(repeat refine gr_put ?_ _ _);exact gr_refl _ _)))
   ·have HP:=hid (show o=some ⟨th,rg,lc,ty0,0⟩ by rw[HI.out,HV2.out rfl,initC_1 HT.out])
    go_wp2_with (go_at_call 52;refine(MY.out _).mono ?_;rintro e w' ⟨rfl,rfl⟩)
    exact bodyPost_ret (by simp[results,Tryz.results21,go_sem,d0,d1,d2,d3,d4]) rfl (RetIni.yes HP.out rfl (by
     (repeat first|with_reducible refine setB ?_ (Nat.le_refl _) _ _|with_reducible refine setB ?_ BW _ _)
     exact B))
  ·have HP:=hid (show o=some ⟨th,rg,lc,[],v⟩ by rw[HI.out,V1.out _ HN,initC_1 HT.out])
   clear HN;go_wp2_with fail
   exact bodyPost_ret (by simp[results,Tryz.results21,go_sem,d0,d1,d2,d3,d4,tx_nil]) rfl (RetIni.yes HP.out rfl (by
    (repeat first|with_reducible refine setB ?_ (Nat.le_refl _) _ _|with_reducible refine setB ?_ BW _ _)
    exact B))
abbrev zI8':Obj:=.cells #[.int .i64 0,.int .i64 0,.int .i64 0,.int .i64 0,.int .i64 0,.string ⟨#[]⟩,.string ⟨#[]⟩,.int .i64 0] 50
theorem fresh8'{w w1:World}(E:Below (w.alloc zI8').heap.size (w.alloc zI8') w1):(w1.cell? ⟨w.heap.size,0,none⟩=some (.int .i64 0)/\w1.cell? ⟨w.heap.size,1,none⟩=some (.int .i64 0)/\w1.cell? ⟨w.heap.size,2,none⟩=some (.int .i64 0)/\w1.cell? ⟨w.heap.size,3,none⟩=some (.int .i64 0)/\w1.cell? ⟨w.heap.size,4,none⟩=some (.int .i64 0)/\w1.cell? ⟨w.heap.size,5,none⟩=some (.string ⟨#[]⟩)/\w1.cell? ⟨w.heap.size,6,none⟩=some (.string ⟨#[]⟩)/\w1.cell? ⟨w.heap.size,7,none⟩=some (.int .i64 0))/\(∀j,w1.frozen? ⟨w.heap.size,j,none⟩=false)/\w.heap.size<w1.heap.size/\Below w.heap.size w w1:=by
 have b0:=(BxL.new w #[.int .i64 0,.int .i64 0,.int .i64 0,.int .i64 0,.int .i64 0,.string ⟨#[]⟩,.string ⟨#[]⟩,.int .i64 0] 50).below E;refine⟨⟨b0.get 0 _ rfl,b0.get 1 _ rfl,b0.get 2 _ rfl,b0.get 3 _ rfl,b0.get 4 _ rfl,b0.get 5 _ rfl,b0.get 6 _ rfl,b0.get 7 _ rfl⟩,fun j=>(frz_below E (b:=w.heap.size) (by simp) j).trans (frz_new w _ _ j),?_,(al w zI8').trans (E.mono (by simp))⟩;have:=E.size;simp at this;omega
theorem readInstr(arch:Int)(ha:archB arch=true)(s:Tx)(w:World)(g:Gl w):Calls Tryz.prog 19 #[.int .i64 arch,.string (tx s)] w (RetP (insP arch s) w):=by
 have KN:=hid (fun w=>readKnown arch w);have HA:=hid ha;have g0:=g.below (al w zI8');unfold insP;rcases arch_two ha with rfl|rfl
 ·rw[if_pos rfl]
  have PX:=hid (intelParse s _ g0);generalize parseX s=r at*;unfold RetP at*;generalize errO r=er at*;generalize insO r=I at*;obtain⟨op,d,a,b,imm,loc,label,fence⟩:=I;clear g g0 ha;go_enter Tryz.func19,Tryz.ntmps19
  go_wp2_with (first|(go_at_call 42;refine(KN.out _).mono ?_;rintro e w' ⟨rfl,rfl⟩;rw[HA.out])|fail)
  refine PX.out.mono ?_;rintro e w1 ⟨rfl,E⟩;obtain⟨⟨d0,d1,d2,d3,d4,d5,d6,d7⟩,hf,hlt,B⟩:=fresh8' E;clear E PX;go_wp2_with fail;exact bodyPost_ret (by simp[results,Tryz.results19,go_sem,d0,d1,d2,d3,d4,d5,d6,d7]) rfl ⟨rfl,put_below' B (by(repeat refine gr_put ?_ _ _);exact gr_refl _ _)⟩
 ·rw[if_neg (by decide)]
  have PX:=hid (progParse s _ g0);generalize parseI s=r at*;unfold RetP at*;generalize errO r=er at*;generalize insO r=I at*;obtain⟨op,d,a,b,imm,loc,label,fence⟩:=I;clear g g0 ha;go_enter Tryz.func19,Tryz.ntmps19
  go_wp2_with (first|(go_at_call 42;refine(KN.out _).mono ?_;rintro e w' ⟨rfl,rfl⟩;rw[HA.out])|fail)
  refine PX.out.mono ?_;rintro e w1 ⟨rfl,E⟩;obtain⟨⟨d0,d1,d2,d3,d4,d5,d6,d7⟩,hf,hlt,B⟩:=fresh8' E;clear E PX;go_wp2_with fail;exact bodyPost_ret (by simp[results,Tryz.results19,go_sem,d0,d1,d2,d3,d4,d5,d6,d7]) rfl ⟨rfl,put_below' B (by(repeat refine gr_put ?_ _ _);exact gr_refl _ _)⟩
theorem readInstr_no(arch:Int)(ha:archB arch=false)(s:Tx)(w:World):Calls Tryz.prog 19 #[.int .i64 arch,.string (tx s)] w (Ret w (.tuple #[vI ⟨0,0,0,0,0,[],[],0⟩,.int .i64 5])):=by
 have KN:=hid (fun w=>readKnown arch w);have HA:=hid ha;clear ha;go_enter Tryz.func19,Tryz.ntmps19
 go_wp2_with (go_at_call 42;refine(KN.out _).mono ?_;rintro e w' ⟨rfl,rfl⟩;rw[HA.out])
 exact bodyPost_ret (by simp[results,Tryz.results19,go_sem,tx_nil]) rfl ⟨rfl,blN⟩
end Go.Proofs.YtkbbgjloifmmbaaGreatDoor

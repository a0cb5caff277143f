/- What ReadPiecesP leans on, part 40. -/
import Derived.Test.YtkbbgjloifmmbaaGreatDoorRp39
set_option linter.unusedVariables false
set_option maxRecDepth 100000
set_option maxHeartbeats 6400000
namespace Go.Proofs.YtkbbgjloifmmbaaGreatDoor
open Go.RowKit Go.Sort
abbrev zIni5:Obj:=.cells #[.int .i64 0,.int .i64 0,.string ⟨#[]⟩,.string ⟨#[]⟩,.int .i64 0] 56
theorem initD_1{arch:Int}{l:List Tok}(h:thingD arch l=none):initD arch l=none:=by unfold initD;rw[h]
theorem initD_2{arch:Int}{l r:List Tok}{x:Ini}(h:thingD arch l=some (x,r))(h2:headS r≠[61]):initD arch l=none:=by unfold initD;rw[h];exact if_neg h2
theorem initD_3{arch:Int}{l r:List Tok}{x:Ini}(h:thingD arch l=some (x,r))(h2:valZ (headS r.tail)=none):initD arch l=none:=by
 unfold initD;rw[h];simp only;rw[h2];split<;>rfl
theorem initD_4{arch:Int}{l r:List Tok}{x:Ini}(h:thingD arch l=some (x,r))(h2:r.tail.tail≠[]):initD arch l=none:=by
 unfold initD;rw[h];simp only;split
 ·cases valZ (headS r.tail)with
  |none=>rfl
  |some q=>rfl
 ·rfl
theorem initD_5{arch n:Int}{l r:List Tok}{x:Ini}{lc:Tx}(h:thingD arch l=some (x,r))(h2:headS r=[61])(h3:valZ (headS r.tail)=some (lc,n))(h4:r.tail.tail=[]):initD arch l=some ⟨x.thread,x.reg,x.loc,lc,n⟩:=by
 unfold initD;rw[h];simp only;rw[if_pos h2,h3];exact if_pos h4
theorem kind_pos{c:UInt8}{r:Tx}:kindT (c::r)≠0:=by
 rw[kind_cons];split
 ·decide
 ·split<;>decide
theorem kind_zero{s:Tx}{l:List Tok}(h:Lx s l):kindT (headS l)=0<->l=[]:=by
 cases l with
 |nil=>exact⟨fun _=>rfl,fun _=>rfl⟩
 | cons t r=>
   have h1:=h.head.1
   constructor
   ·intro k
    exfalso;have k:kindT t.1=0:=k;cases e:t.1 with
    |nil=>rw[e]at h1;simp at h1
    |cons c x=>rw[e]at k;exact kind_pos k
   ·intro e;cases e
theorem initR_D{arch:Int}{s:Tx}(hl:s.length<=262144):initR arch s=initD arch (lex 0 s):=by
 rw[initR_lex hl,initD_eq];unfold txs;rw[lex_place]
theorem r14Init_no(arch:Int)(s:Tx)(ha:archB arch=false)(w:World):Calls Tryz.prog 22 #[.int .i64 arch,.string (tx s)] w (Ret w (.tuple #[vIni ⟨0,0,[],[],0⟩,.int .i64 5])):=by
 have KN:=hid (fun w=>r08Known arch w);have HA:=hid ha;clear ha;have E0:=Below.refl ((w.alloc zIni5).alloc zIni5).heap.size ((w.alloc zIni5).alloc zIni5);have bz:=(BxL.new w #[.int .i64 0,.int .i64 0,.string ⟨#[]⟩,.string ⟨#[]⟩,.int .i64 0] 56).below ((al (w.alloc zIni5) zIni5).trans (E0.mono (by simp)));have bo:=(BxL.new (w.alloc zIni5) #[.int .i64 0,.int .i64 0,.string ⟨#[]⟩,.string ⟨#[]⟩,.int .i64 0] 56).below E0;have p0:=bz.get 0 _ rfl;have p1:=bz.get 1 _ rfl;have p2:=bz.get 2 _ rfl;have p3:=bz.get 3 _ rfl;have p4:=bz.get 4 _ rfl;have q0:=bo.get 0 _ rfl;have q1:=bo.get 1 _ rfl;have q2:=bo.get 2 _ rfl;have q3:=bo.get 3 _ rfl;have q4:=bo.get 4 _ rfl;simp only[alloc_size]at q0 q1 q2 q3 q4;have hlt0:=bz.1;have hlt1:=bo.1;simp only[alloc_size]at hlt1;have f0:=fun j=>(frz_below ((al (w.alloc zIni5) zIni5).trans (E0.mono (by simp))) (b:=w.heap.size) (by simp) j).trans (frz_new w _ _ j)
 have EB:=hid (bel1 (bel1 E0));clear bz bo;go_enter Tryz.func22,Tryz.ntmps22
 go_wp2_with (go_at_call 45;refine(KN.out _).mono ?_;rintro e w' ⟨rfl,rfl⟩;rw[HA.out])
 exact bodyPost_ret (by first|(simp[results,Tryz.results22,go_sem,p0,p1,p2,p3,p4,tx_nil];done)|(simp[results,Tryz.results22,go_sem,p0,p1,p2,p3,p4,tx_nil];rfl)) rfl ⟨rfl,(by(repeat(first|with_reducible refine Below.setCell ?_ (by first|(simp;done)|(simp;omega)) _|with_reducible refine Below.alloc ?_ (by first|(simp;done)|(simp;omega)) _));(first|exact EB.out|exact Below.refl _ _))⟩
theorem r14Init_long(arch:Int)(s:Tx)(ha:archB arch=true)(hl:262144<s.length)(w:World):Calls Tryz.prog 22 #[.int .i64 arch,.string (tx s)] w (RetIni (initR arch s) w):=by
 have KN:=hid (fun w=>r08Known arch w);have HA:=hid ha;have HP:=hid (show initR arch s=none by unfold initR;rw[if_pos (.inl hl)]);generalize initR arch s=r at*;obtain⟨n,hn⟩: ∃n,(tx s).size=n:=⟨_,rfl⟩;have z:decide (262144<(n:Int))=true:=by rw[tx_size]at hn;simp;omega
 clear ha hl;have E0:=Below.refl ((w.alloc zIni5).alloc zIni5).heap.size ((w.alloc zIni5).alloc zIni5);have bz:=(BxL.new w #[.int .i64 0,.int .i64 0,.string ⟨#[]⟩,.string ⟨#[]⟩,.int .i64 0] 56).below ((al (w.alloc zIni5) zIni5).trans (E0.mono (by simp)));have bo:=(BxL.new (w.alloc zIni5) #[.int .i64 0,.int .i64 0,.string ⟨#[]⟩,.string ⟨#[]⟩,.int .i64 0] 56).below E0;have p0:=bz.get 0 _ rfl;have p1:=bz.get 1 _ rfl;have p2:=bz.get 2 _ rfl;have p3:=bz.get 3 _ rfl;have p4:=bz.get 4 _ rfl;have q0:=bo.get 0 _ rfl;have q1:=bo.get 1 _ rfl;have q2:=bo.get 2 _ rfl;have q3:=bo.get 3 _ rfl;have q4:=bo.get 4 _ rfl;simp only[alloc_size]at q0 q1 q2 q3 q4;have hlt0:=bz.1;have hlt1:=bo.1;simp only[alloc_size]at hlt1;have f0:=fun j=>(frz_below ((al (w.alloc zIni5) zIni5).trans (E0.mono (by simp))) (b:=w.heap.size) (by simp) j).trans (frz_new w _ _ j)
 have EB:=hid (bel1 (bel1 E0));clear bz bo;go_enter Tryz.func22,Tryz.ntmps22
 go_wp2_with (go_at_call 45;refine(KN.out _).mono ?_;rintro e w' ⟨rfl,rfl⟩;rw[HA.out])
 exact bodyPost_ret (by first|(simp[results,Tryz.results22,go_sem,p0,p1,p2,p3,p4];done)|(simp[results,Tryz.results22,go_sem,p0,p1,p2,p3,p4];rfl)) rfl (RetIni.no HP.out (by rfl) (by(repeat(first|with_reducible refine Below.setCell ?_ (by first|(simp;done)|(simp;omega)) _|with_reducible refine Below.alloc ?_ (by first|(simp;done)|(simp;omega)) _));(first|exact EB.out|exact Below.refl _ _)))
theorem r14Init_in(arch:Int)(s:Tx)(ha:archB arch=true)(hl:s.length<=262144)(w:World):Calls Tryz.prog 22 #[.int .i64 arch,.string (tx s)] w (RetIni (initR arch s) w):=by
 rw[initR_D hl];have KN:=hid (fun w=>r08Known arch w);have HA:=hid ha;obtain⟨n,hn⟩: ∃n,(tx s).size=n:=⟨_,rfl⟩;have z:decide (262144<(n:Int))=false:=by rw[tx_size]at hn;simp;omega
 have TG:=hid (fun w=>r14Thing (s:=s) arch hl w);have HL:=hid hl;obtain⟨pp,hpp⟩: ∃pp,thingD arch (lex 0 s)=pp:=⟨_,rfl⟩;have HP:=hid hpp;rw[hpp]at TG;generalize hD:initD arch (lex 0 s)=r at*;have HD:=hid hD;clear ha hl hpp hD;go_enter Tryz.func22,Tryz.ntmps22
 go_wp2_with (first|(go_at_call 45;refine(KN.out _).mono ?_;rintro e w' ⟨rfl,rfl⟩;rw[HA.out])|fail)
 refine(TG.out _).mono ?_;rintro e w1 ⟨E1,h⟩;cases pp with
 | none=>
   obtain⟨y,nx,rfl⟩:=h;have HZ:=hid (show r=none by rw[<-HD.out];exact initD_1 HP.out);have bz:=(BxL.new w #[.int .i64 0,.int .i64 0,.string ⟨#[]⟩,.string ⟨#[]⟩,.int .i64 0] 56).below ((al (w.alloc zIni5) zIni5).trans (E1.mono (by simp)));have bo:=(BxL.new (w.alloc zIni5) #[.int .i64 0,.int .i64 0,.string ⟨#[]⟩,.string ⟨#[]⟩,.int .i64 0] 56).below E1;have p0:=bz.get 0 _ rfl;have p1:=bz.get 1 _ rfl;have p2:=bz.get 2 _ rfl;have p3:=bz.get 3 _ rfl;have p4:=bz.get 4 _ rfl;have q0:=bo.get 0 _ rfl;have q1:=bo.get 1 _ rfl;have q2:=bo.get 2 _ rfl;have q3:=bo.get 3 _ rfl;have q4:=bo.get 4 _ rfl;simp only[alloc_size]at q0 q1 q2 q3 q4;have hlt0:=bz.1;have hlt1:=bo.1;simp only[alloc_size]at hlt1;have f0:=fun j=>(frz_below ((al (w.alloc zIni5) zIni5).trans (E1.mono (by simp))) (b:=w.heap.size) (by simp) j).trans (frz_new w _ _ j)
   have EB:=hid (bel1 (bel1 E1));clear bz bo;go_wp2_with fail;exact bodyPost_ret (by first|(simp[results,Tryz.results22,go_sem,p0,p1,p2,p3,p4,tx_nil,hlt0];done)|(simp[results,Tryz.results22,go_sem,p0,p1,p2,p3,p4,tx_nil,hlt0];rfl)) rfl (RetIni.no HZ.out rfl (by(repeat(first|with_reducible refine Below.setCell ?_ (by first|(simp;done)|(simp;omega)) _|with_reducible refine Below.alloc ?_ (by first|(simp;done)|(simp;omega)) _));exact EB.out))
 | some q=>
   obtain⟨x,l⟩:=q;obtain⟨nx,hnx,hlx,rfl⟩:=h;obtain⟨T1,m1,e1,b1⟩:=tk_at HL.out hnx hlx;have VA:=hid (fun w=>r14Value HL.out m1 e1 w);obtain⟨-, m2,e2, -⟩:=tk_at HL.out m1 e1;obtain⟨T3,-, -, -⟩:=tk_at HL.out m2 e2;have T1:=hid T1;have T3:=hid T3;unfold TkC at T1 T3;have KZ:=hid (kind_zero (s:=s) (l:=l.tail.tail) ⟨_,m2,e2⟩);obtain⟨n1,hn1⟩: ∃n,nextT s.length l=n:=⟨_,rfl⟩;obtain⟨n2,hn2⟩: ∃n,nextT s.length l.tail=n:=⟨_,rfl⟩;obtain⟨n3,hn3⟩: ∃n,nextT s.length l.tail.tail=n:=⟨_,rfl⟩;obtain⟨u0,hu0⟩: ∃u,headS l=u:=⟨_,rfl⟩;obtain⟨u2,hu2⟩: ∃u,headS l.tail.tail=u:=⟨_,rfl⟩;generalize stopAt s.length l=q0p at*;generalize stopAt s.length l.tail.tail=q2p at*;rw[hn1]at T1 VA;rw[hn2]at VA T3;rw[hn3]at T3;rw[hu0]at T1;rw[hu2]at T3 KZ;obtain⟨k0,hk0⟩: ∃k,kindT u0=k:=⟨_,rfl⟩;obtain⟨k2,hk2⟩: ∃k,kindT u2=k:=⟨_,rfl⟩;rw[hk0]at T1;rw[hk2]at T3 KZ;have K0:=hid hk0;have U0:=hid hu0;have HLX:=hid hlx;clear m1 e1 m2 e2 hn1 hn2 hn3 hu0 hu2 hk0 hk2 b1 hnx hlx;have bx0:=BxL.new w1 #[.int .i64 x.thread,.int .i64 x.reg,.string (tx x.loc),.string (tx x.vloc),.int .i64 x.n] 56;go_wp2_with fail;refine(T1.out _).mono ?_;rintro e w2 ⟨rfl,E2⟩;have E12:=hid (ext_trans (bel_alloc E1 (.cells #[.int .i64 x.thread,.int .i64 x.reg,.string (tx x.loc),.string (tx x.vloc),.int .i64 x.n] 56)) E2);have BX:=hid (bx0.below E2);have HS1:=hid (show w1.heap.size<w2.heap.size by have:=E2.size;simp at this;omega);have HS0:=hid (show w.heap.size+2<=w1.heap.size by have:=E1.size;simp at this;omega);have FX:=hid (fun j=>(E2.frozen (p:=⟨w1.heap.size,j,none⟩) (by simp)).trans (frz_new w1 #[.int .i64 x.thread,.int .i64 x.reg,.string (tx x.loc),.string (tx x.vloc),.int .i64 x.n] 56 j))
   clear E1 E2 bx0
   by_cases c0:k0=3
   ·have zk:((k0:Int) != 3)=false:=by simp;omega
    by_cases g0:u0=[61]
    ·have HG:=hid g0
     subst g0;have zu:((tx [61]).toList==[61])=true:=by rw[tx_toList];decide
     generalize tx [61]=ux at*;go_wp2_with fail;refine(VA.out _).mono ?_;rintro e w3 ⟨E3,lc,vn,ok,rfl,HO⟩;have HO:=hid HO;go_wp2_with fail;refine(T3.out _).mono ?_;rintro e w4 ⟨rfl,E4⟩;have by0:=(BxL.new w3 #[.string (tx lc),.int .i64 vn] 54).below E4;have y0:=by0.get 0 _ rfl;have y1:=by0.get 1 _ rfl;have hy:=by0.1;have hy3:w2.heap.size<=w3.heap.size:=E3.size;have E23:=ext_trans E3 (ext_trans (al w3 (.cells #[.string (tx lc),.int .i64 vn] 54)) E4);have bx:=BX.out.below E23;have x0:=bx.get 0 _ rfl;have x1:=bx.get 1 _ rfl;have x2:=bx.get 2 _ rfl;have x3:=bx.get 3 _ rfl;have x4:=bx.get 4 _ rfl;have fx:=fun j=>(E23.frozen (p:=⟨w1.heap.size,j,none⟩) HS1.out).trans (FX.out j)
     have fx3:=fx 3;have fx4:=fx 4;have hs1:=HS1.out;have hs0:=HS0.out;have E:=ext_trans E12.out E23;clear bx by0 E3 E4 E23;have bz:=(BxL.new w #[.int .i64 0,.int .i64 0,.string ⟨#[]⟩,.string ⟨#[]⟩,.int .i64 0] 56).below ((al (w.alloc zIni5) zIni5).trans (E.mono (by simp)));have bo:=(BxL.new (w.alloc zIni5) #[.int .i64 0,.int .i64 0,.string ⟨#[]⟩,.string ⟨#[]⟩,.int .i64 0] 56).below E;have p0:=bz.get 0 _ rfl;have p1:=bz.get 1 _ rfl;have p2:=bz.get 2 _ rfl;have p3:=bz.get 3 _ rfl;have p4:=bz.get 4 _ rfl;have q0:=bo.get 0 _ rfl;have q1:=bo.get 1 _ rfl;have q2:=bo.get 2 _ rfl;have q3:=bo.get 3 _ rfl;have q4:=bo.get 4 _ rfl;simp only[alloc_size]at q0 q1 q2 q3 q4;have hlt0:=bz.1;have hlt1:=bo.1;simp only[alloc_size]at hlt1;have f0:=fun j=>(frz_below ((al (w.alloc zIni5) zIni5).trans (E.mono (by simp))) (b:=w.heap.size) (by simp) j).trans (frz_new w _ _ j)
     have EB:=hid (bel1 (bel1 E));clear bz bo;cases ok with
     | false=>
       have HZ:=hid (show r=none by rw[<-HD.out];exact initD_3 HP.out HO.out.no);go_wp2_with fail;exact bodyPost_ret (by first|(simp[results,Tryz.results22,go_sem,p0,p1,p2,p3,p4,tx_nil];done)|(simp[results,Tryz.results22,go_sem,p0,p1,p2,p3,p4,tx_nil];rfl)) rfl (RetIni.no HZ.out rfl (by(repeat(first|with_reducible refine Below.setCell ?_ (by first|(simp;done)|(simp;omega)) _|with_reducible refine Below.alloc ?_ (by first|(simp;done)|(simp;omega)) _));exact EB.out))
     | true=>
       by_cases c2:k2=0
       ·have HZ:=hid (show r=some ⟨x.thread,x.reg,x.loc,lc,vn⟩ by rw[<-HD.out];exact initD_5 HP.out (U0.out.trans rfl) HO.out.yes (KZ.out.1 c2))
        have zk2:((k2:Int) != 0)=false:=by simp;omega
        go_wp2_with fail;exact bodyPost_ret (by first|(simp[results,Tryz.results22,go_sem,p0,p1,p2,p3,p4];done)|(simp[results,Tryz.results22,go_sem,p0,p1,p2,p3,p4];rfl)) rfl (RetIni.yes HZ.out rfl (by(repeat(first|with_reducible refine Below.setCell ?_ (by first|(simp;done)|(simp;omega)) _|with_reducible refine Below.alloc ?_ (by first|(simp;done)|(simp;omega)) _));exact EB.out))
       ·have HZ:=hid (show r=none by rw[<-HD.out];exact initD_4 HP.out (fun h=>c2 (KZ.out.2 h)))
        have zk2:((k2:Int) != 0)=true:=by simp;omega
        go_wp2_with fail;exact bodyPost_ret (by first|(simp[results,Tryz.results22,go_sem,p0,p1,p2,p3,p4,tx_nil];done)|(simp[results,Tryz.results22,go_sem,p0,p1,p2,p3,p4,tx_nil];rfl)) rfl (RetIni.no HZ.out rfl (by(repeat(first|with_reducible refine Below.setCell ?_ (by first|(simp;done)|(simp;omega)) _|with_reducible refine Below.alloc ?_ (by first|(simp;done)|(simp;omega)) _));exact EB.out))
    ·have zu:=tx_ne _ _ g0
     have HZ:=hid (show r=none by rw[<-HD.out];exact initD_2 HP.out (by rw[U0.out];exact g0));have E:=E12.out;have bz:=(BxL.new w #[.int .i64 0,.int .i64 0,.string ⟨#[]⟩,.string ⟨#[]⟩,.int .i64 0] 56).below ((al (w.alloc zIni5) zIni5).trans (E.mono (by simp)));have bo:=(BxL.new (w.alloc zIni5) #[.int .i64 0,.int .i64 0,.string ⟨#[]⟩,.string ⟨#[]⟩,.int .i64 0] 56).below E;have p0:=bz.get 0 _ rfl;have p1:=bz.get 1 _ rfl;have p2:=bz.get 2 _ rfl;have p3:=bz.get 3 _ rfl;have p4:=bz.get 4 _ rfl;have q0:=bo.get 0 _ rfl;have q1:=bo.get 1 _ rfl;have q2:=bo.get 2 _ rfl;have q3:=bo.get 3 _ rfl;have q4:=bo.get 4 _ rfl;simp only[alloc_size]at q0 q1 q2 q3 q4;have hlt0:=bz.1;have hlt1:=bo.1;simp only[alloc_size]at hlt1;have f0:=fun j=>(frz_below ((al (w.alloc zIni5) zIni5).trans (E.mono (by simp))) (b:=w.heap.size) (by simp) j).trans (frz_new w _ _ j)
     have EB:=hid (bel1 (bel1 E));clear bz bo;go_wp2_with fail;exact bodyPost_ret (by first|(simp[results,Tryz.results22,go_sem,p0,p1,p2,p3,p4,tx_nil];done)|(simp[results,Tryz.results22,go_sem,p0,p1,p2,p3,p4,tx_nil];rfl)) rfl (RetIni.no HZ.out rfl (by(repeat(first|with_reducible refine Below.setCell ?_ (by first|(simp;done)|(simp;omega)) _|with_reducible refine Below.alloc ?_ (by first|(simp;done)|(simp;omega)) _));exact EB.out))
   ·have zk:((k0:Int) != 3)=true:=by simp;omega
    have HZ:=hid (show r=none by rw[<-HD.out];exact initD_2 HP.out (by rw[U0.out];intro h;exact c0 (by rw[<-K0.out,h];rfl)));have E:=E12.out;have bz:=(BxL.new w #[.int .i64 0,.int .i64 0,.string ⟨#[]⟩,.string ⟨#[]⟩,.int .i64 0] 56).below ((al (w.alloc zIni5) zIni5).trans (E.mono (by simp)));have bo:=(BxL.new (w.alloc zIni5) #[.int .i64 0,.int .i64 0,.string ⟨#[]⟩,.string ⟨#[]⟩,.int .i64 0] 56).below E;have p0:=bz.get 0 _ rfl;have p1:=bz.get 1 _ rfl;have p2:=bz.get 2 _ rfl;have p3:=bz.get 3 _ rfl;have p4:=bz.get 4 _ rfl;have q0:=bo.get 0 _ rfl;have q1:=bo.get 1 _ rfl;have q2:=bo.get 2 _ rfl;have q3:=bo.get 3 _ rfl;have q4:=bo.get 4 _ rfl;simp only[alloc_size]at q0 q1 q2 q3 q4;have hlt0:=bz.1;have hlt1:=bo.1;simp only[alloc_size]at hlt1;have f0:=fun j=>(frz_below ((al (w.alloc zIni5) zIni5).trans (E.mono (by simp))) (b:=w.heap.size) (by simp) j).trans (frz_new w _ _ j)
    have EB:=hid (bel1 (bel1 E));clear bz bo;go_wp2_with fail;exact bodyPost_ret (by first|(simp[results,Tryz.results22,go_sem,p0,p1,p2,p3,p4,tx_nil];done)|(simp[results,Tryz.results22,go_sem,p0,p1,p2,p3,p4,tx_nil];rfl)) rfl (RetIni.no HZ.out rfl (by(repeat(first|with_reducible refine Below.setCell ?_ (by first|(simp;done)|(simp;omega)) _|with_reducible refine Below.alloc ?_ (by first|(simp;done)|(simp;omega)) _));exact EB.out))
theorem r14Init(arch:Int)(ha:archB arch=true)(s:Tx)(w:World):Calls Tryz.prog 22 #[.int .i64 arch,.string (tx s)] w (RetIni (initR arch s) w):=by
 rcases Nat.lt_or_ge 262144 s.length with hl|hl
 ·exact r14Init_long arch s ha hl w
 ·exact r14Init_in arch s ha hl w
theorem ini_ext(x y:Ini):(x=y)<->(x.thread=y.thread/\x.reg=y.reg/\x.loc=y.loc/\x.vloc=y.vloc/\x.n=y.n):=by
 cases x;cases y;simp
theorem eqIni(x y:Ini)(w:World):(binOp .eql 56 (vIni x) (vIni y)).run Tryz.prog w= .ok (.bool (decide (x=y))) w:=by
 have hS:Tryz.prog.underlying 56=some (.struct (Tryz.prog.fieldsOf 56)):=by kernel_rfl
 have hp:Tryz.prog.stoodInHeld 56=false:=by kernel_rfl
 have hS2:Tryz.prog.underlying 54=some (.struct (Tryz.prog.fieldsOf 54)):=by kernel_rfl
 have hp2:Tryz.prog.stoodInHeld 54=false:=by kernel_rfl
 have a3:=Tryz.isAgg3;have z3:=Tryz.sizeOf3;have u3:=Tryz.underlying3;have a4:=Tryz.isAgg9;have z4:=Tryz.sizeOf9;have u4:=Tryz.underlying9;have a5:=Tryz.isAgg54;have z5:=Tryz.sizeOf54;have u5:=Tryz.underlying54;rw[run_eql_struct,show(10000:Nat)=9999+1 from rfl,run_equalIn_agg w 9999 56 _ _ hS hp];simp only[Program.fieldsOf,Tryz.underlying56]
 have hin: ∀w,(Op.equalIn 9999 54 (.agg #[.string (tx x.vloc),.int .i64 x.n]) (.agg #[.string (tx y.vloc),.int .i64 y.n])).run Tryz.prog w= .ok (decide (x.vloc=y.vloc/\x.n=y.n)) w:=fun w=>by
  rw[show(9999:Nat)=9998+1 from rfl,run_equalIn_agg w 9998 54 _ _ hS2 hp2];simp only[Program.fieldsOf,Tryz.underlying54]
  go_simp
  simp only[tx_toList]
  by_cases h1:x.vloc=y.vloc<;>by_cases h2:x.n=y.n<;>simp[h1,h2]
 go_simp
 rw[show decide (x=y)=decide (x.thread=y.thread/\x.reg=y.reg/\x.loc=y.loc/\x.vloc=y.vloc/\x.n=y.n)from decide_eq_decide.2 (ini_ext x y)];simp only[tx_toList]
 by_cases h1:x.thread=y.thread<;>by_cases h2:x.reg=y.reg<;>by_cases h6:x.loc=y.loc<;>by_cases h7:x.vloc=y.vloc<;>by_cases h8:x.n=y.n<;>simp[h1,h2,h6,h7,h8]
attribute [local go_sem high] eqI eqIni
def lnsV(s:Tx):List (Tx × Nat):=if 262144<s.length then[]else linesV s
def lnsE(s:Tx):Int:=if 262144<s.length then 2 else 0
theorem lnsV_len(s:Tx):(lnsV s).length<=262145:=by
 unfold lnsV;split
 ·simp
 ·have:=linesV_len s;omega
theorem RetLn.uni{s:Tx}{w w':World}{e:Ending}(h:RetLn s w e w'): ∃a c b d,e= .returned (.tuple #[.slice a (lnsV s).length c,.slice b (lnsV s).length d,.int .i64 (lnsE s)])/\OwnLn w' w.heap.size a c b d (lnsV s)/\Below w.heap.size w w':=by
 unfold lnsV lnsE;obtain⟨E,⟨hl,he⟩|⟨hl,a,c,b,d,he,ho⟩⟩:=h
 ·rw[if_pos hl,if_pos hl];exact⟨none,0,none,0,he,OwnLn.nil _ _,E⟩
 ·rw[if_neg (by omega),if_neg (by omega)];exact⟨a,c,b,d,he,ho,E⟩
structure Frz(m n:Nat)(u v:World):Prop where
 b: ∀k,m<=k->k<n->v.heap[k]? =u.heap[k]?
 s:n<=v.heap.size
theorem Frz.own{m:Nat}{u v:World}(h:Frz m u.heap.size u v){B E n c:Nat}{a:Option Addr}{xs:List Value}(ho:Own u B E 1 a n c xs)(hB:m<=B):Own v B E 1 a n c xs:=by
 obtain⟨h1,h2⟩:=ho;refine⟨h1,?_⟩;rcases h2 with⟨h2,rfl⟩|⟨g,cap,cur,hv,hg,hh,r⟩
 ·exact .inl ⟨h2,rfl⟩
 ·exact .inr ⟨g,cap,cur,hv,hg,(h.b g (by omega) (Array.getElem?_eq_some_iff.1 hh).1).trans hh,r⟩
structure Spl(B m N:Nat)(u:World)(n:Nat)(a:Option Addr)(c:Nat)(b:Option Addr)(d:Nat)(T I:List Value)(w:World):Prop where
 t:Own w B 9 1 a n c T
 i:Own w B 3 1 b n d I
 ap:Apart a b
 fa:a=none\/bk a<m\/N<=bk a
 fb:b=none\/bk b<m\/N<=bk b
 fz:Frz m N u w
 bel:Below B u w
theorem Frz.step{m n:Nat}{u v w:World}{a a':Option Addr}(h:Frz m n u v)(hs:Step v w a a')(hf:a=none\/bk a<m\/n<=bk a):Frz m n u w:=by
 refine⟨fun k h1 h2=>?_,Nat.le_trans h.s hs.grown.size⟩;refine(hs.grown.block k (by have:=h.s;omega) ?_).trans (h.b k h1 h2);cases a with
 |none=>simp
 | some x=>
   rcases hf with hf|hf|hf
   ·cases hf
   ·simp[bk]at hf ⊢; omega
   ·simp[bk]at hf ⊢; omega
theorem far_new{m N:Nat}{a a':Option Addr}{u w:World}(h:a=none\/bk a<m\/N<=bk a)(hn:a'=a\/w.heap.size<=bk a')(hN:N<=w.heap.size):a'=none\/bk a'<m\/N<=bk a':=by
 rcases hn with rfl|hn
 ·exact h
 ·exact .inr (.inr (by omega))
section
variable {B m N n c d:Nat} {a b:Option Addr} {T I:List Value} {u w:World}
theorem Spl.setI(h:Spl B m N u n a c b d T I w)(hb:b≠none)(hB:B<=u.heap.size)(j:Nat)(v:Value):Spl B m N u n a c b d T (I.set j v) (w.setCell ⟨bk b,fo b+j,none⟩ v):=by
 obtain⟨o,s⟩:=Own.set h.i hb j v;obtain⟨ot,ap⟩:=h.t.step s h.ap;exact⟨ot,o,ap,h.fa,h.fb,h.fz.step s h.fb,s.below h.i h.bel (Nat.le_trans hB h.bel.size)⟩
theorem Spl.setT(h:Spl B m N u n a c b d T I w)(ha:a≠none)(hB:B<=u.heap.size)(j:Nat)(v:Value):Spl B m N u n a c b d (T.set j v) I (w.setCell ⟨bk a,fo a+j,none⟩ v):=by
 obtain⟨o,s⟩:=Own.set h.t ha j v;obtain⟨oi,ap⟩:=h.i.step s h.ap.symm;exact⟨o,oi,ap.symm,h.fa,h.fb,h.fz.step s h.fa,s.below h.t h.bel (Nat.le_trans hB h.bel.size)⟩
theorem Spl.app(h:Spl B m N u n a c b d T I w)(hB:B<=u.heap.size){w3 w4:World}{a3 b4:Option Addr}{c3 d4:Nat}{x y:Value}
 (o4:Own w3 B 3 1 b4 (n+1) d4 (I++[x])) (g4:Grew w w3 b d b4 d4) (o3:Own w4 B 9 1 a3 (n+1) c3 (T++[y])) (g3:Grew w3 w4 a c a3 c3):Spl B m N u (n+1) a3 c3 b4 d4 (T++[y]) (I++[x]) w4:=by
 obtain⟨ot,ap⟩:=h.t.step g4.step h.ap;obtain⟨oi,ap2⟩:=o4.step g3.step ap.symm;have f1:=h.fz.step g4.step h.fb;have b1:=g4.step.below h.i h.bel (Nat.le_trans hB h.bel.size);exact⟨o3,oi,ap2.symm,far_new (u:=u) h.fa g3.step.new f1.s,far_new (u:=u) h.fb g4.step.new h.fz.s,f1.step g3.step h.fa,g3.step.below ot b1 (Nat.le_trans hB b1.size)⟩
theorem OwnLn.txs{L:List (Tx × Nat)}(h:OwnLn w B a c b d L)(hl:L.length<=262145):Txs w a (L.map (·.1))/\Ints w b (L.map fun x=>(x.2:Int)):=by
 refine⟨⟨?_,by simp;omega⟩,⟨?_,by simp;omega⟩⟩
 ·have:=Own.row h.t;unfold lnT at this;rwa[List.map_map]
 ·have:=Own.row h.i;unfold lnI at this;unfold ints;rwa[List.map_map]
end
theorem lawSame(l:List Tx)(a b:Option Addr)(c d n:Nat)(hn:l.length=n)(w:World)(h1:Txs w a l)(h2:Txs w b l)(hl:n<=1000000):Calls Tryz.prog 17 #[.slice a n c,.slice b n d] w (Ret w (.bool true)):=by
 have HN:=hid hn;have H1:=hid h1;have H2:=hid h2;clear hn h1 h2;go_enter Tryz.func17,Tryz.ntmps17;go_wp2_with fail
 go_loopw [5] (fun i wr=> ∃j:Nat,j<=n/\i= .int .i64 j/\Below w.heap.size w wr) (fun i _=>n-(intOf i).toNat)
 case atStart=>exact⟨0,by omega,rfl,Below.refl _ _⟩
 case round=>
  obtain⟨j,hj,rfl,E⟩:=hrel
  by_cases hjt:j<n
  ·obtain⟨x,hx⟩: ∃x,l[j]? =some x:=⟨_,List.getElem?_eq_getElem (by rw[HN.out];exact hjt)⟩
   have p0:=(H1.out.below E).cellq hx;have q0:=(H2.out.below E).cellq hx;have ix:=(H1.out.below E).idx j (by rw[HN.out];exact hjt) c;have iy:=(H2.out.below E).idx j (by rw[HN.out];exact hjt) d;rw[HN.out]at ix iy;have he:((tx x).toList==(tx x).toList)=true:=by simp
   clear hx;go_wp2_with fail;have p0:=cell_regrown p0;have q0:=cell_regrown q0;refine wp_region_quiet_below (by kernel_rfl) (by kernel_rfl) ?_
   repeat(go_big_quiet_step (fail))
   refine wpQuiet_nil ?_;intro _ hw';obtain⟨⟨dq,osq⟩,hw''⟩:=hw';subst hw'';have EQ:=below_regrown wr dq osq;generalize grow (redrawn wr dq) osq=W5 at*;have E:=E.trans (EQ.mono E.size);clear p0 q0 ix iy EQ;go_wp2_with fail
   go_roundw
   case rel=>exact⟨j+1,by omega,by go_num,E⟩
   case measure=>simp[intOf];omega
  ·go_wp2_with fail
   go_ret;exact⟨rfl,E⟩
theorem lawLike(l:List Int)(a b:Option Addr)(c d n:Nat)(hn:l.length=n)(w:World)(h1:Ints w a l)(h2:Ints w b l)(hl:n<=1000000):Calls Tryz.prog 18 #[.slice a n c,.slice b n d] w (Ret w (.bool true)):=by
 have HN:=hid hn;have H1:=hid h1;have H2:=hid h2;clear hn h1 h2;go_enter Tryz.func18,Tryz.ntmps18;go_wp2_with fail
 go_loopw [5] (fun i wr=> ∃j:Nat,j<=n/\i= .int .i64 j/\Below w.heap.size w wr) (fun i _=>n-(intOf i).toNat)
 case atStart=>exact⟨0,by omega,rfl,Below.refl _ _⟩
 case round=>
  obtain⟨j,hj,rfl,E⟩:=hrel
  by_cases hjt:j<n
  ·have hjl:j<l.length:=by rw[HN.out];exact hjt
   have p0:=(H1.out.below E).cell j hjl;have q0:=(H2.out.below E).cell j hjl;have ix:=(H1.out.below E).idx isl1 j hjl c;have iy:=(H2.out.below E).idx isl1 j hjl d;rw[HN.out]at ix iy;generalize l[j]=x at*;have he:(x==x)=true:=by simp
   clear hjl;go_wp2_with fail;have p0:=cell_regrown p0;have q0:=cell_regrown q0;refine wp_region_quiet_below (by kernel_rfl) (by kernel_rfl) ?_
   repeat(go_big_quiet_step (fail))
   refine wpQuiet_nil ?_;intro _ hw';obtain⟨⟨dq,osq⟩,hw''⟩:=hw';subst hw'';have EQ:=below_regrown wr dq osq;generalize grow (redrawn wr dq) osq=W5 at*;have E:=E.trans (EQ.mono E.size);clear p0 q0 ix iy EQ;go_wp2_with fail
   go_roundw
   case rel=>exact⟨j+1,by omega,by go_num,E⟩
   case measure=>simp[intOf];omega
  ·go_wp2_with fail
   go_ret;exact⟨rfl,E⟩
def iO(arch:Int)(s:Tx):Ins:=if archB arch=true then insO (insP arch s)else⟨0,0,0,0,0,[],[],0⟩
def iE(arch:Int)(s:Tx):Int:=if archB arch=true then errO (insP arch s)else 5
def nO(arch:Int)(s:Tx):Ini:=if archB arch=true then(initR arch s).getD ⟨0,0,[],[],0⟩else⟨0,0,[],[],0⟩
def nE(arch:Int)(s:Tx):Int:=if archB arch=true then(if(initR arch s).isSome=true then 0 else 140)else 5
theorem instrA(arch:Int)(s:Tx)(w:World)(g:Gl w):Calls Tryz.prog 19 #[.int .i64 arch,.string (tx s)] w (Ret w (.tuple #[vI (iO arch s),.int .i64 (iE arch s)])):=by
 unfold iO iE;cases h:archB arch
 ·exact readInstr_no arch h s w
 ·exact readInstr arch h s w g
theorem instrB(arch:Int)(s:Tx)(w:World)(g:Gl w):Calls Tryz.prog 20 #[.int .i64 arch,.string (tx s)] w (Ret w (.tuple #[vI (iO arch s),.int .i64 (iE arch s)])):=by
 have h:=r14Instr arch s w g;unfold iO iE
 split<;>rename_i h1
 ·rwa[if_pos h1]at h
 ·rwa[if_neg h1]at h
theorem RetIni.uni{arch:Int}{s:Tx}{w w':World}{e:Ending}(ha:archB arch=true)(h:RetIni (initR arch s) w e w'):Ret w (.tuple #[vIni (nO arch s),.int .i64 (nE arch s)]) e w':=by
 unfold nO nE;rw[if_pos ha,if_pos ha];obtain⟨E,h⟩:=h;cases hi:initR arch s with
 |none=>rw[hi]at h;exact⟨h,E⟩
 |some x=>rw[hi]at h;exact⟨h,E⟩
theorem initA(arch:Int)(s:Tx)(hs:s.length<=9223372036854775807)(w:World)(g:Gl w):Calls Tryz.prog 21 #[.int .i64 arch,.string (tx s)] w (Ret w (.tuple #[vIni (nO arch s),.int .i64 (nE arch s)])):=by
 cases h:archB arch
 ·unfold nO nE;rw[h];exact readInit_arch arch h s w
 ·exact(readInit arch h s hs w g).mono fun e w' hh=>hh.uni h
theorem initB(arch:Int)(s:Tx)(w:World):Calls Tryz.prog 22 #[.int .i64 arch,.string (tx s)] w (Ret w (.tuple #[vIni (nO arch s),.int .i64 (nE arch s)])):=by
 cases h:archB arch
 ·unfold nO nE;rw[h];exact r14Init_no arch s h w
 ·exact(r14Init arch h s w).mono fun e w' hh=>hh.uni h
theorem lawReadPieces(arch:Int)(s:Tx)(hs:s.length<=9223372036854775807)(w:World)(g:Gl w):Calls Tryz.prog 5 #[.int .i64 arch,.string (tx s)] w (Ret w (.bool true)):=by
 have HG:=hid g;have LA:=hid (fun w=>(readLines s w).mono fun e w' h=>h.uni);have LB:=hid (fun w=>(r14Lines s w).mono fun e w' h=>h.uni);have IA:=hid (fun w g=>instrA arch s w g);have IB:=hid (fun w g=>instrB arch s w g);have NA:=hid (fun w g=>initA arch s hs w g);have NB:=hid (fun w=>initB arch s w);have AW:=hid (fun w g=>awake14 w g);have hn:=lnsV_len s;generalize lnsV s=L at*;generalize lnsE s=er at*;generalize iO arch s=io at*;generalize iE arch s=ie at*;generalize nO arch s=no at*;generalize nE arch s=ne at*;obtain⟨n,hL⟩: ∃n,L.length=n:=⟨_,rfl⟩;have HL:=hid hL;rw[hL]at LA LB hn;have q1:(er != er)=false:=by simp
 clear g hs hL;go_enter Tryz.func5,Tryz.ntmps5;go_wp2_with fail;refine(LA.out _).mono ?_;rintro e w1 ⟨a,c,b,d,rfl,O1,E1⟩;have O1:=hid O1;go_wp2_with fail;refine(LA.out _).mono ?_;rintro e w2 ⟨a2,c2,b2,d2,rfl,O2,E2⟩;have O2:=hid O2;go_wp2_with fail;refine(LB.out _).mono ?_;rintro e w3 ⟨a3,c3,b3,d3,rfl,O3,E3⟩;have T1:=hid ((O1.out.below (E2.trans (E3.mono E2.size))).txs (by rw[HL.out];exact hn));have T2:=hid ((O2.out.below E3).txs (by rw[HL.out];exact hn));have T3:=hid (O3.txs (by rw[HL.out];exact hn));have O3:=hid O3;go_wp2_with fail;refine(lawSame _ a a3 c c3 n (by rw[List.length_map,HL.out]) _ T1.out.1 T3.out.1 (by omega)).mono ?_;rintro e w4 ⟨rfl,E4⟩;go_wp2_with fail;refine(lawSame _ a2 a3 c2 c3 n (by rw[List.length_map,HL.out]) _ (T2.out.1.below E4) (T3.out.1.below E4) (by omega)).mono ?_;rintro e w5 ⟨rfl,E5⟩;have E45:=E4.trans (E5.mono E4.size);go_wp2_with fail;refine(lawLike _ b b3 d d3 n (by rw[List.length_map,HL.out]) _ (T1.out.2.below E45) (T3.out.2.below E45) (by omega)).mono ?_;rintro e w6 ⟨rfl,E6⟩;have E46:=E45.trans (E6.mono E45.size);have hw1:=E1.size;have hw2:=E2.size;have hw3:=E3.size;have hw6:=E46.size;have E13:=E2.trans (E3.mono E2.size)
 have S0:Spl w.heap.size w1.heap.size w6.heap.size w6 n a c b d (lnT L) (lnI L) w6:=by
  have o:=(O1.out.below E13).below E46;refine⟨HL.out▸o.t,HL.out▸o.i,o.ap,?_,?_,⟨fun _ _ _=>rfl,Nat.le_refl _⟩,Below.refl _ _⟩
  ·cases a with
   |none=>exact .inl rfl
   |some x=>exact .inr (.inl (Own.lt O1.out.t (by simp)).2)
  ·cases b with
   |none=>exact .inl rfl
   |some x=>exact .inr (.inl (Own.lt O1.out.i (by simp)).2)
 have hB6:w.heap.size<=w6.heap.size:=by omega
 have EW:=hid ((E1.trans (E13.mono hw1)).trans (E46.mono (by omega)));have F2:=hid (And.intro ((O2.out.below E3).below E46) (O3.out.below E46));have S0:=hid S0;clear E1 E2 E3 E4 E5 E45 E6 E13 E46 O1 O2 O3 T1 T2 T3;go_wp2_with fail
 go_loopw [14] (fun i wr=> ∃(j:Nat) (T I:List Value),j<=n/\i= .int .i64 j/\T.length=n/\I.length=n/\Hid (Spl w.heap.size w1.heap.size w6.heap.size w6 n a c b d T I wr)) (fun i _=>n-(intOf i).toNat)
 case atStart=>exact⟨0,_,_,Nat.zero_le _,rfl,by unfold lnT;rw[List.length_map,HL.out],by unfold lnI;rw[List.length_map,HL.out],S0⟩
 case round=>
  obtain⟨j,T,I,hj,rfl,hT,hI,S⟩:=hrel;have HT:=hid hT;have HI:=hid hI;clear hT hI
  by_cases hjt:j<n
  ·have ha:=Own.some S.out.t (by omega)
   have hb:=Own.some S.out.i (by omega);have ix:=run_idx (c:=c) (n:=n) (m:=1) (Own.row S.out.t) txl.und txl.cells txl.isSome (by rw[HT.out];omega) (by omega) j hjt .i64;have iy:=run_idx (c:=d) (n:=n) (m:=1) (Own.row S.out.i) isl1.und isl1.cells isl1.isSome (by rw[HI.out];omega) (by omega) j hjt .i64;rw[Nat.mul_one]at ix iy;have f0:=Own.frozen S.out.i hb j;have p0:=(Own.row S.out.i).cell j (by rw[HI.out];exact hjt);obtain⟨xi,hxi⟩: ∃x,I[j]? =some x:=⟨_,List.getElem?_eq_getElem (by rw[HI.out];exact hjt)⟩;rw[hxi]at p0;clear hxi;have S1:=S.out.setI hb hB6 j (.int .i64 (-7));have f1:=Own.frozen S1.t ha j;have p1:=(Own.row S1.t).cell j (by rw[HT.out];exact hjt);obtain⟨xt,hxt⟩: ∃x,T[j]? =some x:=⟨_,List.getElem?_eq_getElem (by rw[HT.out];exact hjt)⟩;rw[hxt]at p1;clear hxt;have S2:=hid (S1.setT ha hB6 j (.string ⟨#[115,112,111,105,108,116]⟩));clear ha hb S1;go_wp2_with fail
   go_roundw
   case rel=>exact⟨j+1,_,_,hjt,by go_num,by rw[List.length_set];exact HT.out,by rw[List.length_set];exact HI.out,S2⟩
   case measure=>simp[intOf];omega
  have HP:=hid S;go_wp2_with fail
  go_loopw [5,6,15] (fun p q i wr=> ∃(j:Nat) (a:Option Addr) (c:Nat) (b:Option Addr) (d:Nat) (T I:List Value),j<=30/\i= .int .i64 j/\p= .slice a (n+j) c/\q= .slice b (n+j) d/\Hid (Spl w.heap.size w1.heap.size w6.heap.size w6 (n+j) a c b d T I wr)) (fun _ _ i _=>30-(intOf i).toNat)
  case atStart=>exact⟨0,a,c,b,d,T,I,by omega,rfl,rfl,rfl,HP⟩
  case round=>
   clear HP S;obtain⟨j,a,c,b,d,T,I,hj,rfl,rfl,rfl,S⟩:=hrel
   by_cases hjt:j<30
   ·have o1:=S.out.i
    have hwr:=Nat.le_trans hB6 S.out.bel.size
    go_wp2_with (at_builtin;go_loud(refine wpList_app1 isl1 (.tmp 79) (.tmp 80) rfl rfl rfl o1 rfl rfl (by intro u hu;simp at hu;subst hu;rfl) (Below.refl _ _) hwr (by omega) (by unfold maxLen;omega) ?_))
    intro b4 d4 w7 o4 g4 B4;have o2:=(S.out.t.step g4.step S.out.ap).1;have hw7:=Nat.le_trans hwr B4.size;have o4:=hid o4;clear o1
    go_wp2_with (at_builtin;go_loud(refine wpList_app1 txl (.tmp 82) (.tmp 83) rfl rfl rfl o2 rfl rfl (by intro u hu;simp at hu;subst hu;rfl) (Below.refl _ _) hw7 (by omega) (by unfold maxLen;omega) ?_))
    intro a4 c4 w8 o5 g5 B5;have S4:=hid (S.out.app hB6 o4.out g4 o5 g5);clear o2 o4 o5 g4 g5 B4 B5;go_wp2_with fail
    go_roundw
    case rel=>exact⟨j+1,a4,c4,b4,d4,_,_,hjt,by go_num,rfl,rfl,S4⟩
    case measure=>simp[intOf];omega
   have EW:=hid (EW.out.trans S.out.bel);have fz:=S.out.fz;have F2:=hid (show OwnLn wr w1.heap.size a2 c2 b2 d2 L/\OwnLn wr w2.heap.size a3 c3 b3 d3 L from⟨⟨fz.own F2.out.1.t (Nat.le_refl _),fz.own F2.out.1.i (Nat.le_refl _),F2.out.1.ap⟩,⟨fz.own F2.out.2.t hw2,fz.own F2.out.2.i hw2,F2.out.2.ap⟩⟩);clear S fz LA LB S0;go_wp2_with fail;refine(IA.out _ (HG.out.below EW.out)).mono ?_;rintro e v1 ⟨rfl,D1⟩;have D1:=hid (ext_trans D1 (al v1 (mkI io)));have c1b:=hid (BxI.new v1 io);go_wp2_with fail;refine(IB.out _ (HG.out.below (EW.out.trans (D1.out.mono EW.out.size)))).mono ?_;rintro e v2 ⟨rfl,D2⟩;have D2:=hid (D2.trans ((al v2 (mkI io)).mono D2.size));have c2b:=hid (BxI.new v2 io);have D12:=hid (D1.out.trans (D2.out.mono D1.out.size));go_wp2_with fail;refine(NA.out _ (HG.out.below (EW.out.trans (D12.out.mono EW.out.size)))).mono ?_;rintro e v3 ⟨rfl,D3⟩;have D3:=hid (D3.trans ((al v3 (.cells #[.int .i64 no.thread,.int .i64 no.reg,.string (tx no.loc),.string (tx no.vloc),.int .i64 no.n] 56)).mono D3.size));have c3b:=hid (BxL.new v3 #[.int .i64 no.thread,.int .i64 no.reg,.string (tx no.loc),.string (tx no.vloc),.int .i64 no.n] 56);have D13:=hid (D12.out.trans (D3.out.mono D12.out.size));go_wp2_with fail;refine(NB.out _).mono ?_;rintro e v4 ⟨rfl,D4⟩;have D4:=hid (D4.trans ((al v4 (.cells #[.int .i64 no.thread,.int .i64 no.reg,.string (tx no.loc),.string (tx no.vloc),.int .i64 no.n] 56)).mono D4.size));have c4b:=hid (BxL.new v4 #[.int .i64 no.thread,.int .i64 no.reg,.string (tx no.loc),.string (tx no.vloc),.int .i64 no.n] 56)
   have D14:=hid (D13.out.trans (D4.out.mono D13.out.size));have T2:=hid ((F2.out.1.below D14.out).txs (by rw[HL.out];exact hn));have T3:=hid ((F2.out.2.below D14.out).txs (by rw[HL.out];exact hn));go_wp2_with fail;refine(lawLike _ b2 b3 d2 d3 n (by rw[List.length_map,HL.out]) _ T2.out.2 T3.out.2 (by omega)).mono ?_;rintro e v5 ⟨rfl,D5⟩;go_wp2_with fail;refine(lawSame _ a2 a3 c2 c3 n (by rw[List.length_map,HL.out]) _ (T2.out.1.below D5) (T3.out.1.below D5) (by omega)).mono ?_;rintro e v6 ⟨rfl,D6⟩;have D56:=D5.trans (D6.mono D5.size);have G46:=hid (D4.out.trans (D56.mono D4.out.size));have G36:=hid (D3.out.trans (G46.out.mono D3.out.size));have G26:=hid (D2.out.trans (G36.out.mono D2.out.size));obtain⟨p0,p1,p2,p3,p4,p5,p6,p7⟩:=(c1b.out.below G26.out).cells;obtain⟨q0,q1,q2,q3,q4,q5,q6,q7⟩:=(c2b.out.below G36.out).cells;have x3:=c3b.out.below G46.out;have x4:=c4b.out.below D56;have r0:=x3.get 0 _ rfl;have r1:=x3.get 1 _ rfl;have r2:=x3.get 2 _ rfl;have r3:=x3.get 3 _ rfl;have r4:=x3.get 4 _ rfl;have s0:=x4.get 0 _ rfl;have s1:=x4.get 1 _ rfl;have s2:=x4.get 2 _ rfl;have s3:=x4.get 3 _ rfl;have s4:=x4.get 4 _ rfl;have q3i:(ie==ie)=true:=by simp
   have q4i:(ne==ne)=true:=by simp
   have EV:=hid (EW.out.trans ((D14.out.trans (D56.mono D14.out.size)).mono EW.out.size));have AW:=hid (AW.out _ (HG.out.below EV.out));clear D5 D6 D56 x3 x4;go_wp2_with fail;refine AW.out.mono ?_;rintro e v7 ⟨rfl,D7⟩;go_wp2_with fail;go_ret;exact⟨rfl,EV.out.trans (D7.mono EV.out.size)⟩
end Go.Proofs.YtkbbgjloifmmbaaGreatDoor

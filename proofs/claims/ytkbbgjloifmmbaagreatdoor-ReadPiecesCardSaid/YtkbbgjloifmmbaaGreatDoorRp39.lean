/- What ReadPiecesP leans on, part 39. -/
import Derived.Test.YtkbbgjloifmmbaaGreatDoorRp38
set_option linter.unusedVariables false
set_option maxRecDepth 100000
set_option maxHeartbeats 6400000
namespace Go.Proofs.YtkbbgjloifmmbaaGreatDoor
open Go.RowKit Go.Sort
abbrev tkV(N:Nat)(l:List Tok):Value:=.tuple #[.int .i64 (kindT (headS l)),.string (tx (headS l)),.int .i64 (stopAt N l),.int .i64 (nextT N l)]
theorem r08Token{s:Tx}(hl:s.length<=262144){i:Nat}(hi:i<=s.length)(w:World):Calls Tryz.prog 54 #[.string (tx s),.int .i64 i] w (Ret w (tkV s.length (lex i (s.drop i)))):=by
 have TK:=hid (fun w=>r08Tok (s:=s) hl hi w);generalize lex i (s.drop i)=l at*;obtain⟨k,hk⟩: ∃k,kindT (headS l)=k:=⟨_,rfl⟩;obtain⟨u,hu⟩: ∃u,tx (headS l)=u:=⟨_,rfl⟩;obtain⟨p,hp⟩: ∃p,stopAt s.length l=p:=⟨_,rfl⟩;obtain⟨n,hn⟩: ∃n,nextT s.length l=n:=⟨_,rfl⟩;unfold tkV;unfold vTd vTk at TK;rw[hk,hu,hp,hn]at TK⊢;clear hk hu hp hn;go_enter Tryz.func54,Tryz.ntmps54;go_wp2_with fail;refine(TK.out _).mono ?_;rintro e w1 ⟨rfl,E⟩
 go_upto_region 2 with(fail)
 have b0:=BxL.new w1 #[.int .i64 k,.string u,.int .i64 p,.int .i64 n] 145;have p0:=b0.get 0 _ rfl;have p1:=b0.get 1 _ rfl;have p2:=b0.get 2 _ rfl;have p3:=b0.get 3 _ rfl;have hlt:=b0.1;clear b0
 go_region
 all_goals go_wp2_with fail
 all_goals exact bodyPost_ret (by simp[results,Tryz.results54,go_sem]) rfl ⟨rfl,bel_drew (bel_alloc E _)⟩
def TkC(s:Tx)(i:Int)(k:Nat)(u:Tx)(p n:Nat):Prop:= ∀w,Calls Tryz.prog 54 #[.string (tx s),.int .i64 i] w (Ret w (.tuple #[.int .i64 k,.string (tx u),.int .i64 p,.int .i64 n]))
theorem tk_at{s:Tx}{l:List Tok}{i:Nat}(hl:s.length<=262144)(hi:i<=s.length)(h:lex i (s.drop i)=l):TkC s i (kindT (headS l)) (headS l) (stopAt s.length l) (nextT s.length l)/\nextT s.length l<=s.length/\lex (nextT s.length l) (s.drop (nextT s.length l))=l.tail/\(headS l).length<=s.length:=by
 have X:Lx s l:=⟨i,hi,h⟩;exact⟨fun w=>by rw[<-h];exact r08Token hl hi w,X.next.1,X.next.2,X.headS⟩
def RetVa(o:Option (Tx × Int))(nx:Nat)(w:World)(e:Ending)(w':World):Prop:=Below w.heap.size w w'/\ ∃lc n ok,e= .returned (.tuple #[.agg #[.string (tx lc),.int .i64 n],.int .i64 nx,.bool ok])/\OptV o (lc,n) ok
theorem RetVa.mk{o:Option (Tx × Int)}{nx:Nat}{w w':World}{e:Ending}{lc:Tx}{n:Int}{ok:Bool}(ho:OptV o (lc,n) ok)(he:e= .returned (.tuple #[.agg #[.string (tx lc),.int .i64 n],.int .i64 nx,.bool ok]))(hb:Below w.heap.size w w'):RetVa o nx w e w':=⟨hb,lc,n,ok,he,ho⟩
theorem valZ_k2{u:Tx}(k:kindT u=2):valZ u=(numR u).map fun n=>([],n):=by
 unfold valZ;cases numR u with
 |some n=>rfl
 |none=>simp only;rw[if_neg (by rw[name_no2 k];decide)];rfl
theorem valZ_no2{u:Tx}(k:kindT u≠2):valZ u=if nameB u=true then some (u,0)else none:=by
 unfold valZ;rw[numR_no k]
theorem r08NumO(s:Tx): ∃v ok,OptV (numR s) v ok/\ ∀w,Calls Tryz.prog 116 #[.string (tx s)] w (Ret w (.tuple #[.int .i64 v,.bool ok])):=
 ⟨(numR s).getD 0,(numR s).isSome,by unfold OptV;cases numR s<;>rfl,fun w=>(r08NumR s w).mono fun e w' ⟨h,h2⟩=>⟨h,by subst h2;exact Below.refl _ _⟩⟩
theorem bel1{w w1:World}{o:Obj}(E:Below (w.alloc o).heap.size (w.alloc o) w1):Below w.heap.size w w1:=(al w o).trans (E.mono (by simp))
theorem r14Value{s:Tx}{l:List Tok}{i:Nat}(hl:s.length<=262144)(hi:i<=s.length)(h:lex i (s.drop i)=l)(w:World):Calls Tryz.prog 55 #[.string (tx s),.int .i64 i] w (RetVa (valZ (headS l)) (nextT s.length l) w):=by
 obtain⟨T1,-, -, hul⟩:=tk_at hl hi h;have TK:=hid T1;unfold TkC at TK;obtain⟨u,hu⟩: ∃u,headS l=u:=⟨_,rfl⟩;obtain⟨p,hp⟩: ∃p,stopAt s.length l=p:=⟨_,rfl⟩;obtain⟨n,hn⟩: ∃n,nextT s.length l=n:=⟨_,rfl⟩;rw[hu,hp,hn]at TK;rw[hu,hn];rw[hu]at hul;obtain⟨k,hk⟩: ∃k,kindT u=k:=⟨_,rfl⟩;rw[hk]at TK;obtain⟨v,ok,HO,NU⟩:=r08NumO u;have NU:=hid NU;have HO:=hid HO;have NA:=hid (fun w=>r08Named u (by omega) w);clear T1 hu hp hn h hi;go_enter Tryz.func55,Tryz.ntmps55;go_wp2_with fail;refine(TK.out _).mono ?_;rintro e w1 ⟨rfl,E1⟩
 by_cases k2:k=2
 ·have zk:((k:Int)==2)=true:=by rw[k2];rfl
  have HV:=hid (valZ_k2 (hk.trans k2));clear k2;go_wp2_with fail;refine(NU.out _).mono ?_;rintro e w2 ⟨rfl,E2⟩;have E:=ext_trans E1 E2;have bz:=(BxL.new w #[.string ⟨#[]⟩,.int .i64 0] 54).below ((al (w.alloc (.cells #[.string ⟨#[]⟩,.int .i64 0] 54)) (.cells #[.string ⟨#[]⟩,.int .i64 0] 54)).trans (E.mono (by simp)));have p0:=bz.get 0 _ rfl;have p1:=bz.get 1 _ rfl;have bo:=(BxL.new (w.alloc (.cells #[.string ⟨#[]⟩,.int .i64 0] 54)) #[.string ⟨#[]⟩,.int .i64 0] 54).below E;have q0:=bo.get 0 _ rfl;have q1:=bo.get 1 _ rfl;simp only[alloc_size]at q0 q1;have hlt0:=bz.1;have hlt1:=bo.1;simp only[alloc_size]at hlt1;have f0:=fun j=>(frz_below ((al (w.alloc (.cells #[.string ⟨#[]⟩,.int .i64 0] 54)) (.cells #[.string ⟨#[]⟩,.int .i64 0] 54)).trans (E.mono (by simp))) (b:=w.heap.size) (by simp) j).trans (frz_new w _ _ j)
  have EB:=hid (bel1 (bel1 E));clear bz bo;go_wp2_with fail;exact bodyPost_ret (by first|(simp[results,Tryz.results55,go_sem,p0,p1];done)|(simp[results,Tryz.results55,go_sem,p0,p1];rfl)) rfl (RetVa.mk (lc:=[]) (n:=v) (ok:=ok) (by unfold OptV;rw[HV.out,HO.out];cases ok<;>rfl) (by first|rfl|(rw[tx_nil])) (by(repeat(first|with_reducible refine Below.setCell ?_ (by simp) _|with_reducible refine Below.setCell ?_ (by simp<;>omega) _));exact EB.out))
 ·have zk:((k:Int)==2)=false:=by simp;omega
  have HV:=hid (valZ_no2 (by rw[hk];exact k2));cases hn:nameB u with
  | false=>
    rw[hn]at NA HV;have HV:=hid (show valZ u=none from HV.out);have bz:=(BxL.new w #[.string ⟨#[]⟩,.int .i64 0] 54).below ((al (w.alloc (.cells #[.string ⟨#[]⟩,.int .i64 0] 54)) (.cells #[.string ⟨#[]⟩,.int .i64 0] 54)).trans (E1.mono (by simp)));have p0:=bz.get 0 _ rfl;have p1:=bz.get 1 _ rfl;have bo:=(BxL.new (w.alloc (.cells #[.string ⟨#[]⟩,.int .i64 0] 54)) #[.string ⟨#[]⟩,.int .i64 0] 54).below E1;have q0:=bo.get 0 _ rfl;have q1:=bo.get 1 _ rfl;simp only[alloc_size]at q0 q1;have hlt0:=bz.1;have hlt1:=bo.1;simp only[alloc_size]at hlt1;have f0:=fun j=>(frz_below ((al (w.alloc (.cells #[.string ⟨#[]⟩,.int .i64 0] 54)) (.cells #[.string ⟨#[]⟩,.int .i64 0] 54)).trans (E1.mono (by simp))) (b:=w.heap.size) (by simp) j).trans (frz_new w _ _ j)
    have EB:=hid (bel1 (bel1 E1));clear bz bo
    by_cases k1:k=1
    ·have zk1:((k:Int) != 1)=false:=by simp;omega
     clear hn hk k2
     go_wp2_with (go_at_call 118;refine(NA.out _).mono ?_;rintro e w' ⟨rfl,rfl⟩)
     go_wp2_with fail;exact bodyPost_ret (by first|(simp[results,Tryz.results55,go_sem,p0,p1];done)|(simp[results,Tryz.results55,go_sem,p0,p1];rfl)) rfl (RetVa.mk (lc:=[]) (n:=0) (ok:=false) HV.out (by first|rfl|(rw[tx_nil])) (by(repeat(first|with_reducible refine Below.setCell ?_ (by simp) _|with_reducible refine Below.setCell ?_ (by simp<;>omega) _));exact EB.out))
    ·have zk1:((k:Int) != 1)=true:=by simp;omega
     clear hn hk k2;go_wp2_with fail;exact bodyPost_ret (by first|(simp[results,Tryz.results55,go_sem,p0,p1];done)|(simp[results,Tryz.results55,go_sem,p0,p1];rfl)) rfl (RetVa.mk (lc:=[]) (n:=0) (ok:=false) HV.out (by first|rfl|(rw[tx_nil])) (by(repeat(first|with_reducible refine Below.setCell ?_ (by simp) _|with_reducible refine Below.setCell ?_ (by simp<;>omega) _));exact EB.out))
  | true=>
    rw[hn]at NA HV;have HV:=hid (show valZ u=some (u,0)from HV.out);have k1:k=1:=by rw[<-hk];exact kind_name hn
    have zk1:((k:Int) != 1)=false:=by simp;omega
    have bz:=(BxL.new w #[.string ⟨#[]⟩,.int .i64 0] 54).below ((al (w.alloc (.cells #[.string ⟨#[]⟩,.int .i64 0] 54)) (.cells #[.string ⟨#[]⟩,.int .i64 0] 54)).trans (E1.mono (by simp)));have p0:=bz.get 0 _ rfl;have p1:=bz.get 1 _ rfl;have bo:=(BxL.new (w.alloc (.cells #[.string ⟨#[]⟩,.int .i64 0] 54)) #[.string ⟨#[]⟩,.int .i64 0] 54).below E1;have q0:=bo.get 0 _ rfl;have q1:=bo.get 1 _ rfl;simp only[alloc_size]at q0 q1;have hlt0:=bz.1;have hlt1:=bo.1;simp only[alloc_size]at hlt1;have f0:=fun j=>(frz_below ((al (w.alloc (.cells #[.string ⟨#[]⟩,.int .i64 0] 54)) (.cells #[.string ⟨#[]⟩,.int .i64 0] 54)).trans (E1.mono (by simp))) (b:=w.heap.size) (by simp) j).trans (frz_new w _ _ j)
    have EB:=hid (bel1 (bel1 E1));clear bz bo;clear hn hk k2
    go_wp2_with (go_at_call 118;refine(NA.out _).mono ?_;rintro e w' ⟨rfl,rfl⟩)
    go_wp2_with fail;exact bodyPost_ret (by first|(simp[results,Tryz.results55,go_sem,p0,p1];done)|(simp[results,Tryz.results55,go_sem,p0,p1];rfl)) rfl (RetVa.mk (lc:=u) (n:=0) (ok:=true) HV.out (by first|rfl|(rw[tx_nil])) (by(repeat(first|with_reducible refine Below.setCell ?_ (by simp) _|with_reducible refine Below.setCell ?_ (by simp<;>omega) _));exact EB.out))
def RetThg(p:Option (Ini × List Tok))(s:Tx)(w:World)(e:Ending)(w':World):Prop:=Below w.heap.size w w'/\match p with
 |some (x,r)=> ∃nx:Nat,nx<=s.length/\lex nx (s.drop nx)=r/\e= .returned (.tuple #[vIni x,.int .i64 nx,.bool true])
 |none=> ∃(y:Ini) (nx:Nat),e= .returned (.tuple #[vIni y,.int .i64 nx,.bool false])
theorem RetThg.no{p:Option (Ini × List Tok)}{s:Tx}{w w':World}{e:Ending}(hp:p=none)(y:Ini)(nx:Nat)(he:e= .returned (.tuple #[vIni y,.int .i64 nx,.bool false]))(hb:Below w.heap.size w w'):RetThg p s w e w':=by subst hp;exact⟨hb,y,nx,he⟩
theorem RetThg.yes{p:Option (Ini × List Tok)}{s:Tx}{w w':World}{e:Ending}{x:Ini}{r:List Tok}(hp:p=some (x,r))(nx:Nat)(h1:nx<=s.length)(h2:lex nx (s.drop nx)=r)(he:e= .returned (.tuple #[vIni x,.int .i64 nx,.bool true]))(hb:Below w.heap.size w w'):RetThg p s w e w':=by subst hp;exact⟨hb,nx,h1,h2,he⟩
section
variable {arch:Int} {l:List Tok}
theorem thD_1(k:kindT (headS l)=2)(h:numR (headS l)=none):thingD arch l=none:=by
 unfold thingD;rw[if_pos k,h];split<;>rfl
theorem thD_2(k:kindT (headS l)=2){v:Int}(h:numR (headS l)=some v)(h2: ¬(0<=v/\v<16)):thingD arch l=none:=by
 unfold thingD;rw[if_pos k,h];split
 ·cases regOfA arch (headS l.tail.tail)with
  |none=>rfl
  |some r=>exact if_neg h2
 ·rfl
theorem thD_3(k:kindT (headS l)=2)(h:headS l.tail≠[58]):thingD arch l=none:=by
 unfold thingD;rw[if_pos k,if_neg h]
theorem thD_4(k:kindT (headS l)=2)(h:regOfA arch (headS l.tail.tail)=none):thingD arch l=none:=by
 unfold thingD;rw[if_pos k,h];split
 ·cases numR (headS l)<;>rfl
 ·rfl
theorem thD_5(k:kindT (headS l)=2){v:Int}{r:Nat}(h:numR (headS l)=some v)(h2:0<=v/\v<16)(h3:headS l.tail=[58])(h4:regOfA arch (headS l.tail.tail)=some r):thingD arch l=some (⟨v,r,[],[],0⟩,l.tail.tail.tail):=by
 unfold thingD;rw[if_pos k,if_pos h3,h,h4];exact if_pos h2
theorem thD_6(h:headS l=[91])(h2: ¬(nameB (headS l.tail)=true/\headS l.tail.tail=[93])):thingD arch l=none:=by
 unfold thingD;rw[if_neg (by rw[h];decide),if_pos h,if_neg h2]
theorem thD_7(h:headS l=[91])(h2:nameB (headS l.tail)=true/\headS l.tail.tail=[93]):thingD arch l=some (⟨-1,0,headS l.tail,[],0⟩,l.tail.tail.tail):=by
 unfold thingD;rw[if_neg (by rw[h];decide),if_pos h,if_pos h2]
theorem thD_8(k:kindT (headS l)≠2)(h:headS l≠[91])(h2:nameB (headS l)=false):thingD arch l=none:=by
 unfold thingD;rw[if_neg k,if_neg h,if_neg (by rw[h2];decide)]
theorem thD_9(k:kindT (headS l)≠2)(h:headS l≠[91])(h2:nameB (headS l)=true):thingD arch l=some (⟨-1,0,headS l,[],0⟩,l.tail):=by
 unfold thingD;rw[if_neg k,if_neg h,if_pos h2]
end
theorem r14Thing{s:Tx}(arch:Int)(hl:s.length<=262144)(w:World):Calls Tryz.prog 53 #[.int .i64 arch,.string (tx s)] w (RetThg (thingD arch (lex 0 s)) s w):=by
 obtain⟨l,hL⟩: ∃l,lex 0 s=l:=⟨_,rfl⟩;rw[hL];obtain⟨T0,m1,e1,b0⟩:=tk_at (i:=0) hl (Nat.zero_le _) (show lex 0 (s.drop 0)=l by rw[List.drop_zero];exact hL);obtain⟨T1,m2,e2,b1⟩:=tk_at hl m1 e1;obtain⟨T2,m3,e3,b2⟩:=tk_at hl m2 e2;have T0:=hid T0;have T1:=hid T1;have T2:=hid T2;unfold TkC at T0 T1 T2;have M1:=hid m1;have M3:=hid m3;have X1:=hid e1;have X3:=hid e3;obtain⟨n1,hn1⟩: ∃n,nextT s.length l=n:=⟨_,rfl⟩;obtain⟨n2,hn2⟩: ∃n,nextT s.length l.tail=n:=⟨_,rfl⟩;obtain⟨n3,hn3⟩: ∃n,nextT s.length l.tail.tail=n:=⟨_,rfl⟩;obtain⟨u0,hu0⟩: ∃u,headS l=u:=⟨_,rfl⟩;obtain⟨u1,hu1⟩: ∃u,headS l.tail=u:=⟨_,rfl⟩;obtain⟨u2,hu2⟩: ∃u,headS l.tail.tail=u:=⟨_,rfl⟩;generalize stopAt s.length l=q0p at*;generalize stopAt s.length l.tail=q1p at*;generalize stopAt s.length l.tail.tail=q2p at*;rw[hn1]at T0 T1 M1 X1;rw[hn2]at T1 T2;rw[hn3]at T2 M3 X3;rw[hu0]at T0 b0;rw[hu1]at T1 b1;rw[hu2]at T2 b2;have D1:=hid (fun k h=>thD_1 (arch:=arch) (l:=l) k h);have D2:=hid (fun k v h h2=>thD_2 (arch:=arch) (l:=l) k (v:=v) h h2);have D3:=hid (fun k h=>thD_3 (arch:=arch) (l:=l) k h);have D4:=hid (fun k h=>thD_4 (arch:=arch) (l:=l) k h);have D5:=hid (fun k v r h h2 h3 h4=>thD_5 (arch:=arch) (l:=l) k (v:=v) (r:=r) h h2 h3 h4);have D6:=hid (fun h h2=>thD_6 (arch:=arch) (l:=l) h h2);have D7:=hid (fun h h2=>thD_7 (arch:=arch) (l:=l) h h2);have D8:=hid (fun k h h2=>thD_8 (arch:=arch) (l:=l) k h h2);have D9:=hid (fun k h h2=>thD_9 (arch:=arch) (l:=l) k h h2);rw[hu0]at D1 D2 D3 D4 D5 D6 D7 D8 D9;rw[hu1]at D3 D5 D6 D7;rw[hu2]at D4 D5 D6 D7
 generalize thingD arch l=pp at*;obtain⟨k0,hk0⟩: ∃k,kindT u0=k:=⟨_,rfl⟩;obtain⟨k1,hk1⟩: ∃k,kindT u1=k:=⟨_,rfl⟩;obtain⟨k2,hk2⟩: ∃k,kindT u2=k:=⟨_,rfl⟩;rw[hk0]at T0 D1 D2 D3 D4 D5 D8 D9;rw[hk1]at T1;rw[hk2]at T2;have K0:=hid hk0;have K1:=hid hk1;have K2:=hid hk2;obtain⟨v,ok,HO,NU⟩:=r08NumO u0;have NU:=hid NU;have HO:=hid HO;have NA0:=hid (fun w=>r08Named u0 (by omega) w);have NA1:=hid (fun w=>r08Named u1 (by omega) w);have RO:=hid (fun w=>r08RegOf arch u2 w);clear hL m1 e1 m2 e2 m3 e3 hn1 hn2 hn3 hu0 hu1 hu2 hk0 hk1 hk2 b0 b1 b2 hl;go_enter Tryz.func53,Tryz.ntmps53;go_wp2_with fail;refine(T0.out _).mono ?_;rintro e w1 ⟨rfl,E1⟩
 by_cases c0:k0=2
 ·have zk:((k0:Int)==2)=true:=by rw[c0];rfl
  have C0:=hid c0;go_wp2_with fail;refine(NU.out _).mono ?_;rintro e w2 ⟨rfl,E2⟩;have E:=hid (ext_trans E1 E2);clear E1 E2;go_wp2_with fail;refine(T1.out _).mono ?_;rintro e w3 ⟨rfl,E3⟩;have E:=hid (ext_trans E.out E3);clear E3;go_wp2_with fail;refine(T2.out _).mono ?_;rintro e w4 ⟨rfl,E4⟩;have E:=hid (ext_trans E.out E4);clear E4;cases hr:regOfA arch u2 with
  | none=>
    rw[hr]at RO;have HR:=hid hr;clear hr;go_wp2_with fail;refine(RO.out _).mono ?_;rintro e w5 ⟨E5,rfl⟩;have E:=ext_trans E.out E5;have bz:=(BxL.new w #[.int .i64 0,.int .i64 0,.string ⟨#[]⟩,.string ⟨#[]⟩,.int .i64 0] 56).below ((al (w.alloc (.cells #[.int .i64 0,.int .i64 0,.string ⟨#[]⟩,.string ⟨#[]⟩,.int .i64 0] 56)) (.cells #[.int .i64 (-1),.int .i64 0,.string ⟨#[]⟩,.string ⟨#[]⟩,.int .i64 0] 56)).trans (E.mono (by simp)));have p0:=bz.get 0 _ rfl;have p1:=bz.get 1 _ rfl;have p2:=bz.get 2 _ rfl;have p3:=bz.get 3 _ rfl;have p4:=bz.get 4 _ rfl;have bo:=(BxL.new (w.alloc (.cells #[.int .i64 0,.int .i64 0,.string ⟨#[]⟩,.string ⟨#[]⟩,.int .i64 0] 56)) #[.int .i64 (-1),.int .i64 0,.string ⟨#[]⟩,.string ⟨#[]⟩,.int .i64 0] 56).below E;have q0:=bo.get 0 _ rfl;have q1:=bo.get 1 _ rfl;have q2:=bo.get 2 _ rfl;have q3:=bo.get 3 _ rfl;have q4:=bo.get 4 _ rfl;simp only[alloc_size]at q0 q1 q2 q3 q4;have hlt0:=bz.1;have hlt1:=bo.1;simp only[alloc_size]at hlt1;have fz:=fun j=>(frz_below ((al (w.alloc (.cells #[.int .i64 0,.int .i64 0,.string ⟨#[]⟩,.string ⟨#[]⟩,.int .i64 0] 56)) (.cells #[.int .i64 (-1),.int .i64 0,.string ⟨#[]⟩,.string ⟨#[]⟩,.int .i64 0] 56)).trans (E.mono (by simp))) (b:=w.heap.size) (by simp) j).trans (frz_new w _ _ j)
    have fo: ∀j,World.frozen? _ ⟨w.heap.size+1,j,none⟩=false:=fun j=>(E.frozen (p:=⟨w.heap.size+1,j,none⟩) (by simp)).trans (by have:=frz_new (w.alloc (.cells #[.int .i64 0,.int .i64 0,.string ⟨#[]⟩,.string ⟨#[]⟩,.int .i64 0] 56)) #[.int .i64 (-1),.int .i64 0,.string ⟨#[]⟩,.string ⟨#[]⟩,.int .i64 0] 56 j;rw[alloc_size]at this;exact this)
    have o0:=fo 0;have o1:=fo 1;have o2:=fo 2;have EB:=hid (bel1 (bel1 E));clear bz bo;cases ok with
    | false=>
      go_wp2_with fail;exact bodyPost_ret (by first|(simp[results,Tryz.results53,go_sem,p0,p1,p2,p3,p4,tx_nil];done)|(simp[results,Tryz.results53,go_sem,p0,p1,p2,p3,p4,tx_nil];rfl)) rfl (RetThg.no (D1.out C0.out HO.out.no) (⟨v,0,[],[],0⟩:Ini) n3 rfl (by(repeat(first|with_reducible refine Below.setCell ?_ (by simp) _|with_reducible refine Below.setCell ?_ (by simp<;>omega) _));exact EB.out))
    | true=>
      by_cases v0:0<=v
      ·have y0:decide (0<=v)=true:=decide_eq_true v0
       by_cases v1:v<16
       ·have y1:decide (v<16)=true:=decide_eq_true v1
        by_cases c1:k1=3
        ·have y2:((k1:Int)==3)=true:=by rw[c1];rfl
         by_cases g1:u1=[58]
         ·have HG:=hid g1
          subst g1;have y3:((tx [58]).toList==[58])=true:=by rw[tx_toList];decide
          generalize tx [58]=ux at*
          by_cases c2:k2=1
          ·have y4:((k2:Int)==1)=true:=by rw[c2];rfl
           go_wp2_with fail;exact bodyPost_ret (by first|(simp[results,Tryz.results53,go_sem,p0,p1,p2,p3,p4,tx_nil];done)|(simp[results,Tryz.results53,go_sem,p0,p1,p2,p3,p4,tx_nil];rfl)) rfl (RetThg.no (D4.out C0.out HR.out) (⟨v,0,[],[],0⟩:Ini) n3 rfl (by(repeat(first|with_reducible refine Below.setCell ?_ (by simp) _|with_reducible refine Below.setCell ?_ (by simp<;>omega) _));exact EB.out))
          ·have y4:((k2:Int)==1)=false:=by simp;omega
           go_wp2_with fail;exact bodyPost_ret (by first|(simp[results,Tryz.results53,go_sem,p0,p1,p2,p3,p4,tx_nil];done)|(simp[results,Tryz.results53,go_sem,p0,p1,p2,p3,p4,tx_nil];rfl)) rfl (RetThg.no (D4.out C0.out HR.out) (⟨v,0,[],[],0⟩:Ini) n3 rfl (by(repeat(first|with_reducible refine Below.setCell ?_ (by simp) _|with_reducible refine Below.setCell ?_ (by simp<;>omega) _));exact EB.out))
         ·have y3:=tx_ne _ _ g1
          go_wp2_with fail;exact bodyPost_ret (by first|(simp[results,Tryz.results53,go_sem,p0,p1,p2,p3,p4,tx_nil];done)|(simp[results,Tryz.results53,go_sem,p0,p1,p2,p3,p4,tx_nil];rfl)) rfl (RetThg.no (D3.out C0.out g1) (⟨v,0,[],[],0⟩:Ini) n3 rfl (by(repeat(first|with_reducible refine Below.setCell ?_ (by simp) _|with_reducible refine Below.setCell ?_ (by simp<;>omega) _));exact EB.out))
        ·have y2:((k1:Int)==3)=false:=by simp;omega
         have HD:=hid (D3.out C0.out (fun h=>c1 (by rw[<-K1.out,h];rfl)));go_wp2_with fail;exact bodyPost_ret (by first|(simp[results,Tryz.results53,go_sem,p0,p1,p2,p3,p4,tx_nil];done)|(simp[results,Tryz.results53,go_sem,p0,p1,p2,p3,p4,tx_nil];rfl)) rfl (RetThg.no HD.out (⟨v,0,[],[],0⟩:Ini) n3 rfl (by(repeat(first|with_reducible refine Below.setCell ?_ (by simp) _|with_reducible refine Below.setCell ?_ (by simp<;>omega) _));exact EB.out))
       ·have y1:decide (v<16)=false:=decide_eq_false v1
        go_wp2_with fail;exact bodyPost_ret (by first|(simp[results,Tryz.results53,go_sem,p0,p1,p2,p3,p4,tx_nil];done)|(simp[results,Tryz.results53,go_sem,p0,p1,p2,p3,p4,tx_nil];rfl)) rfl (RetThg.no (D2.out C0.out v HO.out.yes (fun h=>by omega)) (⟨v,0,[],[],0⟩:Ini) n3 rfl (by(repeat(first|with_reducible refine Below.setCell ?_ (by simp) _|with_reducible refine Below.setCell ?_ (by simp<;>omega) _));exact EB.out))
      ·have y0:decide (0<=v)=false:=decide_eq_false v0
       go_wp2_with fail;exact bodyPost_ret (by first|(simp[results,Tryz.results53,go_sem,p0,p1,p2,p3,p4,tx_nil];done)|(simp[results,Tryz.results53,go_sem,p0,p1,p2,p3,p4,tx_nil];rfl)) rfl (RetThg.no (D2.out C0.out v HO.out.yes (fun h=>by omega)) (⟨v,0,[],[],0⟩:Ini) n3 rfl (by(repeat(first|with_reducible refine Below.setCell ?_ (by simp) _|with_reducible refine Below.setCell ?_ (by simp<;>omega) _));exact EB.out))
  | some rr=>
    rw[hr]at RO;have HR:=hid hr;clear hr;go_wp2_with fail;refine(RO.out _).mono ?_;rintro e w5 ⟨E5,rfl⟩;have E:=ext_trans E.out E5;have bz:=(BxL.new w #[.int .i64 0,.int .i64 0,.string ⟨#[]⟩,.string ⟨#[]⟩,.int .i64 0] 56).below ((al (w.alloc (.cells #[.int .i64 0,.int .i64 0,.string ⟨#[]⟩,.string ⟨#[]⟩,.int .i64 0] 56)) (.cells #[.int .i64 (-1),.int .i64 0,.string ⟨#[]⟩,.string ⟨#[]⟩,.int .i64 0] 56)).trans (E.mono (by simp)));have p0:=bz.get 0 _ rfl;have p1:=bz.get 1 _ rfl;have p2:=bz.get 2 _ rfl;have p3:=bz.get 3 _ rfl;have p4:=bz.get 4 _ rfl;have bo:=(BxL.new (w.alloc (.cells #[.int .i64 0,.int .i64 0,.string ⟨#[]⟩,.string ⟨#[]⟩,.int .i64 0] 56)) #[.int .i64 (-1),.int .i64 0,.string ⟨#[]⟩,.string ⟨#[]⟩,.int .i64 0] 56).below E;have q0:=bo.get 0 _ rfl;have q1:=bo.get 1 _ rfl;have q2:=bo.get 2 _ rfl;have q3:=bo.get 3 _ rfl;have q4:=bo.get 4 _ rfl;simp only[alloc_size]at q0 q1 q2 q3 q4;have hlt0:=bz.1;have hlt1:=bo.1;simp only[alloc_size]at hlt1;have fz:=fun j=>(frz_below ((al (w.alloc (.cells #[.int .i64 0,.int .i64 0,.string ⟨#[]⟩,.string ⟨#[]⟩,.int .i64 0] 56)) (.cells #[.int .i64 (-1),.int .i64 0,.string ⟨#[]⟩,.string ⟨#[]⟩,.int .i64 0] 56)).trans (E.mono (by simp))) (b:=w.heap.size) (by simp) j).trans (frz_new w _ _ j)
    have fo: ∀j,World.frozen? _ ⟨w.heap.size+1,j,none⟩=false:=fun j=>(E.frozen (p:=⟨w.heap.size+1,j,none⟩) (by simp)).trans (by have:=frz_new (w.alloc (.cells #[.int .i64 0,.int .i64 0,.string ⟨#[]⟩,.string ⟨#[]⟩,.int .i64 0] 56)) #[.int .i64 (-1),.int .i64 0,.string ⟨#[]⟩,.string ⟨#[]⟩,.int .i64 0] 56 j;rw[alloc_size]at this;exact this)
    have o0:=fo 0;have o1:=fo 1;have o2:=fo 2;have EB:=hid (bel1 (bel1 E));clear bz bo;cases ok with
    | false=>
      go_wp2_with fail;exact bodyPost_ret (by first|(simp[results,Tryz.results53,go_sem,p0,p1,p2,p3,p4,tx_nil];done)|(simp[results,Tryz.results53,go_sem,p0,p1,p2,p3,p4,tx_nil];rfl)) rfl (RetThg.no (D1.out C0.out HO.out.no) (⟨v,rr,[],[],0⟩:Ini) n3 rfl (by(repeat(first|with_reducible refine Below.setCell ?_ (by simp) _|with_reducible refine Below.setCell ?_ (by simp<;>omega) _));exact EB.out))
    | true=>
      by_cases v0:0<=v
      ·have y0:decide (0<=v)=true:=decide_eq_true v0
       by_cases v1:v<16
       ·have y1:decide (v<16)=true:=decide_eq_true v1
        by_cases c1:k1=3
        ·have y2:((k1:Int)==3)=true:=by rw[c1];rfl
         by_cases g1:u1=[58]
         ·have HG:=hid g1
          subst g1;have y3:((tx [58]).toList==[58])=true:=by rw[tx_toList];decide
          generalize tx [58]=ux at*
          by_cases c2:k2=1
          ·have y4:((k2:Int)==1)=true:=by rw[c2];rfl
           go_wp2_with fail;exact bodyPost_ret (by first|(simp[results,Tryz.results53,go_sem,p0,p1,p2,p3,p4,tx_nil];done)|(simp[results,Tryz.results53,go_sem,p0,p1,p2,p3,p4,tx_nil];rfl)) rfl (RetThg.yes (D5.out C0.out v rr HO.out.yes ⟨v0,v1⟩ HG.out HR.out) n3 M3.out X3.out rfl (by(repeat(first|with_reducible refine Below.setCell ?_ (by simp) _|with_reducible refine Below.setCell ?_ (by simp<;>omega) _));exact EB.out))
          ·have y4:((k2:Int)==1)=false:=by simp;omega
           exact absurd (K2.out.symm.trans (kind_reg HR.out)) c2
         ·have y3:=tx_ne _ _ g1
          go_wp2_with fail;exact bodyPost_ret (by first|(simp[results,Tryz.results53,go_sem,p0,p1,p2,p3,p4,tx_nil];done)|(simp[results,Tryz.results53,go_sem,p0,p1,p2,p3,p4,tx_nil];rfl)) rfl (RetThg.no (D3.out C0.out g1) (⟨v,rr,[],[],0⟩:Ini) n3 rfl (by(repeat(first|with_reducible refine Below.setCell ?_ (by simp) _|with_reducible refine Below.setCell ?_ (by simp<;>omega) _));exact EB.out))
        ·have y2:((k1:Int)==3)=false:=by simp;omega
         have HD:=hid (D3.out C0.out (fun h=>c1 (by rw[<-K1.out,h];rfl)));go_wp2_with fail;exact bodyPost_ret (by first|(simp[results,Tryz.results53,go_sem,p0,p1,p2,p3,p4,tx_nil];done)|(simp[results,Tryz.results53,go_sem,p0,p1,p2,p3,p4,tx_nil];rfl)) rfl (RetThg.no HD.out (⟨v,rr,[],[],0⟩:Ini) n3 rfl (by(repeat(first|with_reducible refine Below.setCell ?_ (by simp) _|with_reducible refine Below.setCell ?_ (by simp<;>omega) _));exact EB.out))
       ·have y1:decide (v<16)=false:=decide_eq_false v1
        go_wp2_with fail;exact bodyPost_ret (by first|(simp[results,Tryz.results53,go_sem,p0,p1,p2,p3,p4,tx_nil];done)|(simp[results,Tryz.results53,go_sem,p0,p1,p2,p3,p4,tx_nil];rfl)) rfl (RetThg.no (D2.out C0.out v HO.out.yes (fun h=>by omega)) (⟨v,rr,[],[],0⟩:Ini) n3 rfl (by(repeat(first|with_reducible refine Below.setCell ?_ (by simp) _|with_reducible refine Below.setCell ?_ (by simp<;>omega) _));exact EB.out))
      ·have y0:decide (0<=v)=false:=decide_eq_false v0
       go_wp2_with fail;exact bodyPost_ret (by first|(simp[results,Tryz.results53,go_sem,p0,p1,p2,p3,p4,tx_nil];done)|(simp[results,Tryz.results53,go_sem,p0,p1,p2,p3,p4,tx_nil];rfl)) rfl (RetThg.no (D2.out C0.out v HO.out.yes (fun h=>by omega)) (⟨v,rr,[],[],0⟩:Ini) n3 rfl (by(repeat(first|with_reducible refine Below.setCell ?_ (by simp) _|with_reducible refine Below.setCell ?_ (by simp<;>omega) _));exact EB.out))
 ·have zk:((k0:Int)==2)=false:=by simp;omega
  have C0:=hid c0
  by_cases g0:u0=[91]
  ·have k03:k0=3:=by rw[<-K0.out,g0];rfl
   have y0:((k0:Int)==3)=true:=by rw[k03];rfl
   have HG:=hid g0;subst g0;have y1:((tx [91]).toList==[91])=true:=by rw[tx_toList];decide
   generalize tx [91]=ux at*;go_wp2_with fail;refine(T1.out _).mono ?_;rintro e w3 ⟨rfl,E3⟩;have E:=hid (ext_trans E1 E3);clear E3 E1;cases hn:nameB u1 with
   | false=>
     rw[hn]at NA1;have HD:=hid (D6.out HG.out (fun h=>by rw[hn]at h;cases h.1));have E:=E.out;have bz:=(BxL.new w #[.int .i64 0,.int .i64 0,.string ⟨#[]⟩,.string ⟨#[]⟩,.int .i64 0] 56).below ((al (w.alloc (.cells #[.int .i64 0,.int .i64 0,.string ⟨#[]⟩,.string ⟨#[]⟩,.int .i64 0] 56)) (.cells #[.int .i64 (-1),.int .i64 0,.string ⟨#[]⟩,.string ⟨#[]⟩,.int .i64 0] 56)).trans (E.mono (by simp)));have p0:=bz.get 0 _ rfl;have p1:=bz.get 1 _ rfl;have p2:=bz.get 2 _ rfl;have p3:=bz.get 3 _ rfl;have p4:=bz.get 4 _ rfl;have bo:=(BxL.new (w.alloc (.cells #[.int .i64 0,.int .i64 0,.string ⟨#[]⟩,.string ⟨#[]⟩,.int .i64 0] 56)) #[.int .i64 (-1),.int .i64 0,.string ⟨#[]⟩,.string ⟨#[]⟩,.int .i64 0] 56).below E;have q0:=bo.get 0 _ rfl;have q1:=bo.get 1 _ rfl;have q2:=bo.get 2 _ rfl;have q3:=bo.get 3 _ rfl;have q4:=bo.get 4 _ rfl;simp only[alloc_size]at q0 q1 q2 q3 q4;have hlt0:=bz.1;have hlt1:=bo.1;simp only[alloc_size]at hlt1;have fz:=fun j=>(frz_below ((al (w.alloc (.cells #[.int .i64 0,.int .i64 0,.string ⟨#[]⟩,.string ⟨#[]⟩,.int .i64 0] 56)) (.cells #[.int .i64 (-1),.int .i64 0,.string ⟨#[]⟩,.string ⟨#[]⟩,.int .i64 0] 56)).trans (E.mono (by simp))) (b:=w.heap.size) (by simp) j).trans (frz_new w _ _ j)
     have fo: ∀j,World.frozen? _ ⟨w.heap.size+1,j,none⟩=false:=fun j=>(E.frozen (p:=⟨w.heap.size+1,j,none⟩) (by simp)).trans (by have:=frz_new (w.alloc (.cells #[.int .i64 0,.int .i64 0,.string ⟨#[]⟩,.string ⟨#[]⟩,.int .i64 0] 56)) #[.int .i64 (-1),.int .i64 0,.string ⟨#[]⟩,.string ⟨#[]⟩,.int .i64 0] 56 j;rw[alloc_size]at this;exact this)
     have o0:=fo 0;have o1:=fo 1;have o2:=fo 2;have EB:=hid (bel1 (bel1 E));clear bz bo
     by_cases c1:k1=1
     ·have z1:((k1:Int) != 1)=false:=by simp;omega
      go_wp2_with (go_at_call 118;refine(NA1.out _).mono ?_;rintro e w' ⟨rfl,rfl⟩)
      go_wp2_with fail;exact bodyPost_ret (by first|(simp[results,Tryz.results53,go_sem,p0,p1,p2,p3,p4,tx_nil];done)|(simp[results,Tryz.results53,go_sem,p0,p1,p2,p3,p4,tx_nil];rfl)) rfl (RetThg.no HD.out ⟨-1,0,[],[],0⟩ n2 rfl (by(repeat(first|with_reducible refine Below.setCell ?_ (by simp) _|with_reducible refine Below.setCell ?_ (by simp<;>omega) _));exact EB.out))
     ·have z1:((k1:Int) != 1)=true:=by simp;omega
      go_wp2_with fail;exact bodyPost_ret (by first|(simp[results,Tryz.results53,go_sem,p0,p1,p2,p3,p4,tx_nil];done)|(simp[results,Tryz.results53,go_sem,p0,p1,p2,p3,p4,tx_nil];rfl)) rfl (RetThg.no HD.out ⟨-1,0,[],[],0⟩ n2 rfl (by(repeat(first|with_reducible refine Below.setCell ?_ (by simp) _|with_reducible refine Below.setCell ?_ (by simp<;>omega) _));exact EB.out))
   | true=>
     rw[hn]at NA1;have HN:=hid hn;have c1:k1=1:=by rw[<-K1.out];exact kind_name hn
     have z1:((k1:Int) != 1)=false:=by simp;omega
     clear hn;have E9:=E.out;have bz:=(BxL.new w #[.int .i64 0,.int .i64 0,.string ⟨#[]⟩,.string ⟨#[]⟩,.int .i64 0] 56).below ((al (w.alloc (.cells #[.int .i64 0,.int .i64 0,.string ⟨#[]⟩,.string ⟨#[]⟩,.int .i64 0] 56)) (.cells #[.int .i64 (-1),.int .i64 0,.string ⟨#[]⟩,.string ⟨#[]⟩,.int .i64 0] 56)).trans (E9.mono (by simp)));have p0:=bz.get 0 _ rfl;have p1:=bz.get 1 _ rfl;have p2:=bz.get 2 _ rfl;have p3:=bz.get 3 _ rfl;have p4:=bz.get 4 _ rfl;have bo:=(BxL.new (w.alloc (.cells #[.int .i64 0,.int .i64 0,.string ⟨#[]⟩,.string ⟨#[]⟩,.int .i64 0] 56)) #[.int .i64 (-1),.int .i64 0,.string ⟨#[]⟩,.string ⟨#[]⟩,.int .i64 0] 56).below E9;have q0:=bo.get 0 _ rfl;have q1:=bo.get 1 _ rfl;have q2:=bo.get 2 _ rfl;have q3:=bo.get 3 _ rfl;have q4:=bo.get 4 _ rfl;simp only[alloc_size]at q0 q1 q2 q3 q4;have hlt0:=bz.1;have hlt1:=bo.1;simp only[alloc_size]at hlt1;have fz:=fun j=>(frz_below ((al (w.alloc (.cells #[.int .i64 0,.int .i64 0,.string ⟨#[]⟩,.string ⟨#[]⟩,.int .i64 0] 56)) (.cells #[.int .i64 (-1),.int .i64 0,.string ⟨#[]⟩,.string ⟨#[]⟩,.int .i64 0] 56)).trans (E9.mono (by simp))) (b:=w.heap.size) (by simp) j).trans (frz_new w _ _ j)
     have fo: ∀j,World.frozen? _ ⟨w.heap.size+1,j,none⟩=false:=fun j=>(E9.frozen (p:=⟨w.heap.size+1,j,none⟩) (by simp)).trans (by have:=frz_new (w.alloc (.cells #[.int .i64 0,.int .i64 0,.string ⟨#[]⟩,.string ⟨#[]⟩,.int .i64 0] 56)) #[.int .i64 (-1),.int .i64 0,.string ⟨#[]⟩,.string ⟨#[]⟩,.int .i64 0] 56 j;rw[alloc_size]at this;exact this)
     have o0:=fo 0;have o1:=fo 1;have o2:=fo 2;have EB:=hid (bel1 (bel1 E9));clear bz bo;have BZ:=hid ((BxL.new w #[.int .i64 0,.int .i64 0,.string ⟨#[]⟩,.string ⟨#[]⟩,.int .i64 0] 56).below ((al (w.alloc (.cells #[.int .i64 0,.int .i64 0,.string ⟨#[]⟩,.string ⟨#[]⟩,.int .i64 0] 56)) (.cells #[.int .i64 (-1),.int .i64 0,.string ⟨#[]⟩,.string ⟨#[]⟩,.int .i64 0] 56)).trans (E9.mono (by simp))));have BO:=hid ((BxL.new (w.alloc (.cells #[.int .i64 0,.int .i64 0,.string ⟨#[]⟩,.string ⟨#[]⟩,.int .i64 0] 56)) #[.int .i64 (-1),.int .i64 0,.string ⟨#[]⟩,.string ⟨#[]⟩,.int .i64 0] 56).below E9);have FZ:=hid fz;have FO:=hid fo;have hs3:w.heap.size+1<w3.heap.size:=hlt1;clear EB
     go_wp2_with (first|(go_at_call 118;refine(NA1.out _).mono ?_;rintro e w' ⟨rfl,rfl⟩)|fail)
     refine(T2.out _).mono ?_;rintro e w4 ⟨rfl,E4⟩;clear p0 p1 p2 p3 p4 q0 q1 q2 q3 q4 hlt0 hlt1 fz fo o0 o1 o2;have bz:=(BxL.gr BZ.out (Below.refl _ _) (show World.grownBy w3 (w3.setCell ⟨w.heap.size+1,2,none⟩ (.string (tx u1))) (Option.some (w.heap.size+1))from gr_put (gr_refl _ _) 2 _) (fun c hc=>by simp at hc<;>omega)).below E4
     have bo:=BO.out;simp only[alloc_size]at bo;have bo:=(bo.set 2 (.string (tx u1))).below E4;have p0:=bz.get 0 _ rfl;have p1:=bz.get 1 _ rfl;have p2:=bz.get 2 _ rfl;have p3:=bz.get 3 _ rfl;have p4:=bz.get 4 _ rfl;have q0:=bo.get 0 _ rfl;have q1:=bo.get 1 _ rfl;have q2:=bo.get 2 _ rfl;have q3:=bo.get 3 _ rfl;have q4:=bo.get 4 _ rfl;have hlt0:=bz.1;have hlt1:=bo.1;have f0: ∀j,w4.frozen? ⟨w.heap.size,j,none⟩=false:=fun j=>by rw[E4.frozen (p:=⟨w.heap.size,j,none⟩) (by simp<;>omega),World.frozen?_setCell];exact FZ.out j
     have EB:=hid (((bel1 (bel1 E9)).setCell (p:=⟨w.heap.size+1,2,none⟩) (by simp) (.string (tx u1))).trans (E4.mono (by simp<;>omega)))
     clear bz bo
     by_cases c2:k2=3
     ·have y2:((k2:Int)==3)=true:=by rw[c2];rfl
      by_cases g2:u2=[93]
      ·have y3:((tx u2).toList==[93])=true:=by rw[tx_toList,g2];decide
       have G2:=hid g2;clear g2;go_wp2_with fail;exact bodyPost_ret (by first|(simp[results,Tryz.results53,go_sem,p0,p1,p2,p3,p4,tx_nil];done)|(simp[results,Tryz.results53,go_sem,p0,p1,p2,p3,p4,tx_nil];rfl)) rfl (RetThg.yes (D7.out HG.out ⟨HN.out,G2.out⟩) n3 M3.out X3.out rfl (by(repeat(first|with_reducible refine Below.setCell ?_ (by simp) _|with_reducible refine Below.setCell ?_ (by simp<;>omega) _));exact EB.out))
      ·have y3:=tx_ne _ _ g2
       go_wp2_with fail;exact bodyPost_ret (by first|(simp[results,Tryz.results53,go_sem,p0,p1,p2,p3,p4,tx_nil];done)|(simp[results,Tryz.results53,go_sem,p0,p1,p2,p3,p4,tx_nil];rfl)) rfl (RetThg.no (D6.out HG.out (fun h=>g2 h.2)) ⟨-1,0,u1,[],0⟩ n3 rfl (by(repeat(first|with_reducible refine Below.setCell ?_ (by simp) _|with_reducible refine Below.setCell ?_ (by simp<;>omega) _));exact EB.out))
     ·have y2:((k2:Int)==3)=false:=by simp;omega
      have HD:=hid (D6.out HG.out (fun h=>c2 (by rw[<-K2.out,h.2];rfl)));go_wp2_with fail;exact bodyPost_ret (by first|(simp[results,Tryz.results53,go_sem,p0,p1,p2,p3,p4,tx_nil];done)|(simp[results,Tryz.results53,go_sem,p0,p1,p2,p3,p4,tx_nil];rfl)) rfl (RetThg.no HD.out ⟨-1,0,u1,[],0⟩ n3 rfl (by(repeat(first|with_reducible refine Below.setCell ?_ (by simp) _|with_reducible refine Below.setCell ?_ (by simp<;>omega) _));exact EB.out))
  ·have y1:=tx_ne _ _ g0
   have G0:=hid g0;obtain⟨b3,hb3⟩: ∃b,((k0:Int)==3)=b:=⟨_,rfl⟩;cases hn:nameB u0 with
   | false=>
     rw[hn]at NA0;have HD:=hid (D8.out C0.out G0.out hn);have bz:=(BxL.new w #[.int .i64 0,.int .i64 0,.string ⟨#[]⟩,.string ⟨#[]⟩,.int .i64 0] 56).below ((al (w.alloc (.cells #[.int .i64 0,.int .i64 0,.string ⟨#[]⟩,.string ⟨#[]⟩,.int .i64 0] 56)) (.cells #[.int .i64 (-1),.int .i64 0,.string ⟨#[]⟩,.string ⟨#[]⟩,.int .i64 0] 56)).trans (E1.mono (by simp)));have p0:=bz.get 0 _ rfl;have p1:=bz.get 1 _ rfl;have p2:=bz.get 2 _ rfl;have p3:=bz.get 3 _ rfl;have p4:=bz.get 4 _ rfl;have bo:=(BxL.new (w.alloc (.cells #[.int .i64 0,.int .i64 0,.string ⟨#[]⟩,.string ⟨#[]⟩,.int .i64 0] 56)) #[.int .i64 (-1),.int .i64 0,.string ⟨#[]⟩,.string ⟨#[]⟩,.int .i64 0] 56).below E1;have q0:=bo.get 0 _ rfl;have q1:=bo.get 1 _ rfl;have q2:=bo.get 2 _ rfl;have q3:=bo.get 3 _ rfl;have q4:=bo.get 4 _ rfl;simp only[alloc_size]at q0 q1 q2 q3 q4;have hlt0:=bz.1;have hlt1:=bo.1;simp only[alloc_size]at hlt1;have fz:=fun j=>(frz_below ((al (w.alloc (.cells #[.int .i64 0,.int .i64 0,.string ⟨#[]⟩,.string ⟨#[]⟩,.int .i64 0] 56)) (.cells #[.int .i64 (-1),.int .i64 0,.string ⟨#[]⟩,.string ⟨#[]⟩,.int .i64 0] 56)).trans (E1.mono (by simp))) (b:=w.heap.size) (by simp) j).trans (frz_new w _ _ j)
     have fo: ∀j,World.frozen? _ ⟨w.heap.size+1,j,none⟩=false:=fun j=>(E1.frozen (p:=⟨w.heap.size+1,j,none⟩) (by simp)).trans (by have:=frz_new (w.alloc (.cells #[.int .i64 0,.int .i64 0,.string ⟨#[]⟩,.string ⟨#[]⟩,.int .i64 0] 56)) #[.int .i64 (-1),.int .i64 0,.string ⟨#[]⟩,.string ⟨#[]⟩,.int .i64 0] 56 j;rw[alloc_size]at this;exact this)
     have o0:=fo 0;have o1:=fo 1;have o2:=fo 2;have EB:=hid (bel1 (bel1 E1));clear bz bo
     by_cases c1:k0=1
     ·have z1:((k0:Int) != 1)=false:=by simp;omega
      have z3:((k0:Int)==3)=false:=by simp;omega
      go_wp2_with (go_at_call 118;refine(NA0.out _).mono ?_;rintro e w' ⟨rfl,rfl⟩)
      go_wp2_with fail;exact bodyPost_ret (by first|(simp[results,Tryz.results53,go_sem,p0,p1,p2,p3,p4,tx_nil];done)|(simp[results,Tryz.results53,go_sem,p0,p1,p2,p3,p4,tx_nil];rfl)) rfl (RetThg.no HD.out ⟨-1,0,[],[],0⟩ n1 rfl (by(repeat(first|with_reducible refine Below.setCell ?_ (by simp) _|with_reducible refine Below.setCell ?_ (by simp<;>omega) _));exact EB.out))
     ·have z1:((k0:Int) != 1)=true:=by simp;omega
      cases b3
      all_goals
       go_wp2_with fail;exact bodyPost_ret (by first|(simp[results,Tryz.results53,go_sem,p0,p1,p2,p3,p4,tx_nil];done)|(simp[results,Tryz.results53,go_sem,p0,p1,p2,p3,p4,tx_nil];rfl)) rfl (RetThg.no HD.out ⟨-1,0,[],[],0⟩ n1 rfl (by(repeat(first|with_reducible refine Below.setCell ?_ (by simp) _|with_reducible refine Below.setCell ?_ (by simp<;>omega) _));exact EB.out))
   | true=>
     rw[hn]at NA0;have c1:k0=1:=by rw[<-K0.out];exact kind_name hn
     have z1:((k0:Int) != 1)=false:=by simp;omega
     have z3:((k0:Int)==3)=false:=by simp;omega
     have HD:=hid (D9.out C0.out G0.out hn);have bz:=(BxL.new w #[.int .i64 0,.int .i64 0,.string ⟨#[]⟩,.string ⟨#[]⟩,.int .i64 0] 56).below ((al (w.alloc (.cells #[.int .i64 0,.int .i64 0,.string ⟨#[]⟩,.string ⟨#[]⟩,.int .i64 0] 56)) (.cells #[.int .i64 (-1),.int .i64 0,.string ⟨#[]⟩,.string ⟨#[]⟩,.int .i64 0] 56)).trans (E1.mono (by simp)));have p0:=bz.get 0 _ rfl;have p1:=bz.get 1 _ rfl;have p2:=bz.get 2 _ rfl;have p3:=bz.get 3 _ rfl;have p4:=bz.get 4 _ rfl;have bo:=(BxL.new (w.alloc (.cells #[.int .i64 0,.int .i64 0,.string ⟨#[]⟩,.string ⟨#[]⟩,.int .i64 0] 56)) #[.int .i64 (-1),.int .i64 0,.string ⟨#[]⟩,.string ⟨#[]⟩,.int .i64 0] 56).below E1;have q0:=bo.get 0 _ rfl;have q1:=bo.get 1 _ rfl;have q2:=bo.get 2 _ rfl;have q3:=bo.get 3 _ rfl;have q4:=bo.get 4 _ rfl;simp only[alloc_size]at q0 q1 q2 q3 q4;have hlt0:=bz.1;have hlt1:=bo.1;simp only[alloc_size]at hlt1;have fz:=fun j=>(frz_below ((al (w.alloc (.cells #[.int .i64 0,.int .i64 0,.string ⟨#[]⟩,.string ⟨#[]⟩,.int .i64 0] 56)) (.cells #[.int .i64 (-1),.int .i64 0,.string ⟨#[]⟩,.string ⟨#[]⟩,.int .i64 0] 56)).trans (E1.mono (by simp))) (b:=w.heap.size) (by simp) j).trans (frz_new w _ _ j)
     have fo: ∀j,World.frozen? _ ⟨w.heap.size+1,j,none⟩=false:=fun j=>(E1.frozen (p:=⟨w.heap.size+1,j,none⟩) (by simp)).trans (by have:=frz_new (w.alloc (.cells #[.int .i64 0,.int .i64 0,.string ⟨#[]⟩,.string ⟨#[]⟩,.int .i64 0] 56)) #[.int .i64 (-1),.int .i64 0,.string ⟨#[]⟩,.string ⟨#[]⟩,.int .i64 0] 56 j;rw[alloc_size]at this;exact this)
     have o0:=fo 0;have o1:=fo 1;have o2:=fo 2;have EB:=hid (bel1 (bel1 E1));clear bz bo
     go_wp2_with (go_at_call 118;refine(NA0.out _).mono ?_;rintro e w' ⟨rfl,rfl⟩)
     go_wp2_with fail;exact bodyPost_ret (by first|(simp[results,Tryz.results53,go_sem,p0,p1,p2,p3,p4,tx_nil];done)|(simp[results,Tryz.results53,go_sem,p0,p1,p2,p3,p4,tx_nil];rfl)) rfl (RetThg.yes HD.out n1 M1.out X1.out rfl (by(repeat(first|with_reducible refine Below.setCell ?_ (by simp) _|with_reducible refine Below.setCell ?_ (by simp<;>omega) _));exact EB.out))
abbrev zI8r:Obj:=.cells #[.int .i64 0,.int .i64 0,.int .i64 0,.int .i64 0,.int .i64 0,.string ⟨#[]⟩,.string ⟨#[]⟩,.int .i64 0] 50
theorem r14Instr(arch:Int)(s:Tx)(w:World)(g:Gl w):Calls Tryz.prog 20 #[.int .i64 arch,.string (tx s)] w (if archB arch=true then RetP (insP arch s) w else Ret w (.tuple #[vI ⟨0,0,0,0,0,[],[],0⟩,.int .i64 5])):=by
 have KN:=hid (fun w=>r08Known arch w);have g2:=hid (g.below (bel_alloc (al w zI8r) zI8r));have E0:=hid (bel_alloc (al w zI8r) zI8r);have bz:=(BxL.new w #[.int .i64 0,.int .i64 0,.int .i64 0,.int .i64 0,.int .i64 0,.string ⟨#[]⟩,.string ⟨#[]⟩,.int .i64 0] 50).below (al _ zI8r);have bo:=BxL.new (w.alloc zI8r) #[.int .i64 0,.int .i64 0,.int .i64 0,.int .i64 0,.int .i64 0,.string ⟨#[]⟩,.string ⟨#[]⟩,.int .i64 0] 50;cases ha:archB arch with
 | false=>
   rw[if_neg (by decide)];have HA:=hid ha;have p0:=bz.get 0 _ rfl;have p1:=bz.get 1 _ rfl;have p2:=bz.get 2 _ rfl;have p3:=bz.get 3 _ rfl;have p4:=bz.get 4 _ rfl;have p5:=bz.get 5 _ rfl;have p6:=bz.get 6 _ rfl;have p7:=bz.get 7 _ rfl;have q0:=bo.get 0 _ rfl;have q1:=bo.get 1 _ rfl;have q2:=bo.get 2 _ rfl;have q3:=bo.get 3 _ rfl;have q4:=bo.get 4 _ rfl;have q5:=bo.get 5 _ rfl;have q6:=bo.get 6 _ rfl;have q7:=bo.get 7 _ rfl;simp only[alloc_size]at q0 q1 q2 q3 q4 q5 q6 q7;clear ha g bz bo;go_enter Tryz.func20,Tryz.ntmps20
   go_wp2_with (go_at_call 45;refine(KN.out _).mono ?_;rintro e w' ⟨rfl,rfl⟩;rw[HA.out])
   exact bodyPost_ret (by first|(simp[results,Tryz.results20,go_sem,tx_nil];done)|(simp[results,Tryz.results20,go_sem,tx_nil];rfl)) rfl ⟨rfl,blN⟩
 | true=>
   rw[if_pos rfl];have HA:=hid ha;unfold insP;have fz:=fun j=>frz_new w #[.int .i64 0,.int .i64 0,.int .i64 0,.int .i64 0,.int .i64 0,.string ⟨#[]⟩,.string ⟨#[]⟩,.int .i64 0] 50 j
   rcases arch_two ha with rfl|rfl
   ·rw[if_pos rfl]
    have PP:=hid (fun(w:World) (g:Gl w)=>r09Parse s w g);generalize parseX s=r at*;have BZ:=hid bz;have FZ:=hid fz;clear ha g bz bo fz;go_enter Tryz.func20,Tryz.ntmps20
    go_wp2_with (first|(go_at_call 45;refine(KN.out _).mono ?_;rintro e w' ⟨rfl,rfl⟩;rw[HA.out])|fail)
    refine(PP.out _ g2.out).mono ?_;rintro e w5 ⟨rfl,E5⟩;have b5:=BZ.out.below E5;have p0:=b5.get 0 _ rfl;have p1:=b5.get 1 _ rfl;have p2:=b5.get 2 _ rfl;have p3:=b5.get 3 _ rfl;have p4:=b5.get 4 _ rfl;have p5:=b5.get 5 _ rfl;have p6:=b5.get 6 _ rfl;have p7:=b5.get 7 _ rfl;have hlt:=b5.1;have f5:=fun j=>(E5.frozen (p:=⟨w.heap.size,j,none⟩) (by simp;omega)).trans ((((al (w.alloc zI8r) zI8r)).frozen (p:=⟨w.heap.size,j,none⟩) (by simp)).trans (FZ.out j))
    have EB:=hid (E0.out.trans (E5.mono (by simp;omega)));clear b5 E5;go_wp2_with fail;exact bodyPost_ret (by first|(simp[results,Tryz.results20,go_sem,p0,p1,p2,p3,p4,p5,p6,p7];done)|(simp[results,Tryz.results20,go_sem,p0,p1,p2,p3,p4,p5,p6,p7];rfl)) rfl ⟨rfl,(by(repeat with_reducible refine Below.setCell ?_ (by simp) _);exact EB.out)⟩
   ·rw[if_neg (by decide)]
    have PP:=hid (fun(w:World) (g:Gl w)=>refParse s w);generalize parseI s=r at*;have BZ:=hid bz;have FZ:=hid fz;clear ha g bz bo fz;go_enter Tryz.func20,Tryz.ntmps20
    go_wp2_with (first|(go_at_call 45;refine(KN.out _).mono ?_;rintro e w' ⟨rfl,rfl⟩;rw[HA.out])|fail)
    refine(PP.out _ g2.out).mono ?_;rintro e w5 ⟨rfl,E5⟩;have b5:=BZ.out.below E5;have p0:=b5.get 0 _ rfl;have p1:=b5.get 1 _ rfl;have p2:=b5.get 2 _ rfl;have p3:=b5.get 3 _ rfl;have p4:=b5.get 4 _ rfl;have p5:=b5.get 5 _ rfl;have p6:=b5.get 6 _ rfl;have p7:=b5.get 7 _ rfl;have hlt:=b5.1;have f5:=fun j=>(E5.frozen (p:=⟨w.heap.size,j,none⟩) (by simp;omega)).trans ((((al (w.alloc zI8r) zI8r)).frozen (p:=⟨w.heap.size,j,none⟩) (by simp)).trans (FZ.out j))
    have EB:=hid (E0.out.trans (E5.mono (by simp;omega)));clear b5 E5;go_wp2_with fail;exact bodyPost_ret (by first|(simp[results,Tryz.results20,go_sem,p0,p1,p2,p3,p4,p5,p6,p7];done)|(simp[results,Tryz.results20,go_sem,p0,p1,p2,p3,p4,p5,p6,p7];rfl)) rfl ⟨rfl,(by(repeat with_reducible refine Below.setCell ?_ (by simp) _);exact EB.out)⟩
end Go.Proofs.YtkbbgjloifmmbaaGreatDoor

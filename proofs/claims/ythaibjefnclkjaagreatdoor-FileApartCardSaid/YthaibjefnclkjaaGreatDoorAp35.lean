/- The walk of the printer's node (cond). Conditions: the nodes lie in memory as read and may be; the library's variables as the program's text lays them. The walk of Print of a condition (the program's). Conditions: the nodes lie in memory as read; the library's variables as the program's text lays them. -/
import Derived.Test.YthaibjefnclkjaaGreatDoorAp34
set_option linter.unusedVariables false
set_option maxRecDepth 100000
set_option maxHeartbeats 6400000
namespace Go.Proofs.YthaibjefnclkjaaGreatDoor
open Go.RowKit Go.Sort
theorem pNode_1 (arch:Int) (x:Nd) (hk:x.kind=1) (w0 w:World) (b:Nat) (l:Tx) (hI:NdIn w0 x) (g:Gl w0) (hB:Below w0.heap.size w0 w) (hP:Bld w w0.heap.size b prT [.int .i64 arch] l) (hl:l.length+100 * cntN x≤1000000) :
  Calls Tryz.prog 70 #[.pointer (some ⟨b,0,none⟩),vN x] w (RetPr w0 w b arch (l++textN arch x)):=by
 have hbb:=hP.base
 have hne:w.heap.size≠b:=by omega
 have B:=al w (mkN x)
 have hP:=hP.below B
 have hB:=hB.trans (B.mono hB.size)
 have KA:=others_below (some b) B
 have bA:Blk (w.alloc (mkN x)) w.heap.size (cN x) 35:=Blk.new w _ _
 have hcn:=cntN_eq x
 have z1:(x.kind==1)=true:=by rw [hk];rfl
 have E:=hid (show textN arch x = [116,114,117,101] by rw [textN_eq,if_pos hk])
 clear hI g hk
 go_enter Tryz.func70,Tryz.ntmps70
 go_upto_region 1 with (fail)
 generalize w.alloc (mkN x)=W1 at *
 have u0:=bA.get 0 _ rfl;have u1:=bA.get 1 _ rfl;have u2:=bA.get 2 _ rfl;have u3:=bA.get 3 _ rfl;have u4:=bA.get 4 _ rfl;have u5:=bA.get 5 _ rfl
 have W4:=hid (pWrite [116,114,117,101] hB hP (by simp;omega))
 clear hB hP
 go_wp2_with fail
 refine W4.out.mono ?_
 rintro e w2 ⟨rfl,hP,hB,K⟩
 have KA:=others_trans KA K
 go_wp2_with fail
 go_end0
 exact ⟨rfl,by rw [E.out];exact hP,hB,KA⟩
theorem pNode_2l (arch:Int) (x:Nd) (hk:x.kind=2) (ht:x.th.thread = -1) (hn:nameB x.th.loc=true) (hv:n32B x.val=true) (w0 w:World) (b:Nat) (l:Tx) (hI:NdIn w0 x) (g:Gl w0) (hB:Below w0.heap.size w0 w) (hP:Bld w w0.heap.size b prT [.int .i64 arch] l) (hl:l.length+100 * cntN x≤1000000) :
  Calls Tryz.prog 70 #[.pointer (some ⟨b,0,none⟩),vN x] w (RetPr w0 w b arch (l++textN arch x)):=by
 have hbb:=hP.base
 have hne:w.heap.size≠b:=by omega
 have B:=al w (mkN x)
 have hP:=hP.below B
 have hB:=hB.trans (B.mono hB.size)
 have KA:=others_below (some b) B
 have bA:Blk (w.alloc (mkN x)) w.heap.size (cN x) 35:=Blk.new w _ _
 have hcn:=cntN_eq x
 have z1:(x.kind==1)=false:=by rw [hk];rfl
 have z2:(x.kind==2)=true:=by rw [hk];rfl
 have zt:decide (0≤x.th.thread)=false:=decide_eq_false (by omega)
 have zt2 : ¬ 0≤x.th.thread:=by omega
 have hvb:=n32B_spec hv
 have l1:=(nameB_cl hn).2
 have l2:=itoa_len hv
 obtain ⟨s1,hs1⟩ : ∃ s1,x.th.loc=s1:=⟨_,rfl⟩
 obtain ⟨s2,hs2⟩ : ∃ s2,Lib.itoa x.val=s2:=⟨_,rfl⟩
 have IT:=hid (show ∀ (w:World),Gl w→Calls Tryz.prog 30 #[.int .i64 x.val] w (Ret w (.string (tx s2))) from fun w g=>hs2▸itoa_any x.val (by omega) (by omega) w g)
 rw [hs2] at l2
 obtain ⟨t1,ht1⟩ : ∃ t:Tx,x.th.loc++[61]=t:=⟨_,rfl⟩
 have n1:t1.length≤33:=by rw [← ht1];simp;omega
 have c1 : ∀ w,(Op.stringOp .add (tx x.th.loc) ⟨#[61]⟩).run Tryz.prog w = .ok (.string (tx t1)) w:=run_catT x.th.loc [61] t1 ht1 (by omega)
 obtain ⟨t2,ht2⟩ : ∃ t:Tx,t1++s2=t:=⟨_,rfl⟩
 have n2:t2.length≤60:=by rw [← ht2];simp;omega
 have c2 : ∀ w,(Op.stringOp .add (tx t1) (tx s2)).run Tryz.prog w = .ok (.string (tx t2)) w:=run_catT t1 s2 t2 ht2 (by omega)
 have E:=hid (show textN arch x=t2 by rw [textN_eq,if_neg (by omega),if_pos hk];unfold atomT;rw [thText_loc ht,hs2,ht1,ht2])
 have HL:=hid (show l.length+t2.length≤2000000 by omega)
 have g:=g.below hB
 clear hI hk ht hn hv hvb hs1 hs2 ht1 ht2 n1 n2 l1 l2
 go_enter Tryz.func70,Tryz.ntmps70
 go_upto_region 1 with (fail)
 generalize w.alloc (mkN x)=W1 at *
 have u0:=bA.get 0 _ rfl;have u1:=bA.get 1 _ rfl;have u2:=bA.get 2 _ rfl;have u3:=bA.get 3 _ rfl;have u4:=bA.get 4 _ rfl;have u5:=bA.get 5 _ rfl
 go_wp2_with fail
 clear u0 u1 u2 u3 u4 u5
 have dB:=below_drewN W1 1
 obtain ⟨W2,hW2⟩ : ∃ W2:World,W2=W1.drew:=⟨_,rfl⟩
 have hP:Bld W2 w0.heap.size b prT [.int .i64 arch] l:=by rw [hW2];exact hP.below dB
 have hB:Below w0.heap.size w0 W2:=by rw [hW2];exact hB.trans (dB.mono hB.size)
 have KA:Lib.OthersKept u8T (some b) w W2:=by rw [hW2];exact others_trans KA (others_below (some b) dB)
 have bA:Blk W2 w.heap.size (cN x) 35:=by rw [hW2];exact bA.below dB
 have g:Gl W2:=by rw [hW2];exact g.below dB
 subst hW2
 have u3:=bA.get 3 _ rfl;have u4:=bA.get 4 _ rfl
 go_region_held3 (fun w'=>w'.cell? ⟨w.heap.size,3,none⟩=some (.string (tx x.th.loc))∧w'.cell? ⟨w.heap.size,4,none⟩=some (.int .i64 x.val)) (first|exact ⟨by assumption,by assumption⟩|go_keep)
  (first
   | (go_at_call 30;refine (IT.out _ g).mono ?_;rintro e w5 ⟨rfl,Q⟩;have bA:=bA.below Q;have u3:=bA.get 3 _ rfl;have u4:=bA.get 4 _ rfl;have hP:=hP.below Q;have KA:=others_trans KA (others_below (some b) Q);have hB:=hB.trans (Q.mono hB.size);have g:=g.below Q;clear Q)
   | (go_at_call 29;refine (pWrite t2 hB hP HL.out).mono ?_;rintro e w6 ⟨rfl,hP,hB,K6⟩;have KA:=others_trans KA K6;have bA:=bA.others K6 hne ndT_ne;have u3:=bA.get 3 _ rfl;have u4:=bA.get 4 _ rfl;clear K6))
 clear u3 u4 bA
 go_wp2_with fail
 go_end0
 exact ⟨rfl,by rw [E.out];exact hP,hB,KA⟩
theorem pNode_2r (arch:Int) (x:Nd) (hk:x.kind=2) (i k:Nat) (hx:x.th=⟨i,k,[]⟩) (hi:i<16) (hk2:(k:Int)<regsN arch) (hv:n32B x.val=true) (w0 w:World) (b:Nat) (l:Tx) (hI:NdIn w0 x) (g:Gl w0) (hB:Below w0.heap.size w0 w) (hP:Bld w w0.heap.size b prT [.int .i64 arch] l) (hl:l.length+100 * cntN x≤1000000) :
  Calls Tryz.prog 70 #[.pointer (some ⟨b,0,none⟩),vN x] w (RetPr w0 w b arch (l++textN arch x)):=by
 have hbb:=hP.base
 have hne:w.heap.size≠b:=by omega
 have B:=al w (mkN x)
 have hP:=hP.below B
 have hB:=hB.trans (B.mono hB.size)
 have KA:=others_below (some b) B
 have bA:Blk (w.alloc (mkN x)) w.heap.size (cN x) 35:=Blk.new w _ _
 have hcn:=cntN_eq x
 have z1:(x.kind==1)=false:=by rw [hk];rfl
 have z2:(x.kind==2)=true:=by rw [hk];rfl
 have hvb:=n32B_spec hv
 have l2:=itoa_len hv
 have l3:=Lib.itoa_length_le (i:Int) (by omega) (by omega)
 have l4:=regA_len (arch:=arch) (k:=k) hk2
 obtain ⟨s2,hs2⟩ : ∃ s2,Lib.itoa x.val=s2:=⟨_,rfl⟩
 obtain ⟨s3,hs3⟩ : ∃ s3,Lib.itoa (i:Int)=s3:=⟨_,rfl⟩
 obtain ⟨s4,hs4⟩ : ∃ s4,regA arch k=s4:=⟨_,rfl⟩
 have IT:=hid (show ∀ (w:World),Gl w→Calls Tryz.prog 30 #[.int .i64 x.val] w (Ret w (.string (tx s2))) from fun w g=>hs2▸itoa_any x.val (by omega) (by omega) w g)
 have IH:=hid (show ∀ (w:World),Gl w→Calls Tryz.prog 30 #[.int .i64 i] w (Ret w (.string (tx s3))) from fun w g=>hs3▸itoa_any (i:Int) (by omega) (by omega) w g)
 have RG:=hid (show ∀ (w:World),Calls Tryz.prog 108 #[.int .i64 arch,.int .i64 k] w (Ret w (.string (tx s4))) from fun w=>hs4▸condRegister arch k hk2 w)
 rw [hs2] at l2;rw [hs3] at l3;rw [hs4] at l4
 obtain ⟨t3,ht3⟩ : ∃ t:Tx,s3++[58]=t:=⟨_,rfl⟩
 have n3:t3.length≤22:=by rw [← ht3];simp;omega
 have c3 : ∀ w,(Op.stringOp .add (tx s3) ⟨#[58]⟩).run Tryz.prog w = .ok (.string (tx t3)) w:=run_catT s3 [58] t3 ht3 (by omega)
 obtain ⟨t4,ht4⟩ : ∃ t:Tx,t3++s4=t:=⟨_,rfl⟩
 have n4:t4.length≤27:=by rw [← ht4];simp;omega
 have c4 : ∀ w,(Op.stringOp .add (tx t3) (tx s4)).run Tryz.prog w = .ok (.string (tx t4)) w:=run_catT t3 s4 t4 ht4 (by omega)
 have ex:x.th.loc = []:=by rw [hx]
 obtain ⟨t1,ht1⟩ : ∃ t:Tx,x.th.loc++[61]=t:=⟨_,rfl⟩
 have n1:t1.length≤1:=by rw [← ht1,ex];simp
 have c1 : ∀ w,(Op.stringOp .add (tx x.th.loc) ⟨#[61]⟩).run Tryz.prog w = .ok (.string (tx t1)) w:=run_catT x.th.loc [61] t1 ht1 (by omega)
 obtain ⟨t2,ht2⟩ : ∃ t:Tx,t1++s2=t:=⟨_,rfl⟩
 have n2:t2.length≤60:=by rw [← ht2];simp;omega
 have c2 : ∀ w,(Op.stringOp .add (tx t1) (tx s2)).run Tryz.prog w = .ok (.string (tx t2)) w:=run_catT t1 s2 t2 ht2 (by omega)
 have E:=hid (show l++textN arch x=l++t4++t2 by rw [textN_eq,if_neg (by omega),if_pos hk,← ht2,← ht1,← ht4,← ht3,← hs2,← hs3,← hs4];unfold atomT;rw [hx,thText_reg];simp [List.append_assoc])
 have HL7:=hid (show l.length+t4.length≤2000000 by omega)
 have HL:=hid (show (l++t4).length+t2.length≤2000000 by rw [List.length_append];omega)
 have HG0:=hid g
 have g:=g.below hB
 have e1:x.th.thread=i:=by rw [hx]
 have e2:x.th.reg=k:=by rw [hx]
 have hEE:=hid (And.intro e1 e2)
 clear hI hk hx hi hk2 hv hvb hs2 hs3 hs4 ht1 ht2 ht3 ht4 n1 n2 n3 n4 l2 l3 l4 ex e1 e2
 go_enter Tryz.func70,Tryz.ntmps70
 go_upto_region 1 with (fail)
 generalize w.alloc (mkN x)=W1 at *
 have u0:=bA.get 0 _ rfl
 have u1:W1.cell? ⟨w.heap.size,1,none⟩=some (.int .i64 (i:Int)):=by rw [← hEE.out.1];exact bA.get 1 _ rfl
 have zt2:(0:Int)≤i:=by omega
 go_wp2_with fail
 clear u0 u1
 have dB:=below_drewN W1 1
 obtain ⟨W2,hW2⟩ : ∃ W2:World,W2=W1.drew:=⟨_,rfl⟩
 have hP:Bld W2 w0.heap.size b prT [.int .i64 arch] l:=by rw [hW2];exact hP.below dB
 have hB:Below w0.heap.size w0 W2:=by rw [hW2];exact hB.trans (dB.mono hB.size)
 have KA:Lib.OthersKept u8T (some b) w W2:=by rw [hW2];exact others_trans KA (others_below (some b) dB)
 have bA:Blk W2 w.heap.size (cN x) 35:=by rw [hW2];exact bA.below dB
 have g:Gl W2:=by rw [hW2];exact g.below dB
 subst hW2
 have u1:W1.drew.cell? ⟨w.heap.size,1,none⟩=some (.int .i64 (i:Int)):=by rw [← hEE.out.1];exact bA.get 1 _ rfl
 have u2:W1.drew.cell? ⟨w.heap.size,2,none⟩=some (.int .i64 (k:Int)):=by rw [← hEE.out.2];exact bA.get 2 _ rfl
 have v2:=hP.rest 0 _ rfl
 simp only [Nat.zero_add] at v2
 go_region_held3 (fun w'=>w'.cell? ⟨w.heap.size,1,none⟩=some (.int .i64 (i:Int))∧w'.cell? ⟨w.heap.size,2,none⟩=some (.int .i64 (k:Int))∧w'.cell? ⟨b,2,none⟩=some (.int .i64 arch)) (first|exact ⟨by assumption,by assumption,by assumption⟩|go_keep)
  (first
   | (go_at_call 30;refine (IH.out _ g).mono ?_;rintro e w5 ⟨rfl,Q⟩;have bA:=bA.below Q;have hP:=hP.below Q;have KA:=others_trans KA (others_below (some b) Q);have hB:=hB.trans (Q.mono hB.size);have g:=g.below Q;have u1:=(Q.cell (cell?_lt u1)).trans u1;have u2:=(Q.cell (cell?_lt u2)).trans u2;have v2:=(Q.cell (cell?_lt v2)).trans v2;clear Q)
   | (go_at_call 108;refine (RG.out _).mono ?_;rintro e w5 ⟨rfl,Q⟩;have bA:=bA.below Q;have hP:=hP.below Q;have KA:=others_trans KA (others_below (some b) Q);have hB:=hB.trans (Q.mono hB.size);have g:=g.below Q;have u1:=(Q.cell (cell?_lt u1)).trans u1;have u2:=(Q.cell (cell?_lt u2)).trans u2;have v2:=(Q.cell (cell?_lt v2)).trans v2;clear Q)
   | (go_at_call 29;refine (pWrite t4 hB hP HL7.out).mono ?_;rintro e w6 ⟨rfl,hP,hB',K6⟩;have KA:=others_trans KA K6;have bA:=bA.others K6 hne ndT_ne;have g:=HG0.out.below hB';have hB:=hB';clear K6 hB';have u1:w6.cell? ⟨w.heap.size,1,none⟩=some (.int .i64 (i:Int)):=(by rw [← hEE.out.1];exact bA.get 1 _ rfl);have u2:w6.cell? ⟨w.heap.size,2,none⟩=some (.int .i64 (k:Int)):=(by rw [← hEE.out.2];exact bA.get 2 _ rfl);have v2:=hP.rest 0 _ rfl;simp only [Nat.zero_add] at v2))
 all_goals
  clear u1 u2 v2
  go_wp2_with fail
  have dB:=below_drewN w6 1
  obtain ⟨W2,hW2⟩ : ∃ W2:World,W2=w6.drew:=⟨_,rfl⟩
  have hP:Bld W2 w0.heap.size b prT [.int .i64 arch] (l++t4):=by rw [hW2];exact hP.below dB
  have hB:Below w0.heap.size w0 W2:=by rw [hW2];exact hB.trans (dB.mono hB.size)
  have KA:Lib.OthersKept u8T (some b) w W2:=by rw [hW2];exact others_trans KA (others_below (some b) dB)
  have bA:Blk W2 w.heap.size (cN x) 35:=by rw [hW2];exact bA.below dB
  have g:Gl W2:=by rw [hW2];exact g.below dB
  subst hW2
  have u3:=bA.get 3 _ rfl;have u4:=bA.get 4 _ rfl
  go_region_held3 (fun w'=>w'.cell? ⟨w.heap.size,3,none⟩=some (.string (tx x.th.loc))∧w'.cell? ⟨w.heap.size,4,none⟩=some (.int .i64 x.val)) (first|exact ⟨by assumption,by assumption⟩|go_keep)
   (first
    | (go_at_call 30;refine (IT.out _ g).mono ?_;rintro e w5 ⟨rfl,Q⟩;have bA:=bA.below Q;have u3:=bA.get 3 _ rfl;have u4:=bA.get 4 _ rfl;have hP:=hP.below Q;have KA:=others_trans KA (others_below (some b) Q);have hB:=hB.trans (Q.mono hB.size);have g:=g.below Q;clear Q)
    | (go_at_call 29;refine (pWrite t2 hB hP HL.out).mono ?_;rintro e w6 ⟨rfl,hP,hB,K6⟩;have KA:=others_trans KA K6;have bA:=bA.others K6 hne ndT_ne;have u3:=bA.get 3 _ rfl;have u4:=bA.get 4 _ rfl;clear K6))
  clear u3 u4 bA
  go_wp2_with fail
  go_end0
  exact ⟨rfl,by rw [E.out];exact hP,hB,KA⟩
theorem pNode_3 (arch:Int) (x:Nd) (y:Nd) (hk:x.kind=3) (hy:x.kids = [y]) (ho:OkN arch y) (H:PNode arch y) (w0 w:World) (b:Nat) (l:Tx) (hI:NdIn w0 x) (g:Gl w0) (hB:Below w0.heap.size w0 w) (hP:Bld w w0.heap.size b prT [.int .i64 arch] l) (hl:l.length+100 * cntN x≤1000000) :
  Calls Tryz.prog 70 #[.pointer (some ⟨b,0,none⟩),vN x] w (RetPr w0 w b arch (l++textN arch x)):=by
 have hbb:=hP.base
 have hne:w.heap.size≠b:=by omega
 have B:=al w (mkN x)
 have hP:=hP.below B
 have hB:=hB.trans (B.mono hB.size)
 have KA:=others_below (some b) B
 have bA:Blk (w.alloc (mkN x)) w.heap.size (cN x) 35:=Blk.new w _ _
 have hcn:=cntN_eq x
 have z1:(x.kind==1)=false:=by rw [hk];rfl
 have z2:(x.kind==2)=false:=by rw [hk];rfl
 have z3:(x.kind==3)=true:=by rw [hk];rfl
 have E:=hid (show textN arch x = [126]++inB (weak true y.kind) (textN arch y) by rw [textN_eq,if_neg (by omega),if_neg (by omega),if_pos hk,hy,textL_cons,textR_nil,List.append_nil];rfl)
 have hcy:cntL x.kids=cntN y:=by rw [hy,cntL_cons,cntL_nil];rfl
 have hym:y∈x.kids:=by rw [hy];simp
 have h0:x.kids[0]? = some y:=by rw [hy];rfl
 have hlk:0<x.kids.length:=by rw [hy];simp
 have KD:=hid (fun (w1:World) (l1:Tx) (hB:Below w0.heap.size w0 w1) (hP:Bld w1 w0.heap.size b prT [.int .i64 arch] l1) (h:l1.length+10+100 * cntN y≤1000000)=>condKid arch y (weak true y.kind) H ho w0 w1 b l1 (hI.kid y hym) g hB hP h)
 have WK:=hid (condWeakA y.kind)
 have HI:=hid hI
 have HX:=hid (And.intro h0 hlk)
 clear hI g hk hy ho H hym h0 hlk
 go_enter Tryz.func70,Tryz.ntmps70
 go_upto_region 1 with (fail)
 generalize w.alloc (mkN x)=W1 at *
 have u0:=bA.get 0 _ rfl;have u1:=bA.get 1 _ rfl;have u2:=bA.get 2 _ rfl;have u3:=bA.get 3 _ rfl;have u4:=bA.get 4 _ rfl;have u5:=bA.get 5 _ rfl
 have W4:=hid (pWrite [126] hB hP (by simp;omega))
 clear hB hP
 go_wp2_with fail
 refine W4.out.mono ?_
 rintro e w2 ⟨rfl,hP,hB,K⟩
 have KA:=others_trans KA K
 have bA:=bA.others K hne ndT_ne
 clear K W4 u0 u1 u2 u3 u4 u5
 go_wp2_with fail
 have dB:=below_drewN w2 1
 obtain ⟨W2,hW2⟩ : ∃ W2:World,W2=w2.drew:=⟨_,rfl⟩
 have hP:Bld W2 w0.heap.size b prT [.int .i64 arch] (l++[126]):=by rw [hW2];exact hP.below dB
 have hB:Below w0.heap.size w0 W2:=by rw [hW2];exact hB.trans (dB.mono hB.size)
 have KA:Lib.OthersKept u8T (some b) w W2:=by rw [hW2];exact others_trans KA (others_below (some b) dB)
 have bA:Blk W2 w.heap.size (cN x) 35:=by rw [hW2];exact bA.below dB
 have hIr:=HI.out.keep hB
 obtain ⟨p0,p1,p2,p3,p4,p5⟩:=hIr.els.nd HX.out.1
 have ix:=hIr.els.idx ndl cN_len 0 HX.out.2 x.c
 simp only [Nat.zero_mul,Nat.add_zero,Int.ofNat_zero] at p0 p1 p2 p3 p4 p5 ix
 have u5:=bA.get 5 _ rfl
 clear hIr
 subst hW2
 obtain ⟨wk,hwk⟩ : ∃ wk,weak true y.kind=wk:=⟨_,rfl⟩
 rw [hwk] at KD WK E
 clear hwk dB
 go_region_held3 (fun w'=>w'.cell? ⟨w.heap.size,5,none⟩=some (.slice x.a x.kids.length x.c)∧w'.cell? ⟨bk x.a,fo x.a,none⟩=some (.int .i64 y.kind)∧w'.cell? ⟨bk x.a,fo x.a+1,none⟩=some (.int .i64 y.th.thread)∧w'.cell? ⟨bk x.a,fo x.a+2,none⟩=some (.int .i64 y.th.reg)∧w'.cell? ⟨bk x.a,fo x.a+3,none⟩=some (.string (tx y.th.loc))∧w'.cell? ⟨bk x.a,fo x.a+4,none⟩=some (.int .i64 y.val)∧w'.cell? ⟨bk x.a,fo x.a+5,none⟩=some (.slice y.a y.kids.length y.c)) (first|exact ⟨by assumption,by assumption,by assumption,by assumption,by assumption,by assumption,by assumption⟩|go_keep)
  (first
   | (go_at_call 107;refine (WK.out _).mono ?_;rintro e w5 ⟨rfl,Q⟩;have Q:=Q.below;have bA:=bA.below Q;have u5:=bA.get 5 _ rfl;have p0:=(Q.cell (cell?_lt p0)).trans p0;have p1:=(Q.cell (cell?_lt p1)).trans p1;have p2:=(Q.cell (cell?_lt p2)).trans p2;have p3:=(Q.cell (cell?_lt p3)).trans p3;have p4:=(Q.cell (cell?_lt p4)).trans p4;have p5:=(Q.cell (cell?_lt p5)).trans p5;have hP:=hP.below Q;have KA:=others_trans KA (others_below (some b) Q);have hB:=hB.trans (Q.mono hB.size);clear Q)
   | (go_at_call 109;refine (KD.out _ _ hB hP (by simp only [List.length_append,List.length_singleton];omega)).mono ?_;rintro e w6 ⟨rfl,hP,hB',K6⟩;have KA:=others_trans KA K6;have bA:=bA.others K6 hne ndT_ne;have u5:=bA.get 5 _ rfl;have hIr:=HI.out.keep hB';have hB:=hB';clear K6 hB';obtain ⟨p0,p1,p2,p3,p4,p5⟩:=hIr.els.nd HX.out.1;simp only [Nat.zero_mul,Nat.add_zero] at p0 p1 p2 p3 p4 p5;clear hIr))
 clear u5 p0 p1 p2 p3 p4 p5 ix bA
 go_wp2_with fail
 go_end0
 exact ⟨rfl,by rw [E.out,← List.append_assoc];exact hP,hB,KA⟩
theorem pNode_4 (arch:Int) (x:Nd) (hk:x.kind=4) (ho : ∀ y∈x.kids,OkN arch y) (H : ∀ y∈x.kids,PNode arch y) (w0 w:World) (b:Nat) (l:Tx) (hI:NdIn w0 x) (g:Gl w0) (hB:Below w0.heap.size w0 w) (hP:Bld w w0.heap.size b prT [.int .i64 arch] l) (hl:l.length+100 * cntN x≤1000000) :
  Calls Tryz.prog 70 #[.pointer (some ⟨b,0,none⟩),vN x] w (RetPr w0 w b arch (l++textN arch x)):=by
 have hbb:=hP.base
 have hne:w.heap.size≠b:=by omega
 have B:=al w (mkN x)
 have hP:=hP.below B
 have hB:=hB.trans (B.mono hB.size)
 have KA:=others_below (some b) B
 have bA:Blk (w.alloc (mkN x)) w.heap.size (cN x) 35:=Blk.new w _ _
 have hcn:=cntN_eq x
 have z1:(x.kind==1)=false:=by rw [hk];rfl
 have z2:(x.kind==2)=false:=by rw [hk];rfl
 have z3:(x.kind==3)=false:=by rw [hk];rfl
 have z4:(x.kind==4)=true:=by rw [hk];rfl
 have E:=hid (show textN arch x=textL arch true sepA x.kids by rw [textN_eq,if_neg (by omega),if_neg (by omega),if_neg (by omega),if_pos hk])
 have KD:=hid (condKidsA arch x.a x.c x.kids ho H w0 (w.alloc (mkN x)) b l hI.els hI.kid g hB hP (by omega))
 clear hI g hk ho H hB hP
 go_enter Tryz.func70,Tryz.ntmps70
 go_upto_region 1 with (fail)
 generalize w.alloc (mkN x)=W1 at *
 have u0:=bA.get 0 _ rfl;have u1:=bA.get 1 _ rfl;have u2:=bA.get 2 _ rfl;have u3:=bA.get 3 _ rfl;have u4:=bA.get 4 _ rfl;have u5:=bA.get 5 _ rfl
 clear bA
 go_wp2_with fail
 refine KD.out.mono ?_
 rintro e w2 ⟨rfl,hP,hB,K⟩
 have KA:=others_trans KA K
 go_wp2_with fail
 go_end0
 exact ⟨rfl,by rw [E.out];exact hP,hB,KA⟩
theorem pNode_5 (arch:Int) (x:Nd) (hk:x.kind=5) (ho : ∀ y∈x.kids,OkN arch y) (H : ∀ y∈x.kids,PNode arch y) (w0 w:World) (b:Nat) (l:Tx) (hI:NdIn w0 x) (g:Gl w0) (hB:Below w0.heap.size w0 w) (hP:Bld w w0.heap.size b prT [.int .i64 arch] l) (hl:l.length+100 * cntN x≤1000000) :
  Calls Tryz.prog 70 #[.pointer (some ⟨b,0,none⟩),vN x] w (RetPr w0 w b arch (l++textN arch x)):=by
 have hbb:=hP.base
 have hne:w.heap.size≠b:=by omega
 have B:=al w (mkN x)
 have hP:=hP.below B
 have hB:=hB.trans (B.mono hB.size)
 have KA:=others_below (some b) B
 have bA:Blk (w.alloc (mkN x)) w.heap.size (cN x) 35:=Blk.new w _ _
 have hcn:=cntN_eq x
 have z1:(x.kind==1)=false:=by rw [hk];rfl
 have z2:(x.kind==2)=false:=by rw [hk];rfl
 have z3:(x.kind==3)=false:=by rw [hk];rfl
 have z4:(x.kind==4)=false:=by rw [hk];rfl
 have z5:(x.kind==5)=true:=by rw [hk];rfl
 have E:=hid (show textN arch x=textL arch false sepO x.kids by rw [textN_eq,if_neg (by omega),if_neg (by omega),if_neg (by omega),if_neg (by omega)])
 have KD:=hid (condKidsO arch x.a x.c x.kids ho H w0 (w.alloc (mkN x)) b l hI.els hI.kid g hB hP (by omega))
 clear hI g hk ho H hB hP
 go_enter Tryz.func70,Tryz.ntmps70
 go_upto_region 1 with (fail)
 generalize w.alloc (mkN x)=W1 at *
 have u0:=bA.get 0 _ rfl;have u1:=bA.get 1 _ rfl;have u2:=bA.get 2 _ rfl;have u3:=bA.get 3 _ rfl;have u4:=bA.get 4 _ rfl;have u5:=bA.get 5 _ rfl
 clear bA
 go_wp2_with fail
 refine KD.out.mono ?_
 rintro e w2 ⟨rfl,hP,hB,K⟩
 have KA:=others_trans KA K
 go_wp2_with fail
 go_end0
 exact ⟨rfl,by rw [E.out];exact hP,hB,KA⟩
theorem pNode (arch:Int) : ∀ (x:Nd),OkN arch x→PNode arch x:=by
 intro x
 induction x using Nd.ind with
 | h x ih =>
  intro ho w0 w b l hI g hB hP hl
  have hkid : ∀ y∈x.kids,PNode arch y:=fun y hy=>ih y hy (ho.kid y hy)
  rcases mayN_kind ho.may with ⟨h1,h2⟩|⟨h1,h2,h3,h4⟩|⟨h1,h2⟩|⟨h1,h2⟩|⟨h1,h2⟩
  ·exact pNode_1 arch x h1 w0 w b l hI g hB hP hl
  ·rcases thingB_cases h2 with ⟨a1,a2,a3⟩|⟨i,k,a1,a2,a3⟩
   ·exact pNode_2l arch x h1 a1 a3 h3 w0 w b l hI g hB hP hl
   ·exact pNode_2r arch x h1 i k a1 a2 a3 h3 w0 w b l hI g hB hP hl
  ·obtain ⟨y,hy⟩ : ∃ y,x.kids = [y]:=List.length_eq_one_iff.1 h2
   have hym:y∈x.kids:=by rw [hy];simp
   exact pNode_3 arch x y h1 hy (ho.kid y hym) (hkid y hym) w0 w b l hI g hB hP hl
  ·exact pNode_4 arch x h1 ho.kid hkid w0 w b l hI g hB hP hl
  ·exact pNode_5 arch x h1 ho.kid hkid w0 w b l hI g hB hP hl
theorem condPrint_yes (arch q:Int) (x:Nd) (w:World) (hI:NdIn w x) (he:condE arch q x=0) (g:Gl w) :
  Calls Tryz.prog 33 #[.int .i64 arch,vC q x] w (Ret w (.tuple #[.string (tx (textC arch q x)),.int .i64 0])):=by
 obtain ⟨-,hq1,hq2,ho,hn⟩:=cond_ok he
 have B:=al w (mkC q x)
 have b0:Blk (w.alloc (mkC q x)) w.heap.size (cC q x) 37:=Blk.new w _ _
 have CH:=condCheck arch q x (w.alloc (mkC q x)) (hI.keep B)
 rw [he] at CH
 have CH:=hid CH
 have HI:=hid (hI.keep B);have HG:=hid (g.below B)
 have HO:=hid ho
 have hln:=textN_len ho
 clear hI g he ho
 go_enter Tryz.func33,Tryz.ntmps33
 go_wp2_with fail
 refine CH.out.mono ?_
 rintro e1 w1 ⟨rfl,E1⟩
 have b1:=b0.below E1
 have hI:=HI.out.keep E1
 have g:=HG.out.below E1
 have B:=B.trans (E1.mono B.size)
 have HBW:=hid B
 have hbw:w.heap.size<w1.heap.size:=b1.lt
 have hne:w.heap.size≠w1.heap.size:=by omega
 clear HI HG CH b0 E1
 have A:=al w1 (.cells #[.pointer none,.slice none 0 0,.int .i64 arch] prT)
 have hP:Bld (w1.alloc (.cells #[.pointer none,.slice none 0 0,.int .i64 arch] prT)) w1.heap.size w1.heap.size prT [.int .i64 arch] []:=Bld.new w1 prT [.int .i64 arch]
 have bA:=b1.below A
 have QQ:=hid (And.intro A (And.intro hP bA))
 clear A hP bA b1
 go_wp2_with fail
 obtain ⟨hB,hP,bA⟩:=QQ.out
 clear QQ
 generalize w1.alloc (.cells #[.pointer none,.slice none 0 0,.int .i64 arch] prT)=W1 at *
 have u9:=bA.get 0 _ rfl
 have dB:=below_drewN W1 1
 have hP:=hP.below dB
 have hB:=hB.trans (dB.mono hB.size)
 have bA:=bA.below dB
 have hP:Bld W1.drew w1.heap.size w1.heap.size prT [.int .i64 arch] []:=hP
 have hB:Below w1.heap.size w1 W1.drew:=hB
 have bA:Blk W1.drew w.heap.size (cC q x) 37:=bA
 have aB:=al W1.drew (.cells #[.string ⟨#[]⟩,.string ⟨#[101,120,105,115,116,115,32,40]⟩,.string ⟨#[126,101,120,105,115,116,115,32,40]⟩,.string ⟨#[102,111,114,97,108,108,32,40]⟩] 9)
 have hP:=hP.below aB
 have hB:=hB.trans (aB.mono hB.size)
 have HA:=hid (bA.below aB)
 have u0:=bA.get 0 _ rfl
 have hlt:w.heap.size<W1.heap.size:=bA.lt
 have hh:(headC q).length≤9:=by unfold headC;split <;> (try split) <;> simp
 have W4:=hid (pWrite (headC q) hB hP (by simp;omega))
 have E:=hid (show textC arch q x=headC q++textN arch x++[41] from rfl)
 clear hB hP bA aB dB
 have hq:q=1∨q=2∨q=3:=by omega
 have HQ:=hid hq
 clear hq hq1 hq2 hh
 have HD:=hid (show ∀ z,q=z→w1.heap.size=w1.heap.size∧headC q=headC z from fun z hz=>⟨rfl,by rw [hz]⟩)
 rcases HQ.out with rfl|rfl|rfl
 all_goals
  clear HQ HD
  go_region_with (go_at_call 29;refine W4.out.mono ?_;rintro e2 w2 ⟨rfl,hP,hB,K⟩)
  all_goals
   have bA:=HA.out.others K hne (by decide)
   have u1:=bA.get 1 _ rfl;have u2:=bA.get 2 _ rfl;have u3:=bA.get 3 _ rfl;have u4:=bA.get 4 _ rfl;have u5:=bA.get 5 _ rfl;have u6:=bA.get 6 _ rfl
   have ND:=hid (pNode arch x HO.out w1 w2 w1.heap.size _ hI g hB hP (by simp only [List.nil_append,headC];simp;omega))
   clear bA K hP hB
   go_wp2_with fail
   refine ND.out.mono ?_
   rintro e3 w3 ⟨rfl,hP,hB,K⟩
   have W5:=hid (pWrite [41] hB hP (by simp only [List.nil_append,headC];simp;omega))
   clear K hP hB u1 u2 u3 u4 u5 u6
   go_wp2_with fail
   refine W5.out.mono ?_
   rintro e4 w4 ⟨rfl,hP,hB,K⟩
   have ST:=hid (bldString _ _ _ _ _ w4 hP (by simp))
   clear K hP
   go_wp2_with fail
   refine ST.out.mono ?_
   rintro e5 w5 ⟨rfl,E5⟩
   have BZ:=HBW.out.trans ((hB.trans E5).mono HBW.out.size)
   go_wp2_with fail
   go_ret2
   exact ⟨ret_spair (by rw [E.out,List.append_assoc]) rfl,BZ⟩
end Go.Proofs.YthaibjefnclkjaaGreatDoor

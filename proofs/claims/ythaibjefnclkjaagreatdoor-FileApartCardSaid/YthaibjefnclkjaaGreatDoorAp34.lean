/- The walks of the printer's kids (cond). Conditions: the nodes lie in memory as read and may be; the library's variables as the program's text lays them. -/
import Derived.Test.YthaibjefnclkjaaGreatDoorAp33
set_option linter.unusedVariables false
set_option maxRecDepth 100000
set_option maxHeartbeats 6400000
namespace Go.Proofs.YthaibjefnclkjaaGreatDoor
open Go.RowKit Go.Sort
theorem condKidsA (arch:Int) (a:Option Addr) (c:Nat) (ks:List Nd) (ho : ∀ y∈ks,OkN arch y) (H : ∀ y∈ks,PNode arch y) (w0 w:World) (b:Nat) (l:Tx) (hE:Els cN w0 a ks) (hI : ∀ y∈ks,NdIn w0 y) (g:Gl w0) (hB:Below w0.heap.size w0 w) (hP:Bld w w0.heap.size b prT [.int .i64 arch] l) (hl:l.length+100 * cntL ks≤999900) :
  Calls Tryz.prog 110 #[.pointer (some ⟨b,0,none⟩),.slice a ks.length c,.string ⟨#[32,47,92,32]⟩,.func (.func 107) #[] #[]] w (RetPr w0 w b arch (l++textL arch true sepA ks)):=by
 obtain ⟨n,hn⟩ : ∃ n,ks.length=n:=⟨_,rfl⟩
 have HN:=hid hn
 have hnl:=hE.len
 rw [hn] at hnl ⊢
 have HO:=hid ho;have HH:=hid H;have HI:=hid hI;have HG:=hid g;have HE:=hid hE
 have K0:=Lib.OthersKept.refl u8T (some b) w
 clear ho H hI g hE hn
 go_enter Tryz.func110,Tryz.ntmps110
 go_wp2_with fail
 go_loopw [12] (fun i wr=>∃ (k:Nat) (t:Tx),k≤n∧i = .int .i64 k∧Bld wr w0.heap.size b prT [.int .i64 arch] (l++t)∧Below w0.heap.size w0 wr∧Lib.OthersKept u8T (some b) w wr∧Hid (t=textL arch true sepA (ks.take k))) (fun i _=>n-(intOf i).toNat)
 case atStart=>exact ⟨0,[],Nat.zero_le _,rfl,by rw [List.append_nil];exact hP,hB,K0,hid (by rw [List.take_zero,textL_nil])⟩
 case round =>
  obtain ⟨k,t,hk,rfl,hP,hB,K,HT⟩:=hrel
  by_cases hlk:k<n
  ·obtain ⟨y,hy⟩ : ∃ y,ks[k]? = some y:=⟨_,List.getElem?_eq_getElem (by rw [HN.out];exact hlk)⟩
   have hym:=List.mem_of_getElem? hy
   have hEr:=HE.out.below hB
   obtain ⟨p0,p1,p2,p3,p4,p5⟩:=hEr.nd hy
   have ix:=hEr.idx ndl cN_len k (by rw [HN.out];exact hlk) c
   rw [HN.out] at ix
   have htk:=textL_take (arch:=arch) (and:=true) (sep:=sepA) hy
   have hlen:=textL_len (arch:=arch) (and:=true) (sep:=sepA) (by simp [sepA]) (l:=ks.take k) (fun z hz=>HO.out z (List.mem_of_mem_take hz))
   have hlen2:cntL (ks.take k)+cntN y≤cntL ks:=by
    have h1:=cntL_app (ks.take (k+1)) (ks.drop (k+1))
    rw [List.take_append_drop] at h1
    have h2:ks.take (k+1)=ks.take k++[y]:=by
     obtain ⟨hlt,rfl⟩:=List.getElem?_eq_some_iff.1 hy
     exact List.take_succ_eq_append_getElem hlt
    rw [h2,cntL_app,cntL_cons,cntL_nil] at h1
    omega
   rw [← HT.out] at hlen htk
   have hA:Below wr.heap.size wr (wr.alloc (mkN y)):=al wr (mkN y)
   have hPA:=hP.below hA
   have hBA:=hB.trans (hA.mono hB.size)
   have KA:=others_trans K (others_below (some b) hA)
   have bA:Blk (wr.alloc (mkN y)) wr.heap.size (cN y) 35:=Blk.new wr _ _
   have hne:wr.heap.size≠b:=by have:=hP.base;omega
   have KD:=hid (fun (w1:World) (l1:Tx) (hB:Below w0.heap.size w0 w1) (hP:Bld w1 w0.heap.size b prT [.int .i64 arch] l1) (h:l1.length+10+100 * cntN y≤1000000)=>condKid arch y (weak true y.kind) (HH.out y hym) (HO.out y hym) w0 w1 b l1 (HI.out y hym) HG.out hB hP h)
   have WK:=hid (condWeakA y.kind)
   obtain ⟨wk,hwk⟩ : ∃ wk,weak true y.kind=wk:=⟨_,rfl⟩
   rw [hwk] at KD WK htk
   obtain ⟨s1,hs1⟩ : ∃ s1,inB wk (textN arch y)=s1:=⟨_,rfl⟩
   rw [hs1] at KD htk
   clear hwk hs1 hEr hym hy hP hB K hA
   by_cases h0:k=0
   ·subst h0
    rw [if_pos rfl,List.append_nil] at htk
    have HT2:=hid htk.symm
    simp only [Nat.zero_mul,Nat.add_zero,Int.ofNat_zero] at p0 p1 p2 p3 p4 p5 ix
    clear htk HT hk
    go_upto_region 5 with (fail)
    generalize wr.alloc (mkN y)=W1 at *
    have u0:=bA.get 0 _ rfl;have u1:=bA.get 1 _ rfl;have u2:=bA.get 2 _ rfl;have u3:=bA.get 3 _ rfl;have u4:=bA.get 4 _ rfl;have u5:=bA.get 5 _ rfl
    clear p0 p1 p2 p3 p4 p5 ix
    obtain ⟨W2,hW2⟩ : ∃ W2:World,W2=W1.drew:=⟨_,rfl⟩
    have dB:=below_drewN W1 1
    have hPA:Bld W2 w0.heap.size b prT [.int .i64 arch] (l++t):=by rw [hW2];exact hPA.below dB
    have hBA:Below w0.heap.size w0 W2:=by rw [hW2];exact hBA.trans (dB.mono hBA.size)
    have KA:Lib.OthersKept u8T (some b) w W2:=by rw [hW2];exact others_trans KA (others_below (some b) dB)
    have bA:Blk W2 wr.heap.size (cN y) 35:=by rw [hW2];exact bA.below dB
    subst hW2
    go_region_held3 (fun w'=>w'.cell? ⟨wr.heap.size,0,none⟩=some (.int .i64 y.kind)∧w'.cell? ⟨wr.heap.size,1,none⟩=some (.int .i64 y.th.thread)∧w'.cell? ⟨wr.heap.size,2,none⟩=some (.int .i64 y.th.reg)∧w'.cell? ⟨wr.heap.size,3,none⟩=some (.string (tx y.th.loc))∧w'.cell? ⟨wr.heap.size,4,none⟩=some (.int .i64 y.val)∧w'.cell? ⟨wr.heap.size,5,none⟩=some (.slice y.a y.kids.length y.c)) (first|exact ⟨by assumption,by assumption,by assumption,by assumption,by assumption,by assumption⟩|go_keep)
     (first
      | (go_at_call 107;refine (WK.out _).mono ?_;rintro e w5 ⟨rfl,Q⟩;have Q:=Q.below;have u0:=(Q.cell (cell?_lt u0)).trans u0;have u1:=(Q.cell (cell?_lt u1)).trans u1;have u2:=(Q.cell (cell?_lt u2)).trans u2;have u3:=(Q.cell (cell?_lt u3)).trans u3;have u4:=(Q.cell (cell?_lt u4)).trans u4;have u5:=(Q.cell (cell?_lt u5)).trans u5;have bA:=bA.below Q;have hPA:=hPA.below Q;have KA:=others_trans KA (others_below (some b) Q);have hBA:=hBA.trans (Q.mono hBA.size);clear Q)
      | (go_at_call 109;refine (KD.out _ _ hBA hPA (by simp only [List.length_append];omega)).mono ?_;rintro e w6 ⟨rfl,hPA,hBA,K6⟩;have KA:=others_trans KA K6;have bA:=bA.others K6 hne ndT_ne;clear K6;have u0:=bA.get 0 _ rfl;have u1:=bA.get 1 _ rfl;have u2:=bA.get 2 _ rfl;have u3:=bA.get 3 _ rfl;have u4:=bA.get 4 _ rfl;have u5:=bA.get 5 _ rfl))
    clear u0 u1 u2 u3 u4 u5 bA
    go_wp2_with fail
    go_roundw
    case rel=>exact ⟨1,t++s1,by omega,by go_num,by rw [← List.append_assoc];assumption,by assumption,by assumption,HT2⟩
    case measure=>simp [intOf];omega
   ·have h0':0<k:=by omega
    have zk:(0:Int)<k:=by omega
    rw [if_neg h0] at htk
    have HT2:=hid htk.symm
    clear htk HT h0
    go_upto_region 4 with (fail)
    generalize wr.alloc (mkN y)=W0 at *
    have W4:=hid (pWrite sepA hBA hPA (by simp [sepA];omega))
    clear hPA hBA p0 p1 p2 p3 p4 p5 ix
    go_wp2_with fail
    refine W4.out.mono ?_
    rintro e W1 ⟨rfl,hPA,hBA,K4⟩
    have KA:=others_trans KA K4
    have bA:=bA.others K4 hne ndT_ne
    have hPA:Bld W1 w0.heap.size b prT [.int .i64 arch] (l++(t++sepA)):=by rw [← List.append_assoc];exact hPA
    have hsl:(sepA:Tx).length=4:=rfl
    clear W4 K4
    go_wp2_with fail
    have u0:=bA.get 0 _ rfl;have u1:=bA.get 1 _ rfl;have u2:=bA.get 2 _ rfl;have u3:=bA.get 3 _ rfl;have u4:=bA.get 4 _ rfl;have u5:=bA.get 5 _ rfl
    obtain ⟨W2,hW2⟩ : ∃ W2:World,W2=W1.drew:=⟨_,rfl⟩
    have dB:=below_drewN W1 1
    have hPA:Bld W2 w0.heap.size b prT [.int .i64 arch] (l++(t++sepA)):=by rw [hW2];exact hPA.below dB
    have hBA:Below w0.heap.size w0 W2:=by rw [hW2];exact hBA.trans (dB.mono hBA.size)
    have KA:Lib.OthersKept u8T (some b) w W2:=by rw [hW2];exact others_trans KA (others_below (some b) dB)
    have bA:Blk W2 wr.heap.size (cN y) 35:=by rw [hW2];exact bA.below dB
    subst hW2
    go_region_held3 (fun w'=>w'.cell? ⟨wr.heap.size,0,none⟩=some (.int .i64 y.kind)∧w'.cell? ⟨wr.heap.size,1,none⟩=some (.int .i64 y.th.thread)∧w'.cell? ⟨wr.heap.size,2,none⟩=some (.int .i64 y.th.reg)∧w'.cell? ⟨wr.heap.size,3,none⟩=some (.string (tx y.th.loc))∧w'.cell? ⟨wr.heap.size,4,none⟩=some (.int .i64 y.val)∧w'.cell? ⟨wr.heap.size,5,none⟩=some (.slice y.a y.kids.length y.c)) (first|exact ⟨by assumption,by assumption,by assumption,by assumption,by assumption,by assumption⟩|go_keep)
     (first
      | (go_at_call 107;refine (WK.out _).mono ?_;rintro e w5 ⟨rfl,Q⟩;have Q:=Q.below;have u0:=(Q.cell (cell?_lt u0)).trans u0;have u1:=(Q.cell (cell?_lt u1)).trans u1;have u2:=(Q.cell (cell?_lt u2)).trans u2;have u3:=(Q.cell (cell?_lt u3)).trans u3;have u4:=(Q.cell (cell?_lt u4)).trans u4;have u5:=(Q.cell (cell?_lt u5)).trans u5;have bA:=bA.below Q;have hPA:=hPA.below Q;have KA:=others_trans KA (others_below (some b) Q);have hBA:=hBA.trans (Q.mono hBA.size);clear Q)
      | (go_at_call 109;refine (KD.out _ _ hBA hPA (by simp only [List.length_append];omega)).mono ?_;rintro e w6 ⟨rfl,hPA,hBA,K6⟩;have KA:=others_trans KA K6;have bA:=bA.others K6 hne ndT_ne;clear K6;have u0:=bA.get 0 _ rfl;have u1:=bA.get 1 _ rfl;have u2:=bA.get 2 _ rfl;have u3:=bA.get 3 _ rfl;have u4:=bA.get 4 _ rfl;have u5:=bA.get 5 _ rfl))
    clear u0 u1 u2 u3 u4 u5 bA
    go_wp2_with fail
    go_roundw
    case rel=>exact ⟨k+1,t++sepA++s1,by omega,by go_num,by rw [← List.append_assoc];assumption,by assumption,by assumption,HT2⟩
    case measure=>simp [intOf];omega
  ·obtain rfl:k=n:=by omega
   have HT2:=hid (show textL arch true sepA ks=t by rw [HT.out,← HN.out,List.take_length])
   clear HT
   go_wp2_with fail
   go_end0
   exact ⟨rfl,by rw [HT2.out];exact hP,hB,K⟩
theorem condKidsO (arch:Int) (a:Option Addr) (c:Nat) (ks:List Nd) (ho : ∀ y∈ks,OkN arch y) (H : ∀ y∈ks,PNode arch y) (w0 w:World) (b:Nat) (l:Tx) (hE:Els cN w0 a ks) (hI : ∀ y∈ks,NdIn w0 y) (g:Gl w0) (hB:Below w0.heap.size w0 w) (hP:Bld w w0.heap.size b prT [.int .i64 arch] l) (hl:l.length+100 * cntL ks≤999900) :
  Calls Tryz.prog 110 #[.pointer (some ⟨b,0,none⟩),.slice a ks.length c,.string ⟨#[32,92,47,32]⟩,.func (.func 111) #[] #[]] w (RetPr w0 w b arch (l++textL arch false sepO ks)):=by
 obtain ⟨n,hn⟩ : ∃ n,ks.length=n:=⟨_,rfl⟩
 have HN:=hid hn
 have hnl:=hE.len
 rw [hn] at hnl ⊢
 have HO:=hid ho;have HH:=hid H;have HI:=hid hI;have HG:=hid g;have HE:=hid hE
 have K0:=Lib.OthersKept.refl u8T (some b) w
 clear ho H hI g hE hn
 go_enter Tryz.func110,Tryz.ntmps110
 go_wp2_with fail
 go_loopw [12] (fun i wr=>∃ (k:Nat) (t:Tx),k≤n∧i = .int .i64 k∧Bld wr w0.heap.size b prT [.int .i64 arch] (l++t)∧Below w0.heap.size w0 wr∧Lib.OthersKept u8T (some b) w wr∧Hid (t=textL arch false sepO (ks.take k))) (fun i _=>n-(intOf i).toNat)
 case atStart=>exact ⟨0,[],Nat.zero_le _,rfl,by rw [List.append_nil];exact hP,hB,K0,hid (by rw [List.take_zero,textL_nil])⟩
 case round =>
  obtain ⟨k,t,hk,rfl,hP,hB,K,HT⟩:=hrel
  by_cases hlk:k<n
  ·obtain ⟨y,hy⟩ : ∃ y,ks[k]? = some y:=⟨_,List.getElem?_eq_getElem (by rw [HN.out];exact hlk)⟩
   have hym:=List.mem_of_getElem? hy
   have hEr:=HE.out.below hB
   obtain ⟨p0,p1,p2,p3,p4,p5⟩:=hEr.nd hy
   have ix:=hEr.idx ndl cN_len k (by rw [HN.out];exact hlk) c
   rw [HN.out] at ix
   have htk:=textL_take (arch:=arch) (and:=false) (sep:=sepO) hy
   have hlen:=textL_len (arch:=arch) (and:=false) (sep:=sepO) (by simp [sepO]) (l:=ks.take k) (fun z hz=>HO.out z (List.mem_of_mem_take hz))
   have hlen2:cntL (ks.take k)+cntN y≤cntL ks:=by
    have h1:=cntL_app (ks.take (k+1)) (ks.drop (k+1))
    rw [List.take_append_drop] at h1
    have h2:ks.take (k+1)=ks.take k++[y]:=by
     obtain ⟨hlt,rfl⟩:=List.getElem?_eq_some_iff.1 hy
     exact List.take_succ_eq_append_getElem hlt
    rw [h2,cntL_app,cntL_cons,cntL_nil] at h1
    omega
   rw [← HT.out] at hlen htk
   have hA:Below wr.heap.size wr (wr.alloc (mkN y)):=al wr (mkN y)
   have hPA:=hP.below hA
   have hBA:=hB.trans (hA.mono hB.size)
   have KA:=others_trans K (others_below (some b) hA)
   have bA:Blk (wr.alloc (mkN y)) wr.heap.size (cN y) 35:=Blk.new wr _ _
   have hne:wr.heap.size≠b:=by have:=hP.base;omega
   have KD:=hid (fun (w1:World) (l1:Tx) (hB:Below w0.heap.size w0 w1) (hP:Bld w1 w0.heap.size b prT [.int .i64 arch] l1) (h:l1.length+10+100 * cntN y≤1000000)=>condKid arch y (weak false y.kind) (HH.out y hym) (HO.out y hym) w0 w1 b l1 (HI.out y hym) HG.out hB hP h)
   have WK:=hid (condWeakO y.kind)
   obtain ⟨wk,hwk⟩ : ∃ wk,weak false y.kind=wk:=⟨_,rfl⟩
   rw [hwk] at KD WK htk
   obtain ⟨s1,hs1⟩ : ∃ s1,inB wk (textN arch y)=s1:=⟨_,rfl⟩
   rw [hs1] at KD htk
   clear hwk hs1 hEr hym hy hP hB K hA
   by_cases h0:k=0
   ·subst h0
    rw [if_pos rfl,List.append_nil] at htk
    have HT2:=hid htk.symm
    simp only [Nat.zero_mul,Nat.add_zero,Int.ofNat_zero] at p0 p1 p2 p3 p4 p5 ix
    clear htk HT hk
    go_upto_region 5 with (fail)
    generalize wr.alloc (mkN y)=W1 at *
    have u0:=bA.get 0 _ rfl;have u1:=bA.get 1 _ rfl;have u2:=bA.get 2 _ rfl;have u3:=bA.get 3 _ rfl;have u4:=bA.get 4 _ rfl;have u5:=bA.get 5 _ rfl
    clear p0 p1 p2 p3 p4 p5 ix
    obtain ⟨W2,hW2⟩ : ∃ W2:World,W2=W1.drew:=⟨_,rfl⟩
    have dB:=below_drewN W1 1
    have hPA:Bld W2 w0.heap.size b prT [.int .i64 arch] (l++t):=by rw [hW2];exact hPA.below dB
    have hBA:Below w0.heap.size w0 W2:=by rw [hW2];exact hBA.trans (dB.mono hBA.size)
    have KA:Lib.OthersKept u8T (some b) w W2:=by rw [hW2];exact others_trans KA (others_below (some b) dB)
    have bA:Blk W2 wr.heap.size (cN y) 35:=by rw [hW2];exact bA.below dB
    subst hW2
    go_region_held3 (fun w'=>w'.cell? ⟨wr.heap.size,0,none⟩=some (.int .i64 y.kind)∧w'.cell? ⟨wr.heap.size,1,none⟩=some (.int .i64 y.th.thread)∧w'.cell? ⟨wr.heap.size,2,none⟩=some (.int .i64 y.th.reg)∧w'.cell? ⟨wr.heap.size,3,none⟩=some (.string (tx y.th.loc))∧w'.cell? ⟨wr.heap.size,4,none⟩=some (.int .i64 y.val)∧w'.cell? ⟨wr.heap.size,5,none⟩=some (.slice y.a y.kids.length y.c)) (first|exact ⟨by assumption,by assumption,by assumption,by assumption,by assumption,by assumption⟩|go_keep)
     (first
      | (go_at_call 111;refine (WK.out _).mono ?_;rintro e w5 ⟨rfl,Q⟩;have Q:=Q.below;have u0:=(Q.cell (cell?_lt u0)).trans u0;have u1:=(Q.cell (cell?_lt u1)).trans u1;have u2:=(Q.cell (cell?_lt u2)).trans u2;have u3:=(Q.cell (cell?_lt u3)).trans u3;have u4:=(Q.cell (cell?_lt u4)).trans u4;have u5:=(Q.cell (cell?_lt u5)).trans u5;have bA:=bA.below Q;have hPA:=hPA.below Q;have KA:=others_trans KA (others_below (some b) Q);have hBA:=hBA.trans (Q.mono hBA.size);clear Q)
      | (go_at_call 109;refine (KD.out _ _ hBA hPA (by simp only [List.length_append];omega)).mono ?_;rintro e w6 ⟨rfl,hPA,hBA,K6⟩;have KA:=others_trans KA K6;have bA:=bA.others K6 hne ndT_ne;clear K6;have u0:=bA.get 0 _ rfl;have u1:=bA.get 1 _ rfl;have u2:=bA.get 2 _ rfl;have u3:=bA.get 3 _ rfl;have u4:=bA.get 4 _ rfl;have u5:=bA.get 5 _ rfl))
    clear u0 u1 u2 u3 u4 u5 bA
    go_wp2_with fail
    go_roundw
    case rel=>exact ⟨1,t++s1,by omega,by go_num,by rw [← List.append_assoc];assumption,by assumption,by assumption,HT2⟩
    case measure=>simp [intOf];omega
   ·have h0':0<k:=by omega
    have zk:(0:Int)<k:=by omega
    rw [if_neg h0] at htk
    have HT2:=hid htk.symm
    clear htk HT h0
    go_upto_region 4 with (fail)
    generalize wr.alloc (mkN y)=W0 at *
    have W4:=hid (pWrite sepO hBA hPA (by simp [sepO];omega))
    clear hPA hBA p0 p1 p2 p3 p4 p5 ix
    go_wp2_with fail
    refine W4.out.mono ?_
    rintro e W1 ⟨rfl,hPA,hBA,K4⟩
    have KA:=others_trans KA K4
    have bA:=bA.others K4 hne ndT_ne
    have hPA:Bld W1 w0.heap.size b prT [.int .i64 arch] (l++(t++sepO)):=by rw [← List.append_assoc];exact hPA
    have hsl:(sepO:Tx).length=4:=rfl
    clear W4 K4
    go_wp2_with fail
    have u0:=bA.get 0 _ rfl;have u1:=bA.get 1 _ rfl;have u2:=bA.get 2 _ rfl;have u3:=bA.get 3 _ rfl;have u4:=bA.get 4 _ rfl;have u5:=bA.get 5 _ rfl
    obtain ⟨W2,hW2⟩ : ∃ W2:World,W2=W1.drew:=⟨_,rfl⟩
    have dB:=below_drewN W1 1
    have hPA:Bld W2 w0.heap.size b prT [.int .i64 arch] (l++(t++sepO)):=by rw [hW2];exact hPA.below dB
    have hBA:Below w0.heap.size w0 W2:=by rw [hW2];exact hBA.trans (dB.mono hBA.size)
    have KA:Lib.OthersKept u8T (some b) w W2:=by rw [hW2];exact others_trans KA (others_below (some b) dB)
    have bA:Blk W2 wr.heap.size (cN y) 35:=by rw [hW2];exact bA.below dB
    subst hW2
    go_region_held3 (fun w'=>w'.cell? ⟨wr.heap.size,0,none⟩=some (.int .i64 y.kind)∧w'.cell? ⟨wr.heap.size,1,none⟩=some (.int .i64 y.th.thread)∧w'.cell? ⟨wr.heap.size,2,none⟩=some (.int .i64 y.th.reg)∧w'.cell? ⟨wr.heap.size,3,none⟩=some (.string (tx y.th.loc))∧w'.cell? ⟨wr.heap.size,4,none⟩=some (.int .i64 y.val)∧w'.cell? ⟨wr.heap.size,5,none⟩=some (.slice y.a y.kids.length y.c)) (first|exact ⟨by assumption,by assumption,by assumption,by assumption,by assumption,by assumption⟩|go_keep)
     (first
      | (go_at_call 111;refine (WK.out _).mono ?_;rintro e w5 ⟨rfl,Q⟩;have Q:=Q.below;have u0:=(Q.cell (cell?_lt u0)).trans u0;have u1:=(Q.cell (cell?_lt u1)).trans u1;have u2:=(Q.cell (cell?_lt u2)).trans u2;have u3:=(Q.cell (cell?_lt u3)).trans u3;have u4:=(Q.cell (cell?_lt u4)).trans u4;have u5:=(Q.cell (cell?_lt u5)).trans u5;have bA:=bA.below Q;have hPA:=hPA.below Q;have KA:=others_trans KA (others_below (some b) Q);have hBA:=hBA.trans (Q.mono hBA.size);clear Q)
      | (go_at_call 109;refine (KD.out _ _ hBA hPA (by simp only [List.length_append];omega)).mono ?_;rintro e w6 ⟨rfl,hPA,hBA,K6⟩;have KA:=others_trans KA K6;have bA:=bA.others K6 hne ndT_ne;clear K6;have u0:=bA.get 0 _ rfl;have u1:=bA.get 1 _ rfl;have u2:=bA.get 2 _ rfl;have u3:=bA.get 3 _ rfl;have u4:=bA.get 4 _ rfl;have u5:=bA.get 5 _ rfl))
    clear u0 u1 u2 u3 u4 u5 bA
    go_wp2_with fail
    go_roundw
    case rel=>exact ⟨k+1,t++sepO++s1,by omega,by go_num,by rw [← List.append_assoc];assumption,by assumption,by assumption,HT2⟩
    case measure=>simp [intOf];omega
  ·obtain rfl:k=n:=by omega
   have HT2:=hid (show textL arch false sepO ks=t by rw [HT.out,← HN.out,List.take_length])
   clear HT
   go_wp2_with fail
   go_end0
   exact ⟨rfl,by rw [HT2.out];exact hP,hB,K⟩
end Go.Proofs.YthaibjefnclkjaaGreatDoor

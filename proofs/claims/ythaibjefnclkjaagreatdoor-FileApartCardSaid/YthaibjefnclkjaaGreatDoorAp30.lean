/- The walk of table (program). Conditions: the test lies in memory as read; few lines; the library's variables as laid. -/
import Derived.Test.YthaibjefnclkjaaGreatDoorAp29
set_option linter.unusedVariables false
set_option maxRecDepth 100000
set_option maxHeartbeats 6400000
namespace Go.Proofs.YthaibjefnclkjaaGreatDoor
open Go.RowKit Go.Sort
theorem Own.lit1 (w:World) (E:Nat) (v:Value) (hv:v.oneCell'=true):Own (w.alloc (.cells #[v] E)) w.heap.size E 1 (Option.some ⟨w.heap.size,0,none⟩) 1 1 [v] :=
 ⟨rfl,.inr ⟨w.heap.size,1,#[v],rfl,Nat.le_refl _,heap_alloc_new w _,Nat.le_refl _,by unfold maxLen;omega,rfl,rfl⟩⟩
theorem madeS (n:Nat):(madeCells #[Value.string ByteArray.empty] n).toList=sV (List.replicate n []) :=
 (toList_madeCells_one _ n).trans (by unfold sV;rw [List.map_replicate];rfl)
abbrev Rws:=List (Option Addr × List Tx)
abbrev rV (n:Nat) (R:Rws):List Value:=R.map fun r=>Value.slice r.1 n n
abbrev OwnR (w:World) (B:Nat) (a:Option Addr) (m c n:Nat) (R:Rws):Prop:=Own w B 44 1 a m c (rV n R)
def RowsOk (w:World) (B n:Nat) (R:Rws):Prop:=∀ r∈R,OwnS w B r.1 n n r.2
theorem RowsOk.below {w w':World} {B n:Nat} {R:Rws} (h:RowsOk w B n R) (hb:Below w.heap.size w w'):RowsOk w' B n R:=fun r hr=>Own.below (h r hr) hb
theorem ssl:ElT Tryz.prog 88 44 (.slice none 0 0) 1 24:=⟨Tryz.underlying88,by kernel_rfl,rfl,by decide⟩
theorem RowsOk.kept {w w':World} {B n:Nat} {R:Rws} (h:RowsOk w B n R) {B' E' m' n' c':Nat} {a:Option Addr} {xs:List Value} (o:Own w B' E' m' a n' c' xs) (hne:E'≠9) (hg:w.grownBy w' (a.map (·.block))):RowsOk w' B n R :=
 fun r hr=>Own.kept (h r hr) hg (own_types o (h r hr) hne)
theorem RowsOk.keptS {w w':World} {B n:Nat} {R:Rws} (h:RowsOk w B n R) {a:Option Addr} (hne : ∀ r∈R,bk r.1≠bk a) (hg:w.grownBy w' (a.map (·.block))):RowsOk w' B n R :=
 fun r hr=>Own.kept (h r hr) hg (.inr (by
  cases a with
  | none=>simp
  | some a=>have:=hne r hr;simpa [bk] using this))
abbrev natI (l:List Nat):List Int:=l.map fun m:Nat=>(m:Int)
theorem fileTable0 (t:Tst) (h1:1≤t.code.length) (hc:t.code.length≤16) (hr : ∀ x∈t.code,x.l.length≤256) (w:World) (h:TsIn w t) (g:Gl w) :
  Calls Tryz.prog 32 #[vT t] w (RetS1 w (tableT t)):=by
 have A:=al w (mkT t)
 have b0:=BxT.new w t
 have HI:=hid (h.keep A)
 have HA:=hid A
 have HG:=hid (g.below A)
 have HR:=hid hr
 obtain ⟨n,hn⟩ : ∃ n,t.code.length=n:=⟨_,rfl⟩
 rw [hn] at h1 hc
 have HN:=hid hn
 clear h A hr g hn
 go_enter Tryz.func32,Tryz.ntmps32
 go_upto_region 1 with (fail)
 generalize w.alloc (mkT t)=W1 at *
 obtain ⟨c0,c1,c2,c3,c4,c5,c6,c7,c8,c9,c10,c11⟩:=b0.cells
 rw [HN.out] at c4
 go_wp2_with fail
 clear c0 c1 c2 c3 c4 c5 c6 c7 c8 c9 c10 c11
 go_loopw [4,22] (fun hg i wr=>∃ (k:Nat),k≤n∧i = .int .i64 k∧hg = .int .i64 (highL (t.code.take k))∧Below W1.heap.size W1 wr) (fun _ i _=>n-(intOf i).toNat)
 case atStart=>exact ⟨0,by omega,rfl,rfl,Below.refl _ _⟩
 case round =>
  obtain ⟨k,hk,rfl,rfl,E⟩:=hrel
  obtain ⟨c0,c1,c2,c3,c4,c5,c6,c7,c8,c9,c10,c11⟩:=(b0.below E).cells
  rw [HN.out] at c4
  by_cases hlt:k<n
  ·obtain ⟨x,hx⟩ : ∃ x,t.code[k]? = some x:=⟨_,List.getElem?_eq_getElem (by rw [HN.out];exact hlt)⟩
   have p0:=(HI.out.code.below E).cd hx
   have ix:=HI.out.code.cdx k (by rw [HN.out];exact hlt) t.cc
   rw [HN.out] at ix
   have HH:=highL_step hx
   obtain ⟨H,hH⟩ : ∃ H,highL (t.code.take k)=H:=⟨_,rfl⟩
   rw [hH] at HH ⊢
   obtain ⟨H2,hH2⟩ : ∃ H2:Nat,max H x.l.length=H2:=⟨_,rfl⟩
   have mx:=run_max (P:=Tryz.prog) #[3,3] 3 .i64 (H:Int) (x.l.length:Int) (H2:Int) (by split <;> omega)
   rw [hH2] at HH
   have HH:=hid HH
   clear hx hH hH2
   go_wp2_with fail
   go_roundw
   case rel=>exact ⟨k+1,by omega,by go_num,by rw [HH.out],E⟩
   case measure=>simp [intOf];omega
  ·have hkn:k=n:=by omega
   obtain ⟨hi,hhi⟩ : ∃ hi,highL t.code=hi:=⟨_,rfl⟩
   have hi256:hi≤256:=by rw [← hhi];exact highL_le HR.out
   have HHI:=hid hhi
   rw [hkn,show t.code.take n=t.code by rw [← HN.out,List.take_length],hhi]
   clear hkn hk hlt hhi
   go_wp2_with (at_make;go_loud (refine wpList_mk txl _ _ rfl rfl n rfl rfl rfl rfl (by omega) (by unfold maxLen;omega) (Below.refl wr.heap.size wr) (Nat.le_refl _) ?_))
   intro a0 w3 o0 st0 B3
   rw [madeS] at o0
   have o0:OwnS w3 wr.heap.size a0 n n (List.replicate n []):=o0
   have o0:=Own.mono o0 E.size
   have E:=E.trans (B3.mono E.size)
   clear st0 B3
   have A4:=al w3 (.cells #[.slice a0 n n] 44)
   have r4:=Own.mono (Own.lit1 w3 44 (.slice a0 n n) rfl) E.size
   have o0:=Own.below o0 A4
   have E4:=E.trans (A4.mono E.size)
   clear E A4 c0 c1 c2 c3 c4 c5 c6 c7 c8 c9 c10 c11
   go_wp2_with (at_make;go_loud (refine wpList_mk isl _ _ rfl rfl n rfl rfl rfl rfl (by omega) (by unfold maxLen;omega) (Below.refl _ (w3.alloc (.cells #[.slice a0 n n] 44))) (Nat.le_refl _) ?_))
   intro aw w5 o5 st5 B5
   rw [madeI] at o5
   have B5:Below (w3.alloc (.cells #[.slice a0 n n] 44)).heap.size (w3.alloc (.cells #[.slice a0 n n] 44)) w5:=by simpa using B5
   have r5:=Own.below r4 B5
   have o0:=Own.below o0 B5
   have oW:OwnI w5 W1.heap.size aw n n (natI (widN t 0 0)):=by rw [widN_zero,HN.out];simpa [natI,OwnI] using Own.mono o5 (by have:=E4.size;simp at this ⊢;omega)
   have E:=E4.trans (B5.mono E4.size)
   clear st5 B5 r4 E4 o5
   have E:=E
   have hbr:W1.heap.size≤w3.heap.size∧w3.heap.size<w5.heap.size:=by have:=Own.lt r5 (by simp);simpa using this
   generalize w3.heap.size=br at *
   go_wp2_with fail
   go_loopw [37] (fun i wr=>∃ (k:Nat),k≤n∧i = .int .i64 k∧Below W1.heap.size W1 wr∧Own wr W1.heap.size 44 1 (some ⟨br,0,none⟩) 1 1 [.slice a0 n n]∧OwnS wr W1.heap.size a0 n n (partJ 0 t k)∧OwnI wr W1.heap.size aw n n (natI (widN t 0 k))) (fun i _=>n-(intOf i).toNat)
   case atStart=>exact ⟨0,by omega,rfl,E,r5,by rw [partJ_none,HN.out];exact o0,oW⟩
   case round =>
    clear E r5 o0 oW
    obtain ⟨k,hk,rfl,E,r5,o0,oW⟩:=hrel
    by_cases hlt:k<n
    ·obtain ⟨x,hx⟩ : ∃ x,t.code[k]? = some x:=⟨_,List.getElem?_eq_getElem (by rw [HN.out];exact hlt)⟩
     have hpl:=partJ_length 0 t k (by rw [HN.out];exact hk)
     rw [HN.out] at hpl
     have cr:wr.cell? ⟨br,0,none⟩=some (.slice a0 n n):=by have:=(Own.row r5).cell 0 (by simp);simpa using this
     have ir : ∀ w',(Instr.indexAt 88 (.slice (some ⟨br,0,none⟩) 1 1) (.int .i64 0)).run Tryz.prog w' = .ok (.pointer (some ⟨br,0,none⟩)) w':=by
      intro w'
      have:=run_idx (c:=1) (n:=1) (m:=1) (Own.row r5) ssl.und ssl.cells ssl.isSome (by simp) (by omega) 0 (by omega) .i64 w'
      simpa using this
     have TX:=OwnS.txs o0 (by rw [hpl];omega)
     have i0:=TX.idx k (by rw [hpl];exact hlt) n
     rw [hpl] at i0
     have q0:=TX.cell k (by rw [hpl];exact hlt)
     have f0:=Own.frozen o0 (Own.some o0 (by omega)) k
     have hs0:(colT t.arch k x.l).getD 0 [] = [80]++decN k:=rfl
     have hw0:wideL ((colT t.arch k x.l).take 1)=([80]++decN k).length:=by
      rw [show (colT t.arch k x.l).take 1 = [[80]++decN k] from rfl]
      exact Nat.max_eq_right (Nat.zero_le _)
     have cc : ∀ w,(Op.stringOp .add ⟨#[80]⟩ (tx (decN k))).run Tryz.prog w = .ok (.string (tx ([80]++decN k))) w:=run_cat [80] (decN k) (by have:=decN4 k;simp;omega)
     have hps:=partJ_set 0 hx
     have hws:=widN_set 0 hx
     rw [hw0] at hws
     rw [hs0] at hps
     obtain ⟨s,hs⟩ : ∃ s,[80]++decN k=s:=⟨_,rfl⟩
     rw [hs] at cc hps hws
     obtain ⟨ls,hls⟩ : ∃ ls,s.length=ls:=⟨_,rfl⟩
     rw [hls] at hws
     have hsz:=tsize hls
     have HPS:=hid hps
     have HWS:=hid hws
     clear hs0 hw0 hx hs hps hws hls
     obtain ⟨oj1,oj2⟩:=Own.set o0 (Own.some o0 (by omega)) k (.string (tx s))
     have KEY:=hid (show OwnS (wr.setCell ⟨bk a0,fo a0+k,none⟩ (.string (tx s))).drew W1.heap.size a0 n n (partJ 0 t (k+1))∧Own (wr.setCell ⟨bk a0,fo a0+k,none⟩ (.string (tx s))).drew W1.heap.size 44 1 (some ⟨br,0,none⟩) 1 1 [.slice a0 n n]∧OwnI (wr.setCell ⟨bk a0,fo a0+k,none⟩ (.string (tx s))).drew W1.heap.size aw n n (natI (widN t 0 k))∧Below W1.heap.size W1 (wr.setCell ⟨bk a0,fo a0+k,none⟩ (.string (tx s))).drew from by
      refine ⟨Own.below ?_ (below_drewN _ 1),Own.below (Own.kept r5 oj2.grown (own_types o0 r5 (by decide))) (below_drewN _ 1),Own.below (Own.kept oW oj2.grown (own_types o0 oW (by decide))) (below_drewN _ 1),bel_drew (bel_set E (by have:=(Own.lt o0 (Own.some o0 (by omega))).1;dsimp only;omega) _)⟩
      rw [← HPS.out]
      simpa only [OwnS,sV,List.map_set] using oj1)
     clear oj1 oj2
     have hne:bk a0≠br:=by
      rcases own_types r5 o0 (by decide) with h|h
      ·exact absurd h (Own.some o0 (by omega))
      ·simpa using h
     have hne':=hne.symm
     go_wp2_with fail
     go_region_held3 (fun w'=>w'.cell? ⟨br,0,none⟩=some (.slice a0 n n)∧w'.frozen? ⟨bk a0,fo a0+k,none⟩=false) (first|exact ⟨by assumption,by assumption⟩|go_keep) ((go_at_call 30;refine (itoa_small k (by omega) _).mono ?_;rintro e w' ⟨rfl,rfl⟩))
     generalize (wr.setCell ⟨bk a0,fo a0+k,none⟩ (.string (tx s))).drew=W7 at *
     clear cr ir TX i0 q0 f0 hpl E r5 o0 oW cc
     obtain ⟨o0,r5,oW,E⟩:=KEY.out
     have hpl:=partJ_length 0 t (k+1) (by rw [HN.out];omega)
     rw [HN.out] at hpl
     have cr:W7.cell? ⟨br,0,none⟩=some (.slice a0 n n):=by have:=(Own.row r5).cell 0 (by simp);simpa using this
     have ir : ∀ w',(Instr.indexAt 88 (.slice (some ⟨br,0,none⟩) 1 1) (.int .i64 0)).run Tryz.prog w' = .ok (.pointer (some ⟨br,0,none⟩)) w':=by
      intro w'
      have:=run_idx (c:=1) (n:=1) (m:=1) (Own.row r5) ssl.und ssl.cells ssl.isSome (by simp) (by omega) 0 (by omega) .i64 w'
      simpa using this
     have TX:=OwnS.txs o0 (by rw [hpl];omega)
     have i0:=TX.idx k (by rw [hpl];exact hlt) n
     rw [hpl] at i0
     have q0:=TX.at (k:=k) (y:=s) (by rw [← HPS.out,List.getElem?_set_self (by rw [partJ_length 0 t k (by rw [HN.out];exact hk),HN.out];exact hlt)])
     have hwl:=widN_length t 0 k
     rw [HN.out] at hwl
     have TI:=(Own.ints oW).1
     have iw:=TI.idx isl k (by rw [List.length_map,hwl];exact hlt)
     rw [List.length_map,hwl] at iw
     obtain ⟨wv,pw⟩ : ∃ v,W7.cell? ⟨bk aw,fo aw+k,none⟩=some v:=⟨_,TI.cell k (by rw [List.length_map,hwl];exact hlt)⟩
     have fw:=Own.frozen oW (Own.some oW (by omega)) k
     obtain ⟨oj1,oj2⟩:=Own.set oW (Own.some oW (by omega)) k (.int .i64 (ls:Int))
     have KEY2:=hid (show OwnS (W7.setCell ⟨bk aw,fo aw+k,none⟩ (.int .i64 (ls:Int))) W1.heap.size a0 n n (partJ 0 t (k+1))∧Own (W7.setCell ⟨bk aw,fo aw+k,none⟩ (.int .i64 (ls:Int))) W1.heap.size 44 1 (some ⟨br,0,none⟩) 1 1 [.slice a0 n n]∧OwnI (W7.setCell ⟨bk aw,fo aw+k,none⟩ (.int .i64 (ls:Int))) W1.heap.size aw n n (natI (widN t 0 (k+1)))∧Below W1.heap.size W1 (W7.setCell ⟨bk aw,fo aw+k,none⟩ (.int .i64 (ls:Int))) from by
      refine ⟨Own.kept o0 oj2.grown (own_types oW o0 (by decide)),Own.kept r5 oj2.grown (own_types oW r5 (by decide)),?_,bel_set E (by have:=(Own.lt oW (Own.some oW (by omega))).1;dsimp only;omega) _⟩
      rw [← HWS.out]
      simpa only [OwnI,ints,natI,List.map_set] using oj1)
     clear oj1 oj2 TI TX o0 r5 oW E KEY hpl hwl
     go_wp2_with fail
     go_roundw
     case rel=>exact ⟨k+1,by omega,by go_num,KEY2.out.2.2.2,KEY2.out.2.1,KEY2.out.1,KEY2.out.2.2.1⟩
     case measure=>simp [intOf];omega
    ·have hkn:k=n:=by omega
     rw [hkn] at o0 oW
     have e1:=partJ_all 0 t;have e2:=widN_round t 0
     rw [HN.out] at e1 e2
     rw [e1] at o0
     rw [e2] at oW
     have hR1:OwnR wr W1.heap.size (some ⟨br,0,none⟩) 1 1 n [(a0,cellsJ 0 t)]:=r5
     have hR2:RowsOk wr W1.heap.size n [(a0,cellsJ 0 t)]:=fun r hr=>by
      rcases List.mem_singleton.1 hr with rfl
      exact o0
     clear hkn e1 e2 r5 o0 B5 hbr
     go_wp2_with fail
     go_loopw [7,60] (fun v i wr=>∃ (j:Nat) (ar:Option Addr) (cr:Nat) (R:Rws),j≤hi∧i = .int .i64 j∧v = .slice ar (j+1) cr∧Below W1.heap.size W1 wr∧OwnR wr W1.heap.size ar (j+1) cr n R∧RowsOk wr W1.heap.size n R∧OwnI wr W1.heap.size aw n n (natI (widN t (j+1) 0))∧Hid (R.map (·.2)=(List.range (j+1)).map fun i=>cellsJ i t)) (fun _ i _=>hi-(intOf i).toNat)
     case atStart=>exact ⟨0,_,_,_,by omega,rfl,rfl,E,hR1,hR2,oW,rfl⟩
     case round =>
      clear E hR1 hR2 oW
      obtain ⟨j,ar,cr,R,hj,rfl,rfl,E,hR1,hR2,oW,HRR⟩:=hrel
      by_cases hjt:j<hi
      ·go_wp2_with (at_make;go_loud (refine wpList_mk txl _ _ rfl rfl n rfl rfl rfl rfl (by omega) (by unfold maxLen;omega) (Below.refl wr.heap.size wr) (Nat.le_refl _) ?_))
       intro ac w3 oc st0 B3
       rw [madeS] at oc
       have hac : ∀ r∈R,bk r.1≠bk ac:=fun r hr=>by
        have h2:=(Own.lt (hR2 r hr) (Own.some (hR2 r hr) (by omega))).2
        have h3:=(Own.lt oc (Own.some oc (by omega))).1
        omega
       have HAC:=hid hac
       have oc:OwnS w3 W1.heap.size ac n n (partJ (j+1) t 0):=by rw [partJ_none,HN.out];exact Own.mono oc E.size
       have hR1:=Own.below hR1 B3
       have hR2:=hR2.below B3
       have oW:=Own.below oW B3
       have E:=E.trans (B3.mono E.size)
       clear st0 B3 hac
       go_wp2_with fail
       go_loopw [66] (fun i wr=>∃ (k:Nat),k≤n∧i = .int .i64 k∧Below W1.heap.size W1 wr∧OwnR wr W1.heap.size ar (j+1) cr n R∧RowsOk wr W1.heap.size n R∧OwnS wr W1.heap.size ac n n (partJ (j+1) t k)∧OwnI wr W1.heap.size aw n n (natI (widN t (j+1) k))) (fun i _=>n-(intOf i).toNat)
       case atStart=>exact ⟨0,by omega,rfl,E,hR1,hR2,oc,oW⟩
       case round =>
        clear E hR1 hR2 oc oW
        obtain ⟨k,hk,rfl,E,hR1,hR2,oc,oW⟩:=hrel
        by_cases hlt:k<n
        ·obtain ⟨x,hx⟩ : ∃ x,t.code[k]? = some x:=⟨_,List.getElem?_eq_getElem (by rw [HN.out];exact hlt)⟩
         obtain ⟨c0,c1,c2,c3,c4,c5,c6,c7,c8,c9,c10,c11⟩:=(b0.below E).cells
         rw [HN.out] at c4
         have p0:=(HI.out.code.below E).cd hx
         have ix:=HI.out.code.cdx k (by rw [HN.out];exact hlt) t.cc
         rw [HN.out] at ix
         by_cases hjl:j<x.l.length
         ·obtain ⟨i,hi'⟩ : ∃ i,x.l[j]? = some i:=⟨_,List.getElem?_eq_getElem hjl⟩
          have hxI:=(HI.out.rows x (List.mem_of_getElem? hx)).keep E
          obtain ⟨q0,q1,q2,q3,q4,q5,q6,q7⟩:=hxI.is.cells hi'
          have ix2:=hxI.is.idx j hjl x.c
          have hb:=hxI.locs i (List.mem_of_getElem? hi')
          have hcell:(colT t.arch k x.l).getD (j+1) []=(cellI t.arch i).1:=by
           unfold colT;rw [List.getD_eq_getElem?_getD,List.getElem?_cons_succ,List.getElem?_map,hi'];rfl
          have hps:=partJ_set (j+1) hx
          have hws:=widN_set (j+1) hx
          have hwt:wideL ((colT t.arch k x.l).take (j+1+1))=max (wideL ((colT t.arch k x.l).take (j+1))) (cellI t.arch i).1.length:=by
           refine wideL_take ?_
           rw [List.getElem?_eq_getElem (by rw [colT_length];omega)]
           rw [List.getD_eq_getElem?_getD,List.getElem?_eq_getElem (by rw [colT_length];omega)] at hcell
           exact congrArg some hcell
          have hwa:=widN_at (j+1) k hx
          rw [if_neg (Nat.lt_irrefl k)] at hwa
          rw [hwt] at hws
          rw [hcell] at hps
          have CK:=hid (fun (w':World) (g:Gl w')=>fileCell t.arch i hb.1 hb.2 w' g)
          obtain ⟨m,hm⟩ : ∃ m,wideL ((colT t.arch k x.l).take (j+1))=m:=⟨_,rfl⟩
          rw [hm] at hws hwa
          unfold vP at CK
          generalize cellI t.arch i=ce at *
          obtain ⟨s,er⟩:=ce
          dsimp only at CK hps hws
          obtain ⟨ls,hls⟩ : ∃ ls,s.length=ls:=⟨_,rfl⟩
          rw [hls] at hws
          have hsz:=tsize hls
          obtain ⟨m2,hm2⟩ : ∃ m2:Nat,max m ls=m2:=⟨_,rfl⟩
          rw [hm2] at hws
          have mx:=run_max (P:=Tryz.prog) #[3,3] 3 .i64 (m:Int) (ls:Int) (m2:Int) (by split <;> omega)
          have HPS:=hid hps
          have HWS:=hid hws
          have HWA:=hid hwa
          have hpl:=partJ_length (j+1) t k (by rw [HN.out];exact hk)
          rw [HN.out] at hpl
          have TX:=OwnS.txs oc (by rw [hpl];omega)
          have i0:=TX.idx k (by rw [hpl];exact hlt) n
          rw [hpl] at i0
          have f0:=Own.frozen oc (Own.some oc (by omega)) k
          have hlc:=(Own.lt oc (Own.some oc (by omega))).1
          have hn1:bk ac≠w.heap.size:=by have:=b0.lt;omega
          have hn2:bk ac≠bk t.ca:=by
           have:=cell?_lt (HI.out.code.cd hx);dsimp only at this;omega
          have hn3:bk ac≠bk x.a:=by
           have:=cell?_lt ((HI.out.rows x (List.mem_of_getElem? hx)).is.cells hi').1;dsimp only at this;omega
          have hn1':=hn1.symm;have hn2':=hn2.symm;have hn3':=hn3.symm
          have HXI:=hid hxI
          have HII:=hid hi'
          have HXX:=hid hx
          clear hps hws hwa hx hi' hcell hwt hm hls hm2 hxI TX hb
          have CK2:=hid (CK.out wr.drew (HG.out.below (bel_drew E)))
          go_wp2_with fail
          go_region_held3 (fun w'=>w'.cell? ⟨w.heap.size,0,none⟩=some (.int .i64 t.arch)∧w'.cell? ⟨w.heap.size,4,none⟩=some (.slice t.ca n t.cc)∧w'.cell? ⟨bk t.ca,fo t.ca+k,none⟩=some (.slice x.a x.l.length x.c)∧w'.cell? ⟨bk x.a,fo x.a+j * 8,none⟩=some (.int .i64 i.op)∧w'.cell? ⟨bk x.a,fo x.a+j * 8+1,none⟩=some (.int .i64 i.d)∧w'.cell? ⟨bk x.a,fo x.a+j * 8+2,none⟩=some (.int .i64 i.a)∧w'.cell? ⟨bk x.a,fo x.a+j * 8+3,none⟩=some (.int .i64 i.b)∧w'.cell? ⟨bk x.a,fo x.a+j * 8+4,none⟩=some (.int .i64 i.imm)∧w'.cell? ⟨bk x.a,fo x.a+j * 8+5,none⟩=some (.string (tx i.loc))∧w'.cell? ⟨bk x.a,fo x.a+j * 8+6,none⟩=some (.string (tx i.label))∧w'.cell? ⟨bk x.a,fo x.a+j * 8+7,none⟩=some (.int .i64 i.fence)∧w'.frozen? ⟨bk ac,fo ac+k,none⟩=false) (first|exact ⟨by assumption,by assumption,by assumption,by assumption,by assumption,by assumption,by assumption,by assumption,by assumption,by assumption,by assumption,by assumption⟩|go_keep) ((go_at_call 9;refine CK2.out.mono ?_;rintro e w7 ⟨rfl,E7⟩;have E8:Below wr.heap.size wr w7:=ext_trans (bel_drew (Below.refl _ _)) E7;have EE:=E.trans (E8.mono E.size);obtain ⟨d0,-,-,-,d4,-⟩:=(b0.below EE).cells;rw [HN.out] at d4;have p7:=(HI.out.code.below EE).cd HXX.out;obtain ⟨r0,r1,r2,r3,r4,r5,r6,r7⟩:=(HXI.out.keep E8).is.cells HII.out;have oc7:=Own.below oc E8;have f7:=Own.frozen oc7 (Own.some oc7 (by omega)) k;have z7:=(OwnS.txs oc7 (by rw [hpl];omega)).cell k (by rw [hpl];exact hlt)))
          obtain ⟨oj1,oj2⟩:=Own.set oc7 (Own.some oc7 (by omega)) k (.string (tx s))
          have KEY:=hid (show OwnS (w7.setCell ⟨bk ac,fo ac+k,none⟩ (.string (tx s))) W1.heap.size ac n n (partJ (j+1) t (k+1))∧OwnR (w7.setCell ⟨bk ac,fo ac+k,none⟩ (.string (tx s))) W1.heap.size ar (j+1) cr n R∧RowsOk (w7.setCell ⟨bk ac,fo ac+k,none⟩ (.string (tx s))) W1.heap.size n R∧OwnI (w7.setCell ⟨bk ac,fo ac+k,none⟩ (.string (tx s))) W1.heap.size aw n n (natI (widN t (j+1) k))∧Below W1.heap.size W1 (w7.setCell ⟨bk ac,fo ac+k,none⟩ (.string (tx s))) from by
           refine ⟨?_,Own.kept (Own.below hR1 E8) oj2.grown (own_types oc7 (Own.below hR1 E8) (by decide)),(hR2.below E8).keptS HAC.out oj2.grown,Own.kept (Own.below oW E8) oj2.grown (own_types oc7 (Own.below oW E8) (by decide)),bel_set EE (by have:=(Own.lt oc7 (Own.some oc7 (by omega))).1;dsimp only;omega) _⟩
           rw [← HPS.out]
           simpa only [OwnS,sV,List.map_set] using oj1)
          generalize w7.setCell ⟨bk ac,fo ac+k,none⟩ (.string (tx s))=W8 at *
          clear oj1 oj2 EE E8 E7 d0 d4 p7 r0 r1 r2 r3 r4 r5 r6 r7 oc7 f7 z7 oc hR1 hR2 oW E c0 c1 c2 c3 c4 c5 c6 c7 c8 c9 c10 c11 p0 ix q0 q1 q2 q3 q4 q5 q6 q7 ix2 f0 CK2 CK hpl
          obtain ⟨oc,hR1,hR2,oW,E⟩:=KEY.out
          have hpl:=partJ_length (j+1) t (k+1) (by rw [HN.out];omega)
          rw [HN.out] at hpl
          have q0:=(OwnS.txs oc (by rw [hpl];omega)).at (k:=k) (y:=s) (by rw [← HPS.out,List.getElem?_set_self (by rw [partJ_length (j+1) t k (by rw [HN.out];exact hk),HN.out];exact hlt)])
          have hwl:=widN_length t (j+1) k
          rw [HN.out] at hwl
          have TI:=(Own.ints oW).1
          have iw:=TI.idx isl k (by rw [List.length_map,hwl];exact hlt)
          rw [List.length_map,hwl] at iw
          have pw:=TI.cell k (by rw [List.length_map,hwl];exact hlt)
          rw [show (natI (widN t (j+1) k))[k]'(by rw [List.length_map,hwl];exact hlt)=(m:Int) from by
           have:=HWA.out
           rw [List.getElem?_eq_getElem (by rw [hwl];exact hlt)] at this
           rw [List.getElem_map,Option.some.inj this]] at pw
          have fw:=Own.frozen oW (Own.some oW (by omega)) k
          obtain ⟨oj1,oj2⟩:=Own.set oW (Own.some oW (by omega)) k (.int .i64 (m2:Int))
          have KEY2:=hid (show OwnS (W8.setCell ⟨bk aw,fo aw+k,none⟩ (.int .i64 (m2:Int))).drew W1.heap.size ac n n (partJ (j+1) t (k+1))∧OwnR (W8.setCell ⟨bk aw,fo aw+k,none⟩ (.int .i64 (m2:Int))).drew W1.heap.size ar (j+1) cr n R∧RowsOk (W8.setCell ⟨bk aw,fo aw+k,none⟩ (.int .i64 (m2:Int))).drew W1.heap.size n R∧OwnI (W8.setCell ⟨bk aw,fo aw+k,none⟩ (.int .i64 (m2:Int))).drew W1.heap.size aw n n (natI (widN t (j+1) (k+1)))∧Below W1.heap.size W1 (W8.setCell ⟨bk aw,fo aw+k,none⟩ (.int .i64 (m2:Int))).drew from by
           refine ⟨Own.below (Own.kept oc oj2.grown (own_types oW oc (by decide))) (below_drewN _ 1),Own.below (Own.kept hR1 oj2.grown (own_types oW hR1 (by decide))) (below_drewN _ 1),(hR2.kept oW (by decide) oj2.grown).below (below_drewN _ 1),Own.below ?_ (below_drewN _ 1),bel_drew (bel_set E (by have:=(Own.lt oW (Own.some oW (by omega))).1;dsimp only;omega) _)⟩
           rw [← HWS.out]
           simpa only [OwnI,ints,natI,List.map_set] using oj1)
          clear oj1 oj2 TI oc hR1 hR2 oW E KEY hpl hwl
          go_wp2_with fail
          go_big_region
          obtain ⟨oc,hR1,hR2,oW,E⟩:=KEY2.out
          go_wp2_with fail
          go_roundw
          case rel=>exact ⟨k+1,by omega,by go_num,E,hR1,hR2,oc,oW⟩
          case measure=>simp [intOf];omega
         ·have hps:=partJ_skip (j+1) hx (by omega)
          have hws:=widN_skip (j+1) hx (by omega)
          clear hx
          go_wp2_with fail
          go_roundw
          case rel=>exact ⟨k+1,by omega,by go_num,E,hR1,hR2,by rw [hps];exact oc,by rw [hws];exact oW⟩
          case measure=>simp [intOf];omega
        ·have hkn:k=n:=by omega
         rw [hkn] at oc oW
         have e1:=partJ_all (j+1) t;have e2:=widN_round t (j+1)
         rw [HN.out] at e1 e2
         rw [e1] at oc
         rw [e2] at oW
         clear hkn e1 e2
         go_wp2_with (at_builtin;go_loud (refine wpList_app1n ssl (.tmp 108) (.tmp 110) rfl rfl rfl rfl hR1 rfl rfl (by intro u hu;simp at hu;subst hu;rfl) E E.size (by omega) (by unfold maxLen;omega) ?_))
         intro a6 c6 w6 o6 g6 E6
         have hR3:OwnR w6 W1.heap.size a6 (j+1+1) c6 n (R++[(ac,cellsJ (j+1) t)]):=by
          unfold OwnR rV
          rw [List.map_append]
          exact o6
         have hR4:RowsOk w6 W1.heap.size n (R++[(ac,cellsJ (j+1) t)]):=fun r hr=>by
          rcases List.mem_append.1 hr with h|h
          ·exact (hR2.kept hR1 (by decide) g6.step.grown) r h
          ·rcases List.mem_singleton.1 h with rfl
           exact Own.kept oc g6.step.grown (own_types hR1 oc (by decide))
         have oW2:OwnI w6 W1.heap.size aw n n (natI (widN t (j+1+1) 0)):=Own.kept oW g6.step.grown (own_types hR1 oW (by decide))
         have HRR2:=hid (show (R++[(ac,cellsJ (j+1) t)]).map (·.2)=(List.range (j+1+1)).map fun i=>cellsJ i t by
          rw [List.map_append,HRR.out,List.range_succ (n:=j+1),List.map_append];rfl)
         clear o6 g6 hR1 hR2 oW oc E
         go_wp2_with fail
         go_roundw
         case rel=>exact ⟨j+1,a6,c6,_,by omega,by go_num,rfl,E6,hR3,hR4,oW2,HRR2⟩
         case measure=>simp [intOf];omega
      ·have hjh:j=hi:=by omega
       subst hjh
       have hwd:=widN_done t
       rw [highT_eq,HHI.out] at hwd
       rw [hwd] at oW
       have HTI:=hid (Own.ints oW).1
       have hRl:R.length=j+1:=by have:=congrArg List.length HRR.out;simpa using this
       have HRL:=hid hRl
       have HE:=hid E
       obtain ⟨W9,hW9⟩ : ∃ W9,wr=W9:=⟨_,rfl⟩
       rw [hW9] at HTI HE hR1 hR2
       have HRW:=hid (Own.row hR1)
       have HRK:=hid hR2
       have A9:Below W9.heap.size W9 wr:=by rw [hW9];exact Below.refl _ _
       clear hwd oW hRl hR1 hR2 E hW9
       go_wp2_with fail
       go_loopw [13,115] (fun v i wr=>∃ (m:Nat) (a:Option Addr) (c:Nat) (L:List Tx),m≤j+1∧i = .int .i64 m∧v = .slice a m c∧Below W9.heap.size W9 wr∧OwnS wr W9.heap.size a m c L∧Hid (L=linesT t m)) (fun _ i _=>j+1-(intOf i).toNat)
       case atStart=>exact ⟨0,none,0,[],by omega,rfl,rfl,A9,Own.nil _ _ _ _,rfl⟩
       case round =>
        clear A9
        obtain ⟨m,a,c,L,hm,rfl,rfl,E,o,HL⟩:=hrel
        by_cases hmt:m<j+1
        ·obtain ⟨r,hr⟩ : ∃ r,R[m]? = some r:=⟨_,List.getElem?_eq_getElem (by rw [HRL.out];exact hmt)⟩
         have hr2:r.2=cellsJ m t:=by
          have h1:(R.map (·.2))[m]? = some r.2:=by rw [List.getElem?_map,hr];rfl
          rw [HRR.out,List.getElem?_map,List.getElem?_range hmt] at h1
          simpa using h1.symm
         have hrt:Txs W9 r.1 (cellsJ m t):=by rw [← hr2];exact OwnS.txs (HRK.out r (List.mem_of_getElem? hr)) (by rw [hr2,cellsJ_length,HN.out];omega)
         have p0:wr.cell? ⟨bk ar,fo ar+m,none⟩=some (.slice r.1 n n):=by
          have:=(HRW.out.below E).cell m (by rw [List.length_map,HRL.out];exact hmt)
          rw [this,List.getElem?_map,hr];rfl
         have ix : ∀ w',(Instr.indexAt 88 (.slice ar (j+1) cr) (.int .i64 m)).run Tryz.prog w' = .ok (.pointer (some ⟨bk ar,fo ar+m,none⟩)) w':=by
          intro w'
          have:=run_idx (c:=cr) (n:=j+1) (m:=1) HRW.out ssl.und ssl.cells ssl.isSome (by simp [HRL.out]) (by omega) m hmt .i64 w'
          simpa using this
         have JN:=hid (fileJoined (wideT t) (cellsJ m t) aw r.1 n n n wr (HTI.out.below E) (hrt.below E) (by rw [wideT_length,HN.out]) (by rw [cellsJ_length,HN.out]) h1 hc (fun _ _ _=>cellsJ_le))
         have HT:=hid (show L++[[32]++barT (padL (wideT t) (cellsJ m t))++[32,59]]=linesT t (m+1) by rw [linesT_step,HL.out,lineT_eq,padL_row])
         obtain ⟨l,hl⟩ : ∃ l,[32]++barT (padL (wideT t) (cellsJ m t))++[32,59]=l:=⟨_,rfl⟩
         rw [hl] at JN HT
         clear hl hr hr2 hrt
         go_wp2_with fail
         refine JN.out.mono ?_
         rintro e w2 ⟨rfl,E2⟩
         have o:=Own.below o E2
         have E:=E.trans (E2.mono E.size)
         clear p0 ix JN E2
         go_wp2_with (at_builtin;go_loud (refine wpList_app1n txl (.tmp 119) (.tmp 123) rfl rfl rfl rfl o rfl rfl (by intro u hu;simp at hu;subst hu;rfl) E E.size (by omega) (by unfold maxLen;omega) ?_))
         intro a6 c6 w6 o6 g6 E6
         have o6:OwnS w6 W9.heap.size a6 (m+1) c6 (L++[l]):=by unfold OwnS;rw [sV_app];exact o6
         clear o g6 E
         go_wp2_with fail
         go_roundw
         case rel=>exact ⟨m+1,a6,c6,_,by omega,by go_num,rfl,E6,o6,HT⟩
         case measure=>simp [intOf];omega
        ·have hmn:m=j+1:=by omega
         have HT:=hid (show L=tableT t by rw [tableT_eq,highT_eq,HHI.out,HL.out,hmn])
         have HLL:=hid (show m=L.length by rw [HL.out,linesT_length])
         clear hmn
         go_wp2_with fail
         (try go_simp)
         go_ret
         rw [← HT.out]
         exact ⟨a,c,by rw [← HLL.out];rfl,by rw [← HLL.out];exact Own.mono o (Nat.le_trans HA.out.size HE.out.size),HA.out.trans ((HE.out.trans (E.mono HE.out.size)).mono HA.out.size)⟩
end Go.Proofs.YthaibjefnclkjaaGreatDoor

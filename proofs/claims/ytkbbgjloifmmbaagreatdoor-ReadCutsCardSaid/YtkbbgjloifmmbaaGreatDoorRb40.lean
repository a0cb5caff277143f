/- What ReadBackP leans on, part 40. -/
import Derived.Test.YtkbbgjloifmmbaaGreatDoorRb39
set_option linter.unusedVariables false
set_option maxRecDepth 100000
set_option maxHeartbeats 6400000
namespace Go.Proofs.YtkbbgjloifmmbaaGreatDoor
open _root_.Go.Proofs.Tryz
open _root_.List renaming getElem?_eq_getElem->amK,length_map->ao3,mem_of_getElem?->aou,getElem?_map->ao7,getD_eq_getElem?_getD->apo,map_set->ap7,map_append->aof,getElem?_set_self->aqo,mem_singleton->anw
open _root_.Go.RowKit.Below renaming refl->apb
open _root_.Nat renaming le_refl->amS
open _root_.Go.Instr renaming indexAt->amX
open Go.RowKit Go.Sort
theorem Own.aeo(w:World)(E:Nat)(v:Value)(hv:v.oneCell'=true):Own (w.alloc (.cells #[v] E)) w.heap.size E 1 (Option.some ⟨w.heap.size,0,none⟩) 1 1 [v]:=
 ⟨rfl,.inr ⟨w.heap.size,1,#[v],rfl,amS _,heap_alloc_new w _,amS _,by unfold maxLen;omega,rfl,rfl⟩⟩
theorem SE(n:Nat):(madeCells #[Value.string ByteArray.empty] n).toList=sV (List.replicate n []):=
 (toList_madeCells_one _ n).trans (by unfold sV;rw[List.map_replicate];rfl)
abbrev uR:=List (Option Addr × List Tx)
abbrev rV(n:Nat)(R:uR):List Value:=R.map fun r=>Value.slice r.1 n n
abbrev uQ(w:World)(B:Nat)(a:Option Addr)(m c n:Nat)(R:uR):Prop:=Own w B 42 1 a m c (rV n R)
def lq(w:World)(B n:Nat)(R:uR):Prop:= ∀r∈R,bh w B r.1 n n r.2
theorem lq.below{w w':World}{B n:Nat}{R:uR}(h:lq w B n R)(hb:Below w.heap.size w w'):lq w' B n R:=fun r hr=>Own.below (h r hr) hb
theorem qH:gQ prog 148 42 (.slice none 0 0) 1 24:=⟨underlying148,by kernel_rfl,rfl,by decide⟩
theorem lq.kept{w w':World}{B n:Nat}{R:uR}(h:lq w B n R){B' E' m' n' c':Nat}{a:Option Addr}{xs:List Value}(o:Own w B' E' m' a n' c' xs)(hne:E'≠9)(hg:w.grownBy w' (a.map (·.block))):lq w' B n R:=
 fun r hr=>Own.kept (h r hr) hg (mD o (h r hr) hne)
theorem lq.adE{w w':World}{B n:Nat}{R:uR}(h:lq w B n R){a:Option Addr}(hne: ∀r∈R,bk r.1≠bk a)(hg:w.grownBy w' (a.map (·.block))):lq w' B n R:=
 fun r hr=>Own.kept (h r hr) hg (.inr (by
  cases a with
  |none=>simp
  |some a=>have:=hne r hr;simpa[bk]using this))
abbrev nj(l:List Nat):List Int:=l.map fun m:Nat=>(m:Int)
theorem abk(t:ak)(h1:1<=t.code.length)(hc:t.code.length<=16)(hr: ∀x∈t.code,x.l.length<=256)(w:World)(h:dw w t)(g:Gl w):
 Calls prog 59 #[vT t] w (Ye w (ig t)):=by
 have A:=al w (bC t);have b0:=eG.new w t;have HI:=hid (h.keep A);have HA:=hid A;have HG:=hid (g.below A);have HR:=hid hr;obtain⟨n,hn⟩: ∃n,t.code.length=n:=⟨_,rfl⟩;rw[hn]at h1 hc;have HN:=hid hn;clear h A hr g hn;go_in
 go_upto_region 1 with(fail)
 generalize w.alloc (bC t)=W1 at*;obtain⟨c0,c1,c2,c3,c4,c5,c6,c7,c8,c9,c10,c11⟩:=b0.cells;rw[HN.out]at c4;go_wp2_with fail;clear c0 c1 c2 c3 c4 c5 c6 c7 c8 c9 c10 c11
 go_loopw [4,22] (fun hg i wr=> ∃(k:Nat),k<=n/\i= .int .i64 k/\hg= .int .i64 (mw (t.code.take k))/\Below W1.heap.size W1 wr) (fun _ i _=>n-(intOf i).toNat)
 case atStart=>exact⟨0,by omega,rfl,rfl,apb _ _⟩
 case round=>
  obtain⟨k,hk,rfl,rfl,E⟩:=hrel;obtain⟨c0,c1,c2,c3,c4,c5,c6,c7,c8,c9,c10,c11⟩:=(b0.below E).cells;rw[HN.out]at c4
  by_cases hlt:k<n
  ·obtain⟨x,hx⟩: ∃x,t.code[k]? =some x:=⟨_,amK (by rw[HN.out];exact hlt)⟩
   have p0:=(HI.out.code.below E).cd hx;have ix:=HI.out.code.mS k (by rw[HN.out];exact hlt) t.cc;rw[HN.out]at ix;have HH:=I0 hx;obtain⟨H,hH⟩: ∃H,mw (t.code.take k)=H:=⟨_,rfl⟩;rw[hH]at HH⊢;obtain⟨H2,Aw⟩: ∃H2:Nat,max H x.l.length=H2:=⟨_,rfl⟩;have mx:=VC (P:=prog) #[3,3] 3 .i64 (H:Int) (x.l.length:Int) (H2:Int) (by split<;>omega)
   rw[Aw]at HH;have HH:=hid HH;clear hx hH Aw;go_wp2_with fail
   go_roundw
   case rel=>exact⟨k+1,by omega,by go_num,by rw[HH.out],E⟩
   case measure=>simp[intOf];omega
  ·have hkn:k=n:=by omega
   obtain⟨hi,hhi⟩: ∃hi,mw t.code=hi:=⟨_,rfl⟩;have acj:hi<=256:=by rw[<-hhi];exact AM HR.out
   have qT:=hid hhi;rw[hkn,show t.code.take n=t.code by rw[<-HN.out,List.take_length],hhi];clear hkn hk hlt hhi
   go_wp2_with (at_make;go_loud(refine zh l9 _ _ rfl rfl n rfl rfl rfl rfl (by omega) (by unfold maxLen;omega) (apb wr.heap.size wr) (amS _) ?_))
   intro a0 w3 o0 K7 B3;rw[SE]at o0;have o0:bh w3 wr.heap.size a0 n n (List.replicate n []):=o0;have o0:=Own.mono o0 E.size;have E:=E.trans (B3.mono E.size);clear K7 B3;have A4:=al w3 (.cells #[.slice a0 n n] 42);have r4:=Own.mono (Own.aeo w3 42 (.slice a0 n n) rfl) E.size;have o0:=Own.below o0 A4;have E4:=E.trans (A4.mono E.size);clear E A4 c0 c1 c2 c3 c4 c5 c6 c7 c8 c9 c10 c11
   go_wp2_with (at_make;go_loud(refine zh mA _ _ rfl rfl n rfl rfl rfl rfl (by omega) (by unfold maxLen;omega) (apb _ (w3.alloc (.cells #[.slice a0 n n] 42))) (amS _) ?_))
   intro aw w5 o5 st5 B5;rw[J1]at o5;have B5:Below (w3.alloc (.cells #[.slice a0 n n] 42)).heap.size (w3.alloc (.cells #[.slice a0 n n] 42)) w5:=by simpa using B5
   have r5:=Own.below r4 B5;have o0:=Own.below o0 B5;have oW:cI w5 W1.heap.size aw n n (nj (iI t 0 0)):=by rw[alm,HN.out];simpa[nj,cI]using Own.mono o5 (by have:=E4.size;simp at this ⊢; omega)
   have E:=E4.trans (B5.mono E4.size);clear st5 B5 r4 E4 o5;have E:=E;have nR:W1.heap.size<=w3.heap.size/\w3.heap.size<w5.heap.size:=by have:=Own.lt r5 (by simp);simpa using this
   generalize w3.heap.size=br at*;go_wp2_with fail
   go_loopw [37] (fun i wr=> ∃(k:Nat),k<=n/\i= .int .i64 k/\Below W1.heap.size W1 wr/\Own wr W1.heap.size 42 1 (some ⟨br,0,none⟩) 1 1 [.slice a0 n n]/\bh wr W1.heap.size a0 n n (jD 0 t k)/\cI wr W1.heap.size aw n n (nj (iI t 0 k))) (fun i _=>n-(intOf i).toNat)
   case atStart=>exact⟨0,by omega,rfl,E,r5,by rw[Ue,HN.out];exact o0,oW⟩
   case round=>
    clear E r5 o0 oW;obtain⟨k,hk,rfl,E,r5,o0,oW⟩:=hrel
    by_cases hlt:k<n
    ·obtain⟨x,hx⟩: ∃x,t.code[k]? =some x:=⟨_,amK (by rw[HN.out];exact hlt)⟩
     have hpl:=yF 0 t k (by rw[HN.out];exact hk);rw[HN.out]at hpl;have cr:wr.cell? ⟨br,0,none⟩=some (.slice a0 n n):=by have:=(Own.row r5).cell 0 (by simp);simpa using this
     have ir: ∀w',(amX 148 (.slice (some ⟨br,0,none⟩) 1 1) (.int .i64 0)).run prog w'= .ok (.pointer (some ⟨br,0,none⟩)) w':=by
      intro w';have:=sC (c:=1) (n:=1) (m:=1) (Own.row r5) qH.j4 qH.cells qH.isSome (by simp) (by omega) 0 (by omega) .i64 w';simpa using this
     have TX:=bh.kY o0 (by rw[hpl];omega);have i0:=TX.idx k (by rw[hpl];exact hlt) n;rw[hpl]at i0;have q0:=TX.cell k (by rw[hpl];exact hlt);have f0:=Own.frozen o0 (Own.some o0 (by omega)) k;have hs0:(cm t.af k x.l).getD 0 []=[80]++cR k:=rfl
     have hw0:eX ((cm t.af k x.l).take 1)=([80]++cR k).length:=by
      rw[show(cm t.af k x.l).take 1=[[80]++cR k]from rfl];exact Nat.max_eq_right (Nat.zero_le _)
     have cc: ∀w,(Op.stringOp .add ⟨#[80]⟩ (tx (cR k))).run prog w= .ok (.string (tx ([80]++cR k))) w:=cQ [80] (cR k) (by have:=OY k;simp;omega);have hps:=Uf 0 hx;have lI:=WG 0 hx;rw[hw0]at lI;rw[hs0]at hps;obtain⟨s,hs⟩: ∃s,[80]++cR k=s:=⟨_,rfl⟩;rw[hs]at cc hps lI;obtain⟨ls,hls⟩: ∃ls,s.length=ls:=⟨_,rfl⟩;rw[hls]at lI;have hsz:=yY hls;have uM:=hid hps;have Gm:=hid lI;clear hs0 hw0 hx hs hps lI hls;obtain⟨jh,gm⟩:=Own.set o0 (Own.some o0 (by omega)) k (.string (tx s))
     have zJ:=hid (show bh (wr.setCell ⟨bk a0,fo a0+k,none⟩ (.string (tx s))).drew W1.heap.size a0 n n (jD 0 t (k+1))/\Own (wr.setCell ⟨bk a0,fo a0+k,none⟩ (.string (tx s))).drew W1.heap.size 42 1 (some ⟨br,0,none⟩) 1 1 [.slice a0 n n]/\cI (wr.setCell ⟨bk a0,fo a0+k,none⟩ (.string (tx s))).drew W1.heap.size aw n n (nj (iI t 0 k))/\Below W1.heap.size W1 (wr.setCell ⟨bk a0,fo a0+k,none⟩ (.string (tx s))).drew from by
      refine⟨Own.below ?_ (below_drewN _ 1),Own.below (Own.kept r5 gm.grown (mD o0 r5 (by decide))) (below_drewN _ 1),Own.below (Own.kept oW gm.grown (mD o0 oW (by decide))) (below_drewN _ 1),dc (iM E (by have:=(Own.lt o0 (Own.some o0 (by omega))).1;dsimp only;omega) _)⟩;rw[<-uM.out];simpa only[bh,sV,ap7]using jh)
     clear jh gm
     have hne:bk a0≠br:=by
      rcases mD r5 o0 (by decide)with h|h
      ·exact absurd h (Own.some o0 (by omega))
      ·simpa using h
     have amj:=hne.symm;go_wp2_with fail
     go_region_held3 (fun w'=>w'.cell? ⟨br,0,none⟩=some (.slice a0 n n)/\w'.frozen? ⟨bk a0,fo a0+k,none⟩=false) (first|exact⟨by assumption,by assumption⟩|go_keep) ((go_at_call 57;refine(vR k (by omega) _).mono ?_;rintro e w' ⟨rfl,rfl⟩))
     generalize (wr.setCell ⟨bk a0,fo a0+k,none⟩ (.string (tx s))).drew=W7 at*;clear cr ir TX i0 q0 f0 hpl E r5 o0 oW cc;obtain⟨o0,r5,oW,E⟩:=zJ.out;have hpl:=yF 0 t (k+1) (by rw[HN.out];omega);rw[HN.out]at hpl;have cr:W7.cell? ⟨br,0,none⟩=some (.slice a0 n n):=by have:=(Own.row r5).cell 0 (by simp);simpa using this
     have ir: ∀w',(amX 148 (.slice (some ⟨br,0,none⟩) 1 1) (.int .i64 0)).run prog w'= .ok (.pointer (some ⟨br,0,none⟩)) w':=by
      intro w';have:=sC (c:=1) (n:=1) (m:=1) (Own.row r5) qH.j4 qH.cells qH.isSome (by simp) (by omega) 0 (by omega) .i64 w';simpa using this
     have TX:=bh.kY o0 (by rw[hpl];omega);have i0:=TX.idx k (by rw[hpl];exact hlt) n;rw[hpl]at i0;have q0:=TX.at (k:=k) (y:=s) (by rw[<-uM.out,aqo (by rw[yF 0 t k (by rw[HN.out];exact hk),HN.out];exact hlt)]);have hwl:=pN t 0 k;rw[HN.out]at hwl;have TI:=(Own.ints oW).1;have iw:=TI.idx mA k (by rw[ao3,hwl];exact hlt);rw[ao3,hwl]at iw;obtain⟨wv,pw⟩: ∃v,W7.cell? ⟨bk aw,fo aw+k,none⟩=some v:=⟨_,TI.cell k (by rw[ao3,hwl];exact hlt)⟩;have fw:=Own.frozen oW (Own.some oW (by omega)) k;obtain⟨jh,gm⟩:=Own.set oW (Own.some oW (by omega)) k (.int .i64 (ls:Int))
     have xg:=hid (show bh (W7.setCell ⟨bk aw,fo aw+k,none⟩ (.int .i64 (ls:Int))) W1.heap.size a0 n n (jD 0 t (k+1))/\Own (W7.setCell ⟨bk aw,fo aw+k,none⟩ (.int .i64 (ls:Int))) W1.heap.size 42 1 (some ⟨br,0,none⟩) 1 1 [.slice a0 n n]/\cI (W7.setCell ⟨bk aw,fo aw+k,none⟩ (.int .i64 (ls:Int))) W1.heap.size aw n n (nj (iI t 0 (k+1)))/\Below W1.heap.size W1 (W7.setCell ⟨bk aw,fo aw+k,none⟩ (.int .i64 (ls:Int)))from by
      refine⟨Own.kept o0 gm.grown (mD oW o0 (by decide)),Own.kept r5 gm.grown (mD oW r5 (by decide)),?_,iM E (by have:=(Own.lt oW (Own.some oW (by omega))).1;dsimp only;omega) _⟩;rw[<-Gm.out];simpa only[cI,ints,nj,ap7]using jh)
     clear jh gm TI TX o0 r5 oW E zJ hpl hwl;go_wp2_with fail
     go_roundw
     case rel=>exact⟨k+1,by omega,by go_num,xg.out.2.2.2,xg.out.2.1,xg.out.1,xg.out.2.2.1⟩
     case measure=>simp[intOf];omega
    ·have hkn:k=n:=by omega
     rw[hkn]at o0 oW;have e1:=Ud 0 t;have e2:=WE t 0;rw[HN.out]at e1 e2;rw[e1]at o0;rw[e2]at oW;have fM:uQ wr W1.heap.size (some ⟨br,0,none⟩) 1 1 n [(a0,fW 0 t)]:=r5
     have gT:lq wr W1.heap.size n [(a0,fW 0 t)]:=fun r hr=>by
      rcases anw.1 hr with rfl;exact o0
     clear hkn e1 e2 r5 o0 B5 nR;go_wp2_with fail
     go_loopw [7,60] (fun v i wr=> ∃(j:Nat) (ar:Option Addr) (cr:Nat) (R:uR),j<=hi/\i= .int .i64 j/\v= .slice ar (j+1) cr/\Below W1.heap.size W1 wr/\uQ wr W1.heap.size ar (j+1) cr n R/\lq wr W1.heap.size n R/\cI wr W1.heap.size aw n n (nj (iI t (j+1) 0))/\Hid (R.map (·.2)=(List.range (j+1)).map fun i=>fW i t)) (fun _ i _=>hi-(intOf i).toNat)
     case atStart=>exact⟨0,_,_,_,by omega,rfl,rfl,E,fM,gT,oW,rfl⟩
     case round=>
      clear E fM gT oW;obtain⟨j,ar,cr,R,hj,rfl,rfl,E,fM,gT,oW,Gi⟩:=hrel
      by_cases hjt:j<hi
      ·go_wp2_with (at_make;go_loud(refine zh l9 _ _ rfl rfl n rfl rfl rfl rfl (by omega) (by unfold maxLen;omega) (apb wr.heap.size wr) (amS _) ?_))
       intro ac w3 oc K7 B3;rw[SE]at oc
       have hac: ∀r∈R,bk r.1≠bk ac:=fun r hr=>by
        have h2:=(Own.lt (gT r hr) (Own.some (gT r hr) (by omega))).2;have h3:=(Own.lt oc (Own.some oc (by omega))).1;omega
       have Xd:=hid hac;have oc:bh w3 W1.heap.size ac n n (jD (j+1) t 0):=by rw[Ue,HN.out];exact Own.mono oc E.size
       have fM:=Own.below fM B3;have gT:=gT.below B3;have oW:=Own.below oW B3;have E:=E.trans (B3.mono E.size);clear K7 B3 hac;go_wp2_with fail
       go_loopw [66] (fun i wr=> ∃(k:Nat),k<=n/\i= .int .i64 k/\Below W1.heap.size W1 wr/\uQ wr W1.heap.size ar (j+1) cr n R/\lq wr W1.heap.size n R/\bh wr W1.heap.size ac n n (jD (j+1) t k)/\cI wr W1.heap.size aw n n (nj (iI t (j+1) k))) (fun i _=>n-(intOf i).toNat)
       case atStart=>exact⟨0,by omega,rfl,E,fM,gT,oc,oW⟩
       case round=>
        clear E fM gT oc oW;obtain⟨k,hk,rfl,E,fM,gT,oc,oW⟩:=hrel
        by_cases hlt:k<n
        ·obtain⟨x,hx⟩: ∃x,t.code[k]? =some x:=⟨_,amK (by rw[HN.out];exact hlt)⟩
         obtain⟨c0,c1,c2,c3,c4,c5,c6,c7,c8,c9,c10,c11⟩:=(b0.below E).cells;rw[HN.out]at c4;have p0:=(HI.out.code.below E).cd hx;have ix:=HI.out.code.mS k (by rw[HN.out];exact hlt) t.cc;rw[HN.out]at ix
         by_cases hjl:j<x.l.length
         ·obtain⟨i,hi'⟩: ∃i,x.l[j]? =some i:=⟨_,amK hjl⟩
          have kr:=(HI.out.rows x (aou hx)).keep E;obtain⟨q0,q1,q2,q3,q4,q5,q6,q7⟩:=kr.is.cells hi';have vS:=kr.is.idx j hjl x.c;have hb:=kr.nY i (aou hi')
          have hcell:(cm t.af k x.l).getD (j+1) []=(dL t.af i).1:=by
           unfold cm;rw[apo,List.getElem?_cons_succ,ao7,hi'];rfl
          have hps:=Uf (j+1) hx;have lI:=WG (j+1) hx
          have hwt:eX ((cm t.af k x.l).take (j+1+1))=max (eX ((cm t.af k x.l).take (j+1))) (dL t.af i).1.length:=by
           refine LP ?_;rw[amK (by rw[tA];omega)];rw[apo,amK (by rw[tA];omega)]at hcell;exact congrArg some hcell
          have Ee:=sM (j+1) k hx;rw[if_neg (Nat.lt_irrefl k)]at Ee;rw[hwt]at lI;rw[hcell]at hps;have CK:=hid (fun(w':World) (g:Gl w')=>aa9 t.af i hb.1 hb.2 w' g);obtain⟨m,hm⟩: ∃m,eX ((cm t.af k x.l).take (j+1))=m:=⟨_,rfl⟩;rw[hm]at lI Ee;unfold vP at CK;generalize dL t.af i=ce at*;obtain⟨s,er⟩:=ce
          dsimp only at CK hps lI
          obtain⟨ls,hls⟩: ∃ls,s.length=ls:=⟨_,rfl⟩;rw[hls]at lI;have hsz:=yY hls;obtain⟨m2,hm2⟩: ∃m2:Nat,max m ls=m2:=⟨_,rfl⟩;rw[hm2]at lI;have mx:=VC (P:=prog) #[3,3] 3 .i64 (m:Int) (ls:Int) (m2:Int) (by split<;>omega)
          have uM:=hid hps;have Gm:=hid lI;have XQ:=hid Ee;have hpl:=yF (j+1) t k (by rw[HN.out];exact hk);rw[HN.out]at hpl;have TX:=bh.kY oc (by rw[hpl];omega);have i0:=TX.idx k (by rw[hpl];exact hlt) n;rw[hpl]at i0;have f0:=Own.frozen oc (Own.some oc (by omega)) k;have hlc:=(Own.lt oc (Own.some oc (by omega))).1;have nT:bk ac≠w.heap.size:=by have:=b0.lt;omega
          have hn2:bk ac≠bk t.ca:=by
           have:=gR (HI.out.code.cd hx);dsimp only at this;omega
          have yf:bk ac≠bk x.a:=by
           have:=gR ((HI.out.rows x (aou hx)).is.cells hi').1;dsimp only at this;omega
          have amf:=nT.symm;have amg:=hn2.symm;have amh:=yf.symm;have iZ:=hid kr;have Xk:=hid hi';have XT:=hid hx;clear hps lI Ee hx hi' hcell hwt hm hls hm2 kr TX hb;have LZ:=hid (CK.out wr.drew (HG.out.below (dc E)));go_wp2_with fail
          go_region_held3 (fun w'=>w'.cell? ⟨w.heap.size,0,none⟩=some (.int .i64 t.af)/\w'.cell? ⟨w.heap.size,4,none⟩=some (.slice t.ca n t.cc)/\w'.cell? ⟨bk t.ca,fo t.ca+k,none⟩=some (.slice x.a x.l.length x.c)/\w'.cell? ⟨bk x.a,fo x.a+j*8,none⟩=some (.int .i64 i.op)/\w'.cell? ⟨bk x.a,fo x.a+j*8+1,none⟩=some (.int .i64 i.d)/\w'.cell? ⟨bk x.a,fo x.a+j*8+2,none⟩=some (.int .i64 i.a)/\w'.cell? ⟨bk x.a,fo x.a+j*8+3,none⟩=some (.int .i64 i.b)/\w'.cell? ⟨bk x.a,fo x.a+j*8+4,none⟩=some (.int .i64 i.ag)/\w'.cell? ⟨bk x.a,fo x.a+j*8+5,none⟩=some (.string (tx i.loc))/\w'.cell? ⟨bk x.a,fo x.a+j*8+6,none⟩=some (.string (tx i.label))/\w'.cell? ⟨bk x.a,fo x.a+j*8+7,none⟩=some (.int .i64 i.ai)/\w'.frozen? ⟨bk ac,fo ac+k,none⟩=false) (first|exact⟨by assumption,by assumption,by assumption,by assumption,by assumption,by assumption,by assumption,by assumption,by assumption,by assumption,by assumption,by assumption⟩|go_keep) ((go_at_call 124;refine LZ.out.mono ?_;rintro e w7 ⟨rfl,E7⟩;have E8:Below wr.heap.size wr w7:=ay (dc (apb _ _)) E7;have EE:=E.trans (E8.mono E.size);obtain⟨d0,-, -, -, d4, -⟩:=(b0.below EE).cells;rw[HN.out]at d4;have p7:=(HI.out.code.below EE).cd XT.out;obtain⟨r0,r1,r2,r3,r4,r5,r6,r7⟩:=(iZ.out.keep E8).is.cells Xk.out;have qv:=Own.below oc E8;have f7:=Own.frozen qv (Own.some qv (by omega)) k;have z7:=(bh.kY qv (by rw[hpl];omega)).cell k (by rw[hpl];exact hlt)))
          obtain⟨jh,gm⟩:=Own.set qv (Own.some qv (by omega)) k (.string (tx s))
          have zJ:=hid (show bh (w7.setCell ⟨bk ac,fo ac+k,none⟩ (.string (tx s))) W1.heap.size ac n n (jD (j+1) t (k+1))/\uQ (w7.setCell ⟨bk ac,fo ac+k,none⟩ (.string (tx s))) W1.heap.size ar (j+1) cr n R/\lq (w7.setCell ⟨bk ac,fo ac+k,none⟩ (.string (tx s))) W1.heap.size n R/\cI (w7.setCell ⟨bk ac,fo ac+k,none⟩ (.string (tx s))) W1.heap.size aw n n (nj (iI t (j+1) k))/\Below W1.heap.size W1 (w7.setCell ⟨bk ac,fo ac+k,none⟩ (.string (tx s)))from by
           refine⟨?_,Own.kept (Own.below fM E8) gm.grown (mD qv (Own.below fM E8) (by decide)),(gT.below E8).adE Xd.out gm.grown,Own.kept (Own.below oW E8) gm.grown (mD qv (Own.below oW E8) (by decide)),iM EE (by have:=(Own.lt qv (Own.some qv (by omega))).1;dsimp only;omega) _⟩;rw[<-uM.out];simpa only[bh,sV,ap7]using jh)
          generalize w7.setCell ⟨bk ac,fo ac+k,none⟩ (.string (tx s))=W8 at*;clear jh gm EE E8 E7 d0 d4 p7 r0 r1 r2 r3 r4 r5 r6 r7 qv f7 z7 oc fM gT oW E c0 c1 c2 c3 c4 c5 c6 c7 c8 c9 c10 c11 p0 ix q0 q1 q2 q3 q4 q5 q6 q7 vS f0 LZ CK hpl;obtain⟨oc,fM,gT,oW,E⟩:=zJ.out;have hpl:=yF (j+1) t (k+1) (by rw[HN.out];omega);rw[HN.out]at hpl;have q0:=(bh.kY oc (by rw[hpl];omega)).at (k:=k) (y:=s) (by rw[<-uM.out,aqo (by rw[yF (j+1) t k (by rw[HN.out];exact hk),HN.out];exact hlt)]);have hwl:=pN t (j+1) k;rw[HN.out]at hwl;have TI:=(Own.ints oW).1;have iw:=TI.idx mA k (by rw[ao3,hwl];exact hlt);rw[ao3,hwl]at iw;have pw:=TI.cell k (by rw[ao3,hwl];exact hlt)
          rw[show(nj (iI t (j+1) k))[k]'(by rw[ao3,hwl];exact hlt)=(m:Int)from by
           have:=XQ.out;rw[amK (by rw[hwl];exact hlt)]at this;rw[List.getElem_map,Option.some.inj this]]at pw
          have fw:=Own.frozen oW (Own.some oW (by omega)) k;obtain⟨jh,gm⟩:=Own.set oW (Own.some oW (by omega)) k (.int .i64 (m2:Int))
          have xg:=hid (show bh (W8.setCell ⟨bk aw,fo aw+k,none⟩ (.int .i64 (m2:Int))).drew W1.heap.size ac n n (jD (j+1) t (k+1))/\uQ (W8.setCell ⟨bk aw,fo aw+k,none⟩ (.int .i64 (m2:Int))).drew W1.heap.size ar (j+1) cr n R/\lq (W8.setCell ⟨bk aw,fo aw+k,none⟩ (.int .i64 (m2:Int))).drew W1.heap.size n R/\cI (W8.setCell ⟨bk aw,fo aw+k,none⟩ (.int .i64 (m2:Int))).drew W1.heap.size aw n n (nj (iI t (j+1) (k+1)))/\Below W1.heap.size W1 (W8.setCell ⟨bk aw,fo aw+k,none⟩ (.int .i64 (m2:Int))).drew from by
           refine⟨Own.below (Own.kept oc gm.grown (mD oW oc (by decide))) (below_drewN _ 1),Own.below (Own.kept fM gm.grown (mD oW fM (by decide))) (below_drewN _ 1),(gT.kept oW (by decide) gm.grown).below (below_drewN _ 1),Own.below ?_ (below_drewN _ 1),dc (iM E (by have:=(Own.lt oW (Own.some oW (by omega))).1;dsimp only;omega) _)⟩;rw[<-Gm.out];simpa only[cI,ints,nj,ap7]using jh)
          clear jh gm TI oc fM gT oW E zJ hpl hwl;go_wp2_with fail
          go_big_region
          obtain⟨oc,fM,gT,oW,E⟩:=xg.out;go_wp2_with fail
          go_roundw
          case rel=>exact⟨k+1,by omega,by go_num,E,fM,gT,oc,oW⟩
          case measure=>simp[intOf];omega
         ·have hps:=afV (j+1) hx (by omega)
          have lI:=alk (j+1) hx (by omega);clear hx;go_wp2_with fail
          go_roundw
          case rel=>exact⟨k+1,by omega,by go_num,E,fM,gT,by rw[hps];exact oc,by rw[lI];exact oW⟩
          case measure=>simp[intOf];omega
        ·have hkn:k=n:=by omega
         rw[hkn]at oc oW;have e1:=Ud (j+1) t;have e2:=WE t (j+1);rw[HN.out]at e1 e2;rw[e1]at oc;rw[e2]at oW;clear hkn e1 e2
         go_wp2_with (at_builtin;go_loud(refine kF qH (.tmp 108) (.tmp 110) rfl rfl rfl rfl fM rfl rfl (by intro u hu;simp at hu;subst hu;rfl) E E.size (by omega) (by unfold maxLen;omega) ?_))
         intro a6 c6 w6 o6 g6 E6
         have hR3:uQ w6 W1.heap.size a6 (j+1+1) c6 n (R++[(ac,fW (j+1) t)]):=by
          unfold uQ rV;rw[aof];exact o6
         have hR4:lq w6 W1.heap.size n (R++[(ac,fW (j+1) t)]):=fun r hr=>by
          rcases List.mem_append.1 hr with h|h
          ·exact(gT.kept fM (by decide) g6.step.grown) r h
          ·rcases anw.1 h with rfl
           exact Own.kept oc g6.step.grown (mD fM oc (by decide))
         have oW2:cI w6 W1.heap.size aw n n (nj (iI t (j+1+1) 0)):=Own.kept oW g6.step.grown (mD fM oW (by decide))
         have XE:=hid (show(R++[(ac,fW (j+1) t)]).map (·.2)=(List.range (j+1+1)).map fun i=>fW i t by
          rw[aof,Gi.out,List.range_succ (n:=j+1),aof];rfl)
         clear o6 g6 fM gT oW oc E;go_wp2_with fail
         go_roundw
         case rel=>exact⟨j+1,a6,c6,_,by omega,by go_num,rfl,E6,hR3,hR4,oW2,XE⟩
         case measure=>simp[intOf];omega
      ·have D2:j=hi:=by omega
       subst D2;have hwd:=alj t;rw[vD,qT.out]at hwd;rw[hwd]at oW;have Mr:=hid (Own.ints oW).1;have Qd:R.length=j+1:=by have:=congrArg List.length Gi.out;simpa using this
       have xd:=hid Qd;have HE:=hid E;obtain⟨W9,Iz⟩: ∃W9,wr=W9:=⟨_,rfl⟩;rw[Iz]at Mr HE fM gT;have uN:=hid (Own.row fM);have XA:=hid gT;have A9:Below W9.heap.size W9 wr:=by rw[Iz];exact apb _ _
       clear hwd oW Qd fM gT E Iz;go_wp2_with fail
       go_loopw [13,115] (fun v i wr=> ∃(m:Nat) (a:Option Addr) (c:Nat) (L:List Tx),m<=j+1/\i= .int .i64 m/\v= .slice a m c/\Below W9.heap.size W9 wr/\bh wr W9.heap.size a m c L/\Hid (L=qn t m)) (fun _ i _=>j+1-(intOf i).toNat)
       case atStart=>exact⟨0,none,0,[],by omega,rfl,rfl,A9,Own.nil _ _ _ _,rfl⟩
       case round=>
        clear A9;obtain⟨m,a,c,L,hm,rfl,rfl,E,o,HL⟩:=hrel
        by_cases D4:m<j+1
        ·obtain⟨r,hr⟩: ∃r,R[m]? =some r:=⟨_,amK (by rw[xd.out];exact D4)⟩
         have hr2:r.2=fW m t:=by
          have h1:(R.map (·.2))[m]? =some r.2:=by rw[ao7,hr];rfl
          rw[Gi.out,ao7,List.getElem?_range D4]at h1;simpa using h1.symm
         have hrt:cP W9 r.1 (fW m t):=by rw[<-hr2];exact bh.kY (XA.out r (aou hr)) (by rw[hr2,rH,HN.out];omega)
         have p0:wr.cell? ⟨bk ar,fo ar+m,none⟩=some (.slice r.1 n n):=by
          have:=(uN.out.below E).cell m (by rw[ao3,xd.out];exact D4);rw[this,ao7,hr];rfl
         have ix: ∀w',(amX 148 (.slice ar (j+1) cr) (.int .i64 m)).run prog w'= .ok (.pointer (some ⟨bk ar,fo ar+m,none⟩)) w':=by
          intro w';have:=sC (c:=cr) (n:=j+1) (m:=1) uN.out qH.j4 qH.cells qH.isSome (by simp[xd.out]) (by omega) m D4 .i64 w';simpa using this
         have JN:=hid (abe (me t) (fW m t) aw r.1 n n n wr (Mr.out.below E) (hrt.below E) (by rw[wM,HN.out]) (by rw[rH,HN.out]) h1 hc (fun _ _ _=>Zk));have HT:=hid (show L++[[32]++dV (kA (me t) (fW m t))++[32,59]]=qn t (m+1) by rw[Sk,HL.out,JR,afu]);obtain⟨l,hl⟩: ∃l,[32]++dV (kA (me t) (fW m t))++[32,59]=l:=⟨_,rfl⟩;rw[hl]at JN HT;clear hl hr hr2 hrt;go_wp2_with fail;refine JN.out.mono ?_;rintro e w2 ⟨rfl,E2⟩;have o:=Own.below o E2;have E:=E.trans (E2.mono E.size);clear p0 ix JN E2
         go_wp2_with (at_builtin;go_loud(refine kF l9 (.tmp 119) (.tmp 123) rfl rfl rfl rfl o rfl rfl (by intro u hu;simp at hu;subst hu;rfl) E E.size (by omega) (by unfold maxLen;omega) ?_))
         intro a6 c6 w6 o6 g6 E6;have o6:bh w6 W9.heap.size a6 (m+1) c6 (L++[l]):=by unfold bh;rw[sD];exact o6
         clear o g6 E;go_wp2_with fail
         go_roundw
         case rel=>exact⟨m+1,a6,c6,_,by omega,by go_num,rfl,E6,o6,HT⟩
         case measure=>simp[intOf];omega
        ·have hmn:m=j+1:=by omega
         have HT:=hid (show L=ig t by rw[La,vD,qT.out,HL.out,hmn]);have wX:=hid (show m=L.length by rw[HL.out,JU]);clear hmn;go_wp2_with fail
         (try go_simp)
         go_ret;rw[<-HT.out];exact⟨a,c,by rw[<-wX.out];rfl,by rw[<-wX.out];exact Own.mono o (Nat.le_trans HA.out.size HE.out.size),HA.out.trans ((HE.out.trans (E.mono HE.out.size)).mono HA.out.size)⟩
end Go.Proofs.YtkbbgjloifmmbaaGreatDoor

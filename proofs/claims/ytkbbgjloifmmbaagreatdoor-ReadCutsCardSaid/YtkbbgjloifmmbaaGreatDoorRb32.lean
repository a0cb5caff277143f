/- What ReadBackP leans on, part 32. -/
import Derived.Test.YtkbbgjloifmmbaaGreatDoorRb31
set_option linter.unusedVariables false
set_option maxRecDepth 100000
set_option maxHeartbeats 6400000
namespace Go.Proofs.YtkbbgjloifmmbaaGreatDoor
open _root_.Go.Proofs.Tryz
open _root_.List renaming length_append->aoE,getElem?_eq_getElem->amK,mem_of_getElem?->aou,getElem?_eq_some_iff->ano,take_length->anG,take_succ_eq_append_getElem->ao5,take_zero->apT,any_cons->apV,length_take->aoc,any_eq_true->apW,mem_append->anu
open _root_.And renaming intro->aov
open _root_.Go.RowKit.Below renaming refl->apb
open _root_.Nat renaming zero_le->apj
open Go.RowKit Go.Sort
abbrev sV(l:List Tx):List Value:=l.map fun x=>Value.string (tx x)
abbrev bh(w:World)(B:Nat)(a:Option Addr)(n c:Nat)(l:List Tx):Prop:=Own w B 9 1 a n c (sV l)
theorem sD(l r:List Tx):sV (l++r)=sV l++sV r:=List.map_append
theorem bh.kY{w:World}{B n c:Nat}{a:Option Addr}{l:List Tx}(h:bh w B a n c l)(hl:l.length<=1000000000000000000):cP w a l:=⟨h.row,hl⟩
theorem cP.at{w:World}{a:Option Addr}{l:List Tx}(h:cP w a l){k:Nat}{y:Tx}(hy:l[k]? =some y):w.cell? ⟨bk a,fo a+k,none⟩=some (.string (tx y)):=by
 obtain⟨hlt,rfl⟩:=ano.1 hy;exact h.cell k hlt
def MK(B:Nat)(w:World)(l:List Tx)(e:Ending)(w':World):Prop:=
 ∃a c,e= .returned (.slice a l.length c)/\bh w' B a l.length c l/\Below w.heap.size w w'
theorem ET(s:Tx)(acc:List Tx)(a:Option Addr)(c:Nat)(B:Nat)(w:World)(hB:B<=w.heap.size)
 (h:bh w B a acc.length c acc) (hl:acc.length<=10000):
 Calls prog 245 #[.slice a acc.length c,.string (tx s)] w (MK B w (fF acc s)):=by
 by_cases hs:s=[]
 ·subst hs
  have z:((tx []).toList==([]:List UInt8))=true:=by rw[aW];rfl
  have HZ:=hid (show fF acc []=acc by unfold fF;rw[if_pos rfl]);have H:=hid h;clear h;go_in;go_wp2_with fail;go_ret;rw[HZ.out];exact⟨a,c,rfl,H.out,apb _ _⟩
 have z5:((tx s).toList==([]:List UInt8))=false:=by rw[aW];simpa using hs
 have z6:(tx s).toList.isEmpty=false:=by rw[aW];cases s<;>simp at*
 obtain⟨n,hn⟩: ∃n,acc.length=n:=⟨_,rfl⟩;have HN:=hid hn;rw[hn]at h hl⊢;have H1:=hid h;have HB:=hid hB;have HS:=hid hs;clear hB h hn hs;go_in;go_wp2_with fail;clear z5 z6
 go_loopw [5,6,7] (fun out put i wr=> ∃(k:Nat) (ao:Option Addr) (co:Nat),k<=n/\i= .int .i64 k/\put= .bool ((acc.take k).any (bB s))/\out= .slice ao (gK s (acc.take k)).length co/\Below w.heap.size w wr/\bh wr w.heap.size ao (gK s (acc.take k)).length co (gK s (acc.take k))/\Hid (s∉acc.take k)) (fun _ _ i _=>n-(intOf i).toNat)
 case atStart=>exact⟨0,none,0,apj _,rfl,rfl,rfl,apb _ _,Own.nil _ _ _ _,by simp[Hid]⟩
 case round=>
  obtain⟨k,ao,co,hk,rfl,rfl,rfl,E1,oo,qY⟩:=hrel;have hol:=afh s (acc.take k);obtain⟨L,hL⟩: ∃L,gK s (acc.take k)=L:=⟨_,rfl⟩;obtain⟨f,hf⟩: ∃f,(acc.take k).any (bB s)=f:=⟨_,rfl⟩;obtain⟨m,hm⟩: ∃m,L.length=m:=⟨_,rfl⟩;have iJ:=hid (aov hL hf);have HM:=hid hm;rw[hL]at oo hol⊢;rw[hf];rw[hm]at oo hol⊢;rw[aoc]at hol;clear hL hf hm
  by_cases hlt:k<n
  ·obtain⟨y,hy⟩: ∃y,acc[k]? =some y:=⟨_,amK (by rw[HN.out];exact hlt)⟩
   have HY:=hid hy;have tt:=bh.kY (Own.below H1.out E1) (by have:=HN.out;omega);have p0:=tt.at hy;have ix:=tt.idx k (by rw[HN.out];exact hlt) c;rw[HN.out]at ix;obtain⟨d,hd⟩: ∃d,((tx y).toList==(tx s).toList)=d:=⟨_,rfl⟩;obtain⟨g,hg⟩: ∃g,Op.bytesLess (tx s).toList (tx y).toList=g:=⟨_,rfl⟩;have HD:=hid (show decide (y=s)=d by rw[<-hd,jG,Bool.eq_iff_iff];simp);have HG:=hid (show bB s y=g by rw[<-hg,aW,aW,Aa]);clear hy tt;cases d with
   | true=>
     have HZ:=hid (show fF acc s=acc/\acc.length=n from⟨by
      unfold fF;rw[if_neg HS.out,if_pos (by rw[<-of_decide_eq_true HD.out];exact aou HY.out)],HN.out⟩)
     go_wp2_with fail
     (try go_simp)
     go_ret;refine⟨a,c,?_,?_,E1⟩
     ·rw[HZ.out.1,HZ.out.2];first|done|rfl
     ·rw[HZ.out.1,HZ.out.2];exact Own.below H1.out E1
   | false=>
     have TK:=hid (show acc.take (k+1)=acc.take k++[y] by
      obtain⟨hlt,rfl⟩:=ano.1 HY.out;exact ao5 hlt)
     have NM:=hid (show s∉acc.take k++[y] by
      intro hm;rcases anu.1 hm with h1|h1
      ·exact qY.out h1
      ·simp at h1;have:=of_decide_eq_false HD.out;exact this h1.symm)
     clear qY;cases f with
     | true=>
       have HT:=hid (show gK s (acc.take (k+1))=L++[y]/\(acc.take (k+1)).any (bB s)=true from⟨by rw[TK.out,afk iJ.out.2,iJ.out.1],by rw[TK.out];simp[iJ.out.2]⟩)
       go_wp2_with (at_builtin;go_loud(refine kF l9 (.tmp 38) (.tmp 43) rfl rfl rfl rfl oo rfl rfl (by intro u hu;simp at hu;subst hu;rfl) E1 E1.size (by omega) (by unfold maxLen;omega) ?_))
       intro a5 c5 w5 o5 g5 B5;have o5:bh w5 w.heap.size a5 (m+1) c5 (L++[y]):=by unfold bh;rw[sD];exact o5
       have E1:=B5;clear g5 B5 p0 ix oo;go_wp2_with fail
       go_roundw
       case rel=>
        have hz:(gK s (acc.take (k+1))).length=m+1:=by rw[HT.out.1,aoE,HM.out];rfl
        refine⟨k+1,a5,c5,by omega,by go_num,?_,?_,E1,?_,?_⟩
        ·rw[HT.out.2]
        ·rw[hz]
        ·rw[hz,HT.out.1];exact o5
        ·rw[TK.out];exact NM.out
       case measure=>simp[intOf];omega
     | false=>
       cases g with
       | true=>
         have HT:=hid (show gK s (acc.take (k+1))=L++[s]++[y]/\(acc.take (k+1)).any (bB s)=true from⟨by rw[TK.out,afj iJ.out.2 HG.out,iJ.out.1],by rw[TK.out];simp[HG.out]⟩)
         go_wp2_with (at_builtin;go_loud(refine kF l9 (.tmp 34) (.tmp 36) rfl rfl rfl rfl oo rfl rfl (by intro u hu;simp at hu;subst hu;rfl) E1 E1.size (by omega) (by unfold maxLen;omega) ?_))
         intro a3 c3 w3 o3 g3 B3;have o3:bh w3 w.heap.size a3 (m+1) c3 (L++[s]):=by unfold bh;rw[sD];exact o3
         have E1:=B3;have oo:=o3;clear o3 g3 B3 p0 ix;have tt:=bh.kY (Own.below H1.out E1) (by have:=HN.out;omega);have p0:=tt.at HY.out;have ix:=tt.idx k (by rw[HN.out];exact hlt) c;rw[HN.out]at ix;clear tt
         go_wp2_with (at_builtin;go_loud(refine kF l9 (.tmp 38) (.tmp 43) rfl rfl rfl rfl oo rfl rfl (by intro u hu;simp at hu;subst hu;rfl) E1 E1.size (by omega) (by unfold maxLen;omega) ?_))
         intro a5 c5 w5 o5 g5 B5;have o5:bh w5 w.heap.size a5 (m+1+1) c5 (L++[s]++[y]):=by simpa[bh,sV]using o5
         have E1:=B5;clear g5 B5 p0 ix oo;go_wp2_with fail
         go_roundw
         case rel=>
          have hz:(gK s (acc.take (k+1))).length=m+1+1:=by rw[HT.out.1,aoE,aoE,HM.out];rfl
          refine⟨k+1,a5,c5,by omega,by go_num,?_,?_,E1,?_,?_⟩
          ·rw[HT.out.2]
          ·rw[hz]
          ·rw[hz,HT.out.1];exact o5
          ·rw[TK.out];exact NM.out
         case measure=>simp[intOf];omega
       | false=>
         have HT:=hid (show gK s (acc.take (k+1))=L++[y]/\(acc.take (k+1)).any (bB s)=false from⟨by rw[TK.out,afi iJ.out.2 HG.out,iJ.out.1],by rw[TK.out];simp only[List.any_append,iJ.out.2,apV,HG.out,List.any_nil,Bool.or_false]⟩)
         go_wp2_with (at_builtin;go_loud(refine kF l9 (.tmp 38) (.tmp 43) rfl rfl rfl rfl oo rfl rfl (by intro u hu;simp at hu;subst hu;rfl) E1 E1.size (by omega) (by unfold maxLen;omega) ?_))
         intro a5 c5 w5 o5 g5 B5;have o5:bh w5 w.heap.size a5 (m+1) c5 (L++[y]):=by unfold bh;rw[sD];exact o5
         have E1:=B5;clear g5 B5 p0 ix oo;go_wp2_with fail
         go_roundw
         case rel=>
          have hz:(gK s (acc.take (k+1))).length=m+1:=by rw[HT.out.1,aoE,HM.out];rfl
          refine⟨k+1,a5,c5,by omega,by go_num,?_,?_,E1,?_,?_⟩
          ·rw[HT.out.2]
          ·rw[hz]
          ·rw[hz,HT.out.1];exact o5
          ·rw[TK.out];exact NM.out
         case measure=>simp[intOf];omega
  ·obtain rfl:k=n:=by omega
   have hk':acc.take k=acc:=by rw[<-HN.out,anG]
   have HQ:=hid (show fF acc s=if f then L else L++[s] by
    unfold fF;rw[if_neg HS.out,if_neg (by have:=qY.out;rwa[hk']at this),adf];have h1:=iJ.out.1;have h2:=iJ.out.2;rw[hk']at h1 h2;rw[h1,h2])
   clear hk' qY;cases f with
   | true=>
     go_wp2_with fail
     (try go_simp)
     go_ret;have oH:=HQ.out;rw[if_pos trivial]at oH;rw[oH];refine⟨ao,co,?_,?_,E1⟩
     ·rw[HM.out];first|done|rfl
     ·rw[HM.out];exact Own.mono oo HB.out
   | false=>
     go_wp2_with (at_builtin;go_loud(refine kF l9 (.tmp 47) (.tmp 49) rfl rfl rfl rfl oo rfl rfl (by intro u hu;simp at hu;subst hu;rfl) E1 E1.size (by omega) (by unfold maxLen;omega) ?_))
     intro a5 c5 w5 o5 g5 B5;have o5:bh w5 w.heap.size a5 (m+1) c5 (L++[s]):=by unfold bh;rw[sD];exact o5
     have E1:=B5;clear g5 B5 oo;go_wp2_with fail
     (try go_simp)
     go_ret;have oH:=HQ.out;rw[if_neg (by simp)]at oH;rw[oH];refine⟨a5,c5,?_,?_,E1⟩
     ·rw[aoE,HM.out];first|done|rfl
     ·rw[aoE,HM.out];exact Own.mono o5 HB.out
attribute [local go_sem high] xN vZ
theorem Jv(t y:Th): ∀l:List Th,gV t (l++[y])=if l.any (cK t)then gV t l++[y]else if cK t y then l++[t,y]else l++[y,t]
 |[]=>by simp[gV]
 | z::r=>by
   rw[List.cons_append,gV,Jv t y r];cases h:cK t z
   ·simp only[apV,h,Bool.false_or,gV,if_false,Bool.false_eq_true]
    by_cases h2:r.any (cK t)=true
    ·simp[h2]
    ·by_cases h3:cK t y=true
     ·simp[h2,h3]
     ·simp[h2,h3]
   ·simp[h,gV]
def gJ(t:Th)(l:List Th):List Th:=if l.any (cK t)then gV t l else l
theorem Rl{t:Th}: ∀{l:List Th},¬l.any (cK t)=true->gV t l=l++[t]
 |[],_=>rfl
 | z::r,h=>by
   simp only[apV,Bool.or_eq_true,not_or]at h;rw[gV,if_neg h.1,Rl h.2];rfl
theorem Rk(t:Th)(l:List Th):gV t l=if l.any (cK t)then gJ t l else gJ t l++[t]:=by
 unfold gJ
 by_cases h:l.any (cK t)=true
 ·rw[if_pos h,if_pos h]
 ·rw[if_neg h,if_neg h];exact Rl h
theorem afg{t y:Th}{l:List Th}(h:l.any (cK t)=true):gJ t (l++[y])=gJ t l++[y]:=by
 unfold gJ;rw[if_pos (by simp[h]),if_pos h,Jv,if_pos h]
theorem aff{t y:Th}{l:List Th}(h:l.any (cK t)=false)(h2:cK t y=true):gJ t (l++[y])=gJ t l++[t]++[y]:=by
 unfold gJ;rw[if_pos (by simp[h2]),if_neg (by simp[h]),Jv,if_neg (by simp[h]),if_pos h2];simp
theorem afe{t y:Th}{l:List Th}(h:l.any (cK t)=false)(h2:cK t y=false):gJ t (l++[y])=gJ t l++[y]:=by
 unfold gJ;rw[if_neg (by simp[h,h2]),if_neg (by simp[h])]
theorem afd(t:Th)(l:List Th):(gJ t l).length<=l.length+1:=by
 have h:(gV t l).length<=l.length+1:=by
  induction l with
  |nil=>simp[gV]
  |cons z r ih=>unfold gV;split<;>simp only[List.length_cons]<;>omega
 unfold gJ;split<;>omega
def MG(B:Nat)(w:World)(l:List Th)(e:Ending)(w':World):Prop:=
 ∃a c,e= .returned (.slice a l.length c)/\cW w' B a l.length c l/\Below w.heap.size w w'
theorem ag0(x:Nd)(hk:x.kind=2)(ho:bE 2 x.th=true)(acc:List Th)(a:Option Addr)(c:Nat)(B:Nat)(w:World)(hB:B<=w.heap.size)
 (h:cW w B a acc.length c acc) (hv: ∀t∈acc,bE 2 t=true) (hl:acc.length<=10000):
 Calls prog 304 #[vN x,.slice a acc.length c] w (MG B w (nt x.th acc)):=by
 have A:=al w (aS x);have b0:=j5.new w x;have h1:=Own.below h A;have zk:(x.kind==2)=true:=by simpa using hk
 obtain⟨n,hn⟩: ∃n,acc.length=n:=⟨_,rfl⟩;have HN:=hid hn;rw[hn]at h1 hl⊢;have H1:=hid h1;have HB:=hid hB;have HV:=hid hv;have HO:=hid ho;have HA:=hid A;have Cu:=hid b0;have HF:=hid (fun(hf: ¬x.th∈acc)=>Rk x.th acc);clear hk hB h h1 hv ho hn HF A;go_in
 go_upto_region 1 with(fail)
 generalize w.alloc (aS x)=W1 at*;obtain⟨q0, -⟩:=b0.cells;go_wp2_with fail;clear q0
 go_loopw [5,6,7] (fun out put i wr=> ∃(k:Nat) (ao:Option Addr) (co:Nat),k<=n/\i= .int .i64 k/\put= .bool ((acc.take k).any (cK x.th))/\out= .slice ao (gJ x.th (acc.take k)).length co/\Below W1.heap.size W1 wr/\cW wr W1.heap.size ao (gJ x.th (acc.take k)).length co (gJ x.th (acc.take k))/\Hid (x.th∉acc.take k)) (fun _ _ i _=>n-(intOf i).toNat)
 case atStart=>exact⟨0,none,0,apj _,rfl,rfl,rfl,apb _ _,Own.nil _ _ _ _,by simp[Hid]⟩
 case round=>
  obtain⟨k,ao,co,hk,rfl,rfl,rfl,E1,oo,qY⟩:=hrel;have b0:=b0.below E1;have hol:=afd x.th (acc.take k);obtain⟨L,hL⟩: ∃L,gJ x.th (acc.take k)=L:=⟨_,rfl⟩;obtain⟨f,hf⟩: ∃f,(acc.take k).any (cK x.th)=f:=⟨_,rfl⟩;obtain⟨m,hm⟩: ∃m,L.length=m:=⟨_,rfl⟩;have iJ:=hid (aov hL hf);have HM:=hid hm;rw[hL]at oo hol⊢;rw[hf];rw[hm]at oo hol⊢;rw[aoc]at hol;clear hL hf hm;have hacc:=Own.below H1.out E1
  by_cases hlt:k<n
  ·obtain⟨y,hy⟩: ∃y,acc[k]? =some y:=⟨_,amK (by rw[HN.out];exact hlt)⟩
   have HY:=hid hy;have els:=(Own.els hacc de (by omega) (by have:=HN.out;omega)).1;obtain⟨p0,p1,p2⟩:=els.th hy;have ix:=els.idx iH de k (by rw[HN.out];exact hlt) c;rw[HN.out]at ix;obtain⟨q0,q1,q2,q3,q4,q5⟩:=b0.cells;obtain⟨d,hd⟩: ∃d,decide (y=x.th)=d:=⟨_,rfl⟩;have HD:=hid hd;have BF:=hid (show ∀w,Calls prog 334 #[iu x.th,iu y] w (ax w (.bool (cK x.th y)))from fun w=>agY ⟨x.th,HO.out⟩ ⟨y,HV.out y (aou HY.out)⟩ w);have hsz:W1.heap.size<=wr.heap.size:=E1.size;clear hy els hd hacc;go_wp2_with fail;have p0:=cell_regrown p0;have p1:=cell_regrown p1;have p2:=cell_regrown p2;have q0:=cell_regrown q0;have q1:=cell_regrown q1;have q2:=cell_regrown q2;have q3:=cell_regrown q3;refine wp_region_quiet_below (by kernel_rfl) (by kernel_rfl) ?_
   repeat(go_big_quiet_step (fail))
   refine wpQuiet_nil ?_;intro _ hw';obtain⟨⟨dq,aV⟩,hw''⟩:=hw';subst hw'';have EQ:=below_regrown wr dq aV;generalize grow (redrawn wr dq) aV=W7 at*;have b0:=b0.below EQ;have oo:=Own.below oo EQ;have E1:=E1.trans (EQ.mono E1.size);clear EQ p0 p1 p2 q0 q1 q2 q3 q4 q5 ix hsz;have els:=(Own.els (Own.below H1.out E1) de (by omega) (by have:=HN.out;omega)).1;obtain⟨p0,p1,p2⟩:=els.th HY.out;have ix:=els.idx iH de k (by rw[HN.out];exact hlt) c;rw[HN.out]at ix;obtain⟨q0,q1,q2,q3,q4,q5⟩:=b0.cells;clear els;cases d with
   | true=>
     have HZ:=hid (show nt x.th acc=acc/\acc.length=n from⟨by
      unfold nt;rw[if_pos (by rw[<-of_decide_eq_true HD.out];exact aou HY.out)],HN.out⟩)
     rw[HD.out];go_wp2_with fail
     (try go_simp)
     go_ret;have E:=HA.out.trans (E1.mono HA.out.size);refine⟨a,c,?_,?_,E⟩
     ·rw[HZ.out.1,HZ.out.2];first|done|rfl
     ·rw[HZ.out.1,HZ.out.2];exact Own.below H1.out E1
   | false=>
     have TK:=hid (show acc.take (k+1)=acc.take k++[y] by
      obtain⟨hlt,rfl⟩:=ano.1 HY.out;exact ao5 hlt)
     have NM:=hid (show x.th∉acc.take k++[y] by
      intro hm;rcases anu.1 hm with h1|h1
      ·exact qY.out h1
      ·simp at h1;have:=of_decide_eq_false HD.out;exact this h1.symm)
     clear qY;rw[HD.out];cases f with
     | true=>
       have HT:=hid (show gJ x.th (acc.take (k+1))=L++[y]/\(acc.take (k+1)).any (cK x.th)=true from⟨by rw[TK.out,afg iJ.out.2,iJ.out.1],by rw[TK.out];simp[iJ.out.2]⟩);go_wp2_with fail;have p0:=cell_regrown p0;have p1:=cell_regrown p1;have p2:=cell_regrown p2;have q0:=cell_regrown q0;have q1:=cell_regrown q1;have q2:=cell_regrown q2;have q3:=cell_regrown q3;refine wp_region_quiet_below (by kernel_rfl) (by kernel_rfl) ?_
       repeat(go_big_quiet_step (fail))
       refine wpQuiet_nil ?_;intro _ hw';obtain⟨⟨dq,aV⟩,hw''⟩:=hw';subst hw'';have EQ:=below_regrown W7 dq aV;generalize grow (redrawn W7 dq) aV=W9 at*;have b0:=b0.below EQ;have oo:=Own.below oo EQ;have E1:=E1.trans (EQ.mono E1.size);clear EQ p0 p1 p2 q0 q1 q2 q3 q4 q5 ix;obtain⟨p0,p1,p2⟩:=(Own.els (Own.below H1.out E1) de (by omega) (by have:=HN.out;omega)).1.th HY.out;have ix:=(Own.els (Own.below H1.out E1) de (by omega) (by have:=HN.out;omega)).1.idx iH de k (by rw[HN.out];exact hlt) c;rw[HN.out]at ix;obtain⟨q0,q1,q2,q3,q4,q5⟩:=b0.cells
       go_wp2_with (at_builtin;go_loud(refine kF iH (.tmp 42) (.tmp 47) rfl rfl rfl rfl oo rfl rfl (by intro u hu;simp at hu;rcases hu with rfl|rfl|rfl<;>rfl) E1 E1.size (by omega) (by unfold maxLen;omega) ?_))
       intro a5 c5 w5 o5 g5 B5;have o5:cW w5 W1.heap.size a5 (m+1) c5 (L++[y]):=by unfold cW;rw[nO,rP];exact o5
       have E1:=B5;have b0:=Cu.out.below E1;clear g5 B5 p0 p1 p2 q0 q1 q2 q3 q4 q5 ix oo;go_wp2_with fail
       go_roundw
       case rel=>
        have hz:(gJ x.th (acc.take (k+1))).length=m+1:=by rw[HT.out.1,aoE,HM.out];rfl
        refine⟨k+1,a5,c5,by omega,by go_num,?_,?_,E1,?_,?_⟩
        ·rw[HT.out.2]
        ·rw[hz]
        ·rw[hz,HT.out.1];exact o5
        ·rw[TK.out];exact NM.out
       case measure=>simp[intOf];omega
     | false=>
       obtain⟨g,hg⟩: ∃g,cK x.th y=g:=⟨_,rfl⟩;rw[hg]at BF;go_wp2_with fail;have p0:=cell_regrown p0;have p1:=cell_regrown p1;have p2:=cell_regrown p2;have q0:=cell_regrown q0;have q1:=cell_regrown q1;have q2:=cell_regrown q2;have q3:=cell_regrown q3;have cA:=fun(d:Nat) (os:Array Obj)=>Calls.regrown_of (kB (BF.out (grow (redrawn W7 d) os)))
       refine wp_region_quiet_below (by kernel_rfl) (by kernel_rfl) ?_
       repeat(go_big_quiet_step (exact cA _ _))
       refine wpQuiet_nil ?_;intro _ hw';obtain⟨⟨dq,aV⟩,hw''⟩:=hw';subst hw'';have EQ:=below_regrown W7 dq aV;generalize grow (redrawn W7 dq) aV=W9 at*;have b0:=b0.below EQ;have oo:=Own.below oo EQ;have E1:=E1.trans (EQ.mono E1.size);clear EQ p0 p1 p2 q0 q1 q2 q3 q4 q5 ix;obtain⟨p0,p1,p2⟩:=(Own.els (Own.below H1.out E1) de (by omega) (by have:=HN.out;omega)).1.th HY.out;have ix:=(Own.els (Own.below H1.out E1) de (by omega) (by have:=HN.out;omega)).1.idx iH de k (by rw[HN.out];exact hlt) c;rw[HN.out]at ix;obtain⟨q0,q1,q2,q3,q4,q5⟩:=b0.cells;clear cA;cases g with
       | true=>
         have HT:=hid (show gJ x.th (acc.take (k+1))=L++[x.th]++[y]/\(acc.take (k+1)).any (cK x.th)=true from⟨by rw[TK.out,aff iJ.out.2 hg,iJ.out.1],by rw[TK.out];simp[hg]⟩);clear hg
         go_wp2_with (at_builtin;go_loud(refine kF iH (.tmp 37) (.tmp 40) rfl rfl rfl rfl oo rfl rfl (by intro u hu;simp at hu;rcases hu with rfl|rfl|rfl<;>rfl) E1 E1.size (by omega) (by unfold maxLen;omega) ?_))
         intro a3 c3 w3 o3 g3 B3;have o3:cW w3 W1.heap.size a3 (m+1) c3 (L++[x.th]):=by unfold cW;rw[nO,rP];exact o3
         have E1:=B3;have b0:=Cu.out.below E1;have oo:=o3;clear o3 g3 B3 p0 p1 p2 q0 q1 q2 q3 q4 q5 ix;obtain⟨p0,p1,p2⟩:=(Own.els (Own.below H1.out E1) de (by omega) (by have:=HN.out;omega)).1.th HY.out;have ix:=(Own.els (Own.below H1.out E1) de (by omega) (by have:=HN.out;omega)).1.idx iH de k (by rw[HN.out];exact hlt) c;rw[HN.out]at ix;obtain⟨q0,q1,q2,q3,q4,q5⟩:=b0.cells
         go_wp2_with (at_builtin;go_loud(refine kF iH (.tmp 42) (.tmp 47) rfl rfl rfl rfl oo rfl rfl (by intro u hu;simp at hu;rcases hu with rfl|rfl|rfl<;>rfl) E1 E1.size (by omega) (by unfold maxLen;omega) ?_))
         intro a5 c5 w5 o5 g5 B5;have o5:cW w5 W1.heap.size a5 (m+1+1) c5 (L++[x.th]++[y]):=by unfold cW;rw[nO,rP];exact o5
         have E1:=B5;have b0:=Cu.out.below E1;clear g5 B5 p0 p1 p2 q0 q1 q2 q3 q4 q5 ix oo;go_wp2_with fail
         go_roundw
         case rel=>
          have hz:(gJ x.th (acc.take (k+1))).length=m+1+1:=by rw[HT.out.1,aoE,aoE,HM.out];rfl
          refine⟨k+1,a5,c5,by omega,by go_num,?_,?_,E1,?_,?_⟩
          ·rw[HT.out.2]
          ·rw[hz]
          ·rw[hz,HT.out.1];exact o5
          ·rw[TK.out];exact NM.out
         case measure=>simp[intOf];omega
       | false=>
         have HT:=hid (show gJ x.th (acc.take (k+1))=L++[y]/\(acc.take (k+1)).any (cK x.th)=false from⟨by rw[TK.out,afe iJ.out.2 hg,iJ.out.1],by rw[TK.out];simp only[List.any_append,iJ.out.2,apV,hg,List.any_nil,Bool.or_false]⟩);clear hg
         go_wp2_with (at_builtin;go_loud(refine kF iH (.tmp 42) (.tmp 47) rfl rfl rfl rfl oo rfl rfl (by intro u hu;simp at hu;rcases hu with rfl|rfl|rfl<;>rfl) E1 E1.size (by omega) (by unfold maxLen;omega) ?_))
         intro a5 c5 w5 o5 g5 B5;have o5:cW w5 W1.heap.size a5 (m+1) c5 (L++[y]):=by unfold cW;rw[nO,rP];exact o5
         have E1:=B5;have b0:=Cu.out.below E1;clear g5 B5 p0 p1 p2 q0 q1 q2 q3 q4 q5 ix oo;go_wp2_with fail
         go_roundw
         case rel=>
          have hz:(gJ x.th (acc.take (k+1))).length=m+1:=by rw[HT.out.1,aoE,HM.out];rfl
          refine⟨k+1,a5,c5,by omega,by go_num,?_,?_,E1,?_,?_⟩
          ·rw[HT.out.2]
          ·rw[hz]
          ·rw[hz,HT.out.1];exact o5
          ·rw[TK.out];exact NM.out
         case measure=>simp[intOf];omega
  ·obtain rfl:k=n:=by omega
   have hk':acc.take k=acc:=by rw[<-HN.out,anG]
   have HQ:=hid (show nt x.th acc=if f then L else L++[x.th] by
    unfold nt;rw[if_neg (by have:=qY.out;rwa[hk']at this),Rk];have h1:=iJ.out.1;have h2:=iJ.out.2;rw[hk']at h1 h2;rw[h1,h2])
   obtain⟨q0,q1,q2,q3,q4,q5⟩:=b0.cells;clear hacc hk' qY;cases f with
   | true=>
     go_wp2_with fail
     (try go_simp)
     go_ret;have E:=HA.out.trans (E1.mono HA.out.size);have oH:=HQ.out;rw[if_pos trivial]at oH;rw[oH];refine⟨ao,co,?_,?_,E⟩
     ·rw[HM.out];first|done|rfl
     ·rw[HM.out];exact Own.mono oo (by have:=HA.out.size;have:=HB.out;omega)
   | false=>
     go_wp2_with (at_builtin;go_loud(refine kF iH (.tmp 51) (.tmp 54) rfl rfl rfl rfl oo rfl rfl (by intro u hu;simp at hu;rcases hu with rfl|rfl|rfl<;>rfl) E1 E1.size (by omega) (by unfold maxLen;omega) ?_))
     intro a5 c5 w5 o5 g5 B5;have o5:cW w5 W1.heap.size a5 (m+1) c5 (L++[x.th]):=by unfold cW;rw[nO,rP];exact o5
     have E1:=B5;clear g5 B5 q0 q1 q2 q3 q4 q5 oo;go_wp2_with fail
     (try go_simp)
     go_ret;have E:=HA.out.trans (E1.mono HA.out.size);have oH:=HQ.out;rw[if_neg (by simp)]at oH;rw[oH];refine⟨a5,c5,?_,?_,E⟩
     ·rw[aoE,HM.out];first|done|rfl
     ·rw[aoE,HM.out];exact Own.mono o5 (by have:=HA.out.size;have:=HB.out;omega)
theorem agZ: ∀(x:Nd) (acc:List Th) (a:Option Addr) (c:Nat) (B:Nat) (w:World),bK 2 x->cH w x->B<=w.heap.size->
 cW w B a acc.length c acc->(∀t∈acc,bE 2 t=true)->mj acc->acc.length+fq x<=10000->
 Calls prog 304 #[vN x,.slice a acc.length c] w (MG B w (kg x acc)):=by
 intro x
 induction x using Nd.ind with
 |h x ih=>
 intro acc a c B w ho hI hB h hv hr hl
 by_cases hk:x.kind=2
 ·rw[Il,if_pos hk]
  exact ag0 x hk (ho.Lh hk).1 acc a c B w hB h hv (by omega)
 ·rw[Il,if_neg hk]
  have hc:=rJ x;have A:=al w (aS x);have b0:=j5.new w x;have h1:=Own.below h A;have zk:(x.kind==2)=false:=by simpa using hk
  have HI:=hid (hI.keep A);have HA:=hid A;have pR:=hid ih;have HO:=hid ho;have xS:B<=(w.alloc (aS x)).heap.size:=Nat.le_trans hB A.size;have XP:=hid (aov hv hr);clear hk ih hB h hI ho hv hr A;go_in
  go_upto_region 1 with(fail)
  generalize w.alloc (aS x)=W1 at*;obtain⟨q0,q1,q2,q3,q4,q5⟩:=b0.cells;go_wp2_with fail;clear q0 q1 q2 q3 q4 q5
  go_loopw [1,8] (fun ls i wr=> ∃(k:Nat) (a1:Option Addr) (c1:Nat),k<=x.kids.length/\i= .int .i64 k/\ls= .slice a1 (eI (x.kids.take k) acc).length c1/\Below W1.heap.size W1 wr/\cW wr B a1 (eI (x.kids.take k) acc).length c1 (eI (x.kids.take k) acc)/\Hid ((∀z∈eI (x.kids.take k) acc,bE 2 z=true)/\mj (eI (x.kids.take k) acc))/\(eI (x.kids.take k) acc).length<=acc.length+dh (x.kids.take k)) (fun _ i _=>x.kids.length-(intOf i).toNat)
  case atStart=>exact⟨0,a,c,apj _,rfl,by rw[apT,vp],apb _ _,by rw[apT,vp];exact h1,by rw[apT,vp];exact XP,by rw[apT,vp];omega⟩
  case round=>
   clear h1;obtain⟨k,a1,c1,hk,rfl,rfl,E,oo,HK,hlen⟩:=hrel;have b0:=b0.below E;obtain⟨q0,q1,q2,q3,q4,q5⟩:=b0.cells;obtain⟨l,jt⟩: ∃l,eI (x.kids.take k) acc=l:=⟨_,rfl⟩;have uJ:=hid jt;rw[jt]at oo HK hlen⊢;clear jt
   by_cases hlt:k<x.kids.length
   ·obtain⟨y,hy⟩: ∃y,x.kids[k]? =some y:=⟨_,amK hlt⟩
    have dP:=aou hy;have di:=HI.out.keep E;obtain⟨p0,p1,p2,p3,p4,p5⟩:=di.els.nd hy;have ix:=di.els.idx nk ja k hlt x.c;have hle:=di.els.len
    have hT:x.kids.take (k+1)=x.kids.take k++[y]:=by
     obtain⟨hlt,rfl⟩:=ano.1 hy;exact ao5 hlt
    have hc1:dh (x.kids.take (k+1))=dh (x.kids.take k)+fq y:=by rw[hT,pY,j9,rI];rfl
    have AI:dh x.kids=dh (x.kids.take (k+1))+dh (x.kids.drop (k+1)):=by rw[<-pY,List.take_append_drop]
    have GN:=PO (HO.out.dm y dP) HK.out.1 HK.out.2;have A:=al wr (aS y);have CY:=hid (pR.out y dP l a1 c1 B wr (HO.out.dm y dP) (di.dm y dP) (Nat.le_trans xS E.size) oo HK.out.1 HK.out.2 (by omega));have HT:=hid (show eI (x.kids.take (k+1)) acc=kg y l by rw[abG hy,uJ.out]);have HG:=hid (aov (aov GN.1 GN.2.1) (show(kg y l).length<=acc.length+dh (x.kids.take (k+1)) by have:=GN.2.2.2;omega));clear hy dP di GN hT hc1 AI;go_wp2_with fail;refine CY.out.mono ?_;rintro e w2 ⟨a2,c2,rfl,o2,E2⟩;have E2:=E.trans (E2.mono E.size);clear oo E b0 CY A q0 q1 q2 q3 q4 q5 p0 p1 p2 p3 p4 p5 ix;go_wp2_with fail
    go_roundw
    case rel=>
     refine⟨k+1,a2,c2,by omega,by go_num,?_,E2,?_,?_,?_⟩
     ·rw[HT.out]
     ·rw[HT.out];exact o2
     ·rw[HT.out];exact HG.out.1
     ·rw[HT.out];exact HG.out.2
    case measure=>simp[intOf];omega
   ·obtain rfl:k=x.kids.length:=by omega
    have HE:=hid (show eI x.kids acc=l by rw[<-uJ.out,anG]);go_wp2_with fail
    (try go_simp)
    go_ret;rw[HE.out];exact⟨a1,c1,rfl,oo,HA.out.trans (E.mono HA.out.size)⟩
theorem UI(q:Int)(x:Nd)(w:World)(hI:cH w x):Calls prog 244 #[vC q x] w (xo w (jF q x) (bF 2 q x)):=by
 have B:=al w (gX q x);have b0:aG (w.alloc (gX q x)) w.heap.size (cC q x):=aG.new w _ _;have CH:=Kr 2 q x (w.alloc (gX q x)) (hI.keep B);obtain⟨r,hr⟩: ∃r,bF 2 q x=r:=⟨_,rfl⟩;rw[hr]at CH⊢
 by_cases h0:r=0
 ·subst h0
  obtain⟨-, hq1,sg,ho,hn⟩:=rL hr;have hT:=hid (show jF q x=l8 x by unfold jF;rw[if_pos hr]);have CH:=hid CH;have HI:=hid (hI.keep B);have HO:=hid ho;clear hr hI ho;go_in;go_wp2_with fail;refine CH.out.mono ?_;rintro e1 w1 ⟨rfl,E1⟩;obtain⟨q0,q1,q2,q3,q4,q5,q6⟩:=(b0.below E1).cC;have hI:=HI.out.keep E1;have B:=B.trans (E1.mono B.size);have TH:=hid (agZ x [] none 0 w.heap.size w1 HO.out hI B.size (Own.nil _ _ _ _) (by simp) List.Pairwise.nil (by simp;omega));clear E1 CH HI hI;go_wp2_with fail;refine TH.out.mono ?_;rintro e2 w2 ⟨a,c,rfl,o2,E2⟩;have B2:=B.trans (E2.mono B.size);have HZ:=hid (aov o2 B2);clear q0 q1 q2 q3 q4 q5 q6 o2 TH E2 B2;go_wp2_with fail
  go_ret2
  rw[hT.out];exact⟨a,c,rfl,HZ.out.1,HZ.out.2⟩
 ·have hT:=hid (show jF q x=[] by unfold jF;rw[if_neg (by rw[hr];exact h0)])
  have z:(r != 0)=true:=by simpa using h0
  have CH:=hid CH;clear hr hI h0;go_in;go_wp2_with fail;refine CH.out.mono ?_;rintro e1 w1 ⟨rfl,E1⟩;have B:=B.trans (E1.mono B.size);go_wp2_with fail
  go_ret2
  exact xo.none hT.out rfl B
theorem Fw(q:Int)(x:Nd):(jF q x).length<=1024:=by
 unfold jF;split
 ·rename_i h
  obtain⟨-, -, -, ho,hn⟩:=rL h;have:=(Lj ho).2.2.2;omega
 ·simp
theorem ahB(t:ak)(hi:t.init.length<=1024)(hc:t.code.length<=16)(hr: ∀x∈t.code,x.l.length<=256)(w:World)(h:dw w t):
 Calls prog 170 #[vT t] w (MK w.heap.size w (gH t)):=by
 have A:=al w (bC t);have b0:=eG.new w t;have HI:=hid (h.keep A);have HA:=hid A;have HR:=hid hr;clear h A hr;go_in
 go_upto_region 1 with(fail)
 generalize w.alloc (bC t)=W1 at*;go_wp2_with fail
 go_loopw [3,4] (fun o i wr=> ∃(k:Nat) (a:Option Addr) (c:Nat) (L:List Tx),k<=t.init.length/\i= .int .i64 k/\o= .slice a L.length c/\Below W1.heap.size W1 wr/\bh wr W1.heap.size a L.length c L/\L.length<=2*k/\Hid (L=eu [] (nu (t.init.take k)))) (fun _ i _=>t.init.length-(intOf i).toNat)
 case atStart=>exact⟨0,none,0,[],by omega,rfl,rfl,apb _ _,Own.nil _ _ _ _,by simp,rfl⟩
 case round=>
  obtain⟨k,a,c,L,hk,rfl,rfl,E,o,hl,HL⟩:=hrel;obtain⟨c0,c1,c2,c3,c4,c5,c6,c7,c8,c9,c10,c11⟩:=(b0.below E).cells
  by_cases hlt:k<t.init.length
  ·obtain⟨x,hx⟩: ∃x,t.init[k]? =some x:=⟨_,amK hlt⟩
   obtain⟨p0,p1,p2,p3,p4⟩:=(HI.out.init.below E).qi hx;have ix:=HI.out.init.idx qj lB k hlt t.ic;have P1:=hid (ET x.loc L a c W1.heap.size wr E.size o (by omega));have bN:=EO L x.loc;have hl3:=EO (fF L x.loc) x.aE;have HT:=hid (show fF (fF L x.loc) x.aE=eu [] (nu (t.init.take (k+1))) by rw[ahM hx,<-HL.out]);have HX:=hid hx;clear hx;go_wp2_with fail;refine P1.out.mono ?_;rintro e w2 ⟨a2,kJ,rfl,o2,E2⟩;have E:=E.trans (E2.mono E.size);clear c0 c1 c2 c3 c4 c5 c6 c7 c8 c9 c10 c11 p0 p1 p2 p3 p4 o E2 P1;obtain⟨c0,c1,c2,c3,c4,c5,c6,c7,c8,c9,c10,c11⟩:=(b0.below E).cells;obtain⟨p0,p1,p2,p3,p4⟩:=(HI.out.init.below E).qi HX.out;have P1:=hid (ET x.aE (fF L x.loc) a2 kJ W1.heap.size w2 E.size o2 (by omega));go_wp2_with fail;refine P1.out.mono ?_;rintro e w3 ⟨a3,Y7,rfl,o3,E3⟩;have E:=E.trans (E3.mono E.size);clear c0 c1 c2 c3 c4 c5 c6 c7 c8 c9 c10 c11 p0 p1 p2 p3 p4 o2 E3 P1 ix;go_wp2_with fail
   go_roundw
   case rel=>exact⟨k+1,a3,Y7,_,by omega,by go_num,rfl,E,o3,by omega,HT⟩
   case measure=>simp[intOf];omega
  ·obtain rfl:k=t.init.length:=by omega
   have HL:=hid (show L=eu [] (nu t.init) by rw[HL.out,anG]);have hl:L.length<=2048:=by omega
   clear hlt hk;go_wp2_with fail;clear c0 c1 c2 c3 c4 c5 c6 c7 c8 c9 c10 c11
   go_loopw [3,5] (fun o i wr=> ∃(k:Nat) (a:Option Addr) (c:Nat) (M:List Tx),k<=t.code.length/\i= .int .i64 k/\o= .slice a M.length c/\Below W1.heap.size W1 wr/\bh wr W1.heap.size a M.length c M/\M.length<=2048+256*k/\Hid (M=eu L (kR (t.code.take k)))) (fun _ i _=>t.code.length-(intOf i).toNat)
   case atStart=>exact⟨0,a,c,L,by omega,rfl,rfl,E,o,by omega,rfl⟩
   case round=>
    clear E o;obtain⟨k,a,c,M,hk,rfl,rfl,E,o,hm,HM⟩:=hrel;obtain⟨c0,c1,c2,c3,c4,c5,c6,c7,c8,c9,c10,c11⟩:=(b0.below E).cells
    by_cases hlt:k<t.code.length
    ·obtain⟨x,hx⟩: ∃x,t.code[k]? =some x:=⟨_,amK hlt⟩
     have iy:=HI.out.code.mS k hlt t.cc;have iZ:=hid (HI.out.rows x (aou hx));have acO:=HR.out x (aou hx);have HX:=hid hx;have HT:=hid (show eu M (x.l.map (·.loc))=eu L (kR (t.code.take (k+1))) by rw[ahK hx,<-HM.out]);clear hx;go_wp2_with fail;clear c0 c1 c2 c3 c4 c5 c6 c7 c8 c9 c10 c11
     go_loopw [3,6] (fun o i wr=> ∃(j:Nat) (a:Option Addr) (c:Nat) (N:List Tx),j<=x.l.length/\i= .int .i64 j/\o= .slice a N.length c/\Below W1.heap.size W1 wr/\bh wr W1.heap.size a N.length c N/\N.length<=M.length+j/\Hid (N=eu M ((x.l.take j).map (·.loc)))) (fun _ i _=>x.l.length-(intOf i).toNat)
     case atStart=>exact⟨0,a,c,M,by omega,rfl,rfl,E,o,by omega,rfl⟩
     case round=>
      clear E o;obtain⟨j,a,c,N,hj,rfl,rfl,E,o,fC,HN⟩:=hrel;obtain⟨c0,c1,c2,c3,c4,c5,c6,c7,c8,c9,c10,c11⟩:=(b0.below E).cells;have p0:=(HI.out.code.below E).cd HX.out
      by_cases hjt:j<x.l.length
      ·obtain⟨i,hi⟩: ∃i,x.l[j]? =some i:=⟨_,amK hjt⟩
       obtain⟨q0,q1,q2,q3,q4,q5,q6,q7⟩:=(iZ.out.is.below E).cells hi;have ix:=(iZ.out.is.below E).idx j hjt x.c;have P1:=hid (ET i.loc N a c W1.heap.size wr E.size o (by omega));have bN:=EO N i.loc;have en:=hid (show fF N i.loc=eu M ((x.l.take (j+1)).map (·.loc)) by rw[SG (·.loc) hi,<-HN.out]);clear hi;go_wp2_with fail;refine P1.out.mono ?_;rintro e w2 ⟨a2,kJ,rfl,o2,E2⟩;have E:=E.trans (E2.mono E.size);clear c0 c1 c2 c3 c4 c5 c6 c7 c8 c9 c10 c11 p0 q0 q1 q2 q3 q4 q5 q6 q7 o E2 P1 ix;go_wp2_with fail
       go_roundw
       case rel=>exact⟨j+1,a2,kJ,_,by omega,by go_num,rfl,E,o2,by omega,en⟩
       case measure=>simp[intOf];omega
      ·obtain rfl:j=x.l.length:=by omega
       have en:=hid (show N=eu L (kR (t.code.take (k+1))) by rw[<-HT.out,HN.out,anG]);go_wp2_with fail
       go_roundw
       case rel=>exact⟨k+1,a,c,N,by omega,by go_num,rfl,E,o,by omega,en⟩
       case measure=>simp[intOf];omega
    ·obtain rfl:k=t.code.length:=by omega
     have HM:=hid (show M=eu L (kR t.code) by rw[HM.out,anG]);have hm:M.length<=6144:=by omega
     have TH:=hid (UI t.q t.node wr (HI.out.node.keep E));have htl:=Fw t.q t.node;clear hlt hk;obtain⟨T,hT⟩: ∃T,jF t.q t.node=T:=⟨_,rfl⟩;rw[hT]at TH htl;have Gk:=hid hT;clear hT;go_wp2_with fail;refine TH.out.mono ?_;rintro e w2 ⟨a2,kJ,rfl,o2,E2⟩;have els:=(Own.els o2 de (by omega) (by omega)).1;have Xh:=hid els;have o:=Own.below o E2;have HLT:=hid E2.size;have E:=E.trans (E2.mono E.size);have E3:=hid E;clear c0 c1 c2 c3 c4 c5 c6 c7 c8 c9 c10 c11 o2 E2 TH els;go_wp2_with fail;obtain⟨W3,hW3⟩: ∃W3,w2=W3:=⟨_,rfl⟩
     go_loopw [3,9] (fun o i wr=> ∃(j:Nat) (a:Option Addr) (c:Nat) (N:List Tx),j<=T.length/\i= .int .i64 j/\o= .slice a N.length c/\Below W1.heap.size W1 wr/\bf jP wr a2 T/\bh wr W1.heap.size a N.length c N/\N.length<=M.length+j/\Hid (N=eu M ((T.take j).map (·.loc)))) (fun _ i _=>T.length-(intOf i).toNat)
     case atStart=>exact⟨0,a,c,M,by omega,rfl,rfl,E,Xh.out,o,by omega,rfl⟩
     case round=>
      clear E o;obtain⟨j,a,c,N,hj,rfl,rfl,E,els,o,fC,HN⟩:=hrel
      by_cases hjt:j<T.length
      ·obtain⟨x,hx⟩: ∃x,T[j]? =some x:=⟨_,amK hjt⟩
       obtain⟨q0,q1,q2⟩:=els.th hx;have ix:=els.idx iH de j hjt kJ;have P1:=hid (ET x.loc N a c W1.heap.size wr E.size o (by omega));have bN:=EO N x.loc;have en:=hid (show fF N x.loc=eu M ((T.take (j+1)).map (·.loc)) by rw[SG (·.loc) hx,<-HN.out]);clear hx;go_wp2_with fail;refine P1.out.mono ?_;rintro e w4 ⟨a4,Y9,rfl,o4,E4⟩;have E:=E.trans (E4.mono E.size);have els:=els.below E4;clear q0 q1 q2 o E4 P1 ix;go_wp2_with fail
       go_roundw
       case rel=>exact⟨j+1,a4,Y9,_,by omega,by go_num,rfl,E,els,o4,by omega,en⟩
       case measure=>simp[intOf];omega
      ·obtain rfl:j=T.length:=by omega
       have HZ:=hid (show N=gH t by
        rw[aeV,<-HL.out,<-HM.out,HN.out,anG];unfold jM;rw[Gk.out])
       go_wp2_with fail
       (try go_simp)
       go_ret;rw[<-HZ.out];exact⟨a,c,rfl,Own.mono o HA.out.size,HA.out.trans (E.mono HA.out.size)⟩
def iA(t:ak):Int:=if bF t.af t.q t.node≠0 then bF t.af t.q t.node else if(jM t).any fun x=>decide ((t.code.length:Int)<=x.thread)then 80 else 0
theorem ahn(t:ak)(hn:t.code.length<=1000)(w:World)(h:dw w t):Calls prog 169 #[vT t] w (ax w (.int .i64 (iA t))):=by
 have A:=al w (bC t);have b0:=eG.new w t;have HI:=hid (h.keep A);have HA:=hid A;have CH:=Kr t.af t.q t.node _ (h.keep A).node;obtain⟨r,hr⟩: ∃r,bF t.af t.q t.node=r:=⟨_,rfl⟩;rw[hr]at CH;have CH:=hid CH;have mg:=hid (show iA t=if r≠0 then r else if(jM t).any fun x=>decide ((t.code.length:Int)<=x.thread)then 80 else 0 by unfold iA;rw[hr]);clear h A hr;go_in
 go_upto_region 1 with(fail)
 generalize w.alloc (bC t)=W1 at*;obtain⟨c0,c1,c2,c3,c4,c5,c6,c7,c8,c9,c10,c11⟩:=b0.cells;go_wp2_with fail;refine CH.out.mono ?_;rintro e w2 ⟨rfl,E⟩;clear c0 c1 c2 c3 c4 c5 c6 c7 c8 c9 c10 c11 CH
 by_cases h0:r=0
 ·subst h0
  have mg:=hid (show iA t=if(jM t).any fun x=>decide ((t.code.length:Int)<=x.thread)then 80 else 0 by rw[mg.out,if_neg (by omega)]);obtain⟨c0,c1,c2,c3,c4,c5,c6,c7,c8,c9,c10,c11⟩:=(b0.below E).cells;have TH:=hid (UI t.q t.node w2 (HI.out.node.keep E));have htl:(jF t.q t.node).length<=1024:=Fw t.q t.node;obtain⟨T,hT⟩: ∃T,jF t.q t.node=T:=⟨_,rfl⟩;rw[hT]at TH htl;have mg:=hid (show iA t=if T.any fun x=>decide ((t.code.length:Int)<=x.thread)then 80 else 0 by rw[mg.out];unfold jM;rw[hT]);clear hT;go_wp2_with fail;refine TH.out.mono ?_;rintro e w3 ⟨a2,kJ,rfl,o2,E2⟩;have els:=(Own.els o2 de (by omega) (by omega)).1;have E:=E.trans (E2.mono E.size);clear c0 c1 c2 c3 c4 c5 c6 c7 c8 c9 c10 c11 o2 E2 TH;go_wp2_with fail
  go_loopw [6] (fun i wr=> ∃j:Nat,j<=T.length/\i= .int .i64 j/\Below W1.heap.size W1 wr/\bf jP wr a2 T/\Hid (∀(m:Nat) (x:Th),m<j->T[m]? =some x->x.thread<t.code.length)) (fun i _=>T.length-(intOf i).toNat)
  case atStart=>exact⟨0,by omega,rfl,E,els,fun m x hm=>absurd hm (Nat.not_lt_zero m)⟩
  case round=>
   clear E els;obtain⟨j,hj,rfl,E,els,HJ⟩:=hrel
   by_cases hjt:j<T.length
   ·obtain⟨x,hx⟩: ∃x,T[j]? =some x:=⟨_,amK hjt⟩
    obtain⟨q0,q1,q2⟩:=els.th hx;have ix:=els.idx iH de j hjt kJ;obtain⟨c0,c1,c2,c3,c4,c5,c6,c7,c8,c9,c10,c11⟩:=(b0.below E).cells;have HX:=hid hx;clear hx;go_wp2_with fail;have q0:=cell_regrown q0;have c4:=cell_regrown c4;refine wp_region_quiet_below (by kernel_rfl) (by kernel_rfl) ?_
    repeat(go_big_quiet_step (fail))
    refine wpQuiet_nil ?_;intro _ hw';obtain⟨⟨dq,aV⟩,hw''⟩:=hw';subst hw'';have EQ:=below_regrown wr dq aV;generalize grow (redrawn wr dq) aV=W5 at*;have E:=E.trans (EQ.mono E.size);have els:=els.below EQ;clear q0 q1 q2 c0 c1 c2 c3 c4 c5 c6 c7 c8 c9 c10 c11 EQ ix
    by_cases tQ:(t.code.length:Int)<=x.thread
    ·have HZ:=hid (show iA t=80 by rw[mg.out,if_pos];rw[apW];exact⟨x,aou HX.out,by simpa using tQ⟩)
     go_wp2_with fail;go_ret;rw[HZ.out];exact⟨rfl,HA.out.trans (E.mono HA.out.size)⟩
    ·have Jh:x.thread<t.code.length:=by omega
     have fc: ∀(m:Nat) (y:Th),m<j+1->T[m]? =some y->y.thread<t.code.length:=fun m y hm hy=>by
      rcases Nat.lt_succ_iff_lt_or_eq.1 hm with h|h
      ·exact HJ.out m y h hy
      ·subst h;rw[HX.out]at hy;cases hy;exact Jh
     have fc:=hid fc;clear HJ;go_wp2_with fail
     go_roundw
     case rel=>exact⟨j+1,by omega,by go_num,E,els,fc⟩
     case measure=>simp[intOf];omega
   ·obtain rfl:j=T.length:=by omega
    have HZ:=hid (show iA t=0 by
     rw[mg.out,if_neg];rw[apW];rintro⟨x,hx,h2⟩;obtain⟨k,hk⟩:=List.mem_iff_getElem?.1 hx;have:=HJ.out k x (ano.1 hk).1 hk;simp at h2;omega)
    go_wp2_with fail;go_ret;rw[HZ.out];exact⟨rfl,HA.out.trans (E.mono HA.out.size)⟩
 ·have z:(r != 0)=true:=by simpa using h0
  have HZ:=hid (show iA t=r by rw[mg.out,if_pos h0]);clear h0;go_wp2_with fail;go_ret;rw[HZ.out];exact⟨rfl,HA.out.trans (E.mono HA.out.size)⟩
end Go.Proofs.YtkbbgjloifmmbaaGreatDoor

/- What ReadBackP leans on, part 41. -/
import Derived.Test.YtkbbgjloifmmbaaGreatDoorRb40
set_option linter.unusedVariables false
set_option maxRecDepth 100000
set_option maxHeartbeats 6400000
namespace Go.Proofs.YtkbbgjloifmmbaaGreatDoor
open _root_.Go.Proofs.Tryz
open _root_.List renaming getElem?_eq_getElem->amK,length_append->aoE,length_cons->ans,length_nil->anX,mem_of_getElem?->aou,take_of_length_le->apq,intercalate->aqp
open _root_.Go.Op renaming stringOp->anY
open _root_.Bool renaming and_eq_true->am6
open _root_.Go.Calls renaming regrown_of->an1
open _root_.Go.RowKit.Below renaming refl->apb
open _root_.Go.Value renaming string->aoM
open _root_.Int renaming toNat_natCast->anE
open _root_.Go.Lib renaming itoa->anj
open _root_.Option.some renaming inj->aoX
open Go.RowKit Go.Sort
def uj(t:ak):List Tx:=if bI t=0 then ig t else[]
theorem ahD(t:ak)(w:World)(h:dw w t)(g:Gl w):Calls prog 63 #[vT t] w (Yf w (uj t) (bI t)):=by
 have A:=al w (bC t);have b0:=eG.new w t;have HI:=hid (h.keep A);have HA:=hid A;have HG:=hid (g.below A);have CH:=ahp t _ (h.keep A);obtain⟨r,hr⟩: ∃r,bI t=r:=⟨_,rfl⟩;rw[hr]at CH⊢;have CH:=hid CH;have HR:=hid hr;clear h A hr g;go_in
 go_upto_region 1 with(fail)
 generalize w.alloc (bC t)=W1 at*;obtain⟨c0,c1,c2,c3,c4,c5,c6,c7,c8,c9,c10,c11⟩:=b0.cells;go_wp2_with fail;refine CH.out.mono ?_;rintro e w2 ⟨rfl,E⟩;clear c0 c1 c2 c3 c4 c5 c6 c7 c8 c9 c10 c11 CH
 by_cases h0:r=0
 ·subst h0
  have HV:=hid (show uj t=ig t by unfold uj;rw[if_pos HR.out]);obtain⟨-, -, k3,k4,-, -⟩:=Wk HR.out;obtain⟨-, k5,k6⟩:=Dr k3;have HC:=hid (And.intro k5 k6);obtain⟨n,hn⟩: ∃n,t.code.length=n:=⟨_,rfl⟩;have HN:=hid hn;rw[hn]at k5;clear hn k3 k4 k6;obtain⟨c0,c1,c2,c3,c4,c5,c6,c7,c8,c9,c10,c11⟩:=(b0.below E).cells;rw[HN.out]at c4
  go_wp2_with (at_make;go_loud(refine zh mA _ _ rfl rfl n rfl rfl rfl rfl (by omega) (by unfold maxLen;omega) E E.size ?_))
  intro aw w3 o1 iG B1;rw[J1]at o1;have E1:Below w2.heap.size w2 w3:=Below.grown (apb _ _) iG.grown (Nat.le_refl _) (by intro k hk;cases hk);have E:=B1;have o:cI w3 W1.heap.size aw n n (jH t 0):=by rw[als,HN.out];exact o1
  clear o1 iG B1 E1 c0 c1 c2 c3 c4 c5 c6 c7 c8 c9 c10 c11;go_wp2_with fail
  go_loopw [5,7] (fun lg i wr=> ∃(k:Nat),k<=n/\i= .int .i64 k/\lg= .int .i64 (mw (t.code.take k))/\Below W1.heap.size W1 wr/\cI wr W1.heap.size aw n n (jH t k)) (fun _ i _=>n-(intOf i).toNat)
  case atStart=>exact⟨0,by omega,rfl,rfl,E,o⟩
  case round=>
   clear E o;obtain⟨k,hk,rfl,rfl,E,o⟩:=hrel;obtain⟨c0,c1,c2,c3,c4,c5,c6,c7,c8,c9,c10,c11⟩:=(b0.below E).cells;rw[HN.out]at c4
   by_cases hlt:k<n
   ·obtain⟨x,hx⟩: ∃x,t.code[k]? =some x:=⟨_,amK (by rw[HN.out];exact hlt)⟩
    have p0:=(HI.out.code.below E).cd hx;have ix:=HI.out.code.mS k (by rw[HN.out];exact hlt) t.cc;rw[HN.out]at ix;have HX:=hid hx;have oI:=hid (HC.out.2 x (aou hx));have HH:=hid (I0 hx);obtain⟨H,hH⟩: ∃H,mw (t.code.take k)=H:=⟨_,rfl⟩;rw[hH];obtain⟨H2,Aw⟩: ∃H2:Nat,H2=max H x.l.length:=⟨_,rfl⟩;have uI:=hid (show mw (t.code.take (k+1))=H2 by rw[HH.out,hH,Aw]);have xl:=oI.out;have o:cI wr W1.heap.size aw n n (k9 t k 0):=by rw[aly t k (by rw[HN.out];exact hlt)];exact o
    clear hx hH
    have L1:(decide (H<x.l.length)=true/\H2=x.l.length)\/(decide (H<x.l.length)=false/\H2=H):=by
     by_cases h:H<x.l.length
     ·exact .inl ⟨by simpa using h,by omega⟩
     ·exact .inr ⟨by simpa using h,by omega⟩
    clear Aw;rcases L1 with⟨hgt,rfl⟩|⟨hgt,rfl⟩
    all_goals
     go_wp2_with fail;clear c0 c1 c2 c3 c4 c5 c6 c7 c8 c9 c10 c11 p0
     go_loopw [8] (fun i wr=> ∃(j m:Nat),j<=x.l.length+1/\i= .int .i64 j/\m<=70/\Below W1.heap.size W1 wr/\cI wr W1.heap.size aw n n (k9 t k m)/\Hid (m=eX ((cm t.af k x.l).take j))) (fun i _=>x.l.length+1-(intOf i).toNat)
     case atStart=>exact⟨0,0,by omega,rfl,by omega,E,o,by simp[Hid,eX]⟩
     case round=>
      clear E o;obtain⟨j,m,hj,rfl,hm,E,o,HM⟩:=hrel;obtain⟨c0,c1,c2,c3,c4,c5,c6,c7,c8,c9,c10,c11⟩:=(b0.below E).cells;have c4b:=c4;rw[HN.out]at c4;have p0:=(HI.out.code.below E).cd HX.out
      by_cases hjt:j<=x.l.length
      ·have vE:(cm t.af k x.l)[j]? =some ((cm t.af k x.l).getD j []):=by
        rw[List.getD_eq_getElem?_getD,amK (by rw[tA];omega)];rfl
       have AZ:=Hh t.af k x.l j;have CC:=hid (UK t k j x HX.out (by omega) (by omega) wr (HI.out.keep E) (HG.out.below E));obtain⟨s,hs⟩: ∃s,(cm t.af k x.l).getD j []=s:=⟨_,rfl⟩;rw[hs]at CC vE AZ;unfold vT at CC;rw[HN.out]at CC;obtain⟨ls,hls⟩: ∃ls,s.length=ls:=⟨_,rfl⟩;have hsz:=yY hls;have HW:=hid (show eX ((cm t.af k x.l).take (j+1))=max m ls by rw[LP vE,<-HM.out,hls]);rw[hls]at AZ;clear hs vE hls;go_wp2_with fail;refine CC.out.mono ?_;rintro e w4 ⟨rfl,E4⟩;have o:=Own.below o E4;have E:=E.trans (E4.mono E.size);clear c0 c1 c2 c3 c4 c5 c6 c7 c8 c9 c10 c11 p0 CC E4;have hwl:=alw t k m (by rw[HN.out];omega);rw[HN.out]at hwl;have TI:=(Own.ints o).1;have iw:=TI.idx mA k (by rw[hwl];exact hlt);rw[hwl]at iw;have pw:=TI.cell k (by rw[hwl];exact hlt)
       rw[show(k9 t k m)[k]'(by rw[hwl];exact hlt)=(m:Int)from by
        have:=alu t k m (by rw[HN.out];exact hlt);rw[amK (by rw[hwl];exact hlt)]at this;exact aoX this]at pw
       clear TI hwl
       by_cases al9:m<ls
       ·have HW:=hid (show ls=eX ((cm t.af k x.l).take (j+1)) by rw[HW.out];omega)
        have fj:=Own.frozen o (Own.some o (by omega)) k;obtain⟨jh,gm⟩:=Own.set o (Own.some o (by omega)) k (.int .i64 (ls:Int))
        have o2:cI (w4.setCell ⟨bk aw,fo aw+k,none⟩ (.int .i64 (ls:Int))) W1.heap.size aw n n (k9 t k ls):=by
         rw[<-alx t k m ls];simpa only[cI,ints,List.map_set]using jh
        have E5:Below W1.heap.size W1 (w4.setCell ⟨bk aw,fo aw+k,none⟩ (.int .i64 (ls:Int))):=iM E (by have:=(Own.lt o (Own.some o (by omega))).1;dsimp only;omega) _;clear jh gm o E;go_wp2_with fail
        go_roundw
        case rel=>exact⟨j+1,ls,by omega,by go_num,AZ,E5,o2,HW⟩
        case measure=>simp[intOf];omega
       ·have HW:=hid (show m=eX ((cm t.af k x.l).take (j+1)) by rw[HW.out];omega)
        go_wp2_with fail
        go_roundw
        case rel=>exact⟨j+1,m,by omega,by go_num,hm,E,o,HW⟩
        case measure=>simp[intOf];omega
      ·obtain rfl:j=x.l.length+1:=by omega
       have HD:=hid (show k9 t k m=jH t (k+1) by
        rw[HM.out,apq (by rw[tA];omega)];exact alv HX.out)
       rw[HD.out]at o;go_wp2_with fail
       go_roundw
       case rel=>exact⟨k+1,by omega,by go_num,by rw[uI.out],E,o⟩
       case measure=>simp[intOf];omega
   ·have hkn:k=n:=by omega
    rw[hkn]at o⊢;obtain⟨hi,hhi⟩: ∃hi,mw t.code=hi:=⟨_,rfl⟩;have acj:hi<=256:=by rw[<-hhi];exact AM HC.out.2
    have qT:=hid hhi;rw[show t.code.take n=t.code by rw[<-HN.out,List.take_length],hhi];clear hkn hk hlt hhi;go_wp2_with fail;clear c0 c1 c2 c3 c4 c5 c6 c7 c8 c9 c10 c11
    go_loopw [10,11] (fun v i wr=> ∃(j:Nat) (a:Option Addr) (c:Nat) (L:List Tx),j<=hi+1/\i= .int .i64 j/\v= .slice a j c/\Below W1.heap.size W1 wr/\cI wr W1.heap.size aw n n (jH t n)/\bh wr W1.heap.size a j c L/\Hid (L=qn t j)) (fun _ i _=>hi+1-(intOf i).toNat)
    case atStart=>exact⟨0,none,0,[],by omega,rfl,rfl,E,o,Own.nil _ _ _ _,rfl⟩
    case round=>
     clear E o;obtain⟨j,a,c,L,hj,rfl,rfl,E,o,ol,HL⟩:=hrel
     by_cases hjt:j<=hi
     ·go_wp2_with fail
      go_loopw [12,13] (fun v i wr=> ∃(k:Nat) (l:Tx),k<=n/\i= .int .i64 k/\v= .string (tx l)/\l.length<=2001/\Below W1.heap.size W1 wr/\cI wr W1.heap.size aw n n (jH t n)/\bh wr W1.heap.size a j c L/\Hid (l=[32]++dV ((ji j t).take k))) (fun _ i _=>n-(intOf i).toNat)
      case atStart=>exact⟨0,[32],by omega,rfl,rfl,by simp,E,o,ol,by simp[Hid,dV,aqp]⟩
      case round=>
       clear E o ol;obtain⟨k,l,hk,rfl,rfl,hl,E,o,ol,HS⟩:=hrel;obtain⟨c0,c1,c2,c3,c4,c5,c6,c7,c8,c9,c10,c11⟩:=(b0.below E).cells;rw[HN.out]at c4
       by_cases hlt:k<n
       ·obtain⟨x,hx⟩: ∃x,t.code[k]? =some x:=⟨_,amK (by rw[HN.out];exact hlt)⟩
        have AZ:=Hh t.af k x.l j;have acw:=GV t.af k x.l;have AY:=Fg j hx;have kM:=Ni j t (k+1) (by rw[HN.out];omega);have Ca:=aln hx;rw[HN.out]at Ca;have CC:=hid (fun(d:Nat) (os:Array Obj)=>UK t k j x hx (by omega) (by omega) (grow (redrawn wr d) os) (HI.out.keep (E.trans ((below_regrown wr d os).mono E.size))) (HG.out.below (E.trans ((below_regrown wr d os).mono E.size))));obtain⟨s,hs⟩: ∃s,(cm t.af k x.l).getD j []=s:=⟨_,rfl⟩;obtain⟨m,hm⟩: ∃m,eX (cm t.af k x.l)=m:=⟨_,rfl⟩;rw[hs]at CC AZ AY;unfold vT at CC;rw[HN.out]at CC;rw[hm]at acw Ca AY;have FC:=hid (fun(d:Nat) (os:Array Obj)=>ahu s m (by omega) (by omega) (grow (redrawn wr d) os));obtain⟨p,hp⟩: ∃p,lP m s=p:=⟨_,rfl⟩;have D7:p.length<=70:=by rw[<-hp,Kh];omega
        rw[hp]at FC AY;have mP:=hid AY;have hwl:=LQ t n (by rw[HN.out];omega);rw[HN.out]at hwl;have TI:=(Own.ints o).1;have iw:=TI.idx mA k (by rw[hwl];exact hlt);rw[hwl]at iw;have pw:=TI.cell k (by rw[hwl];exact hlt)
        rw[show(jH t n)[k]'(by rw[hwl];exact hlt)=(m:Int)from by
         rw[amK (by rw[hwl];exact hlt)]at Ca;exact aoX Ca]at pw
        clear TI hwl hs hm hp hx AY Ca;have cA:=fun(d:Nat) (os:Array Obj)=>an1 (kB (CC.out d os))
        have fA:=fun(d:Nat) (os:Array Obj)=>an1 (kB (FC.out d os))
        obtain⟨l1,jt,uJ,hor⟩: ∃l1:Tx,l1.length<=2004/\Hid (l1++p=[32]++dV ((ji j t).take (k+1)))/\((k=0/\l1=l)\/(0<k/\l1=l++[32,124,32])):=by
         by_cases hk0:k=0
         ·subst hk0
          refine⟨l,by omega,?_,.inl ⟨rfl,rfl⟩⟩;show l++p=_;rw[HS.out,Nf mP.out];simp[dV,aqp]
         ·refine⟨l++[32,124,32],by simp;omega,?_,.inr ⟨by omega,rfl⟩⟩
          show l++[32,124,32]++p=_;rw[HS.out,Ng mP.out hk0];simp
        obtain⟨l2,bN⟩: ∃l2,l1++p=l2:=⟨_,rfl⟩;have cV:l2.length<=2001:=by rw[<-bN,uJ.out,aoE];simp;omega
        have cc: ∀w,(anY .add (tx l1) (tx p)).run prog w= .ok (.string (tx (l1++p))) w:=cQ l1 p (by omega);rw[bN]at cc uJ;clear bN mP CC FC;rcases hor with⟨hk0,he⟩|⟨hk0,he⟩
        ·have z0:decide ((0:Int)<(k:Int))=false:=by simp;omega
         have z1:decide (0<k)=false:=by simp;omega
         subst he;clear hk0;go_wp2_with fail;have c0:=cell_regrown c0;have c1:=cell_regrown c1;have c2:=cell_regrown c2;have c3:=cell_regrown c3;have c4:=cell_regrown c4;have c5:=cell_regrown c5;have c6:=cell_regrown c6;have c7:=cell_regrown c7;have c8:=cell_regrown c8;have c9:=cell_regrown c9;have c10:=cell_regrown c10;have c11:=cell_regrown c11;have pw:=cell_regrown pw;refine wp_region_quiet_below (by kernel_rfl) (by kernel_rfl) ?_
         repeat(go_big_quiet_step (first|exact cA _ _|exact fA _ _))
         refine wpQuiet_nil ?_;intro _ hw';obtain⟨⟨dq,aV⟩,hw''⟩:=hw';subst hw'';have EQ:=below_regrown wr dq aV;generalize grow (redrawn wr dq) aV=W5 at*;have E:=E.trans (EQ.mono E.size);have o:=Own.below o EQ;have ol:=Own.below ol EQ;clear c0 c1 c2 c3 c4 c5 c6 c7 c8 c9 c10 c11 pw iw EQ cA fA;go_wp2_with fail
         go_roundw
         case rel=>exact⟨k+1,l2,by omega,by go_num,rfl,cV,E,o,ol,uJ⟩
         case measure=>simp[intOf];omega
        ·have Y8: ∀w,(anY .add (tx l) ⟨#[32,124,32]⟩).run prog w= .ok (.string (tx (l++[32,124,32]))) w:=cQ l [32,124,32] (by simp;omega)
         rw[<-he]at Y8;clear he;go_wp2_with fail;have c0:=cell_regrown c0;have c1:=cell_regrown c1;have c2:=cell_regrown c2;have c3:=cell_regrown c3;have c4:=cell_regrown c4;have c5:=cell_regrown c5;have c6:=cell_regrown c6;have c7:=cell_regrown c7;have c8:=cell_regrown c8;have c9:=cell_regrown c9;have c10:=cell_regrown c10;have c11:=cell_regrown c11;have pw:=cell_regrown pw;refine wp_region_quiet_below (by kernel_rfl) (by kernel_rfl) ?_
         repeat(go_big_quiet_step (first|exact cA _ _|exact fA _ _))
         refine wpQuiet_nil ?_;intro _ hw';obtain⟨⟨dq,aV⟩,hw''⟩:=hw';subst hw'';have EQ:=below_regrown wr dq aV;generalize grow (redrawn wr dq) aV=W5 at*;have E:=E.trans (EQ.mono E.size);have o:=Own.below o EQ;have ol:=Own.below ol EQ;clear c0 c1 c2 c3 c4 c5 c6 c7 c8 c9 c10 c11 pw iw EQ cA fA;go_wp2_with fail
         go_roundw
         case rel=>exact⟨k+1,l2,by omega,by go_num,rfl,cV,E,o,ol,uJ⟩
         case measure=>simp[intOf];omega
       ·have hkn:k=n:=by omega
        have HT:=hid (show l++[32,59]=lN j t by
         rw[HS.out,hkn,apq (by rw[wA,HN.out];omega)];rfl)
        have NC: ∀w,(anY .add (tx l) ⟨#[32,59]⟩).run prog w= .ok (.string (tx (l++[32,59]))) w:=cQ l [32,59] (by simp;omega);obtain⟨l2,bN⟩: ∃l2,l++[32,59]=l2:=⟨_,rfl⟩;rw[bN]at NC HT;have wW:=hid (show L++[l2]=qn t (j+1) by rw[Sk,HL.out,HT.out]);clear hkn bN
        go_wp2_with (at_builtin;go_loud(refine kF l9 (.tmp 96) (.tmp 99) rfl rfl rfl rfl ol rfl rfl (by intro u hu;simp at hu;subst hu;rfl) E E.size (by omega) (by unfold maxLen;omega) ?_))
        intro a6 NA w6 o6 g6 E6;have o6:bh w6 W1.heap.size a6 (j+1) NA (L++[l2]):=by unfold bh;rw[sD];exact o6
        have o2:cI w6 W1.heap.size aw n n (jH t n):=Own.kept o g6.step.grown (mD ol o (by decide));clear o ol g6 E c0 c1 c2 c3 c4 c5 c6 c7 c8 c9 c10 c11;go_wp2_with fail
        go_roundw
        case rel=>exact⟨j+1,a6,NA,_,by omega,by go_num,rfl,E6,o2,o6,wW⟩
        case measure=>simp[intOf];omega
     ·have D2:j=hi+1:=by omega
      have HT:=hid (show L=uj t by rw[HV.out,La,vD,qT.out,HL.out,D2]);have wX:=hid (show j=L.length by rw[HL.out,JU]);clear D2;go_wp2_with fail
      (try go_simp)
      go_ret2
      rw[<-HT.out];exact⟨a,c,by rw[<-wX.out];rfl,by rw[<-wX.out];exact Own.mono ol HA.out.size,HA.out.trans (E.mono HA.out.size)⟩
 ·have z:(r != 0)=true:=by simpa using h0
  have HV:=hid (show uj t=[] by unfold uj;rw[HR.out,if_neg h0]);clear h0;go_wp2_with fail
  (try go_simp)
  go_ret2
  rw[HV.out];exact⟨none,0,rfl,Own.nil _ _ _ _,HA.out.trans (E.mono HA.out.size)⟩
theorem ahH(n:Int)(h:15<=n)(w:World):Calls prog 129 #[.int .i64 n] w (ax w (.tuple #[.string (tx []),.int .i64 90])):=by
 have h0:decide (n<0)=false:=by simp;omega
 have h1:decide (15<=n)=true:=by simp;omega
 go_in;go_wp2_with fail
 (try go_simp)
 go_ret2
 exact⟨rfl,apb _ _⟩
theorem abi(af:Int)(k:Nat)(h:yP af k)(w:World)(g:Gl w):Calls prog 58 #[.int .i64 af,.int .i64 k] w (ax w (.string (tx (kS af k)))):=by
 rcases h with⟨h1,h2⟩|⟨h1,h2⟩
 ·have CK:=hid (alG k h2 w g)
  have HZ:=hid (show kS af k=aO k by unfold kS;rw[if_neg (by omega),mI]);have z:(af==1)=true:=by simp;omega
  clear h1 g;go_in;go_wp2_with fail;refine CK.out.mono ?_;rintro e w2 ⟨rfl,E⟩;go_wp2_with fail
  (try go_simp)
  go_ret;rw[HZ.out];exact⟨rfl,E.below⟩
 ·have CK:=hid (EN k h2 w)
  have HZ:=hid (show kS af k=bH k by unfold kS;rw[if_pos h1];unfold rT;rw[anE]);have z:(af==1)=false:=by simp;omega
  clear h1 g;go_in;go_wp2_with fail;refine CK.out.mono ?_;rintro e w2 ⟨rfl,rfl⟩;go_wp2_with fail
  (try go_simp)
  go_ret;rw[HZ.out];exact⟨rfl,apb _ _⟩
theorem Jj(i:Nat)(h:i<16):(anj (i:Int)).length<=21:=Lib.itoa_length_le (i:Int) (by omega) (by omega)
theorem Rc{af:Int}{n:Nat}{x:aF}(ha:aH af=true)(hn:n<=16)(h:eT af n x=true):(dI af x).length<=100:=by
 rcases Ap ha hn h with⟨loc,nn,rfl,h1,h2⟩|⟨i,k,v,nn,rfl,h1,-, h2,h3⟩
 ·unfold dI
  have a:=(iU h1).2;have b:=qm h2;simp only[if_true,aoE,ans,anX];omega
 ·unfold dI
  have a:=Jj i h1;have b:=KG h2;simp only[if_neg (show ¬((i:Int)= -1) by omega)];rcases h3 with⟨h4,h5, -⟩|⟨h4,h5⟩
  ·have c:=(iU h5).2
   simp only[if_neg h4,aoE,ans,anX];omega
  ·have c:=qm h5
   simp only[if_pos h4,aoE,ans,anX];omega
theorem wR.cells{w:World}{b:Nat}{x:aF}(h:aG w b (fV x)):w.cell? ⟨b,0,none⟩=some (.int .i64 x.thread)/\w.cell? ⟨b,1,none⟩=some (.int .i64 x.au)/\w.cell? ⟨b,2,none⟩=some (.string (tx x.loc))/\w.cell? ⟨b,3,none⟩=some (.string (tx x.aE))/\w.cell? ⟨b,4,none⟩=some (.int .i64 x.n):=
 ⟨h.get 0 _ rfl,h.get 1 _ rfl,h.get 2 _ rfl,h.get 3 _ rfl,h.get 4 _ rfl⟩
theorem ahw(t:ak)(loc:Tx)(nn:Int)(h1:az loc=true)(h2:aY nn=true)(w:World)(g:Gl w):
 Calls prog 64 #[vT t,k8 ⟨-1,0,loc,[],nn⟩] w (ax w (.string (tx (dI t.af ⟨-1,0,loc,[],nn⟩)))):=by
 have A:=(al w (bC t)).trans ((al (w.alloc (bC t)) (eK ⟨-1,0,loc,[],nn⟩)).mono (al w (bC t)).size);have b0:=(eG.new w t).below (al _ (eK ⟨-1,0,loc,[],nn⟩));have x0:aG ((w.alloc (bC t)).alloc (eK ⟨-1,0,loc,[],nn⟩)) (w.alloc (bC t)).heap.size (fV ⟨-1,0,loc,[],nn⟩):=aG.new _ _ _;rw[lz]at x0;have l1:=(iU h1).2;have l2:=qm h2;have b2:=nZ h2;obtain⟨d,hd⟩: ∃d,anj nn=d:=⟨_,rfl⟩;have IT:=hid (jV nn (by omega) (by omega) _ (g.below A));rw[hd]at IT l2;obtain⟨t1,t2,t3,ht,-, c1,c2,c3⟩:=rF (vb:=⟨#[61]⟩) (vd:=⟨#[59,10]⟩) loc [61] d [59,10] rfl rfl rfl rfl (by simp only[ans,anX];omega);have HZ:=hid (show dI t.af ⟨-1,0,loc,[],nn⟩=t3 by unfold dI;simp only[if_true];rw[hd,<-ht]);clear ht;rw[HZ.out];have z5:((tx ([]:Tx)).toList==([]:List UInt8))=true:=by rw[aW];rfl
 have z6:(tx ([]:Tx)).toList.isEmpty=true:=by rw[aW];rfl
 have z7:((tx ([]:Tx)).toList != ([]:List UInt8))=false:=by rw[aW];rfl
 clear hd g h1 h2;go_in
 go_upto_region 1 with(fail)
 generalize (w.alloc (bC t)).alloc (eK ⟨-1,0,loc,[],nn⟩)=W1 at*;obtain⟨p0,p1,p2,p3,p4⟩:=wR.cells x0;go_wp2_with fail;refine IT.out.mono ?_;rintro e w2 ⟨rfl,E⟩;go_wp2_with fail;go_ret;exact⟨rfl,A.trans (E.mono A.size)⟩
theorem ahx(t:ak)(i k:Nat)(hi:i<16)(hk:yP t.af k)(v:Tx)(nn:Int)(h:v≠[]/\az v=true\/v=[]/\aY nn=true)(w:World)(g:Gl w):
 Calls prog 64 #[vT t,k8 ⟨i,k,[],v,nn⟩] w (ax w (.string (tx (dI t.af ⟨i,k,[],v,nn⟩)))):=by
 have A:=(al w (bC t)).trans ((al (w.alloc (bC t)) (eK ⟨i,k,[],v,nn⟩)).mono (al w (bC t)).size);have b0:=(eG.new w t).below (al _ (eK ⟨i,k,[],v,nn⟩));have x0:aG ((w.alloc (bC t)).alloc (eK ⟨i,k,[],v,nn⟩)) (w.alloc (bC t)).heap.size (fV ⟨i,k,[],v,nn⟩):=aG.new _ _ _;rw[lz]at x0;have l3:=KG hk;have l1:=Jj i hi;have hi0: ¬((i:Int)= -1):=by omega
 obtain⟨d,hd⟩: ∃d,(if v=[]then anj nn else v)=d:=⟨_,rfl⟩
 have l2:d.length<=32:=by
  rw[<-hd];rcases h with⟨hv,h2⟩|⟨rfl,h2⟩
  ·rw[if_neg hv];exact(iU h2).2
  ·rw[if_pos rfl];have:=qm h2;omega
 obtain⟨q,hq⟩: ∃q,anj (i:Int)=q:=⟨_,rfl⟩;obtain⟨r,hr⟩: ∃r,kS t.af k=r:=⟨_,rfl⟩;rw[hq]at l1;rw[hr]at l3;have HG:=hid (g.below A);have IQ:=hid (fun(w':World) (g:Gl w')=>jV (i:Int) (by omega) (by omega) w' g);rw[hq]at IQ;obtain⟨t1,t2,t3,t4,t5,ht,c1,c2,c3,c4,c5⟩:=rG (vb:=⟨#[58]⟩) (vd:=⟨#[61]⟩) (vf:=⟨#[59,10]⟩) q [58] r [61] d [59,10] rfl rfl rfl rfl rfl rfl (by simp only[ans,anX];omega);have HZ:=hid (show dI t.af ⟨i,k,[],v,nn⟩=t5 by unfold dI;simp only[if_neg hi0];rw[hq,hr,hd,<-ht]);rw[HZ.out];clear ht hi0 hq g;rcases hk with⟨ha,hk⟩|⟨ha,hk⟩
 focus
  have R9:=hid (UN k hk);have za:(t.af==2)=false:=by simp;omega
  rw[show aO k=r by rw[<-hr];unfold kS;rw[if_neg (by omega),mI]]at R9
 rotate_left
 focus
  obtain⟨s9,e9,R9⟩: ∃(s:Tx) (e:Int),∀w,Calls prog 129 #[.int .i64 k] w (ax w (.tuple #[.string (tx s),.int .i64 e])):=by
   by_cases h:k<15
   ·exact⟨_,_,UN k h⟩
   ·exact⟨_,_,ahH k (by omega)⟩
  have R9:=hid R9;have RT:=hid (U1 k hk);have za:(t.af==2)=true:=by simp;omega
  rw[show bH k=r by rw[<-hr];unfold kS;rw[if_pos ha];unfold rT;rw[anE]]at RT
 all_goals
  clear hr ha;rcases h with⟨hv,h2⟩|⟨rfl,h2⟩
  focus
   rw[if_neg hv]at hd;have z5:((tx v).toList==([]:List UInt8))=false:=by rw[aW];simpa using hv
   have z6:(tx v).toList.isEmpty=false:=by rw[aW];cases v<;>simp at*
   have z7:((tx v).toList != ([]:List UInt8))=true:=by rw[aW];simpa using hv
   subst hd;clear hv h2
  rotate_left
  focus
   rw[if_pos rfl]at hd;have b2:=nZ h2;have IT:=hid (fun(w':World) (g:Gl w')=>jV nn (by omega) (by omega) w' g);rw[hd]at IT;have z5:((tx ([]:Tx)).toList==([]:List UInt8))=true:=by rw[aW];rfl
   have z6:(tx ([]:Tx)).toList.isEmpty=true:=by rw[aW];rfl
   have z7:((tx ([]:Tx)).toList != ([]:List UInt8))=false:=by rw[aW];rfl
   clear hd h2
  all_goals
   go_in
   go_upto_region 1 with(fail)
   generalize (w.alloc (bC t)).alloc _=W1 at*;obtain⟨p0,p1,p2,p3,p4⟩:=wR.cells x0;obtain⟨c0, -⟩:=b0.cells;go_wp2_with fail;refine(R9.out _).mono ?_;rintro e w2 ⟨rfl,E⟩;clear p0 p1 p2 p3 p4 c0;obtain⟨p0,p1,p2,p3,p4⟩:=wR.cells (x0.below E);obtain⟨c0, -⟩:=(b0.below E).cells
   go_wp2_with (go_at_call 130;refine(RT.out _).mono ?_;rintro e w3 ⟨rfl,rfl⟩)
   refine(IQ.out _ (HG.out.below E)).mono ?_;rintro e w4 ⟨rfl,E4⟩;have E:=E.trans (E4.mono E.size);clear p0 p1 p2 p3 p4 c0;obtain⟨p0,p1,p2,p3,p4⟩:=wR.cells (x0.below E);go_wp2_with fail
   (try(refine(IT.out _ (HG.out.below E)).mono ?_;rintro e w5 ⟨rfl,E5⟩;have E:=E.trans (E5.mono E.size);go_wp2_with fail))
   (try go_simp)
   go_ret;exact⟨rfl,A.trans (E.mono A.size)⟩
theorem ahv(t:ak)(x:aF)(ha:aH t.af=true)(hn:t.code.length<=16)(h:eT t.af t.code.length x=true)(w:World)(g:Gl w):
 Calls prog 64 #[vT t,k8 x] w (ax w (.string (tx (dI t.af x)))):=by
 rcases Ap ha hn h with⟨loc,nn,rfl,h1,h2⟩|⟨i,k,v,nn,rfl,h1,-, h2,h3⟩
 ·exact ahw t loc nn h1 h2 w g
 ·exact ahx t i k h1 h2 v nn (h3.imp (fun h=>⟨h.1,h.2.1⟩) fun h=>h) w g
theorem Yx{t:ak}(h:iA t=0):bF t.af t.q t.node=0:=by
 unfold iA at h
 by_cases h1:bF t.af t.q t.node=0
 ·exact h1
 ·rw[if_pos h1]at h;exact absurd h h1
theorem YO{t:ak}(h:dW t=0): ∀x∈t.init,eT t.af t.code.length x=true:=by
 unfold dW at h
 by_cases h1:1024<t.init.length
 ·rw[if_pos h1]at h;cases h
 rw[if_neg h1]at h
 split at h
 ·rename_i h2
  rw[am6,List.all_eq_true]at h2;exact h2.1
 ·cases h
def je(t:ak):Tx:=if t.af=2 then[82,73,83,67,86,32]else[88,56,54,32]
theorem Qn(t:ak):(je t).length<=6:=by unfold je;split<;>simp
structure Good(t:ak):Prop where
 af:aH t.af=true
 title:eW t.name=true
 gC:eY t.aC=true
 c1:1<=t.code.length
 c16:t.code.length<=16
 Ab: ∀x∈t.code,x.l.length<=256
 Ji:t.init.length<=1024
 first: ∀x∈t.init,eT t.af t.code.length x=true
 cond:bF t.af t.q t.node=0
theorem Good.of{t:ak}(h:bI t=0):Good t:=by
 obtain⟨a,b,c,d,e, -⟩:=Wk h;rw[am6]at b;obtain⟨k1,k5,k6⟩:=Dr c;exact⟨a,b.1,b.2,k1,k5,k6,GI d,YO d,Yx e⟩
theorem Good.inits{t:ak}(h:Good t)(k:Nat):(lM t k).length<=102400:=by
 have:=ac0 (t:=t) (fun x hx=>Rc h.af h.c16 (h.first x hx)) k;have:=h.Ji;omega
theorem Us{t:ak}{r:Int}(h:bI t=r)(hr:r≠0):iF t=([],r):=by unfold iF;rw[if_pos (by rw[h];exact hr),h]
theorem Kp{t:ak}(h:bI t=0)(hl:262144<(mX t).length):iF t=([],3):=by unfold iF;rw[if_neg (by rw[h];simp),if_pos hl]
theorem Ut{t:ak}(h:bI t=0)(hl: ¬262144<(mX t).length):iF t=(mX t,0):=by unfold iF;rw[if_neg (by rw[h];simp),if_neg hl]
theorem ahC(t:ak)(w:World)(h:dw w t)(g:Gl w):Calls prog 24 #[vT t] w (ax w (.tuple #[.string (tx (iF t).1),.int .i64 (iF t).2])):=by
 have A:=al w (bC t);have b0:=eG.new w t;have HI:=hid (h.keep A);have HA:=hid A;have HG:=hid (g.below A);have CH:=ahD t _ (h.keep A) (g.below A);obtain⟨r,hr⟩: ∃r,bI t=r:=⟨_,rfl⟩;rw[hr]at CH;have CH:=hid CH;have HR:=hid hr;clear h A hr g;go_in
 go_upto_region 1 with(fail)
 generalize w.alloc (bC t)=W1 at*;obtain⟨c0,c1,c2,c3,c4,c5,c6,c7,c8,c9,c10,c11⟩:=b0.cells;go_wp2_with fail;refine CH.out.mono ?_;rintro e w2 ⟨la,lc,rfl,o,E⟩;clear c0 c1 c2 c3 c4 c5 c6 c7 c8 c9 c10 c11 CH
 by_cases h0:r=0
 ·subst h0
  have G:=hid (Good.of HR.out);rw[show uj t=ig t by unfold uj;rw[if_pos HR.out]]at o⊢;obtain⟨m,hm⟩: ∃m,(ig t).length=m:=⟨_,rfl⟩;have HM:=hid hm;rw[hm]at o⊢
  have acv:m<=257:=by
   rw[<-hm,yT];have:=AM G.out.Ab;rw[vD];omega
  clear hm;obtain⟨c0,c1,c2,c3,c4,c5,c6,c7,c8,c9,c10,c11⟩:=(b0.below E).cells
  go_upto_if 20 with(fail)
  go_cut [6] (fun x wx=>x= .string (tx (je t))/\wx=w2)
  case first=>
   by_cases ha:t.af=2
   ·have z:(t.af==2)=true:=by simp;exact ha
    have HZ:=hid (show je t=[82,73,83,67,86,32] by unfold je;rw[if_pos ha]);clear ha;go_wp2_with fail
    go_meet
    exact⟨congrArg aoM (by rw[HZ.out];rfl),rfl⟩
   ·have z:(t.af==2)=false:=by simp;exact ha
    have HZ:=hid (show je t=[88,56,54,32] by unfold je;rw[if_neg ha]);clear ha;go_wp2_with fail
    go_meet
    exact⟨congrArg aoM (by rw[HZ.out];rfl),rfl⟩
  case rest=>
   obtain⟨rfl,rfl⟩:=hcut;have hl0:=Qn t
   have hname:t.name.length<=1024:=by
    have:=G.out.title;unfold eW at this;simp only[am6,decide_eq_true_eq]at this;exact this.2.1
   have Ql:t.aC.length<=262144:=by
    have:=G.out.gC;unfold eY at this;simp only[am6,decide_eq_true_eq]at this;exact this.1
   have k1: ∀w,(anY .add (tx (je t)) (tx t.name)).run prog w= .ok (.string (tx (je t++t.name))) w:=cQ _ _ (by omega);have k2: ∀w,(anY .add (tx (je t++t.name)) ⟨#[10]⟩).run prog w= .ok (.string (tx (rW t))) w:=cQ (je t++t.name) [10] (by simp;omega);have hh:=IJ G.out.title;obtain⟨hd,rZ⟩: ∃hd,rW t=hd:=⟨_,rfl⟩;rw[rZ]at k2 hh;have Gd:=hid rZ;clear rZ
   go_upto_if 28 with(fail)
   clear k1 k2
   go_cut [6] (fun x wx=>x= .string (tx (hd++jc t))/\wx=wc)
   case first=>
    have HY:t.aC≠[]->hd++jc t=hd++[34]++t.aC++[34,10]:=fun hc=>by unfold jc;rw[if_neg hc];simp
    have HN:t.aC=[]->hd++jc t=hd:=fun hc=>by unfold jc;rw[if_pos hc];simp
    have HE: ∀b,(!(tx t.aC).toList.isEmpty)=b->(b=true->t.aC≠[])/\(b=false->t.aC=[]):=fun b hb=>by
     rw[aW]at hb;subst hb;cases hq:t.aC with
     |nil=>simp
     |cons a r=>simp
    have k1: ∀w,(anY .add (tx hd) ⟨#[34]⟩).run prog w= .ok (.string (tx (hd++[34]))) w:=cQ hd [34] (by simp;omega);have k2: ∀w,(anY .add (tx (hd++[34])) (tx t.aC)).run prog w= .ok (.string (tx (hd++[34]++t.aC))) w:=cQ (hd++[34]) t.aC (by simp;omega);have k3: ∀w,(anY .add (tx (hd++[34]++t.aC)) ⟨#[34,10]⟩).run prog w= .ok (.string (tx (hd++[34]++t.aC++[34,10]))) w:=cQ (hd++[34]++t.aC) [34,10] (by simp;omega);obtain⟨s1,hs1⟩: ∃s1,hd++[34]=s1:=⟨_,rfl⟩;rw[hs1]at k1 k2 k3 HY;obtain⟨s2,hs2⟩: ∃s2,s1++t.aC=s2:=⟨_,rfl⟩;rw[hs2]at k2 k3 HY;obtain⟨s3,hs3⟩: ∃s3,s2++[34,10]=s3:=⟨_,rfl⟩;rw[hs3]at k3 HY;have HY:=hid HY;have HN:=hid HN;have HE:=hid HE;clear hs1 hs2 hs3;go_wp2_with fail
    all_goals
     rename_i hb;have HB:=hid (HE.out _ hb);clear hb
     go_meet
     refine⟨congrArg aoM ?_,rfl⟩
    ·rw[HY.out (HB.out.1 rfl)]
    ·rw[HN.out (HB.out.2 rfl)]
   case rest=>
    obtain⟨rfl,rfl⟩:=hcut;have rS:=Ht G.out.gC
    have k1: ∀w,(anY .add (tx (hd++jc t)) ⟨#[123,10]⟩).run prog w= .ok (.string (tx (pG t))) w:=by
     rw[show pG t=hd++jc t++[123,10] by unfold pG;rw[Gd.out]];exact cQ _ [123,10] (by simp;omega)
    have hpl:=Uq G.out.title G.out.gC;obtain⟨p0,gU⟩: ∃p0,pG t=p0:=⟨_,rfl⟩;rw[gU]at k1 hpl;have HP:=hid gU;have qV:=hid G.out.inits;clear gU;have Mt:=hid (bh.kY o (by rw[HM.out];omega));have wU:=hid E;have F0:Below wc.heap.size wc wc:=apb _ _;obtain⟨ni,hni⟩: ∃ni,t.init.length=ni:=⟨_,rfl⟩;have acA:ni<=1024:=by rw[<-hni];exact G.out.Ji
    have oz:=hid hni;clear hni o E hh hl0 hname Ql rS c0 c1 c2 c3 c4 c5 c6 c7 c8 c9 c10 c11;go_wp2_with fail;clear k1
    go_loopw [6,7] (fun v i wr=> ∃(k:Nat) (l:Tx),k<=ni/\i= .int .i64 k/\v= .string (tx l)/\l.length<=365600/\Below wc.heap.size wc wr/\Hid (l=p0++lM t k)) (fun _ i _=>ni-(intOf i).toNat)
    case atStart=>exact⟨0,p0,by omega,rfl,rfl,by omega,F0,by simp[Hid,Rg]⟩
    case round=>
     clear F0;obtain⟨k,l,hk,rfl,rfl,hl,F,HL⟩:=hrel;have E:=wU.out.trans (F.mono wU.out.size);obtain⟨c0,c1,c2,c3,c4,c5,c6,c7,c8,c9,c10,c11⟩:=(b0.below E).cells;rw[oz.out]at c3
     by_cases hlt:k<ni
     ·obtain⟨x,hx⟩: ∃x,t.init[k]? =some x:=⟨_,amK (by rw[oz.out];exact hlt)⟩
      obtain⟨mE,p1,p2,p3,p4⟩:=(HI.out.init.below E).qi hx;have ix:=HI.out.init.idx qj lB k (by rw[oz.out];exact hlt) t.ic;rw[oz.out]at ix;have CC:=hid (fun(d:Nat) (os:Array Obj)=>ahv t x G.out.af G.out.c16 (G.out.first x (aou hx)) (grow (redrawn wr d) os) (HG.out.below (E.trans ((below_regrown wr d os).mono E.size))));have hil:=qV.out (k+1);have hst:=Rf hx;unfold vT at CC;rw[oz.out]at CC;obtain⟨s,hs⟩: ∃s,dI t.af x=s:=⟨_,rfl⟩;rw[hs]at CC hst;have HT:=hid (show l++s=p0++lM t (k+1) by rw[HL.out,hst];simp);have hls:(l++s).length<=365600:=by rw[HT.out];simp;omega
      have cc: ∀w,(anY .add (tx l) (tx s)).run prog w= .ok (.string (tx (l++s))) w:=cQ l s (by rw[aoE]at hls;omega);obtain⟨l2,bN⟩: ∃l2,l++s=l2:=⟨_,rfl⟩;rw[bN]at cc HT hls;clear hx hs bN hst hil;go_wp2_with fail;have cA:=fun(d:Nat) (os:Array Obj)=>an1 (kB (CC.out d os))
      have c0:=cell_regrown c0;have c1:=cell_regrown c1;have c2:=cell_regrown c2;have c3:=cell_regrown c3;have c4:=cell_regrown c4;have c5:=cell_regrown c5;have c6:=cell_regrown c6;have c7:=cell_regrown c7;have c8:=cell_regrown c8;have c9:=cell_regrown c9;have c10:=cell_regrown c10;have c11:=cell_regrown c11;have mE:=cell_regrown mE;have p1:=cell_regrown p1;have p2:=cell_regrown p2;have p3:=cell_regrown p3;have p4:=cell_regrown p4;refine wp_region_quiet_below (by kernel_rfl) (by kernel_rfl) ?_
      repeat(go_big_quiet_step (exact cA _ _))
      refine wpQuiet_nil ?_;intro _ hw';obtain⟨⟨dq,aV⟩,hw''⟩:=hw';subst hw'';have EQ:=below_regrown wr dq aV;generalize grow (redrawn wr dq) aV=W5 at*;have F:=F.trans (EQ.mono F.size);clear c0 c1 c2 c3 c4 c5 c6 c7 c8 c9 c10 c11 mE p1 p2 p3 p4 ix EQ cA CC cc E;go_wp2_with fail
      go_roundw
      case rel=>exact⟨k+1,l2,by omega,by go_num,rfl,hls,F,HT⟩
      case measure=>simp[intOf];omega
     ·have hkn:k=ni:=by omega
      have k1: ∀w,(anY .add (tx l) ⟨#[125,10]⟩).run prog w= .ok (.string (tx (l++[125,10]))) w:=cQ l [125,10] (by simp;omega);obtain⟨p1,r9⟩: ∃p1,l++[125,10]=p1:=⟨_,rfl⟩;rw[r9]at k1;have acC:p1.length<=365602:=by rw[<-r9];simp;omega
      have Gg:=hid (show p1=p0++lM t t.init.length++[125,10] by rw[<-r9,HL.out,hkn,oz.out]);have CD:=hid (show mX t=p1++kC t m++eF t.af t.q t.node++[10] by rw[Pm,Gg.out,HP.out,<-yT,HM.out]);have hrl:=Vt G.out.c16 G.out.Ab;have xd:=hid hrl;have HF:=hid F;clear hkn r9 hrl hl;go_wp2_with fail;clear k1
      go_loopw [6,8] (fun v i wr=> ∃(j:Nat) (l:Tx),j<=m/\i= .int .i64 j/\v= .string (tx l)/\l.length<=365602/\Below wc.heap.size wc wr/\Hid (l=p1++kC t j)) (fun _ i _=>m-(intOf i).toNat)
      case atStart=>exact⟨0,p1,by omega,rfl,rfl,by omega,F,by simp[Hid,Vv]⟩
      case round=>
       clear F E c0 c1 c2 c3 c4 c5 c6 c7 c8 c9 c10 c11;obtain⟨j,l,hj,rfl,rfl,hl,F,HL⟩:=hrel
       by_cases hjt:j<m
       ·obtain⟨s,hs⟩: ∃s,(ig t)[j]? =some s:=⟨_,amK (by rw[HM.out];exact hjt)⟩
        have mE:=(Mt.out.below F).at hs;have ix:=(Mt.out.below F).idx j (by rw[HM.out];exact hjt) lc;rw[HM.out]at ix;have nV:=Lb G.out.c16 (aou hs);have k1: ∀w,(anY .add (tx l) (tx s)).run prog w= .ok (.string (tx (l++s))) w:=cQ l s (by omega);have k2: ∀w,(anY .add (tx (l++s)) ⟨#[10]⟩).run prog w= .ok (.string (tx (l++s++[10]))) w:=cQ (l++s) [10] (by simp;omega);have HT:=hid (show l++s++[10]=p1++kC t (j+1) by rw[HL.out,Vu hs];simp);obtain⟨l1,jt⟩: ∃l1,l++s=l1:=⟨_,rfl⟩;rw[jt]at k1 k2 HT;obtain⟨l2,bN⟩: ∃l2,l1++[10]=l2:=⟨_,rfl⟩;rw[bN]at k2 HT;obtain⟨n2,hn2⟩: ∃n2,l2.length=n2:=⟨_,rfl⟩;have hsz:=yY hn2;have ei:=hid hn2;clear hs jt bN hn2
        by_cases xW:262144<n2
        ·have HV:=hid (Kp HR.out (by
          rw[CD.out];have h1:=ajm t (j:=j+1) (k:=m) (by omega);have h2:=congrArg List.length HT.out;have h3:=ei.out;simp only[aoE]at h2⊢
          omega))
         go_wp2_with fail
         (try go_simp)
         go_ret2
         rw[HV.out];exact⟨rfl,HA.out.trans ((wU.out.trans (F.mono wU.out.size)).mono HA.out.size)⟩
        ·have bN:l2.length<=365602:=by rw[ei.out];omega
         go_wp2_with fail
         go_roundw
         case rel=>exact⟨j+1,l2,by omega,by go_num,rfl,bN,F,HT⟩
         case measure=>simp[intOf];omega
       ·have AQ:j=m:=by omega
        have E:=wU.out.trans (F.mono wU.out.size);obtain⟨c0,c1,c2,c3,c4,c5,c6,c7,c8,c9,c10,c11⟩:=(b0.below E).cells;have PC:=hid (ag5 t.af t.q t.node wr (HI.out.node.keep E) G.out.cond (HG.out.below E));have hcl:=VY G.out.cond;have mN:=hid (show mX t=l++eF t.af t.q t.node++[10] by rw[CD.out,HL.out,AQ]);obtain⟨d,hd⟩: ∃d,eF t.af t.q t.node=d:=⟨_,rfl⟩;rw[hd]at PC hcl mN;have k1: ∀w,(anY .add (tx l) (tx d)).run prog w= .ok (.string (tx (l++d))) w:=cQ l d (by omega);have k2: ∀w,(anY .add (tx (l++d)) ⟨#[10]⟩).run prog w= .ok (.string (tx (l++d++[10]))) w:=cQ (l++d) [10] (by simp;omega);obtain⟨l1,jt⟩: ∃l1,l++d=l1:=⟨_,rfl⟩;rw[jt]at k1 k2 mN;obtain⟨l2,bN⟩: ∃l2,l1++[10]=l2:=⟨_,rfl⟩;rw[bN]at k2 mN;obtain⟨n2,hn2⟩: ∃n2,l2.length=n2:=⟨_,rfl⟩;have hsz:=yY hn2;have ei:=hid hn2;have Md:=hid (HA.out.trans (E.mono HA.out.size));clear hd jt bN hn2 AQ;go_wp2_with fail;refine PC.out.mono ?_;rintro e w7 ⟨rfl,E7⟩;have Mx:=hid (Md.out.trans (E7.mono Md.out.size));clear c0 c1 c2 c3 c4 c5 c6 c7 c8 c9 c10 c11 PC E7
        by_cases xW:262144<n2
        ·have HV:=hid (Kp HR.out (by rw[mN.out,ei.out];exact xW))
         go_wp2_with fail
         (try go_simp)
         go_ret2
         rw[HV.out];exact⟨rfl,Mx.out⟩
        ·have HV:=hid (Ut HR.out (by rw[mN.out,ei.out];exact xW))
         go_wp2_with fail
         (try go_simp)
         go_ret2
         rw[HV.out,mN.out];exact⟨rfl,Mx.out⟩
 ·have z:(r != 0)=true:=by simpa using h0
  have HV:=hid (Us HR.out h0);clear h0;go_wp2_with fail
  (try go_simp)
  go_ret2
  rw[HV.out];exact⟨rfl,HA.out.trans (E.mono HA.out.size)⟩
end Go.Proofs.YtkbbgjloifmmbaaGreatDoor

/- What ReadBackP leans on, part 37. -/
import Derived.Test.YtkbbgjloifmmbaaGreatDoorRb36
import Derived.DeepKeys5
set_option linter.unusedVariables false
set_option maxRecDepth 100000
set_option maxHeartbeats 6400000
namespace Go.Proofs.YtkbbgjloifmmbaaGreatDoor
open _root_.Go.Proofs.Tryz
open _root_.List renaming getElem?_eq_getElem->amK,length_append->aoE,mem_of_getElem?->aou,getElem?_eq_some_iff->ano,append_assoc->anF,take_length->anG,flatMap_append->aqi,map_append->aof
open _root_.Nat renaming not_lt_zero->aoe,lt_succ_iff_lt_or_eq->an5,le_of_ble_eq_true->aqh
open _root_.Go.WalkArith renaming wf_i64->aqj
open Go.RowKit Go.Sort
def Yb(w:World)(l:List Tx)(e:Ending)(w':World):Prop:=
 ∃a c,e= .returned (.slice a l.length c)/\cP w' a l/\Below w.heap.size w w'
theorem aji(w:World)(us:List Value)(T:TypeId):Row (w.alloc (.cells us.toArray T)) (some ⟨w.heap.size,0,none⟩) us:=by
 have h:=aG.new w us.toArray T;exact⟨fun _=>rfl,fun i hi=>by simp only[fk,gb,Nat.zero_add];exact h.2 i hi⟩
theorem ahJ{l:List Cd}{k:Nat}{x:Cd}(h:l[k]? =some x):kR (l.take (k+1))=kR (l.take k)++x.l.map (·.loc):=by
 rw[jY h];unfold kR;rw[aqi];simp
theorem ahL{l:List aF}{k:Nat}{x:aF}(h:l[k]? =some x):nu (l.take (k+1))=nu (l.take k)++[x.loc,x.aE]:=by
 rw[jY h];unfold nu;rw[aqi];simp
theorem mD{w:World}{B B' E E' m m' n n' c c':Nat}{a r:Option Addr}{xs ys:List Value}(h:Own w B E m a n c xs)(h':Own w B' E' m' r n' c' ys)(hne:E≠E'):r=none\/some (bk r)≠a.map (·.block):=by
 cases r with
 |none=>exact .inl rfl
 | some p=>
   right
   intro e;obtain⟨cs,fz,h1⟩:=Bs h' p.block rfl;obtain⟨cs',fz',h2⟩:=Bs h p.block e.symm;rw[h1]at h2;simp only[Option.some.injEq,Obj.cells.injEq]at h2;exact hne h2.2.1.symm
theorem ak5{w:World}{a:Option Addr}{y:Tx}{r:List Tx}(h:cP w a (y::r)):cP w (Option.map (fun x:Addr=>⟨x.block,x.off+1,none⟩) a) r:=by
 have hh:=h.row.head (by simp)
 have hm:Option.map (fun x:Addr=>(⟨x.block,x.off+1,none⟩:Addr)) a=some ⟨bk a,fo a+1,none⟩:=by
  conv=>lhs;rw[hh]
  rfl
 rw[hm];refine⟨⟨fun _=>rfl,fun i hi=>?_⟩,by have:=h.len;simp at this;omega⟩;have:=h.row.cell (i+1) (by simpa using hi);simp only[fk,gb];rw[show fo a+1+i=fo a+(i+1) by omega,this];rfl
theorem ak4{w:World}{a:Option Addr}:cP w a []:=⟨Row.nil _ _,by simp⟩
theorem fileNames(t:ak)(hi:t.init.length<=1024)(hc:t.code.length<=16)(hr: ∀x∈t.code,x.l.length<=256)(w:World)(h:dw w t):
 Calls prog 73 #[vT t] w (Yb w (gH t)):=by
 have A:=al w (bC t);have b0:=eG.new w t;have HI:=hid (h.keep A);have HA:=hid A;have HR:=hid hr;clear h A hr;go_in
 go_upto_region 2 with(fail)
 generalize w.alloc (bC t)=W1 at*;obtain⟨c0,c1,c2,c3,c4,c5,c6,c7,c8,c9,c10,c11⟩:=b0.cells;go_wp2_with fail;clear c0 c1 c2 c3 c4 c5 c6 c7 c8 c9 c10 c11
 go_loopw [3,15] (fun o i wr=> ∃(k:Nat) (a:Option Addr) (c:Nat) (L:List Tx),k<=t.init.length/\i= .int .i64 k/\o= .slice a L.length c/\Below W1.heap.size W1 wr/\bh wr W1.heap.size a L.length c L/\L.length<=2*k/\Hid (L=nu (t.init.take k))) (fun _ i _=>t.init.length-(intOf i).toNat)
 case atStart=>exact⟨0,none,0,[],by omega,rfl,rfl,Below.refl _ _,Own.nil _ _ _ _,by simp,rfl⟩
 case round=>
  obtain⟨k,a,c,L,hk,rfl,rfl,E,o,hl,HL⟩:=hrel
  by_cases hlt:k<t.init.length
  ·obtain⟨x,hx⟩: ∃x,t.init[k]? =some x:=⟨_,amK hlt⟩
   obtain⟨p0,p1,p2,p3,p4⟩:=(HI.out.init.below E).qi hx;have ix:=HI.out.init.idx qj lB k hlt t.ic;have HT:=hid (show L++[x.loc,x.aE]=nu (t.init.take (k+1)) by rw[ahL hx,<-HL.out]);clear hx
   go_upto_region 5 with(fail)
   have A3:=al wr (eK x);have x0:aG (wr.alloc (eK x)) wr.heap.size (fV x):=aG.new _ _ _;generalize wr.alloc (eK x)=W3 at*;have E:=E.trans (A3.mono E.size);have o:=Own.below o A3;have i2:=x0.get 2 _ rfl;have i3:=x0.get 3 _ rfl;clear p0 p1 p2 p3 p4 ix A3;have A5:=al W3 (.cells #[.string (tx x.loc),.string (tx x.aE)] 9);have o5:=Own.below o A5;have E5:=E.trans (A5.mono E.size);have R5:Row (W3.alloc (.cells #[.string (tx x.loc),.string (tx x.aE)] 9)) (some ⟨W3.heap.size,0,none⟩) [.string (tx x.loc),.string (tx x.aE)]:=aji W3 [.string (tx x.loc),.string (tx x.aE)] 9
   go_wp2_with (at_builtin;go_loud(refine LW l9 (.tmp 19) (.tmp 25) rfl rfl rfl o5 rfl R5 rfl (by intro u hu;simp at hu;rcases hu with rfl|rfl<;>rfl) E5 E5.size (by omega) (by unfold maxLen;omega) ?_))
   intro a6 c6 w6 o6 g6 E6
   have o6:bh w6 W1.heap.size a6 (L++[x.loc,x.aE]).length c6 (L++[x.loc,x.aE]):=by
    rw[aoE];unfold bh;rw[sD];exact o6
   clear o o5 E5 R5 A5 g6 i2 i3 x0 E;go_wp2_with fail
   go_roundw
   case rel=>exact⟨k+1,a6,c6,_,by omega,by go_num,by rw[aoE];rfl,E6,o6,by rw[aoE];simp;omega,HT⟩
   case measure=>simp[intOf];omega
  ·obtain rfl:k=t.init.length:=by omega
   have HL:=hid (show L=nu t.init by rw[HL.out,anG]);have hl:L.length<=2048:=by omega
   obtain⟨c0,c1,c2,c3,c4,c5,c6,c7,c8,c9,c10,c11⟩:=(b0.below E).cells;clear hlt hk;go_wp2_with fail;clear c0 c1 c2 c3 c4 c5 c6 c7 c8 c9 c10 c11
   go_loopw [3,31] (fun o i wr=> ∃(k:Nat) (a:Option Addr) (c:Nat) (M:List Tx),k<=t.code.length/\i= .int .i64 k/\o= .slice a M.length c/\Below W1.heap.size W1 wr/\bh wr W1.heap.size a M.length c M/\M.length<=2048+256*k/\Hid (M=L++kR (t.code.take k))) (fun _ i _=>t.code.length-(intOf i).toNat)
   case atStart=>exact⟨0,a,c,L,by omega,rfl,rfl,E,o,by omega,by simp[kR,Hid]⟩
   case round=>
    clear E o;obtain⟨k,a,c,M,hk,rfl,rfl,E,o,hm,HM⟩:=hrel
    by_cases hlt:k<t.code.length
    ·obtain⟨x,hx⟩: ∃x,t.code[k]? =some x:=⟨_,amK hlt⟩
     have p0:=(HI.out.code.below E).cd hx;have iy:=HI.out.code.mS k hlt t.cc;have iZ:=hid (HI.out.rows x (aou hx));have acO:=HR.out x (aou hx);have HT:=hid (show M++x.l.map (·.loc)=L++kR (t.code.take (k+1)) by rw[ahJ hx,HM.out,anF]);clear hx;go_wp2_with fail;clear p0 iy
     go_loopw [3,37] (fun o i wr=> ∃(j:Nat) (a:Option Addr) (c:Nat) (N:List Tx),j<=x.l.length/\i= .int .i64 j/\o= .slice a N.length c/\Below W1.heap.size W1 wr/\bh wr W1.heap.size a N.length c N/\N.length<=M.length+j/\Hid (N=M++(x.l.take j).map (·.loc))) (fun _ i _=>x.l.length-(intOf i).toNat)
     case atStart=>exact⟨0,a,c,M,by omega,rfl,rfl,E,o,by omega,by simp[Hid]⟩
     case round=>
      clear E o;obtain⟨j,a,c,N,hj,rfl,rfl,E,o,fC,HN⟩:=hrel
      by_cases hjt:j<x.l.length
      ·obtain⟨i,hi⟩: ∃i,x.l[j]? =some i:=⟨_,amK hjt⟩
       obtain⟨q0,q1,q2,q3,q4,q5,q6,q7⟩:=(iZ.out.is.below E).cells hi;have ix:=(iZ.out.is.below E).idx j hjt x.c;have en:=hid (show N++[i.loc]=M++(x.l.take (j+1)).map (·.loc) by rw[jY hi,aof,HN.out,anF];rfl);clear hi
       go_upto_region 13 with(fail)
       have A3:=al wr (eC i);have x0:=dK.new wr i;generalize wr.alloc (eC i)=W3 at*;have E:=E.trans (A3.mono E.size);have o:=Own.below o A3;obtain⟨i0,i1,i2,i3,i4,i5,i6,i7⟩:=x0.cells;clear q0 q1 q2 q3 q4 q5 q6 q7 ix A3
       go_wp2_with (at_builtin;go_loud(refine kF l9 (.tmp 41) (.tmp 44) rfl rfl rfl rfl o rfl rfl (by intro u hu;simp at hu;subst hu;rfl) E E.size (by omega) (by unfold maxLen;omega) ?_))
       intro a6 c6 w6 o6 g6 E6
       have o6:bh w6 W1.heap.size a6 (N++[i.loc]).length c6 (N++[i.loc]):=by
        rw[aoE];unfold bh;rw[sD];exact o6
       clear o g6 i0 i1 i2 i3 i4 i5 i6 i7 x0 E;go_wp2_with fail
       go_roundw
       case rel=>exact⟨j+1,a6,c6,_,by omega,by go_num,by rw[aoE];rfl,E6,o6,by rw[aoE];simp;omega,en⟩
       case measure=>simp[intOf];omega
      ·obtain rfl:j=x.l.length:=by omega
       have en:=hid (show N=L++kR (t.code.take (k+1)) by rw[<-HT.out,HN.out,anG]);go_wp2_with fail
       go_roundw
       case rel=>exact⟨k+1,a,c,N,by omega,by go_num,rfl,E,o,by omega,en⟩
       case measure=>simp[intOf];omega
    ·obtain rfl:k=t.code.length:=by omega
     have HM:=hid (show M=L++kR t.code by rw[HM.out,anG]);have hm:M.length<=6144:=by omega
     obtain⟨c0,c1,c2,c3,c4,c5,c6,c7,c8,c9,c10,c11⟩:=(b0.below E).cells;have TH:=hid (Pf t wr (HI.out.node.keep E));have htl:(jM t).length<=1024:=Fw t.q t.node;clear hlt hk;obtain⟨T,hT⟩: ∃T,jM t=T:=⟨_,rfl⟩;rw[hT]at TH htl;have Gk:=hid hT;clear hT;go_wp2_with fail;refine TH.out.mono ?_;rintro e w2 ⟨a2,kJ,rfl,o2,E2⟩;have o:=Own.below o E2;have o2:cW w2 W1.heap.size a2 T.length kJ T:=Own.mono o2 E.size;have E:=E.trans (E2.mono E.size);clear c0 c1 c2 c3 c4 c5 c6 c7 c8 c9 c10 c11 E2 TH;go_wp2_with fail
     go_loopw [3,51] (fun o i wr=> ∃(j:Nat) (a:Option Addr) (c:Nat) (N:List Tx),j<=T.length/\i= .int .i64 j/\o= .slice a N.length c/\Below W1.heap.size W1 wr/\cW wr W1.heap.size a2 T.length kJ T/\bh wr W1.heap.size a N.length c N/\N.length<=M.length+j/\Hid (N=M++(T.take j).map (·.loc))) (fun _ i _=>T.length-(intOf i).toNat)
     case atStart=>exact⟨0,a,c,M,by omega,rfl,rfl,E,o2,o,by omega,by simp[Hid]⟩
     case round=>
      clear E o o2;obtain⟨j,a,c,N,hj,rfl,rfl,E,o2,o,fC,HN⟩:=hrel
      by_cases hjt:j<T.length
      ·obtain⟨x,hx⟩: ∃x,T[j]? =some x:=⟨_,amK hjt⟩
       have els:=(Own.els o2 de (by omega) (by omega)).1;obtain⟨q0,q1,q2⟩:=els.th hx;have ix:=els.idx iH de j hjt kJ;have en:=hid (show N++[x.loc]=M++(T.take (j+1)).map (·.loc) by rw[jY hx,aof,HN.out,anF];rfl);clear hx
       go_upto_region 19 with(fail)
       have A3:=al wr (jW x);have x0:aG (wr.alloc (jW x)) wr.heap.size (jP x):=aG.new _ _ _;generalize wr.alloc (jW x)=W3 at*;have E:=E.trans (A3.mono E.size);have o:=Own.below o A3;have o2:=Own.below o2 A3;have i2:=x0.get 2 _ rfl;clear q0 q1 q2 ix A3 els
       go_wp2_with (at_builtin;go_loud(refine kF l9 (.tmp 55) (.tmp 58) rfl rfl rfl rfl o rfl rfl (by intro u hu;simp at hu;subst hu;rfl) E E.size (by omega) (by unfold maxLen;omega) ?_))
       intro a6 c6 w6 o6 g6 E6
       have o6:bh w6 W1.heap.size a6 (N++[x.loc]).length c6 (N++[x.loc]):=by
        rw[aoE];unfold bh;rw[sD];exact o6
       have o2:cW w6 W1.heap.size a2 T.length kJ T:=Own.kept o2 g6.step.grown (mD o o2 (by decide));clear o g6 i2 x0 E;go_wp2_with fail
       go_roundw
       case rel=>exact⟨j+1,a6,c6,_,by omega,by go_num,by rw[aoE];rfl,E6,o2,o6,by rw[aoE];simp;omega,en⟩
       case measure=>simp[intOf];omega
      ·obtain rfl:j=T.length:=by omega
       have HZ:=hid (show N=ud t by
        unfold ud;rw[Gk.out,HN.out,HM.out,HL.out,anG,anF];rfl)
       have ST:=hid (ajO N wr W1.heap.size a c o (by omega));have HO:=hid o;have HE:=hid E;clear o2 o E;go_wp2_with fail;refine ST.out.mono ?_;rintro e w3 ⟨rfl,o3,s3⟩;have E3:=s3.below HO.out HE.out HE.out.size;have lH:(mL N).length=N.length:=List.length_mergeSort N;have CT:=hid (lH▸ZG (mL N) w3 W1.heap.size a c o3 (by omega));have uL:=hid o3;have zw:=hid E3;clear o3 s3 E3 ST;go_wp2_with fail;refine CT.out.mono ?_;rintro e w4 ⟨rfl,o4,s4⟩;have E4:=s4.below uL.out zw.out zw.out.size;have hle:=Od (mL N);have ei:=hid (show gH t=xH (cF (mL N)) by rw[HZ.out,ajR,gH];rfl);have TT:=bh.kY o4 (by omega);have QG:(cF (mL N)).length<=c:=o4.cap.1;clear o4 s4 CT uL HO;obtain⟨P,hP⟩: ∃P,cF (mL N)=P:=⟨_,rfl⟩;rw[hP]at ei TT hle QG⊢;clear hP;have zG:=hid TT;have CZ:=hid E4;clear TT E4;cases P with
       | nil=>
         have HF:=hid (show gH t=[]from ei.out);go_wp2_with fail
         (try go_simp)
         go_ret;rw[HF.out];exact⟨a,c,rfl,zG.out,HA.out.trans (CZ.out.mono HA.out.size)⟩
       | cons y r=>
         have p0:=zG.out.cell 0 (by simp);rw[Nat.add_zero]at p0;simp only[List.getElem_cons_zero]at p0;have ix0: ∀w',(Instr.indexAt 42 (.slice a (y::r).length c) (.int .i64 0)).run prog w'= .ok (.pointer (some ⟨bk a,fo a,none⟩)) w':=zG.out.idx 0 (by simp) c;obtain⟨q,hq⟩: ∃q,(y::r).length=q:=⟨_,rfl⟩;have hq1:1<=q:=by rw[<-hq];simp
         have HQ:=hid hq;rw[hq]at ix0 hle QG⊢;clear hq
         by_cases hy:y=[]
         ·have z5:((tx y).toList==([]:List UInt8))=true:=by rw[hy,aW];rfl
          have z6:(tx y).toList.isEmpty=true:=by rw[hy,aW];rfl
          have HF:=hid (show gH t=r by rw[ei.out,hy];rfl);clear hy;go_wp2_with fail
          rotate_left
          ·(try go_simp)
           go_ret;rw[HF.out];exact⟨_,c-1,by rw[show r.length=q-1 by have:=HQ.out;simp at this;omega];rfl,ak5 zG.out,HA.out.trans (CZ.out.mono HA.out.size)⟩
          ·(try go_simp)
           go_ret;have D9:r=[]:=List.eq_nil_of_length_eq_zero (by have:=HQ.out;simp at this;omega);rw[HF.out];exact⟨a,0,by rw[show r.length=q-1 by have:=HQ.out;simp at this;omega];rfl,by rw[D9];exact ak4,HA.out.trans (CZ.out.mono HA.out.size)⟩
         ·have z5:((tx y).toList==([]:List UInt8))=false:=by rw[aW];simpa using hy
          have z6:(tx y).toList.isEmpty=false:=by rw[aW];cases y<;>simp at*
          have HF:=hid (show gH t=y::r by rw[ei.out];unfold xH;rw[if_neg (by simpa using hy)]);clear hy;go_wp2_with fail
          (try go_simp)
          go_ret;rw[HF.out];exact⟨a,c,by rw[HQ.out];rfl,zG.out,HA.out.trans (CZ.out.mono HA.out.size)⟩
theorem Ph(t:ak)(ha:t.af=1\/t.af=2)(w:World)(h:dw w t):Calls prog 69 #[vT t] w (ax w (.int .i64 (cg t))):=by
 have A:=al w (bC t);have b0:=eG.new w t;have HI:=hid (h.keep A);have HA:=hid A;have uF:=hid ha;have hcl:=h.code.len;clear ha
 by_cases hn:t.code.length<1\/16<t.code.length
 ·rw[Oj hn]
  obtain⟨c0,c1,c2,c3,c4,c5,c6,c7,c8,c9,c10,c11⟩:=b0.cells;clear h A;rcases hn with hn|hn
  all_goals
   go_in;go_wp2_with fail;go_ret;exact⟨rfl,HA.out⟩
 ·have h1:1<=t.code.length:=by omega
  have xR:t.code.length<=16:=by omega
  have mO:=hid hn;clear hn h A;go_in
  go_upto_region 1 with(fail)
  generalize w.alloc (bC t)=W1 at*;obtain⟨c0,c1,c2,c3,c4,c5,c6,c7,c8,c9,c10,c11⟩:=b0.cells;go_wp2_with fail;clear c0 c1 c2 c3 c4 c5 c6 c7 c8 c9 c10 c11
  go_loopw [25] (fun i wr=> ∃k:Nat,k<=t.code.length/\i= .int .i64 k/\Below W1.heap.size W1 wr/\Hid (∀(j:Nat) (x:Cd),j<k->t.code[j]? =some x->x.l.length<=256)) (fun i _=>t.code.length-(intOf i).toNat)
  case atStart=>exact⟨0,by omega,rfl,Below.refl _ _,fun j x hj=>absurd hj (aoe j)⟩
  case round=>
   obtain⟨k,hk,rfl,E,HK⟩:=hrel
   by_cases hlt:k<t.code.length
   ·obtain⟨x,hx⟩: ∃x,t.code[k]? =some x:=⟨_,amK hlt⟩
    have p0:=(HI.out.code.below E).cd hx;have ix:=HI.out.code.mS k hlt t.cc;have hxl:=(HI.out.rows x (aou hx)).is.len;have HX:=hid hx;clear hx
    by_cases hl:256<x.l.length
    ·have HZ:=hid (Oi mO.out HX.out hl)
     go_wp2_with fail;go_ret;rw[HZ.out];exact⟨rfl,HA.out.trans (E.mono HA.out.size)⟩
    ·have hl':x.l.length<=256:=by omega
     have fJ: ∀(j:Nat) (y:Cd),j<k+1->t.code[j]? =some y->y.l.length<=256:=fun j y hj hy=>by
      rcases an5.1 hj with h|h
      ·exact HK.out j y h hy
      ·subst h;rw[HX.out]at hy;cases hy;exact hl'
     have fJ:=hid fJ;clear HK hl;go_wp2_with fail
     go_roundw
     case rel=>exact⟨k+1,by omega,by go_num,E,fJ⟩
     case measure=>simp[intOf];omega
   ·obtain rfl:k=t.code.length:=by omega
    have HR:=hid (Ok mO.out (fun k x hx=>HK.out k x (ano.1 hx).1 hx));have HL:=hid (fun(k:Nat) (x:Cd) (hx:t.code[k]? =some x)=>HK.out k x (ano.1 hx).1 hx);obtain⟨c0,c1,c2,c3,c4,c5,c6,c7,c8,c9,c10,c11⟩:=(b0.below E).cells;clear HK hk hlt;go_wp2_with fail;clear c0 c1 c2 c3 c4 c5 c6 c7 c8 c9 c10 c11
    go_loopw [36] (fun i wr2=> ∃k:Nat,k<=t.code.length/\i= .int .i64 k/\Below W1.heap.size W1 wr2/\Hid (gY t.af (t.code.drop k)=cg t)) (fun i _=>t.code.length-(intOf i).toNat)
    case atStart=>exact⟨0,by omega,rfl,E,by rw[List.drop_zero];exact HR.out.symm⟩
    case round=>
     clear E;obtain⟨k,hk,rfl,E,HD⟩:=hrel
     by_cases hlt:k<t.code.length
     ·obtain⟨x,hx⟩: ∃x,t.code[k]? =some x:=⟨_,amK hlt⟩
      have p0:=(HI.out.code.below E).cd hx;have ix:=HI.out.code.mS k hlt t.cc;have kr:=HI.out.rows x (aou hx);have hxl:=kr.is.len;have iZ:=hid kr;have hl6:=HL.out k x hx;have HD:=hid (show(if lW t.af x.l=0 then gY t.af (t.code.drop (k+1))else lW t.af x.l)=cg t by rw[<-Vq hx];exact HD.out);clear hx kr;go_wp2_with fail;clear p0 ix
      go_loopw [42] (fun i LX=> ∃j:Nat,j<=x.l.length/\i= .int .i64 j/\Below W1.heap.size W1 LX/\Hid (∀(m:Nat) (i:Ins),m<j->x.l[m]? =some i->gF t.af i=true)) (fun i _=>x.l.length-(intOf i).toNat)
      case atStart=>exact⟨0,by omega,rfl,E,fun j x hj=>absurd hj (aoe j)⟩
      case round=>
       clear E;obtain⟨j,hj,rfl,E,HJ⟩:=hrel
       by_cases hjt:j<x.l.length
       ·obtain⟨i,hi⟩: ∃i,x.l[j]? =some i:=⟨_,amK hjt⟩
        obtain⟨p0,p1,p2,p3,p4,p5,p6,p7⟩:=(iZ.out.is.below E).cells hi;have ix:=(iZ.out.is.below E).idx j hjt x.c;have hb:=iZ.out.nY i (aou hi);have CX:=hid (fun w=>FK i hb.1 w);have CI:=hid (fun w=>wj i hb.2 w);have qU:=hid hi;clear hi hb;obtain⟨e,he⟩: ∃e:Int,(if gF t.af i=true then 0 else 91)=e:=⟨_,rfl⟩;have HE:=hid he;clear he
        go_upto_region 15 with(fail)
        have A3:=al wr (eC i);have b3:=dK.new wr i;generalize wr.alloc (eC i)=W3 at*;have E:=E.trans (A3.mono E.size);clear p0 p1 p2 p3 p4 p5 p6 p7 ix A3;obtain⟨q0,q1,q2,q3,q4,q5,q6,q7⟩:=b3.cells;have c0:=(b0.below E).cells.1;rcases uF.out with ha|ha
        focus
         have CK:=CX;rw[show mW i=e by rw[<-HE.out,ha];rfl]at CK
        rotate_left
        focus
         have CK:=CI;rw[show eR i=e by rw[<-HE.out,ha];rfl]at CK
        all_goals
         rw[ha]at c0;clear CX CI;go_wp2_with fail;refine(CK.out _).mono ?_;rintro ee w5 ⟨rfl,E5⟩;have E:=E.trans (E5.mono E.size);clear q0 q1 q2 q3 q4 q5 q6 q7 c0 E5 CK;have c0:=(b0.below E).cells.1;rw[ha]at c0
         by_cases cS:gF t.af i=true
         ·have e0:e=0:=by rw[<-HE.out,if_pos cS]
          subst e0
          have fc: ∀(m:Nat) (y:Ins),m<j+1->x.l[m]? =some y->gF t.af y=true:=fun m y hm hy=>by
           rcases an5.1 hm with h|h
           ·exact HJ.out m y h hy
           ·subst h;rw[qU.out]at hy;cases hy;exact cS
          have fc:=hid fc;clear cS HJ qU HE ha;go_wp2_with fail
          go_roundw
          case rel=>exact⟨j+1,by omega,by go_num,E,fc⟩
          case measure=>simp[intOf];omega
         ·have e0:e=91:=by rw[<-HE.out,if_neg cS]
          subst e0;have HZ:=hid (show cg t=91 by rw[<-HD.out,Ve qU.out (by simpa using cS),if_neg (by omega)]);clear cS HJ qU HE ha;go_wp2_with fail;go_ret;rw[HZ.out];exact⟨rfl,HA.out.trans (E.mono HA.out.size)⟩
       ·obtain rfl:j=x.l.length:=by omega
        have c0:=(b0.below E).cells.1;have mP:=hid (Vd (fun m i hi=>HJ.out m i (ano.1 hi).1 hi));rcases uF.out with ha|ha
        ·have HD:=hid (show gY t.af (t.code.drop (k+1))=cg t by rw[<-HD.out,if_pos (by rw[mP.out,ha];rfl)])
         rw[ha]at c0;clear HJ ha mP;go_wp2_with fail
         go_roundw
         case rel=>exact⟨k+1,by omega,by go_num,E,HD⟩
         case measure=>simp[intOf];omega
        rw[ha]at c0;have Ay: ∀i∈x.l,i.label.length<=9223372036854775807:=fun i hi=>(iZ.out.nY i hi).2
        have LK:=agA x.l x.a x.c iZ.out.cap Ay wr (iZ.out.is.below E);obtain⟨e,he⟩: ∃e,(gG x.l).2.1=e:=⟨_,rfl⟩
        have HD:=hid (show(if e=0 then gY t.af (t.code.drop (k+1))else e)=cg t by
         rw[<-HD.out,show lW t.af x.l=e from by rw[mP.out,if_pos ha,he]])
        have uK:=hid he;have LK:=hid LK;clear HJ he Ay mP ha;go_wp2_with fail;refine LK.out.mono ?_;rintro ee w5 ⟨a5,c5,rfl,o5,E5⟩;rw[uK.out];have E:=E.trans (E5.mono E.size);clear o5 E5 LK c0
        by_cases h0:e=0
        ·subst h0
         have HD:=hid (show gY t.af (t.code.drop (k+1))=cg t from HD.out);go_wp2_with fail
         go_roundw
         case rel=>exact⟨k+1,by omega,by go_num,E,HD⟩
         case measure=>simp[intOf];omega
        ·have z0:(e != 0)=true:=by simpa using h0
         have HZ:=hid (show cg t=e by rw[<-HD.out,if_neg h0]);clear h0;go_wp2_with fail;go_ret;rw[HZ.out];exact⟨rfl,HA.out.trans (E.mono HA.out.size)⟩
     ·obtain rfl:k=t.code.length:=by omega
      have HZ:=hid (show cg t=0 by rw[<-HD.out];exact Vr);go_wp2_with fail;go_ret;rw[HZ.out];exact⟨rfl,HA.out.trans (E.mono HA.out.size)⟩
theorem abb(t:ak)(ha:t.af=1)(w:World)(h:dw w t):Calls prog 69 #[vT t] w (ax w (.int .i64 (cg t))):=Ph t (.inl ha) w h
theorem abc(t:ak)(ha:t.af=2)(w:World)(h:dw w t):Calls prog 69 #[vT t] w (ax w (.int .i64 (cg t))):=Ph t (.inr ha) w h
end Go.Proofs.YtkbbgjloifmmbaaGreatDoor
namespace Go.Proofs.YtkbbgjloifmmbaaGreatDoor
open _root_.Go.Proofs.Tryz
open _root_.List renaming getElem?_eq_getElem->amK,length_append->aoE,mem_of_getElem?->aou,getElem?_eq_some_iff->ano,append_assoc->anF,take_length->anG,flatMap_append->aqi,map_append->aof
open _root_.Nat renaming not_lt_zero->aoe,lt_succ_iff_lt_or_eq->an5,le_of_ble_eq_true->aqh
open _root_.Go.WalkArith renaming wf_i64->aqj
open Go.RowKit Go.Maps Go.WideMaps
theorem JE:Keyed prog 25:=Keyed.of_law (deep_law_gate (by kernel_rfl) (aqh (by kernel_rfl)) (Nat.lt_of_succ_le (aqh (by kernel_rfl))) (by kernel_rfl) (by kernel_rfl))
def kT(x:Th):Lit:=.string (keyBytes [.int .i64 x.thread,.int .i64 x.au,.string x.loc])
theorem WC{n:Int}(h:fT n):(Lit.int .i64 n).wf=true:=aqj (by unfold fT at h;omega)
theorem JD(x:Th)(h1:fT x.thread)(h2:fT x.au)(h3:x.loc.length<=9223372036854775807):keyOf prog 25 (iu x)=some (kT x):=by
 have hk:prog.keyType 25=true:=by kernel_rfl
 have hc:prog.cellsOf 25=3:=by kernel_rfl
 have hi:prog.cellsOf 3=1:=by kernel_rfl
 have hs:prog.cellsOf 9=1:=by kernel_rfl
 have h1s:1<=prog.types.size:=aqh (by kernel_rfl);obtain⟨m,hm⟩: ∃m,prog.types.size=m+1:=⟨_,(Nat.sub_add_cancel h1s).symm⟩;unfold keyOf;rw[underlying25];simp only[hk,Value.formed,underlying25,hc];rw[hm];simp[Program.keyLits,underlying25,hc,hi,hs,underlying3,underlying9,Value.cells,WC h1,WC h2,kT,aP];rw[if_pos (show x.loc.length<=maxLen from h3),gO];rfl
theorem ady{x y:Th}(h1:fT x.thread)(h2:fT x.au)(h3:x.loc.length<=9223372036854775807)(g1:fT y.thread)(g2:fT y.au)(g3:y.loc.length<=9223372036854775807)(h:kT x=kT y):x=y:=by
 have e:=JE.inj (JD x h1 h2 h3) (by rw[h];exact JD y g1 g2 g3);simp only[iu,Value.agg.injEq,Array.mk.injEq,List.cons.injEq,Value.int.injEq,Value.string.injEq,and_true,true_and,ak3]at e;exact(Lg x y).2 ⟨e.1,e.2.1,e.2.2⟩
def uV(t:ak)(k:Nat)(D:DataW Unit):Prop:=
 ∀ x:Th,fT x.thread->fT x.au->x.loc.length<=9223372036854775807->
   (∀(i:Nat) (y:aF),i<k->t.init[i]? =some y->eZ y=x-> ∃c:Int,0<c/\c<2000/\D.atKey (kT x) (.lit (.int .i64 0))= .lit (.int .i64 c))/\
   ((∀(i:Nat) (y:aF),i<k->t.init[i]? =some y->eZ y≠x)->D.atKey (kT x) (.lit (.int .i64 0))= .lit (.int .i64 0))
theorem adt(x:Th):WideAt.IsKeyLit (kT x):=by unfold kT;trivial
theorem uV.nil{t:ak}:uV t 0 (.map []):=fun x _ _ _=>⟨fun i y hi=>absurd hi (aoe i),fun _=>rfl⟩
theorem uV.put{t:ak}{k:Nat}{D:DataW Unit}{x:aF}(h:uV t k D)(hm:IsMap D)(hx:t.init[k]? =some x)(hk:k<1024)(w1:fT x.thread)(w2:fT x.au)(w3:x.loc.length<=9223372036854775807):
 uV t (k+1) (D.put (kT (eZ x)) (.lit (.int .i64 ((k:Int)+1)))):=by
 intro z z1 z2 z3;obtain⟨h1,h2⟩:=h z z1 z2 z3
 by_cases he:eZ x=z
 ·subst he
  refine⟨fun i y hi hy e=>⟨(k:Int)+1,by omega,by omega,by rw[atKey_put_same hm (adt _)]⟩,fun hn=>absurd rfl (hn k x (by omega) hx)⟩
 ·have hne:kT z≠kT (eZ x):=fun e=>he (ady w1 w2 w3 z1 z2 z3 e.symm)
  refine⟨fun i y hi hy e=>?_,fun hn=>?_⟩
  ·rw[atKey_put_other hne]
   rcases an5.1 hi with h3|h3
   ·exact h1 i y h3 hy e
   ·subst h3;rw[hx]at hy;cases hy;exact absurd e he
  ·rw[atKey_put_other hne]
   exact h2 fun i y hi hy=>hn i y (by omega) hy
def Seen(w:World)(b n:Nat)(D:DataW Unit):Prop:=w.ownsMap prog 25 (plainElem (H:=Unit) prog 3) b n D
theorem Seen.below{w w':World}{b n:Nat}{D:DataW Unit}(h:Seen w b n D)(hb:Below w.heap.size w w'):Seen w' b n D:=
 World.ownsMap.kept h ⟨hb.os,hb.tape,hb.output,hb.size,fun k hk _=>hb.block k hk⟩ (row:=none) (by simp)
theorem alM(w:World):(zeroValue 3).run prog w= .ok (.int .i64 0) w:=by kernel_rfl
end Go.Proofs.YtkbbgjloifmmbaaGreatDoor
namespace Go.Proofs.YtkbbgjloifmmbaaGreatDoor
open _root_.Go.Proofs.Tryz
open _root_.List renaming getElem?_eq_getElem->amK,length_append->aoE,mem_of_getElem?->aou,getElem?_eq_some_iff->ano,append_assoc->anF,take_length->anG,flatMap_append->aqi,map_append->aof
open _root_.Nat renaming not_lt_zero->aoe,lt_succ_iff_lt_or_eq->an5,le_of_ble_eq_true->aqh
open _root_.Go.WalkArith renaming wf_i64->aqj
open Go.RowKit Go.Sort Go.Maps Go.WideMaps
theorem aa8(t:ak)(hcn:t.code.length<=1000)(w:World)(h:dw w t):Calls prog 70 #[vT t] w (ax w (.int .i64 (dW t))):=by
 have A:=al w (bC t);have b0:=eG.new w t;have HI:=hid (h.keep A);have HA:=hid A;have hil:=h.init.len
 by_cases hn:1024<t.init.length
 ·rw[Nl hn]
  obtain⟨c0,c1,c2,c3,c4,c5,c6,c7,c8,c9,c10,c11⟩:=b0.cells;clear h A;go_in;go_wp2_with fail;go_ret;exact⟨rfl,HA.out⟩
 ·have abO:t.init.length<=1024:=by omega
  have mO:=hid hn;have hmm:= @run_makeMap prog;clear hn h A;go_in
  go_upto_region 1 with(fail)
  generalize w.alloc (bC t)=W1 at*;obtain⟨c0,c1,c2,c3,c4,c5,c6,c7,c8,c9,c10,c11⟩:=b0.cells
  go_upto_region 4 with(fail)
  have hM:Seen (W1.alloc (.map #[] 0)) W1.heap.size 0 (.map []):=World.ownsMap_made _ _ _ _;have E0:=al W1 (.map #[] 0);have Qz:W1.heap.size<(W1.alloc (.map #[] 0)).heap.size:=by simp
  generalize W1.alloc (.map #[] 0)=W2 at*;obtain⟨mb,hmb⟩: ∃mb,W1.heap.size=mb:=⟨_,rfl⟩;rw[hmb]at hM⊢;clear c0 c1 c2 c3 c4 c5 c6 c7 c8 c9 c10 c11;obtain⟨c0,c1,c2,c3,c4,c5,c6,c7,c8,c9,c10,c11⟩:=(b0.below E0).cells;have Xq:=hid hmb;clear hmb Qz;go_wp2_with fail;clear c0 c1 c2 c3 c4 c5 c6 c7 c8 c9 c10 c11
  go_loopw [15] (fun i wr=> ∃(k:Nat) (D:DataW Unit),k<=t.init.length/\i= .int .i64 k/\Below W1.heap.size W1 wr/\Seen wr mb k D/\Hid (wS t k/\wQ t k/\uV t k D)) (fun i _=>t.init.length-(intOf i).toNat)
  case atStart=>exact⟨0,.map [],by omega,rfl,E0,hM,fun j x hj=>absurd hj (aoe j),fun i j x y _ hj=>absurd hj (aoe j),uV.nil⟩
  case round=>
   clear E0 hM;obtain⟨k,D,hk,rfl,E,hM,HK⟩:=hrel
   by_cases hlt:k<t.init.length
   ·obtain⟨x,hx⟩: ∃x,t.init[k]? =some x:=⟨_,amK hlt⟩
    obtain⟨p0,p1,p2,p3,p4⟩:=(HI.out.init.below E).qi hx;have ix:=HI.out.init.idx qj lB k hlt t.ic;have hxl:=HI.out.nY x (aou hx);have Ei:=HI.out.wide x (aou hx);have HX:=hid hx;have rj:=hid (And.intro hxl Ei);have oy:=hid (JD (eZ x) Ei.1 Ei.2 hxl.1);have FS:=hid (fun w=>abd t x hxl.1 hxl.2 hcn w);obtain⟨f,hf⟩: ∃f,eT t.af t.code.length x=f:=⟨_,rfl⟩;rw[hf]at FS;have HF:=hid hf;clear hx hf hxl Ei
    go_upto_region 8 with(fail)
    have A3:=al wr (eK x);have A4:=dD A3 (jW ⟨x.thread,x.au,x.loc⟩);have x0:aG (wr.alloc (eK x)) wr.heap.size (fV x):=aG.new _ _ _;have x0:=x0.below (al (wr.alloc (eK x)) (jW ⟨x.thread,x.au,x.loc⟩));have y0:aG ((wr.alloc (eK x)).alloc (jW ⟨x.thread,x.au,x.loc⟩)) (wr.alloc (eK x)).heap.size (jP ⟨x.thread,x.au,x.loc⟩):=aG.new _ _ _;rw[show(wr.alloc (eK x)).heap.size=wr.heap.size+1 by simp]at y0;generalize (wr.alloc (eK x)).alloc (jW ⟨x.thread,x.au,x.loc⟩)=W5 at*;have E:=E.trans (A4.mono E.size);have hM:=hM.below A4;clear p0 p1 p2 p3 p4 ix A3 A4;obtain⟨c0,c1,c2,c3,c4,c5,c6,c7,c8,c9,c10,c11⟩:=(b0.below E).cells;have i0:=x0.get 0 _ rfl;have i1:=x0.get 1 _ rfl;have i2:=x0.get 2 _ rfl;have i3:=x0.get 3 _ rfl;have i4:=x0.get 4 _ rfl;have j0:=y0.get 0 _ rfl;have j1:=y0.get 1 _ rfl;have j2:=y0.get 2 _ rfl
    go_wp2_with (at_lookup;go_loud(refine wpList_lookup_own_int _ rfl _ _ 167 rfl 25 3 .i64 JE underlying167 underlying3 (alM _) mb k D rfl hM _ _ rfl oy.out ?_))
    intro cc hat hwf;have zm:=hid hat;clear hat hwf
    by_cases xY: ∃(i:Nat) (y:aF),i<k/\t.init[i]? =some y/\eZ y=eZ x
    ·have hc:0<cc:=by
      obtain⟨i,y,h1,h2,h3⟩:=xY;obtain⟨c,hc,-, h4⟩:=(HK.out.2.2 (eZ x) rj.out.2.1 rj.out.2.2 rj.out.1.1).1 i y h1 h2 h3;have h5:=zm.out;rw[h4]at h5;cases h5;exact hc
     have HZ:=hid (show dW t=130 by
      obtain⟨i,y,h1,h2,h3⟩:=xY;exact Np mO.out h1 h2 HX.out h3)
     have zc:decide (0<cc)=true:=decide_eq_true hc;clear xY;go_wp2_with fail;go_ret;rw[HZ.out];exact⟨rfl,HA.out.trans (E.mono HA.out.size)⟩
    ·have hc:cc=0:=by
      have h4:=(HK.out.2.2 (eZ x) rj.out.2.1 rj.out.2.2 rj.out.1.1).2 (fun i y h1 h2 h3=>xY ⟨i,y,h1,h2,h3⟩);have h5:=zm.out;rw[h4]at h5;cases h5;rfl
     subst hc;have Xr:=hid xY;clear xY zm;go_wp2_with fail;refine(FS.out _).mono ?_;rintro e w6 ⟨rfl,E6⟩;have E:=E.trans (E6.mono E.size);have hM:=hM.below E6;have x0:=x0.below E6;have y0:=y0.below E6;clear c0 c1 c2 c3 c4 c5 c6 c7 c8 c9 c10 c11 i0 i1 i2 i3 i4 j0 j1 j2 E6 FS;have j0:=y0.get 0 _ rfl;have j1:=y0.get 1 _ rfl;have j2:=y0.get 2 _ rfl;cases f with
     | false=>
       have HZ:=hid (Nk mO.out HX.out HF.out);go_wp2_with fail;go_ret;rw[HZ.out];exact⟨rfl,HA.out.trans (E.mono HA.out.size)⟩
     | true=>
       have fJ:=hid (And.intro (HK.out.1.snoc HX.out HF.out) (And.intro (HK.out.2.1.snoc HX.out (fun i y h1 h2 h3=>Xr.out ⟨i,y,h1,h2,h3⟩)) (HK.out.2.2.put (World.ownsMap.isMap hM) HX.out (by omega) rj.out.2.1 rj.out.2.2 rj.out.1.1)));clear HK
       go_wp2_with (at_mapUpdate;go_loud(refine wpList_mapUpdate_own _ rfl _ _ _ 167 rfl 25 3 JE underlying167 _ mb k D rfl hM (by unfold maxLen;omega) _ _ _ rfl rfl oy.out _ [] (plainElem_int underlying3 (aqj (by omega))) ?_))
       intro w7 Iv tM;have Iv:Seen w7 mb (k+1) _:=Iv;have E7:Below W1.heap.size W1 w7:=E.grown tM E.size (by intro q hq;cases hq;have:=Xq.out;omega);clear hM tM E j0 j1 j2 x0 y0;go_wp2_with fail
       go_roundw
       case rel=>exact⟨k+1,_,by omega,by go_num,E7,Iv,fJ⟩
       case measure=>simp[intOf];omega
   ·obtain rfl:k=t.init.length:=by omega
    have HZ:=hid (Nn mO.out HK.out.1 HK.out.2.1);go_wp2_with fail;go_ret;rw[HZ.out];exact⟨rfl,HA.out.trans (E.mono HA.out.size)⟩
end Go.Proofs.YtkbbgjloifmmbaaGreatDoor

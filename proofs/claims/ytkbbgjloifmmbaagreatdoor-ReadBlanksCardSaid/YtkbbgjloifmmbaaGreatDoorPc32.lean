/- What ReadBlanksP leans on, part 32. -/
import Derived.Test.YtkbbgjloifmmbaaGreatDoorPc31
set_option linter.unusedVariables false
set_option maxRecDepth 100000
set_option maxHeartbeats 3200000
open _root_.Go.Proofs.Tryz
open _root_.List renaming length_append->aoW,getElem?_eq_getElem->am9,append_assoc->anZ,take_length->ao0,mem_of_getElem?->anw,flatMap_append->aqt,map_append->ao3
namespace Go.Proofs.YtkbbgjloifmmbaaGreatDoor
open Go.RowKit Go.Sort
variable{k:Nat}{a:Option Addr}{w:World}
def aav(w:World)(l:List Tx)(e:Ending)(w':World):Prop:=
 ∃a c,e= .returned (.slice a l.length c)/\bS w' a l/\Below w.heap.size w w'
theorem akh(w:World)(us:List Value)(T:TypeId):Row (w.alloc (.cells us.toArray T)) (some ⟨w.heap.size,0,none⟩) us:=by
 have h:=aA.new w us.toArray T;exact⟨fun _=>rfl,fun i hi=>by simp only[gv,gX,Nat.zero_add];exact h.2 i hi⟩
theorem aiT{l:List Cd}{x:Cd}(h:l[k]? =some x):mm (l.take (k+1))=mm (l.take k)++x.l.map (·.loc):=by
 rw[tL h];unfold mm;rw[aqt];simp
theorem aiV{l:List aL}{x:aL}(h:l[k]? =some x):oH (l.take (k+1))=oH (l.take k)++[x.loc,x.aT]:=by
 rw[tL h];unfold oH;rw[aqt];simp
theorem agD{B B' E E' m m' n n' c c':Nat}{r:Option Addr}{xs ys:List Value}(h:Own w B E m a n c xs)(h':Own w B' E' m' r n' c' ys)(hne:E≠E'):r=none\/some (bk r)≠a.map (·.block):=by
 cases r with
 |none=>exact .inl rfl
 | some p=>
   right
   intro e;obtain⟨cs,fz,h1⟩:=Cz h' p.block rfl;obtain⟨cs',Tg,h2⟩:=Cz h p.block e.symm;rw[h1]at h2;simp only[Option.some.injEq,Obj.cells.injEq]at h2;exact hne h2.2.1.symm
theorem alR{y:Tx}{r:List Tx}(h:bS w a (y::r)):bS w (Option.map (fun x:Addr=>⟨x.block,x.off+1,none⟩) a) r:=by
 have hh:=h.row.head (by simp)
 have hm:Option.map (fun x:Addr=>(⟨x.block,x.off+1,none⟩:Addr)) a=some ⟨bk a,fo a+1,none⟩:=by
  conv=>lhs;rw[hh]
  rfl
 rw[hm];refine⟨⟨fun _=>rfl,fun i hi=>?_⟩,by have:=h.len;simp at this;omega⟩;have:=h.row.cell (i+1) (by simpa using hi);simp only[gv,gX];rw[show fo a+1+i=fo a+(i+1) by omega,this];rfl
theorem alQ:bS w a []:=⟨Row.nil _ _,by simp⟩
theorem fileNames(t:aG)(hi:t.init.length<=1024)(hc:t.code.length<=16)(hr: ∀x∈t.code,x.l.length<=256)(w:World)(h:iT w t):
 Calls prog 73 #[vT t] w (aav w (jO t)):=by
 have A:=al w (cq t);have b0:=fF.new w t;have HI:=hid (h.keep A);have HA:=hid A;have HR:=hid hr;clear h A hr;go_in
 go_upto_region 2 with(fail)
 generalize w.alloc (cq t)=W1 at*;obtain⟨c0,c1,c2,c3,c4,c5,c6,c7,c8,c9,c10,c11⟩:=b0.cells;go_wp2_with fail;clear c0 c1 c2 c3 c4 c5 c6 c7 c8 c9 c10 c11
 go_loopw [3,15] (fun o i wr=> ∃(k:Nat) (a:Option Addr) (c:Nat) (L:List Tx),k<=t.init.length/\i= .int .i64 k/\o= .slice a L.length c/\Below W1.heap.size W1 wr/\eP wr W1.heap.size a L.length c L/\L.length<=2*k/\Hid (L=oH (t.init.take k))) (fun _ i _=>t.init.length-(intOf i).toNat)
 ·exact⟨0,none,0,[],by omega,rfl,rfl,Below.refl _ _,Own.nil _ _ _ _,by simp,rfl⟩
 obtain⟨k,a,c,L,hk,rfl,rfl,E,o,hl,HL⟩:=hrel
 by_cases hlt:k<t.init.length
 ·obtain⟨x,hx⟩: ∃x,t.init[k]? =some x:=⟨_,am9 hlt⟩
  obtain⟨p0,p1,p2,p3,p4⟩:=(HI.out.init.below E).ow hx;have ix:=HI.out.init.idx pF mC k hlt t.ic;have HT:=hid (show L++[x.loc,x.aT]=oH (t.init.take (k+1)) by rw[aiV hx,<-HL.out]);clear hx
  go_upto_region 5 with(fail)
  have A3:=al wr (kE x);have x0:aA (wr.alloc (kE x)) wr.heap.size (fN x):=aA.new _ _ _;generalize wr.alloc (kE x)=W3 at*;have E:=E.trans (A3.mono E.size);have o:=Own.below o A3;obtain⟨-, -, i2,i3⟩:=x0.AV;clear p0 p1 p2 p3 p4 ix A3;have A5:=al W3 (.cells #[.string (tx x.loc),.string (tx x.aT)] 9);have o5:=Own.below o A5;have E5:=E.trans (A5.mono E.size);have R5:Row (W3.alloc (.cells #[.string (tx x.loc),.string (tx x.aT)] 9)) (some ⟨W3.heap.size,0,none⟩) [.string (tx x.loc),.string (tx x.aT)]:=akh W3 [.string (tx x.loc),.string (tx x.aT)] 9
  go_wp2_with (at_builtin;go_loud(refine OY jc (.tmp 19) (.tmp 25) rfl rfl rfl o5 rfl R5 rfl (by intro u hu;simp at hu;rcases hu with rfl|rfl<;>rfl) E5 E5.size (by omega) cz ?_))
  intro a6 c6 w6 o6 g6 E6
  have o6:eP w6 W1.heap.size a6 (L++[x.loc,x.aT]).length c6 (L++[x.loc,x.aT]):=by
   rw[aoW];unfold eP;rw[wN];exact o6
  clear o o5 E5 R5 A5 g6 i2 i3 x0 E;go_wp2_with fail
  go_roundw;exact⟨k+1,a6,c6,_,by omega,by go_num,by rw[aoW];rfl,E6,o6,by rw[aoW];simp;omega,HT⟩;simp[intOf];omega
 obtain rfl:k=t.init.length:=by omega
 have HL:=hid (show L=oH t.init by rw[HL.out,ao0]);have hl:L.length<=2048:=by omega
 obtain⟨c0,c1,c2,c3,c4,c5,c6,c7,c8,c9,c10,c11⟩:=(b0.below E).cells;clear hlt hk;go_wp2_with fail;clear c0 c1 c2 c3 c4 c5 c6 c7 c8 c9 c10 c11
 go_loopw [3,31] (fun o i wr=> ∃(k:Nat) (a:Option Addr) (c:Nat) (M:List Tx),k<=t.code.length/\i= .int .i64 k/\o= .slice a M.length c/\Below W1.heap.size W1 wr/\eP wr W1.heap.size a M.length c M/\M.length<=2048+256*k/\Hid (M=L++mm (t.code.take k))) (fun _ i _=>t.code.length-(intOf i).toNat)
 ·exact⟨0,a,c,L,by omega,rfl,rfl,E,o,by omega,by simp[mm,Hid]⟩
 clear E o;obtain⟨k,a,c,M,hk,rfl,rfl,E,o,hm,HM⟩:=hrel
 by_cases hlt:k<t.code.length
 ·obtain⟨x,hx⟩: ∃x,t.code[k]? =some x:=⟨_,am9 hlt⟩
  have p0:=(HI.out.code.below E).cd hx;have iy:=HI.out.code.sO k hlt t.cc;have k7:=hid (HI.out.rows x (anw hx));have adY:=HR.out x (anw hx);have HT:=hid (show M++x.l.map (·.loc)=L++mm (t.code.take (k+1)) by rw[aiT hx,HM.out,anZ]);clear hx;go_wp2_with fail;clear p0 iy
  go_loopw [3,37] (fun o i wr=> ∃(j:Nat) (a:Option Addr) (c:Nat) (N:List Tx),j<=x.l.length/\i= .int .i64 j/\o= .slice a N.length c/\Below W1.heap.size W1 wr/\eP wr W1.heap.size a N.length c N/\N.length<=M.length+j/\Hid (N=M++(x.l.take j).map (·.loc))) (fun _ i _=>x.l.length-(intOf i).toNat)
  ·exact⟨0,a,c,M,by omega,rfl,rfl,E,o,by omega,by simp[Hid]⟩
  clear E o;obtain⟨j,a,c,N,hj,rfl,rfl,E,o,fk,HN⟩:=hrel
  by_cases hjt:j<x.l.length
  ·obtain⟨i,hi⟩: ∃i,x.l[j]? =some i:=⟨_,am9 hjt⟩
   obtain⟨q0,q1,q2,q3,q4,q5,q6,q7⟩:=(k7.out.is.below E).cells hi;have ix:=(k7.out.is.below E).idx j hjt x.c;have gm:=hid (show N++[i.loc]=M++(x.l.take (j+1)).map (·.loc) by rw[tL hi,ao3,HN.out,anZ];rfl);clear hi
   go_upto_region 13 with(fail)
   have A3:=al wr (kj i);have x0:=gH.new wr i;generalize wr.alloc (kj i)=W3 at*;have E:=E.trans (A3.mono E.size);have o:=Own.below o A3;obtain⟨i0,i1,i2,i3,i4,i5,i6,i7⟩:=x0.cells;clear q0 q1 q2 q3 q4 q5 q6 q7 ix A3
   go_wp2_with (at_builtin;go_loud(refine nU jc (.tmp 41) (.tmp 44) rfl rfl rfl rfl o rfl rfl jf E E.size (by omega) cz ?_))
   intro a6 c6 w6 o6 g6 E6
   have o6:eP w6 W1.heap.size a6 (N++[i.loc]).length c6 (N++[i.loc]):=by
    rw[aoW];unfold eP;rw[wN];exact o6
   clear o g6 i0 i1 i2 i3 i4 i5 i6 i7 x0 E;go_wp2_with fail
   go_roundw;exact⟨j+1,a6,c6,_,by omega,by go_num,by rw[aoW];rfl,E6,o6,by rw[aoW];simp;omega,gm⟩;simp[intOf];omega
  obtain rfl:j=x.l.length:=by omega
  have gm:=hid (show N=L++mm (t.code.take (k+1)) by rw[<-HT.out,HN.out,ao0]);go_wp2_with fail
  go_roundw;exact⟨k+1,a,c,N,by omega,by go_num,rfl,E,o,by omega,gm⟩;simp[intOf];omega
 obtain rfl:k=t.code.length:=by omega
 have HM:=hid (show M=L++mm t.code by rw[HM.out,ao0]);have hm:M.length<=6144:=by omega
 obtain⟨c0,c1,c2,c3,c4,c5,c6,c7,c8,c9,c10,c11⟩:=(b0.below E).cells;have TH:=hid (SM t wr (HI.out.node.keep E));have htl:(lu t).length<=1024:=Hi t.q t.node;clear hlt hk;obtain⟨T,hT⟩:=aj (lu t);rw[hT]at TH htl;have IK:=hid hT;clear hT;go_wp2_with fail;refine TH.out.mono ?_;rintro e w2 ⟨a2,lB,rfl,o2,E2⟩;have o:=Own.below o E2;have o2:dQ w2 W1.heap.size a2 T.length lB T:=Own.mono o2 E.size;have E:=E.trans (E2.mono E.size);clear c0 c1 c2 c3 c4 c5 c6 c7 c8 c9 c10 c11 E2 TH;go_wp2_with fail
 go_loopw [3,51] (fun o i wr=> ∃(j:Nat) (a:Option Addr) (c:Nat) (N:List Tx),j<=T.length/\i= .int .i64 j/\o= .slice a N.length c/\Below W1.heap.size W1 wr/\dQ wr W1.heap.size a2 T.length lB T/\eP wr W1.heap.size a N.length c N/\N.length<=M.length+j/\Hid (N=M++(T.take j).map (·.loc))) (fun _ i _=>T.length-(intOf i).toNat)
 ·exact⟨0,a,c,M,by omega,rfl,rfl,E,o2,o,by omega,by simp[Hid]⟩
 clear E o o2;obtain⟨j,a,c,N,hj,rfl,rfl,E,o2,o,fk,HN⟩:=hrel
 by_cases hjt:j<T.length
 ·obtain⟨x,hx⟩: ∃x,T[j]? =some x:=⟨_,am9 hjt⟩
  have els:=(Own.els o2 ep (by omega) (by omega)).1;obtain⟨q0,q1,q2⟩:=els.th hx;have ix:=els.idx jR ep j hjt lB;have gm:=hid (show N++[x.loc]=M++(T.take (j+1)).map (·.loc) by rw[tL hx,ao3,HN.out,anZ];rfl);clear hx
  go_upto_region 19 with(fail)
  have A3:=al wr (l6 x);have x0:aA (wr.alloc (l6 x)) wr.heap.size (lW x):=aA.new _ _ _;generalize wr.alloc (l6 x)=W3 at*;have E:=E.trans (A3.mono E.size);have o:=Own.below o A3;have o2:=Own.below o2 A3;have i2:=x0.get 2 _ rfl;clear q0 q1 q2 ix A3 els
  go_wp2_with (at_builtin;go_loud(refine nU jc (.tmp 55) (.tmp 58) rfl rfl rfl rfl o rfl rfl jf E E.size (by omega) cz ?_))
  intro a6 c6 w6 o6 g6 E6
  have o6:eP w6 W1.heap.size a6 (N++[x.loc]).length c6 (N++[x.loc]):=by
   rw[aoW];unfold eP;rw[wN];exact o6
  have o2:dQ w6 W1.heap.size a2 T.length lB T:=Own.kept o2 g6.step.grown (agD o o2 (by decide));clear o g6 i2 x0 E;go_wp2_with fail
  go_roundw;exact⟨j+1,a6,c6,_,by omega,by go_num,by rw[aoW];rfl,E6,o2,o6,by rw[aoW];simp;omega,gm⟩;simp[intOf];omega
 obtain rfl:j=T.length:=by omega
 have HZ:=hid (show N=uP t by
  unfold uP;rw[IK.out,HN.out,HM.out,HL.out,ao0,anZ];rfl)
 have ST:=hid (akE N wr W1.heap.size a c o (by omega));have HO:=hid o;have HE:=hid E;clear o2 o E;go_wp2_with fail;refine ST.out.mono ?_;rintro e w3 ⟨rfl,o3,s3⟩;have E3:=s3.below HO.out HE.out HE.out.size;have mI:(nS N).length=N.length:=List.length_mergeSort N;have CT:=hid (mI▸abl (nS N) w3 W1.heap.size a c o3 (by omega));have vm:=hid o3;have zY:=hid E3;clear o3 s3 E3 ST;go_wp2_with fail;refine CT.out.mono ?_;rintro e w4 ⟨rfl,o4,s4⟩;have E4:=s4.below vm.out zY.out zY.out.size;have hle:=Rv (nS N);have gI:=hid (show jO t=xN (cZ (nS N)) by rw[HZ.out,akG,jO];rfl);have TT:=eP.lP o4 (by omega);have UC:(cZ (nS N)).length<=c:=o4.cap.1;clear o4 s4 CT vm HO;obtain⟨P,hP⟩:=aj (cZ (nS N));rw[hP]at gI TT hle UC⊢;clear hP;have Am:=hid TT;have Ei:=hid E4;clear TT E4;cases P with
 | nil=>
   have HF:=hid (show jO t=[]from gI.out);go_wp2_with fail
   (try go_simp)
   go_ret;rw[HF.out];exact⟨a,c,rfl,Am.out,HA.out.trans (Ei.out.mono HA.out.size)⟩
 | cons y r=>
   have p0:=Am.out.cell 0 (by simp);rw[Nat.add_zero]at p0;simp only[List.getElem_cons_zero]at p0;have Vu: ∀w',(Instr.indexAt 42 (.slice a (y::r).length c) (.int .i64 0)).run prog w'= .ok (.pointer (some ⟨bk a,fo a,none⟩)) w':=Am.out.idx 0 (by simp) c;obtain⟨q,hq⟩:=aj ((y::r).length);have hq1:1<=q:=by rw[<-hq];simp
   have HQ:=hid hq;rw[hq]at Vu hle UC⊢;clear hq
   by_cases hy:y=[]
   ·have z5:((tx y).toList==([]:List UInt8))=true:=by rw[hy,bh];rfl
    have z6:(tx y).toList.isEmpty=true:=by rw[hy,bh];rfl
    have HF:=hid (show jO t=r by rw[gI.out,hy];rfl);clear hy;go_wp2_with fail
    rotate_left
    ·(try go_simp)
     go_ret;rw[HF.out];exact⟨_,c-1,by rw[show r.length=q-1 by have:=HQ.out;simp at this;omega];rfl,alR Am.out,HA.out.trans (Ei.out.mono HA.out.size)⟩
    (try go_simp)
    go_ret;have dw:r=[]:=List.eq_nil_of_length_eq_zero (afd HQ.out);rw[HF.out];exact⟨a,0,by rw[show r.length=q-1 by have:=HQ.out;simp at this;omega];rfl,by rw[dw];exact alQ,HA.out.trans (Ei.out.mono HA.out.size)⟩
   have z5:((tx y).toList==([]:List UInt8))=false:=by rw[bh];simpa using hy
   have z6:(tx y).toList.isEmpty=false:=by rw[bh];cases y<;>simp at*
   have HF:=hid (show jO t=y::r by rw[gI.out];unfold xN;rw[if_neg (by simpa using hy)]);clear hy;go_wp2_with fail
   (try go_simp)
   go_ret;rw[HF.out];exact⟨a,c,by rw[HQ.out];rfl,Am.out,HA.out.trans (Ei.out.mono HA.out.size)⟩
end Go.Proofs.YtkbbgjloifmmbaaGreatDoor

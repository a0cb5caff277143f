/- The walk of locs (document). Conditions: the test lies in memory as read; few lines. The walk of asked (document). Conditions: the test lies in memory as read. The walks of the document's answer: isReg, letter, digit, isNumber, blank, part, isName. Conditions: lengths that an int holds. -/
import Derived.Test.YthaibjefnclkjaaGreatDoorAp17
set_option linter.unusedVariables false
set_option maxRecDepth 100000
set_option maxHeartbeats 3200000
namespace Go.Proofs.YthaibjefnclkjaaGreatDoor
open Go.RowKit Go.Sort
theorem thingsC_len (q:Int) (x:Nd):(thingsC q x).length≤1024:=by
 unfold thingsC
 split
 ·rename_i h
  obtain ⟨-,-,-,ho,hn⟩:=cond_ok h
  have:=(things_ok ho).2.2.2
  omega
 ·simp
theorem r13Locs0 (t:Tst) (hi:t.init.length≤1024) (hc:t.code.length≤16) (hr : ∀ x∈t.code,x.l.length≤256) (w:World) (h:TsIn w t) :
  Calls Tryz.prog 42 #[vT t] w (RetS w.heap.size w (namesT t)):=by
 have A:=al w (mkT t)
 have b0:=BxT.new w t
 have HI:=hid (h.keep A)
 have HA:=hid A
 have HR:=hid hr
 clear h A hr
 go_enter Tryz.func42,Tryz.ntmps42
 go_upto_region 1 with (fail)
 generalize w.alloc (mkT t)=W1 at *
 go_wp2_with fail
 go_loopw [3,4] (fun o i wr=>∃ (k:Nat) (a:Option Addr) (c:Nat) (L:List Tx),k≤t.init.length∧i = .int .i64 k∧o = .slice a L.length c∧Below W1.heap.size W1 wr∧OwnS wr W1.heap.size a L.length c L∧L.length≤2 * k∧Hid (L=foldX [] (rawI (t.init.take k)))) (fun _ i _=>t.init.length-(intOf i).toNat)
 case atStart=>exact ⟨0,none,0,[],by omega,rfl,rfl,Below.refl _ _,Own.nil _ _ _ _,by simp,rfl⟩
 case round =>
  obtain ⟨k,a,c,L,hk,rfl,rfl,E,o,hl,HL⟩:=hrel
  obtain ⟨c0,c1,c2,c3,c4,c5,c6,c7,c8,c9,c10,c11⟩:=(b0.below E).cells
  by_cases hlt:k<t.init.length
  ·obtain ⟨x,hx⟩ : ∃ x,t.init[k]? = some x:=⟨_,List.getElem?_eq_getElem hlt⟩
   obtain ⟨p0,p1,p2,p3,p4⟩:=(HI.out.init.below E).ini hx
   have ix:=HI.out.init.idx inil cIni_len k hlt t.ic
   have P1:=hid (r13Put x.loc L a c W1.heap.size wr E.size o (by omega))
   have hl2:=putX_len L x.loc
   have hl3:=putX_len (putX L x.loc) x.vloc
   have HT:=hid (show putX (putX L x.loc) x.vloc=foldX [] (rawI (t.init.take (k+1))) by rw [rawI_step hx,← HL.out])
   have HX:=hid hx
   clear hx
   go_wp2_with fail
   refine P1.out.mono ?_
   rintro e w2 ⟨a2,c2',rfl,o2,E2⟩
   have E:=E.trans (E2.mono E.size)
   clear c0 c1 c2 c3 c4 c5 c6 c7 c8 c9 c10 c11 p0 p1 p2 p3 p4 o E2 P1
   obtain ⟨c0,c1,c2,c3,c4,c5,c6,c7,c8,c9,c10,c11⟩:=(b0.below E).cells
   obtain ⟨p0,p1,p2,p3,p4⟩:=(HI.out.init.below E).ini HX.out
   have P1:=hid (r13Put x.vloc (putX L x.loc) a2 c2' W1.heap.size w2 E.size o2 (by omega))
   go_wp2_with fail
   refine P1.out.mono ?_
   rintro e w3 ⟨a3,c3',rfl,o3,E3⟩
   have E:=E.trans (E3.mono E.size)
   clear c0 c1 c2 c3 c4 c5 c6 c7 c8 c9 c10 c11 p0 p1 p2 p3 p4 o2 E3 P1 ix
   go_wp2_with fail
   go_roundw
   case rel=>exact ⟨k+1,a3,c3',_,by omega,by go_num,rfl,E,o3,by omega,HT⟩
   case measure=>simp [intOf];omega
  ·obtain rfl:k=t.init.length:=by omega
   have HL:=hid (show L=foldX [] (rawI t.init) by rw [HL.out,List.take_length])
   have hl:L.length≤2048:=by omega
   clear hlt hk
   go_wp2_with fail
   clear c0 c1 c2 c3 c4 c5 c6 c7 c8 c9 c10 c11
   go_loopw [3,5] (fun o i wr=>∃ (k:Nat) (a:Option Addr) (c:Nat) (M:List Tx),k≤t.code.length∧i = .int .i64 k∧o = .slice a M.length c∧Below W1.heap.size W1 wr∧OwnS wr W1.heap.size a M.length c M∧M.length≤2048+256 * k∧Hid (M=foldX L (rawC (t.code.take k)))) (fun _ i _=>t.code.length-(intOf i).toNat)
   case atStart=>exact ⟨0,a,c,L,by omega,rfl,rfl,E,o,by omega,rfl⟩
   case round =>
    clear E o
    obtain ⟨k,a,c,M,hk,rfl,rfl,E,o,hm,HM⟩:=hrel
    obtain ⟨c0,c1,c2,c3,c4,c5,c6,c7,c8,c9,c10,c11⟩:=(b0.below E).cells
    by_cases hlt:k<t.code.length
    ·obtain ⟨x,hx⟩ : ∃ x,t.code[k]? = some x:=⟨_,List.getElem?_eq_getElem hlt⟩
     have iy:=HI.out.code.cdx k hlt t.cc
     have HXI:=hid (HI.out.rows x (List.mem_of_getElem? hx))
     have hx256:=HR.out x (List.mem_of_getElem? hx)
     have HX:=hid hx
     have HT:=hid (show foldX M (x.l.map (·.loc))=foldX L (rawC (t.code.take (k+1))) by rw [rawC_step hx,← HM.out])
     clear hx
     go_wp2_with fail
     clear c0 c1 c2 c3 c4 c5 c6 c7 c8 c9 c10 c11
     go_loopw [3,6] (fun o i wr=>∃ (j:Nat) (a:Option Addr) (c:Nat) (N:List Tx),j≤x.l.length∧i = .int .i64 j∧o = .slice a N.length c∧Below W1.heap.size W1 wr∧OwnS wr W1.heap.size a N.length c N∧N.length≤M.length+j∧Hid (N=foldX M ((x.l.take j).map (·.loc)))) (fun _ i _=>x.l.length-(intOf i).toNat)
     case atStart=>exact ⟨0,a,c,M,by omega,rfl,rfl,E,o,by omega,rfl⟩
     case round =>
      clear E o
      obtain ⟨j,a,c,N,hj,rfl,rfl,E,o,hnl,HN⟩:=hrel
      obtain ⟨c0,c1,c2,c3,c4,c5,c6,c7,c8,c9,c10,c11⟩:=(b0.below E).cells
      have p0:=(HI.out.code.below E).cd HX.out
      by_cases hjt:j<x.l.length
      ·obtain ⟨i,hi⟩ : ∃ i,x.l[j]? = some i:=⟨_,List.getElem?_eq_getElem hjt⟩
       obtain ⟨q0,q1,q2,q3,q4,q5,q6,q7⟩:=(HXI.out.is.below E).cells hi
       have ix:=(HXI.out.is.below E).idx j hjt x.c
       have P1:=hid (r13Put i.loc N a c W1.heap.size wr E.size o (by omega))
       have hl2:=putX_len N i.loc
       have HT2:=hid (show putX N i.loc=foldX M ((x.l.take (j+1)).map (·.loc)) by rw [mapL_step (·.loc) hi,← HN.out])
       clear hi
       go_wp2_with fail
       refine P1.out.mono ?_
       rintro e w2 ⟨a2,c2',rfl,o2,E2⟩
       have E:=E.trans (E2.mono E.size)
       clear c0 c1 c2 c3 c4 c5 c6 c7 c8 c9 c10 c11 p0 q0 q1 q2 q3 q4 q5 q6 q7 o E2 P1 ix
       go_wp2_with fail
       go_roundw
       case rel=>exact ⟨j+1,a2,c2',_,by omega,by go_num,rfl,E,o2,by omega,HT2⟩
       case measure=>simp [intOf];omega
      ·obtain rfl:j=x.l.length:=by omega
       have HT2:=hid (show N=foldX L (rawC (t.code.take (k+1))) by rw [← HT.out,HN.out,List.take_length])
       go_wp2_with fail
       go_roundw
       case rel=>exact ⟨k+1,a,c,N,by omega,by go_num,rfl,E,o,by omega,HT2⟩
       case measure=>simp [intOf];omega
    ·obtain rfl:k=t.code.length:=by omega
     have HM:=hid (show M=foldX L (rawC t.code) by rw [HM.out,List.take_length])
     have hm:M.length≤6144:=by omega
     have TH:=hid (r08Things t.q t.node wr (HI.out.node.keep E))
     have htl:=thingsC_len t.q t.node
     clear hlt hk
     obtain ⟨T,hT⟩ : ∃ T,thingsC t.q t.node=T:=⟨_,rfl⟩
     rw [hT] at TH htl
     have HTT:=hid hT
     clear hT
     go_wp2_with fail
     refine TH.out.mono ?_
     rintro e w2 ⟨a2,c2',rfl,o2,E2⟩
     have els:=(Own.els o2 cTh_len (by omega) (by omega)).1
     have HEL:=hid els
     have o:=Own.below o E2
     have HLT:=hid E2.size
     have E:=E.trans (E2.mono E.size)
     have E3:=hid E
     clear c0 c1 c2 c3 c4 c5 c6 c7 c8 c9 c10 c11 o2 E2 TH els
     go_wp2_with fail
     obtain ⟨W3,hW3⟩ : ∃ W3,w2=W3:=⟨_,rfl⟩
     go_loopw [3,9] (fun o i wr=>∃ (j:Nat) (a:Option Addr) (c:Nat) (N:List Tx),j≤T.length∧i = .int .i64 j∧o = .slice a N.length c∧Below W1.heap.size W1 wr∧Els cTh wr a2 T∧OwnS wr W1.heap.size a N.length c N∧N.length≤M.length+j∧Hid (N=foldX M ((T.take j).map (·.loc)))) (fun _ i _=>T.length-(intOf i).toNat)
     case atStart=>exact ⟨0,a,c,M,by omega,rfl,rfl,E,HEL.out,o,by omega,rfl⟩
     case round =>
      clear E o
      obtain ⟨j,a,c,N,hj,rfl,rfl,E,els,o,hnl,HN⟩:=hrel
      by_cases hjt:j<T.length
      ·obtain ⟨x,hx⟩ : ∃ x,T[j]? = some x:=⟨_,List.getElem?_eq_getElem hjt⟩
       obtain ⟨q0,q1,q2⟩:=els.th hx
       have ix:=els.idx thl cTh_len j hjt c2'
       have P1:=hid (r13Put x.loc N a c W1.heap.size wr E.size o (by omega))
       have hl2:=putX_len N x.loc
       have HT2:=hid (show putX N x.loc=foldX M ((T.take (j+1)).map (·.loc)) by rw [mapL_step (·.loc) hx,← HN.out])
       clear hx
       go_wp2_with fail
       refine P1.out.mono ?_
       rintro e w4 ⟨a4,c4',rfl,o4,E4⟩
       have E:=E.trans (E4.mono E.size)
       have els:=els.below E4
       clear q0 q1 q2 o E4 P1 ix
       go_wp2_with fail
       go_roundw
       case rel=>exact ⟨j+1,a4,c4',_,by omega,by go_num,rfl,E,els,o4,by omega,HT2⟩
       case measure=>simp [intOf];omega
      ·obtain rfl:j=T.length:=by omega
       have HZ:=hid (show N=namesT t by
        rw [namesT_eq,← HL.out,← HM.out,HN.out,List.take_length];unfold askT;rw [HTT.out])
       go_wp2_with fail
       (try go_simp)
       go_ret
       rw [← HZ.out]
       exact ⟨a,c,rfl,Own.mono o HA.out.size,HA.out.trans (E.mono HA.out.size)⟩
def askE (t:Tst):Int:=if condE t.arch t.q t.node≠0 then condE t.arch t.q t.node else if (askT t).any fun x=>decide ((t.code.length:Int)≤x.thread) then 80 else 0
theorem r13Asked (t:Tst) (hn:t.code.length≤1000) (w:World) (h:TsIn w t):Calls Tryz.prog 54 #[vT t] w (Ret w (.int .i64 (askE t))):=by
 have A:=al w (mkT t)
 have b0:=BxT.new w t
 have HI:=hid (h.keep A)
 have HA:=hid A
 have CH:=r08Check t.arch t.q t.node _ (h.keep A).node
 obtain ⟨r,hr⟩ : ∃ r,condE t.arch t.q t.node=r:=⟨_,rfl⟩
 rw [hr] at CH
 have CH:=hid CH
 have HAE:=hid (show askE t=if r≠0 then r else if (askT t).any fun x=>decide ((t.code.length:Int)≤x.thread) then 80 else 0 by unfold askE;rw [hr])
 clear h A hr
 go_enter Tryz.func54,Tryz.ntmps54
 go_upto_region 1 with (fail)
 generalize w.alloc (mkT t)=W1 at *
 obtain ⟨c0,c1,c2,c3,c4,c5,c6,c7,c8,c9,c10,c11⟩:=b0.cells
 go_wp2_with fail
 refine CH.out.mono ?_
 rintro e w2 ⟨rfl,E⟩
 clear c0 c1 c2 c3 c4 c5 c6 c7 c8 c9 c10 c11 CH
 by_cases h0:r=0
 ·subst h0
  have HAE:=hid (show askE t=if (askT t).any fun x=>decide ((t.code.length:Int)≤x.thread) then 80 else 0 by rw [HAE.out,if_neg (by omega)])
  obtain ⟨c0,c1,c2,c3,c4,c5,c6,c7,c8,c9,c10,c11⟩:=(b0.below E).cells
  have TH:=hid (r08Things t.q t.node w2 (HI.out.node.keep E))
  have htl:(thingsC t.q t.node).length≤1024:=thingsC_len t.q t.node
  obtain ⟨T,hT⟩ : ∃ T,thingsC t.q t.node=T:=⟨_,rfl⟩
  rw [hT] at TH htl
  have HAE:=hid (show askE t=if T.any fun x=>decide ((t.code.length:Int)≤x.thread) then 80 else 0 by rw [HAE.out];unfold askT;rw [hT])
  clear hT
  go_wp2_with fail
  refine TH.out.mono ?_
  rintro e w3 ⟨a2,c2',rfl,o2,E2⟩
  have els:=(Own.els o2 cTh_len (by omega) (by omega)).1
  have E:=E.trans (E2.mono E.size)
  clear c0 c1 c2 c3 c4 c5 c6 c7 c8 c9 c10 c11 o2 E2 TH
  go_wp2_with fail
  go_loopw [6] (fun i wr=>∃ j:Nat,j≤T.length∧i = .int .i64 j∧Below W1.heap.size W1 wr∧Els cTh wr a2 T∧Hid (∀ (m:Nat) (x:Th),m<j→T[m]? = some x→x.thread<t.code.length)) (fun i _=>T.length-(intOf i).toNat)
  case atStart=>exact ⟨0,by omega,rfl,E,els,fun m x hm=>absurd hm (Nat.not_lt_zero m)⟩
  case round =>
   clear E els
   obtain ⟨j,hj,rfl,E,els,HJ⟩:=hrel
   by_cases hjt:j<T.length
   ·obtain ⟨x,hx⟩ : ∃ x,T[j]? = some x:=⟨_,List.getElem?_eq_getElem hjt⟩
    obtain ⟨q0,q1,q2⟩:=els.th hx
    have ix:=els.idx thl cTh_len j hjt c2'
    obtain ⟨c0,c1,c2,c3,c4,c5,c6,c7,c8,c9,c10,c11⟩:=(b0.below E).cells
    have HX:=hid hx
    clear hx
    go_wp2_with fail
    have q0:=cell_regrown q0;have c4:=cell_regrown c4
    refine wp_region_quiet_below (by kernel_rfl) (by kernel_rfl) ?_
    repeat (go_big_quiet_step (fail))
    refine wpQuiet_nil ?_
    intro _ hw'
    obtain ⟨⟨dq,osq⟩,hw''⟩:=hw'
    subst hw''
    have EQ:=below_regrown wr dq osq
    generalize grow (redrawn wr dq) osq=W5 at *
    have E:=E.trans (EQ.mono E.size)
    have els:=els.below EQ
    clear q0 q1 q2 c0 c1 c2 c3 c4 c5 c6 c7 c8 c9 c10 c11 EQ ix
    by_cases hth:(t.code.length:Int)≤x.thread
    ·have HZ:=hid (show askE t=80 by rw [HAE.out,if_pos];rw [List.any_eq_true];exact ⟨x,List.mem_of_getElem? HX.out,by simpa using hth⟩)
     go_wp2_with fail
     go_ret
     rw [HZ.out]
     exact ⟨rfl,HA.out.trans (E.mono HA.out.size)⟩
    ·have hth':x.thread<t.code.length:=by omega
     have HJ2 : ∀ (m:Nat) (y:Th),m<j+1→T[m]? = some y→y.thread<t.code.length:=fun m y hm hy=>by
      rcases Nat.lt_succ_iff_lt_or_eq.1 hm with h|h
      ·exact HJ.out m y h hy
      ·subst h;rw [HX.out] at hy;cases hy;exact hth'
     have HJ2:=hid HJ2
     clear HJ
     go_wp2_with fail
     go_roundw
     case rel=>exact ⟨j+1,by omega,by go_num,E,els,HJ2⟩
     case measure=>simp [intOf];omega
   ·obtain rfl:j=T.length:=by omega
    have HZ:=hid (show askE t=0 by
     rw [HAE.out,if_neg]
     rw [List.any_eq_true]
     rintro ⟨x,hx,h2⟩
     obtain ⟨k,hk⟩:=List.mem_iff_getElem?.1 hx
     have:=HJ.out k x (List.getElem?_eq_some_iff.1 hk).1 hk
     simp at h2;omega)
    go_wp2_with fail
    go_ret
    rw [HZ.out]
    exact ⟨rfl,HA.out.trans (E.mono HA.out.size)⟩
 ·have z:(r != 0)=true:=by simpa using h0
  have HZ:=hid (show askE t=r by rw [HAE.out,if_pos h0])
  clear h0
  go_wp2_with fail
  go_ret
  rw [HZ.out]
  exact ⟨rfl,HA.out.trans (E.mono HA.out.size)⟩
end Go.Proofs.YthaibjefnclkjaaGreatDoor
namespace Go.Proofs.YthaibjefnclkjaaGreatDoor
open Go.RowKit
theorem refIsReg (n:Int) (w:World):Calls Tryz.prog 103 #[.int .i64 n] w fun e w'=>e = .returned (.bool (regB n))∧w=w':=by
 have hp:n<0∨(0≤n∧n≤31)∨32≤n:=by omega
 rcases hp with h|⟨h,h'⟩|h
 all_goals
  go_enter Tryz.func103,Tryz.ntmps103
  go_wp2
  go_ret
  exact ⟨ret_bool (by unfold regB;rw [Bool.eq_iff_iff];simp <;> omega),rfl⟩
theorem refLetter (c:UInt8) (w:World):Calls Tryz.prog 134 #[.int .u8 c.toNat] w fun e w'=>e = .returned (.bool (letterC c))∧w=w':=by
 have hlt:c.toNat<256:=c.toNat_lt
 have hl:letterC c=((decide (97≤c.toNat)&&decide (c.toNat≤122)) || (decide (65≤c.toNat)&&decide (c.toNat≤90))):=by
  unfold letterC;simp only [UInt8.le_iff_toNat_le];rfl
 rw [hl];clear hl
 generalize c.toNat=n at *
 have hp:n<65∨(65≤n∧n≤90)∨(91≤n∧n≤96)∨(97≤n∧n≤122)∨123≤n:=by omega
 rcases hp with h|⟨h,h'⟩|⟨h,h'⟩|⟨h,h'⟩|h
 all_goals
  go_enter Tryz.func134,Tryz.ntmps134
  go_wp2
  go_ret
  exact ⟨ret_bool (by first|(rw [Bool.eq_iff_iff];simp <;> omega)|(simp <;> omega)),rfl⟩
theorem refDigit (c:UInt8) (w:World):Calls Tryz.prog 135 #[.int .u8 c.toNat] w fun e w'=>e = .returned (.bool (digitC c))∧w=w':=by
 have hlt:c.toNat<256:=c.toNat_lt
 have hl:digitC c=(decide (48≤c.toNat)&&decide (c.toNat≤57)):=by
  unfold digitC;simp only [UInt8.le_iff_toNat_le];rfl
 rw [hl];clear hl
 generalize c.toNat=n at *
 have hp:n<48∨(48≤n∧n≤57)∨58≤n:=by omega
 rcases hp with h|⟨h,h'⟩|h
 all_goals
  go_enter Tryz.func135,Tryz.ntmps135
  go_wp2
  go_ret
  exact ⟨ret_bool (by first|(rw [Bool.eq_iff_iff];simp <;> omega)|(simp <;> omega)),rfl⟩
theorem refPart (n:Int) (w:World):Calls Tryz.prog 65 #[.int .i64 n] w fun e w'=>e = .returned (.string (tx (fpart n)))∧w=w':=by
 by_cases h0:n=0
 ·subst h0
  go_enter Tryz.func65,Tryz.ntmps65
  go_wp2
  go_ret
  exact ⟨rfl,rfl⟩
 by_cases h1:n=1
 ·subst h1
  go_enter Tryz.func65,Tryz.ntmps65
  go_wp2
  go_ret
  exact ⟨rfl,rfl⟩
 have z0:(n==0)=false:=by simpa using h0
 have z1:(n==1)=false:=by simpa using h1
 have hf:fpart n = [114,119]:=by unfold fpart;rw [if_neg h0,if_neg h1]
 rw [hf];clear hf h0 h1
 go_enter Tryz.func65,Tryz.ntmps65
 go_wp2
 go_ret
 exact ⟨rfl,rfl⟩
theorem refIsName (l : Tx) (hl : l.length ≤ 9223372036854775807) (w : World) : Calls Tryz.prog 102 #[.string (tx l)] w fun e w' => e = .returned (.bool (nameB l)) ∧ w = w' := by
  have hs := tx_size l
  cases l with
  | nil =>
    have hs : (tx []).size = 0 := rfl
    go_enter Tryz.func102, Tryz.ntmps102
    go_wp2_with fail
    go_ret
    exact ⟨rfl, rfl⟩
  | cons c r =>
    obtain ⟨n, hn⟩ : ∃ n, (tx (c :: r)).size = n := ⟨_, rfl⟩
    have hn1 : 1 ≤ n := by rw [← hn, hs]; simp
    have hnr : n = r.length + 1 := by rw [← hn, hs]; simp
    have hz : ((n : Int) == 0) = false := by simp; omega
    clear hs hl
    by_cases h32 : n ≤ 32
    · have i0 := run_ixz (c :: r) c rfl
      by_cases hc : letterC c = true
      · have HC := hid hc
        have HR := hid hnr
        clear hc hnr
        go_enter Tryz.func102, Tryz.ntmps102
        go_wp2_with (go_at_call 134; refine (refLetter c _).mono ?_; rintro e w' ⟨rfl, rfl⟩; rw [HC.out])
        go_loop [3] (fun i => ∃ k : Nat, 1 ≤ k ∧ k ≤ n ∧ i = .int .i64 k ∧ Hid (∀ (i : Nat) (x : UInt8), i < k → (c :: r)[i]? = some x → nameC x = true)) (fun i => n - (intOf i).toNat)
        case atStart => exact ⟨1, by omega, by omega, rfl, fun i x hi h => by
          obtain rfl : i = 0 := by omega
          cases h; unfold nameC; rw [HC.out]; rfl⟩
        case round =>
          obtain ⟨k, hk1, hk, rfl, HM⟩ := hrel
          by_cases hlt : k < n
          · obtain ⟨x, hx⟩ : ∃ x, (c :: r)[k]? = some x := ⟨_, List.getElem?_eq_getElem (by have := HR.out; simp; omega)⟩
            have ix := run_ix (c :: r) k x hx
            have HX := hid hx
            clear hx
            have HM2 : nameC x = true → Hid (∀ (i : Nat) (y : UInt8), i < k + 1 → (c :: r)[i]? = some y → nameC y = true) := fun hx' i y hi hy => by
              rcases Nat.lt_succ_iff_lt_or_eq.1 hi with h | h
              · exact HM.out i y h hy
              · subst h; rw [HX.out] at hy; cases hy; exact hx'
            have HM2 := hid HM2
            by_cases h1 : letterC x = true
            · have H1 := hid h1
              have HN := hid (HM2.out (by unfold nameC; rw [h1]; rfl))
              clear h1
              go_wp2_with (go_at_call 134; refine (refLetter x _).mono ?_; rintro e w' ⟨rfl, rfl⟩; rw [H1.out])
              go_round
              case rel => exact ⟨k + 1, by omega, by omega, by go_num, HN.out⟩
              case measure => simp [intOf]; omega
            · have H1 := hid (Bool.eq_false_iff.2 h1)
              clear h1
              by_cases h2 : digitC x = true
              · have H2 := hid h2
                have HN := hid (HM2.out (by unfold nameC; rw [h2]; simp))
                clear h2
                go_wp2_with (first | (go_at_call 134; refine (refLetter x _).mono ?_; rintro e w' ⟨rfl, rfl⟩; rw [H1.out]) | (go_at_call 135; refine (refDigit x _).mono ?_; rintro e w' ⟨rfl, rfl⟩; rw [H2.out]))
                go_round
                case rel => exact ⟨k + 1, by omega, by omega, by go_num, HN.out⟩
                case measure => simp [intOf]; omega
              · have H2 := hid (Bool.eq_false_iff.2 h2)
                clear h2
                by_cases h3 : x = 95
                · subst h3
                  have HN := hid (HM2.out (by decide))
                  have z3 : (((95 : UInt8).toNat : Int) != 95) = false := by decide
                  go_wp2_with (first | (go_at_call 134; refine (refLetter 95 _).mono ?_; rintro e w' ⟨rfl, rfl⟩; rw [H1.out]) | (go_at_call 135; refine (refDigit 95 _).mono ?_; rintro e w' ⟨rfl, rfl⟩; rw [H2.out]))
                  go_round
                  case rel => exact ⟨k + 1, by omega, by omega, by go_num, HN.out⟩
                  case measure => simp [intOf]; omega
                · have z3 : ((x.toNat : Int) != 95) = true := u8_ne x 95 h3
                  have HF := hid (nameB_step HX.out (by unfold nameC; rw [H1.out, H2.out]; simpa using h3))
                  clear h3
                  go_wp2_with (first | (go_at_call 134; refine (refLetter x _).mono ?_; rintro e w' ⟨rfl, rfl⟩; rw [H1.out]) | (go_at_call 135; refine (refDigit x _).mono ?_; rintro e w' ⟨rfl, rfl⟩; rw [H2.out]))
                  go_ret
                  exact ⟨ret_bool HF.out.symm, rfl⟩
          · have HF := hid (nameB_done (c := c) (r := r) (by have := HR.out; omega) HC.out (fun i x hi => HM.out i x (by
              have h1 := (List.getElem?_eq_some_iff.1 hi).1
              have := HR.out
              simp at h1; omega) hi))
            go_wp2_with fail
            go_ret
            exact ⟨ret_bool HF.out.symm, rfl⟩
      · have HC := hid (Bool.eq_false_iff.2 hc)
        have HF := hid (show nameB (c :: r) = false by rw [nameB_cons, HC.out]; simp)
        clear hc hnr
        go_enter Tryz.func102, Tryz.ntmps102
        go_wp2_with (go_at_call 134; refine (refLetter c _).mono ?_; rintro e w' ⟨rfl, rfl⟩; rw [HC.out])
        go_ret
        exact ⟨ret_bool HF.out.symm, rfl⟩
    · have HF := hid (show nameB (c :: r) = false by rw [nameB_cons, decide_eq_false (by omega)]; simp)
      clear hnr
      go_enter Tryz.func102, Tryz.ntmps102
      go_wp2_with fail
      go_ret
      exact ⟨ret_bool HF.out.symm, rfl⟩
end Go.Proofs.YthaibjefnclkjaaGreatDoor

/- The walk of coded (program). Conditions: the test lies in memory as read. A map's keys that are things. Lemmas of this claim's own; no condition. The walk of begun (program): a map of things. Conditions: the test lies in memory as read. -/
import Derived.Test.YthaibjefnclkjaaGreatDoorAp23
import Derived.DeepKeys5
import Derived.Test.YthaibjefnclkjaaGreatDoorAp25
set_option linter.unusedVariables false
set_option maxRecDepth 100000
set_option maxHeartbeats 3200000
namespace Go.Proofs.YthaibjefnclkjaaGreatDoor
open Go.RowKit Go.Sort
theorem fileCoded_1 (t:Tst) (ha:t.arch=1) (w:World) (h:TsIn w t):Calls Tryz.prog 46 #[vT t] w (Ret w (.int .i64 (codedE t))):=by
 have A:=al w (mkT t)
 have b0:=BxT.new w t
 have HI:=hid (h.keep A)
 have HA:=hid A
 have HAr:=hid ha
 have hcl:=h.code.len
 clear ha
 by_cases hn:t.code.length<1∨16<t.code.length
 ·rw [codedE_n hn]
  obtain ⟨c0,c1,c2,c3,c4,c5,c6,c7,c8,c9,c10,c11⟩:=b0.cells
  clear h A
  rcases hn with hn|hn
  all_goals
   go_enter Tryz.func46,Tryz.ntmps46
   go_wp2_with fail
   go_ret
   exact ⟨rfl,HA.out⟩
 ·have h1:1≤t.code.length:=by omega
  have h16:t.code.length≤16:=by omega
  have HNN:=hid hn
  clear hn h A
  go_enter Tryz.func46,Tryz.ntmps46
  go_upto_region 1 with (fail)
  generalize w.alloc (mkT t)=W1 at *
  obtain ⟨c0,c1,c2,c3,c4,c5,c6,c7,c8,c9,c10,c11⟩:=b0.cells
  go_wp2_with fail
  clear c0 c1 c2 c3 c4 c5 c6 c7 c8 c9 c10 c11
  go_loopw [25] (fun i wr=>∃ k:Nat,k≤t.code.length∧i = .int .i64 k∧Below W1.heap.size W1 wr∧Hid (∀ (j:Nat) (x:Cd),j<k→t.code[j]? = some x→x.l.length≤256)) (fun i _=>t.code.length-(intOf i).toNat)
  case atStart=>exact ⟨0,by omega,rfl,Below.refl _ _,fun j x hj=>absurd hj (Nat.not_lt_zero j)⟩
  case round =>
   obtain ⟨k,hk,rfl,E,HK⟩:=hrel
   by_cases hlt:k<t.code.length
   ·obtain ⟨x,hx⟩ : ∃ x,t.code[k]? = some x:=⟨_,List.getElem?_eq_getElem hlt⟩
    have p0:=(HI.out.code.below E).cd hx
    have ix:=HI.out.code.cdx k hlt t.cc
    have hxl:=(HI.out.rows x (List.mem_of_getElem? hx)).is.len
    have HX:=hid hx
    clear hx
    by_cases hl:256<x.l.length
    ·have HZ:=hid (codedE_long HNN.out HX.out hl)
     go_wp2_with fail
     go_ret
     rw [HZ.out]
     exact ⟨rfl,HA.out.trans (E.mono HA.out.size)⟩
    ·have hl':x.l.length≤256:=by omega
     have HK2 : ∀ (j:Nat) (y:Cd),j<k+1→t.code[j]? = some y→y.l.length≤256:=fun j y hj hy=>by
      rcases Nat.lt_succ_iff_lt_or_eq.1 hj with h|h
      ·exact HK.out j y h hy
      ·subst h;rw [HX.out] at hy;cases hy;exact hl'
     have HK2:=hid HK2
     clear HK hl
     go_wp2_with fail
     go_roundw
     case rel=>exact ⟨k+1,by omega,by go_num,E,HK2⟩
     case measure=>simp [intOf];omega
   ·obtain rfl:k=t.code.length:=by omega
    have HR:=hid (codedE_rows HNN.out (fun k x hx=>HK.out k x (List.getElem?_eq_some_iff.1 hx).1 hx))
    have HL:=hid (fun (k:Nat) (x:Cd) (hx:t.code[k]? = some x)=>HK.out k x (List.getElem?_eq_some_iff.1 hx).1 hx)
    obtain ⟨c0,c1,c2,c3,c4,c5,c6,c7,c8,c9,c10,c11⟩:=(b0.below E).cells
    clear HK hk hlt
    go_wp2_with fail
    clear c0 c1 c2 c3 c4 c5 c6 c7 c8 c9 c10 c11
    go_loopw [36] (fun i wr2=>∃ k:Nat,k≤t.code.length∧i = .int .i64 k∧Below W1.heap.size W1 wr2∧Hid (rowsE 1 (t.code.drop k)=codedE t)) (fun i _=>t.code.length-(intOf i).toNat)
    case atStart=>exact ⟨0,by omega,rfl,E,by rw [List.drop_zero];exact (HR.out.trans (by rw [HAr.out])).symm⟩
    case round =>
     clear E
     obtain ⟨k,hk,rfl,E,HD⟩:=hrel
     by_cases hlt:k<t.code.length
     ·obtain ⟨x,hx⟩ : ∃ x,t.code[k]? = some x:=⟨_,List.getElem?_eq_getElem hlt⟩
      have p0:=(HI.out.code.below E).cd hx
      have ix:=HI.out.code.cdx k hlt t.cc
      have hxI:=HI.out.rows x (List.mem_of_getElem? hx)
      have hxl:=hxI.is.len
      have HXI:=hid hxI
      have hl6:=HL.out k x hx
      have HD:=hid (show (if rowE 1 x.l=0 then rowsE 1 (t.code.drop (k+1)) else rowE 1 x.l)=codedE t by rw [← rowsE_drop hx];exact HD.out)
      clear hx hxI
      go_wp2_with fail
      clear p0 ix
      go_loopw [42] (fun i wr3=>∃ j:Nat,j≤x.l.length∧i = .int .i64 j∧Below W1.heap.size W1 wr3∧Hid (∀ (m:Nat) (i:Ins),m<j→x.l[m]? = some i→insA 1 i=true)) (fun i _=>x.l.length-(intOf i).toNat)
      case atStart=>exact ⟨0,by omega,rfl,E,fun j x hj=>absurd hj (Nat.not_lt_zero j)⟩
      case round =>
       clear E
       obtain ⟨j,hj,rfl,E,HJ⟩:=hrel
       by_cases hjt:j<x.l.length
       ·obtain ⟨i,hi⟩ : ∃ i,x.l[j]? = some i:=⟨_,List.getElem?_eq_getElem hjt⟩
        obtain ⟨p0,p1,p2,p3,p4,p5,p6,p7⟩:=(HXI.out.is.below E).cells hi
        have ix:=(HXI.out.is.below E).idx j hjt x.c
        have hb:=HXI.out.locs i (List.mem_of_getElem? hi)
        have CK:=hid (fun w=>xCheck i hb.1 w)
        have HIJ:=hid hi
        clear hi hb
        obtain ⟨e,he⟩ : ∃ e,errX i=e:=⟨_,rfl⟩
        rw [he] at CK
        have HE:=hid he
        clear he
        go_upto_region 15 with (fail)
        have A3:=al wr (mkI i)
        have b3:=BxI.new wr i
        generalize wr.alloc (mkI i)=W3 at *
        have E:=E.trans (A3.mono E.size)
        clear p0 p1 p2 p3 p4 p5 p6 p7 ix A3
        obtain ⟨q0,q1,q2,q3,q4,q5,q6,q7⟩:=b3.cells
        have c0:=(b0.below E).cells.1
        rw [HAr.out] at c0
        go_wp2_with fail
        refine (CK.out _).mono ?_
        rintro ee w5 ⟨rfl,E5⟩
        have E:=E.trans (E5.mono E.size)
        clear q0 q1 q2 q3 q4 q5 q6 q7 c0 E5 CK
        have c0:=(b0.below E).cells.1
        rw [HAr.out] at c0
        by_cases hck:checkX i=true
        ·have e0:e=0:=by rw [← HE.out];unfold errX;rw [hck];rfl
         subst e0
         have HJ2 : ∀ (m:Nat) (y:Ins),m<j+1→x.l[m]? = some y→insA 1 y=true:=fun m y hm hy=>by
          rcases Nat.lt_succ_iff_lt_or_eq.1 hm with h|h
          ·exact HJ.out m y h hy
          ·subst h;rw [HIJ.out] at hy;cases hy;exact hck
         have HJ2:=hid HJ2
         clear hck HJ HIJ HE
         go_wp2_with fail
         go_roundw
         case rel=>exact ⟨j+1,by omega,by go_num,E,HJ2⟩
         case measure=>simp [intOf];omega
        ·have e0:e=91:=by rw [← HE.out];unfold errX;rw [if_neg hck]
         subst e0
         have HZ:=hid (show codedE t=91 by rw [← HD.out,rowE_bad HIJ.out (by show checkX i=false;simpa using hck),if_neg (by omega)])
         clear hck HJ HIJ HE
         go_wp2_with fail
         go_ret
         rw [HZ.out]
         exact ⟨rfl,HA.out.trans (E.mono HA.out.size)⟩
       ·obtain rfl:j=x.l.length:=by omega
        have c0:=(b0.below E).cells.1
        rw [HAr.out] at c0
        have HRA:=hid (rowE_all (fun m i hi=>HJ.out m i (List.getElem?_eq_some_iff.1 hi).1 hi))
        have HD:=hid (show rowsE 1 (t.code.drop (k+1))=codedE t by rw [← HD.out,if_pos (by rw [HRA.out];rfl)])
        clear HJ
        go_wp2_with fail
        go_roundw
        case rel=>exact ⟨k+1,by omega,by go_num,E,HD⟩
        case measure=>simp [intOf];omega
     ·obtain rfl:k=t.code.length:=by omega
      have HZ:=hid (show codedE t=0 by rw [← HD.out];exact rowsE_end)
      go_wp2_with fail
      go_ret
      rw [HZ.out]
      exact ⟨rfl,HA.out.trans (E.mono HA.out.size)⟩
theorem fileCoded_2 (t:Tst) (ha:t.arch=2) (w:World) (h:TsIn w t):Calls Tryz.prog 46 #[vT t] w (Ret w (.int .i64 (codedE t))):=by
 have A:=al w (mkT t)
 have b0:=BxT.new w t
 have HI:=hid (h.keep A)
 have HA:=hid A
 have HAr:=hid ha
 have hcl:=h.code.len
 clear ha
 by_cases hn:t.code.length<1∨16<t.code.length
 ·rw [codedE_n hn]
  obtain ⟨c0,c1,c2,c3,c4,c5,c6,c7,c8,c9,c10,c11⟩:=b0.cells
  clear h A
  rcases hn with hn|hn
  all_goals
   go_enter Tryz.func46,Tryz.ntmps46
   go_wp2_with fail
   go_ret
   exact ⟨rfl,HA.out⟩
 ·have h1:1≤t.code.length:=by omega
  have h16:t.code.length≤16:=by omega
  have HNN:=hid hn
  clear hn h A
  go_enter Tryz.func46,Tryz.ntmps46
  go_upto_region 1 with (fail)
  generalize w.alloc (mkT t)=W1 at *
  obtain ⟨c0,c1,c2,c3,c4,c5,c6,c7,c8,c9,c10,c11⟩:=b0.cells
  go_wp2_with fail
  clear c0 c1 c2 c3 c4 c5 c6 c7 c8 c9 c10 c11
  go_loopw [25] (fun i wr=>∃ k:Nat,k≤t.code.length∧i = .int .i64 k∧Below W1.heap.size W1 wr∧Hid (∀ (j:Nat) (x:Cd),j<k→t.code[j]? = some x→x.l.length≤256)) (fun i _=>t.code.length-(intOf i).toNat)
  case atStart=>exact ⟨0,by omega,rfl,Below.refl _ _,fun j x hj=>absurd hj (Nat.not_lt_zero j)⟩
  case round =>
   obtain ⟨k,hk,rfl,E,HK⟩:=hrel
   by_cases hlt:k<t.code.length
   ·obtain ⟨x,hx⟩ : ∃ x,t.code[k]? = some x:=⟨_,List.getElem?_eq_getElem hlt⟩
    have p0:=(HI.out.code.below E).cd hx
    have ix:=HI.out.code.cdx k hlt t.cc
    have hxl:=(HI.out.rows x (List.mem_of_getElem? hx)).is.len
    have HX:=hid hx
    clear hx
    by_cases hl:256<x.l.length
    ·have HZ:=hid (codedE_long HNN.out HX.out hl)
     go_wp2_with fail
     go_ret
     rw [HZ.out]
     exact ⟨rfl,HA.out.trans (E.mono HA.out.size)⟩
    ·have hl':x.l.length≤256:=by omega
     have HK2 : ∀ (j:Nat) (y:Cd),j<k+1→t.code[j]? = some y→y.l.length≤256:=fun j y hj hy=>by
      rcases Nat.lt_succ_iff_lt_or_eq.1 hj with h|h
      ·exact HK.out j y h hy
      ·subst h;rw [HX.out] at hy;cases hy;exact hl'
     have HK2:=hid HK2
     clear HK hl
     go_wp2_with fail
     go_roundw
     case rel=>exact ⟨k+1,by omega,by go_num,E,HK2⟩
     case measure=>simp [intOf];omega
   ·obtain rfl:k=t.code.length:=by omega
    have HR:=hid (codedE_rows HNN.out (fun k x hx=>HK.out k x (List.getElem?_eq_some_iff.1 hx).1 hx))
    have HL:=hid (fun (k:Nat) (x:Cd) (hx:t.code[k]? = some x)=>HK.out k x (List.getElem?_eq_some_iff.1 hx).1 hx)
    obtain ⟨c0,c1,c2,c3,c4,c5,c6,c7,c8,c9,c10,c11⟩:=(b0.below E).cells
    clear HK hk hlt
    go_wp2_with fail
    clear c0 c1 c2 c3 c4 c5 c6 c7 c8 c9 c10 c11
    go_loopw [36] (fun i wr2=>∃ k:Nat,k≤t.code.length∧i = .int .i64 k∧Below W1.heap.size W1 wr2∧Hid (rowsE 2 (t.code.drop k)=codedE t)) (fun i _=>t.code.length-(intOf i).toNat)
    case atStart=>exact ⟨0,by omega,rfl,E,by rw [List.drop_zero];exact (HR.out.trans (by rw [HAr.out])).symm⟩
    case round =>
     clear E
     obtain ⟨k,hk,rfl,E,HD⟩:=hrel
     by_cases hlt:k<t.code.length
     ·obtain ⟨x,hx⟩ : ∃ x,t.code[k]? = some x:=⟨_,List.getElem?_eq_getElem hlt⟩
      have p0:=(HI.out.code.below E).cd hx
      have ix:=HI.out.code.cdx k hlt t.cc
      have hxI:=HI.out.rows x (List.mem_of_getElem? hx)
      have hxl:=hxI.is.len
      have HXI:=hid hxI
      have hl6:=HL.out k x hx
      have HD:=hid (show (if rowE 2 x.l=0 then rowsE 2 (t.code.drop (k+1)) else rowE 2 x.l)=codedE t by rw [← rowsE_drop hx];exact HD.out)
      clear hx hxI
      go_wp2_with fail
      clear p0 ix
      go_loopw [42] (fun i wr3=>∃ j:Nat,j≤x.l.length∧i = .int .i64 j∧Below W1.heap.size W1 wr3∧Hid (∀ (m:Nat) (i:Ins),m<j→x.l[m]? = some i→insA 2 i=true)) (fun i _=>x.l.length-(intOf i).toNat)
      case atStart=>exact ⟨0,by omega,rfl,E,fun j x hj=>absurd hj (Nat.not_lt_zero j)⟩
      case round =>
       clear E
       obtain ⟨j,hj,rfl,E,HJ⟩:=hrel
       by_cases hjt:j<x.l.length
       ·obtain ⟨i,hi⟩ : ∃ i,x.l[j]? = some i:=⟨_,List.getElem?_eq_getElem hjt⟩
        obtain ⟨p0,p1,p2,p3,p4,p5,p6,p7⟩:=(HXI.out.is.below E).cells hi
        have ix:=(HXI.out.is.below E).idx j hjt x.c
        have hb:=HXI.out.locs i (List.mem_of_getElem? hi)
        have CK:=hid (fun w=>progCheck i hb.2 w)
        have HIJ:=hid hi
        clear hi hb
        obtain ⟨e,he⟩ : ∃ e,errI i=e:=⟨_,rfl⟩
        rw [he] at CK
        have HE:=hid he
        clear he
        go_upto_region 15 with (fail)
        have A3:=al wr (mkI i)
        have b3:=BxI.new wr i
        generalize wr.alloc (mkI i)=W3 at *
        have E:=E.trans (A3.mono E.size)
        clear p0 p1 p2 p3 p4 p5 p6 p7 ix A3
        obtain ⟨q0,q1,q2,q3,q4,q5,q6,q7⟩:=b3.cells
        have c0:=(b0.below E).cells.1
        rw [HAr.out] at c0
        go_wp2_with fail
        refine (CK.out _).mono ?_
        rintro ee w5 ⟨rfl,E5⟩
        have E:=E.trans (E5.mono E.size)
        clear q0 q1 q2 q3 q4 q5 q6 q7 c0 E5 CK
        have c0:=(b0.below E).cells.1
        rw [HAr.out] at c0
        by_cases hck:checkI i=true
        ·have e0:e=0:=by rw [← HE.out];unfold errI;rw [hck];rfl
         subst e0
         have HJ2 : ∀ (m:Nat) (y:Ins),m<j+1→x.l[m]? = some y→insA 2 y=true:=fun m y hm hy=>by
          rcases Nat.lt_succ_iff_lt_or_eq.1 hm with h|h
          ·exact HJ.out m y h hy
          ·subst h;rw [HIJ.out] at hy;cases hy;exact hck
         have HJ2:=hid HJ2
         clear hck HJ HIJ HE
         go_wp2_with fail
         go_roundw
         case rel=>exact ⟨j+1,by omega,by go_num,E,HJ2⟩
         case measure=>simp [intOf];omega
        ·have e0:e=91:=by rw [← HE.out];unfold errI;rw [if_neg hck]
         subst e0
         have HZ:=hid (show codedE t=91 by rw [← HD.out,rowE_bad HIJ.out (by show checkI i=false;simpa using hck),if_neg (by omega)])
         clear hck HJ HIJ HE
         go_wp2_with fail
         go_ret
         rw [HZ.out]
         exact ⟨rfl,HA.out.trans (E.mono HA.out.size)⟩
       ·obtain rfl:j=x.l.length:=by omega
        have c0:=(b0.below E).cells.1
        rw [HAr.out] at c0
        have HRA:=hid (rowE_all (fun m i hi=>HJ.out m i (List.getElem?_eq_some_iff.1 hi).1 hi))
        have hLab : ∀ i∈x.l,i.label.length≤9223372036854775807:=fun i hi=>(HXI.out.locs i hi).2
        have LK:=progLinks x.l x.a x.c HXI.out.cap hLab wr (HXI.out.is.below E)
        obtain ⟨e,he⟩ : ∃ e,(linksV x.l).2.1=e:=⟨_,rfl⟩
        have HD:=hid (show (if e=0 then rowsE 2 (t.code.drop (k+1)) else e)=codedE t by
         rw [← HD.out,show rowE 2 x.l=e from by rw [HRA.out,if_pos rfl,he]])
        have HLE:=hid he
        have LK:=hid LK
        clear HJ he hLab HRA
        go_wp2_with fail
        refine LK.out.mono ?_
        rintro ee w5 ⟨a5,c5,rfl,o5,E5⟩
        rw [HLE.out]
        have E:=E.trans (E5.mono E.size)
        clear o5 E5 LK c0
        by_cases h0:e=0
        ·subst h0
         have HD:=hid (show rowsE 2 (t.code.drop (k+1))=codedE t from HD.out)
         go_wp2_with fail
         go_roundw
         case rel=>exact ⟨k+1,by omega,by go_num,E,HD⟩
         case measure=>simp [intOf];omega
        ·have z0:(e != 0)=true:=by simpa using h0
         have HZ:=hid (show codedE t=e by rw [← HD.out,if_neg h0])
         clear h0
         go_wp2_with fail
         go_ret
         rw [HZ.out]
         exact ⟨rfl,HA.out.trans (E.mono HA.out.size)⟩
     ·obtain rfl:k=t.code.length:=by omega
      have HZ:=hid (show codedE t=0 by rw [← HD.out];exact rowsE_end)
      go_wp2_with fail
      go_ret
      rw [HZ.out]
      exact ⟨rfl,HA.out.trans (E.mono HA.out.size)⟩
end Go.Proofs.YthaibjefnclkjaaGreatDoor
namespace Go.Proofs.YthaibjefnclkjaaGreatDoor
open Go.RowKit Go.Maps Go.WideMaps
theorem lawT:Keyed Tryz.prog 32:=Keyed.of_law (deep_law_gate (by kernel_rfl) (Nat.le_of_ble_eq_true (by kernel_rfl)) (Nat.lt_of_succ_le (Nat.le_of_ble_eq_true (by kernel_rfl))) (by kernel_rfl) (by kernel_rfl))
def kT (x:Th):Lit:=.string (keyBytes [.int .i64 x.thread,.int .i64 x.reg,.string x.loc])
theorem wf64 {n:Int} (h:I64 n):(Lit.int .i64 n).wf=true:=WalkArith.wf_i64 (by unfold I64 at h;omega)
theorem keyT' (x:Th) (h1:I64 x.thread) (h2:I64 x.reg) (h3:x.loc.length≤9223372036854775807):keyOf Tryz.prog 32 (vTh x)=some (kT x):=by
 have hk:Tryz.prog.keyType 32=true:=by kernel_rfl
 have hc:Tryz.prog.cellsOf 32=3:=by kernel_rfl
 have hi:Tryz.prog.cellsOf 3=1:=by kernel_rfl
 have hs:Tryz.prog.cellsOf 9=1:=by kernel_rfl
 have h1s:1≤Tryz.prog.types.size:=Nat.le_of_ble_eq_true (by kernel_rfl)
 obtain ⟨m,hm⟩ : ∃ m,Tryz.prog.types.size=m+1:=⟨_,(Nat.sub_add_cancel h1s).symm⟩
 unfold keyOf
 rw [Tryz.underlying32]
 simp only [hk,Value.formed,Tryz.underlying32,hc]
 rw [hm]
 simp [Program.keyLits,Tryz.underlying32,hc,hi,hs,Tryz.underlying3,Tryz.underlying9,Value.cells,wf64 h1,wf64 h2,kT,tx_size]
 rw [if_pos (show x.loc.length≤maxLen from h3),tx_data]
 rfl
theorem kT_inj {x y:Th} (h1:I64 x.thread) (h2:I64 x.reg) (h3:x.loc.length≤9223372036854775807) (g1:I64 y.thread) (g2:I64 y.reg) (g3:y.loc.length≤9223372036854775807) (h:kT x=kT y):x=y:=by
 have e:=lawT.inj (keyT' x h1 h2 h3) (by rw [h];exact keyT' y g1 g2 g3)
 simp only [vTh,Value.agg.injEq,Array.mk.injEq,List.cons.injEq,Value.int.injEq,Value.string.injEq,and_true,true_and,tx_inj] at e
 exact (th_ext x y).2 ⟨e.1,e.2.1,e.2.2⟩
def SeenD (t:Tst) (k:Nat) (D:DataW Unit):Prop :=
 ∀ x:Th,I64 x.thread→I64 x.reg→x.loc.length≤9223372036854775807 →
  (∀ (i:Nat) (y:Ini),i<k→t.init[i]? = some y→keyI y=x→∃ c:Int,0<c∧c<2000∧D.atKey (kT x) (.lit (.int .i64 0)) = .lit (.int .i64 c)) ∧
  ((∀ (i:Nat) (y:Ini),i<k→t.init[i]? = some y→keyI y≠x)→D.atKey (kT x) (.lit (.int .i64 0)) = .lit (.int .i64 0))
theorem isKeyT (x:Th):WideAt.IsKeyLit (kT x):=by unfold kT;trivial
theorem SeenD.nil {t:Tst} : SeenD t 0 (.map []):=fun x _ _ _=>⟨fun i y hi=>absurd hi (Nat.not_lt_zero i),fun _=>rfl⟩
theorem SeenD.put {t:Tst} {k:Nat} {D:DataW Unit} {x:Ini} (h:SeenD t k D) (hm:IsMap D) (hx:t.init[k]? = some x) (hk:k<1024) (w1:I64 x.thread) (w2:I64 x.reg) (w3:x.loc.length≤9223372036854775807) :
  SeenD t (k+1) (D.put (kT (keyI x)) (.lit (.int .i64 ((k:Int)+1)))):=by
 intro z z1 z2 z3
 obtain ⟨h1,h2⟩:=h z z1 z2 z3
 by_cases he:keyI x=z
 ·subst he
  refine ⟨fun i y hi hy e=>⟨(k:Int)+1,by omega,by omega,by rw [atKey_put_same hm (isKeyT _)]⟩,fun hn=>absurd rfl (hn k x (by omega) hx)⟩
 ·have hne:kT z≠kT (keyI x):=fun e=>he (kT_inj w1 w2 w3 z1 z2 z3 e.symm)
  refine ⟨fun i y hi hy e=>?_,fun hn=>?_⟩
  ·rw [atKey_put_other hne]
   rcases Nat.lt_succ_iff_lt_or_eq.1 hi with h3|h3
   ·exact h1 i y h3 hy e
   ·subst h3;rw [hx] at hy;cases hy;exact absurd e he
  ·rw [atKey_put_other hne]
   exact h2 fun i y hi hy=>hn i y (by omega) hy
def Seen (w:World) (b n:Nat) (D:DataW Unit):Prop:=w.ownsMap Tryz.prog 32 (plainElem (H:=Unit) Tryz.prog 3) b n D
theorem Seen.below {w w':World} {b n:Nat} {D:DataW Unit} (h:Seen w b n D) (hb:Below w.heap.size w w'):Seen w' b n D :=
 World.ownsMap.kept h ⟨hb.os,hb.tape,hb.output,hb.size,fun k hk _=>hb.block k hk⟩ (row:=none) (by simp)
theorem zeroN (w:World):(zeroValue 3).run Tryz.prog w = .ok (.int .i64 0) w:=by kernel_rfl
end Go.Proofs.YthaibjefnclkjaaGreatDoor
namespace Go.Proofs.YthaibjefnclkjaaGreatDoor
open Go.RowKit Go.Sort Go.Maps Go.WideMaps
theorem fileBegun (t : Tst) (hcn : t.code.length ≤ 1000) (w : World) (h : TsIn w t) : Calls Tryz.prog 47 #[vT t] w (Ret w (.int .i64 (begunE t))) := by
  have A := al w (mkT t)
  have b0 := BxT.new w t
  have HI := hid (h.keep A)
  have HA := hid A
  have hil := h.init.len
  by_cases hn : 1024 < t.init.length
  · rw [begunE_long hn]
    obtain ⟨c0, c1, c2, c3, c4, c5, c6, c7, c8, c9, c10, c11⟩ := b0.cells
    clear h A
    go_enter Tryz.func47, Tryz.ntmps47
    go_wp2_with fail
    go_ret
    exact ⟨rfl, HA.out⟩
  · have h1024 : t.init.length ≤ 1024 := by omega
    have HNN := hid hn
    have hmm := @run_makeMap Tryz.prog
    clear hn h A
    go_enter Tryz.func47, Tryz.ntmps47
    go_upto_region 1 with (fail)
    generalize w.alloc (mkT t) = W1 at *
    obtain ⟨c0, c1, c2, c3, c4, c5, c6, c7, c8, c9, c10, c11⟩ := b0.cells
    go_upto_region 4 with (fail)
    have hM : Seen (W1.alloc (.map #[] 0)) W1.heap.size 0 (.map []) := World.ownsMap_made _ _ _ _
    have E0 := al W1 (.map #[] 0)
    have hlt0 : W1.heap.size < (W1.alloc (.map #[] 0)).heap.size := by simp
    generalize W1.alloc (.map #[] 0) = W2 at *
    obtain ⟨mb, hmb⟩ : ∃ mb, W1.heap.size = mb := ⟨_, rfl⟩
    rw [hmb] at hM ⊢
    clear c0 c1 c2 c3 c4 c5 c6 c7 c8 c9 c10 c11
    obtain ⟨c0, c1, c2, c3, c4, c5, c6, c7, c8, c9, c10, c11⟩ := (b0.below E0).cells
    have HMB := hid hmb
    clear hmb hlt0
    go_wp2_with fail
    clear c0 c1 c2 c3 c4 c5 c6 c7 c8 c9 c10 c11
    go_loopw [15] (fun i wr => ∃ (k : Nat) (D : DataW Unit), k ≤ t.init.length ∧ i = .int .i64 k ∧ Below W1.heap.size W1 wr ∧ Seen wr mb k D ∧ Hid (FirstK t k ∧ ApartK t k ∧ SeenD t k D)) (fun i _ => t.init.length - (intOf i).toNat)
    case atStart => exact ⟨0, .map [], by omega, rfl, E0, hM, fun j x hj => absurd hj (Nat.not_lt_zero j), fun i j x y _ hj => absurd hj (Nat.not_lt_zero j), SeenD.nil⟩
    case round =>
      clear E0 hM
      obtain ⟨k, D, hk, rfl, E, hM, HK⟩ := hrel
      by_cases hlt : k < t.init.length
      · obtain ⟨x, hx⟩ : ∃ x, t.init[k]? = some x := ⟨_, List.getElem?_eq_getElem hlt⟩
        obtain ⟨p0, p1, p2, p3, p4⟩ := (HI.out.init.below E).ini hx
        have ix := HI.out.init.idx inil cIni_len k hlt t.ic
        have hxl := HI.out.locs x (List.mem_of_getElem? hx)
        have hxw := HI.out.wide x (List.mem_of_getElem? hx)
        have HX := hid hx
        have HXW := hid (And.intro hxl hxw)
        have HKY := hid (keyT' (keyI x) hxw.1 hxw.2 hxl.1)
        have FS := hid (fun w => fileFirst t x hxl.1 hxl.2 hcn w)
        obtain ⟨f, hf⟩ : ∃ f, firstB t.arch t.code.length x = f := ⟨_, rfl⟩
        rw [hf] at FS
        have HF := hid hf
        clear hx hf hxl hxw
        go_upto_region 8 with (fail)
        have A3 := al wr (mkIni x)
        have A4 := bel_alloc A3 (mkTh ⟨x.thread, x.reg, x.loc⟩)
        have x0 : BxL (wr.alloc (mkIni x)) wr.heap.size (cIni x) := BxL.new _ _ _
        have x0 := x0.below (al (wr.alloc (mkIni x)) (mkTh ⟨x.thread, x.reg, x.loc⟩))
        have y0 : BxL ((wr.alloc (mkIni x)).alloc (mkTh ⟨x.thread, x.reg, x.loc⟩)) (wr.alloc (mkIni x)).heap.size (cTh ⟨x.thread, x.reg, x.loc⟩) := BxL.new _ _ _
        rw [show (wr.alloc (mkIni x)).heap.size = wr.heap.size + 1 by simp] at y0
        generalize (wr.alloc (mkIni x)).alloc (mkTh ⟨x.thread, x.reg, x.loc⟩) = W5 at *
        have E := E.trans (A4.mono E.size)
        have hM := hM.below A4
        clear p0 p1 p2 p3 p4 ix A3 A4
        obtain ⟨c0, c1, c2, c3, c4, c5, c6, c7, c8, c9, c10, c11⟩ := (b0.below E).cells
        have i0 := x0.get 0 _ rfl; have i1 := x0.get 1 _ rfl; have i2 := x0.get 2 _ rfl; have i3 := x0.get 3 _ rfl; have i4 := x0.get 4 _ rfl
        have j0 := y0.get 0 _ rfl; have j1 := y0.get 1 _ rfl; have j2 := y0.get 2 _ rfl
        go_wp2_with (at_lookup; go_loud (refine wpList_lookup_own_int _ rfl _ _ 109 rfl 32 3 .i64 lawT Tryz.underlying109 Tryz.underlying3 (zeroN _) mb k D rfl hM _ _ rfl HKY.out ?_))
        intro cc hat hwf
        have HAT := hid hat
        clear hat hwf
        by_cases hdup : ∃ (i : Nat) (y : Ini), i < k ∧ t.init[i]? = some y ∧ keyI y = keyI x
        · have hc : 0 < cc := by
            obtain ⟨i, y, h1, h2, h3⟩ := hdup
            obtain ⟨c, hc, -, h4⟩ := (HK.out.2.2 (keyI x) HXW.out.2.1 HXW.out.2.2 HXW.out.1.1).1 i y h1 h2 h3
            have h5 := HAT.out
            rw [h4] at h5; cases h5; exact hc
          have HZ := hid (show begunE t = 130 by
            obtain ⟨i, y, h1, h2, h3⟩ := hdup
            exact begunE_twice HNN.out h1 h2 HX.out h3)
          have zc : decide (0 < cc) = true := decide_eq_true hc
          clear hdup
          go_wp2_with fail
          go_ret
          rw [HZ.out]
          exact ⟨rfl, HA.out.trans (E.mono HA.out.size)⟩
        · have hc : cc = 0 := by
            have h4 := (HK.out.2.2 (keyI x) HXW.out.2.1 HXW.out.2.2 HXW.out.1.1).2 (fun i y h1 h2 h3 => hdup ⟨i, y, h1, h2, h3⟩)
            have h5 := HAT.out
            rw [h4] at h5; cases h5; rfl
          subst hc
          have HND := hid hdup
          clear hdup HAT
          go_wp2_with fail
          refine (FS.out _).mono ?_
          rintro e w6 ⟨rfl, E6⟩
          have E := E.trans (E6.mono E.size)
          have hM := hM.below E6
          have x0 := x0.below E6
          have y0 := y0.below E6
          clear c0 c1 c2 c3 c4 c5 c6 c7 c8 c9 c10 c11 i0 i1 i2 i3 i4 j0 j1 j2 E6 FS
          have j0 := y0.get 0 _ rfl; have j1 := y0.get 1 _ rfl; have j2 := y0.get 2 _ rfl
          cases f with
          | false =>
            have HZ := hid (begunE_first HNN.out HX.out HF.out)
            go_wp2_with fail
            go_ret
            rw [HZ.out]
            exact ⟨rfl, HA.out.trans (E.mono HA.out.size)⟩
          | true =>
            have HK2 := hid (And.intro (HK.out.1.snoc HX.out HF.out) (And.intro (HK.out.2.1.snoc HX.out (fun i y h1 h2 h3 => HND.out ⟨i, y, h1, h2, h3⟩)) (HK.out.2.2.put (World.ownsMap.isMap hM) HX.out (by omega) HXW.out.2.1 HXW.out.2.2 HXW.out.1.1)))
            clear HK
            go_wp2_with (at_mapUpdate; go_loud (refine wpList_mapUpdate_own _ rfl _ _ _ 109 rfl 32 3 lawT Tryz.underlying109 _ mb k D rfl hM (by unfold maxLen; omega) _ _ _ rfl rfl HKY.out _ [] (plainElem_int Tryz.underlying3 (WalkArith.wf_i64 (by omega))) ?_))
            intro w7 hM7 hg7
            have hM7 : Seen w7 mb (k + 1) _ := hM7
            have E7 : Below W1.heap.size W1 w7 := E.grown hg7 E.size (by intro q hq; cases hq; have := HMB.out; omega)
            clear hM hg7 E j0 j1 j2 x0 y0
            go_wp2_with fail
            go_roundw
            case rel => exact ⟨k + 1, _, by omega, by go_num, E7, hM7, HK2⟩
            case measure => simp [intOf]; omega
      · obtain rfl : k = t.init.length := by omega
        have HZ := hid (begunE_ok HNN.out HK.out.1 HK.out.2.1)
        go_wp2_with fail
        go_ret
        rw [HZ.out]
        exact ⟨rfl, HA.out.trans (E.mono HA.out.size)⟩
end Go.Proofs.YthaibjefnclkjaaGreatDoor

/- What ReadBackP leans on, part 38. -/
import Derived.Test.YtkbbgjloifmmbaaGreatDoorRb37
import Derived.Test.YtkbbgjloifmmbaaGreatDoorRb25
set_option linter.unusedVariables false
set_option maxRecDepth 100000
set_option maxHeartbeats 12800000
namespace Go.Proofs.YtkbbgjloifmmbaaGreatDoor
open _root_.Go.Proofs.Tryz
open _root_.List renaming mem_map_of_mem->aqk,any_eq_true->apW
open _root_.And renaming intro->aov
open _root_.Go.Calls renaming regrown_of->an1
open _root_.Go.Program renaming fieldsOf->aql
open Go.RowKit Go.Sort
theorem aba(t:ak)(ha:aH t.af=true)(w:World)(h:dw w t):Calls prog 69 #[vT t] w (ax w (.int .i64 (cg t))):=by
 have:t.af=1\/t.af=2:=by unfold aH at ha;simpa using ha
 rcases this with h1|h1
 ·exact abb t h1 w h
 ·exact abc t h1 w h
theorem aaP(l:Tx):((tx (Lib.trimB l 32)).toList==(tx l).toList)=oU l:=by
 rw[jG,Bool.eq_iff_iff,beq_iff_eq];exact akH l
theorem Pg(t:ak)(w:World)(h:dw w t):Calls prog 25 #[vT t] w (ax w (.int .i64 (bI t))):=by
 have A:=al w (bC t);have b0:=eG.new w t;have HI:=hid (h.keep A);have HA:=hid A;obtain⟨ab,hab⟩: ∃ab,aH t.af=ab:=⟨_,rfl⟩;have CA:=hid (show ∀w,Calls prog 66 #[.int .i64 t.af] w fun e w'=>e= .returned (.bool ab)/\w=w' from fun w=>hab▸abf t.af w);obtain⟨tb,htb⟩: ∃tb,mK 33 t.name=tb:=⟨_,rfl⟩;have CT:=hid (show ∀w,Calls prog 67 #[.string (tx t.name),.int .u8 33] w fun e w'=>e= .returned (.bool tb)/\w=w' from fun w=>htb▸Pk 33 (by omega) (by omega) t.name h.name w);obtain⟨cb,hcb⟩: ∃cb,mK 32 t.aC=cb:=⟨_,rfl⟩;have CC:=hid (show ∀w,Calls prog 67 #[.string (tx t.aC),.int .u8 32] w fun e w'=>e= .returned (.bool cb)/\w=w' from fun w=>hcb▸Pk 32 (by omega) (by omega) t.aC h.aC w);have CF:=hid (fun w=>akP t.aC h.aC w);obtain⟨fb,IV⟩: ∃fb,oU t.aC=fb:=⟨_,rfl⟩;have zf:((tx (Lib.trimB t.aC 32)).toList==(tx t.aC).toList)=fb:=by rw[aaP,IV]
 have hs1:(tx t.name).size=t.name.length:=aP _;have hs2:(tx t.aC).size=t.aC.length:=aP _;have jt:=h.name;have bN:=h.aC;have HB:=hid hab;have sP:=hid (show eW t.name=(decide (1<=t.name.length)&&(decide (t.name.length<=1024)&&tb)) by unfold eW;rw[htb]);have Cw:=hid (show eY t.aC=(decide (t.aC.length<=262144)&&(cb&&fb)) by unfold eY;rw[hcb,IV]);clear h A hab htb hcb IV;cases ab with
 | false=>
   have HZ:=hid (Lo HB.out);clear hs1 hs2 zf;go_in
   go_upto_region 1 with(fail)
   generalize w.alloc (bC t)=W1 at*;obtain⟨c0,c1,c2,c3,c4,c5,c6,c7,c8,c9,c10,c11⟩:=b0.cells
   go_wp2_with (go_at_call 66;refine(CA.out _).mono ?_;rintro e w' ⟨rfl,rfl⟩)
   go_ret;rw[HZ.out];exact⟨rfl,HA.out⟩
 | true=>
   obtain⟨n1,nT⟩: ∃n,t.name.length=n:=⟨_,rfl⟩;rw[nT]at hs1 sP jt;clear nT
   by_cases hT:n1<1\/1024<n1\/tb=false
   ·have HZ:=hid (yZ HB.out (show _=false by
     rw[sP.out];rcases hT with h|h|h
     ·rw[decide_eq_false (by omega)];rfl
     ·rw[decide_eq_false (show ¬n1<=1024 by omega)];simp
     ·rw[h];simp))
    clear sP Cw
    have hT3:n1<1\/1024<n1\/(1<=n1/\n1<=1024/\tb=false):=by
     rcases hT with h|h|h
     ·exact .inl h
     ·exact .inr (.inl h)
     ·by_cases h1:n1<1
      ·exact .inl h1
      ·by_cases h2:1024<n1
       ·exact .inr (.inl h2)
       ·exact .inr (.inr ⟨by omega,by omega,h⟩)
    clear hT hs2 zf;go_in
    go_upto_region 1 with(fail)
    generalize w.alloc (bC t)=W1 at*;obtain⟨c0,c1,c2,c3,c4,c5,c6,c7,c8,c9,c10,c11⟩:=b0.cells;rcases hT3 with h|h|⟨h,h',h''⟩
    rotate_left 2
    ·subst h''
     go_wp2_with (first|(go_at_call 66;refine(CA.out _).mono ?_;rintro e w' ⟨rfl,rfl⟩)|(go_at_call 67;refine(CT.out _).mono ?_;rintro e w' ⟨rfl,rfl⟩))
     go_ret;rw[HZ.out];exact⟨rfl,HA.out⟩
    all_goals
     go_wp2_with (go_at_call 66;refine(CA.out _).mono ?_;rintro e w' ⟨rfl,rfl⟩)
     go_ret;rw[HZ.out];exact⟨rfl,HA.out⟩
   ·have h11:1<=n1:=by omega
    have h12:n1<=1024:=by omega
    obtain rfl:tb=true:=by cases tb with|true=>rfl|false=>exact absurd (.inr (.inr rfl)) hT
    have Mq:=hid (show eW t.name=true by rw[sP.out,decide_eq_true h11,decide_eq_true h12];rfl);clear hT sP;obtain⟨n2,hn2⟩: ∃n,t.aC.length=n:=⟨_,rfl⟩;rw[hn2]at hs2 Cw bN;clear hn2;obtain⟨ok,hok⟩: ∃ok,(decide (n2<=262144)&&(cb&&fb))=ok:=⟨_,rfl⟩;have oD:=hid (show(eW t.name&&eY t.aC)=ok by rw[Mq.out,Cw.out,hok];rfl);clear Mq Cw;go_in
    go_upto_region 1 with(fail)
    generalize w.alloc (bC t)=W1 at*;obtain⟨c0,c1,c2,c3,c4,c5,c6,c7,c8,c9,c10,c11⟩:=b0.cells
    go_upto_region 5 with(first|(go_at_call 66;refine(CA.out _).mono ?_;rintro e w' ⟨rfl,rfl⟩)|(go_at_call 67;refine(CT.out _).mono ?_;rintro e w' ⟨rfl,rfl⟩))
    have cA:=fun(d:Nat) (os:Array Obj)=>an1 (kB ((CC.out (grow (redrawn W1 d) os)).mono fun e w' hh=>⟨hh.1,by rw[<-hh.2];exact Below.refl _ _⟩))
    have cB:=fun(d:Nat) (os:Array Obj)=>an1 (kB (CF.out (grow (redrawn W1 d) os)))
    have hsz:(n2:Int)=t.aC.length->True:=fun _=>trivial
    have Y6:=cell_regrown c2;clear hsz
    by_cases alV:262144<n2
    ·have d2:decide (262144<(n2:Int))=true:=by simp;omega
     have HZ:=hid (yZ HB.out (show _=false by rw[oD.out,<-hok,decide_eq_false (by omega)];rfl));clear hok;refine wp_region_quiet_below (by kernel_rfl) (by kernel_rfl) ?_
     repeat(go_big_quiet_step (first|exact cA _ _|exact cB _ _))
     refine wpQuiet_nil ?_;intro _ hw';obtain⟨⟨dq,aV⟩,hw''⟩:=hw';subst hw'';have EQ:=below_regrown W1 dq aV;go_wp2_with fail;go_ret;rw[HZ.out];exact⟨rfl,HA.out.trans (EQ.mono HA.out.size)⟩
    ·have abQ:n2<=262144:=by omega
     have d2:decide (262144<(n2:Int))=false:=by simp;omega
     rw[decide_eq_true abQ,Bool.true_and]at hok;cases cb with
     | false=>
       have HZ:=hid (yZ HB.out (show _=false by rw[oD.out,<-hok];rfl));clear hok;refine wp_region_quiet_below (by kernel_rfl) (by kernel_rfl) ?_
       repeat(go_big_quiet_step (first|exact cA _ _|exact cB _ _))
       refine wpQuiet_nil ?_;intro _ hw';obtain⟨⟨dq,aV⟩,hw''⟩:=hw';subst hw'';have EQ:=below_regrown W1 dq aV;go_wp2_with fail;go_ret;rw[HZ.out];exact⟨rfl,HA.out.trans (EQ.mono HA.out.size)⟩
     |true=>
     cases fb with
     | false=>
       have HZ:=hid (yZ HB.out (show _=false by rw[oD.out,<-hok];rfl));clear hok;refine wp_region_quiet_below (by kernel_rfl) (by kernel_rfl) ?_
       repeat(go_big_quiet_step (first|exact cA _ _|exact cB _ _))
       refine wpQuiet_nil ?_;intro _ hw';obtain⟨⟨dq,aV⟩,hw''⟩:=hw';subst hw'';have EQ:=below_regrown W1 dq aV;go_wp2_with fail;go_ret;rw[HZ.out];exact⟨rfl,HA.out.trans (EQ.mono HA.out.size)⟩
     |true=>
     obtain rfl:ok=true:=by rw[<-hok];rfl
     clear hok;refine wp_region_quiet_below (by kernel_rfl) (by kernel_rfl) ?_
     repeat(go_big_quiet_step (first|exact cA _ _|exact cB _ _))
     refine wpQuiet_nil ?_;intro _ hw';obtain⟨⟨dq,aV⟩,hw''⟩:=hw';subst hw'';have E:=below_regrown W1 dq aV;generalize grow (redrawn W1 dq) aV=W5 at*;clear c0 c1 c2 c3 c4 c5 c6 c7 c8 c9 c10 c11 Y6 cA cB zf hs2 CC CF CT CA d2;obtain⟨c0,c1,c2,c3,c4,c5,c6,c7,c8,c9,c10,c11⟩:=(b0.below E).cells;have CO:=aba t HB.out W5 (HI.out.keep E);obtain⟨e1,vz⟩: ∃e1,cg t=e1:=⟨_,rfl⟩;rw[vz]at CO;have CO:=hid CO;have ox:=hid vz;clear vz;go_wp2_with fail;refine CO.out.mono ?_;rintro e w2 ⟨rfl,E2⟩;have E:=E.trans (E2.mono E.size);clear c0 c1 c2 c3 c4 c5 c6 c7 c8 c9 c10 c11 CO E2
     by_cases h1:e1=0
     rotate_left
     ·have z:(e1 != 0)=true:=by simpa using h1
      have HZ:=hid (show bI t=e1 by rw[Lu HB.out oD.out (by rw[ox.out];exact h1),ox.out]);clear h1;go_wp2_with fail;go_ret;rw[HZ.out];exact⟨rfl,HA.out.trans (E.mono HA.out.size)⟩
     subst h1;obtain⟨k1,k2,k3⟩:=Dr ox.out;have Ge:=hid k3;obtain⟨c0,c1,c2,c3,c4,c5,c6,c7,c8,c9,c10,c11⟩:=(b0.below E).cells;have CO:=aa8 t (by omega) w2 (HI.out.keep E);obtain⟨e2,kj⟩: ∃e2,dW t=e2:=⟨_,rfl⟩;rw[kj]at CO;have CO:=hid CO;have jq:=hid kj;clear kj k3;go_wp2_with fail;refine CO.out.mono ?_;rintro e w3 ⟨rfl,E3⟩;have E:=E.trans (E3.mono E.size);clear c0 c1 c2 c3 c4 c5 c6 c7 c8 c9 c10 c11 CO E3
     by_cases h2:e2=0
     rotate_left
     ·have z:(e2 != 0)=true:=by simpa using h2
      have HZ:=hid (show bI t=e2 by rw[Lr HB.out oD.out ox.out (by rw[jq.out];exact h2),jq.out]);clear h2;go_wp2_with fail;go_ret;rw[HZ.out];exact⟨rfl,HA.out.trans (E.mono HA.out.size)⟩
     subst h2;have k4:=GI jq.out;have HT:=hid (Lp HB.out oD.out ox.out jq.out);obtain⟨c0,c1,c2,c3,c4,c5,c6,c7,c8,c9,c10,c11⟩:=(b0.below E).cells;have CO:=Ah t.af t.q t.node w3 (HI.out.keep E).node;obtain⟨e3,vA⟩: ∃e3,bF t.af t.q t.node=e3:=⟨_,rfl⟩;rw[vA]at CO;have CO:=hid CO;have mg:=hid (show iA t=if e3≠0 then e3 else if(jM t).any fun x=>decide ((t.code.length:Int)<=x.thread)then 80 else 0 by unfold iA;rw[vA]);clear vA;go_wp2_with fail;refine CO.out.mono ?_;rintro e w4 ⟨rfl,E4⟩;have E:=E.trans (E4.mono E.size);clear c0 c1 c2 c3 c4 c5 c6 c7 c8 c9 c10 c11 CO E4
     by_cases h3:e3=0
     rotate_left
     ·have z:(e3 != 0)=true:=by simpa using h3
      have HZ:=hid (show bI t=e3 by
       have:iA t=e3:=by rw[mg.out,if_pos h3]
       rw[HT.out,this,if_pos h3])
      clear h3;go_wp2_with fail;go_ret;rw[HZ.out];exact⟨rfl,HA.out.trans (E.mono HA.out.size)⟩
     subst h3;have mg:=hid (show iA t=if(jM t).any fun x=>decide ((t.code.length:Int)<=x.thread)then 80 else 0 by rw[mg.out,if_neg (by omega)]);obtain⟨c0,c1,c2,c3,c4,c5,c6,c7,c8,c9,c10,c11⟩:=(b0.below E).cells;have TH:=hid (Pf t w4 (HI.out.node.keep E));have htl:(jM t).length<=1024:=Fw t.q t.node;obtain⟨T,hT⟩: ∃T,jM t=T:=⟨_,rfl⟩;rw[hT]at TH htl mg;clear hT;go_wp2_with fail;refine TH.out.mono ?_;rintro e w5 ⟨a2,kJ,rfl,o2,E5⟩;have els:=(Own.els o2 de (by omega) (by omega)).1;have E:=E.trans (E5.mono E.size);clear c0 c1 c2 c3 c4 c5 c6 c7 c8 c9 c10 c11 o2 E5 TH;go_wp2_with fail
     go_loopw [67] (fun i wr=> ∃j:Nat,j<=T.length/\i= .int .i64 j/\Below W1.heap.size W1 wr/\bf jP wr a2 T/\Hid (∀(m:Nat) (x:Th),m<j->T[m]? =some x->x.thread<t.code.length)) (fun i _=>T.length-(intOf i).toNat)
     case atStart=>exact⟨0,by omega,rfl,E,els,fun m x hm=>absurd hm (Nat.not_lt_zero m)⟩
     case round=>
      clear E els;obtain⟨j,hj,rfl,E,els,HJ⟩:=hrel
      by_cases hjt:j<T.length
      ·obtain⟨x,hx⟩: ∃x,T[j]? =some x:=⟨_,List.getElem?_eq_getElem hjt⟩
       obtain⟨q0,q1,q2⟩:=els.th hx;have ix:=els.idx iH de j hjt kJ;have HX:=hid hx;clear hx
       go_upto_region 19 with(fail)
       have A3:=al wr (jW x);have x0:aG (wr.alloc (jW x)) wr.heap.size (jP x):=aG.new _ _ _;generalize wr.alloc (jW x)=W7 at*;have E:=E.trans (A3.mono E.size);have els:=els.below A3;have i0:=x0.get 0 _ rfl;clear q0 q1 q2 ix A3;obtain⟨c0,c1,c2,c3,c4,c5,c6,c7,c8,c9,c10,c11⟩:=(b0.below E).cells
       by_cases tQ:(t.code.length:Int)<=x.thread
       ·have HZ:=hid (show bI t=80 by
         have h9:iA t=80:=by rw[mg.out,if_pos];rw[apW];exact⟨x,List.mem_of_getElem? HX.out,by simpa using tQ⟩
         rw[HT.out,h9];simp)
        go_wp2_with fail;go_ret;rw[HZ.out];exact⟨rfl,HA.out.trans (E.mono HA.out.size)⟩
       ·have Jh:x.thread<t.code.length:=by omega
        have fc: ∀(m:Nat) (y:Th),m<j+1->T[m]? =some y->y.thread<t.code.length:=fun m y hm hy=>by
         rcases Nat.lt_succ_iff_lt_or_eq.1 hm with h|h
         ·exact HJ.out m y h hy
         ·subst h;rw[HX.out]at hy;cases hy;exact Jh
        have fc:=hid fc;clear HJ;go_wp2_with fail
        go_roundw
        case rel=>exact⟨j+1,by omega,by go_num,E,els,fc⟩
        case measure=>simp[intOf];omega
      ·obtain rfl:j=T.length:=by omega
       have XV:=hid (show iA t=0 by
        rw[mg.out,if_neg];rw[apW];rintro⟨x,hx,h2⟩;obtain⟨k,hk⟩:=List.mem_iff_getElem?.1 hx;have:=HJ.out k x (List.getElem?_eq_some_iff.1 hk).1 hk;simp at h2;omega)
       have en:=hid (show bI t=if 64<(gH t).length then 2 else 0 by rw[HT.out,XV.out,if_neg (by omega)]);obtain⟨c0,c1,c2,c3,c4,c5,c6,c7,c8,c9,c10,c11⟩:=(b0.below E).cells;have LO:=hid (fileNames t k4 k2 Ge.out wr (HI.out.keep E));clear hjt hj;go_wp2_with fail;refine LO.out.mono ?_;rintro e w8 ⟨a8,c8',rfl,t8,E8⟩;have E:=E.trans (E8.mono E.size);have hcap:=t8.len;clear c0 c1 c2 c3 c4 c5 c6 c7 c8 c9 c10 c11 LO E8 t8
       by_cases Av:64<(gH t).length
       ·have HZ:=hid (show bI t=2 by rw[en.out,if_pos Av])
        go_wp2_with fail;go_ret;rw[HZ.out];exact⟨rfl,HA.out.trans (E.mono HA.out.size)⟩
       ·have HZ:=hid (show bI t=0 by rw[en.out,if_neg Av])
        go_wp2_with fail;go_ret;rw[HZ.out];exact⟨rfl,HA.out.trans (E.mono HA.out.size)⟩
section
variable {w1 w:World} {s:Tx} {k rb:Nat} {t:ak}
theorem ahR(h:w1.heap.size=rb)(R:bQ w1 w s k t):Calls prog 27 #[.pointer (some ⟨rb,0,none⟩)] w (MH (gE s.length (s.drop k)) w1 w s t):=by subst h;exact ah5 R
theorem ahQ(h:w1.heap.size=rb)(R:bQ w1 w s k t)(rS:t.aC=[]):Calls prog 28 #[.pointer (some ⟨rb,0,none⟩)] w (MF (eP s.length (s.drop k)) w1 w s t):=by subst h;exact ah4 R rS
theorem ahS(h:w1.heap.size=rb)(R:bQ w1 w s k t)(ha:aH t.af=true)(h0:t.ia=none/\t.ic=0/\t.init=[]):Calls prog 29 #[.pointer (some ⟨rb,0,none⟩)] w (Gt (fD t.af s.length (s.drop k)) w1 w s t):=by subst h;exact ah7 R ha h0
theorem ahW(h:w1.heap.size=rb)(R:bQ w1 w s k t)(ha:aH t.af=true)(h0:t.ca=none/\t.cc=0/\t.code=[]):Calls prog 30 #[.pointer (some ⟨rb,0,none⟩)] w (De (gu t.af s.length (s.drop k)) w1 w s t):=by subst h;exact aib R ha h0
theorem ahP(h:w1.heap.size=rb)(R:bQ w1 w s k t)(ha:aH t.af=true):Calls prog 31 #[.pointer (some ⟨rb,0,none⟩)] w (Dd (kK t.af s.length (s.drop k)) w1 w s k t):=by subst h;exact ahO R ha
theorem bQ.cells(h:bQ w1 w s k t)(hr:w1.heap.size=rb):w.cell? ⟨rb,2,none⟩=some (.int .i64 t.af)/\w.cell? ⟨rb,3,none⟩=some (.string (tx t.name))/\w.cell? ⟨rb,4,none⟩=some (.string (tx t.aC))/\w.cell? ⟨rb,5,none⟩=some (.slice t.ia t.init.length t.ic)/\w.cell? ⟨rb,6,none⟩=some (.slice t.ca t.code.length t.cc)/\w.cell? ⟨rb,7,none⟩=some (.int .i64 t.q)/\w.cell? ⟨rb,8,none⟩=some (.int .i64 t.node.kind)/\w.cell? ⟨rb,9,none⟩=some (.int .i64 t.node.th.thread)/\w.cell? ⟨rb,10,none⟩=some (.int .i64 t.node.th.au)/\w.cell? ⟨rb,11,none⟩=some (.string (tx t.node.th.loc))/\w.cell? ⟨rb,12,none⟩=some (.int .i64 t.node.val)/\w.cell? ⟨rb,13,none⟩=some (.slice t.node.a t.node.kids.length t.node.c):=by
 subst hr;exact⟨h.bx.get 2 _ rfl,h.bx.get 3 _ rfl,h.bx.get 4 _ rfl,h.bx.get 5 _ rfl,h.bx.get 6 _ rfl,h.bx.get 7 _ rfl,h.bx.get 8 _ rfl,h.bx.get 9 _ rfl,h.bx.get 10 _ rfl,h.bx.get 11 _ rfl,h.bx.get 12 _ rfl,h.bx.get 13 _ rfl⟩
end
theorem LM(w:World):(y9 w).heap.size=w.heap.size+1+1+1:=by simp
theorem afF{s:Tx}(h:262144<s.length):gL s= .error (2,0):=by unfold gL;rw[if_pos h]
theorem ahU{s:Tx}(hl:262144<s.length)(hm:s.length<=9223372036854775807)(w:World):Calls prog 9 #[.string (tx s)] w (zQ (gL s) w):=by
 rw[afF hl];have hsz:(tx s).size=s.length:=aP s;generalize tx s=u at*;have z:decide ((262144:Int)<(u.size:Int))=true:=by simp;omega
 have hm2:u.size<=9223372036854775807:=by omega
 clear hsz hl hm;have ye: ∀(fn:Fn) (first cap:Array Value) (w:World),(Instr.makeFunc fn first cap).run prog w= .ok (.func fn first cap) w:=fun _ _ _ _=>rfl
 go_enter_defers func9,ntmps9
 go_wp2_with fail;refine⟨_,by simp[results,results9,go_sem];rfl,?_⟩;exact⟨aN,rfl⟩
theorem ahV{s:Tx}(hl:s.length<=262144)(w:World)(g:Gl w):Calls prog 9 #[.string (tx s)] w (zQ (gL s) w):=by
 obtain⟨Z,hZ⟩: ∃Z,gL s=Z:=⟨_,rfl⟩;rw[hZ];have HZ:=hid hZ;clear hZ;have HL:=hid hl;have H3:=hid (LM w);have RN:=hid (bQ.new (w:=y9 w) hl (g.below (GJ w)));obtain⟨rb,hrb⟩: ∃rb,w.heap.size+1+1+1=rb:=⟨_,rfl⟩;rw[hrb]at H3;have HD:=hid (ahR H3.out RN.out);rw[List.drop_zero]at HD;have hsz:(tx s).size=s.length:=aP s;generalize hu:tx s=u at*;have z:decide ((262144:Int)<(u.size:Int))=false:=by simp;omega
 have hm2:u.size<=9223372036854775807:=by omega
 have Gh:=hid hrb;clear hsz hl g hrb RN;have ye: ∀(fn:Fn) (first cap:Array Value) (w:World),(Instr.makeFunc fn first cap).run prog w= .ok (.func fn first cap) w:=fun _ _ _ _=>rfl
 go_enter_defers func9,ntmps9
 go_wp2_with fail;rw[Gh.out];subst hu;refine HD.out.mono ?_;rintro e w4 hq;obtain⟨S,h⟩:=hq;rcases h with⟨er,k,h1,rfl⟩|⟨a,n,r1,k1,h1,qh,rfl,T4,R4⟩;have HE:=hid (Bt HL.out (YW h1));clear h1;unfold oM
 rotate_left
 have FX:=hid (Qp h1).1;have H1:=hid h1;clear h1;have CY:=hid (ahQ H3.out R4 rfl);rw[qh]at CY;have T4:=hid T4;clear S HD;go_wp2_with fail;refine CY.out.mono ?_;rintro e w5 hq;obtain⟨S,h⟩:=hq;rcases h with⟨er,k,h2,rfl⟩|⟨c,r2,k2,h2,hr2,rfl,T5,R5⟩;have HE:=hid (Bt HL.out (YX H1.out h2));clear h2;unfold oM
 rotate_left
 have H2:=hid h2;clear h2;have CI:=hid (ahS H3.out R5 FX.out ⟨rfl,rfl,rfl⟩);have CI:Hid (Calls prog _ _ w5 (Gt (fD a s.length (s.drop k2)) _ _ _ _)):=CI;rw[hr2]at CI;have hs5:=R5.lt;rw[H3.out]at hs5;have T5:=hid T5;clear S CY R4 qh;go_wp2_with fail;refine CI.out.mono ?_;rintro e w6 hq;obtain⟨S,h⟩:=hq;rcases h with⟨er,k,h3,rfl⟩|⟨i,r3,k3,ia,ic,h3,QI,rfl,T6,R6,OI⟩;have HE:=hid (Bt HL.out (YY H1.out H2.out h3));clear h3;unfold oM
 rotate_left
 have Ct:=hid h3;clear h3;have CT:=hid (ahW H3.out R6 FX.out ⟨rfl,rfl,rfl⟩);have CT:Hid (Calls prog _ _ w6 (De (gu a s.length (s.drop k3)) _ _ _ _)):=CT;rw[QI]at CT;have hs6:=R6.lt;rw[H3.out]at hs6;have OI:=hid OI;clear S CI R5 hr2 T6;go_wp2_with fail;refine CT.out.mono ?_;rintro e w7 hq;unfold De at hq;rcases hq with⟨S,er,k,h4,rfl⟩|⟨C,r4,k4,ca,cn,h4,QJ,rfl,T7,R7,OC⟩;have HE:=hid (Bt HL.out (YZ H1.out H2.out Ct.out h4));clear h4;unfold oM
 rotate_left
 have H4:=hid h4;clear h4;have CC:=hid (ahP H3.out R7 FX.out);have CC:Hid (Calls prog _ _ w7 (Dd (kK a s.length (s.drop k4)) _ _ _ _ _)):=CC;rw[QJ]at CC;have Je:=R7.lt;rw[H3.out]at Je;have OI:=hid (Own.st OI.out T7 (by rw[H3.out];omega));have OC:=hid OC;clear CT R6 QI T7;go_wp2_with fail;refine CC.out.mono ?_;rintro e w8 hq;unfold Dd at hq;rcases hq with⟨S,er,k,h5,rfl⟩|⟨q,x,y,h5,hy,rfl,T8,R8,ON,hnd⟩;have HE:=hid (Bt HL.out (Y1 H1.out H2.out Ct.out H4.out h5));clear h5;unfold oM
 rotate_left
 have H5:=hid h5;clear h5
 have HB:=hid (show n.length<=262144/\c.length<=262144/\(∀x∈i,uW x)/\i.length<=1000000/\(∀D:List Cd,D.map (·.l)=C.map (·.l)-> ∀x∈D,∀i∈x.l,sZ i)/\(∀D:List Cd,D.map (·.l)=C.map (·.l)->D.length<=1000000/\ ∀x∈D,x.l.length<=1000000) by
  have hl:=HL.out;have h1:=H1.out;have h2:=H2.out;have h3:=Ct.out;have h4:=H4.out;have a1:=(Qp h1).2;have a2:=aaQ h2;have a3:=ab3 h1;have a4:=Vb s;rw[<-a3]at a4
  have a5:r2.length<=r1.length:=by
   rcases aaR h2 with⟨e, -⟩|e
   ·rw[e];exact Nat.le_refl _
   ·rw[e];exact Vb _
  have a6:=ac1 h3;have a7:=(ac3 h3).2.2;obtain⟨b1,b2⟩:=akc h4;have b3:=akf h4;refine⟨by omega,by omega,ac5 h3,by omega,fun C hC x hx=>?_,fun C hC=>⟨?_,fun x hx=>?_⟩⟩
  ·exact b3 x.l (by rw[<-hC];exact aqk hx)
  ·rw[<-hC,List.length_map]at b1;omega
  ·have:=b2 x.l (by rw[<-hC];exact aqk hx);omega)
 have HP:=hid (afH HL.out (Nx.2 ⟨a,n,r1,c,r2,i,r3,_,r4,q,x,H1.out,H2.out,Ct.out,H4.out,H5.out,rfl⟩));obtain⟨er,he⟩: ∃er,bI (sn a n c i (C.map (·.l)) q x)=er:=⟨_,rfl⟩;have Cy:=hid he;clear he;obtain⟨T,hT⟩: ∃T,(⟨a,n,c,ia,ic,i,ca,cn,C,q,y⟩:ak)=T:=⟨_,rfl⟩;have R8:bQ (y9 w) w8 s k4 T:=by rw[<-hT];exact R8
 have OI:=Own.st OI.out T8 (by rw[H3.out];omega);have OC:=OC.out.step T8 (by rw[H3.out];omega)
 have OT:j7 w8 (w.heap.size+3) T:=by
  have hrb:=Gh.out;rw[<-hT];exact⟨HB.out.1,HB.out.2.1,HB.out.2.2.1,HB.out.2.2.2.1,Own.mono OI (by omega),HB.out.2.2.2.2.1 C rfl,HB.out.2.2.2.2.2 C rfl,OC.mono (by omega),ON.mono (by omega),hnd⟩
 have DS:lA T=sn a n c i (C.map (·.l)) q x:=by rw[<-hT,<-hy];rfl
 have hE:bI T=er:=by rw[<-Wj,DS];exact Cy.out
 have CK:=hid (Pg T w8 OT.vO);rw[hE]at CK;have DS:=hid DS;have OT:=hid OT;have R8:=hid R8;clear CC R7 QJ OI OC ON hnd T8 hy hE hT;obtain⟨p2,p3,p4,p5,p6,p7,p8,p9,jB,jC,TF,TG⟩:=R8.out.cells H3.out;go_wp2_with fail;refine CK.out.mono ?_;rintro e w9 ⟨rfl,E9⟩;clear p2 p3 p4 p5 p6 p7 p8 p9 jB jC TF TG CK;have R9:=R8.out.below E9;obtain⟨v1,v2,v3,f1,f2,f3⟩:=Wu R9.bG;have B9:=hid ((GJ w).trans (R9.bG.mono (by rw[LM];omega)));have OT:=hid (OT.out.below E9);obtain⟨p2,p3,p4,p5,p6,p7,p8,p9,jB,jC,TF,TG⟩:=R9.cells H3.out;have q0:=v1.get 0 _ rfl;have q1:=v1.get 1 _ rfl;have q2:=v1.get 2 _ rfl;have q3:=v1.get 3 _ rfl;have q4:=v1.get 4 _ rfl;have q5:=v1.get 5 _ rfl;have q6:=v1.get 6 _ rfl;have q7:=v1.get 7 _ rfl;have q8:=v1.get 8 _ rfl;have q9:=v1.get 9 _ rfl;have oa:=v1.get 10 _ rfl;have od:=v1.get 11 _ rfl;have f10:=f1 0;have f11:=f1 1;have f12:=f1 2;have f13:=f1 3;have f14:=f1 4;have f15:=f1 5;have f16:=f1 6;have f17:=f1 7;have f18:=f1 8;have f19:=f1 9;have f1a:=f1 10;have f1b:=f1 11;have f20:=f2 0;have f30:=f3 0;have hne:rb≠w.heap.size:=by have:=Gh.out;omega
 clear E9 R9 R8 v1 f1 f2 f3
 ·by_cases h0:er=0
  ·have HZ:=HZ.out
   rw[HP.out,if_pos (by rw[Cy.out];exact h0)]at HZ;subst HZ;have z0:(er==0)=true:=by rw[h0];rfl
   clear h0;go_wp2_with fail;refine leaves_cons (f:=26) (args:=#[.pointer (some ⟨w.heap.size,0,none⟩),.pointer (some ⟨w.heap.size+1,0,none⟩),.pointer (some ⟨w.heap.size+1+1,0,none⟩)]) (by simp) (by simp[go_sem]) ?_;refine(UX ⟨w.heap.size,0,none⟩ ⟨w.heap.size+1,0,none⟩ ⟨w.heap.size+1+1,0,none⟩ _).mono ?_;rintro e u' w6 ⟨rfl,rfl,rfl⟩;refine⟨.tuple #[vT T,.int .i64 0,.int .i64 0],by simp[results,results9,go_sem,q0,q1,q2,q3,q4,q5,q6,q7,q8,q9,oa,od,v2,v3],?_⟩;exact abr B9.out OT.out DS.out rfl ((aM.refl _ _).put 0 _) ((aM.refl _ _).put 0 _) (((((((((((((aM.refl _ _).put 0 _).put 1 _).put 2 _).put 3 _).put 4 _).put 5 _).put 6 _).put 7 _).put 8 _).put 9 _).put 10 _).put 11 _)
  ·have HZ:=HZ.out
   rw[HP.out,if_neg (by rw[Cy.out];exact h0),Cy.out]at HZ;subst HZ;have z0:(er != 0)=true:=by simpa using h0
   clear h0;go_wp2_with fail;refine leaves_cons (f:=26) (args:=#[.pointer (some ⟨w.heap.size,0,none⟩),.pointer (some ⟨w.heap.size+1,0,none⟩),.pointer (some ⟨w.heap.size+1+1,0,none⟩)]) (by simp) (by simp[go_sem]) ?_;refine(UX ⟨w.heap.size,0,none⟩ ⟨w.heap.size+1,0,none⟩ ⟨w.heap.size+1+1,0,none⟩ _).mono ?_;rintro e u' w6 ⟨rfl,rfl,rfl⟩;refine⟨.tuple #[FO,.int .i64 er,.int .i64 0],by simp[results,results9,go_sem,q0,q1,q2,q3,q4,q5,q6,q7,q8,q9,oa,od,v2,v3],?_⟩;exact abq (k:=0) B9.out rfl ((aM.refl _ _).put 0 _) ((aM.refl _ _).put 0 _) (((((((((((((aM.refl _ _).put 0 _).put 1 _).put 2 _).put 3 _).put 4 _).put 5 _).put 6 _).put 7 _).put 8 _).put 9 _).put 10 _).put 11 _)
 all_goals
  have HZ:=HZ.out;rw[HE.out]at HZ;subst HZ;obtain⟨v1,v2,v3,f1,f2,f3⟩:=Wu S;have B4:Below w.heap.size w _:=(GJ w).trans (S.mono (by rw[LM];omega));clear S;refine leaves_cons (f:=26) (args:=#[.pointer (some ⟨w.heap.size,0,none⟩),.pointer (some ⟨w.heap.size+1,0,none⟩),.pointer (some ⟨w.heap.size+1+1,0,none⟩)]) (by simp) (by simp[go_sem]) ?_;refine(aii w.heap.size (w.heap.size+1) (w.heap.size+1+1) _ _ _ [] _ _ _ rfl v1 v2 v3 f1 (f2 0) (f3 0) (by omega) (by omega) (by omega)).mono ?_;rintro e u' w9 ⟨rfl,rfl,hB,hx,hq,hr⟩;have p0:=hx.get 0 _ rfl;have p1:=hx.get 1 _ rfl;have p2:=hx.get 2 _ rfl;have p3:=hx.get 3 _ rfl;have p4:=hx.get 4 _ rfl;have p5:=hx.get 5 _ rfl;have p6:=hx.get 6 _ rfl;have p7:=hx.get 7 _ rfl;have p8:=hx.get 8 _ rfl;have p9:=hx.get 9 _ rfl;have jB:=hx.get 10 _ rfl;have jC:=hx.get 11 _ rfl;refine⟨.tuple #[FO,.int .i64 er,.int .i64 k],by simp[results,results9,go_sem,p0,p1,p2,p3,p4,p5,p6,p7,p8,p9,jB,jC,hq,hr],?_⟩;exact⟨B4.trans (hB _ (Nat.le_refl _) (by omega) (by omega)),rfl⟩
theorem EV(s:Tx)(hm:s.length<=9223372036854775807)(w:World)(g:Gl w):Calls prog 9 #[.string (tx s)] w (zQ (gL s) w):=by
 rcases Nat.lt_or_ge 262144 s.length with hl|hl
 ·exact ahU hl hm w
 ·exact ahV hl w g
end Go.Proofs.YtkbbgjloifmmbaaGreatDoor
namespace Go.Proofs.YtkbbgjloifmmbaaGreatDoor
open _root_.Go.Proofs.Tryz
open _root_.List renaming mem_map_of_mem->aqk,any_eq_true->apW
open _root_.And renaming intro->aov
open _root_.Go.Calls renaming regrown_of->an1
open _root_.Go.Program renaming fieldsOf->aql
def Fk:Tx:=[88,56,54,32,32,32,83,66,10,34,70,114,101,32,80,111,100,87,82,32,70,114,101,32,80,111,100,87,82,34,10,123,32,120,61,48,59,32,91,121,93,32,61,32,48,32,125,10,80,48,124,80,49,59,10,77,79,86,32,91,120,93,44,36,49,124,77,79,86,32,91,121,93,32,44,32,36,49,59,10,124,59,10,77,79,86,32,69,65,88,44,91,121,93,124,77,79,86,32,69,65,88,44,91,120,93,59,10,101,120,105,115,116,115,32,40,48,58,69,65,88,61,48,32,47,92,10,49,58,69,65,88,61,48,41,10]
def GB:Tx:=[65,82,77,32,83,66]
def GF:Tx:=[88,56,54,32,83,66,10,123,120,61,59,125]
def Tn(p:EP ak):Bool:=match p with
 | .ok t=>(t.name==[83,66])&&((t.code.length==2)&&(((t.code[1]?).map (fun c=>c.l.length)==some 2)&&(t.init.length==2)))
 | .error _=>false
def H6(p:EP ak):Int × Nat:=match p with
 | .ok _=>(0,0)
 | .error x=>x
theorem ajA:Tn (gL Fk)=true:=by decide+kernel
theorem Yv:H6 (gL GB)=(5,0):=by decide+kernel
theorem YF:H6 (gL GF)=(140,8):=by decide+kernel
theorem ajB: ∃t,gL Fk= .ok t/\t.name=[83,66]/\t.code.length=2/\(∃c,t.code[1]? =some c/\c.l.length=2)/\t.init.length=2:=by
 have h:=ajA;cases e:gL Fk with
 |error x=>rw[e]at h;cases h
 | ok t=>
   rw[e]at h;unfold Tn at h;simp only[Bool.and_eq_true,beq_iff_eq]at h;obtain⟨h1,h2,h3,h4⟩:=h;refine⟨t,rfl,h1,h2,?_,h4⟩;cases hc:t.code[1]? with
   |none=>rw[hc]at h3;cases h3
   |some c=>rw[hc]at h3;exact⟨c,rfl,by simpa using h3⟩
theorem Pc{s:Tx}{n:Int}{k:Nat}(h:H6 (gL s)=(n,k))(hn:n≠0):gL s= .error (n,k):=by
 cases e:gL s with
 |error x=>rw[e]at h;exact congrArg _ h
 |ok t=>rw[e]at h;exact absurd (congrArg Prod.fst h).symm hn
theorem Yw:gL GB= .error (5,0):=Pc Yv (by decide)
theorem YG:gL GF= .error (140,8):=Pc YF (by decide)
end Go.Proofs.YtkbbgjloifmmbaaGreatDoor
namespace Go.Proofs.YtkbbgjloifmmbaaGreatDoor
open _root_.Go.Proofs.Tryz
open _root_.List renaming mem_map_of_mem->aqk,any_eq_true->apW
open _root_.And renaming intro->aov
open _root_.Go.Calls renaming regrown_of->an1
open _root_.Go.Program renaming fieldsOf->aql
open Go.RowKit Go.Sort
theorem YD(w:World)(g:Gl w):Calls prog 14 #[] w (ax w (.bool true)):=by
 have HG:=hid g;obtain⟨T,hT,t1,t2,⟨c,hc,t3⟩,t4⟩:=ajB;have PA:=hid (fun(w:World) (g:Gl w)=>hT▸EV Fk (by decide+kernel) w g);have PB:=hid (fun(w:World) (g:Gl w)=>Yw▸EV GB (by decide+kernel) w g);have PC:=hid (fun(w:World) (g:Gl w)=>YG▸EV GF (by decide+kernel) w g)
 have HB:=hid (show ∀y:ak,lA y=T->y.name=[83,66]/\y.code.length=2/\(∃d,y.code[1]? =some d/\d.l.length=2)/\y.init.length=2 from fun y hy=>by
  subst hy;refine⟨t1,by simpa[lA,sn,dG]using t2,?_,t4⟩;unfold lA sn dG at hc;simp only[List.map_map]at hc;rw[List.getElem?_map]at hc;cases hd:y.code[1]? with
  |none=>rw[hd]at hc;cases hc
  | some d=>
    rw[hd]at hc;refine⟨d,rfl,?_⟩;rw[<-t3,<-Option.some.inj hc];rfl)
 clear hT t1 t2 t3 t4 hc g;go_in;go_wp2_with fail;refine(PA.out _ HG.out).mono ?_;rintro e w1 ⟨E1,y,hy,rfl,hO⟩;obtain⟨y1,y2,⟨d,hd,y3⟩,y4⟩:=HB.out y hy;have HY:=hid (aov y1 (aov y2 (aov hd (aov y3 y4))));have HO:=hid (hO.below (al w1 (bC y))).vO;have b0:=eG.new w1 y;have EA:=hid (E1.trans ((al w1 (bC y)).mono E1.size));clear hy hO E1 y1 y2 hd y3 y4 PA HB;go_wp2_with fail;refine(PB.out _ (HG.out.below EA.out)).mono ?_;rintro e w2 ⟨E2,rfl⟩;have EB:=hid (EA.out.trans ((E2.trans ((al w2 pO).mono E2.size)).mono EA.out.size));have E2:=hid (E2.trans ((al w2 pO).mono E2.size));go_wp2_with fail;refine(PC.out _ (HG.out.below EB.out)).mono ?_;rintro e w3 ⟨E3,rfl⟩;have E3:=E3.trans ((al w3 pO).mono E3.size);have EC:=hid (EB.out.trans (E3.mono EB.out.size));have qP:=E2.out.trans (E3.mono E2.out.size);have b3:=b0.below qP;have HI:=HO.out.keep qP;obtain⟨p0,p1,p2,p3,p4,p5,p6,p7,p8,p9,jB,jC⟩:=b3.cells;have hlt:=b3.lt;obtain⟨z1,z2,z3,z4,z5⟩:=HY.out;rw[z1]at p1;rw[z2]at p4;rw[z5]at p3;have i1:=HI.code.mS 1 (by rw[z2];decide) y.cc;rw[z2]at i1;have c1:=HI.code.cd z3;rw[z4]at c1;have zz:((tx [83,66]).toList==[83,66])=true:=by rw[aW];rfl
 generalize tx [83,66]=ux at*;clear b0 b3 HI z1 z2 z3 z4 z5 E3 qP PB PC;have i1': ∀w',(Instr.indexAt 23 (.slice y.ca 2 y.cc) (.int .i64 1)).run prog w'= .ok (.pointer (some ⟨bk y.ca,fo y.ca+1,none⟩)) w':=i1;clear i1;go_wp2_with fail
 (try go_simp)
 go_ret;exact⟨rfl,EC.out⟩
theorem acX(x y:aF):(x=y)<->(x.thread=y.thread/\x.au=y.au/\x.loc=y.loc/\x.aE=y.aE/\x.n=y.n):=by
 cases x;cases y;simp
theorem Pa(x y:aF)(w:World):(binOp .eql 56 (k8 x) (k8 y)).run prog w= .ok (.bool (decide (x=y))) w:=by
 have hS:prog.underlying 56=some (.struct (prog.fieldsOf 56)):=by kernel_rfl
 have hp:prog.stoodInHeld 56=false:=by kernel_rfl
 have hS2:prog.underlying 54=some (.struct (prog.fieldsOf 54)):=by kernel_rfl
 have hp2:prog.stoodInHeld 54=false:=by kernel_rfl
 have a3:=isAgg3;have z3:=sizeOf3;have u3:=underlying3;have a4:=isAgg9;have z4:=sizeOf9;have u4:=underlying9;have a5:=isAgg54;have z5:=sizeOf54;have u5:=underlying54;rw[run_eql_struct,show(10000:Nat)=9999+1 from rfl,run_equalIn_agg w 9999 56 _ _ hS hp];simp only[aql,underlying56]
 have hin: ∀w,(Op.equalIn 9999 54 (.agg #[.string (tx x.aE),.int .i64 x.n]) (.agg #[.string (tx y.aE),.int .i64 y.n])).run prog w= .ok (decide (x.aE=y.aE/\x.n=y.n)) w:=fun w=>by
  rw[show(9999:Nat)=9998+1 from rfl,run_equalIn_agg w 9998 54 _ _ hS2 hp2];simp only[aql,underlying54]
  go_simp
  simp only[aW]
  by_cases h1:x.aE=y.aE<;>by_cases h2:x.n=y.n<;>simp[h1,h2]
 go_simp
 rw[show decide (x=y)=decide (x.thread=y.thread/\x.au=y.au/\x.loc=y.loc/\x.aE=y.aE/\x.n=y.n)from decide_eq_decide.2 (acX x y)];simp only[aW]
 by_cases h1:x.thread=y.thread<;>by_cases h2:x.au=y.au<;>by_cases h6:x.loc=y.loc<;>by_cases h7:x.aE=y.aE<;>by_cases h8:x.n=y.n<;>simp[h1,h2,h6,h7,h8]
theorem aeX(x y:aF)(w:World):(binOp .neq 56 (k8 x) (k8 y)).run prog w= .ok (.bool (!decide (x=y))) w:=by
 have h:=Pa x y w;rw[run_eql_struct]at h;rw[run_neq_struct];generalize (Op.equalIn 10000 56 (.agg #[.int .i64 x.thread,.int .i64 x.au,.string (tx x.loc),.string (tx x.aE),.int .i64 x.n]) (.agg #[.int .i64 y.thread,.int .i64 y.au,.string (tx y.loc),.string (tx y.aE),.int .i64 y.n])).run prog w=r at*;cases r with
 |ok b w'=>simp[Result.andThen]at h ⊢; obtain⟨rfl,rfl⟩:=h;exact⟨rfl,rfl⟩
 |halt x w'=>simp[Result.andThen]at h
end Go.Proofs.YtkbbgjloifmmbaaGreatDoor

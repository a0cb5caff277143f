/- What ReadBlanksP leans on, part 34. -/
import Derived.Test.YtkbbgjloifmmbaaGreatDoorPc33
import Derived.Test.YtkbbgjloifmmbaaGreatDoorPc32
import Derived.Test.YtkbbgjloifmmbaaGreatDoorPc25
set_option linter.unusedVariables false
set_option maxRecDepth 100000
set_option maxHeartbeats 12800000
open _root_.Go.Proofs.Tryz
open _root_.List renaming mem_map_of_mem->apZ,any_eq_true->an1
open _root_.And renaming intro->anY
open _root_.Go.Calls renaming regrown_of->apX
namespace Go.Proofs.YtkbbgjloifmmbaaGreatDoor
open Go.RowKit Go.Sort
variable{s:Tx}
theorem acL(t:aG)(ha:bF t.af=true)(w:World)(h:iT w t):Calls prog 69 #[vT t] w (aJ w (.int .i64 (dF t))):=by
 have:t.af=1\/t.af=2:=by unfold bF at ha;simpa using ha
 rcases this with h1|h1
 ·exact acM t h1 w h
 exact acN t h1 w h
theorem acu(l:Tx):((tx (Lib.trimB l 32)).toList==(tx l).toList)=rA l:=by
 rw[iQ,Bool.eq_iff_iff,beq_iff_eq];exact alB l
theorem acK(t:aG)(w:World)(h:iT w t):Calls prog 25 #[vT t] w (aJ w (.int .i64 (cQ t))):=by
 have A:=al w (cq t);have b0:=fF.new w t;have HI:=hid (h.keep A);have HA:=hid A;obtain⟨ab,hab⟩:=aj (bF t.af);have CA:=hid (show ∀w,Calls prog 66 #[.int .i64 t.af] w fun e w'=>e= .returned (.bool ab)/\w=w' from fun w=>hab▸acP t.af w);obtain⟨tb,htb⟩:=aj (pL 33 t.name);have CT:=hid (show ∀w,Calls prog 67 #[.string (tx t.name),.int .u8 33] w fun e w'=>e= .returned (.bool tb)/\w=w' from fun w=>htb▸SU 33 (by omega) (by omega) t.name h.name w);obtain⟨cb,hcb⟩:=aj (pL 32 t.bD);have CC:=hid (show ∀w,Calls prog 67 #[.string (tx t.bD),.int .u8 32] w fun e w'=>e= .returned (.bool cb)/\w=w' from fun w=>hcb▸SU 32 (by omega) (by omega) t.bD h.bD w);have CF:=hid (fun w=>alF t.bD h.bD w);obtain⟨fb,KP⟩:=aj (rA t.bD);have zf:((tx (Lib.trimB t.bD 32)).toList==(tx t.bD).toList)=fb:=by rw[acu,KP]
 have hs1:(tx t.name).size=t.name.length:=aM _;have hs2:(tx t.bD).size=t.bD.length:=aM _;have qo:=h.name;have kC:=h.bD;have HB:=hid hab;have Ao:=hid (show l8 t.name=(decide (1<=t.name.length)&&(decide (t.name.length<=1024)&&tb)) by unfold l8;rw[htb]);have DZ:=hid (show me t.bD=(decide (t.bD.length<=262144)&&(cb&&fb)) by unfold me;rw[hcb,KP]);clear h A hab htb hcb KP;cases ab with
 | false=>
   have HZ:=hid (ZL HB.out);clear hs1 hs2 zf;go_in
   go_upto_region 1 with(fail)
   generalize w.alloc (cq t)=W1 at*;obtain⟨c0,c1,c2,c3,c4,c5,c6,c7,c8,c9,c10,c11⟩:=b0.cells
   go_wp2_with (go_at_call 66;refine av (CA.out _) ?_)
   go_ret;rw[HZ.out];exact⟨rfl,HA.out⟩
 | true=>
   obtain⟨n1,jK⟩: ∃n,t.name.length=n:=⟨_,rfl⟩;rw[jK]at hs1 Ao qo;clear jK
   by_cases hT:n1<1\/1024<n1\/tb=false
   ·have HZ:=hid (Dw HB.out (show _=false by
     rw[Ao.out];rcases hT with h|h|h
     ·rw[decide_eq_false (by omega)];rfl
     ·rw[decide_eq_false (show ¬n1<=1024 by omega)];simp
     rw[h];simp))
    clear Ao DZ
    have hT3:n1<1\/1024<n1\/(1<=n1/\n1<=1024/\tb=false):=by
     rcases hT with h|h|h
     ·exact .inl h
     ·exact .inr (.inl h)
     by_cases h1:n1<1
     ·exact .inl h1
     by_cases h2:1024<n1
     ·exact .inr (.inl h2)
     exact .inr (.inr ⟨by omega,by omega,h⟩)
    clear hT hs2 zf;go_in
    go_upto_region 1 with(fail)
    generalize w.alloc (cq t)=W1 at*;obtain⟨c0,c1,c2,c3,c4,c5,c6,c7,c8,c9,c10,c11⟩:=b0.cells;rcases hT3 with h|h|⟨h,h',h''⟩
    rotate_left 2
    ·subst h''
     go_wp2_with (first|(go_at_call 66;refine av (CA.out _) ?_)|(go_at_call 67;refine av (CT.out _) ?_))
     go_ret;rw[HZ.out];exact⟨rfl,HA.out⟩
    all_goals
     go_wp2_with (go_at_call 66;refine av (CA.out _) ?_)
     go_ret;rw[HZ.out];exact⟨rfl,HA.out⟩
   have h11:1<=n1:=by omega
   have h12:n1<=1024:=by omega
   obtain rfl:tb=true:=by cases tb with|true=>rfl|false=>exact absurd (.inr (.inr rfl)) hT
   have PV:=hid (show l8 t.name=true by rw[Ao.out,decide_eq_true h11,decide_eq_true h12];rfl);clear hT Ao;obtain⟨n2,hn2⟩: ∃n,t.bD.length=n:=⟨_,rfl⟩;rw[hn2]at hs2 DZ kC;clear hn2;obtain⟨ok,hok⟩:=aj (decide (n2<=262144)&&(cb&&fb));have mq:=hid (show(l8 t.name&&me t.bD)=ok by rw[PV.out,DZ.out,hok];rfl);clear PV DZ;go_in
   go_upto_region 1 with(fail)
   generalize w.alloc (cq t)=W1 at*;obtain⟨c0,c1,c2,c3,c4,c5,c6,c7,c8,c9,c10,c11⟩:=b0.cells
   go_upto_region 5 with(first|(go_at_call 66;refine av (CA.out _) ?_)|(go_at_call 67;refine av (CT.out _) ?_))
   have cA:=fun(d:Nat) (os:Array Obj)=>apX (yY ((CC.out (grow (redrawn W1 d) os)).mono fun e w' hh=>⟨hh.1,by rw[<-hh.2];exact Below.refl _ _⟩))
   have cB:=fun(d:Nat) (os:Array Obj)=>apX (yY (CF.out (grow (redrawn W1 d) os)))
   have hsz:(n2:Int)=t.bD.length->True:=fun _=>trivial
   have c2r:=cell_regrown c2;clear hsz
   by_cases amq:262144<n2
   ·have d2:decide (262144<(n2:Int))=true:=ah
    have HZ:=hid (Dw HB.out (show _=false by rw[mq.out,<-hok,decide_eq_false (by omega)];rfl));clear hok;refine wp_region_quiet_below aN aN ?_
    repeat(go_big_quiet_step (first|exact cA _ _|exact cB _ _))
    refine wpQuiet_nil ?_;intro _ hw';obtain⟨⟨dq,cH⟩,hw''⟩:=hw';subst hw'';have EQ:=below_regrown W1 dq cH;go_wp2_with fail;go_ret;rw[HZ.out];exact⟨rfl,HA.out.trans (EQ.mono HA.out.size)⟩
   have adj:n2<=262144:=by omega
   have d2:decide (262144<(n2:Int))=false:=ah;rw[decide_eq_true adj,Bool.true_and]at hok;cases cb with
   | false=>
     have HZ:=hid (Dw HB.out (show _=false by rw[mq.out,<-hok];rfl));clear hok;refine wp_region_quiet_below aN aN ?_
     repeat(go_big_quiet_step (first|exact cA _ _|exact cB _ _))
     refine wpQuiet_nil ?_;intro _ hw';obtain⟨⟨dq,cH⟩,hw''⟩:=hw';subst hw'';have EQ:=below_regrown W1 dq cH;go_wp2_with fail;go_ret;rw[HZ.out];exact⟨rfl,HA.out.trans (EQ.mono HA.out.size)⟩
   |true=>
   cases fb with
   | false=>
     have HZ:=hid (Dw HB.out (show _=false by rw[mq.out,<-hok];rfl));clear hok;refine wp_region_quiet_below aN aN ?_
     repeat(go_big_quiet_step (first|exact cA _ _|exact cB _ _))
     refine wpQuiet_nil ?_;intro _ hw';obtain⟨⟨dq,cH⟩,hw''⟩:=hw';subst hw'';have EQ:=below_regrown W1 dq cH;go_wp2_with fail;go_ret;rw[HZ.out];exact⟨rfl,HA.out.trans (EQ.mono HA.out.size)⟩
   |true=>
   obtain rfl:ok=true:=by rw[<-hok];rfl
   clear hok;refine wp_region_quiet_below aN aN ?_
   repeat(go_big_quiet_step (first|exact cA _ _|exact cB _ _))
   refine wpQuiet_nil ?_;intro _ hw';obtain⟨⟨dq,cH⟩,hw''⟩:=hw';subst hw'';have E:=below_regrown W1 dq cH;generalize grow (redrawn W1 dq) cH=W5 at*;clear c0 c1 c2 c3 c4 c5 c6 c7 c8 c9 c10 c11 c2r cA cB zf hs2 CC CF CT CA d2;obtain⟨c0,c1,c2,c3,c4,c5,c6,c7,c8,c9,c10,c11⟩:=(b0.below E).cells;have CO:=acL t HB.out W5 (HI.out.keep E);obtain⟨e1,vQ⟩:=aj (dF t);rw[vQ]at CO;have CO:=hid CO;have jT:=hid vQ;clear vQ;go_wp2_with fail;refine CO.out.mono ?_;rintro e w2 ⟨rfl,E2⟩;have E:=E.trans (E2.mono E.size);clear c0 c1 c2 c3 c4 c5 c6 c7 c8 c9 c10 c11 CO E2
   by_cases h1:e1=0
   rotate_left
   ·have z:(e1 != 0)=true:=by simpa using h1
    have HZ:=hid (show cQ t=e1 by rw[ZP HB.out mq.out (by rw[jT.out];exact h1),jT.out]);clear h1;go_wp2_with fail;go_ret;rw[HZ.out];exact⟨rfl,HA.out.trans (E.mono HA.out.size)⟩
   subst h1;obtain⟨k1,k2,k3⟩:=RJ jT.out;have vk:=hid k3;obtain⟨c0,c1,c2,c3,c4,c5,c6,c7,c8,c9,c10,c11⟩:=(b0.below E).cells;have CO:=acJ t (by omega) w2 (HI.out.keep E);obtain⟨e2,mG⟩:=aj (iV t);rw[mG]at CO;have CO:=hid CO;have kL:=hid mG;clear mG k3;go_wp2_with fail;refine CO.out.mono ?_;rintro e w3 ⟨rfl,E3⟩;have E:=E.trans (E3.mono E.size);clear c0 c1 c2 c3 c4 c5 c6 c7 c8 c9 c10 c11 CO E3
   by_cases h2:e2=0
   rotate_left
   ·have z:(e2 != 0)=true:=by simpa using h2
    have HZ:=hid (show cQ t=e2 by rw[ZO HB.out mq.out jT.out (by rw[kL.out];exact h2),kL.out]);clear h2;go_wp2_with fail;go_ret;rw[HZ.out];exact⟨rfl,HA.out.trans (E.mono HA.out.size)⟩
   subst h2;have k4:=Q1 kL.out;have HT:=hid (ZM HB.out mq.out jT.out kL.out);obtain⟨c0,c1,c2,c3,c4,c5,c6,c7,c8,c9,c10,c11⟩:=(b0.below E).cells;have CO:=Ff t.af t.q t.node w3 (HI.out.keep E).node;obtain⟨e3,vR⟩:=aj (cV t.af t.q t.node);rw[vR]at CO;have CO:=hid CO;have nr:=hid (show lq t=if e3≠0 then e3 else if(lu t).any fun x=>decide ((t.code.length:Int)<=x.thread)then 80 else 0 by unfold lq;rw[vR]);clear vR;go_wp2_with fail;refine CO.out.mono ?_;rintro e w4 ⟨rfl,E4⟩;have E:=E.trans (E4.mono E.size);clear c0 c1 c2 c3 c4 c5 c6 c7 c8 c9 c10 c11 CO E4
   by_cases h3:e3=0
   rotate_left
   ·have z:(e3 != 0)=true:=by simpa using h3
    have HZ:=hid (show cQ t=e3 by
     have:lq t=e3:=by rw[nr.out,if_pos h3]
     rw[HT.out,this,if_pos h3])
    clear h3;go_wp2_with fail;go_ret;rw[HZ.out];exact⟨rfl,HA.out.trans (E.mono HA.out.size)⟩
   subst h3;have nr:=hid (show lq t=if(lu t).any fun x=>decide ((t.code.length:Int)<=x.thread)then 80 else 0 by rw[nr.out,if_neg (by omega)]);obtain⟨c0,c1,c2,c3,c4,c5,c6,c7,c8,c9,c10,c11⟩:=(b0.below E).cells;have TH:=hid (SM t w4 (HI.out.node.keep E));have htl:(lu t).length<=1024:=Hi t.q t.node;obtain⟨T,hT⟩:=aj (lu t);rw[hT]at TH htl nr;clear hT;go_wp2_with fail;refine TH.out.mono ?_;rintro e w5 ⟨a2,lB,rfl,o2,E5⟩;have els:=(Own.els o2 ep (by omega) (by omega)).1;have E:=E.trans (E5.mono E.size);clear c0 c1 c2 c3 c4 c5 c6 c7 c8 c9 c10 c11 o2 E5 TH;go_wp2_with fail
   go_loopw [67] (fun i wr=> ∃j:Nat,j<=T.length/\i= .int .i64 j/\Below W1.heap.size W1 wr/\bK lW wr a2 T/\Hid (∀(m:Nat) (x:Th),m<j->T[m]? =some x->x.thread<t.code.length)) (fun i _=>T.length-(intOf i).toNat)
   ·exact⟨0,by omega,rfl,E,els,fun m x hm=>absurd hm (Nat.not_lt_zero m)⟩
   clear E els;obtain⟨j,hj,rfl,E,els,HJ⟩:=hrel
   by_cases hjt:j<T.length
   ·obtain⟨x,hx⟩: ∃x,T[j]? =some x:=⟨_,List.getElem?_eq_getElem hjt⟩
    obtain⟨q0,q1,q2⟩:=els.th hx;have ix:=els.idx jR ep j hjt lB;have HX:=hid hx;clear hx
    go_upto_region 19 with(fail)
    have A3:=al wr (l6 x);have x0:aA (wr.alloc (l6 x)) wr.heap.size (lW x):=aA.new _ _ _;generalize wr.alloc (l6 x)=W7 at*;have E:=E.trans (A3.mono E.size);have els:=els.below A3;have i0:=x0.get 0 _ rfl;clear q0 q1 q2 ix A3;obtain⟨c0,c1,c2,c3,c4,c5,c6,c7,c8,c9,c10,c11⟩:=(b0.below E).cells
    by_cases mJ:(t.code.length:Int)<=x.thread
    ·have HZ:=hid (show cQ t=80 by
      have h9:lq t=80:=by rw[nr.out,if_pos];rw[an1];exact⟨x,List.mem_of_getElem? HX.out,by simpa using mJ⟩
      rw[HT.out,h9];simp)
     go_wp2_with fail;go_ret;rw[HZ.out];exact⟨rfl,HA.out.trans (E.mono HA.out.size)⟩
    have Lz:x.thread<t.code.length:=by omega
    have gT: ∀(m:Nat) (y:Th),m<j+1->T[m]? =some y->y.thread<t.code.length:=fun m y hm hy=>by
     rcases Nat.lt_succ_iff_lt_or_eq.1 hm with h|h
     ·exact HJ.out m y h hy
     subst h;rw[HX.out]at hy;cases hy;exact Lz
    have gT:=hid gT;clear HJ;go_wp2_with fail
    go_roundw;exact⟨j+1,by omega,by go_num,E,els,gT⟩;simp[intOf];omega
   obtain rfl:j=T.length:=by omega
   have Au:=hid (show lq t=0 by
    rw[nr.out,if_neg];rw[an1];rintro⟨x,hx,h2⟩;obtain⟨k,hk⟩:=List.mem_iff_getElem?.1 hx;have:=HJ.out k x (List.getElem?_eq_some_iff.1 hk).1 hk;simp at h2;omega)
   have gm:=hid (show cQ t=if 64<(jO t).length then 2 else 0 by rw[HT.out,Au.out,if_neg (by omega)]);obtain⟨c0,c1,c2,c3,c4,c5,c6,c7,c8,c9,c10,c11⟩:=(b0.below E).cells;have LO:=hid (fileNames t k4 k2 vk.out wr (HI.out.keep E));clear hjt hj;go_wp2_with fail;refine LO.out.mono ?_;rintro e w8 ⟨a8,c8',rfl,t8,E8⟩;have E:=E.trans (E8.mono E.size);have hcap:=t8.len;clear c0 c1 c2 c3 c4 c5 c6 c7 c8 c9 c10 c11 LO E8 t8
   by_cases Br:64<(jO t).length
   ·have HZ:=hid (show cQ t=2 by rw[gm.out,if_pos Br])
    go_wp2_with fail;go_ret;rw[HZ.out];exact⟨rfl,HA.out.trans (E.mono HA.out.size)⟩
   have HZ:=hid (show cQ t=0 by rw[gm.out,if_neg Br])
   go_wp2_with fail;go_ret;rw[HZ.out];exact⟨rfl,HA.out.trans (E.mono HA.out.size)⟩
section
variable {w1 w:World} {s:Tx} {k rb:Nat} {t:aG}
theorem ai1(h:w1.heap.size=rb)(R:cM w1 w s k t):Calls prog 27 #[.pointer (some ⟨rb,0,none⟩)] w (Qt (fP s.length (s.drop k)) w1 w s t):=by subst h;exact ajg R
theorem ai0(h:w1.heap.size=rb)(R:cM w1 w s k t)(uy:t.bD=[]):Calls prog 28 #[.pointer (some ⟨rb,0,none⟩)] w (Qr (eH s.length (s.drop k)) w1 w s t):=by subst h;exact ajf R uy
theorem ai2(h:w1.heap.size=rb)(R:cM w1 w s k t)(ha:bF t.af=true)(h0:t.ia=none/\t.ic=0/\t.init=[]):Calls prog 29 #[.pointer (some ⟨rb,0,none⟩)] w (I9 (eM t.af s.length (s.drop k)) w1 w s t):=by subst h;exact aji R ha h0
theorem ai7(h:w1.heap.size=rb)(R:cM w1 w s k t)(ha:bF t.af=true)(h0:t.ca=none/\t.cc=0/\t.code=[]):Calls prog 30 #[.pointer (some ⟨rb,0,none⟩)] w (Ey (eR t.af s.length (s.drop k)) w1 w s t):=by subst h;exact ajm R ha h0
theorem aiZ(h:w1.heap.size=rb)(R:cM w1 w s k t)(ha:bF t.af=true):Calls prog 31 #[.pointer (some ⟨rb,0,none⟩)] w (Ev (gL t.af s.length (s.drop k)) w1 w s k t):=by subst h;exact aiY R ha
theorem cM.cells(h:cM w1 w s k t)(hr:w1.heap.size=rb):w.cell? ⟨rb,2,none⟩=some (.int .i64 t.af)/\w.cell? ⟨rb,3,none⟩=some (.string (tx t.name))/\w.cell? ⟨rb,4,none⟩=some (.string (tx t.bD))/\w.cell? ⟨rb,5,none⟩=some (.slice t.ia t.init.length t.ic)/\w.cell? ⟨rb,6,none⟩=some (.slice t.ca t.code.length t.cc)/\w.cell? ⟨rb,7,none⟩=some (.int .i64 t.q)/\w.cell? ⟨rb,8,none⟩=some (.int .i64 t.node.kind)/\w.cell? ⟨rb,9,none⟩=some (.int .i64 t.node.th.thread)/\w.cell? ⟨rb,10,none⟩=some (.int .i64 t.node.th.az)/\w.cell? ⟨rb,11,none⟩=some (.string (tx t.node.th.loc))/\w.cell? ⟨rb,12,none⟩=some (.int .i64 t.node.val)/\w.cell? ⟨rb,13,none⟩=some (.slice t.node.a t.node.kids.length t.node.c):=by
 subst hr;exact⟨h.bx.get 2 _ rfl,h.bx.get 3 _ rfl,h.bx.get 4 _ rfl,h.bx.get 5 _ rfl,h.bx.get 6 _ rfl,h.bx.get 7 _ rfl,h.bx.get 8 _ rfl,h.bx.get 9 _ rfl,h.bx.get 10 _ rfl,h.bx.get 11 _ rfl,h.bx.get 12 _ rfl,h.bx.get 13 _ rfl⟩
end
theorem OS(w:World):(zL w).heap.size=w.heap.size+1+1+1:=by simp
theorem Xo(h:262144<s.length):fq s= .error (2,0):=by unfold fq;rw[if_pos h]
theorem ai5(hl:262144<s.length)(hm:s.length<=9223372036854775807)(w:World):Calls prog 9 #[.string (tx s)] w (sL (fq s) w):=by
 rw[Xo hl];have hsz:(tx s).size=s.length:=aM s;generalize tx s=u at*;have z:decide ((262144:Int)<(u.size:Int))=true:=ah;have hm2:u.size<=9223372036854775807:=by omega
 clear hsz hl hm;have yf: ∀(fn:Fn) (first cap:Array Value) (w:World),(Instr.makeFunc fn first cap).run prog w= .ok (.func fn first cap) w:=fun _ _ _ _=>rfl
 go_enter_defers func9,ntmps9
 go_wp2;refine⟨_,by simp[results,results9,go_sem];rfl,?_⟩;exact⟨bC,rfl⟩
theorem ai6(hl:s.length<=262144)(w:World)(g:Gl w):Calls prog 9 #[.string (tx s)] w (sL (fq s) w):=by
 obtain⟨Z,hZ⟩:=aj (fq s);rw[hZ];have HZ:=hid hZ;clear hZ;have HL:=hid hl;have H3:=hid (OS w);have RN:=hid (cM.new (w:=zL w) hl (g.below (Ju w)));obtain⟨rb,hrb⟩:=aj (w.heap.size+1+1+1);rw[hrb]at H3;have HD:=hid (ai1 H3.out RN.out);rw[List.drop_zero]at HD;have hsz:(tx s).size=s.length:=aM s;generalize hu:tx s=u at*;have z:decide ((262144:Int)<(u.size:Int))=false:=ah;have hm2:u.size<=9223372036854775807:=by omega
 have tZ:=hid hrb;clear hsz hl g hrb RN;have yf: ∀(fn:Fn) (first cap:Array Value) (w:World),(Instr.makeFunc fn first cap).run prog w= .ok (.func fn first cap) w:=fun _ _ _ _=>rfl
 go_enter_defers func9,ntmps9
 go_wp2_with fail;rw[tZ.out];subst hu;refine HD.out.mono ?_;rintro e w4 hq;obtain⟨S,h⟩:=hq;rcases h with⟨er,k,h1,rfl⟩|⟨a,n,r1,k1,h1,nE,rfl,T4,R4⟩;have HE:=hid (rR HL.out (Ra h1));clear h1;unfold pW
 rotate_left
 have xh:=hid (FP h1).1;have H1:=hid h1;clear h1;have CY:=hid (ai0 H3.out R4 rfl);rw[nE]at CY;have T4:=hid T4;clear S HD;go_wp2_with fail;refine CY.out.mono ?_;rintro e w5 hq;obtain⟨S,h⟩:=hq;rcases h with⟨er,k,h2,rfl⟩|⟨c,r2,k2,h2,hr2,rfl,T5,R5⟩;have HE:=hid (rR HL.out (Rb H1.out h2));clear h2;unfold pW
 rotate_left
 have H2:=hid h2;clear h2;have CI:=hid (ai2 H3.out R5 xh.out ⟨rfl,rfl,rfl⟩);have CI:Hid (Calls prog _ _ w5 (I9 (eM a s.length (s.drop k2)) _ _ _ _)):=CI;rw[hr2]at CI;have hs5:=R5.lt;rw[H3.out]at hs5;have T5:=hid T5;clear S CY R4 nE;go_wp2_with fail;refine CI.out.mono ?_;rintro e w6 hq;obtain⟨S,h⟩:=hq;rcases h with⟨er,k,h3,rfl⟩|⟨i,r3,k3,ia,ic,h3,hr3,rfl,T6,R6,OI⟩;have HE:=hid (rR HL.out (Rc H1.out H2.out h3));clear h3;unfold pW
 rotate_left
 have sj:=hid h3;clear h3;have CT:=hid (ai7 H3.out R6 xh.out ⟨rfl,rfl,rfl⟩);have CT:Hid (Calls prog _ _ w6 (Ey (eR a s.length (s.drop k3)) _ _ _ _)):=CT;rw[hr3]at CT;have Ln:=R6.lt;rw[H3.out]at Ln;have OI:=hid OI;clear S CI R5 hr2 T6;go_wp2_with fail;refine CT.out.mono ?_;rintro e w7 hq;unfold Ey at hq;rcases hq with⟨S,er,k,h4,rfl⟩|⟨C,r4,k4,ca,cn,h4,hr4,rfl,T7,R7,OC⟩;have HE:=hid (rR HL.out (Re H1.out H2.out sj.out h4));clear h4;unfold pW
 rotate_left
 have H4:=hid h4;clear h4;have CC:=hid (aiZ H3.out R7 xh.out);have CC:Hid (Calls prog _ _ w7 (Ev (gL a s.length (s.drop k4)) _ _ _ _ _)):=CC;rw[hr4]at CC;have F8:=R7.lt;rw[H3.out]at F8;have OI:=hid (Own.st OI.out T7 (by rw[H3.out];omega));have OC:=hid OC;clear CT R6 hr3 T7;go_wp2_with fail;refine CC.out.mono ?_;rintro e w8 hq;unfold Ev at hq;rcases hq with⟨S,er,k,h5,rfl⟩|⟨q,x,y,h5,hy,rfl,T8,R8,ON,hnd⟩;have HE:=hid (rR HL.out (Rf H1.out H2.out sj.out H4.out h5));clear h5;unfold pW
 rotate_left
 have H5:=hid h5;clear h5
 have HB:=hid (show n.length<=262144/\c.length<=262144/\(∀x∈i,ue x)/\i.length<=1000000/\(∀D:List Cd,D.map (·.l)=C.map (·.l)-> ∀x∈D,∀i∈x.l,sM i)/\(∀D:List Cd,D.map (·.l)=C.map (·.l)->D.length<=1000000/\ ∀x∈D,x.l.length<=1000000) by
  have hl:=HL.out;have h1:=H1.out;have h2:=H2.out;have h3:=sj.out;have h4:=H4.out;have a1:=(FP h1).2;have a2:=Sv h2;have a3:=Uh h1;have a4:=uR s;rw[<-a3]at a4
  have a5:r2.length<=r1.length:=by
   rcases Sw h2 with⟨e, -⟩|e
   ·rw[e];exact Nat.le_refl _
   rw[e];exact uR _
  have a6:=U5 h3;have a7:=(U7 h3).2.2;obtain⟨b1,b2⟩:=Zu h4;have b3:=Zx h4;refine⟨by omega,by omega,U9 h3,by omega,fun C hC x hx=>?_,fun C hC=>⟨?_,fun x hx=>?_⟩⟩
  ·exact b3 x.l (by rw[<-hC];exact apZ hx)
  ·rw[<-hC,List.length_map]at b1;omega
  have:=b2 x.l (by rw[<-hC];exact apZ hx);omega)
 have HP:=hid (Xp HL.out (Fa.2 ⟨a,n,r1,c,r2,i,r3,_,r4,q,x,H1.out,H2.out,sj.out,H4.out,H5.out,rfl⟩));obtain⟨er,he⟩:=aj (cQ (pH a n c i (C.map (·.l)) q x));have Ea:=hid he;clear he;obtain⟨T,hT⟩:=aj (⟨a,n,c,ia,ic,i,ca,cn,C,q,y⟩:aG);have R8:cM (zL w) w8 s k4 T:=by rw[<-hT];exact R8
 have OI:=Own.st OI.out T8 (by rw[H3.out];omega);have OC:=OC.out.step T8 (by rw[H3.out];omega)
 have OT:fX w8 (w.heap.size+3) T:=by
  have hrb:=tZ.out;rw[<-hT];exact⟨HB.out.1,HB.out.2.1,HB.out.2.2.1,HB.out.2.2.2.1,Own.mono OI (by omega),HB.out.2.2.2.2.1 C rfl,HB.out.2.2.2.2.2 C rfl,OC.mono (by omega),ON.mono (by omega),hnd⟩
 have sY:mA T=pH a n c i (C.map (·.l)) q x:=by rw[<-hT,<-hy];rfl
 have hE:cQ T=er:=by rw[<-ZN,sY];exact Ea.out
 have CK:=hid (acK T w8 OT.lK);rw[hE]at CK;have sY:=hid sY;have OT:=hid OT;have R8:=hid R8;clear CC R7 hr4 OI OC ON hnd T8 hy hE hT;obtain⟨p2,p3,p4,p5,p6,p7,p8,p9,gZ,ig,Xa,Xb⟩:=R8.out.cells H3.out;go_wp2_with fail;refine CK.out.mono ?_;rintro e w9 ⟨rfl,E9⟩;clear p2 p3 p4 p5 p6 p7 p8 p9 gZ ig Xa Xb CK;have R9:=R8.out.below E9;obtain⟨v1,v2,v3,f1,f2,f3⟩:=Z1 R9.bu;have B9:=hid ((Ju w).trans (R9.bu.mono (by rw[OS];omega)));have OT:=hid (OT.out.below E9);obtain⟨p2,p3,p4,p5,p6,p7,p8,p9,gZ,ig,Xa,Xb⟩:=R9.cells H3.out;obtain⟨q0,q1,q2,q3,q4,q5,q6,q7,q8,q9,iN,iO⟩:=v1.uj;have f10:=f1 0;have f11:=f1 1;have f12:=f1 2;have f13:=f1 3;have f14:=f1 4;have f15:=f1 5;have f16:=f1 6;have f17:=f1 7;have f18:=f1 8;have f19:=f1 9;have f1a:=f1 10;have f1b:=f1 11;have f20:=f2 0;have f30:=f3 0;have hne:rb≠w.heap.size:=by have:=tZ.out;omega
 clear E9 R9 R8 v1 f1 f2 f3
 ·by_cases h0:er=0
  ·have HZ:=HZ.out
   rw[HP.out,if_pos (by rw[Ea.out];exact h0)]at HZ;subst HZ;have z0:(er==0)=true:=by rw[h0];rfl
   clear h0;go_wp2_with fail;refine leaves_cons (f:=26) (args:=#[.pointer (some ⟨w.heap.size,0,none⟩),.pointer (some ⟨w.heap.size+1,0,none⟩),.pointer (some ⟨w.heap.size+1+1,0,none⟩)]) (by simp) (by simp[go_sem]) ?_;refine(Yp ⟨w.heap.size,0,none⟩ ⟨w.heap.size+1,0,none⟩ ⟨w.heap.size+1+1,0,none⟩ _).mono ?_;rintro e u' w6 ⟨rfl,rfl,rfl⟩;refine⟨.tuple #[vT T,.int .i64 0,.int .i64 0],by simp[results,results9,go_sem,q0,q1,q2,q3,q4,q5,q6,q7,q8,q9,iN,iO,v2,v3],?_⟩;exact acX B9.out OT.out sY.out rfl ((aP.refl _ _).put 0 _) ((aP.refl _ _).put 0 _) (((((((((((((aP.refl _ _).put 0 _).put 1 _).put 2 _).put 3 _).put 4 _).put 5 _).put 6 _).put 7 _).put 8 _).put 9 _).put 10 _).put 11 _)
  have HZ:=HZ.out
  rw[HP.out,if_neg (by rw[Ea.out];exact h0),Ea.out]at HZ;subst HZ;have z0:(er != 0)=true:=by simpa using h0
  clear h0;go_wp2_with fail;refine leaves_cons (f:=26) (args:=#[.pointer (some ⟨w.heap.size,0,none⟩),.pointer (some ⟨w.heap.size+1,0,none⟩),.pointer (some ⟨w.heap.size+1+1,0,none⟩)]) (by simp) (by simp[go_sem]) ?_;refine(Yp ⟨w.heap.size,0,none⟩ ⟨w.heap.size+1,0,none⟩ ⟨w.heap.size+1+1,0,none⟩ _).mono ?_;rintro e u' w6 ⟨rfl,rfl,rfl⟩;refine⟨.tuple #[Ie,.int .i64 er,.int .i64 0],by simp[results,results9,go_sem,q0,q1,q2,q3,q4,q5,q6,q7,q8,q9,iN,iO,v2,v3],?_⟩;exact acW (k:=0) B9.out rfl ((aP.refl _ _).put 0 _) ((aP.refl _ _).put 0 _) (((((((((((((aP.refl _ _).put 0 _).put 1 _).put 2 _).put 3 _).put 4 _).put 5 _).put 6 _).put 7 _).put 8 _).put 9 _).put 10 _).put 11 _)
 all_goals
  have HZ:=HZ.out;rw[HE.out]at HZ;subst HZ;obtain⟨v1,v2,v3,f1,f2,f3⟩:=Z1 S;have B4:Below w.heap.size w _:=(Ju w).trans (S.mono (by rw[OS];omega));clear S;refine leaves_cons (f:=26) (args:=#[.pointer (some ⟨w.heap.size,0,none⟩),.pointer (some ⟨w.heap.size+1,0,none⟩),.pointer (some ⟨w.heap.size+1+1,0,none⟩)]) (by simp) (by simp[go_sem]) ?_;refine(ajs w.heap.size (w.heap.size+1) (w.heap.size+1+1) _ _ _ [] _ _ _ rfl v1 v2 v3 f1 (f2 0) (f3 0) (by omega) (by omega) (by omega)).mono ?_;rintro e u' w9 ⟨rfl,rfl,hB,hx,hq,hr⟩;obtain⟨p0,p1,p2,p3,p4,p5,p6,p7,p8,p9,gZ,ig⟩:=hx.uj;refine⟨.tuple #[Ie,.int .i64 er,.int .i64 k],by simp[results,results9,go_sem,p0,p1,p2,p3,p4,p5,p6,p7,p8,p9,gZ,ig,hq,hr],?_⟩;exact⟨B4.trans (hB _ (Nat.le_refl _) (by omega) (by omega)),rfl⟩
theorem yR(s:Tx)(hm:s.length<=9223372036854775807)(w:World)(g:Gl w):Calls prog 9 #[.string (tx s)] w (sL (fq s) w):=by
 rcases Nat.lt_or_ge 262144 s.length with hl|hl
 ·exact ai5 hl hm w
 exact ai6 hl w g
theorem QT(w:World)(g:Gl w):Calls prog 14 #[] w (aJ w (.bool true)):=by
 have HG:=hid g;obtain⟨T,hT,t1,t2,⟨c,hc,t3⟩,t4⟩:=aks;have PA:=hid (fun(w:World) (g:Gl w)=>hT▸yR GZ dx w g);have PB:=hid (fun(w:World) (g:Gl w)=>aaI▸yR Jo dx w g);have PC:=hid (fun(w:World) (g:Gl w)=>aaT▸yR Jr dx w g)
 have HB:=hid (show ∀y:aG,mA y=T->y.name=[83,66]/\y.code.length=2/\(∃d,y.code[1]? =some d/\d.l.length=2)/\y.init.length=2 from fun y hy=>by
  subst hy;refine⟨t1,by simpa[mA,pH,gK]using t2,?_,t4⟩;unfold mA pH gK at hc;simp only[List.map_map]at hc;rw[List.getElem?_map]at hc;cases hd:y.code[1]? with
  |none=>rw[hd]at hc;cases hc
  | some d=>
    rw[hd]at hc;refine⟨d,rfl,?_⟩;rw[<-t3,<-Option.some.inj hc];rfl)
 clear hT t1 t2 t3 t4 hc g;go_in;go_wp2_with fail;refine(PA.out _ HG.out).mono ?_;rintro e w1 ⟨E1,y,hy,rfl,hO⟩;obtain⟨y1,y2,⟨d,hd,y3⟩,y4⟩:=HB.out y hy;have HY:=hid (anY y1 (anY y2 (anY hd (anY y3 y4))));have HO:=hid (hO.below (al w1 (cq y))).lK;have b0:=fF.new w1 y;have EA:=hid (E1.trans ((al w1 (cq y)).mono E1.size));clear hy hO E1 y1 y2 hd y3 y4 PA HB;go_wp2_with fail;refine(PB.out _ (HG.out.below EA.out)).mono ?_;rintro e w2 ⟨E2,rfl⟩;have EB:=hid (EA.out.trans ((E2.trans ((al w2 kZ).mono E2.size)).mono EA.out.size));have E2:=hid (E2.trans ((al w2 kZ).mono E2.size));go_wp2_with fail;refine(PC.out _ (HG.out.below EB.out)).mono ?_;rintro e w3 ⟨E3,rfl⟩;have E3:=E3.trans ((al w3 kZ).mono E3.size);have EC:=hid (EB.out.trans (E3.mono EB.out.size));have jn:=E2.out.trans (E3.mono E2.out.size);have b3:=b0.below jn;have HI:=HO.out.keep jn;obtain⟨p0,p1,p2,p3,p4,p5,p6,p7,p8,p9,gZ,ig⟩:=b3.cells;have hlt:=b3.lt;obtain⟨z1,z2,z3,z4,z5⟩:=HY.out;rw[z1]at p1;rw[z2]at p4;rw[z5]at p3;have i1:=HI.code.sO 1 (by rw[z2];decide) y.cc;rw[z2]at i1;have c1:=HI.code.cd z3;rw[z4]at c1;have zz:((tx [83,66]).toList==[83,66])=true:=by rw[bh];rfl
 generalize tx [83,66]=ux at*;clear b0 b3 HI z1 z2 z3 z4 z5 E3 jn PB PC;have i1': ∀w',(Instr.indexAt 23 (.slice y.ca 2 y.cc) (.int .i64 1)).run prog w'= .ok (.pointer (some ⟨bk y.ca,fo y.ca+1,none⟩)) w':=i1;clear i1;go_wp2_with fail
 (try go_simp)
 go_ret;exact⟨rfl,EC.out⟩
end Go.Proofs.YtkbbgjloifmmbaaGreatDoor

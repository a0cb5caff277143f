/- What ReadPiecesP leans on, part 33. -/
import Derived.DeepKeys5
import Derived.Test.YtkbbgjloifmmbaaGreatDoorRp32
import Derived.Test.YtkbbgjloifmmbaaGreatDoorRp24
set_option linter.unusedVariables false
set_option maxRecDepth 100000
set_option maxHeartbeats 12800000
namespace Go.Proofs.YtkbbgjloifmmbaaGreatDoor
open Go.RowKit Go.Maps Go.WideMaps
theorem lawT:Keyed Tryz.prog 25:=Keyed.of_law (deep_law_gate (by kernel_rfl) (Nat.le_of_ble_eq_true (by kernel_rfl)) (Nat.lt_of_succ_le (Nat.le_of_ble_eq_true (by kernel_rfl))) (by kernel_rfl) (by kernel_rfl))
def kT(x:Th):Lit:=.string (keyBytes [.int .i64 x.thread,.int .i64 x.reg,.string x.loc])
theorem wf64{n:Int}(h:I64 n):(Lit.int .i64 n).wf=true:=WalkArith.wf_i64 (by unfold I64 at h;omega)
theorem keyT'(x:Th)(h1:I64 x.thread)(h2:I64 x.reg)(h3:x.loc.length<=9223372036854775807):keyOf Tryz.prog 25 (vTh x)=some (kT x):=by
 have hk:Tryz.prog.keyType 25=true:=by kernel_rfl
 have hc:Tryz.prog.cellsOf 25=3:=by kernel_rfl
 have hi:Tryz.prog.cellsOf 3=1:=by kernel_rfl
 have hs:Tryz.prog.cellsOf 9=1:=by kernel_rfl
 have h1s:1<=Tryz.prog.types.size:=Nat.le_of_ble_eq_true (by kernel_rfl);obtain⟨m,hm⟩: ∃m,Tryz.prog.types.size=m+1:=⟨_,(Nat.sub_add_cancel h1s).symm⟩;unfold keyOf;rw[Tryz.underlying25];simp only[hk,Value.formed,Tryz.underlying25,hc];rw[hm];simp[Program.keyLits,Tryz.underlying25,hc,hi,hs,Tryz.underlying3,Tryz.underlying9,Value.cells,wf64 h1,wf64 h2,kT,tx_size];rw[if_pos (show x.loc.length<=maxLen from h3),tx_data];rfl
theorem kT_inj{x y:Th}(h1:I64 x.thread)(h2:I64 x.reg)(h3:x.loc.length<=9223372036854775807)(g1:I64 y.thread)(g2:I64 y.reg)(g3:y.loc.length<=9223372036854775807)(h:kT x=kT y):x=y:=by
 have e:=lawT.inj (keyT' x h1 h2 h3) (by rw[h];exact keyT' y g1 g2 g3);simp only[vTh,Value.agg.injEq,Array.mk.injEq,List.cons.injEq,Value.int.injEq,Value.string.injEq,and_true,true_and,tx_inj]at e;exact(th_ext x y).2 ⟨e.1,e.2.1,e.2.2⟩
def SeenD(t:Tst)(k:Nat)(D:DataW Unit):Prop:=
 ∀ x:Th,I64 x.thread->I64 x.reg->x.loc.length<=9223372036854775807->
   (∀(i:Nat) (y:Ini),i<k->t.init[i]? =some y->keyI y=x-> ∃c:Int,0<c/\c<2000/\D.atKey (kT x) (.lit (.int .i64 0))= .lit (.int .i64 c))/\
   ((∀(i:Nat) (y:Ini),i<k->t.init[i]? =some y->keyI y≠x)->D.atKey (kT x) (.lit (.int .i64 0))= .lit (.int .i64 0))
theorem isKeyT(x:Th):WideAt.IsKeyLit (kT x):=by unfold kT;trivial
theorem SeenD.nil{t:Tst}:SeenD t 0 (.map []):=fun x _ _ _=>⟨fun i y hi=>absurd hi (Nat.not_lt_zero i),fun _=>rfl⟩
theorem SeenD.put{t:Tst}{k:Nat}{D:DataW Unit}{x:Ini}(h:SeenD t k D)(hm:IsMap D)(hx:t.init[k]? =some x)(hk:k<1024)(w1:I64 x.thread)(w2:I64 x.reg)(w3:x.loc.length<=9223372036854775807):
 SeenD t (k+1) (D.put (kT (keyI x)) (.lit (.int .i64 ((k:Int)+1)))):=by
 intro z z1 z2 z3;obtain⟨h1,h2⟩:=h z z1 z2 z3
 by_cases he:keyI x=z
 ·subst he
  refine⟨fun i y hi hy e=>⟨(k:Int)+1,by omega,by omega,by rw[atKey_put_same hm (isKeyT _)]⟩,fun hn=>absurd rfl (hn k x (by omega) hx)⟩
 ·have hne:kT z≠kT (keyI x):=fun e=>he (kT_inj w1 w2 w3 z1 z2 z3 e.symm)
  refine⟨fun i y hi hy e=>?_,fun hn=>?_⟩
  ·rw[atKey_put_other hne]
   rcases Nat.lt_succ_iff_lt_or_eq.1 hi with h3|h3
   ·exact h1 i y h3 hy e
   ·subst h3;rw[hx]at hy;cases hy;exact absurd e he
  ·rw[atKey_put_other hne]
   exact h2 fun i y hi hy=>hn i y (by omega) hy
def Seen(w:World)(b n:Nat)(D:DataW Unit):Prop:=w.ownsMap Tryz.prog 25 (plainElem (H:=Unit) Tryz.prog 3) b n D
theorem Seen.below{w w':World}{b n:Nat}{D:DataW Unit}(h:Seen w b n D)(hb:Below w.heap.size w w'):Seen w' b n D:=
 World.ownsMap.kept h ⟨hb.os,hb.tape,hb.output,hb.size,fun k hk _=>hb.block k hk⟩ (row:=none) (by simp)
theorem zeroN(w:World):(zeroValue 3).run Tryz.prog w= .ok (.int .i64 0) w:=by kernel_rfl
end Go.Proofs.YtkbbgjloifmmbaaGreatDoor
namespace Go.Proofs.YtkbbgjloifmmbaaGreatDoor
open Go.RowKit Go.Sort Go.Maps Go.WideMaps
theorem fileBegun(t:Tst)(hcn:t.code.length<=1000)(w:World)(h:TsIn w t):Calls Tryz.prog 70 #[vT t] w (Ret w (.int .i64 (begunE t))):=by
 have A:=al w (mkT t);have b0:=BxT.new w t;have HI:=hid (h.keep A);have HA:=hid A;have hil:=h.init.len
 by_cases hn:1024<t.init.length
 ·rw[begunE_long hn]
  obtain⟨c0,c1,c2,c3,c4,c5,c6,c7,c8,c9,c10,c11⟩:=b0.cells;clear h A;go_enter Tryz.func70,Tryz.ntmps70;go_wp2_with fail;go_ret;exact⟨rfl,HA.out⟩
 ·have h1024:t.init.length<=1024:=by omega
  have HNN:=hid hn;have hmm:= @run_makeMap Tryz.prog;clear hn h A;go_enter Tryz.func70,Tryz.ntmps70
  go_upto_region 1 with(fail)
  generalize w.alloc (mkT t)=W1 at*;obtain⟨c0,c1,c2,c3,c4,c5,c6,c7,c8,c9,c10,c11⟩:=b0.cells
  go_upto_region 4 with(fail)
  have hM:Seen (W1.alloc (.map #[] 0)) W1.heap.size 0 (.map []):=World.ownsMap_made _ _ _ _;have E0:=al W1 (.map #[] 0);have hlt0:W1.heap.size<(W1.alloc (.map #[] 0)).heap.size:=by simp
  generalize W1.alloc (.map #[] 0)=W2 at*;obtain⟨mb,hmb⟩: ∃mb,W1.heap.size=mb:=⟨_,rfl⟩;rw[hmb]at hM⊢;clear c0 c1 c2 c3 c4 c5 c6 c7 c8 c9 c10 c11;obtain⟨c0,c1,c2,c3,c4,c5,c6,c7,c8,c9,c10,c11⟩:=(b0.below E0).cells;have HMB:=hid hmb;clear hmb hlt0;go_wp2_with fail;clear c0 c1 c2 c3 c4 c5 c6 c7 c8 c9 c10 c11
  go_loopw [15] (fun i wr=> ∃(k:Nat) (D:DataW Unit),k<=t.init.length/\i= .int .i64 k/\Below W1.heap.size W1 wr/\Seen wr mb k D/\Hid (FirstK t k/\ApartK t k/\SeenD t k D)) (fun i _=>t.init.length-(intOf i).toNat)
  case atStart=>exact⟨0,.map [],by omega,rfl,E0,hM,fun j x hj=>absurd hj (Nat.not_lt_zero j),fun i j x y _ hj=>absurd hj (Nat.not_lt_zero j),SeenD.nil⟩
  case round=>
   clear E0 hM;obtain⟨k,D,hk,rfl,E,hM,HK⟩:=hrel
   by_cases hlt:k<t.init.length
   ·obtain⟨x,hx⟩: ∃x,t.init[k]? =some x:=⟨_,List.getElem?_eq_getElem hlt⟩
    obtain⟨p0,p1,p2,p3,p4⟩:=(HI.out.init.below E).ini hx;have ix:=HI.out.init.idx inil cIni_len k hlt t.ic;have hxl:=HI.out.locs x (List.mem_of_getElem? hx);have hxw:=HI.out.wide x (List.mem_of_getElem? hx);have HX:=hid hx;have HXW:=hid (And.intro hxl hxw);have HKY:=hid (keyT' (keyI x) hxw.1 hxw.2 hxl.1);have FS:=hid (fun w=>fileFirst t x hxl.1 hxl.2 hcn w);obtain⟨f,hf⟩: ∃f,firstB t.arch t.code.length x=f:=⟨_,rfl⟩;rw[hf]at FS;have HF:=hid hf;clear hx hf hxl hxw
    go_upto_region 8 with(fail)
    have A3:=al wr (mkIni x);have A4:=bel_alloc A3 (mkTh ⟨x.thread,x.reg,x.loc⟩);have x0:BxL (wr.alloc (mkIni x)) wr.heap.size (cIni x):=BxL.new _ _ _;have x0:=x0.below (al (wr.alloc (mkIni x)) (mkTh ⟨x.thread,x.reg,x.loc⟩));have y0:BxL ((wr.alloc (mkIni x)).alloc (mkTh ⟨x.thread,x.reg,x.loc⟩)) (wr.alloc (mkIni x)).heap.size (cTh ⟨x.thread,x.reg,x.loc⟩):=BxL.new _ _ _;rw[show(wr.alloc (mkIni x)).heap.size=wr.heap.size+1 by simp]at y0;generalize (wr.alloc (mkIni x)).alloc (mkTh ⟨x.thread,x.reg,x.loc⟩)=W5 at*;have E:=E.trans (A4.mono E.size);have hM:=hM.below A4;clear p0 p1 p2 p3 p4 ix A3 A4;obtain⟨c0,c1,c2,c3,c4,c5,c6,c7,c8,c9,c10,c11⟩:=(b0.below E).cells;have i0:=x0.get 0 _ rfl;have i1:=x0.get 1 _ rfl;have i2:=x0.get 2 _ rfl;have i3:=x0.get 3 _ rfl;have i4:=x0.get 4 _ rfl;have j0:=y0.get 0 _ rfl;have j1:=y0.get 1 _ rfl;have j2:=y0.get 2 _ rfl
    go_wp2_with (at_lookup;go_loud(refine wpList_lookup_own_int _ rfl _ _ 167 rfl 25 3 .i64 lawT Tryz.underlying167 Tryz.underlying3 (zeroN _) mb k D rfl hM _ _ rfl HKY.out ?_))
    intro cc hat hwf;have HAT:=hid hat;clear hat hwf
    by_cases hdup: ∃(i:Nat) (y:Ini),i<k/\t.init[i]? =some y/\keyI y=keyI x
    ·have hc:0<cc:=by
      obtain⟨i,y,h1,h2,h3⟩:=hdup;obtain⟨c,hc,-, h4⟩:=(HK.out.2.2 (keyI x) HXW.out.2.1 HXW.out.2.2 HXW.out.1.1).1 i y h1 h2 h3;have h5:=HAT.out;rw[h4]at h5;cases h5;exact hc
     have HZ:=hid (show begunE t=130 by
      obtain⟨i,y,h1,h2,h3⟩:=hdup;exact begunE_twice HNN.out h1 h2 HX.out h3)
     have zc:decide (0<cc)=true:=decide_eq_true hc;clear hdup;go_wp2_with fail;go_ret;rw[HZ.out];exact⟨rfl,HA.out.trans (E.mono HA.out.size)⟩
    ·have hc:cc=0:=by
      have h4:=(HK.out.2.2 (keyI x) HXW.out.2.1 HXW.out.2.2 HXW.out.1.1).2 (fun i y h1 h2 h3=>hdup ⟨i,y,h1,h2,h3⟩);have h5:=HAT.out;rw[h4]at h5;cases h5;rfl
     subst hc;have HND:=hid hdup;clear hdup HAT;go_wp2_with fail;refine(FS.out _).mono ?_;rintro e w6 ⟨rfl,E6⟩;have E:=E.trans (E6.mono E.size);have hM:=hM.below E6;have x0:=x0.below E6;have y0:=y0.below E6;clear c0 c1 c2 c3 c4 c5 c6 c7 c8 c9 c10 c11 i0 i1 i2 i3 i4 j0 j1 j2 E6 FS;have j0:=y0.get 0 _ rfl;have j1:=y0.get 1 _ rfl;have j2:=y0.get 2 _ rfl;cases f with
     | false=>
       have HZ:=hid (begunE_first HNN.out HX.out HF.out);go_wp2_with fail;go_ret;rw[HZ.out];exact⟨rfl,HA.out.trans (E.mono HA.out.size)⟩
     | true=>
       have HK2:=hid (And.intro (HK.out.1.snoc HX.out HF.out) (And.intro (HK.out.2.1.snoc HX.out (fun i y h1 h2 h3=>HND.out ⟨i,y,h1,h2,h3⟩)) (HK.out.2.2.put (World.ownsMap.isMap hM) HX.out (by omega) HXW.out.2.1 HXW.out.2.2 HXW.out.1.1)));clear HK
       go_wp2_with (at_mapUpdate;go_loud(refine wpList_mapUpdate_own _ rfl _ _ _ 167 rfl 25 3 lawT Tryz.underlying167 _ mb k D rfl hM (by unfold maxLen;omega) _ _ _ rfl rfl HKY.out _ [] (plainElem_int Tryz.underlying3 (WalkArith.wf_i64 (by omega))) ?_))
       intro w7 hM7 hg7;have hM7:Seen w7 mb (k+1) _:=hM7;have E7:Below W1.heap.size W1 w7:=E.grown hg7 E.size (by intro q hq;cases hq;have:=HMB.out;omega);clear hM hg7 E j0 j1 j2 x0 y0;go_wp2_with fail
       go_roundw
       case rel=>exact⟨k+1,_,by omega,by go_num,E7,hM7,HK2⟩
       case measure=>simp[intOf];omega
   ·obtain rfl:k=t.init.length:=by omega
    have HZ:=hid (begunE_ok HNN.out HK.out.1 HK.out.2.1);go_wp2_with fail;go_ret;rw[HZ.out];exact⟨rfl,HA.out.trans (E.mono HA.out.size)⟩
end Go.Proofs.YtkbbgjloifmmbaaGreatDoor
namespace Go.Proofs.YtkbbgjloifmmbaaGreatDoor
open Go.RowKit Go.Sort
theorem fileCoded(t:Tst)(ha:archB t.arch=true)(w:World)(h:TsIn w t):Calls Tryz.prog 69 #[vT t] w (Ret w (.int .i64 (codedE t))):=by
 have:t.arch=1\/t.arch=2:=by unfold archB at ha;simpa using ha
 rcases this with h1|h1
 ·exact fileCoded_1 t h1 w h
 ·exact fileCoded_2 t h1 w h
theorem cycleB_flush(l:Tx):((tx (Lib.trimB l 32)).toList==(tx l).toList)=flushB l:=by
 rw[tx_beq,Bool.eq_iff_iff,beq_iff_eq];exact trimB_self l
theorem fileCheck(t:Tst)(w:World)(h:TsIn w t):Calls Tryz.prog 25 #[vT t] w (Ret w (.int .i64 (tstE t))):=by
 have A:=al w (mkT t);have b0:=BxT.new w t;have HI:=hid (h.keep A);have HA:=hid A;obtain⟨ab,hab⟩: ∃ab,archB t.arch=ab:=⟨_,rfl⟩;have CA:=hid (show ∀w,Calls Tryz.prog 66 #[.int .i64 t.arch] w fun e w'=>e= .returned (.bool ab)/\w=w' from fun w=>hab▸fileKnown t.arch w);obtain⟨tb,htb⟩: ∃tb,showB 33 t.name=tb:=⟨_,rfl⟩;have CT:=hid (show ∀w,Calls Tryz.prog 67 #[.string (tx t.name),.int .u8 33] w fun e w'=>e= .returned (.bool tb)/\w=w' from fun w=>htb▸fileShown 33 (by omega) (by omega) t.name h.name w);obtain⟨cb,hcb⟩: ∃cb,showB 32 t.cycle=cb:=⟨_,rfl⟩;have CC:=hid (show ∀w,Calls Tryz.prog 67 #[.string (tx t.cycle),.int .u8 32] w fun e w'=>e= .returned (.bool cb)/\w=w' from fun w=>hcb▸fileShown 32 (by omega) (by omega) t.cycle h.cycle w);have CF:=hid (fun w=>trim_blank t.cycle h.cycle w);obtain⟨fb,hfb⟩: ∃fb,flushB t.cycle=fb:=⟨_,rfl⟩;have zf:((tx (Lib.trimB t.cycle 32)).toList==(tx t.cycle).toList)=fb:=by rw[cycleB_flush,hfb]
 have hs1:(tx t.name).size=t.name.length:=tx_size _;have hs2:(tx t.cycle).size=t.cycle.length:=tx_size _;have hl1:=h.name;have hl2:=h.cycle;have HB:=hid hab;have HTB:=hid (show titleB t.name=(decide (1<=t.name.length)&&(decide (t.name.length<=1024)&&tb)) by unfold titleB;rw[htb]);have HCB:=hid (show cycleB t.cycle=(decide (t.cycle.length<=262144)&&(cb&&fb)) by unfold cycleB;rw[hcb,hfb]);clear h A hab htb hcb hfb;cases ab with
 | false=>
   have HZ:=hid (tstE_arch HB.out);clear hs1 hs2 zf;go_enter Tryz.func25,Tryz.ntmps25
   go_upto_region 1 with(fail)
   generalize w.alloc (mkT t)=W1 at*;obtain⟨c0,c1,c2,c3,c4,c5,c6,c7,c8,c9,c10,c11⟩:=b0.cells
   go_wp2_with (go_at_call 66;refine(CA.out _).mono ?_;rintro e w' ⟨rfl,rfl⟩)
   go_ret;rw[HZ.out];exact⟨rfl,HA.out⟩
 | true=>
   obtain⟨n1,hn1⟩: ∃n,t.name.length=n:=⟨_,rfl⟩;rw[hn1]at hs1 HTB hl1;clear hn1
   by_cases hT:n1<1\/1024<n1\/tb=false
   ·have HZ:=hid (tstE_text HB.out (show _=false by
     rw[HTB.out];rcases hT with h|h|h
     ·rw[decide_eq_false (by omega)];rfl
     ·rw[decide_eq_false (show ¬n1<=1024 by omega)];simp
     ·rw[h];simp))
    clear HTB HCB
    have hT3:n1<1\/1024<n1\/(1<=n1/\n1<=1024/\tb=false):=by
     rcases hT with h|h|h
     ·exact .inl h
     ·exact .inr (.inl h)
     ·by_cases h1:n1<1
      ·exact .inl h1
      ·by_cases h2:1024<n1
       ·exact .inr (.inl h2)
       ·exact .inr (.inr ⟨by omega,by omega,h⟩)
    clear hT hs2 zf;go_enter Tryz.func25,Tryz.ntmps25
    go_upto_region 1 with(fail)
    generalize w.alloc (mkT t)=W1 at*;obtain⟨c0,c1,c2,c3,c4,c5,c6,c7,c8,c9,c10,c11⟩:=b0.cells;rcases hT3 with h|h|⟨h,h',h''⟩
    rotate_left 2
    ·subst h''
     go_wp2_with (first|(go_at_call 66;refine(CA.out _).mono ?_;rintro e w' ⟨rfl,rfl⟩)|(go_at_call 67;refine(CT.out _).mono ?_;rintro e w' ⟨rfl,rfl⟩))
     go_ret;rw[HZ.out];exact⟨rfl,HA.out⟩
    all_goals
     go_wp2_with (go_at_call 66;refine(CA.out _).mono ?_;rintro e w' ⟨rfl,rfl⟩)
     go_ret;rw[HZ.out];exact⟨rfl,HA.out⟩
   ·have h11:1<=n1:=by omega
    have h12:n1<=1024:=by omega
    obtain rfl:tb=true:=by cases tb with|true=>rfl|false=>exact absurd (.inr (.inr rfl)) hT
    have HTB2:=hid (show titleB t.name=true by rw[HTB.out,decide_eq_true h11,decide_eq_true h12];rfl);clear hT HTB;obtain⟨n2,hn2⟩: ∃n,t.cycle.length=n:=⟨_,rfl⟩;rw[hn2]at hs2 HCB hl2;clear hn2;obtain⟨ok,hok⟩: ∃ok,(decide (n2<=262144)&&(cb&&fb))=ok:=⟨_,rfl⟩;have HOK:=hid (show(titleB t.name&&cycleB t.cycle)=ok by rw[HTB2.out,HCB.out,hok];rfl);clear HTB2 HCB;go_enter Tryz.func25,Tryz.ntmps25
    go_upto_region 1 with(fail)
    generalize w.alloc (mkT t)=W1 at*;obtain⟨c0,c1,c2,c3,c4,c5,c6,c7,c8,c9,c10,c11⟩:=b0.cells
    go_upto_region 5 with(first|(go_at_call 66;refine(CA.out _).mono ?_;rintro e w' ⟨rfl,rfl⟩)|(go_at_call 67;refine(CT.out _).mono ?_;rintro e w' ⟨rfl,rfl⟩))
    have cA:=fun(d:Nat) (os:Array Obj)=>Calls.regrown_of (retc' ((CC.out (grow (redrawn W1 d) os)).mono fun e w' hh=>⟨hh.1,by rw[<-hh.2];exact Below.refl _ _⟩))
    have cB:=fun(d:Nat) (os:Array Obj)=>Calls.regrown_of (retc' (CF.out (grow (redrawn W1 d) os)))
    have hsz:(n2:Int)=t.cycle.length->True:=fun _=>trivial
    have c2r:=cell_regrown c2;clear hsz
    by_cases h262:262144<n2
    ·have d2:decide (262144<(n2:Int))=true:=by simp;omega
     have HZ:=hid (tstE_text HB.out (show _=false by rw[HOK.out,<-hok,decide_eq_false (by omega)];rfl));clear hok;refine wp_region_quiet_below (by kernel_rfl) (by kernel_rfl) ?_
     repeat(go_big_quiet_step (first|exact cA _ _|exact cB _ _))
     refine wpQuiet_nil ?_;intro _ hw';obtain⟨⟨dq,osq⟩,hw''⟩:=hw';subst hw'';have EQ:=below_regrown W1 dq osq;go_wp2_with fail;go_ret;rw[HZ.out];exact⟨rfl,HA.out.trans (EQ.mono HA.out.size)⟩
    ·have h262':n2<=262144:=by omega
     have d2:decide (262144<(n2:Int))=false:=by simp;omega
     rw[decide_eq_true h262',Bool.true_and]at hok;cases cb with
     | false=>
       have HZ:=hid (tstE_text HB.out (show _=false by rw[HOK.out,<-hok];rfl));clear hok;refine wp_region_quiet_below (by kernel_rfl) (by kernel_rfl) ?_
       repeat(go_big_quiet_step (first|exact cA _ _|exact cB _ _))
       refine wpQuiet_nil ?_;intro _ hw';obtain⟨⟨dq,osq⟩,hw''⟩:=hw';subst hw'';have EQ:=below_regrown W1 dq osq;go_wp2_with fail;go_ret;rw[HZ.out];exact⟨rfl,HA.out.trans (EQ.mono HA.out.size)⟩
     |true=>
     cases fb with
     | false=>
       have HZ:=hid (tstE_text HB.out (show _=false by rw[HOK.out,<-hok];rfl));clear hok;refine wp_region_quiet_below (by kernel_rfl) (by kernel_rfl) ?_
       repeat(go_big_quiet_step (first|exact cA _ _|exact cB _ _))
       refine wpQuiet_nil ?_;intro _ hw';obtain⟨⟨dq,osq⟩,hw''⟩:=hw';subst hw'';have EQ:=below_regrown W1 dq osq;go_wp2_with fail;go_ret;rw[HZ.out];exact⟨rfl,HA.out.trans (EQ.mono HA.out.size)⟩
     |true=>
     obtain rfl:ok=true:=by rw[<-hok];rfl
     clear hok;refine wp_region_quiet_below (by kernel_rfl) (by kernel_rfl) ?_
     repeat(go_big_quiet_step (first|exact cA _ _|exact cB _ _))
     refine wpQuiet_nil ?_;intro _ hw';obtain⟨⟨dq,osq⟩,hw''⟩:=hw';subst hw'';have E:=below_regrown W1 dq osq;generalize grow (redrawn W1 dq) osq=W5 at*;clear c0 c1 c2 c3 c4 c5 c6 c7 c8 c9 c10 c11 c2r cA cB zf hs2 CC CF CT CA d2;obtain⟨c0,c1,c2,c3,c4,c5,c6,c7,c8,c9,c10,c11⟩:=(b0.below E).cells;have CO:=fileCoded t HB.out W5 (HI.out.keep E);obtain⟨e1,he1⟩: ∃e1,codedE t=e1:=⟨_,rfl⟩;rw[he1]at CO;have CO:=hid CO;have HE1:=hid he1;clear he1;go_wp2_with fail;refine CO.out.mono ?_;rintro e w2 ⟨rfl,E2⟩;have E:=E.trans (E2.mono E.size);clear c0 c1 c2 c3 c4 c5 c6 c7 c8 c9 c10 c11 CO E2
     by_cases h1:e1=0
     rotate_left
     ·have z:(e1 != 0)=true:=by simpa using h1
      have HZ:=hid (show tstE t=e1 by rw[tstE_coded HB.out HOK.out (by rw[HE1.out];exact h1),HE1.out]);clear h1;go_wp2_with fail;go_ret;rw[HZ.out];exact⟨rfl,HA.out.trans (E.mono HA.out.size)⟩
     subst h1;obtain⟨k1,k2,k3⟩:=coded_ok HE1.out;have HK3:=hid k3;obtain⟨c0,c1,c2,c3,c4,c5,c6,c7,c8,c9,c10,c11⟩:=(b0.below E).cells;have CO:=fileBegun t (by omega) w2 (HI.out.keep E);obtain⟨e2,he2⟩: ∃e2,begunE t=e2:=⟨_,rfl⟩;rw[he2]at CO;have CO:=hid CO;have HE2:=hid he2;clear he2 k3;go_wp2_with fail;refine CO.out.mono ?_;rintro e w3 ⟨rfl,E3⟩;have E:=E.trans (E3.mono E.size);clear c0 c1 c2 c3 c4 c5 c6 c7 c8 c9 c10 c11 CO E3
     by_cases h2:e2=0
     rotate_left
     ·have z:(e2 != 0)=true:=by simpa using h2
      have HZ:=hid (show tstE t=e2 by rw[tstE_begun HB.out HOK.out HE1.out (by rw[HE2.out];exact h2),HE2.out]);clear h2;go_wp2_with fail;go_ret;rw[HZ.out];exact⟨rfl,HA.out.trans (E.mono HA.out.size)⟩
     subst h2;have k4:=begun_ok HE2.out;have HT:=hid (tstE_ask HB.out HOK.out HE1.out HE2.out);obtain⟨c0,c1,c2,c3,c4,c5,c6,c7,c8,c9,c10,c11⟩:=(b0.below E).cells;have CO:=condCheck t.arch t.q t.node w3 (HI.out.keep E).node;obtain⟨e3,he3⟩: ∃e3,condE t.arch t.q t.node=e3:=⟨_,rfl⟩;rw[he3]at CO;have CO:=hid CO;have HAE:=hid (show askE t=if e3≠0 then e3 else if(askT t).any fun x=>decide ((t.code.length:Int)<=x.thread)then 80 else 0 by unfold askE;rw[he3]);clear he3;go_wp2_with fail;refine CO.out.mono ?_;rintro e w4 ⟨rfl,E4⟩;have E:=E.trans (E4.mono E.size);clear c0 c1 c2 c3 c4 c5 c6 c7 c8 c9 c10 c11 CO E4
     by_cases h3:e3=0
     rotate_left
     ·have z:(e3 != 0)=true:=by simpa using h3
      have HZ:=hid (show tstE t=e3 by
       have:askE t=e3:=by rw[HAE.out,if_pos h3]
       rw[HT.out,this,if_pos h3])
      clear h3;go_wp2_with fail;go_ret;rw[HZ.out];exact⟨rfl,HA.out.trans (E.mono HA.out.size)⟩
     subst h3;have HAE:=hid (show askE t=if(askT t).any fun x=>decide ((t.code.length:Int)<=x.thread)then 80 else 0 by rw[HAE.out,if_neg (by omega)]);obtain⟨c0,c1,c2,c3,c4,c5,c6,c7,c8,c9,c10,c11⟩:=(b0.below E).cells;have TH:=hid (fileAsked t w4 (HI.out.node.keep E));have htl:(askT t).length<=1024:=thingsC_len t.q t.node;obtain⟨T,hT⟩: ∃T,askT t=T:=⟨_,rfl⟩;rw[hT]at TH htl HAE;clear hT;go_wp2_with fail;refine TH.out.mono ?_;rintro e w5 ⟨a2,c2',rfl,o2,E5⟩;have els:=(Own.els o2 cTh_len (by omega) (by omega)).1;have E:=E.trans (E5.mono E.size);clear c0 c1 c2 c3 c4 c5 c6 c7 c8 c9 c10 c11 o2 E5 TH;go_wp2_with fail
     go_loopw [67] (fun i wr=> ∃j:Nat,j<=T.length/\i= .int .i64 j/\Below W1.heap.size W1 wr/\Els cTh wr a2 T/\Hid (∀(m:Nat) (x:Th),m<j->T[m]? =some x->x.thread<t.code.length)) (fun i _=>T.length-(intOf i).toNat)
     case atStart=>exact⟨0,by omega,rfl,E,els,fun m x hm=>absurd hm (Nat.not_lt_zero m)⟩
     case round=>
      clear E els;obtain⟨j,hj,rfl,E,els,HJ⟩:=hrel
      by_cases hjt:j<T.length
      ·obtain⟨x,hx⟩: ∃x,T[j]? =some x:=⟨_,List.getElem?_eq_getElem hjt⟩
       obtain⟨q0,q1,q2⟩:=els.th hx;have ix:=els.idx thl cTh_len j hjt c2';have HX:=hid hx;clear hx
       go_upto_region 19 with(fail)
       have A3:=al wr (mkTh x);have x0:BxL (wr.alloc (mkTh x)) wr.heap.size (cTh x):=BxL.new _ _ _;generalize wr.alloc (mkTh x)=W7 at*;have E:=E.trans (A3.mono E.size);have els:=els.below A3;have i0:=x0.get 0 _ rfl;clear q0 q1 q2 ix A3;obtain⟨c0,c1,c2,c3,c4,c5,c6,c7,c8,c9,c10,c11⟩:=(b0.below E).cells
       by_cases hth:(t.code.length:Int)<=x.thread
       ·have HZ:=hid (show tstE t=80 by
         have h9:askE t=80:=by rw[HAE.out,if_pos];rw[List.any_eq_true];exact⟨x,List.mem_of_getElem? HX.out,by simpa using hth⟩
         rw[HT.out,h9];simp)
        go_wp2_with fail;go_ret;rw[HZ.out];exact⟨rfl,HA.out.trans (E.mono HA.out.size)⟩
       ·have hth':x.thread<t.code.length:=by omega
        have HJ2: ∀(m:Nat) (y:Th),m<j+1->T[m]? =some y->y.thread<t.code.length:=fun m y hm hy=>by
         rcases Nat.lt_succ_iff_lt_or_eq.1 hm with h|h
         ·exact HJ.out m y h hy
         ·subst h;rw[HX.out]at hy;cases hy;exact hth'
        have HJ2:=hid HJ2;clear HJ;go_wp2_with fail
        go_roundw
        case rel=>exact⟨j+1,by omega,by go_num,E,els,HJ2⟩
        case measure=>simp[intOf];omega
      ·obtain rfl:j=T.length:=by omega
       have HZ0:=hid (show askE t=0 by
        rw[HAE.out,if_neg];rw[List.any_eq_true];rintro⟨x,hx,h2⟩;obtain⟨k,hk⟩:=List.mem_iff_getElem?.1 hx;have:=HJ.out k x (List.getElem?_eq_some_iff.1 hk).1 hk;simp at h2;omega)
       have HT2:=hid (show tstE t=if 64<(namesT t).length then 2 else 0 by rw[HT.out,HZ0.out,if_neg (by omega)]);obtain⟨c0,c1,c2,c3,c4,c5,c6,c7,c8,c9,c10,c11⟩:=(b0.below E).cells;have LO:=hid (fileNames t k4 k2 HK3.out wr (HI.out.keep E));clear hjt hj;go_wp2_with fail;refine LO.out.mono ?_;rintro e w8 ⟨a8,c8',rfl,t8,E8⟩;have E:=E.trans (E8.mono E.size);have hcap:=t8.len;clear c0 c1 c2 c3 c4 c5 c6 c7 c8 c9 c10 c11 LO E8 t8
       by_cases h64:64<(namesT t).length
       ·have HZ:=hid (show tstE t=2 by rw[HT2.out,if_pos h64])
        go_wp2_with fail;go_ret;rw[HZ.out];exact⟨rfl,HA.out.trans (E.mono HA.out.size)⟩
       ·have HZ:=hid (show tstE t=0 by rw[HT2.out,if_neg h64])
        go_wp2_with fail;go_ret;rw[HZ.out];exact⟨rfl,HA.out.trans (E.mono HA.out.size)⟩
section
variable {w1 w:World} {s:Tx} {k rb:Nat} {t:Tst}
theorem rdHead'(h:w1.heap.size=rb)(R:RdS w1 w s k t):Calls Tryz.prog 27 #[.pointer (some ⟨rb,0,none⟩)] w (RetHd (headP s.length (s.drop k)) w1 w s t):=by subst h;exact readHead R
theorem rdCycle'(h:w1.heap.size=rb)(R:RdS w1 w s k t)(hcy:t.cycle=[]):Calls Tryz.prog 28 #[.pointer (some ⟨rb,0,none⟩)] w (RetCy (cycleP s.length (s.drop k)) w1 w s t):=by subst h;exact readCycle R hcy
theorem rdInits'(h:w1.heap.size=rb)(R:RdS w1 w s k t)(ha:archB t.arch=true)(h0:t.ia=none/\t.ic=0/\t.init=[]):Calls Tryz.prog 29 #[.pointer (some ⟨rb,0,none⟩)] w (RetIns (initsP t.arch s.length (s.drop k)) w1 w s t):=by subst h;exact readInits R ha h0
theorem rdTable'(h:w1.heap.size=rb)(R:RdS w1 w s k t)(ha:archB t.arch=true)(h0:t.ca=none/\t.cc=0/\t.code=[]):Calls Tryz.prog 30 #[.pointer (some ⟨rb,0,none⟩)] w (RetTb (tableP t.arch s.length (s.drop k)) w1 w s t):=by subst h;exact readTable R ha h0
theorem rdCond'(h:w1.heap.size=rb)(R:RdS w1 w s k t)(ha:archB t.arch=true):Calls Tryz.prog 31 #[.pointer (some ⟨rb,0,none⟩)] w (RetCn (condP t.arch s.length (s.drop k)) w1 w s k t):=by subst h;exact rdCond R ha
theorem RdS.cells(h:RdS w1 w s k t)(hr:w1.heap.size=rb):w.cell? ⟨rb,2,none⟩=some (.int .i64 t.arch)/\w.cell? ⟨rb,3,none⟩=some (.string (tx t.name))/\w.cell? ⟨rb,4,none⟩=some (.string (tx t.cycle))/\w.cell? ⟨rb,5,none⟩=some (.slice t.ia t.init.length t.ic)/\w.cell? ⟨rb,6,none⟩=some (.slice t.ca t.code.length t.cc)/\w.cell? ⟨rb,7,none⟩=some (.int .i64 t.q)/\w.cell? ⟨rb,8,none⟩=some (.int .i64 t.node.kind)/\w.cell? ⟨rb,9,none⟩=some (.int .i64 t.node.th.thread)/\w.cell? ⟨rb,10,none⟩=some (.int .i64 t.node.th.reg)/\w.cell? ⟨rb,11,none⟩=some (.string (tx t.node.th.loc))/\w.cell? ⟨rb,12,none⟩=some (.int .i64 t.node.val)/\w.cell? ⟨rb,13,none⟩=some (.slice t.node.a t.node.kids.length t.node.c):=by
 subst hr;exact⟨h.bx.get 2 _ rfl,h.bx.get 3 _ rfl,h.bx.get 4 _ rfl,h.bx.get 5 _ rfl,h.bx.get 6 _ rfl,h.bx.get 7 _ rfl,h.bx.get 8 _ rfl,h.bx.get 9 _ rfl,h.bx.get 10 _ rfl,h.bx.get 11 _ rfl,h.bx.get 12 _ rfl,h.bx.get 13 _ rfl⟩
end
theorem w3F_size(w:World):(w3F w).heap.size=w.heap.size+1+1+1:=by simp
theorem parseF_long{s:Tx}(h:262144<s.length):parseF s= .error (2,0):=by unfold parseF;rw[if_pos h]
theorem rdParse_0{s:Tx}(hl:262144<s.length)(hm:s.length<=9223372036854775807)(w:World):Calls Tryz.prog 9 #[.string (tx s)] w (RetFP (parseF s) w):=by
 rw[parseF_long hl];have hsz:(tx s).size=s.length:=tx_size s;generalize tx s=u at*;have z:decide ((262144:Int)<(u.size:Int))=true:=by simp;omega
 have hm2:u.size<=9223372036854775807:=by omega
 clear hsz hl hm;have hmf: ∀(fn:Fn) (first cap:Array Value) (w:World),(Instr.makeFunc fn first cap).run Tryz.prog w= .ok (.func fn first cap) w:=fun _ _ _ _=>rfl
 go_enter_defers Tryz.func9,Tryz.ntmps9
 go_wp2_with fail;refine⟨_,by simp[results,Tryz.results9,go_sem];rfl,?_⟩;exact⟨blN,rfl⟩
theorem rdParse_1{s:Tx}(hl:s.length<=262144)(w:World)(g:Gl w):Calls Tryz.prog 9 #[.string (tx s)] w (RetFP (parseF s) w):=by
 obtain⟨Z,hZ⟩: ∃Z,parseF s=Z:=⟨_,rfl⟩;rw[hZ];have HZ:=hid hZ;clear hZ;have HL:=hid hl;have H3:=hid (w3F_size w);have RN:=hid (RdS.new (w:=w3F w) hl (g.below (below_w3F w)));obtain⟨rb,hrb⟩: ∃rb,w.heap.size+1+1+1=rb:=⟨_,rfl⟩;rw[hrb]at H3;have HD:=hid (rdHead' H3.out RN.out);rw[List.drop_zero]at HD;have hsz:(tx s).size=s.length:=tx_size s;generalize hu:tx s=u at*;have z:decide ((262144:Int)<(u.size:Int))=false:=by simp;omega
 have hm2:u.size<=9223372036854775807:=by omega
 have HRB:=hid hrb;clear hsz hl g hrb RN;have hmf: ∀(fn:Fn) (first cap:Array Value) (w:World),(Instr.makeFunc fn first cap).run Tryz.prog w= .ok (.func fn first cap) w:=fun _ _ _ _=>rfl
 go_enter_defers Tryz.func9,Tryz.ntmps9
 go_wp2_with fail;rw[HRB.out];subst hu;refine HD.out.mono ?_;rintro e w4 hq;obtain⟨S,h⟩:=hq;rcases h with⟨er,k,h1,rfl⟩|⟨a,n,r1,k1,h1,hr1,rfl,T4,R4⟩;have HE:=hid (parseF_e HL.out (body_1 h1));clear h1;unfold PanS
 rotate_left
 have HAR:=hid (headP_arch2 h1).1;have H1:=hid h1;clear h1;have CY:=hid (rdCycle' H3.out R4 rfl);rw[hr1]at CY;have T4:=hid T4;clear S HD;go_wp2_with fail;refine CY.out.mono ?_;rintro e w5 hq;obtain⟨S,h⟩:=hq;rcases h with⟨er,k,h2,rfl⟩|⟨c,r2,k2,h2,hr2,rfl,T5,R5⟩;have HE:=hid (parseF_e HL.out (body_2 H1.out h2));clear h2;unfold PanS
 rotate_left
 have H2:=hid h2;clear h2;have CI:=hid (rdInits' H3.out R5 HAR.out ⟨rfl,rfl,rfl⟩);have CI:Hid (Calls Tryz.prog _ _ w5 (RetIns (initsP a s.length (s.drop k2)) _ _ _ _)):=CI;rw[hr2]at CI;have hs5:=R5.lt;rw[H3.out]at hs5;have T5:=hid T5;clear S CY R4 hr1;go_wp2_with fail;refine CI.out.mono ?_;rintro e w6 hq;obtain⟨S,h⟩:=hq;rcases h with⟨er,k,h3,rfl⟩|⟨i,r3,k3,ia,ic,h3,hr3,rfl,T6,R6,OI⟩;have HE:=hid (parseF_e HL.out (body_3 H1.out H2.out h3));clear h3;unfold PanS
 rotate_left
 have H3i:=hid h3;clear h3;have CT:=hid (rdTable' H3.out R6 HAR.out ⟨rfl,rfl,rfl⟩);have CT:Hid (Calls Tryz.prog _ _ w6 (RetTb (tableP a s.length (s.drop k3)) _ _ _ _)):=CT;rw[hr3]at CT;have hs6:=R6.lt;rw[H3.out]at hs6;have OI:=hid OI;clear S CI R5 hr2 T6;go_wp2_with fail;refine CT.out.mono ?_;rintro e w7 hq;unfold RetTb at hq;rcases hq with⟨S,er,k,h4,rfl⟩|⟨C,r4,k4,ca,cn,h4,hr4,rfl,T7,R7,OC⟩;have HE:=hid (parseF_e HL.out (body_4 H1.out H2.out H3i.out h4));clear h4;unfold PanS
 rotate_left
 have H4:=hid h4;clear h4;have CC:=hid (rdCond' H3.out R7 HAR.out);have CC:Hid (Calls Tryz.prog _ _ w7 (RetCn (condP a s.length (s.drop k4)) _ _ _ _ _)):=CC;rw[hr4]at CC;have hs7:=R7.lt;rw[H3.out]at hs7;have OI:=hid (Own.st OI.out T7 (by rw[H3.out];omega));have OC:=hid OC;clear CT R6 hr3 T7;go_wp2_with fail;refine CC.out.mono ?_;rintro e w8 hq;unfold RetCn at hq;rcases hq with⟨S,er,k,h5,rfl⟩|⟨q,x,y,h5,hy,rfl,T8,R8,ON,hnd⟩;have HE:=hid (parseF_e HL.out (body_5 H1.out H2.out H3i.out H4.out h5));clear h5;unfold PanS
 rotate_left
 have H5:=hid h5;clear h5
 have HB:=hid (show n.length<=262144/\c.length<=262144/\(∀x∈i,SmI x)/\i.length<=1000000/\(∀D:List Cd,D.map (·.l)=C.map (·.l)-> ∀x∈D,∀i∈x.l,SmC i)/\(∀D:List Cd,D.map (·.l)=C.map (·.l)->D.length<=1000000/\ ∀x∈D,x.l.length<=1000000) by
  have hl:=HL.out;have h1:=H1.out;have h2:=H2.out;have h3:=H3i.out;have h4:=H4.out;have a1:=(headP_arch2 h1).2;have a2:=cycleP_le h2;have a3:=headP_len h1;have a4:=restS_len s;rw[<-a3]at a4
  have a5:r2.length<=r1.length:=by
   rcases cycleP_len h2 with⟨e, -⟩|e
   ·rw[e];exact Nat.le_refl _
   ·rw[e];exact restS_len _
  have a6:=initsP_few h3;have a7:=(initsP_len h3).2.2;obtain⟨b1,b2⟩:=tableP_few h4;have b3:=tableP_sm h4;refine⟨by omega,by omega,initsP_sm h3,by omega,fun C hC x hx=>?_,fun C hC=>⟨?_,fun x hx=>?_⟩⟩
  ·exact b3 x.l (by rw[<-hC];exact List.mem_map_of_mem hx)
  ·rw[<-hC,List.length_map]at b1;omega
  ·have:=b2 x.l (by rw[<-hC];exact List.mem_map_of_mem hx);omega)
 have HP:=hid (parseF_t HL.out (bodyP_ok.2 ⟨a,n,r1,c,r2,i,r3,_,r4,q,x,H1.out,H2.out,H3i.out,H4.out,H5.out,rfl⟩));obtain⟨er,he⟩: ∃er,tstE (mkTs a n c i (C.map (·.l)) q x)=er:=⟨_,rfl⟩;have HER:=hid he;clear he;obtain⟨T,hT⟩: ∃T,(⟨a,n,c,ia,ic,i,ca,cn,C,q,y⟩:Tst)=T:=⟨_,rfl⟩;have R8:RdS (w3F w) w8 s k4 T:=by rw[<-hT];exact R8
 have OI:=Own.st OI.out T8 (by rw[H3.out];omega);have OC:=OC.out.step T8 (by rw[H3.out];omega)
 have OT:OwnTs w8 (w.heap.size+3) T:=by
  have hrb:=HRB.out;rw[<-hT];exact⟨HB.out.1,HB.out.2.1,HB.out.2.2.1,HB.out.2.2.2.1,Own.mono OI (by omega),HB.out.2.2.2.2.1 C rfl,HB.out.2.2.2.2.2 C rfl,OC.mono (by omega),ON.mono (by omega),hnd⟩
 have hbare:bareT T=mkTs a n c i (C.map (·.l)) q x:=by rw[<-hT,<-hy];rfl
 have hE:tstE T=er:=by rw[<-tstE_bareT,hbare];exact HER.out
 have CK:=hid (fileCheck T w8 OT.inn);rw[hE]at CK;have hbare:=hid hbare;have OT:=hid OT;have R8:=hid R8;clear CC R7 hr4 OI OC ON hnd T8 hy hE hT;obtain⟨p2,p3,p4,p5,p6,p7,p8,p9,p10,p11,p12,p13⟩:=R8.out.cells H3.out;go_wp2_with fail;refine CK.out.mono ?_;rintro e w9 ⟨rfl,E9⟩;clear p2 p3 p4 p5 p6 p7 p8 p9 p10 p11 p12 p13 CK;have R9:=R8.out.below E9;obtain⟨v1,v2,v3,f1,f2,f3⟩:=w3F_vars R9.bel;have B9:=hid ((below_w3F w).trans (R9.bel.mono (by rw[w3F_size];omega)));have OT:=hid (OT.out.below E9);obtain⟨p2,p3,p4,p5,p6,p7,p8,p9,p10,p11,p12,p13⟩:=R9.cells H3.out;have q0:=v1.get 0 _ rfl;have q1:=v1.get 1 _ rfl;have q2:=v1.get 2 _ rfl;have q3:=v1.get 3 _ rfl;have q4:=v1.get 4 _ rfl;have q5:=v1.get 5 _ rfl;have q6:=v1.get 6 _ rfl;have q7:=v1.get 7 _ rfl;have q8:=v1.get 8 _ rfl;have q9:=v1.get 9 _ rfl;have q10:=v1.get 10 _ rfl;have q11:=v1.get 11 _ rfl;have f10:=f1 0;have f11:=f1 1;have f12:=f1 2;have f13:=f1 3;have f14:=f1 4;have f15:=f1 5;have f16:=f1 6;have f17:=f1 7;have f18:=f1 8;have f19:=f1 9;have f1a:=f1 10;have f1b:=f1 11;have f20:=f2 0;have f30:=f3 0;have hne:rb≠w.heap.size:=by have:=HRB.out;omega
 clear E9 R9 R8 v1 f1 f2 f3
 ·by_cases h0:er=0
  ·have HZ:=HZ.out
   rw[HP.out,if_pos (by rw[HER.out];exact h0)]at HZ;subst HZ;have z0:(er==0)=true:=by rw[h0];rfl
   clear h0;go_wp2_with fail;refine leaves_cons (f:=26) (args:=#[.pointer (some ⟨w.heap.size,0,none⟩),.pointer (some ⟨w.heap.size+1,0,none⟩),.pointer (some ⟨w.heap.size+1+1,0,none⟩)]) (by simp) (by simp[go_sem]) ?_;refine(read_idle ⟨w.heap.size,0,none⟩ ⟨w.heap.size+1,0,none⟩ ⟨w.heap.size+1+1,0,none⟩ _).mono ?_;rintro e u' w6 ⟨rfl,rfl,rfl⟩;refine⟨.tuple #[vT T,.int .i64 0,.int .i64 0],by simp[results,Tryz.results9,go_sem,q0,q1,q2,q3,q4,q5,q6,q7,q8,q9,q10,q11,v2,v3],?_⟩;exact finF B9.out OT.out hbare.out rfl ((PutB.refl _ _).put 0 _) ((PutB.refl _ _).put 0 _) (((((((((((((PutB.refl _ _).put 0 _).put 1 _).put 2 _).put 3 _).put 4 _).put 5 _).put 6 _).put 7 _).put 8 _).put 9 _).put 10 _).put 11 _)
  ·have HZ:=HZ.out
   rw[HP.out,if_neg (by rw[HER.out];exact h0),HER.out]at HZ;subst HZ;have z0:(er != 0)=true:=by simpa using h0
   clear h0;go_wp2_with fail;refine leaves_cons (f:=26) (args:=#[.pointer (some ⟨w.heap.size,0,none⟩),.pointer (some ⟨w.heap.size+1,0,none⟩),.pointer (some ⟨w.heap.size+1+1,0,none⟩)]) (by simp) (by simp[go_sem]) ?_;refine(read_idle ⟨w.heap.size,0,none⟩ ⟨w.heap.size+1,0,none⟩ ⟨w.heap.size+1+1,0,none⟩ _).mono ?_;rintro e u' w6 ⟨rfl,rfl,rfl⟩;refine⟨.tuple #[zTv,.int .i64 er,.int .i64 0],by simp[results,Tryz.results9,go_sem,q0,q1,q2,q3,q4,q5,q6,q7,q8,q9,q10,q11,v2,v3],?_⟩;exact finE (k:=0) B9.out rfl ((PutB.refl _ _).put 0 _) ((PutB.refl _ _).put 0 _) (((((((((((((PutB.refl _ _).put 0 _).put 1 _).put 2 _).put 3 _).put 4 _).put 5 _).put 6 _).put 7 _).put 8 _).put 9 _).put 10 _).put 11 _)
 all_goals
  have HZ:=HZ.out;rw[HE.out]at HZ;subst HZ;obtain⟨v1,v2,v3,f1,f2,f3⟩:=w3F_vars S;have B4:Below w.heap.size w _:=(below_w3F w).trans (S.mono (by rw[w3F_size];omega));clear S;refine leaves_cons (f:=26) (args:=#[.pointer (some ⟨w.heap.size,0,none⟩),.pointer (some ⟨w.heap.size+1,0,none⟩),.pointer (some ⟨w.heap.size+1+1,0,none⟩)]) (by simp) (by simp[go_sem]) ?_;refine(read_stop w.heap.size (w.heap.size+1) (w.heap.size+1+1) _ _ _ [] _ _ _ rfl v1 v2 v3 f1 (f2 0) (f3 0) (by omega) (by omega) (by omega)).mono ?_;rintro e u' w9 ⟨rfl,rfl,hB,hx,hq,hr⟩;have p0:=hx.get 0 _ rfl;have p1:=hx.get 1 _ rfl;have p2:=hx.get 2 _ rfl;have p3:=hx.get 3 _ rfl;have p4:=hx.get 4 _ rfl;have p5:=hx.get 5 _ rfl;have p6:=hx.get 6 _ rfl;have p7:=hx.get 7 _ rfl;have p8:=hx.get 8 _ rfl;have p9:=hx.get 9 _ rfl;have p10:=hx.get 10 _ rfl;have p11:=hx.get 11 _ rfl;refine⟨.tuple #[zTv,.int .i64 er,.int .i64 k],by simp[results,Tryz.results9,go_sem,p0,p1,p2,p3,p4,p5,p6,p7,p8,p9,p10,p11,hq,hr],?_⟩;exact⟨B4.trans (hB _ (Nat.le_refl _) (by omega) (by omega)),rfl⟩
theorem rdParse(s:Tx)(hm:s.length<=9223372036854775807)(w:World)(g:Gl w):Calls Tryz.prog 9 #[.string (tx s)] w (RetFP (parseF s) w):=by
 rcases Nat.lt_or_ge 262144 s.length with hl|hl
 ·exact rdParse_0 hl hm w
 ·exact rdParse_1 hl w g
end Go.Proofs.YtkbbgjloifmmbaaGreatDoor
namespace Go.Proofs.YtkbbgjloifmmbaaGreatDoor
def sbT:Tx:=[88,56,54,32,32,32,83,66,10,34,70,114,101,32,80,111,100,87,82,32,70,114,101,32,80,111,100,87,82,34,10,123,32,120,61,48,59,32,91,121,93,32,61,32,48,32,125,10,80,48,124,80,49,59,10,77,79,86,32,91,120,93,44,36,49,124,77,79,86,32,91,121,93,32,44,32,36,49,59,10,124,59,10,77,79,86,32,69,65,88,44,91,121,93,124,77,79,86,32,69,65,88,44,91,120,93,59,10,101,120,105,115,116,115,32,40,48,58,69,65,88,61,48,32,47,92,10,49,58,69,65,88,61,48,41,10]
def armT:Tx:=[65,82,77,32,83,66]
def badT:Tx:=[88,56,54,32,83,66,10,123,120,61,59,125]
def okSB(p:EP Tst):Bool:=match p with
 | .ok t=>(t.name==[83,66])&&((t.code.length==2)&&(((t.code[1]?).map (fun c=>c.l.length)==some 2)&&(t.init.length==2)))
 | .error _=>false
def errP(p:EP Tst):Int × Nat:=match p with
 | .ok _=>(0,0)
 | .error x=>x
theorem sb_ok:okSB (parseF sbT)=true:=by decide+kernel
theorem arm_no:errP (parseF armT)=(5,0):=by decide+kernel
theorem bad_no:errP (parseF badT)=(140,8):=by decide+kernel
theorem sb_parse: ∃t,parseF sbT= .ok t/\t.name=[83,66]/\t.code.length=2/\(∃c,t.code[1]? =some c/\c.l.length=2)/\t.init.length=2:=by
 have h:=sb_ok;cases e:parseF sbT with
 |error x=>rw[e]at h;cases h
 | ok t=>
   rw[e]at h;unfold okSB at h;simp only[Bool.and_eq_true,beq_iff_eq]at h;obtain⟨h1,h2,h3,h4⟩:=h;refine⟨t,rfl,h1,h2,?_,h4⟩;cases hc:t.code[1]? with
   |none=>rw[hc]at h3;cases h3
   |some c=>rw[hc]at h3;exact⟨c,rfl,by simpa using h3⟩
theorem err_of{s:Tx}{n:Int}{k:Nat}(h:errP (parseF s)=(n,k))(hn:n≠0):parseF s= .error (n,k):=by
 cases e:parseF s with
 |error x=>rw[e]at h;exact congrArg _ h
 |ok t=>rw[e]at h;exact absurd (congrArg Prod.fst h).symm hn
theorem arm_parse:parseF armT= .error (5,0):=err_of arm_no (by decide)
theorem bad_parse:parseF badT= .error (140,8):=err_of bad_no (by decide)
end Go.Proofs.YtkbbgjloifmmbaaGreatDoor
namespace Go.Proofs.YtkbbgjloifmmbaaGreatDoor
open Go.RowKit Go.Sort
theorem awake14(w:World)(g:Gl w):Calls Tryz.prog 14 #[] w (Ret w (.bool true)):=by
 have HG:=hid g;obtain⟨T,hT,t1,t2,⟨c,hc,t3⟩,t4⟩:=sb_parse;have PA:=hid (fun(w:World) (g:Gl w)=>hT▸rdParse sbT (by decide+kernel) w g);have PB:=hid (fun(w:World) (g:Gl w)=>arm_parse▸rdParse armT (by decide+kernel) w g);have PC:=hid (fun(w:World) (g:Gl w)=>bad_parse▸rdParse badT (by decide+kernel) w g)
 have HB:=hid (show ∀y:Tst,bareT y=T->y.name=[83,66]/\y.code.length=2/\(∃d,y.code[1]? =some d/\d.l.length=2)/\y.init.length=2 from fun y hy=>by
  subst hy;refine⟨t1,by simpa[bareT,mkTs,codL]using t2,?_,t4⟩;unfold bareT mkTs codL at hc;simp only[List.map_map]at hc;rw[List.getElem?_map]at hc;cases hd:y.code[1]? with
  |none=>rw[hd]at hc;cases hc
  | some d=>
    rw[hd]at hc;refine⟨d,rfl,?_⟩;rw[<-t3,<-Option.some.inj hc];rfl)
 clear hT t1 t2 t3 t4 hc g;go_enter Tryz.func14,Tryz.ntmps14;go_wp2_with fail;refine(PA.out _ HG.out).mono ?_;rintro e w1 ⟨E1,y,hy,rfl,hO⟩;obtain⟨y1,y2,⟨d,hd,y3⟩,y4⟩:=HB.out y hy;have HY:=hid (And.intro y1 (And.intro y2 (And.intro hd (And.intro y3 y4))));have HO:=hid (hO.below (al w1 (mkT y))).inn;have b0:=BxT.new w1 y;have EA:=hid (E1.trans ((al w1 (mkT y)).mono E1.size));clear hy hO E1 y1 y2 hd y3 y4 PA HB;go_wp2_with fail;refine(PB.out _ (HG.out.below EA.out)).mono ?_;rintro e w2 ⟨E2,rfl⟩;have EB:=hid (EA.out.trans ((E2.trans ((al w2 zTo).mono E2.size)).mono EA.out.size));have E2:=hid (E2.trans ((al w2 zTo).mono E2.size));go_wp2_with fail;refine(PC.out _ (HG.out.below EB.out)).mono ?_;rintro e w3 ⟨E3,rfl⟩;have E3:=E3.trans ((al w3 zTo).mono E3.size);have EC:=hid (EB.out.trans (E3.mono EB.out.size));have E23:=E2.out.trans (E3.mono E2.out.size);have b3:=b0.below E23;have HI:=HO.out.keep E23;obtain⟨p0,p1,p2,p3,p4,p5,p6,p7,p8,p9,p10,p11⟩:=b3.cells;have hlt:=b3.lt;obtain⟨z1,z2,z3,z4,z5⟩:=HY.out;rw[z1]at p1;rw[z2]at p4;rw[z5]at p3;have i1:=HI.code.cdx 1 (by rw[z2];decide) y.cc;rw[z2]at i1;have c1:=HI.code.cd z3;rw[z4]at c1;have zz:((tx [83,66]).toList==[83,66])=true:=by rw[tx_toList];rfl
 generalize tx [83,66]=ux at*;clear b0 b3 HI z1 z2 z3 z4 z5 E3 E23 PB PC;have i1': ∀w',(Instr.indexAt 23 (.slice y.ca 2 y.cc) (.int .i64 1)).run Tryz.prog w'= .ok (.pointer (some ⟨bk y.ca,fo y.ca+1,none⟩)) w':=i1;clear i1;go_wp2_with fail
 (try go_simp)
 go_ret;exact⟨rfl,EC.out⟩
end Go.Proofs.YtkbbgjloifmmbaaGreatDoor
namespace Go.Proofs.YtkbbgjloifmmbaaGreatDoor
def noCR(l:Tx):Tx:=if l.getLast?=some 13 then l.dropLast else l
def linesF(cur:Tx)(from_:Nat):Tx->List (Tx × Nat)
 |[]=>if cur=[]then[]else[(noCR cur,from_)]
 |c::r=>if c=10 then(noCR cur,from_)::linesF [] (from_+cur.length+1) r else linesF (cur++[c]) from_ r
def linesV(s:Tx):List (Tx × Nat):=linesF [] 0 s
theorem bl_app{a b:Tx}(ha:Bl a)(hb:Bl b):Bl (a++b):=fun c hc=>(List.mem_append.1 hc).elim (ha c) (hb c)
theorem sgn_split(p:Tx): ∃b,Bl b/\p=b++sgnL p:=⟨p.takeWhile blankC,fun c hc=>List.all_eq_true.1 (List.all_takeWhile (p:=blankC) (l:=p)) c hc,(List.takeWhile_append_dropWhile ..).symm⟩
theorem P0.sep{a b s w:Tx}(ha:Bl a)(hb:Bl b)(h1:(10:UInt8)∈a)(h2:(10:UInt8)∈b)(h:P0 s w):Pd (a++s) (b++w):=by
 obtain⟨u,hu,eu⟩:=sgn_split s;obtain⟨v,hv,ev⟩:=sgn_split w;rw[eu,ev,<-List.append_assoc,<-List.append_assoc];exact .sep (a++u) (b++v) (bl_app ha hu) (bl_app hb hv) (by simp[h1]) (by simp[h2]) h
end Go.Proofs.YtkbbgjloifmmbaaGreatDoor

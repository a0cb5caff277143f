/- A table's rows and lengths while they are being found, row by row. Plain lists; no program, no condition. The walk of joined (program). Conditions: the lengths, the cells lie in memory as read; no cell is longer than its column. -/
import Derived.Test.YthaibjefnclkjaaGreatDoorAp28
set_option linter.unusedVariables false
set_option maxRecDepth 100000
set_option maxHeartbeats 3200000
namespace Go.Proofs.YthaibjefnclkjaaGreatDoor
def padL (ws:List Nat) (cs:List Tx):List Tx:=List.zipWith padT ws cs
theorem padL_at {ws:List Nat} {cs:List Tx} {k m:Nat} {s:Tx} (h1:ws[k]? = some m) (h2:cs[k]? = some s):(padL ws cs)[k]? = some (padT m s):=by
 unfold padL;rw [List.getElem?_zipWith,h1,h2]
theorem padL_length {ws:List Nat} {cs:List Tx} (h:ws.length=cs.length):(padL ws cs).length=cs.length:=by unfold padL;simp [h]
def joinT (l:List Tx) (k:Nat):Tx:=if k=0 then [] else [32]++barT (l.take k)
theorem joinT_first {l:List Tx} {x:Tx} (h:l[0]? = some x):joinT l 1=joinT l 0++(32::x):=by
 unfold joinT;rw [if_neg (by omega),if_pos rfl,bar_first h];rfl
theorem joinT_next {l:List Tx} {x:Tx} {k:Nat} (h:l[k]? = some x) (hk:k≠0):joinT l (k+1)=(joinT l k++[32,124])++(32::x):=by
 unfold joinT;rw [if_neg (by omega),if_neg hk,bar_next h hk];simp
theorem joinT_le {l:List Tx} {n k:Nat} (h : ∀ s∈l,s.length≤n):(joinT l k).length≤1+l.length * (n+3):=by
 unfold joinT
 split
 ·simp
 ·have h1:=barT_le (l.take k) n fun s hs=>h s (List.mem_of_mem_take hs)
  have h2:(l.take k).length * (n+3)≤l.length * (n+3):=Nat.mul_le_mul_right _ (by rw [List.length_take];omega)
  simp only [List.length_append,List.length_cons,List.length_nil];omega
def cellsJ (j:Nat) (t:Tst):List Tx:=(colsT t).map fun c=>c.getD j []
theorem cellsJ_length (j:Nat) (t:Tst):(cellsJ j t).length=t.code.length:=by unfold cellsJ;rw [List.length_map,colsT_length]
theorem cellsJ_at {t:Tst} {k:Nat} {x:Cd} (j:Nat) (h:t.code[k]? = some x):(cellsJ j t)[k]? = some ((colT t.arch k x.l).getD j []):=by
 unfold cellsJ;rw [List.getElem?_map,colsT_at h];rfl
def partJ (j:Nat) (t:Tst) (k:Nat):List Tx:=(cellsJ j t).take k++List.replicate (t.code.length-k) []
theorem partJ_length (j:Nat) (t:Tst) (k:Nat) (hk:k≤t.code.length):(partJ j t k).length=t.code.length:=by
 unfold partJ;simp [cellsJ_length];omega
theorem partJ_none (j:Nat) (t:Tst):partJ j t 0=List.replicate t.code.length []:=by unfold partJ;simp
theorem partJ_all (j:Nat) (t:Tst):partJ j t t.code.length=cellsJ j t:=by
 unfold partJ;rw [Nat.sub_self,List.take_of_length_le (by rw [cellsJ_length];omega)];simp
theorem partJ_set {t:Tst} {k:Nat} {x:Cd} (j:Nat) (h:t.code[k]? = some x):(partJ j t k).set k ((colT t.arch k x.l).getD j [])=partJ j t (k+1):=by
 have hk:=(List.getElem?_eq_some_iff.1 h).1
 unfold partJ
 have h1:((cellsJ j t).take k).length=k:=by rw [List.length_take,cellsJ_length];omega
 rw [take_snoc (cellsJ_at j h),show t.code.length-k=(t.code.length-(k+1))+1 by omega,List.replicate_succ,List.set_append_right _ _ (by omega),h1,Nat.sub_self,List.set_cons_zero]
 simp
theorem partJ_skip {t:Tst} {k:Nat} {x:Cd} (j:Nat) (h:t.code[k]? = some x) (hl:x.l.length<j):partJ j t (k+1)=partJ j t k:=by
 have hk:=(List.getElem?_eq_some_iff.1 h).1
 unfold partJ
 have h2:(colT t.arch k x.l).getD j [] = []:=by
  rw [List.getD_eq_getElem?_getD,List.getElem?_eq_none (by rw [colT_length];omega)];rfl
 rw [take_snoc (cellsJ_at j h),h2,show t.code.length-k=(t.code.length-(k+1))+1 by omega,List.replicate_succ]
 simp
def widN (t:Tst) (j k:Nat):List Nat:=(colsT t).mapIdx fun i c=>wideL (c.take (if i<k then j+1 else j))
theorem widN_length (t:Tst) (j k:Nat):(widN t j k).length=t.code.length:=by unfold widN;simp [colsT_length]
theorem widN_at {t:Tst} {k:Nat} {x:Cd} (j i:Nat) (h:t.code[k]? = some x):(widN t j i)[k]? = some (wideL ((colT t.arch k x.l).take (if k<i then j+1 else j))):=by
 unfold widN;rw [List.getElem?_mapIdx,colsT_at h];rfl
theorem widN_ext {t:Tst} {l l':List Nat} (h1:l.length=t.code.length) (h2:l'.length=t.code.length) (h : ∀ (k:Nat) (x:Cd),t.code[k]? = some x→l[k]? = l'[k]?):l=l':=by
 refine List.ext_getElem? fun k=>?_
 by_cases hk:k<t.code.length
 ·exact h k _ (List.getElem?_eq_getElem hk)
 ·rw [List.getElem?_eq_none (by omega),List.getElem?_eq_none (by omega)]
theorem widN_set {t:Tst} {k:Nat} {x:Cd} (j:Nat) (h:t.code[k]? = some x):(widN t j k).set k (wideL ((colT t.arch k x.l).take (j+1)))=widN t j (k+1):=by
 refine widN_ext (by rw [List.length_set,widN_length]) (widN_length _ _ _) fun i y hy=>?_
 have hi:=(List.getElem?_eq_some_iff.1 hy).1
 rw [widN_at j (k+1) hy]
 by_cases hik:k=i
 ·subst hik
  rw [h] at hy;cases hy
  rw [List.getElem?_set_self (by rw [widN_length];exact hi),if_pos (by omega)]
 ·rw [List.getElem?_set_ne hik,widN_at j k hy]
  by_cases hlt:i<k
  ·rw [if_pos hlt,if_pos (by omega)]
  ·rw [if_neg hlt,if_neg (by omega)]
theorem widN_skip {t:Tst} {k:Nat} {x:Cd} (j:Nat) (h:t.code[k]? = some x) (hl:x.l.length<j):widN t j (k+1)=widN t j k:=by
 refine widN_ext (widN_length _ _ _) (widN_length _ _ _) fun i y hy=>?_
 rw [widN_at j (k+1) hy,widN_at j k hy]
 by_cases hik:k=i
 ·subst hik
  rw [h] at hy;cases hy
  rw [if_pos (by omega),if_neg (by omega),List.take_of_length_le (by rw [colT_length];omega),List.take_of_length_le (by rw [colT_length];omega)]
 ·by_cases hlt:i<k
  ·rw [if_pos hlt,if_pos (by omega)]
  ·rw [if_neg hlt,if_neg (by omega)]
theorem widN_round (t:Tst) (j:Nat):widN t j t.code.length=widN t (j+1) 0:=by
 refine widN_ext (widN_length _ _ _) (widN_length _ _ _) fun i y hy=>?_
 have hi:=(List.getElem?_eq_some_iff.1 hy).1
 rw [widN_at j _ hy,widN_at (j+1) 0 hy,if_pos hi,if_neg (by omega)]
theorem widN_zero (t:Tst):widN t 0 0=List.replicate t.code.length 0:=by
 refine widN_ext (widN_length _ _ _) (by simp) fun i y hy=>?_
 have hi:=(List.getElem?_eq_some_iff.1 hy).1
 rw [widN_at 0 0 hy,if_neg (by omega),List.getElem?_replicate,if_pos hi];rfl
theorem highL_mem {l:List Cd} {x:Cd} (h:x∈l):x.l.length≤highL l:=by
 obtain ⟨k,hk⟩:=List.mem_iff_getElem?.1 h
 have key : ∀ m,k<m→x.l.length≤highL (l.take m):=by
  intro m
  induction m with
  | zero=>intro h;omega
  | succ m ih =>
   intro hm
   by_cases hml:m<l.length
   ·rw [highL_step (List.getElem?_eq_getElem hml)]
    rcases Nat.lt_succ_iff_lt_or_eq.1 hm with h1|h1
    ·have:=ih h1;omega
    ·subst h1
     have:l[k]=x:=(List.getElem?_eq_some_iff.1 hk).2
     rw [this];omega
   ·have hkl:=(List.getElem?_eq_some_iff.1 hk).1
    have:=ih (by omega)
    rw [List.take_of_length_le (show l.length≤m by omega)] at this
    rw [List.take_of_length_le (show l.length≤m+1 by omega)]
    exact this
 have:=key l.length (List.getElem?_eq_some_iff.1 hk).1
 rwa [List.take_length] at this
theorem widN_done (t:Tst):widN t (highT t+1) 0=wideT t:=by
 refine widN_ext (widN_length _ _ _) (wideT_length _) fun i y hy=>?_
 have:=highL_mem (List.mem_of_getElem? hy)
 rw [widN_at _ _ hy,wideT_at hy,if_neg (by omega),List.take_of_length_le (by rw [colT_length,highT_eq];omega)]
theorem padL_row (t:Tst) (j:Nat):padL (wideT t) (cellsJ j t)=rowT j t:=by
 unfold padL wideT cellsJ rowT
 rw [List.zipWith_map_left,List.zipWith_map_right,List.zipWith_self]
theorem cellsJ_le {t:Tst} {j k m:Nat} {s:Tx} (h1:(wideT t)[k]? = some m) (h2:(cellsJ j t)[k]? = some s):s.length≤m∧m≤70:=by
 have hk:k<t.code.length:=by rw [← wideT_length t];exact (List.getElem?_eq_some_iff.1 h1).1
 rw [wideT_at (List.getElem?_eq_getElem hk)] at h1
 rw [cellsJ_at j (List.getElem?_eq_getElem hk)] at h2
 cases h1;cases h2
 refine ⟨?_,cellW _ _ _⟩
 rw [List.getD_eq_getElem?_getD]
 cases h:(colT t.arch k t.code[k].l)[j]? with
 | none=>simp
 | some s=>exact wideL_mem (List.mem_of_getElem? h)
end Go.Proofs.YthaibjefnclkjaaGreatDoor
namespace Go.Proofs.YthaibjefnclkjaaGreatDoor
open Go.RowKit Go.Sort
theorem extraB:Builder.Extra Tryz.prog Tryz.l105_ren where
 sizeBuilder:=by kernel_rfl
 liesBuilder:=by kernel_rfl
 t5:=Tryz.underlying5
 a5:=Tryz.isAgg5
 z5:=Tryz.sizeOf5
 v5:=Tryz.zeroValue5
 infoByte:=by kernel_rfl
 cellsByte:=by kernel_rfl
 sizeByte:=by kernel_rfl
 neB5:=by decide
theorem repeatB (z:Int) (n:Nat) (hz:z=n) (hn:n≤1000) (w:World):Calls Tryz.prog 106 #[.string ⟨#[32]⟩,.int .i64 z] w (Ret w (.string (tx (List.replicate n 32)))):=by
 subst hz
 refine (Any.strings_Repeat Tryz.l105 extraB ⟨#[32]⟩ n w (by omega) (by show 1 * n≤_;omega)).mono fun e w' hh=>⟨?_,hh.2⟩
 rw [hh.1]
 have:=Lib.repeatL_replicate 32 1 n
 rw [Nat.mul_one] at this
 rw [show (⟨#[32]⟩:ByteArray).data.toList=List.replicate 1 32 from rfl,this];rfl
abbrev bT:TypeId:=56
theorem fileJoined (ws:List Nat) (cs:List Tx) (aw ac:Option Addr) (cw cc n:Nat) (w:World) (hw:Ints w aw (ws.map fun m:Nat=>(m:Int))) (hc:Txs w ac cs)
  (hwn:ws.length=n) (hcn:cs.length=n) (h1:1≤n) (h16:n≤16) (hle : ∀ (k m:Nat) (s:Tx),ws[k]? = some m→cs[k]? = some s→s.length≤m∧m≤70) :
  Calls Tryz.prog 69 #[.slice aw n cw,.slice ac n cc] w (Ret w (.string (tx ([32]++barT (padL ws cs)++[32,59])))):=by
 have A:=al w (.cells #[.pointer none,.slice none 0 0] bT)
 have b0:Bld (w.alloc (.cells #[.pointer none,.slice none 0 0] bT)) w.heap.size w.heap.size bT [] []:=Bld.new w bT []
 have HW:=hid hw
 have HC:=hid hc
 have HN:=hid (And.intro hwn (And.intro hcn hle))
 have hpl:(padL ws cs).length=n:=by rw [padL_length (by omega),hcn]
 have hp70 : ∀ s∈padL ws cs,s.length≤70:=by
  intro s hs
  obtain ⟨k,hk⟩:=List.mem_iff_getElem?.1 hs
  have hlt:=(List.getElem?_eq_some_iff.1 hk).1
  rw [padL_at (List.getElem?_eq_getElem (by omega)) (List.getElem?_eq_getElem (by omega))] at hk
  have:=hle k _ _ (List.getElem?_eq_getElem (by omega)) (List.getElem?_eq_getElem (by omega))
  simp only [Option.some.injEq] at hk
  subst hk
  rw [padT_len];omega
 have hjl : ∀ k,(joinT (padL ws cs) k).length≤1300:=fun k=>by
  have:=joinT_le (k:=k) hp70
  rw [hpl] at this
  have h2:n * 73≤16 * 73:=Nat.mul_le_mul_right _ h16
  omega
 obtain ⟨r,hr⟩ : ∃ r,[32]++barT (padL ws cs)++[32,59]=r:=⟨_,rfl⟩
 rw [hr]
 have HR:=hid hr
 have HJ:=hid hjl
 have HP:=hid hpl
 have HP70:=hid hp70
 clear hw hc hwn hcn hle hpl hp70 hjl hr
 go_enter Tryz.func69,Tryz.ntmps69
 go_upto_region 2 with (fail)
 generalize w.alloc (.cells #[.pointer none,.slice none 0 0] bT)=W1 at *
 go_wp2_with fail
 go_loopw [10] (fun i wr=>∃ (k:Nat) (l:Tx),k≤n∧i = .int .i64 k∧Below w.heap.size w wr∧Bld wr w.heap.size w.heap.size bT [] l∧l.length≤1300∧Hid (l=joinT (padL ws cs) k)) (fun i _=>n-(intOf i).toNat)
 case atStart=>exact ⟨0,[],by omega,rfl,A,b0,by simp,rfl⟩
 case round =>
  clear A b0
  obtain ⟨k,l,hk,rfl,E,b,hl,HL⟩:=hrel
  by_cases hlt:k<n
  ·obtain ⟨m,hm⟩ : ∃ m,ws[k]? = some m:=⟨_,List.getElem?_eq_getElem (by rw [HN.out.1];exact hlt)⟩
   obtain ⟨s,hs⟩ : ∃ s,cs[k]? = some s:=⟨_,List.getElem?_eq_getElem (by rw [HN.out.2.1];exact hlt)⟩
   have hsm:=HN.out.2.2 k m s hm hs
   have hpa:=padL_at hm hs
   have hpp:padT m s=s++List.replicate (m-s.length) 32:=rfl
   rw [hpp] at hpa
   obtain ⟨ls,hls⟩ : ∃ ls,s.length=ls:=⟨_,rfl⟩
   have hsz:=tsize hls
   rw [hls] at hsm hpa
   have HPA:=hid hpa
   have HLS:=hid hls
   have p0:=(HC.out.below E).at hs
   have ix:=(HC.out.below E).idx k (by rw [HN.out.2.1];exact hlt) cc
   rw [HN.out.2.1] at ix
   have TI:=HW.out.below E
   have iw:=TI.idx isl k (by rw [List.length_map,HN.out.1];exact hlt) cw
   rw [List.length_map,HN.out.1] at iw
   have PW:=hid (show ∀ w':World,Below w.heap.size w w'→w'.cell? ⟨bk aw,fo aw+k,none⟩=some (.int .i64 (m:Int)) from fun w' E'=>by
    have pw:=(HW.out.below E').cell k (by rw [List.length_map,HN.out.1];exact hlt)
    rw [show (ws.map fun m:Nat=>(m:Int))[k]'(by rw [List.length_map,HN.out.1];exact hlt)=(m:Int) from by
     rw [List.getElem_map]
     rw [List.getElem?_eq_getElem (by rw [HN.out.1];exact hlt)] at hm
     rw [Option.some.inj hm]] at pw
    exact pw)
   have pw:=PW.out wr E
   have c1 : ∀ w,(Op.stringOp .add ⟨#[32]⟩ (tx s)).run Tryz.prog w = .ok (.string (tx (32::s))) w:=run_cat [32] s (by rw [hls];simp;omega)
   have c2 : ∀ w,(Op.stringOp .add (tx (32::s)) (tx (List.replicate (m-ls) 32))).run Tryz.prog w = .ok (.string (tx (32::(s++List.replicate (m-ls) 32)))) w:=run_cat (32::s) (List.replicate (m-ls) 32) (by simp [hls];omega)
   have RP:=hid (fun (w:World)=>repeatB ((m:Int)-ls) (m-ls) (by omega) (by omega) w)
   obtain ⟨p,hp⟩ : ∃ p,32::(s++List.replicate (m-ls) 32)=p:=⟨_,rfl⟩
   have hp72:p.length≤71:=by rw [← hp];simp [hls];omega
   rw [hp] at c2
   have HPP:=hid hp
   clear hm hs hpa hpp hls TI hp
   by_cases hk0:k=0
   ·have z0:decide ((0:Int)<(k:Int))=false:=by simp;omega
    have z1:decide (0<k)=false:=by simp;omega
    have HT:=hid (show l++p=joinT (padL ws cs) (k+1) by
     have h1:=HL.out;have h2:=HPA.out
     rw [hk0] at h1 h2 ⊢
     rw [h1,← HPP.out,joinT_first h2])
    have hl2:=HJ.out (k+1)
    rw [← HT.out] at hl2
    have BW:=hid (fun (w':World) (h:Bld w' w.heap.size w.heap.size bT [] l) (h2:w.heap.size≤w'.heap.size)=>bldWrite w.heap.size w.heap.size bT [] l p w' bldT2 h (by omega) h2)
    obtain ⟨l2,hl2e⟩ : ∃ l2,l++p=l2:=⟨_,rfl⟩
    rw [hl2e] at BW HT hl2
    clear hl2e hk0
    go_wp2_with fail
    refine (RP.out _).mono ?_
    rintro e w2 ⟨rfl,E2⟩
    have b2:=b.below E2
    have E3:=E.trans (E2.mono E.size)
    clear b E E2 p0 pw ix iw
    go_wp2_with fail
    refine (BW.out _ b2 E3.size).mono ?_
    rintro e w3 ⟨rfl,b3,E4,-⟩
    have E5:=E3.trans E4
    clear b2 E3 E4 BW
    go_wp2_with fail
    go_roundw
    case rel=>exact ⟨k+1,l2,by omega,by go_num,E5,b3,hl2,HT⟩
    case measure=>simp [intOf];omega
   ·have HT:=hid (show (l++[32,124])++p=joinT (padL ws cs) (k+1) by rw [HL.out,← HPP.out,joinT_next HPA.out hk0])
    have hl2:=HJ.out (k+1)
    rw [← HT.out] at hl2
    have BA:=hid (fun (w':World) (h:Bld w' w.heap.size w.heap.size bT [] l) (h2:w.heap.size≤w'.heap.size)=>bldWrite w.heap.size w.heap.size bT [] l [32,124] w' bldT2 h (by simp;omega) h2)
    obtain ⟨l1,hl1e⟩ : ∃ l1,l++[32,124]=l1:=⟨_,rfl⟩
    have hl1:l1.length≤1302:=by rw [← hl1e];simp;omega
    rw [hl1e] at BA HT hl2
    have BW:=hid (fun (w':World) (h:Bld w' w.heap.size w.heap.size bT [] l1) (h2:w.heap.size≤w'.heap.size)=>bldWrite w.heap.size w.heap.size bT [] l1 p w' bldT2 h (by omega) h2)
    obtain ⟨l2,hl2e⟩ : ∃ l2,l1++p=l2:=⟨_,rfl⟩
    rw [hl2e] at BW HT hl2
    clear hl2e hl1e
    go_wp2_with fail
    refine (BA.out _ b E.size).mono ?_
    rintro e w1 ⟨rfl,b1,E1,-⟩
    have E0:=E.trans E1
    clear pw p0 ix b E E1 BA
    have pw:=PW.out w1 E0
    go_wp2_with fail
    refine (RP.out _).mono ?_
    rintro e w2 ⟨rfl,E2⟩
    have b2:=b1.below E2
    have E3:=E0.trans (E2.mono E0.size)
    clear b1 E0 E2 pw iw
    go_wp2_with fail
    refine (BW.out _ b2 E3.size).mono ?_
    rintro e w3 ⟨rfl,b3,E4,-⟩
    have E5:=E3.trans E4
    clear b2 E3 E4 BW
    go_wp2_with fail
    go_roundw
    case rel=>exact ⟨k+1,l2,by omega,by go_num,E5,b3,hl2,HT⟩
    case measure=>simp [intOf];omega
  ·have hkn:k=n:=by omega
   subst hkn
   have HT:=hid (show l = [32]++barT (padL ws cs) by
    rw [HL.out];unfold joinT
    rw [if_neg (by omega),List.take_of_length_le (by rw [HP.out];omega)])
   have hne:l≠[]:=by rw [HT.out];simp
   have ST:=hid (bldString w.heap.size w.heap.size bT [] l wr b hne)
   have cc2 : ∀ w,(Op.stringOp .add (tx l) ⟨#[32,59]⟩).run Tryz.prog w = .ok (.string (tx (l++[32,59]))) w:=run_cat l [32,59] (by simp;omega)
   clear hne b
   go_wp2_with fail
   refine ST.out.mono ?_
   rintro e w2 ⟨rfl,E2⟩
   go_wp2_with fail
   (try go_simp)
   go_ret
   rw [show r=l++[32,59] by rw [← HR.out,HT.out]]
   exact ⟨rfl,E.trans E2⟩
end Go.Proofs.YthaibjefnclkjaaGreatDoor

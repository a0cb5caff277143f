/- The walk of stand (cond); SortFunc of things by it, at a row of the call's own. Conditions: the things may be. The walk of Compact of things, at a row of the call's own. Condition: the row is the call's own. The walks of walk and Check of a condition (the document's answer 08). Conditions: the nodes lie in memory as read. -/
import Derived.Test.YthaibjefnclkjaaGreatDoorAp6
import Derived.Test.YthaibjefnclkjaaGreatDoorAp8
set_option linter.unusedVariables false
set_option maxRecDepth 100000
set_option maxHeartbeats 6400000
namespace Go.Proofs.YthaibjefnclkjaaGreatDoor
open Go.RowKit Go.Sort
theorem cmp_tx (a b:Tx) (w:World):Calls Tryz.prog 194 #[.string (tx a),.string (tx b)] w fun e w'=>e = .returned (.int .i64 (Lib.compareBytes a b))∧w=w':=by
 refine (Any.strings_Compare Tryz.l106 (tx a) (tx b) w).mono fun e w' hh=>⟨?_,hh.2.symm⟩
 rw [hh.1,tx_data,tx_data]
theorem condStand (x y:VTh) (w:World):Calls Tryz.prog 167 #[vTh x.1,vTh y.1] w fun e w'=>e = .returned (.int .i64 (cfT x.1 y.1))∧w'=(w.alloc (mkTh x.1)).alloc (mkTh y.1):=by
 have hx:=vth_cases x;have hy:=vth_cases y
 obtain ⟨⟨t1,r1,l1⟩,p1⟩:=x
 obtain ⟨⟨t2,r2,l2⟩,p2⟩:=y
 simp only at hx hy ⊢
 clear p1 p2
 rcases hx with ⟨a1,a2⟩|⟨a1,a2,a3,a4,a5⟩
 ·subst a1
  rcases hy with ⟨b1,b2⟩|⟨b1,b2,b3,b4,b5⟩
  ·subst b1
   clear a2 b2
   have E:=hid (show cfT ⟨-1,r1,l1⟩ ⟨-1,r2,l2⟩=Lib.compareBytes l1 l2 from rfl)
   go_enter Tryz.func167,Tryz.ntmps167
   go_wp2_with (go_at_call 194;refine (cmp_tx _ _ _).mono ?_;rintro e w' ⟨rfl,rfl⟩)
   go_ret
   exact ⟨ret_int (by rw [E.out]),rfl⟩
  ·clear a2 b5
   have z2:(t2==-1)=false:=by simp;omega
   have E:=hid (show cfT ⟨-1,r1,l1⟩ ⟨t2,r2,l2⟩=1 by unfold cfT;simp only;rw [if_neg (by omega),if_pos trivial])
   go_enter Tryz.func167,Tryz.ntmps167
   go_wp2_with fail
   go_ret
   exact ⟨ret_int (by rw [E.out]),rfl⟩
 ·clear a5
  have z1:(t1==-1)=false:=by simp;omega
  rcases hy with ⟨b1,b2⟩|⟨b1,b2,b3,b4,b5⟩
  ·subst b1
   clear b2
   have E:=hid (show cfT ⟨t1,r1,l1⟩ ⟨-1,r2,l2⟩ = -1 by unfold cfT;simp only;rw [if_neg (by omega),if_neg (by omega),if_pos trivial])
   go_enter Tryz.func167,Tryz.ntmps167
   go_wp2_with fail
   go_ret
   exact ⟨ret_int (by rw [E.out]),rfl⟩
  ·clear b5
   have z2:(t2==-1)=false:=by simp;omega
   by_cases h:t1=t2
   ·have z3:(t1 != t2)=false:=by simpa using h
    have E:=hid (show cfT ⟨t1,r1,l1⟩ ⟨t2,r2,l2⟩=r1-r2 by unfold cfT;simp only;rw [if_neg (by omega),if_neg (by omega),if_neg (by omega),if_neg (by omega)])
    clear h
    go_enter Tryz.func167,Tryz.ntmps167
    go_wp2_with fail
    go_ret
    exact ⟨ret_int (by rw [E.out]),rfl⟩
   ·have z3:(t1 != t2)=true:=by simpa using h
    have E:=hid (show cfT ⟨t1,r1,l1⟩ ⟨t2,r2,l2⟩=t1-t2 by unfold cfT;simp only;rw [if_neg (by omega),if_neg (by omega),if_neg (by omega),if_pos h])
    clear h
    go_enter Tryz.func167,Tryz.ntmps167
    go_wp2_with fail
    go_ret
    exact ⟨ret_int (by rw [E.out]),rfl⟩
@[reducible] def eV (v:VTh):List Value:=cTh v.1
abbrev cfV (a b:VTh):Int:=cfT a.1 b.1
theorem ltOf_bef (a b:VTh):ltOf cfV a b=befT a.1 b.1:=cf_bef a b
theorem swoV:SWO (ltOf cfV) where
 irrefl a:=by rw [ltOf_bef,Bool.eq_false_iff];exact ltV_irr a
 trans a b c h h':=by rw [ltOf_bef] at *;exact ltV_tr a b c h h'
 ntrans a b c h h':=by
  rw [ltOf_bef,Bool.eq_false_iff] at *
  intro hac
  by_cases h1:ltV b a
  ·exact h' (ltV_tr b a c h1 hac)
  ·have:=ltV_tri a b h h1;subst this;exact h' hac
theorem lays (blk off size:Nat) (w:World):CmpLays Tryz.prog 167 #[] eV 3 cfV blk off size w:=by
 intro m os dk _ x y
 refine (condStand x y _).mono fun e w' ⟨he,hw⟩=>⟨he,0,#[mkTh x.1,mkTh y.1],?_⟩
 rw [hw,alloc_eq_grow,alloc_eq_grow,grow_grow]
 rfl
theorem holdsK {w:World} {B E n c g:Nat} {d:List VTh} (h:Own w B E 3 (some ⟨g,0,none⟩) n c (flat eV d)):HoldsK eV 3 w g 0 d.toArray:=by
 intro j hj
 simp only [size_flatK,List.size_toArray] at hj
 have hl:=flat_length (enc:=eV) (m:=3) (fun _=>rfl) d
 have hlt:j<(flat eV d).length:=by rw [hl];exact hj
 have h1:=h.row.cell j hlt
 have h2:=Own.frozen h (by simp) j
 simp only [bk_some,fo_some] at h1 h2
 refine ⟨?_,h2⟩
 rw [h1,id]
 have h3:j / 3<d.length:=by omega
 have hg:=flat_get (enc:=eV) (m:=3) (fun _=>rfl) d (j / 3) (j % 3) d[j / 3] (List.getElem?_eq_getElem h3) (by omega)
 rw [show j / 3 * 3+j % 3=j by omega] at hg
 rw [hg,get_flatK _ _ _ _ (by simpa using hj)]
 have h4:d.toArray[j / 3]! = d[j / 3]:=by rw [getElem!_pos _ _ (by simpa using h3)];simp
 rw [h4]
 have h5:j % 3<(eV d[j / 3]).length:=by show j % 3<3;omega
 rw [List.getElem?_eq_getElem h5,List.getElem!_eq_getElem?_getD,List.getElem?_eq_getElem h5];rfl
theorem flatK_flat (d:List VTh):flatK eV 3 d.toArray=(flat eV d).toArray:=by
 have hl:=flat_length (enc:=eV) (m:=3) (fun _=>rfl) d
 refine ext_get! (by simp [hl]) fun t ht=>?_
 simp only [size_flatK,List.size_toArray] at ht
 have h3:t / 3<d.length:=by omega
 have hg:=flat_get (enc:=eV) (m:=3) (fun _=>rfl) d (t / 3) (t % 3) d[t / 3] (List.getElem?_eq_getElem h3) (by omega)
 rw [show t / 3 * 3+t % 3=t by omega] at hg
 rw [get_flatK _ _ _ _ (by simpa using ht)]
 have h4:d.toArray[t / 3]! = d[t / 3]:=by rw [getElem!_pos _ _ (by simpa using h3)];simp
 have hlt:t<(flat eV d).length:=by rw [hl];exact ht
 have h5:t % 3<(eV d[t / 3]).length:=by show t % 3<3;omega
 rw [h4,List.getElem!_eq_getElem?_getD,List.getElem?_eq_getElem h5]
 rw [getElem!_pos (flat eV d).toArray t (by simpa using hlt)]
 rw [List.getElem?_eq_getElem hlt,List.getElem?_eq_getElem h5] at hg
 exact (Option.some.inj hg).symm
theorem putK_cells {w:World} {g:Nat} {d d':List VTh} (h:HoldsK eV 3 w g 0 d.toArray) (hl:d'.length=d.length):putRowK eV 3 w g 0 d'.toArray=w.setCells g 0 (flat eV d'):=by
 have h0:=sortWorldK_start eV 3 w g 0 d.toArray h
 unfold sortWorldK at h0
 rw [grow_empty] at h0
 have h1:=setCells_putRow w g 0 (flat eV d') 0 (flatK eV 3 d.toArray) (by rw [Nat.zero_add,flat_length (m:=3) (fun _=>rfl)];simp [hl])
 unfold putRowK at h0 ⊢
 rw [ahead_zero] at h0
 rw [h0] at h1
 rw [h1,flatK_flat d']
 congr 1
 refine ext_get! (by simp [hl,flat_length (enc:=eV) (m:=3) (fun _=>rfl)]) fun t ht=>?_
 simp only [List.size_toArray] at ht
 have hlt:t<d.length * 3:=by rw [flat_length (m:=3) (fun _=>rfl),hl] at ht;exact ht
 rw [get_setMany _ _ _ _ (by simpa using hlt),if_pos ⟨Nat.zero_le _,by omega⟩,Nat.sub_zero,getElem!_pos _ _ (by simpa using ht),List.getElem!_eq_getElem?_getD,List.getElem?_eq_getElem ht]
 simp
abbrev sortV (d:List VTh):List VTh:=d.mergeSort fun x y=>!ltOf cfV y x
theorem sortTh (d:List VTh) (w:World) (B:Nat) (a:Option Addr) (c:Nat) (h:Own w B 32 3 a d.length c (flat eV d)) (hl:d.length≤1000000) :
  Calls Tryz.prog 166 #[.slice a d.length c,.func (.func 167) #[] #[]] w fun e w'=>e = .returned (.tuple #[])∧Own w' B 32 3 a d.length c (flat eV (sortV d))∧Step w w' a a:=by
 have hlen:(sortV d).length=d.length:=List.length_mergeSort d
 rcases h.2 with ⟨h2,h0⟩|⟨g,cap,cur,hv,hg,hh,hn,hc,hs,hx⟩
 ·simp only [Value.slice.injEq] at h2
  obtain ⟨rfl,-,rfl⟩:=h2
  have hz:d = []:=List.eq_nil_of_length_eq_zero h0
  subst hz
  refine (AnyF.slices_SortFunc_none { Tryz.lsfT with } none 0 _ w).mono fun e w' ⟨he,hw⟩=>?_
  subst hw
  have e0:sortV [] = []:=List.eq_nil_of_length_eq_zero hlen
  rw [e0]
  exact ⟨he,h,Step.refl _ _⟩
 ·cases hv
  have hH:=holdsK h
  refine (AnyQ.slices_SortFunc_total Tryz.lsfT 3 Tryz.isAgg32 Tryz.sizeOf32 eV (fun _=>rfl) (fun x=>cTh_one x.1) cfV swoV 167 #[] g 0 c d.toArray w (enters_of Tryz.func167 (by kernel_rfl) rfl) (lays _ _ _ _) hH (Array.getElem?_eq_some_iff.1 hh).1 (by simp;omega) (fun x y hxy hyx=>ltV_tri x y (by rw [ltOf_bef,Bool.eq_false_iff] at hxy;exact hxy) (by rw [ltOf_bef,Bool.eq_false_iff] at hyx;exact hyx))).mono fun e w' ⟨he,n,os,hw⟩=>?_
  have hA:Below w.heap.size w (Sort.ahead w n):=⟨rfl,rfl,rfl,Nat.le_refl _,fun _ _=>rfl⟩
  have hHa:HoldsK eV 3 (Sort.ahead w n) g 0 d.toArray:=hH
  have hoA:=Own.below h hA
  unfold sortWorldK at hw
  rw [putK_cells (d:=d) (d':=sortV d) hHa hlen] at hw
  obtain ⟨o2,s2⟩:=Own.sets (by simp) (flat eV (sortV d)) 0 (Sort.ahead w n) (flat eV d) hoA (by rw [Nat.zero_add,flat_length (m:=3) (fun _=>rfl),flat_length (m:=3) (fun _=>rfl),hlen];exact Nat.le_refl _)
  have e1:layL (flat eV d) 0 (flat eV (sortV d))=flat eV (sortV d):=by
   unfold layL
   rw [List.take_zero,List.nil_append,Nat.zero_add,List.drop_of_length_le (by rw [flat_length (m:=3) (fun _=>rfl),flat_length (m:=3) (fun _=>rfl),hlen];exact Nat.le_refl _),List.append_nil]
  rw [e1] at o2
  simp only [bk_some,fo_some,Nat.add_zero] at o2 s2
  have hA2:Step w (Sort.ahead w n) (some ⟨g,0,none⟩) (some ⟨g,0,none⟩):=⟨⟨rfl,rfl,rfl,Nat.le_refl _,fun _ _ _=>rfl⟩,.inl rfl⟩
  have s3:=hA2.trans s2
  generalize hW:(Sort.ahead w n).setCells g 0 (flat eV (sortV d))=W at *
  have hG:Below W.heap.size W (grow W os):=⟨rfl,rfl,rfl,by simp [grow],fun j hj=>by simp [grow,Array.getElem?_append,hj]⟩
  rw [hw]
  exact ⟨he,Own.below o2 hG,s3.trans ⟨⟨hG.os,hG.tape,hG.output,hG.size,fun k hk _=>hG.block k hk⟩,.inl rfl⟩⟩
attribute [local go_sem high] eqTh neqTh
theorem cmpct_take {α:Type} [DecidableEq α] {l:List α} {k:Nat} (hk:k+1<l.length):cmpct (l.take (k+2))=if l[k+1]=l[k] then cmpct (l.take (k+1)) else cmpct (l.take (k+1))++[l[k+1]]:=by
 have h1:l.take (k+2)=l.take k++[l[k]]++[l[k+1]]:=by
  rw [List.take_succ_eq_append_getElem (show k+1<l.length from hk),List.take_succ_eq_append_getElem (show k<l.length by omega)]
 have h2:l.take (k+1)=l.take k++[l[k]]:=List.take_succ_eq_append_getElem (by omega)
 rw [h1,h2,cmpct_snoc]
def Apa (l:List Th) (k:Nat):Prop:=∀ i (h:i+1<l.length),i+1<k→l[i+1]≠l[i]
theorem Apa.all {l:List Th} (h:Apa l l.length):cmpct l=l:=cmpct_self fun i h1=>h i h1 h1
theorem Apa.take {l:List Th} {k:Nat} (h:Apa l (k+1)) (hk:k+1<l.length) (e:l[k+1]=l[k]):cmpct (l.take (k+2))=l.take (k+1):=by
 rw [cmpct_take hk,if_pos e]
 refine cmpct_self fun i h1=>?_
 simp only [List.length_take] at h1
 rw [List.getElem_take,List.getElem_take]
 exact h i (by omega) (by omega)
structure Prs (l L:List Th) (i q:Nat):Prop where
 len:L.length=l.length
 lt:i<q
 le:q≤l.length
 front:L.take i=cmpct (l.take q)
 rest : ∀ j,q-1≤j→L[j]? = l[j]?
theorem Prs.start {l:List Th} {k:Nat} (h:Apa l (k+1)) (hk:k+1<l.length) (e:l[k+1]=l[k]):Prs l l (k+1) (k+2) :=
 ⟨rfl,by omega,by omega,(h.take hk e).symm,fun _ _=>rfl⟩
theorem Prs.skip {l L:List Th} {i q:Nat} (h:Prs l L i (q+1)) (hq:q+1<l.length) (e:l[q+1]=l[q]):Prs l L i (q+2) :=
 ⟨h.len,by have:=h.lt;omega,by omega,by rw [h.front,cmpct_take hq,if_pos e],fun j hj=>h.rest j (by omega)⟩
theorem Prs.keep {l L:List Th} {i q:Nat} (h:Prs l L i (q+1)) (hq:q+1<l.length) (e:l[q+1]≠l[q]):Prs l (L.set i l[q+1]) (i+1) (q+2):=by
 have hl:=h.len;have hlt:=h.lt
 refine ⟨by rw [List.length_set];exact hl,by omega,by omega,?_,fun j hj=>?_⟩
 ·rw [cmpct_take hq,if_neg e,← h.front]
  have hi:i<L.length:=by omega
  rw [List.take_succ_eq_append_getElem (by rw [List.length_set];exact hi),List.getElem_set_self,List.take_set_of_le (Nat.le_refl i)]
 ·rw [List.getElem?_set_ne (by omega)];exact h.rest j (by omega)
theorem Prs.done {l L:List Th} {i:Nat} (h:Prs l L i l.length):L.take i=cmpct l∧(cmpct l).length=i:=by
 have h1:=h.front
 rw [List.take_length] at h1
 have h2:=congrArg List.length h1
 rw [List.length_take] at h2
 have:=h.len;have:=h.lt;have:=h.le
 exact ⟨h1,by omega⟩
theorem setCells3 (w:World) (b o:Nat) (e:Th):w.setCells b o (cTh e)=((w.setCell ⟨b,o,none⟩ (.int .i64 e.thread)).setCell ⟨b,o+1,none⟩ (.int .i64 e.reg)).setCell ⟨b,o+2,none⟩ (.string (tx e.loc)):=rfl
abbrev OwnT (w:World) (B:Nat) (a:Option Addr) (n c:Nat) (l:List Th):Prop:=Own w B 32 3 a n c (flat cTh l)
theorem OwnT.frz {w:World} {B n c:Nat} {a:Option Addr} {l:List Th} (h:OwnT w B a n c l) (hn:0<n) (k:Nat) :
  w.frozen? ⟨bk a,fo a+k * 3,none⟩=false∧w.frozen? ⟨bk a,fo a+k * 3+1,none⟩=false∧w.frozen? ⟨bk a,fo a+k * 3+2,none⟩=false:=by
 have f:=fun j=>Own.frozen h (Own.some h hn) j
 exact ⟨f (k * 3),by have:=f (k * 3+1);rwa [← Nat.add_assoc] at this,by have:=f (k * 3+2);rwa [← Nat.add_assoc] at this⟩
theorem OwnT.idx {w:World} {B c:Nat} {a:Option Addr} {l:List Th} {n:Nat} (h:OwnT w B a n c l) (hl:l.length≤1000000) (k:Nat) (hk:k<n) :
  ∀ w',(Instr.indexAt 78 (.slice a n c) (.int .i64 k)).run Tryz.prog w' = .ok (.pointer (some ⟨bk a,fo a+k * 3,none⟩)) w':=by
 obtain ⟨h1,rfl⟩:=Own.els h cTh_len (by omega) (by omega)
 exact h1.idx thl cTh_len k hk c
theorem step_drewN (w:World) (k:Nat) (a:Option Addr):Step w (w.drewN k) a a:=⟨⟨rfl,rfl,rfl,Nat.le_refl _,fun _ _ _=>rfl⟩,.inl rfl⟩
theorem compactTh (l : List Th) (w : World) (B : Nat) (a : Option Addr) (c : Nat) (h : OwnT w B a l.length c l) (hB : B ≤ w.heap.size) (hl : l.length ≤ 1000000) :
    Calls Tryz.prog 168 #[.slice a l.length c] w fun e w' => e = .returned (.slice a (cmpct l).length c) ∧ OwnT w' B a (cmpct l).length c (cmpct l) ∧ Step w w' a a := by
  obtain ⟨n, hn⟩ : ∃ n, l.length = n := ⟨_, rfl⟩
  have HN := hid hn
  have hcap := h.cap.1
  rw [hn] at h hl hcap ⊢
  have H := hid h
  by_cases h2 : n < 2
  · have E := hid (show cmpct l = l by
      have := HN.out
      match l, this with
      | [], _ => rfl
      | [x], _ => rfl
      | x :: y :: r, h => simp at h; omega)
    clear h hn
    go_enter Tryz.func168, Tryz.ntmps168
    go_wp2_with fail
    go_ret
    rw [E.out, HN.out]
    exact ⟨rfl, H.out, Step.refl _ _⟩
  · clear h hn
    go_enter Tryz.func168, Tryz.ntmps168
    go_wp2_with fail
    go_loopw [3] (fun i wr => ∃ k : Nat, k + 1 ≤ n ∧ i = .int .i64 ((k : Int) + 1) ∧ QW w wr ∧ Hid (Apa l (k + 1))) (fun i _ => n - (intOf i).toNat)
    case atStart => exact ⟨0, by omega, by go_num, QW.refl _, fun i h1 h2 => by omega⟩
    case round =>
      obtain ⟨k, hk, rfl, ⟨nd, rfl⟩, HA⟩ := hrel
      have o1 : OwnT (w.drewN nd) B a n c l := Own.below H.out (below_drewN w nd)
      by_cases hlt : k + 1 < n
      · have hlt' : k + 1 < l.length := by rw [HN.out]; exact hlt
        obtain ⟨x, hx⟩ : ∃ x, l[k]'(by omega) = x := ⟨_, rfl⟩
        obtain ⟨y, hy⟩ : ∃ y, l[k + 1] = y := ⟨_, rfl⟩
        have hxo : l[k]? = some x := by rw [← hx]; exact List.getElem?_eq_getElem _
        have hyo : l[k + 1]? = some y := by rw [← hy]; exact List.getElem?_eq_getElem _
        have els := (Own.els H.out cTh_len (by omega) (by have := HN.out; omega)).1
        obtain ⟨p0, p1, p2⟩ := els.th hxo
        obtain ⟨q0, q1, q2⟩ := els.th hyo
        have i1 := OwnT.idx o1 (by rw [HN.out]; exact hl) k (by omega)
        have i2 := OwnT.idx o1 (by rw [HN.out]; exact hl) (k + 1) hlt
        rw [show ((k + 1 : Nat) : Int) = (k : Int) + 1 by omega] at i2
        have hlen : (1 : Int) ≤ (k : Int) + 1 := by omega
        clear els hxo hyo
        by_cases e : y = x
        · have hd : decide (y = x) = true := decide_eq_true e
          have PS := hid (Prs.start HA.out hlt' (by rw [hy, hx]; exact e))
          clear hx hy HA e
          go_wp2_with fail
          go_quiet (fail)
          go_wp2_with fail
          have oA : OwnT (w.drewN (nd + nq)) B a n c l := Own.below H.out (below_drewN w (nd + nq))
          have sA : Step w (w.drewN (nd + nq)) a a := ⟨⟨rfl, rfl, rfl, Nat.le_refl _, fun _ _ _ => rfl⟩, .inl rfl⟩
          clear o1
          generalize w.drewN (nd + nq) = W at *
          have hsome : a = some ⟨bk a, fo a, none⟩ := by
            refine oA.row.head ?_
            intro e0
            have := congrArg List.length e0
            rw [flat_length cTh_len] at this; simp only [List.length_nil] at this; have := HN.out; omega
          have hcutA : Option.map (fun x : Addr => x.add ((k + 1) * 3)) a = some ⟨bk a, fo a + (k + 1) * 3, none⟩ := by
            conv => lhs; rw [hsome]
            rw [Option.map_some, Addr.add_lit]
          simp only [hcutA]
          clear hcutA hsome p0 p1 p2 q0 q1 q2 i1 i2 hd nd nq
          obtain ⟨i0, hi0⟩ : ∃ i0, k + 1 = i0 := ⟨_, rfl⟩
          have hi0' : (k : Int) + 1 = (i0 : Int) := by omega
          rw [show k + 2 = i0 + 1 by omega] at PS
          simp only [hi0, hi0'] at *
          have h1i : 1 ≤ i0 := by omega
          clear hi0 hi0' hlt' hlen hk
          go_loopw [3, 5] (fun s t wr => ∃ (i j : Nat) (L : List Th), s = .int .i64 i ∧ t = .int .i64 ((j : Int) + 1) ∧ i0 + j + 1 ≤ n ∧ Hid (Prs l L i (i0 + j + 1)) ∧ OwnT wr B a n c L ∧ Step w wr a a) (fun _ t _ => n - (intOf t).toNat)
          case atStart => exact ⟨i0, 0, l, rfl, by go_num, by omega, PS, oA, sA⟩
          case round =>
            clear oA sA PS
            obtain ⟨i, j, L, rfl, rfl, hj, PS, oR, sR⟩ := hrel
            have hPl := PS.out.len; have hPi := PS.out.lt
            have hLn : L.length = n := by rw [hPl, HN.out]
            clear hPl
            by_cases hq : i0 + j + 1 < n
            · have hql : i0 + j + 1 < l.length := by rw [HN.out]; exact hq
              obtain ⟨u, hu⟩ : ∃ u, l[i0 + j]'(by omega) = u := ⟨_, rfl⟩
              obtain ⟨v, hv⟩ : ∃ v, l[i0 + j + 1] = v := ⟨_, rfl⟩
              have hLu : (L.drop i0)[j]? = some u := by rw [List.getElem?_drop, PS.out.rest _ (by omega), ← hu]; exact List.getElem?_eq_getElem _
              have hLv : (L.drop i0)[j + 1]? = some v := by rw [List.getElem?_drop, show i0 + (j + 1) = i0 + j + 1 by omega, PS.out.rest _ (by omega), ← hv]; exact List.getElem?_eq_getElem _
              have els := (Own.els oR cTh_len (by omega) (by omega)).1
              have hsomeR : a = some ⟨bk a, fo a, none⟩ := by
                refine oR.row.head ?_
                intro e0
                have := congrArg List.length e0
                rw [flat_length cTh_len] at this; simp only [List.length_nil] at this; omega
              have els2 : Els cTh wr (some ⟨bk a, fo a + i0 * 3, none⟩) (L.drop i0) := by
                have h9 := els.drop cTh_len (by omega) i0 (c = i0) (fun hc => by omega)
                have h8 : cutA a (c = i0) (i0 * 3) = some ⟨bk a, fo a + i0 * 3, none⟩ := by
                  unfold cutA; rw [if_neg (by omega)]; conv => lhs; rw [hsomeR]
                  rw [Option.map_some, Addr.add_lit]
                rwa [h8] at h9
              obtain ⟨p0, p1, p2⟩ := els2.th hLu
              obtain ⟨q0, q1, q2⟩ := els2.th hLv
              have hdl : (L.drop i0).length = n - i0 := by rw [List.length_drop, hLn]
              have i1 := els2.idx thl cTh_len j (by omega) (c - i0)
              have i2 := els2.idx thl cTh_len (j + 1) (by omega) (c - i0)
              rw [hdl] at i1 i2
              rw [show ((j + 1 : Nat) : Int) = (j : Int) + 1 by omega] at i2
              simp only [bk_some, fo_some] at p0 p1 p2 q0 q1 q2 i1 i2
              have hM : (j : Int) + 1 < ((n - i0 : Nat) : Int) := by omega
              have hj1 : (1 : Int) ≤ (j : Int) + 1 := by omega
              by_cases e : v = u
              · have hd : decide (v = u) = true := decide_eq_true e
                have hd2 : (!decide (v = u)) = false := by rw [hd]; rfl
                have PS2 := hid (PS.out.skip hql (by rw [hv, hu]; exact e))
                have HO2 := hid (And.intro oR sR)
                clear hu hv e hLu hLv els els2 hsomeR PS
                go_wp2_with fail
                go_quiet (fail)
                obtain ⟨oR, sR⟩ := HO2.out
                have dB := below_drewN wr nq
                have oR := Own.below oR dB
                have sR := sR.trans (step_drewN wr nq a)
                go_wp2_with fail
                go_roundw
                case rel => exact ⟨i, j + 1, L, rfl, by go_num, by omega, PS2, oR, sR⟩
                case measure => simp [intOf]; omega
              · have hd : decide (v = u) = false := decide_eq_false e
                have hd2 : (!decide (v = u)) = true := by rw [hd]; rfl
                have PS2 := PS.out.keep hql (by rw [hv, hu]; exact e)
                rw [hv] at PS2
                have PS2 := hid PS2
                have HO2 := hid (And.intro oR sR)
                have HLn := hid hLn
                clear hu hv e hLu hLv els els2 hsomeR PS hLn
                go_wp2_with fail
                go_quiet (fail)
                obtain ⟨oR, sR⟩ := HO2.out
                have dB := below_drewN wr nq
                have oR := Own.below oR dB
                have sR := sR.trans (step_drewN wr nq a)
                have q0 : (wr.drewN nq).cell? ⟨bk a, fo a + i0 * 3 + (j + 1) * 3, none⟩ = some (.int .i64 v.thread) := by rw [cell?_drewN]; exact q0
                have q1 : (wr.drewN nq).cell? ⟨bk a, fo a + i0 * 3 + (j + 1) * 3 + 1, none⟩ = some (.int .i64 v.reg) := by rw [cell?_drewN]; exact q1
                have q2 : (wr.drewN nq).cell? ⟨bk a, fo a + i0 * 3 + (j + 1) * 3 + 2, none⟩ = some (.string (tx v.loc)) := by rw [cell?_drewN]; exact q2
                clear p0 p1 p2
                generalize wr.drewN nq = wq at *
                have ii := OwnT.idx oR (by rw [HLn.out]; exact hl) i (by omega)
                have els := (Own.els oR cTh_len (by omega) (by have := HLn.out; omega)).1
                obtain ⟨z, hz⟩ : ∃ z, L[i]? = some z := ⟨_, List.getElem?_eq_getElem (by have := HLn.out; omega)⟩
                obtain ⟨r0, r1, r2⟩ := els.th hz
                obtain ⟨f0, f1, f2⟩ := OwnT.frz oR (by omega) i
                obtain ⟨o2, s2⟩ := Own.storeE cTh_len oR (by omega) i (by have := HLn.out; omega) v
                have s3 := sR.trans s2
                rw [setCells3] at o2 s3
                have HO3 := hid (And.intro o2 s3)
                clear hz els oR sR o2 s2 s3 HO2
                go_wp2_with fail
                obtain ⟨o2, s3⟩ := HO3.out
                go_roundw
                case rel => exact ⟨i + 1, j + 1, L.set i v, by go_num, by go_num, by omega, PS2, o2, s3⟩
                case measure => simp [intOf]; omega
            · have hqn : i0 + j + 1 = n := by omega
              have hq2 : i0 + j + 1 = l.length := by rw [HN.out]; exact hqn
              have PSn := PS.out
              rw [hq2] at PSn
              obtain ⟨hd1, hd2⟩ := PSn.done
              have hi : i < n := by omega
              have hM : ((n - i0 : Nat) : Int) ≤ (j : Int) + 1 := by omega
              have sc := run_cut_from thl a n c i (by omega) .i64
              have st := run_cut_to thl a n c i (by omega) .i64
              obtain ⟨w9, hrun, o9, s9⟩ := run_clear_end thl Tryz.zeroValue32 (cTh_one ⟨0, 0, []⟩) oR i hi
              have o10 := Own.frontE cTh_len o9 hLn.symm (by omega)
              rw [hd1] at o10
              have s10 := sR.trans s9
              have HD := hid hd2
              have HO3 := hid (And.intro o10 s10)
              clear hd1 hd2 PSn PS o9 s9 o10 s10 oR sR hq2 hqn hLn
              go_wp2_with fail
              go_ret
              rw [HD.out]
              exact ⟨rfl, HO3.out.1, HO3.out.2⟩
        · have hd : decide (y = x) = false := decide_eq_false e
          have HA2 := hid (show Apa l (k + 2) from fun i h1 h2 => by
            by_cases hik : i = k
            · subst hik; rw [hy, hx]; exact e
            · exact HA.out i h1 (by omega))
          clear hx hy HA e o1
          go_wp2_with fail
          go_quiet (fail)
          go_wp2_with fail
          go_roundw
          case rel => exact ⟨k + 1, by omega, by go_num, ⟨nd + nq, rfl⟩, HA2⟩
          case measure => simp [intOf]; omega
      · have hkn : k + 1 = n := by omega
        have E := hid (show cmpct l = l from Apa.all (by rw [HN.out, ← hkn]; exact HA.out))
        clear HA hkn
        go_wp2_with fail
        go_ret
        rw [E.out, HN.out]
        exact ⟨rfl, o1, step_drewN w nd a⟩
end Go.Proofs.YthaibjefnclkjaaGreatDoor
namespace Go.Proofs.YthaibjefnclkjaaGreatDoor
open Go.RowKit
def RestN (arch:Int) (l:List Nd) (met deep:Nat) (R:Nat × Int):Prop:=walkL arch l met deep=R
theorem r08Walk (arch:Int) : ∀ (x:Nd) (met deep:Nat) (w:World),NdIn w x→met≤1024→deep≤64 →
  Calls Tryz.prog 113 #[.int .i64 arch,vN x,.int .i64 met,.int .i64 deep] w (Ret w (.tuple #[.int .i64 ((walkN arch x met deep).1:Nat),.int .i64 (walkN arch x met deep).2])):=by
 intro x
 induction x using Nd.ind with
 | h x ih =>
 intro met deep w hI hm hd
 have B:=al w (mkN x)
 have b0:=BxN.new w x
 obtain ⟨p,hp⟩ : ∃ p,walkN arch x met deep=p:=⟨_,rfl⟩
 have hq:=hp
 rw [walkN_eq] at hq
 rw [hp]
 clear hp
 by_cases h1:1024≤met∨64≤deep
 ·rw [if_pos h1] at hq
  have HQ:=hid hq.symm
  clear hq
  by_cases h2:1024≤met
  ·have z2:decide (1024≤met)=true:=decide_eq_true h2
   clear h1
   go_enter Tryz.func113,Tryz.ntmps113
   go_wp2_with fail
   go_ret2
   exact ⟨ret_pair (by rw [HQ.out]) (by rw [HQ.out]),blN⟩
  ·have z2:decide (1024≤met)=false:=decide_eq_false h2
   have z3:decide (64≤deep)=true:=decide_eq_true (by omega)
   have h3:64≤deep:=by omega
   clear h1
   go_enter Tryz.func113,Tryz.ntmps113
   go_wp2_with fail
   go_ret2
   exact ⟨ret_pair (by rw [HQ.out]) (by rw [HQ.out]),blN⟩
 ·rw [if_neg h1] at hq
  have h2:met<1024:=by omega
  have h3:deep<64:=by omega
  have z2:decide (1024≤met)=false:=decide_eq_false (by omega)
  have z3:decide (64≤deep)=false:=decide_eq_false (by omega)
  clear h1
  obtain ⟨mb,hmb⟩ : ∃ mb,mayN arch x.kind x.th x.val x.kids.length=mb:=⟨_,rfl⟩
  rw [hmb] at hq
  have CM:=hid (show ∀ w,Calls Tryz.prog 144 #[.int .i64 arch,vN x] w (Ret w (.bool mb)) from fun w=>hmb▸r08Node arch x hI.loc w)
  have HI:=hid hI
  have HIH:=hid ih
  clear hmb ih hI
  cases mb
  ·rw [if_pos rfl] at hq
   have HQ:=hid hq.symm
   clear hq
   go_enter Tryz.func113,Tryz.ntmps113
   go_wp2_with fail
   refine (CM.out _).mono ?_
   rintro e w1 ⟨rfl,E1⟩
   have B:=B.trans (E1.mono B.size)
   go_wp2_with fail
   go_ret2
   exact ⟨ret_pair (by rw [HQ.out]) (by rw [HQ.out]),blN⟩
  ·rw [if_neg (by simp)] at hq
   have HQ:=hid hq
   clear hq
   go_enter Tryz.func113,Tryz.ntmps113
   go_wp2_with fail
   refine (CM.out _).mono ?_
   rintro e w1 ⟨rfl,E1⟩
   have b1:=b0.below E1
   have HI1:=hid ((HI.out.keep B).keep E1)
   have B:=B.trans (E1.mono B.size)
   clear E1 b0
   go_wp2_with fail
   go_loopw [2,10] (fun ms i wr=>∃ k m:Nat,k≤x.kids.length∧i = .int .i64 k∧ms = .int .i64 m∧m≤1024∧Below w1.heap.size w1 wr∧Hid (RestN arch (x.kids.drop k) m (deep+1) p)) (fun _ i _=>x.kids.length-(intOf i).toNat)
   case atStart=>exact ⟨0,met+1,Nat.zero_le _,rfl,by go_num,by omega,Below.refl _ _,HQ.out⟩
   case round =>
    obtain ⟨k,m,hk,rfl,rfl,hm1,E,HR⟩:=hrel
    have br:=b1.below E
    have hlt:=br.1
    obtain ⟨q0,q1,q2,q3,q4,q5⟩:=br.cells
    by_cases hlk:k<x.kids.length
    ·obtain ⟨y,hy⟩ : ∃ y,x.kids[k]? = some y:=⟨_,List.getElem?_eq_getElem hlk⟩
     have hIr:=HI1.out.keep E
     obtain ⟨p0,p1,p2,p3,p4,p5⟩:=hIr.els.nd hy
     have ix:=hIr.els.idx ndl cN_len k hlk x.c
     have hyk:=hIr.kid y (List.mem_of_getElem? hy)
     have CY:=HIH.out y (List.mem_of_getElem? hy) m (deep+1) wr hyk hm1 (by omega)
     have hle:=walk_le arch y m (deep+1) hm1
     have hst:=HR.out
     unfold RestN at hst
     rw [walkL_drop hy] at hst
     rw [show ((deep+1:Nat):Int)=(deep:Int)+1 by omega] at CY
     generalize walkN arch y m (deep+1)=r at *
     obtain ⟨m2,e2⟩:=r
     simp only at hst CY hle
     have CY:=hid CY
     have hkl:=hIr.els.len
     clear hy hyk hIr HR br
     by_cases he:e2=0
     ·subst he
      rw [if_pos rfl] at hst
      have HST:=hid (show RestN arch (x.kids.drop (k+1)) m2 (deep+1) p from hst)
      clear hst
      go_wp2_with fail
      refine CY.out.mono ?_
      rintro e w2 ⟨rfl,E2⟩
      have E:=E.trans (E2.mono E.size)
      clear q0 q1 q2 q3 q4 q5 p0 p1 p2 p3 p4 p5 ix
      go_wp2_with fail
      go_roundw
      case rel=>exact ⟨k+1,m2,by omega,by go_num,rfl,hle,E,HST⟩
      case measure=>simp [intOf];omega
     ·rw [if_neg he] at hst
      have ze:(e2 != 0)=true:=by simpa using he
      have HST:=hid hst.symm
      clear hst he
      go_wp2_with fail
      refine CY.out.mono ?_
      rintro e w2 ⟨rfl,E2⟩
      have E:=E.trans (E2.mono E.size)
      clear q0 q1 q2 q3 q4 q5 p0 p1 p2 p3 p4 p5 ix
      go_wp2_with fail
      go_ret2
      have B:=B.trans (E.mono B.size)
      exact ⟨ret_pair (by rw [HST.out]) (by rw [HST.out]),blN⟩
    ·obtain rfl:k=x.kids.length:=by omega
     have hst:=HR.out
     unfold RestN at hst
     rw [List.drop_length,walkL_nil] at hst
     have HST:=hid hst.symm
     clear hst HR
     go_wp2_with fail
     go_ret2
     have B:=B.trans (E.mono B.size)
     exact ⟨ret_pair (by rw [HST.out]) (by rw [HST.out]),blN⟩
@[reducible] def vC (q:Int) (x:Nd):Value:=.agg #[.int .i64 q,.int .i64 x.kind,.int .i64 x.th.thread,.int .i64 x.th.reg,.string (tx x.th.loc),.int .i64 x.val,.slice x.a x.kids.length x.c]
abbrev mkC (q:Int) (x:Nd):Obj:=.cells #[.int .i64 q,.int .i64 x.kind,.int .i64 x.th.thread,.int .i64 x.th.reg,.string (tx x.th.loc),.int .i64 x.val,.slice x.a x.kids.length x.c] 37
theorem condE_q {arch q:Int} {x:Nd} (ha:archB arch=true) (h1:1≤q) (h2:q≤3):condE arch q x=(walkN arch x 0 0).2:=by
 unfold condE;rw [if_neg (by rw [ha];simp),if_neg (by omega)]
theorem condE_bad {arch q:Int} {x:Nd} (ha:archB arch=true) (h:q<1∨3<q):condE arch q x=80:=by
 unfold condE;rw [if_neg (by rw [ha];simp),if_pos h]
theorem condE_arch {arch q:Int} {x:Nd} (ha:archB arch=false):condE arch q x=5:=by
 unfold condE;rw [if_pos ha]
theorem r08Check (arch q:Int) (x:Nd) (w:World) (hI:NdIn w x) :
  Calls Tryz.prog 72 #[.int .i64 arch,vC q x] w (Ret w (.int .i64 (condE arch q x))):=by
 have B:=al w (mkC q x)
 obtain ⟨ab,hab⟩ : ∃ ab,archB arch=ab:=⟨_,rfl⟩
 have CA:=hid (show ∀ w,Calls Tryz.prog 112 #[.int .i64 arch] w fun e w'=>e = .returned (.bool ab)∧w=w' from fun w=>hab▸r08Known arch w)
 cases ab
 ·have HE:=hid (condE_arch (q:=q) (x:=x) hab)
  clear hab
  go_enter Tryz.func72,Tryz.ntmps72
  go_wp2_with (go_at_call 112;refine (CA.out _).mono ?_;rintro e w' ⟨rfl,rfl⟩)
  go_ret
  exact ⟨ret_int HE.out.symm,blN⟩
 ·by_cases h1:q<1
  ·have HE:=hid (condE_bad (x:=x) hab (.inl h1))
   clear hab
   go_enter Tryz.func72,Tryz.ntmps72
   go_wp2_with (go_at_call 112;refine (CA.out _).mono ?_;rintro e w' ⟨rfl,rfl⟩)
   go_ret
   exact ⟨ret_int HE.out.symm,blN⟩
  by_cases h2:q≤3
  ·have h1:1≤q:=by omega
   have CW:=r08Walk arch x 0 0 (w.alloc (mkC q x)) (hI.keep B) (by omega) (by omega)
   have HE:=hid (condE_q (x:=x) hab h1 h2)
   generalize walkN arch x 0 0=r at *
   obtain ⟨m2,e2⟩:=r
   have CW:=hid CW
   clear hab hI
   go_enter Tryz.func72,Tryz.ntmps72
   go_wp2_with (first|(go_at_call 112;refine (CA.out _).mono ?_;rintro e w' ⟨rfl,rfl⟩)|(go_at_call 113;refine CW.out.mono ?_;rintro e w2 ⟨rfl,E2⟩;have B:=B.trans (E2.mono B.size);clear E2))
   go_ret
   exact ⟨ret_int HE.out.symm,blN⟩
  ·have HE:=hid (condE_bad (q:=q) (x:=x) hab (.inr (by omega)))
   have h1:1≤q:=by omega
   clear hab
   go_enter Tryz.func72,Tryz.ntmps72
   go_wp2_with (go_at_call 112;refine (CA.out _).mono ?_;rintro e w' ⟨rfl,rfl⟩)
   go_ret
   exact ⟨ret_int HE.out.symm,blN⟩
end Go.Proofs.YthaibjefnclkjaaGreatDoor

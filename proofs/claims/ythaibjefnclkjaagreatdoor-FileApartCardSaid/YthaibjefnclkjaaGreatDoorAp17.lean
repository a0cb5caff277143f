/- The walk of put (document). Conditions: the row is the call's own. The walks of gather and Things (the document's answer 08). Conditions: the nodes lie in memory as read. -/
import Derived.Test.YthaibjefnclkjaaGreatDoorAp16
set_option linter.unusedVariables false
set_option maxRecDepth 100000
set_option maxHeartbeats 6400000
namespace Go.Proofs.YthaibjefnclkjaaGreatDoor
open Go.RowKit Go.Sort
abbrev sV (l:List Tx):List Value:=l.map fun x=>Value.string (tx x)
abbrev OwnS (w:World) (B:Nat) (a:Option Addr) (n c:Nat) (l:List Tx):Prop:=Own w B 9 1 a n c (sV l)
theorem sV_app (l r:List Tx):sV (l++r)=sV l++sV r:=List.map_append
theorem OwnS.txs {w:World} {B n c:Nat} {a:Option Addr} {l:List Tx} (h:OwnS w B a n c l) (hl:l.length≤1000000000000000000):Txs w a l:=⟨h.row,hl⟩
theorem Txs.at {w:World} {a:Option Addr} {l:List Tx} (h:Txs w a l) {k:Nat} {y:Tx} (hy:l[k]? = some y):w.cell? ⟨bk a,fo a+k,none⟩=some (.string (tx y)):=by
 obtain ⟨hlt,rfl⟩:=List.getElem?_eq_some_iff.1 hy
 exact h.cell k hlt
def RetS (B:Nat) (w:World) (l:List Tx) (e:Ending) (w':World):Prop :=
 ∃ a c,e = .returned (.slice a l.length c)∧OwnS w' B a l.length c l∧Below w.heap.size w w'
theorem r13Put (s:Tx) (acc:List Tx) (a:Option Addr) (c:Nat) (B:Nat) (w:World) (hB:B≤w.heap.size)
  (h:OwnS w B a acc.length c acc) (hl:acc.length≤10000) :
  Calls Tryz.prog 76 #[.slice a acc.length c,.string (tx s)] w (RetS B w (putX acc s)):=by
 by_cases hs:s = []
 ·subst hs
  have z:((tx []).toList==([]:List UInt8))=true:=by rw [tx_toList];rfl
  have HZ:=hid (show putX acc []=acc by unfold putX;rw [if_pos rfl])
  have H:=hid h
  clear h
  go_enter Tryz.func76,Tryz.ntmps76
  go_wp2_with fail
  go_ret
  rw [HZ.out]
  exact ⟨a,c,rfl,H.out,Below.refl _ _⟩
 have z5:((tx s).toList==([]:List UInt8))=false:=by rw [tx_toList];simpa using hs
 have z6:(tx s).toList.isEmpty=false:=by rw [tx_toList];cases s <;> simp at *
 obtain ⟨n,hn⟩ : ∃ n,acc.length=n:=⟨_,rfl⟩
 have HN:=hid hn
 rw [hn] at h hl ⊢
 have H1:=hid h
 have HB:=hid hB
 have HS:=hid hs
 clear hB h hn hs
 go_enter Tryz.func76,Tryz.ntmps76
 go_wp2_with fail
 clear z5 z6
 go_loopw [5,6,7] (fun out put i wr=>∃ (k:Nat) (ao:Option Addr) (co:Nat),k≤n∧i = .int .i64 k∧put = .bool ((acc.take k).any (ltX s))∧out = .slice ao (outX s (acc.take k)).length co∧Below w.heap.size w wr∧OwnS wr w.heap.size ao (outX s (acc.take k)).length co (outX s (acc.take k))∧Hid (s∉acc.take k)) (fun _ _ i _=>n-(intOf i).toNat)
 case atStart=>exact ⟨0,none,0,Nat.zero_le _,rfl,rfl,rfl,Below.refl _ _,Own.nil _ _ _ _,by simp [Hid]⟩
 case round =>
  obtain ⟨k,ao,co,hk,rfl,rfl,rfl,E1,oo,HNm⟩:=hrel
  have hol:=outX_len s (acc.take k)
  obtain ⟨L,hL⟩ : ∃ L,outX s (acc.take k)=L:=⟨_,rfl⟩
  obtain ⟨f,hf⟩ : ∃ f,(acc.take k).any (ltX s)=f:=⟨_,rfl⟩
  obtain ⟨m,hm⟩ : ∃ m,L.length=m:=⟨_,rfl⟩
  have HFL:=hid (And.intro hL hf)
  have HM:=hid hm
  rw [hL] at oo hol ⊢
  rw [hf]
  rw [hm] at oo hol ⊢
  rw [List.length_take] at hol
  clear hL hf hm
  by_cases hlt:k<n
  ·obtain ⟨y,hy⟩ : ∃ y,acc[k]? = some y:=⟨_,List.getElem?_eq_getElem (by rw [HN.out];exact hlt)⟩
   have HY:=hid hy
   have tt:=OwnS.txs (Own.below H1.out E1) (by have:=HN.out;omega)
   have p0:=tt.at hy
   have ix:=tt.idx k (by rw [HN.out];exact hlt) c
   rw [HN.out] at ix
   obtain ⟨d,hd⟩ : ∃ d,((tx y).toList==(tx s).toList)=d:=⟨_,rfl⟩
   obtain ⟨g,hg⟩ : ∃ g,Op.bytesLess (tx s).toList (tx y).toList=g:=⟨_,rfl⟩
   have HD:=hid (show decide (y=s)=d by rw [← hd,tx_beq,Bool.eq_iff_iff];simp)
   have HG:=hid (show ltX s y=g by rw [← hg,tx_toList,tx_toList,bytesLess_ltX])
   clear hy tt
   cases d with
   | true =>
    have HZ:=hid (show putX acc s=acc∧acc.length=n from ⟨by
     unfold putX;rw [if_neg HS.out,if_pos (by rw [← of_decide_eq_true HD.out];exact List.mem_of_getElem? HY.out)],HN.out⟩)
    go_wp2_with fail
    (try go_simp)
    go_ret
    refine ⟨a,c,?_,?_,E1⟩
    ·rw [HZ.out.1,HZ.out.2];first|done|rfl
    ·rw [HZ.out.1,HZ.out.2];exact Own.below H1.out E1
   | false =>
    have TK:=hid (show acc.take (k+1)=acc.take k++[y] by
     obtain ⟨hlt,rfl⟩:=List.getElem?_eq_some_iff.1 HY.out
     exact List.take_succ_eq_append_getElem hlt)
    have NM:=hid (show s∉acc.take k++[y] by
     intro hm
     rcases List.mem_append.1 hm with h1|h1
     ·exact HNm.out h1
     ·simp at h1;have:=of_decide_eq_false HD.out;exact this h1.symm)
    clear HNm
    cases f with
    | true =>
     have HT:=hid (show outX s (acc.take (k+1))=L++[y]∧(acc.take (k+1)).any (ltX s)=true from ⟨by rw [TK.out,outX_yes HFL.out.2,HFL.out.1],by rw [TK.out];simp [HFL.out.2]⟩)
     go_wp2_with (at_builtin;go_loud (refine wpList_app1n txl (.tmp 38) (.tmp 43) rfl rfl rfl rfl oo rfl rfl (by intro u hu;simp at hu;subst hu;rfl) E1 E1.size (by omega) (by unfold maxLen;omega) ?_))
     intro a5 c5 w5 o5 g5 B5
     have o5:OwnS w5 w.heap.size a5 (m+1) c5 (L++[y]):=by unfold OwnS;rw [sV_app];exact o5
     have E1:=B5
     clear g5 B5 p0 ix oo
     go_wp2_with fail
     go_roundw
     case rel =>
      have hz:(outX s (acc.take (k+1))).length=m+1:=by rw [HT.out.1,List.length_append,HM.out];rfl
      refine ⟨k+1,a5,c5,by omega,by go_num,?_,?_,E1,?_,?_⟩
      ·rw [HT.out.2]
      ·rw [hz]
      ·rw [hz,HT.out.1];exact o5
      ·rw [TK.out];exact NM.out
     case measure=>simp [intOf];omega
    | false =>
     cases g with
     | true =>
      have HT:=hid (show outX s (acc.take (k+1))=L++[s]++[y]∧(acc.take (k+1)).any (ltX s)=true from ⟨by rw [TK.out,outX_put HFL.out.2 HG.out,HFL.out.1],by rw [TK.out];simp [HG.out]⟩)
      go_wp2_with (at_builtin;go_loud (refine wpList_app1n txl (.tmp 34) (.tmp 36) rfl rfl rfl rfl oo rfl rfl (by intro u hu;simp at hu;subst hu;rfl) E1 E1.size (by omega) (by unfold maxLen;omega) ?_))
      intro a3 c3 w3 o3 g3 B3
      have o3:OwnS w3 w.heap.size a3 (m+1) c3 (L++[s]):=by unfold OwnS;rw [sV_app];exact o3
      have E1:=B3
      have oo:=o3
      clear o3 g3 B3 p0 ix
      have tt:=OwnS.txs (Own.below H1.out E1) (by have:=HN.out;omega)
      have p0:=tt.at HY.out
      have ix:=tt.idx k (by rw [HN.out];exact hlt) c
      rw [HN.out] at ix
      clear tt
      go_wp2_with (at_builtin;go_loud (refine wpList_app1n txl (.tmp 38) (.tmp 43) rfl rfl rfl rfl oo rfl rfl (by intro u hu;simp at hu;subst hu;rfl) E1 E1.size (by omega) (by unfold maxLen;omega) ?_))
      intro a5 c5 w5 o5 g5 B5
      have o5:OwnS w5 w.heap.size a5 (m+1+1) c5 (L++[s]++[y]):=by simpa [OwnS,sV] using o5
      have E1:=B5
      clear g5 B5 p0 ix oo
      go_wp2_with fail
      go_roundw
      case rel =>
       have hz:(outX s (acc.take (k+1))).length=m+1+1:=by rw [HT.out.1,List.length_append,List.length_append,HM.out];rfl
       refine ⟨k+1,a5,c5,by omega,by go_num,?_,?_,E1,?_,?_⟩
       ·rw [HT.out.2]
       ·rw [hz]
       ·rw [hz,HT.out.1];exact o5
       ·rw [TK.out];exact NM.out
      case measure=>simp [intOf];omega
     | false =>
      have HT:=hid (show outX s (acc.take (k+1))=L++[y]∧(acc.take (k+1)).any (ltX s)=false from ⟨by rw [TK.out,outX_no HFL.out.2 HG.out,HFL.out.1],by rw [TK.out];simp only [List.any_append,HFL.out.2,List.any_cons,HG.out,List.any_nil,Bool.or_false]⟩)
      go_wp2_with (at_builtin;go_loud (refine wpList_app1n txl (.tmp 38) (.tmp 43) rfl rfl rfl rfl oo rfl rfl (by intro u hu;simp at hu;subst hu;rfl) E1 E1.size (by omega) (by unfold maxLen;omega) ?_))
      intro a5 c5 w5 o5 g5 B5
      have o5:OwnS w5 w.heap.size a5 (m+1) c5 (L++[y]):=by unfold OwnS;rw [sV_app];exact o5
      have E1:=B5
      clear g5 B5 p0 ix oo
      go_wp2_with fail
      go_roundw
      case rel =>
       have hz:(outX s (acc.take (k+1))).length=m+1:=by rw [HT.out.1,List.length_append,HM.out];rfl
       refine ⟨k+1,a5,c5,by omega,by go_num,?_,?_,E1,?_,?_⟩
       ·rw [HT.out.2]
       ·rw [hz]
       ·rw [hz,HT.out.1];exact o5
       ·rw [TK.out];exact NM.out
      case measure=>simp [intOf];omega
  ·obtain rfl:k=n:=by omega
   have hk':acc.take k=acc:=by rw [← HN.out,List.take_length]
   have HQ:=hid (show putX acc s=if f then L else L++[s] by
    unfold putX
    rw [if_neg HS.out,if_neg (by have:=HNm.out;rwa [hk'] at this),insX_end]
    have h1:=HFL.out.1;have h2:=HFL.out.2
    rw [hk'] at h1 h2
    rw [h1,h2])
   clear hk' HNm
   cases f with
   | true =>
    go_wp2_with fail
    (try go_simp)
    go_ret
    have HQ':=HQ.out
    rw [if_pos trivial] at HQ'
    rw [HQ']
    refine ⟨ao,co,?_,?_,E1⟩
    ·rw [HM.out];first|done|rfl
    ·rw [HM.out];exact Own.mono oo HB.out
   | false =>
    go_wp2_with (at_builtin;go_loud (refine wpList_app1n txl (.tmp 47) (.tmp 49) rfl rfl rfl rfl oo rfl rfl (by intro u hu;simp at hu;subst hu;rfl) E1 E1.size (by omega) (by unfold maxLen;omega) ?_))
    intro a5 c5 w5 o5 g5 B5
    have o5:OwnS w5 w.heap.size a5 (m+1) c5 (L++[s]):=by unfold OwnS;rw [sV_app];exact o5
    have E1:=B5
    clear g5 B5 oo
    go_wp2_with fail
    (try go_simp)
    go_ret
    have HQ':=HQ.out
    rw [if_neg (by simp)] at HQ'
    rw [HQ']
    refine ⟨a5,c5,?_,?_,E1⟩
    ·rw [List.length_append,HM.out];first|done|rfl
    ·rw [List.length_append,HM.out];exact Own.mono o5 HB.out
attribute [local go_sem high] eqTh neqTh
theorem insT_snoc (t y:Th) : ∀ l:List Th,insT t (l++[y])=if l.any (befT t) then insT t l++[y] else if befT t y then l++[t,y] else l++[y,t]
 | []=>by simp [insT]
 | z::r=>by
  rw [List.cons_append,insT,insT_snoc t y r]
  cases h:befT t z
  ·simp only [List.any_cons,h,Bool.false_or,insT,if_false,Bool.false_eq_true]
   by_cases h2:r.any (befT t)=true
   ·simp [h2]
   ·by_cases h3:befT t y=true
    ·simp [h2,h3]
    ·simp [h2,h3]
  ·simp [h,insT]
def outT (t:Th) (l:List Th):List Th:=if l.any (befT t) then insT t l else l
theorem insT_no {t:Th} : ∀ {l:List Th},¬ l.any (befT t)=true→insT t l=l++[t]
 | [],_=>rfl
 | z::r,h=>by
  simp only [List.any_cons,Bool.or_eq_true,not_or] at h
  rw [insT,if_neg h.1,insT_no h.2];rfl
theorem insT_end (t:Th) (l:List Th):insT t l=if l.any (befT t) then outT t l else outT t l++[t]:=by
 unfold outT
 by_cases h:l.any (befT t)=true
 ·rw [if_pos h,if_pos h]
 ·rw [if_neg h,if_neg h];exact insT_no h
theorem outT_yes {t y:Th} {l:List Th} (h:l.any (befT t)=true):outT t (l++[y])=outT t l++[y]:=by
 unfold outT
 rw [if_pos (by simp [h]),if_pos h,insT_snoc,if_pos h]
theorem outT_put {t y:Th} {l:List Th} (h:l.any (befT t)=false) (h2:befT t y=true):outT t (l++[y])=outT t l++[t]++[y]:=by
 unfold outT
 rw [if_pos (by simp [h2]),if_neg (by simp [h]),insT_snoc,if_neg (by simp [h]),if_pos h2];simp
theorem outT_no {t y:Th} {l:List Th} (h:l.any (befT t)=false) (h2:befT t y=false):outT t (l++[y])=outT t l++[y]:=by
 unfold outT
 rw [if_neg (by simp [h,h2]),if_neg (by simp [h])]
theorem outT_len (t:Th) (l:List Th):(outT t l).length≤l.length+1:=by
 have h:(insT t l).length≤l.length+1:=by
  induction l with
  | nil=>simp [insT]
  | cons z r ih=>unfold insT;split <;> simp only [List.length_cons] <;> omega
 unfold outT;split <;> omega
def RetG (B:Nat) (w:World) (l:List Th) (e:Ending) (w':World):Prop :=
 ∃ a c,e = .returned (.slice a l.length c)∧OwnT w' B a l.length c l∧Below w.heap.size w w'
theorem r08GatherA (x:Nd) (hk:x.kind=2) (ho:thingB 2 x.th=true) (acc:List Th) (a:Option Addr) (c:Nat) (B:Nat) (w:World) (hB:B≤w.heap.size)
  (h:OwnT w B a acc.length c acc) (hv : ∀ t∈acc,thingB 2 t=true) (hl:acc.length≤10000) :
  Calls Tryz.prog 118 #[vN x,.slice a acc.length c] w (RetG B w (putT x.th acc)):=by
 have A:=al w (mkN x)
 have b0:=BxN.new w x
 have h1:=Own.below h A
 have zk:(x.kind==2)=true:=by simpa using hk
 obtain ⟨n,hn⟩ : ∃ n,acc.length=n:=⟨_,rfl⟩
 have HN:=hid hn
 rw [hn] at h1 hl ⊢
 have H1:=hid h1
 have HB:=hid hB
 have HV:=hid hv
 have HO:=hid ho
 have HA:=hid A
 have HB0:=hid b0
 have HF:=hid (fun (hf : ¬ x.th∈acc)=>insT_end x.th acc)
 clear hk hB h h1 hv ho hn HF A
 go_enter Tryz.func118,Tryz.ntmps118
 go_upto_region 1 with (fail)
 generalize w.alloc (mkN x)=W1 at *
 obtain ⟨q0,-⟩:=b0.cells
 go_wp2_with fail
 clear q0
 go_loopw [5,6,7] (fun out put i wr=>∃ (k:Nat) (ao:Option Addr) (co:Nat),k≤n∧i = .int .i64 k∧put = .bool ((acc.take k).any (befT x.th))∧out = .slice ao (outT x.th (acc.take k)).length co∧Below W1.heap.size W1 wr∧OwnT wr W1.heap.size ao (outT x.th (acc.take k)).length co (outT x.th (acc.take k))∧Hid (x.th∉acc.take k)) (fun _ _ i _=>n-(intOf i).toNat)
 case atStart=>exact ⟨0,none,0,Nat.zero_le _,rfl,rfl,rfl,Below.refl _ _,Own.nil _ _ _ _,by simp [Hid]⟩
 case round =>
  obtain ⟨k,ao,co,hk,rfl,rfl,rfl,E1,oo,HNm⟩:=hrel
  have b0:=b0.below E1
  have hol:=outT_len x.th (acc.take k)
  obtain ⟨L,hL⟩ : ∃ L,outT x.th (acc.take k)=L:=⟨_,rfl⟩
  obtain ⟨f,hf⟩ : ∃ f,(acc.take k).any (befT x.th)=f:=⟨_,rfl⟩
  obtain ⟨m,hm⟩ : ∃ m,L.length=m:=⟨_,rfl⟩
  have HFL:=hid (And.intro hL hf)
  have HM:=hid hm
  rw [hL] at oo hol ⊢
  rw [hf]
  rw [hm] at oo hol ⊢
  rw [List.length_take] at hol
  clear hL hf hm
  have hacc:=Own.below H1.out E1
  by_cases hlt:k<n
  ·obtain ⟨y,hy⟩ : ∃ y,acc[k]? = some y:=⟨_,List.getElem?_eq_getElem (by rw [HN.out];exact hlt)⟩
   have HY:=hid hy
   have els:=(Own.els hacc cTh_len (by omega) (by have:=HN.out;omega)).1
   obtain ⟨p0,p1,p2⟩:=els.th hy
   have ix:=els.idx thl cTh_len k (by rw [HN.out];exact hlt) c
   rw [HN.out] at ix
   obtain ⟨q0,q1,q2,q3,q4,q5⟩:=b0.cells
   obtain ⟨d,hd⟩ : ∃ d,decide (y=x.th)=d:=⟨_,rfl⟩
   have HD:=hid hd
   have BF:=hid (show ∀ w,Calls Tryz.prog 157 #[vTh x.th,vTh y] w (Ret w (.bool (befT x.th y))) from fun w=>r08Before ⟨x.th,HO.out⟩ ⟨y,HV.out y (List.mem_of_getElem? HY.out)⟩ w)
   have hsz:W1.heap.size≤wr.heap.size:=E1.size
   clear hy els hd hacc
   go_wp2_with fail
   have p0:=cell_regrown p0;have p1:=cell_regrown p1;have p2:=cell_regrown p2;have q0:=cell_regrown q0;have q1:=cell_regrown q1;have q2:=cell_regrown q2;have q3:=cell_regrown q3
   refine wp_region_quiet_below (by kernel_rfl) (by kernel_rfl) ?_
   repeat (go_big_quiet_step (fail))
   refine wpQuiet_nil ?_
   intro _ hw'
   obtain ⟨⟨dq,osq⟩,hw''⟩:=hw'
   subst hw''
   have EQ:=below_regrown wr dq osq
   generalize grow (redrawn wr dq) osq=W7 at *
   have b0:=b0.below EQ
   have oo:=Own.below oo EQ
   have E1:=E1.trans (EQ.mono E1.size)
   clear EQ p0 p1 p2 q0 q1 q2 q3 q4 q5 ix hsz
   have els:=(Own.els (Own.below H1.out E1) cTh_len (by omega) (by have:=HN.out;omega)).1
   obtain ⟨p0,p1,p2⟩:=els.th HY.out
   have ix:=els.idx thl cTh_len k (by rw [HN.out];exact hlt) c
   rw [HN.out] at ix
   obtain ⟨q0,q1,q2,q3,q4,q5⟩:=b0.cells
   clear els
   cases d with
   | true =>
    have HZ:=hid (show putT x.th acc=acc∧acc.length=n from ⟨by
     unfold putT;rw [if_pos (by rw [← of_decide_eq_true HD.out];exact List.mem_of_getElem? HY.out)],HN.out⟩)
    rw [HD.out]
    go_wp2_with fail
    (try go_simp)
    go_ret
    have E:=HA.out.trans (E1.mono HA.out.size)
    refine ⟨a,c,?_,?_,E⟩
    ·rw [HZ.out.1,HZ.out.2];first|done|rfl
    ·rw [HZ.out.1,HZ.out.2];exact Own.below H1.out E1
   | false =>
    have TK:=hid (show acc.take (k+1)=acc.take k++[y] by
     obtain ⟨hlt,rfl⟩:=List.getElem?_eq_some_iff.1 HY.out
     exact List.take_succ_eq_append_getElem hlt)
    have NM:=hid (show x.th∉acc.take k++[y] by
     intro hm
     rcases List.mem_append.1 hm with h1|h1
     ·exact HNm.out h1
     ·simp at h1;have:=of_decide_eq_false HD.out;exact this h1.symm)
    clear HNm
    rw [HD.out]
    cases f with
    | true =>
     have HT:=hid (show outT x.th (acc.take (k+1))=L++[y]∧(acc.take (k+1)).any (befT x.th)=true from ⟨by rw [TK.out,outT_yes HFL.out.2,HFL.out.1],by rw [TK.out];simp [HFL.out.2]⟩)
     go_wp2_with fail
     have p0:=cell_regrown p0;have p1:=cell_regrown p1;have p2:=cell_regrown p2;have q0:=cell_regrown q0;have q1:=cell_regrown q1;have q2:=cell_regrown q2;have q3:=cell_regrown q3
     refine wp_region_quiet_below (by kernel_rfl) (by kernel_rfl) ?_
     repeat (go_big_quiet_step (fail))
     refine wpQuiet_nil ?_
     intro _ hw'
     obtain ⟨⟨dq,osq⟩,hw''⟩:=hw'
     subst hw''
     have EQ:=below_regrown W7 dq osq
     generalize grow (redrawn W7 dq) osq=W9 at *
     have b0:=b0.below EQ
     have oo:=Own.below oo EQ
     have E1:=E1.trans (EQ.mono E1.size)
     clear EQ p0 p1 p2 q0 q1 q2 q3 q4 q5 ix
     obtain ⟨p0,p1,p2⟩:=(Own.els (Own.below H1.out E1) cTh_len (by omega) (by have:=HN.out;omega)).1.th HY.out
     have ix:=(Own.els (Own.below H1.out E1) cTh_len (by omega) (by have:=HN.out;omega)).1.idx thl cTh_len k (by rw [HN.out];exact hlt) c
     rw [HN.out] at ix
     obtain ⟨q0,q1,q2,q3,q4,q5⟩:=b0.cells
     go_wp2_with (at_builtin;go_loud (refine wpList_app1n thl (.tmp 42) (.tmp 47) rfl rfl rfl rfl oo rfl rfl (by intro u hu;simp at hu;rcases hu with rfl|rfl|rfl <;> rfl) E1 E1.size (by omega) (by unfold maxLen;omega) ?_))
     intro a5 c5 w5 o5 g5 B5
     have o5:OwnT w5 W1.heap.size a5 (m+1) c5 (L++[y]):=by unfold OwnT;rw [flat_app,flat_one];exact o5
     have E1:=B5
     have b0:=HB0.out.below E1
     clear g5 B5 p0 p1 p2 q0 q1 q2 q3 q4 q5 ix oo
     go_wp2_with fail
     go_roundw
     case rel =>
      have hz:(outT x.th (acc.take (k+1))).length=m+1:=by rw [HT.out.1,List.length_append,HM.out];rfl
      refine ⟨k+1,a5,c5,by omega,by go_num,?_,?_,E1,?_,?_⟩
      ·rw [HT.out.2]
      ·rw [hz]
      ·rw [hz,HT.out.1];exact o5
      ·rw [TK.out];exact NM.out
     case measure=>simp [intOf];omega
    | false =>
     obtain ⟨g,hg⟩ : ∃ g,befT x.th y=g:=⟨_,rfl⟩
     rw [hg] at BF
     go_wp2_with fail
     have p0:=cell_regrown p0;have p1:=cell_regrown p1;have p2:=cell_regrown p2;have q0:=cell_regrown q0;have q1:=cell_regrown q1;have q2:=cell_regrown q2;have q3:=cell_regrown q3
     have cA:=fun (d:Nat) (os:Array Obj)=>Calls.regrown_of (retc' (BF.out (grow (redrawn W7 d) os)))
     refine wp_region_quiet_below (by kernel_rfl) (by kernel_rfl) ?_
     repeat (go_big_quiet_step (exact cA _ _))
     refine wpQuiet_nil ?_
     intro _ hw'
     obtain ⟨⟨dq,osq⟩,hw''⟩:=hw'
     subst hw''
     have EQ:=below_regrown W7 dq osq
     generalize grow (redrawn W7 dq) osq=W9 at *
     have b0:=b0.below EQ
     have oo:=Own.below oo EQ
     have E1:=E1.trans (EQ.mono E1.size)
     clear EQ p0 p1 p2 q0 q1 q2 q3 q4 q5 ix
     obtain ⟨p0,p1,p2⟩:=(Own.els (Own.below H1.out E1) cTh_len (by omega) (by have:=HN.out;omega)).1.th HY.out
     have ix:=(Own.els (Own.below H1.out E1) cTh_len (by omega) (by have:=HN.out;omega)).1.idx thl cTh_len k (by rw [HN.out];exact hlt) c
     rw [HN.out] at ix
     obtain ⟨q0,q1,q2,q3,q4,q5⟩:=b0.cells
     clear cA
     cases g with
     | true =>
      have HT:=hid (show outT x.th (acc.take (k+1))=L++[x.th]++[y]∧(acc.take (k+1)).any (befT x.th)=true from ⟨by rw [TK.out,outT_put HFL.out.2 hg,HFL.out.1],by rw [TK.out];simp [hg]⟩)
      clear hg
      go_wp2_with (at_builtin;go_loud (refine wpList_app1n thl (.tmp 37) (.tmp 40) rfl rfl rfl rfl oo rfl rfl (by intro u hu;simp at hu;rcases hu with rfl|rfl|rfl <;> rfl) E1 E1.size (by omega) (by unfold maxLen;omega) ?_))
      intro a3 c3 w3 o3 g3 B3
      have o3:OwnT w3 W1.heap.size a3 (m+1) c3 (L++[x.th]):=by unfold OwnT;rw [flat_app,flat_one];exact o3
      have E1:=B3
      have b0:=HB0.out.below E1
      have oo:=o3
      clear o3 g3 B3 p0 p1 p2 q0 q1 q2 q3 q4 q5 ix
      obtain ⟨p0,p1,p2⟩:=(Own.els (Own.below H1.out E1) cTh_len (by omega) (by have:=HN.out;omega)).1.th HY.out
      have ix:=(Own.els (Own.below H1.out E1) cTh_len (by omega) (by have:=HN.out;omega)).1.idx thl cTh_len k (by rw [HN.out];exact hlt) c
      rw [HN.out] at ix
      obtain ⟨q0,q1,q2,q3,q4,q5⟩:=b0.cells
      go_wp2_with (at_builtin;go_loud (refine wpList_app1n thl (.tmp 42) (.tmp 47) rfl rfl rfl rfl oo rfl rfl (by intro u hu;simp at hu;rcases hu with rfl|rfl|rfl <;> rfl) E1 E1.size (by omega) (by unfold maxLen;omega) ?_))
      intro a5 c5 w5 o5 g5 B5
      have o5:OwnT w5 W1.heap.size a5 (m+1+1) c5 (L++[x.th]++[y]):=by unfold OwnT;rw [flat_app,flat_one];exact o5
      have E1:=B5
      have b0:=HB0.out.below E1
      clear g5 B5 p0 p1 p2 q0 q1 q2 q3 q4 q5 ix oo
      go_wp2_with fail
      go_roundw
      case rel =>
       have hz:(outT x.th (acc.take (k+1))).length=m+1+1:=by rw [HT.out.1,List.length_append,List.length_append,HM.out];rfl
       refine ⟨k+1,a5,c5,by omega,by go_num,?_,?_,E1,?_,?_⟩
       ·rw [HT.out.2]
       ·rw [hz]
       ·rw [hz,HT.out.1];exact o5
       ·rw [TK.out];exact NM.out
      case measure=>simp [intOf];omega
     | false =>
      have HT:=hid (show outT x.th (acc.take (k+1))=L++[y]∧(acc.take (k+1)).any (befT x.th)=false from ⟨by rw [TK.out,outT_no HFL.out.2 hg,HFL.out.1],by rw [TK.out];simp only [List.any_append,HFL.out.2,List.any_cons,hg,List.any_nil,Bool.or_false]⟩)
      clear hg
      go_wp2_with (at_builtin;go_loud (refine wpList_app1n thl (.tmp 42) (.tmp 47) rfl rfl rfl rfl oo rfl rfl (by intro u hu;simp at hu;rcases hu with rfl|rfl|rfl <;> rfl) E1 E1.size (by omega) (by unfold maxLen;omega) ?_))
      intro a5 c5 w5 o5 g5 B5
      have o5:OwnT w5 W1.heap.size a5 (m+1) c5 (L++[y]):=by unfold OwnT;rw [flat_app,flat_one];exact o5
      have E1:=B5
      have b0:=HB0.out.below E1
      clear g5 B5 p0 p1 p2 q0 q1 q2 q3 q4 q5 ix oo
      go_wp2_with fail
      go_roundw
      case rel =>
       have hz:(outT x.th (acc.take (k+1))).length=m+1:=by rw [HT.out.1,List.length_append,HM.out];rfl
       refine ⟨k+1,a5,c5,by omega,by go_num,?_,?_,E1,?_,?_⟩
       ·rw [HT.out.2]
       ·rw [hz]
       ·rw [hz,HT.out.1];exact o5
       ·rw [TK.out];exact NM.out
      case measure=>simp [intOf];omega
  ·obtain rfl:k=n:=by omega
   have hk':acc.take k=acc:=by rw [← HN.out,List.take_length]
   have HQ:=hid (show putT x.th acc=if f then L else L++[x.th] by
    unfold putT
    rw [if_neg (by have:=HNm.out;rwa [hk'] at this),insT_end]
    have h1:=HFL.out.1;have h2:=HFL.out.2
    rw [hk'] at h1 h2
    rw [h1,h2])
   obtain ⟨q0,q1,q2,q3,q4,q5⟩:=b0.cells
   clear hacc hk' HNm
   cases f with
   | true =>
    go_wp2_with fail
    (try go_simp)
    go_ret
    have E:=HA.out.trans (E1.mono HA.out.size)
    have HQ':=HQ.out
    rw [if_pos trivial] at HQ'
    rw [HQ']
    refine ⟨ao,co,?_,?_,E⟩
    ·rw [HM.out];first|done|rfl
    ·rw [HM.out];exact Own.mono oo (by have:=HA.out.size;have:=HB.out;omega)
   | false =>
    go_wp2_with (at_builtin;go_loud (refine wpList_app1n thl (.tmp 51) (.tmp 54) rfl rfl rfl rfl oo rfl rfl (by intro u hu;simp at hu;rcases hu with rfl|rfl|rfl <;> rfl) E1 E1.size (by omega) (by unfold maxLen;omega) ?_))
    intro a5 c5 w5 o5 g5 B5
    have o5:OwnT w5 W1.heap.size a5 (m+1) c5 (L++[x.th]):=by unfold OwnT;rw [flat_app,flat_one];exact o5
    have E1:=B5
    clear g5 B5 q0 q1 q2 q3 q4 q5 oo
    go_wp2_with fail
    (try go_simp)
    go_ret
    have E:=HA.out.trans (E1.mono HA.out.size)
    have HQ':=HQ.out
    rw [if_neg (by simp)] at HQ'
    rw [HQ']
    refine ⟨a5,c5,?_,?_,E⟩
    ·rw [List.length_append,HM.out];first|done|rfl
    ·rw [List.length_append,HM.out];exact Own.mono o5 (by have:=HA.out.size;have:=HB.out;omega)
theorem r08Gather : ∀ (x:Nd) (acc:List Th) (a:Option Addr) (c:Nat) (B:Nat) (w:World),OkN 2 x→NdIn w x→B≤w.heap.size →
  OwnT w B a acc.length c acc→(∀ t∈acc,thingB 2 t=true)→RiseT acc→acc.length+cntN x≤10000 →
  Calls Tryz.prog 118 #[vN x,.slice a acc.length c] w (RetG B w (gatherN x acc)):=by
 intro x
 induction x using Nd.ind with
 | h x ih =>
 intro acc a c B w ho hI hB h hv hr hl
 by_cases hk:x.kind=2
 ·rw [gatherN_eq,if_pos hk]
  exact r08GatherA x hk (ho.thing hk).1 acc a c B w hB h hv (by omega)
 ·rw [gatherN_eq,if_neg hk]
  have hc:=cntN_eq x
  have A:=al w (mkN x)
  have b0:=BxN.new w x
  have h1:=Own.below h A
  have zk:(x.kind==2)=false:=by simpa using hk
  have HI:=hid (hI.keep A)
  have HA:=hid A
  have HIH:=hid ih
  have HO:=hid ho
  have hB1:B≤(w.alloc (mkN x)).heap.size:=Nat.le_trans hB A.size
  have HVR:=hid (And.intro hv hr)
  clear hk ih hB h hI ho hv hr A
  go_enter Tryz.func118,Tryz.ntmps118
  go_upto_region 1 with (fail)
  generalize w.alloc (mkN x)=W1 at *
  obtain ⟨q0,q1,q2,q3,q4,q5⟩:=b0.cells
  go_wp2_with fail
  clear q0 q1 q2 q3 q4 q5
  go_loopw [1,8] (fun ls i wr=>∃ (k:Nat) (a1:Option Addr) (c1:Nat),k≤x.kids.length∧i = .int .i64 k∧ls = .slice a1 (gatherL (x.kids.take k) acc).length c1∧Below W1.heap.size W1 wr∧OwnT wr B a1 (gatherL (x.kids.take k) acc).length c1 (gatherL (x.kids.take k) acc)∧Hid ((∀ z∈gatherL (x.kids.take k) acc,thingB 2 z=true)∧RiseT (gatherL (x.kids.take k) acc))∧(gatherL (x.kids.take k) acc).length≤acc.length+cntL (x.kids.take k)) (fun _ i _=>x.kids.length-(intOf i).toNat)
  case atStart=>exact ⟨0,a,c,Nat.zero_le _,rfl,by rw [List.take_zero,gatherL_nil],Below.refl _ _,by rw [List.take_zero,gatherL_nil];exact h1,by rw [List.take_zero,gatherL_nil];exact HVR,by rw [List.take_zero,gatherL_nil];omega⟩
  case round =>
   clear h1
   obtain ⟨k,a1,c1,hk,rfl,rfl,E,oo,HK,hlen⟩:=hrel
   have b0:=b0.below E
   obtain ⟨q0,q1,q2,q3,q4,q5⟩:=b0.cells
   obtain ⟨l,hl1⟩ : ∃ l,gatherL (x.kids.take k) acc=l:=⟨_,rfl⟩
   have HL1:=hid hl1
   rw [hl1] at oo HK hlen ⊢
   clear hl1
   by_cases hlt:k<x.kids.length
   ·obtain ⟨y,hy⟩ : ∃ y,x.kids[k]? = some y:=⟨_,List.getElem?_eq_getElem hlt⟩
    have hym:=List.mem_of_getElem? hy
    have hIr:=HI.out.keep E
    obtain ⟨p0,p1,p2,p3,p4,p5⟩:=hIr.els.nd hy
    have ix:=hIr.els.idx ndl cN_len k hlt x.c
    have hle:=hIr.els.len
    have hT:x.kids.take (k+1)=x.kids.take k++[y]:=by
     obtain ⟨hlt,rfl⟩:=List.getElem?_eq_some_iff.1 hy
     exact List.take_succ_eq_append_getElem hlt
    have hc1:cntL (x.kids.take (k+1))=cntL (x.kids.take k)+cntN y:=by rw [hT,cntL_app,cntL_cons,cntL_nil];rfl
    have hc2:cntL x.kids=cntL (x.kids.take (k+1))+cntL (x.kids.drop (k+1)):=by rw [← cntL_app,List.take_append_drop]
    have GN:=gather_ok (HO.out.kid y hym) HK.out.1 HK.out.2
    have A:=al wr (mkN y)
    have CY:=hid (HIH.out y hym l a1 c1 B wr (HO.out.kid y hym) (hIr.kid y hym) (Nat.le_trans hB1 E.size) oo HK.out.1 HK.out.2 (by omega))
    have HT:=hid (show gatherL (x.kids.take (k+1)) acc=gatherN y l by rw [gatherL_take hy,HL1.out])
    have HG:=hid (And.intro (And.intro GN.1 GN.2.1) (show (gatherN y l).length≤acc.length+cntL (x.kids.take (k+1)) by have:=GN.2.2.2;omega))
    clear hy hym hIr GN hT hc1 hc2
    go_wp2_with fail
    refine CY.out.mono ?_
    rintro e w2 ⟨a2,c2,rfl,o2,E2⟩
    have E2:=E.trans (E2.mono E.size)
    clear oo E b0 CY A q0 q1 q2 q3 q4 q5 p0 p1 p2 p3 p4 p5 ix
    go_wp2_with fail
    go_roundw
    case rel =>
     refine ⟨k+1,a2,c2,by omega,by go_num,?_,E2,?_,?_,?_⟩
     ·rw [HT.out]
     ·rw [HT.out];exact o2
     ·rw [HT.out];exact HG.out.1
     ·rw [HT.out];exact HG.out.2
    case measure=>simp [intOf];omega
   ·obtain rfl:k=x.kids.length:=by omega
    have HE:=hid (show gatherL x.kids acc=l by rw [← HL1.out,List.take_length])
    go_wp2_with fail
    (try go_simp)
    go_ret
    rw [HE.out]
    exact ⟨a1,c1,rfl,oo,HA.out.trans (E.mono HA.out.size)⟩
theorem r08Things (q:Int) (x:Nd) (w:World) (hI:NdIn w x):Calls Tryz.prog 77 #[vC q x] w (RetThE w (thingsC q x) (condE 2 q x)):=by
 have B:=al w (mkC q x)
 have b0:BxL (w.alloc (mkC q x)) w.heap.size (cC q x):=BxL.new w _ _
 have CH:=r08Check 2 q x (w.alloc (mkC q x)) (hI.keep B)
 obtain ⟨r,hr⟩ : ∃ r,condE 2 q x=r:=⟨_,rfl⟩
 rw [hr] at CH ⊢
 by_cases h0:r=0
 ·subst h0
  obtain ⟨-,hq1,hq2,ho,hn⟩:=cond_ok hr
  have hT:=hid (show thingsC q x=thingsN x by unfold thingsC;rw [if_pos hr])
  have CH:=hid CH
  have HI:=hid (hI.keep B)
  have HO:=hid ho
  clear hr hI ho
  go_enter Tryz.func77,Tryz.ntmps77
  go_wp2_with fail
  refine CH.out.mono ?_
  rintro e1 w1 ⟨rfl,E1⟩
  obtain ⟨q0,q1,q2,q3,q4,q5,q6⟩:=(b0.below E1).cC
  have hI:=HI.out.keep E1
  have B:=B.trans (E1.mono B.size)
  have TH:=hid (r08Gather x [] none 0 w.heap.size w1 HO.out hI B.size (Own.nil _ _ _ _) (by simp) List.Pairwise.nil (by simp;omega))
  clear E1 CH HI hI
  go_wp2_with fail
  refine TH.out.mono ?_
  rintro e2 w2 ⟨a,c,rfl,o2,E2⟩
  have B2:=B.trans (E2.mono B.size)
  have HZ:=hid (And.intro o2 B2)
  clear q0 q1 q2 q3 q4 q5 q6 o2 TH E2 B2
  go_wp2_with fail
  go_ret2
  rw [hT.out]
  exact ⟨a,c,rfl,HZ.out.1,HZ.out.2⟩
 ·have hT:=hid (show thingsC q x = [] by unfold thingsC;rw [if_neg (by rw [hr];exact h0)])
  have z:(r != 0)=true:=by simpa using h0
  have CH:=hid CH
  clear hr hI h0
  go_enter Tryz.func77,Tryz.ntmps77
  go_wp2_with fail
  refine CH.out.mono ?_
  rintro e1 w1 ⟨rfl,E1⟩
  have B:=B.trans (E1.mono B.size)
  go_wp2_with fail
  go_ret2
  exact RetThE.none hT.out rfl B
end Go.Proofs.YthaibjefnclkjaaGreatDoor

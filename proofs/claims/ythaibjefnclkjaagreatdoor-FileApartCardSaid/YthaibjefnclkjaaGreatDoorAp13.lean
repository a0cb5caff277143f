/- A strings.Builder at the head of a block, alone there or embedded in a struct: copyCheck, WriteString, String, Len. Condition: at most 2^47 bytes. After the shelf's contracts of a builder in a block of its own. The walks of atoms, things and Things (cond). Conditions: the nodes lie in memory as read. The walks of atoms, things and Things (cond). Conditions: the nodes lie in memory as read. -/
import Derived.Lib.Builder
import Derived.Lib.AppendStr
import Derived.Lib.UnsafeStr
import Derived.Lib.OthersKept
import Derived.Laws.Externs
import Derived.RegionTactic
import Derived.Test.YthaibjefnclkjaaGreatDoorAp12
set_option linter.unusedVariables false
set_option maxRecDepth 100000
set_option maxHeartbeats 6400000
namespace Go.Proofs.YthaibjefnclkjaaGreatDoor
open Go.RowKit
abbrev u8T:TypeId:=5
def Blk (w:World) (b:Nat) (l:List Value) (T:TypeId):Prop:=w.heap[b]? = some (.cells l.toArray T (0,0))
theorem Blk.new (w:World) (us:Array Value) (T:TypeId):Blk (w.alloc (.cells us T)) w.heap.size us.toList T:=heap_alloc_new w _
theorem Blk.lt {w:World} {b:Nat} {l:List Value} {T:TypeId} (h:Blk w b l T):b<w.heap.size:=(Array.getElem?_eq_some_iff.1 h).1
theorem Blk.below {w w':World} {b:Nat} {l:List Value} {T:TypeId} (h:Blk w b l T) (hb:Below w.heap.size w w'):Blk w' b l T:=by
 unfold Blk;rw [hb.block b h.lt];exact h
theorem Blk.get {w:World} {b:Nat} {l:List Value} {T:TypeId} (h:Blk w b l T) (k:Nat) (v:Value) (hk:l[k]? = some v):w.cell? ⟨b,k,none⟩=some v:=by
 rw [Lib.cell_of_heap h k];simpa using hk
theorem Blk.frozen {w:World} {b:Nat} {l:List Value} {T:TypeId} (h:Blk w b l T) (k:Nat):w.frozen? ⟨b,k,none⟩=false:=Lib.frozen_of_heap h k
theorem Blk.others {w w':World} {b b':Nat} {l:List Value} {T:TypeId} (h:Blk w b l T) (hk:Lib.OthersKept u8T (some b') w w') (hne:b≠b') (hT:T≠u8T):Blk w' b l T :=
 hk b _ h (by simpa using hne) (fun c fz e=>by cases e;exact hT rfl)
theorem others_below {w w':World} (b:Option Nat) (h:Below w.heap.size w w'):Lib.OthersKept u8T b w w' :=
 fun k o hk _ _=>by rw [h.block k (Array.getElem?_eq_some_iff.1 hk).1];exact hk
def BldAt (w:World) (B b:Nat) (T:TypeId) (R:List Value) (p:Value) (l:Tx):Prop :=
 B≤b∧∃ v,w.heap[b]? = some (.cells (p::v::R).toArray T (0,0))∧w.ownsRow B u8T 1 v l.length (Lib.byteCells l)∧v.ownBlock≠some b
def Bld (w:World) (B b:Nat) (T:TypeId) (R:List Value) (l:Tx):Prop:=BldAt w B b T R (.pointer none) l∨BldAt w B b T R (.pointer (some ⟨b,0,none⟩)) l
theorem Bld.at {w:World} {B b:Nat} {T:TypeId} {R:List Value} {l:Tx} (h:Bld w B b T R l) : ∃ p,BldAt w B b T R p l:=by
 rcases h with h|h
 ·exact ⟨_,h⟩
 ·exact ⟨_,h⟩
theorem BldAt.below {w w':World} {B b:Nat} {T:TypeId} {R:List Value} {p:Value} {l:Tx} (h:BldAt w B b T R p l) (hb:Below w.heap.size w w'):BldAt w' B b T R p l:=by
 obtain ⟨h1,v,h2,h3,h4⟩:=h
 have hlt:=(Array.getElem?_eq_some_iff.1 h2).1
 refine ⟨h1,v,by rw [hb.block b hlt];exact h2,?_,h4⟩
 rcases h3.2 with ⟨hv,h0⟩|⟨g,cap,cur,hv,hbg,hg,r⟩
 ·exact ⟨h3.1,.inl ⟨hv,h0⟩⟩
 ·exact ⟨h3.1,.inr ⟨g,cap,cur,hv,hbg,by rw [hb.block g (Array.getElem?_eq_some_iff.1 hg).1];exact hg,r⟩⟩
theorem Bld.below {w w':World} {B b:Nat} {T:TypeId} {R:List Value} {l:Tx} (h:Bld w B b T R l) (hb:Below w.heap.size w w'):Bld w' B b T R l :=
 h.elim (fun x=>.inl (x.below hb)) (fun x=>.inr (x.below hb))
theorem Bld.base {w:World} {B b:Nat} {T:TypeId} {R:List Value} {l:Tx} (h:Bld w B b T R l):B≤b∧b<w.heap.size:=by
 obtain ⟨p,h1,v,h2,_⟩:=h.at
 exact ⟨h1,(Array.getElem?_eq_some_iff.1 h2).1⟩
theorem Bld.rest {w:World} {B b:Nat} {T:TypeId} {R:List Value} {l:Tx} (h:Bld w B b T R l) (k:Nat) (v:Value) (hk:R[k]? = some v):w.cell? ⟨b,k+2,none⟩=some v:=by
 obtain ⟨p,h1,u,h2,_⟩:=h.at
 rw [Lib.cell_of_heap h2];simpa using hk
theorem ownBlock_neB {w:World} {B:Nat} {T:TypeId} {v:Value} {n:Nat} {xs:List Value} {b:Nat} {cs:Array Value} {fr:Nat × Nat} (hown:w.ownsRow B u8T 1 v n xs) (hb:w.heap[b]? = some (.cells cs T fr)) (hT:T≠u8T):v.ownBlock≠some b:=by
 rcases hown.2 with ⟨rfl,_⟩|⟨g,cap,cur,rfl,hg,hh,_⟩
 ·simp [Value.ownBlock]
 ·intro e
  simp [Value.ownBlock] at e
  rw [e,hb] at hh
  simp at hh
  exact hT hh.2.1
theorem Bld.new (w:World) (T:TypeId) (R:List Value):Bld (w.alloc (.cells (Value.pointer none::.slice none 0 0::R).toArray T)) w.heap.size w.heap.size T R [] :=
 .inl ⟨Nat.le_refl _,.slice none 0 0,heap_alloc_new w _,World.ownsRow_nil _ _ _ _,by simp [Value.ownBlock]⟩
structure BldT (T:TypeId) (n:Nat):Prop where
 lies:liesAt Tryz.prog Tryz.prog.depth T (n / Tryz.prog.cellsOf T) 0 56 1=true
 ne:T≠u8T
 two:2≤n
theorem u8l:(Tryz.prog.info? u8T).map (fun i=>(i.zero,i.size,i.bytes))=some (some (.int .u8 0),1,1):=by kernel_rfl
theorem bsz : ∃ j,Tryz.prog.info? 56=some j∧j.size=2:=by
 have h:(Tryz.prog.info? 56).map (·.size)=some 2:=by kernel_rfl
 obtain ⟨j,hj,hs⟩:=Option.map_eq_some_iff.1 h
 exact ⟨j,hj,hs⟩
theorem BldAt.set0 {w:World} {B b:Nat} {T:TypeId} {R:List Value} {p:Value} {l:Tx} (h:BldAt w B b T R p l) (q:Value):BldAt (w.setCell ⟨b,0,none⟩ q) B b T R q l:=by
 obtain ⟨hB,v,hb,hown,hne⟩:=h
 refine ⟨hB,v,?_,?_,hne⟩
 ·simp [World.setCell,Array.getElem?_modify,hb]
 ·refine hown.kept (row:=some b) ⟨rfl,rfl,rfl,by simp [World.setCell],fun k _ hk=>Below.heap_setCell _ _ _ _ (fun e=>hk (by simp [e]))⟩ ?_
  exact Or.inr hne
theorem BldAt.put {w:World} {B b:Nat} {T:TypeId} {R:List Value} {p v v':Value} {l':Tx} (hB:B≤b) (hb:w.heap[b]? = some (.cells (p::v::R).toArray T (0,0))) (hown:w.ownsRow B u8T 1 v' l'.length (Lib.byteCells l')) (hT:T≠u8T):BldAt (w.setCell ⟨b,1,none⟩ v') B b T R p l':=by
 have hne:v'.ownBlock≠some b:=ownBlock_neB hown hb hT
 refine ⟨hB,v',?_,?_,hne⟩
 ·simp [World.setCell,Array.getElem?_modify,hb]
 ·refine hown.kept (row:=some b) ⟨rfl,rfl,rfl,by simp [World.setCell],fun k _ hk=>Below.heap_setCell _ _ _ _ (fun e=>hk (by simp [e]))⟩ ?_
  exact Or.inr hne
theorem bldCheck (B b:Nat) (T:TypeId) (R:List Value) (l:Tx) (w:World) (hT:BldT T (R.length+2)) (h:Bld w B b T R l) :
  Calls Tryz.prog 66 #[.pointer (some ⟨b,0,none⟩)] w fun e w'=>e = .returned (.tuple #[])∧BldAt w' B b T R (.pointer (some ⟨b,0,none⟩)) l∧Below B w w'∧Lib.OthersKept u8T (some b) w w':=by
 obtain ⟨j,hj,hjs⟩:=bsz
 have uB:=Tryz.underlying53
 have uU:=Tryz.underlying117
 rcases h with h|h
 ·have h':=h
  obtain ⟨hB,v,hb,hown,hne⟩:=h'
  have c0:w.cell? ⟨b,0,none⟩=some (.pointer none):=by rw [Lib.cell_of_heap hb];rfl
  have f0:w.frozen? ⟨b,0,none⟩=false:=Lib.frozen_of_heap hb 0
  have hsh:w.shape? b=some (T,R.length+2):=by simp [World.shape?,hb]
  have hKEY:=hid (And.intro (h.set0 (.pointer (some ⟨b,0,none⟩))) (And.intro ((Below.refl B w).setCell (p:=⟨b,0,none⟩) hB (.pointer (some ⟨b,0,none⟩))) ((Lib.OthersKept.refl u8T (some b) w).setCell ⟨b,0,none⟩ rfl (.pointer (some ⟨b,0,none⟩)))))
  have hj':=hid hj
  have hs':=hid hjs
  have HS:=hid hsh
  clear hown hne hb h hj hjs hsh
  go_enter Tryz.func66,Tryz.ntmps66
  go_wp2
  rw [Lib.run_to_unsafe w ⟨b,0,none⟩ uB uU hj'.out (by rw [hs'.out];decide) HS.out (by simp)]
  simp only [Result.andThen]
  rw [Oper.upon_value]
  go_wp2
  rw [run_callFunc_extern Tryz.func104 (by kernel_rfl) (by kernel_rfl) (by kernel_rfl) (e:=Extern.AbiNoEscape.same) (by kernel_rfl)]
  rw [Lib.run_noEscape]
  simp only [Result.andThen]
  rw [Oper.upon_value]
  go_wp2
  rw [Lib.run_from_unsafe w ⟨b,0,none⟩ uU uB hj'.out HS.out hT.lies]
  simp only [Result.andThen]
  rw [Oper.upon_value]
  go_wp2
  go_end0
  exact ⟨rfl,hKEY.out⟩
 ·have h':=h
  obtain ⟨hB,v,hb,hown,hne⟩:=h'
  have c0:w.cell? ⟨b,0,none⟩=some (.pointer (some ⟨b,0,none⟩)):=by rw [Lib.cell_of_heap hb];rfl
  have hKEY:=hid h
  have hj':=hid hj
  clear hown hne hb h hj hjs
  go_enter Tryz.func66,Tryz.ntmps66
  go_wp2
  rw [Lib.run_neq_ptr_same w _ uB hj'.out]
  go_wp2
  go_end0
  exact ⟨rfl,hKEY.out,Below.refl _ _,Lib.OthersKept.refl _ _ _⟩
theorem strCells_tx (s:Tx):Lib.strCells (tx s)=Lib.byteCells s:=by rw [Lib.strCells_eq];simp [tx]
theorem bldWrite (B b:Nat) (T:TypeId) (R:List Value) (l s:Tx) (w:World) (hT:BldT T (R.length+2)) (h:Bld w B b T R l) (hlen:l.length+s.length≤140737488355328) (hBw:B≤w.heap.size) :
  Calls Tryz.prog 29 #[.pointer (some ⟨b,0,none⟩),.string (tx s)] w fun e w'=>e = .returned (.tuple #[.int .i64 s.length,.nilIface])∧Bld w' B b T R (l++s)∧Below B w w'∧Lib.OthersKept u8T (some b) w w':=by
 obtain ⟨i0,hi,hz0,hz1,hz2⟩:=info_parts u8l
 have hss:=tx_size s
 have uS:=Tryz.underlying54
 have uT:=Tryz.underlying9
 obtain ⟨n,hn⟩ : ∃ n,l.length=n:=⟨_,rfl⟩
 have CC:=hid (bldCheck B b T R l w hT h)
 have HN:=hid hn
 have HB:=hid hBw
 clear hn h hBw
 go_enter Tryz.func29,Tryz.ntmps29
 go_wp2_with fail
 refine CC.out.mono ?_
 rintro e w1 ⟨rfl,h1,hb1,k1⟩
 obtain ⟨hB,v,hbk,hown,hne⟩:=h1
 have c0:w1.cell? ⟨b,0,none⟩=some (.pointer (some ⟨b,0,none⟩)):=by rw [Lib.cell_of_heap hbk];rfl
 have c1:w1.cell? ⟨b,1,none⟩=some v:=by rw [Lib.cell_of_heap hbk];rfl
 go_wp2_with (at_builtin;refine Lib.wpList_append_own_string _ rfl _ _ 54 9 rfl B u8T i0 uS uT hi hz0 hz1 hz2 _ _ _ rfl hown (tx s) rfl ?c3 ?c4 ?c5 ?_)
 case c3=>rw [tx_size];unfold maxLen;omega
 case c4=>rw [tx_size];omega
 case c5=>have:=hb1.size;have:=HB.out;omega
 intro v' w2 hown' hgrow _
 have hlt:b<w1.heap.size:=(Array.getElem?_eq_some_iff.1 hbk).1
 have hb2:w2.heap[b]? = some (.cells (Value.pointer (some ⟨b,0,none⟩)::v::R).toArray T (0,0)):=by
  rw [hgrow.block b hlt (fun e=>hne e.symm)]
  exact hbk
 have d1:w2.cell? ⟨b,1,none⟩=some v:=by rw [Lib.cell_of_heap hb2];rfl
 have f1:w2.frozen? ⟨b,1,none⟩=false:=Lib.frozen_of_heap hb2 1
 have k2:Lib.OthersKept u8T (some b) w w2:=k1.grown hgrow (Lib.ownsRowF_kind (World.ownsRowF_of hown))
 obtain ⟨ao,n',cap,rfl⟩ : ∃ ao n' cap,v' = .slice ao n' cap:=by
  rcases hown'.2 with ⟨hv,_⟩|⟨g,cap,cur,hv,_⟩
  ·exact ⟨_,_,_,hv⟩
  ·exact ⟨_,_,_,hv⟩
 have own2:w2.ownsRow B u8T 1 (.slice ao n' cap) (l++s).length (Lib.byteCells (l++s)):=by
  rw [Lib.byteCells_append,← strCells_tx s,List.length_append,← tx_size s];exact hown'
 have PUT:=hid (BldAt.put hB hb2 own2 hT.ne)
 have BL:=hid ((hb1.grown hgrow (by have:=hb1.size;have:=HB.out;omega) (fun k hk=>(hown.lt k hk).1)).setCell (p:=⟨b,1,none⟩) hB (.slice ao n' cap))
 have KK:=hid (k2.setCell ⟨b,1,none⟩ rfl (.slice ao n' cap))
 clear hown' hgrow own2 hown hne hbk hb2 k1 k2 hb1
 go_wp2_with fail
 go_ret2
 exact ⟨rfl,.inr PUT.out,BL.out,KK.out⟩
theorem bldString (B b:Nat) (T:TypeId) (R:List Value) (l:Tx) (w:World) (h:Bld w B b T R l) (h0:l≠[]) :
  Calls Tryz.prog 35 #[.pointer (some ⟨b,0,none⟩)] w fun e w'=>e = .returned (.string (tx l))∧Below B w w':=by
 obtain ⟨p,hB,v,hbk,hown,hne⟩:=h.at
 have hl0:l.length≠0:=by simpa using h0
 obtain ⟨g,cap,cur,rfl,hbg,hg,hnc,hcm,hcs,htake⟩ : ∃ g cap cur,v = .slice (some ⟨g,0,none⟩) l.length cap∧B≤g∧w.heap[g]? = some (.cells cur u8T (0,0))∧l.length≤cap∧cap≤maxLen∧cur.size=cap * 1∧cur.toList.take (l.length * 1)=Lib.byteCells l:=by
  rcases hown.2 with ⟨_,hz⟩|⟨g,cap,cur,hv,r⟩
  ·exact absurd hz hl0
  ·exact ⟨g,cap,cur,hv,r⟩
 have c1:w.drew.cell? ⟨b,1,none⟩=some (.slice (some ⟨g,0,none⟩) l.length cap):=by
  have:w.drew.heap[b]? = some (.cells (p::.slice (some ⟨g,0,none⟩) l.length cap::R).toArray T (0,0)):=hbk
  rw [Lib.cell_of_heap this];rfl
 have hSD:(Builtin.unsafeSliceData_ #[54] 94 #[.slice (some ⟨g,0,none⟩) l.length cap]).run Tryz.prog w.drew = .ok (.pointer (some ⟨g,0,none⟩)) w.drew :=
  Lib.run_unsafeSliceData_row _ _ _ _ _ _ (by omega)
 have hUS:(Builtin.unsafeString_ #[94,3] 9 #[.pointer (some ⟨g,0,none⟩),.int .i64 l.length]).run Tryz.prog w.drew = .ok (.string (tx l)) (w.drew.freeze ⟨g,0,none⟩ l.length):=by
  refine Lib.run_unsafeString_row w.drew 94 3 9 u8T Tryz.underlying94 (by kernel_rfl) g cur.size (by have hg':w.drew.heap[g]? = some (.cells cur u8T (0,0)):=hg;simp [World.shape?,hg']) l h0 (by omega) (by unfold maxLen at hcm;omega) ?_
  intro j x hx
  have:=hown.cells (g:=g) rfl j (.int .u8 x.toNat) (by simp [Lib.byteCells,hx])
  exact this
 have FZ:=hid (Lib.below_freeze (Below.drew (Below.refl B w)) (p:=⟨g,0,none⟩) hbg l.length)
 clear hown hne hbk hg htake hcs h h0 hl0
 go_enter Tryz.func35,Tryz.ntmps35
 go_wp2_with fail
 go_region
 all_goals
  go_wp2_with fail
  go_ret
  exact ⟨rfl,FZ.out⟩
theorem bldLen (B b:Nat) (T:TypeId) (R:List Value) (l:Tx) (w:World) (h:Bld w B b T R l) :
  Calls Tryz.prog 34 #[.pointer (some ⟨b,0,none⟩)] w fun e w'=>e = .returned (.int .i64 l.length)∧w=w':=by
 obtain ⟨p,hB,v,hbk,hown,hne⟩:=h.at
 obtain ⟨ao,cap,rfl⟩ : ∃ ao cap,v = .slice ao l.length cap:=by
  rcases hown.2 with ⟨hv,h0⟩|⟨g,cap,cur,hv,_⟩
  ·exact ⟨none,0,by rw [hv,h0]⟩
  ·exact ⟨_,_,hv⟩
 have c1:w.cell? ⟨b,1,none⟩=some (.slice ao l.length cap):=by rw [Lib.cell_of_heap hbk];rfl
 clear hown hne hbk h
 go_enter Tryz.func34,Tryz.ntmps34
 go_wp2_with fail
 go_ret
 exact ⟨rfl,rfl⟩
theorem bldT2:BldT 56 2:=⟨by kernel_rfl,by decide,Nat.le_refl _⟩
theorem bldT3:BldT 92 3:=⟨by kernel_rfl,by decide,by omega⟩
end Go.Proofs.YthaibjefnclkjaaGreatDoor
namespace Go.Proofs.YthaibjefnclkjaaGreatDoor
open Go.RowKit Go.Sort
abbrev thT:TypeId:=32
theorem Blk.othersE {w w':World} {b b':Nat} {l:List Value} {T e:TypeId} (h:Blk w b l T) (hk:Lib.OthersKept e (some b') w w') (hne:b≠b') (hT:T≠e):Blk w' b l T :=
 hk b _ h (by simpa using hne) (fun c fz e'=>by cases e';exact hT rfl)
theorem others_belowE {w w':World} (e:TypeId) (b:Option Nat) (h:Below w.heap.size w w'):Lib.OthersKept e b w w' :=
 fun k o hk _ _=>by rw [h.block k (Array.getElem?_eq_some_iff.1 hk).1];exact hk
def LB (w:World) (B lb:Nat) (ts:List Th):Prop:=∃ a c,Blk w lb [.slice a ts.length c] 78∧OwnT w B a ts.length c ts∧B≤lb
theorem LB.below {w w':World} {B lb:Nat} {ts:List Th} (h:LB w B lb ts) (hb:Below w.heap.size w w'):LB w' B lb ts:=by
 obtain ⟨a,c,h1,h2,h3⟩:=h
 exact ⟨a,c,h1.below hb,Own.below h2 hb,h3⟩
theorem own_kind {w:World} {B E size n c:Nat} {a:Option Addr} {xs:List Value} (h:Own w B E size a n c xs) : ∀ g,a.map (·.block)=some g→∃ cs fz,w.heap[g]? = some (.cells cs E fz):=by
 intro g hg
 rcases h.2 with ⟨h2,h0⟩|⟨g',cap,cur,hv,hbg,hh,r⟩
 ·simp only [Value.slice.injEq] at h2
  rw [h2.1] at hg;cases hg
 ·cases hv
  simp only [Option.map_some,Option.some.injEq] at hg
  subst hg
  exact ⟨cur,_,hh⟩
def RetA (w0 w:World) (lb:Nat) (ts:List Th) (e:Ending) (w':World):Prop :=
 e = .returned (.tuple #[])∧LB w' w0.heap.size lb ts∧Below w0.heap.size w0 w'∧Lib.OthersKept thT (some lb) w w'
theorem condAsk (x:Nd) (w0 w:World) (lb:Nat) (ts:List Th) (hB:Below w0.heap.size w0 w) (h:LB w w0.heap.size lb ts) (hl:ts.length≤100000) :
  Calls Tryz.prog 165 #[vN x,.pointer (some ⟨lb,0,none⟩)] w (RetA w0 w lb (ts++[x.th])):=by
 obtain ⟨a,c,h1,h2,h3⟩:=h
 have A:=al w (mkN x)
 have b0:Blk (w.alloc (mkN x)) w.heap.size (cN x) 35:=Blk.new w _ _
 have h1:=h1.below A
 have h2:=Own.below h2 A
 have hB1:=hB.trans (A.mono hB.size)
 have K0:=others_belowE thT (some lb) A
 have c1:=h1.get 0 _ rfl
 have hlt:=h1.lt
 have hsz:=hB1.size
 obtain ⟨n,hn⟩ : ∃ n,ts.length=n:=⟨_,rfl⟩
 rw [hn] at c1 h1 h2 hl
 have HN:=hid hn
 have H1:=hid h1;have HB1:=hid hB1
 have hlb:lb<w.heap.size+1:=by simpa using hlt
 have hN1:(w.alloc (mkN x)).heap.size=w.heap.size+1:=by simp
 clear hB A hn h1 hlt
 go_enter Tryz.func165,Tryz.ntmps165
 go_wp2_with (at_builtin;go_loud (refine wpList_app1n thl (.tmp 3) (.tmp 6) rfl rfl hN1 rfl h2 rfl rfl (by intro u hu;simp at hu;rcases hu with rfl|rfl|rfl <;> rfl) hB1 hsz (by omega) (by unfold maxLen;omega) ?_))
 intro a3 c3 w3 o3 g3 B3
 have hka:=own_kind h2
 have hne : ∀ g,a.map (·.block)=some g→g≠lb:=by
  intro g hg e
  subst e
  obtain ⟨cs,fz,hh⟩:=hka _ hg
  have:=H1.out
  unfold Blk at this
  rw [this] at hh
  simp at hh
 have K3:Lib.OthersKept thT (some lb) w w3:=K0.grown (g3.step.grown) hka
 have L3:Blk w3 lb [.slice a n c] 78:=by
  unfold Blk
  rw [g3.step.grown.block lb (by simp;omega) (fun e=>hne lb e.symm rfl)]
  exact H1.out
 have d1:=L3.get 0 _ rfl
 have f1:=L3.frozen 0
 have oF:OwnT w3 w0.heap.size a3 (n+1) c3 (ts++[x.th]):=by
  unfold OwnT;rw [flat_app,flat_one];exact o3
 have s0:Step w3 (w3.setCell ⟨lb,0,none⟩ (.slice a3 (n+1) c3)) (some ⟨lb,0,none⟩) (some ⟨lb,0,none⟩) :=
  ⟨⟨rfl,rfl,rfl,by simp [World.setCell],fun k _ hk=>Below.heap_setCell _ _ _ _ (fun e=>hk (by simp [e]))⟩,.inl rfl⟩
 have hne3 : ∀ g,a3.map (·.block)=some g→g≠lb:=by
  intro g hg e
  subst e
  obtain ⟨cs,fz,hh⟩:=own_kind oF _ hg
  have:=L3
  unfold Blk at this
  rw [this] at hh
  simp at hh
 have oZ:OwnT (w3.setCell ⟨lb,0,none⟩ (.slice a3 (n+1) c3)) w0.heap.size a3 (n+1) c3 (ts++[x.th]):=by
  refine Own.kept oF s0.grown ?_
  cases a3 with
  | none=>exact .inl rfl
  | some q=>right;have:=hne3 q.block rfl;simp [bk];exact this
 have bZ:Blk (w3.setCell ⟨lb,0,none⟩ (.slice a3 (n+1) c3)) lb [.slice a3 (n+1) c3] 78:=by
  have:=L3
  unfold Blk at this ⊢
  simp [World.setCell,Array.getElem?_modify,this]
 have KZ:=K3.setCell ⟨lb,0,none⟩ rfl (.slice a3 (n+1) c3)
 have BZ:=B3.setCell (p:=⟨lb,0,none⟩) h3 (.slice a3 (n+1) c3)
 have hfin:LB (w3.setCell ⟨lb,0,none⟩ (.slice a3 (n+1) c3)) w0.heap.size lb (ts++[x.th]):=by
  refine ⟨a3,c3,?_,?_,h3⟩
  ·rw [List.length_append,HN.out];exact bZ
  ·rw [List.length_append,HN.out];exact oZ
 have HF:=hid (And.intro hfin (And.intro BZ KZ))
 clear hfin BZ KZ bZ oZ hne3 s0 oF L3 K3 hne hka o3 g3 B3 K0 h2 hB1 c1 b0
 go_wp2_with fail
 go_end0
 exact ⟨rfl,HF.out.1,HF.out.2.1,HF.out.2.2⟩
theorem condAtoms : ∀ (x:Nd) (w0 w:World) (lb:Nat) (ts:List Th),NdIn w0 x→Below w0.heap.size w0 w→LB w w0.heap.size lb ts→ts.length+cntN x≤10000 →
  Calls Tryz.prog 164 #[vN x,.func (.func 165) #[] #[.pointer (some ⟨lb,0,none⟩)]] w (RetA w0 w lb (ts++atomsN x)):=by
 intro x
 induction x using Nd.ind with
 | h x ih =>
 intro w0 w lb ts hI hB hL hl
 have hc:=cntN_eq x
 have hlb:lb<w.heap.size:=by obtain ⟨a,c,h1,h2,h3⟩:=hL;exact h1.lt
 have hne:w.heap.size≠lb:=by omega
 have A:=al w (mkN x)
 have b0:Blk (w.alloc (mkN x)) w.heap.size (cN x) 35:=Blk.new w _ _
 have hL:=hL.below A
 have hB:=hB.trans (A.mono hB.size)
 have K:=others_belowE thT (some lb) A
 have HI:=hid hI
 have HIH:=hid ih
 obtain ⟨ts1,hts⟩ : ∃ ts1,ts++(if x.kind=2 then [x.th] else [])=ts1:=⟨_,rfl⟩
 have E:=hid (show ts++atomsN x=ts1++atomsL x.kids by rw [atomsN_eq,← List.append_assoc,hts])
 have hl1:ts1.length+cntL x.kids≤10000:=by rw [← hts];split <;> simp <;> omega
 clear ih hI A
 by_cases hk:x.kind=2
 ·rw [if_pos hk] at hts
  have zk:(x.kind==2)=true:=by simpa using hk
  have AK:=hid (condAsk x w0 (w.alloc (mkN x)) lb ts hB hL (by omega))
  rw [hts] at AK
  clear hB hL hk hts
  go_enter Tryz.func164,Tryz.ntmps164
  go_wp2_with fail
  refine AK.out.mono ?_
  rintro e w1 ⟨rfl,hL,hB,K1⟩
  have K:=K.trans K1
  have b0:=b0.othersE K1 hne (by decide)
  clear K1 AK
  have q5:=b0.get 5 _ rfl
  go_wp2_with fail
  clear q5
  have ndne:35≠thT:=by decide
  go_loopw [15] (fun i wr=>∃ k:Nat,k≤x.kids.length∧i = .int .i64 k∧Below w0.heap.size w0 wr∧LB wr w0.heap.size lb (ts1++atomsL (x.kids.take k))∧Lib.OthersKept thT (some lb) w wr∧Blk wr w.heap.size (cN x) 35) (fun i _=>x.kids.length-(intOf i).toNat)
  case atStart=>exact ⟨0,Nat.zero_le _,rfl,hB,by rw [List.take_zero,atomsL_nil,List.append_nil];exact hL,K,b0⟩
  case round =>
   clear hB hL K b0
   obtain ⟨k,hk,rfl,hB,hL,K,b0⟩:=hrel
   by_cases hlk:k<x.kids.length
   ·obtain ⟨y,hy⟩ : ∃ y,x.kids[k]? = some y:=⟨_,List.getElem?_eq_getElem hlk⟩
    have hym:=List.mem_of_getElem? hy
    have hIr:=HI.out.keep hB
    obtain ⟨p0,p1,p2,p3,p4,p5⟩:=hIr.els.nd hy
    have ix:=hIr.els.idx ndl cN_len k hlk x.c
    have hkl:=hIr.els.len
    have hlk2:(atomsL (x.kids.take k)).length+cntN y≤cntL x.kids:=by
     have h1:=cntL_app (x.kids.take (k+1)) (x.kids.drop (k+1))
     rw [List.take_append_drop] at h1
     have h2:x.kids.take (k+1)=x.kids.take k++[y]:=by
      obtain ⟨hlt,rfl⟩:=List.getElem?_eq_some_iff.1 hy
      exact List.take_succ_eq_append_getElem hlt
     rw [h2,cntL_app,cntL_cons,cntL_nil] at h1
     have h3 : ∀ l:List Nd,(atomsL l).length≤cntL l:=by
      intro l
      induction l with
      | nil=>rw [atomsL_nil];simp
      | cons z r ih=>rw [atomsL_cons,cntL_cons,List.length_append];have:=atomsN_len z;omega
     have:=h3 (x.kids.take k)
     omega
    have A:=al wr (mkN y)
    have hLA:=hL.below A
    have hBA:=hB.trans (A.mono hB.size)
    have KA:=K.trans (others_belowE thT (some lb) A)
    have b0A:=b0.below A
    have CY:=hid (HIH.out y hym w0 (wr.alloc (mkN y)) lb (ts1++atomsL (x.kids.take k)) (HI.out.kid y hym) hBA hLA (by rw [List.length_append];omega))
    have HT:=hid (atomsL_take hy)
    clear hy hym hIr hB hL K b0 A hLA hBA hlk2
    go_wp2_with fail
    refine CY.out.mono ?_
    rintro e w2 ⟨rfl,hL,hB,K2⟩
    have K:=KA.trans K2
    have b0:=b0A.othersE K2 hne ndne
    rw [List.append_assoc,← HT.out] at hL
    clear K2 p0 p1 p2 p3 p4 p5 ix KA b0A CY
    go_wp2_with fail
    go_roundw
    case rel=>exact ⟨k+1,by omega,by go_num,hB,hL,K,b0⟩
    case measure=>simp [intOf];omega
   ·obtain rfl:k=x.kids.length:=by omega
    rw [List.take_length,← E.out] at hL
    go_wp2_with fail
    go_end0
    exact ⟨rfl,hL,hB,K⟩
 ·rw [if_neg hk,List.append_nil] at hts
  have zk:(x.kind==2)=false:=by simpa using hk
  have h9:=hts.symm
  clear hts
  subst h9
  clear hk
  go_enter Tryz.func164,Tryz.ntmps164
  go_upto_region 1 with (fail)
  generalize w.alloc (mkN x)=W1 at *
  have q0:=b0.get 0 _ rfl
  have q5:=b0.get 5 _ rfl
  go_wp2_with fail
  clear q5
  have ndne:35≠thT:=by decide
  go_loopw [15] (fun i wr=>∃ k:Nat,k≤x.kids.length∧i = .int .i64 k∧Below w0.heap.size w0 wr∧LB wr w0.heap.size lb (ts1++atomsL (x.kids.take k))∧Lib.OthersKept thT (some lb) w wr∧Blk wr w.heap.size (cN x) 35) (fun i _=>x.kids.length-(intOf i).toNat)
  case atStart=>exact ⟨0,Nat.zero_le _,rfl,hB,by rw [List.take_zero,atomsL_nil,List.append_nil];exact hL,K,b0⟩
  case round =>
   clear hB hL K b0
   obtain ⟨k,hk,rfl,hB,hL,K,b0⟩:=hrel
   by_cases hlk:k<x.kids.length
   ·obtain ⟨y,hy⟩ : ∃ y,x.kids[k]? = some y:=⟨_,List.getElem?_eq_getElem hlk⟩
    have hym:=List.mem_of_getElem? hy
    have hIr:=HI.out.keep hB
    obtain ⟨p0,p1,p2,p3,p4,p5⟩:=hIr.els.nd hy
    have ix:=hIr.els.idx ndl cN_len k hlk x.c
    have hkl:=hIr.els.len
    have hlk2:(atomsL (x.kids.take k)).length+cntN y≤cntL x.kids:=by
     have h1:=cntL_app (x.kids.take (k+1)) (x.kids.drop (k+1))
     rw [List.take_append_drop] at h1
     have h2:x.kids.take (k+1)=x.kids.take k++[y]:=by
      obtain ⟨hlt,rfl⟩:=List.getElem?_eq_some_iff.1 hy
      exact List.take_succ_eq_append_getElem hlt
     rw [h2,cntL_app,cntL_cons,cntL_nil] at h1
     have h3 : ∀ l:List Nd,(atomsL l).length≤cntL l:=by
      intro l
      induction l with
      | nil=>rw [atomsL_nil];simp
      | cons z r ih=>rw [atomsL_cons,cntL_cons,List.length_append];have:=atomsN_len z;omega
     have:=h3 (x.kids.take k)
     omega
    have A:=al wr (mkN y)
    have hLA:=hL.below A
    have hBA:=hB.trans (A.mono hB.size)
    have KA:=K.trans (others_belowE thT (some lb) A)
    have b0A:=b0.below A
    have CY:=hid (HIH.out y hym w0 (wr.alloc (mkN y)) lb (ts1++atomsL (x.kids.take k)) (HI.out.kid y hym) hBA hLA (by rw [List.length_append];omega))
    have HT:=hid (atomsL_take hy)
    clear hy hym hIr hB hL K b0 A hLA hBA hlk2
    go_wp2_with fail
    refine CY.out.mono ?_
    rintro e w2 ⟨rfl,hL,hB,K2⟩
    have K:=KA.trans K2
    have b0:=b0A.othersE K2 hne ndne
    rw [List.append_assoc,← HT.out] at hL
    clear K2 p0 p1 p2 p3 p4 p5 ix KA b0A CY
    go_wp2_with fail
    go_roundw
    case rel=>exact ⟨k+1,by omega,by go_num,hB,hL,K,b0⟩
    case measure=>simp [intOf];omega
   ·obtain rfl:k=x.kids.length:=by omega
    rw [List.take_length,← E.out] at hL
    go_wp2_with fail
    go_end0
    exact ⟨rfl,hL,hB,K⟩
end Go.Proofs.YthaibjefnclkjaaGreatDoor

/- Tests that come in to a statement by value, as the walks take them. Lemmas of this claim's own; no condition. The walks of SameCode and SameNode (document). Conditions: what is compared lies in memory as read. Nodes without their places in memory, compared with stacks. No program, no condition. -/
import Derived.Deep.Slices
import Derived.Deep.Fields
import Derived.ChangeSame
import Derived.Lib.SmallJoins
import Derived.Test.YthaibjefnclkjaaGreatDoorAp36
set_option linter.unusedVariables false
set_option maxRecDepth 100000
set_option maxHeartbeats 3200000
namespace Go.Proofs.YthaibjefnclkjaaGreatDoor
open Go.ChangeShapes Go.WideShapes Go.Deep Go.RowKit Go.Joins
section
variable {H:Type} {enc:TypeId × Value→H} {P:Program} {w:World} {base:Nat} {spare:Nat→Bool} {held:Bool}
theorem fld {n:Nat} {fs:Array Field} {cs:List Value} {xs:List (DataW H × List MemPlace)} (hxl:xs.length=fs.size)
  (hg : ∀ (i:Nat) (f:Field),fs[i]? = some f→DataW.trod enc P w base spare held n f.type ((cs.drop f.offset).take (P.cellsOf f.type))=xs[i]?)
  (i:Nat) (f:Field) (hf:fs[i]? = some f) (ft:TypeId) (o k:Nat) (h1:f.type=ft) (h2:f.offset=o) (h3:P.cellsOf ft=k) :
  ∃ y,xs[i]? = some y∧DataW.trod enc P w base spare held n ft ((cs.drop o).take k)=some y:=by
 have hlt:=(Array.getElem?_eq_some_iff.1 hf).1
 have hy:xs[i]? = some (xs[i]'(by omega)):=List.getElem?_eq_getElem (by omega)
 have:=hg i f hf
 rw [h1,h2,h3,hy] at this
 exact ⟨_,hy,this⟩
theorem rows_of {α : Type} {encA : α → List Value} {m : Nat} {Q : Nat → α → Prop} (hm : ∀ x, (encA x).length = m) (hpos : 0 < m) {a : Addr} {len : Nat} (z : α) (hlen : len ≤ 1000000000000000000)
    (key : ∀ i, i < len → ∃ e : α, Q i e ∧ ∀ j, j < m → w.cell? (a.add (i * m + j)) = (encA e)[j]?) : ∃ l : List α, l.length = len ∧ Els encA w (some a) l ∧ ∀ i e, l[i]? = some e → Q i e := by
  obtain ⟨f, hf⟩ : ∃ f : Nat → α, ∀ i, i < len → Q i (f i) ∧ ∀ j, j < m → w.cell? (a.add (i * m + j)) = (encA (f i))[j]? :=
    ⟨fun i => if h : i < len then Classical.choose (key i h) else z, fun i hil => by simp only [hil, dite_true]; exact Classical.choose_spec (key i hil)⟩
  refine ⟨(List.range len).map f, by simp, ⟨⟨fun hne => ?_, fun i hil => ?_⟩, by simpa using hlen⟩, fun i e he => ?_⟩
  · have h0 : 0 < len := by
      rcases Nat.eq_zero_or_pos len with h0 | h0
      · subst h0; exact absurd rfl hne
      · exact h0
    have h1 := (hf 0 h0).2 0 hpos
    obtain ⟨b, off, spot⟩ := a
    have hc : (encA (f 0))[0]? = some ((encA (f 0))[0]'(by rw [hm]; exact hpos)) := List.getElem?_eq_getElem (by rw [hm]; exact hpos)
    rw [hc] at h1
    have hspot : spot = none := by simpa [Addr.add] using World.cell?_spot h1
    subst hspot; rfl
  · rw [flat_length hm] at hil
    simp only [List.length_map, List.length_range] at hil
    have hi1 : i / m < len := Nat.div_lt_of_lt_mul (by rw [Nat.mul_comm]; exact hil)
    have h0 : 0 < len := Nat.lt_of_le_of_lt (Nat.zero_le _) hi1
    have hx0 := (hf 0 h0).2 0 hpos
    obtain ⟨b, off, spot⟩ := a
    have hc : (encA (f 0))[0]? = some ((encA (f 0))[0]'(by rw [hm]; exact hpos)) := List.getElem?_eq_getElem (by rw [hm]; exact hpos)
    rw [hc] at hx0
    have hspot : spot = none := by simpa [Addr.add] using World.cell?_spot hx0
    subst hspot
    have h1 := (hf (i / m) hi1).2 (i % m) (Nat.mod_lt _ hpos)
    have e1 : i / m * m + i % m = i := Nat.div_add_mod' i m
    have h2 := flat_get hm ((List.range len).map f) (i / m) (i % m) (f (i / m)) (by simp [hi1]) (Nat.mod_lt _ hpos)
    rw [e1] at h1 h2
    rw [Addr.add_lit] at h1
    simp only [bk_some, fo_some]
    rw [h1, h2]
  · rw [List.getElem?_map] at he
    by_cases hi : i < len
    · rw [List.getElem?_range hi] at he
      simp only [Option.map_some, Option.some.injEq] at he
      subst he
      exact (hf i hi).1
    · rw [List.getElem?_eq_none (by simpa using hi)] at he; cases he
theorem slice_raw {t e:TypeId} {fuel m:Nat} {cs:List Value} {x:DataW H × List MemPlace} (ht:P.underlying t=some (.slice e)) (hC:P.cellsOf e=m) (h:DataW.trod enc P w base spare held fuel t cs=some x) :
  (cs = [.slice none 0 0]∧x.1 = .nil)∨∃ (a:Addr) (len cap:Nat) (E S:List (DataW H)) (n:Nat),fuel=n+1∧cs = [.slice (some a) len cap]∧len≤cap∧cap≤maxLen∧x.1 = .slice E S∧E.length=len ∧
   ∀ i,i<len→∃ (cs':List Value) (y:DataW H × List MemPlace),cs'.length=m∧(∀ j,j<m→w.cell? (a.add (i * m+j))=cs'[j]?)∧DataW.trod enc P w base spare held n e cs'=some y∧E[i]? = some y.1:=by
 rcases DataW.trod_slice ht h with ⟨h0,h1⟩|⟨a,len,cap,elems,rest,n,hf,hcs,hx,hb,hl,hm,hlen,hel,-,-⟩
 ·exact .inl ⟨h0,by rw [h1]⟩
 ·refine .inr ⟨a,len,cap,elems.map (·.1),rest.map (·.1),n,hf,hcs,hl,hm,by rw [hx],by rw [List.length_map,hlen],fun i hi=>?_⟩
  have h1:=hel i hi
  rw [List.getElem?_eq_getElem (by omega),hC] at h1
  obtain ⟨cs',hc,ht'⟩:=Option.bind_eq_some_iff.1 h1
  obtain ⟨_,hcl,hat⟩:=World.cells?_some hc
  refine ⟨cs',_,hcl,fun j hj=>?_,ht',by rw [List.getElem?_map,List.getElem?_eq_getElem (by omega)];rfl⟩
  rw [← Go.Deep.add_add]
  exact hat j hj
end
theorem w_all {H:Type} {P:Program} {e:TypeId} : ∀ {E:List (DataW H)} {d:DataW H},d∈E→∀ n∈d.weights P e,n∈DataW.weightsAll P e E
 | x::r,d,h,n,hn=>by
  unfold DataW.weightsAll
  rcases List.mem_cons.1 h with rfl|h
  ·exact List.mem_append_left _ hn
  ·exact List.mem_append_right _ (w_all h n hn)
theorem w_slice {H:Type} {P:Program} {t e:TypeId} {E S:List (DataW H)} {B b:Nat} (ht:P.underlying t=some (.slice e)) (hb:P.bytesOf e=b) (hw : ∀ k∈(DataW.slice E S).weights P t,k≤B) :
  E.length * b≤B∧∀ d∈E,∀ k∈d.weights P e,k≤B:=by
 simp only [DataW.weights,ht,List.mem_cons,List.mem_append] at hw
 refine ⟨?_,fun d hd k hk=>hw k (.inr (.inl (w_all hd k hk)))⟩
 have:=hw _ (.inl rfl)
 rw [hb] at this
 have h2:E.length * b≤(E.length+S.length) * b:=Nat.mul_le_mul_right _ (by omega)
 omega
theorem w_struct {H:Type} {P:Program} {t:TypeId} {fs:Array Field} {parts:List (DataW H)} {B:Nat} (ht:P.underlying t=some (.struct fs)) (hw : ∀ k∈(DataW.agg parts).weights P t,k≤B)
  {j:Nat} {f:Field} {d:DataW H} (hf:fs[j]? = some f) (hd:parts[j]? = some d) {ft:TypeId} (hft:f.type=ft) : ∀ k∈d.weights P ft,k≤B:=by
 subst hft
 simp only [DataW.weights,ht] at hw
 exact fun k hk=>hw k (DataW.weights_mem_each (j:=j) (by rw [List.getElem?_map,Array.getElem?_toList,hf];rfl) hd k hk)
theorem part_at {H:Type} {xs:List (DataW H × List MemPlace)} {j:Nat} {y:DataW H × List MemPlace} (h:xs[j]? = some y):(xs.map (·.1))[j]? = some y.1:=by rw [List.getElem?_map,h];rfl
theorem i64_of {k:Int} (h:(Lit.int .i64 k).wf=true):I64 k:=int_bounds h
section
variable {H:Type} {enc:TypeId × Value→H} {W:World}
abbrev Trd (enc:TypeId × Value→H) (W:World) (n:Nat) (t:TypeId) (cs:List Value) (y:DataW H × List MemPlace):Prop:=DataW.trod enc Tryz.prog W 0 (fun _=>true) true n t cs=some y
theorem rd_str {n:Nat} {cs:List Value} {y:DataW H × List MemPlace} (h:Trd enc W n 9 cs y) : ∃ s:Tx,cs = [.string (tx s)]∧s.length≤9223372036854775807:=by
 obtain ⟨s,hs,-,hl⟩:=DataW.trod_string Tryz.underlying9 h
 obtain ⟨t,rfl⟩:=tx_of s
 exact ⟨t,hs,by rw [tx_size] at hl;unfold maxLen at hl;exact hl⟩
theorem rd_int {n:Nat} {cs:List Value} {y:DataW H × List MemPlace} (h:Trd enc W n 3 cs y) : ∃ k:Int,cs = [.int .i64 k]∧I64 k:=by
 obtain ⟨k,hk,-,hw⟩:=DataW.trod_int Tryz.underlying3 h
 exact ⟨k,hk,i64_of hw⟩
theorem cut1 {v:Value} {cs:List Value} {o:Nat} (h:(cs.drop o).take 1 = [v]):cs[o]? = some v:=by
 have:=congrArg (·[0]?) h
 simpa using this
theorem cutk {cs l:List Value} {o k j:Nat} (h:(cs.drop o).take k=l) (hj:j<k):cs[o+j]? = l[j]?:=by
 rw [← h,List.getElem?_take_of_lt hj,List.getElem?_drop]
theorem rd_th {n:Nat} {cs:List Value} {y:DataW H × List MemPlace} (h:Trd enc W n 32 cs y) : ∃ t:Th,cs=cTh t∧t.loc.length≤9223372036854775807∧I64 t.thread∧I64 t.reg:=by
 obtain ⟨xs,m,-,-,hcl,hxl,hg⟩:=DataW.trod_struct Tryz.underlying32 h
 obtain ⟨y0,-,r0⟩:=fld hxl hg 0 _ rfl 3 0 1 rfl rfl (by kernel_rfl)
 obtain ⟨y1,-,r1⟩:=fld hxl hg 1 _ rfl 3 1 1 rfl rfl (by kernel_rfl)
 obtain ⟨y2,-,r2⟩:=fld hxl hg 2 _ rfl 9 2 1 rfl rfl (by kernel_rfl)
 obtain ⟨k0,h0,b0⟩:=rd_int r0
 obtain ⟨k1,h1,b1⟩:=rd_int r1
 obtain ⟨s2,h2,l2⟩:=rd_str r2
 have hc:cs.length=3:=hcl.trans (by kernel_rfl)
 refine ⟨⟨k0,k1,s2⟩,?_,l2,b0,b1⟩
 apply List.ext_getElem?
 intro j
 match j with
 | 0=>exact cut1 h0
 | 1=>exact cut1 h1
 | 2=>exact cut1 h2
 | j+3=>rw [List.getElem?_eq_none (by omega),List.getElem?_eq_none (by simp)]
theorem rd_ini {n:Nat} {cs:List Value} {y:DataW H × List MemPlace} (h:Trd enc W n 64 cs y) : ∃ x:Ini,cs=cIni x∧(x.loc.length≤9223372036854775807∧x.vloc.length≤9223372036854775807)∧I64 x.thread∧I64 x.reg:=by
 obtain ⟨xs,m,-,-,hcl,hxl,hg⟩:=DataW.trod_struct Tryz.underlying64 h
 obtain ⟨y0,-,r0⟩:=fld hxl hg 0 _ rfl 3 0 1 rfl rfl (by kernel_rfl)
 obtain ⟨y1,-,r1⟩:=fld hxl hg 1 _ rfl 3 1 1 rfl rfl (by kernel_rfl)
 obtain ⟨y2,-,r2⟩:=fld hxl hg 2 _ rfl 9 2 1 rfl rfl (by kernel_rfl)
 obtain ⟨y3,-,r3⟩:=fld hxl hg 3 _ rfl 62 3 2 rfl rfl (by kernel_rfl)
 obtain ⟨k0,h0,b0⟩:=rd_int r0
 obtain ⟨k1,h1,b1⟩:=rd_int r1
 obtain ⟨s2,h2,l2⟩:=rd_str r2
 obtain ⟨xs',m',-,-,hcl',hxl',hg'⟩:=DataW.trod_struct Tryz.underlying62 r3
 obtain ⟨z0,-,q0⟩:=fld hxl' hg' 0 _ rfl 9 0 1 rfl rfl (by kernel_rfl)
 obtain ⟨z1,-,q1⟩:=fld hxl' hg' 1 _ rfl 3 1 1 rfl rfl (by kernel_rfl)
 obtain ⟨s3,h3,l3⟩:=rd_str q0
 obtain ⟨k4,h4,-⟩:=rd_int q1
 have hc:cs.length=5:=hcl.trans (by kernel_rfl)
 refine ⟨⟨k0,k1,s2,s3,k4⟩,?_,⟨l2,l3⟩,b0,b1⟩
 apply List.ext_getElem?
 intro j
 match j with
 | 0=>exact cut1 h0
 | 1=>exact cut1 h1
 | 2=>exact cut1 h2
 | 3=>have:=cut1 h3;rwa [List.getElem?_take_of_lt (by omega),List.getElem?_drop] at this
 | 4=>have:=cut1 h4;rwa [List.getElem?_take_of_lt (by omega),List.getElem?_drop] at this
 | j+5=>rw [List.getElem?_eq_none (by omega),List.getElem?_eq_none (by simp)]
theorem rd_ins {n:Nat} {cs:List Value} {y:DataW H × List MemPlace} (h:Trd enc W n 23 cs y) : ∃ x:Ins,cs=iC x∧x.loc.length≤9223372036854775807∧x.label.length≤9223372036854775807:=by
 obtain ⟨xs,m,-,-,hcl,hxl,hg⟩:=DataW.trod_struct Tryz.underlying23 h
 obtain ⟨y0,-,r0⟩:=fld hxl hg 0 _ rfl 3 0 1 rfl rfl (by kernel_rfl)
 obtain ⟨y1,-,r1⟩:=fld hxl hg 1 _ rfl 3 1 1 rfl rfl (by kernel_rfl)
 obtain ⟨y2,-,r2⟩:=fld hxl hg 2 _ rfl 3 2 1 rfl rfl (by kernel_rfl)
 obtain ⟨y3,-,r3⟩:=fld hxl hg 3 _ rfl 3 3 1 rfl rfl (by kernel_rfl)
 obtain ⟨y4,-,r4⟩:=fld hxl hg 4 _ rfl 3 4 1 rfl rfl (by kernel_rfl)
 obtain ⟨y5,-,r5⟩:=fld hxl hg 5 _ rfl 9 5 1 rfl rfl (by kernel_rfl)
 obtain ⟨y6,-,r6⟩:=fld hxl hg 6 _ rfl 9 6 1 rfl rfl (by kernel_rfl)
 obtain ⟨y7,-,r7⟩:=fld hxl hg 7 _ rfl 3 7 1 rfl rfl (by kernel_rfl)
 obtain ⟨k0,h0,-⟩:=rd_int r0
 obtain ⟨k1,h1,-⟩:=rd_int r1
 obtain ⟨k2,h2,-⟩:=rd_int r2
 obtain ⟨k3,h3,-⟩:=rd_int r3
 obtain ⟨k4,h4,-⟩:=rd_int r4
 obtain ⟨s5,h5,l5⟩:=rd_str r5
 obtain ⟨s6,h6,l6⟩:=rd_str r6
 obtain ⟨k7,h7,-⟩:=rd_int r7
 have hc:cs.length=8:=hcl.trans (by kernel_rfl)
 refine ⟨⟨k0,k1,k2,k3,k4,s5,s6,k7⟩,?_,l5,l6⟩
 apply List.ext_getElem?
 intro j
 match j with
 | 0=>exact cut1 h0
 | 1=>exact cut1 h1
 | 2=>exact cut1 h2
 | 3=>exact cut1 h3
 | 4=>exact cut1 h4
 | 5=>exact cut1 h5
 | 6=>exact cut1 h6
 | 7=>exact cut1 h7
 | j+8=>rw [List.getElem?_eq_none (by omega),List.getElem?_eq_none (by simp [iC])]
theorem rd_nd : ∀ (n:Nat) {cs:List Value} {y:DataW H × List MemPlace},Trd enc W n 35 cs y→(∀ k∈y.1.weights Tryz.prog 35,k≤reachBytes)→∃ x:Nd,cs=cN x∧NdIn W x:=by
 intro n
 induction n using Nat.strongRecOn with
 | _ n ih =>
  intro cs y h hw
  obtain ⟨xs,m,hnm,hy,hcl,hxl,hg⟩:=DataW.trod_struct Tryz.underlying35 h
  obtain ⟨y0,-,r0⟩:=fld hxl hg 0 _ rfl 3 0 1 rfl rfl (by kernel_rfl)
  obtain ⟨y1,-,r1⟩:=fld hxl hg 1 _ rfl 32 1 3 rfl rfl (by kernel_rfl)
  obtain ⟨y2,-,r2⟩:=fld hxl hg 2 _ rfl 3 4 1 rfl rfl (by kernel_rfl)
  obtain ⟨y3,e3,r3⟩:=fld hxl hg 3 _ rfl 33 5 1 rfl rfl (by kernel_rfl)
  obtain ⟨k0,h0,-⟩:=rd_int r0
  obtain ⟨t1,h1,l1,-,-⟩:=rd_th r1
  obtain ⟨k2,h2,-⟩:=rd_int r2
  rw [hy] at hw
  have hw3:=w_struct (j:=3) Tryz.underlying35 hw rfl (part_at e3) (ft:=33) rfl
  have hc:cs.length=6:=hcl.trans (by kernel_rfl)
  have fin : ∀ (a:Option Addr) (l:List Nd) (c:Nat),(cs.drop 5).take 1 = [.slice a l.length c]→cs=cN (.mk k0 t1 k2 a c l):=fun a l c h3=>by
   apply List.ext_getElem?
   intro j
   match j with
   | 0=>exact cut1 h0
   | 1=>have e:=cutk (o:=1) (k:=3) (j:=0) h1 (by omega);exact e
   | 2=>have e:=cutk (o:=1) (k:=3) (j:=1) h1 (by omega);exact e
   | 3=>have e:=cutk (o:=1) (k:=3) (j:=2) h1 (by omega);exact e
   | 4=>exact cut1 h2
   | 5=>exact cut1 h3
   | j+6=>rw [List.getElem?_eq_none (by omega),List.getElem?_eq_none (by simp)]
  rcases slice_raw Tryz.underlying33 (show Tryz.prog.cellsOf 35=6 by kernel_rfl) r3 with ⟨h3,-⟩|⟨a,len,cap,E,S,n',hf,h3,hl,hm,hx3,hEl,hel⟩
  ·exact ⟨.mk k0 t1 k2 none 0 [],fin none [] 0 h3,⟨_,l1,Els.nil _ _,Nat.le_refl _,fun k hk=>absurd hk (by simp [Nd.kids])⟩⟩
  ·rw [hx3] at hw3
   obtain ⟨hb,hwk⟩:=w_slice Tryz.underlying33 (show Tryz.prog.bytesOf 35=72 by kernel_rfl) hw3
   simp only [reachBytes] at hb
   obtain ⟨l,hll,hE,hQ⟩:=rows_of (w:=W) (encA:=cN) (m:=6) (Q:=fun _ x=>NdIn W x) cN_len (by omega) (a:=a) (len:=len) (.mk 0 zTh 0 none 0 []) (by omega) (fun i hi=>by
    obtain ⟨cs',y',hcl',hat,ht,he⟩:=hel i hi
    obtain ⟨x,hx,hin⟩:=ih n' (by omega) ht (hwk _ (List.mem_of_getElem? he))
    exact ⟨x,hin,fun j hj=>by rw [hat j hj,hx]⟩)
   refine ⟨.mk k0 t1 k2 (some a) cap l,fin _ l _ (by rw [hll];exact h3),⟨_,l1,hE,by show l.length≤cap;omega,fun x hx=>?_⟩⟩
   obtain ⟨i,hi⟩:=List.mem_iff_getElem?.1 (show x∈l from hx)
   exact hQ i x hi
theorem iC_len (x:Ins):(iC x).length=8:=rfl
theorem rd_cd {n:Nat} {cs:List Value} {y:DataW H × List MemPlace} (h:Trd enc W n 49 cs y) (hw : ∀ k∈y.1.weights Tryz.prog 49,k≤reachBytes) : ∃ x:Cd,cs=cCd x∧CdIn W x∧x.l.length * 80≤140737488351232:=by
 rcases slice_raw Tryz.underlying49 (show Tryz.prog.cellsOf 23=8 by kernel_rfl) h with ⟨h3,-⟩|⟨a,len,cap,E,S,n',hf,h3,hl,hm,hx3,hEl,hel⟩
 ·exact ⟨⟨none,0,[]⟩,h3,⟨Is.nil _ _,Nat.le_refl _,fun i hi=>absurd hi (by simp)⟩,by simp⟩
 ·rw [hx3] at hw
  obtain ⟨hb,-⟩:=w_slice Tryz.underlying49 (show Tryz.prog.bytesOf 23=80 by kernel_rfl) hw
  simp only [reachBytes] at hb
  obtain ⟨l,hll,hE,hQ⟩:=rows_of (w:=W) (encA:=iC) (m:=8) (Q:=fun _ (x:Ins)=>x.loc.length≤9223372036854775807∧x.label.length≤9223372036854775807) iC_len (by omega) (a:=a) (len:=len) ins0 (by omega) (fun i hi=>by
   obtain ⟨cs',y',hcl',hat,ht,he⟩:=hel i hi
   obtain ⟨x,hx,h1,h2⟩:=rd_ins ht
   exact ⟨x,⟨h1,h2⟩,fun j hj=>by rw [hat j hj,hx]⟩)
  refine ⟨⟨some a,cap,l⟩,by rw [h3,← hll],⟨⟨hE.row,hE.len⟩,by show l.length≤cap;omega,fun i hi=>?_⟩,by show l.length * 80≤_;rw [hll,← hEl];omega⟩
  obtain ⟨q,hq⟩:=List.mem_iff_getElem?.1 hi
  exact hQ q i hq
theorem rd_ts {n:Nat} {cs:List Value} {y:DataW H × List MemPlace} (h:Trd enc W n 39 cs y) (hw : ∀ k∈y.1.weights Tryz.prog 39,k≤reachBytes) : ∃ t:Tst,cs=cT t∧TsIn W t∧TsSz t:=by
 obtain ⟨xs,m,hnm,hy,hcl,hxl,hg⟩:=DataW.trod_struct Tryz.underlying39 h
 obtain ⟨y0,-,r0⟩:=fld hxl hg 0 _ rfl 3 0 1 rfl rfl (by kernel_rfl)
 obtain ⟨y1,-,r1⟩:=fld hxl hg 1 _ rfl 9 1 1 rfl rfl (by kernel_rfl)
 obtain ⟨y2,-,r2⟩:=fld hxl hg 2 _ rfl 9 2 1 rfl rfl (by kernel_rfl)
 obtain ⟨y3,e3,r3⟩:=fld hxl hg 3 _ rfl 29 3 1 rfl rfl (by kernel_rfl)
 obtain ⟨y4,e4,r4⟩:=fld hxl hg 4 _ rfl 30 4 1 rfl rfl (by kernel_rfl)
 obtain ⟨y5,e5,r5⟩:=fld hxl hg 5 _ rfl 37 5 7 rfl rfl (by kernel_rfl)
 rw [hy] at hw
 have hw3:=w_struct (j:=3) Tryz.underlying39 hw rfl (part_at e3) (ft:=29) rfl
 have hw4:=w_struct (j:=4) Tryz.underlying39 hw rfl (part_at e4) (ft:=30) rfl
 have hw5:=w_struct (j:=5) Tryz.underlying39 hw rfl (part_at e5) (ft:=37) rfl
 obtain ⟨k0,h0,-⟩:=rd_int r0
 obtain ⟨s1,h1,l1⟩:=rd_str r1
 obtain ⟨s2,h2,l2⟩:=rd_str r2
 obtain ⟨xs',m',-,hy5,hcl',hxl',hg'⟩:=DataW.trod_struct Tryz.underlying37 r5
 rw [hy5] at hw5
 obtain ⟨z0,-,q0⟩:=fld hxl' hg' 0 _ rfl 3 0 1 rfl rfl (by kernel_rfl)
 obtain ⟨z1,f1,q1⟩:=fld hxl' hg' 1 _ rfl 35 1 6 rfl rfl (by kernel_rfl)
 have hwn:=w_struct (j:=1) Tryz.underlying37 hw5 rfl (part_at f1) (ft:=35) rfl
 obtain ⟨kq,hq,-⟩:=rd_int q0
 obtain ⟨nd,hn,hnd⟩:=rd_nd _ q1 hwn
 have hc:cs.length=12:=hcl.trans (by kernel_rfl)
 obtain ⟨ia,ic,li,h3,hI,hci,hLi,hzi⟩ : ∃ (ia:Option Addr) (ic:Nat) (li:List Ini),(cs.drop 3).take 1 = [.slice ia li.length ic]∧Els cIni W ia li∧li.length≤ic∧(∀ x∈li,(x.loc.length≤9223372036854775807∧x.vloc.length≤9223372036854775807)∧I64 x.thread∧I64 x.reg)∧li.length * 56≤140737488351232:=by
  rcases slice_raw Tryz.underlying29 (show Tryz.prog.cellsOf 64=5 by kernel_rfl) r3 with ⟨h3,-⟩|⟨a,len,cap,E,S,n',hf,h3,hl,hm,hx3,hEl,hel⟩
  ·exact ⟨none,0,[],h3,Els.nil _ _,Nat.le_refl _,fun x hx=>absurd hx (by simp),by simp⟩
  ·rw [hx3] at hw3
   obtain ⟨hb,-⟩:=w_slice Tryz.underlying29 (show Tryz.prog.bytesOf 64=56 by kernel_rfl) hw3
   simp only [reachBytes] at hb
   obtain ⟨l,hll,hE,hQ⟩:=rows_of (w:=W) (encA:=cIni) (m:=5) (Q:=fun _ (x:Ini)=>(x.loc.length≤9223372036854775807∧x.vloc.length≤9223372036854775807)∧I64 x.thread∧I64 x.reg) cIni_len (by omega) (a:=a) (len:=len) ⟨0,0,[],[],0⟩ (by omega) (fun i hi=>by
    obtain ⟨cs',y',hcl',hat,ht,he⟩:=hel i hi
    obtain ⟨x,hx,hq⟩:=rd_ini ht
    exact ⟨x,hq,fun j hj=>by rw [hat j hj,hx]⟩)
   refine ⟨some a,cap,l,by rw [h3,← hll],hE,by omega,fun x hx=>?_,by rw [hll,← hEl];omega⟩
   obtain ⟨q,hq⟩:=List.mem_iff_getElem?.1 hx
   exact hQ q x hq
 obtain ⟨ca,cc,lc,h4,hC,hcc,hLc,hzc⟩ : ∃ (ca:Option Addr) (cc:Nat) (lc:List Cd),(cs.drop 4).take 1 = [.slice ca lc.length cc]∧Els cCd W ca lc∧lc.length≤cc∧(∀ x∈lc,CdIn W x∧x.l.length * 80≤140737488351232)∧lc.length * 24≤140737488351232:=by
  rcases slice_raw Tryz.underlying30 (show Tryz.prog.cellsOf 49=1 by kernel_rfl) r4 with ⟨h3,-⟩|⟨a,len,cap,E,S,n',hf,h3,hl,hm,hx3,hEl,hel⟩
  ·exact ⟨none,0,[],h3,Els.nil _ _,Nat.le_refl _,fun x hx=>absurd hx (by simp),by simp⟩
  ·rw [hx3] at hw4
   obtain ⟨hb,hwk⟩:=w_slice Tryz.underlying30 (show Tryz.prog.bytesOf 49=24 by kernel_rfl) hw4
   simp only [reachBytes] at hb
   obtain ⟨l,hll,hE,hQ⟩:=rows_of (w:=W) (encA:=cCd) (m:=1) (Q:=fun _ (x:Cd)=>CdIn W x∧x.l.length * 80≤140737488351232) cCd_len (by omega) (a:=a) (len:=len) ⟨none,0,[]⟩ (by omega) (fun i hi=>by
    obtain ⟨cs',y',hcl',hat,ht,he⟩:=hel i hi
    obtain ⟨x,hx,hq⟩:=rd_cd ht (hwk _ (List.mem_of_getElem? he))
    exact ⟨x,hq,fun j hj=>by rw [hat j hj,hx]⟩)
   refine ⟨some a,cap,l,by rw [h3,← hll],hE,by omega,fun x hx=>?_,by rw [hll,← hEl];omega⟩
   obtain ⟨q,hq⟩:=List.mem_iff_getElem?.1 hx
   exact hQ q x hq
 refine ⟨⟨k0,s1,s2,ia,ic,li,ca,cc,lc,kq,nd⟩,?_,⟨l1,l2,hI,hci,fun x hx=>(hLi x hx).1,fun x hx=>(hLi x hx).2,hC,hcc,fun x hx=>(hLc x hx).1,hnd⟩,⟨hzi,hzc,fun x hx=>(hLc x hx).2⟩⟩
 have hh : ∀ j,j<6→cs[6+j]? = (cN nd)[j]?:=fun j hj=>by
  have:=cutk (o:=1) (k:=6) (j:=j) hn hj
  rw [List.getElem?_take_of_lt (by omega),List.getElem?_drop] at this
  rw [← this]
  congr 1
  omega
 apply List.ext_getElem?
 intro j
 match j with
 | 0=>exact cut1 h0
 | 1=>exact cut1 h1
 | 2=>exact cut1 h2
 | 3=>exact cut1 h3
 | 4=>exact cut1 h4
 | 5=>have:=cut1 hq;rwa [List.getElem?_take_of_lt (by omega),List.getElem?_drop] at this
 | 6=>exact hh 0 (by omega)
 | 7=>exact hh 1 (by omega)
 | 8=>exact hh 2 (by omega)
 | 9=>exact hh 3 (by omega)
 | 10=>exact hh 4 (by omega)
 | 11=>exact hh 5 (by omega)
 | j+12=>rw [List.getElem?_eq_none (by omega),List.getElem?_eq_none (by simp)]
theorem open_Ts {r : Reach} {b0 : Nat} {v : Value} {d : DataW H} {p : List MemPlace} (hv : Value.okWide Tryz.prog W r b0 39 v)
    (h : DataW.Trod enc Tryz.prog W 0 (fun _ => true) true 39 v d p)
    {ts : List TypeId} {ds : List (DataW H)} (hsz : (DataW.weightsEach Tryz.prog ts ds).all (· ≤ reachBytes) = true) (j : Nat) (htj : ts[j]? = some 39) (hdj : ds[j]? = some d) :
    ∃ t : Tst, v = vT t ∧ TsIn W t ∧ TsSz t := by
  obtain ⟨cs, rfl, -⟩ := okWide_struct Tryz.underlying39 hv
  obtain ⟨fuel, hf⟩ := h
  obtain ⟨t, ht, h1, h2⟩ := rd_ts hf (fun k hk => of_decide_eq_true (List.all_eq_true.1 hsz k (DataW.weights_mem_each htj hdj k hk)))
  refine ⟨t, ?_, h1, h2⟩
  have : cs.toList = cT t := ht
  show Value.agg cs = .agg #[.int .i64 t.arch, .string (tx t.name), .string (tx t.cycle), .slice t.ia t.init.length t.ic, .slice t.ca t.code.length t.cc, .int .i64 t.q, .int .i64 t.node.kind, .int .i64 t.node.th.thread, .int .i64 t.node.th.reg, .string (tx t.node.th.loc), .int .i64 t.node.val, .slice t.node.a t.node.kids.length t.node.c]
  congr 1
  exact Array.toList_inj.1 this
end
end Go.Proofs.YthaibjefnclkjaaGreatDoor
namespace Go.Proofs.YthaibjefnclkjaaGreatDoor
open Go.RowKit Go.Sort
attribute [local go_sem high] eqI neqI
def codL (l:List Cd):List (List Ins):=l.map (·.l)
theorem codL_at {l:List Cd} {k:Nat} {x:Cd} (h:l[k]? = some x):(codL l)[k]? = some x.l:=by unfold codL;rw [List.getElem?_map,h];rfl
theorem codL_length (l:List Cd):(codL l).length=l.length:=by unfold codL;simp
theorem list_eq_of {α:Type} {a b:List α} (hl:a.length=b.length) (h : ∀ k,k<a.length→a[k]? = b[k]?):a=b:=by
 refine List.ext_getElem? fun k=>?_
 by_cases hk:k<a.length
 ·exact h k hk
 ·rw [List.getElem?_eq_none (by omega),List.getElem?_eq_none (by omega)]
theorem r11SameCode (l m : List Cd) (a b : Option Addr) (c d : Nat) (w : World) (h1 : Els cCd w a l) (h2 : Els cCd w b m) (g1 : ∀ x ∈ l, CdIn w x) (g2 : ∀ x ∈ m, CdIn w x) :
    Calls Tryz.prog 38 #[.slice a l.length c, .slice b m.length d] w (Ret w (.bool (decide (codL l = codL m)))) := by
  by_cases hlm : l.length = m.length
  · obtain ⟨n, hn⟩ : ∃ n, l.length = n := ⟨_, rfl⟩
    have hnn : n ≤ 1000000000000000000 := by rw [← hn]; exact h1.len
    have HN := hid hn
    have HM := hid (hlm.symm.trans hn)
    have H1 := hid h1; have H2 := hid h2
    have G1 := hid g1; have G2 := hid g2
    rw [hn]
    rw [HM.out]
    clear hn hlm h1 h2 g1 g2
    go_enter Tryz.func38, Tryz.ntmps38
    go_wp2_with fail
    go_loopw [5] (fun i wr => ∃ j : Nat, j ≤ n ∧ i = .int .i64 j ∧ Below w.heap.size w wr ∧ Hid (∀ k : Nat, k < j → (codL l)[k]? = (codL m)[k]?)) (fun i _ => n - (intOf i).toNat)
    case atStart => exact ⟨0, by omega, rfl, Below.refl _ _, fun k hk => absurd hk (Nat.not_lt_zero k)⟩
    case round =>
      obtain ⟨j, hj, rfl, E, HJ⟩ := hrel
      by_cases hjt : j < n
      · obtain ⟨x, hx⟩ : ∃ x, l[j]? = some x := ⟨_, List.getElem?_eq_getElem (by rw [HN.out]; exact hjt)⟩
        obtain ⟨y, hy⟩ : ∃ y, m[j]? = some y := ⟨_, List.getElem?_eq_getElem (by rw [HM.out]; exact hjt)⟩
        have p0 := (H1.out.below E).cd hx
        have q0 := (H2.out.below E).cd hy
        have ix := H1.out.cdx j (by rw [HN.out]; exact hjt) c
        have iy := H2.out.cdx j (by rw [HM.out]; exact hjt) d
        rw [HN.out] at ix
        rw [HM.out] at iy
        have HX := hid (And.intro hx hy)
        have IX := hid (G1.out x (List.mem_of_getElem? hx)).is
        have IY := hid (G2.out y (List.mem_of_getElem? hy)).is
        clear hx hy
        obtain ⟨nx, hnx⟩ : ∃ nx, x.l.length = nx := ⟨_, rfl⟩
        obtain ⟨ny, hny⟩ : ∃ ny, y.l.length = ny := ⟨_, rfl⟩
        have hnx1 : nx ≤ 1000000000000000000 := by rw [← hnx]; exact IX.out.len
        rw [hnx] at p0
        rw [hny] at q0
        have HNX := hid hnx; have HNY := hid hny
        clear hnx hny
        by_cases hxy : nx = ny
        · have z : ((nx : Int) != (ny : Int)) = false := by simp [hxy]
          subst hxy
          go_wp2_with fail
          have p0 := cell_regrown p0; have q0 := cell_regrown q0
          refine wp_region_quiet_below (by kernel_rfl) (by kernel_rfl) ?_
          repeat (go_big_quiet_step (fail))
          refine wpQuiet_nil ?_
          intro _ hw'
          obtain ⟨⟨dq, osq⟩, hw''⟩ := hw'
          subst hw''
          have EQ := below_regrown wr dq osq
          generalize grow (redrawn wr dq) osq = W5 at *
          have E := E.trans (EQ.mono E.size)
          clear p0 q0 EQ
          go_wp2_with fail
          go_loopw [6] (fun i wr => ∃ k : Nat, k ≤ nx ∧ i = .int .i64 k ∧ Below w.heap.size w wr ∧ Hid (∀ q : Nat, q < k → x.l[q]? = y.l[q]?)) (fun i _ => nx - (intOf i).toNat)
          case atStart => exact ⟨0, by omega, rfl, E, fun k hk => absurd hk (Nat.not_lt_zero k)⟩
          case round =>
            clear E
            obtain ⟨k, hk, rfl, E, HK⟩ := hrel
            have p0 := (H1.out.below E).cd HX.out.1
            have q0 := (H2.out.below E).cd HX.out.2
            rw [HNX.out] at p0
            rw [HNY.out] at q0
            by_cases hkt : k < nx
            · obtain ⟨i, hi⟩ : ∃ i, x.l[k]? = some i := ⟨_, List.getElem?_eq_getElem (by rw [HNX.out]; exact hkt)⟩
              obtain ⟨i', hi'⟩ : ∃ i', y.l[k]? = some i' := ⟨_, List.getElem?_eq_getElem (by rw [HNY.out]; exact hkt)⟩
              obtain ⟨r0, r1, r2, r3, r4, r5, r6, r7⟩ := (IX.out.below E).cells hi
              obtain ⟨s0, s1, s2, s3, s4, s5, s6, s7⟩ := (IY.out.below E).cells hi'
              have jx := IX.out.idx k (by rw [HNX.out]; exact hkt) x.c
              have jy := IY.out.idx k (by rw [HNY.out]; exact hkt) y.c
              rw [HNX.out] at jx
              rw [HNY.out] at jy
              have HI := hid (And.intro hi hi')
              clear hi hi'
              have DD : decide (i = i') = true ∨ decide (i = i') = false := by cases decide (i = i') <;> simp
              rcases DD with hd | hd
              · have hd2 : (!decide (i = i')) = false := by rw [hd]; rfl
                have HK2 := hid (show ∀ q : Nat, q < k + 1 → x.l[q]? = y.l[q]? from fun q hq => by
                  rcases Nat.lt_succ_iff_lt_or_eq.1 hq with h | h
                  · exact HK.out q h
                  · subst h; rw [HI.out.1, HI.out.2, of_decide_eq_true hd])
                go_wp2_with fail
                have p0 := cell_regrown p0; have q0 := cell_regrown q0
                have r0 := cell_regrown r0; have r1 := cell_regrown r1; have r2 := cell_regrown r2; have r3 := cell_regrown r3; have r4 := cell_regrown r4; have r5 := cell_regrown r5; have r6 := cell_regrown r6; have r7 := cell_regrown r7; have s0 := cell_regrown s0; have s1 := cell_regrown s1; have s2 := cell_regrown s2; have s3 := cell_regrown s3; have s4 := cell_regrown s4; have s5 := cell_regrown s5; have s6 := cell_regrown s6; have s7 := cell_regrown s7
                refine wp_region_quiet_below (by kernel_rfl) (by kernel_rfl) ?_
                repeat (go_big_quiet_step (fail))
                refine wpQuiet_nil ?_
                intro _ hw'
                obtain ⟨⟨dq, osq⟩, hw''⟩ := hw'
                subst hw''
                have EQ := below_regrown wr dq osq
                generalize grow (redrawn wr dq) osq = W6 at *
                have E := E.trans (EQ.mono E.size)
                clear p0 q0 r0 r1 r2 r3 r4 r5 r6 r7 s0 s1 s2 s3 s4 s5 s6 s7 EQ jx jy
                go_wp2_with fail
                go_roundw
                case rel => exact ⟨k + 1, by omega, by go_num, E, HK2⟩
                case measure => simp [intOf]; omega
              · have hd2 : (!decide (i = i')) = true := by rw [hd]; rfl
                have HZ := hid (show decide (codL l = codL m) = false by
                  rw [decide_eq_false_iff_not]
                  intro e
                  have h1 := codL_at HX.out.1; have h2 := codL_at HX.out.2
                  rw [e, h2] at h1
                  simp only [Option.some.injEq] at h1
                  have h3 := HI.out.1; have h4 := HI.out.2
                  rw [h1] at h4
                  rw [h4] at h3
                  exact of_decide_eq_false hd (Option.some.inj h3).symm)
                go_wp2_with fail
                have p0 := cell_regrown p0; have q0 := cell_regrown q0
                have r0 := cell_regrown r0; have r1 := cell_regrown r1; have r2 := cell_regrown r2; have r3 := cell_regrown r3; have r4 := cell_regrown r4; have r5 := cell_regrown r5; have r6 := cell_regrown r6; have r7 := cell_regrown r7; have s0 := cell_regrown s0; have s1 := cell_regrown s1; have s2 := cell_regrown s2; have s3 := cell_regrown s3; have s4 := cell_regrown s4; have s5 := cell_regrown s5; have s6 := cell_regrown s6; have s7 := cell_regrown s7
                refine wp_region_quiet_below (by kernel_rfl) (by kernel_rfl) ?_
                repeat (go_big_quiet_step (fail))
                refine wpQuiet_nil ?_
                intro _ hw'
                obtain ⟨⟨dq, osq⟩, hw''⟩ := hw'
                subst hw''
                have EQ := below_regrown wr dq osq
                generalize grow (redrawn wr dq) osq = W6 at *
                have E := E.trans (EQ.mono E.size)
                clear p0 q0 r0 r1 r2 r3 r4 r5 r6 r7 s0 s1 s2 s3 s4 s5 s6 s7 EQ jx jy
                go_wp2_with fail
                go_ret
                exact ⟨ret_bool HZ.out.symm, E⟩
            · have HJ2 := hid (show ∀ q : Nat, q < j + 1 → (codL l)[q]? = (codL m)[q]? from fun q hq => by
                rcases Nat.lt_succ_iff_lt_or_eq.1 hq with h | h
                · exact HJ.out q h
                · subst h
                  rw [codL_at HX.out.1, codL_at HX.out.2]
                  exact congrArg some (list_eq_of (by rw [HNX.out, HNY.out]) fun r hr => HK.out r (by rw [HNX.out] at hr; omega)))
              go_wp2_with fail
              go_roundw
              case rel => exact ⟨j + 1, by omega, by go_num, E, HJ2⟩
              case measure => simp [intOf]; omega
        · have z : ((nx : Int) != (ny : Int)) = true := by simp; omega
          have HZ := hid (show decide (codL l = codL m) = false by
            rw [decide_eq_false_iff_not]
            intro e
            have h1 := codL_at HX.out.1; have h2 := codL_at HX.out.2
            rw [e, h2] at h1
            simp only [Option.some.injEq] at h1
            exact hxy (by rw [← HNX.out, ← HNY.out, h1]))
          clear hxy
          go_wp2_with fail
          have p0 := cell_regrown p0; have q0 := cell_regrown q0
          refine wp_region_quiet_below (by kernel_rfl) (by kernel_rfl) ?_
          repeat (go_big_quiet_step (fail))
          refine wpQuiet_nil ?_
          intro _ hw'
          obtain ⟨⟨dq, osq⟩, hw''⟩ := hw'
          subst hw''
          have EQ := below_regrown wr dq osq
          generalize grow (redrawn wr dq) osq = W5 at *
          have E := E.trans (EQ.mono E.size)
          go_wp2_with fail
          go_ret
          exact ⟨ret_bool HZ.out.symm, E⟩
      · obtain rfl : j = n := by omega
        have HZ := hid (show decide (codL l = codL m) = true by
          rw [decide_eq_true_eq]
          exact list_eq_of (by rw [codL_length, codL_length, HN.out, HM.out]) fun k hk => HJ.out k (by rw [codL_length, HN.out] at hk; exact hk))
        go_wp2_with fail
        go_ret
        exact ⟨ret_bool HZ.out.symm, E⟩
  · have HZ := hid (show decide (codL l = codL m) = false by rw [decide_eq_false_iff_not]; intro e; have := congrArg List.length e; rw [codL_length, codL_length] at this; exact hlm this)
    have z : ((l.length : Int) != m.length) = true := by simp; omega
    clear hlm
    go_enter Tryz.func38, Tryz.ntmps38
    go_wp2_with fail
    go_ret
    exact ⟨ret_bool HZ.out.symm, Below.refl _ _⟩
end Go.Proofs.YthaibjefnclkjaaGreatDoor
namespace Go.Proofs.YthaibjefnclkjaaGreatDoor
mutual
def bareN:Nd→Nd
 | .mk k t v a c l=>.mk k t v none 0 (bareL l)
def bareL:List Nd→List Nd
 | []=>[]
 | x::r=>bareN x::bareL r
end
theorem bareN_eq (x:Nd):bareN x = .mk x.kind x.th x.val none 0 (bareL x.kids):=by cases x;rw [bareN];rfl
theorem bareL_nil:bareL [] = []:=by rw [bareL]
theorem bareL_cons {x:Nd} {r:List Nd} : bareL (x::r)=bareN x::bareL r:=by rw [bareL]
theorem bareL_map : ∀ l:List Nd,bareL l=l.map bareN
 | []=>bareL_nil
 | x::r=>by rw [bareL_cons,bareL_map r];rfl
theorem bareL_length (l:List Nd):(bareL l).length=l.length:=by rw [bareL_map];simp
theorem bareL_app (l r:List Nd):bareL (l++r)=bareL l++bareL r:=by simp only [bareL_map,List.map_append]
theorem bareN_inj {x y:Nd} : bareN x=bareN y↔x.kind=y.kind∧x.th=y.th∧x.val=y.val∧bareL x.kids=bareL y.kids:=by
 rw [bareN_eq,bareN_eq];simp
theorem cntN_pos (x:Nd):1≤cntN x:=by rw [cntN_eq];omega
theorem cntL_one (x:Nd):cntL [x]=cntN x:=by rw [cntL_cons,cntL_nil];omega
theorem cntL_len : ∀ l:List Nd,l.length≤cntL l
 | []=>by simp
 | x::r=>by have:=cntL_len r;have:=cntN_pos x;rw [cntL_cons,List.length_cons];omega
theorem stack_step {X Y:List Nd} {p q:Nd} (hl:X.length=Y.length) :
  bareL (X++[p])=bareL (Y++[q])↔(p.kind=q.kind∧p.th=q.th∧p.val=q.val∧p.kids.length=q.kids.length)∧bareL (X++p.kids)=bareL (Y++q.kids):=by
 rw [bareL_app,bareL_app,bareL_app,bareL_app,bareL_cons,bareL_cons,bareL_nil]
 constructor
 ·intro h
  obtain ⟨h1,h2⟩:=List.append_inj h (by rw [bareL_length,bareL_length,hl])
  simp only [List.cons.injEq,and_true] at h2
  obtain ⟨a,b,c,d⟩:=bareN_inj.1 h2
  refine ⟨⟨a,b,c,?_⟩,by rw [h1,d]⟩
  have:=congrArg List.length d
  rwa [bareL_length,bareL_length] at this
 ·rintro ⟨⟨a,b,c,-⟩,h⟩
  obtain ⟨h1,h2⟩:=List.append_inj h (by rw [bareL_length,bareL_length,hl])
  rw [h1,bareN_inj.2 ⟨a,b,c,h2⟩]
theorem last_split {α:Type} {l:List α} {n:Nat} {x:α} (hl:l.length=n+1) (h:l[n]? = some x):l=l.take n++[x]:=by
 obtain ⟨hlt,rfl⟩:=List.getElem?_eq_some_iff.1 h
 conv=>lhs;rw [← List.take_append_drop n l]
 rw [List.drop_eq_getElem_cons hlt,List.drop_of_length_le (by omega)]
end Go.Proofs.YthaibjefnclkjaaGreatDoor

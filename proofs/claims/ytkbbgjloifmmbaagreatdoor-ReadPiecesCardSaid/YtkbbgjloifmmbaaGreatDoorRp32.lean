/- What ReadPiecesP leans on, part 32. -/
import Derived.Test.YtkbbgjloifmmbaaGreatDoorRp31
import Derived.Lib.SlicesCompact
import Derived.Sort.OwnSorted
set_option linter.unusedVariables false
set_option maxRecDepth 100000
set_option maxHeartbeats 3200000
namespace Go.Proofs.YtkbbgjloifmmbaaGreatDoor
open Go.RowKit Go.Sort
theorem coded_ok{t:Tst}(h:codedE t=0):1<=t.code.length/\t.code.length<=16/\ ∀x∈t.code,x.l.length<=256:=by
 unfold codedE at h
 by_cases h1:t.code.length<1\/16<t.code.length
 ·rw[if_pos h1]at h;cases h
 ·rw[if_neg h1]at h
  by_cases h2:(t.code.any fun x=>decide (256<x.l.length))=true
  ·rw[if_pos h2]at h;cases h
  ·refine⟨by omega,by omega,fun x hx=>?_⟩
   by_cases h3:x.l.length<=256
   ·exact h3
   ·exact absurd (List.any_eq_true.2 ⟨x,hx,by simp;omega⟩) h2
theorem begun_ok{t:Tst}(h:begunE t=0):t.init.length<=1024:=by
 unfold begunE at h
 by_cases h1:1024<t.init.length
 ·rw[if_pos h1]at h;cases h
 ·omega
theorem tstE_arch{t:Tst}(h:archB t.arch=false):tstE t=5:=by unfold tstE;rw[if_pos h]
theorem tstE_text{t:Tst}(h:archB t.arch=true)(h2:(titleB t.name&&cycleB t.cycle)=false):tstE t=130:=by
 unfold tstE;rw[if_neg (by rw[h];simp),if_pos (by cases h3:titleB t.name<;>simp_all)]
theorem tstE_coded{t:Tst}(h:archB t.arch=true)(h2:(titleB t.name&&cycleB t.cycle)=true)(h3:codedE t≠0):tstE t=codedE t:=by
 rw[Bool.and_eq_true]at h2;unfold tstE;rw[if_neg (by rw[h];simp),if_neg (by rw[h2.1,h2.2];simp),if_pos h3]
theorem tstE_begun{t:Tst}(h:archB t.arch=true)(h2:(titleB t.name&&cycleB t.cycle)=true)(h3:codedE t=0)(h4:begunE t≠0):tstE t=begunE t:=by
 rw[Bool.and_eq_true]at h2;unfold tstE;rw[if_neg (by rw[h];simp),if_neg (by rw[h2.1,h2.2];simp),if_neg (by rw[h3];simp),if_pos h4]
theorem tstE_ask{t:Tst}(h:archB t.arch=true)(h2:(titleB t.name&&cycleB t.cycle)=true)(h3:codedE t=0)(h4:begunE t=0):tstE t=if askE t≠0 then askE t else if 64<(namesT t).length then 2 else 0:=by
 rw[Bool.and_eq_true]at h2;unfold tstE;rw[if_neg (by rw[h];simp),if_neg (by rw[h2.1,h2.2];simp),if_neg (by rw[h3];simp),if_neg (by rw[h4];simp)];unfold askE
 by_cases h5:condE t.arch t.q t.node=0
 ·rw[if_neg (c:=condE t.arch t.q t.node≠0) (by simpa using h5),if_neg (c:=condE t.arch t.q t.node≠0) (by simpa using h5)]
  by_cases h6:((askT t).any fun x=>decide ((t.code.length:Int)<=x.thread))=true
  ·rw[if_pos h6];simp[h6]
  ·rw[if_neg h6];simp[h6]
 ·rw[if_pos h5,if_pos h5,if_pos h5]
end Go.Proofs.YtkbbgjloifmmbaaGreatDoor
namespace Go.Proofs.YtkbbgjloifmmbaaGreatDoor
theorem lt_ltX: ∀a b:Tx,a<b<->ltX a b=true
 |[],[]=>by simp[ltX]
 |[],y::s=>by simp[ltX]
 |x::r,[]=>by simp[ltX]
 | x::r,y::s=>by
   rw[List.cons_lt_cons_iff,lt_ltX r s,ltX]
   by_cases h:x<y
   ·simp[h]
   ·by_cases h2:y<x
    ·simp only[h,false_or,if_false,h2,if_true,Bool.false_eq_true,iff_false,not_and]
     intro e;subst e;exact absurd h2 (u8_lt_irr x)
    ·have:=u8_lt_tri h h2;subst this
     simp[h]
theorem le_ltX(a b:Tx):decide (a<=b)= !ltX b a:=by
 rw[Bool.eq_iff_iff,decide_eq_true_eq,Bool.not_eq_true',<-Bool.not_eq_true,<-lt_ltX];exact List.not_lt.symm
def sortX(l:List Tx):List Tx:=l.mergeSort fun x y=>decide (x<=y)
def RiseX(l:List Tx):Prop:=l.Pairwise fun a b=>ltX a b=true
theorem insX_mem{t:Tx}{z:Tx}: ∀{l:List Tx},z∈insX t l<->z=t\/z∈l
 |[]=>by simp[insX]
 | y::r=>by
   unfold insX;split
   ·simp
   ·simp only[List.mem_cons,insX_mem (l:=r)]
    constructor
    ·rintro(h|h|h)
     ·exact .inr (.inl h)
     ·exact .inl h
     ·exact .inr (.inr h)
    ·rintro(h|h|h)
     ·exact .inr (.inl h)
     ·exact .inl h
     ·exact .inr (.inr h)
theorem putX_mem{t:Tx}{z:Tx}{l:List Tx}:z∈putX l t<->(z=t/\t≠[])\/z∈l:=by
 unfold putX
 by_cases h0:t=[]
 ·rw[if_pos h0];simp[h0]
 ·rw[if_neg h0]
  split
  ·rename_i h
   constructor
   ·exact .inr
   ·rintro(⟨rfl, -⟩|h')
    ·exact h
    ·exact h'
  ·rw[insX_mem];simp[h0]
theorem insX_rise{t:Tx}: ∀{l:List Tx},t∉l->RiseX l->RiseX (insX t l)
 |[],_,_=>by unfold insX RiseX;simp
 | y::r,hn,h=>by
   obtain⟨a1,b1⟩:=List.pairwise_cons.1 h;unfold insX
   by_cases hb:ltX t y=true
   ·rw[if_pos hb]
    unfold RiseX;rw[List.pairwise_cons];refine⟨fun z hz=>?_,h⟩;rcases List.mem_cons.1 hz with rfl|hz
    ·exact hb
    ·exact ltX_tr hb (a1 z hz)
   ·rw[if_neg hb]
    unfold RiseX;rw[List.pairwise_cons];refine⟨fun z hz=>?_,insX_rise (fun h=>hn (by simp[h])) b1⟩;rcases insX_mem.1 hz with rfl|hz
    ·by_cases h2:ltX y z=true
     ·exact h2
     ·have:=ltX_tri (by simpa using hb) (by simpa using h2)
      exact absurd (by rw[this];simp) hn
    ·exact a1 z hz
theorem putX_rise{t:Tx}{l:List Tx}(h:RiseX l):RiseX (putX l t):=by
 unfold putX;split
 ·exact h
 ·split
  ·exact h
  ·rename_i hn;exact insX_rise hn h
theorem foldX_ok: ∀(l acc:List Tx),RiseX acc->RiseX (foldX acc l)/\ ∀z,z∈foldX acc l<->(z∈l/\z≠[])\/z∈acc
 |[],acc,h=>⟨h,fun z=>by unfold foldX;simp⟩
 | s::r,acc,h=>by
   obtain⟨h1,h2⟩:=foldX_ok r (putX acc s) (putX_rise h);refine⟨h1,fun z=>?_⟩;show z∈foldX (putX acc s) r<->_;rw[h2,putX_mem]
   constructor
   ·rintro(⟨a,b⟩|⟨rfl,b⟩|a)
    ·exact .inl ⟨by simp[a],b⟩
    ·exact .inl ⟨by simp,b⟩
    ·exact .inr a
   ·rintro(⟨a,b⟩|a)
    ·rcases List.mem_cons.1 a with rfl|a
     ·exact .inr (.inl ⟨rfl,b⟩)
     ·exact .inl ⟨a,b⟩
    ·exact .inr (.inr a)
def cut0(l:List Tx):List Tx:=if l.head?=some []then l.drop 1 else l
theorem ltX_nil(b:Tx):ltX b []=false:=by cases b<;>simp[ltX]
theorem cut0_ok{l:List Tx}(h:RiseX l):RiseX (cut0 l)/\ ∀z,z∈cut0 l<->z∈l/\z≠[]:=by
 unfold cut0;cases l with
 |nil=>exact⟨h,fun z=>by simp⟩
 | cons y r=>
   obtain⟨a1,b1⟩:=List.pairwise_cons.1 h
   have hr: ∀z∈r,z≠[]:=fun z hz e=>by
    have:=a1 z hz;rw[e,ltX_nil]at this;cases this
   by_cases hy:y=[]
   ·subst hy
    rw[if_pos (show([]::r).head?=some []from rfl)];refine⟨b1,fun z=>?_⟩;simp only[List.drop_one,List.tail_cons,List.mem_cons];exact⟨fun hz=>⟨.inr hz,hr z hz⟩,fun⟨hz,hn⟩=>hz.resolve_left hn⟩
   ·rw[if_neg (by simpa using hy)]
    refine⟨h,fun z=>⟨fun hz=>⟨hz,?_⟩,fun hz=>hz.1⟩⟩;rcases List.mem_cons.1 hz with rfl|hz
    ·exact hy
    ·exact hr z hz
theorem sorted_names(l:List Tx):cut0 (cmpct (sortX l))=foldX [] l:=by
 have hs:=List.pairwise_mergeSort (le:=fun x y:Tx=>decide (x<=y)) (fun a b c hab hbc=>by
  simp only[le_ltX,Bool.not_eq_true']at*;cases hca:ltX c a with
  |false=>rfl
  | true=>
    cases hcb:ltX c b with
    |true=>rw[hcb]at hbc;cases hbc
    | false=>
      cases hbc':ltX b c with
      |true=>have:=ltX_tr hbc' hca;rw[this]at hab;cases hab
      |false=>have:=ltX_tri hbc' hcb;subst this;rw[hca]at hab;cases hab)
  (fun a b=>by
   simp only[le_ltX];cases h1:ltX b a with
   |true=>rw[ltX_asy h1];rfl
   |false=>rfl) l
 have hr:RiseX (cmpct (sortX l)):=cmpct_rise (lt:=fun a b=>ltX a b=true) (fun _ _ _=>ltX_tr) (hs.imp (fun {a b} hab=>by
  simp only[le_ltX,Bool.not_eq_true']at hab;cases h1:ltX a b with
  |true=>exact .inr rfl
  |false=>exact .inl (ltX_tri h1 hab)))
 obtain⟨c1,c2⟩:=cut0_ok hr;obtain⟨f1,f2⟩:=foldX_ok l [] List.Pairwise.nil;refine rise_ext (lt:=fun a b=>ltX a b=true) (fun a h=>by rw[ltX_irr]at h;cases h) (fun a b h h'=>by rw[ltX_asy h]at h';cases h') c1 f1 fun z=>?_
 rw[c2,f2,cmpct_mem];unfold sortX;rw[List.mem_mergeSort];simp
theorem compact_cmpct(l:List Tx):Lib.compact l=cmpct l:=by
 have key: ∀m,m<=l.length->Lib.compactUpTo l.toArray m=cmpct (l.take m):=by
  intro m
  induction m with
  |zero=>intro _;rfl
  | succ m ih=>
    intro hm;rw[Lib.compactUpTo_succ,ih (by omega)];have e1:l.take (m+1)=l.take m++[l[m]'(by omega)]:=List.take_succ_eq_append_getElem (by omega);have g:l.toArray[m]! =l[m]'(by omega):=by rw[getElem!_pos l.toArray m (by simp;omega)];rfl
    cases m with
    | zero=>
      rw[e1,show Lib.keeps l.toArray 0=true from rfl,if_pos rfl,g];rfl
    | succ k=>
      have e0:l.take (k+1)=l.take k++[l[k]'(by omega)]:=List.take_succ_eq_append_getElem (by omega);have g0:l.toArray[k]! =l[k]'(by omega):=by rw[getElem!_pos l.toArray k (by simp;omega)];rfl
      rw[e1,e0,cmpct_snoc];unfold Lib.keeps;rw[show k+1-1=k from rfl,g,g0]
      by_cases h:l[k+1]=l[k]'(by omega)
      ·rw[if_pos h];simp[h]
      ·rw[if_neg h];simp[h]
 unfold Lib.compact;rw[key _ (Nat.le_refl _),List.take_length]
end Go.Proofs.YtkbbgjloifmmbaaGreatDoor
namespace Go.Proofs.YtkbbgjloifmmbaaGreatDoor
open Go.RowKit Go.Sort
theorem step_sorted{w:World}{g n:Nat}{os:Array Obj}(d:Array (List UInt8)):Step w (grow (putRow encStr (Sort.ahead w n) g 0 d) os) (some ⟨g,0,none⟩) (some ⟨g,0,none⟩):=
 ⟨grownBy_sorted d,.inl rfl⟩
theorem sortS(l:List Tx)(w:World)(B:Nat)(a:Option Addr)(c:Nat)(h:OwnS w B a l.length c l)(hl:l.length<=1000000):
 Calls Tryz.prog 145 #[.slice a l.length c] w fun e w'=>e= .returned (.tuple #[])/\OwnS w' B a (sortX l).length c (sortX l)/\Step w w' a a:=by
 have hlen:(sortX l).length=l.length:=List.length_mergeSort l;rcases h.2 with⟨h2,h0⟩|⟨g,cap,cur,hv,hg,hh,hn,hc,hs,hx⟩
 ·simp only[Value.slice.injEq]at h2
  obtain⟨rfl,-, rfl⟩:=h2;have hz:l=[]:=List.eq_nil_of_length_eq_zero h0;subst hz;refine(Any.slices_Sort_string_none Tryz.l190 none 0 w).mono fun e w' ⟨he,hw⟩=>?_
  subst hw;exact⟨he,by rw[show sortX []=[]from List.eq_nil_of_length_eq_zero hlen];exact h,Step.refl _ _⟩
 ·cases hv
  have hH:Holds encStr w g 0 l.toArray:=holds_of_block hh (by rw[Nat.mul_one]at hx;exact hx);refine(Any.slices_Sort_string Tryz.l190 g 0 c l w hH (Array.getElem?_eq_some_iff.1 hh).1 (by omega)).mono fun e w' ⟨he,n,os,hw⟩=>?_
  subst hw;refine⟨he,?_,step_sorted _⟩;have:=ownsRow_sorted (n:=n) (os:=os) (ss:=l) (ts:=sortX l) hlen hg hh hn hc hs;rw[hlen];exact this
theorem compactS(l:List Tx)(w:World)(B:Nat)(a:Option Addr)(c:Nat)(h:OwnS w B a l.length c l)(hl:l.length<=1000000):
 Calls Tryz.prog 146 #[.slice a l.length c] w fun e w'=>e= .returned (.slice a (cmpct l).length c)/\OwnS w' B a (cmpct l).length c (cmpct l)/\Step w w' a a:=by
 rcases h.2 with⟨h2,h0⟩|⟨g,cap,cur,hv,hg,hh,hn,hc,hs,hx⟩
 ·simp only[Value.slice.injEq]at h2
  obtain⟨rfl,-, rfl⟩:=h2;have hz:l=[]:=List.eq_nil_of_length_eq_zero h0;subst hz;refine(Any.slices_Compact_string_empty Tryz.l194 none 0 w).mono fun e w' ⟨he,hw⟩=>?_
  subst hw;exact⟨he,h,Step.refl _ _⟩
 ·cases hv
  have hH:Holds encStr w g 0 l.toArray:=holds_of_block hh (by rw[Nat.mul_one]at hx;exact hx);refine(Any.slices_Compact_string Tryz.l194 g 0 c l w hH (by omega) hn).mono fun e w' ⟨he,n,hw⟩=>?_
  rw[compact_cmpct]at he hw;have hle:=cmpct_length_le l;have e1:(cmpct l++List.replicate (l.length-(cmpct l).length) []).length=l.length:=by simp;omega
  have o:=ownsRow_sorted (n:=n) (os:=#[]) (ss:=l) (ts:=cmpct l++List.replicate (l.length-(cmpct l).length) []) e1 hg hh hn hc hs;have st:=step_sorted (w:=w) (g:=g) (n:=n) (os:=#[]) (cmpct l++List.replicate (l.length-(cmpct l).length) []).toArray;rw[grow_empty]at o st;rw[<-hw]at o st;refine⟨he,?_,st⟩;rw[List.map_append]at o;obtain⟨m,hm⟩: ∃m,l.length=(cmpct l).length+m:=⟨l.length-(cmpct l).length,by omega⟩;rw[hm]at o;exact Own.front o (by simp)
theorem fileAsked(t:Tst)(w:World)(h:NdIn w t.node):Calls Tryz.prog 72 #[vT t] w (RetTh w (askT t)):=by
 have A:=al w (mkT t);have b0:=BxT.new w t;obtain⟨c0,c1,c2,c3,c4,c5,c6,c7,c8,c9,c10,c11⟩:=b0.cells;have TH:=hid (condThingsC t.q t.node _ (h.keep A));have HA:=hid A;clear A h;go_enter Tryz.func72,Tryz.ntmps72;go_wp2_with fail;refine TH.out.mono ?_;rintro e w1 ⟨a,c,rfl,o,E⟩;have HO:=hid (And.intro o E);clear o E TH c0 c1 c2 c3 c4 c5 c6 c7 c8 c9 c10 c11;go_wp2_with fail
 (try go_simp)
 go_ret;exact⟨a,c,rfl,Own.mono HO.out.1 HA.out.size,HA.out.trans (HO.out.2.mono HA.out.size)⟩
def RetN(w:World)(l:List Tx)(e:Ending)(w':World):Prop:=
 ∃a c,e= .returned (.slice a l.length c)/\Txs w' a l/\Below w.heap.size w w'
theorem row_new(w:World)(us:List Value)(T:TypeId):Row (w.alloc (.cells us.toArray T)) (some ⟨w.heap.size,0,none⟩) us:=by
 have h:=BxL.new w us.toArray T;exact⟨fun _=>rfl,fun i hi=>by simp only[bk_some,fo_some,Nat.zero_add];exact h.2 i hi⟩
theorem rawC_snoc{l:List Cd}{k:Nat}{x:Cd}(h:l[k]? =some x):rawC (l.take (k+1))=rawC (l.take k)++x.l.map (·.loc):=by
 rw[take_snoc h];unfold rawC;rw[List.flatMap_append];simp
theorem rawI_snoc{l:List Ini}{k:Nat}{x:Ini}(h:l[k]? =some x):rawI (l.take (k+1))=rawI (l.take k)++[x.loc,x.vloc]:=by
 rw[take_snoc h];unfold rawI;rw[List.flatMap_append];simp
theorem own_types{w:World}{B B' E E' m m' n n' c c':Nat}{a r:Option Addr}{xs ys:List Value}(h:Own w B E m a n c xs)(h':Own w B' E' m' r n' c' ys)(hne:E≠E'):r=none\/some (bk r)≠a.map (·.block):=by
 cases r with
 |none=>exact .inl rfl
 | some p=>
   right
   intro e;obtain⟨cs,fz,h1⟩:=own_kind h' p.block rfl;obtain⟨cs',fz',h2⟩:=own_kind h p.block e.symm;rw[h1]at h2;simp only[Option.some.injEq,Obj.cells.injEq]at h2;exact hne h2.2.1.symm
theorem txs_tail{w:World}{a:Option Addr}{y:Tx}{r:List Tx}(h:Txs w a (y::r)):Txs w (Option.map (fun x:Addr=>⟨x.block,x.off+1,none⟩) a) r:=by
 have hh:=h.row.head (by simp)
 have hm:Option.map (fun x:Addr=>(⟨x.block,x.off+1,none⟩:Addr)) a=some ⟨bk a,fo a+1,none⟩:=by
  conv=>lhs;rw[hh]
  rfl
 rw[hm];refine⟨⟨fun _=>rfl,fun i hi=>?_⟩,by have:=h.len;simp at this;omega⟩;have:=h.row.cell (i+1) (by simpa using hi);simp only[bk_some,fo_some];rw[show fo a+1+i=fo a+(i+1) by omega,this];rfl
theorem txs_none{w:World}{a:Option Addr}:Txs w a []:=⟨Row.nil _ _,by simp⟩
theorem fileNames(t:Tst)(hi:t.init.length<=1024)(hc:t.code.length<=16)(hr: ∀x∈t.code,x.l.length<=256)(w:World)(h:TsIn w t):
 Calls Tryz.prog 73 #[vT t] w (RetN w (namesT t)):=by
 have A:=al w (mkT t);have b0:=BxT.new w t;have HI:=hid (h.keep A);have HA:=hid A;have HR:=hid hr;clear h A hr;go_enter Tryz.func73,Tryz.ntmps73
 go_upto_region 2 with(fail)
 generalize w.alloc (mkT t)=W1 at*;obtain⟨c0,c1,c2,c3,c4,c5,c6,c7,c8,c9,c10,c11⟩:=b0.cells;go_wp2_with fail;clear c0 c1 c2 c3 c4 c5 c6 c7 c8 c9 c10 c11
 go_loopw [3,15] (fun o i wr=> ∃(k:Nat) (a:Option Addr) (c:Nat) (L:List Tx),k<=t.init.length/\i= .int .i64 k/\o= .slice a L.length c/\Below W1.heap.size W1 wr/\OwnS wr W1.heap.size a L.length c L/\L.length<=2*k/\Hid (L=rawI (t.init.take k))) (fun _ i _=>t.init.length-(intOf i).toNat)
 case atStart=>exact⟨0,none,0,[],by omega,rfl,rfl,Below.refl _ _,Own.nil _ _ _ _,by simp,rfl⟩
 case round=>
  obtain⟨k,a,c,L,hk,rfl,rfl,E,o,hl,HL⟩:=hrel
  by_cases hlt:k<t.init.length
  ·obtain⟨x,hx⟩: ∃x,t.init[k]? =some x:=⟨_,List.getElem?_eq_getElem hlt⟩
   obtain⟨p0,p1,p2,p3,p4⟩:=(HI.out.init.below E).ini hx;have ix:=HI.out.init.idx inil cIni_len k hlt t.ic;have HT:=hid (show L++[x.loc,x.vloc]=rawI (t.init.take (k+1)) by rw[rawI_snoc hx,<-HL.out]);clear hx
   go_upto_region 5 with(fail)
   have A3:=al wr (mkIni x);have x0:BxL (wr.alloc (mkIni x)) wr.heap.size (cIni x):=BxL.new _ _ _;generalize wr.alloc (mkIni x)=W3 at*;have E:=E.trans (A3.mono E.size);have o:=Own.below o A3;have i2:=x0.get 2 _ rfl;have i3:=x0.get 3 _ rfl;clear p0 p1 p2 p3 p4 ix A3;have A5:=al W3 (.cells #[.string (tx x.loc),.string (tx x.vloc)] 9);have o5:=Own.below o A5;have E5:=E.trans (A5.mono E.size);have R5:Row (W3.alloc (.cells #[.string (tx x.loc),.string (tx x.vloc)] 9)) (some ⟨W3.heap.size,0,none⟩) [.string (tx x.loc),.string (tx x.vloc)]:=row_new W3 [.string (tx x.loc),.string (tx x.vloc)] 9
   go_wp2_with (at_builtin;go_loud(refine wpList_app txl (.tmp 19) (.tmp 25) rfl rfl rfl o5 rfl R5 rfl (by intro u hu;simp at hu;rcases hu with rfl|rfl<;>rfl) E5 E5.size (by omega) (by unfold maxLen;omega) ?_))
   intro a6 c6 w6 o6 g6 E6
   have o6:OwnS w6 W1.heap.size a6 (L++[x.loc,x.vloc]).length c6 (L++[x.loc,x.vloc]):=by
    rw[List.length_append];unfold OwnS;rw[sV_app];exact o6
   clear o o5 E5 R5 A5 g6 i2 i3 x0 E;go_wp2_with fail
   go_roundw
   case rel=>exact⟨k+1,a6,c6,_,by omega,by go_num,by rw[List.length_append];rfl,E6,o6,by rw[List.length_append];simp;omega,HT⟩
   case measure=>simp[intOf];omega
  ·obtain rfl:k=t.init.length:=by omega
   have HL:=hid (show L=rawI t.init by rw[HL.out,List.take_length]);have hl:L.length<=2048:=by omega
   obtain⟨c0,c1,c2,c3,c4,c5,c6,c7,c8,c9,c10,c11⟩:=(b0.below E).cells;clear hlt hk;go_wp2_with fail;clear c0 c1 c2 c3 c4 c5 c6 c7 c8 c9 c10 c11
   go_loopw [3,31] (fun o i wr=> ∃(k:Nat) (a:Option Addr) (c:Nat) (M:List Tx),k<=t.code.length/\i= .int .i64 k/\o= .slice a M.length c/\Below W1.heap.size W1 wr/\OwnS wr W1.heap.size a M.length c M/\M.length<=2048+256*k/\Hid (M=L++rawC (t.code.take k))) (fun _ i _=>t.code.length-(intOf i).toNat)
   case atStart=>exact⟨0,a,c,L,by omega,rfl,rfl,E,o,by omega,by simp[rawC,Hid]⟩
   case round=>
    clear E o;obtain⟨k,a,c,M,hk,rfl,rfl,E,o,hm,HM⟩:=hrel
    by_cases hlt:k<t.code.length
    ·obtain⟨x,hx⟩: ∃x,t.code[k]? =some x:=⟨_,List.getElem?_eq_getElem hlt⟩
     have p0:=(HI.out.code.below E).cd hx;have iy:=HI.out.code.cdx k hlt t.cc;have HXI:=hid (HI.out.rows x (List.mem_of_getElem? hx));have hx256:=HR.out x (List.mem_of_getElem? hx);have HT:=hid (show M++x.l.map (·.loc)=L++rawC (t.code.take (k+1)) by rw[rawC_snoc hx,HM.out,List.append_assoc]);clear hx;go_wp2_with fail;clear p0 iy
     go_loopw [3,37] (fun o i wr=> ∃(j:Nat) (a:Option Addr) (c:Nat) (N:List Tx),j<=x.l.length/\i= .int .i64 j/\o= .slice a N.length c/\Below W1.heap.size W1 wr/\OwnS wr W1.heap.size a N.length c N/\N.length<=M.length+j/\Hid (N=M++(x.l.take j).map (·.loc))) (fun _ i _=>x.l.length-(intOf i).toNat)
     case atStart=>exact⟨0,a,c,M,by omega,rfl,rfl,E,o,by omega,by simp[Hid]⟩
     case round=>
      clear E o;obtain⟨j,a,c,N,hj,rfl,rfl,E,o,hnl,HN⟩:=hrel
      by_cases hjt:j<x.l.length
      ·obtain⟨i,hi⟩: ∃i,x.l[j]? =some i:=⟨_,List.getElem?_eq_getElem hjt⟩
       obtain⟨q0,q1,q2,q3,q4,q5,q6,q7⟩:=(HXI.out.is.below E).cells hi;have ix:=(HXI.out.is.below E).idx j hjt x.c;have HT2:=hid (show N++[i.loc]=M++(x.l.take (j+1)).map (·.loc) by rw[take_snoc hi,List.map_append,HN.out,List.append_assoc];rfl);clear hi
       go_upto_region 13 with(fail)
       have A3:=al wr (mkI i);have x0:=BxI.new wr i;generalize wr.alloc (mkI i)=W3 at*;have E:=E.trans (A3.mono E.size);have o:=Own.below o A3;obtain⟨i0,i1,i2,i3,i4,i5,i6,i7⟩:=x0.cells;clear q0 q1 q2 q3 q4 q5 q6 q7 ix A3
       go_wp2_with (at_builtin;go_loud(refine wpList_app1n txl (.tmp 41) (.tmp 44) rfl rfl rfl rfl o rfl rfl (by intro u hu;simp at hu;subst hu;rfl) E E.size (by omega) (by unfold maxLen;omega) ?_))
       intro a6 c6 w6 o6 g6 E6
       have o6:OwnS w6 W1.heap.size a6 (N++[i.loc]).length c6 (N++[i.loc]):=by
        rw[List.length_append];unfold OwnS;rw[sV_app];exact o6
       clear o g6 i0 i1 i2 i3 i4 i5 i6 i7 x0 E;go_wp2_with fail
       go_roundw
       case rel=>exact⟨j+1,a6,c6,_,by omega,by go_num,by rw[List.length_append];rfl,E6,o6,by rw[List.length_append];simp;omega,HT2⟩
       case measure=>simp[intOf];omega
      ·obtain rfl:j=x.l.length:=by omega
       have HT2:=hid (show N=L++rawC (t.code.take (k+1)) by rw[<-HT.out,HN.out,List.take_length]);go_wp2_with fail
       go_roundw
       case rel=>exact⟨k+1,a,c,N,by omega,by go_num,rfl,E,o,by omega,HT2⟩
       case measure=>simp[intOf];omega
    ·obtain rfl:k=t.code.length:=by omega
     have HM:=hid (show M=L++rawC t.code by rw[HM.out,List.take_length]);have hm:M.length<=6144:=by omega
     obtain⟨c0,c1,c2,c3,c4,c5,c6,c7,c8,c9,c10,c11⟩:=(b0.below E).cells;have TH:=hid (fileAsked t wr (HI.out.node.keep E));have htl:(askT t).length<=1024:=thingsC_len t.q t.node;clear hlt hk;obtain⟨T,hT⟩: ∃T,askT t=T:=⟨_,rfl⟩;rw[hT]at TH htl;have HTT:=hid hT;clear hT;go_wp2_with fail;refine TH.out.mono ?_;rintro e w2 ⟨a2,c2',rfl,o2,E2⟩;have o:=Own.below o E2;have o2:OwnT w2 W1.heap.size a2 T.length c2' T:=Own.mono o2 E.size;have E:=E.trans (E2.mono E.size);clear c0 c1 c2 c3 c4 c5 c6 c7 c8 c9 c10 c11 E2 TH;go_wp2_with fail
     go_loopw [3,51] (fun o i wr=> ∃(j:Nat) (a:Option Addr) (c:Nat) (N:List Tx),j<=T.length/\i= .int .i64 j/\o= .slice a N.length c/\Below W1.heap.size W1 wr/\OwnT wr W1.heap.size a2 T.length c2' T/\OwnS wr W1.heap.size a N.length c N/\N.length<=M.length+j/\Hid (N=M++(T.take j).map (·.loc))) (fun _ i _=>T.length-(intOf i).toNat)
     case atStart=>exact⟨0,a,c,M,by omega,rfl,rfl,E,o2,o,by omega,by simp[Hid]⟩
     case round=>
      clear E o o2;obtain⟨j,a,c,N,hj,rfl,rfl,E,o2,o,hnl,HN⟩:=hrel
      by_cases hjt:j<T.length
      ·obtain⟨x,hx⟩: ∃x,T[j]? =some x:=⟨_,List.getElem?_eq_getElem hjt⟩
       have els:=(Own.els o2 cTh_len (by omega) (by omega)).1;obtain⟨q0,q1,q2⟩:=els.th hx;have ix:=els.idx thl cTh_len j hjt c2';have HT2:=hid (show N++[x.loc]=M++(T.take (j+1)).map (·.loc) by rw[take_snoc hx,List.map_append,HN.out,List.append_assoc];rfl);clear hx
       go_upto_region 19 with(fail)
       have A3:=al wr (mkTh x);have x0:BxL (wr.alloc (mkTh x)) wr.heap.size (cTh x):=BxL.new _ _ _;generalize wr.alloc (mkTh x)=W3 at*;have E:=E.trans (A3.mono E.size);have o:=Own.below o A3;have o2:=Own.below o2 A3;have i2:=x0.get 2 _ rfl;clear q0 q1 q2 ix A3 els
       go_wp2_with (at_builtin;go_loud(refine wpList_app1n txl (.tmp 55) (.tmp 58) rfl rfl rfl rfl o rfl rfl (by intro u hu;simp at hu;subst hu;rfl) E E.size (by omega) (by unfold maxLen;omega) ?_))
       intro a6 c6 w6 o6 g6 E6
       have o6:OwnS w6 W1.heap.size a6 (N++[x.loc]).length c6 (N++[x.loc]):=by
        rw[List.length_append];unfold OwnS;rw[sV_app];exact o6
       have o2:OwnT w6 W1.heap.size a2 T.length c2' T:=Own.kept o2 g6.step.grown (own_types o o2 (by decide));clear o g6 i2 x0 E;go_wp2_with fail
       go_roundw
       case rel=>exact⟨j+1,a6,c6,_,by omega,by go_num,by rw[List.length_append];rfl,E6,o2,o6,by rw[List.length_append];simp;omega,HT2⟩
       case measure=>simp[intOf];omega
      ·obtain rfl:j=T.length:=by omega
       have HZ:=hid (show N=rawT t by
        unfold rawT;rw[HTT.out,HN.out,HM.out,HL.out,List.take_length,List.append_assoc];rfl)
       have ST:=hid (sortS N wr W1.heap.size a c o (by omega));have HO:=hid o;have HE:=hid E;clear o2 o E;go_wp2_with fail;refine ST.out.mono ?_;rintro e w3 ⟨rfl,o3,s3⟩;have E3:=s3.below HO.out HE.out HE.out.size;have hln:(sortX N).length=N.length:=List.length_mergeSort N;have CT:=hid (hln▸compactS (sortX N) w3 W1.heap.size a c o3 (by omega));have HO3:=hid o3;have HE3:=hid E3;clear o3 s3 E3 ST;go_wp2_with fail;refine CT.out.mono ?_;rintro e w4 ⟨rfl,o4,s4⟩;have E4:=s4.below HO3.out HE3.out HE3.out.size;have hle:=cmpct_length_le (sortX N);have HN2:=hid (show namesT t=cut0 (cmpct (sortX N)) by rw[HZ.out,sorted_names,namesT];rfl);have TT:=OwnS.txs o4 (by omega);have hqc:(cmpct (sortX N)).length<=c:=o4.cap.1;clear o4 s4 CT HO3 HO;obtain⟨P,hP⟩: ∃P,cmpct (sortX N)=P:=⟨_,rfl⟩;rw[hP]at HN2 TT hle hqc⊢;clear hP;have HT4:=hid TT;have HW4:=hid E4;clear TT E4;cases P with
       | nil=>
         have HF:=hid (show namesT t=[]from HN2.out);go_wp2_with fail
         (try go_simp)
         go_ret;rw[HF.out];exact⟨a,c,rfl,HT4.out,HA.out.trans (HW4.out.mono HA.out.size)⟩
       | cons y r=>
         have p0:=HT4.out.cell 0 (by simp);rw[Nat.add_zero]at p0;simp only[List.getElem_cons_zero]at p0;have ix0: ∀w',(Instr.indexAt 42 (.slice a (y::r).length c) (.int .i64 0)).run Tryz.prog w'= .ok (.pointer (some ⟨bk a,fo a,none⟩)) w':=HT4.out.idx 0 (by simp) c;obtain⟨q,hq⟩: ∃q,(y::r).length=q:=⟨_,rfl⟩;have hq1:1<=q:=by rw[<-hq];simp
         have HQ:=hid hq;rw[hq]at ix0 hle hqc⊢;clear hq
         by_cases hy:y=[]
         ·have z5:((tx y).toList==([]:List UInt8))=true:=by rw[hy,tx_toList];rfl
          have z6:(tx y).toList.isEmpty=true:=by rw[hy,tx_toList];rfl
          have HF:=hid (show namesT t=r by rw[HN2.out,hy];rfl);clear hy;go_wp2_with fail
          rotate_left
          ·(try go_simp)
           go_ret;rw[HF.out];exact⟨_,c-1,by rw[show r.length=q-1 by have:=HQ.out;simp at this;omega];rfl,txs_tail HT4.out,HA.out.trans (HW4.out.mono HA.out.size)⟩
          ·(try go_simp)
           go_ret;have hr0:r=[]:=List.eq_nil_of_length_eq_zero (by have:=HQ.out;simp at this;omega);rw[HF.out];exact⟨a,0,by rw[show r.length=q-1 by have:=HQ.out;simp at this;omega];rfl,by rw[hr0];exact txs_none,HA.out.trans (HW4.out.mono HA.out.size)⟩
         ·have z5:((tx y).toList==([]:List UInt8))=false:=by rw[tx_toList];simpa using hy
          have z6:(tx y).toList.isEmpty=false:=by rw[tx_toList];cases y<;>simp at*
          have HF:=hid (show namesT t=y::r by rw[HN2.out];unfold cut0;rw[if_neg (by simpa using hy)]);clear hy;go_wp2_with fail
          (try go_simp)
          go_ret;rw[HF.out];exact⟨a,c,by rw[HQ.out];rfl,HT4.out,HA.out.trans (HW4.out.mono HA.out.size)⟩
theorem fileCoded_1(t:Tst)(ha:t.arch=1)(w:World)(h:TsIn w t):Calls Tryz.prog 69 #[vT t] w (Ret w (.int .i64 (codedE t))):=by
 have A:=al w (mkT t);have b0:=BxT.new w t;have HI:=hid (h.keep A);have HA:=hid A;have HAr:=hid ha;have hcl:=h.code.len;clear ha
 by_cases hn:t.code.length<1\/16<t.code.length
 ·rw[codedE_n hn]
  obtain⟨c0,c1,c2,c3,c4,c5,c6,c7,c8,c9,c10,c11⟩:=b0.cells;clear h A;rcases hn with hn|hn
  all_goals
   go_enter Tryz.func69,Tryz.ntmps69;go_wp2_with fail;go_ret;exact⟨rfl,HA.out⟩
 ·have h1:1<=t.code.length:=by omega
  have h16:t.code.length<=16:=by omega
  have HNN:=hid hn;clear hn h A;go_enter Tryz.func69,Tryz.ntmps69
  go_upto_region 1 with(fail)
  generalize w.alloc (mkT t)=W1 at*;obtain⟨c0,c1,c2,c3,c4,c5,c6,c7,c8,c9,c10,c11⟩:=b0.cells;go_wp2_with fail;clear c0 c1 c2 c3 c4 c5 c6 c7 c8 c9 c10 c11
  go_loopw [25] (fun i wr=> ∃k:Nat,k<=t.code.length/\i= .int .i64 k/\Below W1.heap.size W1 wr/\Hid (∀(j:Nat) (x:Cd),j<k->t.code[j]? =some x->x.l.length<=256)) (fun i _=>t.code.length-(intOf i).toNat)
  case atStart=>exact⟨0,by omega,rfl,Below.refl _ _,fun j x hj=>absurd hj (Nat.not_lt_zero j)⟩
  case round=>
   obtain⟨k,hk,rfl,E,HK⟩:=hrel
   by_cases hlt:k<t.code.length
   ·obtain⟨x,hx⟩: ∃x,t.code[k]? =some x:=⟨_,List.getElem?_eq_getElem hlt⟩
    have p0:=(HI.out.code.below E).cd hx;have ix:=HI.out.code.cdx k hlt t.cc;have hxl:=(HI.out.rows x (List.mem_of_getElem? hx)).is.len;have HX:=hid hx;clear hx
    by_cases hl:256<x.l.length
    ·have HZ:=hid (codedE_long HNN.out HX.out hl)
     go_wp2_with fail;go_ret;rw[HZ.out];exact⟨rfl,HA.out.trans (E.mono HA.out.size)⟩
    ·have hl':x.l.length<=256:=by omega
     have HK2: ∀(j:Nat) (y:Cd),j<k+1->t.code[j]? =some y->y.l.length<=256:=fun j y hj hy=>by
      rcases Nat.lt_succ_iff_lt_or_eq.1 hj with h|h
      ·exact HK.out j y h hy
      ·subst h;rw[HX.out]at hy;cases hy;exact hl'
     have HK2:=hid HK2;clear HK hl;go_wp2_with fail
     go_roundw
     case rel=>exact⟨k+1,by omega,by go_num,E,HK2⟩
     case measure=>simp[intOf];omega
   ·obtain rfl:k=t.code.length:=by omega
    have HR:=hid (codedE_rows HNN.out (fun k x hx=>HK.out k x (List.getElem?_eq_some_iff.1 hx).1 hx));have HL:=hid (fun(k:Nat) (x:Cd) (hx:t.code[k]? =some x)=>HK.out k x (List.getElem?_eq_some_iff.1 hx).1 hx);obtain⟨c0,c1,c2,c3,c4,c5,c6,c7,c8,c9,c10,c11⟩:=(b0.below E).cells;clear HK hk hlt;go_wp2_with fail;clear c0 c1 c2 c3 c4 c5 c6 c7 c8 c9 c10 c11
    go_loopw [36] (fun i wr2=> ∃k:Nat,k<=t.code.length/\i= .int .i64 k/\Below W1.heap.size W1 wr2/\Hid (rowsE 1 (t.code.drop k)=codedE t)) (fun i _=>t.code.length-(intOf i).toNat)
    case atStart=>exact⟨0,by omega,rfl,E,by rw[List.drop_zero];exact(HR.out.trans (by rw[HAr.out])).symm⟩
    case round=>
     clear E;obtain⟨k,hk,rfl,E,HD⟩:=hrel
     by_cases hlt:k<t.code.length
     ·obtain⟨x,hx⟩: ∃x,t.code[k]? =some x:=⟨_,List.getElem?_eq_getElem hlt⟩
      have p0:=(HI.out.code.below E).cd hx;have ix:=HI.out.code.cdx k hlt t.cc;have hxI:=HI.out.rows x (List.mem_of_getElem? hx);have hxl:=hxI.is.len;have HXI:=hid hxI;have hl6:=HL.out k x hx;have HD:=hid (show(if rowE 1 x.l=0 then rowsE 1 (t.code.drop (k+1))else rowE 1 x.l)=codedE t by rw[<-rowsE_drop hx];exact HD.out);clear hx hxI;go_wp2_with fail;clear p0 ix
      go_loopw [42] (fun i wr3=> ∃j:Nat,j<=x.l.length/\i= .int .i64 j/\Below W1.heap.size W1 wr3/\Hid (∀(m:Nat) (i:Ins),m<j->x.l[m]? =some i->insA 1 i=true)) (fun i _=>x.l.length-(intOf i).toNat)
      case atStart=>exact⟨0,by omega,rfl,E,fun j x hj=>absurd hj (Nat.not_lt_zero j)⟩
      case round=>
       clear E;obtain⟨j,hj,rfl,E,HJ⟩:=hrel
       by_cases hjt:j<x.l.length
       ·obtain⟨i,hi⟩: ∃i,x.l[j]? =some i:=⟨_,List.getElem?_eq_getElem hjt⟩
        obtain⟨p0,p1,p2,p3,p4,p5,p6,p7⟩:=(HXI.out.is.below E).cells hi;have ix:=(HXI.out.is.below E).idx j hjt x.c;have hb:=HXI.out.locs i (List.mem_of_getElem? hi);have CK:=hid (fun w=>xCheck i hb.1 w);have HIJ:=hid hi;clear hi hb;obtain⟨e,he⟩: ∃e,errX i=e:=⟨_,rfl⟩;rw[he]at CK;have HE:=hid he;clear he
        go_upto_region 15 with(fail)
        have A3:=al wr (mkI i);have b3:=BxI.new wr i;generalize wr.alloc (mkI i)=W3 at*;have E:=E.trans (A3.mono E.size);clear p0 p1 p2 p3 p4 p5 p6 p7 ix A3;obtain⟨q0,q1,q2,q3,q4,q5,q6,q7⟩:=b3.cells;have c0:=(b0.below E).cells.1;rw[HAr.out]at c0;go_wp2_with fail;refine(CK.out _).mono ?_;rintro ee w5 ⟨rfl,E5⟩;have E:=E.trans (E5.mono E.size);clear q0 q1 q2 q3 q4 q5 q6 q7 c0 E5 CK;have c0:=(b0.below E).cells.1;rw[HAr.out]at c0
        by_cases hck:checkX i=true
        ·have e0:e=0:=by rw[<-HE.out];unfold errX;rw[hck];rfl
         subst e0
         have HJ2: ∀(m:Nat) (y:Ins),m<j+1->x.l[m]? =some y->insA 1 y=true:=fun m y hm hy=>by
          rcases Nat.lt_succ_iff_lt_or_eq.1 hm with h|h
          ·exact HJ.out m y h hy
          ·subst h;rw[HIJ.out]at hy;cases hy;exact hck
         have HJ2:=hid HJ2;clear hck HJ HIJ HE;go_wp2_with fail
         go_roundw
         case rel=>exact⟨j+1,by omega,by go_num,E,HJ2⟩
         case measure=>simp[intOf];omega
        ·have e0:e=91:=by rw[<-HE.out];unfold errX;rw[if_neg hck]
         subst e0;have HZ:=hid (show codedE t=91 by rw[<-HD.out,rowE_bad HIJ.out (by show checkX i=false;simpa using hck),if_neg (by omega)]);clear hck HJ HIJ HE;go_wp2_with fail;go_ret;rw[HZ.out];exact⟨rfl,HA.out.trans (E.mono HA.out.size)⟩
       ·obtain rfl:j=x.l.length:=by omega
        have c0:=(b0.below E).cells.1;rw[HAr.out]at c0;have HRA:=hid (rowE_all (fun m i hi=>HJ.out m i (List.getElem?_eq_some_iff.1 hi).1 hi));have HD:=hid (show rowsE 1 (t.code.drop (k+1))=codedE t by rw[<-HD.out,if_pos (by rw[HRA.out];rfl)]);clear HJ;go_wp2_with fail
        go_roundw
        case rel=>exact⟨k+1,by omega,by go_num,E,HD⟩
        case measure=>simp[intOf];omega
     ·obtain rfl:k=t.code.length:=by omega
      have HZ:=hid (show codedE t=0 by rw[<-HD.out];exact rowsE_end);go_wp2_with fail;go_ret;rw[HZ.out];exact⟨rfl,HA.out.trans (E.mono HA.out.size)⟩
theorem fileCoded_2(t:Tst)(ha:t.arch=2)(w:World)(h:TsIn w t):Calls Tryz.prog 69 #[vT t] w (Ret w (.int .i64 (codedE t))):=by
 have A:=al w (mkT t);have b0:=BxT.new w t;have HI:=hid (h.keep A);have HA:=hid A;have HAr:=hid ha;have hcl:=h.code.len;clear ha
 by_cases hn:t.code.length<1\/16<t.code.length
 ·rw[codedE_n hn]
  obtain⟨c0,c1,c2,c3,c4,c5,c6,c7,c8,c9,c10,c11⟩:=b0.cells;clear h A;rcases hn with hn|hn
  all_goals
   go_enter Tryz.func69,Tryz.ntmps69;go_wp2_with fail;go_ret;exact⟨rfl,HA.out⟩
 ·have h1:1<=t.code.length:=by omega
  have h16:t.code.length<=16:=by omega
  have HNN:=hid hn;clear hn h A;go_enter Tryz.func69,Tryz.ntmps69
  go_upto_region 1 with(fail)
  generalize w.alloc (mkT t)=W1 at*;obtain⟨c0,c1,c2,c3,c4,c5,c6,c7,c8,c9,c10,c11⟩:=b0.cells;go_wp2_with fail;clear c0 c1 c2 c3 c4 c5 c6 c7 c8 c9 c10 c11
  go_loopw [25] (fun i wr=> ∃k:Nat,k<=t.code.length/\i= .int .i64 k/\Below W1.heap.size W1 wr/\Hid (∀(j:Nat) (x:Cd),j<k->t.code[j]? =some x->x.l.length<=256)) (fun i _=>t.code.length-(intOf i).toNat)
  case atStart=>exact⟨0,by omega,rfl,Below.refl _ _,fun j x hj=>absurd hj (Nat.not_lt_zero j)⟩
  case round=>
   obtain⟨k,hk,rfl,E,HK⟩:=hrel
   by_cases hlt:k<t.code.length
   ·obtain⟨x,hx⟩: ∃x,t.code[k]? =some x:=⟨_,List.getElem?_eq_getElem hlt⟩
    have p0:=(HI.out.code.below E).cd hx;have ix:=HI.out.code.cdx k hlt t.cc;have hxl:=(HI.out.rows x (List.mem_of_getElem? hx)).is.len;have HX:=hid hx;clear hx
    by_cases hl:256<x.l.length
    ·have HZ:=hid (codedE_long HNN.out HX.out hl)
     go_wp2_with fail;go_ret;rw[HZ.out];exact⟨rfl,HA.out.trans (E.mono HA.out.size)⟩
    ·have hl':x.l.length<=256:=by omega
     have HK2: ∀(j:Nat) (y:Cd),j<k+1->t.code[j]? =some y->y.l.length<=256:=fun j y hj hy=>by
      rcases Nat.lt_succ_iff_lt_or_eq.1 hj with h|h
      ·exact HK.out j y h hy
      ·subst h;rw[HX.out]at hy;cases hy;exact hl'
     have HK2:=hid HK2;clear HK hl;go_wp2_with fail
     go_roundw
     case rel=>exact⟨k+1,by omega,by go_num,E,HK2⟩
     case measure=>simp[intOf];omega
   ·obtain rfl:k=t.code.length:=by omega
    have HR:=hid (codedE_rows HNN.out (fun k x hx=>HK.out k x (List.getElem?_eq_some_iff.1 hx).1 hx));have HL:=hid (fun(k:Nat) (x:Cd) (hx:t.code[k]? =some x)=>HK.out k x (List.getElem?_eq_some_iff.1 hx).1 hx);obtain⟨c0,c1,c2,c3,c4,c5,c6,c7,c8,c9,c10,c11⟩:=(b0.below E).cells;clear HK hk hlt;go_wp2_with fail;clear c0 c1 c2 c3 c4 c5 c6 c7 c8 c9 c10 c11
    go_loopw [36] (fun i wr2=> ∃k:Nat,k<=t.code.length/\i= .int .i64 k/\Below W1.heap.size W1 wr2/\Hid (rowsE 2 (t.code.drop k)=codedE t)) (fun i _=>t.code.length-(intOf i).toNat)
    case atStart=>exact⟨0,by omega,rfl,E,by rw[List.drop_zero];exact(HR.out.trans (by rw[HAr.out])).symm⟩
    case round=>
     clear E;obtain⟨k,hk,rfl,E,HD⟩:=hrel
     by_cases hlt:k<t.code.length
     ·obtain⟨x,hx⟩: ∃x,t.code[k]? =some x:=⟨_,List.getElem?_eq_getElem hlt⟩
      have p0:=(HI.out.code.below E).cd hx;have ix:=HI.out.code.cdx k hlt t.cc;have hxI:=HI.out.rows x (List.mem_of_getElem? hx);have hxl:=hxI.is.len;have HXI:=hid hxI;have hl6:=HL.out k x hx;have HD:=hid (show(if rowE 2 x.l=0 then rowsE 2 (t.code.drop (k+1))else rowE 2 x.l)=codedE t by rw[<-rowsE_drop hx];exact HD.out);clear hx hxI;go_wp2_with fail;clear p0 ix
      go_loopw [42] (fun i wr3=> ∃j:Nat,j<=x.l.length/\i= .int .i64 j/\Below W1.heap.size W1 wr3/\Hid (∀(m:Nat) (i:Ins),m<j->x.l[m]? =some i->insA 2 i=true)) (fun i _=>x.l.length-(intOf i).toNat)
      case atStart=>exact⟨0,by omega,rfl,E,fun j x hj=>absurd hj (Nat.not_lt_zero j)⟩
      case round=>
       clear E;obtain⟨j,hj,rfl,E,HJ⟩:=hrel
       by_cases hjt:j<x.l.length
       ·obtain⟨i,hi⟩: ∃i,x.l[j]? =some i:=⟨_,List.getElem?_eq_getElem hjt⟩
        obtain⟨p0,p1,p2,p3,p4,p5,p6,p7⟩:=(HXI.out.is.below E).cells hi;have ix:=(HXI.out.is.below E).idx j hjt x.c;have hb:=HXI.out.locs i (List.mem_of_getElem? hi);have CK:=hid (fun w=>progCheck i hb.2 w);have HIJ:=hid hi;clear hi hb;obtain⟨e,he⟩: ∃e,errI i=e:=⟨_,rfl⟩;rw[he]at CK;have HE:=hid he;clear he
        go_upto_region 15 with(fail)
        have A3:=al wr (mkI i);have b3:=BxI.new wr i;generalize wr.alloc (mkI i)=W3 at*;have E:=E.trans (A3.mono E.size);clear p0 p1 p2 p3 p4 p5 p6 p7 ix A3;obtain⟨q0,q1,q2,q3,q4,q5,q6,q7⟩:=b3.cells;have c0:=(b0.below E).cells.1;rw[HAr.out]at c0;go_wp2_with fail;refine(CK.out _).mono ?_;rintro ee w5 ⟨rfl,E5⟩;have E:=E.trans (E5.mono E.size);clear q0 q1 q2 q3 q4 q5 q6 q7 c0 E5 CK;have c0:=(b0.below E).cells.1;rw[HAr.out]at c0
        by_cases hck:checkI i=true
        ·have e0:e=0:=by rw[<-HE.out];unfold errI;rw[hck];rfl
         subst e0
         have HJ2: ∀(m:Nat) (y:Ins),m<j+1->x.l[m]? =some y->insA 2 y=true:=fun m y hm hy=>by
          rcases Nat.lt_succ_iff_lt_or_eq.1 hm with h|h
          ·exact HJ.out m y h hy
          ·subst h;rw[HIJ.out]at hy;cases hy;exact hck
         have HJ2:=hid HJ2;clear hck HJ HIJ HE;go_wp2_with fail
         go_roundw
         case rel=>exact⟨j+1,by omega,by go_num,E,HJ2⟩
         case measure=>simp[intOf];omega
        ·have e0:e=91:=by rw[<-HE.out];unfold errI;rw[if_neg hck]
         subst e0;have HZ:=hid (show codedE t=91 by rw[<-HD.out,rowE_bad HIJ.out (by show checkI i=false;simpa using hck),if_neg (by omega)]);clear hck HJ HIJ HE;go_wp2_with fail;go_ret;rw[HZ.out];exact⟨rfl,HA.out.trans (E.mono HA.out.size)⟩
       ·obtain rfl:j=x.l.length:=by omega
        have c0:=(b0.below E).cells.1;rw[HAr.out]at c0;have HRA:=hid (rowE_all (fun m i hi=>HJ.out m i (List.getElem?_eq_some_iff.1 hi).1 hi));have hLab: ∀i∈x.l,i.label.length<=9223372036854775807:=fun i hi=>(HXI.out.locs i hi).2
        have LK:=progLinks x.l x.a x.c HXI.out.cap hLab wr (HXI.out.is.below E);obtain⟨e,he⟩: ∃e,(linksV x.l).2.1=e:=⟨_,rfl⟩
        have HD:=hid (show(if e=0 then rowsE 2 (t.code.drop (k+1))else e)=codedE t by
         rw[<-HD.out,show rowE 2 x.l=e from by rw[HRA.out,if_pos rfl,he]])
        have HLE:=hid he;have LK:=hid LK;clear HJ he hLab HRA;go_wp2_with fail;refine LK.out.mono ?_;rintro ee w5 ⟨a5,c5,rfl,o5,E5⟩;rw[HLE.out];have E:=E.trans (E5.mono E.size);clear o5 E5 LK c0
        by_cases h0:e=0
        ·subst h0
         have HD:=hid (show rowsE 2 (t.code.drop (k+1))=codedE t from HD.out);go_wp2_with fail
         go_roundw
         case rel=>exact⟨k+1,by omega,by go_num,E,HD⟩
         case measure=>simp[intOf];omega
        ·have z0:(e != 0)=true:=by simpa using h0
         have HZ:=hid (show codedE t=e by rw[<-HD.out,if_neg h0]);clear h0;go_wp2_with fail;go_ret;rw[HZ.out];exact⟨rfl,HA.out.trans (E.mono HA.out.size)⟩
     ·obtain rfl:k=t.code.length:=by omega
      have HZ:=hid (show codedE t=0 by rw[<-HD.out];exact rowsE_end);go_wp2_with fail;go_ret;rw[HZ.out];exact⟨rfl,HA.out.trans (E.mono HA.out.size)⟩
end Go.Proofs.YtkbbgjloifmmbaaGreatDoor

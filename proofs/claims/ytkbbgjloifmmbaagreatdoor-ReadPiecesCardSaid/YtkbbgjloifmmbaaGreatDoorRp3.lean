/- What ReadPiecesP leans on, part 3. -/
import Derived.Test.YtkbbgjloifmmbaaGreatDoorRp2
import Derived.WalkSmall
import Derived.Laws.Concat
import Derived.Stop.LaidErr
import Derived.Lib.LaidTab
import Derived.Lib.LaidU8
import Derived.Lay
import Derived.MakeChecks
import Derived.ShapedOpen
import Derived.LaidOnce
import Derived.SevenTiedAt
import Derived.ChangeArms
import Derived.BigRegion
import Derived.StillTailTactics
import Derived.Deep.RegionWith
set_option linter.unusedVariables false
set_option maxRecDepth 100000
set_option maxHeartbeats 8000000
namespace Go.Proofs.YtkbbgjloifmmbaaGreatDoor
open Go.RowKit Go.Sort
theorem below_grow(w:World)(k:Nat)(os:Array Obj):Below w.heap.size w (grow (w.drewN k) os):=
 ⟨rfl,rfl,rfl,by simp[grow],fun j hj=>by simp[grow,Array.getElem?_append,hj]⟩
noncomputable def powN:String:=(Tryz.prog.globals.getD 4 default).name
structure Gl(w:World):Prop where
 pow:Lib.TabIs Tryz.prog w powN .u64 Lib.pow10Tab
 maxLen: ∃m,w.cell? ⟨Tryz.m146_ren.g 1,0,none⟩=some (.int .i64 m)
 syn: ∃tp p,w.var? Tryz.prog "strconv.ErrSyntax" =some #[.iface tp p]
 rng: ∃tp p,w.var? Tryz.prog "strconv.ErrRange" =some #[.iface tp p]
 regs: ∀k,k<15->w.cell? ⟨0,k,none⟩=some (.string (tx (regX k)))
theorem var?_lt{P:Program}{w:World}{n:String}{g:Nat}{cs:Array Value}(hg:P.globalNamed n=some g)(h:w.var? P n=some cs):g<w.heap.size:=by
 simp only[World.var?,hg,Option.bind_some]at h;rcases Nat.lt_or_ge g w.heap.size with h'|h'
 ·exact h'
 ·rw[Array.getElem?_eq_none h']at h;cases h
theorem Gl.below{w w':World}(h:Gl w)(hb:Below w.heap.size w w'):Gl w' where
 pow:=var?_below hb (by kernel_rfl:Tryz.prog.globalNamed powN=some 4) (var?_lt (by kernel_rfl:Tryz.prog.globalNamed powN=some 4) h.pow) h.pow
 maxLen:=by obtain⟨m,h2⟩:=h.maxLen;exact⟨m,by rw[hb.cell (cell?_lt h2)];exact h2⟩
 syn:=by
  have g3:Tryz.prog.globalNamed "strconv.ErrSyntax" =some 2:=by kernel_rfl
  obtain⟨tp,p,h3⟩:=h.syn;exact⟨tp,p,var?_below hb g3 (var?_lt g3 h3) h3⟩
 rng:=by
  have g4:Tryz.prog.globalNamed "strconv.ErrRange" =some 3:=by kernel_rfl
  obtain⟨tq,q,h4⟩:=h.rng;exact⟨tq,q,var?_below hb g4 (var?_lt g4 h4) h4⟩
 regs:=fun k hk=>by rw[hb.cell (cell?_lt (h.regs k hk))];exact h.regs k hk
theorem itoa_small(n:Nat)(h:n<100)(w:World):Calls Tryz.prog 57 #[.int .i64 n] w fun e w'=>e= .returned (.string (tx (decN n)))/\w=w':=by
 refine(Any.strconv_Itoa_small Tryz.l171 n h w).mono fun e w' hh=>⟨?_,hh.2.symm⟩
 rw[hh.1,decDigits_decN (by omega)];rfl
theorem itoa_any(n:Int)(h0: -9223372036854775808<=n)(h1:n<=9223372036854775807)(w:World)(g:Gl w):Calls Tryz.prog 57 #[.int .i64 n] w (Ret w (.string (tx (Lib.itoa n)))):=by
 refine(Any.strconv_Itoa Tryz.m171 n h0 h1 w (Eq.mp (congrArg (fun s=>Lib.TabIs Tryz.prog w s .u64 Lib.pow10Tab) (by kernel_rfl)) g.pow)).mono fun e w' hh=>?_
 obtain⟨he,k,os,rfl⟩:=hh;exact⟨he,below_grow w k os⟩
theorem trim_any(l:Tx)(hl:l.length<=9223372036854775807)(w:World):Calls Tryz.prog 68 #[.string (tx l),.string ⟨#[32,9,10,13]⟩] w (Ret w (.string (tx (trimT l)))):=by
 refine(Any.strings_Trim_laid Tryz.l160 (by kernel_rfl) (tx l) ⟨#[32,9,10,13]⟩ w (by rw[tx_size];exact hl) (by decide) (ascii_of_all (by decide))).mono fun e w' hh=>⟨?_,hh.2⟩
 rw[hh.1,tx_data];rfl
theorem suffix_any(l:Tx)(c:UInt8)(hl:l.length<=9223372036854775807)(w:World):Calls Tryz.prog 99 #[.string (tx l),.string ⟨#[c]⟩] w fun e w'=>e= .returned (.bool (l.getLast?==some c))/\w=w':=by
 refine(Any.strings_HasSuffix Tryz.l100 (tx l) ⟨#[c]⟩ w (by rw[tx_size];exact hl)).mono fun e w' hh=>⟨?_,hh.2.symm⟩
 rw[hh.1,tx_data,show(⟨#[c]⟩:ByteArray).data.toList=[c]from rfl,hasSuffix_one]
theorem indexByte_any(l:Tx)(w:World):Calls Tryz.prog 78 #[.string (tx l),.int .u8 40] w fun e w'=>e= .returned (.int .i64 (Lib.indexByte l 40))/\w=w':=by
 refine(Any.strings_IndexByte Tryz.l137 (tx l) 40 w).mono fun e w' hh=>⟨?_,hh.2.symm⟩
 rw[hh.1,tx_data];rfl
structure Txs(w:World)(a:Option Addr)(l:List Tx):Prop where
 row:Row w a (l.map fun x=>Value.string (tx x))
 len:l.length<=1000000000000000000
theorem Txs.below{w w':World}{a:Option Addr}{l:List Tx}(h:Txs w a l)(hb:Below w.heap.size w w'):Txs w' a l:=⟨h.row.below hb,h.len⟩
theorem Txs.cell{w:World}{a:Option Addr}{l:List Tx}(h:Txs w a l)(k:Nat)(hk:k<l.length):w.cell? ⟨bk a,fo a+k,none⟩=some (.string (tx l[k])):=by
 have:=h.row.cell k (by simpa using hk);simpa[hk]using this
theorem txl:ElT Tryz.prog 42 9 (.string ByteArray.empty) 1 16:=⟨Tryz.underlying42,by kernel_rfl,rfl,by decide⟩
theorem Txs.idx{w:World}{a:Option Addr}{l:List Tx}(h:Txs w a l)(k:Nat)(hk:k<l.length):
 ∀c w',(Instr.indexAt 42 (.slice a l.length c) (.int .i64 k)).run Tryz.prog w'= .ok (.pointer (some ⟨bk a,fo a+k,none⟩)) w':=by
 intro c;have:=run_idx (c:=c) (n:=l.length) (m:=1) h.row txl.und txl.cells txl.isSome (by simp) (by omega) k hk .i64;simpa using this
theorem split_any(l:Tx)(hl:l.length<=1000000)(w:World)(g:Gl w):Calls Tryz.prog 79 #[.string (tx l),.string ⟨#[44]⟩] w fun e w'=> ∃a,e= .returned (.slice a (splitC 44 l).length (splitC 44 l).length)/\Txs w' a (splitC 44 l)/\Below w.heap.size w w':=by
 obtain⟨m,hm⟩:=g.maxLen;refine(Any.strings_Split { Tryz.m146 with } Tryz.m146.i9 (tx l) ⟨#[44]⟩ m w (by rw[tx_size];omega) hm (by decide)).mono fun e w' hh=>?_
 obtain⟨he,rfl⟩:=hh;have hc:Lib.countB (tx l) ⟨#[44]⟩=Lib.count l [44]:=by unfold Lib.countB;rw[tx_data]
 have hd:=Lib.splitB_data ⟨#[44]⟩ 0 (Lib.count l [44]) (tx l);rw[tx_data,show(⟨#[44]⟩:ByteArray).data.toList=[44]from rfl,splitK_one]at hd
 have hlen:Lib.count l [44]+1=(splitC 44 l).length:=by
  rw[<-hd,List.length_map,Lib.splitB_all ⟨#[44]⟩ (by decide) 0 _ _ hc]
 have hmap:(Lib.splitB ⟨#[44]⟩ 0 (Lib.count l [44]) (tx l)).map Value.string=(splitC 44 l).map fun x=>Value.string (tx x):=by
  rw[<-hd,List.map_map];refine List.map_congr_left fun x _=>?_
  simp[tx]
 rw[hc,hlen]at he;rw[hc,hmap];refine⟨some ⟨w.heap.size,0,none⟩,he,⟨⟨fun _=>rfl,fun i hi=>?_⟩,by have:=splitC_length_le 44 l;omega⟩,(Below.refl _ _).alloc (Nat.le_refl _) _⟩;have hh:=heap_alloc_new w (.cells ((splitC 44 l).map fun x=>Value.string (tx x)).toArray (Tryz.m146_ren.t 9));simp only[World.cell?,bk_some,fo_some];rw[hh];simp
theorem atoi_ok(l:Tx)(hl:l.length<=1000000)(v:Int)(h:Lib.atoiAll l= .ok v)(w:World):Calls Tryz.prog 113 #[.string (tx l)] w (Ret w (.tuple #[.int .i64 v,.nilIface])):=by
 refine(Any.strconv_Atoi_ok Tryz.c172 (tx l) (by rw[tx_size];omega) v (by rw[tx_data];exact h) w).mono fun e w' hh=>⟨hh.1,?_⟩
 rcases hh.2 with rfl|⟨t,rfl⟩
 ·exact Below.refl _ _
 ·exact Lib.bytesWorld_below _ _ _
theorem atoi_bad(l:Tx)(hl:l.length<=1000000)(h: ∀v,Lib.atoiAll l≠ .ok v)(w:World)(g:Gl w):Calls Tryz.prog 113 #[.string (tx l)] w fun e w'=> ∃n tp p,e= .returned (.tuple #[.int .i64 n,.iface tp p])/\Below w.heap.size w w':=by
 obtain⟨tp,p,hs⟩:=g.syn;obtain⟨tq,q,hr⟩:=g.rng;rcases ha:Lib.atoiAll l with v|_|_
 ·exact absurd ha (h v)
 ·refine(Any.strconv_Atoi_syntax_var Tryz.c172 (tx l) (by rw[tx_size];omega) (by rw[tx_data];exact ha) tp p w hs).mono fun e w' hh=>?_
  obtain⟨N,he,-, -, hb⟩:=hh;exact⟨_,_,_,he,hb⟩
 ·refine(Any.strconv_Atoi_range_var Tryz.c172 (tx l) (by rw[tx_size];omega) (by rw[tx_data];exact ha) tq q w hr).mono fun e w' hh=>?_
  obtain⟨N,he,-, -, hb⟩:=hh;exact⟨_,_,_,he,hb⟩
theorem run_cat(a b:Tx)(h:a.length+b.length<=9223372036854775807): ∀w,(Op.stringOp .add (tx a) (tx b)).run Tryz.prog w= .ok (.string (tx (a++b))) w:=fun w=>by
 rw[run_string_add_sum w _ _ (by rw[tx_size,tx_size];exact h),tx_app]
end Go.Proofs.YtkbbgjloifmmbaaGreatDoor
namespace Go.Proofs.YtkbbgjloifmmbaaGreatDoor
open Go.RowKit Go.ChangeShapes
theorem wrapS{H:Type}{enc:TypeId × Value->H}{a:Assume}{C:Checked}{os:Os}{f:FuncId}{fn:Func}{s:ChangeSpec}{conds:List PathCond}{apart fresh handsOn again:Bool}{X:World->Array Value->Prop}
 (hX: ∀(w w':World) (args:Array Value),w.heap=w'.heap->X w args->X w' args)
 (own:ownKnob C.prog.godebug=none) (started:os.Started) (noInit:C.prog.inits.idxOf? f=none) (hfn:C.prog.funcs[f]? =some fn)
 (witness: ∃(w:World) (tape:Tape) (i:Input),w.os=os/\(w.forCall tape i).Shaped C.prog/\i.vars=[]/\Input.okWide C.prog (w.forCall tape i) .any w.heap.size f i/\
  ((s.pre enc C.prog fn conds apart (w.forCall tape i).memory i.args/\X (w.forCall tape i).memory i.args)/\sizedMet enc C.prog fn (OpenSpec.ofChange s) apart (w.forCall tape i).memory i.args)/\a.holds C.prog (lone (Frame.enter C.prog f i.args .normal) [] (w.forCall tape i)))
 (contract: ∀(W:World) (base:Nat) (args:Array Value) (ds gs:List (DataW H)) (before:List MemPlace),
  (∀(j:Nat) t v,fn.params[j]? =some t->args[j]? =some v->Value.okWide C.prog W .any base t v)->
  DataW.Whole enc C.prog fn.params.toList s.vars apart W args.toList ds gs before->
  (DataW.weightsEach C.prog (fn.params.toList++s.plain.varTypes C.prog) (ds++gs)).all (· <=reachBytes)=true->X W args->W.ShapedOpen C.prog->
  Calls C.prog f args W fun e W'=> ∃v,e= .returned v/\s.post enc C.prog fn apart fresh handsOn again W args v W'):
 ReturnsInHanded a C os f .any (fun w args=>(s.pre enc C.prog fn conds apart w args/\X w args)/\sizedMet enc C.prog fn (OpenSpec.ofChange s) apart w args) (s.post enc C.prog fn apart fresh handsOn again):=by
 refine returnsInHanded_of_calls own started noInit witness ?_;intro w tape i _ hsh _ hok hpre _;obtain⟨_,_,_,fn',hfn',_,_,_,_,hval⟩:=hok;obtain rfl:fn'=fn:=Option.some.inj (hfn'.symm.trans hfn);obtain⟨⟨⟨ds,gs,before,hw,hc⟩,hx⟩,hz⟩:=hpre;have hw':=DataW.Whole.of_heap (w':=w.forCall tape i) (by rfl) hw;refine(contract (w.forCall tape i) w.heap.size i.args ds gs before hval hw' (hz.weights hw) (hX _ _ _ (by rfl) hx) hsh).mono fun e W' ⟨v,he,hp⟩=>?_
 subst he;exact ChangeSpec.post_blind hp
def regsD:DataW Unit:=.agg (namesX.map fun s=>.lit (.string s))
theorem gl_of_laid14{W:World}{x0 x1 x6:String × DataW Unit}{r:List (String × DataW Unit)}{npow nrange nsyn nregs nm:String}{t1 t2:List UInt8}
 (h1:Tryz.prog.globalNamed npow=some 4) (hn1:npow=powN) (h2:nrange= "strconv.ErrRange") (h3:nsyn= "strconv.ErrSyntax") (hnm:nm= "*" ++ "errors.errorString") (h4:Tryz.prog.globalNamed nregs=some 0)
 (hL:laidMet Tryz.prog (x0::x1::(npow,Lib.tabData .u64 Lib.pow10Tab)::x6::(nrange,.iface nm (.ptr (.agg [.lit (.string t1)])))::(nsyn,.iface nm (.ptr (.agg [.lit (.string t2)])))::(nregs,regsD)::r) W)
 (hS:W.ShapedOpen Tryz.prog):Gl W:=by
 subst h2 h3 hn1;have hrow: ∀u,Tryz.prog.typeName? 3 u=some nm→u=296:=fun u hu=>typeName_ptr_named (nm:= "errors.errorString") (by kernel_rfl) (by kernel_rfl) (by decide) u (by rw[hu,hnm])
 obtain⟨a0,s0,hv0, -⟩:=laid_sentinel hL.tail.tail.tail.tail (g:=3) (ti:=98) (by kernel_rfl) (by kernel_rfl) Tryz.underlying98 hrow Tryz.underlying296 Tryz.underlying298 rfl rfl Tryz.underlying9 (by kernel_rfl) (by kernel_rfl);obtain⟨a1,s1,hv1, -⟩:=laid_sentinel hL.tail.tail.tail.tail.tail (g:=2) (ti:=98) (by kernel_rfl) (by kernel_rfl) Tryz.underlying98 hrow Tryz.underlying296 Tryz.underlying298 rfl rfl Tryz.underlying9 (by kernel_rfl) (by kernel_rfl);refine⟨?_,Tryz.m146.s1_3 W hS,⟨_,_,hv1⟩,⟨_,_,hv0⟩,fun k hk=>?_⟩
 ·exact Lib.tabIs_of_head h1 (t:=278) (e:=244) (n:=20) (by kernel_rfl) Tryz.underlying278 Tryz.underlying244 (by kernel_rfl) (by kernel_rfl) hL.tail.tail
 ·obtain⟨g,t,cs,fuel,p,hg,hty,hvar,hd⟩:=Lib.laidMet.reads hL.tail.tail.tail.tail.tail.tail (List.Mem.head _)
  obtain rfl:=Option.some.inj (h4.symm.trans hg);obtain rfl:208=t:=Option.some.inj ((show(Tryz.prog.globals[0]?).map (·.type)=some 208 by kernel_rfl).symm.trans hty);unfold regsD at hd;obtain⟨f',d,q,hdi,he⟩:=Lib.array_elem (n:=15) Tryz.underlying208 hd k hk;have h1:Tryz.prog.cellsOf 9=1:=by kernel_rfl
  rw[h1,Nat.mul_one]at he
  have hlen:k<cs.toList.length:=by
   rcases Nat.lt_or_ge k cs.toList.length with h|h
   ·exact h
   ·rw[List.drop_eq_nil_of_le h]at he
    cases f' with
    |zero=>simp[DataW.trod]at he
    |succ f'=>simp[DataW.trod,Tryz.underlying9]at he
  rw[List.drop_eq_getElem_cons hlen,List.take_succ_cons,List.take_zero]at he;obtain⟨s,hs,h3, -⟩:=DataW.trod_string Tryz.underlying9 he;have:=World.var?_cell hg hvar k;rw[this,<-Array.getElem?_toList,List.getElem?_eq_getElem hlen];simp only[List.cons.injEq,and_true]at hs;simp only[Prod.mk.injEq]at h3;rw[hs];rw[h3.1,List.getElem?_map]at hdi
  have hn:namesX[k]? =some s.data.toList:=by
   cases h:namesX[k]? with
   |none=>rw[h]at hdi;cases hdi
   |some y=>rw[h]at hdi;simp at hdi;rw[hdi]
  have:regX k=s.data.toList:=by unfold regX;rw[List.getD_eq_getElem?_getD,hn];rfl
  rw[this];simp[tx]
end Go.Proofs.YtkbbgjloifmmbaaGreatDoor
namespace Go.Proofs.YtkbbgjloifmmbaaGreatDoor
open Go.RowKit
theorem run_ix(l:Tx)(k:Nat)(c:UInt8)(hk:l[k]? =some c): ∀w,(Instr.index 9 (.string (tx l)) (.int .i64 k)).run Tryz.prog w= .ok (.int .u8 c.toNat) w:=by
 intro w;obtain⟨hlt,rfl⟩:=List.getElem?_eq_some_iff.1 hk;have h1:=Tryz.underlying9;have hs:=tx_size l;simp[Instr.index,asIntOf,run_underlying h1,hs,hlt];rfl
theorem run_ixz(l:Tx)(c:UInt8)(hk:l[0]? =some c): ∀w,(Instr.index 9 (.string (tx l)) (.int .i64 0)).run Tryz.prog w= .ok (.int .u8 c.toNat) w:=run_ix l 0 c hk
theorem u8_ne(c d:UInt8)(h:c≠d):((c.toNat:Int) != (d.toNat:Int))=true:=by
 simp only[bne_iff_ne,ne_eq];intro e;exact h (UInt8.toNat_inj.1 (by omega))
theorem u8_beq(c d:UInt8):(c==d)=((c.toNat:Int)==(d.toNat:Int)):=by
 rw[Bool.eq_iff_iff];simp only[beq_iff_eq];exact⟨fun h=>by rw[h],fun e=>UInt8.toNat_inj.1 (by omega)⟩
theorem nameB_cons(c:UInt8)(r:Tx):nameB (c::r)=(decide (r.length<32)&&letterC c&&r.all nameC):=rfl
theorem nameB_step{l:Tx}{k:Nat}{c:UInt8}(h:l[k]? =some c)(hn:nameC c=false):nameB l=false:=by
 have hm:c∈l:=List.mem_of_getElem? h;cases l with
 |nil=>rfl
 | cons d r=>
   rw[nameB_cons];rcases List.mem_cons.1 hm with rfl|hm
   ·have:letterC c=false:=by unfold nameC at hn;simp at hn;exact hn.1.1
    rw[this];simp
   ·have:r.all nameC=false:=by simp only[List.all_eq_false];exact⟨c,hm,by rw[hn];simp⟩
    rw[this];simp
theorem nameB_done{c:UInt8}{r:Tx}(hl:r.length<32)(hc:letterC c=true)(h: ∀(i:Nat) (x:UInt8),(c::r)[i]? =some x->nameC x=true):nameB (c::r)=true:=by
 rw[nameB_cons,hc,decide_eq_true hl];simp only[Bool.and_self,Bool.true_and,List.all_eq_true];intro x hx;obtain⟨i,hi,rfl⟩:=List.mem_iff_getElem.1 hx;exact h (i+1) _ (by simp[hi])
theorem letterX_nat(c:UInt8):letterC c=((decide (97<=c.toNat)&&decide (c.toNat<=122))||(decide (65<=c.toNat)&&decide (c.toNat<=90))):=by
 unfold letterC;simp only[UInt8.le_iff_toNat_le];rfl
theorem digitX_nat(c:UInt8):digitC c=(decide (48<=c.toNat)&&decide (c.toNat<=57)):=by
 unfold digitC;simp only[UInt8.le_iff_toNat_le];rfl
theorem nameX_nat(c:UInt8):nameC c=(letterC c||digitC c||decide (c.toNat=95)):=by
 unfold nameC;congr 1;rw[Bool.eq_iff_iff];simp only[beq_iff_eq,decide_eq_true_eq];exact⟨fun h=>by rw[h];rfl,fun h=>UInt8.toNat_inj.1 h⟩
abbrev Bv(b:Bool)(w:World)(e:Ending)(w':World):Prop:=e= .returned (.bool b)/\w=w'
abbrev UF(p:UInt8->Bool)(F:Nat):Prop:= ∀(c:UInt8) (w:World),Calls Tryz.prog F #[.int .u8 c.toNat] w (Bv (p c) w)
abbrev NFn(p:Int->Bool)(F:Nat):Prop:= ∀(n:Int) (w:World),Calls Tryz.prog F #[.int .i64 n] w (Bv (p n) w)
abbrev SF(p:Tx->Bool)(F:Nat):Prop:= ∀l:Tx,l.length<=9223372036854775807-> ∀w:World,Calls Tryz.prog F #[.string (tx l)] w (Bv (p l) w)
theorem regsF(n:Int)(F:Nat)(hF:F∈[181,191])(w:World):Calls Tryz.prog F #[.int .i64 n] w (Bv (regB n) w):=by
 have hp:n<0\/(0<=n/\n<=31)\/32<=n:=by omega
 simp only[List.mem_cons,List.not_mem_nil,or_false]at hF;rcases hF with rfl|rfl
 (focus go_enter Tryz.func181,Tryz.ntmps181);rotate_left;(focus go_enter Tryz.func191,Tryz.ntmps191);rotate_left
 all_goals
  rcases hp with h|⟨h,h'⟩|h
  all_goals
   go_wp2
   go_ret;exact⟨ret_bool (by unfold regB;rw[Bool.eq_iff_iff];simp<;>omega),rfl⟩
theorem regsXF(n:Int)(F:Nat)(hF:F∈[179,333])(w:World):Calls Tryz.prog F #[.int .i64 n] w (Bv (regXB n) w):=by
 have hp:n<0\/(0<=n/\n<15)\/15<=n:=by omega
 simp only[List.mem_cons,List.not_mem_nil,or_false]at hF;rcases hF with rfl|rfl
 (focus go_enter Tryz.func179,Tryz.ntmps179);rotate_left;(focus go_enter Tryz.func333,Tryz.ntmps333);rotate_left
 all_goals
  rcases hp with h|⟨h,h'⟩|h
  all_goals
   go_wp2
   go_ret;exact⟨ret_bool (by unfold regXB;rw[Bool.eq_iff_iff];simp<;>omega),rfl⟩
theorem numsF(n:Int)(F:Nat)(hF:F∈[178,226,279,201,309,256])(w:World):Calls Tryz.prog F #[.int .i64 n] w (Bv (n32B n) w):=by
 have hp:n< -2147483648\/(-2147483648<=n/\n<=2147483647)\/2147483647<n:=by omega
 simp only[List.mem_cons,List.not_mem_nil,or_false]at hF;rcases hF with rfl|rfl|rfl|rfl|rfl|rfl
 (focus go_enter Tryz.func178,Tryz.ntmps178);rotate_left;(focus go_enter Tryz.func226,Tryz.ntmps226);rotate_left;(focus go_enter Tryz.func279,Tryz.ntmps279);rotate_left;(focus go_enter Tryz.func201,Tryz.ntmps201);rotate_left;(focus go_enter Tryz.func309,Tryz.ntmps309);rotate_left;(focus go_enter Tryz.func256,Tryz.ntmps256);rotate_left
 all_goals
  rcases hp with h|⟨h,h'⟩|h
  all_goals
   go_wp2
   go_ret;exact⟨ret_bool (by unfold n32B;rw[Bool.eq_iff_iff];simp<;>omega),rfl⟩
theorem lettersF(c:UInt8)(F:Nat)(hF:F∈[305,254,297,204,307,114])(w:World):Calls Tryz.prog F #[.int .u8 c.toNat] w (Bv (letterC c) w):=by
 have hlt:c.toNat<256:=c.toNat_lt;rw[letterX_nat];generalize c.toNat=n at*;have hp:n<65\/(65<=n/\n<=90)\/(91<=n/\n<=96)\/(97<=n/\n<=122)\/123<=n:=by omega
 simp only[List.mem_cons,List.not_mem_nil,or_false]at hF;rcases hF with rfl|rfl|rfl|rfl|rfl|rfl
 (focus go_enter Tryz.func305,Tryz.ntmps305);rotate_left;(focus go_enter Tryz.func254,Tryz.ntmps254);rotate_left;(focus go_enter Tryz.func297,Tryz.ntmps297);rotate_left;(focus go_enter Tryz.func204,Tryz.ntmps204);rotate_left;(focus go_enter Tryz.func307,Tryz.ntmps307);rotate_left;(focus go_enter Tryz.func114,Tryz.ntmps114);rotate_left
 all_goals
  rcases hp with h|⟨h,h'⟩|⟨h,h'⟩|⟨h,h'⟩|h
  all_goals
   go_wp2
   go_ret;exact⟨ret_bool (by first|(rw[Bool.eq_iff_iff];simp<;>omega)|(simp<;>omega)),rfl⟩
theorem digitsF(c:UInt8)(F:Nat)(hF:F∈[306,255,298,200,308,115])(w:World):Calls Tryz.prog F #[.int .u8 c.toNat] w (Bv (digitC c) w):=by
 have hlt:c.toNat<256:=c.toNat_lt;rw[digitX_nat];generalize c.toNat=n at*;have hp:n<48\/(48<=n/\n<=57)\/58<=n:=by omega
 simp only[List.mem_cons,List.not_mem_nil,or_false]at hF;rcases hF with rfl|rfl|rfl|rfl|rfl|rfl
 (focus go_enter Tryz.func306,Tryz.ntmps306);rotate_left;(focus go_enter Tryz.func255,Tryz.ntmps255);rotate_left;(focus go_enter Tryz.func298,Tryz.ntmps298);rotate_left;(focus go_enter Tryz.func200,Tryz.ntmps200);rotate_left;(focus go_enter Tryz.func308,Tryz.ntmps308);rotate_left;(focus go_enter Tryz.func115,Tryz.ntmps115);rotate_left
 all_goals
  rcases hp with h|⟨h,h'⟩|h
  all_goals
   go_wp2
   go_ret;exact⟨ret_bool (by first|(rw[Bool.eq_iff_iff];simp<;>omega)|(simp<;>omega)),rfl⟩
theorem blanksF(c:UInt8)(F:Nat)(hF:F∈[101,108,234,186,85])(w:World):Calls Tryz.prog F #[.int .u8 c.toNat] w (Bv (blankC c) w):=by
 have hb:blankC c=(((c.toNat:Int)==32)||((c.toNat:Int)==9)||((c.toNat:Int)==10)||((c.toNat:Int)==13)):=by
  unfold blankC;rw[u8_beq,u8_beq,u8_beq,u8_beq];rfl
 rw[hb];clear hb;generalize c.toNat=n at*;have hp:n=32\/n=9\/n=10\/n=13\/n≠32/\n≠9/\n≠10/\n≠13:=by omega
 simp only[List.mem_cons,List.not_mem_nil,or_false]at hF;rcases hF with rfl|rfl|rfl|rfl|rfl
 (focus go_enter Tryz.func101,Tryz.ntmps101);rotate_left;(focus go_enter Tryz.func108,Tryz.ntmps108);rotate_left;(focus go_enter Tryz.func234,Tryz.ntmps234);rotate_left;(focus go_enter Tryz.func186,Tryz.ntmps186);rotate_left;(focus go_enter Tryz.func85,Tryz.ntmps85);rotate_left
 all_goals
  rcases hp with rfl|rfl|rfl|rfl|⟨h1,h2,h3,h4⟩
  rotate_left 4
  ·have z1:((n:Int)==32)=false:=by simp;omega
   have z2:((n:Int)==9)=false:=by simp;omega
   have z3:((n:Int)==10)=false:=by simp;omega
   have z4:((n:Int)==13)=false:=by simp;omega
   clear h1 h2 h3 h4;rw[z1,z2,z3,z4]
   go_wp2
   go_ret;exact⟨rfl,rfl⟩
  all_goals
   go_wp2
   go_ret;exact⟨rfl,rfl⟩
def NmI(c:UInt8)(r:Tx)(n:Nat)(i:Value):Prop:= ∃k:Nat,k<=n/\i= .int .i64 k/\Hid (∀(i:Nat) (x:UInt8),i<k->(c::r)[i]? =some x->nameC x=true)
theorem NmI.one{c:UInt8}{r:Tx}{n:Nat}(h:1<=n)(hc:letterC c=true):NmI c r n (.int .i64 1):=⟨1,h,rfl,fun i x hi hx=>by
 obtain rfl:i=0:=by omega
 cases hx;unfold nameC;rw[hc];rfl⟩
theorem NmI.zero{c:UInt8}{r:Tx}{n:Nat}:NmI c r n (.int .i64 0):=⟨0,Nat.zero_le _,rfl,fun i x hi=>absurd hi (Nat.not_lt_zero i)⟩
theorem namesF(l:Tx)(hl:l.length<=9223372036854775807)(F:Nat)(hF:F∈[249,322,52,252,118,190])(w:World):Calls Tryz.prog F #[.string (tx l)] w (Bv (nameB l) w):=by
 simp only[List.mem_cons,List.not_mem_nil,or_false]at hF;rcases hF with rfl|rfl|rfl|rfl|rfl|rfl
 (focus go_enter Tryz.func249,Tryz.ntmps249);rotate_left;(focus go_enter Tryz.func322,Tryz.ntmps322);rotate_left;(focus go_enter Tryz.func52,Tryz.ntmps52);rotate_left;(focus go_enter Tryz.func252,Tryz.ntmps252);rotate_left;(focus go_enter Tryz.func118,Tryz.ntmps118);rotate_left;(focus go_enter Tryz.func190,Tryz.ntmps190);rotate_left
 all_goals
  have hs:=tx_size l;rcases l with _|⟨c,r⟩
  ·have hs:(tx []).size=0:=rfl
   go_wp2_with fail;go_ret;exact⟨rfl,rfl⟩
  obtain⟨n,hn⟩: ∃n,(tx (c::r)).size=n:=⟨_,rfl⟩;have hn1:1<=n:=by rw[<-hn,hs];simp
  have hnr:n=r.length+1:=by rw[<-hn,hs];simp
  have hz:((n:Int)==0)=false:=by simp;omega
  have i0:=run_ixz (c::r) c rfl;clear hs hl
  by_cases h32: ¬n<=32
  ·have HF:=hid (show nameB (c::r)=false by rw[nameB_cons,decide_eq_false (by omega)];simp)
   clear hnr;go_wp2_with fail;go_ret;exact⟨ret_bool HF.out.symm,rfl⟩
  have h32:n<=32:=by omega
  have HR:=hid hnr;clear hnr;cases hc:letterC c
  ·have HC:=hid hc
   have HF:=hid (show nameB (c::r)=false by rw[nameB_cons,hc];simp);clear hc
   go_wp2_with ((with_reducible refine(lettersF c _ (by decide) _).mono ?_);rintro e w' ⟨rfl,rfl⟩;rw[HC.out])
   go_ret;exact⟨ret_bool HF.out.symm,rfl⟩
  have HC:=hid hc;clear hc
  go_wp2_with ((with_reducible refine(lettersF c _ (by decide) _).mono ?_);rintro e w' ⟨rfl,rfl⟩;rw[HC.out])
  first
   |(go_loop [21] (NmI c r n) (fun i=>n-(intOf i).toNat)
     case atStart=>exact NmI.zero)
   |(go_loop [3] (NmI c r n) (fun i=>n-(intOf i).toNat)
     case atStart=>first|exact NmI.zero|exact NmI.one hn1 HC.out)
  case round=>
   obtain⟨k,hk,rfl,HM⟩:=hrel
   by_cases hlt:k<n
   ·obtain⟨x,hx⟩: ∃x,(c::r)[k]? =some x:=⟨_,List.getElem?_eq_getElem (by have:=HR.out;simp;omega)⟩
    have ix:=run_ix (c::r) k x hx;have HX:=hid hx
    have HM2:=hid (show nameC x=true->NmI c r n (.int .i64 ((k:Int)+1))from fun hx'=>⟨k+1,hlt,by congr 1,fun i y hi hy=>by
     rcases Nat.lt_succ_iff_lt_or_eq.1 hi with h|h
     ·exact HM.out i y h hy
     ·subst h;rw[HX.out]at hy;cases hy;exact hx'⟩)
    have h123:letterC x=true\/letterC x=false/\digitC x=true\/letterC x=false/\digitC x=false:=by cases letterC x<;>cases digitC x<;>simp
    clear hx;rcases h123 with h1|⟨h1,h2⟩|⟨h1,h2⟩
    rotate_left 2
    by_cases h3:x=95
    rotate_left
    ·have z3:((x.toNat:Int) != 95)=true:=u8_ne x 95 h3
     have HF:=hid (nameB_step HX.out (by unfold nameC;rw[h1,h2];simpa using h3));have H1:=hid h1;have H2:=hid h2;clear h1 h2 h3
     go_wp2_with (first|((with_reducible refine(lettersF x _ (by decide) _).mono ?_);rintro e w' ⟨rfl,rfl⟩;rw[H1.out])|((with_reducible refine(digitsF x _ (by decide) _).mono ?_);rintro e w' ⟨rfl,rfl⟩;rw[H2.out]))
     go_ret;exact⟨ret_bool HF.out.symm,rfl⟩
    all_goals
     have HN:=hid (HM2.out (by unfold nameC;first|(rw[h3];rfl)|(rw[h1,h2];rfl)|(rw[h1];rfl)));have H1:=hid h1;clear h1
     (try(have H2:=hid h2
          clear h2))
     (try(have z3:((x.toNat:Int) != 95)=false:=by rw[h3];rfl
          clear h3))
     go_wp2_with (first|((with_reducible refine(lettersF x _ (by decide) _).mono ?_);rintro e w' ⟨rfl,rfl⟩;rw[H1.out])|((with_reducible refine(digitsF x _ (by decide) _).mono ?_);rintro e w' ⟨rfl,rfl⟩;rw[H2.out]))
     go_round
     case rel=>exact HN.out
     case measure=>simp[intOf];omega
   ·have HF:=hid (nameB_done (c:=c) (r:=r) (by have:=HR.out;omega) HC.out (fun i x hi=>HM.out i x (by
     have h1:=(List.getElem?_eq_some_iff.1 hi).1;have:=HR.out;simp at h1;omega) hi))
    go_wp2_with fail;go_ret;exact⟨ret_bool HF.out.symm,rfl⟩
theorem progReg0:NFn regB 181:=fun c=>regsF c _ (by decide)
theorem decN_len(n:Nat):(decN n).length<=4:=by unfold decN;split<;>(try split)<;>(try split)<;>simp
theorem cat_x(n:Nat): ∀w,(Op.stringOp .add ⟨#[120]⟩ (tx (decN n))).run Tryz.prog w= .ok (.string (tx (regT n))) w:=run_cat [120] (decN n) (by have:=decN_len n;simp;omega)
theorem progReg(n:Nat)(h:n<32)(w:World):Calls Tryz.prog 123 #[.int .i64 n] w fun e w'=>e= .returned (.tuple #[.string (tx (regT n)),.int .i64 0])/\w=w':=by
 have hr:=regB_of h;have cx:=cat_x n;go_enter Tryz.func123,Tryz.ntmps123
 go_wp2_with (go_at_call 181;refine(progReg0 _ _).mono ?_;rintro e w' ⟨rfl,rfl⟩;rw[hr])
 refine(itoa_small n (by omega) _).mono ?_;rintro e w' ⟨rfl,rfl⟩;go_wp2_with fail
 go_ret2
 exact⟨rfl,rfl⟩
def regN(s:Tx):Int:=match regOf s with
 |some n=>n
 |none=>0
def regE(s:Tx):Int:=match regOf s with
 |some _=>0
 |none=>90
theorem regOf_hit{s:Tx}{n:Nat}(h:n<32)(e:regT n=s):regN s=n/\regE s=0:=by
 subst e;unfold regN regE;rw[regOf_regT h];exact⟨rfl,rfl⟩
theorem regOf_miss{s:Tx}(h: ∀m,m<32->regT m≠s):regN s=0/\regE s=90:=by
 unfold regN regE;cases hr:regOf s with
 |none=>exact⟨rfl,rfl⟩
 |some n=>obtain⟨h1,h2⟩:=regOf_some hr;exact absurd h2.symm (h n h1)
theorem progRegOf(s:Tx)(w:World):Calls Tryz.prog 197 #[.string (tx s)] w fun e w'=>e= .returned (.tuple #[.int .i64 (regN s),.int .i64 (regE s)])/\w=w':=by
 go_enter Tryz.func197,Tryz.ntmps197;go_wp2_with fail
 go_loop [7] (fun i=> ∃k:Nat,k<=32/\i= .int .i64 k/\Hid (∀m,m<k->regT m≠s)) (fun i=>32-(intOf i).toNat)
 case atStart=>exact⟨0,by omega,rfl,fun m hm=>absurd hm (Nat.not_lt_zero m)⟩
 case round=>
  obtain⟨k,hk,rfl,HM⟩:=hrel
  by_cases hlt:k<32
  ·by_cases he:regT k=s
   ·have hz:((tx (regT k)).toList==(tx s).toList)=true:=by rw[tx_beq];simpa using he
    have HR:=hid (regOf_hit hlt he);clear he
    go_wp2_with (go_at_call 123;refine(progReg k hlt _).mono ?_;rintro e w' ⟨rfl,rfl⟩)
    go_ret2
    exact⟨ret_pair HR.out.1.symm HR.out.2.symm,rfl⟩
   ·have hz:((tx (regT k)).toList==(tx s).toList)=false:=tx_eq_false he
    have HM2:=hid (show ∀m,m<k+1->regT m≠s from fun m hm=>by
     rcases Nat.lt_succ_iff_lt_or_eq.1 hm with h|h
     ·exact HM.out m h
     ·subst h;exact he)
    clear he
    go_wp2_with (go_at_call 123;refine(progReg k hlt _).mono ?_;rintro e w' ⟨rfl,rfl⟩)
    go_round
    case rel=>exact⟨k+1,by omega,by go_num,HM2⟩
    case measure=>simp[intOf];omega
  ·obtain rfl:k=32:=by omega
   have HR:=hid (regOf_miss HM.out);go_wp2_with fail
   go_ret2
   exact⟨ret_pair HR.out.1.symm HR.out.2.symm,rfl⟩
theorem refRegOf(s:Tx)(w:World):Calls Tryz.prog 192 #[.string (tx s)] w fun e w'=>e= .returned (.tuple #[.int .i64 (regN s),.int .i64 (regE s)])/\w=w':=by
 go_enter Tryz.func192,Tryz.ntmps192;go_wp2_with fail
 go_loop [4] (fun i=> ∃k:Nat,k<=32/\i= .int .i64 k/\Hid (∀m,m<k->regT m≠s)) (fun i=>32-(intOf i).toNat)
 case atStart=>exact⟨0,by omega,rfl,fun m hm=>absurd hm (Nat.not_lt_zero m)⟩
 case round=>
  obtain⟨k,hk,rfl,HM⟩:=hrel
  by_cases hlt:k<32
  ·by_cases he:regT k=s
   ·have cx:=cat_x k
    have hz:((tx s).toList==(tx (regT k)).toList)=true:=by rw[tx_beq];simpa using he.symm
    have HR:=hid (regOf_hit hlt he);clear he;go_wp2_with fail;refine(itoa_small k (by omega) _).mono ?_;rintro e w' ⟨rfl,rfl⟩;go_wp2_with fail
    go_ret2
    exact⟨ret_pair HR.out.1.symm HR.out.2.symm,rfl⟩
   ·have cx:=cat_x k
    have hz:((tx s).toList==(tx (regT k)).toList)=false:=tx_eq_false (fun e=>he e.symm)
    have HM2:=hid (show ∀m,m<k+1->regT m≠s from fun m hm=>by
     rcases Nat.lt_succ_iff_lt_or_eq.1 hm with h|h
     ·exact HM.out m h
     ·subst h;exact he)
    clear he;go_wp2_with fail;refine(itoa_small k (by omega) _).mono ?_;rintro e w' ⟨rfl,rfl⟩;go_wp2_with fail
    go_round
    case rel=>exact⟨k+1,by omega,by go_num,HM2⟩
    case measure=>simp[intOf];omega
  ·obtain rfl:k=32:=by omega
   have HR:=hid (regOf_miss HM.out);go_wp2_with fail
   go_ret2
   exact⟨ret_pair HR.out.1.symm HR.out.2.symm,rfl⟩
theorem progNamed:SF nameB 249:=fun l hl=>namesF l hl _ (by decide)
def RetF(w:World)(op d a b imm:Int)(loc label:ByteArray)(fence:Int)(ok:Bool)(x:Ending)(w':World):Prop:=
 x= .returned (.tuple #[.agg #[.int .i64 op,.int .i64 d,.int .i64 a,.int .i64 b,.int .i64 imm,.string loc,.string label,.int .i64 fence],.bool ok])/\Below w.heap.size w w'
theorem progFields_lw(d a b imm:Int)(loc label:Tx)(fence:Int)(w:World):Calls Tryz.prog 180 #[vI ⟨6,d,a,b,imm,loc,label,fence⟩] w (RetF w 6 d a 0 0 ⟨#[]⟩ ⟨#[]⟩ 0 true):=by
 go_enter Tryz.func180,Tryz.ntmps180;go_wp2_with fail
 go_big_region
 go_wp2_with fail;exact bodyPost_ret (by simp[results,Tryz.results180,go_sem]) rfl ⟨rfl,blA⟩
theorem progFields_sw(d a b imm:Int)(loc label:Tx)(fence:Int)(w:World):Calls Tryz.prog 180 #[vI ⟨7,d,a,b,imm,loc,label,fence⟩] w (RetF w 7 0 a b 0 ⟨#[]⟩ ⟨#[]⟩ 0 true):=by
 go_enter Tryz.func180,Tryz.ntmps180;go_wp2_with fail
 go_big_region
 go_wp2_with fail;exact bodyPost_ret (by simp[results,Tryz.results180,go_sem]) rfl ⟨rfl,blA⟩
theorem progFields_ori_lo(d a b imm:Int)(loc label:Tx)(fence:Int)(h:imm< -2048)(w:World):Calls Tryz.prog 180 #[vI ⟨8,d,a,b,imm,loc,label,fence⟩] w (RetF w 8 d a 0 imm ⟨#[]⟩ ⟨#[]⟩ 0 false):=by
 have z1:decide (-2048<=imm)=false:=by simp;omega
 go_enter Tryz.func180,Tryz.ntmps180;go_wp2_with fail
 go_big_region
 go_wp2_with fail
 go_big_region
 go_wp2_with fail;exact bodyPost_ret (by simp[results,Tryz.results180,go_sem]) rfl ⟨rfl,blA⟩
theorem progFields_ori_in(d a b imm:Int)(loc label:Tx)(fence:Int)(h1: -2048<=imm)(h2:imm<=2047)(w:World):Calls Tryz.prog 180 #[vI ⟨8,d,a,b,imm,loc,label,fence⟩] w (RetF w 8 d a 0 imm ⟨#[]⟩ ⟨#[]⟩ 0 true):=by
 have z1:decide (-2048<=imm)=true:=by simp;omega
 have z2:decide (imm<=2047)=true:=by simp;omega
 go_enter Tryz.func180,Tryz.ntmps180;go_wp2_with fail
 go_big_region
 go_wp2_with fail
 go_big_region
 go_wp2_with fail;exact bodyPost_ret (by simp[results,Tryz.results180,go_sem]) rfl ⟨rfl,blA⟩
theorem progFields_ori_hi(d a b imm:Int)(loc label:Tx)(fence:Int)(h:2047<imm)(w:World):Calls Tryz.prog 180 #[vI ⟨8,d,a,b,imm,loc,label,fence⟩] w (RetF w 8 d a 0 imm ⟨#[]⟩ ⟨#[]⟩ 0 false):=by
 have z1:decide (-2048<=imm)=true:=by simp;omega
 have z2:decide (imm<=2047)=false:=by simp;omega
 go_enter Tryz.func180,Tryz.ntmps180;go_wp2_with fail
 go_big_region
 go_wp2_with fail
 go_big_region
 go_wp2_with fail;exact bodyPost_ret (by simp[results,Tryz.results180,go_sem]) rfl ⟨rfl,blA⟩
theorem progFields_xor(d a b imm:Int)(loc label:Tx)(fence:Int)(w:World):Calls Tryz.prog 180 #[vI ⟨9,d,a,b,imm,loc,label,fence⟩] w (RetF w 9 d a b 0 ⟨#[]⟩ ⟨#[]⟩ 0 true):=by
 go_enter Tryz.func180,Tryz.ntmps180;go_wp2_with fail
 go_big_region
 go_wp2_with fail;exact bodyPost_ret (by simp[results,Tryz.results180,go_sem]) rfl ⟨rfl,blA⟩
theorem progFields_add(d a b imm:Int)(loc label:Tx)(fence:Int)(w:World):Calls Tryz.prog 180 #[vI ⟨10,d,a,b,imm,loc,label,fence⟩] w (RetF w 10 d a b 0 ⟨#[]⟩ ⟨#[]⟩ 0 true):=by
 go_enter Tryz.func180,Tryz.ntmps180;go_wp2_with fail
 go_big_region
 go_wp2_with fail;exact bodyPost_ret (by simp[results,Tryz.results180,go_sem]) rfl ⟨rfl,blA⟩
theorem progFields_fence_lo(d a b imm:Int)(loc label:Tx)(fence:Int)(h:fence<2)(w:World):Calls Tryz.prog 180 #[vI ⟨13,d,a,b,imm,loc,label,fence⟩] w (RetF w 13 0 0 0 0 ⟨#[]⟩ ⟨#[]⟩ fence false):=by
 have z1:decide (2<=fence)=false:=by simp;omega
 go_enter Tryz.func180,Tryz.ntmps180;go_wp2_with fail
 go_big_region
 go_wp2_with fail;exact bodyPost_ret (by simp[results,Tryz.results180,go_sem]) rfl ⟨rfl,blA⟩
theorem progFields_fence_in(d a b imm:Int)(loc label:Tx)(fence:Int)(h1:2<=fence)(h2:fence<=11)(w:World):Calls Tryz.prog 180 #[vI ⟨13,d,a,b,imm,loc,label,fence⟩] w (RetF w 13 0 0 0 0 ⟨#[]⟩ ⟨#[]⟩ fence true):=by
 have z1:decide (2<=fence)=true:=by simp;omega
 have z2:decide (fence<=11)=true:=by simp;omega
 go_enter Tryz.func180,Tryz.ntmps180;go_wp2_with fail
 go_big_region
 go_wp2_with fail;exact bodyPost_ret (by simp[results,Tryz.results180,go_sem]) rfl ⟨rfl,blA⟩
theorem progFields_fence_hi(d a b imm:Int)(loc label:Tx)(fence:Int)(h:11<fence)(w:World):Calls Tryz.prog 180 #[vI ⟨13,d,a,b,imm,loc,label,fence⟩] w (RetF w 13 0 0 0 0 ⟨#[]⟩ ⟨#[]⟩ fence false):=by
 have z1:decide (2<=fence)=true:=by simp;omega
 have z2:decide (fence<=11)=false:=by simp;omega
 go_enter Tryz.func180,Tryz.ntmps180;go_wp2_with fail
 go_big_region
 go_wp2_with fail;exact bodyPost_ret (by simp[results,Tryz.results180,go_sem]) rfl ⟨rfl,blA⟩
theorem progFields_no(op d a b imm:Int)(loc label:Tx)(fence:Int)(h:op<6\/13<op)(w:World):Calls Tryz.prog 180 #[vI ⟨op,d,a,b,imm,loc,label,fence⟩] w (RetF w op 0 0 0 0 ⟨#[]⟩ ⟨#[]⟩ 0 false):=by
 have z6:(op==6)=false:=by simp;omega
 have z7:(op==7)=false:=by simp;omega
 have z8:(op==8)=false:=by simp;omega
 have z9:(op==9)=false:=by simp;omega
 have z10:(op==10)=false:=by simp;omega
 have z11:(op==11)=false:=by simp;omega
 have z12:(op==12)=false:=by simp;omega
 have z13:(op==13)=false:=by simp;omega
 go_enter Tryz.func180,Tryz.ntmps180;go_wp2_with fail;exact bodyPost_ret (by simp[results,Tryz.results180,go_sem]) rfl ⟨rfl,blA⟩
theorem progFields_bne(d a b imm:Int)(loc label:Tx)(fence:Int)(hl:label.length<=9223372036854775807)(w:World):Calls Tryz.prog 180 #[vI ⟨11,d,a,b,imm,loc,label,fence⟩] w (RetF w 11 0 a b 0 ⟨#[]⟩ (tx label) 0 (nameB label)):=by
 go_enter Tryz.func180,Tryz.ntmps180;go_wp2_with fail
 go_big_region
 go_wp2_with fail
 go_region_with (go_at_call 249;refine(progNamed label hl _).mono ?_;rintro e' w' ⟨rfl,rfl⟩)
 all_goals
  go_wp2_with fail;exact bodyPost_ret (by simp[results,Tryz.results180,go_sem]) rfl ⟨rfl,blA⟩
theorem progFields_label(d a b imm:Int)(loc label:Tx)(fence:Int)(hl:label.length<=9223372036854775807)(w:World):Calls Tryz.prog 180 #[vI ⟨12,d,a,b,imm,loc,label,fence⟩] w (RetF w 12 0 0 0 0 ⟨#[]⟩ (tx label) 0 (nameB label)):=by
 go_enter Tryz.func180,Tryz.ntmps180;go_wp2_with fail
 go_region_with (go_at_call 249;refine(progNamed label hl _).mono ?_;rintro e' w' ⟨rfl,rfl⟩)
 all_goals
  go_wp2_with fail;exact bodyPost_ret (by simp[results,Tryz.results180,go_sem]) rfl ⟨rfl,blA⟩
theorem progFields(i:Ins)(hl:i.label.length<=9223372036854775807)(w:World):Calls Tryz.prog 180 #[vI i] w fun x w'=>x= .returned (.tuple #[vI (wantI i),.bool (okI i)])/\Below w.heap.size w w':=by
 obtain⟨op,d,a,b,imm,loc,label,fence⟩:=i
 by_cases h6:op=6
 ·subst h6;exact progFields_lw d a b imm loc label fence w
 by_cases h7:op=7
 ·subst h7;exact progFields_sw d a b imm loc label fence w
 by_cases h8:op=8
 ·subst h8
  have ho:okI ⟨8,d,a,b,imm,loc,label,fence⟩=(decide (-2048<=imm)&&decide (imm<=2047)):=rfl;rw[ho]
  by_cases h1:imm< -2048
  ·rw[show(decide (-2048<=imm)&&decide (imm<=2047))=false by simp;omega];exact progFields_ori_lo d a b imm loc label fence h1 w
  ·by_cases h2:imm<=2047
   ·rw[show(decide (-2048<=imm)&&decide (imm<=2047))=true by simp;omega];exact progFields_ori_in d a b imm loc label fence (by omega) h2 w
   ·rw[show(decide (-2048<=imm)&&decide (imm<=2047))=false by simp;omega];exact progFields_ori_hi d a b imm loc label fence (by omega) w
 by_cases h9:op=9
 ·subst h9;exact progFields_xor d a b imm loc label fence w
 by_cases h10:op=10
 ·subst h10;exact progFields_add d a b imm loc label fence w
 by_cases h11:op=11
 ·subst h11;exact progFields_bne d a b imm loc label fence hl w
 by_cases h12:op=12
 ·subst h12;exact progFields_label d a b imm loc label fence hl w
 by_cases h13:op=13
 ·subst h13
  have ho:okI ⟨13,d,a,b,imm,loc,label,fence⟩=(decide (2<=fence)&&decide (fence<=11)):=rfl;rw[ho]
  by_cases h1:fence<2
  ·rw[show(decide (2<=fence)&&decide (fence<=11))=false by simp;omega];exact progFields_fence_lo d a b imm loc label fence h1 w
  ·by_cases h2:fence<=11
   ·rw[show(decide (2<=fence)&&decide (fence<=11))=true by simp;omega];exact progFields_fence_in d a b imm loc label fence (by omega) h2 w
   ·rw[show(decide (2<=fence)&&decide (fence<=11))=false by simp;omega];exact progFields_fence_hi d a b imm loc label fence (by omega) w
 have hw:wantI ⟨op,d,a,b,imm,loc,label,fence⟩=⟨op,0,0,0,0,[],[],0⟩:=by
  unfold wantI;simp only;rw[if_neg h6,if_neg h7,if_neg h8,if_neg h9,if_neg h10,if_neg h11,if_neg h12,if_neg h13]
 have ho:okI ⟨op,d,a,b,imm,loc,label,fence⟩=false:=by
  unfold okI;simp only;rw[if_neg h8,if_neg (by omega),if_neg h13];simp;omega
 rw[hw,ho];exact progFields_no op d a b imm loc label fence (by omega) w
attribute [local go_sem high] eqI neqI
theorem errI_no{i:Ins}(h:checkI i=false):errI i=91:=by unfold errI;rw[h];rfl
theorem errI_yes{i:Ins}(h:checkI i=true):errI i=0:=by unfold errI;rw[h];rfl
theorem progCheck(i:Ins)(hl:i.label.length<=9223372036854775807)(w:World):Calls Tryz.prog 100 #[vI i] w (Ret w (.int .i64 (errI i))):=by
 have E1:=al w (mkI i);have b0:=BxI.new w i;obtain⟨wi,hwi⟩: ∃wi,wantI i=wi:=⟨_,rfl⟩;obtain⟨ok,hok⟩: ∃ok,okI i=ok:=⟨_,rfl⟩;have hc:checkI i=(ok&&decide (i=wi)&&regB i.d&&regB i.a&&regB i.b):=by unfold checkI;rw[hwi,hok]
 have PF:=hid (progFields i hl);have HF:=hid (show ∀w,Calls Tryz.prog 180 #[vI i] w fun x w'=>x= .returned (.tuple #[vI wi,.bool ok])/\Below w.heap.size w w' from by rw[<-hwi,<-hok];exact PF.out);clear hwi hok hl PF;cases ok
 ·have HE:=hid (errI_no (by rw[hc];rfl))
  clear hc;go_enter Tryz.func100,Tryz.ntmps100;go_wp2_with fail;refine(HF.out _).mono ?_;rintro x w1 ⟨rfl,E⟩;have B:=E1.trans (E.mono E1.size);go_wp2_with fail;go_ret;exact⟨ret_int HE.out.symm,blA⟩
 by_cases he:i=wi
 ·have hd:decide (wi=i)=true:=decide_eq_true he.symm
  have hd2:(!decide (wi=i))=false:=by rw[hd];rfl
  have hd3:decide (¬wi=i)=false:=by simpa using he.symm
  by_cases h1:regB i.d=true
  ·by_cases h2:regB i.a=true
   ·by_cases h3:regB i.b=true
    ·have HE:=hid (errI_yes (by rw[hc,h1,h2,h3,decide_eq_true he];rfl))
     have H1:=hid h1;have H2:=hid h2;have H3:=hid h3;clear hc he h1 h2 h3;go_enter Tryz.func100,Tryz.ntmps100;go_wp2_with fail;refine(HF.out _).mono ?_;rintro x w1 ⟨rfl,E⟩;have B:=E1.trans (E.mono E1.size);have b:=b0.below E;have hlt:=b.1;obtain⟨q0,q1,q2,q3,q4,q5,q6,q7⟩:=b.cells;clear b
     go_wp2_with (go_at_call 181;refine(progReg0 _ _).mono ?_;rintro e w' ⟨rfl,rfl⟩;(try rw[H1.out]);(try rw[H2.out]);(try rw[H3.out]))
     go_ret;exact⟨ret_int HE.out.symm,blA⟩
    ·have H1:=hid h1;have H2:=hid h2;have H3:=hid (Bool.eq_false_iff.2 h3)
     have HE:=hid (errI_no (by rw[hc,H3.out];simp));clear hc he h1 h2 h3;go_enter Tryz.func100,Tryz.ntmps100;go_wp2_with fail;refine(HF.out _).mono ?_;rintro x w1 ⟨rfl,E⟩;have B:=E1.trans (E.mono E1.size);have b:=b0.below E;have hlt:=b.1;obtain⟨q0,q1,q2,q3,q4,q5,q6,q7⟩:=b.cells;clear b
     go_wp2_with (go_at_call 181;refine(progReg0 _ _).mono ?_;rintro e w' ⟨rfl,rfl⟩;(try rw[H1.out]);(try rw[H2.out]);(try rw[H3.out]))
     go_ret;exact⟨ret_int HE.out.symm,blA⟩
   ·have H1:=hid h1;have H2:=hid (Bool.eq_false_iff.2 h2)
    have HE:=hid (errI_no (by rw[hc,H2.out];simp));clear hc he h1 h2;go_enter Tryz.func100,Tryz.ntmps100;go_wp2_with fail;refine(HF.out _).mono ?_;rintro x w1 ⟨rfl,E⟩;have B:=E1.trans (E.mono E1.size);have b:=b0.below E;have hlt:=b.1;obtain⟨q0,q1,q2,q3,q4,q5,q6,q7⟩:=b.cells;clear b
    go_wp2_with (go_at_call 181;refine(progReg0 _ _).mono ?_;rintro e w' ⟨rfl,rfl⟩;(try rw[H1.out]);(try rw[H2.out]))
    go_ret;exact⟨ret_int HE.out.symm,blA⟩
  ·have H1:=hid (Bool.eq_false_iff.2 h1)
   have HE:=hid (errI_no (by rw[hc,H1.out];simp));clear hc he h1;go_enter Tryz.func100,Tryz.ntmps100;go_wp2_with fail;refine(HF.out _).mono ?_;rintro x w1 ⟨rfl,E⟩;have B:=E1.trans (E.mono E1.size);have b:=b0.below E;have hlt:=b.1;obtain⟨q0,q1,q2,q3,q4,q5,q6,q7⟩:=b.cells;clear b
   go_wp2_with (go_at_call 181;refine(progReg0 _ _).mono ?_;rintro e w' ⟨rfl,rfl⟩;(try rw[H1.out]))
   go_ret;exact⟨ret_int HE.out.symm,blA⟩
 ·have hd:decide (wi=i)=false:=decide_eq_false (fun e=>he e.symm)
  have hd2:(!decide (wi=i))=true:=by rw[hd];rfl
  have hd3:decide (¬wi=i)=true:=by simpa using(fun e=>he (Eq.symm e))
  have HE:=hid (errI_no (by rw[hc,decide_eq_false he];simp));clear hc he;go_enter Tryz.func100,Tryz.ntmps100;go_wp2_with fail;refine(HF.out _).mono ?_;rintro x w1 ⟨rfl,E⟩;have B:=E1.trans (E.mono E1.size);have b:=b0.below E;have hlt:=b.1;obtain⟨q0,q1,q2,q3,q4,q5,q6,q7⟩:=b.cells;clear b
  go_wp2_with (go_at_call 181;refine(progReg0 _ _).mono ?_;rintro e w' ⟨rfl,rfl⟩)
  go_ret;exact⟨ret_int HE.out.symm,blA⟩
end Go.Proofs.YtkbbgjloifmmbaaGreatDoor

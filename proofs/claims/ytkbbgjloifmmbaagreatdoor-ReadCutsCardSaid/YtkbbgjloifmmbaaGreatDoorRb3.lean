/- What ReadBackP leans on, part 3. -/
import Derived.Test.YtkbbgjloifmmbaaGreatDoorRb2
import Derived.WalkSmall
import Derived.Laws.Concat
import Derived.Stop.LaidErr
import Derived.Lib.LaidTab
import Derived.Lib.LaidU8
import Derived.Lay
import Derived.MakeChecks
import Derived.ShapedOpen
import Derived.LaidOnce
import Derived.SevenTiedAt
import Derived.ChangeArms
import Derived.BigRegion
import Derived.StillTailTactics
import Derived.Deep.RegionWith
set_option linter.unusedVariables false
set_option maxRecDepth 100000
set_option maxHeartbeats 8000000
namespace Go.Proofs.YtkbbgjloifmmbaaGreatDoor
open _root_.Go.Proofs.Tryz
open _root_.List renaming not_mem_nil->an0,mem_cons->amY,getElem?_eq_some_iff->ano,getElem?_eq_getElem->amK
open _root_.Bool renaming eq_iff_iff->anW,eq_false_iff->aol
open _root_.Go.Value renaming string->aoM
open _root_.Nat renaming lt_succ_iff_lt_or_eq->an5
open _root_.Option.some renaming inj->aoX
open _root_.UInt8 renaming toNat_inj->apB,le_iff_toNat_le->ant
open _root_.Go.Lib renaming count->aoP,atoiAll->anv
open _root_.Go.OpenSpec renaming ofChange->apC
open _root_.Go.Instr renaming index->aor
open Go.RowKit Go.Sort
theorem YR(w:World)(k:Nat)(os:Array Obj):Below w.heap.size w (grow (w.drewN k) os):=
 ⟨rfl,rfl,rfl,by simp[grow],fun j hj=>by simp[grow,Array.getElem?_append,hj]⟩
noncomputable def EK:String:=(prog.globals.getD 4 default).name
structure Gl(w:World):Prop where
 pow:Lib.TabIs prog w EK .u64 Lib.pow10Tab
 maxLen: ∃m,w.cell? ⟨Tryz.Et.g 1,0,none⟩=some (.int .i64 m)
 syn: ∃tp p,w.var? prog "strconv.ErrSyntax" =some #[.iface tp p]
 KO: ∃tp p,w.var? prog "strconv.ErrRange" =some #[.iface tp p]
 regs: ∀k,k<15->w.cell? ⟨0,k,none⟩=some (.string (tx (aO k)))
theorem LJ{P:Program}{w:World}{n:String}{g:Nat}{cs:Array Value}(hg:P.globalNamed n=some g)(h:w.var? P n=some cs):g<w.heap.size:=by
 simp only[World.var?,hg,Option.bind_some]at h;rcases Nat.lt_or_ge g w.heap.size with h'|h'
 ·exact h'
 ·rw[Array.getElem?_eq_none h']at h;cases h
theorem Gl.below{w w':World}(h:Gl w)(hb:Below w.heap.size w w'):Gl w' where
 pow:=var?_below hb (by kernel_rfl:prog.globalNamed EK=some 4) (LJ (by kernel_rfl:prog.globalNamed EK=some 4) h.pow) h.pow
 maxLen:=by obtain⟨m,h2⟩:=h.maxLen;exact⟨m,by rw[hb.cell (gR h2)];exact h2⟩
 syn:=by
  have g3:prog.globalNamed "strconv.ErrSyntax" =some 2:=by kernel_rfl
  obtain⟨tp,p,h3⟩:=h.syn;exact⟨tp,p,var?_below hb g3 (LJ g3 h3) h3⟩
 KO:=by
  have g4:prog.globalNamed "strconv.ErrRange" =some 3:=by kernel_rfl
  obtain⟨tq,q,h4⟩:=h.KO;exact⟨tq,q,var?_below hb g4 (LJ g4 h4) h4⟩
 regs:=fun k hk=>by rw[hb.cell (gR (h.regs k hk))];exact h.regs k hk
theorem vR(n:Nat)(h:n<100)(w:World):Calls prog 57 #[.int .i64 n] w fun e w'=>e= .returned (.string (tx (cR n)))/\w=w':=by
 refine(Any.strconv_Itoa_small Tryz.adW n h w).mono fun e w' hh=>⟨?_,hh.2.symm⟩
 rw[hh.1,Hu (by omega)];rfl
theorem jV(n:Int)(h0: -9223372036854775808<=n)(h1:n<=9223372036854775807)(w:World)(g:Gl w):Calls prog 57 #[.int .i64 n] w (ax w (.string (tx (Lib.itoa n)))):=by
 refine(Any.strconv_Itoa Tryz.aex n h0 h1 w (Eq.mp (congrArg (fun s=>Lib.TabIs prog w s .u64 Lib.pow10Tab) (by kernel_rfl)) g.pow)).mono fun e w' hh=>?_
 obtain⟨he,k,os,rfl⟩:=hh;exact⟨he,YR w k os⟩
theorem uu(l:Tx)(hl:l.length<=9223372036854775807)(w:World):Calls prog 68 #[.string (tx l),.string ⟨#[32,9,10,13]⟩] w (ax w (.string (tx (ah l)))):=by
 refine(Any.strings_Trim_laid Tryz.RU (by kernel_rfl) (tx l) ⟨#[32,9,10,13]⟩ w (by rw[aP];exact hl) (by decide) (ascii_of_all (by decide))).mono fun e w' hh=>⟨?_,hh.2⟩
 rw[hh.1,gO];rfl
theorem BK(l:Tx)(c:UInt8)(hl:l.length<=9223372036854775807)(w:World):Calls prog 99 #[.string (tx l),.string ⟨#[c]⟩] w fun e w'=>e= .returned (.bool (l.getLast?==some c))/\w=w':=by
 refine(Any.strings_HasSuffix Tryz.adG (tx l) ⟨#[c]⟩ w (by rw[aP];exact hl)).mono fun e w' hh=>⟨?_,hh.2.symm⟩
 rw[hh.1,gO,show(⟨#[c]⟩:ByteArray).data.toList=[c]from rfl,abU]
theorem Q6(l:Tx)(w:World):Calls prog 78 #[.string (tx l),.int .u8 40] w fun e w'=>e= .returned (.int .i64 (Lib.indexByte l 40))/\w=w':=by
 refine(Any.strings_IndexByte Tryz.RS (tx l) 40 w).mono fun e w' hh=>⟨?_,hh.2.symm⟩
 rw[hh.1,gO];rfl
structure cP(w:World)(a:Option Addr)(l:List Tx):Prop where
 row:Row w a (l.map fun x=>aoM (tx x))
 len:l.length<=1000000000000000000
theorem cP.below{w w':World}{a:Option Addr}{l:List Tx}(h:cP w a l)(hb:Below w.heap.size w w'):cP w' a l:=⟨h.row.below hb,h.len⟩
theorem cP.cell{w:World}{a:Option Addr}{l:List Tx}(h:cP w a l)(k:Nat)(hk:k<l.length):w.cell? ⟨bk a,fo a+k,none⟩=some (.string (tx l[k])):=by
 have:=h.row.cell k (by simpa using hk);simpa[hk]using this
theorem l9:gQ prog 42 9 (.string ByteArray.empty) 1 16:=⟨underlying42,by kernel_rfl,rfl,by decide⟩
theorem cP.idx{w:World}{a:Option Addr}{l:List Tx}(h:cP w a l)(k:Nat)(hk:k<l.length):
 ∀c w',(Instr.indexAt 42 (.slice a l.length c) (.int .i64 k)).run prog w'= .ok (.pointer (some ⟨bk a,fo a+k,none⟩)) w':=by
 intro c;have:=sC (c:=c) (n:=l.length) (m:=1) h.row l9.j4 l9.cells l9.isSome (by simp) (by omega) k hk .i64;simpa using this
theorem ajV(l:Tx)(hl:l.length<=1000000)(w:World)(g:Gl w):Calls prog 79 #[.string (tx l),.string ⟨#[44]⟩] w fun e w'=> ∃a,e= .returned (.slice a (aD 44 l).length (aD 44 l).length)/\cP w' a (aD 44 l)/\Below w.heap.size w w':=by
 obtain⟨m,hm⟩:=g.maxLen;refine(Any.strings_Split { Tryz.Bm with } Tryz.Bm.i9 (tx l) ⟨#[44]⟩ m w (by rw[aP];omega) hm (by decide)).mono fun e w' hh=>?_
 obtain⟨he,rfl⟩:=hh;have hc:Lib.countB (tx l) ⟨#[44]⟩=aoP l [44]:=by unfold Lib.countB;rw[gO]
 have hd:=Lib.splitB_data ⟨#[44]⟩ 0 (aoP l [44]) (tx l);rw[gO,show(⟨#[44]⟩:ByteArray).data.toList=[44]from rfl,KY]at hd
 have hlen:aoP l [44]+1=(aD 44 l).length:=by
  rw[<-hd,List.length_map,Lib.splitB_all ⟨#[44]⟩ (by decide) 0 _ _ hc]
 have hmap:(Lib.splitB ⟨#[44]⟩ 0 (aoP l [44]) (tx l)).map aoM=(aD 44 l).map fun x=>aoM (tx x):=by
  rw[<-hd,List.map_map];refine List.map_congr_left fun x _=>?_
  simp[tx]
 rw[hc,hlen]at he;rw[hc,hmap];refine⟨some ⟨w.heap.size,0,none⟩,he,⟨⟨fun _=>rfl,fun i hi=>?_⟩,by have:=uh 44 l;omega⟩,(Below.refl _ _).alloc (Nat.le_refl _) _⟩;have hh:=heap_alloc_new w (.cells ((aD 44 l).map fun x=>aoM (tx x)).toArray (Tryz.Et.t 9));simp only[World.cell?,fk,gb];rw[hh];simp
theorem Dj(l:Tx)(hl:l.length<=1000000)(v:Int)(h:anv l= .ok v)(w:World):Calls prog 113 #[.string (tx l)] w (ax w (.tuple #[.int .i64 v,.nilIface])):=by
 refine(Any.strconv_Atoi_ok Tryz.GO (tx l) (by rw[aP];omega) v (by rw[gO];exact h) w).mono fun e w' hh=>⟨hh.1,?_⟩
 rcases hh.2 with rfl|⟨t,rfl⟩
 ·exact Below.refl _ _
 ·exact Lib.bytesWorld_below _ _ _
theorem Di(l:Tx)(hl:l.length<=1000000)(h: ∀v,anv l≠ .ok v)(w:World)(g:Gl w):Calls prog 113 #[.string (tx l)] w fun e w'=> ∃n tp p,e= .returned (.tuple #[.int .i64 n,.iface tp p])/\Below w.heap.size w w':=by
 obtain⟨tp,p,hs⟩:=g.syn;obtain⟨tq,q,hr⟩:=g.KO;rcases ha:anv l with v|_|_
 ·exact absurd ha (h v)
 ·refine(Any.strconv_Atoi_syntax_var Tryz.GO (tx l) (by rw[aP];omega) (by rw[gO];exact ha) tp p w hs).mono fun e w' hh=>?_
  obtain⟨N,he,-, -, hb⟩:=hh;exact⟨_,_,_,he,hb⟩
 ·refine(Any.strconv_Atoi_range_var Tryz.GO (tx l) (by rw[aP];omega) (by rw[gO];exact ha) tq q w hr).mono fun e w' hh=>?_
  obtain⟨N,he,-, -, hb⟩:=hh;exact⟨_,_,_,he,hb⟩
theorem cQ(a b:Tx)(h:a.length+b.length<=9223372036854775807): ∀w,(Op.stringOp .add (tx a) (tx b)).run prog w= .ok (.string (tx (a++b))) w:=fun w=>by
 rw[run_string_add_sum w _ _ (by rw[aP,aP];exact h),ak2]
end Go.Proofs.YtkbbgjloifmmbaaGreatDoor
namespace Go.Proofs.YtkbbgjloifmmbaaGreatDoor
open _root_.Go.Proofs.Tryz
open _root_.List renaming not_mem_nil->an0,mem_cons->amY,getElem?_eq_some_iff->ano,getElem?_eq_getElem->amK
open _root_.Bool renaming eq_iff_iff->anW,eq_false_iff->aol
open _root_.Go.Value renaming string->aoM
open _root_.Nat renaming lt_succ_iff_lt_or_eq->an5
open _root_.Option.some renaming inj->aoX
open _root_.UInt8 renaming toNat_inj->apB,le_iff_toNat_le->ant
open _root_.Go.Lib renaming count->aoP,atoiAll->anv
open _root_.Go.OpenSpec renaming ofChange->apC
open _root_.Go.Instr renaming index->aor
open Go.RowKit Go.ChangeShapes
theorem alC{H:Type}{enc:TypeId × Value->H}{a:Assume}{C:Checked}{os:Os}{f:FuncId}{fn:Func}{s:ChangeSpec}{conds:List PathCond}{apart fresh handsOn again:Bool}{X:World->Array Value->Prop}
 (hX: ∀(w w':World) (args:Array Value),w.heap=w'.heap->X w args->X w' args)
 (own:ownKnob C.prog.godebug=none) (started:os.Started) (noInit:C.prog.inits.idxOf? f=none) (hfn:C.prog.funcs[f]? =some fn)
 (witness: ∃(w:World) (tape:Tape) (i:Input),w.os=os/\(w.forCall tape i).Shaped C.prog/\i.vars=[]/\Input.okWide C.prog (w.forCall tape i) .any w.heap.size f i/\
  ((s.pre enc C.prog fn conds apart (w.forCall tape i).memory i.args/\X (w.forCall tape i).memory i.args)/\sizedMet enc C.prog fn (apC s) apart (w.forCall tape i).memory i.args)/\a.holds C.prog (lone (Frame.enter C.prog f i.args .normal) [] (w.forCall tape i)))
 (contract: ∀(W:World) (base:Nat) (args:Array Value) (ds gs:List (DataW H)) (before:List MemPlace),
  (∀(j:Nat) t v,fn.params[j]? =some t->args[j]? =some v->Value.okWide C.prog W .any base t v)->
  DataW.Whole enc C.prog fn.params.toList s.vars apart W args.toList ds gs before->
  (DataW.weightsEach C.prog (fn.params.toList++s.plain.varTypes C.prog) (ds++gs)).all (· <=reachBytes)=true->X W args->W.ShapedOpen C.prog->
  Calls C.prog f args W fun e W'=> ∃v,e= .returned v/\s.post enc C.prog fn apart fresh handsOn again W args v W'):
 ReturnsInHanded a C os f .any (fun w args=>(s.pre enc C.prog fn conds apart w args/\X w args)/\sizedMet enc C.prog fn (apC s) apart w args) (s.post enc C.prog fn apart fresh handsOn again):=by
 refine returnsInHanded_of_calls own started noInit witness ?_;intro w tape i _ hsh _ hok hpre _;obtain⟨_,_,_,fn',ace,_,_,_,_,hval⟩:=hok;obtain rfl:fn'=fn:=aoX (ace.symm.trans hfn);obtain⟨⟨⟨ds,gs,before,hw,hc⟩,hx⟩,hz⟩:=hpre;have hw':=DataW.Whole.of_heap (w':=w.forCall tape i) (by rfl) hw;refine(contract (w.forCall tape i) w.heap.size i.args ds gs before hval hw' (hz.weights hw) (hX _ _ _ (by rfl) hx) hsh).mono fun e W' ⟨v,he,hp⟩=>?_
 subst he;exact ChangeSpec.post_blind hp
def U8:DataW Unit:=.agg (sr.map fun s=>.lit (.string s))
theorem abL{W:World}{x0 x1 x6:String × DataW Unit}{r:List (String × DataW Unit)}{npow Tb Td Tc nm:String}{t1 t2:List UInt8}
 (h1:prog.globalNamed npow=some 4) (nT:npow=EK) (h2:Tb= "strconv.ErrRange") (h3:Td= "strconv.ErrSyntax") (hnm:nm= "*" ++ "errors.errorString") (h4:prog.globalNamed Tc=some 0)
 (hL:laidMet prog (x0::x1::(npow,Lib.tabData .u64 Lib.pow10Tab)::x6::(Tb,.iface nm (.ptr (.agg [.lit (.string t1)])))::(Td,.iface nm (.ptr (.agg [.lit (.string t2)])))::(Tc,U8)::r) W)
 (hS:W.ShapedOpen prog):Gl W:=by
 subst h2 h3 nT;have hrow: ∀u,prog.typeName? 3 u=some nm→u=296:=fun u hu=>typeName_ptr_named (nm:= "errors.errorString") (by kernel_rfl) (by kernel_rfl) (by decide) u (by rw[hu,hnm])
 obtain⟨a0,s0,hv0, -⟩:=laid_sentinel hL.tail.tail.tail.tail (g:=3) (ti:=98) (by kernel_rfl) (by kernel_rfl) underlying98 hrow underlying296 underlying298 rfl rfl underlying9 (by kernel_rfl) (by kernel_rfl);obtain⟨a1,s1,hv1, -⟩:=laid_sentinel hL.tail.tail.tail.tail.tail (g:=2) (ti:=98) (by kernel_rfl) (by kernel_rfl) underlying98 hrow underlying296 underlying298 rfl rfl underlying9 (by kernel_rfl) (by kernel_rfl);refine⟨?_,Tryz.Bm.s1_3 W hS,⟨_,_,hv1⟩,⟨_,_,hv0⟩,fun k hk=>?_⟩
 ·exact Lib.tabIs_of_head h1 (t:=278) (e:=244) (n:=20) (by kernel_rfl) underlying278 underlying244 (by kernel_rfl) (by kernel_rfl) hL.tail.tail
 ·obtain⟨g,t,cs,fuel,p,hg,hty,hvar,hd⟩:=Lib.laidMet.reads hL.tail.tail.tail.tail.tail.tail (List.Mem.head _)
  obtain rfl:=aoX (h4.symm.trans hg);obtain rfl:208=t:=aoX ((show(prog.globals[0]?).map (·.type)=some 208 by kernel_rfl).symm.trans hty);unfold U8 at hd;obtain⟨f',d,q,xX,he⟩:=Lib.array_elem (n:=15) underlying208 hd k hk;have h1:prog.cellsOf 9=1:=by kernel_rfl
  rw[h1,Nat.mul_one]at he
  have hlen:k<cs.toList.length:=by
   rcases Nat.lt_or_ge k cs.toList.length with h|h
   ·exact h
   ·rw[List.drop_eq_nil_of_le h]at he
    cases f' with
    |zero=>simp[DataW.trod]at he
    |succ f'=>simp[DataW.trod,underlying9]at he
  rw[List.drop_eq_getElem_cons hlen,List.take_succ_cons,List.take_zero]at he;obtain⟨s,hs,h3, -⟩:=DataW.trod_string underlying9 he;have:=World.var?_cell hg hvar k;rw[this,<-Array.getElem?_toList,amK hlen];simp only[List.cons.injEq,and_true]at hs;simp only[Prod.mk.injEq]at h3;rw[hs];rw[h3.1,List.getElem?_map]at xX
  have hn:sr[k]? =some s.data.toList:=by
   cases h:sr[k]? with
   |none=>rw[h]at xX;cases xX
   |some y=>rw[h]at xX;simp at xX;rw[xX]
  have:aO k=s.data.toList:=by unfold aO;rw[List.getD_eq_getElem?_getD,hn];rfl
  rw[this];simp[tx]
end Go.Proofs.YtkbbgjloifmmbaaGreatDoor
namespace Go.Proofs.YtkbbgjloifmmbaaGreatDoor
open _root_.Go.Proofs.Tryz
open _root_.List renaming not_mem_nil->an0,mem_cons->amY,getElem?_eq_some_iff->ano,getElem?_eq_getElem->amK
open _root_.Bool renaming eq_iff_iff->anW,eq_false_iff->aol
open _root_.Go.Value renaming string->aoM
open _root_.Nat renaming lt_succ_iff_lt_or_eq->an5
open _root_.Option.some renaming inj->aoX
open _root_.UInt8 renaming toNat_inj->apB,le_iff_toNat_le->ant
open _root_.Go.Lib renaming count->aoP,atoiAll->anv
open _root_.Go.OpenSpec renaming ofChange->apC
open _root_.Go.Instr renaming index->aor
open Go.RowKit
theorem iV(l:Tx)(k:Nat)(c:UInt8)(hk:l[k]? =some c): ∀w,(aor 9 (.string (tx l)) (.int .i64 k)).run prog w= .ok (.int .u8 c.toNat) w:=by
 intro w;obtain⟨hlt,rfl⟩:=ano.1 hk;have h1:=underlying9;have hs:=aP l;simp[aor,asIntOf,run_underlying h1,hs,hlt];rfl
theorem mJ(l:Tx)(c:UInt8)(hk:l[0]? =some c): ∀w,(aor 9 (.string (tx l)) (.int .i64 0)).run prog w= .ok (.int .u8 c.toNat) w:=iV l 0 c hk
theorem uy(c d:UInt8)(h:c≠d):((c.toNat:Int) != (d.toNat:Int))=true:=by
 simp only[bne_iff_ne,ne_eq];intro e;exact h (apB.1 (by omega))
theorem FB(c d:UInt8):(c==d)=((c.toNat:Int)==(d.toNat:Int)):=by
 rw[anW];simp only[beq_iff_eq];exact⟨fun h=>by rw[h],fun e=>apB.1 (by omega)⟩
theorem yA(c:UInt8)(r:Tx):az (c::r)=(decide (r.length<32)&&cG c&&r.all bU):=rfl
theorem SR{l:Tx}{k:Nat}{c:UInt8}(h:l[k]? =some c)(hn:bU c=false):az l=false:=by
 have hm:c∈l:=List.mem_of_getElem? h;cases l with
 |nil=>rfl
 | cons d r=>
   rw[yA];rcases amY.1 hm with rfl|hm
   ·have:cG c=false:=by unfold bU at hn;simp at hn;exact hn.1.1
    rw[this];simp
   ·have:r.all bU=false:=by simp only[List.all_eq_false];exact⟨c,hm,by rw[hn];simp⟩
    rw[this];simp
theorem SM{c:UInt8}{r:Tx}(hl:r.length<32)(hc:cG c=true)(h: ∀(i:Nat) (x:UInt8),(c::r)[i]? =some x->bU x=true):az (c::r)=true:=by
 rw[yA,hc,decide_eq_true hl];simp only[Bool.and_self,Bool.true_and,List.all_eq_true];intro x hx;obtain⟨i,hi,rfl⟩:=List.mem_iff_getElem.1 hx;exact h (i+1) _ (by simp[hi])
theorem JG(c:UInt8):cG c=((decide (97<=c.toNat)&&decide (c.toNat<=122))||(decide (65<=c.toNat)&&decide (c.toNat<=90))):=by
 unfold cG;simp only[ant];rfl
theorem O0(c:UInt8):aR c=(decide (48<=c.toNat)&&decide (c.toNat<=57)):=by
 unfold aR;simp only[ant];rfl
theorem SV(c:UInt8):bU c=(cG c||aR c||decide (c.toNat=95)):=by
 unfold bU;congr 1;rw[anW];simp only[beq_iff_eq,decide_eq_true_eq];exact⟨fun h=>by rw[h];rfl,fun h=>apB.1 h⟩
abbrev Bv(b:Bool)(w:World)(e:Ending)(w':World):Prop:=e= .returned (.bool b)/\w=w'
abbrev UF(p:UInt8->Bool)(F:Nat):Prop:= ∀(c:UInt8) (w:World),Calls prog F #[.int .u8 c.toNat] w (Bv (p c) w)
abbrev rq(p:Int->Bool)(F:Nat):Prop:= ∀(n:Int) (w:World),Calls prog F #[.int .i64 n] w (Bv (p n) w)
abbrev SF(p:Tx->Bool)(F:Nat):Prop:= ∀l:Tx,l.length<=9223372036854775807-> ∀w:World,Calls prog F #[.string (tx l)] w (Bv (p l) w)
theorem U9(n:Int)(F:Nat)(hF:F∈[181,191])(w:World):Calls prog F #[.int .i64 n] w (Bv (bX n) w):=by
 have hp:n<0\/(0<=n/\n<=31)\/32<=n:=by omega
 simp only[amY,an0,or_false]at hF;rcases hF with rfl|rfl
 all_goals go_in
 all_goals
  rcases hp with h|⟨h,h'⟩|h
  all_goals
   go_wp2
   go_ret;exact⟨aJ (by unfold bX;rw[anW];simp<;>omega),rfl⟩
theorem Va(n:Int)(F:Nat)(hF:F∈[179,333])(w:World):Calls prog F #[.int .i64 n] w (Bv (lV n) w):=by
 have hp:n<0\/(0<=n/\n<15)\/15<=n:=by omega
 simp only[amY,an0,or_false]at hF;rcases hF with rfl|rfl
 all_goals go_in
 all_goals
  rcases hp with h|⟨h,h'⟩|h
  all_goals
   go_wp2
   go_ret;exact⟨aJ (by unfold lV;rw[anW];simp<;>omega),rfl⟩
theorem Bq(n:Int)(F:Nat)(hF:F∈[178,226,279,201,309,256])(w:World):Calls prog F #[.int .i64 n] w (Bv (aY n) w):=by
 have hp:n< -2147483648\/(-2147483648<=n/\n<=2147483647)\/2147483647<n:=by omega
 simp only[amY,an0,or_false]at hF;rcases hF with rfl|rfl|rfl|rfl|rfl|rfl
 all_goals go_in
 all_goals
  rcases hp with h|⟨h,h'⟩|h
  all_goals
   go_wp2
   go_ret;exact⟨aJ (by unfold aY;rw[anW];simp<;>omega),rfl⟩
theorem Bd(c:UInt8)(F:Nat)(hF:F∈[305,254,297,204,307,114])(w:World):Calls prog F #[.int .u8 c.toNat] w (Bv (cG c) w):=by
 have hlt:c.toNat<256:=c.toNat_lt;rw[JG];generalize c.toNat=n at*;have hp:n<65\/(65<=n/\n<=90)\/(91<=n/\n<=96)\/(97<=n/\n<=122)\/123<=n:=by omega
 simp only[amY,an0,or_false]at hF;rcases hF with rfl|rfl|rfl|rfl|rfl|rfl
 all_goals go_in
 all_goals
  rcases hp with h|⟨h,h'⟩|⟨h,h'⟩|⟨h,h'⟩|h
  all_goals
   go_wp2
   go_ret;exact⟨aJ (by first|(rw[anW];simp<;>omega)|(simp<;>omega)),rfl⟩
theorem Hw(c:UInt8)(F:Nat)(hF:F∈[306,255,298,200,308,115])(w:World):Calls prog F #[.int .u8 c.toNat] w (Bv (aR c) w):=by
 have hlt:c.toNat<256:=c.toNat_lt;rw[O0];generalize c.toNat=n at*;have hp:n<48\/(48<=n/\n<=57)\/58<=n:=by omega
 simp only[amY,an0,or_false]at hF;rcases hF with rfl|rfl|rfl|rfl|rfl|rfl
 all_goals go_in
 all_goals
  rcases hp with h|⟨h,h'⟩|h
  all_goals
   go_wp2
   go_ret;exact⟨aJ (by first|(rw[anW];simp<;>omega)|(simp<;>omega)),rfl⟩
theorem Nv(c:UInt8)(F:Nat)(hF:F∈[101,108,234,186,85])(w:World):Calls prog F #[.int .u8 c.toNat] w (Bv (aj c) w):=by
 have hb:aj c=(((c.toNat:Int)==32)||((c.toNat:Int)==9)||((c.toNat:Int)==10)||((c.toNat:Int)==13)):=by
  unfold aj;rw[FB,FB,FB,FB];rfl
 rw[hb];clear hb;generalize c.toNat=n at*;have hp:n=32\/n=9\/n=10\/n=13\/n≠32/\n≠9/\n≠10/\n≠13:=by omega
 simp only[amY,an0,or_false]at hF;rcases hF with rfl|rfl|rfl|rfl|rfl
 all_goals go_in
 all_goals
  rcases hp with rfl|rfl|rfl|rfl|⟨h1,h2,h3,h4⟩
  rotate_left 4
  ·have z1:((n:Int)==32)=false:=by simp;omega
   have z2:((n:Int)==9)=false:=by simp;omega
   have z3:((n:Int)==10)=false:=by simp;omega
   have z4:((n:Int)==13)=false:=by simp;omega
   clear h1 h2 h3 h4;rw[z1,z2,z3,z4]
   go_wp2
   go_ret;exact⟨rfl,rfl⟩
  all_goals
   go_wp2
   go_ret;exact⟨rfl,rfl⟩
def pT(c:UInt8)(r:Tx)(n:Nat)(i:Value):Prop:= ∃k:Nat,k<=n/\i= .int .i64 k/\Hid (∀(i:Nat) (x:UInt8),i<k->(c::r)[i]? =some x->bU x=true)
theorem pT.one{c:UInt8}{r:Tx}{n:Nat}(h:1<=n)(hc:cG c=true):pT c r n (.int .i64 1):=⟨1,h,rfl,fun i x hi hx=>by
 obtain rfl:i=0:=by omega
 cases hx;unfold bU;rw[hc];rfl⟩
theorem pT.zero{c:UInt8}{r:Tx}{n:Nat}:pT c r n (.int .i64 0):=⟨0,Nat.zero_le _,rfl,fun i x hi=>absurd hi (Nat.not_lt_zero i)⟩
theorem yD(l:Tx)(hl:l.length<=9223372036854775807)(F:Nat)(hF:F∈[249,322,52,252,118,190])(w:World):Calls prog F #[.string (tx l)] w (Bv (az l) w):=by
 simp only[amY,an0,or_false]at hF;rcases hF with rfl|rfl|rfl|rfl|rfl|rfl
 all_goals go_in
 all_goals
  have hs:=aP l;rcases l with _|⟨c,r⟩
  ·have hs:(tx []).size=0:=rfl
   go_wp2_with fail;go_ret;exact⟨rfl,rfl⟩
  obtain⟨n,hn⟩: ∃n,(tx (c::r)).size=n:=⟨_,rfl⟩;have nT:1<=n:=by rw[<-hn,hs];simp
  have tP:n=r.length+1:=by rw[<-hn,hs];simp
  have hz:((n:Int)==0)=false:=by simp;omega
  have i0:=mJ (c::r) c rfl;clear hs hl
  by_cases DN: ¬n<=32
  ·have HF:=hid (show az (c::r)=false by rw[yA,decide_eq_false (by omega)];simp)
   clear tP;go_wp2_with fail;go_ret;exact⟨aJ HF.out.symm,rfl⟩
  have DN:n<=32:=by omega
  have HR:=hid tP;clear tP;cases hc:cG c
  ·have HC:=hid hc
   have HF:=hid (show az (c::r)=false by rw[yA,hc];simp);clear hc
   go_wp2_with ((with_reducible refine(Bd c _ (by decide) _).mono ?_);rintro e w' ⟨rfl,rfl⟩;rw[HC.out])
   go_ret;exact⟨aJ HF.out.symm,rfl⟩
  have HC:=hid hc;clear hc
  go_wp2_with ((with_reducible refine(Bd c _ (by decide) _).mono ?_);rintro e w' ⟨rfl,rfl⟩;rw[HC.out])
  first
   |(go_loop [21] (pT c r n) (fun i=>n-(intOf i).toNat)
     case atStart=>exact pT.zero)
   |(go_loop [3] (pT c r n) (fun i=>n-(intOf i).toNat)
     case atStart=>first|exact pT.zero|exact pT.one nT HC.out)
  case round=>
   obtain⟨k,hk,rfl,HM⟩:=hrel
   by_cases hlt:k<n
   ·obtain⟨x,hx⟩: ∃x,(c::r)[k]? =some x:=⟨_,amK (by have:=HR.out;simp;omega)⟩
    have ix:=iV (c::r) k x hx;have HX:=hid hx
    have dF:=hid (show bU x=true->pT c r n (.int .i64 ((k:Int)+1))from fun hx'=>⟨k+1,hlt,by congr 1,fun i y hi hy=>by
     rcases an5.1 hi with h|h
     ·exact HM.out i y h hy
     ·subst h;rw[HX.out]at hy;cases hy;exact hx'⟩)
    have abP:cG x=true\/cG x=false/\aR x=true\/cG x=false/\aR x=false:=by cases cG x<;>cases aR x<;>simp
    clear hx;rcases abP with h1|⟨h1,h2⟩|⟨h1,h2⟩
    rotate_left 2
    by_cases h3:x=95
    rotate_left
    ·have z3:((x.toNat:Int) != 95)=true:=uy x 95 h3
     have HF:=hid (SR HX.out (by unfold bU;rw[h1,h2];simpa using h3));have H1:=hid h1;have H2:=hid h2;clear h1 h2 h3
     go_wp2_with (first|((with_reducible refine(Bd x _ (by decide) _).mono ?_);rintro e w' ⟨rfl,rfl⟩;rw[H1.out])|((with_reducible refine(Hw x _ (by decide) _).mono ?_);rintro e w' ⟨rfl,rfl⟩;rw[H2.out]))
     go_ret;exact⟨aJ HF.out.symm,rfl⟩
    all_goals
     have HN:=hid (dF.out (by unfold bU;first|(rw[h3];rfl)|(rw[h1,h2];rfl)|(rw[h1];rfl)));have H1:=hid h1;clear h1
     (try(have H2:=hid h2
          clear h2))
     (try(have z3:((x.toNat:Int) != 95)=false:=by rw[h3];rfl
          clear h3))
     go_wp2_with (first|((with_reducible refine(Bd x _ (by decide) _).mono ?_);rintro e w' ⟨rfl,rfl⟩;rw[H1.out])|((with_reducible refine(Hw x _ (by decide) _).mono ?_);rintro e w' ⟨rfl,rfl⟩;rw[H2.out]))
     go_round
     case rel=>exact HN.out
     case measure=>simp[intOf];omega
   ·have HF:=hid (SM (c:=c) (r:=r) (by have:=HR.out;omega) HC.out (fun i x hi=>HM.out i x (by
     have h1:=(ano.1 hi).1;have:=HR.out;simp at h1;omega) hi))
    go_wp2_with fail;go_ret;exact⟨aJ HF.out.symm,rfl⟩
theorem yG:rq bX 181:=fun c=>U9 c _ (by decide)
theorem Hv(n:Nat):(cR n).length<=4:=by unfold cR;split<;>(try split)<;>(try split)<;>simp
theorem Dp(n:Nat): ∀w,(Op.stringOp .add ⟨#[120]⟩ (tx (cR n))).run prog w= .ok (.string (tx (bH n))) w:=cQ [120] (cR n) (by have:=Hv n;simp;omega)
theorem EN(n:Nat)(h:n<32)(w:World):Calls prog 123 #[.int .i64 n] w fun e w'=>e= .returned (.tuple #[.string (tx (bH n)),.int .i64 0])/\w=w':=by
 have hr:=oh h;have cx:=Dp n;go_in
 go_wp2_with (go_at_call 181;refine(yG _ _).mono ?_;rintro e w' ⟨rfl,rfl⟩;rw[hr])
 refine(vR n (by omega) _).mono ?_;rintro e w' ⟨rfl,rfl⟩;go_wp2_with fail
 go_ret2
 exact⟨rfl,rfl⟩
theorem U1(n:Nat)(h:n<32)(w:World):Calls prog 130 #[.int .i64 n] w fun e w'=>e= .returned (.tuple #[.string (tx (bH n)),.int .i64 0])/\w=w':=by
 have cx:=Dp n;go_in;go_wp2_with fail;refine(vR n (by omega) _).mono ?_;rintro e w' ⟨rfl,rfl⟩;go_wp2_with fail
 go_ret2
 exact⟨rfl,rfl⟩
def uf(s:Tx):Int:=match bP s with
 |some n=>n
 |none=>0
def ue(s:Tx):Int:=match bP s with
 |some _=>0
 |none=>90
theorem aiP{s:Tx}{n:Nat}(h:n<32)(e:bH n=s):uf s=n/\ue s=0:=by
 subst e;unfold uf ue;rw[nv h];exact⟨rfl,rfl⟩
theorem aiQ{s:Tx}(h: ∀m,m<32->bH m≠s):uf s=0/\ue s=90:=by
 unfold uf ue;cases hr:bP s with
 |none=>exact⟨rfl,rfl⟩
 |some n=>obtain⟨h1,h2⟩:=KH hr;exact absurd h2.symm (h n h1)
theorem UA(s:Tx)(w:World):Calls prog 197 #[.string (tx s)] w fun e w'=>e= .returned (.tuple #[.int .i64 (uf s),.int .i64 (ue s)])/\w=w':=by
 go_in;go_wp2_with fail
 go_loop [7] (fun i=> ∃k:Nat,k<=32/\i= .int .i64 k/\Hid (∀m,m<k->bH m≠s)) (fun i=>32-(intOf i).toNat)
 case atStart=>exact⟨0,by omega,rfl,fun m hm=>absurd hm (Nat.not_lt_zero m)⟩
 case round=>
  obtain⟨k,hk,rfl,HM⟩:=hrel
  by_cases hlt:k<32
  ·by_cases he:bH k=s
   ·have hz:((tx (bH k)).toList==(tx s).toList)=true:=by rw[jG];simpa using he
    have HR:=hid (aiP hlt he);clear he
    go_wp2_with (go_at_call 123;refine(EN k hlt _).mono ?_;rintro e w' ⟨rfl,rfl⟩)
    go_ret2
    exact⟨wz HR.out.1.symm HR.out.2.symm,rfl⟩
   ·have hz:((tx (bH k)).toList==(tx s).toList)=false:=sI he
    have dF:=hid (show ∀m,m<k+1->bH m≠s from fun m hm=>by
     rcases an5.1 hm with h|h
     ·exact HM.out m h
     ·subst h;exact he)
    clear he
    go_wp2_with (go_at_call 123;refine(EN k hlt _).mono ?_;rintro e w' ⟨rfl,rfl⟩)
    go_round
    case rel=>exact⟨k+1,by omega,by go_num,dF⟩
    case measure=>simp[intOf];omega
  ·obtain rfl:k=32:=by omega
   have HR:=hid (aiQ HM.out);go_wp2_with fail
   go_ret2
   exact⟨wz HR.out.1.symm HR.out.2.symm,rfl⟩
theorem Uy:SF az 249:=fun l hl=>yD l hl _ (by decide)
def jK(w:World)(op d a b ag:Int)(loc label:ByteArray)(ai:Int)(ok:Bool)(x:Ending)(w':World):Prop:=
 x= .returned (.tuple #[.agg #[.int .i64 op,.int .i64 d,.int .i64 a,.int .i64 b,.int .i64 ag,.string loc,.string label,.int .i64 ai],.bool ok])/\Below w.heap.size w w'
theorem ags(d a b ag:Int)(loc label:Tx)(ai:Int)(w:World):Calls prog 180 #[vI ⟨6,d,a,b,ag,loc,label,ai⟩] w (jK w 6 d a 0 0 ⟨#[]⟩ ⟨#[]⟩ 0 true):=by
 go_in;go_wp2_with fail
 go_big_region
 go_wp2_with fail;exact bodyPost_ret (by simp[results,results180,go_sem]) rfl ⟨rfl,aK⟩
theorem agx(d a b ag:Int)(loc label:Tx)(ai:Int)(w:World):Calls prog 180 #[vI ⟨7,d,a,b,ag,loc,label,ai⟩] w (jK w 7 0 a b 0 ⟨#[]⟩ ⟨#[]⟩ 0 true):=by
 go_in;go_wp2_with fail
 go_big_region
 go_wp2_with fail;exact bodyPost_ret (by simp[results,results180,go_sem]) rfl ⟨rfl,aK⟩
theorem agw(d a b ag:Int)(loc label:Tx)(ai:Int)(h:ag< -2048)(w:World):Calls prog 180 #[vI ⟨8,d,a,b,ag,loc,label,ai⟩] w (jK w 8 d a 0 ag ⟨#[]⟩ ⟨#[]⟩ 0 false):=by
 have z1:decide (-2048<=ag)=false:=by simp;omega
 go_in;go_wp2_with fail
 go_big_region
 go_wp2_with fail
 go_big_region
 go_wp2_with fail;exact bodyPost_ret (by simp[results,results180,go_sem]) rfl ⟨rfl,aK⟩
theorem agv(d a b ag:Int)(loc label:Tx)(ai:Int)(h1: -2048<=ag)(h2:ag<=2047)(w:World):Calls prog 180 #[vI ⟨8,d,a,b,ag,loc,label,ai⟩] w (jK w 8 d a 0 ag ⟨#[]⟩ ⟨#[]⟩ 0 true):=by
 have z1:decide (-2048<=ag)=true:=by simp;omega
 have z2:decide (ag<=2047)=true:=by simp;omega
 go_in;go_wp2_with fail
 go_big_region
 go_wp2_with fail
 go_big_region
 go_wp2_with fail;exact bodyPost_ret (by simp[results,results180,go_sem]) rfl ⟨rfl,aK⟩
theorem agu(d a b ag:Int)(loc label:Tx)(ai:Int)(h:2047<ag)(w:World):Calls prog 180 #[vI ⟨8,d,a,b,ag,loc,label,ai⟩] w (jK w 8 d a 0 ag ⟨#[]⟩ ⟨#[]⟩ 0 false):=by
 have z1:decide (-2048<=ag)=true:=by simp;omega
 have z2:decide (ag<=2047)=false:=by simp;omega
 go_in;go_wp2_with fail
 go_big_region
 go_wp2_with fail
 go_big_region
 go_wp2_with fail;exact bodyPost_ret (by simp[results,results180,go_sem]) rfl ⟨rfl,aK⟩
theorem agy(d a b ag:Int)(loc label:Tx)(ai:Int)(w:World):Calls prog 180 #[vI ⟨9,d,a,b,ag,loc,label,ai⟩] w (jK w 9 d a b 0 ⟨#[]⟩ ⟨#[]⟩ 0 true):=by
 go_in;go_wp2_with fail
 go_big_region
 go_wp2_with fail;exact bodyPost_ret (by simp[results,results180,go_sem]) rfl ⟨rfl,aK⟩
theorem agm(d a b ag:Int)(loc label:Tx)(ai:Int)(w:World):Calls prog 180 #[vI ⟨10,d,a,b,ag,loc,label,ai⟩] w (jK w 10 d a b 0 ⟨#[]⟩ ⟨#[]⟩ 0 true):=by
 go_in;go_wp2_with fail
 go_big_region
 go_wp2_with fail;exact bodyPost_ret (by simp[results,results180,go_sem]) rfl ⟨rfl,aK⟩
theorem agq(d a b ag:Int)(loc label:Tx)(ai:Int)(h:ai<2)(w:World):Calls prog 180 #[vI ⟨13,d,a,b,ag,loc,label,ai⟩] w (jK w 13 0 0 0 0 ⟨#[]⟩ ⟨#[]⟩ ai false):=by
 have z1:decide (2<=ai)=false:=by simp;omega
 go_in;go_wp2_with fail
 go_big_region
 go_wp2_with fail;exact bodyPost_ret (by simp[results,results180,go_sem]) rfl ⟨rfl,aK⟩
theorem agp(d a b ag:Int)(loc label:Tx)(ai:Int)(h1:2<=ai)(h2:ai<=11)(w:World):Calls prog 180 #[vI ⟨13,d,a,b,ag,loc,label,ai⟩] w (jK w 13 0 0 0 0 ⟨#[]⟩ ⟨#[]⟩ ai true):=by
 have z1:decide (2<=ai)=true:=by simp;omega
 have z2:decide (ai<=11)=true:=by simp;omega
 go_in;go_wp2_with fail
 go_big_region
 go_wp2_with fail;exact bodyPost_ret (by simp[results,results180,go_sem]) rfl ⟨rfl,aK⟩
theorem ago(d a b ag:Int)(loc label:Tx)(ai:Int)(h:11<ai)(w:World):Calls prog 180 #[vI ⟨13,d,a,b,ag,loc,label,ai⟩] w (jK w 13 0 0 0 0 ⟨#[]⟩ ⟨#[]⟩ ai false):=by
 have z1:decide (2<=ai)=true:=by simp;omega
 have z2:decide (ai<=11)=false:=by simp;omega
 go_in;go_wp2_with fail
 go_big_region
 go_wp2_with fail;exact bodyPost_ret (by simp[results,results180,go_sem]) rfl ⟨rfl,aK⟩
theorem agt(op d a b ag:Int)(loc label:Tx)(ai:Int)(h:op<6\/13<op)(w:World):Calls prog 180 #[vI ⟨op,d,a,b,ag,loc,label,ai⟩] w (jK w op 0 0 0 0 ⟨#[]⟩ ⟨#[]⟩ 0 false):=by
 have z6:(op==6)=false:=by simp;omega
 have z7:(op==7)=false:=by simp;omega
 have z8:(op==8)=false:=by simp;omega
 have z9:(op==9)=false:=by simp;omega
 have z10:(op==10)=false:=by simp;omega
 have Ci:(op==11)=false:=by simp;omega
 have z12:(op==12)=false:=by simp;omega
 have z13:(op==13)=false:=by simp;omega
 go_in;go_wp2_with fail;exact bodyPost_ret (by simp[results,results180,go_sem]) rfl ⟨rfl,aK⟩
theorem agn(d a b ag:Int)(loc label:Tx)(ai:Int)(hl:label.length<=9223372036854775807)(w:World):Calls prog 180 #[vI ⟨11,d,a,b,ag,loc,label,ai⟩] w (jK w 11 0 a b 0 ⟨#[]⟩ (tx label) 0 (az label)):=by
 go_in;go_wp2_with fail
 go_big_region
 go_wp2_with fail
 go_region_with (go_at_call 249;refine(Uy label hl _).mono ?_;rintro e' w' ⟨rfl,rfl⟩)
 all_goals
  go_wp2_with fail;exact bodyPost_ret (by simp[results,results180,go_sem]) rfl ⟨rfl,aK⟩
theorem agr(d a b ag:Int)(loc label:Tx)(ai:Int)(hl:label.length<=9223372036854775807)(w:World):Calls prog 180 #[vI ⟨12,d,a,b,ag,loc,label,ai⟩] w (jK w 12 0 0 0 0 ⟨#[]⟩ (tx label) 0 (az label)):=by
 go_in;go_wp2_with fail
 go_region_with (go_at_call 249;refine(Uy label hl _).mono ?_;rintro e' w' ⟨rfl,rfl⟩)
 all_goals
  go_wp2_with fail;exact bodyPost_ret (by simp[results,results180,go_sem]) rfl ⟨rfl,aK⟩
theorem agl(i:Ins)(hl:i.label.length<=9223372036854775807)(w:World):Calls prog 180 #[vI i] w fun x w'=>x= .returned (.tuple #[vI (kE i),.bool (dn i)])/\Below w.heap.size w w':=by
 obtain⟨op,d,a,b,ag,loc,label,ai⟩:=i
 by_cases h6:op=6
 ·subst h6;exact ags d a b ag loc label ai w
 by_cases h7:op=7
 ·subst h7;exact agx d a b ag loc label ai w
 by_cases h8:op=8
 ·subst h8
  have ho:dn ⟨8,d,a,b,ag,loc,label,ai⟩=(decide (-2048<=ag)&&decide (ag<=2047)):=rfl;rw[ho]
  by_cases h1:ag< -2048
  ·rw[show(decide (-2048<=ag)&&decide (ag<=2047))=false by simp;omega];exact agw d a b ag loc label ai h1 w
  ·by_cases h2:ag<=2047
   ·rw[show(decide (-2048<=ag)&&decide (ag<=2047))=true by simp;omega];exact agv d a b ag loc label ai (by omega) h2 w
   ·rw[show(decide (-2048<=ag)&&decide (ag<=2047))=false by simp;omega];exact agu d a b ag loc label ai (by omega) w
 by_cases h9:op=9
 ·subst h9;exact agy d a b ag loc label ai w
 by_cases h10:op=10
 ·subst h10;exact agm d a b ag loc label ai w
 by_cases h11:op=11
 ·subst h11;exact agn d a b ag loc label ai hl w
 by_cases h12:op=12
 ·subst h12;exact agr d a b ag loc label ai hl w
 by_cases tG:op=13
 ·subst tG
  have ho:dn ⟨13,d,a,b,ag,loc,label,ai⟩=(decide (2<=ai)&&decide (ai<=11)):=rfl;rw[ho]
  by_cases h1:ai<2
  ·rw[show(decide (2<=ai)&&decide (ai<=11))=false by simp;omega];exact agq d a b ag loc label ai h1 w
  ·by_cases h2:ai<=11
   ·rw[show(decide (2<=ai)&&decide (ai<=11))=true by simp;omega];exact agp d a b ag loc label ai (by omega) h2 w
   ·rw[show(decide (2<=ai)&&decide (ai<=11))=false by simp;omega];exact ago d a b ag loc label ai (by omega) w
 have hw:kE ⟨op,d,a,b,ag,loc,label,ai⟩=⟨op,0,0,0,0,[],[],0⟩:=by
  unfold kE;simp only;rw[if_neg h6,if_neg h7,if_neg h8,if_neg h9,if_neg h10,if_neg h11,if_neg h12,if_neg tG]
 have ho:dn ⟨op,d,a,b,ag,loc,label,ai⟩=false:=by
  unfold dn;simp only;rw[if_neg h8,if_neg (by omega),if_neg tG];simp;omega
 rw[hw,ho];exact agt op d a b ag loc label ai (by omega) w
attribute [local go_sem high] qa jX
theorem gS{i:Ins}(h:aU i=false):eR i=91:=by unfold eR;rw[h];rfl
theorem rN{i:Ins}(h:aU i=true):eR i=0:=by unfold eR;rw[h];rfl
theorem wj(i:Ins)(hl:i.label.length<=9223372036854775807)(w:World):Calls prog 100 #[vI i] w (ax w (.int .i64 (eR i))):=by
 have E1:=al w (eC i);have b0:=dK.new w i;obtain⟨wi,hwi⟩: ∃wi,kE i=wi:=⟨_,rfl⟩;obtain⟨ok,hok⟩: ∃ok,dn i=ok:=⟨_,rfl⟩;have hc:aU i=(ok&&decide (i=wi)&&bX i.d&&bX i.a&&bX i.b):=by unfold aU;rw[hwi,hok]
 have PF:=hid (agl i hl);have HF:=hid (show ∀w,Calls prog 180 #[vI i] w fun x w'=>x= .returned (.tuple #[vI wi,.bool ok])/\Below w.heap.size w w' from by rw[<-hwi,<-hok];exact PF.out);clear hwi hok hl PF;cases ok
 ·have HE:=hid (gS (by rw[hc];rfl))
  clear hc;go_in;go_wp2_with fail;refine(HF.out _).mono ?_;rintro x w1 ⟨rfl,E⟩;have B:=E1.trans (E.mono E1.size);go_wp2_with fail;go_ret;exact⟨bJ HE.out.symm,aK⟩
 by_cases he:i=wi
 ·have hd:decide (wi=i)=true:=decide_eq_true he.symm
  have mq:(!decide (wi=i))=false:=by rw[hd];rfl
  have DY:decide (¬wi=i)=false:=by simpa using he.symm
  by_cases h1:bX i.d=true
  ·by_cases h2:bX i.a=true
   ·by_cases h3:bX i.b=true
    ·have HE:=hid (rN (by rw[hc,h1,h2,h3,decide_eq_true he];rfl))
     have H1:=hid h1;have H2:=hid h2;have H3:=hid h3;clear hc he h1 h2 h3;go_in;go_wp2_with fail;refine(HF.out _).mono ?_;rintro x w1 ⟨rfl,E⟩;have B:=E1.trans (E.mono E1.size);have b:=b0.below E;have hlt:=b.1;obtain⟨q0,q1,q2,q3,q4,q5,q6,q7⟩:=b.cells;clear b
     go_wp2_with (go_at_call 181;refine(yG _ _).mono ?_;rintro e w' ⟨rfl,rfl⟩;(try rw[H1.out]);(try rw[H2.out]);(try rw[H3.out]))
     go_ret;exact⟨bJ HE.out.symm,aK⟩
    ·have H1:=hid h1;have H2:=hid h2;have H3:=hid (aol.2 h3)
     have HE:=hid (gS (by rw[hc,H3.out];simp));clear hc he h1 h2 h3;go_in;go_wp2_with fail;refine(HF.out _).mono ?_;rintro x w1 ⟨rfl,E⟩;have B:=E1.trans (E.mono E1.size);have b:=b0.below E;have hlt:=b.1;obtain⟨q0,q1,q2,q3,q4,q5,q6,q7⟩:=b.cells;clear b
     go_wp2_with (go_at_call 181;refine(yG _ _).mono ?_;rintro e w' ⟨rfl,rfl⟩;(try rw[H1.out]);(try rw[H2.out]);(try rw[H3.out]))
     go_ret;exact⟨bJ HE.out.symm,aK⟩
   ·have H1:=hid h1;have H2:=hid (aol.2 h2)
    have HE:=hid (gS (by rw[hc,H2.out];simp));clear hc he h1 h2;go_in;go_wp2_with fail;refine(HF.out _).mono ?_;rintro x w1 ⟨rfl,E⟩;have B:=E1.trans (E.mono E1.size);have b:=b0.below E;have hlt:=b.1;obtain⟨q0,q1,q2,q3,q4,q5,q6,q7⟩:=b.cells;clear b
    go_wp2_with (go_at_call 181;refine(yG _ _).mono ?_;rintro e w' ⟨rfl,rfl⟩;(try rw[H1.out]);(try rw[H2.out]))
    go_ret;exact⟨bJ HE.out.symm,aK⟩
  ·have H1:=hid (aol.2 h1)
   have HE:=hid (gS (by rw[hc,H1.out];simp));clear hc he h1;go_in;go_wp2_with fail;refine(HF.out _).mono ?_;rintro x w1 ⟨rfl,E⟩;have B:=E1.trans (E.mono E1.size);have b:=b0.below E;have hlt:=b.1;obtain⟨q0,q1,q2,q3,q4,q5,q6,q7⟩:=b.cells;clear b
   go_wp2_with (go_at_call 181;refine(yG _ _).mono ?_;rintro e w' ⟨rfl,rfl⟩;(try rw[H1.out]))
   go_ret;exact⟨bJ HE.out.symm,aK⟩
 ·have hd:decide (wi=i)=false:=decide_eq_false (fun e=>he e.symm)
  have mq:(!decide (wi=i))=true:=by rw[hd];rfl
  have DY:decide (¬wi=i)=true:=by simpa using(fun e=>he (Eq.symm e))
  have HE:=hid (gS (by rw[hc,decide_eq_false he];simp));clear hc he;go_in;go_wp2_with fail;refine(HF.out _).mono ?_;rintro x w1 ⟨rfl,E⟩;have B:=E1.trans (E.mono E1.size);have b:=b0.below E;have hlt:=b.1;obtain⟨q0,q1,q2,q3,q4,q5,q6,q7⟩:=b.cells;clear b
  go_wp2_with (go_at_call 181;refine(yG _ _).mono ?_;rintro e w' ⟨rfl,rfl⟩)
  go_ret;exact⟨bJ HE.out.symm,aK⟩
end Go.Proofs.YtkbbgjloifmmbaaGreatDoor

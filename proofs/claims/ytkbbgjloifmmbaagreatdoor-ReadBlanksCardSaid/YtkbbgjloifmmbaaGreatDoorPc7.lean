/- What ReadBlanksP leans on, part 7. -/
import Derived.Test.YtkbbgjloifmmbaaGreatDoorPc4
import Derived.Stop.LaidErr
import Derived.Lib.LaidTab
import Derived.Lib.LaidU8
import Derived.Lay
import Derived.MakeChecks
import Derived.ShapedOpen
import Derived.LaidOnce
import Derived.SevenTiedAt
import Derived.ChangeArms
set_option linter.unusedVariables false
open _root_.Go.Proofs.Tryz
open _root_.Option.some renaming inj->an4
open _root_.Go.OpenSpec renaming ofChange->aqx
namespace Go.Proofs.YtkbbgjloifmmbaaGreatDoor
open Go.RowKit Go.ChangeShapes
theorem aac{H:Type}{enc:TypeId × Value->H}{a:Assume}{C:Checked}{os:Os}{f:FuncId}{fn:Func}{s:ChangeSpec}{conds:List PathCond}{apart fresh handsOn again:Bool}{X:World->Array Value->Prop}
 (hX: ∀(w w':World) (args:Array Value),w.heap=w'.heap->X w args->X w' args)
 (own:ownKnob C.prog.godebug=none) (started:os.Started) (noInit:C.prog.inits.idxOf? f=none) (hfn:C.prog.funcs[f]? =some fn)
 (witness: ∃(w:World) (tape:Tape) (i:Input),w.os=os/\(w.forCall tape i).Shaped C.prog/\i.vars=[]/\Input.okWide C.prog (w.forCall tape i) .any w.heap.size f i/\
  ((s.pre enc C.prog fn conds apart (w.forCall tape i).memory i.args/\X (w.forCall tape i).memory i.args)/\sizedMet enc C.prog fn (aqx s) apart (w.forCall tape i).memory i.args)/\a.holds C.prog (lone (Frame.enter C.prog f i.args .normal) [] (w.forCall tape i)))
 (contract: ∀(W:World) (base:Nat) (args:Array Value) (ds gs:List (DataW H)) (before:List MemPlace),
  (∀(j:Nat) t v,fn.params[j]? =some t->args[j]? =some v->Value.okWide C.prog W .any base t v)->
  DataW.Whole enc C.prog fn.params.toList s.vars apart W args.toList ds gs before->
  (DataW.weightsEach C.prog (fn.params.toList++s.plain.varTypes C.prog) (ds++gs)).all (· <=reachBytes)=true->X W args->W.ShapedOpen C.prog->
  Calls C.prog f args W fun e W'=> ∃v,e= .returned v/\s.post enc C.prog fn apart fresh handsOn again W args v W'):
 ReturnsInHanded a C os f .any (fun w args=>(s.pre enc C.prog fn conds apart w args/\X w args)/\sizedMet enc C.prog fn (aqx s) apart w args) (s.post enc C.prog fn apart fresh handsOn again):=by
 refine returnsInHanded_of_calls own started noInit witness ?_;intro w tape i _ hsh _ hok hpre _;obtain⟨_,_,_,fn',ady,_,_,_,_,hval⟩:=hok;obtain rfl:fn'=fn:=an4 (ady.symm.trans hfn);obtain⟨⟨⟨ds,gs,before,hw,hc⟩,hx⟩,hz⟩:=hpre;have hw':=DataW.Whole.of_heap (w':=w.forCall tape i) (by rfl) hw;refine(contract (w.forCall tape i) w.heap.size i.args ds gs before hval hw' (hz.weights hw) (hX _ _ _ (by rfl) hx) hsh).mono fun e W' ⟨v,he,hp⟩=>?_
 subst he;exact ChangeSpec.post_blind hp
def YC:DataW Unit:=.agg (uM.map fun s=>.lit (.string s))
theorem Tn{W:World}{x0 x1 x6:String × DataW Unit}{r:List (String × DataW Unit)}{npow Wx Wz Wy nm:String}{t1 t2:List UInt8}
 (h1:prog.globalNamed npow=some 4) (jK:npow=GF) (h2:Wx= "strconv.ErrRange") (h3:Wz= "strconv.ErrSyntax") (hnm:nm= "*" ++ "errors.errorString") (h4:prog.globalNamed Wy=some 0)
 (hL:laidMet prog (x0::x1::(npow,Lib.tabData .u64 Lib.pow10Tab)::x6::(Wx,.iface nm (.ptr (.agg [.lit (.string t1)])))::(Wz,.iface nm (.ptr (.agg [.lit (.string t2)])))::(Wy,YC)::r) W)
 (hS:W.ShapedOpen prog):Gl W:=by
 subst h2 h3 jK;have hrow: ∀u,prog.typeName? 3 u=some nm→u=296:=fun u hu=>typeName_ptr_named (nm:= "errors.errorString") aN aN (by decide) u (by rw[hu,hnm])
 obtain⟨a0,s0,hv0, -⟩:=laid_sentinel hL.tail.tail.tail.tail (g:=3) (ti:=98) aN aN underlying98 hrow underlying296 underlying298 rfl rfl underlying9 aN aN;obtain⟨a1,s1,hv1, -⟩:=laid_sentinel hL.tail.tail.tail.tail.tail (g:=2) (ti:=98) aN aN underlying98 hrow underlying296 underlying298 rfl rfl underlying9 aN aN;refine⟨?_,Tryz.Cr.s1_3 W hS,⟨_,_,hv1⟩,⟨_,_,hv0⟩,fun k hk=>?_⟩
 ·exact Lib.tabIs_of_head h1 (t:=278) (e:=244) (n:=20) aN underlying278 underlying244 aN aN hL.tail.tail
 obtain⟨g,t,cs,fuel,p,hg,hty,hvar,hd⟩:=Lib.laidMet.reads hL.tail.tail.tail.tail.tail.tail (List.Mem.head _)
 obtain rfl:=an4 (h4.symm.trans hg);obtain rfl:208=t:=an4 ((show(prog.globals[0]?).map (·.type)=some 208 by kernel_rfl).symm.trans hty);unfold YC at hd;obtain⟨f',d,q,x8,he⟩:=Lib.array_elem (n:=15) underlying208 hd k hk;have h1:prog.cellsOf 9=1:=by kernel_rfl
 rw[h1,Nat.mul_one]at he
 have hlen:k<cs.toList.length:=by
  rcases Nat.lt_or_ge k cs.toList.length with h|h
  ·exact h
  rw[List.drop_eq_nil_of_le h]at he
  cases f' with
  |zero=>simp[DataW.trod]at he
  |succ f'=>simp[DataW.trod,underlying9]at he
 rw[List.drop_eq_getElem_cons hlen,List.take_succ_cons,List.take_zero]at he;obtain⟨s,hs,h3, -⟩:=DataW.trod_string underlying9 he;have:=World.var?_cell hg hvar k;rw[this,<-Array.getElem?_toList,List.getElem?_eq_getElem hlen];simp only[List.cons.injEq,and_true]at hs;simp only[Prod.mk.injEq]at h3;rw[hs];rw[h3.1,List.getElem?_map]at x8
 have hn:uM[k]? =some s.data.toList:=by
  cases h:uM[k]? with
  |none=>rw[h]at x8;cases x8
  |some y=>rw[h]at x8;simp at x8;rw[x8]
 have:cI k=s.data.toList:=by unfold cI;rw[List.getD_eq_getElem?_getD,hn];rfl
 rw[this];simp[tx]
theorem mS:sF dy 191:=fun c=>YD c _ (by decide)
theorem yV:UF aD 255:=fun c=>xO c _ (by decide)
def Ct(n:Int):Bool:=decide (-2147483648<=n)&&decide (n<=2147483647)
theorem Nx(n:Int)(w:World):Calls prog 256 #[.int .i64 n] w fun e w'=>e= .returned (.bool (Ct n))/\w=w':=yJ n _ (by decide) w
theorem uQ:UF aq 108:=fun c=>AU c _ (by decide)
theorem Ny(n:Int)(w:World):Calls prog 257 #[.int .i64 n] w fun e w'=>e= .returned (.string (tx (kP n)))/\w=w':=by
 by_cases h0:n=0
 ·subst h0
  go_in
  go_wp2
  go_ret;exact⟨rfl,rfl⟩
 by_cases h1:n=1
 ·subst h1
  go_in
  go_wp2
  go_ret;exact⟨rfl,rfl⟩
 have z0:(n==0)=false:=by simpa using h0
 have z1:(n==1)=false:=by simpa using h1
 have hf:kP n=[114,119]:=by unfold kP;rw[if_neg h0,if_neg h1]
 rw[hf];clear hf h0 h1;go_in
 go_wp2
 go_ret;exact⟨rfl,rfl⟩
theorem mR:SF aC 190:=fun l hl=>yH l hl _ (by decide)
end Go.Proofs.YtkbbgjloifmmbaaGreatDoor

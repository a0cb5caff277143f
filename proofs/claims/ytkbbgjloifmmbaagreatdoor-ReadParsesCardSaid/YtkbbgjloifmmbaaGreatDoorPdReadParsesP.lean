/- The statement ReadParses, of every input: the call returns true and leaves its arguments as they were. Out of the contract lawReadParses. -/
import Derived.Test.YtkbbgjloifmmbaaGreatDoorCards
import Derived.Test.YtkbbgjloifmmbaaGreatDoorTie
import Derived.Test.YtkbbgjloifmmbaaGreatDoorPd1
namespace Go.Proofs.YtkbbgjloifmmbaaGreatDoor.readParses
open Go.ChangeShapes Go.WideShapes Go.ChangeAt Go.RowKit
open Go.ChangeMaps (open_string shut_string)
set_option linter.unusedVariables false
theorem own:ownKnob Tryz.prog.godebug=none:=by kernel_rfl
theorem laidOut:laidOutB Tryz.prog=true:=by kernel_rfl
set_option maxRecDepth 100000 in
theorem gl{W:World}(hL:laidMet Tryz.prog Rows.readParsesRow.laid W)(hS:W.ShapedOpen Tryz.prog):Gl W:=
 Tn aN aN aN aN (by decide) aN hL hS
set_option maxRecDepth 100000 in
theorem lifted(os:Os)(started:os.Started)(H:Type)(enc:TypeId × Value->H):
 ReturnsInHanded {} Tryz.checked os 3 .any (fun w args=>(Rows.readParsesSpec.pre enc Tryz.prog Tryz.f3 Rows.readParsesRow.domain false w args/\laidMetH Tryz.prog Rows.readParsesRow.laid w)/\sizedMet enc Tryz.prog Tryz.f3 (OpenSpec.ofChange Rows.readParsesSpec) false w args)
  (Rows.readParsesSpec.post enc Tryz.prog Tryz.f3 false true false false):=by
 refine aac (C:=Tryz.checked) (X:=fun w _=>laidMetH Tryz.prog Rows.readParsesRow.laid w) (fun _ _ _ hh h=>h.of_heap hh) own started aN Tryz.func3
  (ChangeSpec.witness_shaped (enc:=enc) (C:=Tryz.checked) (os:=os) (X:=fun w _=>laidMetH Tryz.prog Rows.readParsesRow.laid w) false (World.laidAll Tryz.prog os Rows.readParsesRow.laid) #[.string ByteArray.empty] 8 (World.laidAll_os _ _ _)
   (World.shaped_of_ZipB aN aN) aN aN aN
   (by rw[MakeChecks.laidMetH_plain _ _ _ aN];exact laidMet_laidAll _ aN aN)) ?_
 intro W base args ds gs before Ca hW Lv hL hS;have hsz:(DataW.weightsEach Tryz.prog (Tryz.f3.params.toList++Rows.readParsesSpec.plain.varTypes Tryz.prog) (ds++gs)).all (· <=reachBytes)=true:=Lv;have hval: ∀(j:Nat) t v,Tryz.f3.params[j]? =some t->args[j]? =some v->Value.okWide Tryz.prog W .any base t v:=Ca;have Ku:=hW;obtain⟨p,q,Bs,hV,rfl,hfz,hnd⟩:=hW;have hA:DataW.TrodAll enc Tryz.prog W 0 (fun _=>true) true Tryz.f3.params.toList args.toList ds p:=Bs;rw[Tryz.params3]at hA hval hsz;obtain⟨v0,vs0,d0,ds0,p0,q0,hargs,rfl,rfl,h0,r0⟩:=trodAll_cons hA;obtain⟨rfl,rfl,rfl⟩:=trodAll_nil r0;obtain rfl:args=#[v0]:=by cases args;simp_all
 obtain⟨rfl,rfl⟩:=trodVars_none hV;obtain⟨s0,rfl,rfl,rfl,DL⟩:=open_string Tryz.underlying9 (hval 0 9 v0 rfl rfl) h0;clear Bs Ca;rw[MakeChecks.laidMetH_plain _ _ _ aN]at hL;obtain⟨t0,rfl⟩:=Ox s0;refine(afa t0 (show t0.length<=9223372036854775807 by rw[<-aM];exact DL) W (gl hL hS)).mono fun e W' ⟨he,bu⟩=>?_
 subst he;exact⟨_,rfl,_,_,_,[],_,[],Ku,trodAll_mk1 (shut_bool Tryz.underlying4 _),(trodAll_cons_mk (shut_string Tryz.underlying9 DL) trodAll_mk0),rfl,bu.frame _,fun h=>by cases h⟩
theorem Jm{a b:Bool}(h:a=true)(h2:b=true):(a&&b)=true:=by rw[h,h2];rfl
set_option maxHeartbeats 40000000 in
theorem closed:joinedFacts Tryz.pinned.checked.prog 3 Tryz.f3 Rows.readParsesSpec Rows.readParsesRow=true:=by
 unfold joinedFacts
 repeat' (with_reducible refine Jm ?_ ?_)
 all_goals(as_aux_lemma=>kernel_rfl)
theorem over:Rows.readParsesRow.holds Tryz.pinned (OpenSpec.ofChange Rows.readParsesSpec):=
 OpenClaim.holds_of_wide 3 Tryz.f3 rfl rfl rfl rfl rfl rfl rfl ⟨rfl,rfl,rfl,rfl,rfl⟩ rfl rfl rfl rfl rfl (by as_aux_lemma=>kernel_rfl) Tryz.func3 closed
  (of_decide_eq_true aN) (by unfold Func.isWrapper;first|(rw[if_pos dx];kernel_rfl)|(rw[if_neg dx];exact⟨rfl,rfl⟩))
  (fun os started H enc _=>lifted os started H enc)
theorem proved:Rows.ReadParsesCardSaid:=
 Claim7.holds_tied_plain_at .later [] [.data,.data,.data,.data,.sentinel,.sentinel,.data,.pinned] true Rows.readParsesCard.stood.harness true over (fun _ h=>by cases h) (by as_aux_lemma=>kernel_rfl) (fun _ h=>by cases h) readParses_row_tie rfl ⟨rfl,rfl⟩ (by as_aux_lemma=>kernel_rfl) rfl
  (fun f fn hf hfn=>by
   obtain rfl:f=3:=Option.some.inj ((show Tryz.prog.funcNamed Rows.readParsesRow.func=some 3 by as_aux_lemma=>kernel_rfl).symm.trans hf) |>.symm;obtain rfl:fn=Tryz.f3:=(Option.some.inj (Tryz.func3.symm.trans hfn)).symm
   exact⟨by as_aux_lemma=>kernel_rfl,fun j t ht=>by
    rw[Tryz.params3]at ht;have hm:t∈[9]:=by simpa using Array.mem_of_getElem? ht
    have hall:([9].all fun u=> !Tryz.prog.wantsStandIn u)=true:=by as_aux_lemma=>kernel_rfl
    exact(show Tryz.prog.wantsStandIn t=false by simpa using List.all_eq_true.1 hall t hm)⟩)
  (by as_aux_lemma=>kernel_rfl)
end Go.Proofs.YtkbbgjloifmmbaaGreatDoor.readParses

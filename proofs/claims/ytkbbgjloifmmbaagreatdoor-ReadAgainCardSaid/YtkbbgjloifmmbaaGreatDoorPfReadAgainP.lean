/- The statement ReadAgain, of every input: the call returns true and leaves its arguments as they were. Out of the contract lawReadAgain. -/
import Derived.Test.YtkbbgjloifmmbaaGreatDoorCards
import Derived.Test.YtkbbgjloifmmbaaGreatDoorTie
import Derived.Test.YtkbbgjloifmmbaaGreatDoorPf25
namespace Go.Proofs.YtkbbgjloifmmbaaGreatDoor.readAgain
open Go.ChangeShapes Go.WideShapes Go.ChangeAt Go.RowKit
open Go.ChangeMaps (open_string shut_string)
set_option linter.unusedVariables false
theorem own:ownKnob Tryz.prog.godebug=none:=by kernel_rfl
theorem laidOut:laidOutB Tryz.prog=true:=by kernel_rfl
set_option maxRecDepth 100000 in
theorem gl{W:World}(hL:laidMet Tryz.prog Rows.readAgainRow.laid W)(hS:W.ShapedOpen Tryz.prog):Gl W:=
 aoA bM bM bM bM ay bM hL hS
set_option maxRecDepth 100000 in
theorem lifted(os:Os)(started:os.Started)(H:Type)(enc:TypeId × Value->H):
 ReturnsInHanded {} Tryz.checked os 7 .any (fun w args=>(Rows.readAgainSpec.pre enc Tryz.prog Tryz.f7 Rows.readAgainRow.domain false w args/\laidMetH Tryz.prog Rows.readAgainRow.laid w)/\sizedMet enc Tryz.prog Tryz.f7 (OpenSpec.ofChange Rows.readAgainSpec) false w args)
  (Rows.readAgainSpec.post enc Tryz.prog Tryz.f7 false true false false):=by
 refine azH (C:=Tryz.checked) (X:=fun w _=>laidMetH Tryz.prog Rows.readAgainRow.laid w) (fun _ _ _ hh h=>h.of_heap hh) own started bM Tryz.func7
  (ChangeSpec.witness_shaped (enc:=enc) (C:=Tryz.checked) (os:=os) (X:=fun w _=>laidMetH Tryz.prog Rows.readAgainRow.laid w) false (World.laidAll Tryz.prog os Rows.readAgainRow.laid) #[.string ByteArray.empty] 8 (World.laidAll_os _ _ _)
   (World.shaped_of_ZipB bM bM) bM bM bM
   (by rw[MakeChecks.laidMetH_plain _ _ _ bM];exact laidMet_laidAll _ bM bM)) ?_
 intro W base args ds gs before aft hW aps hL hS;have hsz:(DataW.weightsEach Tryz.prog (Tryz.f7.params.toList++Rows.readAgainSpec.plain.varTypes Tryz.prog) (ds++gs)).all (· <=reachBytes)=true:=aps;have hval: ∀(j:Nat) t v,Tryz.f7.params[j]? =some t->args[j]? =some v->Value.okWide Tryz.prog W .any base t v:=aft;have hW':=hW;obtain⟨p,q,hA0,hV,rfl,hfz,hnd⟩:=hW;have hA:DataW.TrodAll enc Tryz.prog W 0 (fun _=>true) true Tryz.f7.params.toList args.toList ds p:=hA0;rw[Tryz.params7]at hA hval hsz;obtain⟨v0,vs0,d0,ds0,p0,q0,hargs,rfl,rfl,h0,r0⟩:=trodAll_cons hA;obtain⟨rfl,rfl,rfl⟩:=trodAll_nil r0;obtain rfl:args=#[v0]:=by cases args;simp_all
 obtain⟨rfl,rfl⟩:=trodVars_none hV;obtain⟨s0,rfl,rfl,rfl,ws0⟩:=open_string Tryz.underlying9 (hval 0 9 v0 rfl rfl) h0;clear hA0 aft;rw[MakeChecks.laidMetH_plain _ _ _ bM]at hL;obtain⟨t0,rfl⟩:=aj2 s0;refine(aqQ t0 (show t0.length<=9223372036854775807 by rw[<-bC];exact ws0) W (gl hL hS)).mono fun e W' ⟨he,cF⟩=>?_
 subst he;exact⟨_,rfl,_,_,_,[],_,[],hW',trodAll_mk1 (shut_bool Tryz.underlying4 _),(trodAll_cons_mk (shut_string Tryz.underlying9 ws0) trodAll_mk0),rfl,cF.frame _,fun h=>by cases h⟩
theorem ak2{a b:Bool}(h:a=true)(h2:b=true):(a&&b)=true:=by rw[h,h2];rfl
set_option maxHeartbeats 40000000 in
theorem closed:joinedFacts Tryz.pinned.checked.prog 7 Tryz.f7 Rows.readAgainSpec Rows.readAgainRow=true:=by
 unfold joinedFacts
 repeat' (with_reducible refine ak2 ?_ ?_)
 all_goals(as_aux_lemma=>kernel_rfl)
theorem over:Rows.readAgainRow.holds Tryz.pinned (OpenSpec.ofChange Rows.readAgainSpec):=
 OpenClaim.holds_of_wide 7 Tryz.f7 rfl rfl rfl rfl rfl rfl rfl ⟨rfl,rfl,rfl,rfl,rfl⟩ rfl rfl rfl rfl rfl (by as_aux_lemma=>kernel_rfl) Tryz.func7 closed
  (wB bM) (by unfold Func.isWrapper;first|(rw[ak dD];kernel_rfl)|(rw[ai dD];exact⟨rfl,rfl⟩))
  (fun os started H enc _=>lifted os started H enc)
theorem proved:Rows.ReadAgainCardSaid:=
 Claim7.holds_tied_plain_at .later [] [.data,.data,.data,.data,.sentinel,.sentinel,.data,.pinned] true Rows.readAgainCard.stood.harness true over (fun _ h=>by cases h) (by as_aux_lemma=>kernel_rfl) (fun _ h=>by cases h) readAgain_row_tie rfl ⟨rfl,rfl⟩ (by as_aux_lemma=>kernel_rfl) rfl
  (fun f fn hf hfn=>by
   obtain rfl:f=7:=fU ((show Tryz.prog.funcNamed Rows.readAgainRow.func=some 7 by as_aux_lemma=>kernel_rfl).symm.trans hf) |>.symm;obtain rfl:fn=Tryz.f7:=(fU (Tryz.func7.symm.trans hfn)).symm
   exact⟨by as_aux_lemma=>kernel_rfl,fun j t ht=>by
    rw[Tryz.params7]at ht;have hm:t∈[9]:=by simpa using Array.mem_of_getElem? ht
    have hall:([9].all fun u=> !Tryz.prog.wantsStandIn u)=true:=by as_aux_lemma=>kernel_rfl
    exact(show Tryz.prog.wantsStandIn t=false by simpa using fP.1 hall t hm)⟩)
  (by as_aux_lemma=>kernel_rfl)
end Go.Proofs.YtkbbgjloifmmbaaGreatDoor.readAgain

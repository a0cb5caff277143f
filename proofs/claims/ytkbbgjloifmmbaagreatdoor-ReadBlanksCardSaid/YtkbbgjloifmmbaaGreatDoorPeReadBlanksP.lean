/- The statement ReadBlanks, of every input: the call returns true and leaves its arguments as they were. Out of the contract lawReadBlanks. -/
import Derived.Test.YtkbbgjloifmmbaaGreatDoorCards
import Derived.Test.YtkbbgjloifmmbaaGreatDoorTie
import Derived.Test.YtkbbgjloifmmbaaGreatDoorPe1
namespace Go.Proofs.YtkbbgjloifmmbaaGreatDoor.readBlanks
open Go.ChangeShapes Go.WideShapes Go.ChangeAt Go.RowKit
open Go.ChangeMaps (open_string shut_string)
set_option linter.unusedVariables false
theorem own:ownKnob Tryz.prog.godebug=none:=by kernel_rfl
theorem laidOut:laidOutB Tryz.prog=true:=by kernel_rfl
set_option maxRecDepth 100000 in
theorem gl{W:World}(hL:laidMet Tryz.prog Rows.readBlanksRow.laid W)(hS:W.ShapedOpen Tryz.prog):Gl W:=
 Tn aN aN aN aN (by decide) aN hL hS
set_option maxRecDepth 100000 in
theorem lifted(os:Os)(started:os.Started)(H:Type)(enc:TypeId × Value->H):
 ReturnsInHanded {} Tryz.checked os 4 .any (fun w args=>(Rows.readBlanksSpec.pre enc Tryz.prog Tryz.f4 Rows.readBlanksRow.domain false w args/\laidMetH Tryz.prog Rows.readBlanksRow.laid w)/\sizedMet enc Tryz.prog Tryz.f4 (OpenSpec.ofChange Rows.readBlanksSpec) false w args)
  (Rows.readBlanksSpec.post enc Tryz.prog Tryz.f4 false true false false):=by
 refine aac (C:=Tryz.checked) (X:=fun w _=>laidMetH Tryz.prog Rows.readBlanksRow.laid w) (fun _ _ _ hh h=>h.of_heap hh) own started aN Tryz.func4
  (ChangeSpec.witness_shaped (enc:=enc) (C:=Tryz.checked) (os:=os) (X:=fun w _=>laidMetH Tryz.prog Rows.readBlanksRow.laid w) false (World.laidAll Tryz.prog os Rows.readBlanksRow.laid) #[.string ByteArray.empty,.slice none 0 0] 8 (World.laidAll_os _ _ _)
   (World.shaped_of_ZipB aN aN) aN aN aN
   (by rw[MakeChecks.laidMetH_plain _ _ _ aN];exact laidMet_laidAll _ aN aN)) ?_
 intro W base args ds gs before Ca hW Lv hL hS;have hsz:(DataW.weightsEach Tryz.prog (Tryz.f4.params.toList++Rows.readBlanksSpec.plain.varTypes Tryz.prog) (ds++gs)).all (· <=reachBytes)=true:=Lv;have hval: ∀(j:Nat) t v,Tryz.f4.params[j]? =some t->args[j]? =some v->Value.okWide Tryz.prog W .any base t v:=Ca;have Ku:=hW;obtain⟨p,q,Bs,hV,rfl,hfz,hnd⟩:=hW;have hA:DataW.TrodAll enc Tryz.prog W 0 (fun _=>true) true Tryz.f4.params.toList args.toList ds p:=Bs;rw[Tryz.params4]at hA hval hsz;obtain⟨v0,vs0,d0,ds0,p0,q0,hargs,rfl,rfl,h0,r0⟩:=trodAll_cons hA;obtain⟨v1,vs1,d1,ds1,p1,q1,rfl,rfl,rfl,h1,r1⟩:=trodAll_cons r0;obtain⟨rfl,rfl,rfl⟩:=trodAll_nil r1;obtain rfl:args=#[v0,v1]:=by cases args;simp_all
 obtain⟨rfl,rfl⟩:=trodVars_none hV;obtain⟨s0,rfl,rfl,rfl,DL⟩:=open_string Tryz.underlying9 (hval 0 9 v0 rfl rfl) h0;have k1:=h1;have lt1: ∀x∈p1,x.block<W.heap.size:=by obtain⟨m,hm⟩:=k1;exact DataW.trod_lt m _ _ _ hm
 obtain⟨b1,am6,c1,rfl⟩:=okWide_slice Tryz.underlying41 (hval 1 41 v1 rfl rfl);obtain⟨m1,rfl,v1,hc1,dH,hw1⟩:=agr Tryz.underlying41 Tryz.underlying3 aN aN h1 hsz 1 rfl rfl;clear Bs Ca;rw[MakeChecks.laidMetH_plain _ _ _ aN]at hL;obtain⟨t0,rfl⟩:=Ox s0;refine(ae9 t0 m1 b1 c1 W v1 (show t0.length<=9223372036854775807 by rw[<-aM];exact DL) (gl hL hS)).mono fun e W' ⟨he,bu⟩=>?_
 subst he;exact⟨_,rfl,_,_,_,[],_,[],Ku,trodAll_mk1 (shut_bool Tryz.underlying4 _),(trodAll_cons_mk (shut_string Tryz.underlying9 DL) (trodAll_cons_mk (Below.trod laidOut aN (of_decide_eq_true aN) k1 bu lt1) trodAll_mk0)),rfl,bu.frame _,fun h=>by cases h⟩
theorem Jm{a b:Bool}(h:a=true)(h2:b=true):(a&&b)=true:=by rw[h,h2];rfl
set_option maxHeartbeats 40000000 in
theorem closed:joinedFacts Tryz.pinned.checked.prog 4 Tryz.f4 Rows.readBlanksSpec Rows.readBlanksRow=true:=by
 unfold joinedFacts
 repeat' (with_reducible refine Jm ?_ ?_)
 all_goals(as_aux_lemma=>kernel_rfl)
theorem over:Rows.readBlanksRow.holds Tryz.pinned (OpenSpec.ofChange Rows.readBlanksSpec):=
 OpenClaim.holds_of_wide 4 Tryz.f4 rfl rfl rfl rfl rfl rfl rfl ⟨rfl,rfl,rfl,rfl,rfl⟩ rfl rfl rfl rfl rfl (by as_aux_lemma=>kernel_rfl) Tryz.func4 closed
  (of_decide_eq_true aN) (by unfold Func.isWrapper;first|(rw[if_pos dx];kernel_rfl)|(rw[if_neg dx];exact⟨rfl,rfl⟩))
  (fun os started H enc _=>lifted os started H enc)
theorem proved:Rows.ReadBlanksCardSaid:=
 Claim7.holds_tied_plain_at .later [] [.data,.data,.data,.data,.sentinel,.sentinel,.data,.pinned] true Rows.readBlanksCard.stood.harness true over (fun _ h=>by cases h) (by as_aux_lemma=>kernel_rfl) (fun _ h=>by cases h) readBlanks_row_tie rfl ⟨rfl,rfl⟩ (by as_aux_lemma=>kernel_rfl) rfl
  (fun f fn hf hfn=>by
   obtain rfl:f=4:=Option.some.inj ((show Tryz.prog.funcNamed Rows.readBlanksRow.func=some 4 by as_aux_lemma=>kernel_rfl).symm.trans hf) |>.symm;obtain rfl:fn=Tryz.f4:=(Option.some.inj (Tryz.func4.symm.trans hfn)).symm
   exact⟨by as_aux_lemma=>kernel_rfl,fun j t ht=>by
    rw[Tryz.params4]at ht;have hm:t∈[9,41]:=by simpa using Array.mem_of_getElem? ht
    have hall:([9,41].all fun u=> !Tryz.prog.wantsStandIn u)=true:=by as_aux_lemma=>kernel_rfl
    exact(show Tryz.prog.wantsStandIn t=false by simpa using List.all_eq_true.1 hall t hm)⟩)
  (by as_aux_lemma=>kernel_rfl)
end Go.Proofs.YtkbbgjloifmmbaaGreatDoor.readBlanks

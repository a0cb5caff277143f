/- From what a row lists of the library's variables, and from the world's shape, to what the walks ask; the wrap of a row that lists variables. Lemmas of this claim's own; no condition. -/
import Derived.Test.YtigimkgmghjgoaaGreatDoorLibS
import Derived.Stop.LaidErr
import Derived.Lib.LaidTab
import Derived.Lib.LaidU8
import Derived.Lay
import Derived.MakeChecks
import Derived.ShapedOpen
import Derived.SizedLaws
import Derived.LaidOnce
import Derived.SevenTiedAt
namespace Go.Proofs.YtigimkgmghjgoaaGreatDoor
open Go.RowKit Go.ChangeShapes
set_option linter.unusedVariables false

theorem gl_of_laid {W : World} {x0 x1 x6 : String × DataW Unit} {r : List (String × DataW Unit)} {npow nrange nsyn nm : String} {t1 t2 : List UInt8}
    (h1 : Tryz.prog.globalNamed npow = some 0) (hn1 : npow = powN) (h2 : nrange = "strconv.ErrRange") (h3 : nsyn = "strconv.ErrSyntax") (hnm : nm = "*" ++ "errors.errorString")
    (hL : laidMet Tryz.prog (x0 :: x1 :: (npow, Lib.tabData .u64 Lib.pow10Tab) :: x6 :: (nrange, .iface nm (.ptr (.agg [.lit (.string t1)]))) :: (nsyn, .iface nm (.ptr (.agg [.lit (.string t2)]))) :: r) W)
    (hS : W.ShapedOpen Tryz.prog) : Gl W := by
  subst h2 h3 hn1
  have hrow : ∀ u, Tryz.prog.typeName? 3 u = some nm → u = 177 := fun u hu => typeName_ptr_named (nm := "errors.errorString") (by kernel_rfl) (by kernel_rfl) (by decide) u (by rw [hu, hnm])
  obtain ⟨a0, s0, hv0, -⟩ := laid_sentinel hL.tail.tail.tail.tail (g := 2) (ti := 97) (by kernel_rfl) (by kernel_rfl) Tryz.underlying97 hrow Tryz.underlying177 Tryz.underlying179 rfl rfl Tryz.underlying9 (by kernel_rfl) (by kernel_rfl)
  obtain ⟨a1, s1, hv1, -⟩ := laid_sentinel hL.tail.tail.tail.tail.tail (g := 1) (ti := 97) (by kernel_rfl) (by kernel_rfl) Tryz.underlying97 hrow Tryz.underlying177 Tryz.underlying179 rfl rfl Tryz.underlying9 (by kernel_rfl) (by kernel_rfl)
  refine ⟨?_, Tryz.m146.s1_3 W hS, ⟨_, _, hv1⟩, ⟨_, _, hv0⟩⟩
  exact Lib.tabIs_of_head h1 (t := 159) (e := 124) (n := 20) (by kernel_rfl) Tryz.underlying159 Tryz.underlying124 (by kernel_rfl) (by kernel_rfl) hL.tail.tail
/-- the wrap of a row that lists variables, the world's shape handed on -/
theorem wrapS {H : Type} {enc : TypeId × Value → H} {a : Assume} {C : Checked} {os : Os} {f : FuncId} {fn : Func} {s : ChangeSpec} {conds : List PathCond} {apart fresh handsOn again : Bool} {X : World → Array Value → Prop}
    (hX : ∀ (w w' : World) (args : Array Value), w.heap = w'.heap → X w args → X w' args)
    (own : ownKnob C.prog.godebug = none) (started : os.Started) (noInit : C.prog.inits.idxOf? f = none) (hfn : C.prog.funcs[f]? = some fn)
    (witness : ∃ (w : World) (tape : Tape) (i : Input), w.os = os ∧ (w.forCall tape i).Shaped C.prog ∧ i.vars = [] ∧ Input.okWide C.prog (w.forCall tape i) .any w.heap.size f i ∧
      ((s.pre enc C.prog fn conds apart (w.forCall tape i).memory i.args ∧ X (w.forCall tape i).memory i.args) ∧ sizedMet enc C.prog fn (OpenSpec.ofChange s) apart (w.forCall tape i).memory i.args) ∧ a.holds C.prog (lone (Frame.enter C.prog f i.args .normal) [] (w.forCall tape i)))
    (contract : ∀ (W : World) (base : Nat) (args : Array Value) (ds gs : List (DataW H)) (before : List MemPlace),
      (∀ (j : Nat) t v, fn.params[j]? = some t → args[j]? = some v → Value.okWide C.prog W .any base t v) →
      DataW.Whole enc C.prog fn.params.toList s.vars apart W args.toList ds gs before →
      (DataW.weightsEach C.prog (fn.params.toList ++ s.plain.varTypes C.prog) (ds ++ gs)).all (· ≤ reachBytes) = true → X W args → W.ShapedOpen C.prog →
      Calls C.prog f args W fun e W' => ∃ v, e = .returned v ∧ s.post enc C.prog fn apart fresh handsOn again W args v W') :
    ReturnsInHanded a C os f .any (fun w args => (s.pre enc C.prog fn conds apart w args ∧ X w args) ∧ sizedMet enc C.prog fn (OpenSpec.ofChange s) apart w args) (s.post enc C.prog fn apart fresh handsOn again) := by
  refine returnsInHanded_of_calls own started noInit witness ?_
  intro w tape i _ hsh _ hok hpre _
  obtain ⟨_, _, _, fn', hfn', _, _, _, _, hval⟩ := hok
  obtain rfl : fn' = fn := Option.some.inj (hfn'.symm.trans hfn)
  obtain ⟨⟨⟨ds, gs, before, hw, hc⟩, hx⟩, hz⟩ := hpre
  have hw' := DataW.Whole.of_heap (w' := w.forCall tape i) (by rfl) hw
  refine (contract (w.forCall tape i) w.heap.size i.args ds gs before hval hw' (hz.weights hw) (hX _ _ _ (by rfl) hx) hsh).mono fun e W' ⟨v, he, hp⟩ => ?_
  subst he
  exact ChangeSpec.post_blind hp
end Go.Proofs.YtigimkgmghjgoaaGreatDoor

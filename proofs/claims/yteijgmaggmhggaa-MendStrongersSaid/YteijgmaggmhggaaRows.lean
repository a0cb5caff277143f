/-
  No cell of these rows narrows 'for every input' (looked for: loops, veiled, ifaces, maps, wideKeys, modest, calm, conditions, laid).
  DERIVED. THE GIVEN ROWS OF THIS SEAT. 3 by the template 'for every input the law returns true; each argument reads behind the call as it read before'; 0 by the template 'total and deterministic' (their statements: YteijgmaggmhggaaTotals.lean).
  GIVEN WITH THE SEED: the statements are not yours to turn. If you find one false, say at which input.
  Laid BY PROGRAM, IN A SANDBOX (cutbox-rows.mjs): the forced cells as the released guide's own fill.sh prints them over the translation 9f3b37ce2e99e518… (all of the seat's roots in one cut). By AI agents, Wed Nov 11 2026. No macro, syntax, notation, axiom, sorry.
-/
import Derived.Test.YteijgmaggmhggaaChecked
import GoSem.Claim
import GoSem.ClaimJoined
import GoSem.ClaimMapViews
import Derived.JoinedTies
import Derived.KernelRfl
namespace Go.Proofs.Yteijgmaggmhggaa
/- THE CELL 'sum', in the pinned program and in every row, IS THE sha256 OF THE DUMP (.gsa) THAT YteijgmaggmhggaaProg.lean LOADS. Nothing in Lean hashes anything: it is a label: what it is worth is what the hold of that sum in a sandbox is worth. -/
noncomputable def Try.pinned : Pinned := { name := "yteijgmaggmhggaa", sum := "9f3b37ce2e99e5188f17f10ae24b755cfecc686ec5ac3a7297603c40c13a4179", checked := Try.checked }
namespace Rows
def none {H : Type} : Left H := { results := [], args := [] }

/-- 'alembiclaw26.MendStrongers': WHATEVER THE INPUT: true; the input reads as it did. -/
def mendStrongersSpec : ChangeSpec := { name := "mendStrongers", fn := fun _ => fun
  | [d1, d2] => { results := [.lit (.bool true)], args := [d1, d2] }
  | _ => none }
def mendStrongersRow : OpenClaim := { program := "yteijgmaggmhggaa", sum := "9f3b37ce2e99e5188f17f10ae24b755cfecc686ec5ac3a7297603c40c13a4179", func := "alembic/alembiclaw26.MendStrongers", spec := "mendStrongers", unfollowed := true, recurses := true, apart := false }
def MendStrongersSaid : Prop := mendStrongersRow.holds Try.pinned (OpenSpec.ofChange mendStrongersSpec)

/-- ITS FALSE NEIGHBOUR: 'it returns false'. Refute it at one input. -/
def mendStrongersWrong : ChangeSpec := { name := "mendStrongers", fn := fun _ => fun
  | [d1, d2] => { results := [.lit (.bool false)], args := [d1, d2] }
  | _ => none }
def MendStrongersWrongFalsely : Prop := mendStrongersRow.holds Try.pinned (OpenSpec.ofChange mendStrongersWrong)

/-- 'alembiclaw26.MendWeakers': WHATEVER THE INPUT: true; the input reads as it did. -/
def mendWeakersSpec : ChangeSpec := { name := "mendWeakers", fn := fun _ => fun
  | [d1, d2, d3] => { results := [.lit (.bool true)], args := [d1, d2, d3] }
  | _ => none }
def mendWeakersRow : OpenClaim := { program := "yteijgmaggmhggaa", sum := "9f3b37ce2e99e5188f17f10ae24b755cfecc686ec5ac3a7297603c40c13a4179", func := "alembic/alembiclaw26.MendWeakers", spec := "mendWeakers", unfollowed := true, recurses := true, apart := false }
def MendWeakersSaid : Prop := mendWeakersRow.holds Try.pinned (OpenSpec.ofChange mendWeakersSpec)

/-- ITS FALSE NEIGHBOUR: 'it returns false'. Refute it at one input. -/
def mendWeakersWrong : ChangeSpec := { name := "mendWeakers", fn := fun _ => fun
  | [d1, d2, d3] => { results := [.lit (.bool false)], args := [d1, d2, d3] }
  | _ => none }
def MendWeakersWrongFalsely : Prop := mendWeakersRow.holds Try.pinned (OpenSpec.ofChange mendWeakersWrong)

/-- 'alembiclaw26.MendOrder': WHATEVER THE INPUT: true; the input reads as it did. -/
def mendOrderSpec : ChangeSpec := { name := "mendOrder", fn := fun _ => fun
  | [d1, d2, d3, d4] => { results := [.lit (.bool true)], args := [d1, d2, d3, d4] }
  | _ => none }
def mendOrderRow : OpenClaim := { program := "yteijgmaggmhggaa", sum := "9f3b37ce2e99e5188f17f10ae24b755cfecc686ec5ac3a7297603c40c13a4179", func := "alembic/alembiclaw26.MendOrder", spec := "mendOrder", unfollowed := true, recurses := true, apart := false }
def MendOrderSaid : Prop := mendOrderRow.holds Try.pinned (OpenSpec.ofChange mendOrderSpec)

/-- ITS FALSE NEIGHBOUR: 'it returns false'. Refute it at one input. -/
def mendOrderWrong : ChangeSpec := { name := "mendOrder", fn := fun _ => fun
  | [d1, d2, d3, d4] => { results := [.lit (.bool false)], args := [d1, d2, d3, d4] }
  | _ => none }
def MendOrderWrongFalsely : Prop := mendOrderRow.holds Try.pinned (OpenSpec.ofChange mendOrderWrong)

/- THE SECOND FORM. 'bulk': how many values and letters a reading holds, each counted each time it is reached (what is shared counts as often as it is met; a slice's spare places count too). A statement '..UptoSaid' is the law's where the arguments, and the package variables that the reading takes, are together of bulk at most 1048576: NARROWER than '..Said'. Prove '..Said' where nothing that the law and all that it calls make is longer than what came in: it says more and counts as full. Else prove '..UptoSaid'. A law counts once. -/
mutual
def uptoBulk {H : Type} : DataW H → Nat
  | .lit (.string bytes) => bytes.length + 1
  | .lit _ => 1
  | .nil => 1
  | .ptr d => uptoBulk d + 1
  | .slice elems spare => uptoBulkAll elems + uptoBulkAll spare + 1
  | .agg parts => uptoBulkAll parts + 1
  | .iface _ d => uptoBulk d + 1
  | .map entries => uptoBulkEntries entries + 1
  | .held _ => 1
def uptoBulkAll {H : Type} : List (DataW H) → Nat
  | [] => 0
  | d :: r => uptoBulk d + uptoBulkAll r
def uptoBulkEntries {H : Type} : List (Lit × DataW H) → Nat
  | [] => 0
  | x :: r => uptoBulkEntry x + uptoBulkEntries r
def uptoBulkEntry {H : Type} : Lit × DataW H → Nat
  | (.string bytes, d) => bytes.length + uptoBulk d + 1
  | (_, d) => uptoBulk d + 1
 end
def uptoSmall : (H : Type) → List (DataW H) → Bool := fun _ ds => decide (uptoBulkAll ds ≤ 1048576)
def OpenSpec.upto (s : _root_.Go.ChangeSpec) : _root_.Go.OpenSpec := { _root_.Go.OpenSpec.ofChange s with cond := some uptoSmall }

/-- 'alembiclaw26.MendStrongers', WHERE WHAT IT READS IS OF BULK AT MOST 1048576: true; the input reads as it did. -/
def mendStrongersUptoRow : OpenClaim := { program := "yteijgmaggmhggaa", sum := "9f3b37ce2e99e5188f17f10ae24b755cfecc686ec5ac3a7297603c40c13a4179", func := "alembic/alembiclaw26.MendStrongers", spec := "mendStrongers", unfollowed := true, recurses := true, apart := false, narrowed := true }
def MendStrongersUptoSaid : Prop := mendStrongersUptoRow.holds Try.pinned (OpenSpec.upto mendStrongersSpec)

/-- 'alembiclaw26.MendWeakers', WHERE WHAT IT READS IS OF BULK AT MOST 1048576: true; the input reads as it did. -/
def mendWeakersUptoRow : OpenClaim := { program := "yteijgmaggmhggaa", sum := "9f3b37ce2e99e5188f17f10ae24b755cfecc686ec5ac3a7297603c40c13a4179", func := "alembic/alembiclaw26.MendWeakers", spec := "mendWeakers", unfollowed := true, recurses := true, apart := false, narrowed := true }
def MendWeakersUptoSaid : Prop := mendWeakersUptoRow.holds Try.pinned (OpenSpec.upto mendWeakersSpec)

/-- 'alembiclaw26.MendOrder', WHERE WHAT IT READS IS OF BULK AT MOST 1048576: true; the input reads as it did. -/
def mendOrderUptoRow : OpenClaim := { program := "yteijgmaggmhggaa", sum := "9f3b37ce2e99e5188f17f10ae24b755cfecc686ec5ac3a7297603c40c13a4179", func := "alembic/alembiclaw26.MendOrder", spec := "mendOrder", unfollowed := true, recurses := true, apart := false, narrowed := true }
def MendOrderUptoSaid : Prop := mendOrderUptoRow.holds Try.pinned (OpenSpec.upto mendOrderSpec)

end Rows
end Go.Proofs.Yteijgmaggmhggaa

/-
  No cell of these rows narrows 'for every input' (looked for: loops, veiled, ifaces, maps, wideKeys, modest, calm, conditions, laid).
  DERIVED. THE GIVEN ROWS OF THIS SEAT. 8 by the template 'for every input the law returns true; each argument reads behind the call as it read before'; 0 by the template 'total and deterministic' (their statements: YtdafpafoioejaaaTotals.lean).
  GIVEN WITH THE SEED: the statements are not yours to turn. If you find one false, say at which input.
  Laid BY PROGRAM, IN A SANDBOX (cutbox-rows.mjs): the forced cells as the released guide's own fill.sh prints them over the translation 2c11e8616e43387b… (all of the seat's roots in one cut). By AI agents, Wed Nov 11 2026. No macro, syntax, notation, axiom, sorry.
-/
import Derived.Test.YtdafpafoioejaaaChecked
import GoSem.Claim
import GoSem.ClaimJoined
import GoSem.ClaimMapViews
import Derived.JoinedTies
import Derived.KernelRfl
namespace Go.Proofs.Ytdafpafoioejaaa
/- THE CELL 'sum', in the pinned program and in every row, IS THE sha256 OF THE DUMP (.gsa) THAT YtdafpafoioejaaaProg.lean LOADS. Nothing in Lean hashes anything: it is a label: what it is worth is what the hold of that sum in a sandbox is worth. -/
noncomputable def Try.pinned : Pinned := { name := "ytdafpafoioejaaa", sum := "2c11e8616e43387b05a899c0235fda1de99000f7aea6b84ee0e2a32c80633485", checked := Try.checked }
namespace Rows
def none {H : Type} : Left H := { results := [], args := [] }

/-- 'alembiclaw02.RoundLeast': WHATEVER THE INPUT: true; the input reads as it did. -/
def roundLeastSpec : ChangeSpec := { name := "roundLeast", fn := fun _ => fun
  | [d] => { results := [.lit (.bool true)], args := [d] }
  | _ => none }
def roundLeastRow : OpenClaim := { program := "ytdafpafoioejaaa", sum := "2c11e8616e43387b05a899c0235fda1de99000f7aea6b84ee0e2a32c80633485", func := "alembic/alembiclaw02.RoundLeast", spec := "roundLeast", apart := false }
def RoundLeastSaid : Prop := roundLeastRow.holds Try.pinned (OpenSpec.ofChange roundLeastSpec)

/-- ITS FALSE NEIGHBOUR: 'it returns false'. Refute it at one input. -/
def roundLeastWrong : ChangeSpec := { name := "roundLeast", fn := fun _ => fun
  | [d] => { results := [.lit (.bool false)], args := [d] }
  | _ => none }
def RoundLeastWrongFalsely : Prop := roundLeastRow.holds Try.pinned (OpenSpec.ofChange roundLeastWrong)

/-- 'alembiclaw02.RoundBest': WHATEVER THE INPUT: true; the input reads as it did. -/
def roundBestSpec : ChangeSpec := { name := "roundBest", fn := fun _ => fun
  | [d1, d2] => { results := [.lit (.bool true)], args := [d1, d2] }
  | _ => none }
def roundBestRow : OpenClaim := { program := "ytdafpafoioejaaa", sum := "2c11e8616e43387b05a899c0235fda1de99000f7aea6b84ee0e2a32c80633485", func := "alembic/alembiclaw02.RoundBest", spec := "roundBest", apart := false }
def RoundBestSaid : Prop := roundBestRow.holds Try.pinned (OpenSpec.ofChange roundBestSpec)

/-- ITS FALSE NEIGHBOUR: 'it returns false'. Refute it at one input. -/
def roundBestWrong : ChangeSpec := { name := "roundBest", fn := fun _ => fun
  | [d1, d2] => { results := [.lit (.bool false)], args := [d1, d2] }
  | _ => none }
def RoundBestWrongFalsely : Prop := roundBestRow.holds Try.pinned (OpenSpec.ofChange roundBestWrong)

/-- 'alembiclaw02.RoundCuts': WHATEVER THE INPUT: true; the input reads as it did. -/
def roundCutsSpec : ChangeSpec := { name := "roundCuts", fn := fun _ => fun
  | [d] => { results := [.lit (.bool true)], args := [d] }
  | _ => none }
def roundCutsRow : OpenClaim := { program := "ytdafpafoioejaaa", sum := "2c11e8616e43387b05a899c0235fda1de99000f7aea6b84ee0e2a32c80633485", func := "alembic/alembiclaw02.RoundCuts", spec := "roundCuts", apart := false }
def RoundCutsSaid : Prop := roundCutsRow.holds Try.pinned (OpenSpec.ofChange roundCutsSpec)

/-- ITS FALSE NEIGHBOUR: 'it returns false'. Refute it at one input. -/
def roundCutsWrong : ChangeSpec := { name := "roundCuts", fn := fun _ => fun
  | [d] => { results := [.lit (.bool false)], args := [d] }
  | _ => none }
def RoundCutsWrongFalsely : Prop := roundCutsRow.holds Try.pinned (OpenSpec.ofChange roundCutsWrong)

/-- 'alembiclaw02.RoundMemory': WHATEVER THE INPUT: true; the input reads as it did. -/
def roundMemorySpec : ChangeSpec := { name := "roundMemory", fn := fun _ => fun
  | [d1, d2, d3] => { results := [.lit (.bool true)], args := [d1, d2, d3] }
  | _ => none }
def roundMemoryRow : OpenClaim := { program := "ytdafpafoioejaaa", sum := "2c11e8616e43387b05a899c0235fda1de99000f7aea6b84ee0e2a32c80633485", func := "alembic/alembiclaw02.RoundMemory", spec := "roundMemory", apart := false }
def RoundMemorySaid : Prop := roundMemoryRow.holds Try.pinned (OpenSpec.ofChange roundMemorySpec)

/-- ITS FALSE NEIGHBOUR: 'it returns false'. Refute it at one input. -/
def roundMemoryWrong : ChangeSpec := { name := "roundMemory", fn := fun _ => fun
  | [d1, d2, d3] => { results := [.lit (.bool false)], args := [d1, d2, d3] }
  | _ => none }
def RoundMemoryWrongFalsely : Prop := roundMemoryRow.holds Try.pinned (OpenSpec.ofChange roundMemoryWrong)

/-- 'alembiclaw02.RoundTurns': WHATEVER THE INPUT: true; the input reads as it did. -/
def roundTurnsSpec : ChangeSpec := { name := "roundTurns", fn := fun _ => fun
  | [d1, d2, d3] => { results := [.lit (.bool true)], args := [d1, d2, d3] }
  | _ => none }
def roundTurnsRow : OpenClaim := { program := "ytdafpafoioejaaa", sum := "2c11e8616e43387b05a899c0235fda1de99000f7aea6b84ee0e2a32c80633485", func := "alembic/alembiclaw02.RoundTurns", spec := "roundTurns", apart := false }
def RoundTurnsSaid : Prop := roundTurnsRow.holds Try.pinned (OpenSpec.ofChange roundTurnsSpec)

/-- ITS FALSE NEIGHBOUR: 'it returns false'. Refute it at one input. -/
def roundTurnsWrong : ChangeSpec := { name := "roundTurns", fn := fun _ => fun
  | [d1, d2, d3] => { results := [.lit (.bool false)], args := [d1, d2, d3] }
  | _ => none }
def RoundTurnsWrongFalsely : Prop := roundTurnsRow.holds Try.pinned (OpenSpec.ofChange roundTurnsWrong)

/-- 'alembiclaw02.RoundComes': WHATEVER THE INPUT: true; the input reads as it did. -/
def roundComesSpec : ChangeSpec := { name := "roundComes", fn := fun _ => fun
  | [d1, d2] => { results := [.lit (.bool true)], args := [d1, d2] }
  | _ => none }
def roundComesRow : OpenClaim := { program := "ytdafpafoioejaaa", sum := "2c11e8616e43387b05a899c0235fda1de99000f7aea6b84ee0e2a32c80633485", func := "alembic/alembiclaw02.RoundComes", spec := "roundComes", apart := false }
def RoundComesSaid : Prop := roundComesRow.holds Try.pinned (OpenSpec.ofChange roundComesSpec)

/-- ITS FALSE NEIGHBOUR: 'it returns false'. Refute it at one input. -/
def roundComesWrong : ChangeSpec := { name := "roundComes", fn := fun _ => fun
  | [d1, d2] => { results := [.lit (.bool false)], args := [d1, d2] }
  | _ => none }
def RoundComesWrongFalsely : Prop := roundComesRow.holds Try.pinned (OpenSpec.ofChange roundComesWrong)

/-- 'alembiclaw02.RoundClasses': WHATEVER THE INPUT: true; the input reads as it did. -/
def roundClassesSpec : ChangeSpec := { name := "roundClasses", fn := fun _ => fun
  | [d] => { results := [.lit (.bool true)], args := [d] }
  | _ => none }
def roundClassesRow : OpenClaim := { program := "ytdafpafoioejaaa", sum := "2c11e8616e43387b05a899c0235fda1de99000f7aea6b84ee0e2a32c80633485", func := "alembic/alembiclaw02.RoundClasses", spec := "roundClasses", apart := false }
def RoundClassesSaid : Prop := roundClassesRow.holds Try.pinned (OpenSpec.ofChange roundClassesSpec)

/-- ITS FALSE NEIGHBOUR: 'it returns false'. Refute it at one input. -/
def roundClassesWrong : ChangeSpec := { name := "roundClasses", fn := fun _ => fun
  | [d] => { results := [.lit (.bool false)], args := [d] }
  | _ => none }
def RoundClassesWrongFalsely : Prop := roundClassesRow.holds Try.pinned (OpenSpec.ofChange roundClassesWrong)

/-- 'alembiclaw02.RoundApart': WHATEVER THE INPUT: true; the input reads as it did. -/
def roundApartSpec : ChangeSpec := { name := "roundApart", fn := fun _ => fun
  | [d] => { results := [.lit (.bool true)], args := [d] }
  | _ => none }
def roundApartRow : OpenClaim := { program := "ytdafpafoioejaaa", sum := "2c11e8616e43387b05a899c0235fda1de99000f7aea6b84ee0e2a32c80633485", func := "alembic/alembiclaw02.RoundApart", spec := "roundApart", apart := false }
def RoundApartSaid : Prop := roundApartRow.holds Try.pinned (OpenSpec.ofChange roundApartSpec)

/-- ITS FALSE NEIGHBOUR: 'it returns false'. Refute it at one input. -/
def roundApartWrong : ChangeSpec := { name := "roundApart", fn := fun _ => fun
  | [d] => { results := [.lit (.bool false)], args := [d] }
  | _ => none }
def RoundApartWrongFalsely : Prop := roundApartRow.holds Try.pinned (OpenSpec.ofChange roundApartWrong)

/- THE SECOND FORM. 'bulk': how many values and letters a reading holds, each counted each time it is reached (what is shared counts as often as it is met; a slice's spare places count too). A statement '..UptoSaid' is the law's where the arguments, and the package variables that the reading takes, are together of bulk at most 1048576: NARROWER than '..Said'. Prove '..Said' where nothing that the law and all that it calls make is longer than what came in: it says more and counts as full. Else prove '..UptoSaid'. A law counts once. -/
mutual
def uptoBulk {H : Type} : DataW H → Nat
  | .lit (.string bytes) => bytes.length + 1
  | .lit _ => 1
  | .nil => 1
  | .ptr d => uptoBulk d + 1
  | .slice elems spare => uptoBulkAll elems + uptoBulkAll spare + 1
  | .agg parts => uptoBulkAll parts + 1
  | .iface _ d => uptoBulk d + 1
  | .map entries => uptoBulkEntries entries + 1
  | .held _ => 1
def uptoBulkAll {H : Type} : List (DataW H) → Nat
  | [] => 0
  | d :: r => uptoBulk d + uptoBulkAll r
def uptoBulkEntries {H : Type} : List (Lit × DataW H) → Nat
  | [] => 0
  | x :: r => uptoBulkEntry x + uptoBulkEntries r
def uptoBulkEntry {H : Type} : Lit × DataW H → Nat
  | (.string bytes, d) => bytes.length + uptoBulk d + 1
  | (_, d) => uptoBulk d + 1
 end
def uptoSmall : (H : Type) → List (DataW H) → Bool := fun _ ds => decide (uptoBulkAll ds ≤ 1048576)
def OpenSpec.upto (s : _root_.Go.ChangeSpec) : _root_.Go.OpenSpec := { _root_.Go.OpenSpec.ofChange s with cond := some uptoSmall }

/-- 'alembiclaw02.RoundLeast', WHERE WHAT IT READS IS OF BULK AT MOST 1048576: true; the input reads as it did. -/
def roundLeastUptoRow : OpenClaim := { program := "ytdafpafoioejaaa", sum := "2c11e8616e43387b05a899c0235fda1de99000f7aea6b84ee0e2a32c80633485", func := "alembic/alembiclaw02.RoundLeast", spec := "roundLeast", apart := false, narrowed := true }
def RoundLeastUptoSaid : Prop := roundLeastUptoRow.holds Try.pinned (OpenSpec.upto roundLeastSpec)

/-- 'alembiclaw02.RoundBest', WHERE WHAT IT READS IS OF BULK AT MOST 1048576: true; the input reads as it did. -/
def roundBestUptoRow : OpenClaim := { program := "ytdafpafoioejaaa", sum := "2c11e8616e43387b05a899c0235fda1de99000f7aea6b84ee0e2a32c80633485", func := "alembic/alembiclaw02.RoundBest", spec := "roundBest", apart := false, narrowed := true }
def RoundBestUptoSaid : Prop := roundBestUptoRow.holds Try.pinned (OpenSpec.upto roundBestSpec)

/-- 'alembiclaw02.RoundCuts', WHERE WHAT IT READS IS OF BULK AT MOST 1048576: true; the input reads as it did. -/
def roundCutsUptoRow : OpenClaim := { program := "ytdafpafoioejaaa", sum := "2c11e8616e43387b05a899c0235fda1de99000f7aea6b84ee0e2a32c80633485", func := "alembic/alembiclaw02.RoundCuts", spec := "roundCuts", apart := false, narrowed := true }
def RoundCutsUptoSaid : Prop := roundCutsUptoRow.holds Try.pinned (OpenSpec.upto roundCutsSpec)

/-- 'alembiclaw02.RoundMemory', WHERE WHAT IT READS IS OF BULK AT MOST 1048576: true; the input reads as it did. -/
def roundMemoryUptoRow : OpenClaim := { program := "ytdafpafoioejaaa", sum := "2c11e8616e43387b05a899c0235fda1de99000f7aea6b84ee0e2a32c80633485", func := "alembic/alembiclaw02.RoundMemory", spec := "roundMemory", apart := false, narrowed := true }
def RoundMemoryUptoSaid : Prop := roundMemoryUptoRow.holds Try.pinned (OpenSpec.upto roundMemorySpec)

/-- 'alembiclaw02.RoundTurns', WHERE WHAT IT READS IS OF BULK AT MOST 1048576: true; the input reads as it did. -/
def roundTurnsUptoRow : OpenClaim := { program := "ytdafpafoioejaaa", sum := "2c11e8616e43387b05a899c0235fda1de99000f7aea6b84ee0e2a32c80633485", func := "alembic/alembiclaw02.RoundTurns", spec := "roundTurns", apart := false, narrowed := true }
def RoundTurnsUptoSaid : Prop := roundTurnsUptoRow.holds Try.pinned (OpenSpec.upto roundTurnsSpec)

/-- 'alembiclaw02.RoundComes', WHERE WHAT IT READS IS OF BULK AT MOST 1048576: true; the input reads as it did. -/
def roundComesUptoRow : OpenClaim := { program := "ytdafpafoioejaaa", sum := "2c11e8616e43387b05a899c0235fda1de99000f7aea6b84ee0e2a32c80633485", func := "alembic/alembiclaw02.RoundComes", spec := "roundComes", apart := false, narrowed := true }
def RoundComesUptoSaid : Prop := roundComesUptoRow.holds Try.pinned (OpenSpec.upto roundComesSpec)

/-- 'alembiclaw02.RoundClasses', WHERE WHAT IT READS IS OF BULK AT MOST 1048576: true; the input reads as it did. -/
def roundClassesUptoRow : OpenClaim := { program := "ytdafpafoioejaaa", sum := "2c11e8616e43387b05a899c0235fda1de99000f7aea6b84ee0e2a32c80633485", func := "alembic/alembiclaw02.RoundClasses", spec := "roundClasses", apart := false, narrowed := true }
def RoundClassesUptoSaid : Prop := roundClassesUptoRow.holds Try.pinned (OpenSpec.upto roundClassesSpec)

/-- 'alembiclaw02.RoundApart', WHERE WHAT IT READS IS OF BULK AT MOST 1048576: true; the input reads as it did. -/
def roundApartUptoRow : OpenClaim := { program := "ytdafpafoioejaaa", sum := "2c11e8616e43387b05a899c0235fda1de99000f7aea6b84ee0e2a32c80633485", func := "alembic/alembiclaw02.RoundApart", spec := "roundApart", apart := false, narrowed := true }
def RoundApartUptoSaid : Prop := roundApartUptoRow.holds Try.pinned (OpenSpec.upto roundApartSpec)

end Rows
end Go.Proofs.Ytdafpafoioejaaa

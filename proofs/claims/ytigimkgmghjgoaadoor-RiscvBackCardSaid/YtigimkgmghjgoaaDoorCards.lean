/-
  DERIVED. GIVEN WITH THE SEED: THE CARDS: each row of YtigimkgmghjgoaaDoorRows.lean that lists a variable, with what it lists TIED to the program's text (the seventh form; the later family's looks); each row that meets fmt, with fmt's text TOLD by the authors' own Lean function (tested against real Go, not proved from fmt's source: count such statements apart). THE CARD IS WHAT COUNTS. Prove the row's statement (the work); the ties are given (YtigimkgmghjgoaaDoorTie.lean); close each card by the builder's one call (the guide's Derived/Test/ToyasCard.lean, 'card_holds'). Laid BY PROGRAM, IN A SANDBOX (cutbox-door.mjs). By AI agents, Wed Nov 11 2026. No macro, syntax, notation, axiom, sorry.
-/
import Derived.Test.YtigimkgmghjgoaaDoorRows
import GoSem.ClaimSeven
namespace Go.Proofs.YtigimkgmghjgoaaDoor
namespace Rows

/-- THE TIED CARD OF 'alembiclaw10.RiscvRegs'. -/
def riscvRegsCard : Claim7 := { stood := { row := riscvRegsRow, standIns := [], harness := (true, "0997552c0663b97826fcdc2b04884cfc657a17d6fc90cfec1f9bdc03af16c96e"), looks := true }, kinds := [], alts := [], laidByText := true, laidKinds := [.data, .data, .data, .data, .sentinel, .sentinel, .pinned], laidTests := true, laidLooks := .later }
def RiscvRegsCardSaid : Prop := Claim7.holds Tryd.pinned (.plain (OpenSpec.ofChange riscvRegsSpec)) riscvRegsCard

/-- THE TIED CARD OF 'alembiclaw10.RiscvBack'. -/
def riscvBackCard : Claim7 := { stood := { row := riscvBackRow, standIns := [], harness := (true, "0997552c0663b97826fcdc2b04884cfc657a17d6fc90cfec1f9bdc03af16c96e"), looks := true }, kinds := [], alts := [], laidByText := true, laidKinds := [.data, .data, .data, .data, .sentinel, .sentinel, .pinned], laidTests := true, laidLooks := .later }
def RiscvBackCardSaid : Prop := Claim7.holds Tryd.pinned (.plain (OpenSpec.ofChange riscvBackSpec)) riscvBackCard

/-- THE SECOND FORM's CARD OF 'alembiclaw10.RiscvRegs'. -/
def riscvRegsUptoCard : Claim7 := { stood := { row := riscvRegsUptoRow, standIns := [], harness := (true, "0997552c0663b97826fcdc2b04884cfc657a17d6fc90cfec1f9bdc03af16c96e"), looks := true }, kinds := [], alts := [], laidByText := true, laidKinds := [.data, .data, .data, .data, .sentinel, .sentinel, .pinned], laidTests := true, laidLooks := .later }
def RiscvRegsUptoCardSaid : Prop := Claim7.holds Tryd.pinned (.plain (OpenSpec.upto riscvRegsSpec)) riscvRegsUptoCard

/-- THE SECOND FORM's CARD OF 'alembiclaw10.RiscvBack'. -/
def riscvBackUptoCard : Claim7 := { stood := { row := riscvBackUptoRow, standIns := [], harness := (true, "0997552c0663b97826fcdc2b04884cfc657a17d6fc90cfec1f9bdc03af16c96e"), looks := true }, kinds := [], alts := [], laidByText := true, laidKinds := [.data, .data, .data, .data, .sentinel, .sentinel, .pinned], laidTests := true, laidLooks := .later }
def RiscvBackUptoCardSaid : Prop := Claim7.holds Tryd.pinned (.plain (OpenSpec.upto riscvBackSpec)) riscvBackUptoCard
end Rows
end Go.Proofs.YtigimkgmghjgoaaDoor

/-
  DERIVED. GIVEN WITH THE SEED: THE CARDS: each row of YtigimkgmghjgoaaGreatDoorRows.lean that lists a variable, with what it lists TIED to the program's text (the seventh form; the later family's looks); each row that meets fmt, with fmt's text TOLD by the authors' own Lean function (tested against real Go, not proved from fmt's source: count such statements apart). THE CARD IS WHAT COUNTS. Prove the row's statement (the work); the ties are given (YtigimkgmghjgoaaGreatDoorTie.lean); close each card by the builder's one call (the guide's Derived/Test/ToyasCard.lean, 'card_holds'). Laid BY PROGRAM, IN A SANDBOX (cutbox-door.mjs). By AI agents, Wed Nov 11 2026. No macro, syntax, notation, axiom, sorry.
-/
import Derived.Test.YtigimkgmghjgoaaGreatDoorRows
import GoSem.ClaimSeven
namespace Go.Proofs.YtigimkgmghjgoaaGreatDoor
namespace Rows

/-- THE TIED CARD OF 'alembiclaw10.RiscvTexts'. -/
def riscvTextsCard : Claim7 := { stood := { row := riscvTextsRow, standIns := [], harness := (true, "5b5f794bbdb98f3b3ade188f2182c3cb14d0121a7e5050b320ea0f34ad13b6a4"), looks := true }, kinds := [], alts := [], laidByText := true, laidKinds := [.data, .data, .data, .data, .sentinel, .sentinel, .pinned], laidTests := true, laidLooks := .later }
def RiscvTextsCardSaid : Prop := Claim7.holds Tryz.pinned (.plain (OpenSpec.ofChange riscvTextsSpec)) riscvTextsCard

/-- THE TIED CARD OF 'alembiclaw10.RiscvLinks'. -/
def riscvLinksCard : Claim7 := { stood := { row := riscvLinksRow, standIns := [], harness := (true, "5b5f794bbdb98f3b3ade188f2182c3cb14d0121a7e5050b320ea0f34ad13b6a4"), looks := true }, kinds := [], alts := [], laidByText := true, laidKinds := [.data, .data, .data, .data, .sentinel, .sentinel, .pinned], laidTests := true, laidLooks := .later }
def RiscvLinksCardSaid : Prop := Claim7.holds Tryz.pinned (.plain (OpenSpec.ofChange riscvLinksSpec)) riscvLinksCard

/-- THE TIED CARD OF 'alembiclaw10.RiscvDoes'. -/
def riscvDoesCard : Claim7 := { stood := { row := riscvDoesRow, standIns := [], harness := (true, "5b5f794bbdb98f3b3ade188f2182c3cb14d0121a7e5050b320ea0f34ad13b6a4"), looks := true }, kinds := [], alts := [], laidByText := true, laidKinds := [.data, .data, .data, .data, .sentinel, .sentinel, .pinned], laidTests := true, laidLooks := .later }
def RiscvDoesCardSaid : Prop := Claim7.holds Tryz.pinned (.plain (OpenSpec.ofChange riscvDoesSpec)) riscvDoesCard

/-- THE TIED CARD OF 'alembiclaw10.RiscvSums'. -/
def riscvSumsCard : Claim7 := { stood := { row := riscvSumsRow, standIns := [], harness := (true, "5b5f794bbdb98f3b3ade188f2182c3cb14d0121a7e5050b320ea0f34ad13b6a4"), looks := true }, kinds := [], alts := [], laidByText := true, laidKinds := [.data, .data, .data, .data, .sentinel, .sentinel, .pinned], laidTests := true, laidLooks := .later }
def RiscvSumsCardSaid : Prop := Claim7.holds Tryz.pinned (.plain (OpenSpec.ofChange riscvSumsSpec)) riscvSumsCard

/-- THE TIED CARD OF 'alembiclaw10.RiscvEnds'. -/
def riscvEndsCard : Claim7 := { stood := { row := riscvEndsRow, standIns := [], harness := (true, "5b5f794bbdb98f3b3ade188f2182c3cb14d0121a7e5050b320ea0f34ad13b6a4"), looks := true }, kinds := [], alts := [], laidByText := true, laidKinds := [.data, .data, .data, .data, .sentinel, .sentinel, .pinned], laidTests := true, laidLooks := .later }
def RiscvEndsCardSaid : Prop := Claim7.holds Tryz.pinned (.plain (OpenSpec.ofChange riscvEndsSpec)) riscvEndsCard

/-- THE TIED CARD OF 'alembiclaw10.RiscvUses'. -/
def riscvUsesCard : Claim7 := { stood := { row := riscvUsesRow, standIns := [], harness := (true, "5b5f794bbdb98f3b3ade188f2182c3cb14d0121a7e5050b320ea0f34ad13b6a4"), looks := true }, kinds := [], alts := [], laidByText := true, laidKinds := [.data, .data, .data, .data, .sentinel, .sentinel, .pinned], laidTests := true, laidLooks := .later }
def RiscvUsesCardSaid : Prop := Claim7.holds Tryz.pinned (.plain (OpenSpec.ofChange riscvUsesSpec)) riscvUsesCard

/-- THE TIED CARD OF 'alembiclaw10.RiscvFrame'. -/
def riscvFrameCard : Claim7 := { stood := { row := riscvFrameRow, standIns := [], harness := (true, "5b5f794bbdb98f3b3ade188f2182c3cb14d0121a7e5050b320ea0f34ad13b6a4"), looks := true }, kinds := [], alts := [], laidByText := true, laidKinds := [.data, .data, .data, .data, .sentinel, .sentinel, .pinned], laidTests := true, laidLooks := .later }
def RiscvFrameCardSaid : Prop := Claim7.holds Tryz.pinned (.plain (OpenSpec.ofChange riscvFrameSpec)) riscvFrameCard

/-- THE SECOND FORM's CARD OF 'alembiclaw10.RiscvTexts'. -/
def riscvTextsUptoCard : Claim7 := { stood := { row := riscvTextsUptoRow, standIns := [], harness := (true, "5b5f794bbdb98f3b3ade188f2182c3cb14d0121a7e5050b320ea0f34ad13b6a4"), looks := true }, kinds := [], alts := [], laidByText := true, laidKinds := [.data, .data, .data, .data, .sentinel, .sentinel, .pinned], laidTests := true, laidLooks := .later }
def RiscvTextsUptoCardSaid : Prop := Claim7.holds Tryz.pinned (.plain (OpenSpec.upto riscvTextsSpec)) riscvTextsUptoCard

/-- THE SECOND FORM's CARD OF 'alembiclaw10.RiscvLinks'. -/
def riscvLinksUptoCard : Claim7 := { stood := { row := riscvLinksUptoRow, standIns := [], harness := (true, "5b5f794bbdb98f3b3ade188f2182c3cb14d0121a7e5050b320ea0f34ad13b6a4"), looks := true }, kinds := [], alts := [], laidByText := true, laidKinds := [.data, .data, .data, .data, .sentinel, .sentinel, .pinned], laidTests := true, laidLooks := .later }
def RiscvLinksUptoCardSaid : Prop := Claim7.holds Tryz.pinned (.plain (OpenSpec.upto riscvLinksSpec)) riscvLinksUptoCard

/-- THE SECOND FORM's CARD OF 'alembiclaw10.RiscvDoes'. -/
def riscvDoesUptoCard : Claim7 := { stood := { row := riscvDoesUptoRow, standIns := [], harness := (true, "5b5f794bbdb98f3b3ade188f2182c3cb14d0121a7e5050b320ea0f34ad13b6a4"), looks := true }, kinds := [], alts := [], laidByText := true, laidKinds := [.data, .data, .data, .data, .sentinel, .sentinel, .pinned], laidTests := true, laidLooks := .later }
def RiscvDoesUptoCardSaid : Prop := Claim7.holds Tryz.pinned (.plain (OpenSpec.upto riscvDoesSpec)) riscvDoesUptoCard

/-- THE SECOND FORM's CARD OF 'alembiclaw10.RiscvSums'. -/
def riscvSumsUptoCard : Claim7 := { stood := { row := riscvSumsUptoRow, standIns := [], harness := (true, "5b5f794bbdb98f3b3ade188f2182c3cb14d0121a7e5050b320ea0f34ad13b6a4"), looks := true }, kinds := [], alts := [], laidByText := true, laidKinds := [.data, .data, .data, .data, .sentinel, .sentinel, .pinned], laidTests := true, laidLooks := .later }
def RiscvSumsUptoCardSaid : Prop := Claim7.holds Tryz.pinned (.plain (OpenSpec.upto riscvSumsSpec)) riscvSumsUptoCard

/-- THE SECOND FORM's CARD OF 'alembiclaw10.RiscvEnds'. -/
def riscvEndsUptoCard : Claim7 := { stood := { row := riscvEndsUptoRow, standIns := [], harness := (true, "5b5f794bbdb98f3b3ade188f2182c3cb14d0121a7e5050b320ea0f34ad13b6a4"), looks := true }, kinds := [], alts := [], laidByText := true, laidKinds := [.data, .data, .data, .data, .sentinel, .sentinel, .pinned], laidTests := true, laidLooks := .later }
def RiscvEndsUptoCardSaid : Prop := Claim7.holds Tryz.pinned (.plain (OpenSpec.upto riscvEndsSpec)) riscvEndsUptoCard

/-- THE SECOND FORM's CARD OF 'alembiclaw10.RiscvUses'. -/
def riscvUsesUptoCard : Claim7 := { stood := { row := riscvUsesUptoRow, standIns := [], harness := (true, "5b5f794bbdb98f3b3ade188f2182c3cb14d0121a7e5050b320ea0f34ad13b6a4"), looks := true }, kinds := [], alts := [], laidByText := true, laidKinds := [.data, .data, .data, .data, .sentinel, .sentinel, .pinned], laidTests := true, laidLooks := .later }
def RiscvUsesUptoCardSaid : Prop := Claim7.holds Tryz.pinned (.plain (OpenSpec.upto riscvUsesSpec)) riscvUsesUptoCard

/-- THE SECOND FORM's CARD OF 'alembiclaw10.RiscvFrame'. -/
def riscvFrameUptoCard : Claim7 := { stood := { row := riscvFrameUptoRow, standIns := [], harness := (true, "5b5f794bbdb98f3b3ade188f2182c3cb14d0121a7e5050b320ea0f34ad13b6a4"), looks := true }, kinds := [], alts := [], laidByText := true, laidKinds := [.data, .data, .data, .data, .sentinel, .sentinel, .pinned], laidTests := true, laidLooks := .later }
def RiscvFrameUptoCardSaid : Prop := Claim7.holds Tryz.pinned (.plain (OpenSpec.upto riscvFrameSpec)) riscvFrameUptoCard
end Rows
end Go.Proofs.YtigimkgmghjgoaaGreatDoor

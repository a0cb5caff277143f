/-
  DERIVED. GIVEN WITH THE SEED: THE CARDS: each row of YthaibjefnclkjaaGreatDoorRows.lean that lists a variable, with what it lists TIED to the program's text (the seventh form; the later family's looks); each row that meets fmt, with fmt's text TOLD by the authors' own Lean function (tested against real Go, not proved from fmt's source: count such statements apart). THE CARD IS WHAT COUNTS. Prove the row's statement (the work); the ties are given (YthaibjefnclkjaaGreatDoorTie.lean); close each card by the builder's one call (the guide's Derived/Test/ToyasCard.lean, 'card_holds'). Laid BY PROGRAM, IN A SANDBOX (cutbox-door.mjs). By AI agents, Wed Nov 11 2026. No macro, syntax, notation, axiom, sorry.
-/
import Derived.Test.YthaibjefnclkjaaGreatDoorRows
import GoSem.ClaimSeven
namespace Go.Proofs.YthaibjefnclkjaaGreatDoor
namespace Rows

/-- THE TIED CARD OF 'alembiclaw13.FileCells'. -/
def fileCellsCard : Claim7 := { stood := { row := fileCellsRow, standIns := [], harness := (true, "472ff9c5d592cf723a80e524298f0ddc10d8a079037558e1451967b39f1ae0bc"), looks := false }, kinds := [], alts := [], laidByText := true, laidKinds := [.data, .data, .data, .data, .data, .pinned], laidTests := true, laidLooks := .later }
def FileCellsCardSaid : Prop := Claim7.holds Tryz.pinned (.plain (OpenSpec.ofChange fileCellsSpec)) fileCellsCard

/-- THE TIED CARD OF 'alembiclaw13.FilePrints'. -/
def filePrintsCard : Claim7 := { stood := { row := filePrintsRow, standIns := [], harness := (true, "472ff9c5d592cf723a80e524298f0ddc10d8a079037558e1451967b39f1ae0bc"), looks := false }, kinds := [], alts := [], laidByText := true, laidKinds := [.data, .data, .data, .data, .data, .pinned], laidTests := true, laidLooks := .later }
def FilePrintsCardSaid : Prop := Claim7.holds Tryz.pinned (.plain (OpenSpec.ofChange filePrintsSpec)) filePrintsCard

/-- THE TIED CARD OF 'alembiclaw13.FileApart'. -/
def fileApartCard : Claim7 := { stood := { row := fileApartRow, standIns := [], harness := (true, "472ff9c5d592cf723a80e524298f0ddc10d8a079037558e1451967b39f1ae0bc"), looks := false }, kinds := [], alts := [], laidByText := true, laidKinds := [.data, .data, .data, .data, .data, .pinned], laidTests := true, laidLooks := .later }
def FileApartCardSaid : Prop := Claim7.holds Tryz.pinned (.plain (OpenSpec.ofChange fileApartSpec)) fileApartCard

/-- THE TIED CARD OF 'alembiclaw13.FileChecks'. -/
def fileChecksCard : Claim7 := { stood := { row := fileChecksRow, standIns := [], harness := (true, "472ff9c5d592cf723a80e524298f0ddc10d8a079037558e1451967b39f1ae0bc"), looks := false }, kinds := [], alts := [], laidByText := true, laidKinds := [.data, .data, .data, .data, .data, .pinned], laidTests := true, laidLooks := .later }
def FileChecksCardSaid : Prop := Claim7.holds Tryz.pinned (.plain (OpenSpec.ofChange fileChecksSpec)) fileChecksCard

/-- THE TIED CARD OF 'alembiclaw13.FileTables'. -/
def fileTablesCard : Claim7 := { stood := { row := fileTablesRow, standIns := [], harness := (true, "472ff9c5d592cf723a80e524298f0ddc10d8a079037558e1451967b39f1ae0bc"), looks := false }, kinds := [], alts := [], laidByText := true, laidKinds := [.data, .data, .data, .data, .data, .pinned], laidTests := true, laidLooks := .later }
def FileTablesCardSaid : Prop := Claim7.holds Tryz.pinned (.plain (OpenSpec.ofChange fileTablesSpec)) fileTablesCard

/-- THE TIED CARD OF 'alembiclaw13.FileLines'. -/
def fileLinesCard : Claim7 := { stood := { row := fileLinesRow, standIns := [], harness := (true, "472ff9c5d592cf723a80e524298f0ddc10d8a079037558e1451967b39f1ae0bc"), looks := false }, kinds := [], alts := [], laidByText := true, laidKinds := [.data, .data, .data, .data, .data, .pinned], laidTests := true, laidLooks := .later }
def FileLinesCardSaid : Prop := Claim7.holds Tryz.pinned (.plain (OpenSpec.ofChange fileLinesSpec)) fileLinesCard

/-- THE SECOND FORM's CARD OF 'alembiclaw13.FileCells'. -/
def fileCellsUptoCard : Claim7 := { stood := { row := fileCellsUptoRow, standIns := [], harness := (true, "472ff9c5d592cf723a80e524298f0ddc10d8a079037558e1451967b39f1ae0bc"), looks := false }, kinds := [], alts := [], laidByText := true, laidKinds := [.data, .data, .data, .data, .data, .pinned], laidTests := true, laidLooks := .later }
def FileCellsUptoCardSaid : Prop := Claim7.holds Tryz.pinned (.plain (OpenSpec.upto fileCellsSpec)) fileCellsUptoCard

/-- THE SECOND FORM's CARD OF 'alembiclaw13.FilePrints'. -/
def filePrintsUptoCard : Claim7 := { stood := { row := filePrintsUptoRow, standIns := [], harness := (true, "472ff9c5d592cf723a80e524298f0ddc10d8a079037558e1451967b39f1ae0bc"), looks := false }, kinds := [], alts := [], laidByText := true, laidKinds := [.data, .data, .data, .data, .data, .pinned], laidTests := true, laidLooks := .later }
def FilePrintsUptoCardSaid : Prop := Claim7.holds Tryz.pinned (.plain (OpenSpec.upto filePrintsSpec)) filePrintsUptoCard

/-- THE SECOND FORM's CARD OF 'alembiclaw13.FileApart'. -/
def fileApartUptoCard : Claim7 := { stood := { row := fileApartUptoRow, standIns := [], harness := (true, "472ff9c5d592cf723a80e524298f0ddc10d8a079037558e1451967b39f1ae0bc"), looks := false }, kinds := [], alts := [], laidByText := true, laidKinds := [.data, .data, .data, .data, .data, .pinned], laidTests := true, laidLooks := .later }
def FileApartUptoCardSaid : Prop := Claim7.holds Tryz.pinned (.plain (OpenSpec.upto fileApartSpec)) fileApartUptoCard

/-- THE SECOND FORM's CARD OF 'alembiclaw13.FileChecks'. -/
def fileChecksUptoCard : Claim7 := { stood := { row := fileChecksUptoRow, standIns := [], harness := (true, "472ff9c5d592cf723a80e524298f0ddc10d8a079037558e1451967b39f1ae0bc"), looks := false }, kinds := [], alts := [], laidByText := true, laidKinds := [.data, .data, .data, .data, .data, .pinned], laidTests := true, laidLooks := .later }
def FileChecksUptoCardSaid : Prop := Claim7.holds Tryz.pinned (.plain (OpenSpec.upto fileChecksSpec)) fileChecksUptoCard

/-- THE SECOND FORM's CARD OF 'alembiclaw13.FileTables'. -/
def fileTablesUptoCard : Claim7 := { stood := { row := fileTablesUptoRow, standIns := [], harness := (true, "472ff9c5d592cf723a80e524298f0ddc10d8a079037558e1451967b39f1ae0bc"), looks := false }, kinds := [], alts := [], laidByText := true, laidKinds := [.data, .data, .data, .data, .data, .pinned], laidTests := true, laidLooks := .later }
def FileTablesUptoCardSaid : Prop := Claim7.holds Tryz.pinned (.plain (OpenSpec.upto fileTablesSpec)) fileTablesUptoCard

/-- THE SECOND FORM's CARD OF 'alembiclaw13.FileLines'. -/
def fileLinesUptoCard : Claim7 := { stood := { row := fileLinesUptoRow, standIns := [], harness := (true, "472ff9c5d592cf723a80e524298f0ddc10d8a079037558e1451967b39f1ae0bc"), looks := false }, kinds := [], alts := [], laidByText := true, laidKinds := [.data, .data, .data, .data, .data, .pinned], laidTests := true, laidLooks := .later }
def FileLinesUptoCardSaid : Prop := Claim7.holds Tryz.pinned (.plain (OpenSpec.upto fileLinesSpec)) fileLinesUptoCard
end Rows
end Go.Proofs.YthaibjefnclkjaaGreatDoor

/-
  DERIVED. GIVEN WITH THE SEED: THE CARDS: each row of YtkbbgjloifmmbaaGreatDoorRows.lean that lists a variable, with what it lists TIED to the program's text (the seventh form; the later family's looks); each row that meets fmt, with fmt's text TOLD by the authors' own Lean function (tested against real Go, not proved from fmt's source: count such statements apart). THE CARD IS WHAT COUNTS. Prove the row's statement (the work); the ties are given (YtkbbgjloifmmbaaGreatDoorTie.lean); close each card by the builder's one call (the guide's Derived/Test/ToyasCard.lean, 'card_holds'). Laid BY PROGRAM, IN A SANDBOX (cutbox-door.mjs). By AI agents, Wed Nov 11 2026. No macro, syntax, notation, axiom, sorry.
-/
import Derived.Test.YtkbbgjloifmmbaaGreatDoorRows
import GoSem.ClaimSeven
namespace Go.Proofs.YtkbbgjloifmmbaaGreatDoor
namespace Rows

/-- THE TIED CARD OF 'alembiclaw14.ReadParses'. -/
def readParsesCard : Claim7 := { stood := { row := readParsesRow, standIns := [], harness := (true, "a69d9a693313660ac52453ef7a6c3a974c42502ef9c187bc2eac9c4adb623175"), looks := true }, kinds := [], alts := [], laidByText := true, laidKinds := [.data, .data, .data, .data, .sentinel, .sentinel, .data, .pinned], laidTests := true, laidLooks := .later }
def ReadParsesCardSaid : Prop := Claim7.holds Tryz.pinned (.plain (OpenSpec.ofChange readParsesSpec)) readParsesCard

/-- THE TIED CARD OF 'alembiclaw14.ReadBlanks'. -/
def readBlanksCard : Claim7 := { stood := { row := readBlanksRow, standIns := [], harness := (true, "a69d9a693313660ac52453ef7a6c3a974c42502ef9c187bc2eac9c4adb623175"), looks := true }, kinds := [], alts := [], laidByText := true, laidKinds := [.data, .data, .data, .data, .sentinel, .sentinel, .data, .pinned], laidTests := true, laidLooks := .later }
def ReadBlanksCardSaid : Prop := Claim7.holds Tryz.pinned (.plain (OpenSpec.ofChange readBlanksSpec)) readBlanksCard

/-- THE TIED CARD OF 'alembiclaw14.ReadPieces'. -/
def readPiecesCard : Claim7 := { stood := { row := readPiecesRow, standIns := [], harness := (true, "a69d9a693313660ac52453ef7a6c3a974c42502ef9c187bc2eac9c4adb623175"), looks := true }, kinds := [], alts := [], laidByText := true, laidKinds := [.data, .data, .data, .data, .sentinel, .sentinel, .data, .pinned], laidTests := true, laidLooks := .later }
def ReadPiecesCardSaid : Prop := Claim7.holds Tryz.pinned (.plain (OpenSpec.ofChange readPiecesSpec)) readPiecesCard

/-- THE TIED CARD OF 'alembiclaw14.ReadBack'. -/
def readBackCard : Claim7 := { stood := { row := readBackRow, standIns := [], harness := (true, "a69d9a693313660ac52453ef7a6c3a974c42502ef9c187bc2eac9c4adb623175"), looks := true }, kinds := [], alts := [], laidByText := true, laidKinds := [.data, .data, .data, .data, .sentinel, .sentinel, .data, .pinned], laidTests := true, laidLooks := .later }
def ReadBackCardSaid : Prop := Claim7.holds Tryz.pinned (.plain (OpenSpec.ofChange readBackSpec)) readBackCard

/-- THE TIED CARD OF 'alembiclaw14.ReadAgain'. -/
def readAgainCard : Claim7 := { stood := { row := readAgainRow, standIns := [], harness := (true, "a69d9a693313660ac52453ef7a6c3a974c42502ef9c187bc2eac9c4adb623175"), looks := true }, kinds := [], alts := [], laidByText := true, laidKinds := [.data, .data, .data, .data, .sentinel, .sentinel, .data, .pinned], laidTests := true, laidLooks := .later }
def ReadAgainCardSaid : Prop := Claim7.holds Tryz.pinned (.plain (OpenSpec.ofChange readAgainSpec)) readAgainCard

/-- THE TIED CARD OF 'alembiclaw14.ReadCuts'. -/
def readCutsCard : Claim7 := { stood := { row := readCutsRow, standIns := [], harness := (true, "a69d9a693313660ac52453ef7a6c3a974c42502ef9c187bc2eac9c4adb623175"), looks := true }, kinds := [], alts := [], laidByText := true, laidKinds := [.data, .data, .data, .data, .sentinel, .sentinel, .data, .pinned], laidTests := true, laidLooks := .later }
def ReadCutsCardSaid : Prop := Claim7.holds Tryz.pinned (.plain (OpenSpec.ofChange readCutsSpec)) readCutsCard

/-- THE SECOND FORM's CARD OF 'alembiclaw14.ReadParses'. -/
def readParsesUptoCard : Claim7 := { stood := { row := readParsesUptoRow, standIns := [], harness := (true, "a69d9a693313660ac52453ef7a6c3a974c42502ef9c187bc2eac9c4adb623175"), looks := true }, kinds := [], alts := [], laidByText := true, laidKinds := [.data, .data, .data, .data, .sentinel, .sentinel, .data, .pinned], laidTests := true, laidLooks := .later }
def ReadParsesUptoCardSaid : Prop := Claim7.holds Tryz.pinned (.plain (OpenSpec.upto readParsesSpec)) readParsesUptoCard

/-- THE SECOND FORM's CARD OF 'alembiclaw14.ReadBlanks'. -/
def readBlanksUptoCard : Claim7 := { stood := { row := readBlanksUptoRow, standIns := [], harness := (true, "a69d9a693313660ac52453ef7a6c3a974c42502ef9c187bc2eac9c4adb623175"), looks := true }, kinds := [], alts := [], laidByText := true, laidKinds := [.data, .data, .data, .data, .sentinel, .sentinel, .data, .pinned], laidTests := true, laidLooks := .later }
def ReadBlanksUptoCardSaid : Prop := Claim7.holds Tryz.pinned (.plain (OpenSpec.upto readBlanksSpec)) readBlanksUptoCard

/-- THE SECOND FORM's CARD OF 'alembiclaw14.ReadPieces'. -/
def readPiecesUptoCard : Claim7 := { stood := { row := readPiecesUptoRow, standIns := [], harness := (true, "a69d9a693313660ac52453ef7a6c3a974c42502ef9c187bc2eac9c4adb623175"), looks := true }, kinds := [], alts := [], laidByText := true, laidKinds := [.data, .data, .data, .data, .sentinel, .sentinel, .data, .pinned], laidTests := true, laidLooks := .later }
def ReadPiecesUptoCardSaid : Prop := Claim7.holds Tryz.pinned (.plain (OpenSpec.upto readPiecesSpec)) readPiecesUptoCard

/-- THE SECOND FORM's CARD OF 'alembiclaw14.ReadBack'. -/
def readBackUptoCard : Claim7 := { stood := { row := readBackUptoRow, standIns := [], harness := (true, "a69d9a693313660ac52453ef7a6c3a974c42502ef9c187bc2eac9c4adb623175"), looks := true }, kinds := [], alts := [], laidByText := true, laidKinds := [.data, .data, .data, .data, .sentinel, .sentinel, .data, .pinned], laidTests := true, laidLooks := .later }
def ReadBackUptoCardSaid : Prop := Claim7.holds Tryz.pinned (.plain (OpenSpec.upto readBackSpec)) readBackUptoCard

/-- THE SECOND FORM's CARD OF 'alembiclaw14.ReadAgain'. -/
def readAgainUptoCard : Claim7 := { stood := { row := readAgainUptoRow, standIns := [], harness := (true, "a69d9a693313660ac52453ef7a6c3a974c42502ef9c187bc2eac9c4adb623175"), looks := true }, kinds := [], alts := [], laidByText := true, laidKinds := [.data, .data, .data, .data, .sentinel, .sentinel, .data, .pinned], laidTests := true, laidLooks := .later }
def ReadAgainUptoCardSaid : Prop := Claim7.holds Tryz.pinned (.plain (OpenSpec.upto readAgainSpec)) readAgainUptoCard

/-- THE SECOND FORM's CARD OF 'alembiclaw14.ReadCuts'. -/
def readCutsUptoCard : Claim7 := { stood := { row := readCutsUptoRow, standIns := [], harness := (true, "a69d9a693313660ac52453ef7a6c3a974c42502ef9c187bc2eac9c4adb623175"), looks := true }, kinds := [], alts := [], laidByText := true, laidKinds := [.data, .data, .data, .data, .sentinel, .sentinel, .data, .pinned], laidTests := true, laidLooks := .later }
def ReadCutsUptoCardSaid : Prop := Claim7.holds Tryz.pinned (.plain (OpenSpec.upto readCutsSpec)) readCutsUptoCard
end Rows
end Go.Proofs.YtkbbgjloifmmbaaGreatDoor

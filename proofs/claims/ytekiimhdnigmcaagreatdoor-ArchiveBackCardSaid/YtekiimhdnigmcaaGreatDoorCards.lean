/-
  DERIVED. GIVEN WITH THE SEED: THE CARDS: each row of YtekiimhdnigmcaaGreatDoorRows.lean that lists a variable, with what it lists TIED to the program's text (the seventh form; the later family's looks); each row that meets fmt, with fmt's text TOLD by the authors' own Lean function (tested against real Go, not proved from fmt's source: count such statements apart). THE CARD IS WHAT COUNTS. Prove the row's statement (the work); the ties are given (YtekiimhdnigmcaaGreatDoorTie.lean); close each card by the builder's one call (the guide's Derived/Test/ToyasCard.lean, 'card_holds'). Laid BY PROGRAM, IN A SANDBOX (cutbox-door.mjs). By AI agents, Wed Nov 11 2026. No macro, syntax, notation, axiom, sorry.
-/
import Derived.Test.YtekiimhdnigmcaaGreatDoorRows
import GoSem.ClaimSeven
namespace Go.Proofs.YtekiimhdnigmcaaGreatDoor
namespace Rows

/-- THE TIED CARD OF 'quantumlaw41.ArchiveBack'. -/
def archiveBackCard : Claim7 := { stood := { row := archiveBackRow, standIns := [], harness := (true, "d0741d311ef653512baa6138bc4cc35624e891a52a30a265a37b583a848e17ee"), looks := true }, kinds := [], alts := [], laidByText := true, laidKinds := [.data, .widerDeep, .data, .data], laidTests := true, laidLooks := .later }
def ArchiveBackCardSaid : Prop := Claim7.holds Tryz.pinned (.plain (OpenSpec.ofChange archiveBackSpec)) archiveBackCard

/-- THE TIED CARD OF 'quantumlaw41.ArchiveGood'. -/
def archiveGoodCard : Claim7 := { stood := { row := archiveGoodRow, standIns := [], harness := (true, "d0741d311ef653512baa6138bc4cc35624e891a52a30a265a37b583a848e17ee"), looks := true }, kinds := [], alts := [], laidByText := true, laidKinds := [.data, .widerDeep, .data, .data], laidTests := true, laidLooks := .later }
def ArchiveGoodCardSaid : Prop := Claim7.holds Tryz.pinned (.plain (OpenSpec.ofChange archiveGoodSpec)) archiveGoodCard

/-- THE TIED CARD OF 'quantumlaw11.StreamSmall'. -/
def streamSmallCard : Claim7 := { stood := { row := streamSmallRow, standIns := [], harness := (true, "d0741d311ef653512baa6138bc4cc35624e891a52a30a265a37b583a848e17ee"), looks := true }, kinds := [], alts := [], laidByText := true, laidKinds := [.data, .widerDeep, .data, .data], laidTests := true, laidLooks := .later }
def StreamSmallCardSaid : Prop := Claim7.holds Tryz.pinned (.plain (OpenSpec.ofChange streamSmallSpec)) streamSmallCard

/-- THE TIED CARD OF 'quantumlaw41.ArchiveTells'. -/
def archiveTellsCard : Claim7 := { stood := { row := archiveTellsRow, standIns := [], harness := (true, "d0741d311ef653512baa6138bc4cc35624e891a52a30a265a37b583a848e17ee"), looks := true }, kinds := [], alts := [], laidByText := true, laidKinds := [.data, .widerDeep, .data, .data], laidTests := true, laidLooks := .later }
def ArchiveTellsCardSaid : Prop := Claim7.holds Tryz.pinned (.plain (OpenSpec.ofChange archiveTellsSpec)) archiveTellsCard

/-- THE TIED CARD OF 'quantumlaw41.ArchiveOne'. -/
def archiveOneCard : Claim7 := { stood := { row := archiveOneRow, standIns := [], harness := (true, "d0741d311ef653512baa6138bc4cc35624e891a52a30a265a37b583a848e17ee"), looks := true }, kinds := [], alts := [], laidByText := true, laidKinds := [.data, .widerDeep, .data, .data], laidTests := true, laidLooks := .later }
def ArchiveOneCardSaid : Prop := Claim7.holds Tryz.pinned (.plain (OpenSpec.ofChange archiveOneSpec)) archiveOneCard

/-- THE TIED CARD OF 'quantumlaw41.ArchiveReads'. -/
def archiveReadsCard : Claim7 := { stood := { row := archiveReadsRow, standIns := [], harness := (true, "d0741d311ef653512baa6138bc4cc35624e891a52a30a265a37b583a848e17ee"), looks := true }, kinds := [], alts := [], laidByText := true, laidKinds := [.data, .widerDeep, .data, .data], laidTests := true, laidLooks := .later }
def ArchiveReadsCardSaid : Prop := Claim7.holds Tryz.pinned (.plain (OpenSpec.ofChange archiveReadsSpec)) archiveReadsCard

/-- THE TIED CARD OF 'quantumlaw41.ArchiveSmall'. -/
def archiveSmallCard : Claim7 := { stood := { row := archiveSmallRow, standIns := [], harness := (true, "d0741d311ef653512baa6138bc4cc35624e891a52a30a265a37b583a848e17ee"), looks := true }, kinds := [], alts := [], laidByText := true, laidKinds := [.data, .widerDeep, .data, .data], laidTests := true, laidLooks := .later }
def ArchiveSmallCardSaid : Prop := Claim7.holds Tryz.pinned (.plain (OpenSpec.ofChange archiveSmallSpec)) archiveSmallCard

/-- THE TIED CARD OF 'quantumlaw41.ArchiveFinds'. -/
def archiveFindsCard : Claim7 := { stood := { row := archiveFindsRow, standIns := [], harness := (true, "d0741d311ef653512baa6138bc4cc35624e891a52a30a265a37b583a848e17ee"), looks := true }, kinds := [], alts := [], laidByText := true, laidKinds := [.data, .widerDeep, .data, .data], laidTests := true, laidLooks := .later }
def ArchiveFindsCardSaid : Prop := Claim7.holds Tryz.pinned (.plain (OpenSpec.ofChange archiveFindsSpec)) archiveFindsCard

/-- THE TIED CARD OF 'quantumlaw41.ArchiveWrong'. -/
def archiveWrongCard : Claim7 := { stood := { row := archiveWrongRow, standIns := [], harness := (true, "d0741d311ef653512baa6138bc4cc35624e891a52a30a265a37b583a848e17ee"), looks := true }, kinds := [], alts := [], laidByText := true, laidKinds := [.data, .widerDeep, .data, .data], laidTests := true, laidLooks := .later }
def ArchiveWrongCardSaid : Prop := Claim7.holds Tryz.pinned (.plain (OpenSpec.ofChange archiveWrongSpec)) archiveWrongCard

/-- THE TIED CARD OF 'quantumlaw41.ArchiveTails'. -/
def archiveTailsCard : Claim7 := { stood := { row := archiveTailsRow, standIns := [], harness := (true, "d0741d311ef653512baa6138bc4cc35624e891a52a30a265a37b583a848e17ee"), looks := true }, kinds := [], alts := [], laidByText := true, laidKinds := [.data, .widerDeep, .data, .data], laidTests := true, laidLooks := .later }
def ArchiveTailsCardSaid : Prop := Claim7.holds Tryz.pinned (.plain (OpenSpec.ofChange archiveTailsSpec)) archiveTailsCard

/-- THE SECOND FORM's CARD OF 'quantumlaw41.ArchiveBack'. -/
def archiveBackUptoCard : Claim7 := { stood := { row := archiveBackUptoRow, standIns := [], harness := (true, "d0741d311ef653512baa6138bc4cc35624e891a52a30a265a37b583a848e17ee"), looks := true }, kinds := [], alts := [], laidByText := true, laidKinds := [.data, .widerDeep, .data, .data], laidTests := true, laidLooks := .later }
def ArchiveBackUptoCardSaid : Prop := Claim7.holds Tryz.pinned (.plain (OpenSpec.upto archiveBackSpec)) archiveBackUptoCard

/-- THE SECOND FORM's CARD OF 'quantumlaw41.ArchiveGood'. -/
def archiveGoodUptoCard : Claim7 := { stood := { row := archiveGoodUptoRow, standIns := [], harness := (true, "d0741d311ef653512baa6138bc4cc35624e891a52a30a265a37b583a848e17ee"), looks := true }, kinds := [], alts := [], laidByText := true, laidKinds := [.data, .widerDeep, .data, .data], laidTests := true, laidLooks := .later }
def ArchiveGoodUptoCardSaid : Prop := Claim7.holds Tryz.pinned (.plain (OpenSpec.upto archiveGoodSpec)) archiveGoodUptoCard

/-- THE SECOND FORM's CARD OF 'quantumlaw11.StreamSmall'. -/
def streamSmallUptoCard : Claim7 := { stood := { row := streamSmallUptoRow, standIns := [], harness := (true, "d0741d311ef653512baa6138bc4cc35624e891a52a30a265a37b583a848e17ee"), looks := true }, kinds := [], alts := [], laidByText := true, laidKinds := [.data, .widerDeep, .data, .data], laidTests := true, laidLooks := .later }
def StreamSmallUptoCardSaid : Prop := Claim7.holds Tryz.pinned (.plain (OpenSpec.upto streamSmallSpec)) streamSmallUptoCard

/-- THE SECOND FORM's CARD OF 'quantumlaw41.ArchiveTells'. -/
def archiveTellsUptoCard : Claim7 := { stood := { row := archiveTellsUptoRow, standIns := [], harness := (true, "d0741d311ef653512baa6138bc4cc35624e891a52a30a265a37b583a848e17ee"), looks := true }, kinds := [], alts := [], laidByText := true, laidKinds := [.data, .widerDeep, .data, .data], laidTests := true, laidLooks := .later }
def ArchiveTellsUptoCardSaid : Prop := Claim7.holds Tryz.pinned (.plain (OpenSpec.upto archiveTellsSpec)) archiveTellsUptoCard

/-- THE SECOND FORM's CARD OF 'quantumlaw41.ArchiveOne'. -/
def archiveOneUptoCard : Claim7 := { stood := { row := archiveOneUptoRow, standIns := [], harness := (true, "d0741d311ef653512baa6138bc4cc35624e891a52a30a265a37b583a848e17ee"), looks := true }, kinds := [], alts := [], laidByText := true, laidKinds := [.data, .widerDeep, .data, .data], laidTests := true, laidLooks := .later }
def ArchiveOneUptoCardSaid : Prop := Claim7.holds Tryz.pinned (.plain (OpenSpec.upto archiveOneSpec)) archiveOneUptoCard

/-- THE SECOND FORM's CARD OF 'quantumlaw41.ArchiveReads'. -/
def archiveReadsUptoCard : Claim7 := { stood := { row := archiveReadsUptoRow, standIns := [], harness := (true, "d0741d311ef653512baa6138bc4cc35624e891a52a30a265a37b583a848e17ee"), looks := true }, kinds := [], alts := [], laidByText := true, laidKinds := [.data, .widerDeep, .data, .data], laidTests := true, laidLooks := .later }
def ArchiveReadsUptoCardSaid : Prop := Claim7.holds Tryz.pinned (.plain (OpenSpec.upto archiveReadsSpec)) archiveReadsUptoCard

/-- THE SECOND FORM's CARD OF 'quantumlaw41.ArchiveSmall'. -/
def archiveSmallUptoCard : Claim7 := { stood := { row := archiveSmallUptoRow, standIns := [], harness := (true, "d0741d311ef653512baa6138bc4cc35624e891a52a30a265a37b583a848e17ee"), looks := true }, kinds := [], alts := [], laidByText := true, laidKinds := [.data, .widerDeep, .data, .data], laidTests := true, laidLooks := .later }
def ArchiveSmallUptoCardSaid : Prop := Claim7.holds Tryz.pinned (.plain (OpenSpec.upto archiveSmallSpec)) archiveSmallUptoCard

/-- THE SECOND FORM's CARD OF 'quantumlaw41.ArchiveFinds'. -/
def archiveFindsUptoCard : Claim7 := { stood := { row := archiveFindsUptoRow, standIns := [], harness := (true, "d0741d311ef653512baa6138bc4cc35624e891a52a30a265a37b583a848e17ee"), looks := true }, kinds := [], alts := [], laidByText := true, laidKinds := [.data, .widerDeep, .data, .data], laidTests := true, laidLooks := .later }
def ArchiveFindsUptoCardSaid : Prop := Claim7.holds Tryz.pinned (.plain (OpenSpec.upto archiveFindsSpec)) archiveFindsUptoCard

/-- THE SECOND FORM's CARD OF 'quantumlaw41.ArchiveWrong'. -/
def archiveWrongUptoCard : Claim7 := { stood := { row := archiveWrongUptoRow, standIns := [], harness := (true, "d0741d311ef653512baa6138bc4cc35624e891a52a30a265a37b583a848e17ee"), looks := true }, kinds := [], alts := [], laidByText := true, laidKinds := [.data, .widerDeep, .data, .data], laidTests := true, laidLooks := .later }
def ArchiveWrongUptoCardSaid : Prop := Claim7.holds Tryz.pinned (.plain (OpenSpec.upto archiveWrongSpec)) archiveWrongUptoCard

/-- THE SECOND FORM's CARD OF 'quantumlaw41.ArchiveTails'. -/
def archiveTailsUptoCard : Claim7 := { stood := { row := archiveTailsUptoRow, standIns := [], harness := (true, "d0741d311ef653512baa6138bc4cc35624e891a52a30a265a37b583a848e17ee"), looks := true }, kinds := [], alts := [], laidByText := true, laidKinds := [.data, .widerDeep, .data, .data], laidTests := true, laidLooks := .later }
def ArchiveTailsUptoCardSaid : Prop := Claim7.holds Tryz.pinned (.plain (OpenSpec.upto archiveTailsSpec)) archiveTailsUptoCard
end Rows
end Go.Proofs.YtekiimhdnigmcaaGreatDoor

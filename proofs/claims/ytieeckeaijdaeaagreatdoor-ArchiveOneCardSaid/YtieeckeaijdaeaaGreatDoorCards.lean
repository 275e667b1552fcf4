/-
  DERIVED. GIVEN WITH THE SEED: THE CARDS: each row of YtieeckeaijdaeaaGreatDoorRows.lean that lists a variable, with what it lists TIED to the program's text (the seventh form; the later family's looks); each row that meets fmt, with fmt's text TOLD by the authors' own Lean function (tested against real Go, not proved from fmt's source: count such statements apart). THE CARD IS WHAT COUNTS. Prove the row's statement (the work); the ties are given (YtieeckeaijdaeaaGreatDoorTie.lean); close each card by the builder's one call (the guide's Derived/Test/ToyasCard.lean, 'card_holds'). Laid BY PROGRAM, IN A SANDBOX (cutbox-door.mjs). By AI agents, Wed Nov 11 2026. No macro, syntax, notation, axiom, sorry.
-/
import Derived.Test.YtieeckeaijdaeaaGreatDoorRows
import GoSem.ClaimSeven
namespace Go.Proofs.YtieeckeaijdaeaaGreatDoor
namespace Rows

/-- THE TIED CARD OF 'quantumlaw11.StreamSmall'. -/
def streamSmallCard : Claim7 := { stood := { row := streamSmallRow, standIns := [], harness := (true, "22e8c874f7d210d411d1723a54afc270fbcd87ed828c582ea59b55301a073e5f"), looks := true }, kinds := [], alts := [], laidByText := true, laidKinds := [.data, .widerDeep, .data, .data], laidTests := true, laidLooks := .later }
def StreamSmallCardSaid : Prop := Claim7.holds Tryz.pinned (.plain (OpenSpec.ofChange streamSmallSpec)) streamSmallCard

/-- THE TIED CARD OF 'quantumlaw41.ArchiveTells'. -/
def archiveTellsCard : Claim7 := { stood := { row := archiveTellsRow, standIns := [], harness := (true, "22e8c874f7d210d411d1723a54afc270fbcd87ed828c582ea59b55301a073e5f"), looks := true }, kinds := [], alts := [], laidByText := true, laidKinds := [.data, .widerDeep, .data, .data], laidTests := true, laidLooks := .later }
def ArchiveTellsCardSaid : Prop := Claim7.holds Tryz.pinned (.plain (OpenSpec.ofChange archiveTellsSpec)) archiveTellsCard

/-- THE TIED CARD OF 'quantumlaw41.ArchiveOne'. -/
def archiveOneCard : Claim7 := { stood := { row := archiveOneRow, standIns := [], harness := (true, "22e8c874f7d210d411d1723a54afc270fbcd87ed828c582ea59b55301a073e5f"), looks := true }, kinds := [], alts := [], laidByText := true, laidKinds := [.data, .widerDeep, .data, .data], laidTests := true, laidLooks := .later }
def ArchiveOneCardSaid : Prop := Claim7.holds Tryz.pinned (.plain (OpenSpec.ofChange archiveOneSpec)) archiveOneCard

/-- THE TIED CARD OF 'quantumlaw41.ArchiveReads'. -/
def archiveReadsCard : Claim7 := { stood := { row := archiveReadsRow, standIns := [], harness := (true, "22e8c874f7d210d411d1723a54afc270fbcd87ed828c582ea59b55301a073e5f"), looks := true }, kinds := [], alts := [], laidByText := true, laidKinds := [.data, .widerDeep, .data, .data], laidTests := true, laidLooks := .later }
def ArchiveReadsCardSaid : Prop := Claim7.holds Tryz.pinned (.plain (OpenSpec.ofChange archiveReadsSpec)) archiveReadsCard

/-- THE TIED CARD OF 'quantumlaw41.ArchiveSmall'. -/
def archiveSmallCard : Claim7 := { stood := { row := archiveSmallRow, standIns := [], harness := (true, "22e8c874f7d210d411d1723a54afc270fbcd87ed828c582ea59b55301a073e5f"), looks := true }, kinds := [], alts := [], laidByText := true, laidKinds := [.data, .widerDeep, .data, .data], laidTests := true, laidLooks := .later }
def ArchiveSmallCardSaid : Prop := Claim7.holds Tryz.pinned (.plain (OpenSpec.ofChange archiveSmallSpec)) archiveSmallCard

/-- THE SECOND FORM's CARD OF 'quantumlaw11.StreamSmall'. -/
def streamSmallUptoCard : Claim7 := { stood := { row := streamSmallUptoRow, standIns := [], harness := (true, "22e8c874f7d210d411d1723a54afc270fbcd87ed828c582ea59b55301a073e5f"), looks := true }, kinds := [], alts := [], laidByText := true, laidKinds := [.data, .widerDeep, .data, .data], laidTests := true, laidLooks := .later }
def StreamSmallUptoCardSaid : Prop := Claim7.holds Tryz.pinned (.plain (OpenSpec.upto streamSmallSpec)) streamSmallUptoCard

/-- THE SECOND FORM's CARD OF 'quantumlaw41.ArchiveTells'. -/
def archiveTellsUptoCard : Claim7 := { stood := { row := archiveTellsUptoRow, standIns := [], harness := (true, "22e8c874f7d210d411d1723a54afc270fbcd87ed828c582ea59b55301a073e5f"), looks := true }, kinds := [], alts := [], laidByText := true, laidKinds := [.data, .widerDeep, .data, .data], laidTests := true, laidLooks := .later }
def ArchiveTellsUptoCardSaid : Prop := Claim7.holds Tryz.pinned (.plain (OpenSpec.upto archiveTellsSpec)) archiveTellsUptoCard

/-- THE SECOND FORM's CARD OF 'quantumlaw41.ArchiveOne'. -/
def archiveOneUptoCard : Claim7 := { stood := { row := archiveOneUptoRow, standIns := [], harness := (true, "22e8c874f7d210d411d1723a54afc270fbcd87ed828c582ea59b55301a073e5f"), looks := true }, kinds := [], alts := [], laidByText := true, laidKinds := [.data, .widerDeep, .data, .data], laidTests := true, laidLooks := .later }
def ArchiveOneUptoCardSaid : Prop := Claim7.holds Tryz.pinned (.plain (OpenSpec.upto archiveOneSpec)) archiveOneUptoCard

/-- THE SECOND FORM's CARD OF 'quantumlaw41.ArchiveReads'. -/
def archiveReadsUptoCard : Claim7 := { stood := { row := archiveReadsUptoRow, standIns := [], harness := (true, "22e8c874f7d210d411d1723a54afc270fbcd87ed828c582ea59b55301a073e5f"), looks := true }, kinds := [], alts := [], laidByText := true, laidKinds := [.data, .widerDeep, .data, .data], laidTests := true, laidLooks := .later }
def ArchiveReadsUptoCardSaid : Prop := Claim7.holds Tryz.pinned (.plain (OpenSpec.upto archiveReadsSpec)) archiveReadsUptoCard

/-- THE SECOND FORM's CARD OF 'quantumlaw41.ArchiveSmall'. -/
def archiveSmallUptoCard : Claim7 := { stood := { row := archiveSmallUptoRow, standIns := [], harness := (true, "22e8c874f7d210d411d1723a54afc270fbcd87ed828c582ea59b55301a073e5f"), looks := true }, kinds := [], alts := [], laidByText := true, laidKinds := [.data, .widerDeep, .data, .data], laidTests := true, laidLooks := .later }
def ArchiveSmallUptoCardSaid : Prop := Claim7.holds Tryz.pinned (.plain (OpenSpec.upto archiveSmallSpec)) archiveSmallUptoCard
end Rows
end Go.Proofs.YtieeckeaijdaeaaGreatDoor

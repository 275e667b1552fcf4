/-
  DERIVED. GIVEN WITH THE SEED: THE CARDS: each row of YtpklccgmjhikeaaGreatDoorRows.lean that lists a variable, with what it lists TIED to the program's text (the seventh form; the later family's looks); each row that meets fmt, with fmt's text TOLD by the authors' own Lean function (tested against real Go, not proved from fmt's source: count such statements apart). THE CARD IS WHAT COUNTS. Prove the row's statement (the work); the ties are given (YtpklccgmjhikeaaGreatDoorTie.lean); close each card by the builder's one call (the guide's Derived/Test/ToyasCard.lean, 'card_holds'). Laid BY PROGRAM, IN A SANDBOX (cutbox-door.mjs). By AI agents, Wed Nov 11 2026. No macro, syntax, notation, axiom, sorry.
-/
import Derived.Test.YtpklccgmjhikeaaGreatDoorRows
import GoSem.ClaimSeven
namespace Go.Proofs.YtpklccgmjhikeaaGreatDoor
namespace Rows

/-- THE TIED CARD OF 'quantumlaw11.StreamReads'. -/
def streamReadsCard : Claim7 := { stood := { row := streamReadsRow, standIns := [], harness := (true, "aef582a328c211c4dfb7665f40f796728995946532f69b747361d5d888f86487"), looks := true }, kinds := [], alts := [], laidByText := true, laidKinds := [.data, .widerDeep, .data, .data], laidTests := true, laidLooks := .later }
def StreamReadsCardSaid : Prop := Claim7.holds Tryz.pinned (.plain (OpenSpec.ofChange streamReadsSpec)) streamReadsCard

/-- THE TIED CARD OF 'quantumlaw11.StreamSmall'. -/
def streamSmallCard : Claim7 := { stood := { row := streamSmallRow, standIns := [], harness := (true, "aef582a328c211c4dfb7665f40f796728995946532f69b747361d5d888f86487"), looks := true }, kinds := [], alts := [], laidByText := true, laidKinds := [.data, .widerDeep, .data, .data], laidTests := true, laidLooks := .later }
def StreamSmallCardSaid : Prop := Claim7.holds Tryz.pinned (.plain (OpenSpec.ofChange streamSmallSpec)) streamSmallCard

/-- THE SECOND FORM's CARD OF 'quantumlaw11.StreamReads'. -/
def streamReadsUptoCard : Claim7 := { stood := { row := streamReadsUptoRow, standIns := [], harness := (true, "aef582a328c211c4dfb7665f40f796728995946532f69b747361d5d888f86487"), looks := true }, kinds := [], alts := [], laidByText := true, laidKinds := [.data, .widerDeep, .data, .data], laidTests := true, laidLooks := .later }
def StreamReadsUptoCardSaid : Prop := Claim7.holds Tryz.pinned (.plain (OpenSpec.upto streamReadsSpec)) streamReadsUptoCard

/-- THE SECOND FORM's CARD OF 'quantumlaw11.StreamSmall'. -/
def streamSmallUptoCard : Claim7 := { stood := { row := streamSmallUptoRow, standIns := [], harness := (true, "aef582a328c211c4dfb7665f40f796728995946532f69b747361d5d888f86487"), looks := true }, kinds := [], alts := [], laidByText := true, laidKinds := [.data, .widerDeep, .data, .data], laidTests := true, laidLooks := .later }
def StreamSmallUptoCardSaid : Prop := Claim7.holds Tryz.pinned (.plain (OpenSpec.upto streamSmallSpec)) streamSmallUptoCard
end Rows
end Go.Proofs.YtpklccgmjhikeaaGreatDoor

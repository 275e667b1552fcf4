/-
  DERIVED. GIVEN WITH THE SEED: THE CARDS: each row of YtfeheccoijnbaaaGreatDoorRows.lean that lists a variable, with what it lists TIED to the program's text (the seventh form; the later family's looks); each row that meets fmt, with fmt's text TOLD by the authors' own Lean function (tested against real Go, not proved from fmt's source: count such statements apart). THE CARD IS WHAT COUNTS. Prove the row's statement (the work); the ties are given (YtfeheccoijnbaaaGreatDoorTie.lean); close each card by the builder's one call (the guide's Derived/Test/ToyasCard.lean, 'card_holds'). Laid BY PROGRAM, IN A SANDBOX (cutbox-door.mjs). By AI agents, Wed Nov 11 2026. No macro, syntax, notation, axiom, sorry.
-/
import Derived.Test.YtfeheccoijnbaaaGreatDoorRows
import GoSem.ClaimSeven
namespace Go.Proofs.YtfeheccoijnbaaaGreatDoor
namespace Rows

/-- THE TIED CARD OF 'quantumlaw11.StreamWrites'. -/
def streamWritesCard : Claim7 := { stood := { row := streamWritesRow, standIns := [], harness := (true, "68c7ffa063461067db5b78564e78de34cf20c63afeb1b25c559af3a054c597e7"), looks := true }, kinds := [], alts := [], laidByText := true, laidKinds := [.data, .widerDeep, .data, .data], laidTests := true, laidLooks := .later }
def StreamWritesCardSaid : Prop := Claim7.holds Tryz.pinned (.plain (OpenSpec.ofChange streamWritesSpec)) streamWritesCard

/-- THE TIED CARD OF 'quantumlaw11.StreamReads'. -/
def streamReadsCard : Claim7 := { stood := { row := streamReadsRow, standIns := [], harness := (true, "68c7ffa063461067db5b78564e78de34cf20c63afeb1b25c559af3a054c597e7"), looks := true }, kinds := [], alts := [], laidByText := true, laidKinds := [.data, .widerDeep, .data, .data], laidTests := true, laidLooks := .later }
def StreamReadsCardSaid : Prop := Claim7.holds Tryz.pinned (.plain (OpenSpec.ofChange streamReadsSpec)) streamReadsCard

/-- THE TIED CARD OF 'quantumlaw11.StreamSmall'. -/
def streamSmallCard : Claim7 := { stood := { row := streamSmallRow, standIns := [], harness := (true, "68c7ffa063461067db5b78564e78de34cf20c63afeb1b25c559af3a054c597e7"), looks := true }, kinds := [], alts := [], laidByText := true, laidKinds := [.data, .widerDeep, .data, .data], laidTests := true, laidLooks := .later }
def StreamSmallCardSaid : Prop := Claim7.holds Tryz.pinned (.plain (OpenSpec.ofChange streamSmallSpec)) streamSmallCard

/-- THE SECOND FORM's CARD OF 'quantumlaw11.StreamWrites'. -/
def streamWritesUptoCard : Claim7 := { stood := { row := streamWritesUptoRow, standIns := [], harness := (true, "68c7ffa063461067db5b78564e78de34cf20c63afeb1b25c559af3a054c597e7"), looks := true }, kinds := [], alts := [], laidByText := true, laidKinds := [.data, .widerDeep, .data, .data], laidTests := true, laidLooks := .later }
def StreamWritesUptoCardSaid : Prop := Claim7.holds Tryz.pinned (.plain (OpenSpec.upto streamWritesSpec)) streamWritesUptoCard

/-- THE SECOND FORM's CARD OF 'quantumlaw11.StreamReads'. -/
def streamReadsUptoCard : Claim7 := { stood := { row := streamReadsUptoRow, standIns := [], harness := (true, "68c7ffa063461067db5b78564e78de34cf20c63afeb1b25c559af3a054c597e7"), looks := true }, kinds := [], alts := [], laidByText := true, laidKinds := [.data, .widerDeep, .data, .data], laidTests := true, laidLooks := .later }
def StreamReadsUptoCardSaid : Prop := Claim7.holds Tryz.pinned (.plain (OpenSpec.upto streamReadsSpec)) streamReadsUptoCard

/-- THE SECOND FORM's CARD OF 'quantumlaw11.StreamSmall'. -/
def streamSmallUptoCard : Claim7 := { stood := { row := streamSmallUptoRow, standIns := [], harness := (true, "68c7ffa063461067db5b78564e78de34cf20c63afeb1b25c559af3a054c597e7"), looks := true }, kinds := [], alts := [], laidByText := true, laidKinds := [.data, .widerDeep, .data, .data], laidTests := true, laidLooks := .later }
def StreamSmallUptoCardSaid : Prop := Claim7.holds Tryz.pinned (.plain (OpenSpec.upto streamSmallSpec)) streamSmallUptoCard
end Rows
end Go.Proofs.YtfeheccoijnbaaaGreatDoor

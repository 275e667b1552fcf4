/-
  DERIVED. GIVEN WITH THE SEED: THE CARDS: each row of YtpekelggcmgnnaaDoorRows.lean that lists a variable, with what it lists TIED to the program's text (the seventh form; the later family's looks); each row that meets fmt, with fmt's text TOLD by the authors' own Lean function (tested against real Go, not proved from fmt's source: count such statements apart). THE CARD IS WHAT COUNTS. Prove the row's statement (the work); the ties are given (YtpekelggcmgnnaaDoorTie.lean); close each card by the builder's one call (the guide's Derived/Test/ToyasCard.lean, 'card_holds'). Laid BY PROGRAM, IN A SANDBOX (cutbox-door.mjs). By AI agents, Wed Nov 11 2026. No macro, syntax, notation, axiom, sorry.
-/
import Derived.Test.YtpekelggcmgnnaaDoorRows
import GoSem.ClaimSeven
namespace Go.Proofs.YtpekelggcmgnnaaDoor
namespace Rows

/-- THE TIED CARD OF 'quantumlaw07.CodecRows'. -/
def codecRowsCard : Claim7 := { stood := { row := codecRowsRow, standIns := [], harness := (true, "cd75f2e9f2fc57270f2560d0eb4acc5cf413c851098d4479bda245590211233a"), looks := true }, kinds := [], alts := [], laidByText := true, laidKinds := [.data, .widerDeep], laidTests := true, laidLooks := .later }
def CodecRowsCardSaid : Prop := Claim7.holds Tryd.pinned (.plain (OpenSpec.ofChange codecRowsSpec)) codecRowsCard

/-- THE TIED CARD OF 'quantumlaw07.CodecOne'. -/
def codecOneCard : Claim7 := { stood := { row := codecOneRow, standIns := [], harness := (true, "cd75f2e9f2fc57270f2560d0eb4acc5cf413c851098d4479bda245590211233a"), looks := true }, kinds := [], alts := [], laidByText := true, laidKinds := [.data, .widerDeep], laidTests := true, laidLooks := .later }
def CodecOneCardSaid : Prop := Claim7.holds Tryd.pinned (.plain (OpenSpec.ofChange codecOneSpec)) codecOneCard

/-- THE TIED CARD OF 'quantumlaw07.CodecShort'. -/
def codecShortCard : Claim7 := { stood := { row := codecShortRow, standIns := [], harness := (true, "cd75f2e9f2fc57270f2560d0eb4acc5cf413c851098d4479bda245590211233a"), looks := true }, kinds := [], alts := [], laidByText := true, laidKinds := [.data, .widerDeep], laidTests := true, laidLooks := .later }
def CodecShortCardSaid : Prop := Claim7.holds Tryd.pinned (.plain (OpenSpec.ofChange codecShortSpec)) codecShortCard

/-- THE TIED CARD OF 'quantumlaw07.CodecShifts'. -/
def codecShiftsCard : Claim7 := { stood := { row := codecShiftsRow, standIns := [], harness := (true, "cd75f2e9f2fc57270f2560d0eb4acc5cf413c851098d4479bda245590211233a"), looks := true }, kinds := [], alts := [], laidByText := true, laidKinds := [.data, .widerDeep], laidTests := true, laidLooks := .later }
def CodecShiftsCardSaid : Prop := Claim7.holds Tryd.pinned (.plain (OpenSpec.ofChange codecShiftsSpec)) codecShiftsCard

/-- THE TIED CARD OF 'quantumlaw07.CodecWrong'. -/
def codecWrongCard : Claim7 := { stood := { row := codecWrongRow, standIns := [], harness := (true, "cd75f2e9f2fc57270f2560d0eb4acc5cf413c851098d4479bda245590211233a"), looks := true }, kinds := [], alts := [], laidByText := true, laidKinds := [.data, .widerDeep], laidTests := true, laidLooks := .later }
def CodecWrongCardSaid : Prop := Claim7.holds Tryd.pinned (.plain (OpenSpec.ofChange codecWrongSpec)) codecWrongCard

/-- THE TIED CARD OF 'quantumlaw07.CodecTells'. -/
def codecTellsCard : Claim7 := { stood := { row := codecTellsRow, standIns := [], harness := (true, "cd75f2e9f2fc57270f2560d0eb4acc5cf413c851098d4479bda245590211233a"), looks := true }, kinds := [], alts := [], laidByText := true, laidKinds := [.data, .widerDeep], laidTests := true, laidLooks := .later }
def CodecTellsCardSaid : Prop := Claim7.holds Tryd.pinned (.plain (OpenSpec.ofChange codecTellsSpec)) codecTellsCard

/-- THE TIED CARD OF 'quantumlaw07.CodecSmall'. -/
def codecSmallCard : Claim7 := { stood := { row := codecSmallRow, standIns := [], harness := (true, "cd75f2e9f2fc57270f2560d0eb4acc5cf413c851098d4479bda245590211233a"), looks := true }, kinds := [], alts := [], laidByText := true, laidKinds := [.data, .widerDeep], laidTests := true, laidLooks := .later }
def CodecSmallCardSaid : Prop := Claim7.holds Tryd.pinned (.plain (OpenSpec.ofChange codecSmallSpec)) codecSmallCard

/-- THE TIED CARD OF 'quantumlaw07.CodecBack'. -/
def codecBackCard : Claim7 := { stood := { row := codecBackRow, standIns := [], harness := (true, "cd75f2e9f2fc57270f2560d0eb4acc5cf413c851098d4479bda245590211233a"), looks := true }, kinds := [], alts := [], laidByText := true, laidKinds := [.data, .widerDeep], laidTests := true, laidLooks := .later }
def CodecBackCardSaid : Prop := Claim7.holds Tryd.pinned (.plain (OpenSpec.ofChange codecBackSpec)) codecBackCard

/-- THE SECOND FORM's CARD OF 'quantumlaw07.CodecRows'. -/
def codecRowsUptoCard : Claim7 := { stood := { row := codecRowsUptoRow, standIns := [], harness := (true, "cd75f2e9f2fc57270f2560d0eb4acc5cf413c851098d4479bda245590211233a"), looks := true }, kinds := [], alts := [], laidByText := true, laidKinds := [.data, .widerDeep], laidTests := true, laidLooks := .later }
def CodecRowsUptoCardSaid : Prop := Claim7.holds Tryd.pinned (.plain (OpenSpec.upto codecRowsSpec)) codecRowsUptoCard

/-- THE SECOND FORM's CARD OF 'quantumlaw07.CodecOne'. -/
def codecOneUptoCard : Claim7 := { stood := { row := codecOneUptoRow, standIns := [], harness := (true, "cd75f2e9f2fc57270f2560d0eb4acc5cf413c851098d4479bda245590211233a"), looks := true }, kinds := [], alts := [], laidByText := true, laidKinds := [.data, .widerDeep], laidTests := true, laidLooks := .later }
def CodecOneUptoCardSaid : Prop := Claim7.holds Tryd.pinned (.plain (OpenSpec.upto codecOneSpec)) codecOneUptoCard

/-- THE SECOND FORM's CARD OF 'quantumlaw07.CodecShort'. -/
def codecShortUptoCard : Claim7 := { stood := { row := codecShortUptoRow, standIns := [], harness := (true, "cd75f2e9f2fc57270f2560d0eb4acc5cf413c851098d4479bda245590211233a"), looks := true }, kinds := [], alts := [], laidByText := true, laidKinds := [.data, .widerDeep], laidTests := true, laidLooks := .later }
def CodecShortUptoCardSaid : Prop := Claim7.holds Tryd.pinned (.plain (OpenSpec.upto codecShortSpec)) codecShortUptoCard

/-- THE SECOND FORM's CARD OF 'quantumlaw07.CodecShifts'. -/
def codecShiftsUptoCard : Claim7 := { stood := { row := codecShiftsUptoRow, standIns := [], harness := (true, "cd75f2e9f2fc57270f2560d0eb4acc5cf413c851098d4479bda245590211233a"), looks := true }, kinds := [], alts := [], laidByText := true, laidKinds := [.data, .widerDeep], laidTests := true, laidLooks := .later }
def CodecShiftsUptoCardSaid : Prop := Claim7.holds Tryd.pinned (.plain (OpenSpec.upto codecShiftsSpec)) codecShiftsUptoCard

/-- THE SECOND FORM's CARD OF 'quantumlaw07.CodecWrong'. -/
def codecWrongUptoCard : Claim7 := { stood := { row := codecWrongUptoRow, standIns := [], harness := (true, "cd75f2e9f2fc57270f2560d0eb4acc5cf413c851098d4479bda245590211233a"), looks := true }, kinds := [], alts := [], laidByText := true, laidKinds := [.data, .widerDeep], laidTests := true, laidLooks := .later }
def CodecWrongUptoCardSaid : Prop := Claim7.holds Tryd.pinned (.plain (OpenSpec.upto codecWrongSpec)) codecWrongUptoCard

/-- THE SECOND FORM's CARD OF 'quantumlaw07.CodecTells'. -/
def codecTellsUptoCard : Claim7 := { stood := { row := codecTellsUptoRow, standIns := [], harness := (true, "cd75f2e9f2fc57270f2560d0eb4acc5cf413c851098d4479bda245590211233a"), looks := true }, kinds := [], alts := [], laidByText := true, laidKinds := [.data, .widerDeep], laidTests := true, laidLooks := .later }
def CodecTellsUptoCardSaid : Prop := Claim7.holds Tryd.pinned (.plain (OpenSpec.upto codecTellsSpec)) codecTellsUptoCard

/-- THE SECOND FORM's CARD OF 'quantumlaw07.CodecSmall'. -/
def codecSmallUptoCard : Claim7 := { stood := { row := codecSmallUptoRow, standIns := [], harness := (true, "cd75f2e9f2fc57270f2560d0eb4acc5cf413c851098d4479bda245590211233a"), looks := true }, kinds := [], alts := [], laidByText := true, laidKinds := [.data, .widerDeep], laidTests := true, laidLooks := .later }
def CodecSmallUptoCardSaid : Prop := Claim7.holds Tryd.pinned (.plain (OpenSpec.upto codecSmallSpec)) codecSmallUptoCard

/-- THE SECOND FORM's CARD OF 'quantumlaw07.CodecBack'. -/
def codecBackUptoCard : Claim7 := { stood := { row := codecBackUptoRow, standIns := [], harness := (true, "cd75f2e9f2fc57270f2560d0eb4acc5cf413c851098d4479bda245590211233a"), looks := true }, kinds := [], alts := [], laidByText := true, laidKinds := [.data, .widerDeep], laidTests := true, laidLooks := .later }
def CodecBackUptoCardSaid : Prop := Claim7.holds Tryd.pinned (.plain (OpenSpec.upto codecBackSpec)) codecBackUptoCard
end Rows
end Go.Proofs.YtpekelggcmgnnaaDoor

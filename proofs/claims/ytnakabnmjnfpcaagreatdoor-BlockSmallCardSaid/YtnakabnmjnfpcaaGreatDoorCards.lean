/-
  DERIVED. GIVEN WITH THE SEED: THE CARDS: each row of YtnakabnmjnfpcaaGreatDoorRows.lean that lists a variable, with what it lists TIED to the program's text (the seventh form; the later family's looks); each row that meets fmt, with fmt's text TOLD by the authors' own Lean function (tested against real Go, not proved from fmt's source: count such statements apart). THE CARD IS WHAT COUNTS. Prove the row's statement (the work); the ties are given (YtnakabnmjnfpcaaGreatDoorTie.lean); close each card by the builder's one call (the guide's Derived/Test/ToyasCard.lean, 'card_holds'). Laid BY PROGRAM, IN A SANDBOX (cutbox-door.mjs). By AI agents, Wed Nov 11 2026. No macro, syntax, notation, axiom, sorry.
-/
import Derived.Test.YtnakabnmjnfpcaaGreatDoorRows
import GoSem.ClaimSeven
namespace Go.Proofs.YtnakabnmjnfpcaaGreatDoor
namespace Rows

/-- THE TIED CARD OF 'quantumlaw10.BlockSmall'. -/
def blockSmallCard : Claim7 := { stood := { row := blockSmallRow, standIns := [], harness := (true, "106af453bb8fa4430b891f80edcf07c45c503af80b2ca8806ea863295fca3fb9"), looks := true }, kinds := [], alts := [], laidByText := true, laidKinds := [.data, .widerDeep, .data, .data], laidTests := true, laidLooks := .later }
def BlockSmallCardSaid : Prop := Claim7.holds Tryz.pinned (.plain (OpenSpec.ofChange blockSmallSpec)) blockSmallCard

/-- THE SECOND FORM's CARD OF 'quantumlaw10.BlockSmall'. -/
def blockSmallUptoCard : Claim7 := { stood := { row := blockSmallUptoRow, standIns := [], harness := (true, "106af453bb8fa4430b891f80edcf07c45c503af80b2ca8806ea863295fca3fb9"), looks := true }, kinds := [], alts := [], laidByText := true, laidKinds := [.data, .widerDeep, .data, .data], laidTests := true, laidLooks := .later }
def BlockSmallUptoCardSaid : Prop := Claim7.holds Tryz.pinned (.plain (OpenSpec.upto blockSmallSpec)) blockSmallUptoCard
end Rows
end Go.Proofs.YtnakabnmjnfpcaaGreatDoor

/-
  DERIVED. GIVEN WITH THE SEED: THE CARDS: each row of YtggpmlaappaopaaGreatDoorRows.lean that lists a variable, with what it lists TIED to the program's text (the seventh form; the later family's looks); each row that meets fmt, with fmt's text TOLD by the authors' own Lean function (tested against real Go, not proved from fmt's source: count such statements apart). THE CARD IS WHAT COUNTS. Prove the row's statement (the work); the ties are given (YtggpmlaappaopaaGreatDoorTie.lean); close each card by the builder's one call (the guide's Derived/Test/ToyasCard.lean, 'card_holds'). Laid BY PROGRAM, IN A SANDBOX (cutbox-door.mjs). By AI agents, Wed Nov 11 2026. No macro, syntax, notation, axiom, sorry.
-/
import Derived.Test.YtggpmlaappaopaaGreatDoorRows
import GoSem.ClaimSeven
namespace Go.Proofs.YtggpmlaappaopaaGreatDoor
namespace Rows

/-- THE TIED CARD OF 'quantumlaw33.CanonTells'. -/
def canonTellsCard : Claim7 := { stood := { row := canonTellsRow, standIns := [], harness := (true, "f19a930a306d951db8346439b2d1194c3d6e0418540ab175a56884e0da26f064"), looks := true }, kinds := [], alts := [], laidByText := true, laidKinds := [.data], laidTests := true, laidLooks := .later }
def CanonTellsCardSaid : Prop := Claim7.holds Tryz.pinned (.plain (OpenSpec.ofChange canonTellsSpec)) canonTellsCard

/-- THE TIED CARD OF 'quantumlaw33.CanonSmall'. -/
def canonSmallCard : Claim7 := { stood := { row := canonSmallRow, standIns := [], harness := (true, "f19a930a306d951db8346439b2d1194c3d6e0418540ab175a56884e0da26f064"), looks := true }, kinds := [], alts := [], laidByText := true, laidKinds := [.data], laidTests := true, laidLooks := .later }
def CanonSmallCardSaid : Prop := Claim7.holds Tryz.pinned (.plain (OpenSpec.ofChange canonSmallSpec)) canonSmallCard

/-- THE TIED CARD OF 'quantumlaw34.ParseTells'. -/
def parseTellsCard : Claim7 := { stood := { row := parseTellsRow, standIns := [], harness := (true, "f19a930a306d951db8346439b2d1194c3d6e0418540ab175a56884e0da26f064"), looks := true }, kinds := [], alts := [], laidByText := true, laidKinds := [.data], laidTests := true, laidLooks := .later }
def ParseTellsCardSaid : Prop := Claim7.holds Tryz.pinned (.plain (OpenSpec.ofChange parseTellsSpec)) parseTellsCard

/-- THE TIED CARD OF 'quantumlaw34.ParseSmall'. -/
def parseSmallCard : Claim7 := { stood := { row := parseSmallRow, standIns := [], harness := (true, "f19a930a306d951db8346439b2d1194c3d6e0418540ab175a56884e0da26f064"), looks := true }, kinds := [], alts := [], laidByText := true, laidKinds := [.data], laidTests := true, laidLooks := .later }
def ParseSmallCardSaid : Prop := Claim7.holds Tryz.pinned (.plain (OpenSpec.ofChange parseSmallSpec)) parseSmallCard

/-- THE SECOND FORM's CARD OF 'quantumlaw33.CanonTells'. -/
def canonTellsUptoCard : Claim7 := { stood := { row := canonTellsUptoRow, standIns := [], harness := (true, "f19a930a306d951db8346439b2d1194c3d6e0418540ab175a56884e0da26f064"), looks := true }, kinds := [], alts := [], laidByText := true, laidKinds := [.data], laidTests := true, laidLooks := .later }
def CanonTellsUptoCardSaid : Prop := Claim7.holds Tryz.pinned (.plain (OpenSpec.upto canonTellsSpec)) canonTellsUptoCard

/-- THE SECOND FORM's CARD OF 'quantumlaw33.CanonSmall'. -/
def canonSmallUptoCard : Claim7 := { stood := { row := canonSmallUptoRow, standIns := [], harness := (true, "f19a930a306d951db8346439b2d1194c3d6e0418540ab175a56884e0da26f064"), looks := true }, kinds := [], alts := [], laidByText := true, laidKinds := [.data], laidTests := true, laidLooks := .later }
def CanonSmallUptoCardSaid : Prop := Claim7.holds Tryz.pinned (.plain (OpenSpec.upto canonSmallSpec)) canonSmallUptoCard

/-- THE SECOND FORM's CARD OF 'quantumlaw34.ParseTells'. -/
def parseTellsUptoCard : Claim7 := { stood := { row := parseTellsUptoRow, standIns := [], harness := (true, "f19a930a306d951db8346439b2d1194c3d6e0418540ab175a56884e0da26f064"), looks := true }, kinds := [], alts := [], laidByText := true, laidKinds := [.data], laidTests := true, laidLooks := .later }
def ParseTellsUptoCardSaid : Prop := Claim7.holds Tryz.pinned (.plain (OpenSpec.upto parseTellsSpec)) parseTellsUptoCard

/-- THE SECOND FORM's CARD OF 'quantumlaw34.ParseSmall'. -/
def parseSmallUptoCard : Claim7 := { stood := { row := parseSmallUptoRow, standIns := [], harness := (true, "f19a930a306d951db8346439b2d1194c3d6e0418540ab175a56884e0da26f064"), looks := true }, kinds := [], alts := [], laidByText := true, laidKinds := [.data], laidTests := true, laidLooks := .later }
def ParseSmallUptoCardSaid : Prop := Claim7.holds Tryz.pinned (.plain (OpenSpec.upto parseSmallSpec)) parseSmallUptoCard
end Rows
end Go.Proofs.YtggpmlaappaopaaGreatDoor

/-
  DERIVED. GIVEN WITH THE SEED: THE CARDS: each row of YtfeheccoijnbaaaDoorRows.lean that lists a variable, with what it lists TIED to the program's text (the seventh form; the later family's looks); each row that meets fmt, with fmt's text TOLD by the authors' own Lean function (tested against real Go, not proved from fmt's source: count such statements apart). THE CARD IS WHAT COUNTS. Prove the row's statement (the work); the ties are given (YtfeheccoijnbaaaDoorTie.lean); close each card by the builder's one call (the guide's Derived/Test/ToyasCard.lean, 'card_holds'). Laid BY PROGRAM, IN A SANDBOX (cutbox-door.mjs). By AI agents, Wed Nov 11 2026. No macro, syntax, notation, axiom, sorry.
-/
import Derived.Test.YtfeheccoijnbaaaDoorRows
import GoSem.ClaimSeven
namespace Go.Proofs.YtfeheccoijnbaaaDoor
namespace Rows

/-- THE TIED CARD OF 'quantumlaw11.StreamCuts'. -/
def streamCutsCard : Claim7 := { stood := { row := streamCutsRow, standIns := [], harness := (true, "6ddd6fab0c6d9649c49236c425a2e175e10664938d39afd607bd3d97e34de2ac"), looks := true }, kinds := [], alts := [], laidByText := true, laidKinds := [.data, .widerDeep, .data, .data], laidTests := true, laidLooks := .later }
def StreamCutsCardSaid : Prop := Claim7.holds Tryd.pinned (.plain (OpenSpec.ofChange streamCutsSpec)) streamCutsCard

/-- THE TIED CARD OF 'quantumlaw11.StreamFull'. -/
def streamFullCard : Claim7 := { stood := { row := streamFullRow, standIns := [], harness := (true, "6ddd6fab0c6d9649c49236c425a2e175e10664938d39afd607bd3d97e34de2ac"), looks := true }, kinds := [], alts := [], laidByText := true, laidKinds := [.data, .widerDeep, .data, .data], laidTests := true, laidLooks := .later }
def StreamFullCardSaid : Prop := Claim7.holds Tryd.pinned (.plain (OpenSpec.ofChange streamFullSpec)) streamFullCard

/-- THE TIED CARD OF 'quantumlaw11.StreamWrong'. -/
def streamWrongCard : Claim7 := { stood := { row := streamWrongRow, standIns := [], harness := (true, "6ddd6fab0c6d9649c49236c425a2e175e10664938d39afd607bd3d97e34de2ac"), looks := true }, kinds := [], alts := [], laidByText := true, laidKinds := [.data, .widerDeep, .data, .data], laidTests := true, laidLooks := .later }
def StreamWrongCardSaid : Prop := Claim7.holds Tryd.pinned (.plain (OpenSpec.ofChange streamWrongSpec)) streamWrongCard

/-- THE TIED CARD OF 'quantumlaw11.StreamJoins'. -/
def streamJoinsCard : Claim7 := { stood := { row := streamJoinsRow, standIns := [], harness := (true, "6ddd6fab0c6d9649c49236c425a2e175e10664938d39afd607bd3d97e34de2ac"), looks := true }, kinds := [], alts := [], laidByText := true, laidKinds := [.data, .widerDeep, .data, .data], laidTests := true, laidLooks := .later }
def StreamJoinsCardSaid : Prop := Claim7.holds Tryd.pinned (.plain (OpenSpec.ofChange streamJoinsSpec)) streamJoinsCard

/-- THE TIED CARD OF 'quantumlaw11.StreamStops'. -/
def streamStopsCard : Claim7 := { stood := { row := streamStopsRow, standIns := [], harness := (true, "6ddd6fab0c6d9649c49236c425a2e175e10664938d39afd607bd3d97e34de2ac"), looks := true }, kinds := [], alts := [], laidByText := true, laidKinds := [.data, .widerDeep, .data, .data], laidTests := true, laidLooks := .later }
def StreamStopsCardSaid : Prop := Claim7.holds Tryd.pinned (.plain (OpenSpec.ofChange streamStopsSpec)) streamStopsCard

/-- THE TIED CARD OF 'quantumlaw11.StreamBack'. -/
def streamBackCard : Claim7 := { stood := { row := streamBackRow, standIns := [], harness := (true, "6ddd6fab0c6d9649c49236c425a2e175e10664938d39afd607bd3d97e34de2ac"), looks := true }, kinds := [], alts := [], laidByText := true, laidKinds := [.data, .widerDeep, .data, .data], laidTests := true, laidLooks := .later }
def StreamBackCardSaid : Prop := Claim7.holds Tryd.pinned (.plain (OpenSpec.ofChange streamBackSpec)) streamBackCard

/-- THE SECOND FORM's CARD OF 'quantumlaw11.StreamCuts'. -/
def streamCutsUptoCard : Claim7 := { stood := { row := streamCutsUptoRow, standIns := [], harness := (true, "6ddd6fab0c6d9649c49236c425a2e175e10664938d39afd607bd3d97e34de2ac"), looks := true }, kinds := [], alts := [], laidByText := true, laidKinds := [.data, .widerDeep, .data, .data], laidTests := true, laidLooks := .later }
def StreamCutsUptoCardSaid : Prop := Claim7.holds Tryd.pinned (.plain (OpenSpec.upto streamCutsSpec)) streamCutsUptoCard

/-- THE SECOND FORM's CARD OF 'quantumlaw11.StreamFull'. -/
def streamFullUptoCard : Claim7 := { stood := { row := streamFullUptoRow, standIns := [], harness := (true, "6ddd6fab0c6d9649c49236c425a2e175e10664938d39afd607bd3d97e34de2ac"), looks := true }, kinds := [], alts := [], laidByText := true, laidKinds := [.data, .widerDeep, .data, .data], laidTests := true, laidLooks := .later }
def StreamFullUptoCardSaid : Prop := Claim7.holds Tryd.pinned (.plain (OpenSpec.upto streamFullSpec)) streamFullUptoCard

/-- THE SECOND FORM's CARD OF 'quantumlaw11.StreamWrong'. -/
def streamWrongUptoCard : Claim7 := { stood := { row := streamWrongUptoRow, standIns := [], harness := (true, "6ddd6fab0c6d9649c49236c425a2e175e10664938d39afd607bd3d97e34de2ac"), looks := true }, kinds := [], alts := [], laidByText := true, laidKinds := [.data, .widerDeep, .data, .data], laidTests := true, laidLooks := .later }
def StreamWrongUptoCardSaid : Prop := Claim7.holds Tryd.pinned (.plain (OpenSpec.upto streamWrongSpec)) streamWrongUptoCard

/-- THE SECOND FORM's CARD OF 'quantumlaw11.StreamJoins'. -/
def streamJoinsUptoCard : Claim7 := { stood := { row := streamJoinsUptoRow, standIns := [], harness := (true, "6ddd6fab0c6d9649c49236c425a2e175e10664938d39afd607bd3d97e34de2ac"), looks := true }, kinds := [], alts := [], laidByText := true, laidKinds := [.data, .widerDeep, .data, .data], laidTests := true, laidLooks := .later }
def StreamJoinsUptoCardSaid : Prop := Claim7.holds Tryd.pinned (.plain (OpenSpec.upto streamJoinsSpec)) streamJoinsUptoCard

/-- THE SECOND FORM's CARD OF 'quantumlaw11.StreamStops'. -/
def streamStopsUptoCard : Claim7 := { stood := { row := streamStopsUptoRow, standIns := [], harness := (true, "6ddd6fab0c6d9649c49236c425a2e175e10664938d39afd607bd3d97e34de2ac"), looks := true }, kinds := [], alts := [], laidByText := true, laidKinds := [.data, .widerDeep, .data, .data], laidTests := true, laidLooks := .later }
def StreamStopsUptoCardSaid : Prop := Claim7.holds Tryd.pinned (.plain (OpenSpec.upto streamStopsSpec)) streamStopsUptoCard

/-- THE SECOND FORM's CARD OF 'quantumlaw11.StreamBack'. -/
def streamBackUptoCard : Claim7 := { stood := { row := streamBackUptoRow, standIns := [], harness := (true, "6ddd6fab0c6d9649c49236c425a2e175e10664938d39afd607bd3d97e34de2ac"), looks := true }, kinds := [], alts := [], laidByText := true, laidKinds := [.data, .widerDeep, .data, .data], laidTests := true, laidLooks := .later }
def StreamBackUptoCardSaid : Prop := Claim7.holds Tryd.pinned (.plain (OpenSpec.upto streamBackSpec)) streamBackUptoCard
end Rows
end Go.Proofs.YtfeheccoijnbaaaDoor

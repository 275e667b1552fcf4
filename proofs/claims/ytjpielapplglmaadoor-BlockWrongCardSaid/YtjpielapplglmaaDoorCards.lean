/-
  DERIVED. GIVEN WITH THE SEED: THE CARDS: each row of YtjpielapplglmaaDoorRows.lean that lists a variable, with what it lists TIED to the program's text (the seventh form; the later family's looks); each row that meets fmt, with fmt's text TOLD by the authors' own Lean function (tested against real Go, not proved from fmt's source: count such statements apart). THE CARD IS WHAT COUNTS. Prove the row's statement (the work); the ties are given (YtjpielapplglmaaDoorTie.lean); close each card by the builder's one call (the guide's Derived/Test/ToyasCard.lean, 'card_holds'). Laid BY PROGRAM, IN A SANDBOX (cutbox-door.mjs). By AI agents, Wed Nov 11 2026. No macro, syntax, notation, axiom, sorry.
-/
import Derived.Test.YtjpielapplglmaaDoorRows
import GoSem.ClaimSeven
namespace Go.Proofs.YtjpielapplglmaaDoor
namespace Rows

/-- THE TIED CARD OF 'quantumlaw10.BlockReads'. -/
def blockReadsCard : Claim7 := { stood := { row := blockReadsRow, standIns := [], harness := (true, "6a7ae9db9ab7f4bf2896a55c1f751d2b2035846369e8ce7d4eae55428703423a"), looks := true }, kinds := [], alts := [], laidByText := true, laidKinds := [.data, .widerDeep, .data, .data], laidTests := true, laidLooks := .later }
def BlockReadsCardSaid : Prop := Claim7.holds Tryd.pinned (.plain (OpenSpec.ofChange blockReadsSpec)) blockReadsCard

/-- THE TIED CARD OF 'quantumlaw10.BlockBursts'. -/
def blockBurstsCard : Claim7 := { stood := { row := blockBurstsRow, standIns := [], harness := (true, "6a7ae9db9ab7f4bf2896a55c1f751d2b2035846369e8ce7d4eae55428703423a"), looks := true }, kinds := [], alts := [], laidByText := true, laidKinds := [.data, .widerDeep, .data, .data], laidTests := true, laidLooks := .later }
def BlockBurstsCardSaid : Prop := Claim7.holds Tryd.pinned (.plain (OpenSpec.ofChange blockBurstsSpec)) blockBurstsCard

/-- THE TIED CARD OF 'quantumlaw10.BlockCuts'. -/
def blockCutsCard : Claim7 := { stood := { row := blockCutsRow, standIns := [], harness := (true, "6a7ae9db9ab7f4bf2896a55c1f751d2b2035846369e8ce7d4eae55428703423a"), looks := true }, kinds := [], alts := [], laidByText := true, laidKinds := [.data, .widerDeep, .data, .data], laidTests := true, laidLooks := .later }
def BlockCutsCardSaid : Prop := Claim7.holds Tryd.pinned (.plain (OpenSpec.ofChange blockCutsSpec)) blockCutsCard

/-- THE TIED CARD OF 'quantumlaw10.BlockBack'. -/
def blockBackCard : Claim7 := { stood := { row := blockBackRow, standIns := [], harness := (true, "6a7ae9db9ab7f4bf2896a55c1f751d2b2035846369e8ce7d4eae55428703423a"), looks := true }, kinds := [], alts := [], laidByText := true, laidKinds := [.data, .widerDeep, .data, .data], laidTests := true, laidLooks := .later }
def BlockBackCardSaid : Prop := Claim7.holds Tryd.pinned (.plain (OpenSpec.ofChange blockBackSpec)) blockBackCard

/-- THE TIED CARD OF 'quantumlaw10.BlockOne'. -/
def blockOneCard : Claim7 := { stood := { row := blockOneRow, standIns := [], harness := (true, "6a7ae9db9ab7f4bf2896a55c1f751d2b2035846369e8ce7d4eae55428703423a"), looks := true }, kinds := [], alts := [], laidByText := true, laidKinds := [.data, .widerDeep, .data, .data], laidTests := true, laidLooks := .later }
def BlockOneCardSaid : Prop := Claim7.holds Tryd.pinned (.plain (OpenSpec.ofChange blockOneSpec)) blockOneCard

/-- THE TIED CARD OF 'quantumlaw10.BlockFinds'. -/
def blockFindsCard : Claim7 := { stood := { row := blockFindsRow, standIns := [], harness := (true, "6a7ae9db9ab7f4bf2896a55c1f751d2b2035846369e8ce7d4eae55428703423a"), looks := true }, kinds := [], alts := [], laidByText := true, laidKinds := [.data, .widerDeep, .data, .data], laidTests := true, laidLooks := .later }
def BlockFindsCardSaid : Prop := Claim7.holds Tryd.pinned (.plain (OpenSpec.ofChange blockFindsSpec)) blockFindsCard

/-- THE TIED CARD OF 'quantumlaw10.BlockFills'. -/
def blockFillsCard : Claim7 := { stood := { row := blockFillsRow, standIns := [], harness := (true, "6a7ae9db9ab7f4bf2896a55c1f751d2b2035846369e8ce7d4eae55428703423a"), looks := true }, kinds := [], alts := [], laidByText := true, laidKinds := [.data, .widerDeep, .data, .data], laidTests := true, laidLooks := .later }
def BlockFillsCardSaid : Prop := Claim7.holds Tryd.pinned (.plain (OpenSpec.ofChange blockFillsSpec)) blockFillsCard

/-- THE TIED CARD OF 'quantumlaw10.BlockWrong'. -/
def blockWrongCard : Claim7 := { stood := { row := blockWrongRow, standIns := [], harness := (true, "6a7ae9db9ab7f4bf2896a55c1f751d2b2035846369e8ce7d4eae55428703423a"), looks := true }, kinds := [], alts := [], laidByText := true, laidKinds := [.data, .widerDeep, .data, .data], laidTests := true, laidLooks := .later }
def BlockWrongCardSaid : Prop := Claim7.holds Tryd.pinned (.plain (OpenSpec.ofChange blockWrongSpec)) blockWrongCard

/-- THE TIED CARD OF 'quantumlaw10.BlockTells'. -/
def blockTellsCard : Claim7 := { stood := { row := blockTellsRow, standIns := [], harness := (true, "6a7ae9db9ab7f4bf2896a55c1f751d2b2035846369e8ce7d4eae55428703423a"), looks := true }, kinds := [], alts := [], laidByText := true, laidKinds := [.data, .widerDeep, .data, .data], laidTests := true, laidLooks := .later }
def BlockTellsCardSaid : Prop := Claim7.holds Tryd.pinned (.plain (OpenSpec.ofChange blockTellsSpec)) blockTellsCard

/-- THE SECOND FORM's CARD OF 'quantumlaw10.BlockReads'. -/
def blockReadsUptoCard : Claim7 := { stood := { row := blockReadsUptoRow, standIns := [], harness := (true, "6a7ae9db9ab7f4bf2896a55c1f751d2b2035846369e8ce7d4eae55428703423a"), looks := true }, kinds := [], alts := [], laidByText := true, laidKinds := [.data, .widerDeep, .data, .data], laidTests := true, laidLooks := .later }
def BlockReadsUptoCardSaid : Prop := Claim7.holds Tryd.pinned (.plain (OpenSpec.upto blockReadsSpec)) blockReadsUptoCard

/-- THE SECOND FORM's CARD OF 'quantumlaw10.BlockBursts'. -/
def blockBurstsUptoCard : Claim7 := { stood := { row := blockBurstsUptoRow, standIns := [], harness := (true, "6a7ae9db9ab7f4bf2896a55c1f751d2b2035846369e8ce7d4eae55428703423a"), looks := true }, kinds := [], alts := [], laidByText := true, laidKinds := [.data, .widerDeep, .data, .data], laidTests := true, laidLooks := .later }
def BlockBurstsUptoCardSaid : Prop := Claim7.holds Tryd.pinned (.plain (OpenSpec.upto blockBurstsSpec)) blockBurstsUptoCard

/-- THE SECOND FORM's CARD OF 'quantumlaw10.BlockCuts'. -/
def blockCutsUptoCard : Claim7 := { stood := { row := blockCutsUptoRow, standIns := [], harness := (true, "6a7ae9db9ab7f4bf2896a55c1f751d2b2035846369e8ce7d4eae55428703423a"), looks := true }, kinds := [], alts := [], laidByText := true, laidKinds := [.data, .widerDeep, .data, .data], laidTests := true, laidLooks := .later }
def BlockCutsUptoCardSaid : Prop := Claim7.holds Tryd.pinned (.plain (OpenSpec.upto blockCutsSpec)) blockCutsUptoCard

/-- THE SECOND FORM's CARD OF 'quantumlaw10.BlockBack'. -/
def blockBackUptoCard : Claim7 := { stood := { row := blockBackUptoRow, standIns := [], harness := (true, "6a7ae9db9ab7f4bf2896a55c1f751d2b2035846369e8ce7d4eae55428703423a"), looks := true }, kinds := [], alts := [], laidByText := true, laidKinds := [.data, .widerDeep, .data, .data], laidTests := true, laidLooks := .later }
def BlockBackUptoCardSaid : Prop := Claim7.holds Tryd.pinned (.plain (OpenSpec.upto blockBackSpec)) blockBackUptoCard

/-- THE SECOND FORM's CARD OF 'quantumlaw10.BlockOne'. -/
def blockOneUptoCard : Claim7 := { stood := { row := blockOneUptoRow, standIns := [], harness := (true, "6a7ae9db9ab7f4bf2896a55c1f751d2b2035846369e8ce7d4eae55428703423a"), looks := true }, kinds := [], alts := [], laidByText := true, laidKinds := [.data, .widerDeep, .data, .data], laidTests := true, laidLooks := .later }
def BlockOneUptoCardSaid : Prop := Claim7.holds Tryd.pinned (.plain (OpenSpec.upto blockOneSpec)) blockOneUptoCard

/-- THE SECOND FORM's CARD OF 'quantumlaw10.BlockFinds'. -/
def blockFindsUptoCard : Claim7 := { stood := { row := blockFindsUptoRow, standIns := [], harness := (true, "6a7ae9db9ab7f4bf2896a55c1f751d2b2035846369e8ce7d4eae55428703423a"), looks := true }, kinds := [], alts := [], laidByText := true, laidKinds := [.data, .widerDeep, .data, .data], laidTests := true, laidLooks := .later }
def BlockFindsUptoCardSaid : Prop := Claim7.holds Tryd.pinned (.plain (OpenSpec.upto blockFindsSpec)) blockFindsUptoCard

/-- THE SECOND FORM's CARD OF 'quantumlaw10.BlockFills'. -/
def blockFillsUptoCard : Claim7 := { stood := { row := blockFillsUptoRow, standIns := [], harness := (true, "6a7ae9db9ab7f4bf2896a55c1f751d2b2035846369e8ce7d4eae55428703423a"), looks := true }, kinds := [], alts := [], laidByText := true, laidKinds := [.data, .widerDeep, .data, .data], laidTests := true, laidLooks := .later }
def BlockFillsUptoCardSaid : Prop := Claim7.holds Tryd.pinned (.plain (OpenSpec.upto blockFillsSpec)) blockFillsUptoCard

/-- THE SECOND FORM's CARD OF 'quantumlaw10.BlockWrong'. -/
def blockWrongUptoCard : Claim7 := { stood := { row := blockWrongUptoRow, standIns := [], harness := (true, "6a7ae9db9ab7f4bf2896a55c1f751d2b2035846369e8ce7d4eae55428703423a"), looks := true }, kinds := [], alts := [], laidByText := true, laidKinds := [.data, .widerDeep, .data, .data], laidTests := true, laidLooks := .later }
def BlockWrongUptoCardSaid : Prop := Claim7.holds Tryd.pinned (.plain (OpenSpec.upto blockWrongSpec)) blockWrongUptoCard

/-- THE SECOND FORM's CARD OF 'quantumlaw10.BlockTells'. -/
def blockTellsUptoCard : Claim7 := { stood := { row := blockTellsUptoRow, standIns := [], harness := (true, "6a7ae9db9ab7f4bf2896a55c1f751d2b2035846369e8ce7d4eae55428703423a"), looks := true }, kinds := [], alts := [], laidByText := true, laidKinds := [.data, .widerDeep, .data, .data], laidTests := true, laidLooks := .later }
def BlockTellsUptoCardSaid : Prop := Claim7.holds Tryd.pinned (.plain (OpenSpec.upto blockTellsSpec)) blockTellsUptoCard
end Rows
end Go.Proofs.YtjpielapplglmaaDoor

/-
  DERIVED. GIVEN WITH THE SEED: THE CARDS: each row of YtcajpeiobkcliaaGreatDoorRows.lean that lists a variable, with what it lists TIED to the program's text (the seventh form; the later family's looks); each row that meets fmt, with fmt's text TOLD by the authors' own Lean function (tested against real Go, not proved from fmt's source: count such statements apart). THE CARD IS WHAT COUNTS. Prove the row's statement (the work); the ties are given (YtcajpeiobkcliaaGreatDoorTie.lean); close each card by the builder's one call (the guide's Derived/Test/ToyasCard.lean, 'card_holds'). Laid BY PROGRAM, IN A SANDBOX (cutbox-door.mjs). By AI agents, Wed Nov 11 2026. No macro, syntax, notation, axiom, sorry.
-/
import Derived.Test.YtcajpeiobkcliaaGreatDoorRows
import GoSem.ClaimSeven
namespace Go.Proofs.YtcajpeiobkcliaaGreatDoor
namespace Rows

/-- THE TIED CARD OF 'quantumlaw33.CanonOne'. -/
def canonOneCard : Claim7 := { stood := { row := canonOneRow, standIns := [], harness := (true, "70a0da3b58e841f1cfad294dbf493bf29bbc55680a400c841544edf65be8e26e"), looks := true }, kinds := [], alts := [], laidByText := true, laidKinds := [.data], laidTests := true, laidLooks := .later }
def CanonOneCardSaid : Prop := Claim7.holds Tryz.pinned (.plain (OpenSpec.ofChange canonOneSpec)) canonOneCard

/-- THE TIED CARD OF 'quantumlaw33.CanonChange'. -/
def canonChangeCard : Claim7 := { stood := { row := canonChangeRow, standIns := [], harness := (true, "70a0da3b58e841f1cfad294dbf493bf29bbc55680a400c841544edf65be8e26e"), looks := true }, kinds := [], alts := [], laidByText := true, laidKinds := [.data], laidTests := true, laidLooks := .later }
def CanonChangeCardSaid : Prop := Claim7.holds Tryz.pinned (.plain (OpenSpec.ofChange canonChangeSpec)) canonChangeCard

/-- THE TIED CARD OF 'quantumlaw33.CanonWrong'. -/
def canonWrongCard : Claim7 := { stood := { row := canonWrongRow, standIns := [], harness := (true, "70a0da3b58e841f1cfad294dbf493bf29bbc55680a400c841544edf65be8e26e"), looks := true }, kinds := [], alts := [], laidByText := true, laidKinds := [.data], laidTests := true, laidLooks := .later }
def CanonWrongCardSaid : Prop := Claim7.holds Tryz.pinned (.plain (OpenSpec.ofChange canonWrongSpec)) canonWrongCard

/-- THE TIED CARD OF 'quantumlaw33.CanonSections'. -/
def canonSectionsCard : Claim7 := { stood := { row := canonSectionsRow, standIns := [], harness := (true, "70a0da3b58e841f1cfad294dbf493bf29bbc55680a400c841544edf65be8e26e"), looks := true }, kinds := [], alts := [], laidByText := true, laidKinds := [.data], laidTests := true, laidLooks := .later }
def CanonSectionsCardSaid : Prop := Claim7.holds Tryz.pinned (.plain (OpenSpec.ofChange canonSectionsSpec)) canonSectionsCard

/-- THE TIED CARD OF 'quantumlaw34.ParseFinds'. -/
def parseFindsCard : Claim7 := { stood := { row := parseFindsRow, standIns := [], harness := (true, "70a0da3b58e841f1cfad294dbf493bf29bbc55680a400c841544edf65be8e26e"), looks := true }, kinds := [], alts := [], laidByText := true, laidKinds := [.data], laidTests := true, laidLooks := .later }
def ParseFindsCardSaid : Prop := Claim7.holds Tryz.pinned (.plain (OpenSpec.ofChange parseFindsSpec)) parseFindsCard

/-- THE TIED CARD OF 'quantumlaw34.ParseWrong'. -/
def parseWrongCard : Claim7 := { stood := { row := parseWrongRow, standIns := [], harness := (true, "70a0da3b58e841f1cfad294dbf493bf29bbc55680a400c841544edf65be8e26e"), looks := true }, kinds := [], alts := [], laidByText := true, laidKinds := [.data], laidTests := true, laidLooks := .later }
def ParseWrongCardSaid : Prop := Claim7.holds Tryz.pinned (.plain (OpenSpec.ofChange parseWrongSpec)) parseWrongCard

/-- THE TIED CARD OF 'quantumlaw34.ParseBack'. -/
def parseBackCard : Claim7 := { stood := { row := parseBackRow, standIns := [], harness := (true, "70a0da3b58e841f1cfad294dbf493bf29bbc55680a400c841544edf65be8e26e"), looks := true }, kinds := [], alts := [], laidByText := true, laidKinds := [.data], laidTests := true, laidLooks := .later }
def ParseBackCardSaid : Prop := Claim7.holds Tryz.pinned (.plain (OpenSpec.ofChange parseBackSpec)) parseBackCard

/-- THE TIED CARD OF 'quantumlaw34.ParseDiffers'. -/
def parseDiffersCard : Claim7 := { stood := { row := parseDiffersRow, standIns := [], harness := (true, "70a0da3b58e841f1cfad294dbf493bf29bbc55680a400c841544edf65be8e26e"), looks := true }, kinds := [], alts := [], laidByText := true, laidKinds := [.data], laidTests := true, laidLooks := .later }
def ParseDiffersCardSaid : Prop := Claim7.holds Tryz.pinned (.plain (OpenSpec.ofChange parseDiffersSpec)) parseDiffersCard

/-- THE SECOND FORM's CARD OF 'quantumlaw33.CanonOne'. -/
def canonOneUptoCard : Claim7 := { stood := { row := canonOneUptoRow, standIns := [], harness := (true, "70a0da3b58e841f1cfad294dbf493bf29bbc55680a400c841544edf65be8e26e"), looks := true }, kinds := [], alts := [], laidByText := true, laidKinds := [.data], laidTests := true, laidLooks := .later }
def CanonOneUptoCardSaid : Prop := Claim7.holds Tryz.pinned (.plain (OpenSpec.upto canonOneSpec)) canonOneUptoCard

/-- THE SECOND FORM's CARD OF 'quantumlaw33.CanonChange'. -/
def canonChangeUptoCard : Claim7 := { stood := { row := canonChangeUptoRow, standIns := [], harness := (true, "70a0da3b58e841f1cfad294dbf493bf29bbc55680a400c841544edf65be8e26e"), looks := true }, kinds := [], alts := [], laidByText := true, laidKinds := [.data], laidTests := true, laidLooks := .later }
def CanonChangeUptoCardSaid : Prop := Claim7.holds Tryz.pinned (.plain (OpenSpec.upto canonChangeSpec)) canonChangeUptoCard

/-- THE SECOND FORM's CARD OF 'quantumlaw33.CanonWrong'. -/
def canonWrongUptoCard : Claim7 := { stood := { row := canonWrongUptoRow, standIns := [], harness := (true, "70a0da3b58e841f1cfad294dbf493bf29bbc55680a400c841544edf65be8e26e"), looks := true }, kinds := [], alts := [], laidByText := true, laidKinds := [.data], laidTests := true, laidLooks := .later }
def CanonWrongUptoCardSaid : Prop := Claim7.holds Tryz.pinned (.plain (OpenSpec.upto canonWrongSpec)) canonWrongUptoCard

/-- THE SECOND FORM's CARD OF 'quantumlaw33.CanonSections'. -/
def canonSectionsUptoCard : Claim7 := { stood := { row := canonSectionsUptoRow, standIns := [], harness := (true, "70a0da3b58e841f1cfad294dbf493bf29bbc55680a400c841544edf65be8e26e"), looks := true }, kinds := [], alts := [], laidByText := true, laidKinds := [.data], laidTests := true, laidLooks := .later }
def CanonSectionsUptoCardSaid : Prop := Claim7.holds Tryz.pinned (.plain (OpenSpec.upto canonSectionsSpec)) canonSectionsUptoCard

/-- THE SECOND FORM's CARD OF 'quantumlaw34.ParseFinds'. -/
def parseFindsUptoCard : Claim7 := { stood := { row := parseFindsUptoRow, standIns := [], harness := (true, "70a0da3b58e841f1cfad294dbf493bf29bbc55680a400c841544edf65be8e26e"), looks := true }, kinds := [], alts := [], laidByText := true, laidKinds := [.data], laidTests := true, laidLooks := .later }
def ParseFindsUptoCardSaid : Prop := Claim7.holds Tryz.pinned (.plain (OpenSpec.upto parseFindsSpec)) parseFindsUptoCard

/-- THE SECOND FORM's CARD OF 'quantumlaw34.ParseWrong'. -/
def parseWrongUptoCard : Claim7 := { stood := { row := parseWrongUptoRow, standIns := [], harness := (true, "70a0da3b58e841f1cfad294dbf493bf29bbc55680a400c841544edf65be8e26e"), looks := true }, kinds := [], alts := [], laidByText := true, laidKinds := [.data], laidTests := true, laidLooks := .later }
def ParseWrongUptoCardSaid : Prop := Claim7.holds Tryz.pinned (.plain (OpenSpec.upto parseWrongSpec)) parseWrongUptoCard

/-- THE SECOND FORM's CARD OF 'quantumlaw34.ParseBack'. -/
def parseBackUptoCard : Claim7 := { stood := { row := parseBackUptoRow, standIns := [], harness := (true, "70a0da3b58e841f1cfad294dbf493bf29bbc55680a400c841544edf65be8e26e"), looks := true }, kinds := [], alts := [], laidByText := true, laidKinds := [.data], laidTests := true, laidLooks := .later }
def ParseBackUptoCardSaid : Prop := Claim7.holds Tryz.pinned (.plain (OpenSpec.upto parseBackSpec)) parseBackUptoCard

/-- THE SECOND FORM's CARD OF 'quantumlaw34.ParseDiffers'. -/
def parseDiffersUptoCard : Claim7 := { stood := { row := parseDiffersUptoRow, standIns := [], harness := (true, "70a0da3b58e841f1cfad294dbf493bf29bbc55680a400c841544edf65be8e26e"), looks := true }, kinds := [], alts := [], laidByText := true, laidKinds := [.data], laidTests := true, laidLooks := .later }
def ParseDiffersUptoCardSaid : Prop := Claim7.holds Tryz.pinned (.plain (OpenSpec.upto parseDiffersSpec)) parseDiffersUptoCard
end Rows
end Go.Proofs.YtcajpeiobkcliaaGreatDoor

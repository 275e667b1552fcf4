/-
  NARROWER THAN 'FOR EVERY INPUT', by the rows' own cells (each row's printed sentence says how): CanonOne: laid · CanonChange: laid · CanonWrong: laid · CanonSections: laid · ParseFinds: laid · ParseWrong: laid · ParseBack: laid · ParseDiffers: laid.
  DERIVED. THE GIVEN ROWS OF THIS SEAT. 8 by the template 'for every input the law returns true; each argument reads behind the call as it read before'; 0 by the template 'total and deterministic' (their statements: YtcajpeiobkcliaaGreatDoorTotals.lean).
  GIVEN WITH THE SEED: the statements are not yours to turn. If you find one false, say at which input.
  Laid BY PROGRAM, IN A SANDBOX (cutbox-rows.mjs): the forced cells as the released guide's own fill.sh prints them over the translation eea2fe288fdc368a… (all of the seat's roots in one cut). By AI agents, Wed Nov 11 2026. No macro, syntax, notation, axiom, sorry.
-/
import Derived.Test.YtcajpeiobkcliaaGreatDoorChecked
import GoSem.Claim
import GoSem.ClaimJoined
import GoSem.ClaimMapViews
import Derived.JoinedTies
import Derived.KernelRfl
namespace Go.Proofs.YtcajpeiobkcliaaGreatDoor
/- THE CELL 'sum', in the pinned program and in every row, IS THE sha256 OF THE DUMP (.gsa) THAT YtcajpeiobkcliaaGreatDoorProg.lean LOADS. Nothing in Lean hashes anything: it is a label: what it is worth is what the hold of that sum in a sandbox is worth. -/
noncomputable def Tryz.pinned : Pinned := { name := "ytcajpeiobkcliaagreatdoor", sum := "eea2fe288fdc368a2e50a3d318dcabd2fc5eb7b48771441cfeca353f93648157", checked := Tryz.checked }
namespace Rows
def none {H : Type} : Left H := { results := [], args := [] }

/- WHAT THE LISTED PACKAGE-LEVEL VARIABLES READ AS WHEN THE CALL BEGINS. Each datum BY PROGRAM (the guide's laid-datum.mjs) off the statement by which the dump's own 'gosem.cut.vars' lays the variable. In a bare row this is a premise. The card (YtcajpeiobkcliaaGreatDoorCards.lean) ties it to the program's text. -/
def laid_quantum_crc_halves {H : Type} : DataW H := .agg [.lit (.int .u32 0), .lit (.int .u32 498536548), .lit (.int .u32 997073096), .lit (.int .u32 651767980), .lit (.int .u32 1994146192), .lit (.int .u32 1802195444), .lit (.int .u32 1303535960), .lit (.int .u32 1342533948), .lit (.int .u32 3988292384), .lit (.int .u32 4027552580), .lit (.int .u32 3604390888), .lit (.int .u32 3412177804), .lit (.int .u32 2607071920), .lit (.int .u32 2262029012), .lit (.int .u32 2685067896), .lit (.int .u32 3183342108)]

/-- 'quantumlaw33.CanonOne': WHATEVER THE INPUT: true; the input reads as it did. -/
def canonOneSpec : ChangeSpec := { name := "canonOne", fn := fun _ => fun
  | [d1, d2, d3, d4, d5] => { results := [.lit (.bool true)], args := [d1, d2, d3, d4, d5] }
  | _ => none }
def canonOneRow : OpenClaim := { program := "ytcajpeiobkcliaagreatdoor", sum := "eea2fe288fdc368a2e50a3d318dcabd2fc5eb7b48771441cfeca353f93648157", func := "quantum/quantumlaw33.CanonOne", spec := "canonOne", inPlace := ["slices.overlaps[quantum/api.Task]"], unfollowed := true, recurses := true, named := ["quantum/crc.halves"], apart := false, laid := [("quantum/crc.halves", laid_quantum_crc_halves)] }
def CanonOneSaid : Prop := canonOneRow.holds Tryz.pinned (OpenSpec.ofChange canonOneSpec)

/-- ITS FALSE NEIGHBOUR: 'it returns false'. Refute it at one input. -/
def canonOneWrong : ChangeSpec := { name := "canonOne", fn := fun _ => fun
  | [d1, d2, d3, d4, d5] => { results := [.lit (.bool false)], args := [d1, d2, d3, d4, d5] }
  | _ => none }
def CanonOneWrongFalsely : Prop := canonOneRow.holds Tryz.pinned (OpenSpec.ofChange canonOneWrong)

/-- 'quantumlaw33.CanonChange': WHATEVER THE INPUT: true; the input reads as it did. -/
def canonChangeSpec : ChangeSpec := { name := "canonChange", fn := fun _ => fun
  | [d1, d2, d3, d4] => { results := [.lit (.bool true)], args := [d1, d2, d3, d4] }
  | _ => none }
def canonChangeRow : OpenClaim := { program := "ytcajpeiobkcliaagreatdoor", sum := "eea2fe288fdc368a2e50a3d318dcabd2fc5eb7b48771441cfeca353f93648157", func := "quantum/quantumlaw33.CanonChange", spec := "canonChange", inPlace := ["slices.overlaps[quantum/api.Task]"], unfollowed := true, recurses := true, named := ["quantum/crc.halves"], apart := false, laid := [("quantum/crc.halves", laid_quantum_crc_halves)] }
def CanonChangeSaid : Prop := canonChangeRow.holds Tryz.pinned (OpenSpec.ofChange canonChangeSpec)

/-- ITS FALSE NEIGHBOUR: 'it returns false'. Refute it at one input. -/
def canonChangeWrong : ChangeSpec := { name := "canonChange", fn := fun _ => fun
  | [d1, d2, d3, d4] => { results := [.lit (.bool false)], args := [d1, d2, d3, d4] }
  | _ => none }
def CanonChangeWrongFalsely : Prop := canonChangeRow.holds Tryz.pinned (OpenSpec.ofChange canonChangeWrong)

/-- 'quantumlaw33.CanonWrong': WHATEVER THE INPUT: true; the input reads as it did. -/
def canonWrongSpec : ChangeSpec := { name := "canonWrong", fn := fun _ => fun
  | [d1, d2, d3, d4] => { results := [.lit (.bool true)], args := [d1, d2, d3, d4] }
  | _ => none }
def canonWrongRow : OpenClaim := { program := "ytcajpeiobkcliaagreatdoor", sum := "eea2fe288fdc368a2e50a3d318dcabd2fc5eb7b48771441cfeca353f93648157", func := "quantum/quantumlaw33.CanonWrong", spec := "canonWrong", inPlace := ["slices.overlaps[quantum/api.Task]"], unfollowed := true, recurses := true, named := ["quantum/crc.halves"], apart := false, laid := [("quantum/crc.halves", laid_quantum_crc_halves)] }
def CanonWrongSaid : Prop := canonWrongRow.holds Tryz.pinned (OpenSpec.ofChange canonWrongSpec)

/-- ITS FALSE NEIGHBOUR: 'it returns false'. Refute it at one input. -/
def canonWrongWrong : ChangeSpec := { name := "canonWrong", fn := fun _ => fun
  | [d1, d2, d3, d4] => { results := [.lit (.bool false)], args := [d1, d2, d3, d4] }
  | _ => none }
def CanonWrongWrongFalsely : Prop := canonWrongRow.holds Tryz.pinned (OpenSpec.ofChange canonWrongWrong)

/-- 'quantumlaw33.CanonSections': WHATEVER THE INPUT: true; the input reads as it did. -/
def canonSectionsSpec : ChangeSpec := { name := "canonSections", fn := fun _ => fun
  | [d1, d2, d3] => { results := [.lit (.bool true)], args := [d1, d2, d3] }
  | _ => none }
def canonSectionsRow : OpenClaim := { program := "ytcajpeiobkcliaagreatdoor", sum := "eea2fe288fdc368a2e50a3d318dcabd2fc5eb7b48771441cfeca353f93648157", func := "quantum/quantumlaw33.CanonSections", spec := "canonSections", inPlace := ["slices.overlaps[quantum/api.Task]"], unfollowed := true, recurses := true, named := ["quantum/crc.halves"], apart := false, laid := [("quantum/crc.halves", laid_quantum_crc_halves)] }
def CanonSectionsSaid : Prop := canonSectionsRow.holds Tryz.pinned (OpenSpec.ofChange canonSectionsSpec)

/-- ITS FALSE NEIGHBOUR: 'it returns false'. Refute it at one input. -/
def canonSectionsWrong : ChangeSpec := { name := "canonSections", fn := fun _ => fun
  | [d1, d2, d3] => { results := [.lit (.bool false)], args := [d1, d2, d3] }
  | _ => none }
def CanonSectionsWrongFalsely : Prop := canonSectionsRow.holds Tryz.pinned (OpenSpec.ofChange canonSectionsWrong)

/-- 'quantumlaw34.ParseFinds': WHATEVER THE INPUT: true; the input reads as it did. -/
def parseFindsSpec : ChangeSpec := { name := "parseFinds", fn := fun _ => fun
  | [d1, d2, d3, d4, d5] => { results := [.lit (.bool true)], args := [d1, d2, d3, d4, d5] }
  | _ => none }
def parseFindsRow : OpenClaim := { program := "ytcajpeiobkcliaagreatdoor", sum := "eea2fe288fdc368a2e50a3d318dcabd2fc5eb7b48771441cfeca353f93648157", func := "quantum/quantumlaw34.ParseFinds", spec := "parseFinds", inPlace := ["slices.overlaps[quantum/api.Task]"], unfollowed := true, recurses := true, named := ["quantum/crc.halves"], apart := false, laid := [("quantum/crc.halves", laid_quantum_crc_halves)] }
def ParseFindsSaid : Prop := parseFindsRow.holds Tryz.pinned (OpenSpec.ofChange parseFindsSpec)

/-- ITS FALSE NEIGHBOUR: 'it returns false'. Refute it at one input. -/
def parseFindsWrong : ChangeSpec := { name := "parseFinds", fn := fun _ => fun
  | [d1, d2, d3, d4, d5] => { results := [.lit (.bool false)], args := [d1, d2, d3, d4, d5] }
  | _ => none }
def ParseFindsWrongFalsely : Prop := parseFindsRow.holds Tryz.pinned (OpenSpec.ofChange parseFindsWrong)

/-- 'quantumlaw34.ParseWrong': WHATEVER THE INPUT: true; the input reads as it did. -/
def parseWrongSpec : ChangeSpec := { name := "parseWrong", fn := fun _ => fun
  | [d1, d2, d3, d4] => { results := [.lit (.bool true)], args := [d1, d2, d3, d4] }
  | _ => none }
def parseWrongRow : OpenClaim := { program := "ytcajpeiobkcliaagreatdoor", sum := "eea2fe288fdc368a2e50a3d318dcabd2fc5eb7b48771441cfeca353f93648157", func := "quantum/quantumlaw34.ParseWrong", spec := "parseWrong", inPlace := ["slices.overlaps[quantum/api.Task]"], unfollowed := true, recurses := true, named := ["quantum/crc.halves"], apart := false, laid := [("quantum/crc.halves", laid_quantum_crc_halves)] }
def ParseWrongSaid : Prop := parseWrongRow.holds Tryz.pinned (OpenSpec.ofChange parseWrongSpec)

/-- ITS FALSE NEIGHBOUR: 'it returns false'. Refute it at one input. -/
def parseWrongWrong : ChangeSpec := { name := "parseWrong", fn := fun _ => fun
  | [d1, d2, d3, d4] => { results := [.lit (.bool false)], args := [d1, d2, d3, d4] }
  | _ => none }
def ParseWrongWrongFalsely : Prop := parseWrongRow.holds Tryz.pinned (OpenSpec.ofChange parseWrongWrong)

/-- 'quantumlaw34.ParseBack': WHATEVER THE INPUT: true; the input reads as it did. -/
def parseBackSpec : ChangeSpec := { name := "parseBack", fn := fun _ => fun
  | [d1, d2, d3] => { results := [.lit (.bool true)], args := [d1, d2, d3] }
  | _ => none }
def parseBackRow : OpenClaim := { program := "ytcajpeiobkcliaagreatdoor", sum := "eea2fe288fdc368a2e50a3d318dcabd2fc5eb7b48771441cfeca353f93648157", func := "quantum/quantumlaw34.ParseBack", spec := "parseBack", inPlace := ["slices.overlaps[quantum/api.Task]"], unfollowed := true, recurses := true, named := ["quantum/crc.halves"], apart := false, laid := [("quantum/crc.halves", laid_quantum_crc_halves)] }
def ParseBackSaid : Prop := parseBackRow.holds Tryz.pinned (OpenSpec.ofChange parseBackSpec)

/-- ITS FALSE NEIGHBOUR: 'it returns false'. Refute it at one input. -/
def parseBackWrong : ChangeSpec := { name := "parseBack", fn := fun _ => fun
  | [d1, d2, d3] => { results := [.lit (.bool false)], args := [d1, d2, d3] }
  | _ => none }
def ParseBackWrongFalsely : Prop := parseBackRow.holds Tryz.pinned (OpenSpec.ofChange parseBackWrong)

/-- 'quantumlaw34.ParseDiffers': WHATEVER THE INPUT: true; the input reads as it did. -/
def parseDiffersSpec : ChangeSpec := { name := "parseDiffers", fn := fun _ => fun
  | [d1, d2, d3, d4, d5, d6] => { results := [.lit (.bool true)], args := [d1, d2, d3, d4, d5, d6] }
  | _ => none }
def parseDiffersRow : OpenClaim := { program := "ytcajpeiobkcliaagreatdoor", sum := "eea2fe288fdc368a2e50a3d318dcabd2fc5eb7b48771441cfeca353f93648157", func := "quantum/quantumlaw34.ParseDiffers", spec := "parseDiffers", inPlace := ["slices.overlaps[quantum/api.Task]"], unfollowed := true, recurses := true, named := ["quantum/crc.halves"], apart := false, laid := [("quantum/crc.halves", laid_quantum_crc_halves)] }
def ParseDiffersSaid : Prop := parseDiffersRow.holds Tryz.pinned (OpenSpec.ofChange parseDiffersSpec)

/-- ITS FALSE NEIGHBOUR: 'it returns false'. Refute it at one input. -/
def parseDiffersWrong : ChangeSpec := { name := "parseDiffers", fn := fun _ => fun
  | [d1, d2, d3, d4, d5, d6] => { results := [.lit (.bool false)], args := [d1, d2, d3, d4, d5, d6] }
  | _ => none }
def ParseDiffersWrongFalsely : Prop := parseDiffersRow.holds Tryz.pinned (OpenSpec.ofChange parseDiffersWrong)

/- THE SECOND FORM. 'bulk': how many values and letters a reading holds, each counted each time it is reached (what is shared counts as often as it is met; a slice's spare places count too). A statement '..UptoSaid' is the law's where the arguments, and the package variables that the reading takes, are together of bulk at most 1048576: NARROWER than '..Said'. Prove '..Said' where nothing that the law and all that it calls make is longer than what came in: it says more and counts as full. Else prove '..UptoSaid'. A law counts once. -/
mutual
def uptoBulk {H : Type} : DataW H → Nat
  | .lit (.string bytes) => bytes.length + 1
  | .lit _ => 1
  | .nil => 1
  | .ptr d => uptoBulk d + 1
  | .slice elems spare => uptoBulkAll elems + uptoBulkAll spare + 1
  | .agg parts => uptoBulkAll parts + 1
  | .iface _ d => uptoBulk d + 1
  | .map entries => uptoBulkEntries entries + 1
  | .held _ => 1
def uptoBulkAll {H : Type} : List (DataW H) → Nat
  | [] => 0
  | d :: r => uptoBulk d + uptoBulkAll r
def uptoBulkEntries {H : Type} : List (Lit × DataW H) → Nat
  | [] => 0
  | x :: r => uptoBulkEntry x + uptoBulkEntries r
def uptoBulkEntry {H : Type} : Lit × DataW H → Nat
  | (.string bytes, d) => bytes.length + uptoBulk d + 1
  | (_, d) => uptoBulk d + 1
 end
def uptoSmall : (H : Type) → List (DataW H) → Bool := fun _ ds => decide (uptoBulkAll ds ≤ 1048576)
def OpenSpec.upto (s : _root_.Go.ChangeSpec) : _root_.Go.OpenSpec := { _root_.Go.OpenSpec.ofChange s with cond := some uptoSmall }

/-- 'quantumlaw33.CanonOne', WHERE WHAT IT READS IS OF BULK AT MOST 1048576: true; the input reads as it did. -/
def canonOneUptoRow : OpenClaim := { program := "ytcajpeiobkcliaagreatdoor", sum := "eea2fe288fdc368a2e50a3d318dcabd2fc5eb7b48771441cfeca353f93648157", func := "quantum/quantumlaw33.CanonOne", spec := "canonOne", inPlace := ["slices.overlaps[quantum/api.Task]"], unfollowed := true, recurses := true, named := ["quantum/crc.halves"], apart := false, laid := [("quantum/crc.halves", laid_quantum_crc_halves)], narrowed := true }
def CanonOneUptoSaid : Prop := canonOneUptoRow.holds Tryz.pinned (OpenSpec.upto canonOneSpec)

/-- 'quantumlaw33.CanonChange', WHERE WHAT IT READS IS OF BULK AT MOST 1048576: true; the input reads as it did. -/
def canonChangeUptoRow : OpenClaim := { program := "ytcajpeiobkcliaagreatdoor", sum := "eea2fe288fdc368a2e50a3d318dcabd2fc5eb7b48771441cfeca353f93648157", func := "quantum/quantumlaw33.CanonChange", spec := "canonChange", inPlace := ["slices.overlaps[quantum/api.Task]"], unfollowed := true, recurses := true, named := ["quantum/crc.halves"], apart := false, laid := [("quantum/crc.halves", laid_quantum_crc_halves)], narrowed := true }
def CanonChangeUptoSaid : Prop := canonChangeUptoRow.holds Tryz.pinned (OpenSpec.upto canonChangeSpec)

/-- 'quantumlaw33.CanonWrong', WHERE WHAT IT READS IS OF BULK AT MOST 1048576: true; the input reads as it did. -/
def canonWrongUptoRow : OpenClaim := { program := "ytcajpeiobkcliaagreatdoor", sum := "eea2fe288fdc368a2e50a3d318dcabd2fc5eb7b48771441cfeca353f93648157", func := "quantum/quantumlaw33.CanonWrong", spec := "canonWrong", inPlace := ["slices.overlaps[quantum/api.Task]"], unfollowed := true, recurses := true, named := ["quantum/crc.halves"], apart := false, laid := [("quantum/crc.halves", laid_quantum_crc_halves)], narrowed := true }
def CanonWrongUptoSaid : Prop := canonWrongUptoRow.holds Tryz.pinned (OpenSpec.upto canonWrongSpec)

/-- 'quantumlaw33.CanonSections', WHERE WHAT IT READS IS OF BULK AT MOST 1048576: true; the input reads as it did. -/
def canonSectionsUptoRow : OpenClaim := { program := "ytcajpeiobkcliaagreatdoor", sum := "eea2fe288fdc368a2e50a3d318dcabd2fc5eb7b48771441cfeca353f93648157", func := "quantum/quantumlaw33.CanonSections", spec := "canonSections", inPlace := ["slices.overlaps[quantum/api.Task]"], unfollowed := true, recurses := true, named := ["quantum/crc.halves"], apart := false, laid := [("quantum/crc.halves", laid_quantum_crc_halves)], narrowed := true }
def CanonSectionsUptoSaid : Prop := canonSectionsUptoRow.holds Tryz.pinned (OpenSpec.upto canonSectionsSpec)

/-- 'quantumlaw34.ParseFinds', WHERE WHAT IT READS IS OF BULK AT MOST 1048576: true; the input reads as it did. -/
def parseFindsUptoRow : OpenClaim := { program := "ytcajpeiobkcliaagreatdoor", sum := "eea2fe288fdc368a2e50a3d318dcabd2fc5eb7b48771441cfeca353f93648157", func := "quantum/quantumlaw34.ParseFinds", spec := "parseFinds", inPlace := ["slices.overlaps[quantum/api.Task]"], unfollowed := true, recurses := true, named := ["quantum/crc.halves"], apart := false, laid := [("quantum/crc.halves", laid_quantum_crc_halves)], narrowed := true }
def ParseFindsUptoSaid : Prop := parseFindsUptoRow.holds Tryz.pinned (OpenSpec.upto parseFindsSpec)

/-- 'quantumlaw34.ParseWrong', WHERE WHAT IT READS IS OF BULK AT MOST 1048576: true; the input reads as it did. -/
def parseWrongUptoRow : OpenClaim := { program := "ytcajpeiobkcliaagreatdoor", sum := "eea2fe288fdc368a2e50a3d318dcabd2fc5eb7b48771441cfeca353f93648157", func := "quantum/quantumlaw34.ParseWrong", spec := "parseWrong", inPlace := ["slices.overlaps[quantum/api.Task]"], unfollowed := true, recurses := true, named := ["quantum/crc.halves"], apart := false, laid := [("quantum/crc.halves", laid_quantum_crc_halves)], narrowed := true }
def ParseWrongUptoSaid : Prop := parseWrongUptoRow.holds Tryz.pinned (OpenSpec.upto parseWrongSpec)

/-- 'quantumlaw34.ParseBack', WHERE WHAT IT READS IS OF BULK AT MOST 1048576: true; the input reads as it did. -/
def parseBackUptoRow : OpenClaim := { program := "ytcajpeiobkcliaagreatdoor", sum := "eea2fe288fdc368a2e50a3d318dcabd2fc5eb7b48771441cfeca353f93648157", func := "quantum/quantumlaw34.ParseBack", spec := "parseBack", inPlace := ["slices.overlaps[quantum/api.Task]"], unfollowed := true, recurses := true, named := ["quantum/crc.halves"], apart := false, laid := [("quantum/crc.halves", laid_quantum_crc_halves)], narrowed := true }
def ParseBackUptoSaid : Prop := parseBackUptoRow.holds Tryz.pinned (OpenSpec.upto parseBackSpec)

/-- 'quantumlaw34.ParseDiffers', WHERE WHAT IT READS IS OF BULK AT MOST 1048576: true; the input reads as it did. -/
def parseDiffersUptoRow : OpenClaim := { program := "ytcajpeiobkcliaagreatdoor", sum := "eea2fe288fdc368a2e50a3d318dcabd2fc5eb7b48771441cfeca353f93648157", func := "quantum/quantumlaw34.ParseDiffers", spec := "parseDiffers", inPlace := ["slices.overlaps[quantum/api.Task]"], unfollowed := true, recurses := true, named := ["quantum/crc.halves"], apart := false, laid := [("quantum/crc.halves", laid_quantum_crc_halves)], narrowed := true }
def ParseDiffersUptoSaid : Prop := parseDiffersUptoRow.holds Tryz.pinned (OpenSpec.upto parseDiffersSpec)

end Rows
end Go.Proofs.YtcajpeiobkcliaaGreatDoor

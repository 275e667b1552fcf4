/-
  NARROWER THAN 'FOR EVERY INPUT', by the rows' own cells (each row's printed sentence says how): CanonTells: laid · CanonSmall: laid · ParseTells: laid · ParseSmall: laid.
  DERIVED. THE GIVEN ROWS OF THIS SEAT. 4 by the template 'for every input the law returns true; each argument reads behind the call as it read before'; 0 by the template 'total and deterministic' (their statements: YtggpmlaappaopaaGreatDoorTotals.lean).
  GIVEN WITH THE SEED: the statements are not yours to turn. If you find one false, say at which input.
  Laid BY PROGRAM, IN A SANDBOX (cutbox-rows.mjs): the forced cells as the released guide's own fill.sh prints them over the translation c536491f76733fd5… (all of the seat's roots in one cut). By AI agents, Wed Nov 11 2026. No macro, syntax, notation, axiom, sorry.
-/
import Derived.Test.YtggpmlaappaopaaGreatDoorChecked
import GoSem.Claim
import GoSem.ClaimJoined
import GoSem.ClaimMapViews
import Derived.JoinedTies
import Derived.KernelRfl
namespace Go.Proofs.YtggpmlaappaopaaGreatDoor
/- THE CELL 'sum', in the pinned program and in every row, IS THE sha256 OF THE DUMP (.gsa) THAT YtggpmlaappaopaaGreatDoorProg.lean LOADS. Nothing in Lean hashes anything: it is a label: what it is worth is what the hold of that sum in a sandbox is worth. -/
noncomputable def Tryz.pinned : Pinned := { name := "ytggpmlaappaopaagreatdoor", sum := "c536491f76733fd581134d61e41e82182e10612cc66996395d1f54748d3728bd", checked := Tryz.checked }
namespace Rows
def none {H : Type} : Left H := { results := [], args := [] }

/- WHAT THE LISTED PACKAGE-LEVEL VARIABLES READ AS WHEN THE CALL BEGINS. Each datum BY PROGRAM (the guide's laid-datum.mjs) off the statement by which the dump's own 'gosem.cut.vars' lays the variable. In a bare row this is a premise. The card (YtggpmlaappaopaaGreatDoorCards.lean) ties it to the program's text. -/
def laid_quantum_crc_halves {H : Type} : DataW H := .agg [.lit (.int .u32 0), .lit (.int .u32 498536548), .lit (.int .u32 997073096), .lit (.int .u32 651767980), .lit (.int .u32 1994146192), .lit (.int .u32 1802195444), .lit (.int .u32 1303535960), .lit (.int .u32 1342533948), .lit (.int .u32 3988292384), .lit (.int .u32 4027552580), .lit (.int .u32 3604390888), .lit (.int .u32 3412177804), .lit (.int .u32 2607071920), .lit (.int .u32 2262029012), .lit (.int .u32 2685067896), .lit (.int .u32 3183342108)]

/-- 'quantumlaw33.CanonTells': WHATEVER THE INPUT: true; the input reads as it did. -/
def canonTellsSpec : ChangeSpec := { name := "canonTells", fn := fun _ => fun
  | [d1, d2] => { results := [.lit (.bool true)], args := [d1, d2] }
  | _ => none }
def canonTellsRow : OpenClaim := { program := "ytggpmlaappaopaagreatdoor", sum := "c536491f76733fd581134d61e41e82182e10612cc66996395d1f54748d3728bd", func := "quantum/quantumlaw33.CanonTells", spec := "canonTells", unfollowed := true, recurses := true, named := ["quantum/crc.halves"], apart := false, laid := [("quantum/crc.halves", laid_quantum_crc_halves)] }
def CanonTellsSaid : Prop := canonTellsRow.holds Tryz.pinned (OpenSpec.ofChange canonTellsSpec)

/-- ITS FALSE NEIGHBOUR: 'it returns false'. Refute it at one input. -/
def canonTellsWrong : ChangeSpec := { name := "canonTells", fn := fun _ => fun
  | [d1, d2] => { results := [.lit (.bool false)], args := [d1, d2] }
  | _ => none }
def CanonTellsWrongFalsely : Prop := canonTellsRow.holds Tryz.pinned (OpenSpec.ofChange canonTellsWrong)

/-- 'quantumlaw33.CanonSmall': WHATEVER THE INPUT: true; the input reads as it did. -/
def canonSmallSpec : ChangeSpec := { name := "canonSmall", fn := fun _ => fun
  | [] => { results := [.lit (.bool true)], args := [] }
  | _ => none }
def canonSmallRow : OpenClaim := { program := "ytggpmlaappaopaagreatdoor", sum := "c536491f76733fd581134d61e41e82182e10612cc66996395d1f54748d3728bd", func := "quantum/quantumlaw33.CanonSmall", spec := "canonSmall", unfollowed := true, recurses := true, named := ["quantum/crc.halves"], apart := false, laid := [("quantum/crc.halves", laid_quantum_crc_halves)] }
def CanonSmallSaid : Prop := canonSmallRow.holds Tryz.pinned (OpenSpec.ofChange canonSmallSpec)

/-- ITS FALSE NEIGHBOUR: 'it returns false'. Refute it at one input. -/
def canonSmallWrong : ChangeSpec := { name := "canonSmall", fn := fun _ => fun
  | [] => { results := [.lit (.bool false)], args := [] }
  | _ => none }
def CanonSmallWrongFalsely : Prop := canonSmallRow.holds Tryz.pinned (OpenSpec.ofChange canonSmallWrong)

/-- 'quantumlaw34.ParseTells': WHATEVER THE INPUT: true; the input reads as it did. -/
def parseTellsSpec : ChangeSpec := { name := "parseTells", fn := fun _ => fun
  | [d1, d2] => { results := [.lit (.bool true)], args := [d1, d2] }
  | _ => none }
def parseTellsRow : OpenClaim := { program := "ytggpmlaappaopaagreatdoor", sum := "c536491f76733fd581134d61e41e82182e10612cc66996395d1f54748d3728bd", func := "quantum/quantumlaw34.ParseTells", spec := "parseTells", unfollowed := true, recurses := true, named := ["quantum/crc.halves"], apart := false, laid := [("quantum/crc.halves", laid_quantum_crc_halves)] }
def ParseTellsSaid : Prop := parseTellsRow.holds Tryz.pinned (OpenSpec.ofChange parseTellsSpec)

/-- ITS FALSE NEIGHBOUR: 'it returns false'. Refute it at one input. -/
def parseTellsWrong : ChangeSpec := { name := "parseTells", fn := fun _ => fun
  | [d1, d2] => { results := [.lit (.bool false)], args := [d1, d2] }
  | _ => none }
def ParseTellsWrongFalsely : Prop := parseTellsRow.holds Tryz.pinned (OpenSpec.ofChange parseTellsWrong)

/-- 'quantumlaw34.ParseSmall': WHATEVER THE INPUT: true; the input reads as it did. -/
def parseSmallSpec : ChangeSpec := { name := "parseSmall", fn := fun _ => fun
  | [] => { results := [.lit (.bool true)], args := [] }
  | _ => none }
def parseSmallRow : OpenClaim := { program := "ytggpmlaappaopaagreatdoor", sum := "c536491f76733fd581134d61e41e82182e10612cc66996395d1f54748d3728bd", func := "quantum/quantumlaw34.ParseSmall", spec := "parseSmall", unfollowed := true, recurses := true, named := ["quantum/crc.halves"], apart := false, laid := [("quantum/crc.halves", laid_quantum_crc_halves)] }
def ParseSmallSaid : Prop := parseSmallRow.holds Tryz.pinned (OpenSpec.ofChange parseSmallSpec)

/-- ITS FALSE NEIGHBOUR: 'it returns false'. Refute it at one input. -/
def parseSmallWrong : ChangeSpec := { name := "parseSmall", fn := fun _ => fun
  | [] => { results := [.lit (.bool false)], args := [] }
  | _ => none }
def ParseSmallWrongFalsely : Prop := parseSmallRow.holds Tryz.pinned (OpenSpec.ofChange parseSmallWrong)

/- THE SECOND FORM. 'bulk': how many values and letters a reading holds, each counted each time it is reached (what is shared counts as often as it is met; a slice's spare places count too). A statement '..UptoSaid' is the law's where the arguments, and the package variables that the reading takes, are together of bulk at most 1048576: NARROWER than '..Said'. Prove '..Said' where nothing that the law and all that it calls make is longer than what came in: it says more and counts as full. Else prove '..UptoSaid'. A law counts once. -/
mutual
def uptoBulk {H : Type} : DataW H → Nat
  | .lit (.string bytes) => bytes.length + 1
  | .lit _ => 1
  | .nil => 1
  | .ptr d => uptoBulk d + 1
  | .slice elems spare => uptoBulkAll elems + uptoBulkAll spare + 1
  | .agg parts => uptoBulkAll parts + 1
  | .iface _ d => uptoBulk d + 1
  | .map entries => uptoBulkEntries entries + 1
  | .held _ => 1
def uptoBulkAll {H : Type} : List (DataW H) → Nat
  | [] => 0
  | d :: r => uptoBulk d + uptoBulkAll r
def uptoBulkEntries {H : Type} : List (Lit × DataW H) → Nat
  | [] => 0
  | x :: r => uptoBulkEntry x + uptoBulkEntries r
def uptoBulkEntry {H : Type} : Lit × DataW H → Nat
  | (.string bytes, d) => bytes.length + uptoBulk d + 1
  | (_, d) => uptoBulk d + 1
 end
def uptoSmall : (H : Type) → List (DataW H) → Bool := fun _ ds => decide (uptoBulkAll ds ≤ 1048576)
def OpenSpec.upto (s : _root_.Go.ChangeSpec) : _root_.Go.OpenSpec := { _root_.Go.OpenSpec.ofChange s with cond := some uptoSmall }

/-- 'quantumlaw33.CanonTells', WHERE WHAT IT READS IS OF BULK AT MOST 1048576: true; the input reads as it did. -/
def canonTellsUptoRow : OpenClaim := { program := "ytggpmlaappaopaagreatdoor", sum := "c536491f76733fd581134d61e41e82182e10612cc66996395d1f54748d3728bd", func := "quantum/quantumlaw33.CanonTells", spec := "canonTells", unfollowed := true, recurses := true, named := ["quantum/crc.halves"], apart := false, laid := [("quantum/crc.halves", laid_quantum_crc_halves)], narrowed := true }
def CanonTellsUptoSaid : Prop := canonTellsUptoRow.holds Tryz.pinned (OpenSpec.upto canonTellsSpec)

/-- 'quantumlaw33.CanonSmall', WHERE WHAT IT READS IS OF BULK AT MOST 1048576: true; the input reads as it did. -/
def canonSmallUptoRow : OpenClaim := { program := "ytggpmlaappaopaagreatdoor", sum := "c536491f76733fd581134d61e41e82182e10612cc66996395d1f54748d3728bd", func := "quantum/quantumlaw33.CanonSmall", spec := "canonSmall", unfollowed := true, recurses := true, named := ["quantum/crc.halves"], apart := false, laid := [("quantum/crc.halves", laid_quantum_crc_halves)], narrowed := true }
def CanonSmallUptoSaid : Prop := canonSmallUptoRow.holds Tryz.pinned (OpenSpec.upto canonSmallSpec)

/-- 'quantumlaw34.ParseTells', WHERE WHAT IT READS IS OF BULK AT MOST 1048576: true; the input reads as it did. -/
def parseTellsUptoRow : OpenClaim := { program := "ytggpmlaappaopaagreatdoor", sum := "c536491f76733fd581134d61e41e82182e10612cc66996395d1f54748d3728bd", func := "quantum/quantumlaw34.ParseTells", spec := "parseTells", unfollowed := true, recurses := true, named := ["quantum/crc.halves"], apart := false, laid := [("quantum/crc.halves", laid_quantum_crc_halves)], narrowed := true }
def ParseTellsUptoSaid : Prop := parseTellsUptoRow.holds Tryz.pinned (OpenSpec.upto parseTellsSpec)

/-- 'quantumlaw34.ParseSmall', WHERE WHAT IT READS IS OF BULK AT MOST 1048576: true; the input reads as it did. -/
def parseSmallUptoRow : OpenClaim := { program := "ytggpmlaappaopaagreatdoor", sum := "c536491f76733fd581134d61e41e82182e10612cc66996395d1f54748d3728bd", func := "quantum/quantumlaw34.ParseSmall", spec := "parseSmall", unfollowed := true, recurses := true, named := ["quantum/crc.halves"], apart := false, laid := [("quantum/crc.halves", laid_quantum_crc_halves)], narrowed := true }
def ParseSmallUptoSaid : Prop := parseSmallUptoRow.holds Tryz.pinned (OpenSpec.upto parseSmallSpec)

end Rows
end Go.Proofs.YtggpmlaappaopaaGreatDoor

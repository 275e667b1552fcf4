/-
  NARROWER THAN 'FOR EVERY INPUT', by the rows' own cells (each row's printed sentence says how): CodecRows: laid · CodecOne: laid · CodecShort: laid · CodecShifts: laid · CodecWrong: laid · CodecTells: laid · CodecSmall: laid · CodecBack: laid.
  DERIVED. THE GIVEN ROWS OF THIS SEAT. 8 by the template 'for every input the law returns true; each argument reads behind the call as it read before'; 0 by the template 'total and deterministic' (their statements: YtpekelggcmgnnaaDoorTotals.lean).
  GIVEN WITH THE SEED: the statements are not yours to turn. If you find one false, say at which input.
  Laid BY PROGRAM, IN A SANDBOX (cutbox-rows.mjs): the forced cells as the released guide's own fill.sh prints them over the translation 995bf5e63a8f1d4b… (all of the seat's roots in one cut). By AI agents, Wed Nov 11 2026. No macro, syntax, notation, axiom, sorry.
-/
import Derived.Test.YtpekelggcmgnnaaDoorChecked
import GoSem.Claim
import GoSem.ClaimJoined
import GoSem.ClaimMapViews
import Derived.JoinedTies
import Derived.KernelRfl
namespace Go.Proofs.YtpekelggcmgnnaaDoor
/- THE CELL 'sum', in the pinned program and in every row, IS THE sha256 OF THE DUMP (.gsa) THAT YtpekelggcmgnnaaDoorProg.lean LOADS. Nothing in Lean hashes anything: it is a label: what it is worth is what the hold of that sum in a sandbox is worth. -/
noncomputable def Tryd.pinned : Pinned := { name := "ytpekelggcmgnnaadoor", sum := "995bf5e63a8f1d4b87c754c865b6d9d57186b0af06c51d0b2b2075f33757aed1", checked := Tryd.checked }
namespace Rows
def none {H : Type} : Left H := { results := [], args := [] }

/- WHAT THE LISTED PACKAGE-LEVEL VARIABLES READ AS WHEN THE CALL BEGINS. Each datum BY PROGRAM (the guide's laid-datum.mjs) off the statement by which the dump's own 'gosem.cut.vars' lays the variable. In a bare row this is a premise. The card (YtpekelggcmgnnaaDoorCards.lean) ties it to the program's text. -/
def laid_quantum_event_fields {H : Type} : DataW H := .agg [.lit (.string [116, 97, 115, 107]), .lit (.string [103, 114, 111, 117, 112]), .lit (.string [116, 111]), .lit (.string [119, 101, 105, 103, 104, 116]), .lit (.string [116, 105, 99, 107, 115]), .lit (.string [109, 97, 115, 107]), .lit (.string [103, 111, 116])]
def laid_quantum_event_uses {H : Type} : DataW H := .agg [.nil, .slice [.lit (.int .i64 0), .lit (.int .i64 1), .lit (.int .i64 3), .lit (.int .i64 5)] [], .slice [.lit (.int .i64 0)] [], .slice [.lit (.int .i64 6)] [], .slice [.lit (.int .i64 6)] [], .slice [.lit (.int .i64 4), .lit (.int .i64 6)] [], .slice [.lit (.int .i64 6)] [], .slice [.lit (.int .i64 0), .lit (.int .i64 3)] [], .slice [.lit (.int .i64 1), .lit (.int .i64 3)] [], .slice [.lit (.int .i64 0), .lit (.int .i64 2)] [], .slice [.lit (.int .i64 6)] []]

/-- 'quantumlaw07.CodecRows': WHATEVER THE INPUT: true; the input reads as it did. -/
def codecRowsSpec : ChangeSpec := { name := "codecRows", fn := fun _ => fun
  | [d] => { results := [.lit (.bool true)], args := [d] }
  | _ => none }
def codecRowsRow : OpenClaim := { program := "ytpekelggcmgnnaadoor", sum := "995bf5e63a8f1d4b87c754c865b6d9d57186b0af06c51d0b2b2075f33757aed1", func := "quantum/quantumlaw07.CodecRows", spec := "codecRows", unfollowed := true, recurses := true, named := ["quantum/event.uses", "quantum/event.fields"], apart := false, laid := [("quantum/event.fields", laid_quantum_event_fields), ("quantum/event.uses", laid_quantum_event_uses)] }
def CodecRowsSaid : Prop := codecRowsRow.holds Tryd.pinned (OpenSpec.ofChange codecRowsSpec)

/-- ITS FALSE NEIGHBOUR: 'it returns false'. Refute it at one input. -/
def codecRowsWrong : ChangeSpec := { name := "codecRows", fn := fun _ => fun
  | [d] => { results := [.lit (.bool false)], args := [d] }
  | _ => none }
def CodecRowsWrongFalsely : Prop := codecRowsRow.holds Tryd.pinned (OpenSpec.ofChange codecRowsWrong)

/-- 'quantumlaw07.CodecOne': WHATEVER THE INPUT: true; the input reads as it did. -/
def codecOneSpec : ChangeSpec := { name := "codecOne", fn := fun _ => fun
  | [d1, d2, d3, d4] => { results := [.lit (.bool true)], args := [d1, d2, d3, d4] }
  | _ => none }
def codecOneRow : OpenClaim := { program := "ytpekelggcmgnnaadoor", sum := "995bf5e63a8f1d4b87c754c865b6d9d57186b0af06c51d0b2b2075f33757aed1", func := "quantum/quantumlaw07.CodecOne", spec := "codecOne", unfollowed := true, recurses := true, named := ["quantum/event.uses", "quantum/event.fields"], apart := false, laid := [("quantum/event.fields", laid_quantum_event_fields), ("quantum/event.uses", laid_quantum_event_uses)] }
def CodecOneSaid : Prop := codecOneRow.holds Tryd.pinned (OpenSpec.ofChange codecOneSpec)

/-- ITS FALSE NEIGHBOUR: 'it returns false'. Refute it at one input. -/
def codecOneWrong : ChangeSpec := { name := "codecOne", fn := fun _ => fun
  | [d1, d2, d3, d4] => { results := [.lit (.bool false)], args := [d1, d2, d3, d4] }
  | _ => none }
def CodecOneWrongFalsely : Prop := codecOneRow.holds Tryd.pinned (OpenSpec.ofChange codecOneWrong)

/-- 'quantumlaw07.CodecShort': WHATEVER THE INPUT: true; the input reads as it did. -/
def codecShortSpec : ChangeSpec := { name := "codecShort", fn := fun _ => fun
  | [d1, d2, d3, d4] => { results := [.lit (.bool true)], args := [d1, d2, d3, d4] }
  | _ => none }
def codecShortRow : OpenClaim := { program := "ytpekelggcmgnnaadoor", sum := "995bf5e63a8f1d4b87c754c865b6d9d57186b0af06c51d0b2b2075f33757aed1", func := "quantum/quantumlaw07.CodecShort", spec := "codecShort", unfollowed := true, recurses := true, named := ["quantum/event.uses", "quantum/event.fields"], apart := false, laid := [("quantum/event.fields", laid_quantum_event_fields), ("quantum/event.uses", laid_quantum_event_uses)] }
def CodecShortSaid : Prop := codecShortRow.holds Tryd.pinned (OpenSpec.ofChange codecShortSpec)

/-- ITS FALSE NEIGHBOUR: 'it returns false'. Refute it at one input. -/
def codecShortWrong : ChangeSpec := { name := "codecShort", fn := fun _ => fun
  | [d1, d2, d3, d4] => { results := [.lit (.bool false)], args := [d1, d2, d3, d4] }
  | _ => none }
def CodecShortWrongFalsely : Prop := codecShortRow.holds Tryd.pinned (OpenSpec.ofChange codecShortWrong)

/-- 'quantumlaw07.CodecShifts': WHATEVER THE INPUT: true; the input reads as it did. -/
def codecShiftsSpec : ChangeSpec := { name := "codecShifts", fn := fun _ => fun
  | [d1, d2, d3, d4, d5] => { results := [.lit (.bool true)], args := [d1, d2, d3, d4, d5] }
  | _ => none }
def codecShiftsRow : OpenClaim := { program := "ytpekelggcmgnnaadoor", sum := "995bf5e63a8f1d4b87c754c865b6d9d57186b0af06c51d0b2b2075f33757aed1", func := "quantum/quantumlaw07.CodecShifts", spec := "codecShifts", unfollowed := true, recurses := true, named := ["quantum/event.uses", "quantum/event.fields"], apart := false, laid := [("quantum/event.fields", laid_quantum_event_fields), ("quantum/event.uses", laid_quantum_event_uses)] }
def CodecShiftsSaid : Prop := codecShiftsRow.holds Tryd.pinned (OpenSpec.ofChange codecShiftsSpec)

/-- ITS FALSE NEIGHBOUR: 'it returns false'. Refute it at one input. -/
def codecShiftsWrong : ChangeSpec := { name := "codecShifts", fn := fun _ => fun
  | [d1, d2, d3, d4, d5] => { results := [.lit (.bool false)], args := [d1, d2, d3, d4, d5] }
  | _ => none }
def CodecShiftsWrongFalsely : Prop := codecShiftsRow.holds Tryd.pinned (OpenSpec.ofChange codecShiftsWrong)

/-- 'quantumlaw07.CodecWrong': WHATEVER THE INPUT: true; the input reads as it did. -/
def codecWrongSpec : ChangeSpec := { name := "codecWrong", fn := fun _ => fun
  | [d1, d2, d3, d4, d5] => { results := [.lit (.bool true)], args := [d1, d2, d3, d4, d5] }
  | _ => none }
def codecWrongRow : OpenClaim := { program := "ytpekelggcmgnnaadoor", sum := "995bf5e63a8f1d4b87c754c865b6d9d57186b0af06c51d0b2b2075f33757aed1", func := "quantum/quantumlaw07.CodecWrong", spec := "codecWrong", unfollowed := true, recurses := true, named := ["quantum/event.uses", "quantum/event.fields"], apart := false, laid := [("quantum/event.fields", laid_quantum_event_fields), ("quantum/event.uses", laid_quantum_event_uses)] }
def CodecWrongSaid : Prop := codecWrongRow.holds Tryd.pinned (OpenSpec.ofChange codecWrongSpec)

/-- ITS FALSE NEIGHBOUR: 'it returns false'. Refute it at one input. -/
def codecWrongWrong : ChangeSpec := { name := "codecWrong", fn := fun _ => fun
  | [d1, d2, d3, d4, d5] => { results := [.lit (.bool false)], args := [d1, d2, d3, d4, d5] }
  | _ => none }
def CodecWrongWrongFalsely : Prop := codecWrongRow.holds Tryd.pinned (OpenSpec.ofChange codecWrongWrong)

/-- 'quantumlaw07.CodecTells': WHATEVER THE INPUT: true; the input reads as it did. -/
def codecTellsSpec : ChangeSpec := { name := "codecTells", fn := fun _ => fun
  | [d1, d2, d3, d4] => { results := [.lit (.bool true)], args := [d1, d2, d3, d4] }
  | _ => none }
def codecTellsRow : OpenClaim := { program := "ytpekelggcmgnnaadoor", sum := "995bf5e63a8f1d4b87c754c865b6d9d57186b0af06c51d0b2b2075f33757aed1", func := "quantum/quantumlaw07.CodecTells", spec := "codecTells", unfollowed := true, recurses := true, named := ["quantum/event.uses", "quantum/event.fields"], apart := false, laid := [("quantum/event.fields", laid_quantum_event_fields), ("quantum/event.uses", laid_quantum_event_uses)] }
def CodecTellsSaid : Prop := codecTellsRow.holds Tryd.pinned (OpenSpec.ofChange codecTellsSpec)

/-- ITS FALSE NEIGHBOUR: 'it returns false'. Refute it at one input. -/
def codecTellsWrong : ChangeSpec := { name := "codecTells", fn := fun _ => fun
  | [d1, d2, d3, d4] => { results := [.lit (.bool false)], args := [d1, d2, d3, d4] }
  | _ => none }
def CodecTellsWrongFalsely : Prop := codecTellsRow.holds Tryd.pinned (OpenSpec.ofChange codecTellsWrong)

/-- 'quantumlaw07.CodecSmall': WHATEVER THE INPUT: true; the input reads as it did. -/
def codecSmallSpec : ChangeSpec := { name := "codecSmall", fn := fun _ => fun
  | [] => { results := [.lit (.bool true)], args := [] }
  | _ => none }
def codecSmallRow : OpenClaim := { program := "ytpekelggcmgnnaadoor", sum := "995bf5e63a8f1d4b87c754c865b6d9d57186b0af06c51d0b2b2075f33757aed1", func := "quantum/quantumlaw07.CodecSmall", spec := "codecSmall", unfollowed := true, recurses := true, named := ["quantum/event.uses", "quantum/event.fields"], apart := false, laid := [("quantum/event.fields", laid_quantum_event_fields), ("quantum/event.uses", laid_quantum_event_uses)] }
def CodecSmallSaid : Prop := codecSmallRow.holds Tryd.pinned (OpenSpec.ofChange codecSmallSpec)

/-- ITS FALSE NEIGHBOUR: 'it returns false'. Refute it at one input. -/
def codecSmallWrong : ChangeSpec := { name := "codecSmall", fn := fun _ => fun
  | [] => { results := [.lit (.bool false)], args := [] }
  | _ => none }
def CodecSmallWrongFalsely : Prop := codecSmallRow.holds Tryd.pinned (OpenSpec.ofChange codecSmallWrong)

/-- 'quantumlaw07.CodecBack': WHATEVER THE INPUT: true; the input reads as it did. -/
def codecBackSpec : ChangeSpec := { name := "codecBack", fn := fun _ => fun
  | [d1, d2, d3, d4] => { results := [.lit (.bool true)], args := [d1, d2, d3, d4] }
  | _ => none }
def codecBackRow : OpenClaim := { program := "ytpekelggcmgnnaadoor", sum := "995bf5e63a8f1d4b87c754c865b6d9d57186b0af06c51d0b2b2075f33757aed1", func := "quantum/quantumlaw07.CodecBack", spec := "codecBack", unfollowed := true, recurses := true, named := ["quantum/event.uses", "quantum/event.fields"], apart := false, laid := [("quantum/event.fields", laid_quantum_event_fields), ("quantum/event.uses", laid_quantum_event_uses)] }
def CodecBackSaid : Prop := codecBackRow.holds Tryd.pinned (OpenSpec.ofChange codecBackSpec)

/-- ITS FALSE NEIGHBOUR: 'it returns false'. Refute it at one input. -/
def codecBackWrong : ChangeSpec := { name := "codecBack", fn := fun _ => fun
  | [d1, d2, d3, d4] => { results := [.lit (.bool false)], args := [d1, d2, d3, d4] }
  | _ => none }
def CodecBackWrongFalsely : Prop := codecBackRow.holds Tryd.pinned (OpenSpec.ofChange codecBackWrong)

/- THE SECOND FORM. 'bulk': how many values and letters a reading holds, each counted each time it is reached (what is shared counts as often as it is met; a slice's spare places count too). A statement '..UptoSaid' is the law's where the arguments, and the package variables that the reading takes, are together of bulk at most 1048576: NARROWER than '..Said'. Prove '..Said' where nothing that the law and all that it calls make is longer than what came in: it says more and counts as full. Else prove '..UptoSaid'. A law counts once. -/
mutual
def uptoBulk {H : Type} : DataW H → Nat
  | .lit (.string bytes) => bytes.length + 1
  | .lit _ => 1
  | .nil => 1
  | .ptr d => uptoBulk d + 1
  | .slice elems spare => uptoBulkAll elems + uptoBulkAll spare + 1
  | .agg parts => uptoBulkAll parts + 1
  | .iface _ d => uptoBulk d + 1
  | .map entries => uptoBulkEntries entries + 1
  | .held _ => 1
def uptoBulkAll {H : Type} : List (DataW H) → Nat
  | [] => 0
  | d :: r => uptoBulk d + uptoBulkAll r
def uptoBulkEntries {H : Type} : List (Lit × DataW H) → Nat
  | [] => 0
  | x :: r => uptoBulkEntry x + uptoBulkEntries r
def uptoBulkEntry {H : Type} : Lit × DataW H → Nat
  | (.string bytes, d) => bytes.length + uptoBulk d + 1
  | (_, d) => uptoBulk d + 1
 end
def uptoSmall : (H : Type) → List (DataW H) → Bool := fun _ ds => decide (uptoBulkAll ds ≤ 1048576)
def OpenSpec.upto (s : _root_.Go.ChangeSpec) : _root_.Go.OpenSpec := { _root_.Go.OpenSpec.ofChange s with cond := some uptoSmall }

/-- 'quantumlaw07.CodecRows', WHERE WHAT IT READS IS OF BULK AT MOST 1048576: true; the input reads as it did. -/
def codecRowsUptoRow : OpenClaim := { program := "ytpekelggcmgnnaadoor", sum := "995bf5e63a8f1d4b87c754c865b6d9d57186b0af06c51d0b2b2075f33757aed1", func := "quantum/quantumlaw07.CodecRows", spec := "codecRows", unfollowed := true, recurses := true, named := ["quantum/event.uses", "quantum/event.fields"], apart := false, laid := [("quantum/event.fields", laid_quantum_event_fields), ("quantum/event.uses", laid_quantum_event_uses)], narrowed := true }
def CodecRowsUptoSaid : Prop := codecRowsUptoRow.holds Tryd.pinned (OpenSpec.upto codecRowsSpec)

/-- 'quantumlaw07.CodecOne', WHERE WHAT IT READS IS OF BULK AT MOST 1048576: true; the input reads as it did. -/
def codecOneUptoRow : OpenClaim := { program := "ytpekelggcmgnnaadoor", sum := "995bf5e63a8f1d4b87c754c865b6d9d57186b0af06c51d0b2b2075f33757aed1", func := "quantum/quantumlaw07.CodecOne", spec := "codecOne", unfollowed := true, recurses := true, named := ["quantum/event.uses", "quantum/event.fields"], apart := false, laid := [("quantum/event.fields", laid_quantum_event_fields), ("quantum/event.uses", laid_quantum_event_uses)], narrowed := true }
def CodecOneUptoSaid : Prop := codecOneUptoRow.holds Tryd.pinned (OpenSpec.upto codecOneSpec)

/-- 'quantumlaw07.CodecShort', WHERE WHAT IT READS IS OF BULK AT MOST 1048576: true; the input reads as it did. -/
def codecShortUptoRow : OpenClaim := { program := "ytpekelggcmgnnaadoor", sum := "995bf5e63a8f1d4b87c754c865b6d9d57186b0af06c51d0b2b2075f33757aed1", func := "quantum/quantumlaw07.CodecShort", spec := "codecShort", unfollowed := true, recurses := true, named := ["quantum/event.uses", "quantum/event.fields"], apart := false, laid := [("quantum/event.fields", laid_quantum_event_fields), ("quantum/event.uses", laid_quantum_event_uses)], narrowed := true }
def CodecShortUptoSaid : Prop := codecShortUptoRow.holds Tryd.pinned (OpenSpec.upto codecShortSpec)

/-- 'quantumlaw07.CodecShifts', WHERE WHAT IT READS IS OF BULK AT MOST 1048576: true; the input reads as it did. -/
def codecShiftsUptoRow : OpenClaim := { program := "ytpekelggcmgnnaadoor", sum := "995bf5e63a8f1d4b87c754c865b6d9d57186b0af06c51d0b2b2075f33757aed1", func := "quantum/quantumlaw07.CodecShifts", spec := "codecShifts", unfollowed := true, recurses := true, named := ["quantum/event.uses", "quantum/event.fields"], apart := false, laid := [("quantum/event.fields", laid_quantum_event_fields), ("quantum/event.uses", laid_quantum_event_uses)], narrowed := true }
def CodecShiftsUptoSaid : Prop := codecShiftsUptoRow.holds Tryd.pinned (OpenSpec.upto codecShiftsSpec)

/-- 'quantumlaw07.CodecWrong', WHERE WHAT IT READS IS OF BULK AT MOST 1048576: true; the input reads as it did. -/
def codecWrongUptoRow : OpenClaim := { program := "ytpekelggcmgnnaadoor", sum := "995bf5e63a8f1d4b87c754c865b6d9d57186b0af06c51d0b2b2075f33757aed1", func := "quantum/quantumlaw07.CodecWrong", spec := "codecWrong", unfollowed := true, recurses := true, named := ["quantum/event.uses", "quantum/event.fields"], apart := false, laid := [("quantum/event.fields", laid_quantum_event_fields), ("quantum/event.uses", laid_quantum_event_uses)], narrowed := true }
def CodecWrongUptoSaid : Prop := codecWrongUptoRow.holds Tryd.pinned (OpenSpec.upto codecWrongSpec)

/-- 'quantumlaw07.CodecTells', WHERE WHAT IT READS IS OF BULK AT MOST 1048576: true; the input reads as it did. -/
def codecTellsUptoRow : OpenClaim := { program := "ytpekelggcmgnnaadoor", sum := "995bf5e63a8f1d4b87c754c865b6d9d57186b0af06c51d0b2b2075f33757aed1", func := "quantum/quantumlaw07.CodecTells", spec := "codecTells", unfollowed := true, recurses := true, named := ["quantum/event.uses", "quantum/event.fields"], apart := false, laid := [("quantum/event.fields", laid_quantum_event_fields), ("quantum/event.uses", laid_quantum_event_uses)], narrowed := true }
def CodecTellsUptoSaid : Prop := codecTellsUptoRow.holds Tryd.pinned (OpenSpec.upto codecTellsSpec)

/-- 'quantumlaw07.CodecSmall', WHERE WHAT IT READS IS OF BULK AT MOST 1048576: true; the input reads as it did. -/
def codecSmallUptoRow : OpenClaim := { program := "ytpekelggcmgnnaadoor", sum := "995bf5e63a8f1d4b87c754c865b6d9d57186b0af06c51d0b2b2075f33757aed1", func := "quantum/quantumlaw07.CodecSmall", spec := "codecSmall", unfollowed := true, recurses := true, named := ["quantum/event.uses", "quantum/event.fields"], apart := false, laid := [("quantum/event.fields", laid_quantum_event_fields), ("quantum/event.uses", laid_quantum_event_uses)], narrowed := true }
def CodecSmallUptoSaid : Prop := codecSmallUptoRow.holds Tryd.pinned (OpenSpec.upto codecSmallSpec)

/-- 'quantumlaw07.CodecBack', WHERE WHAT IT READS IS OF BULK AT MOST 1048576: true; the input reads as it did. -/
def codecBackUptoRow : OpenClaim := { program := "ytpekelggcmgnnaadoor", sum := "995bf5e63a8f1d4b87c754c865b6d9d57186b0af06c51d0b2b2075f33757aed1", func := "quantum/quantumlaw07.CodecBack", spec := "codecBack", unfollowed := true, recurses := true, named := ["quantum/event.uses", "quantum/event.fields"], apart := false, laid := [("quantum/event.fields", laid_quantum_event_fields), ("quantum/event.uses", laid_quantum_event_uses)], narrowed := true }
def CodecBackUptoSaid : Prop := codecBackUptoRow.holds Tryd.pinned (OpenSpec.upto codecBackSpec)

end Rows
end Go.Proofs.YtpekelggcmgnnaaDoor

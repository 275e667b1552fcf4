/-
  NARROWER THAN 'FOR EVERY INPUT', by the rows' own cells (each row's printed sentence says how): StreamCuts: laid · StreamFull: laid · StreamWrong: laid · StreamJoins: laid · StreamStops: laid · StreamBack: laid.
  DERIVED. THE GIVEN ROWS OF THIS SEAT. 6 by the template 'for every input the law returns true; each argument reads behind the call as it read before'; 0 by the template 'total and deterministic' (their statements: YtfeheccoijnbaaaDoorTotals.lean).
  GIVEN WITH THE SEED: the statements are not yours to turn. If you find one false, say at which input.
  Laid BY PROGRAM, IN A SANDBOX (cutbox-rows.mjs): the forced cells as the released guide's own fill.sh prints them over the translation 0e03a85c61e88189… (all of the seat's roots in one cut). By AI agents, Wed Nov 11 2026. No macro, syntax, notation, axiom, sorry.
-/
import Derived.Test.YtfeheccoijnbaaaDoorChecked
import GoSem.Claim
import GoSem.ClaimJoined
import GoSem.ClaimMapViews
import Derived.JoinedTies
import Derived.KernelRfl
namespace Go.Proofs.YtfeheccoijnbaaaDoor
/- THE CELL 'sum', in the pinned program and in every row, IS THE sha256 OF THE DUMP (.gsa) THAT YtfeheccoijnbaaaDoorProg.lean LOADS. Nothing in Lean hashes anything: it is a label: what it is worth is what the hold of that sum in a sandbox is worth. -/
noncomputable def Tryd.pinned : Pinned := { name := "ytfeheccoijnbaaadoor", sum := "0e03a85c61e881891b176d1a33656a59a25afe1495da69ed7a7356d8a35bce5f", checked := Tryd.checked }
namespace Rows
def none {H : Type} : Left H := { results := [], args := [] }

/- WHAT THE LISTED PACKAGE-LEVEL VARIABLES READ AS WHEN THE CALL BEGINS. Each datum BY PROGRAM (the guide's laid-datum.mjs) off the statement by which the dump's own 'gosem.cut.vars' lays the variable. In a bare row this is a premise. The card (YtfeheccoijnbaaaDoorCards.lean) ties it to the program's text. -/
def laid_quantum_event_fields {H : Type} : DataW H := .agg [.lit (.string [116, 97, 115, 107]), .lit (.string [103, 114, 111, 117, 112]), .lit (.string [116, 111]), .lit (.string [119, 101, 105, 103, 104, 116]), .lit (.string [116, 105, 99, 107, 115]), .lit (.string [109, 97, 115, 107]), .lit (.string [103, 111, 116])]
def laid_quantum_event_uses {H : Type} : DataW H := .agg [.nil, .slice [.lit (.int .i64 0), .lit (.int .i64 1), .lit (.int .i64 3), .lit (.int .i64 5)] [], .slice [.lit (.int .i64 0)] [], .slice [.lit (.int .i64 6)] [], .slice [.lit (.int .i64 6)] [], .slice [.lit (.int .i64 4), .lit (.int .i64 6)] [], .slice [.lit (.int .i64 6)] [], .slice [.lit (.int .i64 0), .lit (.int .i64 3)] [], .slice [.lit (.int .i64 1), .lit (.int .i64 3)] [], .slice [.lit (.int .i64 0), .lit (.int .i64 2)] [], .slice [.lit (.int .i64 6)] []]
def laid_quantum_crc_halves {H : Type} : DataW H := .agg [.lit (.int .u32 0), .lit (.int .u32 498536548), .lit (.int .u32 997073096), .lit (.int .u32 651767980), .lit (.int .u32 1994146192), .lit (.int .u32 1802195444), .lit (.int .u32 1303535960), .lit (.int .u32 1342533948), .lit (.int .u32 3988292384), .lit (.int .u32 4027552580), .lit (.int .u32 3604390888), .lit (.int .u32 3412177804), .lit (.int .u32 2607071920), .lit (.int .u32 2262029012), .lit (.int .u32 2685067896), .lit (.int .u32 3183342108)]
def laid_quantum_block_magic {H : Type} : DataW H := .agg [.lit (.int .u8 113), .lit (.int .u8 116)]

/-- 'quantumlaw11.StreamCuts': WHATEVER THE INPUT: true; the input reads as it did. -/
def streamCutsSpec : ChangeSpec := { name := "streamCuts", fn := fun _ => fun
  | [d1, d2, d3, d4] => { results := [.lit (.bool true)], args := [d1, d2, d3, d4] }
  | _ => none }
def streamCutsRow : OpenClaim := { program := "ytfeheccoijnbaaadoor", sum := "0e03a85c61e881891b176d1a33656a59a25afe1495da69ed7a7356d8a35bce5f", func := "quantum/quantumlaw11.StreamCuts", spec := "streamCuts", unfollowed := true, recurses := true, named := ["quantum/event.uses", "quantum/block.magic", "quantum/crc.halves", "quantum/event.fields"], apart := false, laid := [("quantum/event.fields", laid_quantum_event_fields), ("quantum/event.uses", laid_quantum_event_uses), ("quantum/crc.halves", laid_quantum_crc_halves), ("quantum/block.magic", laid_quantum_block_magic)] }
def StreamCutsSaid : Prop := streamCutsRow.holds Tryd.pinned (OpenSpec.ofChange streamCutsSpec)

/-- ITS FALSE NEIGHBOUR: 'it returns false'. Refute it at one input. -/
def streamCutsWrong : ChangeSpec := { name := "streamCuts", fn := fun _ => fun
  | [d1, d2, d3, d4] => { results := [.lit (.bool false)], args := [d1, d2, d3, d4] }
  | _ => none }
def StreamCutsWrongFalsely : Prop := streamCutsRow.holds Tryd.pinned (OpenSpec.ofChange streamCutsWrong)

/-- 'quantumlaw11.StreamFull': WHATEVER THE INPUT: true; the input reads as it did. -/
def streamFullSpec : ChangeSpec := { name := "streamFull", fn := fun _ => fun
  | [d1, d2] => { results := [.lit (.bool true)], args := [d1, d2] }
  | _ => none }
def streamFullRow : OpenClaim := { program := "ytfeheccoijnbaaadoor", sum := "0e03a85c61e881891b176d1a33656a59a25afe1495da69ed7a7356d8a35bce5f", func := "quantum/quantumlaw11.StreamFull", spec := "streamFull", unfollowed := true, recurses := true, named := ["quantum/event.uses", "quantum/block.magic", "quantum/crc.halves", "quantum/event.fields"], apart := false, laid := [("quantum/event.fields", laid_quantum_event_fields), ("quantum/event.uses", laid_quantum_event_uses), ("quantum/crc.halves", laid_quantum_crc_halves), ("quantum/block.magic", laid_quantum_block_magic)] }
def StreamFullSaid : Prop := streamFullRow.holds Tryd.pinned (OpenSpec.ofChange streamFullSpec)

/-- ITS FALSE NEIGHBOUR: 'it returns false'. Refute it at one input. -/
def streamFullWrong : ChangeSpec := { name := "streamFull", fn := fun _ => fun
  | [d1, d2] => { results := [.lit (.bool false)], args := [d1, d2] }
  | _ => none }
def StreamFullWrongFalsely : Prop := streamFullRow.holds Tryd.pinned (OpenSpec.ofChange streamFullWrong)

/-- 'quantumlaw11.StreamWrong': WHATEVER THE INPUT: true; the input reads as it did. -/
def streamWrongSpec : ChangeSpec := { name := "streamWrong", fn := fun _ => fun
  | [d1, d2, d3] => { results := [.lit (.bool true)], args := [d1, d2, d3] }
  | _ => none }
def streamWrongRow : OpenClaim := { program := "ytfeheccoijnbaaadoor", sum := "0e03a85c61e881891b176d1a33656a59a25afe1495da69ed7a7356d8a35bce5f", func := "quantum/quantumlaw11.StreamWrong", spec := "streamWrong", unfollowed := true, recurses := true, named := ["quantum/event.uses", "quantum/block.magic", "quantum/crc.halves", "quantum/event.fields"], apart := false, laid := [("quantum/event.fields", laid_quantum_event_fields), ("quantum/event.uses", laid_quantum_event_uses), ("quantum/crc.halves", laid_quantum_crc_halves), ("quantum/block.magic", laid_quantum_block_magic)] }
def StreamWrongSaid : Prop := streamWrongRow.holds Tryd.pinned (OpenSpec.ofChange streamWrongSpec)

/-- ITS FALSE NEIGHBOUR: 'it returns false'. Refute it at one input. -/
def streamWrongWrong : ChangeSpec := { name := "streamWrong", fn := fun _ => fun
  | [d1, d2, d3] => { results := [.lit (.bool false)], args := [d1, d2, d3] }
  | _ => none }
def StreamWrongWrongFalsely : Prop := streamWrongRow.holds Tryd.pinned (OpenSpec.ofChange streamWrongWrong)

/-- 'quantumlaw11.StreamJoins': WHATEVER THE INPUT: true; the input reads as it did. -/
def streamJoinsSpec : ChangeSpec := { name := "streamJoins", fn := fun _ => fun
  | [d1, d2] => { results := [.lit (.bool true)], args := [d1, d2] }
  | _ => none }
def streamJoinsRow : OpenClaim := { program := "ytfeheccoijnbaaadoor", sum := "0e03a85c61e881891b176d1a33656a59a25afe1495da69ed7a7356d8a35bce5f", func := "quantum/quantumlaw11.StreamJoins", spec := "streamJoins", unfollowed := true, recurses := true, named := ["quantum/event.uses", "quantum/block.magic", "quantum/crc.halves", "quantum/event.fields"], apart := false, laid := [("quantum/event.fields", laid_quantum_event_fields), ("quantum/event.uses", laid_quantum_event_uses), ("quantum/crc.halves", laid_quantum_crc_halves), ("quantum/block.magic", laid_quantum_block_magic)] }
def StreamJoinsSaid : Prop := streamJoinsRow.holds Tryd.pinned (OpenSpec.ofChange streamJoinsSpec)

/-- ITS FALSE NEIGHBOUR: 'it returns false'. Refute it at one input. -/
def streamJoinsWrong : ChangeSpec := { name := "streamJoins", fn := fun _ => fun
  | [d1, d2] => { results := [.lit (.bool false)], args := [d1, d2] }
  | _ => none }
def StreamJoinsWrongFalsely : Prop := streamJoinsRow.holds Tryd.pinned (OpenSpec.ofChange streamJoinsWrong)

/-- 'quantumlaw11.StreamStops': WHATEVER THE INPUT: true; the input reads as it did. -/
def streamStopsSpec : ChangeSpec := { name := "streamStops", fn := fun _ => fun
  | [d1, d2, d3] => { results := [.lit (.bool true)], args := [d1, d2, d3] }
  | _ => none }
def streamStopsRow : OpenClaim := { program := "ytfeheccoijnbaaadoor", sum := "0e03a85c61e881891b176d1a33656a59a25afe1495da69ed7a7356d8a35bce5f", func := "quantum/quantumlaw11.StreamStops", spec := "streamStops", unfollowed := true, recurses := true, named := ["quantum/event.uses", "quantum/block.magic", "quantum/crc.halves", "quantum/event.fields"], apart := false, laid := [("quantum/event.fields", laid_quantum_event_fields), ("quantum/event.uses", laid_quantum_event_uses), ("quantum/crc.halves", laid_quantum_crc_halves), ("quantum/block.magic", laid_quantum_block_magic)] }
def StreamStopsSaid : Prop := streamStopsRow.holds Tryd.pinned (OpenSpec.ofChange streamStopsSpec)

/-- ITS FALSE NEIGHBOUR: 'it returns false'. Refute it at one input. -/
def streamStopsWrong : ChangeSpec := { name := "streamStops", fn := fun _ => fun
  | [d1, d2, d3] => { results := [.lit (.bool false)], args := [d1, d2, d3] }
  | _ => none }
def StreamStopsWrongFalsely : Prop := streamStopsRow.holds Tryd.pinned (OpenSpec.ofChange streamStopsWrong)

/-- 'quantumlaw11.StreamBack': WHATEVER THE INPUT: true; the input reads as it did. -/
def streamBackSpec : ChangeSpec := { name := "streamBack", fn := fun _ => fun
  | [d1, d2, d3] => { results := [.lit (.bool true)], args := [d1, d2, d3] }
  | _ => none }
def streamBackRow : OpenClaim := { program := "ytfeheccoijnbaaadoor", sum := "0e03a85c61e881891b176d1a33656a59a25afe1495da69ed7a7356d8a35bce5f", func := "quantum/quantumlaw11.StreamBack", spec := "streamBack", unfollowed := true, recurses := true, named := ["quantum/event.uses", "quantum/block.magic", "quantum/crc.halves", "quantum/event.fields"], apart := false, laid := [("quantum/event.fields", laid_quantum_event_fields), ("quantum/event.uses", laid_quantum_event_uses), ("quantum/crc.halves", laid_quantum_crc_halves), ("quantum/block.magic", laid_quantum_block_magic)] }
def StreamBackSaid : Prop := streamBackRow.holds Tryd.pinned (OpenSpec.ofChange streamBackSpec)

/-- ITS FALSE NEIGHBOUR: 'it returns false'. Refute it at one input. -/
def streamBackWrong : ChangeSpec := { name := "streamBack", fn := fun _ => fun
  | [d1, d2, d3] => { results := [.lit (.bool false)], args := [d1, d2, d3] }
  | _ => none }
def StreamBackWrongFalsely : Prop := streamBackRow.holds Tryd.pinned (OpenSpec.ofChange streamBackWrong)

/- THE SECOND FORM. 'bulk': how many values and letters a reading holds, each counted each time it is reached (what is shared counts as often as it is met; a slice's spare places count too). A statement '..UptoSaid' is the law's where the arguments, and the package variables that the reading takes, are together of bulk at most 1048576: NARROWER than '..Said'. Prove '..Said' where nothing that the law and all that it calls make is longer than what came in: it says more and counts as full. Else prove '..UptoSaid'. A law counts once. -/
mutual
def uptoBulk {H : Type} : DataW H → Nat
  | .lit (.string bytes) => bytes.length + 1
  | .lit _ => 1
  | .nil => 1
  | .ptr d => uptoBulk d + 1
  | .slice elems spare => uptoBulkAll elems + uptoBulkAll spare + 1
  | .agg parts => uptoBulkAll parts + 1
  | .iface _ d => uptoBulk d + 1
  | .map entries => uptoBulkEntries entries + 1
  | .held _ => 1
def uptoBulkAll {H : Type} : List (DataW H) → Nat
  | [] => 0
  | d :: r => uptoBulk d + uptoBulkAll r
def uptoBulkEntries {H : Type} : List (Lit × DataW H) → Nat
  | [] => 0
  | x :: r => uptoBulkEntry x + uptoBulkEntries r
def uptoBulkEntry {H : Type} : Lit × DataW H → Nat
  | (.string bytes, d) => bytes.length + uptoBulk d + 1
  | (_, d) => uptoBulk d + 1
 end
def uptoSmall : (H : Type) → List (DataW H) → Bool := fun _ ds => decide (uptoBulkAll ds ≤ 1048576)
def OpenSpec.upto (s : _root_.Go.ChangeSpec) : _root_.Go.OpenSpec := { _root_.Go.OpenSpec.ofChange s with cond := some uptoSmall }

/-- 'quantumlaw11.StreamCuts', WHERE WHAT IT READS IS OF BULK AT MOST 1048576: true; the input reads as it did. -/
def streamCutsUptoRow : OpenClaim := { program := "ytfeheccoijnbaaadoor", sum := "0e03a85c61e881891b176d1a33656a59a25afe1495da69ed7a7356d8a35bce5f", func := "quantum/quantumlaw11.StreamCuts", spec := "streamCuts", unfollowed := true, recurses := true, named := ["quantum/event.uses", "quantum/block.magic", "quantum/crc.halves", "quantum/event.fields"], apart := false, laid := [("quantum/event.fields", laid_quantum_event_fields), ("quantum/event.uses", laid_quantum_event_uses), ("quantum/crc.halves", laid_quantum_crc_halves), ("quantum/block.magic", laid_quantum_block_magic)], narrowed := true }
def StreamCutsUptoSaid : Prop := streamCutsUptoRow.holds Tryd.pinned (OpenSpec.upto streamCutsSpec)

/-- 'quantumlaw11.StreamFull', WHERE WHAT IT READS IS OF BULK AT MOST 1048576: true; the input reads as it did. -/
def streamFullUptoRow : OpenClaim := { program := "ytfeheccoijnbaaadoor", sum := "0e03a85c61e881891b176d1a33656a59a25afe1495da69ed7a7356d8a35bce5f", func := "quantum/quantumlaw11.StreamFull", spec := "streamFull", unfollowed := true, recurses := true, named := ["quantum/event.uses", "quantum/block.magic", "quantum/crc.halves", "quantum/event.fields"], apart := false, laid := [("quantum/event.fields", laid_quantum_event_fields), ("quantum/event.uses", laid_quantum_event_uses), ("quantum/crc.halves", laid_quantum_crc_halves), ("quantum/block.magic", laid_quantum_block_magic)], narrowed := true }
def StreamFullUptoSaid : Prop := streamFullUptoRow.holds Tryd.pinned (OpenSpec.upto streamFullSpec)

/-- 'quantumlaw11.StreamWrong', WHERE WHAT IT READS IS OF BULK AT MOST 1048576: true; the input reads as it did. -/
def streamWrongUptoRow : OpenClaim := { program := "ytfeheccoijnbaaadoor", sum := "0e03a85c61e881891b176d1a33656a59a25afe1495da69ed7a7356d8a35bce5f", func := "quantum/quantumlaw11.StreamWrong", spec := "streamWrong", unfollowed := true, recurses := true, named := ["quantum/event.uses", "quantum/block.magic", "quantum/crc.halves", "quantum/event.fields"], apart := false, laid := [("quantum/event.fields", laid_quantum_event_fields), ("quantum/event.uses", laid_quantum_event_uses), ("quantum/crc.halves", laid_quantum_crc_halves), ("quantum/block.magic", laid_quantum_block_magic)], narrowed := true }
def StreamWrongUptoSaid : Prop := streamWrongUptoRow.holds Tryd.pinned (OpenSpec.upto streamWrongSpec)

/-- 'quantumlaw11.StreamJoins', WHERE WHAT IT READS IS OF BULK AT MOST 1048576: true; the input reads as it did. -/
def streamJoinsUptoRow : OpenClaim := { program := "ytfeheccoijnbaaadoor", sum := "0e03a85c61e881891b176d1a33656a59a25afe1495da69ed7a7356d8a35bce5f", func := "quantum/quantumlaw11.StreamJoins", spec := "streamJoins", unfollowed := true, recurses := true, named := ["quantum/event.uses", "quantum/block.magic", "quantum/crc.halves", "quantum/event.fields"], apart := false, laid := [("quantum/event.fields", laid_quantum_event_fields), ("quantum/event.uses", laid_quantum_event_uses), ("quantum/crc.halves", laid_quantum_crc_halves), ("quantum/block.magic", laid_quantum_block_magic)], narrowed := true }
def StreamJoinsUptoSaid : Prop := streamJoinsUptoRow.holds Tryd.pinned (OpenSpec.upto streamJoinsSpec)

/-- 'quantumlaw11.StreamStops', WHERE WHAT IT READS IS OF BULK AT MOST 1048576: true; the input reads as it did. -/
def streamStopsUptoRow : OpenClaim := { program := "ytfeheccoijnbaaadoor", sum := "0e03a85c61e881891b176d1a33656a59a25afe1495da69ed7a7356d8a35bce5f", func := "quantum/quantumlaw11.StreamStops", spec := "streamStops", unfollowed := true, recurses := true, named := ["quantum/event.uses", "quantum/block.magic", "quantum/crc.halves", "quantum/event.fields"], apart := false, laid := [("quantum/event.fields", laid_quantum_event_fields), ("quantum/event.uses", laid_quantum_event_uses), ("quantum/crc.halves", laid_quantum_crc_halves), ("quantum/block.magic", laid_quantum_block_magic)], narrowed := true }
def StreamStopsUptoSaid : Prop := streamStopsUptoRow.holds Tryd.pinned (OpenSpec.upto streamStopsSpec)

/-- 'quantumlaw11.StreamBack', WHERE WHAT IT READS IS OF BULK AT MOST 1048576: true; the input reads as it did. -/
def streamBackUptoRow : OpenClaim := { program := "ytfeheccoijnbaaadoor", sum := "0e03a85c61e881891b176d1a33656a59a25afe1495da69ed7a7356d8a35bce5f", func := "quantum/quantumlaw11.StreamBack", spec := "streamBack", unfollowed := true, recurses := true, named := ["quantum/event.uses", "quantum/block.magic", "quantum/crc.halves", "quantum/event.fields"], apart := false, laid := [("quantum/event.fields", laid_quantum_event_fields), ("quantum/event.uses", laid_quantum_event_uses), ("quantum/crc.halves", laid_quantum_crc_halves), ("quantum/block.magic", laid_quantum_block_magic)], narrowed := true }
def StreamBackUptoSaid : Prop := streamBackUptoRow.holds Tryd.pinned (OpenSpec.upto streamBackSpec)

end Rows
end Go.Proofs.YtfeheccoijnbaaaDoor

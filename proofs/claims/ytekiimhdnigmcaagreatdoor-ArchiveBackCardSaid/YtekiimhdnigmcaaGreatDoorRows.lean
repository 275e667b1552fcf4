/-
  NARROWER THAN 'FOR EVERY INPUT', by the rows' own cells (each row's printed sentence says how): ArchiveBack: laid · ArchiveGood: laid · StreamSmall: laid · ArchiveTells: laid · ArchiveOne: laid · ArchiveReads: laid · ArchiveSmall: laid · ArchiveFinds: laid · ArchiveWrong: laid · ArchiveTails: laid.
  DERIVED. THE GIVEN ROWS OF THIS SEAT. 10 by the template 'for every input the law returns true; each argument reads behind the call as it read before'; 0 by the template 'total and deterministic' (their statements: YtekiimhdnigmcaaGreatDoorTotals.lean).
  GIVEN WITH THE SEED: the statements are not yours to turn. If you find one false, say at which input.
  Laid BY PROGRAM, IN A SANDBOX (cutbox-rows.mjs): the forced cells as the released guide's own fill.sh prints them over the translation 7b82421efaff8b7d… (all of the seat's roots in one cut). By AI agents, Wed Nov 11 2026. No macro, syntax, notation, axiom, sorry.
-/
import Derived.Test.YtekiimhdnigmcaaGreatDoorChecked
import GoSem.Claim
import GoSem.ClaimJoined
import GoSem.ClaimMapViews
import Derived.JoinedTies
import Derived.KernelRfl
namespace Go.Proofs.YtekiimhdnigmcaaGreatDoor
/- THE CELL 'sum', in the pinned program and in every row, IS THE sha256 OF THE DUMP (.gsa) THAT YtekiimhdnigmcaaGreatDoorProg.lean LOADS. Nothing in Lean hashes anything: it is a label: what it is worth is what the hold of that sum in a sandbox is worth. -/
noncomputable def Tryz.pinned : Pinned := { name := "ytekiimhdnigmcaagreatdoor", sum := "7b82421efaff8b7dc3f5120d36f6fab3749e1cf8f17c9c3830859527f326c71c", checked := Tryz.checked }
namespace Rows
def none {H : Type} : Left H := { results := [], args := [] }

/- WHAT THE LISTED PACKAGE-LEVEL VARIABLES READ AS WHEN THE CALL BEGINS. Each datum BY PROGRAM (the guide's laid-datum.mjs) off the statement by which the dump's own 'gosem.cut.vars' lays the variable. In a bare row this is a premise. The card (YtekiimhdnigmcaaGreatDoorCards.lean) ties it to the program's text. -/
def laid_quantum_event_fields {H : Type} : DataW H := .agg [.lit (.string [116, 97, 115, 107]), .lit (.string [103, 114, 111, 117, 112]), .lit (.string [116, 111]), .lit (.string [119, 101, 105, 103, 104, 116]), .lit (.string [116, 105, 99, 107, 115]), .lit (.string [109, 97, 115, 107]), .lit (.string [103, 111, 116])]
def laid_quantum_event_uses {H : Type} : DataW H := .agg [.nil, .slice [.lit (.int .i64 0), .lit (.int .i64 1), .lit (.int .i64 3), .lit (.int .i64 5)] [], .slice [.lit (.int .i64 0)] [], .slice [.lit (.int .i64 6)] [], .slice [.lit (.int .i64 6)] [], .slice [.lit (.int .i64 4), .lit (.int .i64 6)] [], .slice [.lit (.int .i64 6)] [], .slice [.lit (.int .i64 0), .lit (.int .i64 3)] [], .slice [.lit (.int .i64 1), .lit (.int .i64 3)] [], .slice [.lit (.int .i64 0), .lit (.int .i64 2)] [], .slice [.lit (.int .i64 6)] []]
def laid_quantum_crc_halves {H : Type} : DataW H := .agg [.lit (.int .u32 0), .lit (.int .u32 498536548), .lit (.int .u32 997073096), .lit (.int .u32 651767980), .lit (.int .u32 1994146192), .lit (.int .u32 1802195444), .lit (.int .u32 1303535960), .lit (.int .u32 1342533948), .lit (.int .u32 3988292384), .lit (.int .u32 4027552580), .lit (.int .u32 3604390888), .lit (.int .u32 3412177804), .lit (.int .u32 2607071920), .lit (.int .u32 2262029012), .lit (.int .u32 2685067896), .lit (.int .u32 3183342108)]
def laid_quantum_block_magic {H : Type} : DataW H := .agg [.lit (.int .u8 113), .lit (.int .u8 116)]

/-- 'quantumlaw41.ArchiveBack': WHATEVER THE INPUT: true; the input reads as it did. -/
def archiveBackSpec : ChangeSpec := { name := "archiveBack", fn := fun _ => fun
  | [d] => { results := [.lit (.bool true)], args := [d] }
  | _ => none }
def archiveBackRow : OpenClaim := { program := "ytekiimhdnigmcaagreatdoor", sum := "7b82421efaff8b7dc3f5120d36f6fab3749e1cf8f17c9c3830859527f326c71c", func := "quantum/quantumlaw41.ArchiveBack", spec := "archiveBack", inPlace := ["slices.overlaps[quantum/api.Task]"], unfollowed := true, recurses := true, named := ["quantum/block.magic", "quantum/event.uses", "quantum/crc.halves", "quantum/event.fields"], apart := false, laid := [("quantum/event.fields", laid_quantum_event_fields), ("quantum/event.uses", laid_quantum_event_uses), ("quantum/crc.halves", laid_quantum_crc_halves), ("quantum/block.magic", laid_quantum_block_magic)] }
def ArchiveBackSaid : Prop := archiveBackRow.holds Tryz.pinned (OpenSpec.ofChange archiveBackSpec)

/-- ITS FALSE NEIGHBOUR: 'it returns false'. Refute it at one input. -/
def archiveBackWrong : ChangeSpec := { name := "archiveBack", fn := fun _ => fun
  | [d] => { results := [.lit (.bool false)], args := [d] }
  | _ => none }
def ArchiveBackWrongFalsely : Prop := archiveBackRow.holds Tryz.pinned (OpenSpec.ofChange archiveBackWrong)

/-- 'quantumlaw41.ArchiveGood': WHATEVER THE INPUT: true; the input reads as it did. -/
def archiveGoodSpec : ChangeSpec := { name := "archiveGood", fn := fun _ => fun
  | [d1, d2, d3, d4] => { results := [.lit (.bool true)], args := [d1, d2, d3, d4] }
  | _ => none }
def archiveGoodRow : OpenClaim := { program := "ytekiimhdnigmcaagreatdoor", sum := "7b82421efaff8b7dc3f5120d36f6fab3749e1cf8f17c9c3830859527f326c71c", func := "quantum/quantumlaw41.ArchiveGood", spec := "archiveGood", inPlace := ["slices.overlaps[quantum/api.Task]"], unfollowed := true, recurses := true, named := ["quantum/block.magic", "quantum/event.uses", "quantum/crc.halves", "quantum/event.fields"], apart := false, laid := [("quantum/event.fields", laid_quantum_event_fields), ("quantum/event.uses", laid_quantum_event_uses), ("quantum/crc.halves", laid_quantum_crc_halves), ("quantum/block.magic", laid_quantum_block_magic)] }
def ArchiveGoodSaid : Prop := archiveGoodRow.holds Tryz.pinned (OpenSpec.ofChange archiveGoodSpec)

/-- ITS FALSE NEIGHBOUR: 'it returns false'. Refute it at one input. -/
def archiveGoodWrong : ChangeSpec := { name := "archiveGood", fn := fun _ => fun
  | [d1, d2, d3, d4] => { results := [.lit (.bool false)], args := [d1, d2, d3, d4] }
  | _ => none }
def ArchiveGoodWrongFalsely : Prop := archiveGoodRow.holds Tryz.pinned (OpenSpec.ofChange archiveGoodWrong)

/-- 'quantumlaw11.StreamSmall': WHATEVER THE INPUT: true; the input reads as it did. -/
def streamSmallSpec : ChangeSpec := { name := "streamSmall", fn := fun _ => fun
  | [] => { results := [.lit (.bool true)], args := [] }
  | _ => none }
def streamSmallRow : OpenClaim := { program := "ytekiimhdnigmcaagreatdoor", sum := "7b82421efaff8b7dc3f5120d36f6fab3749e1cf8f17c9c3830859527f326c71c", func := "quantum/quantumlaw11.StreamSmall", spec := "streamSmall", unfollowed := true, recurses := true, named := ["quantum/event.uses", "quantum/block.magic", "quantum/crc.halves", "quantum/event.fields"], apart := false, laid := [("quantum/event.fields", laid_quantum_event_fields), ("quantum/event.uses", laid_quantum_event_uses), ("quantum/crc.halves", laid_quantum_crc_halves), ("quantum/block.magic", laid_quantum_block_magic)] }
def StreamSmallSaid : Prop := streamSmallRow.holds Tryz.pinned (OpenSpec.ofChange streamSmallSpec)

/-- ITS FALSE NEIGHBOUR: 'it returns false'. Refute it at one input. -/
def streamSmallWrong : ChangeSpec := { name := "streamSmall", fn := fun _ => fun
  | [] => { results := [.lit (.bool false)], args := [] }
  | _ => none }
def StreamSmallWrongFalsely : Prop := streamSmallRow.holds Tryz.pinned (OpenSpec.ofChange streamSmallWrong)

/-- 'quantumlaw41.ArchiveTells': WHATEVER THE INPUT: true; the input reads as it did. -/
def archiveTellsSpec : ChangeSpec := { name := "archiveTells", fn := fun _ => fun
  | [d] => { results := [.lit (.bool true)], args := [d] }
  | _ => none }
def archiveTellsRow : OpenClaim := { program := "ytekiimhdnigmcaagreatdoor", sum := "7b82421efaff8b7dc3f5120d36f6fab3749e1cf8f17c9c3830859527f326c71c", func := "quantum/quantumlaw41.ArchiveTells", spec := "archiveTells", unfollowed := true, recurses := true, named := ["quantum/block.magic", "quantum/event.uses", "quantum/crc.halves", "quantum/event.fields"], apart := false, laid := [("quantum/event.fields", laid_quantum_event_fields), ("quantum/event.uses", laid_quantum_event_uses), ("quantum/crc.halves", laid_quantum_crc_halves), ("quantum/block.magic", laid_quantum_block_magic)] }
def ArchiveTellsSaid : Prop := archiveTellsRow.holds Tryz.pinned (OpenSpec.ofChange archiveTellsSpec)

/-- ITS FALSE NEIGHBOUR: 'it returns false'. Refute it at one input. -/
def archiveTellsWrong : ChangeSpec := { name := "archiveTells", fn := fun _ => fun
  | [d] => { results := [.lit (.bool false)], args := [d] }
  | _ => none }
def ArchiveTellsWrongFalsely : Prop := archiveTellsRow.holds Tryz.pinned (OpenSpec.ofChange archiveTellsWrong)

/-- 'quantumlaw41.ArchiveOne': WHATEVER THE INPUT: true; the input reads as it did. -/
def archiveOneSpec : ChangeSpec := { name := "archiveOne", fn := fun _ => fun
  | [d] => { results := [.lit (.bool true)], args := [d] }
  | _ => none }
def archiveOneRow : OpenClaim := { program := "ytekiimhdnigmcaagreatdoor", sum := "7b82421efaff8b7dc3f5120d36f6fab3749e1cf8f17c9c3830859527f326c71c", func := "quantum/quantumlaw41.ArchiveOne", spec := "archiveOne", unfollowed := true, recurses := true, named := ["quantum/block.magic", "quantum/event.uses", "quantum/crc.halves", "quantum/event.fields"], apart := false, laid := [("quantum/event.fields", laid_quantum_event_fields), ("quantum/event.uses", laid_quantum_event_uses), ("quantum/crc.halves", laid_quantum_crc_halves), ("quantum/block.magic", laid_quantum_block_magic)] }
def ArchiveOneSaid : Prop := archiveOneRow.holds Tryz.pinned (OpenSpec.ofChange archiveOneSpec)

/-- ITS FALSE NEIGHBOUR: 'it returns false'. Refute it at one input. -/
def archiveOneWrong : ChangeSpec := { name := "archiveOne", fn := fun _ => fun
  | [d] => { results := [.lit (.bool false)], args := [d] }
  | _ => none }
def ArchiveOneWrongFalsely : Prop := archiveOneRow.holds Tryz.pinned (OpenSpec.ofChange archiveOneWrong)

/-- 'quantumlaw41.ArchiveReads': WHATEVER THE INPUT: true; the input reads as it did. -/
def archiveReadsSpec : ChangeSpec := { name := "archiveReads", fn := fun _ => fun
  | [d1, d2, d3] => { results := [.lit (.bool true)], args := [d1, d2, d3] }
  | _ => none }
def archiveReadsRow : OpenClaim := { program := "ytekiimhdnigmcaagreatdoor", sum := "7b82421efaff8b7dc3f5120d36f6fab3749e1cf8f17c9c3830859527f326c71c", func := "quantum/quantumlaw41.ArchiveReads", spec := "archiveReads", unfollowed := true, recurses := true, named := ["quantum/crc.halves", "quantum/block.magic", "quantum/event.uses", "quantum/event.fields"], apart := false, laid := [("quantum/event.fields", laid_quantum_event_fields), ("quantum/event.uses", laid_quantum_event_uses), ("quantum/crc.halves", laid_quantum_crc_halves), ("quantum/block.magic", laid_quantum_block_magic)] }
def ArchiveReadsSaid : Prop := archiveReadsRow.holds Tryz.pinned (OpenSpec.ofChange archiveReadsSpec)

/-- ITS FALSE NEIGHBOUR: 'it returns false'. Refute it at one input. -/
def archiveReadsWrong : ChangeSpec := { name := "archiveReads", fn := fun _ => fun
  | [d1, d2, d3] => { results := [.lit (.bool false)], args := [d1, d2, d3] }
  | _ => none }
def ArchiveReadsWrongFalsely : Prop := archiveReadsRow.holds Tryz.pinned (OpenSpec.ofChange archiveReadsWrong)

/-- 'quantumlaw41.ArchiveSmall': WHATEVER THE INPUT: true; the input reads as it did. -/
def archiveSmallSpec : ChangeSpec := { name := "archiveSmall", fn := fun _ => fun
  | [] => { results := [.lit (.bool true)], args := [] }
  | _ => none }
def archiveSmallRow : OpenClaim := { program := "ytekiimhdnigmcaagreatdoor", sum := "7b82421efaff8b7dc3f5120d36f6fab3749e1cf8f17c9c3830859527f326c71c", func := "quantum/quantumlaw41.ArchiveSmall", spec := "archiveSmall", unfollowed := true, recurses := true, named := ["quantum/block.magic", "quantum/event.uses", "quantum/crc.halves", "quantum/event.fields"], apart := false, laid := [("quantum/event.fields", laid_quantum_event_fields), ("quantum/event.uses", laid_quantum_event_uses), ("quantum/crc.halves", laid_quantum_crc_halves), ("quantum/block.magic", laid_quantum_block_magic)] }
def ArchiveSmallSaid : Prop := archiveSmallRow.holds Tryz.pinned (OpenSpec.ofChange archiveSmallSpec)

/-- ITS FALSE NEIGHBOUR: 'it returns false'. Refute it at one input. -/
def archiveSmallWrong : ChangeSpec := { name := "archiveSmall", fn := fun _ => fun
  | [] => { results := [.lit (.bool false)], args := [] }
  | _ => none }
def ArchiveSmallWrongFalsely : Prop := archiveSmallRow.holds Tryz.pinned (OpenSpec.ofChange archiveSmallWrong)

/-- 'quantumlaw41.ArchiveFinds': WHATEVER THE INPUT: true; the input reads as it did. -/
def archiveFindsSpec : ChangeSpec := { name := "archiveFinds", fn := fun _ => fun
  | [d1, d2] => { results := [.lit (.bool true)], args := [d1, d2] }
  | _ => none }
def archiveFindsRow : OpenClaim := { program := "ytekiimhdnigmcaagreatdoor", sum := "7b82421efaff8b7dc3f5120d36f6fab3749e1cf8f17c9c3830859527f326c71c", func := "quantum/quantumlaw41.ArchiveFinds", spec := "archiveFinds", inPlace := ["slices.overlaps[quantum/api.Task]"], unfollowed := true, recurses := true, named := ["quantum/block.magic", "quantum/event.uses", "quantum/crc.halves", "quantum/event.fields"], apart := false, laid := [("quantum/event.fields", laid_quantum_event_fields), ("quantum/event.uses", laid_quantum_event_uses), ("quantum/crc.halves", laid_quantum_crc_halves), ("quantum/block.magic", laid_quantum_block_magic)] }
def ArchiveFindsSaid : Prop := archiveFindsRow.holds Tryz.pinned (OpenSpec.ofChange archiveFindsSpec)

/-- ITS FALSE NEIGHBOUR: 'it returns false'. Refute it at one input. -/
def archiveFindsWrong : ChangeSpec := { name := "archiveFinds", fn := fun _ => fun
  | [d1, d2] => { results := [.lit (.bool false)], args := [d1, d2] }
  | _ => none }
def ArchiveFindsWrongFalsely : Prop := archiveFindsRow.holds Tryz.pinned (OpenSpec.ofChange archiveFindsWrong)

/-- 'quantumlaw41.ArchiveWrong': WHATEVER THE INPUT: true; the input reads as it did. -/
def archiveWrongSpec : ChangeSpec := { name := "archiveWrong", fn := fun _ => fun
  | [d1, d2, d3] => { results := [.lit (.bool true)], args := [d1, d2, d3] }
  | _ => none }
def archiveWrongRow : OpenClaim := { program := "ytekiimhdnigmcaagreatdoor", sum := "7b82421efaff8b7dc3f5120d36f6fab3749e1cf8f17c9c3830859527f326c71c", func := "quantum/quantumlaw41.ArchiveWrong", spec := "archiveWrong", inPlace := ["slices.overlaps[quantum/api.Task]"], unfollowed := true, recurses := true, named := ["quantum/block.magic", "quantum/event.uses", "quantum/crc.halves", "quantum/event.fields"], apart := false, laid := [("quantum/event.fields", laid_quantum_event_fields), ("quantum/event.uses", laid_quantum_event_uses), ("quantum/crc.halves", laid_quantum_crc_halves), ("quantum/block.magic", laid_quantum_block_magic)] }
def ArchiveWrongSaid : Prop := archiveWrongRow.holds Tryz.pinned (OpenSpec.ofChange archiveWrongSpec)

/-- ITS FALSE NEIGHBOUR: 'it returns false'. Refute it at one input. -/
def archiveWrongWrong : ChangeSpec := { name := "archiveWrong", fn := fun _ => fun
  | [d1, d2, d3] => { results := [.lit (.bool false)], args := [d1, d2, d3] }
  | _ => none }
def ArchiveWrongWrongFalsely : Prop := archiveWrongRow.holds Tryz.pinned (OpenSpec.ofChange archiveWrongWrong)

/-- 'quantumlaw41.ArchiveTails': WHATEVER THE INPUT: true; the input reads as it did. -/
def archiveTailsSpec : ChangeSpec := { name := "archiveTails", fn := fun _ => fun
  | [d] => { results := [.lit (.bool true)], args := [d] }
  | _ => none }
def archiveTailsRow : OpenClaim := { program := "ytekiimhdnigmcaagreatdoor", sum := "7b82421efaff8b7dc3f5120d36f6fab3749e1cf8f17c9c3830859527f326c71c", func := "quantum/quantumlaw41.ArchiveTails", spec := "archiveTails", inPlace := ["slices.overlaps[quantum/api.Task]"], unfollowed := true, recurses := true, named := ["quantum/block.magic", "quantum/event.uses", "quantum/crc.halves", "quantum/event.fields"], apart := false, laid := [("quantum/event.fields", laid_quantum_event_fields), ("quantum/event.uses", laid_quantum_event_uses), ("quantum/crc.halves", laid_quantum_crc_halves), ("quantum/block.magic", laid_quantum_block_magic)] }
def ArchiveTailsSaid : Prop := archiveTailsRow.holds Tryz.pinned (OpenSpec.ofChange archiveTailsSpec)

/-- ITS FALSE NEIGHBOUR: 'it returns false'. Refute it at one input. -/
def archiveTailsWrong : ChangeSpec := { name := "archiveTails", fn := fun _ => fun
  | [d] => { results := [.lit (.bool false)], args := [d] }
  | _ => none }
def ArchiveTailsWrongFalsely : Prop := archiveTailsRow.holds Tryz.pinned (OpenSpec.ofChange archiveTailsWrong)

/- THE SECOND FORM. 'bulk': how many values and letters a reading holds, each counted each time it is reached (what is shared counts as often as it is met; a slice's spare places count too). A statement '..UptoSaid' is the law's where the arguments, and the package variables that the reading takes, are together of bulk at most 1048576: NARROWER than '..Said'. Prove '..Said' where nothing that the law and all that it calls make is longer than what came in: it says more and counts as full. Else prove '..UptoSaid'. A law counts once. -/
mutual
def uptoBulk {H : Type} : DataW H → Nat
  | .lit (.string bytes) => bytes.length + 1
  | .lit _ => 1
  | .nil => 1
  | .ptr d => uptoBulk d + 1
  | .slice elems spare => uptoBulkAll elems + uptoBulkAll spare + 1
  | .agg parts => uptoBulkAll parts + 1
  | .iface _ d => uptoBulk d + 1
  | .map entries => uptoBulkEntries entries + 1
  | .held _ => 1
def uptoBulkAll {H : Type} : List (DataW H) → Nat
  | [] => 0
  | d :: r => uptoBulk d + uptoBulkAll r
def uptoBulkEntries {H : Type} : List (Lit × DataW H) → Nat
  | [] => 0
  | x :: r => uptoBulkEntry x + uptoBulkEntries r
def uptoBulkEntry {H : Type} : Lit × DataW H → Nat
  | (.string bytes, d) => bytes.length + uptoBulk d + 1
  | (_, d) => uptoBulk d + 1
 end
def uptoSmall : (H : Type) → List (DataW H) → Bool := fun _ ds => decide (uptoBulkAll ds ≤ 1048576)
def OpenSpec.upto (s : _root_.Go.ChangeSpec) : _root_.Go.OpenSpec := { _root_.Go.OpenSpec.ofChange s with cond := some uptoSmall }

/-- 'quantumlaw41.ArchiveBack', WHERE WHAT IT READS IS OF BULK AT MOST 1048576: true; the input reads as it did. -/
def archiveBackUptoRow : OpenClaim := { program := "ytekiimhdnigmcaagreatdoor", sum := "7b82421efaff8b7dc3f5120d36f6fab3749e1cf8f17c9c3830859527f326c71c", func := "quantum/quantumlaw41.ArchiveBack", spec := "archiveBack", inPlace := ["slices.overlaps[quantum/api.Task]"], unfollowed := true, recurses := true, named := ["quantum/block.magic", "quantum/event.uses", "quantum/crc.halves", "quantum/event.fields"], apart := false, laid := [("quantum/event.fields", laid_quantum_event_fields), ("quantum/event.uses", laid_quantum_event_uses), ("quantum/crc.halves", laid_quantum_crc_halves), ("quantum/block.magic", laid_quantum_block_magic)], narrowed := true }
def ArchiveBackUptoSaid : Prop := archiveBackUptoRow.holds Tryz.pinned (OpenSpec.upto archiveBackSpec)

/-- 'quantumlaw41.ArchiveGood', WHERE WHAT IT READS IS OF BULK AT MOST 1048576: true; the input reads as it did. -/
def archiveGoodUptoRow : OpenClaim := { program := "ytekiimhdnigmcaagreatdoor", sum := "7b82421efaff8b7dc3f5120d36f6fab3749e1cf8f17c9c3830859527f326c71c", func := "quantum/quantumlaw41.ArchiveGood", spec := "archiveGood", inPlace := ["slices.overlaps[quantum/api.Task]"], unfollowed := true, recurses := true, named := ["quantum/block.magic", "quantum/event.uses", "quantum/crc.halves", "quantum/event.fields"], apart := false, laid := [("quantum/event.fields", laid_quantum_event_fields), ("quantum/event.uses", laid_quantum_event_uses), ("quantum/crc.halves", laid_quantum_crc_halves), ("quantum/block.magic", laid_quantum_block_magic)], narrowed := true }
def ArchiveGoodUptoSaid : Prop := archiveGoodUptoRow.holds Tryz.pinned (OpenSpec.upto archiveGoodSpec)

/-- 'quantumlaw11.StreamSmall', WHERE WHAT IT READS IS OF BULK AT MOST 1048576: true; the input reads as it did. -/
def streamSmallUptoRow : OpenClaim := { program := "ytekiimhdnigmcaagreatdoor", sum := "7b82421efaff8b7dc3f5120d36f6fab3749e1cf8f17c9c3830859527f326c71c", func := "quantum/quantumlaw11.StreamSmall", spec := "streamSmall", unfollowed := true, recurses := true, named := ["quantum/event.uses", "quantum/block.magic", "quantum/crc.halves", "quantum/event.fields"], apart := false, laid := [("quantum/event.fields", laid_quantum_event_fields), ("quantum/event.uses", laid_quantum_event_uses), ("quantum/crc.halves", laid_quantum_crc_halves), ("quantum/block.magic", laid_quantum_block_magic)], narrowed := true }
def StreamSmallUptoSaid : Prop := streamSmallUptoRow.holds Tryz.pinned (OpenSpec.upto streamSmallSpec)

/-- 'quantumlaw41.ArchiveTells', WHERE WHAT IT READS IS OF BULK AT MOST 1048576: true; the input reads as it did. -/
def archiveTellsUptoRow : OpenClaim := { program := "ytekiimhdnigmcaagreatdoor", sum := "7b82421efaff8b7dc3f5120d36f6fab3749e1cf8f17c9c3830859527f326c71c", func := "quantum/quantumlaw41.ArchiveTells", spec := "archiveTells", unfollowed := true, recurses := true, named := ["quantum/block.magic", "quantum/event.uses", "quantum/crc.halves", "quantum/event.fields"], apart := false, laid := [("quantum/event.fields", laid_quantum_event_fields), ("quantum/event.uses", laid_quantum_event_uses), ("quantum/crc.halves", laid_quantum_crc_halves), ("quantum/block.magic", laid_quantum_block_magic)], narrowed := true }
def ArchiveTellsUptoSaid : Prop := archiveTellsUptoRow.holds Tryz.pinned (OpenSpec.upto archiveTellsSpec)

/-- 'quantumlaw41.ArchiveOne', WHERE WHAT IT READS IS OF BULK AT MOST 1048576: true; the input reads as it did. -/
def archiveOneUptoRow : OpenClaim := { program := "ytekiimhdnigmcaagreatdoor", sum := "7b82421efaff8b7dc3f5120d36f6fab3749e1cf8f17c9c3830859527f326c71c", func := "quantum/quantumlaw41.ArchiveOne", spec := "archiveOne", unfollowed := true, recurses := true, named := ["quantum/block.magic", "quantum/event.uses", "quantum/crc.halves", "quantum/event.fields"], apart := false, laid := [("quantum/event.fields", laid_quantum_event_fields), ("quantum/event.uses", laid_quantum_event_uses), ("quantum/crc.halves", laid_quantum_crc_halves), ("quantum/block.magic", laid_quantum_block_magic)], narrowed := true }
def ArchiveOneUptoSaid : Prop := archiveOneUptoRow.holds Tryz.pinned (OpenSpec.upto archiveOneSpec)

/-- 'quantumlaw41.ArchiveReads', WHERE WHAT IT READS IS OF BULK AT MOST 1048576: true; the input reads as it did. -/
def archiveReadsUptoRow : OpenClaim := { program := "ytekiimhdnigmcaagreatdoor", sum := "7b82421efaff8b7dc3f5120d36f6fab3749e1cf8f17c9c3830859527f326c71c", func := "quantum/quantumlaw41.ArchiveReads", spec := "archiveReads", unfollowed := true, recurses := true, named := ["quantum/crc.halves", "quantum/block.magic", "quantum/event.uses", "quantum/event.fields"], apart := false, laid := [("quantum/event.fields", laid_quantum_event_fields), ("quantum/event.uses", laid_quantum_event_uses), ("quantum/crc.halves", laid_quantum_crc_halves), ("quantum/block.magic", laid_quantum_block_magic)], narrowed := true }
def ArchiveReadsUptoSaid : Prop := archiveReadsUptoRow.holds Tryz.pinned (OpenSpec.upto archiveReadsSpec)

/-- 'quantumlaw41.ArchiveSmall', WHERE WHAT IT READS IS OF BULK AT MOST 1048576: true; the input reads as it did. -/
def archiveSmallUptoRow : OpenClaim := { program := "ytekiimhdnigmcaagreatdoor", sum := "7b82421efaff8b7dc3f5120d36f6fab3749e1cf8f17c9c3830859527f326c71c", func := "quantum/quantumlaw41.ArchiveSmall", spec := "archiveSmall", unfollowed := true, recurses := true, named := ["quantum/block.magic", "quantum/event.uses", "quantum/crc.halves", "quantum/event.fields"], apart := false, laid := [("quantum/event.fields", laid_quantum_event_fields), ("quantum/event.uses", laid_quantum_event_uses), ("quantum/crc.halves", laid_quantum_crc_halves), ("quantum/block.magic", laid_quantum_block_magic)], narrowed := true }
def ArchiveSmallUptoSaid : Prop := archiveSmallUptoRow.holds Tryz.pinned (OpenSpec.upto archiveSmallSpec)

/-- 'quantumlaw41.ArchiveFinds', WHERE WHAT IT READS IS OF BULK AT MOST 1048576: true; the input reads as it did. -/
def archiveFindsUptoRow : OpenClaim := { program := "ytekiimhdnigmcaagreatdoor", sum := "7b82421efaff8b7dc3f5120d36f6fab3749e1cf8f17c9c3830859527f326c71c", func := "quantum/quantumlaw41.ArchiveFinds", spec := "archiveFinds", inPlace := ["slices.overlaps[quantum/api.Task]"], unfollowed := true, recurses := true, named := ["quantum/block.magic", "quantum/event.uses", "quantum/crc.halves", "quantum/event.fields"], apart := false, laid := [("quantum/event.fields", laid_quantum_event_fields), ("quantum/event.uses", laid_quantum_event_uses), ("quantum/crc.halves", laid_quantum_crc_halves), ("quantum/block.magic", laid_quantum_block_magic)], narrowed := true }
def ArchiveFindsUptoSaid : Prop := archiveFindsUptoRow.holds Tryz.pinned (OpenSpec.upto archiveFindsSpec)

/-- 'quantumlaw41.ArchiveWrong', WHERE WHAT IT READS IS OF BULK AT MOST 1048576: true; the input reads as it did. -/
def archiveWrongUptoRow : OpenClaim := { program := "ytekiimhdnigmcaagreatdoor", sum := "7b82421efaff8b7dc3f5120d36f6fab3749e1cf8f17c9c3830859527f326c71c", func := "quantum/quantumlaw41.ArchiveWrong", spec := "archiveWrong", inPlace := ["slices.overlaps[quantum/api.Task]"], unfollowed := true, recurses := true, named := ["quantum/block.magic", "quantum/event.uses", "quantum/crc.halves", "quantum/event.fields"], apart := false, laid := [("quantum/event.fields", laid_quantum_event_fields), ("quantum/event.uses", laid_quantum_event_uses), ("quantum/crc.halves", laid_quantum_crc_halves), ("quantum/block.magic", laid_quantum_block_magic)], narrowed := true }
def ArchiveWrongUptoSaid : Prop := archiveWrongUptoRow.holds Tryz.pinned (OpenSpec.upto archiveWrongSpec)

/-- 'quantumlaw41.ArchiveTails', WHERE WHAT IT READS IS OF BULK AT MOST 1048576: true; the input reads as it did. -/
def archiveTailsUptoRow : OpenClaim := { program := "ytekiimhdnigmcaagreatdoor", sum := "7b82421efaff8b7dc3f5120d36f6fab3749e1cf8f17c9c3830859527f326c71c", func := "quantum/quantumlaw41.ArchiveTails", spec := "archiveTails", inPlace := ["slices.overlaps[quantum/api.Task]"], unfollowed := true, recurses := true, named := ["quantum/block.magic", "quantum/event.uses", "quantum/crc.halves", "quantum/event.fields"], apart := false, laid := [("quantum/event.fields", laid_quantum_event_fields), ("quantum/event.uses", laid_quantum_event_uses), ("quantum/crc.halves", laid_quantum_crc_halves), ("quantum/block.magic", laid_quantum_block_magic)], narrowed := true }
def ArchiveTailsUptoSaid : Prop := archiveTailsUptoRow.holds Tryz.pinned (OpenSpec.upto archiveTailsSpec)

end Rows
end Go.Proofs.YtekiimhdnigmcaaGreatDoor

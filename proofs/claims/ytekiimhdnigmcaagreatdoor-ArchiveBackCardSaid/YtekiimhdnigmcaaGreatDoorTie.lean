/-
  DERIVED. GIVEN WITH THE SEED: THE PROGRAM's TIES (one call each: nine closed facts by the kernel) AND EACH ROW's TIE, after the 31st guide's Derived/Test/Toyas{Tie, Card}.lean. No idea stands in it: it is a product of the set-up. Laid BY PROGRAM, IN A SANDBOX (cutbox-door.mjs). By AI agents, Wed Nov 11 2026. No macro, syntax, notation, axiom, sorry.
-/
import Derived.Test.YtekiimhdnigmcaaGreatDoorRows
import Derived.LaidByTextLater
import Derived.SevenTiedAt
import Derived.LaidSub
import Derived.LaidOnce
namespace Go.Proofs.YtekiimhdnigmcaaGreatDoor
open Go
set_option maxRecDepth 100000
theorem seatTie1 : Tryz.prog.laidByTextLater [("quantum/event.fields", Rows.laid_quantum_event_fields), ("quantum/event.uses", Rows.laid_quantum_event_uses), ("quantum/crc.halves", Rows.laid_quantum_crc_halves), ("quantum/block.magic", Rows.laid_quantum_block_magic)] [.data, .widerDeep, .data, .data] true :=
  Program.laidByTextLater_by_one 39 8 17 (by kernel_rfl) (by kernel_rfl) (by kernel_rfl) (by kernel_rfl) (by kernel_rfl) (by kernel_rfl) (fun _ _ => by kernel_rfl)
theorem noOwnUnsafe : Tryz.pinned.checked.prog.headLifts.contains "ownunsafe" = false := by kernel_rfl
theorem tie : Tryz.prog.laidByTextLater [("quantum/event.fields", Rows.laid_quantum_event_fields), ("quantum/event.uses", Rows.laid_quantum_event_uses), ("quantum/crc.halves", Rows.laid_quantum_crc_halves), ("quantum/block.magic", Rows.laid_quantum_block_magic)] [.data, .widerDeep, .data, .data] true :=
  Program.laidByTextLater.sub seatTie1 ["quantum/event.fields", "quantum/event.uses", "quantum/crc.halves", "quantum/block.magic"] (by kernel_rfl) (by kernel_rfl)
theorem archiveBack_row_tie : Rows.archiveBackRow.laidByTextAt .later Tryz.pinned [.data, .widerDeep, .data, .data] true :=
  OpenClaim.laidByTextAt_later rfl rfl tie noOwnUnsafe
theorem archiveGood_row_tie : Rows.archiveGoodRow.laidByTextAt .later Tryz.pinned [.data, .widerDeep, .data, .data] true :=
  OpenClaim.laidByTextAt_later rfl rfl tie noOwnUnsafe
theorem streamSmall_row_tie : Rows.streamSmallRow.laidByTextAt .later Tryz.pinned [.data, .widerDeep, .data, .data] true :=
  OpenClaim.laidByTextAt_later rfl rfl tie noOwnUnsafe
theorem archiveTells_row_tie : Rows.archiveTellsRow.laidByTextAt .later Tryz.pinned [.data, .widerDeep, .data, .data] true :=
  OpenClaim.laidByTextAt_later rfl rfl tie noOwnUnsafe
theorem archiveOne_row_tie : Rows.archiveOneRow.laidByTextAt .later Tryz.pinned [.data, .widerDeep, .data, .data] true :=
  OpenClaim.laidByTextAt_later rfl rfl tie noOwnUnsafe
theorem archiveReads_row_tie : Rows.archiveReadsRow.laidByTextAt .later Tryz.pinned [.data, .widerDeep, .data, .data] true :=
  OpenClaim.laidByTextAt_later rfl rfl tie noOwnUnsafe
theorem archiveSmall_row_tie : Rows.archiveSmallRow.laidByTextAt .later Tryz.pinned [.data, .widerDeep, .data, .data] true :=
  OpenClaim.laidByTextAt_later rfl rfl tie noOwnUnsafe
theorem archiveFinds_row_tie : Rows.archiveFindsRow.laidByTextAt .later Tryz.pinned [.data, .widerDeep, .data, .data] true :=
  OpenClaim.laidByTextAt_later rfl rfl tie noOwnUnsafe
theorem archiveWrong_row_tie : Rows.archiveWrongRow.laidByTextAt .later Tryz.pinned [.data, .widerDeep, .data, .data] true :=
  OpenClaim.laidByTextAt_later rfl rfl tie noOwnUnsafe
theorem archiveTails_row_tie : Rows.archiveTailsRow.laidByTextAt .later Tryz.pinned [.data, .widerDeep, .data, .data] true :=
  OpenClaim.laidByTextAt_later rfl rfl tie noOwnUnsafe
theorem archiveBackUpto_row_tie : Rows.archiveBackUptoRow.laidByTextAt .later Tryz.pinned [.data, .widerDeep, .data, .data] true :=
  OpenClaim.laidByTextAt_later rfl rfl tie noOwnUnsafe
theorem archiveGoodUpto_row_tie : Rows.archiveGoodUptoRow.laidByTextAt .later Tryz.pinned [.data, .widerDeep, .data, .data] true :=
  OpenClaim.laidByTextAt_later rfl rfl tie noOwnUnsafe
theorem streamSmallUpto_row_tie : Rows.streamSmallUptoRow.laidByTextAt .later Tryz.pinned [.data, .widerDeep, .data, .data] true :=
  OpenClaim.laidByTextAt_later rfl rfl tie noOwnUnsafe
theorem archiveTellsUpto_row_tie : Rows.archiveTellsUptoRow.laidByTextAt .later Tryz.pinned [.data, .widerDeep, .data, .data] true :=
  OpenClaim.laidByTextAt_later rfl rfl tie noOwnUnsafe
theorem archiveOneUpto_row_tie : Rows.archiveOneUptoRow.laidByTextAt .later Tryz.pinned [.data, .widerDeep, .data, .data] true :=
  OpenClaim.laidByTextAt_later rfl rfl tie noOwnUnsafe
theorem archiveReadsUpto_row_tie : Rows.archiveReadsUptoRow.laidByTextAt .later Tryz.pinned [.data, .widerDeep, .data, .data] true :=
  OpenClaim.laidByTextAt_later rfl rfl tie noOwnUnsafe
theorem archiveSmallUpto_row_tie : Rows.archiveSmallUptoRow.laidByTextAt .later Tryz.pinned [.data, .widerDeep, .data, .data] true :=
  OpenClaim.laidByTextAt_later rfl rfl tie noOwnUnsafe
theorem archiveFindsUpto_row_tie : Rows.archiveFindsUptoRow.laidByTextAt .later Tryz.pinned [.data, .widerDeep, .data, .data] true :=
  OpenClaim.laidByTextAt_later rfl rfl tie noOwnUnsafe
theorem archiveWrongUpto_row_tie : Rows.archiveWrongUptoRow.laidByTextAt .later Tryz.pinned [.data, .widerDeep, .data, .data] true :=
  OpenClaim.laidByTextAt_later rfl rfl tie noOwnUnsafe
theorem archiveTailsUpto_row_tie : Rows.archiveTailsUptoRow.laidByTextAt .later Tryz.pinned [.data, .widerDeep, .data, .data] true :=
  OpenClaim.laidByTextAt_later rfl rfl tie noOwnUnsafe
end Go.Proofs.YtekiimhdnigmcaaGreatDoor

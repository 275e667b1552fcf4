/-
  DERIVED. GIVEN WITH THE SEED: THE PROGRAM's TIES (one call each: nine closed facts by the kernel) AND EACH ROW's TIE, after the 31st guide's Derived/Test/Toyas{Tie, Card}.lean. No idea stands in it: it is a product of the set-up. Laid BY PROGRAM, IN A SANDBOX (cutbox-door.mjs). By AI agents, Wed Nov 11 2026. No macro, syntax, notation, axiom, sorry.
-/
import Derived.Test.YtfeheccoijnbaaaDoorRows
import Derived.LaidByTextLater
import Derived.SevenTiedAt
import Derived.LaidSub
import Derived.LaidOnce
namespace Go.Proofs.YtfeheccoijnbaaaDoor
open Go
set_option maxRecDepth 100000
theorem seatTie1 : Tryd.prog.laidByTextLater [("quantum/event.fields", Rows.laid_quantum_event_fields), ("quantum/event.uses", Rows.laid_quantum_event_uses), ("quantum/crc.halves", Rows.laid_quantum_crc_halves), ("quantum/block.magic", Rows.laid_quantum_block_magic)] [.data, .widerDeep, .data, .data] true :=
  Program.laidByTextLater_by_one 39 8 17 (by kernel_rfl) (by kernel_rfl) (by kernel_rfl) (by kernel_rfl) (by kernel_rfl) (by kernel_rfl) (fun _ _ => by kernel_rfl)
theorem noOwnUnsafe : Tryd.pinned.checked.prog.headLifts.contains "ownunsafe" = false := by kernel_rfl
theorem tie : Tryd.prog.laidByTextLater [("quantum/event.fields", Rows.laid_quantum_event_fields), ("quantum/event.uses", Rows.laid_quantum_event_uses), ("quantum/crc.halves", Rows.laid_quantum_crc_halves), ("quantum/block.magic", Rows.laid_quantum_block_magic)] [.data, .widerDeep, .data, .data] true :=
  Program.laidByTextLater.sub seatTie1 ["quantum/event.fields", "quantum/event.uses", "quantum/crc.halves", "quantum/block.magic"] (by kernel_rfl) (by kernel_rfl)
theorem streamCuts_row_tie : Rows.streamCutsRow.laidByTextAt .later Tryd.pinned [.data, .widerDeep, .data, .data] true :=
  OpenClaim.laidByTextAt_later rfl rfl tie noOwnUnsafe
theorem streamFull_row_tie : Rows.streamFullRow.laidByTextAt .later Tryd.pinned [.data, .widerDeep, .data, .data] true :=
  OpenClaim.laidByTextAt_later rfl rfl tie noOwnUnsafe
theorem streamWrong_row_tie : Rows.streamWrongRow.laidByTextAt .later Tryd.pinned [.data, .widerDeep, .data, .data] true :=
  OpenClaim.laidByTextAt_later rfl rfl tie noOwnUnsafe
theorem streamJoins_row_tie : Rows.streamJoinsRow.laidByTextAt .later Tryd.pinned [.data, .widerDeep, .data, .data] true :=
  OpenClaim.laidByTextAt_later rfl rfl tie noOwnUnsafe
theorem streamStops_row_tie : Rows.streamStopsRow.laidByTextAt .later Tryd.pinned [.data, .widerDeep, .data, .data] true :=
  OpenClaim.laidByTextAt_later rfl rfl tie noOwnUnsafe
theorem streamBack_row_tie : Rows.streamBackRow.laidByTextAt .later Tryd.pinned [.data, .widerDeep, .data, .data] true :=
  OpenClaim.laidByTextAt_later rfl rfl tie noOwnUnsafe
theorem streamCutsUpto_row_tie : Rows.streamCutsUptoRow.laidByTextAt .later Tryd.pinned [.data, .widerDeep, .data, .data] true :=
  OpenClaim.laidByTextAt_later rfl rfl tie noOwnUnsafe
theorem streamFullUpto_row_tie : Rows.streamFullUptoRow.laidByTextAt .later Tryd.pinned [.data, .widerDeep, .data, .data] true :=
  OpenClaim.laidByTextAt_later rfl rfl tie noOwnUnsafe
theorem streamWrongUpto_row_tie : Rows.streamWrongUptoRow.laidByTextAt .later Tryd.pinned [.data, .widerDeep, .data, .data] true :=
  OpenClaim.laidByTextAt_later rfl rfl tie noOwnUnsafe
theorem streamJoinsUpto_row_tie : Rows.streamJoinsUptoRow.laidByTextAt .later Tryd.pinned [.data, .widerDeep, .data, .data] true :=
  OpenClaim.laidByTextAt_later rfl rfl tie noOwnUnsafe
theorem streamStopsUpto_row_tie : Rows.streamStopsUptoRow.laidByTextAt .later Tryd.pinned [.data, .widerDeep, .data, .data] true :=
  OpenClaim.laidByTextAt_later rfl rfl tie noOwnUnsafe
theorem streamBackUpto_row_tie : Rows.streamBackUptoRow.laidByTextAt .later Tryd.pinned [.data, .widerDeep, .data, .data] true :=
  OpenClaim.laidByTextAt_later rfl rfl tie noOwnUnsafe
end Go.Proofs.YtfeheccoijnbaaaDoor

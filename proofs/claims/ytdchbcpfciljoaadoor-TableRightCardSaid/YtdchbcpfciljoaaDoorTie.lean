/-
  DERIVED. GIVEN WITH THE SEED: THE PROGRAM's TIES (one call each: nine closed facts by the kernel) AND EACH ROW's TIE, after the 31st guide's Derived/Test/Toyas{Tie, Card}.lean. No idea stands in it: it is a product of the set-up. Laid BY PROGRAM, IN A SANDBOX (cutbox-door.mjs). By AI agents, Wed Nov 11 2026. No macro, syntax, notation, axiom, sorry.
-/
import Derived.Test.YtdchbcpfciljoaaDoorRows
import Derived.LaidByTextLater
import Derived.SevenTiedAt
import Derived.LaidSub
import Derived.LaidOnce
namespace Go.Proofs.YtdchbcpfciljoaaDoor
open Go
set_option maxRecDepth 100000
theorem seatTie1 : Tryd.prog.laidByTextLater [("turnspit/packed.spans", Rows.laid_turnspit_packed_spans), ("turnspit/life.rules", Rows.laid_turnspit_life_rules)] [.data, .funcsDeep] true :=
  Program.laidByTextLater_by_one 136 8 11 (by kernel_rfl) (by kernel_rfl) (by kernel_rfl) (by kernel_rfl) (by kernel_rfl) (by kernel_rfl) (fun _ _ => by kernel_rfl)
theorem noOwnUnsafe : Tryd.pinned.checked.prog.headLifts.contains "ownunsafe" = false := by kernel_rfl
theorem tie : Tryd.prog.laidByTextLater [("turnspit/packed.spans", Rows.laid_turnspit_packed_spans), ("turnspit/life.rules", Rows.laid_turnspit_life_rules)] [.data, .funcsDeep] true :=
  Program.laidByTextLater.sub seatTie1 ["turnspit/packed.spans", "turnspit/life.rules"] (by kernel_rfl) (by kernel_rfl)
theorem tableTells_row_tie : Rows.tableTellsRow.laidByTextAt .later Tryd.pinned [.data, .funcsDeep] true :=
  OpenClaim.laidByTextAt_later rfl rfl tie noOwnUnsafe
theorem tableNew_row_tie : Rows.tableNewRow.laidByTextAt .later Tryd.pinned [.data, .funcsDeep] true :=
  OpenClaim.laidByTextAt_later rfl rfl tie noOwnUnsafe
theorem tableMade_row_tie : Rows.tableMadeRow.laidByTextAt .later Tryd.pinned [.data, .funcsDeep] true :=
  OpenClaim.laidByTextAt_later rfl rfl tie noOwnUnsafe
theorem tableRight_row_tie : Rows.tableRightRow.laidByTextAt .later Tryd.pinned [.data, .funcsDeep] true :=
  OpenClaim.laidByTextAt_later rfl rfl tie noOwnUnsafe
theorem tableOnce_row_tie : Rows.tableOnceRow.laidByTextAt .later Tryd.pinned [.data, .funcsDeep] true :=
  OpenClaim.laidByTextAt_later rfl rfl tie noOwnUnsafe
theorem tableKept_row_tie : Rows.tableKeptRow.laidByTextAt .later Tryd.pinned [.data, .funcsDeep] true :=
  OpenClaim.laidByTextAt_later rfl rfl tie noOwnUnsafe
theorem tableFirst_row_tie : Rows.tableFirstRow.laidByTextAt .later Tryd.pinned [.data, .funcsDeep] true :=
  OpenClaim.laidByTextAt_later rfl rfl tie noOwnUnsafe
theorem tableTellsUpto_row_tie : Rows.tableTellsUptoRow.laidByTextAt .later Tryd.pinned [.data, .funcsDeep] true :=
  OpenClaim.laidByTextAt_later rfl rfl tie noOwnUnsafe
theorem tableNewUpto_row_tie : Rows.tableNewUptoRow.laidByTextAt .later Tryd.pinned [.data, .funcsDeep] true :=
  OpenClaim.laidByTextAt_later rfl rfl tie noOwnUnsafe
theorem tableMadeUpto_row_tie : Rows.tableMadeUptoRow.laidByTextAt .later Tryd.pinned [.data, .funcsDeep] true :=
  OpenClaim.laidByTextAt_later rfl rfl tie noOwnUnsafe
theorem tableRightUpto_row_tie : Rows.tableRightUptoRow.laidByTextAt .later Tryd.pinned [.data, .funcsDeep] true :=
  OpenClaim.laidByTextAt_later rfl rfl tie noOwnUnsafe
theorem tableOnceUpto_row_tie : Rows.tableOnceUptoRow.laidByTextAt .later Tryd.pinned [.data, .funcsDeep] true :=
  OpenClaim.laidByTextAt_later rfl rfl tie noOwnUnsafe
theorem tableKeptUpto_row_tie : Rows.tableKeptUptoRow.laidByTextAt .later Tryd.pinned [.data, .funcsDeep] true :=
  OpenClaim.laidByTextAt_later rfl rfl tie noOwnUnsafe
theorem tableFirstUpto_row_tie : Rows.tableFirstUptoRow.laidByTextAt .later Tryd.pinned [.data, .funcsDeep] true :=
  OpenClaim.laidByTextAt_later rfl rfl tie noOwnUnsafe
end Go.Proofs.YtdchbcpfciljoaaDoor

/-
  DERIVED. GIVEN WITH THE SEED: THE PROGRAM's TIES (one call each: nine closed facts by the kernel) AND EACH ROW's TIE, after the 31st guide's Derived/Test/Toyas{Tie, Card}.lean. No idea stands in it: it is a product of the set-up. Laid BY PROGRAM, IN A SANDBOX (cutbox-door.mjs). By AI agents, Wed Nov 11 2026. No macro, syntax, notation, axiom, sorry.
-/
import Derived.Test.YtebmbegblnoeaaaDoorRows
import Derived.LaidByTextLater
import Derived.SevenTiedAt
import Derived.LaidSub
import Derived.LaidOnce
namespace Go.Proofs.YtebmbegblnoeaaaDoor
open Go
set_option maxRecDepth 100000
theorem seatTie1 : Tryd.prog.laidByTextLater [("turnspit/packed.spans", Rows.laid_turnspit_packed_spans), ("turnspit/life.rules", Rows.laid_turnspit_life_rules)] [.data, .funcsDeep] true :=
  Program.laidByTextLater_by_one 136 8 11 (by kernel_rfl) (by kernel_rfl) (by kernel_rfl) (by kernel_rfl) (by kernel_rfl) (by kernel_rfl) (fun _ _ => by kernel_rfl)
theorem noOwnUnsafe : Tryd.pinned.checked.prog.headLifts.contains "ownunsafe" = false := by kernel_rfl
theorem tie : Tryd.prog.laidByTextLater [("turnspit/packed.spans", Rows.laid_turnspit_packed_spans), ("turnspit/life.rules", Rows.laid_turnspit_life_rules)] [.data, .funcsDeep] true :=
  Program.laidByTextLater.sub seatTie1 ["turnspit/packed.spans", "turnspit/life.rules"] (by kernel_rfl) (by kernel_rfl)
theorem lifeTells_row_tie : Rows.lifeTellsRow.laidByTextAt .later Tryd.pinned [.data, .funcsDeep] true :=
  OpenClaim.laidByTextAt_later rfl rfl tie noOwnUnsafe
theorem lifePlays_row_tie : Rows.lifePlaysRow.laidByTextAt .later Tryd.pinned [.data, .funcsDeep] true :=
  OpenClaim.laidByTextAt_later rfl rfl tie noOwnUnsafe
theorem lifeRight_row_tie : Rows.lifeRightRow.laidByTextAt .later Tryd.pinned [.data, .funcsDeep] true :=
  OpenClaim.laidByTextAt_later rfl rfl tie noOwnUnsafe
theorem lifeClaims_row_tie : Rows.lifeClaimsRow.laidByTextAt .later Tryd.pinned [.data, .funcsDeep] true :=
  OpenClaim.laidByTextAt_later rfl rfl tie noOwnUnsafe
theorem lifeSeqs_row_tie : Rows.lifeSeqsRow.laidByTextAt .later Tryd.pinned [.data, .funcsDeep] true :=
  OpenClaim.laidByTextAt_later rfl rfl tie noOwnUnsafe
theorem lifeWays_row_tie : Rows.lifeWaysRow.laidByTextAt .later Tryd.pinned [.data, .funcsDeep] true :=
  OpenClaim.laidByTextAt_later rfl rfl tie noOwnUnsafe
theorem lifeParts_row_tie : Rows.lifePartsRow.laidByTextAt .later Tryd.pinned [.data, .funcsDeep] true :=
  OpenClaim.laidByTextAt_later rfl rfl tie noOwnUnsafe
theorem lifeTellsUpto_row_tie : Rows.lifeTellsUptoRow.laidByTextAt .later Tryd.pinned [.data, .funcsDeep] true :=
  OpenClaim.laidByTextAt_later rfl rfl tie noOwnUnsafe
theorem lifePlaysUpto_row_tie : Rows.lifePlaysUptoRow.laidByTextAt .later Tryd.pinned [.data, .funcsDeep] true :=
  OpenClaim.laidByTextAt_later rfl rfl tie noOwnUnsafe
theorem lifeRightUpto_row_tie : Rows.lifeRightUptoRow.laidByTextAt .later Tryd.pinned [.data, .funcsDeep] true :=
  OpenClaim.laidByTextAt_later rfl rfl tie noOwnUnsafe
theorem lifeClaimsUpto_row_tie : Rows.lifeClaimsUptoRow.laidByTextAt .later Tryd.pinned [.data, .funcsDeep] true :=
  OpenClaim.laidByTextAt_later rfl rfl tie noOwnUnsafe
theorem lifeSeqsUpto_row_tie : Rows.lifeSeqsUptoRow.laidByTextAt .later Tryd.pinned [.data, .funcsDeep] true :=
  OpenClaim.laidByTextAt_later rfl rfl tie noOwnUnsafe
theorem lifeWaysUpto_row_tie : Rows.lifeWaysUptoRow.laidByTextAt .later Tryd.pinned [.data, .funcsDeep] true :=
  OpenClaim.laidByTextAt_later rfl rfl tie noOwnUnsafe
theorem lifePartsUpto_row_tie : Rows.lifePartsUptoRow.laidByTextAt .later Tryd.pinned [.data, .funcsDeep] true :=
  OpenClaim.laidByTextAt_later rfl rfl tie noOwnUnsafe
end Go.Proofs.YtebmbegblnoeaaaDoor

/-
  DERIVED. GIVEN WITH THE SEED: THE CARDS: each row of YtebmbegblnoeaaaDoorRows.lean that lists a variable, with what it lists TIED to the program's text (the seventh form; the later family's looks); each row that meets fmt, with fmt's text TOLD by the authors' own Lean function (tested against real Go, not proved from fmt's source: count such statements apart). THE CARD IS WHAT COUNTS. Prove the row's statement (the work); the ties are given (YtebmbegblnoeaaaDoorTie.lean); close each card by the builder's one call (the guide's Derived/Test/ToyasCard.lean, 'card_holds'). Laid BY PROGRAM, IN A SANDBOX (cutbox-door.mjs). By AI agents, Wed Nov 11 2026. No macro, syntax, notation, axiom, sorry.
-/
import Derived.Test.YtebmbegblnoeaaaDoorRows
import GoSem.ClaimSeven
namespace Go.Proofs.YtebmbegblnoeaaaDoor
namespace Rows

/-- THE TIED CARD OF 'turnspitlaw07.LifeTells'. -/
def lifeTellsCard : Claim7 := { stood := { row := lifeTellsRow, standIns := [], harness := (true, "fa62eb5771785efe71db37aadd96232130f3912b3f772c565e6610863e020a04"), looks := false }, kinds := [], alts := [], laidByText := true, laidKinds := [.data, .funcsDeep], laidTests := true, laidLooks := .later }
def LifeTellsCardSaid : Prop := Claim7.holds Tryd.pinned (.plain (OpenSpec.ofChange lifeTellsSpec)) lifeTellsCard

/-- THE TIED CARD OF 'turnspitlaw07.LifePlays'. -/
def lifePlaysCard : Claim7 := { stood := { row := lifePlaysRow, standIns := [], harness := (true, "fa62eb5771785efe71db37aadd96232130f3912b3f772c565e6610863e020a04"), looks := false }, kinds := [], alts := [], laidByText := true, laidKinds := [.data, .funcsDeep], laidTests := true, laidLooks := .later }
def LifePlaysCardSaid : Prop := Claim7.holds Tryd.pinned (.plain (OpenSpec.ofChange lifePlaysSpec)) lifePlaysCard

/-- THE TIED CARD OF 'turnspitlaw07.LifeRight'. -/
def lifeRightCard : Claim7 := { stood := { row := lifeRightRow, standIns := [], harness := (true, "fa62eb5771785efe71db37aadd96232130f3912b3f772c565e6610863e020a04"), looks := false }, kinds := [], alts := [], laidByText := true, laidKinds := [.data, .funcsDeep], laidTests := true, laidLooks := .later }
def LifeRightCardSaid : Prop := Claim7.holds Tryd.pinned (.plain (OpenSpec.ofChange lifeRightSpec)) lifeRightCard

/-- THE TIED CARD OF 'turnspitlaw07.LifeClaims'. -/
def lifeClaimsCard : Claim7 := { stood := { row := lifeClaimsRow, standIns := [], harness := (true, "fa62eb5771785efe71db37aadd96232130f3912b3f772c565e6610863e020a04"), looks := false }, kinds := [], alts := [], laidByText := true, laidKinds := [.data, .funcsDeep], laidTests := true, laidLooks := .later }
def LifeClaimsCardSaid : Prop := Claim7.holds Tryd.pinned (.plain (OpenSpec.ofChange lifeClaimsSpec)) lifeClaimsCard

/-- THE TIED CARD OF 'turnspitlaw07.LifeSeqs'. -/
def lifeSeqsCard : Claim7 := { stood := { row := lifeSeqsRow, standIns := [], harness := (true, "fa62eb5771785efe71db37aadd96232130f3912b3f772c565e6610863e020a04"), looks := false }, kinds := [], alts := [], laidByText := true, laidKinds := [.data, .funcsDeep], laidTests := true, laidLooks := .later }
def LifeSeqsCardSaid : Prop := Claim7.holds Tryd.pinned (.plain (OpenSpec.ofChange lifeSeqsSpec)) lifeSeqsCard

/-- THE TIED CARD OF 'turnspitlaw07.LifeWays'. -/
def lifeWaysCard : Claim7 := { stood := { row := lifeWaysRow, standIns := [], harness := (true, "fa62eb5771785efe71db37aadd96232130f3912b3f772c565e6610863e020a04"), looks := false }, kinds := [], alts := [], laidByText := true, laidKinds := [.data, .funcsDeep], laidTests := true, laidLooks := .later }
def LifeWaysCardSaid : Prop := Claim7.holds Tryd.pinned (.plain (OpenSpec.ofChange lifeWaysSpec)) lifeWaysCard

/-- THE TIED CARD OF 'turnspitlaw07.LifeParts'. -/
def lifePartsCard : Claim7 := { stood := { row := lifePartsRow, standIns := [], harness := (true, "fa62eb5771785efe71db37aadd96232130f3912b3f772c565e6610863e020a04"), looks := false }, kinds := [], alts := [], laidByText := true, laidKinds := [.data, .funcsDeep], laidTests := true, laidLooks := .later }
def LifePartsCardSaid : Prop := Claim7.holds Tryd.pinned (.plain (OpenSpec.ofChange lifePartsSpec)) lifePartsCard

/-- THE SECOND FORM's CARD OF 'turnspitlaw07.LifeTells'. -/
def lifeTellsUptoCard : Claim7 := { stood := { row := lifeTellsUptoRow, standIns := [], harness := (true, "fa62eb5771785efe71db37aadd96232130f3912b3f772c565e6610863e020a04"), looks := false }, kinds := [], alts := [], laidByText := true, laidKinds := [.data, .funcsDeep], laidTests := true, laidLooks := .later }
def LifeTellsUptoCardSaid : Prop := Claim7.holds Tryd.pinned (.plain (OpenSpec.upto lifeTellsSpec)) lifeTellsUptoCard

/-- THE SECOND FORM's CARD OF 'turnspitlaw07.LifePlays'. -/
def lifePlaysUptoCard : Claim7 := { stood := { row := lifePlaysUptoRow, standIns := [], harness := (true, "fa62eb5771785efe71db37aadd96232130f3912b3f772c565e6610863e020a04"), looks := false }, kinds := [], alts := [], laidByText := true, laidKinds := [.data, .funcsDeep], laidTests := true, laidLooks := .later }
def LifePlaysUptoCardSaid : Prop := Claim7.holds Tryd.pinned (.plain (OpenSpec.upto lifePlaysSpec)) lifePlaysUptoCard

/-- THE SECOND FORM's CARD OF 'turnspitlaw07.LifeRight'. -/
def lifeRightUptoCard : Claim7 := { stood := { row := lifeRightUptoRow, standIns := [], harness := (true, "fa62eb5771785efe71db37aadd96232130f3912b3f772c565e6610863e020a04"), looks := false }, kinds := [], alts := [], laidByText := true, laidKinds := [.data, .funcsDeep], laidTests := true, laidLooks := .later }
def LifeRightUptoCardSaid : Prop := Claim7.holds Tryd.pinned (.plain (OpenSpec.upto lifeRightSpec)) lifeRightUptoCard

/-- THE SECOND FORM's CARD OF 'turnspitlaw07.LifeClaims'. -/
def lifeClaimsUptoCard : Claim7 := { stood := { row := lifeClaimsUptoRow, standIns := [], harness := (true, "fa62eb5771785efe71db37aadd96232130f3912b3f772c565e6610863e020a04"), looks := false }, kinds := [], alts := [], laidByText := true, laidKinds := [.data, .funcsDeep], laidTests := true, laidLooks := .later }
def LifeClaimsUptoCardSaid : Prop := Claim7.holds Tryd.pinned (.plain (OpenSpec.upto lifeClaimsSpec)) lifeClaimsUptoCard

/-- THE SECOND FORM's CARD OF 'turnspitlaw07.LifeSeqs'. -/
def lifeSeqsUptoCard : Claim7 := { stood := { row := lifeSeqsUptoRow, standIns := [], harness := (true, "fa62eb5771785efe71db37aadd96232130f3912b3f772c565e6610863e020a04"), looks := false }, kinds := [], alts := [], laidByText := true, laidKinds := [.data, .funcsDeep], laidTests := true, laidLooks := .later }
def LifeSeqsUptoCardSaid : Prop := Claim7.holds Tryd.pinned (.plain (OpenSpec.upto lifeSeqsSpec)) lifeSeqsUptoCard

/-- THE SECOND FORM's CARD OF 'turnspitlaw07.LifeWays'. -/
def lifeWaysUptoCard : Claim7 := { stood := { row := lifeWaysUptoRow, standIns := [], harness := (true, "fa62eb5771785efe71db37aadd96232130f3912b3f772c565e6610863e020a04"), looks := false }, kinds := [], alts := [], laidByText := true, laidKinds := [.data, .funcsDeep], laidTests := true, laidLooks := .later }
def LifeWaysUptoCardSaid : Prop := Claim7.holds Tryd.pinned (.plain (OpenSpec.upto lifeWaysSpec)) lifeWaysUptoCard

/-- THE SECOND FORM's CARD OF 'turnspitlaw07.LifeParts'. -/
def lifePartsUptoCard : Claim7 := { stood := { row := lifePartsUptoRow, standIns := [], harness := (true, "fa62eb5771785efe71db37aadd96232130f3912b3f772c565e6610863e020a04"), looks := false }, kinds := [], alts := [], laidByText := true, laidKinds := [.data, .funcsDeep], laidTests := true, laidLooks := .later }
def LifePartsUptoCardSaid : Prop := Claim7.holds Tryd.pinned (.plain (OpenSpec.upto lifePartsSpec)) lifePartsUptoCard
end Rows
end Go.Proofs.YtebmbegblnoeaaaDoor

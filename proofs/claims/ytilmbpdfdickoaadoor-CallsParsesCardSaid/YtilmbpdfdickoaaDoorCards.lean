/-
  DERIVED. GIVEN WITH THE SEED: THE CARDS: each row of YtilmbpdfdickoaaDoorRows.lean that lists a variable, with what it lists TIED to the program's text (the seventh form; the later family's looks); each row that meets fmt, with fmt's text TOLD by the authors' own Lean function (tested against real Go, not proved from fmt's source: count such statements apart). THE CARD IS WHAT COUNTS. Prove the row's statement (the work); the ties are given (YtilmbpdfdickoaaDoorTie.lean); close each card by the builder's one call (the guide's Derived/Test/ToyasCard.lean, 'card_holds'). Laid BY PROGRAM, IN A SANDBOX (cutbox-door.mjs). By AI agents, Wed Nov 11 2026. No macro, syntax, notation, axiom, sorry.
-/
import Derived.Test.YtilmbpdfdickoaaDoorRows
import GoSem.ClaimSeven
namespace Go.Proofs.YtilmbpdfdickoaaDoor
namespace Rows

/-- THE TIED CARD OF 'turnspitlaw15.CallsPrints'. -/
def callsPrintsCard : Claim7 := { stood := { row := callsPrintsRow, standIns := [], harness := (true, "9df4d44d0754630fb096ccd91218ff05d733b6757ea5f1f44deea83c40031da3"), looks := true }, kinds := [], alts := [], laidByText := true, laidKinds := [.data, .data, .data, .data, .sentinel, .sentinel, .funcs, .data, .pinned], laidTests := true, laidLooks := .later }
def CallsPrintsCardSaid : Prop := Claim7.holds Tryd.pinned (.plain (OpenSpec.ofChange callsPrintsSpec)) callsPrintsCard

/-- THE TIED CARD OF 'turnspitlaw15.CallsParses'. -/
def callsParsesCard : Claim7 := { stood := { row := callsParsesRow, standIns := [], harness := (true, "9df4d44d0754630fb096ccd91218ff05d733b6757ea5f1f44deea83c40031da3"), looks := true }, kinds := [], alts := [], laidByText := true, laidKinds := [.data, .data, .data, .data, .sentinel, .sentinel, .funcs, .data, .pinned], laidTests := true, laidLooks := .later }
def CallsParsesCardSaid : Prop := Claim7.holds Tryd.pinned (.plain (OpenSpec.ofChange callsParsesSpec)) callsParsesCard

/-- THE TIED CARD OF 'turnspitlaw15.CallsAnswers'. -/
def callsAnswersCard : Claim7 := { stood := { row := callsAnswersRow, standIns := [], harness := (true, "9df4d44d0754630fb096ccd91218ff05d733b6757ea5f1f44deea83c40031da3"), looks := true }, kinds := [], alts := [], laidByText := true, laidKinds := [.data, .data, .data, .data, .sentinel, .sentinel, .funcs, .data, .pinned], laidTests := true, laidLooks := .later }
def CallsAnswersCardSaid : Prop := Claim7.holds Tryd.pinned (.plain (OpenSpec.ofChange callsAnswersSpec)) callsAnswersCard

/-- THE TIED CARD OF 'turnspitlaw15.CallsBack'. -/
def callsBackCard : Claim7 := { stood := { row := callsBackRow, standIns := [], harness := (true, "9df4d44d0754630fb096ccd91218ff05d733b6757ea5f1f44deea83c40031da3"), looks := true }, kinds := [], alts := [], laidByText := true, laidKinds := [.data, .data, .data, .data, .sentinel, .sentinel, .funcs, .data, .pinned], laidTests := true, laidLooks := .later }
def CallsBackCardSaid : Prop := Claim7.holds Tryd.pinned (.plain (OpenSpec.ofChange callsBackSpec)) callsBackCard

/-- THE TIED CARD OF 'turnspitlaw15.CallsOnly'. -/
def callsOnlyCard : Claim7 := { stood := { row := callsOnlyRow, standIns := [], harness := (true, "9df4d44d0754630fb096ccd91218ff05d733b6757ea5f1f44deea83c40031da3"), looks := true }, kinds := [], alts := [], laidByText := true, laidKinds := [.data, .data, .data, .data, .sentinel, .sentinel, .funcs, .data, .pinned], laidTests := true, laidLooks := .later }
def CallsOnlyCardSaid : Prop := Claim7.holds Tryd.pinned (.plain (OpenSpec.ofChange callsOnlySpec)) callsOnlyCard

/-- THE TIED CARD OF 'turnspitlaw15.CallsMade'. -/
def callsMadeCard : Claim7 := { stood := { row := callsMadeRow, standIns := [], harness := (true, "9df4d44d0754630fb096ccd91218ff05d733b6757ea5f1f44deea83c40031da3"), looks := true }, kinds := [], alts := [], laidByText := true, laidKinds := [.data, .data, .data, .data, .sentinel, .sentinel, .funcs, .data, .pinned], laidTests := true, laidLooks := .later }
def CallsMadeCardSaid : Prop := Claim7.holds Tryd.pinned (.plain (OpenSpec.ofChange callsMadeSpec)) callsMadeCard

/-- THE TIED CARD OF 'turnspitlaw15.CallsApart'. -/
def callsApartCard : Claim7 := { stood := { row := callsApartRow, standIns := [], harness := (true, "9df4d44d0754630fb096ccd91218ff05d733b6757ea5f1f44deea83c40031da3"), looks := true }, kinds := [], alts := [], laidByText := true, laidKinds := [.data, .data, .data, .data, .sentinel, .sentinel, .funcs, .data, .pinned], laidTests := true, laidLooks := .later }
def CallsApartCardSaid : Prop := Claim7.holds Tryd.pinned (.plain (OpenSpec.ofChange callsApartSpec)) callsApartCard

/-- THE SECOND FORM's CARD OF 'turnspitlaw15.CallsPrints'. -/
def callsPrintsUptoCard : Claim7 := { stood := { row := callsPrintsUptoRow, standIns := [], harness := (true, "9df4d44d0754630fb096ccd91218ff05d733b6757ea5f1f44deea83c40031da3"), looks := true }, kinds := [], alts := [], laidByText := true, laidKinds := [.data, .data, .data, .data, .sentinel, .sentinel, .funcs, .data, .pinned], laidTests := true, laidLooks := .later }
def CallsPrintsUptoCardSaid : Prop := Claim7.holds Tryd.pinned (.plain (OpenSpec.upto callsPrintsSpec)) callsPrintsUptoCard

/-- THE SECOND FORM's CARD OF 'turnspitlaw15.CallsParses'. -/
def callsParsesUptoCard : Claim7 := { stood := { row := callsParsesUptoRow, standIns := [], harness := (true, "9df4d44d0754630fb096ccd91218ff05d733b6757ea5f1f44deea83c40031da3"), looks := true }, kinds := [], alts := [], laidByText := true, laidKinds := [.data, .data, .data, .data, .sentinel, .sentinel, .funcs, .data, .pinned], laidTests := true, laidLooks := .later }
def CallsParsesUptoCardSaid : Prop := Claim7.holds Tryd.pinned (.plain (OpenSpec.upto callsParsesSpec)) callsParsesUptoCard

/-- THE SECOND FORM's CARD OF 'turnspitlaw15.CallsAnswers'. -/
def callsAnswersUptoCard : Claim7 := { stood := { row := callsAnswersUptoRow, standIns := [], harness := (true, "9df4d44d0754630fb096ccd91218ff05d733b6757ea5f1f44deea83c40031da3"), looks := true }, kinds := [], alts := [], laidByText := true, laidKinds := [.data, .data, .data, .data, .sentinel, .sentinel, .funcs, .data, .pinned], laidTests := true, laidLooks := .later }
def CallsAnswersUptoCardSaid : Prop := Claim7.holds Tryd.pinned (.plain (OpenSpec.upto callsAnswersSpec)) callsAnswersUptoCard

/-- THE SECOND FORM's CARD OF 'turnspitlaw15.CallsBack'. -/
def callsBackUptoCard : Claim7 := { stood := { row := callsBackUptoRow, standIns := [], harness := (true, "9df4d44d0754630fb096ccd91218ff05d733b6757ea5f1f44deea83c40031da3"), looks := true }, kinds := [], alts := [], laidByText := true, laidKinds := [.data, .data, .data, .data, .sentinel, .sentinel, .funcs, .data, .pinned], laidTests := true, laidLooks := .later }
def CallsBackUptoCardSaid : Prop := Claim7.holds Tryd.pinned (.plain (OpenSpec.upto callsBackSpec)) callsBackUptoCard

/-- THE SECOND FORM's CARD OF 'turnspitlaw15.CallsOnly'. -/
def callsOnlyUptoCard : Claim7 := { stood := { row := callsOnlyUptoRow, standIns := [], harness := (true, "9df4d44d0754630fb096ccd91218ff05d733b6757ea5f1f44deea83c40031da3"), looks := true }, kinds := [], alts := [], laidByText := true, laidKinds := [.data, .data, .data, .data, .sentinel, .sentinel, .funcs, .data, .pinned], laidTests := true, laidLooks := .later }
def CallsOnlyUptoCardSaid : Prop := Claim7.holds Tryd.pinned (.plain (OpenSpec.upto callsOnlySpec)) callsOnlyUptoCard

/-- THE SECOND FORM's CARD OF 'turnspitlaw15.CallsMade'. -/
def callsMadeUptoCard : Claim7 := { stood := { row := callsMadeUptoRow, standIns := [], harness := (true, "9df4d44d0754630fb096ccd91218ff05d733b6757ea5f1f44deea83c40031da3"), looks := true }, kinds := [], alts := [], laidByText := true, laidKinds := [.data, .data, .data, .data, .sentinel, .sentinel, .funcs, .data, .pinned], laidTests := true, laidLooks := .later }
def CallsMadeUptoCardSaid : Prop := Claim7.holds Tryd.pinned (.plain (OpenSpec.upto callsMadeSpec)) callsMadeUptoCard

/-- THE SECOND FORM's CARD OF 'turnspitlaw15.CallsApart'. -/
def callsApartUptoCard : Claim7 := { stood := { row := callsApartUptoRow, standIns := [], harness := (true, "9df4d44d0754630fb096ccd91218ff05d733b6757ea5f1f44deea83c40031da3"), looks := true }, kinds := [], alts := [], laidByText := true, laidKinds := [.data, .data, .data, .data, .sentinel, .sentinel, .funcs, .data, .pinned], laidTests := true, laidLooks := .later }
def CallsApartUptoCardSaid : Prop := Claim7.holds Tryd.pinned (.plain (OpenSpec.upto callsApartSpec)) callsApartUptoCard
end Rows
end Go.Proofs.YtilmbpdfdickoaaDoor

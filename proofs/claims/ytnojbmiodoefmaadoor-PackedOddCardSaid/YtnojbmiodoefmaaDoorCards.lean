/-
  DERIVED. GIVEN WITH THE SEED: THE CARDS: each row of YtnojbmiodoefmaaDoorRows.lean that lists a variable, with what it lists TIED to the program's text (the seventh form; the later family's looks); each row that meets fmt, with fmt's text TOLD by the authors' own Lean function (tested against real Go, not proved from fmt's source: count such statements apart). THE CARD IS WHAT COUNTS. Prove the row's statement (the work); the ties are given (YtnojbmiodoefmaaDoorTie.lean); close each card by the builder's one call (the guide's Derived/Test/ToyasCard.lean, 'card_holds'). Laid BY PROGRAM, IN A SANDBOX (cutbox-door.mjs). By AI agents, Wed Nov 11 2026. No macro, syntax, notation, axiom, sorry.
-/
import Derived.Test.YtnojbmiodoefmaaDoorRows
import GoSem.ClaimSeven
namespace Go.Proofs.YtnojbmiodoefmaaDoor
namespace Rows

/-- THE TIED CARD OF 'turnspitlaw06.PackedPacks'. -/
def packedPacksCard : Claim7 := { stood := { row := packedPacksRow, standIns := [], harness := (true, "d0168925b1735de2650ec748dc8930d7d6aac388d946644ef3f9c1bd31ec5b65"), looks := false }, kinds := [], alts := [], laidByText := true, laidKinds := [.data], laidTests := true, laidLooks := .later }
def PackedPacksCardSaid : Prop := Claim7.holds Tryd.pinned (.plain (OpenSpec.ofChange packedPacksSpec)) packedPacksCard

/-- THE TIED CARD OF 'turnspitlaw06.PackedOpens'. -/
def packedOpensCard : Claim7 := { stood := { row := packedOpensRow, standIns := [], harness := (true, "d0168925b1735de2650ec748dc8930d7d6aac388d946644ef3f9c1bd31ec5b65"), looks := false }, kinds := [], alts := [], laidByText := true, laidKinds := [.data], laidTests := true, laidLooks := .later }
def PackedOpensCardSaid : Prop := Claim7.holds Tryd.pinned (.plain (OpenSpec.ofChange packedOpensSpec)) packedOpensCard

/-- THE TIED CARD OF 'turnspitlaw06.PackedPuts'. -/
def packedPutsCard : Claim7 := { stood := { row := packedPutsRow, standIns := [], harness := (true, "d0168925b1735de2650ec748dc8930d7d6aac388d946644ef3f9c1bd31ec5b65"), looks := false }, kinds := [], alts := [], laidByText := true, laidKinds := [.data], laidTests := true, laidLooks := .later }
def PackedPutsCardSaid : Prop := Claim7.holds Tryd.pinned (.plain (OpenSpec.ofChange packedPutsSpec)) packedPutsCard

/-- THE TIED CARD OF 'turnspitlaw06.PackedBack'. -/
def packedBackCard : Claim7 := { stood := { row := packedBackRow, standIns := [], harness := (true, "d0168925b1735de2650ec748dc8930d7d6aac388d946644ef3f9c1bd31ec5b65"), looks := false }, kinds := [], alts := [], laidByText := true, laidKinds := [.data], laidTests := true, laidLooks := .later }
def PackedBackCardSaid : Prop := Claim7.holds Tryd.pinned (.plain (OpenSpec.ofChange packedBackSpec)) packedBackCard

/-- THE TIED CARD OF 'turnspitlaw06.PackedMade'. -/
def packedMadeCard : Claim7 := { stood := { row := packedMadeRow, standIns := [], harness := (true, "d0168925b1735de2650ec748dc8930d7d6aac388d946644ef3f9c1bd31ec5b65"), looks := false }, kinds := [], alts := [], laidByText := true, laidKinds := [.data], laidTests := true, laidLooks := .later }
def PackedMadeCardSaid : Prop := Claim7.holds Tryd.pinned (.plain (OpenSpec.ofChange packedMadeSpec)) packedMadeCard

/-- THE TIED CARD OF 'turnspitlaw06.PackedApart'. -/
def packedApartCard : Claim7 := { stood := { row := packedApartRow, standIns := [], harness := (true, "d0168925b1735de2650ec748dc8930d7d6aac388d946644ef3f9c1bd31ec5b65"), looks := false }, kinds := [], alts := [], laidByText := true, laidKinds := [.data], laidTests := true, laidLooks := .later }
def PackedApartCardSaid : Prop := Claim7.holds Tryd.pinned (.plain (OpenSpec.ofChange packedApartSpec)) packedApartCard

/-- THE TIED CARD OF 'turnspitlaw06.PackedOdd'. -/
def packedOddCard : Claim7 := { stood := { row := packedOddRow, standIns := [], harness := (true, "d0168925b1735de2650ec748dc8930d7d6aac388d946644ef3f9c1bd31ec5b65"), looks := false }, kinds := [], alts := [], laidByText := true, laidKinds := [.data], laidTests := true, laidLooks := .later }
def PackedOddCardSaid : Prop := Claim7.holds Tryd.pinned (.plain (OpenSpec.ofChange packedOddSpec)) packedOddCard

/-- THE SECOND FORM's CARD OF 'turnspitlaw06.PackedPacks'. -/
def packedPacksUptoCard : Claim7 := { stood := { row := packedPacksUptoRow, standIns := [], harness := (true, "d0168925b1735de2650ec748dc8930d7d6aac388d946644ef3f9c1bd31ec5b65"), looks := false }, kinds := [], alts := [], laidByText := true, laidKinds := [.data], laidTests := true, laidLooks := .later }
def PackedPacksUptoCardSaid : Prop := Claim7.holds Tryd.pinned (.plain (OpenSpec.upto packedPacksSpec)) packedPacksUptoCard

/-- THE SECOND FORM's CARD OF 'turnspitlaw06.PackedOpens'. -/
def packedOpensUptoCard : Claim7 := { stood := { row := packedOpensUptoRow, standIns := [], harness := (true, "d0168925b1735de2650ec748dc8930d7d6aac388d946644ef3f9c1bd31ec5b65"), looks := false }, kinds := [], alts := [], laidByText := true, laidKinds := [.data], laidTests := true, laidLooks := .later }
def PackedOpensUptoCardSaid : Prop := Claim7.holds Tryd.pinned (.plain (OpenSpec.upto packedOpensSpec)) packedOpensUptoCard

/-- THE SECOND FORM's CARD OF 'turnspitlaw06.PackedPuts'. -/
def packedPutsUptoCard : Claim7 := { stood := { row := packedPutsUptoRow, standIns := [], harness := (true, "d0168925b1735de2650ec748dc8930d7d6aac388d946644ef3f9c1bd31ec5b65"), looks := false }, kinds := [], alts := [], laidByText := true, laidKinds := [.data], laidTests := true, laidLooks := .later }
def PackedPutsUptoCardSaid : Prop := Claim7.holds Tryd.pinned (.plain (OpenSpec.upto packedPutsSpec)) packedPutsUptoCard

/-- THE SECOND FORM's CARD OF 'turnspitlaw06.PackedBack'. -/
def packedBackUptoCard : Claim7 := { stood := { row := packedBackUptoRow, standIns := [], harness := (true, "d0168925b1735de2650ec748dc8930d7d6aac388d946644ef3f9c1bd31ec5b65"), looks := false }, kinds := [], alts := [], laidByText := true, laidKinds := [.data], laidTests := true, laidLooks := .later }
def PackedBackUptoCardSaid : Prop := Claim7.holds Tryd.pinned (.plain (OpenSpec.upto packedBackSpec)) packedBackUptoCard

/-- THE SECOND FORM's CARD OF 'turnspitlaw06.PackedMade'. -/
def packedMadeUptoCard : Claim7 := { stood := { row := packedMadeUptoRow, standIns := [], harness := (true, "d0168925b1735de2650ec748dc8930d7d6aac388d946644ef3f9c1bd31ec5b65"), looks := false }, kinds := [], alts := [], laidByText := true, laidKinds := [.data], laidTests := true, laidLooks := .later }
def PackedMadeUptoCardSaid : Prop := Claim7.holds Tryd.pinned (.plain (OpenSpec.upto packedMadeSpec)) packedMadeUptoCard

/-- THE SECOND FORM's CARD OF 'turnspitlaw06.PackedApart'. -/
def packedApartUptoCard : Claim7 := { stood := { row := packedApartUptoRow, standIns := [], harness := (true, "d0168925b1735de2650ec748dc8930d7d6aac388d946644ef3f9c1bd31ec5b65"), looks := false }, kinds := [], alts := [], laidByText := true, laidKinds := [.data], laidTests := true, laidLooks := .later }
def PackedApartUptoCardSaid : Prop := Claim7.holds Tryd.pinned (.plain (OpenSpec.upto packedApartSpec)) packedApartUptoCard

/-- THE SECOND FORM's CARD OF 'turnspitlaw06.PackedOdd'. -/
def packedOddUptoCard : Claim7 := { stood := { row := packedOddUptoRow, standIns := [], harness := (true, "d0168925b1735de2650ec748dc8930d7d6aac388d946644ef3f9c1bd31ec5b65"), looks := false }, kinds := [], alts := [], laidByText := true, laidKinds := [.data], laidTests := true, laidLooks := .later }
def PackedOddUptoCardSaid : Prop := Claim7.holds Tryd.pinned (.plain (OpenSpec.upto packedOddSpec)) packedOddUptoCard
end Rows
end Go.Proofs.YtnojbmiodoefmaaDoor

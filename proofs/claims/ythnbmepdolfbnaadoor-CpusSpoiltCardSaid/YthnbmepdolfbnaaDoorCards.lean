/-
  DERIVED. GIVEN WITH THE SEED: THE CARDS: each row of YthnbmepdolfbnaaDoorRows.lean that lists a variable, with what it lists TIED to the program's text (the seventh form; the later family's looks); each row that meets fmt, with fmt's text TOLD by the authors' own Lean function (tested against real Go, not proved from fmt's source: count such statements apart). THE CARD IS WHAT COUNTS. Prove the row's statement (the work); the ties are given (YthnbmepdolfbnaaDoorTie.lean); close each card by the builder's one call (the guide's Derived/Test/ToyasCard.lean, 'card_holds'). Laid BY PROGRAM, IN A SANDBOX (cutbox-door.mjs). By AI agents, Wed Nov 11 2026. No macro, syntax, notation, axiom, sorry.
-/
import Derived.Test.YthnbmepdolfbnaaDoorRows
import GoSem.ClaimSeven
namespace Go.Proofs.YthnbmepdolfbnaaDoor
namespace Rows

/-- THE TIED CARD OF 'turnspitlaw05.CpusPrints'. -/
def cpusPrintsCard : Claim7 := { stood := { row := cpusPrintsRow, standIns := [], harness := (true, "7491e61bc9cf6149e00a7539c0e9c346c0bed1ef93d6ee4d08daddeb8b70b4d9"), looks := false }, kinds := [], alts := [], laidByText := true, laidKinds := [.data, .data, .data], laidTests := true, laidLooks := .later }
def CpusPrintsCardSaid : Prop := Claim7.holds Tryd.pinned (.plain (OpenSpec.ofChange cpusPrintsSpec)) cpusPrintsCard

/-- THE TIED CARD OF 'turnspitlaw05.CpusParses'. -/
def cpusParsesCard : Claim7 := { stood := { row := cpusParsesRow, standIns := [], harness := (true, "7491e61bc9cf6149e00a7539c0e9c346c0bed1ef93d6ee4d08daddeb8b70b4d9"), looks := false }, kinds := [], alts := [], laidByText := true, laidKinds := [.data, .data, .data], laidTests := true, laidLooks := .later }
def CpusParsesCardSaid : Prop := Claim7.holds Tryd.pinned (.plain (OpenSpec.ofChange cpusParsesSpec)) cpusParsesCard

/-- THE TIED CARD OF 'turnspitlaw05.CpusCanon'. -/
def cpusCanonCard : Claim7 := { stood := { row := cpusCanonRow, standIns := [], harness := (true, "7491e61bc9cf6149e00a7539c0e9c346c0bed1ef93d6ee4d08daddeb8b70b4d9"), looks := false }, kinds := [], alts := [], laidByText := true, laidKinds := [.data, .data, .data], laidTests := true, laidLooks := .later }
def CpusCanonCardSaid : Prop := Claim7.holds Tryd.pinned (.plain (OpenSpec.ofChange cpusCanonSpec)) cpusCanonCard

/-- THE TIED CARD OF 'turnspitlaw05.CpusBoth'. -/
def cpusBothCard : Claim7 := { stood := { row := cpusBothRow, standIns := [], harness := (true, "7491e61bc9cf6149e00a7539c0e9c346c0bed1ef93d6ee4d08daddeb8b70b4d9"), looks := false }, kinds := [], alts := [], laidByText := true, laidKinds := [.data, .data, .data], laidTests := true, laidLooks := .later }
def CpusBothCardSaid : Prop := Claim7.holds Tryd.pinned (.plain (OpenSpec.ofChange cpusBothSpec)) cpusBothCard

/-- THE TIED CARD OF 'turnspitlaw05.CpusRuns'. -/
def cpusRunsCard : Claim7 := { stood := { row := cpusRunsRow, standIns := [], harness := (true, "7491e61bc9cf6149e00a7539c0e9c346c0bed1ef93d6ee4d08daddeb8b70b4d9"), looks := false }, kinds := [], alts := [], laidByText := true, laidKinds := [.data, .data, .data], laidTests := true, laidLooks := .later }
def CpusRunsCardSaid : Prop := Claim7.holds Tryd.pinned (.plain (OpenSpec.ofChange cpusRunsSpec)) cpusRunsCard

/-- THE TIED CARD OF 'turnspitlaw05.CpusApart'. -/
def cpusApartCard : Claim7 := { stood := { row := cpusApartRow, standIns := [], harness := (true, "7491e61bc9cf6149e00a7539c0e9c346c0bed1ef93d6ee4d08daddeb8b70b4d9"), looks := false }, kinds := [], alts := [], laidByText := true, laidKinds := [.data, .data, .data], laidTests := true, laidLooks := .later }
def CpusApartCardSaid : Prop := Claim7.holds Tryd.pinned (.plain (OpenSpec.ofChange cpusApartSpec)) cpusApartCard

/-- THE TIED CARD OF 'turnspitlaw05.CpusSpoilt'. -/
def cpusSpoiltCard : Claim7 := { stood := { row := cpusSpoiltRow, standIns := [], harness := (true, "7491e61bc9cf6149e00a7539c0e9c346c0bed1ef93d6ee4d08daddeb8b70b4d9"), looks := false }, kinds := [], alts := [], laidByText := true, laidKinds := [.data, .data, .data], laidTests := true, laidLooks := .later }
def CpusSpoiltCardSaid : Prop := Claim7.holds Tryd.pinned (.plain (OpenSpec.ofChange cpusSpoiltSpec)) cpusSpoiltCard

/-- THE SECOND FORM's CARD OF 'turnspitlaw05.CpusPrints'. -/
def cpusPrintsUptoCard : Claim7 := { stood := { row := cpusPrintsUptoRow, standIns := [], harness := (true, "7491e61bc9cf6149e00a7539c0e9c346c0bed1ef93d6ee4d08daddeb8b70b4d9"), looks := false }, kinds := [], alts := [], laidByText := true, laidKinds := [.data, .data, .data], laidTests := true, laidLooks := .later }
def CpusPrintsUptoCardSaid : Prop := Claim7.holds Tryd.pinned (.plain (OpenSpec.upto cpusPrintsSpec)) cpusPrintsUptoCard

/-- THE SECOND FORM's CARD OF 'turnspitlaw05.CpusParses'. -/
def cpusParsesUptoCard : Claim7 := { stood := { row := cpusParsesUptoRow, standIns := [], harness := (true, "7491e61bc9cf6149e00a7539c0e9c346c0bed1ef93d6ee4d08daddeb8b70b4d9"), looks := false }, kinds := [], alts := [], laidByText := true, laidKinds := [.data, .data, .data], laidTests := true, laidLooks := .later }
def CpusParsesUptoCardSaid : Prop := Claim7.holds Tryd.pinned (.plain (OpenSpec.upto cpusParsesSpec)) cpusParsesUptoCard

/-- THE SECOND FORM's CARD OF 'turnspitlaw05.CpusCanon'. -/
def cpusCanonUptoCard : Claim7 := { stood := { row := cpusCanonUptoRow, standIns := [], harness := (true, "7491e61bc9cf6149e00a7539c0e9c346c0bed1ef93d6ee4d08daddeb8b70b4d9"), looks := false }, kinds := [], alts := [], laidByText := true, laidKinds := [.data, .data, .data], laidTests := true, laidLooks := .later }
def CpusCanonUptoCardSaid : Prop := Claim7.holds Tryd.pinned (.plain (OpenSpec.upto cpusCanonSpec)) cpusCanonUptoCard

/-- THE SECOND FORM's CARD OF 'turnspitlaw05.CpusBoth'. -/
def cpusBothUptoCard : Claim7 := { stood := { row := cpusBothUptoRow, standIns := [], harness := (true, "7491e61bc9cf6149e00a7539c0e9c346c0bed1ef93d6ee4d08daddeb8b70b4d9"), looks := false }, kinds := [], alts := [], laidByText := true, laidKinds := [.data, .data, .data], laidTests := true, laidLooks := .later }
def CpusBothUptoCardSaid : Prop := Claim7.holds Tryd.pinned (.plain (OpenSpec.upto cpusBothSpec)) cpusBothUptoCard

/-- THE SECOND FORM's CARD OF 'turnspitlaw05.CpusRuns'. -/
def cpusRunsUptoCard : Claim7 := { stood := { row := cpusRunsUptoRow, standIns := [], harness := (true, "7491e61bc9cf6149e00a7539c0e9c346c0bed1ef93d6ee4d08daddeb8b70b4d9"), looks := false }, kinds := [], alts := [], laidByText := true, laidKinds := [.data, .data, .data], laidTests := true, laidLooks := .later }
def CpusRunsUptoCardSaid : Prop := Claim7.holds Tryd.pinned (.plain (OpenSpec.upto cpusRunsSpec)) cpusRunsUptoCard

/-- THE SECOND FORM's CARD OF 'turnspitlaw05.CpusApart'. -/
def cpusApartUptoCard : Claim7 := { stood := { row := cpusApartUptoRow, standIns := [], harness := (true, "7491e61bc9cf6149e00a7539c0e9c346c0bed1ef93d6ee4d08daddeb8b70b4d9"), looks := false }, kinds := [], alts := [], laidByText := true, laidKinds := [.data, .data, .data], laidTests := true, laidLooks := .later }
def CpusApartUptoCardSaid : Prop := Claim7.holds Tryd.pinned (.plain (OpenSpec.upto cpusApartSpec)) cpusApartUptoCard

/-- THE SECOND FORM's CARD OF 'turnspitlaw05.CpusSpoilt'. -/
def cpusSpoiltUptoCard : Claim7 := { stood := { row := cpusSpoiltUptoRow, standIns := [], harness := (true, "7491e61bc9cf6149e00a7539c0e9c346c0bed1ef93d6ee4d08daddeb8b70b4d9"), looks := false }, kinds := [], alts := [], laidByText := true, laidKinds := [.data, .data, .data], laidTests := true, laidLooks := .later }
def CpusSpoiltUptoCardSaid : Prop := Claim7.holds Tryd.pinned (.plain (OpenSpec.upto cpusSpoiltSpec)) cpusSpoiltUptoCard
end Rows
end Go.Proofs.YthnbmepdolfbnaaDoor

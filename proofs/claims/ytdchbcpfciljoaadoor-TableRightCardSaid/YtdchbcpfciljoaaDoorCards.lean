/-
  DERIVED. GIVEN WITH THE SEED: THE CARDS: each row of YtdchbcpfciljoaaDoorRows.lean that lists a variable, with what it lists TIED to the program's text (the seventh form; the later family's looks); each row that meets fmt, with fmt's text TOLD by the authors' own Lean function (tested against real Go, not proved from fmt's source: count such statements apart). THE CARD IS WHAT COUNTS. Prove the row's statement (the work); the ties are given (YtdchbcpfciljoaaDoorTie.lean); close each card by the builder's one call (the guide's Derived/Test/ToyasCard.lean, 'card_holds'). Laid BY PROGRAM, IN A SANDBOX (cutbox-door.mjs). By AI agents, Wed Nov 11 2026. No macro, syntax, notation, axiom, sorry.
-/
import Derived.Test.YtdchbcpfciljoaaDoorRows
import GoSem.ClaimSeven
namespace Go.Proofs.YtdchbcpfciljoaaDoor
namespace Rows

/-- THE TIED CARD OF 'turnspitlaw14.TableTells'. -/
def tableTellsCard : Claim7 := { stood := { row := tableTellsRow, standIns := [], harness := (true, "c3d74a8b43c3ee3cd578dbf39f5a01572ad9b28c6171566830d2480efe8cdbf8"), looks := true }, kinds := [], alts := [], laidByText := true, laidKinds := [.data, .funcsDeep], laidTests := true, laidLooks := .later }
def TableTellsCardSaid : Prop := Claim7.holds Tryd.pinned (.plain (OpenSpec.ofChange tableTellsSpec)) tableTellsCard

/-- THE TIED CARD OF 'turnspitlaw14.TableNew'. -/
def tableNewCard : Claim7 := { stood := { row := tableNewRow, standIns := [], harness := (true, "c3d74a8b43c3ee3cd578dbf39f5a01572ad9b28c6171566830d2480efe8cdbf8"), looks := true }, kinds := [], alts := [], laidByText := true, laidKinds := [.data, .funcsDeep], laidTests := true, laidLooks := .later }
def TableNewCardSaid : Prop := Claim7.holds Tryd.pinned (.plain (OpenSpec.ofChange tableNewSpec)) tableNewCard

/-- THE TIED CARD OF 'turnspitlaw14.TableMade'. -/
def tableMadeCard : Claim7 := { stood := { row := tableMadeRow, standIns := [], harness := (true, "c3d74a8b43c3ee3cd578dbf39f5a01572ad9b28c6171566830d2480efe8cdbf8"), looks := true }, kinds := [], alts := [], laidByText := true, laidKinds := [.data, .funcsDeep], laidTests := true, laidLooks := .later }
def TableMadeCardSaid : Prop := Claim7.holds Tryd.pinned (.plain (OpenSpec.ofChange tableMadeSpec)) tableMadeCard

/-- THE TIED CARD OF 'turnspitlaw14.TableRight'. -/
def tableRightCard : Claim7 := { stood := { row := tableRightRow, standIns := [], harness := (true, "c3d74a8b43c3ee3cd578dbf39f5a01572ad9b28c6171566830d2480efe8cdbf8"), looks := true }, kinds := [], alts := [], laidByText := true, laidKinds := [.data, .funcsDeep], laidTests := true, laidLooks := .later }
def TableRightCardSaid : Prop := Claim7.holds Tryd.pinned (.plain (OpenSpec.ofChange tableRightSpec)) tableRightCard

/-- THE TIED CARD OF 'turnspitlaw14.TableOnce'. -/
def tableOnceCard : Claim7 := { stood := { row := tableOnceRow, standIns := [], harness := (true, "c3d74a8b43c3ee3cd578dbf39f5a01572ad9b28c6171566830d2480efe8cdbf8"), looks := true }, kinds := [], alts := [], laidByText := true, laidKinds := [.data, .funcsDeep], laidTests := true, laidLooks := .later }
def TableOnceCardSaid : Prop := Claim7.holds Tryd.pinned (.plain (OpenSpec.ofChange tableOnceSpec)) tableOnceCard

/-- THE TIED CARD OF 'turnspitlaw14.TableKept'. -/
def tableKeptCard : Claim7 := { stood := { row := tableKeptRow, standIns := [], harness := (true, "c3d74a8b43c3ee3cd578dbf39f5a01572ad9b28c6171566830d2480efe8cdbf8"), looks := true }, kinds := [], alts := [], laidByText := true, laidKinds := [.data, .funcsDeep], laidTests := true, laidLooks := .later }
def TableKeptCardSaid : Prop := Claim7.holds Tryd.pinned (.plain (OpenSpec.ofChange tableKeptSpec)) tableKeptCard

/-- THE TIED CARD OF 'turnspitlaw14.TableFirst'. -/
def tableFirstCard : Claim7 := { stood := { row := tableFirstRow, standIns := [], harness := (true, "c3d74a8b43c3ee3cd578dbf39f5a01572ad9b28c6171566830d2480efe8cdbf8"), looks := true }, kinds := [], alts := [], laidByText := true, laidKinds := [.data, .funcsDeep], laidTests := true, laidLooks := .later }
def TableFirstCardSaid : Prop := Claim7.holds Tryd.pinned (.plain (OpenSpec.ofChange tableFirstSpec)) tableFirstCard

/-- THE SECOND FORM's CARD OF 'turnspitlaw14.TableTells'. -/
def tableTellsUptoCard : Claim7 := { stood := { row := tableTellsUptoRow, standIns := [], harness := (true, "c3d74a8b43c3ee3cd578dbf39f5a01572ad9b28c6171566830d2480efe8cdbf8"), looks := true }, kinds := [], alts := [], laidByText := true, laidKinds := [.data, .funcsDeep], laidTests := true, laidLooks := .later }
def TableTellsUptoCardSaid : Prop := Claim7.holds Tryd.pinned (.plain (OpenSpec.upto tableTellsSpec)) tableTellsUptoCard

/-- THE SECOND FORM's CARD OF 'turnspitlaw14.TableNew'. -/
def tableNewUptoCard : Claim7 := { stood := { row := tableNewUptoRow, standIns := [], harness := (true, "c3d74a8b43c3ee3cd578dbf39f5a01572ad9b28c6171566830d2480efe8cdbf8"), looks := true }, kinds := [], alts := [], laidByText := true, laidKinds := [.data, .funcsDeep], laidTests := true, laidLooks := .later }
def TableNewUptoCardSaid : Prop := Claim7.holds Tryd.pinned (.plain (OpenSpec.upto tableNewSpec)) tableNewUptoCard

/-- THE SECOND FORM's CARD OF 'turnspitlaw14.TableMade'. -/
def tableMadeUptoCard : Claim7 := { stood := { row := tableMadeUptoRow, standIns := [], harness := (true, "c3d74a8b43c3ee3cd578dbf39f5a01572ad9b28c6171566830d2480efe8cdbf8"), looks := true }, kinds := [], alts := [], laidByText := true, laidKinds := [.data, .funcsDeep], laidTests := true, laidLooks := .later }
def TableMadeUptoCardSaid : Prop := Claim7.holds Tryd.pinned (.plain (OpenSpec.upto tableMadeSpec)) tableMadeUptoCard

/-- THE SECOND FORM's CARD OF 'turnspitlaw14.TableRight'. -/
def tableRightUptoCard : Claim7 := { stood := { row := tableRightUptoRow, standIns := [], harness := (true, "c3d74a8b43c3ee3cd578dbf39f5a01572ad9b28c6171566830d2480efe8cdbf8"), looks := true }, kinds := [], alts := [], laidByText := true, laidKinds := [.data, .funcsDeep], laidTests := true, laidLooks := .later }
def TableRightUptoCardSaid : Prop := Claim7.holds Tryd.pinned (.plain (OpenSpec.upto tableRightSpec)) tableRightUptoCard

/-- THE SECOND FORM's CARD OF 'turnspitlaw14.TableOnce'. -/
def tableOnceUptoCard : Claim7 := { stood := { row := tableOnceUptoRow, standIns := [], harness := (true, "c3d74a8b43c3ee3cd578dbf39f5a01572ad9b28c6171566830d2480efe8cdbf8"), looks := true }, kinds := [], alts := [], laidByText := true, laidKinds := [.data, .funcsDeep], laidTests := true, laidLooks := .later }
def TableOnceUptoCardSaid : Prop := Claim7.holds Tryd.pinned (.plain (OpenSpec.upto tableOnceSpec)) tableOnceUptoCard

/-- THE SECOND FORM's CARD OF 'turnspitlaw14.TableKept'. -/
def tableKeptUptoCard : Claim7 := { stood := { row := tableKeptUptoRow, standIns := [], harness := (true, "c3d74a8b43c3ee3cd578dbf39f5a01572ad9b28c6171566830d2480efe8cdbf8"), looks := true }, kinds := [], alts := [], laidByText := true, laidKinds := [.data, .funcsDeep], laidTests := true, laidLooks := .later }
def TableKeptUptoCardSaid : Prop := Claim7.holds Tryd.pinned (.plain (OpenSpec.upto tableKeptSpec)) tableKeptUptoCard

/-- THE SECOND FORM's CARD OF 'turnspitlaw14.TableFirst'. -/
def tableFirstUptoCard : Claim7 := { stood := { row := tableFirstUptoRow, standIns := [], harness := (true, "c3d74a8b43c3ee3cd578dbf39f5a01572ad9b28c6171566830d2480efe8cdbf8"), looks := true }, kinds := [], alts := [], laidByText := true, laidKinds := [.data, .funcsDeep], laidTests := true, laidLooks := .later }
def TableFirstUptoCardSaid : Prop := Claim7.holds Tryd.pinned (.plain (OpenSpec.upto tableFirstSpec)) tableFirstUptoCard
end Rows
end Go.Proofs.YtdchbcpfciljoaaDoor

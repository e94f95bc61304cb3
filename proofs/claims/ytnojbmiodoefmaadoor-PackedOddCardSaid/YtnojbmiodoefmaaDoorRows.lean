/-
  NARROWER THAN 'FOR EVERY INPUT', by the rows' own cells (each row's printed sentence says how): PackedPacks: laid · PackedOpens: laid · PackedPuts: laid · PackedBack: laid · PackedMade: laid · PackedApart: laid · PackedOdd: laid.
  DERIVED. THE GIVEN ROWS OF THIS SEAT. 7 by the template 'for every input the law returns true; each argument reads behind the call as it read before'; 0 by the template 'total and deterministic' (their statements: YtnojbmiodoefmaaDoorTotals.lean).
  GIVEN WITH THE SEED: the statements are not yours to turn. If you find one false, say at which input.
  Laid BY PROGRAM, IN A SANDBOX (cutbox-rows.mjs): the forced cells as the released guide's own fill.sh prints them over the translation 4d5dbfadc885dab9… (all of the seat's roots in one cut). By AI agents, Wed Nov 11 2026. No macro, syntax, notation, axiom, sorry.
-/
import Derived.Test.YtnojbmiodoefmaaDoorChecked
import GoSem.Claim
import GoSem.ClaimJoined
import GoSem.ClaimMapViews
import Derived.JoinedTies
import Derived.KernelRfl
namespace Go.Proofs.YtnojbmiodoefmaaDoor
/- THE CELL 'sum', in the pinned program and in every row, IS THE sha256 OF THE DUMP (.gsa) THAT YtnojbmiodoefmaaDoorProg.lean LOADS. Nothing in Lean hashes anything: it is a label: what it is worth is what the hold of that sum in a sandbox is worth. -/
noncomputable def Tryd.pinned : Pinned := { name := "ytnojbmiodoefmaadoor", sum := "4d5dbfadc885dab93389edab196f3bc3e7a6471c368796fdbd9ac1fb2bbf1bf3", checked := Tryd.checked }
namespace Rows
def none {H : Type} : Left H := { results := [], args := [] }

/- WHAT THE LISTED PACKAGE-LEVEL VARIABLES READ AS WHEN THE CALL BEGINS. Each datum BY PROGRAM (the guide's laid-datum.mjs) off the statement by which the dump's own 'gosem.cut.vars' lays the variable. In a bare row this is a premise. The card (YtnojbmiodoefmaaDoorCards.lean) ties it to the program's text. -/
def laid_turnspit_packed_spans {H : Type} : DataW H := .agg [.agg [.lit (.int .i64 0), .lit (.int .i64 3)], .agg [.lit (.int .i64 3), .lit (.int .i64 9)], .agg [.lit (.int .i64 9), .lit (.int .i64 10)], .agg [.lit (.int .i64 10), .lit (.int .i64 26)], .agg [.lit (.int .i64 26), .lit (.int .i64 58)]]

/-- 'turnspitlaw06.PackedPacks': WHATEVER THE INPUT: true; the input reads as it did. -/
def packedPacksSpec : ChangeSpec := { name := "packedPacks", fn := fun _ => fun
  | [d] => { results := [.lit (.bool true)], args := [d] }
  | _ => none }
def packedPacksRow : OpenClaim := { program := "ytnojbmiodoefmaadoor", sum := "4d5dbfadc885dab93389edab196f3bc3e7a6471c368796fdbd9ac1fb2bbf1bf3", func := "turnspit/turnspitlaw06.PackedPacks", spec := "packedPacks", named := ["turnspit/packed.spans"], apart := false, laid := [("turnspit/packed.spans", laid_turnspit_packed_spans)] }
def PackedPacksSaid : Prop := packedPacksRow.holds Tryd.pinned (OpenSpec.ofChange packedPacksSpec)

/-- ITS FALSE NEIGHBOUR: 'it returns false'. Refute it at one input. -/
def packedPacksWrong : ChangeSpec := { name := "packedPacks", fn := fun _ => fun
  | [d] => { results := [.lit (.bool false)], args := [d] }
  | _ => none }
def PackedPacksWrongFalsely : Prop := packedPacksRow.holds Tryd.pinned (OpenSpec.ofChange packedPacksWrong)

/-- 'turnspitlaw06.PackedOpens': WHATEVER THE INPUT: true; the input reads as it did. -/
def packedOpensSpec : ChangeSpec := { name := "packedOpens", fn := fun _ => fun
  | [d] => { results := [.lit (.bool true)], args := [d] }
  | _ => none }
def packedOpensRow : OpenClaim := { program := "ytnojbmiodoefmaadoor", sum := "4d5dbfadc885dab93389edab196f3bc3e7a6471c368796fdbd9ac1fb2bbf1bf3", func := "turnspit/turnspitlaw06.PackedOpens", spec := "packedOpens", named := ["turnspit/packed.spans"], apart := false, laid := [("turnspit/packed.spans", laid_turnspit_packed_spans)] }
def PackedOpensSaid : Prop := packedOpensRow.holds Tryd.pinned (OpenSpec.ofChange packedOpensSpec)

/-- ITS FALSE NEIGHBOUR: 'it returns false'. Refute it at one input. -/
def packedOpensWrong : ChangeSpec := { name := "packedOpens", fn := fun _ => fun
  | [d] => { results := [.lit (.bool false)], args := [d] }
  | _ => none }
def PackedOpensWrongFalsely : Prop := packedOpensRow.holds Tryd.pinned (OpenSpec.ofChange packedOpensWrong)

/-- 'turnspitlaw06.PackedPuts': WHATEVER THE INPUT: true; the input reads as it did. -/
def packedPutsSpec : ChangeSpec := { name := "packedPuts", fn := fun _ => fun
  | [d1, d2, d3] => { results := [.lit (.bool true)], args := [d1, d2, d3] }
  | _ => none }
def packedPutsRow : OpenClaim := { program := "ytnojbmiodoefmaadoor", sum := "4d5dbfadc885dab93389edab196f3bc3e7a6471c368796fdbd9ac1fb2bbf1bf3", func := "turnspit/turnspitlaw06.PackedPuts", spec := "packedPuts", named := ["turnspit/packed.spans"], apart := false, laid := [("turnspit/packed.spans", laid_turnspit_packed_spans)] }
def PackedPutsSaid : Prop := packedPutsRow.holds Tryd.pinned (OpenSpec.ofChange packedPutsSpec)

/-- ITS FALSE NEIGHBOUR: 'it returns false'. Refute it at one input. -/
def packedPutsWrong : ChangeSpec := { name := "packedPuts", fn := fun _ => fun
  | [d1, d2, d3] => { results := [.lit (.bool false)], args := [d1, d2, d3] }
  | _ => none }
def PackedPutsWrongFalsely : Prop := packedPutsRow.holds Tryd.pinned (OpenSpec.ofChange packedPutsWrong)

/-- 'turnspitlaw06.PackedBack': WHATEVER THE INPUT: true; the input reads as it did. -/
def packedBackSpec : ChangeSpec := { name := "packedBack", fn := fun _ => fun
  | [d1, d2] => { results := [.lit (.bool true)], args := [d1, d2] }
  | _ => none }
def packedBackRow : OpenClaim := { program := "ytnojbmiodoefmaadoor", sum := "4d5dbfadc885dab93389edab196f3bc3e7a6471c368796fdbd9ac1fb2bbf1bf3", func := "turnspit/turnspitlaw06.PackedBack", spec := "packedBack", named := ["turnspit/packed.spans"], apart := false, laid := [("turnspit/packed.spans", laid_turnspit_packed_spans)] }
def PackedBackSaid : Prop := packedBackRow.holds Tryd.pinned (OpenSpec.ofChange packedBackSpec)

/-- ITS FALSE NEIGHBOUR: 'it returns false'. Refute it at one input. -/
def packedBackWrong : ChangeSpec := { name := "packedBack", fn := fun _ => fun
  | [d1, d2] => { results := [.lit (.bool false)], args := [d1, d2] }
  | _ => none }
def PackedBackWrongFalsely : Prop := packedBackRow.holds Tryd.pinned (OpenSpec.ofChange packedBackWrong)

/-- 'turnspitlaw06.PackedMade': WHATEVER THE INPUT: true; the input reads as it did. -/
def packedMadeSpec : ChangeSpec := { name := "packedMade", fn := fun _ => fun
  | [d1, d2, d3] => { results := [.lit (.bool true)], args := [d1, d2, d3] }
  | _ => none }
def packedMadeRow : OpenClaim := { program := "ytnojbmiodoefmaadoor", sum := "4d5dbfadc885dab93389edab196f3bc3e7a6471c368796fdbd9ac1fb2bbf1bf3", func := "turnspit/turnspitlaw06.PackedMade", spec := "packedMade", named := ["turnspit/packed.spans"], apart := false, laid := [("turnspit/packed.spans", laid_turnspit_packed_spans)] }
def PackedMadeSaid : Prop := packedMadeRow.holds Tryd.pinned (OpenSpec.ofChange packedMadeSpec)

/-- ITS FALSE NEIGHBOUR: 'it returns false'. Refute it at one input. -/
def packedMadeWrong : ChangeSpec := { name := "packedMade", fn := fun _ => fun
  | [d1, d2, d3] => { results := [.lit (.bool false)], args := [d1, d2, d3] }
  | _ => none }
def PackedMadeWrongFalsely : Prop := packedMadeRow.holds Tryd.pinned (OpenSpec.ofChange packedMadeWrong)

/-- 'turnspitlaw06.PackedApart': WHATEVER THE INPUT: true; the input reads as it did. -/
def packedApartSpec : ChangeSpec := { name := "packedApart", fn := fun _ => fun
  | [d1, d2, d3] => { results := [.lit (.bool true)], args := [d1, d2, d3] }
  | _ => none }
def packedApartRow : OpenClaim := { program := "ytnojbmiodoefmaadoor", sum := "4d5dbfadc885dab93389edab196f3bc3e7a6471c368796fdbd9ac1fb2bbf1bf3", func := "turnspit/turnspitlaw06.PackedApart", spec := "packedApart", named := ["turnspit/packed.spans"], apart := false, laid := [("turnspit/packed.spans", laid_turnspit_packed_spans)] }
def PackedApartSaid : Prop := packedApartRow.holds Tryd.pinned (OpenSpec.ofChange packedApartSpec)

/-- ITS FALSE NEIGHBOUR: 'it returns false'. Refute it at one input. -/
def packedApartWrong : ChangeSpec := { name := "packedApart", fn := fun _ => fun
  | [d1, d2, d3] => { results := [.lit (.bool false)], args := [d1, d2, d3] }
  | _ => none }
def PackedApartWrongFalsely : Prop := packedApartRow.holds Tryd.pinned (OpenSpec.ofChange packedApartWrong)

/-- 'turnspitlaw06.PackedOdd': WHATEVER THE INPUT: true; the input reads as it did. -/
def packedOddSpec : ChangeSpec := { name := "packedOdd", fn := fun _ => fun
  | [d1, d2, d3] => { results := [.lit (.bool true)], args := [d1, d2, d3] }
  | _ => none }
def packedOddRow : OpenClaim := { program := "ytnojbmiodoefmaadoor", sum := "4d5dbfadc885dab93389edab196f3bc3e7a6471c368796fdbd9ac1fb2bbf1bf3", func := "turnspit/turnspitlaw06.PackedOdd", spec := "packedOdd", named := ["turnspit/packed.spans"], apart := false, laid := [("turnspit/packed.spans", laid_turnspit_packed_spans)] }
def PackedOddSaid : Prop := packedOddRow.holds Tryd.pinned (OpenSpec.ofChange packedOddSpec)

/-- ITS FALSE NEIGHBOUR: 'it returns false'. Refute it at one input. -/
def packedOddWrong : ChangeSpec := { name := "packedOdd", fn := fun _ => fun
  | [d1, d2, d3] => { results := [.lit (.bool false)], args := [d1, d2, d3] }
  | _ => none }
def PackedOddWrongFalsely : Prop := packedOddRow.holds Tryd.pinned (OpenSpec.ofChange packedOddWrong)

/- THE SECOND FORM. 'bulk': how many values and letters a reading holds, each counted each time it is reached (what is shared counts as often as it is met; a slice's spare places count too). A statement '..UptoSaid' is the law's where the arguments, and the package variables that the reading takes, are together of bulk at most 1048576: NARROWER than '..Said'. Prove '..Said' where nothing that the law and all that it calls make is longer than what came in: it says more and counts as full. Else prove '..UptoSaid'. A law counts once. -/
mutual
def uptoBulk {H : Type} : DataW H → Nat
  | .lit (.string bytes) => bytes.length + 1
  | .lit _ => 1
  | .nil => 1
  | .ptr d => uptoBulk d + 1
  | .slice elems spare => uptoBulkAll elems + uptoBulkAll spare + 1
  | .agg parts => uptoBulkAll parts + 1
  | .iface _ d => uptoBulk d + 1
  | .map entries => uptoBulkEntries entries + 1
  | .held _ => 1
def uptoBulkAll {H : Type} : List (DataW H) → Nat
  | [] => 0
  | d :: r => uptoBulk d + uptoBulkAll r
def uptoBulkEntries {H : Type} : List (Lit × DataW H) → Nat
  | [] => 0
  | x :: r => uptoBulkEntry x + uptoBulkEntries r
def uptoBulkEntry {H : Type} : Lit × DataW H → Nat
  | (.string bytes, d) => bytes.length + uptoBulk d + 1
  | (_, d) => uptoBulk d + 1
 end
def uptoSmall : (H : Type) → List (DataW H) → Bool := fun _ ds => decide (uptoBulkAll ds ≤ 1048576)
def OpenSpec.upto (s : _root_.Go.ChangeSpec) : _root_.Go.OpenSpec := { _root_.Go.OpenSpec.ofChange s with cond := some uptoSmall }

/-- 'turnspitlaw06.PackedPacks', WHERE WHAT IT READS IS OF BULK AT MOST 1048576: true; the input reads as it did. -/
def packedPacksUptoRow : OpenClaim := { program := "ytnojbmiodoefmaadoor", sum := "4d5dbfadc885dab93389edab196f3bc3e7a6471c368796fdbd9ac1fb2bbf1bf3", func := "turnspit/turnspitlaw06.PackedPacks", spec := "packedPacks", named := ["turnspit/packed.spans"], apart := false, laid := [("turnspit/packed.spans", laid_turnspit_packed_spans)], narrowed := true }
def PackedPacksUptoSaid : Prop := packedPacksUptoRow.holds Tryd.pinned (OpenSpec.upto packedPacksSpec)

/-- 'turnspitlaw06.PackedOpens', WHERE WHAT IT READS IS OF BULK AT MOST 1048576: true; the input reads as it did. -/
def packedOpensUptoRow : OpenClaim := { program := "ytnojbmiodoefmaadoor", sum := "4d5dbfadc885dab93389edab196f3bc3e7a6471c368796fdbd9ac1fb2bbf1bf3", func := "turnspit/turnspitlaw06.PackedOpens", spec := "packedOpens", named := ["turnspit/packed.spans"], apart := false, laid := [("turnspit/packed.spans", laid_turnspit_packed_spans)], narrowed := true }
def PackedOpensUptoSaid : Prop := packedOpensUptoRow.holds Tryd.pinned (OpenSpec.upto packedOpensSpec)

/-- 'turnspitlaw06.PackedPuts', WHERE WHAT IT READS IS OF BULK AT MOST 1048576: true; the input reads as it did. -/
def packedPutsUptoRow : OpenClaim := { program := "ytnojbmiodoefmaadoor", sum := "4d5dbfadc885dab93389edab196f3bc3e7a6471c368796fdbd9ac1fb2bbf1bf3", func := "turnspit/turnspitlaw06.PackedPuts", spec := "packedPuts", named := ["turnspit/packed.spans"], apart := false, laid := [("turnspit/packed.spans", laid_turnspit_packed_spans)], narrowed := true }
def PackedPutsUptoSaid : Prop := packedPutsUptoRow.holds Tryd.pinned (OpenSpec.upto packedPutsSpec)

/-- 'turnspitlaw06.PackedBack', WHERE WHAT IT READS IS OF BULK AT MOST 1048576: true; the input reads as it did. -/
def packedBackUptoRow : OpenClaim := { program := "ytnojbmiodoefmaadoor", sum := "4d5dbfadc885dab93389edab196f3bc3e7a6471c368796fdbd9ac1fb2bbf1bf3", func := "turnspit/turnspitlaw06.PackedBack", spec := "packedBack", named := ["turnspit/packed.spans"], apart := false, laid := [("turnspit/packed.spans", laid_turnspit_packed_spans)], narrowed := true }
def PackedBackUptoSaid : Prop := packedBackUptoRow.holds Tryd.pinned (OpenSpec.upto packedBackSpec)

/-- 'turnspitlaw06.PackedMade', WHERE WHAT IT READS IS OF BULK AT MOST 1048576: true; the input reads as it did. -/
def packedMadeUptoRow : OpenClaim := { program := "ytnojbmiodoefmaadoor", sum := "4d5dbfadc885dab93389edab196f3bc3e7a6471c368796fdbd9ac1fb2bbf1bf3", func := "turnspit/turnspitlaw06.PackedMade", spec := "packedMade", named := ["turnspit/packed.spans"], apart := false, laid := [("turnspit/packed.spans", laid_turnspit_packed_spans)], narrowed := true }
def PackedMadeUptoSaid : Prop := packedMadeUptoRow.holds Tryd.pinned (OpenSpec.upto packedMadeSpec)

/-- 'turnspitlaw06.PackedApart', WHERE WHAT IT READS IS OF BULK AT MOST 1048576: true; the input reads as it did. -/
def packedApartUptoRow : OpenClaim := { program := "ytnojbmiodoefmaadoor", sum := "4d5dbfadc885dab93389edab196f3bc3e7a6471c368796fdbd9ac1fb2bbf1bf3", func := "turnspit/turnspitlaw06.PackedApart", spec := "packedApart", named := ["turnspit/packed.spans"], apart := false, laid := [("turnspit/packed.spans", laid_turnspit_packed_spans)], narrowed := true }
def PackedApartUptoSaid : Prop := packedApartUptoRow.holds Tryd.pinned (OpenSpec.upto packedApartSpec)

/-- 'turnspitlaw06.PackedOdd', WHERE WHAT IT READS IS OF BULK AT MOST 1048576: true; the input reads as it did. -/
def packedOddUptoRow : OpenClaim := { program := "ytnojbmiodoefmaadoor", sum := "4d5dbfadc885dab93389edab196f3bc3e7a6471c368796fdbd9ac1fb2bbf1bf3", func := "turnspit/turnspitlaw06.PackedOdd", spec := "packedOdd", named := ["turnspit/packed.spans"], apart := false, laid := [("turnspit/packed.spans", laid_turnspit_packed_spans)], narrowed := true }
def PackedOddUptoSaid : Prop := packedOddUptoRow.holds Tryd.pinned (OpenSpec.upto packedOddSpec)

end Rows
end Go.Proofs.YtnojbmiodoefmaaDoor

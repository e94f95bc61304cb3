/-
  No cell of these rows narrows 'for every input' (looked for: loops, veiled, ifaces, maps, wideKeys, modest, calm, conditions, laid).
  DERIVED. THE GIVEN ROWS OF THIS SEAT. 6 by the template 'for every input the law returns true; each argument reads behind the call as it read before'; 0 by the template 'total and deterministic' (their statements: YtkhdfbmkikiapaaTotals.lean).
  GIVEN WITH THE SEED: the statements are not yours to turn. If you find one false, say at which input.
  Laid BY PROGRAM, IN A SANDBOX (cutbox-rows.mjs): the forced cells as the released guide's own fill.sh prints them over the translation a4e61e31aa344b37… (all of the seat's roots in one cut). By AI agents, Wed Nov 11 2026. No macro, syntax, notation, axiom, sorry.
-/
import Derived.Test.YtkhdfbmkikiapaaChecked
import GoSem.Claim
import GoSem.ClaimJoined
import GoSem.ClaimMapViews
import Derived.JoinedTies
import Derived.KernelRfl
namespace Go.Proofs.Ytkhdfbmkikiapaa
/- THE CELL 'sum', in the pinned program and in every row, IS THE sha256 OF THE DUMP (.gsa) THAT YtkhdfbmkikiapaaProg.lean LOADS. Nothing in Lean hashes anything: it is a label: what it is worth is what the hold of that sum in a sandbox is worth. -/
noncomputable def Try.pinned : Pinned := { name := "ytkhdfbmkikiapaa", sum := "a4e61e31aa344b37edc3e1b395cdc84819354763ec722756746112be90e22841", checked := Try.checked }
namespace Rows
def none {H : Type} : Left H := { results := [], args := [] }

/-- 'turnspitlaw13.SpreadTells': WHATEVER THE INPUT: true; the input reads as it did. -/
def spreadTellsSpec : ChangeSpec := { name := "spreadTells", fn := fun _ => fun
  | [d] => { results := [.lit (.bool true)], args := [d] }
  | _ => none }
def spreadTellsRow : OpenClaim := { program := "ytkhdfbmkikiapaa", sum := "a4e61e31aa344b37edc3e1b395cdc84819354763ec722756746112be90e22841", func := "turnspit/turnspitlaw13.SpreadTells", spec := "spreadTells", unfollowed := true, recurses := true, apart := false }
def SpreadTellsSaid : Prop := spreadTellsRow.holds Try.pinned (OpenSpec.ofChange spreadTellsSpec)

/-- ITS FALSE NEIGHBOUR: 'it returns false'. Refute it at one input. -/
def spreadTellsWrong : ChangeSpec := { name := "spreadTells", fn := fun _ => fun
  | [d] => { results := [.lit (.bool false)], args := [d] }
  | _ => none }
def SpreadTellsWrongFalsely : Prop := spreadTellsRow.holds Try.pinned (OpenSpec.ofChange spreadTellsWrong)

/-- 'turnspitlaw13.SpreadLoads': WHATEVER THE INPUT: true; the input reads as it did. -/
def spreadLoadsSpec : ChangeSpec := { name := "spreadLoads", fn := fun _ => fun
  | [d1, d2] => { results := [.lit (.bool true)], args := [d1, d2] }
  | _ => none }
def spreadLoadsRow : OpenClaim := { program := "ytkhdfbmkikiapaa", sum := "a4e61e31aa344b37edc3e1b395cdc84819354763ec722756746112be90e22841", func := "turnspit/turnspitlaw13.SpreadLoads", spec := "spreadLoads", unfollowed := true, recurses := true, apart := false }
def SpreadLoadsSaid : Prop := spreadLoadsRow.holds Try.pinned (OpenSpec.ofChange spreadLoadsSpec)

/-- ITS FALSE NEIGHBOUR: 'it returns false'. Refute it at one input. -/
def spreadLoadsWrong : ChangeSpec := { name := "spreadLoads", fn := fun _ => fun
  | [d1, d2] => { results := [.lit (.bool false)], args := [d1, d2] }
  | _ => none }
def SpreadLoadsWrongFalsely : Prop := spreadLoadsRow.holds Try.pinned (OpenSpec.ofChange spreadLoadsWrong)

/-- 'turnspitlaw13.SpreadGains': WHATEVER THE INPUT: true; the input reads as it did. -/
def spreadGainsSpec : ChangeSpec := { name := "spreadGains", fn := fun _ => fun
  | [d1, d2, d3] => { results := [.lit (.bool true)], args := [d1, d2, d3] }
  | _ => none }
def spreadGainsRow : OpenClaim := { program := "ytkhdfbmkikiapaa", sum := "a4e61e31aa344b37edc3e1b395cdc84819354763ec722756746112be90e22841", func := "turnspit/turnspitlaw13.SpreadGains", spec := "spreadGains", unfollowed := true, recurses := true, apart := false }
def SpreadGainsSaid : Prop := spreadGainsRow.holds Try.pinned (OpenSpec.ofChange spreadGainsSpec)

/-- ITS FALSE NEIGHBOUR: 'it returns false'. Refute it at one input. -/
def spreadGainsWrong : ChangeSpec := { name := "spreadGains", fn := fun _ => fun
  | [d1, d2, d3] => { results := [.lit (.bool false)], args := [d1, d2, d3] }
  | _ => none }
def SpreadGainsWrongFalsely : Prop := spreadGainsRow.holds Try.pinned (OpenSpec.ofChange spreadGainsWrong)

/-- 'turnspitlaw13.SpreadDone': WHATEVER THE INPUT: true; the input reads as it did. -/
def spreadDoneSpec : ChangeSpec := { name := "spreadDone", fn := fun _ => fun
  | [d1, d2, d3] => { results := [.lit (.bool true)], args := [d1, d2, d3] }
  | _ => none }
def spreadDoneRow : OpenClaim := { program := "ytkhdfbmkikiapaa", sum := "a4e61e31aa344b37edc3e1b395cdc84819354763ec722756746112be90e22841", func := "turnspit/turnspitlaw13.SpreadDone", spec := "spreadDone", unfollowed := true, recurses := true, apart := false }
def SpreadDoneSaid : Prop := spreadDoneRow.holds Try.pinned (OpenSpec.ofChange spreadDoneSpec)

/-- ITS FALSE NEIGHBOUR: 'it returns false'. Refute it at one input. -/
def spreadDoneWrong : ChangeSpec := { name := "spreadDone", fn := fun _ => fun
  | [d1, d2, d3] => { results := [.lit (.bool false)], args := [d1, d2, d3] }
  | _ => none }
def SpreadDoneWrongFalsely : Prop := spreadDoneRow.holds Try.pinned (OpenSpec.ofChange spreadDoneWrong)

/-- 'turnspitlaw13.SpreadMost': WHATEVER THE INPUT: true; the input reads as it did. -/
def spreadMostSpec : ChangeSpec := { name := "spreadMost", fn := fun _ => fun
  | [d1, d2, d3] => { results := [.lit (.bool true)], args := [d1, d2, d3] }
  | _ => none }
def spreadMostRow : OpenClaim := { program := "ytkhdfbmkikiapaa", sum := "a4e61e31aa344b37edc3e1b395cdc84819354763ec722756746112be90e22841", func := "turnspit/turnspitlaw13.SpreadMost", spec := "spreadMost", unfollowed := true, recurses := true, apart := false }
def SpreadMostSaid : Prop := spreadMostRow.holds Try.pinned (OpenSpec.ofChange spreadMostSpec)

/-- ITS FALSE NEIGHBOUR: 'it returns false'. Refute it at one input. -/
def spreadMostWrong : ChangeSpec := { name := "spreadMost", fn := fun _ => fun
  | [d1, d2, d3] => { results := [.lit (.bool false)], args := [d1, d2, d3] }
  | _ => none }
def SpreadMostWrongFalsely : Prop := spreadMostRow.holds Try.pinned (OpenSpec.ofChange spreadMostWrong)

/-- 'turnspitlaw13.SpreadEnds': WHATEVER THE INPUT: true; the input reads as it did. -/
def spreadEndsSpec : ChangeSpec := { name := "spreadEnds", fn := fun _ => fun
  | [d1, d2] => { results := [.lit (.bool true)], args := [d1, d2] }
  | _ => none }
def spreadEndsRow : OpenClaim := { program := "ytkhdfbmkikiapaa", sum := "a4e61e31aa344b37edc3e1b395cdc84819354763ec722756746112be90e22841", func := "turnspit/turnspitlaw13.SpreadEnds", spec := "spreadEnds", unfollowed := true, recurses := true, apart := false }
def SpreadEndsSaid : Prop := spreadEndsRow.holds Try.pinned (OpenSpec.ofChange spreadEndsSpec)

/-- ITS FALSE NEIGHBOUR: 'it returns false'. Refute it at one input. -/
def spreadEndsWrong : ChangeSpec := { name := "spreadEnds", fn := fun _ => fun
  | [d1, d2] => { results := [.lit (.bool false)], args := [d1, d2] }
  | _ => none }
def SpreadEndsWrongFalsely : Prop := spreadEndsRow.holds Try.pinned (OpenSpec.ofChange spreadEndsWrong)

/- THE SECOND FORM. 'bulk': how many values and letters a reading holds, each counted each time it is reached (what is shared counts as often as it is met; a slice's spare places count too). A statement '..UptoSaid' is the law's where the arguments, and the package variables that the reading takes, are together of bulk at most 1048576: NARROWER than '..Said'. Prove '..Said' where nothing that the law and all that it calls make is longer than what came in: it says more and counts as full. Else prove '..UptoSaid'. A law counts once. -/
mutual
def uptoBulk {H : Type} : DataW H → Nat
  | .lit (.string bytes) => bytes.length + 1
  | .lit _ => 1
  | .nil => 1
  | .ptr d => uptoBulk d + 1
  | .slice elems spare => uptoBulkAll elems + uptoBulkAll spare + 1
  | .agg parts => uptoBulkAll parts + 1
  | .iface _ d => uptoBulk d + 1
  | .map entries => uptoBulkEntries entries + 1
  | .held _ => 1
def uptoBulkAll {H : Type} : List (DataW H) → Nat
  | [] => 0
  | d :: r => uptoBulk d + uptoBulkAll r
def uptoBulkEntries {H : Type} : List (Lit × DataW H) → Nat
  | [] => 0
  | x :: r => uptoBulkEntry x + uptoBulkEntries r
def uptoBulkEntry {H : Type} : Lit × DataW H → Nat
  | (.string bytes, d) => bytes.length + uptoBulk d + 1
  | (_, d) => uptoBulk d + 1
 end
def uptoSmall : (H : Type) → List (DataW H) → Bool := fun _ ds => decide (uptoBulkAll ds ≤ 1048576)
def OpenSpec.upto (s : _root_.Go.ChangeSpec) : _root_.Go.OpenSpec := { _root_.Go.OpenSpec.ofChange s with cond := some uptoSmall }

/-- 'turnspitlaw13.SpreadTells', WHERE WHAT IT READS IS OF BULK AT MOST 1048576: true; the input reads as it did. -/
def spreadTellsUptoRow : OpenClaim := { program := "ytkhdfbmkikiapaa", sum := "a4e61e31aa344b37edc3e1b395cdc84819354763ec722756746112be90e22841", func := "turnspit/turnspitlaw13.SpreadTells", spec := "spreadTells", unfollowed := true, recurses := true, apart := false, narrowed := true }
def SpreadTellsUptoSaid : Prop := spreadTellsUptoRow.holds Try.pinned (OpenSpec.upto spreadTellsSpec)

/-- 'turnspitlaw13.SpreadLoads', WHERE WHAT IT READS IS OF BULK AT MOST 1048576: true; the input reads as it did. -/
def spreadLoadsUptoRow : OpenClaim := { program := "ytkhdfbmkikiapaa", sum := "a4e61e31aa344b37edc3e1b395cdc84819354763ec722756746112be90e22841", func := "turnspit/turnspitlaw13.SpreadLoads", spec := "spreadLoads", unfollowed := true, recurses := true, apart := false, narrowed := true }
def SpreadLoadsUptoSaid : Prop := spreadLoadsUptoRow.holds Try.pinned (OpenSpec.upto spreadLoadsSpec)

/-- 'turnspitlaw13.SpreadGains', WHERE WHAT IT READS IS OF BULK AT MOST 1048576: true; the input reads as it did. -/
def spreadGainsUptoRow : OpenClaim := { program := "ytkhdfbmkikiapaa", sum := "a4e61e31aa344b37edc3e1b395cdc84819354763ec722756746112be90e22841", func := "turnspit/turnspitlaw13.SpreadGains", spec := "spreadGains", unfollowed := true, recurses := true, apart := false, narrowed := true }
def SpreadGainsUptoSaid : Prop := spreadGainsUptoRow.holds Try.pinned (OpenSpec.upto spreadGainsSpec)

/-- 'turnspitlaw13.SpreadDone', WHERE WHAT IT READS IS OF BULK AT MOST 1048576: true; the input reads as it did. -/
def spreadDoneUptoRow : OpenClaim := { program := "ytkhdfbmkikiapaa", sum := "a4e61e31aa344b37edc3e1b395cdc84819354763ec722756746112be90e22841", func := "turnspit/turnspitlaw13.SpreadDone", spec := "spreadDone", unfollowed := true, recurses := true, apart := false, narrowed := true }
def SpreadDoneUptoSaid : Prop := spreadDoneUptoRow.holds Try.pinned (OpenSpec.upto spreadDoneSpec)

/-- 'turnspitlaw13.SpreadMost', WHERE WHAT IT READS IS OF BULK AT MOST 1048576: true; the input reads as it did. -/
def spreadMostUptoRow : OpenClaim := { program := "ytkhdfbmkikiapaa", sum := "a4e61e31aa344b37edc3e1b395cdc84819354763ec722756746112be90e22841", func := "turnspit/turnspitlaw13.SpreadMost", spec := "spreadMost", unfollowed := true, recurses := true, apart := false, narrowed := true }
def SpreadMostUptoSaid : Prop := spreadMostUptoRow.holds Try.pinned (OpenSpec.upto spreadMostSpec)

/-- 'turnspitlaw13.SpreadEnds', WHERE WHAT IT READS IS OF BULK AT MOST 1048576: true; the input reads as it did. -/
def spreadEndsUptoRow : OpenClaim := { program := "ytkhdfbmkikiapaa", sum := "a4e61e31aa344b37edc3e1b395cdc84819354763ec722756746112be90e22841", func := "turnspit/turnspitlaw13.SpreadEnds", spec := "spreadEnds", unfollowed := true, recurses := true, apart := false, narrowed := true }
def SpreadEndsUptoSaid : Prop := spreadEndsUptoRow.holds Try.pinned (OpenSpec.upto spreadEndsSpec)

end Rows
end Go.Proofs.Ytkhdfbmkikiapaa

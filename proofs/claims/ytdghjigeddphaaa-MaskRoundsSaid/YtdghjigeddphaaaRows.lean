/-
  No cell of these rows narrows 'for every input' (looked for: loops, veiled, ifaces, maps, wideKeys, modest, calm, conditions, laid).
  DERIVED. THE GIVEN ROWS OF THIS SEAT. 7 by the template 'for every input the law returns true; each argument reads behind the call as it read before'; 0 by the template 'total and deterministic' (their statements: YtdghjigeddphaaaTotals.lean).
  GIVEN WITH THE SEED: the statements are not yours to turn. If you find one false, say at which input.
  Laid BY PROGRAM, IN A SANDBOX (cutbox-rows.mjs): the forced cells as the released guide's own fill.sh prints them over the translation 605dada36c7ca624… (all of the seat's roots in one cut). By AI agents, Wed Nov 11 2026. No macro, syntax, notation, axiom, sorry.
-/
import Derived.Test.YtdghjigeddphaaaChecked
import GoSem.Claim
import GoSem.ClaimJoined
import GoSem.ClaimMapViews
import Derived.JoinedTies
import Derived.KernelRfl
namespace Go.Proofs.Ytdghjigeddphaaa
/- THE CELL 'sum', in the pinned program and in every row, IS THE sha256 OF THE DUMP (.gsa) THAT YtdghjigeddphaaaProg.lean LOADS. Nothing in Lean hashes anything: it is a label: what it is worth is what the hold of that sum in a sandbox is worth. -/
noncomputable def Try.pinned : Pinned := { name := "ytdghjigeddphaaa", sum := "605dada36c7ca624c8be9577e4063fd05a734b17152e510c0a76161dbbbdb898", checked := Try.checked }
namespace Rows
def none {H : Type} : Left H := { results := [], args := [] }

/-- 'turnspitlaw04.MaskTells': WHATEVER THE INPUT: true; the input reads as it did. -/
def maskTellsSpec : ChangeSpec := { name := "maskTells", fn := fun _ => fun
  | [d1, d2] => { results := [.lit (.bool true)], args := [d1, d2] }
  | _ => none }
def maskTellsRow : OpenClaim := { program := "ytdghjigeddphaaa", sum := "605dada36c7ca624c8be9577e4063fd05a734b17152e510c0a76161dbbbdb898", func := "turnspit/turnspitlaw04.MaskTells", spec := "maskTells", unfollowed := true, recurses := true, apart := false }
def MaskTellsSaid : Prop := maskTellsRow.holds Try.pinned (OpenSpec.ofChange maskTellsSpec)

/-- ITS FALSE NEIGHBOUR: 'it returns false'. Refute it at one input. -/
def maskTellsWrong : ChangeSpec := { name := "maskTells", fn := fun _ => fun
  | [d1, d2] => { results := [.lit (.bool false)], args := [d1, d2] }
  | _ => none }
def MaskTellsWrongFalsely : Prop := maskTellsRow.holds Try.pinned (OpenSpec.ofChange maskTellsWrong)

/-- 'turnspitlaw04.MaskOf': WHATEVER THE INPUT: true; the input reads as it did. -/
def maskOfSpec : ChangeSpec := { name := "maskOf", fn := fun _ => fun
  | [d1, d2] => { results := [.lit (.bool true)], args := [d1, d2] }
  | _ => none }
def maskOfRow : OpenClaim := { program := "ytdghjigeddphaaa", sum := "605dada36c7ca624c8be9577e4063fd05a734b17152e510c0a76161dbbbdb898", func := "turnspit/turnspitlaw04.MaskOf", spec := "maskOf", unfollowed := true, recurses := true, apart := false }
def MaskOfSaid : Prop := maskOfRow.holds Try.pinned (OpenSpec.ofChange maskOfSpec)

/-- ITS FALSE NEIGHBOUR: 'it returns false'. Refute it at one input. -/
def maskOfWrong : ChangeSpec := { name := "maskOf", fn := fun _ => fun
  | [d1, d2] => { results := [.lit (.bool false)], args := [d1, d2] }
  | _ => none }
def MaskOfWrongFalsely : Prop := maskOfRow.holds Try.pinned (OpenSpec.ofChange maskOfWrong)

/-- 'turnspitlaw04.MaskBack': WHATEVER THE INPUT: true; the input reads as it did. -/
def maskBackSpec : ChangeSpec := { name := "maskBack", fn := fun _ => fun
  | [d] => { results := [.lit (.bool true)], args := [d] }
  | _ => none }
def maskBackRow : OpenClaim := { program := "ytdghjigeddphaaa", sum := "605dada36c7ca624c8be9577e4063fd05a734b17152e510c0a76161dbbbdb898", func := "turnspit/turnspitlaw04.MaskBack", spec := "maskBack", unfollowed := true, recurses := true, apart := false }
def MaskBackSaid : Prop := maskBackRow.holds Try.pinned (OpenSpec.ofChange maskBackSpec)

/-- ITS FALSE NEIGHBOUR: 'it returns false'. Refute it at one input. -/
def maskBackWrong : ChangeSpec := { name := "maskBack", fn := fun _ => fun
  | [d] => { results := [.lit (.bool false)], args := [d] }
  | _ => none }
def MaskBackWrongFalsely : Prop := maskBackRow.holds Try.pinned (OpenSpec.ofChange maskBackWrong)

/-- 'turnspitlaw04.MaskRounds': WHATEVER THE INPUT: true; the input reads as it did. -/
def maskRoundsSpec : ChangeSpec := { name := "maskRounds", fn := fun _ => fun
  | [d1, d2] => { results := [.lit (.bool true)], args := [d1, d2] }
  | _ => none }
def maskRoundsRow : OpenClaim := { program := "ytdghjigeddphaaa", sum := "605dada36c7ca624c8be9577e4063fd05a734b17152e510c0a76161dbbbdb898", func := "turnspit/turnspitlaw04.MaskRounds", spec := "maskRounds", unfollowed := true, recurses := true, apart := false }
def MaskRoundsSaid : Prop := maskRoundsRow.holds Try.pinned (OpenSpec.ofChange maskRoundsSpec)

/-- ITS FALSE NEIGHBOUR: 'it returns false'. Refute it at one input. -/
def maskRoundsWrong : ChangeSpec := { name := "maskRounds", fn := fun _ => fun
  | [d1, d2] => { results := [.lit (.bool false)], args := [d1, d2] }
  | _ => none }
def MaskRoundsWrongFalsely : Prop := maskRoundsRow.holds Try.pinned (OpenSpec.ofChange maskRoundsWrong)

/-- 'turnspitlaw04.MaskPuts': WHATEVER THE INPUT: true; the input reads as it did. -/
def maskPutsSpec : ChangeSpec := { name := "maskPuts", fn := fun _ => fun
  | [d1, d2, d3] => { results := [.lit (.bool true)], args := [d1, d2, d3] }
  | _ => none }
def maskPutsRow : OpenClaim := { program := "ytdghjigeddphaaa", sum := "605dada36c7ca624c8be9577e4063fd05a734b17152e510c0a76161dbbbdb898", func := "turnspit/turnspitlaw04.MaskPuts", spec := "maskPuts", unfollowed := true, recurses := true, apart := false }
def MaskPutsSaid : Prop := maskPutsRow.holds Try.pinned (OpenSpec.ofChange maskPutsSpec)

/-- ITS FALSE NEIGHBOUR: 'it returns false'. Refute it at one input. -/
def maskPutsWrong : ChangeSpec := { name := "maskPuts", fn := fun _ => fun
  | [d1, d2, d3] => { results := [.lit (.bool false)], args := [d1, d2, d3] }
  | _ => none }
def MaskPutsWrongFalsely : Prop := maskPutsRow.holds Try.pinned (OpenSpec.ofChange maskPutsWrong)

/-- 'turnspitlaw04.MaskNexts': WHATEVER THE INPUT: true; the input reads as it did. -/
def maskNextsSpec : ChangeSpec := { name := "maskNexts", fn := fun _ => fun
  | [d1, d2, d3] => { results := [.lit (.bool true)], args := [d1, d2, d3] }
  | _ => none }
def maskNextsRow : OpenClaim := { program := "ytdghjigeddphaaa", sum := "605dada36c7ca624c8be9577e4063fd05a734b17152e510c0a76161dbbbdb898", func := "turnspit/turnspitlaw04.MaskNexts", spec := "maskNexts", unfollowed := true, recurses := true, apart := false }
def MaskNextsSaid : Prop := maskNextsRow.holds Try.pinned (OpenSpec.ofChange maskNextsSpec)

/-- ITS FALSE NEIGHBOUR: 'it returns false'. Refute it at one input. -/
def maskNextsWrong : ChangeSpec := { name := "maskNexts", fn := fun _ => fun
  | [d1, d2, d3] => { results := [.lit (.bool false)], args := [d1, d2, d3] }
  | _ => none }
def MaskNextsWrongFalsely : Prop := maskNextsRow.holds Try.pinned (OpenSpec.ofChange maskNextsWrong)

/-- 'turnspitlaw04.MaskCounts': WHATEVER THE INPUT: true; the input reads as it did. -/
def maskCountsSpec : ChangeSpec := { name := "maskCounts", fn := fun _ => fun
  | [d1, d2, d3] => { results := [.lit (.bool true)], args := [d1, d2, d3] }
  | _ => none }
def maskCountsRow : OpenClaim := { program := "ytdghjigeddphaaa", sum := "605dada36c7ca624c8be9577e4063fd05a734b17152e510c0a76161dbbbdb898", func := "turnspit/turnspitlaw04.MaskCounts", spec := "maskCounts", unfollowed := true, recurses := true, apart := false }
def MaskCountsSaid : Prop := maskCountsRow.holds Try.pinned (OpenSpec.ofChange maskCountsSpec)

/-- ITS FALSE NEIGHBOUR: 'it returns false'. Refute it at one input. -/
def maskCountsWrong : ChangeSpec := { name := "maskCounts", fn := fun _ => fun
  | [d1, d2, d3] => { results := [.lit (.bool false)], args := [d1, d2, d3] }
  | _ => none }
def MaskCountsWrongFalsely : Prop := maskCountsRow.holds Try.pinned (OpenSpec.ofChange maskCountsWrong)

/- THE SECOND FORM. 'bulk': how many values and letters a reading holds, each counted each time it is reached (what is shared counts as often as it is met; a slice's spare places count too). A statement '..UptoSaid' is the law's where the arguments, and the package variables that the reading takes, are together of bulk at most 1048576: NARROWER than '..Said'. Prove '..Said' where nothing that the law and all that it calls make is longer than what came in: it says more and counts as full. Else prove '..UptoSaid'. A law counts once. -/
mutual
def uptoBulk {H : Type} : DataW H → Nat
  | .lit (.string bytes) => bytes.length + 1
  | .lit _ => 1
  | .nil => 1
  | .ptr d => uptoBulk d + 1
  | .slice elems spare => uptoBulkAll elems + uptoBulkAll spare + 1
  | .agg parts => uptoBulkAll parts + 1
  | .iface _ d => uptoBulk d + 1
  | .map entries => uptoBulkEntries entries + 1
  | .held _ => 1
def uptoBulkAll {H : Type} : List (DataW H) → Nat
  | [] => 0
  | d :: r => uptoBulk d + uptoBulkAll r
def uptoBulkEntries {H : Type} : List (Lit × DataW H) → Nat
  | [] => 0
  | x :: r => uptoBulkEntry x + uptoBulkEntries r
def uptoBulkEntry {H : Type} : Lit × DataW H → Nat
  | (.string bytes, d) => bytes.length + uptoBulk d + 1
  | (_, d) => uptoBulk d + 1
 end
def uptoSmall : (H : Type) → List (DataW H) → Bool := fun _ ds => decide (uptoBulkAll ds ≤ 1048576)
def OpenSpec.upto (s : _root_.Go.ChangeSpec) : _root_.Go.OpenSpec := { _root_.Go.OpenSpec.ofChange s with cond := some uptoSmall }

/-- 'turnspitlaw04.MaskTells', WHERE WHAT IT READS IS OF BULK AT MOST 1048576: true; the input reads as it did. -/
def maskTellsUptoRow : OpenClaim := { program := "ytdghjigeddphaaa", sum := "605dada36c7ca624c8be9577e4063fd05a734b17152e510c0a76161dbbbdb898", func := "turnspit/turnspitlaw04.MaskTells", spec := "maskTells", unfollowed := true, recurses := true, apart := false, narrowed := true }
def MaskTellsUptoSaid : Prop := maskTellsUptoRow.holds Try.pinned (OpenSpec.upto maskTellsSpec)

/-- 'turnspitlaw04.MaskOf', WHERE WHAT IT READS IS OF BULK AT MOST 1048576: true; the input reads as it did. -/
def maskOfUptoRow : OpenClaim := { program := "ytdghjigeddphaaa", sum := "605dada36c7ca624c8be9577e4063fd05a734b17152e510c0a76161dbbbdb898", func := "turnspit/turnspitlaw04.MaskOf", spec := "maskOf", unfollowed := true, recurses := true, apart := false, narrowed := true }
def MaskOfUptoSaid : Prop := maskOfUptoRow.holds Try.pinned (OpenSpec.upto maskOfSpec)

/-- 'turnspitlaw04.MaskBack', WHERE WHAT IT READS IS OF BULK AT MOST 1048576: true; the input reads as it did. -/
def maskBackUptoRow : OpenClaim := { program := "ytdghjigeddphaaa", sum := "605dada36c7ca624c8be9577e4063fd05a734b17152e510c0a76161dbbbdb898", func := "turnspit/turnspitlaw04.MaskBack", spec := "maskBack", unfollowed := true, recurses := true, apart := false, narrowed := true }
def MaskBackUptoSaid : Prop := maskBackUptoRow.holds Try.pinned (OpenSpec.upto maskBackSpec)

/-- 'turnspitlaw04.MaskRounds', WHERE WHAT IT READS IS OF BULK AT MOST 1048576: true; the input reads as it did. -/
def maskRoundsUptoRow : OpenClaim := { program := "ytdghjigeddphaaa", sum := "605dada36c7ca624c8be9577e4063fd05a734b17152e510c0a76161dbbbdb898", func := "turnspit/turnspitlaw04.MaskRounds", spec := "maskRounds", unfollowed := true, recurses := true, apart := false, narrowed := true }
def MaskRoundsUptoSaid : Prop := maskRoundsUptoRow.holds Try.pinned (OpenSpec.upto maskRoundsSpec)

/-- 'turnspitlaw04.MaskPuts', WHERE WHAT IT READS IS OF BULK AT MOST 1048576: true; the input reads as it did. -/
def maskPutsUptoRow : OpenClaim := { program := "ytdghjigeddphaaa", sum := "605dada36c7ca624c8be9577e4063fd05a734b17152e510c0a76161dbbbdb898", func := "turnspit/turnspitlaw04.MaskPuts", spec := "maskPuts", unfollowed := true, recurses := true, apart := false, narrowed := true }
def MaskPutsUptoSaid : Prop := maskPutsUptoRow.holds Try.pinned (OpenSpec.upto maskPutsSpec)

/-- 'turnspitlaw04.MaskNexts', WHERE WHAT IT READS IS OF BULK AT MOST 1048576: true; the input reads as it did. -/
def maskNextsUptoRow : OpenClaim := { program := "ytdghjigeddphaaa", sum := "605dada36c7ca624c8be9577e4063fd05a734b17152e510c0a76161dbbbdb898", func := "turnspit/turnspitlaw04.MaskNexts", spec := "maskNexts", unfollowed := true, recurses := true, apart := false, narrowed := true }
def MaskNextsUptoSaid : Prop := maskNextsUptoRow.holds Try.pinned (OpenSpec.upto maskNextsSpec)

/-- 'turnspitlaw04.MaskCounts', WHERE WHAT IT READS IS OF BULK AT MOST 1048576: true; the input reads as it did. -/
def maskCountsUptoRow : OpenClaim := { program := "ytdghjigeddphaaa", sum := "605dada36c7ca624c8be9577e4063fd05a734b17152e510c0a76161dbbbdb898", func := "turnspit/turnspitlaw04.MaskCounts", spec := "maskCounts", unfollowed := true, recurses := true, apart := false, narrowed := true }
def MaskCountsUptoSaid : Prop := maskCountsUptoRow.holds Try.pinned (OpenSpec.upto maskCountsSpec)

end Rows
end Go.Proofs.Ytdghjigeddphaaa

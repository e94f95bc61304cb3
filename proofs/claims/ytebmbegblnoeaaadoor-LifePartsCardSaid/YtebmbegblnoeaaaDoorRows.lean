/-
  NARROWER THAN 'FOR EVERY INPUT', by the rows' own cells (each row's printed sentence says how): LifeTells: laid · LifePlays: laid · LifeRight: laid · LifeClaims: laid · LifeSeqs: laid · LifeWays: laid · LifeParts: laid.
  DERIVED. THE GIVEN ROWS OF THIS SEAT. 7 by the template 'for every input the law returns true; each argument reads behind the call as it read before'; 0 by the template 'total and deterministic' (their statements: YtebmbegblnoeaaaDoorTotals.lean).
  GIVEN WITH THE SEED: the statements are not yours to turn. If you find one false, say at which input.
  Laid BY PROGRAM, IN A SANDBOX (cutbox-rows.mjs): the forced cells as the released guide's own fill.sh prints them over the translation 4167c4985726e2de… (all of the seat's roots in one cut). By AI agents, Wed Nov 11 2026. No macro, syntax, notation, axiom, sorry.
-/
import Derived.Test.YtebmbegblnoeaaaDoorChecked
import GoSem.Claim
import GoSem.ClaimJoined
import GoSem.ClaimMapViews
import Derived.JoinedTies
import Derived.KernelRfl
namespace Go.Proofs.YtebmbegblnoeaaaDoor
/- THE CELL 'sum', in the pinned program and in every row, IS THE sha256 OF THE DUMP (.gsa) THAT YtebmbegblnoeaaaDoorProg.lean LOADS. Nothing in Lean hashes anything: it is a label: what it is worth is what the hold of that sum in a sandbox is worth. -/
noncomputable def Tryd.pinned : Pinned := { name := "ytebmbegblnoeaaadoor", sum := "4167c4985726e2deea77e243819105b1cd8af02b275f1be30b5032962e2a2301", checked := Tryd.checked }
namespace Rows
def none {H : Type} : Left H := { results := [], args := [] }

/- WHAT THE LISTED PACKAGE-LEVEL VARIABLES READ AS WHEN THE CALL BEGINS. Each datum BY PROGRAM (the guide's laid-datum.mjs) off the statement by which the dump's own 'gosem.cut.vars' lays the variable. In a bare row this is a premise. The card (YtebmbegblnoeaaaDoorCards.lean) ties it to the program's text. -/
def laid_turnspit_packed_spans {H : Type} : DataW H := .agg [.agg [.lit (.int .i64 0), .lit (.int .i64 3)], .agg [.lit (.int .i64 3), .lit (.int .i64 9)], .agg [.lit (.int .i64 9), .lit (.int .i64 10)], .agg [.lit (.int .i64 10), .lit (.int .i64 26)], .agg [.lit (.int .i64 26), .lit (.int .i64 58)]]
def laid_turnspit_life_rules {H : Type} : DataW H := .iface "func table" (.map [(.int .i64 0, .agg [.slice [.lit (.int .i64 0)] [], .lit (.int .i64 1), .nil, .iface "func" (.lit (.string [116, 117, 114, 110, 115, 112, 105, 116, 47, 108, 105, 102, 101, 46, 114, 117, 108, 101, 115, 36, 49]))]), (.int .i64 1, .agg [.slice [.lit (.int .i64 1), .lit (.int .i64 3), .lit (.int .i64 4), .lit (.int .i64 5)] [], .lit (.int .i64 0), .nil, .iface "func" (.lit (.string [116, 117, 114, 110, 115, 112, 105, 116, 47, 108, 105, 102, 101, 46, 114, 117, 108, 101, 115, 36, 50]))]), (.int .i64 2, .agg [.slice [.lit (.int .i64 1)] [], .lit (.int .i64 2), .nil, .iface "func" (.lit (.string [116, 117, 114, 110, 115, 112, 105, 116, 47, 108, 105, 102, 101, 46, 114, 117, 108, 101, 115, 36, 51]))]), (.int .i64 3, .agg [.slice [.lit (.int .i64 2)] [], .lit (.int .i64 3), .nil, .nil]), (.int .i64 4, .agg [.slice [.lit (.int .i64 2), .lit (.int .i64 3)] [], .lit (.int .i64 4), .nil, .nil]), (.int .i64 5, .agg [.slice [.lit (.int .i64 4)] [], .lit (.int .i64 5), .nil, .nil]), (.int .i64 6, .agg [.slice [.lit (.int .i64 5)] [], .lit (.int .i64 4), .nil, .nil]), (.int .i64 7, .agg [.slice [.lit (.int .i64 5)] [], .lit (.int .i64 7), .nil, .nil]), (.int .i64 8, .agg [.slice [.lit (.int .i64 7)] [], .lit (.int .i64 7), .iface "func" (.lit (.string [116, 117, 114, 110, 115, 112, 105, 116, 47, 108, 105, 102, 101, 46, 112, 108, 97, 105, 110])), .iface "func" (.lit (.string [116, 117, 114, 110, 115, 112, 105, 116, 47, 108, 105, 102, 101, 46, 114, 117, 108, 101, 115, 36, 52]))]), (.int .i64 9, .agg [.slice [.lit (.int .i64 7)] [], .lit (.int .i64 1), .iface "func" (.lit (.string [116, 117, 114, 110, 115, 112, 105, 116, 47, 108, 105, 102, 101, 46, 112, 108, 97, 105, 110])), .nil]), (.int .i64 10, .agg [.slice [.lit (.int .i64 7)] [], .lit (.int .i64 3), .iface "func" (.lit (.string [116, 117, 114, 110, 115, 112, 105, 116, 47, 108, 105, 102, 101, 46, 110, 111, 116, 101, 100])), .nil]), (.int .i64 11, .agg [.slice [.lit (.int .i64 5)] [], .lit (.int .i64 1), .nil, .iface "func" (.lit (.string [116, 117, 114, 110, 115, 112, 105, 116, 47, 108, 105, 102, 101, 46, 97, 116]))]), (.int .i64 12, .agg [.slice [.lit (.int .i64 1)] [], .lit (.int .i64 1), .nil, .iface "func" (.lit (.string [116, 117, 114, 110, 115, 112, 105, 116, 47, 108, 105, 102, 101, 46, 97, 116]))]), (.int .i64 13, .agg [.slice [.lit (.int .i64 4), .lit (.int .i64 5)] [], .lit (.int .i64 6), .nil, .iface "func" (.lit (.string [116, 117, 114, 110, 115, 112, 105, 116, 47, 108, 105, 102, 101, 46, 97, 116]))]), (.int .i64 14, .agg [.slice [.lit (.int .i64 6)] [], .lit (.int .i64 4), .nil, .nil]), (.int .i64 15, .agg [.slice [.lit (.int .i64 4)] [], .lit (.int .i64 4), .nil, .iface "func" (.lit (.string [116, 117, 114, 110, 115, 112, 105, 116, 47, 108, 105, 102, 101, 46, 97, 116]))])])

/-- 'turnspitlaw07.LifeTells': WHATEVER THE INPUT: true; the input reads as it did. -/
def lifeTellsSpec : ChangeSpec := { name := "lifeTells", fn := fun _ => fun
  | [d1, d2, d3] => { results := [.lit (.bool true)], args := [d1, d2, d3] }
  | _ => none }
def lifeTellsRow : OpenClaim := { program := "ytebmbegblnoeaaadoor", sum := "4167c4985726e2deea77e243819105b1cd8af02b275f1be30b5032962e2a2301", func := "turnspit/turnspitlaw07.LifeTells", spec := "lifeTells", unfollowed := true, recurses := true, named := ["turnspit/life.rules", "turnspit/packed.spans"], apart := false, laid := [("turnspit/packed.spans", laid_turnspit_packed_spans), ("turnspit/life.rules", laid_turnspit_life_rules)] }
def LifeTellsSaid : Prop := lifeTellsRow.holds Tryd.pinned (OpenSpec.ofChange lifeTellsSpec)

/-- ITS FALSE NEIGHBOUR: 'it returns false'. Refute it at one input. -/
def lifeTellsWrong : ChangeSpec := { name := "lifeTells", fn := fun _ => fun
  | [d1, d2, d3] => { results := [.lit (.bool false)], args := [d1, d2, d3] }
  | _ => none }
def LifeTellsWrongFalsely : Prop := lifeTellsRow.holds Tryd.pinned (OpenSpec.ofChange lifeTellsWrong)

/-- 'turnspitlaw07.LifePlays': WHATEVER THE INPUT: true; the input reads as it did. -/
def lifePlaysSpec : ChangeSpec := { name := "lifePlays", fn := fun _ => fun
  | [d1, d2] => { results := [.lit (.bool true)], args := [d1, d2] }
  | _ => none }
def lifePlaysRow : OpenClaim := { program := "ytebmbegblnoeaaadoor", sum := "4167c4985726e2deea77e243819105b1cd8af02b275f1be30b5032962e2a2301", func := "turnspit/turnspitlaw07.LifePlays", spec := "lifePlays", unfollowed := true, recurses := true, named := ["turnspit/life.rules", "turnspit/packed.spans"], apart := false, laid := [("turnspit/packed.spans", laid_turnspit_packed_spans), ("turnspit/life.rules", laid_turnspit_life_rules)] }
def LifePlaysSaid : Prop := lifePlaysRow.holds Tryd.pinned (OpenSpec.ofChange lifePlaysSpec)

/-- ITS FALSE NEIGHBOUR: 'it returns false'. Refute it at one input. -/
def lifePlaysWrong : ChangeSpec := { name := "lifePlays", fn := fun _ => fun
  | [d1, d2] => { results := [.lit (.bool false)], args := [d1, d2] }
  | _ => none }
def LifePlaysWrongFalsely : Prop := lifePlaysRow.holds Tryd.pinned (OpenSpec.ofChange lifePlaysWrong)

/-- 'turnspitlaw07.LifeRight': WHATEVER THE INPUT: true; the input reads as it did. -/
def lifeRightSpec : ChangeSpec := { name := "lifeRight", fn := fun _ => fun
  | [d1, d2, d3] => { results := [.lit (.bool true)], args := [d1, d2, d3] }
  | _ => none }
def lifeRightRow : OpenClaim := { program := "ytebmbegblnoeaaadoor", sum := "4167c4985726e2deea77e243819105b1cd8af02b275f1be30b5032962e2a2301", func := "turnspit/turnspitlaw07.LifeRight", spec := "lifeRight", unfollowed := true, recurses := true, named := ["turnspit/life.rules", "turnspit/packed.spans"], apart := false, laid := [("turnspit/packed.spans", laid_turnspit_packed_spans), ("turnspit/life.rules", laid_turnspit_life_rules)] }
def LifeRightSaid : Prop := lifeRightRow.holds Tryd.pinned (OpenSpec.ofChange lifeRightSpec)

/-- ITS FALSE NEIGHBOUR: 'it returns false'. Refute it at one input. -/
def lifeRightWrong : ChangeSpec := { name := "lifeRight", fn := fun _ => fun
  | [d1, d2, d3] => { results := [.lit (.bool false)], args := [d1, d2, d3] }
  | _ => none }
def LifeRightWrongFalsely : Prop := lifeRightRow.holds Tryd.pinned (OpenSpec.ofChange lifeRightWrong)

/-- 'turnspitlaw07.LifeClaims': WHATEVER THE INPUT: true; the input reads as it did. -/
def lifeClaimsSpec : ChangeSpec := { name := "lifeClaims", fn := fun _ => fun
  | [d1, d2] => { results := [.lit (.bool true)], args := [d1, d2] }
  | _ => none }
def lifeClaimsRow : OpenClaim := { program := "ytebmbegblnoeaaadoor", sum := "4167c4985726e2deea77e243819105b1cd8af02b275f1be30b5032962e2a2301", func := "turnspit/turnspitlaw07.LifeClaims", spec := "lifeClaims", unfollowed := true, recurses := true, named := ["turnspit/life.rules", "turnspit/packed.spans"], apart := false, laid := [("turnspit/packed.spans", laid_turnspit_packed_spans), ("turnspit/life.rules", laid_turnspit_life_rules)] }
def LifeClaimsSaid : Prop := lifeClaimsRow.holds Tryd.pinned (OpenSpec.ofChange lifeClaimsSpec)

/-- ITS FALSE NEIGHBOUR: 'it returns false'. Refute it at one input. -/
def lifeClaimsWrong : ChangeSpec := { name := "lifeClaims", fn := fun _ => fun
  | [d1, d2] => { results := [.lit (.bool false)], args := [d1, d2] }
  | _ => none }
def LifeClaimsWrongFalsely : Prop := lifeClaimsRow.holds Tryd.pinned (OpenSpec.ofChange lifeClaimsWrong)

/-- 'turnspitlaw07.LifeSeqs': WHATEVER THE INPUT: true; the input reads as it did. -/
def lifeSeqsSpec : ChangeSpec := { name := "lifeSeqs", fn := fun _ => fun
  | [d1, d2] => { results := [.lit (.bool true)], args := [d1, d2] }
  | _ => none }
def lifeSeqsRow : OpenClaim := { program := "ytebmbegblnoeaaadoor", sum := "4167c4985726e2deea77e243819105b1cd8af02b275f1be30b5032962e2a2301", func := "turnspit/turnspitlaw07.LifeSeqs", spec := "lifeSeqs", unfollowed := true, recurses := true, named := ["turnspit/life.rules", "turnspit/packed.spans"], apart := false, laid := [("turnspit/packed.spans", laid_turnspit_packed_spans), ("turnspit/life.rules", laid_turnspit_life_rules)] }
def LifeSeqsSaid : Prop := lifeSeqsRow.holds Tryd.pinned (OpenSpec.ofChange lifeSeqsSpec)

/-- ITS FALSE NEIGHBOUR: 'it returns false'. Refute it at one input. -/
def lifeSeqsWrong : ChangeSpec := { name := "lifeSeqs", fn := fun _ => fun
  | [d1, d2] => { results := [.lit (.bool false)], args := [d1, d2] }
  | _ => none }
def LifeSeqsWrongFalsely : Prop := lifeSeqsRow.holds Tryd.pinned (OpenSpec.ofChange lifeSeqsWrong)

/-- 'turnspitlaw07.LifeWays': WHATEVER THE INPUT: true; the input reads as it did. -/
def lifeWaysSpec : ChangeSpec := { name := "lifeWays", fn := fun _ => fun
  | [d1, d2, d3] => { results := [.lit (.bool true)], args := [d1, d2, d3] }
  | _ => none }
def lifeWaysRow : OpenClaim := { program := "ytebmbegblnoeaaadoor", sum := "4167c4985726e2deea77e243819105b1cd8af02b275f1be30b5032962e2a2301", func := "turnspit/turnspitlaw07.LifeWays", spec := "lifeWays", unfollowed := true, recurses := true, named := ["turnspit/life.rules", "turnspit/packed.spans"], apart := false, laid := [("turnspit/packed.spans", laid_turnspit_packed_spans), ("turnspit/life.rules", laid_turnspit_life_rules)] }
def LifeWaysSaid : Prop := lifeWaysRow.holds Tryd.pinned (OpenSpec.ofChange lifeWaysSpec)

/-- ITS FALSE NEIGHBOUR: 'it returns false'. Refute it at one input. -/
def lifeWaysWrong : ChangeSpec := { name := "lifeWays", fn := fun _ => fun
  | [d1, d2, d3] => { results := [.lit (.bool false)], args := [d1, d2, d3] }
  | _ => none }
def LifeWaysWrongFalsely : Prop := lifeWaysRow.holds Tryd.pinned (OpenSpec.ofChange lifeWaysWrong)

/-- 'turnspitlaw07.LifeParts': WHATEVER THE INPUT: true; the input reads as it did. -/
def lifePartsSpec : ChangeSpec := { name := "lifeParts", fn := fun _ => fun
  | [d1, d2, d3] => { results := [.lit (.bool true)], args := [d1, d2, d3] }
  | _ => none }
def lifePartsRow : OpenClaim := { program := "ytebmbegblnoeaaadoor", sum := "4167c4985726e2deea77e243819105b1cd8af02b275f1be30b5032962e2a2301", func := "turnspit/turnspitlaw07.LifeParts", spec := "lifeParts", unfollowed := true, recurses := true, named := ["turnspit/life.rules", "turnspit/packed.spans"], apart := false, laid := [("turnspit/packed.spans", laid_turnspit_packed_spans), ("turnspit/life.rules", laid_turnspit_life_rules)] }
def LifePartsSaid : Prop := lifePartsRow.holds Tryd.pinned (OpenSpec.ofChange lifePartsSpec)

/-- ITS FALSE NEIGHBOUR: 'it returns false'. Refute it at one input. -/
def lifePartsWrong : ChangeSpec := { name := "lifeParts", fn := fun _ => fun
  | [d1, d2, d3] => { results := [.lit (.bool false)], args := [d1, d2, d3] }
  | _ => none }
def LifePartsWrongFalsely : Prop := lifePartsRow.holds Tryd.pinned (OpenSpec.ofChange lifePartsWrong)

/- THE SECOND FORM. 'bulk': how many values and letters a reading holds, each counted each time it is reached (what is shared counts as often as it is met; a slice's spare places count too). A statement '..UptoSaid' is the law's where the arguments, and the package variables that the reading takes, are together of bulk at most 1048576: NARROWER than '..Said'. Prove '..Said' where nothing that the law and all that it calls make is longer than what came in: it says more and counts as full. Else prove '..UptoSaid'. A law counts once. -/
mutual
def uptoBulk {H : Type} : DataW H → Nat
  | .lit (.string bytes) => bytes.length + 1
  | .lit _ => 1
  | .nil => 1
  | .ptr d => uptoBulk d + 1
  | .slice elems spare => uptoBulkAll elems + uptoBulkAll spare + 1
  | .agg parts => uptoBulkAll parts + 1
  | .iface _ d => uptoBulk d + 1
  | .map entries => uptoBulkEntries entries + 1
  | .held _ => 1
def uptoBulkAll {H : Type} : List (DataW H) → Nat
  | [] => 0
  | d :: r => uptoBulk d + uptoBulkAll r
def uptoBulkEntries {H : Type} : List (Lit × DataW H) → Nat
  | [] => 0
  | x :: r => uptoBulkEntry x + uptoBulkEntries r
def uptoBulkEntry {H : Type} : Lit × DataW H → Nat
  | (.string bytes, d) => bytes.length + uptoBulk d + 1
  | (_, d) => uptoBulk d + 1
 end
def uptoSmall : (H : Type) → List (DataW H) → Bool := fun _ ds => decide (uptoBulkAll ds ≤ 1048576)
def OpenSpec.upto (s : _root_.Go.ChangeSpec) : _root_.Go.OpenSpec := { _root_.Go.OpenSpec.ofChange s with cond := some uptoSmall }

/-- 'turnspitlaw07.LifeTells', WHERE WHAT IT READS IS OF BULK AT MOST 1048576: true; the input reads as it did. -/
def lifeTellsUptoRow : OpenClaim := { program := "ytebmbegblnoeaaadoor", sum := "4167c4985726e2deea77e243819105b1cd8af02b275f1be30b5032962e2a2301", func := "turnspit/turnspitlaw07.LifeTells", spec := "lifeTells", unfollowed := true, recurses := true, named := ["turnspit/life.rules", "turnspit/packed.spans"], apart := false, laid := [("turnspit/packed.spans", laid_turnspit_packed_spans), ("turnspit/life.rules", laid_turnspit_life_rules)], narrowed := true }
def LifeTellsUptoSaid : Prop := lifeTellsUptoRow.holds Tryd.pinned (OpenSpec.upto lifeTellsSpec)

/-- 'turnspitlaw07.LifePlays', WHERE WHAT IT READS IS OF BULK AT MOST 1048576: true; the input reads as it did. -/
def lifePlaysUptoRow : OpenClaim := { program := "ytebmbegblnoeaaadoor", sum := "4167c4985726e2deea77e243819105b1cd8af02b275f1be30b5032962e2a2301", func := "turnspit/turnspitlaw07.LifePlays", spec := "lifePlays", unfollowed := true, recurses := true, named := ["turnspit/life.rules", "turnspit/packed.spans"], apart := false, laid := [("turnspit/packed.spans", laid_turnspit_packed_spans), ("turnspit/life.rules", laid_turnspit_life_rules)], narrowed := true }
def LifePlaysUptoSaid : Prop := lifePlaysUptoRow.holds Tryd.pinned (OpenSpec.upto lifePlaysSpec)

/-- 'turnspitlaw07.LifeRight', WHERE WHAT IT READS IS OF BULK AT MOST 1048576: true; the input reads as it did. -/
def lifeRightUptoRow : OpenClaim := { program := "ytebmbegblnoeaaadoor", sum := "4167c4985726e2deea77e243819105b1cd8af02b275f1be30b5032962e2a2301", func := "turnspit/turnspitlaw07.LifeRight", spec := "lifeRight", unfollowed := true, recurses := true, named := ["turnspit/life.rules", "turnspit/packed.spans"], apart := false, laid := [("turnspit/packed.spans", laid_turnspit_packed_spans), ("turnspit/life.rules", laid_turnspit_life_rules)], narrowed := true }
def LifeRightUptoSaid : Prop := lifeRightUptoRow.holds Tryd.pinned (OpenSpec.upto lifeRightSpec)

/-- 'turnspitlaw07.LifeClaims', WHERE WHAT IT READS IS OF BULK AT MOST 1048576: true; the input reads as it did. -/
def lifeClaimsUptoRow : OpenClaim := { program := "ytebmbegblnoeaaadoor", sum := "4167c4985726e2deea77e243819105b1cd8af02b275f1be30b5032962e2a2301", func := "turnspit/turnspitlaw07.LifeClaims", spec := "lifeClaims", unfollowed := true, recurses := true, named := ["turnspit/life.rules", "turnspit/packed.spans"], apart := false, laid := [("turnspit/packed.spans", laid_turnspit_packed_spans), ("turnspit/life.rules", laid_turnspit_life_rules)], narrowed := true }
def LifeClaimsUptoSaid : Prop := lifeClaimsUptoRow.holds Tryd.pinned (OpenSpec.upto lifeClaimsSpec)

/-- 'turnspitlaw07.LifeSeqs', WHERE WHAT IT READS IS OF BULK AT MOST 1048576: true; the input reads as it did. -/
def lifeSeqsUptoRow : OpenClaim := { program := "ytebmbegblnoeaaadoor", sum := "4167c4985726e2deea77e243819105b1cd8af02b275f1be30b5032962e2a2301", func := "turnspit/turnspitlaw07.LifeSeqs", spec := "lifeSeqs", unfollowed := true, recurses := true, named := ["turnspit/life.rules", "turnspit/packed.spans"], apart := false, laid := [("turnspit/packed.spans", laid_turnspit_packed_spans), ("turnspit/life.rules", laid_turnspit_life_rules)], narrowed := true }
def LifeSeqsUptoSaid : Prop := lifeSeqsUptoRow.holds Tryd.pinned (OpenSpec.upto lifeSeqsSpec)

/-- 'turnspitlaw07.LifeWays', WHERE WHAT IT READS IS OF BULK AT MOST 1048576: true; the input reads as it did. -/
def lifeWaysUptoRow : OpenClaim := { program := "ytebmbegblnoeaaadoor", sum := "4167c4985726e2deea77e243819105b1cd8af02b275f1be30b5032962e2a2301", func := "turnspit/turnspitlaw07.LifeWays", spec := "lifeWays", unfollowed := true, recurses := true, named := ["turnspit/life.rules", "turnspit/packed.spans"], apart := false, laid := [("turnspit/packed.spans", laid_turnspit_packed_spans), ("turnspit/life.rules", laid_turnspit_life_rules)], narrowed := true }
def LifeWaysUptoSaid : Prop := lifeWaysUptoRow.holds Tryd.pinned (OpenSpec.upto lifeWaysSpec)

/-- 'turnspitlaw07.LifeParts', WHERE WHAT IT READS IS OF BULK AT MOST 1048576: true; the input reads as it did. -/
def lifePartsUptoRow : OpenClaim := { program := "ytebmbegblnoeaaadoor", sum := "4167c4985726e2deea77e243819105b1cd8af02b275f1be30b5032962e2a2301", func := "turnspit/turnspitlaw07.LifeParts", spec := "lifeParts", unfollowed := true, recurses := true, named := ["turnspit/life.rules", "turnspit/packed.spans"], apart := false, laid := [("turnspit/packed.spans", laid_turnspit_packed_spans), ("turnspit/life.rules", laid_turnspit_life_rules)], narrowed := true }
def LifePartsUptoSaid : Prop := lifePartsUptoRow.holds Tryd.pinned (OpenSpec.upto lifePartsSpec)

end Rows
end Go.Proofs.YtebmbegblnoeaaaDoor

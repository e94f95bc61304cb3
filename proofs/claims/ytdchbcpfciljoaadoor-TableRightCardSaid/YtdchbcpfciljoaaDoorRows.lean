/-
  NARROWER THAN 'FOR EVERY INPUT', by the rows' own cells (each row's printed sentence says how): TableTells: laid · TableNew: laid · TableMade: laid · TableRight: laid · TableOnce: laid · TableKept: laid · TableFirst: laid.
  DERIVED. THE GIVEN ROWS OF THIS SEAT. 7 by the template 'for every input the law returns true; each argument reads behind the call as it read before'; 0 by the template 'total and deterministic' (their statements: YtdchbcpfciljoaaDoorTotals.lean).
  GIVEN WITH THE SEED: the statements are not yours to turn. If you find one false, say at which input.
  Laid BY PROGRAM, IN A SANDBOX (cutbox-rows.mjs): the forced cells as the released guide's own fill.sh prints them over the translation 57f073944bb31746… (all of the seat's roots in one cut). By AI agents, Wed Nov 11 2026. No macro, syntax, notation, axiom, sorry.
-/
import Derived.Test.YtdchbcpfciljoaaDoorChecked
import GoSem.Claim
import GoSem.ClaimJoined
import GoSem.ClaimMapViews
import Derived.JoinedTies
import Derived.KernelRfl
namespace Go.Proofs.YtdchbcpfciljoaaDoor
/- THE CELL 'sum', in the pinned program and in every row, IS THE sha256 OF THE DUMP (.gsa) THAT YtdchbcpfciljoaaDoorProg.lean LOADS. Nothing in Lean hashes anything: it is a label: what it is worth is what the hold of that sum in a sandbox is worth. -/
noncomputable def Tryd.pinned : Pinned := { name := "ytdchbcpfciljoaadoor", sum := "57f073944bb31746f3c48c45de389287d96dddd5dd118f550d3161efe5e43937", checked := Tryd.checked }
namespace Rows
def none {H : Type} : Left H := { results := [], args := [] }

/- WHAT THE LISTED PACKAGE-LEVEL VARIABLES READ AS WHEN THE CALL BEGINS. Each datum BY PROGRAM (the guide's laid-datum.mjs) off the statement by which the dump's own 'gosem.cut.vars' lays the variable. In a bare row this is a premise. The card (YtdchbcpfciljoaaDoorCards.lean) ties it to the program's text. -/
def laid_turnspit_packed_spans {H : Type} : DataW H := .agg [.agg [.lit (.int .i64 0), .lit (.int .i64 3)], .agg [.lit (.int .i64 3), .lit (.int .i64 9)], .agg [.lit (.int .i64 9), .lit (.int .i64 10)], .agg [.lit (.int .i64 10), .lit (.int .i64 26)], .agg [.lit (.int .i64 26), .lit (.int .i64 58)]]
def laid_turnspit_life_rules {H : Type} : DataW H := .iface "func table" (.map [(.int .i64 0, .agg [.slice [.lit (.int .i64 0)] [], .lit (.int .i64 1), .nil, .iface "func" (.lit (.string [116, 117, 114, 110, 115, 112, 105, 116, 47, 108, 105, 102, 101, 46, 114, 117, 108, 101, 115, 36, 49]))]), (.int .i64 1, .agg [.slice [.lit (.int .i64 1), .lit (.int .i64 3), .lit (.int .i64 4), .lit (.int .i64 5)] [], .lit (.int .i64 0), .nil, .iface "func" (.lit (.string [116, 117, 114, 110, 115, 112, 105, 116, 47, 108, 105, 102, 101, 46, 114, 117, 108, 101, 115, 36, 50]))]), (.int .i64 2, .agg [.slice [.lit (.int .i64 1)] [], .lit (.int .i64 2), .nil, .iface "func" (.lit (.string [116, 117, 114, 110, 115, 112, 105, 116, 47, 108, 105, 102, 101, 46, 114, 117, 108, 101, 115, 36, 51]))]), (.int .i64 3, .agg [.slice [.lit (.int .i64 2)] [], .lit (.int .i64 3), .nil, .nil]), (.int .i64 4, .agg [.slice [.lit (.int .i64 2), .lit (.int .i64 3)] [], .lit (.int .i64 4), .nil, .nil]), (.int .i64 5, .agg [.slice [.lit (.int .i64 4)] [], .lit (.int .i64 5), .nil, .nil]), (.int .i64 6, .agg [.slice [.lit (.int .i64 5)] [], .lit (.int .i64 4), .nil, .nil]), (.int .i64 7, .agg [.slice [.lit (.int .i64 5)] [], .lit (.int .i64 7), .nil, .nil]), (.int .i64 8, .agg [.slice [.lit (.int .i64 7)] [], .lit (.int .i64 7), .iface "func" (.lit (.string [116, 117, 114, 110, 115, 112, 105, 116, 47, 108, 105, 102, 101, 46, 112, 108, 97, 105, 110])), .iface "func" (.lit (.string [116, 117, 114, 110, 115, 112, 105, 116, 47, 108, 105, 102, 101, 46, 114, 117, 108, 101, 115, 36, 52]))]), (.int .i64 9, .agg [.slice [.lit (.int .i64 7)] [], .lit (.int .i64 1), .iface "func" (.lit (.string [116, 117, 114, 110, 115, 112, 105, 116, 47, 108, 105, 102, 101, 46, 112, 108, 97, 105, 110])), .nil]), (.int .i64 10, .agg [.slice [.lit (.int .i64 7)] [], .lit (.int .i64 3), .iface "func" (.lit (.string [116, 117, 114, 110, 115, 112, 105, 116, 47, 108, 105, 102, 101, 46, 110, 111, 116, 101, 100])), .nil]), (.int .i64 11, .agg [.slice [.lit (.int .i64 5)] [], .lit (.int .i64 1), .nil, .iface "func" (.lit (.string [116, 117, 114, 110, 115, 112, 105, 116, 47, 108, 105, 102, 101, 46, 97, 116]))]), (.int .i64 12, .agg [.slice [.lit (.int .i64 1)] [], .lit (.int .i64 1), .nil, .iface "func" (.lit (.string [116, 117, 114, 110, 115, 112, 105, 116, 47, 108, 105, 102, 101, 46, 97, 116]))]), (.int .i64 13, .agg [.slice [.lit (.int .i64 4), .lit (.int .i64 5)] [], .lit (.int .i64 6), .nil, .iface "func" (.lit (.string [116, 117, 114, 110, 115, 112, 105, 116, 47, 108, 105, 102, 101, 46, 97, 116]))]), (.int .i64 14, .agg [.slice [.lit (.int .i64 6)] [], .lit (.int .i64 4), .nil, .nil]), (.int .i64 15, .agg [.slice [.lit (.int .i64 4)] [], .lit (.int .i64 4), .nil, .iface "func" (.lit (.string [116, 117, 114, 110, 115, 112, 105, 116, 47, 108, 105, 102, 101, 46, 97, 116]))])])

/-- 'turnspitlaw14.TableTells': WHATEVER THE INPUT: true; the input reads as it did. -/
def tableTellsSpec : ChangeSpec := { name := "tableTells", fn := fun _ => fun
  | [d] => { results := [.lit (.bool true)], args := [d] }
  | _ => none }
def tableTellsRow : OpenClaim := { program := "ytdchbcpfciljoaadoor", sum := "57f073944bb31746f3c48c45de389287d96dddd5dd118f550d3161efe5e43937", func := "turnspit/turnspitlaw14.TableTells", spec := "tableTells", unfollowed := true, recurses := true, named := ["turnspit/life.rules", "turnspit/packed.spans"], apart := false, laid := [("turnspit/packed.spans", laid_turnspit_packed_spans), ("turnspit/life.rules", laid_turnspit_life_rules)] }
def TableTellsSaid : Prop := tableTellsRow.holds Tryd.pinned (OpenSpec.ofChange tableTellsSpec)

/-- ITS FALSE NEIGHBOUR: 'it returns false'. Refute it at one input. -/
def tableTellsWrong : ChangeSpec := { name := "tableTells", fn := fun _ => fun
  | [d] => { results := [.lit (.bool false)], args := [d] }
  | _ => none }
def TableTellsWrongFalsely : Prop := tableTellsRow.holds Tryd.pinned (OpenSpec.ofChange tableTellsWrong)

/-- 'turnspitlaw14.TableNew': WHATEVER THE INPUT: true; the input reads as it did. -/
def tableNewSpec : ChangeSpec := { name := "tableNew", fn := fun _ => fun
  | [d] => { results := [.lit (.bool true)], args := [d] }
  | _ => none }
def tableNewRow : OpenClaim := { program := "ytdchbcpfciljoaadoor", sum := "57f073944bb31746f3c48c45de389287d96dddd5dd118f550d3161efe5e43937", func := "turnspit/turnspitlaw14.TableNew", spec := "tableNew", unfollowed := true, recurses := true, named := ["turnspit/life.rules", "turnspit/packed.spans"], apart := false, laid := [("turnspit/packed.spans", laid_turnspit_packed_spans), ("turnspit/life.rules", laid_turnspit_life_rules)] }
def TableNewSaid : Prop := tableNewRow.holds Tryd.pinned (OpenSpec.ofChange tableNewSpec)

/-- ITS FALSE NEIGHBOUR: 'it returns false'. Refute it at one input. -/
def tableNewWrong : ChangeSpec := { name := "tableNew", fn := fun _ => fun
  | [d] => { results := [.lit (.bool false)], args := [d] }
  | _ => none }
def TableNewWrongFalsely : Prop := tableNewRow.holds Tryd.pinned (OpenSpec.ofChange tableNewWrong)

/-- 'turnspitlaw14.TableMade': WHATEVER THE INPUT: true; the input reads as it did. -/
def tableMadeSpec : ChangeSpec := { name := "tableMade", fn := fun _ => fun
  | [d1, d2, d3] => { results := [.lit (.bool true)], args := [d1, d2, d3] }
  | _ => none }
def tableMadeRow : OpenClaim := { program := "ytdchbcpfciljoaadoor", sum := "57f073944bb31746f3c48c45de389287d96dddd5dd118f550d3161efe5e43937", func := "turnspit/turnspitlaw14.TableMade", spec := "tableMade", unfollowed := true, recurses := true, named := ["turnspit/life.rules", "turnspit/packed.spans"], apart := false, laid := [("turnspit/packed.spans", laid_turnspit_packed_spans), ("turnspit/life.rules", laid_turnspit_life_rules)] }
def TableMadeSaid : Prop := tableMadeRow.holds Tryd.pinned (OpenSpec.ofChange tableMadeSpec)

/-- ITS FALSE NEIGHBOUR: 'it returns false'. Refute it at one input. -/
def tableMadeWrong : ChangeSpec := { name := "tableMade", fn := fun _ => fun
  | [d1, d2, d3] => { results := [.lit (.bool false)], args := [d1, d2, d3] }
  | _ => none }
def TableMadeWrongFalsely : Prop := tableMadeRow.holds Tryd.pinned (OpenSpec.ofChange tableMadeWrong)

/-- 'turnspitlaw14.TableRight': WHATEVER THE INPUT: true; the input reads as it did. -/
def tableRightSpec : ChangeSpec := { name := "tableRight", fn := fun _ => fun
  | [d1, d2] => { results := [.lit (.bool true)], args := [d1, d2] }
  | _ => none }
def tableRightRow : OpenClaim := { program := "ytdchbcpfciljoaadoor", sum := "57f073944bb31746f3c48c45de389287d96dddd5dd118f550d3161efe5e43937", func := "turnspit/turnspitlaw14.TableRight", spec := "tableRight", unfollowed := true, recurses := true, named := ["turnspit/life.rules", "turnspit/packed.spans"], apart := false, laid := [("turnspit/packed.spans", laid_turnspit_packed_spans), ("turnspit/life.rules", laid_turnspit_life_rules)] }
def TableRightSaid : Prop := tableRightRow.holds Tryd.pinned (OpenSpec.ofChange tableRightSpec)

/-- ITS FALSE NEIGHBOUR: 'it returns false'. Refute it at one input. -/
def tableRightWrong : ChangeSpec := { name := "tableRight", fn := fun _ => fun
  | [d1, d2] => { results := [.lit (.bool false)], args := [d1, d2] }
  | _ => none }
def TableRightWrongFalsely : Prop := tableRightRow.holds Tryd.pinned (OpenSpec.ofChange tableRightWrong)

/-- 'turnspitlaw14.TableOnce': WHATEVER THE INPUT: true; the input reads as it did. -/
def tableOnceSpec : ChangeSpec := { name := "tableOnce", fn := fun _ => fun
  | [d] => { results := [.lit (.bool true)], args := [d] }
  | _ => none }
def tableOnceRow : OpenClaim := { program := "ytdchbcpfciljoaadoor", sum := "57f073944bb31746f3c48c45de389287d96dddd5dd118f550d3161efe5e43937", func := "turnspit/turnspitlaw14.TableOnce", spec := "tableOnce", unfollowed := true, recurses := true, named := ["turnspit/life.rules", "turnspit/packed.spans"], apart := false, laid := [("turnspit/packed.spans", laid_turnspit_packed_spans), ("turnspit/life.rules", laid_turnspit_life_rules)] }
def TableOnceSaid : Prop := tableOnceRow.holds Tryd.pinned (OpenSpec.ofChange tableOnceSpec)

/-- ITS FALSE NEIGHBOUR: 'it returns false'. Refute it at one input. -/
def tableOnceWrong : ChangeSpec := { name := "tableOnce", fn := fun _ => fun
  | [d] => { results := [.lit (.bool false)], args := [d] }
  | _ => none }
def TableOnceWrongFalsely : Prop := tableOnceRow.holds Tryd.pinned (OpenSpec.ofChange tableOnceWrong)

/-- 'turnspitlaw14.TableKept': WHATEVER THE INPUT: true; the input reads as it did. -/
def tableKeptSpec : ChangeSpec := { name := "tableKept", fn := fun _ => fun
  | [d1, d2] => { results := [.lit (.bool true)], args := [d1, d2] }
  | _ => none }
def tableKeptRow : OpenClaim := { program := "ytdchbcpfciljoaadoor", sum := "57f073944bb31746f3c48c45de389287d96dddd5dd118f550d3161efe5e43937", func := "turnspit/turnspitlaw14.TableKept", spec := "tableKept", unfollowed := true, recurses := true, named := ["turnspit/life.rules", "turnspit/packed.spans"], apart := false, laid := [("turnspit/packed.spans", laid_turnspit_packed_spans), ("turnspit/life.rules", laid_turnspit_life_rules)] }
def TableKeptSaid : Prop := tableKeptRow.holds Tryd.pinned (OpenSpec.ofChange tableKeptSpec)

/-- ITS FALSE NEIGHBOUR: 'it returns false'. Refute it at one input. -/
def tableKeptWrong : ChangeSpec := { name := "tableKept", fn := fun _ => fun
  | [d1, d2] => { results := [.lit (.bool false)], args := [d1, d2] }
  | _ => none }
def TableKeptWrongFalsely : Prop := tableKeptRow.holds Tryd.pinned (OpenSpec.ofChange tableKeptWrong)

/-- 'turnspitlaw14.TableFirst': WHATEVER THE INPUT: true; the input reads as it did. -/
def tableFirstSpec : ChangeSpec := { name := "tableFirst", fn := fun _ => fun
  | [d1, d2] => { results := [.lit (.bool true)], args := [d1, d2] }
  | _ => none }
def tableFirstRow : OpenClaim := { program := "ytdchbcpfciljoaadoor", sum := "57f073944bb31746f3c48c45de389287d96dddd5dd118f550d3161efe5e43937", func := "turnspit/turnspitlaw14.TableFirst", spec := "tableFirst", unfollowed := true, recurses := true, named := ["turnspit/life.rules", "turnspit/packed.spans"], apart := false, laid := [("turnspit/packed.spans", laid_turnspit_packed_spans), ("turnspit/life.rules", laid_turnspit_life_rules)] }
def TableFirstSaid : Prop := tableFirstRow.holds Tryd.pinned (OpenSpec.ofChange tableFirstSpec)

/-- ITS FALSE NEIGHBOUR: 'it returns false'. Refute it at one input. -/
def tableFirstWrong : ChangeSpec := { name := "tableFirst", fn := fun _ => fun
  | [d1, d2] => { results := [.lit (.bool false)], args := [d1, d2] }
  | _ => none }
def TableFirstWrongFalsely : Prop := tableFirstRow.holds Tryd.pinned (OpenSpec.ofChange tableFirstWrong)

/- THE SECOND FORM. 'bulk': how many values and letters a reading holds, each counted each time it is reached (what is shared counts as often as it is met; a slice's spare places count too). A statement '..UptoSaid' is the law's where the arguments, and the package variables that the reading takes, are together of bulk at most 1048576: NARROWER than '..Said'. Prove '..Said' where nothing that the law and all that it calls make is longer than what came in: it says more and counts as full. Else prove '..UptoSaid'. A law counts once. -/
mutual
def uptoBulk {H : Type} : DataW H → Nat
  | .lit (.string bytes) => bytes.length + 1
  | .lit _ => 1
  | .nil => 1
  | .ptr d => uptoBulk d + 1
  | .slice elems spare => uptoBulkAll elems + uptoBulkAll spare + 1
  | .agg parts => uptoBulkAll parts + 1
  | .iface _ d => uptoBulk d + 1
  | .map entries => uptoBulkEntries entries + 1
  | .held _ => 1
def uptoBulkAll {H : Type} : List (DataW H) → Nat
  | [] => 0
  | d :: r => uptoBulk d + uptoBulkAll r
def uptoBulkEntries {H : Type} : List (Lit × DataW H) → Nat
  | [] => 0
  | x :: r => uptoBulkEntry x + uptoBulkEntries r
def uptoBulkEntry {H : Type} : Lit × DataW H → Nat
  | (.string bytes, d) => bytes.length + uptoBulk d + 1
  | (_, d) => uptoBulk d + 1
 end
def uptoSmall : (H : Type) → List (DataW H) → Bool := fun _ ds => decide (uptoBulkAll ds ≤ 1048576)
def OpenSpec.upto (s : _root_.Go.ChangeSpec) : _root_.Go.OpenSpec := { _root_.Go.OpenSpec.ofChange s with cond := some uptoSmall }

/-- 'turnspitlaw14.TableTells', WHERE WHAT IT READS IS OF BULK AT MOST 1048576: true; the input reads as it did. -/
def tableTellsUptoRow : OpenClaim := { program := "ytdchbcpfciljoaadoor", sum := "57f073944bb31746f3c48c45de389287d96dddd5dd118f550d3161efe5e43937", func := "turnspit/turnspitlaw14.TableTells", spec := "tableTells", unfollowed := true, recurses := true, named := ["turnspit/life.rules", "turnspit/packed.spans"], apart := false, laid := [("turnspit/packed.spans", laid_turnspit_packed_spans), ("turnspit/life.rules", laid_turnspit_life_rules)], narrowed := true }
def TableTellsUptoSaid : Prop := tableTellsUptoRow.holds Tryd.pinned (OpenSpec.upto tableTellsSpec)

/-- 'turnspitlaw14.TableNew', WHERE WHAT IT READS IS OF BULK AT MOST 1048576: true; the input reads as it did. -/
def tableNewUptoRow : OpenClaim := { program := "ytdchbcpfciljoaadoor", sum := "57f073944bb31746f3c48c45de389287d96dddd5dd118f550d3161efe5e43937", func := "turnspit/turnspitlaw14.TableNew", spec := "tableNew", unfollowed := true, recurses := true, named := ["turnspit/life.rules", "turnspit/packed.spans"], apart := false, laid := [("turnspit/packed.spans", laid_turnspit_packed_spans), ("turnspit/life.rules", laid_turnspit_life_rules)], narrowed := true }
def TableNewUptoSaid : Prop := tableNewUptoRow.holds Tryd.pinned (OpenSpec.upto tableNewSpec)

/-- 'turnspitlaw14.TableMade', WHERE WHAT IT READS IS OF BULK AT MOST 1048576: true; the input reads as it did. -/
def tableMadeUptoRow : OpenClaim := { program := "ytdchbcpfciljoaadoor", sum := "57f073944bb31746f3c48c45de389287d96dddd5dd118f550d3161efe5e43937", func := "turnspit/turnspitlaw14.TableMade", spec := "tableMade", unfollowed := true, recurses := true, named := ["turnspit/life.rules", "turnspit/packed.spans"], apart := false, laid := [("turnspit/packed.spans", laid_turnspit_packed_spans), ("turnspit/life.rules", laid_turnspit_life_rules)], narrowed := true }
def TableMadeUptoSaid : Prop := tableMadeUptoRow.holds Tryd.pinned (OpenSpec.upto tableMadeSpec)

/-- 'turnspitlaw14.TableRight', WHERE WHAT IT READS IS OF BULK AT MOST 1048576: true; the input reads as it did. -/
def tableRightUptoRow : OpenClaim := { program := "ytdchbcpfciljoaadoor", sum := "57f073944bb31746f3c48c45de389287d96dddd5dd118f550d3161efe5e43937", func := "turnspit/turnspitlaw14.TableRight", spec := "tableRight", unfollowed := true, recurses := true, named := ["turnspit/life.rules", "turnspit/packed.spans"], apart := false, laid := [("turnspit/packed.spans", laid_turnspit_packed_spans), ("turnspit/life.rules", laid_turnspit_life_rules)], narrowed := true }
def TableRightUptoSaid : Prop := tableRightUptoRow.holds Tryd.pinned (OpenSpec.upto tableRightSpec)

/-- 'turnspitlaw14.TableOnce', WHERE WHAT IT READS IS OF BULK AT MOST 1048576: true; the input reads as it did. -/
def tableOnceUptoRow : OpenClaim := { program := "ytdchbcpfciljoaadoor", sum := "57f073944bb31746f3c48c45de389287d96dddd5dd118f550d3161efe5e43937", func := "turnspit/turnspitlaw14.TableOnce", spec := "tableOnce", unfollowed := true, recurses := true, named := ["turnspit/life.rules", "turnspit/packed.spans"], apart := false, laid := [("turnspit/packed.spans", laid_turnspit_packed_spans), ("turnspit/life.rules", laid_turnspit_life_rules)], narrowed := true }
def TableOnceUptoSaid : Prop := tableOnceUptoRow.holds Tryd.pinned (OpenSpec.upto tableOnceSpec)

/-- 'turnspitlaw14.TableKept', WHERE WHAT IT READS IS OF BULK AT MOST 1048576: true; the input reads as it did. -/
def tableKeptUptoRow : OpenClaim := { program := "ytdchbcpfciljoaadoor", sum := "57f073944bb31746f3c48c45de389287d96dddd5dd118f550d3161efe5e43937", func := "turnspit/turnspitlaw14.TableKept", spec := "tableKept", unfollowed := true, recurses := true, named := ["turnspit/life.rules", "turnspit/packed.spans"], apart := false, laid := [("turnspit/packed.spans", laid_turnspit_packed_spans), ("turnspit/life.rules", laid_turnspit_life_rules)], narrowed := true }
def TableKeptUptoSaid : Prop := tableKeptUptoRow.holds Tryd.pinned (OpenSpec.upto tableKeptSpec)

/-- 'turnspitlaw14.TableFirst', WHERE WHAT IT READS IS OF BULK AT MOST 1048576: true; the input reads as it did. -/
def tableFirstUptoRow : OpenClaim := { program := "ytdchbcpfciljoaadoor", sum := "57f073944bb31746f3c48c45de389287d96dddd5dd118f550d3161efe5e43937", func := "turnspit/turnspitlaw14.TableFirst", spec := "tableFirst", unfollowed := true, recurses := true, named := ["turnspit/life.rules", "turnspit/packed.spans"], apart := false, laid := [("turnspit/packed.spans", laid_turnspit_packed_spans), ("turnspit/life.rules", laid_turnspit_life_rules)], narrowed := true }
def TableFirstUptoSaid : Prop := tableFirstUptoRow.holds Tryd.pinned (OpenSpec.upto tableFirstSpec)

end Rows
end Go.Proofs.YtdchbcpfciljoaaDoor

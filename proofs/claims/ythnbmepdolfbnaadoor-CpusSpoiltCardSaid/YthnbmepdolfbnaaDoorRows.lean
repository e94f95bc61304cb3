/-
  NARROWER THAN 'FOR EVERY INPUT', by the rows' own cells (each row's printed sentence says how): CpusPrints: laid · CpusParses: laid · CpusCanon: laid · CpusBoth: laid · CpusRuns: laid · CpusApart: laid · CpusSpoilt: laid.
  DERIVED. THE GIVEN ROWS OF THIS SEAT. 7 by the template 'for every input the law returns true; each argument reads behind the call as it read before'; 0 by the template 'total and deterministic' (their statements: YthnbmepdolfbnaaDoorTotals.lean).
  GIVEN WITH THE SEED: the statements are not yours to turn. If you find one false, say at which input.
  Laid BY PROGRAM, IN A SANDBOX (cutbox-rows.mjs): the forced cells as the released guide's own fill.sh prints them over the translation 411d5aea238436d6… (all of the seat's roots in one cut). By AI agents, Wed Nov 11 2026. No macro, syntax, notation, axiom, sorry.
-/
import Derived.Test.YthnbmepdolfbnaaDoorChecked
import GoSem.Claim
import GoSem.ClaimJoined
import GoSem.ClaimMapViews
import Derived.JoinedTies
import Derived.KernelRfl
namespace Go.Proofs.YthnbmepdolfbnaaDoor
/- THE CELL 'sum', in the pinned program and in every row, IS THE sha256 OF THE DUMP (.gsa) THAT YthnbmepdolfbnaaDoorProg.lean LOADS. Nothing in Lean hashes anything: it is a label: what it is worth is what the hold of that sum in a sandbox is worth. -/
noncomputable def Tryd.pinned : Pinned := { name := "ythnbmepdolfbnaadoor", sum := "411d5aea238436d6372108aa19c8671b793bb61334e3663abb5719bb5f8ef917", checked := Tryd.checked }
namespace Rows
def none {H : Type} : Left H := { results := [], args := [] }

/- WHAT THE LISTED PACKAGE-LEVEL VARIABLES READ AS WHEN THE CALL BEGINS. Each datum BY PROGRAM (the guide's laid-datum.mjs) off the statement by which the dump's own 'gosem.cut.vars' lays the variable. In a bare row this is a premise. The card (YthnbmepdolfbnaaDoorCards.lean) ties it to the program's text. -/
def laid_math_bits_deBruijn32tab {H : Type} : DataW H := .agg [.lit (.int .u8 0), .lit (.int .u8 1), .lit (.int .u8 28), .lit (.int .u8 2), .lit (.int .u8 29), .lit (.int .u8 14), .lit (.int .u8 24), .lit (.int .u8 3), .lit (.int .u8 30), .lit (.int .u8 22), .lit (.int .u8 20), .lit (.int .u8 15), .lit (.int .u8 25), .lit (.int .u8 17), .lit (.int .u8 4), .lit (.int .u8 8), .lit (.int .u8 31), .lit (.int .u8 27), .lit (.int .u8 13), .lit (.int .u8 23), .lit (.int .u8 21), .lit (.int .u8 19), .lit (.int .u8 16), .lit (.int .u8 7), .lit (.int .u8 26), .lit (.int .u8 12), .lit (.int .u8 18), .lit (.int .u8 6), .lit (.int .u8 11), .lit (.int .u8 5), .lit (.int .u8 10), .lit (.int .u8 9)]
def laid_math_bits_deBruijn64tab {H : Type} : DataW H := .agg [.lit (.int .u8 0), .lit (.int .u8 1), .lit (.int .u8 56), .lit (.int .u8 2), .lit (.int .u8 57), .lit (.int .u8 49), .lit (.int .u8 28), .lit (.int .u8 3), .lit (.int .u8 61), .lit (.int .u8 58), .lit (.int .u8 42), .lit (.int .u8 50), .lit (.int .u8 38), .lit (.int .u8 29), .lit (.int .u8 17), .lit (.int .u8 4), .lit (.int .u8 62), .lit (.int .u8 47), .lit (.int .u8 59), .lit (.int .u8 36), .lit (.int .u8 45), .lit (.int .u8 43), .lit (.int .u8 51), .lit (.int .u8 22), .lit (.int .u8 53), .lit (.int .u8 39), .lit (.int .u8 33), .lit (.int .u8 30), .lit (.int .u8 24), .lit (.int .u8 18), .lit (.int .u8 12), .lit (.int .u8 5), .lit (.int .u8 63), .lit (.int .u8 55), .lit (.int .u8 48), .lit (.int .u8 27), .lit (.int .u8 60), .lit (.int .u8 41), .lit (.int .u8 37), .lit (.int .u8 16), .lit (.int .u8 46), .lit (.int .u8 35), .lit (.int .u8 44), .lit (.int .u8 21), .lit (.int .u8 52), .lit (.int .u8 32), .lit (.int .u8 23), .lit (.int .u8 11), .lit (.int .u8 54), .lit (.int .u8 26), .lit (.int .u8 40), .lit (.int .u8 15), .lit (.int .u8 34), .lit (.int .u8 20), .lit (.int .u8 31), .lit (.int .u8 10), .lit (.int .u8 25), .lit (.int .u8 14), .lit (.int .u8 19), .lit (.int .u8 9), .lit (.int .u8 13), .lit (.int .u8 8), .lit (.int .u8 7), .lit (.int .u8 6)]
def laid_internal_strconv_uint64pow10 {H : Type} : DataW H := .agg [.lit (.int .u64 1), .lit (.int .u64 10), .lit (.int .u64 100), .lit (.int .u64 1000), .lit (.int .u64 10000), .lit (.int .u64 100000), .lit (.int .u64 1000000), .lit (.int .u64 10000000), .lit (.int .u64 100000000), .lit (.int .u64 1000000000), .lit (.int .u64 10000000000), .lit (.int .u64 100000000000), .lit (.int .u64 1000000000000), .lit (.int .u64 10000000000000), .lit (.int .u64 100000000000000), .lit (.int .u64 1000000000000000), .lit (.int .u64 10000000000000000), .lit (.int .u64 100000000000000000), .lit (.int .u64 1000000000000000000), .lit (.int .u64 10000000000000000000)]

/-- 'turnspitlaw05.CpusPrints': WHATEVER THE INPUT: true; the input reads as it did. -/
def cpusPrintsSpec : ChangeSpec := { name := "cpusPrints", fn := fun _ => fun
  | [d] => { results := [.lit (.bool true)], args := [d] }
  | _ => none }
def cpusPrintsRow : OpenClaim := { program := "ythnbmepdolfbnaadoor", sum := "411d5aea238436d6372108aa19c8671b793bb61334e3663abb5719bb5f8ef917", func := "turnspit/turnspitlaw05.CpusPrints", spec := "cpusPrints", inPlace := ["internal/abi.NoEscape"], unfollowed := true, recurses := true, named := ["internal/strconv.uint64pow10", "math/bits.deBruijn32tab", "math/bits.deBruijn64tab"], apart := false, laid := [("math/bits.deBruijn32tab", laid_math_bits_deBruijn32tab), ("math/bits.deBruijn64tab", laid_math_bits_deBruijn64tab), ("internal/strconv.uint64pow10", laid_internal_strconv_uint64pow10)] }
def CpusPrintsSaid : Prop := cpusPrintsRow.holds Tryd.pinned (OpenSpec.ofChange cpusPrintsSpec)

/-- ITS FALSE NEIGHBOUR: 'it returns false'. Refute it at one input. -/
def cpusPrintsWrong : ChangeSpec := { name := "cpusPrints", fn := fun _ => fun
  | [d] => { results := [.lit (.bool false)], args := [d] }
  | _ => none }
def CpusPrintsWrongFalsely : Prop := cpusPrintsRow.holds Tryd.pinned (OpenSpec.ofChange cpusPrintsWrong)

/-- 'turnspitlaw05.CpusParses': WHATEVER THE INPUT: true; the input reads as it did. -/
def cpusParsesSpec : ChangeSpec := { name := "cpusParses", fn := fun _ => fun
  | [d] => { results := [.lit (.bool true)], args := [d] }
  | _ => none }
def cpusParsesRow : OpenClaim := { program := "ythnbmepdolfbnaadoor", sum := "411d5aea238436d6372108aa19c8671b793bb61334e3663abb5719bb5f8ef917", func := "turnspit/turnspitlaw05.CpusParses", spec := "cpusParses", inPlace := ["internal/abi.NoEscape"], unfollowed := true, recurses := true, named := ["internal/strconv.uint64pow10", "math/bits.deBruijn32tab", "math/bits.deBruijn64tab"], apart := false, laid := [("math/bits.deBruijn32tab", laid_math_bits_deBruijn32tab), ("math/bits.deBruijn64tab", laid_math_bits_deBruijn64tab), ("internal/strconv.uint64pow10", laid_internal_strconv_uint64pow10)] }
def CpusParsesSaid : Prop := cpusParsesRow.holds Tryd.pinned (OpenSpec.ofChange cpusParsesSpec)

/-- ITS FALSE NEIGHBOUR: 'it returns false'. Refute it at one input. -/
def cpusParsesWrong : ChangeSpec := { name := "cpusParses", fn := fun _ => fun
  | [d] => { results := [.lit (.bool false)], args := [d] }
  | _ => none }
def CpusParsesWrongFalsely : Prop := cpusParsesRow.holds Tryd.pinned (OpenSpec.ofChange cpusParsesWrong)

/-- 'turnspitlaw05.CpusCanon': WHATEVER THE INPUT: true; the input reads as it did. -/
def cpusCanonSpec : ChangeSpec := { name := "cpusCanon", fn := fun _ => fun
  | [d] => { results := [.lit (.bool true)], args := [d] }
  | _ => none }
def cpusCanonRow : OpenClaim := { program := "ythnbmepdolfbnaadoor", sum := "411d5aea238436d6372108aa19c8671b793bb61334e3663abb5719bb5f8ef917", func := "turnspit/turnspitlaw05.CpusCanon", spec := "cpusCanon", inPlace := ["internal/abi.NoEscape"], unfollowed := true, recurses := true, named := ["internal/strconv.uint64pow10", "math/bits.deBruijn32tab", "math/bits.deBruijn64tab"], apart := false, laid := [("math/bits.deBruijn32tab", laid_math_bits_deBruijn32tab), ("math/bits.deBruijn64tab", laid_math_bits_deBruijn64tab), ("internal/strconv.uint64pow10", laid_internal_strconv_uint64pow10)] }
def CpusCanonSaid : Prop := cpusCanonRow.holds Tryd.pinned (OpenSpec.ofChange cpusCanonSpec)

/-- ITS FALSE NEIGHBOUR: 'it returns false'. Refute it at one input. -/
def cpusCanonWrong : ChangeSpec := { name := "cpusCanon", fn := fun _ => fun
  | [d] => { results := [.lit (.bool false)], args := [d] }
  | _ => none }
def CpusCanonWrongFalsely : Prop := cpusCanonRow.holds Tryd.pinned (OpenSpec.ofChange cpusCanonWrong)

/-- 'turnspitlaw05.CpusBoth': WHATEVER THE INPUT: true; the input reads as it did. -/
def cpusBothSpec : ChangeSpec := { name := "cpusBoth", fn := fun _ => fun
  | [d1, d2] => { results := [.lit (.bool true)], args := [d1, d2] }
  | _ => none }
def cpusBothRow : OpenClaim := { program := "ythnbmepdolfbnaadoor", sum := "411d5aea238436d6372108aa19c8671b793bb61334e3663abb5719bb5f8ef917", func := "turnspit/turnspitlaw05.CpusBoth", spec := "cpusBoth", inPlace := ["internal/abi.NoEscape"], unfollowed := true, recurses := true, named := ["internal/strconv.uint64pow10", "math/bits.deBruijn32tab", "math/bits.deBruijn64tab"], apart := false, laid := [("math/bits.deBruijn32tab", laid_math_bits_deBruijn32tab), ("math/bits.deBruijn64tab", laid_math_bits_deBruijn64tab), ("internal/strconv.uint64pow10", laid_internal_strconv_uint64pow10)] }
def CpusBothSaid : Prop := cpusBothRow.holds Tryd.pinned (OpenSpec.ofChange cpusBothSpec)

/-- ITS FALSE NEIGHBOUR: 'it returns false'. Refute it at one input. -/
def cpusBothWrong : ChangeSpec := { name := "cpusBoth", fn := fun _ => fun
  | [d1, d2] => { results := [.lit (.bool false)], args := [d1, d2] }
  | _ => none }
def CpusBothWrongFalsely : Prop := cpusBothRow.holds Tryd.pinned (OpenSpec.ofChange cpusBothWrong)

/-- 'turnspitlaw05.CpusRuns': WHATEVER THE INPUT: true; the input reads as it did. -/
def cpusRunsSpec : ChangeSpec := { name := "cpusRuns", fn := fun _ => fun
  | [d1, d2] => { results := [.lit (.bool true)], args := [d1, d2] }
  | _ => none }
def cpusRunsRow : OpenClaim := { program := "ythnbmepdolfbnaadoor", sum := "411d5aea238436d6372108aa19c8671b793bb61334e3663abb5719bb5f8ef917", func := "turnspit/turnspitlaw05.CpusRuns", spec := "cpusRuns", inPlace := ["internal/abi.NoEscape"], unfollowed := true, recurses := true, named := ["internal/strconv.uint64pow10", "math/bits.deBruijn32tab", "math/bits.deBruijn64tab"], apart := false, laid := [("math/bits.deBruijn32tab", laid_math_bits_deBruijn32tab), ("math/bits.deBruijn64tab", laid_math_bits_deBruijn64tab), ("internal/strconv.uint64pow10", laid_internal_strconv_uint64pow10)] }
def CpusRunsSaid : Prop := cpusRunsRow.holds Tryd.pinned (OpenSpec.ofChange cpusRunsSpec)

/-- ITS FALSE NEIGHBOUR: 'it returns false'. Refute it at one input. -/
def cpusRunsWrong : ChangeSpec := { name := "cpusRuns", fn := fun _ => fun
  | [d1, d2] => { results := [.lit (.bool false)], args := [d1, d2] }
  | _ => none }
def CpusRunsWrongFalsely : Prop := cpusRunsRow.holds Tryd.pinned (OpenSpec.ofChange cpusRunsWrong)

/-- 'turnspitlaw05.CpusApart': WHATEVER THE INPUT: true; the input reads as it did. -/
def cpusApartSpec : ChangeSpec := { name := "cpusApart", fn := fun _ => fun
  | [d1, d2] => { results := [.lit (.bool true)], args := [d1, d2] }
  | _ => none }
def cpusApartRow : OpenClaim := { program := "ythnbmepdolfbnaadoor", sum := "411d5aea238436d6372108aa19c8671b793bb61334e3663abb5719bb5f8ef917", func := "turnspit/turnspitlaw05.CpusApart", spec := "cpusApart", inPlace := ["internal/abi.NoEscape"], unfollowed := true, recurses := true, named := ["internal/strconv.uint64pow10", "math/bits.deBruijn32tab", "math/bits.deBruijn64tab"], apart := false, laid := [("math/bits.deBruijn32tab", laid_math_bits_deBruijn32tab), ("math/bits.deBruijn64tab", laid_math_bits_deBruijn64tab), ("internal/strconv.uint64pow10", laid_internal_strconv_uint64pow10)] }
def CpusApartSaid : Prop := cpusApartRow.holds Tryd.pinned (OpenSpec.ofChange cpusApartSpec)

/-- ITS FALSE NEIGHBOUR: 'it returns false'. Refute it at one input. -/
def cpusApartWrong : ChangeSpec := { name := "cpusApart", fn := fun _ => fun
  | [d1, d2] => { results := [.lit (.bool false)], args := [d1, d2] }
  | _ => none }
def CpusApartWrongFalsely : Prop := cpusApartRow.holds Tryd.pinned (OpenSpec.ofChange cpusApartWrong)

/-- 'turnspitlaw05.CpusSpoilt': WHATEVER THE INPUT: true; the input reads as it did. -/
def cpusSpoiltSpec : ChangeSpec := { name := "cpusSpoilt", fn := fun _ => fun
  | [d1, d2] => { results := [.lit (.bool true)], args := [d1, d2] }
  | _ => none }
def cpusSpoiltRow : OpenClaim := { program := "ythnbmepdolfbnaadoor", sum := "411d5aea238436d6372108aa19c8671b793bb61334e3663abb5719bb5f8ef917", func := "turnspit/turnspitlaw05.CpusSpoilt", spec := "cpusSpoilt", inPlace := ["internal/abi.NoEscape"], unfollowed := true, recurses := true, named := ["internal/strconv.uint64pow10", "math/bits.deBruijn32tab", "math/bits.deBruijn64tab"], apart := false, laid := [("math/bits.deBruijn32tab", laid_math_bits_deBruijn32tab), ("math/bits.deBruijn64tab", laid_math_bits_deBruijn64tab), ("internal/strconv.uint64pow10", laid_internal_strconv_uint64pow10)] }
def CpusSpoiltSaid : Prop := cpusSpoiltRow.holds Tryd.pinned (OpenSpec.ofChange cpusSpoiltSpec)

/-- ITS FALSE NEIGHBOUR: 'it returns false'. Refute it at one input. -/
def cpusSpoiltWrong : ChangeSpec := { name := "cpusSpoilt", fn := fun _ => fun
  | [d1, d2] => { results := [.lit (.bool false)], args := [d1, d2] }
  | _ => none }
def CpusSpoiltWrongFalsely : Prop := cpusSpoiltRow.holds Tryd.pinned (OpenSpec.ofChange cpusSpoiltWrong)

/- THE SECOND FORM. 'bulk': how many values and letters a reading holds, each counted each time it is reached (what is shared counts as often as it is met; a slice's spare places count too). A statement '..UptoSaid' is the law's where the arguments, and the package variables that the reading takes, are together of bulk at most 1048576: NARROWER than '..Said'. Prove '..Said' where nothing that the law and all that it calls make is longer than what came in: it says more and counts as full. Else prove '..UptoSaid'. A law counts once. -/
mutual
def uptoBulk {H : Type} : DataW H → Nat
  | .lit (.string bytes) => bytes.length + 1
  | .lit _ => 1
  | .nil => 1
  | .ptr d => uptoBulk d + 1
  | .slice elems spare => uptoBulkAll elems + uptoBulkAll spare + 1
  | .agg parts => uptoBulkAll parts + 1
  | .iface _ d => uptoBulk d + 1
  | .map entries => uptoBulkEntries entries + 1
  | .held _ => 1
def uptoBulkAll {H : Type} : List (DataW H) → Nat
  | [] => 0
  | d :: r => uptoBulk d + uptoBulkAll r
def uptoBulkEntries {H : Type} : List (Lit × DataW H) → Nat
  | [] => 0
  | x :: r => uptoBulkEntry x + uptoBulkEntries r
def uptoBulkEntry {H : Type} : Lit × DataW H → Nat
  | (.string bytes, d) => bytes.length + uptoBulk d + 1
  | (_, d) => uptoBulk d + 1
 end
def uptoSmall : (H : Type) → List (DataW H) → Bool := fun _ ds => decide (uptoBulkAll ds ≤ 1048576)
def OpenSpec.upto (s : _root_.Go.ChangeSpec) : _root_.Go.OpenSpec := { _root_.Go.OpenSpec.ofChange s with cond := some uptoSmall }

/-- 'turnspitlaw05.CpusPrints', WHERE WHAT IT READS IS OF BULK AT MOST 1048576: true; the input reads as it did. -/
def cpusPrintsUptoRow : OpenClaim := { program := "ythnbmepdolfbnaadoor", sum := "411d5aea238436d6372108aa19c8671b793bb61334e3663abb5719bb5f8ef917", func := "turnspit/turnspitlaw05.CpusPrints", spec := "cpusPrints", inPlace := ["internal/abi.NoEscape"], unfollowed := true, recurses := true, named := ["internal/strconv.uint64pow10", "math/bits.deBruijn32tab", "math/bits.deBruijn64tab"], apart := false, laid := [("math/bits.deBruijn32tab", laid_math_bits_deBruijn32tab), ("math/bits.deBruijn64tab", laid_math_bits_deBruijn64tab), ("internal/strconv.uint64pow10", laid_internal_strconv_uint64pow10)], narrowed := true }
def CpusPrintsUptoSaid : Prop := cpusPrintsUptoRow.holds Tryd.pinned (OpenSpec.upto cpusPrintsSpec)

/-- 'turnspitlaw05.CpusParses', WHERE WHAT IT READS IS OF BULK AT MOST 1048576: true; the input reads as it did. -/
def cpusParsesUptoRow : OpenClaim := { program := "ythnbmepdolfbnaadoor", sum := "411d5aea238436d6372108aa19c8671b793bb61334e3663abb5719bb5f8ef917", func := "turnspit/turnspitlaw05.CpusParses", spec := "cpusParses", inPlace := ["internal/abi.NoEscape"], unfollowed := true, recurses := true, named := ["internal/strconv.uint64pow10", "math/bits.deBruijn32tab", "math/bits.deBruijn64tab"], apart := false, laid := [("math/bits.deBruijn32tab", laid_math_bits_deBruijn32tab), ("math/bits.deBruijn64tab", laid_math_bits_deBruijn64tab), ("internal/strconv.uint64pow10", laid_internal_strconv_uint64pow10)], narrowed := true }
def CpusParsesUptoSaid : Prop := cpusParsesUptoRow.holds Tryd.pinned (OpenSpec.upto cpusParsesSpec)

/-- 'turnspitlaw05.CpusCanon', WHERE WHAT IT READS IS OF BULK AT MOST 1048576: true; the input reads as it did. -/
def cpusCanonUptoRow : OpenClaim := { program := "ythnbmepdolfbnaadoor", sum := "411d5aea238436d6372108aa19c8671b793bb61334e3663abb5719bb5f8ef917", func := "turnspit/turnspitlaw05.CpusCanon", spec := "cpusCanon", inPlace := ["internal/abi.NoEscape"], unfollowed := true, recurses := true, named := ["internal/strconv.uint64pow10", "math/bits.deBruijn32tab", "math/bits.deBruijn64tab"], apart := false, laid := [("math/bits.deBruijn32tab", laid_math_bits_deBruijn32tab), ("math/bits.deBruijn64tab", laid_math_bits_deBruijn64tab), ("internal/strconv.uint64pow10", laid_internal_strconv_uint64pow10)], narrowed := true }
def CpusCanonUptoSaid : Prop := cpusCanonUptoRow.holds Tryd.pinned (OpenSpec.upto cpusCanonSpec)

/-- 'turnspitlaw05.CpusBoth', WHERE WHAT IT READS IS OF BULK AT MOST 1048576: true; the input reads as it did. -/
def cpusBothUptoRow : OpenClaim := { program := "ythnbmepdolfbnaadoor", sum := "411d5aea238436d6372108aa19c8671b793bb61334e3663abb5719bb5f8ef917", func := "turnspit/turnspitlaw05.CpusBoth", spec := "cpusBoth", inPlace := ["internal/abi.NoEscape"], unfollowed := true, recurses := true, named := ["internal/strconv.uint64pow10", "math/bits.deBruijn32tab", "math/bits.deBruijn64tab"], apart := false, laid := [("math/bits.deBruijn32tab", laid_math_bits_deBruijn32tab), ("math/bits.deBruijn64tab", laid_math_bits_deBruijn64tab), ("internal/strconv.uint64pow10", laid_internal_strconv_uint64pow10)], narrowed := true }
def CpusBothUptoSaid : Prop := cpusBothUptoRow.holds Tryd.pinned (OpenSpec.upto cpusBothSpec)

/-- 'turnspitlaw05.CpusRuns', WHERE WHAT IT READS IS OF BULK AT MOST 1048576: true; the input reads as it did. -/
def cpusRunsUptoRow : OpenClaim := { program := "ythnbmepdolfbnaadoor", sum := "411d5aea238436d6372108aa19c8671b793bb61334e3663abb5719bb5f8ef917", func := "turnspit/turnspitlaw05.CpusRuns", spec := "cpusRuns", inPlace := ["internal/abi.NoEscape"], unfollowed := true, recurses := true, named := ["internal/strconv.uint64pow10", "math/bits.deBruijn32tab", "math/bits.deBruijn64tab"], apart := false, laid := [("math/bits.deBruijn32tab", laid_math_bits_deBruijn32tab), ("math/bits.deBruijn64tab", laid_math_bits_deBruijn64tab), ("internal/strconv.uint64pow10", laid_internal_strconv_uint64pow10)], narrowed := true }
def CpusRunsUptoSaid : Prop := cpusRunsUptoRow.holds Tryd.pinned (OpenSpec.upto cpusRunsSpec)

/-- 'turnspitlaw05.CpusApart', WHERE WHAT IT READS IS OF BULK AT MOST 1048576: true; the input reads as it did. -/
def cpusApartUptoRow : OpenClaim := { program := "ythnbmepdolfbnaadoor", sum := "411d5aea238436d6372108aa19c8671b793bb61334e3663abb5719bb5f8ef917", func := "turnspit/turnspitlaw05.CpusApart", spec := "cpusApart", inPlace := ["internal/abi.NoEscape"], unfollowed := true, recurses := true, named := ["internal/strconv.uint64pow10", "math/bits.deBruijn32tab", "math/bits.deBruijn64tab"], apart := false, laid := [("math/bits.deBruijn32tab", laid_math_bits_deBruijn32tab), ("math/bits.deBruijn64tab", laid_math_bits_deBruijn64tab), ("internal/strconv.uint64pow10", laid_internal_strconv_uint64pow10)], narrowed := true }
def CpusApartUptoSaid : Prop := cpusApartUptoRow.holds Tryd.pinned (OpenSpec.upto cpusApartSpec)

/-- 'turnspitlaw05.CpusSpoilt', WHERE WHAT IT READS IS OF BULK AT MOST 1048576: true; the input reads as it did. -/
def cpusSpoiltUptoRow : OpenClaim := { program := "ythnbmepdolfbnaadoor", sum := "411d5aea238436d6372108aa19c8671b793bb61334e3663abb5719bb5f8ef917", func := "turnspit/turnspitlaw05.CpusSpoilt", spec := "cpusSpoilt", inPlace := ["internal/abi.NoEscape"], unfollowed := true, recurses := true, named := ["internal/strconv.uint64pow10", "math/bits.deBruijn32tab", "math/bits.deBruijn64tab"], apart := false, laid := [("math/bits.deBruijn32tab", laid_math_bits_deBruijn32tab), ("math/bits.deBruijn64tab", laid_math_bits_deBruijn64tab), ("internal/strconv.uint64pow10", laid_internal_strconv_uint64pow10)], narrowed := true }
def CpusSpoiltUptoSaid : Prop := cpusSpoiltUptoRow.holds Tryd.pinned (OpenSpec.upto cpusSpoiltSpec)

end Rows
end Go.Proofs.YthnbmepdolfbnaaDoor

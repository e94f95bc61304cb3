/-
  NARROWER THAN 'FOR EVERY INPUT', by the rows' own cells (each row's printed sentence says how): CallsPrints: laid · CallsParses: laid · CallsAnswers: laid · CallsBack: laid · CallsOnly: laid · CallsMade: laid · CallsApart: laid.
  DERIVED. THE GIVEN ROWS OF THIS SEAT. 7 by the template 'for every input the law returns true; each argument reads behind the call as it read before'; 0 by the template 'total and deterministic' (their statements: YtilmbpdfdickoaaDoorTotals.lean).
  GIVEN WITH THE SEED: the statements are not yours to turn. If you find one false, say at which input.
  Laid BY PROGRAM, IN A SANDBOX (cutbox-rows.mjs): the forced cells as the released guide's own fill.sh prints them over the translation a32ab98641cef72a… (all of the seat's roots in one cut). By AI agents, Wed Nov 11 2026. No macro, syntax, notation, axiom, sorry.
-/
import Derived.Test.YtilmbpdfdickoaaDoorChecked
import GoSem.PinnedTables
import GoSem.Claim
import GoSem.ClaimJoined
import GoSem.ClaimMapViews
import Derived.JoinedTies
import Derived.KernelRfl
namespace Go.Proofs.YtilmbpdfdickoaaDoor
/- THE CELL 'sum', in the pinned program and in every row, IS THE sha256 OF THE DUMP (.gsa) THAT YtilmbpdfdickoaaDoorProg.lean LOADS. Nothing in Lean hashes anything: it is a label: what it is worth is what the hold of that sum in a sandbox is worth. -/
noncomputable def Tryd.pinned : Pinned := { name := "ytilmbpdfdickoaadoor", sum := "a32ab98641cef72a578bd1e16b7d3f8571cbbd997961f1da184cef51bbdad090", checked := Tryd.checked }
namespace Rows
def none {H : Type} : Left H := { results := [], args := [] }

/- WHAT THE LISTED PACKAGE-LEVEL VARIABLES READ AS WHEN THE CALL BEGINS. Each datum BY PROGRAM (the guide's laid-datum.mjs) off the statement by which the dump's own 'gosem.cut.vars' lays the variable. In a bare row this is a premise. The card (YtilmbpdfdickoaaDoorCards.lean) ties it to the program's text. -/
def laid_math_bits_deBruijn32tab {H : Type} : DataW H := .agg [.lit (.int .u8 0), .lit (.int .u8 1), .lit (.int .u8 28), .lit (.int .u8 2), .lit (.int .u8 29), .lit (.int .u8 14), .lit (.int .u8 24), .lit (.int .u8 3), .lit (.int .u8 30), .lit (.int .u8 22), .lit (.int .u8 20), .lit (.int .u8 15), .lit (.int .u8 25), .lit (.int .u8 17), .lit (.int .u8 4), .lit (.int .u8 8), .lit (.int .u8 31), .lit (.int .u8 27), .lit (.int .u8 13), .lit (.int .u8 23), .lit (.int .u8 21), .lit (.int .u8 19), .lit (.int .u8 16), .lit (.int .u8 7), .lit (.int .u8 26), .lit (.int .u8 12), .lit (.int .u8 18), .lit (.int .u8 6), .lit (.int .u8 11), .lit (.int .u8 5), .lit (.int .u8 10), .lit (.int .u8 9)]
def laid_math_bits_deBruijn64tab {H : Type} : DataW H := .agg [.lit (.int .u8 0), .lit (.int .u8 1), .lit (.int .u8 56), .lit (.int .u8 2), .lit (.int .u8 57), .lit (.int .u8 49), .lit (.int .u8 28), .lit (.int .u8 3), .lit (.int .u8 61), .lit (.int .u8 58), .lit (.int .u8 42), .lit (.int .u8 50), .lit (.int .u8 38), .lit (.int .u8 29), .lit (.int .u8 17), .lit (.int .u8 4), .lit (.int .u8 62), .lit (.int .u8 47), .lit (.int .u8 59), .lit (.int .u8 36), .lit (.int .u8 45), .lit (.int .u8 43), .lit (.int .u8 51), .lit (.int .u8 22), .lit (.int .u8 53), .lit (.int .u8 39), .lit (.int .u8 33), .lit (.int .u8 30), .lit (.int .u8 24), .lit (.int .u8 18), .lit (.int .u8 12), .lit (.int .u8 5), .lit (.int .u8 63), .lit (.int .u8 55), .lit (.int .u8 48), .lit (.int .u8 27), .lit (.int .u8 60), .lit (.int .u8 41), .lit (.int .u8 37), .lit (.int .u8 16), .lit (.int .u8 46), .lit (.int .u8 35), .lit (.int .u8 44), .lit (.int .u8 21), .lit (.int .u8 52), .lit (.int .u8 32), .lit (.int .u8 23), .lit (.int .u8 11), .lit (.int .u8 54), .lit (.int .u8 26), .lit (.int .u8 40), .lit (.int .u8 15), .lit (.int .u8 34), .lit (.int .u8 20), .lit (.int .u8 31), .lit (.int .u8 10), .lit (.int .u8 25), .lit (.int .u8 14), .lit (.int .u8 19), .lit (.int .u8 9), .lit (.int .u8 13), .lit (.int .u8 8), .lit (.int .u8 7), .lit (.int .u8 6)]
def laid_internal_strconv_uint64pow10 {H : Type} : DataW H := .agg [.lit (.int .u64 1), .lit (.int .u64 10), .lit (.int .u64 100), .lit (.int .u64 1000), .lit (.int .u64 10000), .lit (.int .u64 100000), .lit (.int .u64 1000000), .lit (.int .u64 10000000), .lit (.int .u64 100000000), .lit (.int .u64 1000000000), .lit (.int .u64 10000000000), .lit (.int .u64 100000000000), .lit (.int .u64 1000000000000), .lit (.int .u64 10000000000000), .lit (.int .u64 100000000000000), .lit (.int .u64 1000000000000000), .lit (.int .u64 10000000000000000), .lit (.int .u64 100000000000000000), .lit (.int .u64 1000000000000000000), .lit (.int .u64 10000000000000000000)]
def laid_unicode_utf8_acceptRanges {H : Type} : DataW H := .agg [.agg [.lit (.int .u8 128), .lit (.int .u8 191)], .agg [.lit (.int .u8 160), .lit (.int .u8 191)], .agg [.lit (.int .u8 128), .lit (.int .u8 159)], .agg [.lit (.int .u8 144), .lit (.int .u8 191)], .agg [.lit (.int .u8 128), .lit (.int .u8 143)], .agg [.lit (.int .u8 0), .lit (.int .u8 0)], .agg [.lit (.int .u8 0), .lit (.int .u8 0)], .agg [.lit (.int .u8 0), .lit (.int .u8 0)], .agg [.lit (.int .u8 0), .lit (.int .u8 0)], .agg [.lit (.int .u8 0), .lit (.int .u8 0)], .agg [.lit (.int .u8 0), .lit (.int .u8 0)], .agg [.lit (.int .u8 0), .lit (.int .u8 0)], .agg [.lit (.int .u8 0), .lit (.int .u8 0)], .agg [.lit (.int .u8 0), .lit (.int .u8 0)], .agg [.lit (.int .u8 0), .lit (.int .u8 0)], .agg [.lit (.int .u8 0), .lit (.int .u8 0)]]
def laid_strconv_ErrRange {H : Type} : DataW H := .iface "*errors.errorString" (.ptr (.agg [.lit (.string [118, 97, 108, 117, 101, 32, 111, 117, 116, 32, 111, 102, 32, 114, 97, 110, 103, 101])]))
def laid_strconv_ErrSyntax {H : Type} : DataW H := .iface "*errors.errorString" (.ptr (.agg [.lit (.string [105, 110, 118, 97, 108, 105, 100, 32, 115, 121, 110, 116, 97, 120])]))
def laid_turnspit_calls_fields {H : Type} : DataW H := .iface "func table" (.map [(.int .i32 99, .agg [.iface "func" (.lit (.string [40, 42, 116, 117, 114, 110, 115, 112, 105, 116, 47, 99, 97, 108, 108, 115, 46, 99, 97, 108, 108, 41, 46, 116, 101, 108, 108, 67, 112, 117])), .iface "func" (.lit (.string [40, 42, 116, 117, 114, 110, 115, 112, 105, 116, 47, 99, 97, 108, 108, 115, 46, 99, 97, 108, 108, 41, 46, 114, 101, 97, 100, 67, 112, 117]))]), (.int .i32 107, .agg [.iface "func" (.lit (.string [40, 42, 116, 117, 114, 110, 115, 112, 105, 116, 47, 99, 97, 108, 108, 115, 46, 99, 97, 108, 108, 41, 46, 116, 101, 108, 108, 78])), .iface "func" (.lit (.string [40, 42, 116, 117, 114, 110, 115, 112, 105, 116, 47, 99, 97, 108, 108, 115, 46, 99, 97, 108, 108, 41, 46, 114, 101, 97, 100, 78]))]), (.int .i32 109, .agg [.iface "func" (.lit (.string [40, 42, 116, 117, 114, 110, 115, 112, 105, 116, 47, 99, 97, 108, 108, 115, 46, 99, 97, 108, 108, 41, 46, 116, 101, 108, 108, 77, 97, 115, 107])), .iface "func" (.lit (.string [40, 42, 116, 117, 114, 110, 115, 112, 105, 116, 47, 99, 97, 108, 108, 115, 46, 99, 97, 108, 108, 41, 46, 114, 101, 97, 100, 77, 97, 115, 107]))]), (.int .i32 110, .agg [.iface "func" (.lit (.string [40, 42, 116, 117, 114, 110, 115, 112, 105, 116, 47, 99, 97, 108, 108, 115, 46, 99, 97, 108, 108, 41, 46, 116, 101, 108, 108, 78, 105, 99, 101])), .iface "func" (.lit (.string [40, 42, 116, 117, 114, 110, 115, 112, 105, 116, 47, 99, 97, 108, 108, 115, 46, 99, 97, 108, 108, 41, 46, 114, 101, 97, 100, 78, 105, 99, 101]))]), (.int .i32 116, .agg [.iface "func" (.lit (.string [40, 42, 116, 117, 114, 110, 115, 112, 105, 116, 47, 99, 97, 108, 108, 115, 46, 99, 97, 108, 108, 41, 46, 116, 101, 108, 108, 84, 97, 115, 107])), .iface "func" (.lit (.string [40, 42, 116, 117, 114, 110, 115, 112, 105, 116, 47, 99, 97, 108, 108, 115, 46, 99, 97, 108, 108, 41, 46, 114, 101, 97, 100, 84, 97, 115, 107]))])])
def laid_turnspit_calls_ops {H : Type} : DataW H := .agg [.agg [.lit (.string []), .lit (.string [])], .agg [.lit (.string [99, 114, 101, 97, 116, 101]), .lit (.string [110, 109])], .agg [.lit (.string [101, 120, 105, 116]), .lit (.string [116])], .agg [.lit (.string [119, 97, 107, 101]), .lit (.string [116])], .agg [.lit (.string [98, 108, 111, 99, 107]), .lit (.string [99])], .agg [.lit (.string [121, 105, 101, 108, 100]), .lit (.string [99])], .agg [.lit (.string [116, 105, 99, 107]), .lit (.string [99, 107])], .agg [.lit (.string [112, 105, 99, 107]), .lit (.string [99])], .agg [.lit (.string [109, 105, 103, 114, 97, 116, 101]), .lit (.string [116, 99])], .agg [.lit (.string [109, 97, 115, 107]), .lit (.string [116, 109])], .agg [.lit (.string [110, 105, 99, 101]), .lit (.string [116, 110])], .agg [.lit (.string [98, 97, 108, 97, 110, 99, 101]), .lit (.string [99, 107])], .agg [.lit (.string [115, 116, 111, 112]), .lit (.string [99])], .agg [.lit (.string [108, 111, 111, 107]), .lit (.string [116])]]
/-- One of Go's own tables, pinned by name: the form's constant. -/
def laid_unicode_utf8_first : DataW Unit := Go.Pinned.utf8First

/-- 'turnspitlaw15.CallsPrints': WHATEVER THE INPUT: true; the input reads as it did. -/
def callsPrintsSpec : ChangeSpec := { name := "callsPrints", fn := fun _ => fun
  | [d] => { results := [.lit (.bool true)], args := [d] }
  | _ => none }
def callsPrintsRow : OpenClaim := { program := "ytilmbpdfdickoaadoor", sum := "a32ab98641cef72a578bd1e16b7d3f8571cbbd997961f1da184cef51bbdad090", func := "turnspit/turnspitlaw15.CallsPrints", spec := "callsPrints", inPlace := ["internal/abi.NoEscape", "internal/bytealg.MakeNoZero", "internal/bytealg.IndexByteString", "internal/bytealg.IndexString", "internal/bytealg.CountString"], unfollowed := true, recurses := true, named := ["turnspit/calls.ops", "turnspit/calls.fields", "unicode/utf8.first", "unicode/utf8.acceptRanges", "internal/bytealg.MaxLen", "internal/strconv.uint64pow10", "math/bits.deBruijn32tab", "math/bits.deBruijn64tab", "strconv.ErrSyntax", "strconv.ErrRange"], apart := false, laid := [("math/bits.deBruijn32tab", laid_math_bits_deBruijn32tab), ("math/bits.deBruijn64tab", laid_math_bits_deBruijn64tab), ("internal/strconv.uint64pow10", laid_internal_strconv_uint64pow10), ("unicode/utf8.acceptRanges", laid_unicode_utf8_acceptRanges), ("strconv.ErrRange", laid_strconv_ErrRange), ("strconv.ErrSyntax", laid_strconv_ErrSyntax), ("turnspit/calls.fields", laid_turnspit_calls_fields), ("turnspit/calls.ops", laid_turnspit_calls_ops), ("unicode/utf8.first", laid_unicode_utf8_first)] }
def CallsPrintsSaid : Prop := callsPrintsRow.holds Tryd.pinned (OpenSpec.ofChange callsPrintsSpec)

/-- ITS FALSE NEIGHBOUR: 'it returns false'. Refute it at one input. -/
def callsPrintsWrong : ChangeSpec := { name := "callsPrints", fn := fun _ => fun
  | [d] => { results := [.lit (.bool false)], args := [d] }
  | _ => none }
def CallsPrintsWrongFalsely : Prop := callsPrintsRow.holds Tryd.pinned (OpenSpec.ofChange callsPrintsWrong)

/-- 'turnspitlaw15.CallsParses': WHATEVER THE INPUT: true; the input reads as it did. -/
def callsParsesSpec : ChangeSpec := { name := "callsParses", fn := fun _ => fun
  | [d] => { results := [.lit (.bool true)], args := [d] }
  | _ => none }
def callsParsesRow : OpenClaim := { program := "ytilmbpdfdickoaadoor", sum := "a32ab98641cef72a578bd1e16b7d3f8571cbbd997961f1da184cef51bbdad090", func := "turnspit/turnspitlaw15.CallsParses", spec := "callsParses", inPlace := ["internal/bytealg.IndexByteString", "internal/bytealg.IndexString", "internal/abi.NoEscape", "internal/bytealg.MakeNoZero", "internal/bytealg.CountString"], unfollowed := true, recurses := true, named := ["turnspit/calls.ops", "turnspit/calls.fields", "unicode/utf8.first", "unicode/utf8.acceptRanges", "internal/bytealg.MaxLen", "internal/strconv.uint64pow10", "math/bits.deBruijn32tab", "math/bits.deBruijn64tab", "strconv.ErrSyntax", "strconv.ErrRange"], apart := false, laid := [("math/bits.deBruijn32tab", laid_math_bits_deBruijn32tab), ("math/bits.deBruijn64tab", laid_math_bits_deBruijn64tab), ("internal/strconv.uint64pow10", laid_internal_strconv_uint64pow10), ("unicode/utf8.acceptRanges", laid_unicode_utf8_acceptRanges), ("strconv.ErrRange", laid_strconv_ErrRange), ("strconv.ErrSyntax", laid_strconv_ErrSyntax), ("turnspit/calls.fields", laid_turnspit_calls_fields), ("turnspit/calls.ops", laid_turnspit_calls_ops), ("unicode/utf8.first", laid_unicode_utf8_first)] }
def CallsParsesSaid : Prop := callsParsesRow.holds Tryd.pinned (OpenSpec.ofChange callsParsesSpec)

/-- ITS FALSE NEIGHBOUR: 'it returns false'. Refute it at one input. -/
def callsParsesWrong : ChangeSpec := { name := "callsParses", fn := fun _ => fun
  | [d] => { results := [.lit (.bool false)], args := [d] }
  | _ => none }
def CallsParsesWrongFalsely : Prop := callsParsesRow.holds Tryd.pinned (OpenSpec.ofChange callsParsesWrong)

/-- 'turnspitlaw15.CallsAnswers': WHATEVER THE INPUT: true; the input reads as it did. -/
def callsAnswersSpec : ChangeSpec := { name := "callsAnswers", fn := fun _ => fun
  | [d1, d2] => { results := [.lit (.bool true)], args := [d1, d2] }
  | _ => none }
def callsAnswersRow : OpenClaim := { program := "ytilmbpdfdickoaadoor", sum := "a32ab98641cef72a578bd1e16b7d3f8571cbbd997961f1da184cef51bbdad090", func := "turnspit/turnspitlaw15.CallsAnswers", spec := "callsAnswers", inPlace := ["internal/bytealg.IndexByteString", "internal/bytealg.IndexString", "internal/abi.NoEscape", "internal/bytealg.MakeNoZero", "internal/bytealg.CountString"], unfollowed := true, recurses := true, named := ["turnspit/calls.ops", "turnspit/calls.fields", "unicode/utf8.first", "unicode/utf8.acceptRanges", "internal/bytealg.MaxLen", "internal/strconv.uint64pow10", "math/bits.deBruijn32tab", "math/bits.deBruijn64tab", "strconv.ErrSyntax", "strconv.ErrRange"], apart := false, laid := [("math/bits.deBruijn32tab", laid_math_bits_deBruijn32tab), ("math/bits.deBruijn64tab", laid_math_bits_deBruijn64tab), ("internal/strconv.uint64pow10", laid_internal_strconv_uint64pow10), ("unicode/utf8.acceptRanges", laid_unicode_utf8_acceptRanges), ("strconv.ErrRange", laid_strconv_ErrRange), ("strconv.ErrSyntax", laid_strconv_ErrSyntax), ("turnspit/calls.fields", laid_turnspit_calls_fields), ("turnspit/calls.ops", laid_turnspit_calls_ops), ("unicode/utf8.first", laid_unicode_utf8_first)] }
def CallsAnswersSaid : Prop := callsAnswersRow.holds Tryd.pinned (OpenSpec.ofChange callsAnswersSpec)

/-- ITS FALSE NEIGHBOUR: 'it returns false'. Refute it at one input. -/
def callsAnswersWrong : ChangeSpec := { name := "callsAnswers", fn := fun _ => fun
  | [d1, d2] => { results := [.lit (.bool false)], args := [d1, d2] }
  | _ => none }
def CallsAnswersWrongFalsely : Prop := callsAnswersRow.holds Tryd.pinned (OpenSpec.ofChange callsAnswersWrong)

/-- 'turnspitlaw15.CallsBack': WHATEVER THE INPUT: true; the input reads as it did. -/
def callsBackSpec : ChangeSpec := { name := "callsBack", fn := fun _ => fun
  | [d1, d2] => { results := [.lit (.bool true)], args := [d1, d2] }
  | _ => none }
def callsBackRow : OpenClaim := { program := "ytilmbpdfdickoaadoor", sum := "a32ab98641cef72a578bd1e16b7d3f8571cbbd997961f1da184cef51bbdad090", func := "turnspit/turnspitlaw15.CallsBack", spec := "callsBack", inPlace := ["internal/bytealg.IndexByteString", "internal/bytealg.IndexString", "internal/abi.NoEscape", "internal/bytealg.MakeNoZero", "internal/bytealg.CountString"], unfollowed := true, recurses := true, named := ["turnspit/calls.ops", "turnspit/calls.fields", "unicode/utf8.first", "unicode/utf8.acceptRanges", "internal/bytealg.MaxLen", "internal/strconv.uint64pow10", "math/bits.deBruijn32tab", "math/bits.deBruijn64tab", "strconv.ErrSyntax", "strconv.ErrRange"], apart := false, laid := [("math/bits.deBruijn32tab", laid_math_bits_deBruijn32tab), ("math/bits.deBruijn64tab", laid_math_bits_deBruijn64tab), ("internal/strconv.uint64pow10", laid_internal_strconv_uint64pow10), ("unicode/utf8.acceptRanges", laid_unicode_utf8_acceptRanges), ("strconv.ErrRange", laid_strconv_ErrRange), ("strconv.ErrSyntax", laid_strconv_ErrSyntax), ("turnspit/calls.fields", laid_turnspit_calls_fields), ("turnspit/calls.ops", laid_turnspit_calls_ops), ("unicode/utf8.first", laid_unicode_utf8_first)] }
def CallsBackSaid : Prop := callsBackRow.holds Tryd.pinned (OpenSpec.ofChange callsBackSpec)

/-- ITS FALSE NEIGHBOUR: 'it returns false'. Refute it at one input. -/
def callsBackWrong : ChangeSpec := { name := "callsBack", fn := fun _ => fun
  | [d1, d2] => { results := [.lit (.bool false)], args := [d1, d2] }
  | _ => none }
def CallsBackWrongFalsely : Prop := callsBackRow.holds Tryd.pinned (OpenSpec.ofChange callsBackWrong)

/-- 'turnspitlaw15.CallsOnly': WHATEVER THE INPUT: true; the input reads as it did. -/
def callsOnlySpec : ChangeSpec := { name := "callsOnly", fn := fun _ => fun
  | [d1, d2] => { results := [.lit (.bool true)], args := [d1, d2] }
  | _ => none }
def callsOnlyRow : OpenClaim := { program := "ytilmbpdfdickoaadoor", sum := "a32ab98641cef72a578bd1e16b7d3f8571cbbd997961f1da184cef51bbdad090", func := "turnspit/turnspitlaw15.CallsOnly", spec := "callsOnly", inPlace := ["internal/bytealg.IndexByteString", "internal/bytealg.IndexString", "internal/abi.NoEscape", "internal/bytealg.MakeNoZero", "internal/bytealg.CountString"], unfollowed := true, recurses := true, named := ["turnspit/calls.ops", "turnspit/calls.fields", "unicode/utf8.first", "unicode/utf8.acceptRanges", "internal/bytealg.MaxLen", "internal/strconv.uint64pow10", "math/bits.deBruijn32tab", "math/bits.deBruijn64tab", "strconv.ErrSyntax", "strconv.ErrRange"], apart := false, laid := [("math/bits.deBruijn32tab", laid_math_bits_deBruijn32tab), ("math/bits.deBruijn64tab", laid_math_bits_deBruijn64tab), ("internal/strconv.uint64pow10", laid_internal_strconv_uint64pow10), ("unicode/utf8.acceptRanges", laid_unicode_utf8_acceptRanges), ("strconv.ErrRange", laid_strconv_ErrRange), ("strconv.ErrSyntax", laid_strconv_ErrSyntax), ("turnspit/calls.fields", laid_turnspit_calls_fields), ("turnspit/calls.ops", laid_turnspit_calls_ops), ("unicode/utf8.first", laid_unicode_utf8_first)] }
def CallsOnlySaid : Prop := callsOnlyRow.holds Tryd.pinned (OpenSpec.ofChange callsOnlySpec)

/-- ITS FALSE NEIGHBOUR: 'it returns false'. Refute it at one input. -/
def callsOnlyWrong : ChangeSpec := { name := "callsOnly", fn := fun _ => fun
  | [d1, d2] => { results := [.lit (.bool false)], args := [d1, d2] }
  | _ => none }
def CallsOnlyWrongFalsely : Prop := callsOnlyRow.holds Tryd.pinned (OpenSpec.ofChange callsOnlyWrong)

/-- 'turnspitlaw15.CallsMade': WHATEVER THE INPUT: true; the input reads as it did. -/
def callsMadeSpec : ChangeSpec := { name := "callsMade", fn := fun _ => fun
  | [d1, d2] => { results := [.lit (.bool true)], args := [d1, d2] }
  | _ => none }
def callsMadeRow : OpenClaim := { program := "ytilmbpdfdickoaadoor", sum := "a32ab98641cef72a578bd1e16b7d3f8571cbbd997961f1da184cef51bbdad090", func := "turnspit/turnspitlaw15.CallsMade", spec := "callsMade", inPlace := ["internal/bytealg.IndexByteString", "internal/bytealg.IndexString", "internal/abi.NoEscape", "internal/bytealg.MakeNoZero", "internal/bytealg.CountString"], unfollowed := true, recurses := true, named := ["turnspit/calls.ops", "turnspit/calls.fields", "unicode/utf8.first", "unicode/utf8.acceptRanges", "internal/bytealg.MaxLen", "internal/strconv.uint64pow10", "math/bits.deBruijn32tab", "math/bits.deBruijn64tab", "strconv.ErrSyntax", "strconv.ErrRange"], apart := false, laid := [("math/bits.deBruijn32tab", laid_math_bits_deBruijn32tab), ("math/bits.deBruijn64tab", laid_math_bits_deBruijn64tab), ("internal/strconv.uint64pow10", laid_internal_strconv_uint64pow10), ("unicode/utf8.acceptRanges", laid_unicode_utf8_acceptRanges), ("strconv.ErrRange", laid_strconv_ErrRange), ("strconv.ErrSyntax", laid_strconv_ErrSyntax), ("turnspit/calls.fields", laid_turnspit_calls_fields), ("turnspit/calls.ops", laid_turnspit_calls_ops), ("unicode/utf8.first", laid_unicode_utf8_first)] }
def CallsMadeSaid : Prop := callsMadeRow.holds Tryd.pinned (OpenSpec.ofChange callsMadeSpec)

/-- ITS FALSE NEIGHBOUR: 'it returns false'. Refute it at one input. -/
def callsMadeWrong : ChangeSpec := { name := "callsMade", fn := fun _ => fun
  | [d1, d2] => { results := [.lit (.bool false)], args := [d1, d2] }
  | _ => none }
def CallsMadeWrongFalsely : Prop := callsMadeRow.holds Tryd.pinned (OpenSpec.ofChange callsMadeWrong)

/-- 'turnspitlaw15.CallsApart': WHATEVER THE INPUT: true; the input reads as it did. -/
def callsApartSpec : ChangeSpec := { name := "callsApart", fn := fun _ => fun
  | [d1, d2, d3] => { results := [.lit (.bool true)], args := [d1, d2, d3] }
  | _ => none }
def callsApartRow : OpenClaim := { program := "ytilmbpdfdickoaadoor", sum := "a32ab98641cef72a578bd1e16b7d3f8571cbbd997961f1da184cef51bbdad090", func := "turnspit/turnspitlaw15.CallsApart", spec := "callsApart", inPlace := ["internal/abi.NoEscape", "internal/bytealg.MakeNoZero", "internal/bytealg.IndexByteString", "internal/bytealg.IndexString", "internal/bytealg.CountString"], unfollowed := true, recurses := true, named := ["turnspit/calls.ops", "turnspit/calls.fields", "unicode/utf8.first", "unicode/utf8.acceptRanges", "internal/bytealg.MaxLen", "internal/strconv.uint64pow10", "math/bits.deBruijn32tab", "math/bits.deBruijn64tab", "strconv.ErrSyntax", "strconv.ErrRange"], apart := false, laid := [("math/bits.deBruijn32tab", laid_math_bits_deBruijn32tab), ("math/bits.deBruijn64tab", laid_math_bits_deBruijn64tab), ("internal/strconv.uint64pow10", laid_internal_strconv_uint64pow10), ("unicode/utf8.acceptRanges", laid_unicode_utf8_acceptRanges), ("strconv.ErrRange", laid_strconv_ErrRange), ("strconv.ErrSyntax", laid_strconv_ErrSyntax), ("turnspit/calls.fields", laid_turnspit_calls_fields), ("turnspit/calls.ops", laid_turnspit_calls_ops), ("unicode/utf8.first", laid_unicode_utf8_first)] }
def CallsApartSaid : Prop := callsApartRow.holds Tryd.pinned (OpenSpec.ofChange callsApartSpec)

/-- ITS FALSE NEIGHBOUR: 'it returns false'. Refute it at one input. -/
def callsApartWrong : ChangeSpec := { name := "callsApart", fn := fun _ => fun
  | [d1, d2, d3] => { results := [.lit (.bool false)], args := [d1, d2, d3] }
  | _ => none }
def CallsApartWrongFalsely : Prop := callsApartRow.holds Tryd.pinned (OpenSpec.ofChange callsApartWrong)

/- THE SECOND FORM. 'bulk': how many values and letters a reading holds, each counted each time it is reached (what is shared counts as often as it is met; a slice's spare places count too). A statement '..UptoSaid' is the law's where the arguments, and the package variables that the reading takes, are together of bulk at most 1048576: NARROWER than '..Said'. Prove '..Said' where nothing that the law and all that it calls make is longer than what came in: it says more and counts as full. Else prove '..UptoSaid'. A law counts once. -/
mutual
def uptoBulk {H : Type} : DataW H → Nat
  | .lit (.string bytes) => bytes.length + 1
  | .lit _ => 1
  | .nil => 1
  | .ptr d => uptoBulk d + 1
  | .slice elems spare => uptoBulkAll elems + uptoBulkAll spare + 1
  | .agg parts => uptoBulkAll parts + 1
  | .iface _ d => uptoBulk d + 1
  | .map entries => uptoBulkEntries entries + 1
  | .held _ => 1
def uptoBulkAll {H : Type} : List (DataW H) → Nat
  | [] => 0
  | d :: r => uptoBulk d + uptoBulkAll r
def uptoBulkEntries {H : Type} : List (Lit × DataW H) → Nat
  | [] => 0
  | x :: r => uptoBulkEntry x + uptoBulkEntries r
def uptoBulkEntry {H : Type} : Lit × DataW H → Nat
  | (.string bytes, d) => bytes.length + uptoBulk d + 1
  | (_, d) => uptoBulk d + 1
 end
def uptoSmall : (H : Type) → List (DataW H) → Bool := fun _ ds => decide (uptoBulkAll ds ≤ 1048576)
def OpenSpec.upto (s : _root_.Go.ChangeSpec) : _root_.Go.OpenSpec := { _root_.Go.OpenSpec.ofChange s with cond := some uptoSmall }

/-- 'turnspitlaw15.CallsPrints', WHERE WHAT IT READS IS OF BULK AT MOST 1048576: true; the input reads as it did. -/
def callsPrintsUptoRow : OpenClaim := { program := "ytilmbpdfdickoaadoor", sum := "a32ab98641cef72a578bd1e16b7d3f8571cbbd997961f1da184cef51bbdad090", func := "turnspit/turnspitlaw15.CallsPrints", spec := "callsPrints", inPlace := ["internal/abi.NoEscape", "internal/bytealg.MakeNoZero", "internal/bytealg.IndexByteString", "internal/bytealg.IndexString", "internal/bytealg.CountString"], unfollowed := true, recurses := true, named := ["turnspit/calls.ops", "turnspit/calls.fields", "unicode/utf8.first", "unicode/utf8.acceptRanges", "internal/bytealg.MaxLen", "internal/strconv.uint64pow10", "math/bits.deBruijn32tab", "math/bits.deBruijn64tab", "strconv.ErrSyntax", "strconv.ErrRange"], apart := false, laid := [("math/bits.deBruijn32tab", laid_math_bits_deBruijn32tab), ("math/bits.deBruijn64tab", laid_math_bits_deBruijn64tab), ("internal/strconv.uint64pow10", laid_internal_strconv_uint64pow10), ("unicode/utf8.acceptRanges", laid_unicode_utf8_acceptRanges), ("strconv.ErrRange", laid_strconv_ErrRange), ("strconv.ErrSyntax", laid_strconv_ErrSyntax), ("turnspit/calls.fields", laid_turnspit_calls_fields), ("turnspit/calls.ops", laid_turnspit_calls_ops), ("unicode/utf8.first", laid_unicode_utf8_first)], narrowed := true }
def CallsPrintsUptoSaid : Prop := callsPrintsUptoRow.holds Tryd.pinned (OpenSpec.upto callsPrintsSpec)

/-- 'turnspitlaw15.CallsParses', WHERE WHAT IT READS IS OF BULK AT MOST 1048576: true; the input reads as it did. -/
def callsParsesUptoRow : OpenClaim := { program := "ytilmbpdfdickoaadoor", sum := "a32ab98641cef72a578bd1e16b7d3f8571cbbd997961f1da184cef51bbdad090", func := "turnspit/turnspitlaw15.CallsParses", spec := "callsParses", inPlace := ["internal/bytealg.IndexByteString", "internal/bytealg.IndexString", "internal/abi.NoEscape", "internal/bytealg.MakeNoZero", "internal/bytealg.CountString"], unfollowed := true, recurses := true, named := ["turnspit/calls.ops", "turnspit/calls.fields", "unicode/utf8.first", "unicode/utf8.acceptRanges", "internal/bytealg.MaxLen", "internal/strconv.uint64pow10", "math/bits.deBruijn32tab", "math/bits.deBruijn64tab", "strconv.ErrSyntax", "strconv.ErrRange"], apart := false, laid := [("math/bits.deBruijn32tab", laid_math_bits_deBruijn32tab), ("math/bits.deBruijn64tab", laid_math_bits_deBruijn64tab), ("internal/strconv.uint64pow10", laid_internal_strconv_uint64pow10), ("unicode/utf8.acceptRanges", laid_unicode_utf8_acceptRanges), ("strconv.ErrRange", laid_strconv_ErrRange), ("strconv.ErrSyntax", laid_strconv_ErrSyntax), ("turnspit/calls.fields", laid_turnspit_calls_fields), ("turnspit/calls.ops", laid_turnspit_calls_ops), ("unicode/utf8.first", laid_unicode_utf8_first)], narrowed := true }
def CallsParsesUptoSaid : Prop := callsParsesUptoRow.holds Tryd.pinned (OpenSpec.upto callsParsesSpec)

/-- 'turnspitlaw15.CallsAnswers', WHERE WHAT IT READS IS OF BULK AT MOST 1048576: true; the input reads as it did. -/
def callsAnswersUptoRow : OpenClaim := { program := "ytilmbpdfdickoaadoor", sum := "a32ab98641cef72a578bd1e16b7d3f8571cbbd997961f1da184cef51bbdad090", func := "turnspit/turnspitlaw15.CallsAnswers", spec := "callsAnswers", inPlace := ["internal/bytealg.IndexByteString", "internal/bytealg.IndexString", "internal/abi.NoEscape", "internal/bytealg.MakeNoZero", "internal/bytealg.CountString"], unfollowed := true, recurses := true, named := ["turnspit/calls.ops", "turnspit/calls.fields", "unicode/utf8.first", "unicode/utf8.acceptRanges", "internal/bytealg.MaxLen", "internal/strconv.uint64pow10", "math/bits.deBruijn32tab", "math/bits.deBruijn64tab", "strconv.ErrSyntax", "strconv.ErrRange"], apart := false, laid := [("math/bits.deBruijn32tab", laid_math_bits_deBruijn32tab), ("math/bits.deBruijn64tab", laid_math_bits_deBruijn64tab), ("internal/strconv.uint64pow10", laid_internal_strconv_uint64pow10), ("unicode/utf8.acceptRanges", laid_unicode_utf8_acceptRanges), ("strconv.ErrRange", laid_strconv_ErrRange), ("strconv.ErrSyntax", laid_strconv_ErrSyntax), ("turnspit/calls.fields", laid_turnspit_calls_fields), ("turnspit/calls.ops", laid_turnspit_calls_ops), ("unicode/utf8.first", laid_unicode_utf8_first)], narrowed := true }
def CallsAnswersUptoSaid : Prop := callsAnswersUptoRow.holds Tryd.pinned (OpenSpec.upto callsAnswersSpec)

/-- 'turnspitlaw15.CallsBack', WHERE WHAT IT READS IS OF BULK AT MOST 1048576: true; the input reads as it did. -/
def callsBackUptoRow : OpenClaim := { program := "ytilmbpdfdickoaadoor", sum := "a32ab98641cef72a578bd1e16b7d3f8571cbbd997961f1da184cef51bbdad090", func := "turnspit/turnspitlaw15.CallsBack", spec := "callsBack", inPlace := ["internal/bytealg.IndexByteString", "internal/bytealg.IndexString", "internal/abi.NoEscape", "internal/bytealg.MakeNoZero", "internal/bytealg.CountString"], unfollowed := true, recurses := true, named := ["turnspit/calls.ops", "turnspit/calls.fields", "unicode/utf8.first", "unicode/utf8.acceptRanges", "internal/bytealg.MaxLen", "internal/strconv.uint64pow10", "math/bits.deBruijn32tab", "math/bits.deBruijn64tab", "strconv.ErrSyntax", "strconv.ErrRange"], apart := false, laid := [("math/bits.deBruijn32tab", laid_math_bits_deBruijn32tab), ("math/bits.deBruijn64tab", laid_math_bits_deBruijn64tab), ("internal/strconv.uint64pow10", laid_internal_strconv_uint64pow10), ("unicode/utf8.acceptRanges", laid_unicode_utf8_acceptRanges), ("strconv.ErrRange", laid_strconv_ErrRange), ("strconv.ErrSyntax", laid_strconv_ErrSyntax), ("turnspit/calls.fields", laid_turnspit_calls_fields), ("turnspit/calls.ops", laid_turnspit_calls_ops), ("unicode/utf8.first", laid_unicode_utf8_first)], narrowed := true }
def CallsBackUptoSaid : Prop := callsBackUptoRow.holds Tryd.pinned (OpenSpec.upto callsBackSpec)

/-- 'turnspitlaw15.CallsOnly', WHERE WHAT IT READS IS OF BULK AT MOST 1048576: true; the input reads as it did. -/
def callsOnlyUptoRow : OpenClaim := { program := "ytilmbpdfdickoaadoor", sum := "a32ab98641cef72a578bd1e16b7d3f8571cbbd997961f1da184cef51bbdad090", func := "turnspit/turnspitlaw15.CallsOnly", spec := "callsOnly", inPlace := ["internal/bytealg.IndexByteString", "internal/bytealg.IndexString", "internal/abi.NoEscape", "internal/bytealg.MakeNoZero", "internal/bytealg.CountString"], unfollowed := true, recurses := true, named := ["turnspit/calls.ops", "turnspit/calls.fields", "unicode/utf8.first", "unicode/utf8.acceptRanges", "internal/bytealg.MaxLen", "internal/strconv.uint64pow10", "math/bits.deBruijn32tab", "math/bits.deBruijn64tab", "strconv.ErrSyntax", "strconv.ErrRange"], apart := false, laid := [("math/bits.deBruijn32tab", laid_math_bits_deBruijn32tab), ("math/bits.deBruijn64tab", laid_math_bits_deBruijn64tab), ("internal/strconv.uint64pow10", laid_internal_strconv_uint64pow10), ("unicode/utf8.acceptRanges", laid_unicode_utf8_acceptRanges), ("strconv.ErrRange", laid_strconv_ErrRange), ("strconv.ErrSyntax", laid_strconv_ErrSyntax), ("turnspit/calls.fields", laid_turnspit_calls_fields), ("turnspit/calls.ops", laid_turnspit_calls_ops), ("unicode/utf8.first", laid_unicode_utf8_first)], narrowed := true }
def CallsOnlyUptoSaid : Prop := callsOnlyUptoRow.holds Tryd.pinned (OpenSpec.upto callsOnlySpec)

/-- 'turnspitlaw15.CallsMade', WHERE WHAT IT READS IS OF BULK AT MOST 1048576: true; the input reads as it did. -/
def callsMadeUptoRow : OpenClaim := { program := "ytilmbpdfdickoaadoor", sum := "a32ab98641cef72a578bd1e16b7d3f8571cbbd997961f1da184cef51bbdad090", func := "turnspit/turnspitlaw15.CallsMade", spec := "callsMade", inPlace := ["internal/bytealg.IndexByteString", "internal/bytealg.IndexString", "internal/abi.NoEscape", "internal/bytealg.MakeNoZero", "internal/bytealg.CountString"], unfollowed := true, recurses := true, named := ["turnspit/calls.ops", "turnspit/calls.fields", "unicode/utf8.first", "unicode/utf8.acceptRanges", "internal/bytealg.MaxLen", "internal/strconv.uint64pow10", "math/bits.deBruijn32tab", "math/bits.deBruijn64tab", "strconv.ErrSyntax", "strconv.ErrRange"], apart := false, laid := [("math/bits.deBruijn32tab", laid_math_bits_deBruijn32tab), ("math/bits.deBruijn64tab", laid_math_bits_deBruijn64tab), ("internal/strconv.uint64pow10", laid_internal_strconv_uint64pow10), ("unicode/utf8.acceptRanges", laid_unicode_utf8_acceptRanges), ("strconv.ErrRange", laid_strconv_ErrRange), ("strconv.ErrSyntax", laid_strconv_ErrSyntax), ("turnspit/calls.fields", laid_turnspit_calls_fields), ("turnspit/calls.ops", laid_turnspit_calls_ops), ("unicode/utf8.first", laid_unicode_utf8_first)], narrowed := true }
def CallsMadeUptoSaid : Prop := callsMadeUptoRow.holds Tryd.pinned (OpenSpec.upto callsMadeSpec)

/-- 'turnspitlaw15.CallsApart', WHERE WHAT IT READS IS OF BULK AT MOST 1048576: true; the input reads as it did. -/
def callsApartUptoRow : OpenClaim := { program := "ytilmbpdfdickoaadoor", sum := "a32ab98641cef72a578bd1e16b7d3f8571cbbd997961f1da184cef51bbdad090", func := "turnspit/turnspitlaw15.CallsApart", spec := "callsApart", inPlace := ["internal/abi.NoEscape", "internal/bytealg.MakeNoZero", "internal/bytealg.IndexByteString", "internal/bytealg.IndexString", "internal/bytealg.CountString"], unfollowed := true, recurses := true, named := ["turnspit/calls.ops", "turnspit/calls.fields", "unicode/utf8.first", "unicode/utf8.acceptRanges", "internal/bytealg.MaxLen", "internal/strconv.uint64pow10", "math/bits.deBruijn32tab", "math/bits.deBruijn64tab", "strconv.ErrSyntax", "strconv.ErrRange"], apart := false, laid := [("math/bits.deBruijn32tab", laid_math_bits_deBruijn32tab), ("math/bits.deBruijn64tab", laid_math_bits_deBruijn64tab), ("internal/strconv.uint64pow10", laid_internal_strconv_uint64pow10), ("unicode/utf8.acceptRanges", laid_unicode_utf8_acceptRanges), ("strconv.ErrRange", laid_strconv_ErrRange), ("strconv.ErrSyntax", laid_strconv_ErrSyntax), ("turnspit/calls.fields", laid_turnspit_calls_fields), ("turnspit/calls.ops", laid_turnspit_calls_ops), ("unicode/utf8.first", laid_unicode_utf8_first)], narrowed := true }
def CallsApartUptoSaid : Prop := callsApartUptoRow.holds Tryd.pinned (OpenSpec.upto callsApartSpec)

end Rows
end Go.Proofs.YtilmbpdfdickoaaDoor

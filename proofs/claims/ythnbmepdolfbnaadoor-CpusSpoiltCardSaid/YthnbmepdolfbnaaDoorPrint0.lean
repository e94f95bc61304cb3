-- Written for this claim by a program out of the translation. Lean checks it.
import Derived.Test.YthnbmepdolfbnaaDoorProg
import Derived.Below
import Derived.Deep.Draws
import Derived.Deep.AppendLies
import Derived.Maps.AppendAt
import Derived.OwnWalk
import Derived.Laws.BytesArg
import Derived.Laws.MakeOwn
import Derived.Laws.OwnMore
import Derived.Deep.OwnRows
import Derived.Tactics
import Derived.Lib.ConvBytes
import Derived.Laws.Slices
import Derived.WalkKit
import Derived.KernelRfl
import Derived.RowKit3
import Derived.Deep.LoopGhost
import Derived.Deep.QuietTactic
import Derived.BigQuiet
import Derived.WideLaws
import Derived.Deep.DeepCutAuto
import Derived.Deep.CutBlock
import Derived.Deep.RegionHeld3
import Derived.Laws.Rows
import Derived.Lib.AppendStr
import Derived.ArgAppend
import Derived.Laws.IdiomCopy
import Derived.OrdersHeld
import Derived.Laws.BitsLemmas
import Derived.RowKit
import Derived.Test.YthnbmepdolfbnaaDoorNs
import Derived.Test.YthnbmepdolfbnaaDoorWWords
import Derived.Test.YthnbmepdolfbnaaDoorWLast
import Derived.Test.YthnbmepdolfbnaaDoorWTab
import Derived.Test.YthnbmepdolfbnaaDoorWFour
import Derived.Test.YthnbmepdolfbnaaDoorWQPut
import Derived.Test.YthnbmepdolfbnaaDoorWApart
import Derived.Test.YthnbmepdolfbnaaDoorWArr
import Derived.Test.YthnbmepdolfbnaaDoorWZeros
import Derived.Test.YthnbmepdolfbnaaDoorWFoot
import Derived.Test.YthnbmepdolfbnaaDoorWKept
import Derived.Test.YthnbmepdolfbnaaDoorWShare
import Derived.Test.YthnbmepdolfbnaaDoorWN
import Derived.Test.YthnbmepdolfbnaaDoorWFootNe
import Derived.Test.YthnbmepdolfbnaaDoorWAt
import Derived.Test.YthnbmepdolfbnaaDoorWEqStruct
import Derived.Test.YthnbmepdolfbnaaDoorWRepsOne
import Derived.Test.YthnbmepdolfbnaaDoorWInv
import Derived.Test.YthnbmepdolfbnaaDoorWInvWords
import Derived.Test.YthnbmepdolfbnaaDoorWGuard
import Derived.Test.YthnbmepdolfbnaaDoorWNEv
import Derived.Test.YthnbmepdolfbnaaDoorWMore
namespace Go.Proofs.YthnbmepdolfbnaaDoor.Print
open Go.RowKit Go.Proofs.YthnbmepdolfbnaaDoor Go.Proofs.YthnbmepdolfbnaaDoor.Given Go.Proofs.YthnbmepdolfbnaaDoorW.PrintWords Go.Proofs.YthnbmepdolfbnaaDoorW.PrintLast Go.Proofs.YthnbmepdolfbnaaDoorW.PrintMore
attribute [local go_sem] max2_int min2_int max_two min_two max_three min_three max_four min_four   -- for this text's walks alone
set_option linter.unusedVariables false
set_option linter.unusedSimpArgs false



def errW : Option Int → Value
  | none => .nilIface
  | some c => .iface 0 (.int .i64 c)
theorem errW_none : errW none = .nilIface := rfl
theorem errW_some (c : Int) : errW (some c) = .iface 0 (.int .i64 c) := rfl

theorem info9 : (Tryd.prog.info? 9).map (fun i => (i.zero, i.size, i.bytes)) = some (some (.string ⟨#[]⟩), 1, 16) := by kernel_rfl
-- the values' own types

end Go.Proofs.YthnbmepdolfbnaaDoor.Print

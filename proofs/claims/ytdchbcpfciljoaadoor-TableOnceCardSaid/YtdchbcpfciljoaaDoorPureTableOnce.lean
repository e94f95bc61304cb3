/- TableOnce: plain. -/
import Derived.Test.YtdchbcpfciljoaaDoorPureO
import Derived.Test.YtdchbcpfciljoaaDoorPrintF7
namespace Go.Proofs.YtdchbcpfciljoaaDoor
set_option linter.unusedVariables false
set_option linter.unusedSimpArgs false
open Go.RowKit Go.Proofs.YtdchbcpfciljoaaDoor.Given Go.Proofs.YtdchbcpfciljoaaDoor.Print Go.Proofs.YtdchbcpfciljoaaDoor.Pure Go.Proofs.YtdchbcpfciljoaaDoorW.PrintWords
theorem once8 {a : Int} (h : (Lit.int .u8 a).wf = true) : 0 ≤ a ∧ a < 256 := by
  simp [Lit.wf, IntKind.min, IntKind.max, IntKind.signed, IntKind.bits] at h
  omega
theorem Walk.TableOnce (A0 : Option Addr) (c0 : Nat) (l0 : List Int) (w : World) (HLd : Ld w) (hr0 : Kd.C (Kd.int .u8) w A0 l0.length l0) (hc0 : l0.length ≤ c0) (hw : ∀ x ∈ l0, (Lit.int .u8 x).wf = true) :
    Calls Tryd.prog 7 #[.slice A0 l0.length c0] w fun e w' => e = .returned (.bool true) ∧ Below w.heap.size w w' :=
  turnspitlaw14_TableOnce.calls 20000 A0 c0 l0 true w hr0 hc0 HLd (once_f l0 fun x hx => once8 (hw x hx))
end Go.Proofs.YtdchbcpfciljoaaDoor

/- CpusPrints: plain. -/
import Derived.Test.YthnbmepdolfbnaaDoorPureCpus
import Derived.Test.YthnbmepdolfbnaaDoorPrintF3
namespace Go.Proofs.YthnbmepdolfbnaaDoor
set_option linter.unusedVariables false
set_option linter.unusedSimpArgs false
set_option maxRecDepth 100000
open Go.RowKit Go.Proofs.YthnbmepdolfbnaaDoor.Given Go.Proofs.YthnbmepdolfbnaaDoor.Print Go.Proofs.YthnbmepdolfbnaaDoor.Pure Go.Proofs.YthnbmepdolfbnaaDoorW.PrintWords Go.Proofs.YthnbmepdolfbnaaDoorW.PrintLast Go.Proofs.YthnbmepdolfbnaaDoorW.PrintMore
theorem Walk.CpusPrints (a0 : Int) (w0 : (Lit.int .u64 a0).wf = true) (w : World) (HLd : True) :
    Calls Tryd.prog 3 #[.int .u64 a0] w fun e w' => e = .returned (.bool true) ∧ Below w.heap.size w w' := by
  obtain ⟨M, rfl, hM⟩ := of_u64 w0
  refine turnspitlaw05_CpusPrints.calls 100000 _ true w ?_
  have hl := printL_len M hM
  unfold turnspitlaw05_CpusPrints.f
  rw [pr_f M hM, Option.bind_some, pa_f _ (by omega), Option.bind_some, awake_f, Option.bind_some, if_pos rfl, print_r M hM 100000 (by decide), Option.bind_some, if_pos rfl, parse_print M hM, if_pos rfl]
  rfl
end Go.Proofs.YthnbmepdolfbnaaDoor

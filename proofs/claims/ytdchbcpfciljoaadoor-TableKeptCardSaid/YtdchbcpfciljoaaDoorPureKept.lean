/- What a task is, stays: plain. -/
import Derived.Test.YtdchbcpfciljoaaDoorPureFirst
namespace Go.Proofs.YtdchbcpfciljoaaDoor.Pure
open Go.RowKit Go.Proofs.YtdchbcpfciljoaaDoor Go.Proofs.YtdchbcpfciljoaaDoor.Given Go.Proofs.YtdchbcpfciljoaaDoor.Print Go.Proofs.YtdchbcpfciljoaaDoorW.PrintWords
set_option linter.unusedVariables false
set_option linter.unusedSimpArgs false
theorem step_kept (x : List Int) (r1 : List S52) (a1 a2 a3 : Int) (hI : Five x r1) (hw : (Lit.int .i64 a2).wf = true) : ∃ s1 s2 s3, table_Step.f x r1 a1 a2 a3 = some (s1, s2, s3) ∧ (s3 = 0 → s2 = r1 ∧ Five s1 r1 ∧ liveS s1 0 = liveS x 0) := by
  obtain ⟨e0, e1, hU, hr⟩ := hI
  refine ⟨(stepS x r1 a1 a2 a3).1, (stepS x r1 a1 a2 a3).2.1, (stepS x r1 a1 a2 a3).2.2, Step_f x r1 hU a1 a2 a3 hw, fun h => ?_⟩
  obtain ⟨i, q, _, hi, es, _, hr', hq, hq8, hx8, hg⟩ := step_ok x r1 hU a1 a2 a3 hw h
  rw [es]
  exact ⟨rfl, ⟨by simpa using e0, e1, U_set hU i hq, hr'⟩, live_kept x i 0 q hi hx8 hq8 hg⟩
end Go.Proofs.YtdchbcpfciljoaaDoor.Pure

/- CpusParses: plain. -/
import Derived.Test.YthnbmepdolfbnaaDoorPureCpus
import Derived.Test.YthnbmepdolfbnaaDoorPrintF4
namespace Go.Proofs.YthnbmepdolfbnaaDoor
set_option linter.unusedVariables false
set_option linter.unusedSimpArgs false
set_option maxRecDepth 100000
open Go.RowKit Go.Proofs.YthnbmepdolfbnaaDoor.Given Go.Proofs.YthnbmepdolfbnaaDoor.Print Go.Proofs.YthnbmepdolfbnaaDoor.Pure Go.Proofs.YthnbmepdolfbnaaDoorW.PrintWords Go.Proofs.YthnbmepdolfbnaaDoorW.PrintLast Go.Proofs.YthnbmepdolfbnaaDoorW.PrintMore
theorem Walk.CpusParses (a0 : ByteArray) (w0 : a0.size ≤ 140737488351232) (w : World) (HLd : True) :
    Calls Tryd.prog 4 #[.string a0] w fun e w' => e = .returned (.bool true) ∧ Below w.heap.size w w' := by
  refine turnspitlaw05_CpusParses.calls 100000 _ true w ?_
  unfold turnspitlaw05_CpusParses.f
  rw [ba_of a0, ba_size]
  split
  · rw [awake_f]; rfl
  · rw [pa_f _ (by rw [size_list]; exact w0), Option.bind_some, parse_r _ 100000 (by decide), Option.bind_some, cn_f _ (by rw [size_list]; exact w0), Option.bind_some, rcanon_r _ 100000 (by decide), Option.bind_some, awake_f, Option.bind_some, if_pos rfl, if_pos rfl, if_pos rfl, if_pos rfl, beq_self_eq_true]
end Go.Proofs.YthnbmepdolfbnaaDoor

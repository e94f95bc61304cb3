/- CpusApart: plain. -/
import Derived.Test.YthnbmepdolfbnaaDoorPureCpus
import Derived.Test.YthnbmepdolfbnaaDoorPrintF8
namespace Go.Proofs.YthnbmepdolfbnaaDoor
set_option linter.unusedVariables false
set_option linter.unusedSimpArgs false
set_option maxRecDepth 100000
open Go.RowKit Go.Proofs.YthnbmepdolfbnaaDoor.Given Go.Proofs.YthnbmepdolfbnaaDoor.Print Go.Proofs.YthnbmepdolfbnaaDoor.Pure Go.Proofs.YthnbmepdolfbnaaDoorW.PrintWords Go.Proofs.YthnbmepdolfbnaaDoorW.PrintLast Go.Proofs.YthnbmepdolfbnaaDoorW.PrintMore
theorem Walk.CpusApart (a0 : Int) (w0 : (Lit.int .u64 a0).wf = true) (a1 : Int) (w1 : (Lit.int .u64 a1).wf = true) (w : World) (HLd : True) :
    Calls Tryd.prog 8 #[.int .u64 a0, .int .u64 a1] w fun e w' => e = .returned (.bool true) ∧ Below w.heap.size w w' := by
  obtain ⟨A, rfl, hA⟩ := of_u64 w0
  obtain ⟨B, rfl, hB⟩ := of_u64 w1
  refine turnspitlaw05_CpusApart.calls _ _ true w ?_
  unfold turnspitlaw05_CpusApart.f
  have l0 := printL_len A hA
  have e1 : ((ba (printL A)).toList == (ba (printL B)).toList) = ((A : Int) == (B : Int)) := by
    rw [ba_list, ba_list, Bool.eq_iff_iff, beq_iff_eq, beq_iff_eq]
    exact ⟨fun h => by rw [printL_inj A B hA hB h], fun h => by rw [show A = B by omega]⟩
  have hd : (printL A = [45]) ↔ A = 0 := by
    constructor
    · intro h
      by_cases h0 : A = 0
      · exact h0
      · rw [show printL A = txt A 64 from if_neg h0] at h
        exact absurd h (not_dash A hA h0)
    · intro h; rw [h]; rfl
  have hp : 0 < (printL A).length := by
    unfold printL
    split
    · decide
    · exact List.length_pos_iff.2 (txt_ne A hA (by assumption))
  rw [pr_f A hA, Option.bind_some, pr_f B hB, Option.bind_some, awake_f, Option.bind_some, if_pos rfl, e1, beq_self_eq_true, if_pos rfl, ba_size, if_pos (by omega), if_pos (by omega), ba_list]
  congr 1
  rw [beq_iff_eq, Bool.eq_iff_iff, beq_iff_eq, beq_iff_eq, hd]
  omega
end Go.Proofs.YthnbmepdolfbnaaDoor

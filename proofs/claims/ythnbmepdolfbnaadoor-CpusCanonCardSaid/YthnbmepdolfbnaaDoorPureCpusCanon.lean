/- CpusCanon: plain. -/
import Derived.Test.YthnbmepdolfbnaaDoorPureCpus
import Derived.Test.YthnbmepdolfbnaaDoorPrintF5
namespace Go.Proofs.YthnbmepdolfbnaaDoor
set_option linter.unusedVariables false
set_option linter.unusedSimpArgs false
set_option maxRecDepth 100000
open Go.RowKit Go.Proofs.YthnbmepdolfbnaaDoor.Given Go.Proofs.YthnbmepdolfbnaaDoor.Print Go.Proofs.YthnbmepdolfbnaaDoor.Pure Go.Proofs.YthnbmepdolfbnaaDoorW.PrintWords Go.Proofs.YthnbmepdolfbnaaDoorW.PrintLast Go.Proofs.YthnbmepdolfbnaaDoorW.PrintMore
theorem Walk.CpusCanon (a0 : ByteArray) (w0 : a0.size ≤ 140737488351232) (w : World) (HLd : True) :
    Calls Tryd.prog 5 #[.string a0] w fun e w' => e = .returned (.bool true) ∧ Below w.heap.size w w' := by
  refine turnspitlaw05_CpusCanon.calls _ true w ?_
  unfold turnspitlaw05_CpusCanon.f
  rw [ba_of a0, ba_size, awake_f, Option.bind_some, if_pos rfl]
  split
  · rfl
  · rw [cn_f _ (by rw [size_list]; exact w0), Option.bind_some, pa_f _ (by rw [size_list]; exact w0), Option.bind_some]
    unfold canonS
    rcases parseS_cases a0.data.toList with ⟨m, hm, e⟩ | ⟨e, he, h'⟩
    · have hl := printL_len m hm
      have hc : canonS (printL m) = (ba (printL m), 0) := by
        unfold canonS
        rw [parse_print m hm, if_pos rfl]
        rfl
      rw [e, if_pos rfl]
      show (if (0 : Int) = 0 then (cpus_Canon.f (ba (printL (m : Int).toNat))).bind _ else _) = some true
      rw [if_pos rfl, Int.toNat_natCast, cn_f _ (by omega), hc, Option.bind_some, if_pos rfl, if_pos rfl, if_pos rfl, pr_f m hm, Option.bind_some, beq_self_eq_true]
    · rw [h', if_neg he]
      show (if e = 0 then _ else _) = some true
      rw [if_neg he, if_pos rfl, ba_list, if_pos rfl]
      rfl
end Go.Proofs.YthnbmepdolfbnaaDoor

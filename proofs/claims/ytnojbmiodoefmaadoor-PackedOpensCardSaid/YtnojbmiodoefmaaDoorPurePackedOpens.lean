/- PackedOpens: the plain law, and the walk. -/
import Derived.Test.YtnojbmiodoefmaaDoorPureBase
import Derived.Test.YtnojbmiodoefmaaDoorPrintF4
namespace Go.Proofs.YtnojbmiodoefmaaDoor
open Go.RowKit Go.Proofs.YtnojbmiodoefmaaDoor.Given Go.Proofs.YtnojbmiodoefmaaDoor.Print Go.Proofs.YtnojbmiodoefmaaDoor.Pure
theorem Pure.PackedOpens (a : Int) (ha : u64 a) : turnspitlaw06_PackedOpens.f a = some true := by
  unfold turnspitlaw06_PackedOpens.f
  rw [unpack_eq ha, refUnpack_eq ha, awake_true, kind_eq ha, refKind_eq ha, cpu_eq ha, refCpu_eq ha, gen_eq ha, refGen_eq ha]
  simp
theorem Walk.PackedOpens (a : Int) (ha : (Lit.int .u64 a).wf = true) (w : World) (HLd : Ld w) :
    Calls Tryd.prog 4 #[.int .u64 a] w fun e w' => e = .returned (.bool true) ∧ Below w.heap.size w w' :=
  turnspitlaw06_PackedOpens.calls a true w HLd (Pure.PackedOpens a (u64_of ha))
end Go.Proofs.YtnojbmiodoefmaaDoor

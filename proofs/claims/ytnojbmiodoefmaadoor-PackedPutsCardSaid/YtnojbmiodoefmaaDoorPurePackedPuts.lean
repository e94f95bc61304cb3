/- PackedPuts: the plain law, and the walk. -/
import Derived.Test.YtnojbmiodoefmaaDoorPureBase
import Derived.Test.YtnojbmiodoefmaaDoorPrintF5
namespace Go.Proofs.YtnojbmiodoefmaaDoor
open Go.RowKit Go.Proofs.YtnojbmiodoefmaaDoor.Given Go.Proofs.YtnojbmiodoefmaaDoor.Print Go.Proofs.YtnojbmiodoefmaaDoor.Pure
theorem Pure.PackedPuts (a k c : Int) (ha : u64 a) : turnspitlaw06_PackedPuts.f a k c = some true := by
  unfold turnspitlaw06_PackedPuts.f packed_Put.f turnspitref06_Put.f
  rw [unpack_eq ha, refUnpack_eq ha, awake_true]
  simp only [Option.bind_some, refPack_eq]
  by_cases h0 : (opened a).2.2.2.2.2 = 0
  · rw [if_pos h0]
    by_cases h : packOk k c false (opened a).2.2.2.1 (opened a).2.2.2.2.1
    · rw [pack_ok h]; simp [h0]
    · rw [pack_no h]; simp [h0]
  · rw [if_neg h0]; simp [h0]
theorem Walk.PackedPuts (a : Int) (ha : (Lit.int .u64 a).wf = true) (k : Int) (_ : (Lit.int .i64 k).wf = true) (c : Int) (_ : (Lit.int .i64 c).wf = true) (w : World) (HLd : Ld w) :
    Calls Tryd.prog 5 #[.int .u64 a, .int .i64 k, .int .i64 c] w fun e w' => e = .returned (.bool true) ∧ Below w.heap.size w w' :=
  turnspitlaw06_PackedPuts.calls a k c true w HLd (Pure.PackedPuts a k c (u64_of ha))
end Go.Proofs.YtnojbmiodoefmaaDoor

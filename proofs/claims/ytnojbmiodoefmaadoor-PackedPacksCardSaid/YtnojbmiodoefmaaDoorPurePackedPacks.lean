/- PackedPacks: the plain law, and the walk. -/
import Derived.Test.YtnojbmiodoefmaaDoorPureBase
import Derived.Test.YtnojbmiodoefmaaDoorPrintF3
namespace Go.Proofs.YtnojbmiodoefmaaDoor
open Go.RowKit Go.Proofs.YtnojbmiodoefmaaDoor.Given Go.Proofs.YtnojbmiodoefmaaDoor.Print
theorem Pure.PackedPacks (k c : Int) (b : Bool) (s g : Int) : turnspitlaw06_PackedPacks.f k c b s g = some true := by
  unfold turnspitlaw06_PackedPacks.f
  rw [Pure.refPack_eq, Pure.awake_true]
  by_cases h : packOk k c b s g
  · rw [Pure.pack_ok h]; simp
  · rw [Pure.pack_no h]; simp
theorem Walk.PackedPacks (k : Int) (_ : (Lit.int .i64 k).wf = true) (c : Int) (_ : (Lit.int .i64 c).wf = true) (b : Bool) (s : Int) (_ : (Lit.int .i64 s).wf = true) (g : Int) (_ : (Lit.int .i64 g).wf = true) (w : World) (HLd : Ld w) :
    Calls Tryd.prog 3 #[.agg #[.int .i64 k, .int .i64 c, .bool b, .int .i64 s, .int .i64 g]] w fun e w' => e = .returned (.bool true) ∧ Below w.heap.size w w' :=
  turnspitlaw06_PackedPacks.calls k c b s g true w HLd (Pure.PackedPacks k c b s g)
end Go.Proofs.YtnojbmiodoefmaaDoor

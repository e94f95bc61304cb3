/- Plain facts on states by numbers. -/
import Derived.Test.YtnojbmiodoefmaaDoorPureBase
import Derived.Test.YtnojbmiodoefmaaDoorGB
namespace Go.Proofs.YtnojbmiodoefmaaDoor.Pure
open Go.RowKit Go.Proofs.YtnojbmiodoefmaaDoor Go.Proofs.YtnojbmiodoefmaaDoor.Given Go.Proofs.YtnojbmiodoefmaaDoor.Print
theorem state_eq {n : Int} (hn : u64 n) (b : Bool) : turnspitlaw06_state.f n b = some (n % 8, n / 8 % 64, (b && n % 8 == 7), n / 512 % 65536, n / 33554432 % 4294967296) := by
  unfold u64 at hn
  unfold turnspitlaw06_state.f
  rw [if_pos hn]
theorem state_ok {n : Int} (b : Bool) : packOk (n % 8) (n / 8 % 64) (b && n % 8 == 7) (n / 512 % 65536) (n / 33554432 % 4294967296) := by
  refine ⟨fun h => ?_, ?_, ?_, ?_, ?_⟩
  · simp at h; exact h.2
  iterate 4 omega
end Go.Proofs.YtnojbmiodoefmaaDoor.Pure

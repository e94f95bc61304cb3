/- What the package-level table of spans holds, as a fact on a world, and that it stays. -/
import Derived.Test.YtnojbmiodoefmaaDoorProg
import Derived.Test.YtnojbmiodoefmaaDoorWWords
namespace Go.Proofs.YtnojbmiodoefmaaDoor
open Go.RowKit Go.Proofs.YtnojbmiodoefmaaDoorW.PrintWords

def spanL : List Int := [0, 3, 3, 9, 9, 10, 10, 26, 26, 58]
/-- The variable spans holds its table. -/
structure Ld (w : World) : Prop where
  c : ∀ j, j < 10 → w.cell? ⟨0, j, none⟩ = some (.int .i64 (spanL.getD j 0))
theorem Ld.below {w W : World} (h : Ld w) (hb : Below w.heap.size w W) : Ld W := ⟨fun j hj => pw_cell_below hb (h.c j hj)⟩
namespace Given
end Given
end Go.Proofs.YtnojbmiodoefmaaDoor

/- awake answers true: its contract. -/
import Derived.Test.YtnojbmiodoefmaaDoorPrintF15
import Derived.Test.YtnojbmiodoefmaaDoorPrintF17
import Derived.Test.YtnojbmiodoefmaaDoorPrintF19
import Derived.Test.YtnojbmiodoefmaaDoorPrintF13
import Derived.Test.YtnojbmiodoefmaaDoorPrintF21
import Derived.Test.YtnojbmiodoefmaaDoorPrintE1
namespace Go.Proofs.YtnojbmiodoefmaaDoor.Given
open Go.RowKit Go.Proofs.YtnojbmiodoefmaaDoor Go.Proofs.YtnojbmiodoefmaaDoor.Print Go.Proofs.YtnojbmiodoefmaaDoorW.PrintWords
set_option linter.unusedVariables false
set_option linter.unusedSimpArgs false
attribute [local go_sem high] eqA23
theorem bcell {W w1 : World} (hb : Below W.heap.size W w1) : (∀ b o, b < W.heap.size → w1.cell? ⟨b, o, none⟩ = W.cell? ⟨b, o, none⟩) ∧ (∀ b o, b < W.heap.size → w1.frozen? ⟨b, o, none⟩ = W.frozen? ⟨b, o, none⟩) :=
  ⟨fun b o h => hb.cell (p := ⟨b, o, none⟩) h, fun b o h => hb.frozen (p := ⟨b, o, none⟩) h⟩
def turnspitlaw06_awake.f : Option Bool := some true
set_option maxHeartbeats 4000000 in
set_option maxRecDepth 100000 in
theorem turnspitlaw06_awake.calls (r : Bool) (w : World) (HLd : Ld w) (h : turnspitlaw06_awake.f = some r) :
    Calls Tryd.prog 12 #[] w fun e w' => e = .returned (.bool r) ∧ Below w.heap.size w w' := by
  obtain rfl : true = r := Option.some.inj h
  clear h
  have HL := Aside0.mk HLd
  clear HLd
  go_enter Tryd.func12, Tryd.ntmps12
  go_wp2_with fail
  refine (packed_Pack.calls 4 3 false 0 1 67108892 0 _ (Ld.below HL.out (by exact below_alloc (Below.refl _ _) _)) (by decide)).mono ?_
  rintro e w1 ⟨rfl, hb1⟩
  have hB1 := Aside0.mk (below_step (below_alloc (Below.refl w.heap.size w) _) hb1)
  have K1 := Aside0.mk (blk_below (blk_new w (.cells #[.int .i64 4, .int .i64 3, .bool false, .int .i64 0, .int .i64 1] 23)) hb1)
  clear hb1
  go_wp2_with fail
  refine (packed_Unpack.calls 67108892 4 3 false 0 1 0 w1 (Ld.below HL.out hB1.out) (by decide)).mono ?_
  rintro e w2 ⟨rfl, hb2⟩
  have hB2 := Aside0.mk (below_step hB1.out hb2)
  replace K1 := Aside0.mk (blk_below K1.out hb2)
  clear hb2
  go_wp2_with fail
  refine (packed_Pack.calls 4 0 true 0 0 0 1 _ (Ld.below HL.out (below_alloc hB2.out _)) (by decide)).mono ?_
  rintro e w3 ⟨rfl, hb3⟩
  have hB3 := Aside0.mk (below_step (below_alloc hB2.out _) hb3)
  replace K1 := Aside0.mk (blk_below (blk_alloc K1.out _) hb3)
  have K2 := Aside0.mk (blk_below (blk_new w2 (.cells #[.int .i64 4, .int .i64 3, .bool false, .int .i64 0, .int .i64 1] 23)) hb3)
  clear hb3
  go_wp2_with fail
  refine (packed_Put.calls 67108892 5 2 67108885 0 w3 (Ld.below HL.out hB3.out) (by decide)).mono ?_
  rintro e w4 ⟨rfl, hb4⟩
  have hB4 := Aside0.mk (below_step hB3.out hb4)
  replace K1 := Aside0.mk (blk_below K1.out hb4)
  replace K2 := Aside0.mk (blk_below K2.out hb4)
  clear hb4
  have x1_0 : w4.cell? ⟨w.heap.size, 0, none⟩ = some (.int .i64 4) := (blk_cell K1.out 0).trans rfl
  have x1_1 : w4.cell? ⟨w.heap.size, 1, none⟩ = some (.int .i64 3) := (blk_cell K1.out 1).trans rfl
  have x1_2 : w4.cell? ⟨w.heap.size, 2, none⟩ = some (.bool false) := (blk_cell K1.out 2).trans rfl
  have x1_3 : w4.cell? ⟨w.heap.size, 3, none⟩ = some (.int .i64 0) := (blk_cell K1.out 3).trans rfl
  have x1_4 : w4.cell? ⟨w.heap.size, 4, none⟩ = some (.int .i64 1) := (blk_cell K1.out 4).trans rfl
  have x2_0 : w4.cell? ⟨w2.heap.size, 0, none⟩ = some (.int .i64 4) := (blk_cell K2.out 0).trans rfl
  have x2_1 : w4.cell? ⟨w2.heap.size, 1, none⟩ = some (.int .i64 3) := (blk_cell K2.out 1).trans rfl
  have x2_2 : w4.cell? ⟨w2.heap.size, 2, none⟩ = some (.bool false) := (blk_cell K2.out 2).trans rfl
  have x2_3 : w4.cell? ⟨w2.heap.size, 3, none⟩ = some (.int .i64 0) := (blk_cell K2.out 3).trans rfl
  have x2_4 : w4.cell? ⟨w2.heap.size, 4, none⟩ = some (.int .i64 1) := (blk_cell K2.out 4).trans rfl
  go_wp2_with fail
  refine (packed_Kind.calls 67108892 4 w4 (Ld.below HL.out hB4.out) (by decide)).mono ?_
  rintro e w5 ⟨rfl, hb5⟩
  have hB5 := Aside0.mk (below_step hB4.out hb5)
  clear hb5
  go_wp2_with fail
  refine (packed_Cpu.calls 67108892 3 w5 (Ld.below HL.out hB5.out) (by decide)).mono ?_
  rintro e w6 ⟨rfl, hb6⟩
  have hB6 := Aside0.mk (below_step hB5.out hb6)
  clear hb6
  go_wp2_with fail
  refine (packed_Gen.calls 67108892 1 w6 (Ld.below HL.out hB6.out) (by decide)).mono ?_
  rintro e w7 ⟨rfl, hb7⟩
  have hB7 := Aside0.mk (below_step hB6.out hb7)
  clear hb7
  go_wp2_with fail
  go_ret
  exact ⟨rfl, hB7.out⟩
end Go.Proofs.YtnojbmiodoefmaaDoor.Given

/- CallsPrints, walked. -/
import Derived.Test.YtilmbpdfdickoaaDoorOpen
import Derived.Test.YtilmbpdfdickoaaDoorPureRefC
namespace Go.Proofs.YtilmbpdfdickoaaDoor
open Go.RowKit Go.Proofs.YtilmbpdfdickoaaDoor.Given Go.Proofs.YtilmbpdfdickoaaDoor.Print Go.Proofs.YtilmbpdfdickoaaDoor.Pure Go.Proofs.YtilmbpdfdickoaaDoorW.PrintWords Go.Proofs.YtilmbpdfdickoaaDoorW.PrintLast Go.Proofs.YtilmbpdfdickoaaDoorW.PrintMore
set_option linter.unusedVariables false
set_option linter.unusedSimpArgs false
theorem print_as {c : CallS} {s : List UInt8} {r : Int} (ho : OkC c) (hp : printCS c = (s, r)) (w : World) (HLd : Ld w) :
    Calls Tryd.prog 10 #[.agg #[.int .i64 c.op, .int .i64 c.slot, .int .i64 c.gen, .int .i64 c.cpu, .int .i64 c.n, .int .i64 c.nice, .int .u64 c.mask]] w fun e w' => e = .returned (.tuple #[.string ⟨s.toArray⟩, .int .i64 r]) ∧ Below w.heap.size w w' := by
  refine (print_c c ho w HLd).mono ?_
  rintro e w' ⟨he, hb⟩
  exact ⟨by rw [he, hp], hb⟩
theorem print_ref {c : CallS} {s : List UInt8} {r : Int} (ho : OkC c) (hp : printCS c = (s, r)) (w : World) (HLd : Ld w) :
    Calls Tryd.prog 11 #[.agg #[.int .i64 c.op, .int .i64 c.slot, .int .i64 c.gen, .int .i64 c.cpu, .int .i64 c.n, .int .i64 c.nice, .int .u64 c.mask]] w fun e w' => e = .returned (.tuple #[.string ⟨s.toArray⟩, .int .i64 r]) ∧ Below w.heap.size w w' :=
  turnspitref15_Print.calls 7000 _ _ _ _ _ _ _ _ _ w HLd (by rw [print15 c ho.mask ho.op 7000 (by decide), hp]; rfl)
set_option maxHeartbeats 8000000 in
set_option maxRecDepth 100000 in
theorem Walk.CallsPrints (c : CallS) (oc : OkC c) (w : World) (HLd : Ld w) :
    Calls Tryd.prog 3 #[.agg #[.int .i64 c.op, .int .i64 c.slot, .int .i64 c.gen, .int .i64 c.cpu, .int .i64 c.n, .int .i64 c.nice, .int .u64 c.mask]] w fun e w' => e = .returned (.bool true) ∧ Below w.heap.size w w' := by
  have hu26 := Tryd.underlying26
  obtain ⟨t, r, hT⟩ : ∃ t r, printCS c = (t, r) := ⟨_, _, rfl⟩
  have HT := Aside0.mk hT
  have OC := Aside0.mk oc
  clear hT oc
  go_enter Tryd.func3, Tryd.ntmps3
  go_upto_region 1 with fail
  have K1_1 : Aside0 ((w.alloc (.cells #[.int .i64 c.op, .int .i64 c.slot, .int .i64 c.gen, .int .i64 c.cpu, .int .i64 c.n, .int .i64 c.nice, .int .u64 c.mask] 26)).heap[w.heap.size]? = some (.cells #[.int .i64 c.op, .int .i64 c.slot, .int .i64 c.gen, .int .i64 c.cpu, .int .i64 c.n, .int .i64 c.nice, .int .u64 c.mask] 26)) := ⟨(blk_new w (.cells #[.int .i64 c.op, .int .i64 c.slot, .int .i64 c.gen, .int .i64 c.cpu, .int .i64 c.n, .int .i64 c.nice, .int .u64 c.mask] 26))⟩
  have HB1 := Aside0.mk (below_alloc (Below.refl w.heap.size w) (.cells #[.int .i64 c.op, .int .i64 c.slot, .int .i64 c.gen, .int .i64 c.cpu, .int .i64 c.n, .int .i64 c.nice, .int .u64 c.mask] 26))
  generalize (w.alloc (.cells #[.int .i64 c.op, .int .i64 c.slot, .int .i64 c.gen, .int .i64 c.cpu, .int .i64 c.n, .int .i64 c.nice, .int .u64 c.mask] 26)) = v1 at K1_1 HB1 ⊢
  generalize w.heap.size = g1 at K1_1 ⊢
  have c1_0 : v1.cell? ⟨g1, 0, none⟩ = some (.int .i64 c.op) := (blk_cell K1_1.out 0).trans rfl
  have c1_1 : v1.cell? ⟨g1, 1, none⟩ = some (.int .i64 c.slot) := (blk_cell K1_1.out 1).trans rfl
  have c1_2 : v1.cell? ⟨g1, 2, none⟩ = some (.int .i64 c.gen) := (blk_cell K1_1.out 2).trans rfl
  have c1_3 : v1.cell? ⟨g1, 3, none⟩ = some (.int .i64 c.cpu) := (blk_cell K1_1.out 3).trans rfl
  have c1_4 : v1.cell? ⟨g1, 4, none⟩ = some (.int .i64 c.n) := (blk_cell K1_1.out 4).trans rfl
  have c1_5 : v1.cell? ⟨g1, 5, none⟩ = some (.int .i64 c.nice) := (blk_cell K1_1.out 5).trans rfl
  have c1_6 : v1.cell? ⟨g1, 6, none⟩ = some (.int .u64 c.mask) := (blk_cell K1_1.out 6).trans rfl
  go_wp2_with fail
  refine (print_as (c := c) (s := t) (r := r) OC.out HT.out _ (HLd.below HB1.out)).mono ?_
  rintro e v2 ⟨rfl, hb⟩
  have HB2 := Aside0.mk (below_step HB1.out hb)
  have K1_2 := Aside0.mk (blk_below K1_1.out hb)
  clear hb
  clear c1_0 c1_1 c1_2 c1_3 c1_4 c1_5 c1_6
  have c1_0 : v2.cell? ⟨g1, 0, none⟩ = some (.int .i64 c.op) := (blk_cell K1_2.out 0).trans rfl
  have c1_1 : v2.cell? ⟨g1, 1, none⟩ = some (.int .i64 c.slot) := (blk_cell K1_2.out 1).trans rfl
  have c1_2 : v2.cell? ⟨g1, 2, none⟩ = some (.int .i64 c.gen) := (blk_cell K1_2.out 2).trans rfl
  have c1_3 : v2.cell? ⟨g1, 3, none⟩ = some (.int .i64 c.cpu) := (blk_cell K1_2.out 3).trans rfl
  have c1_4 : v2.cell? ⟨g1, 4, none⟩ = some (.int .i64 c.n) := (blk_cell K1_2.out 4).trans rfl
  have c1_5 : v2.cell? ⟨g1, 5, none⟩ = some (.int .i64 c.nice) := (blk_cell K1_2.out 5).trans rfl
  have c1_6 : v2.cell? ⟨g1, 6, none⟩ = some (.int .u64 c.mask) := (blk_cell K1_2.out 6).trans rfl
  go_wp2_with fail
  refine (print_ref (c := c) (s := t) (r := r) OC.out HT.out _ (HLd.below HB2.out)).mono ?_
  rintro e v3 ⟨rfl, hb⟩
  have HB3 := Aside0.mk (below_step HB2.out hb)
  have K1_3 := Aside0.mk (blk_below K1_2.out hb)
  clear hb
  clear c1_0 c1_1 c1_2 c1_3 c1_4 c1_5 c1_6
  go_wp2_with fail
  refine (awake_c _ (HLd.below HB3.out)).mono ?_
  rintro e v4 ⟨rfl, hb⟩
  have HB4 := Aside0.mk (below_step HB3.out hb)
  have K1_4 := Aside0.mk (blk_below K1_3.out hb)
  clear hb
  go_wp2_with fail
  go_ret
  exact ⟨by simp, HB4.out⟩
end Go.Proofs.YtilmbpdfdickoaaDoor

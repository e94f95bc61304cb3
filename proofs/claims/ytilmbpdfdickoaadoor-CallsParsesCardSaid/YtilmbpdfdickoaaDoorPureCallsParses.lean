/- CallsParses, walked. -/
import Derived.Test.YtilmbpdfdickoaaDoorOpen
import Derived.Test.YtilmbpdfdickoaaDoorPureRefD
namespace Go.Proofs.YtilmbpdfdickoaaDoor
open Go.RowKit Go.Proofs.YtilmbpdfdickoaaDoor.Given Go.Proofs.YtilmbpdfdickoaaDoor.Print Go.Proofs.YtilmbpdfdickoaaDoor.Pure Go.Proofs.YtilmbpdfdickoaaDoorW.PrintWords Go.Proofs.YtilmbpdfdickoaaDoorW.PrintLast Go.Proofs.YtilmbpdfdickoaaDoorW.PrintMore
set_option linter.unusedVariables false
set_option linter.unusedSimpArgs false
theorem call_same (c : CallS) : (c.op == c.op && ((c.slot == c.slot && (c.gen == c.gen)) && (c.cpu == c.cpu && (c.n == c.n && (c.nice == c.nice && (c.mask == c.mask)))))) = true := by simp
theorem parse_ref {s : ByteArray} {c : CallS} {r : Int} (hp : parseCS s.data.toList = (c, r)) (w : World) (HLd : Ld w) :
    Calls Tryd.prog 14 #[.string s] w fun e w' => e = .returned (.tuple #[.agg #[.int .i64 c.op, .int .i64 c.slot, .int .i64 c.gen, .int .i64 c.cpu, .int .i64 c.n, .int .i64 c.nice, .int .u64 c.mask], .int .i64 r]) ∧ Below w.heap.size w w' :=
  turnspitref15_Parse.calls 130000 s _ _ _ _ _ _ _ _ w HLd (by
    have h := parse15r s.data.toList 130000 (Nat.le_refl _)
    rw [hp] at h
    exact h)
attribute [local go_sem high] eqA26
set_option maxHeartbeats 8000000 in
set_option maxRecDepth 100000 in
theorem Walk.CallsParses (s : ByteArray) (ws : s.size ≤ 140737488351232) (w : World) (HLd : Ld w) :
    Calls Tryd.prog 4 #[.string s] w fun e w' => e = .returned (.bool true) ∧ Below w.heap.size w w' := by
  have hu26 := Tryd.underlying26
  by_cases h1 : 1300 < s.size
  · have y0 : decide ((s.size : Int) > 1300) = true := decide_eq_true (by omega)
    have y1 : decide ((1300 : Int) < (s.size : Int)) = true := decide_eq_true (by omega)
    have y2 : decide (1300 < s.size) = true := decide_eq_true (by omega)
    clear h1 ws
    go_enter Tryd.func4, Tryd.ntmps4
    go_wp2_with fail
    refine (awake_c _ HLd).mono ?_
    rintro e v1 ⟨rfl, hb⟩
    have HB1 := Aside0.mk (hb)
    clear hb
    go_wp2_with fail
    go_ret
    exact ⟨rfl, HB1.out⟩
  · obtain ⟨c, r, hH⟩ : ∃ c r, parseCS s.data.toList = (c, r) := ⟨_, _, rfl⟩
    have HH := Aside0.mk hH
    have TZ : Aside0 (s.size ≤ 4000000000) := ⟨by omega⟩
    have y0 : decide ((s.size : Int) > 1300) = false := decide_eq_false (by omega)
    have y1 : decide ((1300 : Int) < (s.size : Int)) = false := decide_eq_false (by omega)
    have y2 : decide (1300 < s.size) = false := decide_eq_false (by omega)
    clear hH h1 ws
    go_enter Tryd.func4, Tryd.ntmps4
    go_wp2_with fail
    refine (parse_as (s := s) (c := c) (r := r) TZ.out HH.out _ HLd).mono ?_
    rintro e v1 ⟨rfl, hb⟩
    have HB1 := Aside0.mk (hb)
    clear hb
    go_upto_region 4 with fail
    have K3_2 : Aside0 ((v1.alloc (.cells #[.int .i64 c.op, .int .i64 c.slot, .int .i64 c.gen, .int .i64 c.cpu, .int .i64 c.n, .int .i64 c.nice, .int .u64 c.mask] 26)).heap[v1.heap.size]? = some (.cells #[.int .i64 c.op, .int .i64 c.slot, .int .i64 c.gen, .int .i64 c.cpu, .int .i64 c.n, .int .i64 c.nice, .int .u64 c.mask] 26)) := ⟨(blk_new v1 (.cells #[.int .i64 c.op, .int .i64 c.slot, .int .i64 c.gen, .int .i64 c.cpu, .int .i64 c.n, .int .i64 c.nice, .int .u64 c.mask] 26))⟩
    have HB2 := Aside0.mk (below_alloc HB1.out (.cells #[.int .i64 c.op, .int .i64 c.slot, .int .i64 c.gen, .int .i64 c.cpu, .int .i64 c.n, .int .i64 c.nice, .int .u64 c.mask] 26))
    generalize (v1.alloc (.cells #[.int .i64 c.op, .int .i64 c.slot, .int .i64 c.gen, .int .i64 c.cpu, .int .i64 c.n, .int .i64 c.nice, .int .u64 c.mask] 26)) = v2 at K3_2 HB2 ⊢
    generalize v1.heap.size = g3 at K3_2 ⊢
    go_wp2_with fail
    refine (parse_ref (s := s) (c := c) (r := r) HH.out _ (HLd.below HB2.out)).mono ?_
    rintro e v3 ⟨rfl, hb⟩
    have HB3 := Aside0.mk (below_step HB2.out hb)
    have K3_3 := Aside0.mk (blk_below K3_2.out hb)
    clear hb
    go_upto_region 5 with fail
    have K5_4 : Aside0 ((v3.alloc (.cells #[.int .i64 c.op, .int .i64 c.slot, .int .i64 c.gen, .int .i64 c.cpu, .int .i64 c.n, .int .i64 c.nice, .int .u64 c.mask] 26)).heap[v3.heap.size]? = some (.cells #[.int .i64 c.op, .int .i64 c.slot, .int .i64 c.gen, .int .i64 c.cpu, .int .i64 c.n, .int .i64 c.nice, .int .u64 c.mask] 26)) := ⟨(blk_new v3 (.cells #[.int .i64 c.op, .int .i64 c.slot, .int .i64 c.gen, .int .i64 c.cpu, .int .i64 c.n, .int .i64 c.nice, .int .u64 c.mask] 26))⟩
    have K3_4 := Aside0.mk (blk_alloc K3_3.out (.cells #[.int .i64 c.op, .int .i64 c.slot, .int .i64 c.gen, .int .i64 c.cpu, .int .i64 c.n, .int .i64 c.nice, .int .u64 c.mask] 26))
    have HB4 := Aside0.mk (below_alloc HB3.out (.cells #[.int .i64 c.op, .int .i64 c.slot, .int .i64 c.gen, .int .i64 c.cpu, .int .i64 c.n, .int .i64 c.nice, .int .u64 c.mask] 26))
    generalize (v3.alloc (.cells #[.int .i64 c.op, .int .i64 c.slot, .int .i64 c.gen, .int .i64 c.cpu, .int .i64 c.n, .int .i64 c.nice, .int .u64 c.mask] 26)) = v4 at K5_4 K3_4 HB4 ⊢
    generalize v3.heap.size = g5 at K5_4 ⊢
    go_wp2_with fail
    refine (awake_c _ (HLd.below HB4.out)).mono ?_
    rintro e v5 ⟨rfl, hb⟩
    have HB5 := Aside0.mk (below_step HB4.out hb)
    have K3_5 := Aside0.mk (blk_below K3_4.out hb)
    have K5_5 := Aside0.mk (blk_below K5_4.out hb)
    clear hb
    have c3_0 : v5.cell? ⟨g3, 0, none⟩ = some (.int .i64 c.op) := (blk_cell K3_5.out 0).trans rfl
    have c3_1 : v5.cell? ⟨g3, 1, none⟩ = some (.int .i64 c.slot) := (blk_cell K3_5.out 1).trans rfl
    have c3_2 : v5.cell? ⟨g3, 2, none⟩ = some (.int .i64 c.gen) := (blk_cell K3_5.out 2).trans rfl
    have c3_3 : v5.cell? ⟨g3, 3, none⟩ = some (.int .i64 c.cpu) := (blk_cell K3_5.out 3).trans rfl
    have c3_4 : v5.cell? ⟨g3, 4, none⟩ = some (.int .i64 c.n) := (blk_cell K3_5.out 4).trans rfl
    have c3_5 : v5.cell? ⟨g3, 5, none⟩ = some (.int .i64 c.nice) := (blk_cell K3_5.out 5).trans rfl
    have c3_6 : v5.cell? ⟨g3, 6, none⟩ = some (.int .u64 c.mask) := (blk_cell K3_5.out 6).trans rfl
    have c5_0 : v5.cell? ⟨g5, 0, none⟩ = some (.int .i64 c.op) := (blk_cell K5_5.out 0).trans rfl
    have c5_1 : v5.cell? ⟨g5, 1, none⟩ = some (.int .i64 c.slot) := (blk_cell K5_5.out 1).trans rfl
    have c5_2 : v5.cell? ⟨g5, 2, none⟩ = some (.int .i64 c.gen) := (blk_cell K5_5.out 2).trans rfl
    have c5_3 : v5.cell? ⟨g5, 3, none⟩ = some (.int .i64 c.cpu) := (blk_cell K5_5.out 3).trans rfl
    have c5_4 : v5.cell? ⟨g5, 4, none⟩ = some (.int .i64 c.n) := (blk_cell K5_5.out 4).trans rfl
    have c5_5 : v5.cell? ⟨g5, 5, none⟩ = some (.int .i64 c.nice) := (blk_cell K5_5.out 5).trans rfl
    have c5_6 : v5.cell? ⟨g5, 6, none⟩ = some (.int .u64 c.mask) := (blk_cell K5_5.out 6).trans rfl
    have hq := call_same c
    go_wp2_with fail
    go_ret
    exact ⟨by simp, HB5.out⟩
end Go.Proofs.YtilmbpdfdickoaaDoor

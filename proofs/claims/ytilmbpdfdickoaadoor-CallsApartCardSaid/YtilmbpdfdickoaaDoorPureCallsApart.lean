/- CallsApart, walked. -/
import Derived.Test.YtilmbpdfdickoaaDoorML
namespace Go.Proofs.YtilmbpdfdickoaaDoor
open Go.RowKit Go.Proofs.YtilmbpdfdickoaaDoor.Given Go.Proofs.YtilmbpdfdickoaaDoor.Print Go.Proofs.YtilmbpdfdickoaaDoor.Pure Go.Proofs.YtilmbpdfdickoaaDoorW.PrintWords Go.Proofs.YtilmbpdfdickoaaDoorW.PrintLast Go.Proofs.YtilmbpdfdickoaaDoorW.PrintMore
set_option linter.unusedVariables false
set_option linter.unusedSimpArgs false
attribute [local go_sem high] eqA26
set_option maxHeartbeats 8000000 in
set_option maxRecDepth 100000 in
theorem Walk.CallsApart (a0 : Int) (w0 : (Lit.int .u64 a0).wf = true) (a1 : Int) (w1 : (Lit.int .u64 a1).wf = true) (a2 : Int) (w2 : (Lit.int .u64 a2).wf = true) (w : World) (HLd : Ld w) :
    Calls Tryd.prog 9 #[.int .u64 a0, .int .u64 a1, .int .u64 a2] w fun e w' => e = .returned (.bool true) ∧ Below w.heap.size w w' := by
  obtain ⟨a, hfa, oa, s, hs⟩ := made_ok a0 a1 (u64_of w0) (u64_of w1)
  obtain ⟨b, hfb, ob, t, ht⟩ := made_ok a2 a1 (u64_of w2) (u64_of w1)
  have HFa := Aside0.mk hfa
  have HFb := Aside0.mk hfb
  have OA := Aside0.mk oa
  have OB := Aside0.mk ob
  have HS := Aside0.mk hs
  have HT := Aside0.mk ht
  have hq : (s == t) = decide (a = b) := by
    rw [Bool.eq_iff_iff, beq_iff_eq, decide_eq_true_iff]
    constructor
    · intro h
      have h2 : s = t := h
      have p1 := (parse_of_print oa.mask hs).1
      rw [h2, (parse_of_print ob.mask ht).1] at p1
      exact (Option.some.inj p1).symm
    · intro h
      have h2 : some s = some t := by rw [← hs, ← ht, h]
      exact Option.some.inj h2
  have hc := call_eq a b
  rw [← hc] at hq
  have HQ := Aside0.mk hq
  clear hq hfa hfb oa ob hs ht w0 w1 w2 hc
  have hu26 := Tryd.underlying26
  go_enter Tryd.func9, Tryd.ntmps9
  go_wp2_with fail
  refine (turnspitlaw15_Made.calls 2 _ _ _ _ _ _ _ _ _ _ HLd HFa.out).mono ?_
  rintro e v1 ⟨rfl, hb⟩
  have HB1 := Aside0.mk (hb)
  clear hb
  go_wp2_with fail
  refine (turnspitlaw15_Made.calls 2 _ _ _ _ _ _ _ _ _ _ (HLd.below HB1.out) HFb.out).mono ?_
  rintro e v2 ⟨rfl, hb⟩
  have HB2 := Aside0.mk (below_step HB1.out hb)
  clear hb
  go_upto_region 2 with fail
  have K7_3 : Aside0 (((v2.alloc (.cells #[.int .i64 a.op, .int .i64 a.slot, .int .i64 a.gen, .int .i64 a.cpu, .int .i64 a.n, .int .i64 a.nice, .int .u64 a.mask] 26)).alloc (.cells #[.int .i64 b.op, .int .i64 b.slot, .int .i64 b.gen, .int .i64 b.cpu, .int .i64 b.n, .int .i64 b.nice, .int .u64 b.mask] 26)).heap[v2.heap.size]? = some (.cells #[.int .i64 a.op, .int .i64 a.slot, .int .i64 a.gen, .int .i64 a.cpu, .int .i64 a.n, .int .i64 a.nice, .int .u64 a.mask] 26)) := ⟨(blk_alloc (blk_new v2 (.cells #[.int .i64 a.op, .int .i64 a.slot, .int .i64 a.gen, .int .i64 a.cpu, .int .i64 a.n, .int .i64 a.nice, .int .u64 a.mask] 26)) (.cells #[.int .i64 b.op, .int .i64 b.slot, .int .i64 b.gen, .int .i64 b.cpu, .int .i64 b.n, .int .i64 b.nice, .int .u64 b.mask] 26))⟩
  have K8_3 : Aside0 (((v2.alloc (.cells #[.int .i64 a.op, .int .i64 a.slot, .int .i64 a.gen, .int .i64 a.cpu, .int .i64 a.n, .int .i64 a.nice, .int .u64 a.mask] 26)).alloc (.cells #[.int .i64 b.op, .int .i64 b.slot, .int .i64 b.gen, .int .i64 b.cpu, .int .i64 b.n, .int .i64 b.nice, .int .u64 b.mask] 26)).heap[v2.heap.size + 1]? = some (.cells #[.int .i64 b.op, .int .i64 b.slot, .int .i64 b.gen, .int .i64 b.cpu, .int .i64 b.n, .int .i64 b.nice, .int .u64 b.mask] 26)) := ⟨by have h_ := blk_new (v2.alloc (.cells #[.int .i64 a.op, .int .i64 a.slot, .int .i64 a.gen, .int .i64 a.cpu, .int .i64 a.n, .int .i64 a.nice, .int .u64 a.mask] 26)) (.cells #[.int .i64 b.op, .int .i64 b.slot, .int .i64 b.gen, .int .i64 b.cpu, .int .i64 b.n, .int .i64 b.nice, .int .u64 b.mask] 26); (repeat rw [World.size_alloc] at h_); exact h_⟩
  have HB3 := Aside0.mk (below_alloc (below_alloc HB2.out (.cells #[.int .i64 a.op, .int .i64 a.slot, .int .i64 a.gen, .int .i64 a.cpu, .int .i64 a.n, .int .i64 a.nice, .int .u64 a.mask] 26)) (.cells #[.int .i64 b.op, .int .i64 b.slot, .int .i64 b.gen, .int .i64 b.cpu, .int .i64 b.n, .int .i64 b.nice, .int .u64 b.mask] 26))
  generalize ((v2.alloc (.cells #[.int .i64 a.op, .int .i64 a.slot, .int .i64 a.gen, .int .i64 a.cpu, .int .i64 a.n, .int .i64 a.nice, .int .u64 a.mask] 26)).alloc (.cells #[.int .i64 b.op, .int .i64 b.slot, .int .i64 b.gen, .int .i64 b.cpu, .int .i64 b.n, .int .i64 b.nice, .int .u64 b.mask] 26)) = v3 at K7_3 K8_3 HB3 ⊢
  generalize v2.heap.size + 1 = g8 at K8_3 ⊢
  generalize v2.heap.size = g7 at K7_3 ⊢
  have c7_0 : v3.cell? ⟨g7, 0, none⟩ = some (.int .i64 a.op) := (blk_cell K7_3.out 0).trans rfl
  have c7_1 : v3.cell? ⟨g7, 1, none⟩ = some (.int .i64 a.slot) := (blk_cell K7_3.out 1).trans rfl
  have c7_2 : v3.cell? ⟨g7, 2, none⟩ = some (.int .i64 a.gen) := (blk_cell K7_3.out 2).trans rfl
  have c7_3 : v3.cell? ⟨g7, 3, none⟩ = some (.int .i64 a.cpu) := (blk_cell K7_3.out 3).trans rfl
  have c7_4 : v3.cell? ⟨g7, 4, none⟩ = some (.int .i64 a.n) := (blk_cell K7_3.out 4).trans rfl
  have c7_5 : v3.cell? ⟨g7, 5, none⟩ = some (.int .i64 a.nice) := (blk_cell K7_3.out 5).trans rfl
  have c7_6 : v3.cell? ⟨g7, 6, none⟩ = some (.int .u64 a.mask) := (blk_cell K7_3.out 6).trans rfl
  go_wp2_with fail
  refine (print_ok OA.out HS.out _ (HLd.below HB3.out)).mono ?_
  rintro e v4 ⟨rfl, hb⟩
  have HB4 := Aside0.mk (below_step HB3.out hb)
  have K8_4 := Aside0.mk (blk_below K8_3.out hb)
  have K7_4 := Aside0.mk (blk_below K7_3.out hb)
  clear hb
  clear c7_0 c7_1 c7_2 c7_3 c7_4 c7_5 c7_6
  have c8_0 : v4.cell? ⟨g8, 0, none⟩ = some (.int .i64 b.op) := (blk_cell K8_4.out 0).trans rfl
  have c8_1 : v4.cell? ⟨g8, 1, none⟩ = some (.int .i64 b.slot) := (blk_cell K8_4.out 1).trans rfl
  have c8_2 : v4.cell? ⟨g8, 2, none⟩ = some (.int .i64 b.gen) := (blk_cell K8_4.out 2).trans rfl
  have c8_3 : v4.cell? ⟨g8, 3, none⟩ = some (.int .i64 b.cpu) := (blk_cell K8_4.out 3).trans rfl
  have c8_4 : v4.cell? ⟨g8, 4, none⟩ = some (.int .i64 b.n) := (blk_cell K8_4.out 4).trans rfl
  have c8_5 : v4.cell? ⟨g8, 5, none⟩ = some (.int .i64 b.nice) := (blk_cell K8_4.out 5).trans rfl
  have c8_6 : v4.cell? ⟨g8, 6, none⟩ = some (.int .u64 b.mask) := (blk_cell K8_4.out 6).trans rfl
  go_wp2_with fail
  refine (print_ok OB.out HT.out _ (HLd.below HB4.out)).mono ?_
  rintro e v5 ⟨rfl, hb⟩
  have HB5 := Aside0.mk (below_step HB4.out hb)
  have K8_5 := Aside0.mk (blk_below K8_4.out hb)
  have K7_5 := Aside0.mk (blk_below K7_4.out hb)
  clear hb
  clear c8_0 c8_1 c8_2 c8_3 c8_4 c8_5 c8_6
  go_wp2_with fail
  refine (awake_c _ (HLd.below HB5.out)).mono ?_
  rintro e v6 ⟨rfl, hb⟩
  have HB6 := Aside0.mk (below_step HB5.out hb)
  have K8_6 := Aside0.mk (blk_below K8_5.out hb)
  have K7_6 := Aside0.mk (blk_below K7_5.out hb)
  clear hb
  have c7_0 : v6.cell? ⟨g7, 0, none⟩ = some (.int .i64 a.op) := (blk_cell K7_6.out 0).trans rfl
  have c7_1 : v6.cell? ⟨g7, 1, none⟩ = some (.int .i64 a.slot) := (blk_cell K7_6.out 1).trans rfl
  have c7_2 : v6.cell? ⟨g7, 2, none⟩ = some (.int .i64 a.gen) := (blk_cell K7_6.out 2).trans rfl
  have c7_3 : v6.cell? ⟨g7, 3, none⟩ = some (.int .i64 a.cpu) := (blk_cell K7_6.out 3).trans rfl
  have c7_4 : v6.cell? ⟨g7, 4, none⟩ = some (.int .i64 a.n) := (blk_cell K7_6.out 4).trans rfl
  have c7_5 : v6.cell? ⟨g7, 5, none⟩ = some (.int .i64 a.nice) := (blk_cell K7_6.out 5).trans rfl
  have c7_6 : v6.cell? ⟨g7, 6, none⟩ = some (.int .u64 a.mask) := (blk_cell K7_6.out 6).trans rfl
  have c8_0 : v6.cell? ⟨g8, 0, none⟩ = some (.int .i64 b.op) := (blk_cell K8_6.out 0).trans rfl
  have c8_1 : v6.cell? ⟨g8, 1, none⟩ = some (.int .i64 b.slot) := (blk_cell K8_6.out 1).trans rfl
  have c8_2 : v6.cell? ⟨g8, 2, none⟩ = some (.int .i64 b.gen) := (blk_cell K8_6.out 2).trans rfl
  have c8_3 : v6.cell? ⟨g8, 3, none⟩ = some (.int .i64 b.cpu) := (blk_cell K8_6.out 3).trans rfl
  have c8_4 : v6.cell? ⟨g8, 4, none⟩ = some (.int .i64 b.n) := (blk_cell K8_6.out 4).trans rfl
  have c8_5 : v6.cell? ⟨g8, 5, none⟩ = some (.int .i64 b.nice) := (blk_cell K8_6.out 5).trans rfl
  have c8_6 : v6.cell? ⟨g8, 6, none⟩ = some (.int .u64 b.mask) := (blk_cell K8_6.out 6).trans rfl
  go_wp2_with fail
  go_ret
  exact ⟨by simp; exact HQ.out, HB6.out⟩
end Go.Proofs.YtilmbpdfdickoaaDoor

/- CallsBack, walked. -/
import Derived.Test.YtilmbpdfdickoaaDoorOpen
namespace Go.Proofs.YtilmbpdfdickoaaDoor
open Go.RowKit Go.Proofs.YtilmbpdfdickoaaDoor.Given Go.Proofs.YtilmbpdfdickoaaDoor.Print Go.Proofs.YtilmbpdfdickoaaDoor.Pure Go.Proofs.YtilmbpdfdickoaaDoorW.PrintWords Go.Proofs.YtilmbpdfdickoaaDoorW.PrintLast Go.Proofs.YtilmbpdfdickoaaDoorW.PrintMore
set_option linter.unusedVariables false
set_option linter.unusedSimpArgs false
theorem parse_nil : parseCS [] = (call0, 3) := by kernel_rfl
theorem hear_nil : hearS [] = (ans0, 3) := by kernel_rfl
theorem parse_print_ok {c : CallS} {s : List UInt8} (ho : OkC c) (hs : printC c = some s) : parseCS s = (c, 0) := by
  obtain ⟨h1, h2⟩ := parse_of_print ho.mask hs
  unfold parseCS
  rw [if_neg (by omega), h1]
theorem hear_say_ok {a : AnsS} {s : List UInt8} (h : sayA a = some s) : hearS s = (a, 0) := by
  obtain ⟨h1, h2⟩ := hear_say h
  unfold hearS
  rw [if_neg (by omega), h1]
theorem same_call (c : CallS) : (c.op == c.op && ((c.slot == c.slot && (c.gen == c.gen)) && (c.cpu == c.cpu && (c.n == c.n && (c.nice == c.nice && (c.mask == c.mask)))))) = true := by simp
theorem same_ans (c : AnsS) : (c.errno == c.errno && (c.n == c.n && (c.slot == c.slot && (c.gen == c.gen)))) = true := by simp
theorem ok_call0 : OkC call0 := ⟨⟨by decide, by decide⟩, ⟨by decide, by decide⟩, ⟨by decide, by decide⟩, ⟨by decide, by decide⟩, ⟨by decide, by decide⟩, ⟨by decide, by decide⟩, ⟨by decide, by decide⟩⟩
theorem print_len {c : CallS} {s : List UInt8} (ho : OkC c) (hs : printC c = some s) : (⟨s.toArray⟩ : ByteArray).size ≤ 4000000000 := by
  rw [size_bytes]; have := (parse_of_print ho.mask hs).2; omega
theorem say_len {a : AnsS} {s : List UInt8} (hs : sayA a = some s) : (⟨s.toArray⟩ : ByteArray).size ≤ 4000000000 := by
  rw [size_bytes]; have := (hear_say hs).2; omega
attribute [local go_sem high] eqA26 eqB36
set_option maxHeartbeats 8000000 in
set_option maxRecDepth 100000 in
theorem back_walk (c : CallS) (oc : OkC c) (a : AnsS) (oa : OkA a) (w : World) (HLd : Ld w) :
    Calls Tryd.prog 6 #[.agg #[.int .i64 c.op, .int .i64 c.slot, .int .i64 c.gen, .int .i64 c.cpu, .int .i64 c.n, .int .i64 c.nice, .int .u64 c.mask], .agg #[.int .i64 a.errno, .int .i64 a.n, .int .i64 a.slot, .int .i64 a.gen]] w fun e w' => e = .returned (.bool true) ∧ Below w.heap.size w w' := by
  have hu26 := Tryd.underlying26
  have hu36 := Tryd.underlying36
  have OC := Aside0.mk oc
  have OA := Aside0.mk oa
  clear oc oa
  rcases hs : printC c with _ | s <;> rcases ha : sayA a with _ | t
  all_goals
    have HS := Aside0.mk hs
    have HA := Aside0.mk ha
    clear hs ha
  · have HT : Aside0 (sayS a = ([], 1)) := ⟨by unfold sayS; rw [HA.out]⟩
    go_enter Tryd.func6, Tryd.ntmps6
    go_upto_region 1 with fail
    have K2_1 : Aside0 (((w.alloc (.cells #[.int .i64 c.op, .int .i64 c.slot, .int .i64 c.gen, .int .i64 c.cpu, .int .i64 c.n, .int .i64 c.nice, .int .u64 c.mask] 26)).alloc (.cells #[.int .i64 a.errno, .int .i64 a.n, .int .i64 a.slot, .int .i64 a.gen] 36)).heap[w.heap.size]? = some (.cells #[.int .i64 c.op, .int .i64 c.slot, .int .i64 c.gen, .int .i64 c.cpu, .int .i64 c.n, .int .i64 c.nice, .int .u64 c.mask] 26)) := ⟨(blk_alloc (blk_new w (.cells #[.int .i64 c.op, .int .i64 c.slot, .int .i64 c.gen, .int .i64 c.cpu, .int .i64 c.n, .int .i64 c.nice, .int .u64 c.mask] 26)) (.cells #[.int .i64 a.errno, .int .i64 a.n, .int .i64 a.slot, .int .i64 a.gen] 36))⟩
    have K3_1 : Aside0 (((w.alloc (.cells #[.int .i64 c.op, .int .i64 c.slot, .int .i64 c.gen, .int .i64 c.cpu, .int .i64 c.n, .int .i64 c.nice, .int .u64 c.mask] 26)).alloc (.cells #[.int .i64 a.errno, .int .i64 a.n, .int .i64 a.slot, .int .i64 a.gen] 36)).heap[w.heap.size + 1]? = some (.cells #[.int .i64 a.errno, .int .i64 a.n, .int .i64 a.slot, .int .i64 a.gen] 36)) := ⟨by have h_ := blk_new (w.alloc (.cells #[.int .i64 c.op, .int .i64 c.slot, .int .i64 c.gen, .int .i64 c.cpu, .int .i64 c.n, .int .i64 c.nice, .int .u64 c.mask] 26)) (.cells #[.int .i64 a.errno, .int .i64 a.n, .int .i64 a.slot, .int .i64 a.gen] 36); (repeat rw [World.size_alloc] at h_); exact h_⟩
    have HB1 := Aside0.mk (below_alloc (below_alloc (Below.refl w.heap.size w) (.cells #[.int .i64 c.op, .int .i64 c.slot, .int .i64 c.gen, .int .i64 c.cpu, .int .i64 c.n, .int .i64 c.nice, .int .u64 c.mask] 26)) (.cells #[.int .i64 a.errno, .int .i64 a.n, .int .i64 a.slot, .int .i64 a.gen] 36))
    generalize ((w.alloc (.cells #[.int .i64 c.op, .int .i64 c.slot, .int .i64 c.gen, .int .i64 c.cpu, .int .i64 c.n, .int .i64 c.nice, .int .u64 c.mask] 26)).alloc (.cells #[.int .i64 a.errno, .int .i64 a.n, .int .i64 a.slot, .int .i64 a.gen] 36)) = v1 at K2_1 K3_1 HB1 ⊢
    generalize w.heap.size + 1 = g3 at K3_1 ⊢
    generalize w.heap.size = g2 at K2_1 ⊢
    go_wp2_with fail
    refine (awake_c _ (HLd.below HB1.out)).mono ?_
    rintro e v2 ⟨rfl, hb⟩
    have HB2 := Aside0.mk (below_step HB1.out hb)
    have K3_2 := Aside0.mk (blk_below K3_1.out hb)
    have K2_2 := Aside0.mk (blk_below K2_1.out hb)
    clear hb
    have c2_0 : v2.cell? ⟨g2, 0, none⟩ = some (.int .i64 c.op) := (blk_cell K2_2.out 0).trans rfl
    have c2_1 : v2.cell? ⟨g2, 1, none⟩ = some (.int .i64 c.slot) := (blk_cell K2_2.out 1).trans rfl
    have c2_2 : v2.cell? ⟨g2, 2, none⟩ = some (.int .i64 c.gen) := (blk_cell K2_2.out 2).trans rfl
    have c2_3 : v2.cell? ⟨g2, 3, none⟩ = some (.int .i64 c.cpu) := (blk_cell K2_2.out 3).trans rfl
    have c2_4 : v2.cell? ⟨g2, 4, none⟩ = some (.int .i64 c.n) := (blk_cell K2_2.out 4).trans rfl
    have c2_5 : v2.cell? ⟨g2, 5, none⟩ = some (.int .i64 c.nice) := (blk_cell K2_2.out 5).trans rfl
    have c2_6 : v2.cell? ⟨g2, 6, none⟩ = some (.int .u64 c.mask) := (blk_cell K2_2.out 6).trans rfl
    go_wp2_with fail
    refine (print_no OC.out HS.out _ (HLd.below HB2.out)).mono ?_
    rintro e v3 ⟨rfl, hb⟩
    have HB3 := Aside0.mk (below_step HB2.out hb)
    have K3_3 := Aside0.mk (blk_below K3_2.out hb)
    have K2_3 := Aside0.mk (blk_below K2_2.out hb)
    clear hb
    clear c2_0 c2_1 c2_2 c2_3 c2_4 c2_5 c2_6
    go_wp2_with fail
    refine (parse_as (s := ⟨#[]⟩) (c := call0) (r := 3) (by decide) parse_nil _ (HLd.below HB3.out)).mono ?_
    rintro e v4 ⟨rfl, hb⟩
    have HB4 := Aside0.mk (below_step HB3.out hb)
    have K3_4 := Aside0.mk (blk_below K3_3.out hb)
    have K2_4 := Aside0.mk (blk_below K2_3.out hb)
    clear hb
    go_upto_region 6 with fail
    have K8_5 : Aside0 ((v4.alloc (.cells #[.int .i64 call0.op, .int .i64 call0.slot, .int .i64 call0.gen, .int .i64 call0.cpu, .int .i64 call0.n, .int .i64 call0.nice, .int .u64 call0.mask] 26)).heap[v4.heap.size]? = some (.cells #[.int .i64 call0.op, .int .i64 call0.slot, .int .i64 call0.gen, .int .i64 call0.cpu, .int .i64 call0.n, .int .i64 call0.nice, .int .u64 call0.mask] 26)) := ⟨(blk_new v4 (.cells #[.int .i64 call0.op, .int .i64 call0.slot, .int .i64 call0.gen, .int .i64 call0.cpu, .int .i64 call0.n, .int .i64 call0.nice, .int .u64 call0.mask] 26))⟩
    have K3_5 := Aside0.mk (blk_alloc K3_4.out (.cells #[.int .i64 call0.op, .int .i64 call0.slot, .int .i64 call0.gen, .int .i64 call0.cpu, .int .i64 call0.n, .int .i64 call0.nice, .int .u64 call0.mask] 26))
    have K2_5 := Aside0.mk (blk_alloc K2_4.out (.cells #[.int .i64 call0.op, .int .i64 call0.slot, .int .i64 call0.gen, .int .i64 call0.cpu, .int .i64 call0.n, .int .i64 call0.nice, .int .u64 call0.mask] 26))
    have HB5 := Aside0.mk (below_alloc HB4.out (.cells #[.int .i64 call0.op, .int .i64 call0.slot, .int .i64 call0.gen, .int .i64 call0.cpu, .int .i64 call0.n, .int .i64 call0.nice, .int .u64 call0.mask] 26))
    generalize (v4.alloc (.cells #[.int .i64 call0.op, .int .i64 call0.slot, .int .i64 call0.gen, .int .i64 call0.cpu, .int .i64 call0.n, .int .i64 call0.nice, .int .u64 call0.mask] 26)) = v5 at K8_5 K3_5 K2_5 HB5 ⊢
    generalize v4.heap.size = g8 at K8_5 ⊢
    have c8_0 : v5.cell? ⟨g8, 0, none⟩ = some (.int .i64 call0.op) := (blk_cell K8_5.out 0).trans rfl
    have c8_1 : v5.cell? ⟨g8, 1, none⟩ = some (.int .i64 call0.slot) := (blk_cell K8_5.out 1).trans rfl
    have c8_2 : v5.cell? ⟨g8, 2, none⟩ = some (.int .i64 call0.gen) := (blk_cell K8_5.out 2).trans rfl
    have c8_3 : v5.cell? ⟨g8, 3, none⟩ = some (.int .i64 call0.cpu) := (blk_cell K8_5.out 3).trans rfl
    have c8_4 : v5.cell? ⟨g8, 4, none⟩ = some (.int .i64 call0.n) := (blk_cell K8_5.out 4).trans rfl
    have c8_5 : v5.cell? ⟨g8, 5, none⟩ = some (.int .i64 call0.nice) := (blk_cell K8_5.out 5).trans rfl
    have c8_6 : v5.cell? ⟨g8, 6, none⟩ = some (.int .u64 call0.mask) := (blk_cell K8_5.out 6).trans rfl
    have c2_0 : v5.cell? ⟨g2, 0, none⟩ = some (.int .i64 c.op) := (blk_cell K2_5.out 0).trans rfl
    have c2_1 : v5.cell? ⟨g2, 1, none⟩ = some (.int .i64 c.slot) := (blk_cell K2_5.out 1).trans rfl
    have c2_2 : v5.cell? ⟨g2, 2, none⟩ = some (.int .i64 c.gen) := (blk_cell K2_5.out 2).trans rfl
    have c2_3 : v5.cell? ⟨g2, 3, none⟩ = some (.int .i64 c.cpu) := (blk_cell K2_5.out 3).trans rfl
    have c2_4 : v5.cell? ⟨g2, 4, none⟩ = some (.int .i64 c.n) := (blk_cell K2_5.out 4).trans rfl
    have c2_5 : v5.cell? ⟨g2, 5, none⟩ = some (.int .i64 c.nice) := (blk_cell K2_5.out 5).trans rfl
    have c2_6 : v5.cell? ⟨g2, 6, none⟩ = some (.int .u64 c.mask) := (blk_cell K2_5.out 6).trans rfl
    have c3_0 : v5.cell? ⟨g3, 0, none⟩ = some (.int .i64 a.errno) := (blk_cell K3_5.out 0).trans rfl
    have c3_1 : v5.cell? ⟨g3, 1, none⟩ = some (.int .i64 a.n) := (blk_cell K3_5.out 1).trans rfl
    have c3_2 : v5.cell? ⟨g3, 2, none⟩ = some (.int .i64 a.slot) := (blk_cell K3_5.out 2).trans rfl
    have c3_3 : v5.cell? ⟨g3, 3, none⟩ = some (.int .i64 a.gen) := (blk_cell K3_5.out 3).trans rfl
    have hq := same_call c
    go_wp2_with fail
    refine (say_as (a := a) (s := []) (r := 1) OA.out.errno OA.out.n OA.out.slot OA.out.gen HT.out _ (HLd.below HB5.out)).mono ?_
    rintro e v6 ⟨rfl, hb⟩
    have HB6 := Aside0.mk (below_step HB5.out hb)
    have K3_6 := Aside0.mk (blk_below K3_5.out hb)
    have K2_6 := Aside0.mk (blk_below K2_5.out hb)
    have K8_6 := Aside0.mk (blk_below K8_5.out hb)
    clear hb
    clear c2_0 c2_1 c2_2 c2_3 c2_4 c2_5 c2_6
    clear c8_0 c8_1 c8_2 c8_3 c8_4 c8_5 c8_6
    clear c3_0 c3_1 c3_2 c3_3
    clear hq
    go_wp2_with fail
    refine (hear_as (s := ⟨#[]⟩) (a := ans0) (r := 3) (by decide) hear_nil _ (HLd.below HB6.out)).mono ?_
    rintro e v7 ⟨rfl, hb⟩
    have HB7 := Aside0.mk (below_step HB6.out hb)
    have K3_7 := Aside0.mk (blk_below K3_6.out hb)
    have K2_7 := Aside0.mk (blk_below K2_6.out hb)
    have K8_7 := Aside0.mk (blk_below K8_6.out hb)
    clear hb
    go_upto_region 10 with fail
    have K12_8 : Aside0 ((v7.alloc (.cells #[.int .i64 ans0.errno, .int .i64 ans0.n, .int .i64 ans0.slot, .int .i64 ans0.gen] 36)).heap[v7.heap.size]? = some (.cells #[.int .i64 ans0.errno, .int .i64 ans0.n, .int .i64 ans0.slot, .int .i64 ans0.gen] 36)) := ⟨(blk_new v7 (.cells #[.int .i64 ans0.errno, .int .i64 ans0.n, .int .i64 ans0.slot, .int .i64 ans0.gen] 36))⟩
    have K3_8 := Aside0.mk (blk_alloc K3_7.out (.cells #[.int .i64 ans0.errno, .int .i64 ans0.n, .int .i64 ans0.slot, .int .i64 ans0.gen] 36))
    have K2_8 := Aside0.mk (blk_alloc K2_7.out (.cells #[.int .i64 ans0.errno, .int .i64 ans0.n, .int .i64 ans0.slot, .int .i64 ans0.gen] 36))
    have K8_8 := Aside0.mk (blk_alloc K8_7.out (.cells #[.int .i64 ans0.errno, .int .i64 ans0.n, .int .i64 ans0.slot, .int .i64 ans0.gen] 36))
    have HB8 := Aside0.mk (below_alloc HB7.out (.cells #[.int .i64 ans0.errno, .int .i64 ans0.n, .int .i64 ans0.slot, .int .i64 ans0.gen] 36))
    generalize (v7.alloc (.cells #[.int .i64 ans0.errno, .int .i64 ans0.n, .int .i64 ans0.slot, .int .i64 ans0.gen] 36)) = v8 at K12_8 K3_8 K2_8 K8_8 HB8 ⊢
    generalize v7.heap.size = g12 at K12_8 ⊢
    have c12_0 : v8.cell? ⟨g12, 0, none⟩ = some (.int .i64 ans0.errno) := (blk_cell K12_8.out 0).trans rfl
    have c12_1 : v8.cell? ⟨g12, 1, none⟩ = some (.int .i64 ans0.n) := (blk_cell K12_8.out 1).trans rfl
    have c12_2 : v8.cell? ⟨g12, 2, none⟩ = some (.int .i64 ans0.slot) := (blk_cell K12_8.out 2).trans rfl
    have c12_3 : v8.cell? ⟨g12, 3, none⟩ = some (.int .i64 ans0.gen) := (blk_cell K12_8.out 3).trans rfl
    have c3_0 : v8.cell? ⟨g3, 0, none⟩ = some (.int .i64 a.errno) := (blk_cell K3_8.out 0).trans rfl
    have c3_1 : v8.cell? ⟨g3, 1, none⟩ = some (.int .i64 a.n) := (blk_cell K3_8.out 1).trans rfl
    have c3_2 : v8.cell? ⟨g3, 2, none⟩ = some (.int .i64 a.slot) := (blk_cell K3_8.out 2).trans rfl
    have c3_3 : v8.cell? ⟨g3, 3, none⟩ = some (.int .i64 a.gen) := (blk_cell K3_8.out 3).trans rfl
    have hq := same_ans a
    go_wp2_with fail
    go_ret
    exact ⟨rfl, HB8.out⟩
  · have HT : Aside0 (sayS a = (t, 0)) := ⟨by unfold sayS; rw [HA.out]⟩
    go_enter Tryd.func6, Tryd.ntmps6
    go_upto_region 1 with fail
    have K2_1 : Aside0 (((w.alloc (.cells #[.int .i64 c.op, .int .i64 c.slot, .int .i64 c.gen, .int .i64 c.cpu, .int .i64 c.n, .int .i64 c.nice, .int .u64 c.mask] 26)).alloc (.cells #[.int .i64 a.errno, .int .i64 a.n, .int .i64 a.slot, .int .i64 a.gen] 36)).heap[w.heap.size]? = some (.cells #[.int .i64 c.op, .int .i64 c.slot, .int .i64 c.gen, .int .i64 c.cpu, .int .i64 c.n, .int .i64 c.nice, .int .u64 c.mask] 26)) := ⟨(blk_alloc (blk_new w (.cells #[.int .i64 c.op, .int .i64 c.slot, .int .i64 c.gen, .int .i64 c.cpu, .int .i64 c.n, .int .i64 c.nice, .int .u64 c.mask] 26)) (.cells #[.int .i64 a.errno, .int .i64 a.n, .int .i64 a.slot, .int .i64 a.gen] 36))⟩
    have K3_1 : Aside0 (((w.alloc (.cells #[.int .i64 c.op, .int .i64 c.slot, .int .i64 c.gen, .int .i64 c.cpu, .int .i64 c.n, .int .i64 c.nice, .int .u64 c.mask] 26)).alloc (.cells #[.int .i64 a.errno, .int .i64 a.n, .int .i64 a.slot, .int .i64 a.gen] 36)).heap[w.heap.size + 1]? = some (.cells #[.int .i64 a.errno, .int .i64 a.n, .int .i64 a.slot, .int .i64 a.gen] 36)) := ⟨by have h_ := blk_new (w.alloc (.cells #[.int .i64 c.op, .int .i64 c.slot, .int .i64 c.gen, .int .i64 c.cpu, .int .i64 c.n, .int .i64 c.nice, .int .u64 c.mask] 26)) (.cells #[.int .i64 a.errno, .int .i64 a.n, .int .i64 a.slot, .int .i64 a.gen] 36); (repeat rw [World.size_alloc] at h_); exact h_⟩
    have HB1 := Aside0.mk (below_alloc (below_alloc (Below.refl w.heap.size w) (.cells #[.int .i64 c.op, .int .i64 c.slot, .int .i64 c.gen, .int .i64 c.cpu, .int .i64 c.n, .int .i64 c.nice, .int .u64 c.mask] 26)) (.cells #[.int .i64 a.errno, .int .i64 a.n, .int .i64 a.slot, .int .i64 a.gen] 36))
    generalize ((w.alloc (.cells #[.int .i64 c.op, .int .i64 c.slot, .int .i64 c.gen, .int .i64 c.cpu, .int .i64 c.n, .int .i64 c.nice, .int .u64 c.mask] 26)).alloc (.cells #[.int .i64 a.errno, .int .i64 a.n, .int .i64 a.slot, .int .i64 a.gen] 36)) = v1 at K2_1 K3_1 HB1 ⊢
    generalize w.heap.size + 1 = g3 at K3_1 ⊢
    generalize w.heap.size = g2 at K2_1 ⊢
    go_wp2_with fail
    refine (awake_c _ (HLd.below HB1.out)).mono ?_
    rintro e v2 ⟨rfl, hb⟩
    have HB2 := Aside0.mk (below_step HB1.out hb)
    have K3_2 := Aside0.mk (blk_below K3_1.out hb)
    have K2_2 := Aside0.mk (blk_below K2_1.out hb)
    clear hb
    have c2_0 : v2.cell? ⟨g2, 0, none⟩ = some (.int .i64 c.op) := (blk_cell K2_2.out 0).trans rfl
    have c2_1 : v2.cell? ⟨g2, 1, none⟩ = some (.int .i64 c.slot) := (blk_cell K2_2.out 1).trans rfl
    have c2_2 : v2.cell? ⟨g2, 2, none⟩ = some (.int .i64 c.gen) := (blk_cell K2_2.out 2).trans rfl
    have c2_3 : v2.cell? ⟨g2, 3, none⟩ = some (.int .i64 c.cpu) := (blk_cell K2_2.out 3).trans rfl
    have c2_4 : v2.cell? ⟨g2, 4, none⟩ = some (.int .i64 c.n) := (blk_cell K2_2.out 4).trans rfl
    have c2_5 : v2.cell? ⟨g2, 5, none⟩ = some (.int .i64 c.nice) := (blk_cell K2_2.out 5).trans rfl
    have c2_6 : v2.cell? ⟨g2, 6, none⟩ = some (.int .u64 c.mask) := (blk_cell K2_2.out 6).trans rfl
    go_wp2_with fail
    refine (print_no OC.out HS.out _ (HLd.below HB2.out)).mono ?_
    rintro e v3 ⟨rfl, hb⟩
    have HB3 := Aside0.mk (below_step HB2.out hb)
    have K3_3 := Aside0.mk (blk_below K3_2.out hb)
    have K2_3 := Aside0.mk (blk_below K2_2.out hb)
    clear hb
    clear c2_0 c2_1 c2_2 c2_3 c2_4 c2_5 c2_6
    go_wp2_with fail
    refine (parse_as (s := ⟨#[]⟩) (c := call0) (r := 3) (by decide) parse_nil _ (HLd.below HB3.out)).mono ?_
    rintro e v4 ⟨rfl, hb⟩
    have HB4 := Aside0.mk (below_step HB3.out hb)
    have K3_4 := Aside0.mk (blk_below K3_3.out hb)
    have K2_4 := Aside0.mk (blk_below K2_3.out hb)
    clear hb
    go_upto_region 6 with fail
    have K8_5 : Aside0 ((v4.alloc (.cells #[.int .i64 call0.op, .int .i64 call0.slot, .int .i64 call0.gen, .int .i64 call0.cpu, .int .i64 call0.n, .int .i64 call0.nice, .int .u64 call0.mask] 26)).heap[v4.heap.size]? = some (.cells #[.int .i64 call0.op, .int .i64 call0.slot, .int .i64 call0.gen, .int .i64 call0.cpu, .int .i64 call0.n, .int .i64 call0.nice, .int .u64 call0.mask] 26)) := ⟨(blk_new v4 (.cells #[.int .i64 call0.op, .int .i64 call0.slot, .int .i64 call0.gen, .int .i64 call0.cpu, .int .i64 call0.n, .int .i64 call0.nice, .int .u64 call0.mask] 26))⟩
    have K3_5 := Aside0.mk (blk_alloc K3_4.out (.cells #[.int .i64 call0.op, .int .i64 call0.slot, .int .i64 call0.gen, .int .i64 call0.cpu, .int .i64 call0.n, .int .i64 call0.nice, .int .u64 call0.mask] 26))
    have K2_5 := Aside0.mk (blk_alloc K2_4.out (.cells #[.int .i64 call0.op, .int .i64 call0.slot, .int .i64 call0.gen, .int .i64 call0.cpu, .int .i64 call0.n, .int .i64 call0.nice, .int .u64 call0.mask] 26))
    have HB5 := Aside0.mk (below_alloc HB4.out (.cells #[.int .i64 call0.op, .int .i64 call0.slot, .int .i64 call0.gen, .int .i64 call0.cpu, .int .i64 call0.n, .int .i64 call0.nice, .int .u64 call0.mask] 26))
    generalize (v4.alloc (.cells #[.int .i64 call0.op, .int .i64 call0.slot, .int .i64 call0.gen, .int .i64 call0.cpu, .int .i64 call0.n, .int .i64 call0.nice, .int .u64 call0.mask] 26)) = v5 at K8_5 K3_5 K2_5 HB5 ⊢
    generalize v4.heap.size = g8 at K8_5 ⊢
    have c8_0 : v5.cell? ⟨g8, 0, none⟩ = some (.int .i64 call0.op) := (blk_cell K8_5.out 0).trans rfl
    have c8_1 : v5.cell? ⟨g8, 1, none⟩ = some (.int .i64 call0.slot) := (blk_cell K8_5.out 1).trans rfl
    have c8_2 : v5.cell? ⟨g8, 2, none⟩ = some (.int .i64 call0.gen) := (blk_cell K8_5.out 2).trans rfl
    have c8_3 : v5.cell? ⟨g8, 3, none⟩ = some (.int .i64 call0.cpu) := (blk_cell K8_5.out 3).trans rfl
    have c8_4 : v5.cell? ⟨g8, 4, none⟩ = some (.int .i64 call0.n) := (blk_cell K8_5.out 4).trans rfl
    have c8_5 : v5.cell? ⟨g8, 5, none⟩ = some (.int .i64 call0.nice) := (blk_cell K8_5.out 5).trans rfl
    have c8_6 : v5.cell? ⟨g8, 6, none⟩ = some (.int .u64 call0.mask) := (blk_cell K8_5.out 6).trans rfl
    have c2_0 : v5.cell? ⟨g2, 0, none⟩ = some (.int .i64 c.op) := (blk_cell K2_5.out 0).trans rfl
    have c2_1 : v5.cell? ⟨g2, 1, none⟩ = some (.int .i64 c.slot) := (blk_cell K2_5.out 1).trans rfl
    have c2_2 : v5.cell? ⟨g2, 2, none⟩ = some (.int .i64 c.gen) := (blk_cell K2_5.out 2).trans rfl
    have c2_3 : v5.cell? ⟨g2, 3, none⟩ = some (.int .i64 c.cpu) := (blk_cell K2_5.out 3).trans rfl
    have c2_4 : v5.cell? ⟨g2, 4, none⟩ = some (.int .i64 c.n) := (blk_cell K2_5.out 4).trans rfl
    have c2_5 : v5.cell? ⟨g2, 5, none⟩ = some (.int .i64 c.nice) := (blk_cell K2_5.out 5).trans rfl
    have c2_6 : v5.cell? ⟨g2, 6, none⟩ = some (.int .u64 c.mask) := (blk_cell K2_5.out 6).trans rfl
    have c3_0 : v5.cell? ⟨g3, 0, none⟩ = some (.int .i64 a.errno) := (blk_cell K3_5.out 0).trans rfl
    have c3_1 : v5.cell? ⟨g3, 1, none⟩ = some (.int .i64 a.n) := (blk_cell K3_5.out 1).trans rfl
    have c3_2 : v5.cell? ⟨g3, 2, none⟩ = some (.int .i64 a.slot) := (blk_cell K3_5.out 2).trans rfl
    have c3_3 : v5.cell? ⟨g3, 3, none⟩ = some (.int .i64 a.gen) := (blk_cell K3_5.out 3).trans rfl
    have hq := same_call c
    go_wp2_with fail
    refine (say_as (a := a) (s := t) (r := 0) OA.out.errno OA.out.n OA.out.slot OA.out.gen HT.out _ (HLd.below HB5.out)).mono ?_
    rintro e v6 ⟨rfl, hb⟩
    have HB6 := Aside0.mk (below_step HB5.out hb)
    have K3_6 := Aside0.mk (blk_below K3_5.out hb)
    have K2_6 := Aside0.mk (blk_below K2_5.out hb)
    have K8_6 := Aside0.mk (blk_below K8_5.out hb)
    clear hb
    clear c2_0 c2_1 c2_2 c2_3 c2_4 c2_5 c2_6
    clear c8_0 c8_1 c8_2 c8_3 c8_4 c8_5 c8_6
    clear c3_0 c3_1 c3_2 c3_3
    clear hq
    go_wp2_with fail
    refine (hear_as (s := ⟨t.toArray⟩) (a := a) (r := 0) (say_len HA.out) (hear_say_ok HA.out) _ (HLd.below HB6.out)).mono ?_
    rintro e v7 ⟨rfl, hb⟩
    have HB7 := Aside0.mk (below_step HB6.out hb)
    have K3_7 := Aside0.mk (blk_below K3_6.out hb)
    have K2_7 := Aside0.mk (blk_below K2_6.out hb)
    have K8_7 := Aside0.mk (blk_below K8_6.out hb)
    clear hb
    go_upto_region 10 with fail
    have K12_8 : Aside0 ((v7.alloc (.cells #[.int .i64 a.errno, .int .i64 a.n, .int .i64 a.slot, .int .i64 a.gen] 36)).heap[v7.heap.size]? = some (.cells #[.int .i64 a.errno, .int .i64 a.n, .int .i64 a.slot, .int .i64 a.gen] 36)) := ⟨(blk_new v7 (.cells #[.int .i64 a.errno, .int .i64 a.n, .int .i64 a.slot, .int .i64 a.gen] 36))⟩
    have K3_8 := Aside0.mk (blk_alloc K3_7.out (.cells #[.int .i64 a.errno, .int .i64 a.n, .int .i64 a.slot, .int .i64 a.gen] 36))
    have K2_8 := Aside0.mk (blk_alloc K2_7.out (.cells #[.int .i64 a.errno, .int .i64 a.n, .int .i64 a.slot, .int .i64 a.gen] 36))
    have K8_8 := Aside0.mk (blk_alloc K8_7.out (.cells #[.int .i64 a.errno, .int .i64 a.n, .int .i64 a.slot, .int .i64 a.gen] 36))
    have HB8 := Aside0.mk (below_alloc HB7.out (.cells #[.int .i64 a.errno, .int .i64 a.n, .int .i64 a.slot, .int .i64 a.gen] 36))
    generalize (v7.alloc (.cells #[.int .i64 a.errno, .int .i64 a.n, .int .i64 a.slot, .int .i64 a.gen] 36)) = v8 at K12_8 K3_8 K2_8 K8_8 HB8 ⊢
    generalize v7.heap.size = g12 at K12_8 ⊢
    have c12_0 : v8.cell? ⟨g12, 0, none⟩ = some (.int .i64 a.errno) := (blk_cell K12_8.out 0).trans rfl
    have c12_1 : v8.cell? ⟨g12, 1, none⟩ = some (.int .i64 a.n) := (blk_cell K12_8.out 1).trans rfl
    have c12_2 : v8.cell? ⟨g12, 2, none⟩ = some (.int .i64 a.slot) := (blk_cell K12_8.out 2).trans rfl
    have c12_3 : v8.cell? ⟨g12, 3, none⟩ = some (.int .i64 a.gen) := (blk_cell K12_8.out 3).trans rfl
    have c3_0 : v8.cell? ⟨g3, 0, none⟩ = some (.int .i64 a.errno) := (blk_cell K3_8.out 0).trans rfl
    have c3_1 : v8.cell? ⟨g3, 1, none⟩ = some (.int .i64 a.n) := (blk_cell K3_8.out 1).trans rfl
    have c3_2 : v8.cell? ⟨g3, 2, none⟩ = some (.int .i64 a.slot) := (blk_cell K3_8.out 2).trans rfl
    have c3_3 : v8.cell? ⟨g3, 3, none⟩ = some (.int .i64 a.gen) := (blk_cell K3_8.out 3).trans rfl
    have hq := same_ans a
    go_wp2_with fail
    go_ret
    exact ⟨rfl, HB8.out⟩
  · have HT : Aside0 (sayS a = ([], 1)) := ⟨by unfold sayS; rw [HA.out]⟩
    go_enter Tryd.func6, Tryd.ntmps6
    go_upto_region 1 with fail
    have K2_1 : Aside0 (((w.alloc (.cells #[.int .i64 c.op, .int .i64 c.slot, .int .i64 c.gen, .int .i64 c.cpu, .int .i64 c.n, .int .i64 c.nice, .int .u64 c.mask] 26)).alloc (.cells #[.int .i64 a.errno, .int .i64 a.n, .int .i64 a.slot, .int .i64 a.gen] 36)).heap[w.heap.size]? = some (.cells #[.int .i64 c.op, .int .i64 c.slot, .int .i64 c.gen, .int .i64 c.cpu, .int .i64 c.n, .int .i64 c.nice, .int .u64 c.mask] 26)) := ⟨(blk_alloc (blk_new w (.cells #[.int .i64 c.op, .int .i64 c.slot, .int .i64 c.gen, .int .i64 c.cpu, .int .i64 c.n, .int .i64 c.nice, .int .u64 c.mask] 26)) (.cells #[.int .i64 a.errno, .int .i64 a.n, .int .i64 a.slot, .int .i64 a.gen] 36))⟩
    have K3_1 : Aside0 (((w.alloc (.cells #[.int .i64 c.op, .int .i64 c.slot, .int .i64 c.gen, .int .i64 c.cpu, .int .i64 c.n, .int .i64 c.nice, .int .u64 c.mask] 26)).alloc (.cells #[.int .i64 a.errno, .int .i64 a.n, .int .i64 a.slot, .int .i64 a.gen] 36)).heap[w.heap.size + 1]? = some (.cells #[.int .i64 a.errno, .int .i64 a.n, .int .i64 a.slot, .int .i64 a.gen] 36)) := ⟨by have h_ := blk_new (w.alloc (.cells #[.int .i64 c.op, .int .i64 c.slot, .int .i64 c.gen, .int .i64 c.cpu, .int .i64 c.n, .int .i64 c.nice, .int .u64 c.mask] 26)) (.cells #[.int .i64 a.errno, .int .i64 a.n, .int .i64 a.slot, .int .i64 a.gen] 36); (repeat rw [World.size_alloc] at h_); exact h_⟩
    have HB1 := Aside0.mk (below_alloc (below_alloc (Below.refl w.heap.size w) (.cells #[.int .i64 c.op, .int .i64 c.slot, .int .i64 c.gen, .int .i64 c.cpu, .int .i64 c.n, .int .i64 c.nice, .int .u64 c.mask] 26)) (.cells #[.int .i64 a.errno, .int .i64 a.n, .int .i64 a.slot, .int .i64 a.gen] 36))
    generalize ((w.alloc (.cells #[.int .i64 c.op, .int .i64 c.slot, .int .i64 c.gen, .int .i64 c.cpu, .int .i64 c.n, .int .i64 c.nice, .int .u64 c.mask] 26)).alloc (.cells #[.int .i64 a.errno, .int .i64 a.n, .int .i64 a.slot, .int .i64 a.gen] 36)) = v1 at K2_1 K3_1 HB1 ⊢
    generalize w.heap.size + 1 = g3 at K3_1 ⊢
    generalize w.heap.size = g2 at K2_1 ⊢
    go_wp2_with fail
    refine (awake_c _ (HLd.below HB1.out)).mono ?_
    rintro e v2 ⟨rfl, hb⟩
    have HB2 := Aside0.mk (below_step HB1.out hb)
    have K3_2 := Aside0.mk (blk_below K3_1.out hb)
    have K2_2 := Aside0.mk (blk_below K2_1.out hb)
    clear hb
    have c2_0 : v2.cell? ⟨g2, 0, none⟩ = some (.int .i64 c.op) := (blk_cell K2_2.out 0).trans rfl
    have c2_1 : v2.cell? ⟨g2, 1, none⟩ = some (.int .i64 c.slot) := (blk_cell K2_2.out 1).trans rfl
    have c2_2 : v2.cell? ⟨g2, 2, none⟩ = some (.int .i64 c.gen) := (blk_cell K2_2.out 2).trans rfl
    have c2_3 : v2.cell? ⟨g2, 3, none⟩ = some (.int .i64 c.cpu) := (blk_cell K2_2.out 3).trans rfl
    have c2_4 : v2.cell? ⟨g2, 4, none⟩ = some (.int .i64 c.n) := (blk_cell K2_2.out 4).trans rfl
    have c2_5 : v2.cell? ⟨g2, 5, none⟩ = some (.int .i64 c.nice) := (blk_cell K2_2.out 5).trans rfl
    have c2_6 : v2.cell? ⟨g2, 6, none⟩ = some (.int .u64 c.mask) := (blk_cell K2_2.out 6).trans rfl
    go_wp2_with fail
    refine (print_ok OC.out HS.out _ (HLd.below HB2.out)).mono ?_
    rintro e v3 ⟨rfl, hb⟩
    have HB3 := Aside0.mk (below_step HB2.out hb)
    have K3_3 := Aside0.mk (blk_below K3_2.out hb)
    have K2_3 := Aside0.mk (blk_below K2_2.out hb)
    clear hb
    clear c2_0 c2_1 c2_2 c2_3 c2_4 c2_5 c2_6
    go_wp2_with fail
    refine (parse_as (s := ⟨s.toArray⟩) (c := c) (r := 0) (print_len OC.out HS.out) (parse_print_ok OC.out HS.out) _ (HLd.below HB3.out)).mono ?_
    rintro e v4 ⟨rfl, hb⟩
    have HB4 := Aside0.mk (below_step HB3.out hb)
    have K3_4 := Aside0.mk (blk_below K3_3.out hb)
    have K2_4 := Aside0.mk (blk_below K2_3.out hb)
    clear hb
    go_upto_region 6 with fail
    have K8_5 : Aside0 ((v4.alloc (.cells #[.int .i64 c.op, .int .i64 c.slot, .int .i64 c.gen, .int .i64 c.cpu, .int .i64 c.n, .int .i64 c.nice, .int .u64 c.mask] 26)).heap[v4.heap.size]? = some (.cells #[.int .i64 c.op, .int .i64 c.slot, .int .i64 c.gen, .int .i64 c.cpu, .int .i64 c.n, .int .i64 c.nice, .int .u64 c.mask] 26)) := ⟨(blk_new v4 (.cells #[.int .i64 c.op, .int .i64 c.slot, .int .i64 c.gen, .int .i64 c.cpu, .int .i64 c.n, .int .i64 c.nice, .int .u64 c.mask] 26))⟩
    have K3_5 := Aside0.mk (blk_alloc K3_4.out (.cells #[.int .i64 c.op, .int .i64 c.slot, .int .i64 c.gen, .int .i64 c.cpu, .int .i64 c.n, .int .i64 c.nice, .int .u64 c.mask] 26))
    have K2_5 := Aside0.mk (blk_alloc K2_4.out (.cells #[.int .i64 c.op, .int .i64 c.slot, .int .i64 c.gen, .int .i64 c.cpu, .int .i64 c.n, .int .i64 c.nice, .int .u64 c.mask] 26))
    have HB5 := Aside0.mk (below_alloc HB4.out (.cells #[.int .i64 c.op, .int .i64 c.slot, .int .i64 c.gen, .int .i64 c.cpu, .int .i64 c.n, .int .i64 c.nice, .int .u64 c.mask] 26))
    generalize (v4.alloc (.cells #[.int .i64 c.op, .int .i64 c.slot, .int .i64 c.gen, .int .i64 c.cpu, .int .i64 c.n, .int .i64 c.nice, .int .u64 c.mask] 26)) = v5 at K8_5 K3_5 K2_5 HB5 ⊢
    generalize v4.heap.size = g8 at K8_5 ⊢
    have c8_0 : v5.cell? ⟨g8, 0, none⟩ = some (.int .i64 c.op) := (blk_cell K8_5.out 0).trans rfl
    have c8_1 : v5.cell? ⟨g8, 1, none⟩ = some (.int .i64 c.slot) := (blk_cell K8_5.out 1).trans rfl
    have c8_2 : v5.cell? ⟨g8, 2, none⟩ = some (.int .i64 c.gen) := (blk_cell K8_5.out 2).trans rfl
    have c8_3 : v5.cell? ⟨g8, 3, none⟩ = some (.int .i64 c.cpu) := (blk_cell K8_5.out 3).trans rfl
    have c8_4 : v5.cell? ⟨g8, 4, none⟩ = some (.int .i64 c.n) := (blk_cell K8_5.out 4).trans rfl
    have c8_5 : v5.cell? ⟨g8, 5, none⟩ = some (.int .i64 c.nice) := (blk_cell K8_5.out 5).trans rfl
    have c8_6 : v5.cell? ⟨g8, 6, none⟩ = some (.int .u64 c.mask) := (blk_cell K8_5.out 6).trans rfl
    have c2_0 : v5.cell? ⟨g2, 0, none⟩ = some (.int .i64 c.op) := (blk_cell K2_5.out 0).trans rfl
    have c2_1 : v5.cell? ⟨g2, 1, none⟩ = some (.int .i64 c.slot) := (blk_cell K2_5.out 1).trans rfl
    have c2_2 : v5.cell? ⟨g2, 2, none⟩ = some (.int .i64 c.gen) := (blk_cell K2_5.out 2).trans rfl
    have c2_3 : v5.cell? ⟨g2, 3, none⟩ = some (.int .i64 c.cpu) := (blk_cell K2_5.out 3).trans rfl
    have c2_4 : v5.cell? ⟨g2, 4, none⟩ = some (.int .i64 c.n) := (blk_cell K2_5.out 4).trans rfl
    have c2_5 : v5.cell? ⟨g2, 5, none⟩ = some (.int .i64 c.nice) := (blk_cell K2_5.out 5).trans rfl
    have c2_6 : v5.cell? ⟨g2, 6, none⟩ = some (.int .u64 c.mask) := (blk_cell K2_5.out 6).trans rfl
    have c3_0 : v5.cell? ⟨g3, 0, none⟩ = some (.int .i64 a.errno) := (blk_cell K3_5.out 0).trans rfl
    have c3_1 : v5.cell? ⟨g3, 1, none⟩ = some (.int .i64 a.n) := (blk_cell K3_5.out 1).trans rfl
    have c3_2 : v5.cell? ⟨g3, 2, none⟩ = some (.int .i64 a.slot) := (blk_cell K3_5.out 2).trans rfl
    have c3_3 : v5.cell? ⟨g3, 3, none⟩ = some (.int .i64 a.gen) := (blk_cell K3_5.out 3).trans rfl
    have hq := same_call c
    go_wp2_with fail
    refine (say_as (a := a) (s := []) (r := 1) OA.out.errno OA.out.n OA.out.slot OA.out.gen HT.out _ (HLd.below HB5.out)).mono ?_
    rintro e v6 ⟨rfl, hb⟩
    have HB6 := Aside0.mk (below_step HB5.out hb)
    have K3_6 := Aside0.mk (blk_below K3_5.out hb)
    have K2_6 := Aside0.mk (blk_below K2_5.out hb)
    have K8_6 := Aside0.mk (blk_below K8_5.out hb)
    clear hb
    clear c2_0 c2_1 c2_2 c2_3 c2_4 c2_5 c2_6
    clear c8_0 c8_1 c8_2 c8_3 c8_4 c8_5 c8_6
    clear c3_0 c3_1 c3_2 c3_3
    clear hq
    go_wp2_with fail
    refine (hear_as (s := ⟨#[]⟩) (a := ans0) (r := 3) (by decide) hear_nil _ (HLd.below HB6.out)).mono ?_
    rintro e v7 ⟨rfl, hb⟩
    have HB7 := Aside0.mk (below_step HB6.out hb)
    have K3_7 := Aside0.mk (blk_below K3_6.out hb)
    have K2_7 := Aside0.mk (blk_below K2_6.out hb)
    have K8_7 := Aside0.mk (blk_below K8_6.out hb)
    clear hb
    go_upto_region 10 with fail
    have K12_8 : Aside0 ((v7.alloc (.cells #[.int .i64 ans0.errno, .int .i64 ans0.n, .int .i64 ans0.slot, .int .i64 ans0.gen] 36)).heap[v7.heap.size]? = some (.cells #[.int .i64 ans0.errno, .int .i64 ans0.n, .int .i64 ans0.slot, .int .i64 ans0.gen] 36)) := ⟨(blk_new v7 (.cells #[.int .i64 ans0.errno, .int .i64 ans0.n, .int .i64 ans0.slot, .int .i64 ans0.gen] 36))⟩
    have K3_8 := Aside0.mk (blk_alloc K3_7.out (.cells #[.int .i64 ans0.errno, .int .i64 ans0.n, .int .i64 ans0.slot, .int .i64 ans0.gen] 36))
    have K2_8 := Aside0.mk (blk_alloc K2_7.out (.cells #[.int .i64 ans0.errno, .int .i64 ans0.n, .int .i64 ans0.slot, .int .i64 ans0.gen] 36))
    have K8_8 := Aside0.mk (blk_alloc K8_7.out (.cells #[.int .i64 ans0.errno, .int .i64 ans0.n, .int .i64 ans0.slot, .int .i64 ans0.gen] 36))
    have HB8 := Aside0.mk (below_alloc HB7.out (.cells #[.int .i64 ans0.errno, .int .i64 ans0.n, .int .i64 ans0.slot, .int .i64 ans0.gen] 36))
    generalize (v7.alloc (.cells #[.int .i64 ans0.errno, .int .i64 ans0.n, .int .i64 ans0.slot, .int .i64 ans0.gen] 36)) = v8 at K12_8 K3_8 K2_8 K8_8 HB8 ⊢
    generalize v7.heap.size = g12 at K12_8 ⊢
    have c12_0 : v8.cell? ⟨g12, 0, none⟩ = some (.int .i64 ans0.errno) := (blk_cell K12_8.out 0).trans rfl
    have c12_1 : v8.cell? ⟨g12, 1, none⟩ = some (.int .i64 ans0.n) := (blk_cell K12_8.out 1).trans rfl
    have c12_2 : v8.cell? ⟨g12, 2, none⟩ = some (.int .i64 ans0.slot) := (blk_cell K12_8.out 2).trans rfl
    have c12_3 : v8.cell? ⟨g12, 3, none⟩ = some (.int .i64 ans0.gen) := (blk_cell K12_8.out 3).trans rfl
    have c3_0 : v8.cell? ⟨g3, 0, none⟩ = some (.int .i64 a.errno) := (blk_cell K3_8.out 0).trans rfl
    have c3_1 : v8.cell? ⟨g3, 1, none⟩ = some (.int .i64 a.n) := (blk_cell K3_8.out 1).trans rfl
    have c3_2 : v8.cell? ⟨g3, 2, none⟩ = some (.int .i64 a.slot) := (blk_cell K3_8.out 2).trans rfl
    have c3_3 : v8.cell? ⟨g3, 3, none⟩ = some (.int .i64 a.gen) := (blk_cell K3_8.out 3).trans rfl
    have hq := same_ans a
    go_wp2_with fail
    go_ret
    exact ⟨rfl, HB8.out⟩
  · have HT : Aside0 (sayS a = (t, 0)) := ⟨by unfold sayS; rw [HA.out]⟩
    go_enter Tryd.func6, Tryd.ntmps6
    go_upto_region 1 with fail
    have K2_1 : Aside0 (((w.alloc (.cells #[.int .i64 c.op, .int .i64 c.slot, .int .i64 c.gen, .int .i64 c.cpu, .int .i64 c.n, .int .i64 c.nice, .int .u64 c.mask] 26)).alloc (.cells #[.int .i64 a.errno, .int .i64 a.n, .int .i64 a.slot, .int .i64 a.gen] 36)).heap[w.heap.size]? = some (.cells #[.int .i64 c.op, .int .i64 c.slot, .int .i64 c.gen, .int .i64 c.cpu, .int .i64 c.n, .int .i64 c.nice, .int .u64 c.mask] 26)) := ⟨(blk_alloc (blk_new w (.cells #[.int .i64 c.op, .int .i64 c.slot, .int .i64 c.gen, .int .i64 c.cpu, .int .i64 c.n, .int .i64 c.nice, .int .u64 c.mask] 26)) (.cells #[.int .i64 a.errno, .int .i64 a.n, .int .i64 a.slot, .int .i64 a.gen] 36))⟩
    have K3_1 : Aside0 (((w.alloc (.cells #[.int .i64 c.op, .int .i64 c.slot, .int .i64 c.gen, .int .i64 c.cpu, .int .i64 c.n, .int .i64 c.nice, .int .u64 c.mask] 26)).alloc (.cells #[.int .i64 a.errno, .int .i64 a.n, .int .i64 a.slot, .int .i64 a.gen] 36)).heap[w.heap.size + 1]? = some (.cells #[.int .i64 a.errno, .int .i64 a.n, .int .i64 a.slot, .int .i64 a.gen] 36)) := ⟨by have h_ := blk_new (w.alloc (.cells #[.int .i64 c.op, .int .i64 c.slot, .int .i64 c.gen, .int .i64 c.cpu, .int .i64 c.n, .int .i64 c.nice, .int .u64 c.mask] 26)) (.cells #[.int .i64 a.errno, .int .i64 a.n, .int .i64 a.slot, .int .i64 a.gen] 36); (repeat rw [World.size_alloc] at h_); exact h_⟩
    have HB1 := Aside0.mk (below_alloc (below_alloc (Below.refl w.heap.size w) (.cells #[.int .i64 c.op, .int .i64 c.slot, .int .i64 c.gen, .int .i64 c.cpu, .int .i64 c.n, .int .i64 c.nice, .int .u64 c.mask] 26)) (.cells #[.int .i64 a.errno, .int .i64 a.n, .int .i64 a.slot, .int .i64 a.gen] 36))
    generalize ((w.alloc (.cells #[.int .i64 c.op, .int .i64 c.slot, .int .i64 c.gen, .int .i64 c.cpu, .int .i64 c.n, .int .i64 c.nice, .int .u64 c.mask] 26)).alloc (.cells #[.int .i64 a.errno, .int .i64 a.n, .int .i64 a.slot, .int .i64 a.gen] 36)) = v1 at K2_1 K3_1 HB1 ⊢
    generalize w.heap.size + 1 = g3 at K3_1 ⊢
    generalize w.heap.size = g2 at K2_1 ⊢
    go_wp2_with fail
    refine (awake_c _ (HLd.below HB1.out)).mono ?_
    rintro e v2 ⟨rfl, hb⟩
    have HB2 := Aside0.mk (below_step HB1.out hb)
    have K3_2 := Aside0.mk (blk_below K3_1.out hb)
    have K2_2 := Aside0.mk (blk_below K2_1.out hb)
    clear hb
    have c2_0 : v2.cell? ⟨g2, 0, none⟩ = some (.int .i64 c.op) := (blk_cell K2_2.out 0).trans rfl
    have c2_1 : v2.cell? ⟨g2, 1, none⟩ = some (.int .i64 c.slot) := (blk_cell K2_2.out 1).trans rfl
    have c2_2 : v2.cell? ⟨g2, 2, none⟩ = some (.int .i64 c.gen) := (blk_cell K2_2.out 2).trans rfl
    have c2_3 : v2.cell? ⟨g2, 3, none⟩ = some (.int .i64 c.cpu) := (blk_cell K2_2.out 3).trans rfl
    have c2_4 : v2.cell? ⟨g2, 4, none⟩ = some (.int .i64 c.n) := (blk_cell K2_2.out 4).trans rfl
    have c2_5 : v2.cell? ⟨g2, 5, none⟩ = some (.int .i64 c.nice) := (blk_cell K2_2.out 5).trans rfl
    have c2_6 : v2.cell? ⟨g2, 6, none⟩ = some (.int .u64 c.mask) := (blk_cell K2_2.out 6).trans rfl
    go_wp2_with fail
    refine (print_ok OC.out HS.out _ (HLd.below HB2.out)).mono ?_
    rintro e v3 ⟨rfl, hb⟩
    have HB3 := Aside0.mk (below_step HB2.out hb)
    have K3_3 := Aside0.mk (blk_below K3_2.out hb)
    have K2_3 := Aside0.mk (blk_below K2_2.out hb)
    clear hb
    clear c2_0 c2_1 c2_2 c2_3 c2_4 c2_5 c2_6
    go_wp2_with fail
    refine (parse_as (s := ⟨s.toArray⟩) (c := c) (r := 0) (print_len OC.out HS.out) (parse_print_ok OC.out HS.out) _ (HLd.below HB3.out)).mono ?_
    rintro e v4 ⟨rfl, hb⟩
    have HB4 := Aside0.mk (below_step HB3.out hb)
    have K3_4 := Aside0.mk (blk_below K3_3.out hb)
    have K2_4 := Aside0.mk (blk_below K2_3.out hb)
    clear hb
    go_upto_region 6 with fail
    have K8_5 : Aside0 ((v4.alloc (.cells #[.int .i64 c.op, .int .i64 c.slot, .int .i64 c.gen, .int .i64 c.cpu, .int .i64 c.n, .int .i64 c.nice, .int .u64 c.mask] 26)).heap[v4.heap.size]? = some (.cells #[.int .i64 c.op, .int .i64 c.slot, .int .i64 c.gen, .int .i64 c.cpu, .int .i64 c.n, .int .i64 c.nice, .int .u64 c.mask] 26)) := ⟨(blk_new v4 (.cells #[.int .i64 c.op, .int .i64 c.slot, .int .i64 c.gen, .int .i64 c.cpu, .int .i64 c.n, .int .i64 c.nice, .int .u64 c.mask] 26))⟩
    have K3_5 := Aside0.mk (blk_alloc K3_4.out (.cells #[.int .i64 c.op, .int .i64 c.slot, .int .i64 c.gen, .int .i64 c.cpu, .int .i64 c.n, .int .i64 c.nice, .int .u64 c.mask] 26))
    have K2_5 := Aside0.mk (blk_alloc K2_4.out (.cells #[.int .i64 c.op, .int .i64 c.slot, .int .i64 c.gen, .int .i64 c.cpu, .int .i64 c.n, .int .i64 c.nice, .int .u64 c.mask] 26))
    have HB5 := Aside0.mk (below_alloc HB4.out (.cells #[.int .i64 c.op, .int .i64 c.slot, .int .i64 c.gen, .int .i64 c.cpu, .int .i64 c.n, .int .i64 c.nice, .int .u64 c.mask] 26))
    generalize (v4.alloc (.cells #[.int .i64 c.op, .int .i64 c.slot, .int .i64 c.gen, .int .i64 c.cpu, .int .i64 c.n, .int .i64 c.nice, .int .u64 c.mask] 26)) = v5 at K8_5 K3_5 K2_5 HB5 ⊢
    generalize v4.heap.size = g8 at K8_5 ⊢
    have c8_0 : v5.cell? ⟨g8, 0, none⟩ = some (.int .i64 c.op) := (blk_cell K8_5.out 0).trans rfl
    have c8_1 : v5.cell? ⟨g8, 1, none⟩ = some (.int .i64 c.slot) := (blk_cell K8_5.out 1).trans rfl
    have c8_2 : v5.cell? ⟨g8, 2, none⟩ = some (.int .i64 c.gen) := (blk_cell K8_5.out 2).trans rfl
    have c8_3 : v5.cell? ⟨g8, 3, none⟩ = some (.int .i64 c.cpu) := (blk_cell K8_5.out 3).trans rfl
    have c8_4 : v5.cell? ⟨g8, 4, none⟩ = some (.int .i64 c.n) := (blk_cell K8_5.out 4).trans rfl
    have c8_5 : v5.cell? ⟨g8, 5, none⟩ = some (.int .i64 c.nice) := (blk_cell K8_5.out 5).trans rfl
    have c8_6 : v5.cell? ⟨g8, 6, none⟩ = some (.int .u64 c.mask) := (blk_cell K8_5.out 6).trans rfl
    have c2_0 : v5.cell? ⟨g2, 0, none⟩ = some (.int .i64 c.op) := (blk_cell K2_5.out 0).trans rfl
    have c2_1 : v5.cell? ⟨g2, 1, none⟩ = some (.int .i64 c.slot) := (blk_cell K2_5.out 1).trans rfl
    have c2_2 : v5.cell? ⟨g2, 2, none⟩ = some (.int .i64 c.gen) := (blk_cell K2_5.out 2).trans rfl
    have c2_3 : v5.cell? ⟨g2, 3, none⟩ = some (.int .i64 c.cpu) := (blk_cell K2_5.out 3).trans rfl
    have c2_4 : v5.cell? ⟨g2, 4, none⟩ = some (.int .i64 c.n) := (blk_cell K2_5.out 4).trans rfl
    have c2_5 : v5.cell? ⟨g2, 5, none⟩ = some (.int .i64 c.nice) := (blk_cell K2_5.out 5).trans rfl
    have c2_6 : v5.cell? ⟨g2, 6, none⟩ = some (.int .u64 c.mask) := (blk_cell K2_5.out 6).trans rfl
    have c3_0 : v5.cell? ⟨g3, 0, none⟩ = some (.int .i64 a.errno) := (blk_cell K3_5.out 0).trans rfl
    have c3_1 : v5.cell? ⟨g3, 1, none⟩ = some (.int .i64 a.n) := (blk_cell K3_5.out 1).trans rfl
    have c3_2 : v5.cell? ⟨g3, 2, none⟩ = some (.int .i64 a.slot) := (blk_cell K3_5.out 2).trans rfl
    have c3_3 : v5.cell? ⟨g3, 3, none⟩ = some (.int .i64 a.gen) := (blk_cell K3_5.out 3).trans rfl
    have hq := same_call c
    go_wp2_with fail
    refine (say_as (a := a) (s := t) (r := 0) OA.out.errno OA.out.n OA.out.slot OA.out.gen HT.out _ (HLd.below HB5.out)).mono ?_
    rintro e v6 ⟨rfl, hb⟩
    have HB6 := Aside0.mk (below_step HB5.out hb)
    have K3_6 := Aside0.mk (blk_below K3_5.out hb)
    have K2_6 := Aside0.mk (blk_below K2_5.out hb)
    have K8_6 := Aside0.mk (blk_below K8_5.out hb)
    clear hb
    clear c2_0 c2_1 c2_2 c2_3 c2_4 c2_5 c2_6
    clear c8_0 c8_1 c8_2 c8_3 c8_4 c8_5 c8_6
    clear c3_0 c3_1 c3_2 c3_3
    clear hq
    go_wp2_with fail
    refine (hear_as (s := ⟨t.toArray⟩) (a := a) (r := 0) (say_len HA.out) (hear_say_ok HA.out) _ (HLd.below HB6.out)).mono ?_
    rintro e v7 ⟨rfl, hb⟩
    have HB7 := Aside0.mk (below_step HB6.out hb)
    have K3_7 := Aside0.mk (blk_below K3_6.out hb)
    have K2_7 := Aside0.mk (blk_below K2_6.out hb)
    have K8_7 := Aside0.mk (blk_below K8_6.out hb)
    clear hb
    go_upto_region 10 with fail
    have K12_8 : Aside0 ((v7.alloc (.cells #[.int .i64 a.errno, .int .i64 a.n, .int .i64 a.slot, .int .i64 a.gen] 36)).heap[v7.heap.size]? = some (.cells #[.int .i64 a.errno, .int .i64 a.n, .int .i64 a.slot, .int .i64 a.gen] 36)) := ⟨(blk_new v7 (.cells #[.int .i64 a.errno, .int .i64 a.n, .int .i64 a.slot, .int .i64 a.gen] 36))⟩
    have K3_8 := Aside0.mk (blk_alloc K3_7.out (.cells #[.int .i64 a.errno, .int .i64 a.n, .int .i64 a.slot, .int .i64 a.gen] 36))
    have K2_8 := Aside0.mk (blk_alloc K2_7.out (.cells #[.int .i64 a.errno, .int .i64 a.n, .int .i64 a.slot, .int .i64 a.gen] 36))
    have K8_8 := Aside0.mk (blk_alloc K8_7.out (.cells #[.int .i64 a.errno, .int .i64 a.n, .int .i64 a.slot, .int .i64 a.gen] 36))
    have HB8 := Aside0.mk (below_alloc HB7.out (.cells #[.int .i64 a.errno, .int .i64 a.n, .int .i64 a.slot, .int .i64 a.gen] 36))
    generalize (v7.alloc (.cells #[.int .i64 a.errno, .int .i64 a.n, .int .i64 a.slot, .int .i64 a.gen] 36)) = v8 at K12_8 K3_8 K2_8 K8_8 HB8 ⊢
    generalize v7.heap.size = g12 at K12_8 ⊢
    have c12_0 : v8.cell? ⟨g12, 0, none⟩ = some (.int .i64 a.errno) := (blk_cell K12_8.out 0).trans rfl
    have c12_1 : v8.cell? ⟨g12, 1, none⟩ = some (.int .i64 a.n) := (blk_cell K12_8.out 1).trans rfl
    have c12_2 : v8.cell? ⟨g12, 2, none⟩ = some (.int .i64 a.slot) := (blk_cell K12_8.out 2).trans rfl
    have c12_3 : v8.cell? ⟨g12, 3, none⟩ = some (.int .i64 a.gen) := (blk_cell K12_8.out 3).trans rfl
    have c3_0 : v8.cell? ⟨g3, 0, none⟩ = some (.int .i64 a.errno) := (blk_cell K3_8.out 0).trans rfl
    have c3_1 : v8.cell? ⟨g3, 1, none⟩ = some (.int .i64 a.n) := (blk_cell K3_8.out 1).trans rfl
    have c3_2 : v8.cell? ⟨g3, 2, none⟩ = some (.int .i64 a.slot) := (blk_cell K3_8.out 2).trans rfl
    have c3_3 : v8.cell? ⟨g3, 3, none⟩ = some (.int .i64 a.gen) := (blk_cell K3_8.out 3).trans rfl
    have hq := same_ans a
    go_wp2_with fail
    go_ret
    exact ⟨rfl, HB8.out⟩
theorem Walk.CallsBack (c : CallS) (oc : OkC c) (a : AnsS) (oa : OkA a) (w : World) (HLd : Ld w) :
    Calls Tryd.prog 6 #[.agg #[.int .i64 c.op, .int .i64 c.slot, .int .i64 c.gen, .int .i64 c.cpu, .int .i64 c.n, .int .i64 c.nice, .int .u64 c.mask], .agg #[.int .i64 a.errno, .int .i64 a.n, .int .i64 a.slot, .int .i64 a.gen]] w fun e w' => e = .returned (.bool true) ∧ Below w.heap.size w w' := back_walk c oc a oa w HLd
end Go.Proofs.YtilmbpdfdickoaaDoor

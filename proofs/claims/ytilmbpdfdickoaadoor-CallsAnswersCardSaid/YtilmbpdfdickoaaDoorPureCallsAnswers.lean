/- CallsAnswers, walked. -/
import Derived.Test.YtilmbpdfdickoaaDoorPureCallsBack
import Derived.Test.YtilmbpdfdickoaaDoorPureRefB
namespace Go.Proofs.YtilmbpdfdickoaaDoor
open Go.RowKit Go.Proofs.YtilmbpdfdickoaaDoor.Given Go.Proofs.YtilmbpdfdickoaaDoor.Print Go.Proofs.YtilmbpdfdickoaaDoor.Pure Go.Proofs.YtilmbpdfdickoaaDoorW.PrintWords Go.Proofs.YtilmbpdfdickoaaDoorW.PrintLast Go.Proofs.YtilmbpdfdickoaaDoorW.PrintMore
set_option linter.unusedVariables false
set_option linter.unusedSimpArgs false
theorem say_ref {a : AnsS} {s : List UInt8} {r : Int} (hp : sayS a = (s, r)) (w : World) (HLd : Ld w) :
    Calls Tryd.prog 16 #[.agg #[.int .i64 a.errno, .int .i64 a.n, .int .i64 a.slot, .int .i64 a.gen]] w fun e w' => e = .returned (.tuple #[.string ⟨s.toArray⟩, .int .i64 r]) ∧ Below w.heap.size w w' :=
  turnspitref15_Say.calls 200 _ _ _ _ _ _ w HLd (by rw [say15 a 200 (by decide), hp]; rfl)
theorem hear_ref {s : ByteArray} {a : AnsS} {r : Int} (hs : s.data.toList.length ≤ 1000) (hp : hearS s.data.toList = (a, r)) (w : World) (HLd : Ld w) :
    Calls Tryd.prog 18 #[.string s] w fun e w' => e = .returned (.tuple #[.agg #[.int .i64 a.errno, .int .i64 a.n, .int .i64 a.slot, .int .i64 a.gen], .int .i64 r]) ∧ Below w.heap.size w w' :=
  turnspitref15_Hear.calls 2000 s _ _ _ _ _ w HLd (by
    have h := hear15 s.data.toList hs 2000 (by decide)
    rw [hp] at h
    exact h)
attribute [local go_sem high] eqA26 eqB36
set_option maxHeartbeats 8000000 in
set_option maxRecDepth 100000 in
theorem Walk.CallsAnswers (a : AnsS) (oa : OkA a) (s : ByteArray) (ws : s.size ≤ 140737488351232) (w : World) (HLd : Ld w) :
    Calls Tryd.prog 5 #[.agg #[.int .i64 a.errno, .int .i64 a.n, .int .i64 a.slot, .int .i64 a.gen], .string s] w fun e w' => e = .returned (.bool true) ∧ Below w.heap.size w w' := by
  have hu36 := Tryd.underlying36
  by_cases h1 : 200 < s.size
  · have y0 : decide ((s.size : Int) > 200) = true := decide_eq_true (by omega)
    have y1 : decide ((200 : Int) < (s.size : Int)) = true := decide_eq_true (by omega)
    have y2 : decide (200 < s.size) = true := decide_eq_true (by omega)
    clear h1 ws oa
    go_enter Tryd.func5, Tryd.ntmps5
    go_upto_region 1 with fail
    have K2_1 : Aside0 ((w.alloc (.cells #[.int .i64 a.errno, .int .i64 a.n, .int .i64 a.slot, .int .i64 a.gen] 36)).heap[w.heap.size]? = some (.cells #[.int .i64 a.errno, .int .i64 a.n, .int .i64 a.slot, .int .i64 a.gen] 36)) := ⟨(blk_new w (.cells #[.int .i64 a.errno, .int .i64 a.n, .int .i64 a.slot, .int .i64 a.gen] 36))⟩
    have HB1 := Aside0.mk (below_alloc (Below.refl w.heap.size w) (.cells #[.int .i64 a.errno, .int .i64 a.n, .int .i64 a.slot, .int .i64 a.gen] 36))
    generalize (w.alloc (.cells #[.int .i64 a.errno, .int .i64 a.n, .int .i64 a.slot, .int .i64 a.gen] 36)) = v1 at K2_1 HB1 ⊢
    generalize w.heap.size = g2 at K2_1 ⊢
    go_wp2_with fail
    refine (awake_c _ (HLd.below HB1.out)).mono ?_
    rintro e v2 ⟨rfl, hb⟩
    have HB2 := Aside0.mk (below_step HB1.out hb)
    have K2_2 := Aside0.mk (blk_below K2_1.out hb)
    clear hb
    go_wp2_with fail
    go_ret
    exact ⟨rfl, HB2.out⟩
  · obtain ⟨t, r, hT⟩ : ∃ t r, sayS a = (t, r) := ⟨_, _, rfl⟩
    obtain ⟨b, g, hH⟩ : ∃ b g, hearS s.data.toList = (b, g) := ⟨_, _, rfl⟩
    have HT := Aside0.mk hT
    have HH := Aside0.mk hH
    have OA := Aside0.mk oa
    have TZ : Aside0 (s.size ≤ 4000000000) := ⟨by omega⟩
    have TL : Aside0 (s.data.toList.length ≤ 1000) := ⟨by rw [← size_list']; omega⟩
    have y0 : decide ((s.size : Int) > 200) = false := decide_eq_false (by omega)
    have y1 : decide ((200 : Int) < (s.size : Int)) = false := decide_eq_false (by omega)
    have y2 : decide (200 < s.size) = false := decide_eq_false (by omega)
    clear hT hH oa h1 ws
    go_enter Tryd.func5, Tryd.ntmps5
    go_upto_region 1 with fail
    have K2_1 : Aside0 ((w.alloc (.cells #[.int .i64 a.errno, .int .i64 a.n, .int .i64 a.slot, .int .i64 a.gen] 36)).heap[w.heap.size]? = some (.cells #[.int .i64 a.errno, .int .i64 a.n, .int .i64 a.slot, .int .i64 a.gen] 36)) := ⟨(blk_new w (.cells #[.int .i64 a.errno, .int .i64 a.n, .int .i64 a.slot, .int .i64 a.gen] 36))⟩
    have HB1 := Aside0.mk (below_alloc (Below.refl w.heap.size w) (.cells #[.int .i64 a.errno, .int .i64 a.n, .int .i64 a.slot, .int .i64 a.gen] 36))
    generalize (w.alloc (.cells #[.int .i64 a.errno, .int .i64 a.n, .int .i64 a.slot, .int .i64 a.gen] 36)) = v1 at K2_1 HB1 ⊢
    generalize w.heap.size = g2 at K2_1 ⊢
    have c2_0 : v1.cell? ⟨g2, 0, none⟩ = some (.int .i64 a.errno) := (blk_cell K2_1.out 0).trans rfl
    have c2_1 : v1.cell? ⟨g2, 1, none⟩ = some (.int .i64 a.n) := (blk_cell K2_1.out 1).trans rfl
    have c2_2 : v1.cell? ⟨g2, 2, none⟩ = some (.int .i64 a.slot) := (blk_cell K2_1.out 2).trans rfl
    have c2_3 : v1.cell? ⟨g2, 3, none⟩ = some (.int .i64 a.gen) := (blk_cell K2_1.out 3).trans rfl
    go_wp2_with fail
    refine (say_as (a := a) (s := t) (r := r) OA.out.errno OA.out.n OA.out.slot OA.out.gen HT.out _ (HLd.below HB1.out)).mono ?_
    rintro e v2 ⟨rfl, hb⟩
    have HB2 := Aside0.mk (below_step HB1.out hb)
    have K2_2 := Aside0.mk (blk_below K2_1.out hb)
    clear hb
    clear c2_0 c2_1 c2_2 c2_3
    have c2_0 : v2.cell? ⟨g2, 0, none⟩ = some (.int .i64 a.errno) := (blk_cell K2_2.out 0).trans rfl
    have c2_1 : v2.cell? ⟨g2, 1, none⟩ = some (.int .i64 a.n) := (blk_cell K2_2.out 1).trans rfl
    have c2_2 : v2.cell? ⟨g2, 2, none⟩ = some (.int .i64 a.slot) := (blk_cell K2_2.out 2).trans rfl
    have c2_3 : v2.cell? ⟨g2, 3, none⟩ = some (.int .i64 a.gen) := (blk_cell K2_2.out 3).trans rfl
    go_wp2_with fail
    refine (say_ref (a := a) (s := t) (r := r) HT.out _ (HLd.below HB2.out)).mono ?_
    rintro e v3 ⟨rfl, hb⟩
    have HB3 := Aside0.mk (below_step HB2.out hb)
    have K2_3 := Aside0.mk (blk_below K2_2.out hb)
    clear hb
    clear c2_0 c2_1 c2_2 c2_3
    go_wp2_with fail
    refine (hear_as (s := s) (a := b) (r := g) TZ.out HH.out _ (HLd.below HB3.out)).mono ?_
    rintro e v4 ⟨rfl, hb⟩
    have HB4 := Aside0.mk (below_step HB3.out hb)
    have K2_4 := Aside0.mk (blk_below K2_3.out hb)
    clear hb
    go_upto_region 6 with fail
    have K9_5 : Aside0 ((v4.alloc (.cells #[.int .i64 b.errno, .int .i64 b.n, .int .i64 b.slot, .int .i64 b.gen] 36)).heap[v4.heap.size]? = some (.cells #[.int .i64 b.errno, .int .i64 b.n, .int .i64 b.slot, .int .i64 b.gen] 36)) := ⟨(blk_new v4 (.cells #[.int .i64 b.errno, .int .i64 b.n, .int .i64 b.slot, .int .i64 b.gen] 36))⟩
    have K2_5 := Aside0.mk (blk_alloc K2_4.out (.cells #[.int .i64 b.errno, .int .i64 b.n, .int .i64 b.slot, .int .i64 b.gen] 36))
    have HB5 := Aside0.mk (below_alloc HB4.out (.cells #[.int .i64 b.errno, .int .i64 b.n, .int .i64 b.slot, .int .i64 b.gen] 36))
    generalize (v4.alloc (.cells #[.int .i64 b.errno, .int .i64 b.n, .int .i64 b.slot, .int .i64 b.gen] 36)) = v5 at K9_5 K2_5 HB5 ⊢
    generalize v4.heap.size = g9 at K9_5 ⊢
    go_wp2_with fail
    refine (hear_ref (s := s) (a := b) (r := g) TL.out HH.out _ (HLd.below HB5.out)).mono ?_
    rintro e v6 ⟨rfl, hb⟩
    have HB6 := Aside0.mk (below_step HB5.out hb)
    have K2_6 := Aside0.mk (blk_below K2_5.out hb)
    have K9_6 := Aside0.mk (blk_below K9_5.out hb)
    clear hb
    go_upto_region 7 with fail
    have K11_7 : Aside0 ((v6.alloc (.cells #[.int .i64 b.errno, .int .i64 b.n, .int .i64 b.slot, .int .i64 b.gen] 36)).heap[v6.heap.size]? = some (.cells #[.int .i64 b.errno, .int .i64 b.n, .int .i64 b.slot, .int .i64 b.gen] 36)) := ⟨(blk_new v6 (.cells #[.int .i64 b.errno, .int .i64 b.n, .int .i64 b.slot, .int .i64 b.gen] 36))⟩
    have K2_7 := Aside0.mk (blk_alloc K2_6.out (.cells #[.int .i64 b.errno, .int .i64 b.n, .int .i64 b.slot, .int .i64 b.gen] 36))
    have K9_7 := Aside0.mk (blk_alloc K9_6.out (.cells #[.int .i64 b.errno, .int .i64 b.n, .int .i64 b.slot, .int .i64 b.gen] 36))
    have HB7 := Aside0.mk (below_alloc HB6.out (.cells #[.int .i64 b.errno, .int .i64 b.n, .int .i64 b.slot, .int .i64 b.gen] 36))
    generalize (v6.alloc (.cells #[.int .i64 b.errno, .int .i64 b.n, .int .i64 b.slot, .int .i64 b.gen] 36)) = v7 at K11_7 K2_7 K9_7 HB7 ⊢
    generalize v6.heap.size = g11 at K11_7 ⊢
    go_wp2_with fail
    refine (awake_c _ (HLd.below HB7.out)).mono ?_
    rintro e v8 ⟨rfl, hb⟩
    have HB8 := Aside0.mk (below_step HB7.out hb)
    have K2_8 := Aside0.mk (blk_below K2_7.out hb)
    have K9_8 := Aside0.mk (blk_below K9_7.out hb)
    have K11_8 := Aside0.mk (blk_below K11_7.out hb)
    clear hb
    have c9_0 : v8.cell? ⟨g9, 0, none⟩ = some (.int .i64 b.errno) := (blk_cell K9_8.out 0).trans rfl
    have c9_1 : v8.cell? ⟨g9, 1, none⟩ = some (.int .i64 b.n) := (blk_cell K9_8.out 1).trans rfl
    have c9_2 : v8.cell? ⟨g9, 2, none⟩ = some (.int .i64 b.slot) := (blk_cell K9_8.out 2).trans rfl
    have c9_3 : v8.cell? ⟨g9, 3, none⟩ = some (.int .i64 b.gen) := (blk_cell K9_8.out 3).trans rfl
    have c11_0 : v8.cell? ⟨g11, 0, none⟩ = some (.int .i64 b.errno) := (blk_cell K11_8.out 0).trans rfl
    have c11_1 : v8.cell? ⟨g11, 1, none⟩ = some (.int .i64 b.n) := (blk_cell K11_8.out 1).trans rfl
    have c11_2 : v8.cell? ⟨g11, 2, none⟩ = some (.int .i64 b.slot) := (blk_cell K11_8.out 2).trans rfl
    have c11_3 : v8.cell? ⟨g11, 3, none⟩ = some (.int .i64 b.gen) := (blk_cell K11_8.out 3).trans rfl
    have hq := same_ans b
    go_wp2_with fail
    go_ret
    exact ⟨by simp, HB8.out⟩
end Go.Proofs.YtilmbpdfdickoaaDoor

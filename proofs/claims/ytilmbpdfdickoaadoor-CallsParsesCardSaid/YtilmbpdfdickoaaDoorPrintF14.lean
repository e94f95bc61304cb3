-- Written for this claim by a program out of the translation. Lean checks it.
import Derived.Test.YtilmbpdfdickoaaDoorPrint0
import Derived.Test.YtilmbpdfdickoaaDoorPrintF21
import Derived.Test.YtilmbpdfdickoaaDoorPrintF22
import Derived.Test.YtilmbpdfdickoaaDoorPrintF26
import Derived.Test.YtilmbpdfdickoaaDoorPrintF27
namespace Go.Proofs.YtilmbpdfdickoaaDoor.Print
open Go.RowKit Go.Proofs.YtilmbpdfdickoaaDoor Go.Proofs.YtilmbpdfdickoaaDoor.Given Go.Proofs.YtilmbpdfdickoaaDoorW.PrintWords Go.Proofs.YtilmbpdfdickoaaDoorW.PrintLast Go.Proofs.YtilmbpdfdickoaaDoorW.PrintMore
attribute [local go_sem] max2_int min2_int max_two min_two max_three min_three max_four min_four   -- for this text's walks alone
set_option linter.unusedVariables false
set_option linter.unusedSimpArgs false

/-! ### turnspitref15_Parse: function 14 -/
mutual
def turnspitref15_Parse.l0 : Nat → List ByteArray → Int → Option (Int × Int × Int × Int × Int × Int × Int × Int)
  | 0, _, _ => none
  | k + 1, x4, x5 => if x5 < 13 then ((turnspitref15_names.f).bind fun t213 => (if 0 ≤ x5 then (if x5 < (t213.length : Int) then (if 0 < (x4.length : Int) then (if (rdOf ByteArray.empty t213 x5).toList = (rdOf ByteArray.empty x4 0).toList then ((turnspitref15_told.f).bind fun t218 => (if x5 < (t218.length : Int) then (if (x4.length : Int) = (wrap64 (((rdOf ByteArray.empty t218 x5).size : Int) + 1)) then (turnspitref15_Parse.l1 k x4 (rdOf ByteArray.empty t218 x5) 0 (wrap64 (x5 + 1)) 0 0 0 0 0 0) else (some (0, 0, 0, 0, 0, 0, 0, 3))) else (none))) else (turnspitref15_Parse.l0 k x4 (wrap64 (x5 + 1)))) else (none)) else (none)) else (none))) else (some (0, 0, 0, 0, 0, 0, 0, 3))
def turnspitref15_Parse.l1 : Nat → List ByteArray → ByteArray → Int → Int → Int → Int → Int → Int → Int → Int → Option (Int × Int × Int × Int × Int × Int × Int × Int)
  | 0, _, _, _, _, _, _, _, _, _, _ => none
  | k + 1, x4, x6, x8, x223000, x223001, x223002, x223003, x223004, x223005, x223006 => if x8 < (x6.size : Int) then (if 0 ≤ x8 then (if 0 ≤ (wrap64 (x8 + 1)) then (if (wrap64 (x8 + 1)) < (x4.length : Int) then ((turnspitref15_put.f k x223000 x223001 x223002 x223003 x223004 x223005 x223006 (bt x6 x8) (rdOf ByteArray.empty x4 (wrap64 (x8 + 1)))).bind fun bt224 => (if bt224.2.2.2.2.2.2.2 = true then (turnspitref15_Parse.l1 k x4 x6 (wrap64 (x8 + 1)) bt224.1 bt224.2.1 bt224.2.2.1 bt224.2.2.2.1 bt224.2.2.2.2.1 bt224.2.2.2.2.2.1 bt224.2.2.2.2.2.2.1) else (some (0, 0, 0, 0, 0, 0, 0, 3)))) else (none)) else (none)) else (none)) else (some (x223000, x223001, x223002, x223003, x223004, x223005, x223006, 0))
end
def turnspitref15_Parse.f (k : Nat) (a0 : ByteArray) : Option (Int × Int × Int × Int × Int × Int × Int × Int) := if (a0.size : Int) > 1200 then (some (0, 0, 0, 0, 0, 0, 0, 2)) else ((turnspitref15_cut.f k a0 32).bind fun t210 => (turnspitref15_Parse.l0 k t210 0))
theorem turnspitref15_Parse.mono_l : ∀ k, (∀ y0 y1, LeO (turnspitref15_Parse.l0 k y0 y1) (turnspitref15_Parse.l0 (k + 1) y0 y1)) ∧ (∀ y0 y1 y2 y3 y4 y5 y6 y7 y8 y9, LeO (turnspitref15_Parse.l1 k y0 y1 y2 y3 y4 y5 y6 y7 y8 y9) (turnspitref15_Parse.l1 (k + 1) y0 y1 y2 y3 y4 y5 y6 y7 y8 y9))
  | 0 => ⟨fun _ _ r h => by simp [turnspitref15_Parse.l0] at h, fun _ _ _ _ _ _ _ _ _ _ r h => by simp [turnspitref15_Parse.l1] at h⟩
  | k + 1 => by
    obtain ⟨ih0, ih1⟩ := turnspitref15_Parse.mono_l k
    refine ⟨?_, ?_⟩
    · intro y0 y1
      unfold turnspitref15_Parse.l0
      repeat' first
      | (with_reducible exact ih0 _ _)
      | (with_reducible exact ih1 _ _ _ _ _ _ _ _ _ _)
      | (with_reducible exact turnspitref15_cut.mono _ _ _)
      | (with_reducible exact turnspitref15_put.mono _ _ _ _ _ _ _ _ _ _)
      | (with_reducible exact LeO.refl _)
      | (with_reducible exact LeO.none _)
      | (with_reducible refine LeO.ite ?_ ?_)
      | (with_reducible refine LeO.bind ?_ (fun _ => ?_))
      | exact ih0 _ _
      | exact ih1 _ _ _ _ _ _ _ _ _ _
      | exact turnspitref15_cut.mono _ _ _
      | exact turnspitref15_put.mono _ _ _ _ _ _ _ _ _ _
      | exact LeO.none _
      | refine LeO.ite ?_ ?_
      | refine LeO.bind ?_ (fun _ => ?_)
    · intro y0 y1 y2 y3 y4 y5 y6 y7 y8 y9
      unfold turnspitref15_Parse.l1
      repeat' first
      | (with_reducible exact ih0 _ _)
      | (with_reducible exact ih1 _ _ _ _ _ _ _ _ _ _)
      | (with_reducible exact turnspitref15_cut.mono _ _ _)
      | (with_reducible exact turnspitref15_put.mono _ _ _ _ _ _ _ _ _ _)
      | (with_reducible exact LeO.refl _)
      | (with_reducible exact LeO.none _)
      | (with_reducible refine LeO.ite ?_ ?_)
      | (with_reducible refine LeO.bind ?_ (fun _ => ?_))
      | exact ih0 _ _
      | exact ih1 _ _ _ _ _ _ _ _ _ _
      | exact turnspitref15_cut.mono _ _ _
      | exact turnspitref15_put.mono _ _ _ _ _ _ _ _ _ _
      | exact LeO.none _
      | refine LeO.ite ?_ ?_
      | refine LeO.bind ?_ (fun _ => ?_)
theorem turnspitref15_Parse.mono : ∀ a0 k, LeO (turnspitref15_Parse.f k a0) (turnspitref15_Parse.f (k + 1) a0) := by
  intro a0 k
  obtain ⟨ih0, ih1⟩ := turnspitref15_Parse.mono_l k
  unfold turnspitref15_Parse.f
  repeat' first
      | (with_reducible exact ih0 _ _)
      | (with_reducible exact ih1 _ _ _ _ _ _ _ _ _ _)
      | (with_reducible exact turnspitref15_cut.mono _ _ _)
      | (with_reducible exact turnspitref15_put.mono _ _ _ _ _ _ _ _ _ _)
      | (with_reducible exact LeO.refl _)
      | (with_reducible exact LeO.none _)
      | (with_reducible refine LeO.ite ?_ ?_)
      | (with_reducible refine LeO.bind ?_ (fun _ => ?_))
      | exact ih0 _ _
      | exact ih1 _ _ _ _ _ _ _ _ _ _
      | exact turnspitref15_cut.mono _ _ _
      | exact turnspitref15_put.mono _ _ _ _ _ _ _ _ _ _
      | exact LeO.none _
      | refine LeO.ite ?_ ?_
      | refine LeO.bind ?_ (fun _ => ?_)
def turnspitref15_Parse.T7 : Bool × List (List Nat × List Nat) := (true, [([], []), ([], []), ([0, 1], [0, 1]), ([2], [2]), ([], []), ([4], [4]), ([5], [5]), ([3, 6], [3, 6])])
def turnspitref15_Parse.B7 : List Nat := [0, 0, 3, 7, 0, 16, 48, 127]
theorem turnspitref15_Parse.tab7 : rtab .any (opsOf Tryd.f14 7) = turnspitref15_Parse.T7 := by kernel_rfl
theorem turnspitref15_Parse.bits7 : waitsOk turnspitref15_Parse.T7.2 turnspitref15_Parse.B7 = true := by kernel_rfl
def turnspitref15_Parse.T15 : Bool × List (List Nat × List Nat) := (true, [([], []), ([], []), ([], []), ([1, 2], [1, 2]), ([], []), ([], []), ([5], [5]), ([4, 6], [4, 6]), ([7], [7]), ([0, 3, 8], [0, 3, 8]), ([9], [9]), ([10], [10]), ([10], [10]), ([], []), ([13, 11, 9, 0, 1, 2, 3, 4, 5, 6, 7, 8, 9, 10, 11, 13], [11, 13]), ([12, 14, 0, 1, 2, 3, 4, 5, 6, 7, 8, 9, 10, 11, 12, 13, 14], [12])])
def turnspitref15_Parse.B15 : List Nat := [0, 0, 0, 6, 0, 0, 32, 112, 240, 511, 1023, 2047, 2047, 0, 12287, 32767]
theorem turnspitref15_Parse.tab15 : rtab .any (opsOf Tryd.f14 15) = turnspitref15_Parse.T15 := by kernel_rfl
theorem turnspitref15_Parse.bits15 : waitsOk turnspitref15_Parse.T15.2 turnspitref15_Parse.B15 = true := by kernel_rfl
set_option maxHeartbeats 8000000 in
set_option maxRecDepth 100000 in
theorem turnspitref15_Parse.calls (k : Nat) (a0 : ByteArray) (r1 : Int) (r2 : Int) (r3 : Int) (r4 : Int) (r5 : Int) (r6 : Int) (r7 : Int) (r8 : Int) (w : World) (HLd : Ld w) (h : turnspitref15_Parse.f k a0 = some (r1, r2, r3, r4, r5, r6, r7, r8)) :
    Calls Tryd.prog 14 #[.string a0] w fun e w' => e = .returned (.tuple #[.agg #[.int .i64 r1, .int .i64 r2, .int .i64 r3, .int .i64 r4, .int .i64 r5, .int .i64 r6, .int .u64 r7], .int .i64 r8]) ∧ Below w.heap.size w w' := by
  have hu26 := Tryd.underlying26
  have HB := Aside0.mk (Below.refl w.heap.size w)
  have H : (if (a0.size : Int) > 1200 then (some (0, 0, 0, 0, 0, 0, 0, 2)) else ((turnspitref15_cut.f k a0 32).bind fun t210 => (turnspitref15_Parse.l0 k t210 0))) = some (r1, r2, r3, r4, r5, r6, r7, r8) := h
  clear h
  by_cases c2 : (a0.size : Int) > 1200
  · rw [if_pos c2] at H
    have c2b0 : decide (1200 < (a0.size : Int)) = true := decide_eq_true c2
    have c2b1 : decide (1200 < a0.size) = true := decide_eq_true (by omega)
    clear c2
    simp only [Option.some.injEq, Prod.mk.injEq] at H
    obtain ⟨rfl, rfl, rfl, rfl, rfl, rfl, rfl, rfl⟩ := H
    go_enter Tryd.func14, Tryd.ntmps14
    go_wp2_with (first | ((with_reducible refine gate_dst (N := 2) rfl ?_); refine box_event ?hg (N := 2) ?hd (cs := #[.int .i64 0, .int .i64 0, .int .i64 0, .int .i64 0, .int .i64 0, .int .i64 0, .int .u64 0]) (t := 26) ?hr ?_; (case hd => rfl); (case hg => rfl); (case hr => first | (go_simp; done) | (go_simp; rfl)); intro gb209 hg w3 hbox hb; have n0_ := Aside0.mk (below_step (by repeat (first | (with_reducible first | exact HB.out | apply below_alloc | apply pw_below_drewN | apply below_drew1) | exact HB.out)) hb); have n1_ := Aside0.mk (hbox); have n2_ := Aside0.mk ((by rw [hg]; exact (below_size (by repeat (first | (with_reducible first | exact HB.out | apply below_alloc | apply pw_below_drewN | apply below_drew1) | exact HB.out))) : w.heap.size ≤ gb209)); have n3_ := Aside0.mk ((by rw [hg]; exact (below_size (by repeat (first | (with_reducible first | exact HB.out | apply below_alloc | apply pw_below_drewN | apply below_drew1) | exact HB.out))) : w.heap.size ≤ gb209)); clear HB; have HB := n0_; have BK209 := n1_; have GW209 := n2_; have GE209 := n3_; clear n0_ n1_ n2_ n3_; clear hb hbox hg; have hcz4_0 : w3.cell? ⟨gb209, 0, none⟩ = some (.int .i64 0) := (blk_cell BK209.out 0).trans rfl; have hcz4_1 : w3.cell? ⟨gb209, 1, none⟩ = some (.int .i64 0) := (blk_cell BK209.out 1).trans rfl; have hcz4_2 : w3.cell? ⟨gb209, 2, none⟩ = some (.int .i64 0) := (blk_cell BK209.out 2).trans rfl; have hcz4_3 : w3.cell? ⟨gb209, 3, none⟩ = some (.int .i64 0) := (blk_cell BK209.out 3).trans rfl; have hcz4_4 : w3.cell? ⟨gb209, 4, none⟩ = some (.int .i64 0) := (blk_cell BK209.out 4).trans rfl; have hcz4_5 : w3.cell? ⟨gb209, 5, none⟩ = some (.int .i64 0) := (blk_cell BK209.out 5).trans rfl; have hcz4_6 : w3.cell? ⟨gb209, 6, none⟩ = some (.int .u64 0) := (blk_cell BK209.out 6).trans rfl; have hfz4_0 := blk_frozen BK209.out 0; have hfz4_1 := blk_frozen BK209.out 1; have hfz4_2 := blk_frozen BK209.out 2; have hfz4_3 := blk_frozen BK209.out 3; have hfz4_4 := blk_frozen BK209.out 4; have hfz4_5 := blk_frozen BK209.out 5; have hfz4_6 := blk_frozen BK209.out 6))
    refine bodyPost_ret (results_ct rfl _ _ gb209 26 #[.int .i64 0, .int .i64 0, .int .i64 0, .int .i64 0, .int .i64 0, .int .i64 0, .int .u64 0] (0, 0) _ rfl (by (with_reducible repeat (first | refine blk_drewN ?_ _ | refine blk_drew ?_ | refine blk_alloc ?_ _)); refine blk_put (cs := #[.int .i64 0, .int .i64 0, .int .i64 0, .int .i64 0, .int .i64 0, .int .i64 0, .int .u64 0]) ?_ 6 _ (by first | rfl | simp [*]); (with_reducible repeat (first | refine blk_drewN ?_ _ | refine blk_drew ?_ | refine blk_alloc ?_ _)); refine blk_put (cs := #[.int .i64 0, .int .i64 0, .int .i64 0, .int .i64 0, .int .i64 0, .int .i64 0, .int .u64 0]) ?_ 5 _ (by first | rfl | simp [*]); (with_reducible repeat (first | refine blk_drewN ?_ _ | refine blk_drew ?_ | refine blk_alloc ?_ _)); refine blk_put (cs := #[.int .i64 0, .int .i64 0, .int .i64 0, .int .i64 0, .int .i64 0, .int .i64 0, .int .u64 0]) ?_ 4 _ (by first | rfl | simp [*]); (with_reducible repeat (first | refine blk_drewN ?_ _ | refine blk_drew ?_ | refine blk_alloc ?_ _)); refine blk_put (cs := #[.int .i64 0, .int .i64 0, .int .i64 0, .int .i64 0, .int .i64 0, .int .i64 0, .int .u64 0]) ?_ 3 _ (by first | rfl | simp [*]); (with_reducible repeat (first | refine blk_drewN ?_ _ | refine blk_drew ?_ | refine blk_alloc ?_ _)); refine blk_put (cs := #[.int .i64 0, .int .i64 0, .int .i64 0, .int .i64 0, .int .i64 0, .int .i64 0, .int .u64 0]) ?_ 2 _ (by first | rfl | simp [*]); (with_reducible repeat (first | refine blk_drewN ?_ _ | refine blk_drew ?_ | refine blk_alloc ?_ _)); refine blk_put (cs := #[.int .i64 0, .int .i64 0, .int .i64 0, .int .i64 0, .int .i64 0, .int .i64 0, .int .u64 0]) ?_ 1 _ (by first | rfl | simp [*]); (with_reducible repeat (first | refine blk_drewN ?_ _ | refine blk_drew ?_ | refine blk_alloc ?_ _)); refine blk_put (cs := #[.int .i64 0, .int .i64 0, .int .i64 0, .int .i64 0, .int .i64 0, .int .i64 0, .int .u64 0]) ?_ 0 _ (by first | rfl | simp [*]); (with_reducible repeat (first | refine blk_drewN ?_ _ | refine blk_drew ?_ | refine blk_alloc ?_ _)); exact BK209.out) Tryd.underlying26 rfl (by kernel_rfl)) rfl ?_
    exact ⟨by first | rfl | (simp [errW_none, errW_some] <;> rfl) | (simp [*, errW_none, errW_some] <;> rfl), by repeat (first | (with_reducible first | exact HB.out | apply below_alloc | apply pw_below_drewN | apply below_drew1 | refine below_set ?_ GE209.out) | exact HB.out)⟩
  · rw [if_neg c2] at H
    have c2b0 : decide (1200 < (a0.size : Int)) = false := decide_eq_false c2
    have c2b1 : decide (1200 < a0.size) = false := decide_eq_false (by omega)
    clear c2
    replace H := Option.bind_eq_some_iff.mp H
    obtain ⟨t210, A50, H⟩ := H
    replace H : (turnspitref15_Parse.l0 k t210 0) = some (r1, r2, r3, r4, r5, r6, r7, r8) := H
    have A5 := Aside0.mk A50
    clear A50
    have H' := Aside0.mk H
    clear H
    go_enter Tryd.func14, Tryd.ntmps14
    go_wp2_with (first | ((with_reducible refine gate_dst (N := 2) rfl ?_); refine box_event ?hg (N := 2) ?hd (cs := #[.int .i64 0, .int .i64 0, .int .i64 0, .int .i64 0, .int .i64 0, .int .i64 0, .int .u64 0]) (t := 26) ?hr ?_; (case hd => rfl); (case hg => rfl); (case hr => first | (go_simp; done) | (go_simp; rfl)); intro gb209 hg w6 hbox hb; have n0_ := Aside0.mk (below_step (by repeat (first | (with_reducible first | exact HB.out | apply below_alloc | apply pw_below_drewN | apply below_drew1) | exact HB.out)) hb); have n1_ := Aside0.mk (hbox); have n2_ := Aside0.mk ((by rw [hg]; exact (below_size (by repeat (first | (with_reducible first | exact HB.out | apply below_alloc | apply pw_below_drewN | apply below_drew1) | exact HB.out))) : w.heap.size ≤ gb209)); have n3_ := Aside0.mk ((by rw [hg]; exact (below_size (by repeat (first | (with_reducible first | exact HB.out | apply below_alloc | apply pw_below_drewN | apply below_drew1) | exact HB.out))) : w.heap.size ≤ gb209)); clear HB; have HB := n0_; have BK209 := n1_; have GW209 := n2_; have GE209 := n3_; clear n0_ n1_ n2_ n3_; clear hb hbox hg) | ((with_reducible refine gate_callee (f := 26) rfl ?_); refine goesL_ (some 16) rfl rfl Tryd.func26 (by kernel_rfl) rfl #[.string a0, .int .u8 32] rfl (by (try simp only [List.map_toArray, List.map_cons, List.map_nil]); first | done | rfl | (simp only [List.length_drop, List.length_take]; rfl)) ?_; (with_reducible refine (turnspitref15_cut.calls k a0 32 t210 _ ?side1 A5.out).mono ?_); (case side1 => first | exact HLd | (refine Ld.below HLd ?_; repeat (first | (with_reducible first | exact HB.out | apply below_alloc | apply pw_below_drewN | apply below_drew1 | refine below_set ?_ GE209.out) | exact HB.out))); rintro e w7 ⟨v211, rfl, ho0, hb⟩; refine ⟨_, rfl, ?_⟩; have n0_ := Aside0.mk (Kd.R_lower ho0 (below_size (by repeat (first | (with_reducible first | exact HB.out | apply below_alloc | apply pw_below_drewN | apply below_drew1 | refine below_set ?_ GE209.out) | exact HB.out)))); have n1_ := Aside0.mk (blk_below (g := gb209) (o := .cells #[.int .i64 0, .int .i64 0, .int .i64 0, .int .i64 0, .int .i64 0, .int .i64 0, .int .u64 0] 26 (0, 0)) (by (with_reducible repeat (first | refine blk_drewN ?_ _ | refine blk_drew ?_ | refine blk_alloc ?_ _)); exact BK209.out) hb); have n2_ := Aside0.mk (below_step (by repeat (first | (with_reducible first | exact HB.out | apply below_alloc | apply pw_below_drewN | apply below_drew1 | refine below_set ?_ GE209.out) | exact HB.out)) hb); clear BK209; clear HB; have HO212 := n0_; have BK209 := n1_; have HB := n2_; clear n0_ n1_ n2_; (try clear hb); (try clear hb2); (try clear hk); (try clear hi); (try clear ho0)))
    go_loopg [5] k (fun kq v5 w' => ∃ (x5_1 : Int) (x210000_1 : Int) (x210001_1 : Int) (x210002_1 : Int) (x210003_1 : Int) (x210004_1 : Int) (x210005_1 : Int) (x210006_1 : Int), v5 = .int .i64 x5_1 ∧ Aside0 (turnspitref15_Parse.l0 kq t210 x5_1 = some (r1, r2, r3, r4, r5, r6, r7, r8)) ∧ Aside0 (kq ≤ k) ∧ Aside0 (Kd.R Kd.string 9 w' w.heap.size (fun _ => True) v211 t210) ∧ Aside0 (w'.heap[gb209]? = some (.cells #[.int .i64 x210000_1, .int .i64 x210001_1, .int .i64 x210002_1, .int .i64 x210003_1, .int .i64 x210004_1, .int .i64 x210005_1, .int .u64 x210006_1] 26 (0, 0))) ∧ Aside0 (Below w.heap.size w w'))
    case atStart => exact ⟨(0), (0), (0), (0), (0), (0), (0), (0), (by first | rfl | (simp; done) | (simp [*]; done)), H', ⟨Nat.le_refl _⟩, ⟨by (with_reducible repeat (first | apply Kd.R_alloc | apply Kd.R_drewN | apply Kd.R_drew)); exact HO212.out⟩, ⟨by (with_reducible repeat (first | refine blk_drewN ?_ _ | refine blk_drew ?_ | refine blk_alloc ?_ _)); exact BK209.out⟩, ⟨by repeat (first | (with_reducible first | exact HB.out | apply below_alloc | apply pw_below_drewN | apply below_drew1 | refine below_set ?_ GE209.out) | exact HB.out)⟩⟩
    case round =>
      clear H'
      try clear c1
      try clear c2
      try clear c2b0
      try clear c2b1
      try clear p2
      try clear hcz4_0
      try clear hcz4_1
      try clear hcz4_2
      try clear hcz4_3
      try clear hcz4_4
      try clear hcz4_5
      try clear hcz4_6
      try clear hfz4_0
      try clear hfz4_1
      try clear hfz4_2
      try clear hfz4_3
      try clear hfz4_4
      try clear hfz4_5
      try clear hfz4_6
      obtain ⟨x5_1, x210000_1, x210001_1, x210002_1, x210003_1, x210004_1, x210005_1, x210006_1, rfl, HA, HK1, HO_4, BK209, HB⟩ := hrel
      cases gk with
      | zero => exact absurd HA.out (by simp [turnspitref15_Parse.l0])
      | succ k1 =>
        have H := HA.out
        clear HA
        simp only [turnspitref15_Parse.l0] at H
        by_cases c8 : x5_1 < 13
        · rw [if_pos c8] at H
          have c8b0 : decide (x5_1 < 13) = true := decide_eq_true c8
          clear c8
          replace H := Option.bind_eq_some_iff.mp H
          obtain ⟨t213, A90, H⟩ := H
          replace H : (if 0 ≤ x5_1 then (if x5_1 < (t213.length : Int) then (if 0 < (t210.length : Int) then (if (rdOf ByteArray.empty t213 x5_1).toList = (rdOf ByteArray.empty t210 0).toList then ((turnspitref15_told.f).bind fun t218 => (if x5_1 < (t218.length : Int) then (if (t210.length : Int) = (wrap64 (((rdOf ByteArray.empty t218 x5_1).size : Int) + 1)) then (turnspitref15_Parse.l1 k1 t210 (rdOf ByteArray.empty t218 x5_1) 0 (wrap64 (x5_1 + 1)) 0 0 0 0 0 0) else (some (0, 0, 0, 0, 0, 0, 0, 3))) else (none))) else (turnspitref15_Parse.l0 k1 t210 (wrap64 (x5_1 + 1)))) else (none)) else (none)) else (none)) = some (r1, r2, r3, r4, r5, r6, r7, r8) := H
          have A9 := Aside0.mk A90
          clear A90
          by_cases c10 : 0 ≤ x5_1
          · rw [if_pos c10] at H
            have c10b0 : decide (0 ≤ x5_1) = true := decide_eq_true c10
            clear c10
            by_cases c11 : x5_1 < (t213.length : Int)
            · rw [if_pos c11] at H
              have c11b0 : decide (x5_1 < (t213.length : Int)) = true := decide_eq_true c11
              clear c11
              by_cases c12 : 0 < (t210.length : Int)
              · rw [if_pos c12] at H
                have c12b0 : decide (0 < (t210.length : Int)) = true := decide_eq_true c12
                have c12b1 : decide (0 < t210.length) = true := decide_eq_true (by omega)
                clear c12
                by_cases c13 : (rdOf ByteArray.empty t213 x5_1).toList = (rdOf ByteArray.empty t210 0).toList
                · rw [if_pos c13] at H
                  have c13b0 : ((rdOf ByteArray.empty t213 x5_1).toList == (rdOf ByteArray.empty t210 0).toList) = true := beq_iff_eq.mpr c13
                  have c13b1 : ((rdOf ByteArray.empty t213 x5_1).toList != (rdOf ByteArray.empty t210 0).toList) = false := bne_eq_false_iff_eq.mpr c13
                  clear c13
                  replace H := Option.bind_eq_some_iff.mp H
                  obtain ⟨t218, A140, H⟩ := H
                  replace H : (if x5_1 < (t218.length : Int) then (if (t210.length : Int) = (wrap64 (((rdOf ByteArray.empty t218 x5_1).size : Int) + 1)) then (turnspitref15_Parse.l1 k1 t210 (rdOf ByteArray.empty t218 x5_1) 0 (wrap64 (x5_1 + 1)) 0 0 0 0 0 0) else (some (0, 0, 0, 0, 0, 0, 0, 3))) else (none)) = some (r1, r2, r3, r4, r5, r6, r7, r8) := H
                  have A14 := Aside0.mk A140
                  clear A140
                  by_cases c15 : x5_1 < (t218.length : Int)
                  · rw [if_pos c15] at H
                    have c15b0 : decide (x5_1 < (t218.length : Int)) = true := decide_eq_true c15
                    clear c15
                    by_cases c16 : (t210.length : Int) = (wrap64 (((rdOf ByteArray.empty t218 x5_1).size : Int) + 1))
                    · rw [if_pos c16] at H
                      have c16b0 : ((t210.length : Int) == (wrap64 (((rdOf ByteArray.empty t218 x5_1).size : Int) + 1))) = true := beq_iff_eq.mpr c16
                      have c16b1 : ((t210.length : Int) != (wrap64 (((rdOf ByteArray.empty t218 x5_1).size : Int) + 1))) = false := bne_eq_false_iff_eq.mpr c16
                      clear c16
                      have H' := Aside0.mk H
                      clear H
                      try go_wp2
                      have n0_ := Aside0.mk (Kd.R_drew HO_4.out)
                      have n1_ := Aside0.mk (blk_drew BK209.out)
                      have n2_ := Aside0.mk (below_drew1 HB.out)
                      clear HO_4
                      clear BK209
                      clear HB
                      have HO_4 := n0_
                      have BK209 := n1_
                      have HB := n2_
                      clear n0_ n1_ n2_
                      obtain ⟨Ao18, co18, eo18⟩ := Kd.R_slice HO_4.out
                      (first | subst eo18 | (injection eo18 with f1_ f2_ f3_; have f4_ := f1_.symm; have f5_ := f3_.symm; clear f1_ f2_ f3_; subst f4_; subst f5_))
                      have p217 : 0 ≤ (0 : Int) := (by omega)
                      have q217 : 0 < (t210.length : Int) := of_decide_eq_true (by first | (with_reducible assumption) | assumption)
                      obtain ⟨ad217, e217, hx217_0⟩ := Kd.at_string (Kd.R_reads' HO_4.out).2.2 0 p217 q217
                      cases e217
                      have qi217 : (0 < t210.length) = True := eq_true (by omega)
                      (try rw [show ((0 : Int)).toNat = 0 from rfl] at hx217_0)
                      (try rw [Addr.add_zero'] at hx217_0)
                      replace p217 := eq_true p217
                      replace q217 := eq_true q217
                      refine start_ (n := 8) (S := fun w' => w'.cell? ad217 = some (.string (rdOf ByteArray.empty t210 0))) (ds := []) #[false, false, false, false, false, false, false, false] (by kernel_rfl) rfl rfl hx217_0 (fun hHeld => ?_); refine with_tabW turnspitref15_Parse.tab7 turnspitref15_Parse.bits7 (fun HT_ HW_ => ?_)
                      generalize wr.drew = w17 at HO_4 BK209 HB hx217_0 hHeld ⊢
                      refine pure_ (i := 1) (N := some 22) (v := ?_) (a' := ?_) #[false, true, false, false, false, false, false, false] rfl rfl (any_of HT_.out (by kernel_rfl)) (fun _ _ _ h => h) (Or.inl ⟨by rfl, ?_⟩) ?_ ?_
                      rotate_left
                      · intro w'
                        go_simp
                        with_reducible rfl
                      rotate_left
                      · simp only [Act.put, List.setIfInBounds_toArray, List.set_cons_zero, List.set_cons_succ, i64_w, i32_w]
                        rfl
                      refine pure_ (i := 4) (N := some 25) (v := ?_) (a' := ?_) #[false, true, false, false, true, false, false, false] rfl rfl (any_of HT_.out (by kernel_rfl)) (fun _ _ _ h => h) (Or.inl ⟨by rfl, ?_⟩) ?_ ?_
                      rotate_left
                      · intro w'
                        go_simp
                        with_reducible rfl
                      rotate_left
                      · simp only [Act.put, List.setIfInBounds_toArray, List.set_cons_zero, List.set_cons_succ, i64_w, i32_w]
                        rfl
                      refine pure_ (i := 5) (N := some 26) (v := ?_) (a' := ?_) #[false, true, false, false, true, true, false, false] rfl rfl (any_of HT_.out (by kernel_rfl)) (fun _ _ _ h => h) (Or.inl ⟨by rfl, ?_⟩) ?_ ?_
                      rotate_left
                      · intro w'
                        go_simp
                        with_reducible rfl
                      rotate_left
                      · simp only [Act.put, List.setIfInBounds_toArray, List.set_cons_zero, List.set_cons_succ, i64_w, i32_w]
                        rfl
                      refine take_ (i := 6) (N := some 27) (v := ?_) (a' := ?_) #[false, true, false, false, true, true, true, false] rfl rfl (take_ofW HT_.out HW_.out (by kernel_rfl)) (fun _ _ _ h => h) (Or.inl ⟨by rfl, ?_⟩) hHeld ?_ ?_
                      rotate_left
                      · rintro w' s0
                        go_simp
                        with_reducible rfl
                      rotate_left
                      · simp only [Act.put, List.setIfInBounds_toArray, List.set_cons_zero, List.set_cons_succ, i64_w, i32_w]
                        rfl
                      refine one_ (i := 0) (N := some 21) #[true, true, false, false, true, true, true, false] rfl rfl (one_of HT_.out (by kernel_rfl)) (by decide) (fun K hK => ?_)
                      refine goes_ Tryd.func21 (by kernel_rfl) rfl #[] (by rfl) rfl rfl (by (try simp only [List.map_toArray, List.map_cons, List.map_nil]); first | done | rfl | (simp only [List.length_drop, List.length_take]; rfl)) ?_
                      with_reducible refine (turnspitref15_names.calls  t213 _ ?side1 A9.out).mono ?_
                      (case side1 => first | exact HLd | (refine Ld.below HLd ?_; repeat (first | (with_reducible first | exact HB.out | apply below_alloc | apply pw_below_drewN | apply below_drew1 | refine below_set ?_ GE209.out) | exact HB.out)))
                      rintro e w19 ⟨v214, rfl, ho0, hb⟩
                      have HS0_ := (hb.cell (World.block_lt_of_cell? _ _ hHeld)).trans hHeld
                      refine ⟨_, rfl, ?_⟩
                      have n0_ := Aside0.mk (Kd.R_elder' (by (with_reducible repeat (first | apply Kd.R_alloc | apply Kd.R_drewN | apply Kd.R_drew)); exact HO_4.out) (Kd.R_base ho0) hb)
                      have n1_ := Aside0.mk (Kd.R_lower (Kd.R_new' ho0 (Kd.R_lt (by (with_reducible repeat (first | apply Kd.R_alloc | apply Kd.R_drewN | apply Kd.R_drew)); exact HO_4.out))) (below_size (by repeat (first | (with_reducible first | exact HB.out | apply below_alloc | apply pw_below_drewN | apply below_drew1 | refine below_set ?_ GE209.out) | exact HB.out))))
                      have n2_ := Aside0.mk (blk_below (g := gb209) (o := .cells #[.int .i64 x210000_1, .int .i64 x210001_1, .int .i64 x210002_1, .int .i64 x210003_1, .int .i64 x210004_1, .int .i64 x210005_1, .int .u64 x210006_1] 26 (0, 0)) (by (with_reducible repeat (first | refine blk_drewN ?_ _ | refine blk_drew ?_ | refine blk_alloc ?_ _)); exact BK209.out) hb)
                      have n3_ := Aside0.mk (below_step (by repeat (first | (with_reducible first | exact HB.out | apply below_alloc | apply pw_below_drewN | apply below_drew1 | refine below_set ?_ GE209.out) | exact HB.out)) hb)
                      clear HO_4
                      clear BK209
                      clear HB
                      have HO_4 := n0_
                      have HO215 := n1_
                      have BK209 := n2_
                      have HB := n3_
                      clear n0_ n1_ n2_ n3_
                      (try clear hb)
                      (try clear hb2)
                      (try clear hk)
                      (try clear hi)
                      (try clear ho0)
                      obtain ⟨Ao20, co20, eo20⟩ := Kd.R_slice HO215.out
                      (first | subst eo20 | (injection eo20 with f1_ f2_ f3_; have f4_ := f1_.symm; have f5_ := f3_.symm; clear f1_ f2_ f3_; subst f4_; subst f5_))
                      have p216 : 0 ≤ (x5_1 : Int) := of_decide_eq_true (by first | (with_reducible assumption) | assumption)
                      have q216 : x5_1 < (t213.length : Int) := of_decide_eq_true (by first | (with_reducible assumption) | assumption)
                      obtain ⟨ad216, e216, hx216_0⟩ := Kd.at_string (Kd.R_reads' HO215.out).2.2 x5_1 p216 q216
                      cases e216
                      replace p216 := eq_true p216
                      replace q216 := eq_true q216
                      refine hK.out _ _ HS0_ (fun hHeld => ?_)
                      clear hK K
                      refine norm_ (a' := ?_) ?_ ?_
                      rotate_left
                      · show Act.put _ (some 21) _ = _
                        simp only [Act.put, List.setIfInBounds_toArray, List.set_cons_zero, List.set_cons_succ, i64_w, i32_w]
                        rfl
                      refine pure_ (i := 2) (N := some 23) (v := ?_) (a' := ?_) #[true, true, true, false, true, true, true, false] rfl rfl (any_of HT_.out (by kernel_rfl)) (fun _ _ _ h => h) (Or.inl ⟨by rfl, ?_⟩) ?_ ?_
                      rotate_left
                      · intro w'
                        go_simp
                        with_reducible rfl
                      rotate_left
                      · simp only [Act.put, List.setIfInBounds_toArray, List.set_cons_zero, List.set_cons_succ, i64_w, i32_w]
                        rfl
                      refine one_ (i := 3) (N := some 24) #[true, true, true, true, true, true, true, false] rfl rfl (by kernel_rfl) (by decide) (fun K hK => ?_)
                      go_simp
                      refine hK.out _ _ hHeld (fun hHeld => ?_)
                      clear hK K
                      refine pure_ (i := 7) (N := some 28) (v := ?_) (a' := ?_) #[true, true, true, true, true, true, true, true] rfl rfl (any_of HT_.out (by kernel_rfl)) (fun _ _ _ h => h) (Or.inl ⟨by rfl, ?_⟩) ?_ ?_
                      rotate_left
                      · intro w'
                        go_simp
                        with_reducible rfl
                      rotate_left
                      · simp only [Act.put, List.setIfInBounds_toArray, List.set_cons_zero, List.set_cons_succ, i64_w, i32_w]
                        rfl
                      refine done_ (done_of HT_.out (by kernel_rfl)) ?_
                      try go_wp2_with (first | ((with_reducible refine gate_callee (f := 22) rfl ?_); refine goesL_ (some 29) rfl rfl Tryd.func22 (by kernel_rfl) rfl #[] rfl (by (try simp only [List.map_toArray, List.map_cons, List.map_nil]); first | done | rfl | (simp only [List.length_drop, List.length_take]; rfl)) ?_; (with_reducible refine (turnspitref15_told.calls  t218 _ ?side1 A14.out).mono ?_); (case side1 => first | exact HLd | (refine Ld.below HLd ?_; repeat (first | (with_reducible first | exact HB.out | apply below_alloc | apply pw_below_drewN | apply below_drew1 | refine below_set ?_ GE209.out) | exact HB.out))); rintro e w21 ⟨v219, rfl, ho0, hb⟩; refine ⟨_, rfl, ?_⟩; have n0_ := Aside0.mk (Kd.R_elder' (by (with_reducible repeat (first | apply Kd.R_alloc | apply Kd.R_drewN | apply Kd.R_drew)); exact HO_4.out) (Kd.R_base ho0) hb); have n1_ := Aside0.mk (Kd.R_elder' (by (with_reducible repeat (first | apply Kd.R_alloc | apply Kd.R_drewN | apply Kd.R_drew)); exact HO215.out) (Kd.R_base ho0) hb); have n2_ := Aside0.mk (Kd.R_lower (Kd.R_new' (Kd.R_new' ho0 (Kd.R_lt (by (with_reducible repeat (first | apply Kd.R_alloc | apply Kd.R_drewN | apply Kd.R_drew)); exact HO_4.out))) (Kd.R_lt (by (with_reducible repeat (first | apply Kd.R_alloc | apply Kd.R_drewN | apply Kd.R_drew)); exact HO215.out))) (below_size (by repeat (first | (with_reducible first | exact HB.out | apply below_alloc | apply pw_below_drewN | apply below_drew1 | refine below_set ?_ GE209.out) | exact HB.out)))); have n3_ := Aside0.mk (blk_below (g := gb209) (o := .cells #[.int .i64 x210000_1, .int .i64 x210001_1, .int .i64 x210002_1, .int .i64 x210003_1, .int .i64 x210004_1, .int .i64 x210005_1, .int .u64 x210006_1] 26 (0, 0)) (by (with_reducible repeat (first | refine blk_drewN ?_ _ | refine blk_drew ?_ | refine blk_alloc ?_ _)); exact BK209.out) hb); have n4_ := Aside0.mk (below_step (by repeat (first | (with_reducible first | exact HB.out | apply below_alloc | apply pw_below_drewN | apply below_drew1 | refine below_set ?_ GE209.out) | exact HB.out)) hb); clear HO_4; clear HO215; clear BK209; clear HB; have HO_4 := n0_; have HO215 := n1_; have HO220 := n2_; have BK209 := n3_; have HB := n4_; clear n0_ n1_ n2_ n3_ n4_; (try clear hb); (try clear hb2); (try clear hk); (try clear hi); (try clear ho0); obtain ⟨Ao22, co22, eo22⟩ := Kd.R_slice HO220.out; subst eo22; have p221 : 0 ≤ (x5_1 : Int) := of_decide_eq_true (by first | (with_reducible assumption) | assumption); have q221 : x5_1 < (t218.length : Int) := of_decide_eq_true (by first | (with_reducible assumption) | assumption); obtain ⟨ad221, e221, hx221_0⟩ := Kd.at_string (Kd.R_reads' HO220.out).2.2 x5_1 p221 q221; cases e221; replace p221 := eq_true p221; replace q221 := eq_true q221) | ((with_reducible refine gate_dst (N := 7) rfl ?_); refine box_event ?hg (N := 7) ?hd (cs := #[.int .i64 0, .int .i64 0, .int .i64 0, .int .i64 0, .int .i64 0, .int .i64 0, .int .u64 0]) (t := 26) ?hr ?_; (case hd => rfl); (case hg => rfl); (case hr => first | (go_simp; done) | (go_simp; rfl)); intro gb222 hg w23 hbox hb; have n0_ := Aside0.mk (Kd.R_below (by (with_reducible repeat (first | apply Kd.R_alloc | apply Kd.R_drewN | apply Kd.R_drew)); exact HO_4.out) hb); have n1_ := Aside0.mk (Kd.R_below (by (with_reducible repeat (first | apply Kd.R_alloc | apply Kd.R_drewN | apply Kd.R_drew)); exact HO215.out) hb); have n2_ := Aside0.mk (Kd.R_below (by (with_reducible repeat (first | apply Kd.R_alloc | apply Kd.R_drewN | apply Kd.R_drew)); exact HO220.out) hb); have n3_ := Aside0.mk (blk_below (g := gb209) (o := .cells #[.int .i64 x210000_1, .int .i64 x210001_1, .int .i64 x210002_1, .int .i64 x210003_1, .int .i64 x210004_1, .int .i64 x210005_1, .int .u64 x210006_1] 26 (0, 0)) (by (with_reducible repeat (first | refine blk_drewN ?_ _ | refine blk_drew ?_ | refine blk_alloc ?_ _)); exact BK209.out) hb); have n4_ := Aside0.mk (below_step (by repeat (first | (with_reducible first | exact HB.out | apply below_alloc | apply pw_below_drewN | apply below_drew1 | refine below_set ?_ GE209.out) | exact HB.out)) hb); have n5_ := Aside0.mk (hbox); have n6_ := Aside0.mk ((by rw [hg]; exact (below_size (by repeat (first | (with_reducible first | exact HB.out | apply below_alloc | apply pw_below_drewN | apply below_drew1 | refine below_set ?_ GE209.out) | exact HB.out))) : w.heap.size ≤ gb222)); have n7_ := Aside0.mk ((by rw [hg]; exact (below_size (by repeat (first | (with_reducible first | exact HB.out | apply below_alloc | apply pw_below_drewN | apply below_drew1 | refine below_set ?_ GE209.out) | exact HB.out))) : w.heap.size ≤ gb222)); have n8_ := Aside0.mk ((by rw [hg]; exact Nat.ne_of_lt (blk_lt (g := gb209) (o := .cells #[.int .i64 x210000_1, .int .i64 x210001_1, .int .i64 x210002_1, .int .i64 x210003_1, .int .i64 x210004_1, .int .i64 x210005_1, .int .u64 x210006_1] 26 (0, 0)) (by (with_reducible repeat (first | refine blk_drewN ?_ _ | refine blk_drew ?_ | refine blk_alloc ?_ _)); exact BK209.out)) : gb209 ≠ gb222)); have n9_ := Aside0.mk ((by rw [hg]; exact Nat.ne_of_gt (blk_lt (g := gb209) (o := .cells #[.int .i64 x210000_1, .int .i64 x210001_1, .int .i64 x210002_1, .int .i64 x210003_1, .int .i64 x210004_1, .int .i64 x210005_1, .int .u64 x210006_1] 26 (0, 0)) (by (with_reducible repeat (first | refine blk_drewN ?_ _ | refine blk_drew ?_ | refine blk_alloc ?_ _)); exact BK209.out)) : gb222 ≠ gb209)); clear HO_4; clear HO215; clear HO220; clear BK209; clear HB; have HO_4 := n0_; have HO215 := n1_; have HO220 := n2_; have BK209 := n3_; have HB := n4_; have BK222 := n5_; have GW222 := n6_; have GE222 := n7_; have NB209_222 := n8_; have NB222_209 := n9_; clear n0_ n1_ n2_ n3_ n4_ n5_ n6_ n7_ n8_ n9_; clear hb hbox hg; have hnb24 := NB222_209.out; have hnc24 := NB209_222.out; have hcz25_0 : w23.cell? ⟨gb222, 0, none⟩ = some (.int .i64 0) := (blk_cell BK222.out 0).trans rfl; have hcz25_1 : w23.cell? ⟨gb222, 1, none⟩ = some (.int .i64 0) := (blk_cell BK222.out 1).trans rfl; have hcz25_2 : w23.cell? ⟨gb222, 2, none⟩ = some (.int .i64 0) := (blk_cell BK222.out 2).trans rfl; have hcz25_3 : w23.cell? ⟨gb222, 3, none⟩ = some (.int .i64 0) := (blk_cell BK222.out 3).trans rfl; have hcz25_4 : w23.cell? ⟨gb222, 4, none⟩ = some (.int .i64 0) := (blk_cell BK222.out 4).trans rfl; have hcz25_5 : w23.cell? ⟨gb222, 5, none⟩ = some (.int .i64 0) := (blk_cell BK222.out 5).trans rfl; have hcz25_6 : w23.cell? ⟨gb222, 6, none⟩ = some (.int .u64 0) := (blk_cell BK222.out 6).trans rfl; have hfz25_0 := blk_frozen BK222.out 0; have hfz25_1 := blk_frozen BK222.out 1; have hfz25_2 := blk_frozen BK222.out 2; have hfz25_3 := blk_frozen BK222.out 3; have hfz25_4 := blk_frozen BK222.out 4; have hfz25_5 := blk_frozen BK222.out 5; have hfz25_6 := blk_frozen BK222.out 6))
                      go_loopg [8] k1 (fun kq v8 w' => ∃ (x8_2 : Int) (x210000_2 : Int) (x210001_2 : Int) (x210002_2 : Int) (x210003_2 : Int) (x210004_2 : Int) (x210005_2 : Int) (x210006_2 : Int) (x223000_2 : Int) (x223001_2 : Int) (x223002_2 : Int) (x223003_2 : Int) (x223004_2 : Int) (x223005_2 : Int) (x223006_2 : Int), v8 = .int .i64 x8_2 ∧ Aside0 (turnspitref15_Parse.l1 kq t210 (rdOf ByteArray.empty t218 x5_1) x8_2 x223000_2 x223001_2 x223002_2 x223003_2 x223004_2 x223005_2 x223006_2 = some (r1, r2, r3, r4, r5, r6, r7, r8)) ∧ Aside0 (kq ≤ k1) ∧ Aside0 (Kd.R Kd.string 9 w' w.heap.size (fun _ => True) (.slice (some ad217) t210.length co18) t210) ∧ Aside0 (w'.heap[gb209]? = some (.cells #[.int .i64 x210000_2, .int .i64 x210001_2, .int .i64 x210002_2, .int .i64 x210003_2, .int .i64 x210004_2, .int .i64 x210005_2, .int .u64 x210006_2] 26 (0, 0))) ∧ Aside0 (w'.heap[gb222]? = some (.cells #[.int .i64 x223000_2, .int .i64 x223001_2, .int .i64 x223002_2, .int .i64 x223003_2, .int .i64 x223004_2, .int .i64 x223005_2, .int .u64 x223006_2] 26 (0, 0))) ∧ Aside0 (Below w.heap.size w w'))
                      case atStart => exact ⟨(0), (x210000_1), (x210001_1), (x210002_1), (x210003_1), (x210004_1), (x210005_1), (x210006_1), (wrap64 (x5_1 + 1)), (0), (0), (0), (0), (0), (0), (by first | rfl | (simp; done) | (simp [*]; done)), H', ⟨Nat.le_refl _⟩, ⟨by (with_reducible repeat (first | apply Kd.R_alloc | apply Kd.R_drewN | apply Kd.R_drew)); exact Kd.R_mono (Kd.R_far (p := ⟨gb222, 6, none⟩) (Kd.R_far (p := ⟨gb222, 5, none⟩) (Kd.R_far (p := ⟨gb222, 4, none⟩) (Kd.R_far (p := ⟨gb222, 3, none⟩) (Kd.R_far (p := ⟨gb222, 2, none⟩) (Kd.R_far (p := ⟨gb222, 1, none⟩) (Kd.R_far (p := ⟨gb222, 0, none⟩) (Kd.R_types HO_4.out BK222.out (by decide)) (fun _ hk => hk.2) (.int .i64 (wrap64 (x5_1 + 1)))) (fun _ hk => hk.2) (.int .i64 0)) (fun _ hk => hk.2) (.int .i64 0)) (fun _ hk => hk.2) (.int .i64 0)) (fun _ hk => hk.2) (.int .i64 0)) (fun _ hk => hk.2) (.int .i64 0)) (fun _ hk => hk.2) (.int .u64 0)) (fun _ hk => trivial)⟩, ⟨by (with_reducible repeat (first | refine blk_drewN ?_ _ | refine blk_drew ?_ | refine blk_alloc ?_ _)); refine blk_far ?_ NB209_222.out _; (with_reducible repeat (first | refine blk_drewN ?_ _ | refine blk_drew ?_ | refine blk_alloc ?_ _)); refine blk_far ?_ NB209_222.out _; (with_reducible repeat (first | refine blk_drewN ?_ _ | refine blk_drew ?_ | refine blk_alloc ?_ _)); refine blk_far ?_ NB209_222.out _; (with_reducible repeat (first | refine blk_drewN ?_ _ | refine blk_drew ?_ | refine blk_alloc ?_ _)); refine blk_far ?_ NB209_222.out _; (with_reducible repeat (first | refine blk_drewN ?_ _ | refine blk_drew ?_ | refine blk_alloc ?_ _)); refine blk_far ?_ NB209_222.out _; (with_reducible repeat (first | refine blk_drewN ?_ _ | refine blk_drew ?_ | refine blk_alloc ?_ _)); refine blk_far ?_ NB209_222.out _; (with_reducible repeat (first | refine blk_drewN ?_ _ | refine blk_drew ?_ | refine blk_alloc ?_ _)); refine blk_far ?_ NB209_222.out _; (with_reducible repeat (first | refine blk_drewN ?_ _ | refine blk_drew ?_ | refine blk_alloc ?_ _)); exact BK209.out⟩, ⟨by (with_reducible repeat (first | refine blk_drewN ?_ _ | refine blk_drew ?_ | refine blk_alloc ?_ _)); refine blk_put (cs := #[.int .i64 (wrap64 (x5_1 + 1)), .int .i64 0, .int .i64 0, .int .i64 0, .int .i64 0, .int .i64 0, .int .u64 0]) ?_ 6 _ (by first | rfl | simp [*]); (with_reducible repeat (first | refine blk_drewN ?_ _ | refine blk_drew ?_ | refine blk_alloc ?_ _)); refine blk_put (cs := #[.int .i64 (wrap64 (x5_1 + 1)), .int .i64 0, .int .i64 0, .int .i64 0, .int .i64 0, .int .i64 0, .int .u64 0]) ?_ 5 _ (by first | rfl | simp [*]); (with_reducible repeat (first | refine blk_drewN ?_ _ | refine blk_drew ?_ | refine blk_alloc ?_ _)); refine blk_put (cs := #[.int .i64 (wrap64 (x5_1 + 1)), .int .i64 0, .int .i64 0, .int .i64 0, .int .i64 0, .int .i64 0, .int .u64 0]) ?_ 4 _ (by first | rfl | simp [*]); (with_reducible repeat (first | refine blk_drewN ?_ _ | refine blk_drew ?_ | refine blk_alloc ?_ _)); refine blk_put (cs := #[.int .i64 (wrap64 (x5_1 + 1)), .int .i64 0, .int .i64 0, .int .i64 0, .int .i64 0, .int .i64 0, .int .u64 0]) ?_ 3 _ (by first | rfl | simp [*]); (with_reducible repeat (first | refine blk_drewN ?_ _ | refine blk_drew ?_ | refine blk_alloc ?_ _)); refine blk_put (cs := #[.int .i64 (wrap64 (x5_1 + 1)), .int .i64 0, .int .i64 0, .int .i64 0, .int .i64 0, .int .i64 0, .int .u64 0]) ?_ 2 _ (by first | rfl | simp [*]); (with_reducible repeat (first | refine blk_drewN ?_ _ | refine blk_drew ?_ | refine blk_alloc ?_ _)); refine blk_put (cs := #[.int .i64 (wrap64 (x5_1 + 1)), .int .i64 0, .int .i64 0, .int .i64 0, .int .i64 0, .int .i64 0, .int .u64 0]) ?_ 1 _ (by first | rfl | simp [*]); (with_reducible repeat (first | refine blk_drewN ?_ _ | refine blk_drew ?_ | refine blk_alloc ?_ _)); refine blk_put (cs := #[.int .i64 0, .int .i64 0, .int .i64 0, .int .i64 0, .int .i64 0, .int .i64 0, .int .u64 0]) ?_ 0 _ (by first | rfl | simp [*]); (with_reducible repeat (first | refine blk_drewN ?_ _ | refine blk_drew ?_ | refine blk_alloc ?_ _)); exact BK222.out⟩, ⟨by repeat (first | (with_reducible first | exact HB.out | apply below_alloc | apply pw_below_drewN | apply below_drew1 | refine below_set ?_ GE209.out | refine below_set ?_ GE222.out) | exact HB.out)⟩⟩
                      case round =>
                        clear H'
                        try clear c1
                        try clear c2
                        try clear c2b0
                        try clear c2b1
                        try clear p2
                        try clear q2
                        try clear hx2
                        try clear qi2
                        try clear p6
                        try clear c8
                        try clear c8b0
                        try clear c10
                        try clear c10b0
                        try clear c11
                        try clear c11b0
                        try clear c12
                        try clear c12b0
                        try clear c12b1
                        try clear c13
                        try clear c13b0
                        try clear c13b1
                        try clear c14
                        try clear c15
                        try clear c15b0
                        try clear c16
                        try clear c16b0
                        try clear c16b1
                        try clear c21
                        try clear p21
                        try clear q21
                        try clear hx21
                        try clear qi21
                        try clear c22
                        try clear p22
                        try clear q22
                        try clear hx22
                        try clear c24
                        try clear hcz25_0
                        try clear hcz25_1
                        try clear hcz25_2
                        try clear hcz25_3
                        try clear hcz25_4
                        try clear hcz25_5
                        try clear hcz25_6
                        try clear hcz4_0
                        try clear hcz4_1
                        try clear hcz4_2
                        try clear hcz4_3
                        try clear hcz4_4
                        try clear hcz4_5
                        try clear hcz4_6
                        try clear hfz25_0
                        try clear hfz25_1
                        try clear hfz25_2
                        try clear hfz25_3
                        try clear hfz25_4
                        try clear hfz25_5
                        try clear hfz25_6
                        try clear hfz4_0
                        try clear hfz4_1
                        try clear hfz4_2
                        try clear hfz4_3
                        try clear hfz4_4
                        try clear hfz4_5
                        try clear hfz4_6
                        try clear hx216_0
                        try clear hx217_0
                        try clear hx221_0
                        try clear p2
                        try clear p216
                        try clear p217
                        try clear p221
                        try clear q216
                        try clear q217
                        try clear q221
                        obtain ⟨x8_2, x210000_2, x210001_2, x210002_2, x210003_2, x210004_2, x210005_2, x210006_2, x223000_2, x223001_2, x223002_2, x223003_2, x223004_2, x223005_2, x223006_2, rfl, HA, HK2, HO_4, BK209, BK222, HB⟩ := hrel
                        cases gk with
                        | zero => exact absurd HA.out (by simp [turnspitref15_Parse.l1])
                        | succ k2 =>
                          have H := HA.out
                          clear HA
                          simp only [turnspitref15_Parse.l1] at H
                          by_cases c26 : x8_2 < ((rdOf ByteArray.empty t218 x5_1).size : Int)
                          · rw [if_pos c26] at H
                            have c26b0 : decide (x8_2 < ((rdOf ByteArray.empty t218 x5_1).size : Int)) = true := decide_eq_true c26
                            clear c26
                            by_cases c27 : 0 ≤ x8_2
                            · rw [if_pos c27] at H
                              have c27b0 : decide (0 ≤ x8_2) = true := decide_eq_true c27
                              clear c27
                              obtain ⟨ji29, hji29⟩ : ∃ j_ : Int, (wrap64 (x8_2 + 1)) = j_ := ⟨_, rfl⟩
                              replace H : (if 0 ≤ (ji29) then (if (ji29) < (t210.length : Int) then ((turnspitref15_put.f k2 x223000_2 x223001_2 x223002_2 x223003_2 x223004_2 x223005_2 x223006_2 (bt (rdOf ByteArray.empty t218 x5_1) x8_2) (rdOf ByteArray.empty t210 (ji29))).bind fun bt224 => (if bt224.2.2.2.2.2.2.2 = true then (turnspitref15_Parse.l1 k2 t210 (rdOf ByteArray.empty t218 x5_1) ji29 bt224.1 bt224.2.1 bt224.2.2.1 bt224.2.2.2.1 bt224.2.2.2.2.1 bt224.2.2.2.2.2.1 bt224.2.2.2.2.2.2.1) else (some (0, 0, 0, 0, 0, 0, 0, 3)))) else (none)) else (none)) = some (r1, r2, r3, r4, r5, r6, r7, r8) := by first | (rw [hji29] at H; exact H) | (simp only [hji29] at H ⊢; exact H)
                              have hji29w : (IntKind.i64.wrap (x8_2 + 1)) = ji29 := (i64_w _).trans hji29
                              by_cases c30 : 0 ≤ (ji29)
                              · rw [if_pos c30] at H
                                have c30b0 : decide (0 ≤ (ji29)) = true := decide_eq_true c30
                                clear c30
                                by_cases c31 : (ji29) < (t210.length : Int)
                                · rw [if_pos c31] at H
                                  have c31b0 : decide ((ji29) < (t210.length : Int)) = true := decide_eq_true c31
                                  clear c31
                                  replace H := Option.bind_eq_some_iff.mp H
                                  obtain ⟨⟨t224, t225, t226, t227, t228, t229, t230, t231⟩, A320, H⟩ := H
                                  replace H : (if t231 = true then (turnspitref15_Parse.l1 k2 t210 (rdOf ByteArray.empty t218 x5_1) ji29 t224 t225 t226 t227 t228 t229 t230) else (some (0, 0, 0, 0, 0, 0, 0, 3))) = some (r1, r2, r3, r4, r5, r6, r7, r8) := H
                                  have A32 := Aside0.mk A320
                                  clear A320
                                  by_cases c33 : t231 = true
                                  · subst c33
                                    have H1 : (turnspitref15_Parse.l1 k2 t210 (rdOf ByteArray.empty t218 x5_1) ji29 t224 t225 t226 t227 t228 t229 t230) = some (r1, r2, r3, r4, r5, r6, r7, r8) := by rw [if_pos rfl] at H; exact H
                                    clear H
                                    have H := H1
                                    clear H1
                                    have H' := Aside0.mk H
                                    clear H
                                    try go_wp2
                                    have n0_ := Aside0.mk (Kd.R_drew HO_4.out)
                                    have n1_ := Aside0.mk (blk_drew BK209.out)
                                    have n2_ := Aside0.mk (blk_drew BK222.out)
                                    have n3_ := Aside0.mk (below_drew1 HB.out)
                                    clear HO_4
                                    clear BK209
                                    clear BK222
                                    clear HB
                                    have HO_4 := n0_
                                    have BK209 := n1_
                                    have BK222 := n2_
                                    have HB := n3_
                                    clear n0_ n1_ n2_ n3_
                                    have p28 : 0 ≤ (x8_2 : Int) := of_decide_eq_true (by first | (with_reducible assumption) | assumption)
                                    have q28 : x8_2 < ((rdOf ByteArray.empty t218 x5_1).size : Int) := of_decide_eq_true (by first | (with_reducible assumption) | assumption)
                                    have hx28 := bt_at (rdOf ByteArray.empty t218 x5_1) x8_2
                                    replace p28 := eq_true p28
                                    replace q28 := eq_true q28
                                    have p223 : 0 ≤ ((ji29) : Int) := of_decide_eq_true (by first | (with_reducible assumption) | assumption)
                                    have q223 : (ji29) < (t210.length : Int) := of_decide_eq_true (by first | (with_reducible assumption) | assumption)
                                    obtain ⟨ad223, e223, hx223_0⟩ := Kd.at_string (Kd.R_reads' HO_4.out).2.2 (ji29) p223 q223
                                    obtain rfl : ad217 = ad223 := (by injection e223)
                                    replace p223 := eq_true p223
                                    replace q223 := eq_true q223
                                    refine start_ (n := 16) (S := fun w' => w'.cell? ⟨gb222, 0, none⟩ = some (.int .i64 x223000_2) ∧ w'.cell? ⟨gb222, 1, none⟩ = some (.int .i64 x223001_2) ∧ w'.cell? ⟨gb222, 2, none⟩ = some (.int .i64 x223002_2) ∧ w'.cell? ⟨gb222, 3, none⟩ = some (.int .i64 x223003_2) ∧ w'.cell? ⟨gb222, 4, none⟩ = some (.int .i64 x223004_2) ∧ w'.cell? ⟨gb222, 5, none⟩ = some (.int .i64 x223005_2) ∧ w'.cell? ⟨gb222, 6, none⟩ = some (.int .u64 x223006_2) ∧ w'.cell? (ad217.add ((ji29)).toNat) = some (.string (rdOf ByteArray.empty t210 (ji29)))) (ds := []) #[false, false, false, false, false, false, false, false, false, false, false, false, false, false, false, false] (by kernel_rfl) rfl rfl ⟨(blk_cell BK222.out 0).trans rfl, (blk_cell BK222.out 1).trans rfl, (blk_cell BK222.out 2).trans rfl, (blk_cell BK222.out 3).trans rfl, (blk_cell BK222.out 4).trans rfl, (blk_cell BK222.out 5).trans rfl, (blk_cell BK222.out 6).trans rfl, hx223_0⟩ (fun hHeld => ?_); refine with_tabW turnspitref15_Parse.tab15 turnspitref15_Parse.bits15 (fun HT_ HW_ => ?_)
                                    generalize wr.drew = w34 at HO_4 BK209 BK222 HB hx223_0 hHeld ⊢
                                    refine pure_ (i := 1) (N := some 51) (v := ?_) (a' := ?_) #[false, true, false, false, false, false, false, false, false, false, false, false, false, false, false, false] rfl rfl (any_of HT_.out (by kernel_rfl)) (fun _ _ _ h => h) (Or.inl ⟨by rfl, ?_⟩) ?_ ?_
                                    rotate_left
                                    · intro w'
                                      go_simp
                                      with_reducible rfl
                                    rotate_left
                                    · simp only [Act.put, List.setIfInBounds_toArray, List.set_cons_zero, List.set_cons_succ, i64_w, i32_w]
                                      rfl
                                    refine pure_ (i := 2) (N := some 52) (v := ?_) (a' := ?_) #[false, true, true, false, false, false, false, false, false, false, false, false, false, false, false, false] rfl rfl (any_of HT_.out (by kernel_rfl)) (fun _ _ _ h => h) (Or.inl ⟨by rfl, ?_⟩) ?_ ?_
                                    rotate_left
                                    · intro w'
                                      go_simp
                                      with_reducible rfl
                                    rotate_left
                                    · simp only [Act.put, List.setIfInBounds_toArray, List.set_cons_zero, List.set_cons_succ, i64_w, i32_w]
                                      rfl
                                    refine pure_ (i := 4) (N := some 54) (v := ?_) (a' := ?_) #[false, true, true, false, true, false, false, false, false, false, false, false, false, false, false, false] rfl rfl (any_of HT_.out (by kernel_rfl)) (fun _ _ _ h => h) (Or.inl ⟨by rfl, ?_⟩) ?_ ?_
                                    rotate_left
                                    · intro w'
                                      go_simp
                                      with_reducible rfl
                                    rotate_left
                                    · simp only [Act.put, List.setIfInBounds_toArray, List.set_cons_zero, List.set_cons_succ, i64_w, i32_w]
                                      rfl
                                    refine pure_ (i := 5) (N := some 55) (v := ?_) (a' := ?_) #[false, true, true, false, true, true, false, false, false, false, false, false, false, false, false, false] rfl rfl (any_of HT_.out (by kernel_rfl)) (fun _ _ _ h => h) (Or.inl ⟨by rfl, ?_⟩) ?_ ?_
                                    rotate_left
                                    · intro w'
                                      go_simp
                                      with_reducible rfl
                                    rotate_left
                                    · simp only [Act.put, List.setIfInBounds_toArray, List.set_cons_zero, List.set_cons_succ, i64_w, i32_w]
                                      rfl
                                    refine pure_ (i := 6) (N := some 56) (v := ?_) (a' := ?_) #[false, true, true, false, true, true, true, false, false, false, false, false, false, false, false, false] rfl rfl (any_of HT_.out (by kernel_rfl)) (fun _ _ _ h => h) (Or.inl ⟨by rfl, ?_⟩) ?_ ?_
                                    rotate_left
                                    · intro w'
                                      go_simp
                                      with_reducible rfl
                                    rotate_left
                                    · simp only [Act.put, List.setIfInBounds_toArray, List.set_cons_zero, List.set_cons_succ, i64_w, i32_w]
                                      rfl
                                    refine pure_ (i := 7) (N := some 57) (v := ?_) (a' := ?_) #[false, true, true, false, true, true, true, true, false, false, false, false, false, false, false, false] rfl rfl (any_of HT_.out (by kernel_rfl)) (fun _ _ _ h => h) (Or.inl ⟨by rfl, ?_⟩) ?_ ?_
                                    rotate_left
                                    · intro w'
                                      go_simp
                                      with_reducible rfl
                                    rotate_left
                                    · simp only [Act.put, List.setIfInBounds_toArray, List.set_cons_zero, List.set_cons_succ, i64_w, i32_w]
                                      rfl
                                    refine take_ (i := 0) (N := some 50) (v := ?_) (a' := ?_) #[true, true, true, false, true, true, true, true, false, false, false, false, false, false, false, false] rfl rfl (take_ofW HT_.out HW_.out (by kernel_rfl)) (fun _ _ _ h => h) (Or.inl ⟨by rfl, ?_⟩) hHeld ?_ ?_
                                    rotate_left
                                    · rintro w' ⟨s0, s1, s2, s3, s4, s5, s6, s7⟩
                                      go_simp
                                      with_reducible rfl
                                    rotate_left
                                    · simp only [Act.put, List.setIfInBounds_toArray, List.set_cons_zero, List.set_cons_succ, i64_w, i32_w]
                                      rfl
                                    refine take_ (i := 3) (N := some 53) (v := ?_) (a' := ?_) #[true, true, true, true, true, true, true, true, false, false, false, false, false, false, false, false] rfl rfl (take_ofW HT_.out HW_.out (by kernel_rfl)) (fun _ _ _ h => h) (Or.inl ⟨by rfl, ?_⟩) hHeld ?_ ?_
                                    rotate_left
                                    · rintro w' ⟨s0, s1, s2, s3, s4, s5, s6, s7⟩
                                      go_simp
                                      with_reducible rfl
                                    rotate_left
                                    · simp only [Act.put, List.setIfInBounds_toArray, List.set_cons_zero, List.set_cons_succ, i64_w, i32_w]
                                      rfl
                                    refine take_ (i := 8) (N := some 58) (v := ?_) (a' := ?_) #[true, true, true, true, true, true, true, true, true, false, false, false, false, false, false, false] rfl rfl (take_ofW HT_.out HW_.out (by kernel_rfl)) (fun _ _ _ h => h) (Or.inl ⟨by rfl, ?_⟩) hHeld ?_ ?_
                                    rotate_left
                                    · rintro w' ⟨s0, s1, s2, s3, s4, s5, s6, s7⟩
                                      go_simp
                                      with_reducible rfl
                                    rotate_left
                                    · simp only [Act.put, List.setIfInBounds_toArray, List.set_cons_zero, List.set_cons_succ, i64_w, i32_w]
                                      rfl
                                    refine join_ (σ := Nat) 2 #[true, true, true, true, true, true, true, true, true, true, true, true, true, true, false, false] (fun s_ => [(59, .tuple #[.agg #[.int .i64 t224, .int .i64 t225, .int .i64 t226, .int .i64 t227, .int .i64 t228, .int .i64 t229, .int .u64 t230], .bool true]), (9, .pointer (some ⟨s_, 0, none⟩)), (49, .tuple #[.agg #[.int .i64 t224, .int .i64 t225, .int .i64 t226, .int .i64 t227, .int .i64 t228, .int .i64 t229, .int .u64 t230], .bool true]), (60, .agg #[.int .i64 t224, .int .i64 t225, .int .i64 t226, .int .i64 t227, .int .i64 t228, .int .i64 t229, .int .u64 t230]), (61, .bool true)]) (fun s_ w' => (w'.cell? ⟨gb222, 0, none⟩ = some (.int .i64 x223000_2) ∧ w'.cell? ⟨gb222, 1, none⟩ = some (.int .i64 x223001_2) ∧ w'.cell? ⟨gb222, 2, none⟩ = some (.int .i64 x223002_2) ∧ w'.cell? ⟨gb222, 3, none⟩ = some (.int .i64 x223003_2) ∧ w'.cell? ⟨gb222, 4, none⟩ = some (.int .i64 x223004_2) ∧ w'.cell? ⟨gb222, 5, none⟩ = some (.int .i64 x223005_2) ∧ w'.cell? ⟨gb222, 6, none⟩ = some (.int .u64 x223006_2) ∧ w'.cell? (ad217.add ((ji29)).toNat) = some (.string (rdOf ByteArray.empty t210 (ji29)))) ∧ (Kd.R Kd.string 9 w' w.heap.size (fun _ => True) (.slice (some ad217) t210.length co18) t210) ∧ (w'.heap[gb209]? = some (.cells #[.int .i64 x210000_2, .int .i64 x210001_2, .int .i64 x210002_2, .int .i64 x210003_2, .int .i64 x210004_2, .int .i64 x210005_2, .int .u64 x210006_2] 26 (0, 0))) ∧ (w'.heap[gb222]? = some (.cells #[.int .i64 x223000_2, .int .i64 x223001_2, .int .i64 x223002_2, .int .i64 x223003_2, .int .i64 x223004_2, .int .i64 x223005_2, .int .u64 x223006_2] 26 (0, 0))) ∧ (w'.heap[s_]? = some (.cells #[.int .i64 0, .int .i64 0, .int .i64 0, .int .i64 0, .int .i64 0, .int .i64 0, .int .u64 0] 26 (0, 0))) ∧ (w.heap.size ≤ s_) ∧ (w.heap.size ≤ s_) ∧ (gb209 ≠ s_) ∧ (s_ ≠ gb209) ∧ (gb222 ≠ s_) ∧ (s_ ≠ gb222) ∧ (Below w.heap.size w w')) ?_ ?_
                                    rotate_left
                                    · intro hCont
                                      refine two_ (i := 9) (j := 13) (Ni := some 59) (Nj := some 9) #[true, true, true, true, true, true, true, true, true, true, false, false, false, false, false, false] #[true, true, true, true, true, true, true, true, true, false, false, false, false, true, false, false] rfl rfl rfl rfl (two_of HT_.out (by kernel_rfl)) (by decide) (by decide) (fun K hK => ?_) (fun K hK => ?_)
                                      · skip
                                        refine goes_ Tryd.func27 (by kernel_rfl) rfl #[.agg #[.int .i64 x223000_2, .int .i64 x223001_2, .int .i64 x223002_2, .int .i64 x223003_2, .int .i64 x223004_2, .int .i64 x223005_2, .int .u64 x223006_2], .int .u8 (bt (rdOf ByteArray.empty t218 x5_1) x8_2), .string (rdOf ByteArray.empty t210 (ji29))] (by rfl) rfl rfl (by (try simp only [List.map_toArray, List.map_cons, List.map_nil]); first | done | (simp only [hji29]; rfl) | rfl | (simp only [List.length_drop, List.length_take]; rfl)) ?_
                                        with_reducible refine (turnspitref15_put.calls k2 x223000_2 x223001_2 x223002_2 x223003_2 x223004_2 x223005_2 x223006_2 (bt (rdOf ByteArray.empty t218 x5_1) x8_2) (rdOf ByteArray.empty t210 (ji29)) t224 t225 t226 t227 t228 t229 t230 true _ ?side1 A32.out).mono ?_
                                        (case side1 => first | exact HLd | (refine Ld.below HLd ?_; repeat (first | (with_reducible first | exact HB.out | apply below_alloc | apply pw_below_drewN | apply below_drew1 | refine below_set ?_ GE209.out | refine below_set ?_ GE222.out) | exact HB.out)))
                                        rintro e w35 ⟨rfl, hb⟩
                                        have HS7_ := (hb.cell (World.block_lt_of_cell? _ _ (hHeld.2.2.2.2.2.2.2))).trans (hHeld.2.2.2.2.2.2.2)
                                        refine ⟨_, rfl, ?_⟩
                                        have n0_ := Aside0.mk (Kd.R_below (by (with_reducible repeat (first | apply Kd.R_alloc | apply Kd.R_drewN | apply Kd.R_drew)); exact HO_4.out) hb)
                                        have n1_ := Aside0.mk (blk_below (g := gb209) (o := .cells #[.int .i64 x210000_2, .int .i64 x210001_2, .int .i64 x210002_2, .int .i64 x210003_2, .int .i64 x210004_2, .int .i64 x210005_2, .int .u64 x210006_2] 26 (0, 0)) (by (with_reducible repeat (first | refine blk_drewN ?_ _ | refine blk_drew ?_ | refine blk_alloc ?_ _)); exact BK209.out) hb)
                                        have n2_ := Aside0.mk (blk_below (g := gb222) (o := .cells #[.int .i64 x223000_2, .int .i64 x223001_2, .int .i64 x223002_2, .int .i64 x223003_2, .int .i64 x223004_2, .int .i64 x223005_2, .int .u64 x223006_2] 26 (0, 0)) (by (with_reducible repeat (first | refine blk_drewN ?_ _ | refine blk_drew ?_ | refine blk_alloc ?_ _)); exact BK222.out) hb)
                                        have n3_ := Aside0.mk (below_step (by repeat (first | (with_reducible first | exact HB.out | apply below_alloc | apply pw_below_drewN | apply below_drew1 | refine below_set ?_ GE209.out | refine below_set ?_ GE222.out) | exact HB.out)) hb)
                                        clear HO_4
                                        clear BK209
                                        clear BK222
                                        clear HB
                                        have HO_4 := n0_
                                        have BK209 := n1_
                                        have BK222 := n2_
                                        have HB := n3_
                                        clear n0_ n1_ n2_ n3_
                                        (try clear hb)
                                        (try clear hb2)
                                        (try clear hk)
                                        (try clear hi)
                                        refine hK.out _ _ ⟨(blk_cell BK222.out 0).trans rfl, (blk_cell BK222.out 1).trans rfl, (blk_cell BK222.out 2).trans rfl, (blk_cell BK222.out 3).trans rfl, (blk_cell BK222.out 4).trans rfl, (blk_cell BK222.out 5).trans rfl, (blk_cell BK222.out 6).trans rfl, HS7_⟩ (fun hHeld => ?_)
                                        clear hK K
                                        refine norm_ (a' := ?_) ?_ ?_
                                        rotate_left
                                        · show Act.put _ (some 59) _ = _
                                          simp only [Act.put, List.setIfInBounds_toArray, List.set_cons_zero, List.set_cons_succ, i64_w, i32_w]
                                          rfl
                                        refine pure_ (i := 10) (N := some 49) (v := ?_) (a' := ?_) #[true, true, true, true, true, true, true, true, true, true, true, false, false, false, false, false] rfl rfl (any_of HT_.out (by kernel_rfl)) (fun _ _ _ h => h) (Or.inl ⟨by rfl, ?_⟩) ?_ ?_
                                        rotate_left
                                        · intro w'
                                          go_simp
                                          with_reducible rfl
                                        rotate_left
                                        · simp only [Act.put, List.setIfInBounds_toArray, List.set_cons_zero, List.set_cons_succ, i64_w, i32_w]
                                          rfl
                                        refine pure_ (i := 11) (N := some 60) (v := ?_) (a' := ?_) #[true, true, true, true, true, true, true, true, true, true, true, true, false, false, false, false] rfl rfl (any_of HT_.out (by kernel_rfl)) (fun _ _ _ h => h) (Or.inl ⟨by rfl, ?_⟩) ?_ ?_
                                        rotate_left
                                        · intro w'
                                          go_simp
                                          with_reducible rfl
                                        rotate_left
                                        · simp only [Act.put, List.setIfInBounds_toArray, List.set_cons_zero, List.set_cons_succ, i64_w, i32_w]
                                          rfl
                                        refine pure_ (i := 12) (N := some 61) (v := ?_) (a' := ?_) #[true, true, true, true, true, true, true, true, true, true, true, true, true, false, false, false] rfl rfl (any_of HT_.out (by kernel_rfl)) (fun _ _ _ h => h) (Or.inl ⟨by rfl, ?_⟩) ?_ ?_
                                        rotate_left
                                        · intro w'
                                          go_simp
                                          with_reducible rfl
                                        rotate_left
                                        · simp only [Act.put, List.setIfInBounds_toArray, List.set_cons_zero, List.set_cons_succ, i64_w, i32_w]
                                          rfl
                                        refine one_ (i := 13) (N := some 9) #[true, true, true, true, true, true, true, true, true, true, true, true, true, true, false, false] rfl rfl (one_of HT_.out (by kernel_rfl)) (by decide) (fun K hK => ?_)
                                        refine box_step ?hg (N := 9) ?hd (cs := #[.int .i64 0, .int .i64 0, .int .i64 0, .int .i64 0, .int .i64 0, .int .i64 0, .int .u64 0]) (t := 26) ?hr ?_; (case hd => rfl); (case hg => rfl); (case hr => first | (go_simp; done) | (go_simp; rfl))
                                        intro gb232 hg w36 hbox hb
                                        have HS7_ := (hb.cell (World.block_lt_of_cell? _ _ (hHeld.2.2.2.2.2.2.2))).trans (hHeld.2.2.2.2.2.2.2)
                                        have n0_ := Aside0.mk (Kd.R_below (by (with_reducible repeat (first | apply Kd.R_alloc | apply Kd.R_drewN | apply Kd.R_drew)); exact HO_4.out) hb)
                                        have n1_ := Aside0.mk (blk_below (g := gb209) (o := .cells #[.int .i64 x210000_2, .int .i64 x210001_2, .int .i64 x210002_2, .int .i64 x210003_2, .int .i64 x210004_2, .int .i64 x210005_2, .int .u64 x210006_2] 26 (0, 0)) (by (with_reducible repeat (first | refine blk_drewN ?_ _ | refine blk_drew ?_ | refine blk_alloc ?_ _)); exact BK209.out) hb)
                                        have n2_ := Aside0.mk (blk_below (g := gb222) (o := .cells #[.int .i64 x223000_2, .int .i64 x223001_2, .int .i64 x223002_2, .int .i64 x223003_2, .int .i64 x223004_2, .int .i64 x223005_2, .int .u64 x223006_2] 26 (0, 0)) (by (with_reducible repeat (first | refine blk_drewN ?_ _ | refine blk_drew ?_ | refine blk_alloc ?_ _)); exact BK222.out) hb)
                                        have n3_ := Aside0.mk (below_step (by repeat (first | (with_reducible first | exact HB.out | apply below_alloc | apply pw_below_drewN | apply below_drew1 | refine below_set ?_ GE209.out | refine below_set ?_ GE222.out) | exact HB.out)) hb)
                                        have n4_ := Aside0.mk (hbox)
                                        have n5_ := Aside0.mk ((by rw [hg]; exact (below_size (by repeat (first | (with_reducible first | exact HB.out | apply below_alloc | apply pw_below_drewN | apply below_drew1 | refine below_set ?_ GE209.out | refine below_set ?_ GE222.out) | exact HB.out))) : w.heap.size ≤ gb232))
                                        have n6_ := Aside0.mk ((by rw [hg]; exact (below_size (by repeat (first | (with_reducible first | exact HB.out | apply below_alloc | apply pw_below_drewN | apply below_drew1 | refine below_set ?_ GE209.out | refine below_set ?_ GE222.out) | exact HB.out))) : w.heap.size ≤ gb232))
                                        have n7_ := Aside0.mk ((by rw [hg]; exact Nat.ne_of_lt (blk_lt (g := gb209) (o := .cells #[.int .i64 x210000_2, .int .i64 x210001_2, .int .i64 x210002_2, .int .i64 x210003_2, .int .i64 x210004_2, .int .i64 x210005_2, .int .u64 x210006_2] 26 (0, 0)) (by (with_reducible repeat (first | refine blk_drewN ?_ _ | refine blk_drew ?_ | refine blk_alloc ?_ _)); exact BK209.out)) : gb209 ≠ gb232))
                                        have n8_ := Aside0.mk ((by rw [hg]; exact Nat.ne_of_gt (blk_lt (g := gb209) (o := .cells #[.int .i64 x210000_2, .int .i64 x210001_2, .int .i64 x210002_2, .int .i64 x210003_2, .int .i64 x210004_2, .int .i64 x210005_2, .int .u64 x210006_2] 26 (0, 0)) (by (with_reducible repeat (first | refine blk_drewN ?_ _ | refine blk_drew ?_ | refine blk_alloc ?_ _)); exact BK209.out)) : gb232 ≠ gb209))
                                        have n9_ := Aside0.mk ((by rw [hg]; exact Nat.ne_of_lt (blk_lt (g := gb222) (o := .cells #[.int .i64 x223000_2, .int .i64 x223001_2, .int .i64 x223002_2, .int .i64 x223003_2, .int .i64 x223004_2, .int .i64 x223005_2, .int .u64 x223006_2] 26 (0, 0)) (by (with_reducible repeat (first | refine blk_drewN ?_ _ | refine blk_drew ?_ | refine blk_alloc ?_ _)); exact BK222.out)) : gb222 ≠ gb232))
                                        have n10_ := Aside0.mk ((by rw [hg]; exact Nat.ne_of_gt (blk_lt (g := gb222) (o := .cells #[.int .i64 x223000_2, .int .i64 x223001_2, .int .i64 x223002_2, .int .i64 x223003_2, .int .i64 x223004_2, .int .i64 x223005_2, .int .u64 x223006_2] 26 (0, 0)) (by (with_reducible repeat (first | refine blk_drewN ?_ _ | refine blk_drew ?_ | refine blk_alloc ?_ _)); exact BK222.out)) : gb232 ≠ gb222))
                                        clear HO_4
                                        clear BK209
                                        clear BK222
                                        clear HB
                                        have HO_4 := n0_
                                        have BK209 := n1_
                                        have BK222 := n2_
                                        have HB := n3_
                                        have BK232 := n4_
                                        have GW232 := n5_
                                        have GE232 := n6_
                                        have NB209_232 := n7_
                                        have NB232_209 := n8_
                                        have NB222_232 := n9_
                                        have NB232_222 := n10_
                                        clear n0_ n1_ n2_ n3_ n4_ n5_ n6_ n7_ n8_ n9_ n10_
                                        clear hb hbox hg
                                        refine hK.out _ _ ⟨(blk_cell BK222.out 0).trans rfl, (blk_cell BK222.out 1).trans rfl, (blk_cell BK222.out 2).trans rfl, (blk_cell BK222.out 3).trans rfl, (blk_cell BK222.out 4).trans rfl, (blk_cell BK222.out 5).trans rfl, (blk_cell BK222.out 6).trans rfl, HS7_⟩ (fun hHeld => ?_)
                                        clear hK K
                                        refine norm_ (a' := ?_) ?_ ?_
                                        rotate_left
                                        · show Act.put _ (some 9) _ = _
                                          simp only [Act.put, List.setIfInBounds_toArray, List.set_cons_zero, List.set_cons_succ, i64_w, i32_w]
                                          rfl
                                        exact norm_ (by simp only [putAll, Act.put, List.setIfInBounds_toArray, List.set_cons_zero, List.set_cons_succ]) (hCont (gb232) _ ⟨hHeld, (by (with_reducible repeat (first | apply Kd.R_alloc | apply Kd.R_drewN | apply Kd.R_drew)); exact HO_4.out), (by (with_reducible repeat (first | refine blk_drewN ?_ _ | refine blk_drew ?_ | refine blk_alloc ?_ _)); exact BK209.out), (by (with_reducible repeat (first | refine blk_drewN ?_ _ | refine blk_drew ?_ | refine blk_alloc ?_ _)); exact BK222.out), (by (with_reducible repeat (first | refine blk_drewN ?_ _ | refine blk_drew ?_ | refine blk_alloc ?_ _)); exact BK232.out), GW232.out, GE232.out, NB209_232.out, NB232_209.out, NB222_232.out, NB232_222.out, (by repeat (first | (with_reducible first | exact HB.out | apply below_alloc | apply pw_below_drewN | apply below_drew1 | refine below_set ?_ GE209.out | refine below_set ?_ GE222.out | refine below_set ?_ GE232.out) | exact HB.out))⟩)
                                      · skip
                                        refine box_step ?hg (N := 9) ?hd (cs := #[.int .i64 0, .int .i64 0, .int .i64 0, .int .i64 0, .int .i64 0, .int .i64 0, .int .u64 0]) (t := 26) ?hr ?_; (case hd => rfl); (case hg => rfl); (case hr => first | (go_simp; done) | (go_simp; rfl))
                                        intro gb232 hg w35 hbox hb
                                        have HS7_ := (hb.cell (World.block_lt_of_cell? _ _ (hHeld.2.2.2.2.2.2.2))).trans (hHeld.2.2.2.2.2.2.2)
                                        have n0_ := Aside0.mk (Kd.R_below (by (with_reducible repeat (first | apply Kd.R_alloc | apply Kd.R_drewN | apply Kd.R_drew)); exact HO_4.out) hb)
                                        have n1_ := Aside0.mk (blk_below (g := gb209) (o := .cells #[.int .i64 x210000_2, .int .i64 x210001_2, .int .i64 x210002_2, .int .i64 x210003_2, .int .i64 x210004_2, .int .i64 x210005_2, .int .u64 x210006_2] 26 (0, 0)) (by (with_reducible repeat (first | refine blk_drewN ?_ _ | refine blk_drew ?_ | refine blk_alloc ?_ _)); exact BK209.out) hb)
                                        have n2_ := Aside0.mk (blk_below (g := gb222) (o := .cells #[.int .i64 x223000_2, .int .i64 x223001_2, .int .i64 x223002_2, .int .i64 x223003_2, .int .i64 x223004_2, .int .i64 x223005_2, .int .u64 x223006_2] 26 (0, 0)) (by (with_reducible repeat (first | refine blk_drewN ?_ _ | refine blk_drew ?_ | refine blk_alloc ?_ _)); exact BK222.out) hb)
                                        have n3_ := Aside0.mk (below_step (by repeat (first | (with_reducible first | exact HB.out | apply below_alloc | apply pw_below_drewN | apply below_drew1 | refine below_set ?_ GE209.out | refine below_set ?_ GE222.out) | exact HB.out)) hb)
                                        have n4_ := Aside0.mk (hbox)
                                        have n5_ := Aside0.mk ((by rw [hg]; exact (below_size (by repeat (first | (with_reducible first | exact HB.out | apply below_alloc | apply pw_below_drewN | apply below_drew1 | refine below_set ?_ GE209.out | refine below_set ?_ GE222.out) | exact HB.out))) : w.heap.size ≤ gb232))
                                        have n6_ := Aside0.mk ((by rw [hg]; exact (below_size (by repeat (first | (with_reducible first | exact HB.out | apply below_alloc | apply pw_below_drewN | apply below_drew1 | refine below_set ?_ GE209.out | refine below_set ?_ GE222.out) | exact HB.out))) : w.heap.size ≤ gb232))
                                        have n7_ := Aside0.mk ((by rw [hg]; exact Nat.ne_of_lt (blk_lt (g := gb209) (o := .cells #[.int .i64 x210000_2, .int .i64 x210001_2, .int .i64 x210002_2, .int .i64 x210003_2, .int .i64 x210004_2, .int .i64 x210005_2, .int .u64 x210006_2] 26 (0, 0)) (by (with_reducible repeat (first | refine blk_drewN ?_ _ | refine blk_drew ?_ | refine blk_alloc ?_ _)); exact BK209.out)) : gb209 ≠ gb232))
                                        have n8_ := Aside0.mk ((by rw [hg]; exact Nat.ne_of_gt (blk_lt (g := gb209) (o := .cells #[.int .i64 x210000_2, .int .i64 x210001_2, .int .i64 x210002_2, .int .i64 x210003_2, .int .i64 x210004_2, .int .i64 x210005_2, .int .u64 x210006_2] 26 (0, 0)) (by (with_reducible repeat (first | refine blk_drewN ?_ _ | refine blk_drew ?_ | refine blk_alloc ?_ _)); exact BK209.out)) : gb232 ≠ gb209))
                                        have n9_ := Aside0.mk ((by rw [hg]; exact Nat.ne_of_lt (blk_lt (g := gb222) (o := .cells #[.int .i64 x223000_2, .int .i64 x223001_2, .int .i64 x223002_2, .int .i64 x223003_2, .int .i64 x223004_2, .int .i64 x223005_2, .int .u64 x223006_2] 26 (0, 0)) (by (with_reducible repeat (first | refine blk_drewN ?_ _ | refine blk_drew ?_ | refine blk_alloc ?_ _)); exact BK222.out)) : gb222 ≠ gb232))
                                        have n10_ := Aside0.mk ((by rw [hg]; exact Nat.ne_of_gt (blk_lt (g := gb222) (o := .cells #[.int .i64 x223000_2, .int .i64 x223001_2, .int .i64 x223002_2, .int .i64 x223003_2, .int .i64 x223004_2, .int .i64 x223005_2, .int .u64 x223006_2] 26 (0, 0)) (by (with_reducible repeat (first | refine blk_drewN ?_ _ | refine blk_drew ?_ | refine blk_alloc ?_ _)); exact BK222.out)) : gb232 ≠ gb222))
                                        clear HO_4
                                        clear BK209
                                        clear BK222
                                        clear HB
                                        have HO_4 := n0_
                                        have BK209 := n1_
                                        have BK222 := n2_
                                        have HB := n3_
                                        have BK232 := n4_
                                        have GW232 := n5_
                                        have GE232 := n6_
                                        have NB209_232 := n7_
                                        have NB232_209 := n8_
                                        have NB222_232 := n9_
                                        have NB232_222 := n10_
                                        clear n0_ n1_ n2_ n3_ n4_ n5_ n6_ n7_ n8_ n9_ n10_
                                        clear hb hbox hg
                                        refine hK.out _ _ ⟨(blk_cell BK222.out 0).trans rfl, (blk_cell BK222.out 1).trans rfl, (blk_cell BK222.out 2).trans rfl, (blk_cell BK222.out 3).trans rfl, (blk_cell BK222.out 4).trans rfl, (blk_cell BK222.out 5).trans rfl, (blk_cell BK222.out 6).trans rfl, HS7_⟩ (fun hHeld => ?_)
                                        clear hK K
                                        refine norm_ (a' := ?_) ?_ ?_
                                        rotate_left
                                        · show Act.put _ (some 9) _ = _
                                          simp only [Act.put, List.setIfInBounds_toArray, List.set_cons_zero, List.set_cons_succ, i64_w, i32_w]
                                          rfl
                                        refine one_ (i := 9) (N := some 59) #[true, true, true, true, true, true, true, true, true, true, false, false, false, true, false, false] rfl rfl (one_of HT_.out (by kernel_rfl)) (by decide) (fun K hK => ?_)
                                        refine goes_ Tryd.func27 (by kernel_rfl) rfl #[.agg #[.int .i64 x223000_2, .int .i64 x223001_2, .int .i64 x223002_2, .int .i64 x223003_2, .int .i64 x223004_2, .int .i64 x223005_2, .int .u64 x223006_2], .int .u8 (bt (rdOf ByteArray.empty t218 x5_1) x8_2), .string (rdOf ByteArray.empty t210 (ji29))] (by rfl) rfl rfl (by (try simp only [List.map_toArray, List.map_cons, List.map_nil]); first | done | (simp only [hji29]; rfl) | rfl | (simp only [List.length_drop, List.length_take]; rfl)) ?_
                                        with_reducible refine (turnspitref15_put.calls k2 x223000_2 x223001_2 x223002_2 x223003_2 x223004_2 x223005_2 x223006_2 (bt (rdOf ByteArray.empty t218 x5_1) x8_2) (rdOf ByteArray.empty t210 (ji29)) t224 t225 t226 t227 t228 t229 t230 true _ ?side1 A32.out).mono ?_
                                        (case side1 => first | exact HLd | (refine Ld.below HLd ?_; repeat (first | (with_reducible first | exact HB.out | apply below_alloc | apply pw_below_drewN | apply below_drew1 | refine below_set ?_ GE209.out | refine below_set ?_ GE222.out | refine below_set ?_ GE232.out) | exact HB.out)))
                                        rintro e w36 ⟨rfl, hb⟩
                                        have HS7_ := (hb.cell (World.block_lt_of_cell? _ _ (hHeld.2.2.2.2.2.2.2))).trans (hHeld.2.2.2.2.2.2.2)
                                        refine ⟨_, rfl, ?_⟩
                                        have n0_ := Aside0.mk (Kd.R_below (by (with_reducible repeat (first | apply Kd.R_alloc | apply Kd.R_drewN | apply Kd.R_drew)); exact HO_4.out) hb)
                                        have n1_ := Aside0.mk (blk_below (g := gb209) (o := .cells #[.int .i64 x210000_2, .int .i64 x210001_2, .int .i64 x210002_2, .int .i64 x210003_2, .int .i64 x210004_2, .int .i64 x210005_2, .int .u64 x210006_2] 26 (0, 0)) (by (with_reducible repeat (first | refine blk_drewN ?_ _ | refine blk_drew ?_ | refine blk_alloc ?_ _)); exact BK209.out) hb)
                                        have n2_ := Aside0.mk (blk_below (g := gb222) (o := .cells #[.int .i64 x223000_2, .int .i64 x223001_2, .int .i64 x223002_2, .int .i64 x223003_2, .int .i64 x223004_2, .int .i64 x223005_2, .int .u64 x223006_2] 26 (0, 0)) (by (with_reducible repeat (first | refine blk_drewN ?_ _ | refine blk_drew ?_ | refine blk_alloc ?_ _)); exact BK222.out) hb)
                                        have n3_ := Aside0.mk (blk_below (g := gb232) (o := .cells #[.int .i64 0, .int .i64 0, .int .i64 0, .int .i64 0, .int .i64 0, .int .i64 0, .int .u64 0] 26 (0, 0)) (by (with_reducible repeat (first | refine blk_drewN ?_ _ | refine blk_drew ?_ | refine blk_alloc ?_ _)); exact BK232.out) hb)
                                        have n4_ := Aside0.mk (below_step (by repeat (first | (with_reducible first | exact HB.out | apply below_alloc | apply pw_below_drewN | apply below_drew1 | refine below_set ?_ GE209.out | refine below_set ?_ GE222.out | refine below_set ?_ GE232.out) | exact HB.out)) hb)
                                        clear HO_4
                                        clear BK209
                                        clear BK222
                                        clear BK232
                                        clear HB
                                        have HO_4 := n0_
                                        have BK209 := n1_
                                        have BK222 := n2_
                                        have BK232 := n3_
                                        have HB := n4_
                                        clear n0_ n1_ n2_ n3_ n4_
                                        (try clear hb)
                                        (try clear hb2)
                                        (try clear hk)
                                        (try clear hi)
                                        refine hK.out _ _ ⟨(blk_cell BK222.out 0).trans rfl, (blk_cell BK222.out 1).trans rfl, (blk_cell BK222.out 2).trans rfl, (blk_cell BK222.out 3).trans rfl, (blk_cell BK222.out 4).trans rfl, (blk_cell BK222.out 5).trans rfl, (blk_cell BK222.out 6).trans rfl, HS7_⟩ (fun hHeld => ?_)
                                        clear hK K
                                        refine norm_ (a' := ?_) ?_ ?_
                                        rotate_left
                                        · show Act.put _ (some 59) _ = _
                                          simp only [Act.put, List.setIfInBounds_toArray, List.set_cons_zero, List.set_cons_succ, i64_w, i32_w]
                                          rfl
                                        refine pure_ (i := 10) (N := some 49) (v := ?_) (a' := ?_) #[true, true, true, true, true, true, true, true, true, true, true, false, false, true, false, false] rfl rfl (any_of HT_.out (by kernel_rfl)) (fun _ _ _ h => h) (Or.inl ⟨by rfl, ?_⟩) ?_ ?_
                                        rotate_left
                                        · intro w'
                                          go_simp
                                          with_reducible rfl
                                        rotate_left
                                        · simp only [Act.put, List.setIfInBounds_toArray, List.set_cons_zero, List.set_cons_succ, i64_w, i32_w]
                                          rfl
                                        refine pure_ (i := 11) (N := some 60) (v := ?_) (a' := ?_) #[true, true, true, true, true, true, true, true, true, true, true, true, false, true, false, false] rfl rfl (any_of HT_.out (by kernel_rfl)) (fun _ _ _ h => h) (Or.inl ⟨by rfl, ?_⟩) ?_ ?_
                                        rotate_left
                                        · intro w'
                                          go_simp
                                          with_reducible rfl
                                        rotate_left
                                        · simp only [Act.put, List.setIfInBounds_toArray, List.set_cons_zero, List.set_cons_succ, i64_w, i32_w]
                                          rfl
                                        refine pure_ (i := 12) (N := some 61) (v := ?_) (a' := ?_) #[true, true, true, true, true, true, true, true, true, true, true, true, true, true, false, false] rfl rfl (any_of HT_.out (by kernel_rfl)) (fun _ _ _ h => h) (Or.inl ⟨by rfl, ?_⟩) ?_ ?_
                                        rotate_left
                                        · intro w'
                                          go_simp
                                          with_reducible rfl
                                        rotate_left
                                        · simp only [Act.put, List.setIfInBounds_toArray, List.set_cons_zero, List.set_cons_succ, i64_w, i32_w]
                                          rfl
                                        exact norm_ (by simp only [putAll, Act.put, List.setIfInBounds_toArray, List.set_cons_zero, List.set_cons_succ]) (hCont (gb232) _ ⟨hHeld, (by (with_reducible repeat (first | apply Kd.R_alloc | apply Kd.R_drewN | apply Kd.R_drew)); exact HO_4.out), (by (with_reducible repeat (first | refine blk_drewN ?_ _ | refine blk_drew ?_ | refine blk_alloc ?_ _)); exact BK209.out), (by (with_reducible repeat (first | refine blk_drewN ?_ _ | refine blk_drew ?_ | refine blk_alloc ?_ _)); exact BK222.out), (by (with_reducible repeat (first | refine blk_drewN ?_ _ | refine blk_drew ?_ | refine blk_alloc ?_ _)); exact BK232.out), GW232.out, GE232.out, NB209_232.out, NB232_209.out, NB222_232.out, NB232_222.out, (by repeat (first | (with_reducible first | exact HB.out | apply below_alloc | apply pw_below_drewN | apply below_drew1 | refine below_set ?_ GE209.out | refine below_set ?_ GE222.out | refine below_set ?_ GE232.out) | exact HB.out))⟩)
                                    rintro gb232 w37 ⟨hS_, h0_, h1_, h2_, h3_, h4_, h5_, h6_, h7_, h8_, h9_, h10_⟩
                                    have n0_ : Aside0 (Kd.R Kd.string 9 w37 w.heap.size (fun _ => True) (.slice (some ad217) t210.length co18) t210) := ⟨h0_⟩
                                    have n1_ : Aside0 (w37.heap[gb209]? = some (.cells #[.int .i64 x210000_2, .int .i64 x210001_2, .int .i64 x210002_2, .int .i64 x210003_2, .int .i64 x210004_2, .int .i64 x210005_2, .int .u64 x210006_2] 26 (0, 0))) := ⟨h1_⟩
                                    have n2_ : Aside0 (w37.heap[gb222]? = some (.cells #[.int .i64 x223000_2, .int .i64 x223001_2, .int .i64 x223002_2, .int .i64 x223003_2, .int .i64 x223004_2, .int .i64 x223005_2, .int .u64 x223006_2] 26 (0, 0))) := ⟨h2_⟩
                                    have n3_ : Aside0 (w37.heap[gb232]? = some (.cells #[.int .i64 0, .int .i64 0, .int .i64 0, .int .i64 0, .int .i64 0, .int .i64 0, .int .u64 0] 26 (0, 0))) := ⟨h3_⟩
                                    have n4_ : Aside0 (w.heap.size ≤ gb232) := ⟨h4_⟩
                                    have n5_ : Aside0 (w.heap.size ≤ gb232) := ⟨h5_⟩
                                    have n6_ : Aside0 (gb209 ≠ gb232) := ⟨h6_⟩
                                    have n7_ : Aside0 (gb232 ≠ gb209) := ⟨h7_⟩
                                    have n8_ : Aside0 (gb222 ≠ gb232) := ⟨h8_⟩
                                    have n9_ : Aside0 (gb232 ≠ gb222) := ⟨h9_⟩
                                    have n10_ : Aside0 (Below w.heap.size w w37) := ⟨h10_⟩
                                    clear HO_4
                                    clear BK209
                                    clear BK222
                                    clear HB
                                    clear h0_ h1_ h2_ h3_ h4_ h5_ h6_ h7_ h8_ h9_ h10_
                                    have HO_4 := n0_
                                    have BK209 := n1_
                                    have BK222 := n2_
                                    have BK232 := n3_
                                    have GW232 := n4_
                                    have GE232 := n5_
                                    have NB209_232 := n6_
                                    have NB232_209 := n7_
                                    have NB222_232 := n8_
                                    have NB232_222 := n9_
                                    have HB := n10_
                                    clear n0_ n1_ n2_ n3_ n4_ n5_ n6_ n7_ n8_ n9_ n10_
                                    have hHeld : w37.cell? ⟨gb222, 0, none⟩ = some (.int .i64 x223000_2) ∧ w37.cell? ⟨gb222, 1, none⟩ = some (.int .i64 x223001_2) ∧ w37.cell? ⟨gb222, 2, none⟩ = some (.int .i64 x223002_2) ∧ w37.cell? ⟨gb222, 3, none⟩ = some (.int .i64 x223003_2) ∧ w37.cell? ⟨gb222, 4, none⟩ = some (.int .i64 x223004_2) ∧ w37.cell? ⟨gb222, 5, none⟩ = some (.int .i64 x223005_2) ∧ w37.cell? ⟨gb222, 6, none⟩ = some (.int .u64 x223006_2) ∧ w37.cell? (ad217.add ((ji29)).toNat) = some (.string (rdOf ByteArray.empty t210 (ji29))) := hS_
                                    refine norm_ (a' := ?_) ?_ ?_
                                    rotate_left
                                    · simp only [putAll, Act.put, List.setIfInBounds_toArray, List.set_cons_zero, List.set_cons_succ]
                                      rfl
                                    refine one_ (i := 14) (N := none) #[true, true, true, true, true, true, true, true, true, true, true, true, true, true, true, false] rfl rfl (one_of HT_.out (by kernel_rfl)) (by decide) (fun K hK => ?_)
                                    have hs38 : w37.cell? ⟨gb232, 0, none⟩ = some (.int .i64 0) := (blk_cell BK232.out 0).trans rfl
                                    have hfs38 := blk_frozen BK232.out 0
                                    have hns38_0 := NB209_232.out
                                    have hns38_1 := NB222_232.out
                                    have hms38_0 := NB232_209.out
                                    have hms38_1 := NB232_222.out
                                    have hs39 : w37.cell? ⟨gb232, 1, none⟩ = some (.int .i64 0) := (blk_cell BK232.out 1).trans rfl
                                    have hfs39 := blk_frozen BK232.out 1
                                    have hns39_0 := NB209_232.out
                                    have hns39_1 := NB222_232.out
                                    have hms39_0 := NB232_209.out
                                    have hms39_1 := NB232_222.out
                                    have hs40 : w37.cell? ⟨gb232, 2, none⟩ = some (.int .i64 0) := (blk_cell BK232.out 2).trans rfl
                                    have hfs40 := blk_frozen BK232.out 2
                                    have hns40_0 := NB209_232.out
                                    have hns40_1 := NB222_232.out
                                    have hms40_0 := NB232_209.out
                                    have hms40_1 := NB232_222.out
                                    have hs41 : w37.cell? ⟨gb232, 3, none⟩ = some (.int .i64 0) := (blk_cell BK232.out 3).trans rfl
                                    have hfs41 := blk_frozen BK232.out 3
                                    have hns41_0 := NB209_232.out
                                    have hns41_1 := NB222_232.out
                                    have hms41_0 := NB232_209.out
                                    have hms41_1 := NB232_222.out
                                    have hs42 : w37.cell? ⟨gb232, 4, none⟩ = some (.int .i64 0) := (blk_cell BK232.out 4).trans rfl
                                    have hfs42 := blk_frozen BK232.out 4
                                    have hns42_0 := NB209_232.out
                                    have hns42_1 := NB222_232.out
                                    have hms42_0 := NB232_209.out
                                    have hms42_1 := NB232_222.out
                                    have hs43 : w37.cell? ⟨gb232, 5, none⟩ = some (.int .i64 0) := (blk_cell BK232.out 5).trans rfl
                                    have hfs43 := blk_frozen BK232.out 5
                                    have hns43_0 := NB209_232.out
                                    have hns43_1 := NB222_232.out
                                    have hms43_0 := NB232_209.out
                                    have hms43_1 := NB232_222.out
                                    have hs44 : w37.cell? ⟨gb232, 6, none⟩ = some (.int .u64 0) := (blk_cell BK232.out 6).trans rfl
                                    have hfs44 := blk_frozen BK232.out 6
                                    have hns44_0 := NB209_232.out
                                    have hns44_1 := NB222_232.out
                                    have hms44_0 := NB232_209.out
                                    have hms44_1 := NB232_222.out
                                    refine skip_ (w1 := ?_) (by rfl) rfl ?_ ?_
                                    rotate_left
                                    · go_simp
                                      rfl
                                    refine hK.out _ _ ⟨((cell_far (p := ⟨gb232, _, none⟩) NB222_232.out _).trans (((cell_far (p := ⟨gb232, _, none⟩) NB222_232.out _).trans (((cell_far (p := ⟨gb232, _, none⟩) NB222_232.out _).trans (((cell_far (p := ⟨gb232, _, none⟩) NB222_232.out _).trans (((cell_far (p := ⟨gb232, _, none⟩) NB222_232.out _).trans (((cell_far (p := ⟨gb232, _, none⟩) NB222_232.out _).trans (((cell_far (p := ⟨gb232, _, none⟩) NB222_232.out _).trans (hHeld.1)))))))))))))), ((cell_far (p := ⟨gb232, _, none⟩) NB222_232.out _).trans (((cell_far (p := ⟨gb232, _, none⟩) NB222_232.out _).trans (((cell_far (p := ⟨gb232, _, none⟩) NB222_232.out _).trans (((cell_far (p := ⟨gb232, _, none⟩) NB222_232.out _).trans (((cell_far (p := ⟨gb232, _, none⟩) NB222_232.out _).trans (((cell_far (p := ⟨gb232, _, none⟩) NB222_232.out _).trans (((cell_far (p := ⟨gb232, _, none⟩) NB222_232.out _).trans (hHeld.2.1)))))))))))))), ((cell_far (p := ⟨gb232, _, none⟩) NB222_232.out _).trans (((cell_far (p := ⟨gb232, _, none⟩) NB222_232.out _).trans (((cell_far (p := ⟨gb232, _, none⟩) NB222_232.out _).trans (((cell_far (p := ⟨gb232, _, none⟩) NB222_232.out _).trans (((cell_far (p := ⟨gb232, _, none⟩) NB222_232.out _).trans (((cell_far (p := ⟨gb232, _, none⟩) NB222_232.out _).trans (((cell_far (p := ⟨gb232, _, none⟩) NB222_232.out _).trans (hHeld.2.2.1)))))))))))))), ((cell_far (p := ⟨gb232, _, none⟩) NB222_232.out _).trans (((cell_far (p := ⟨gb232, _, none⟩) NB222_232.out _).trans (((cell_far (p := ⟨gb232, _, none⟩) NB222_232.out _).trans (((cell_far (p := ⟨gb232, _, none⟩) NB222_232.out _).trans (((cell_far (p := ⟨gb232, _, none⟩) NB222_232.out _).trans (((cell_far (p := ⟨gb232, _, none⟩) NB222_232.out _).trans (((cell_far (p := ⟨gb232, _, none⟩) NB222_232.out _).trans (hHeld.2.2.2.1)))))))))))))), ((cell_far (p := ⟨gb232, _, none⟩) NB222_232.out _).trans (((cell_far (p := ⟨gb232, _, none⟩) NB222_232.out _).trans (((cell_far (p := ⟨gb232, _, none⟩) NB222_232.out _).trans (((cell_far (p := ⟨gb232, _, none⟩) NB222_232.out _).trans (((cell_far (p := ⟨gb232, _, none⟩) NB222_232.out _).trans (((cell_far (p := ⟨gb232, _, none⟩) NB222_232.out _).trans (((cell_far (p := ⟨gb232, _, none⟩) NB222_232.out _).trans (hHeld.2.2.2.2.1)))))))))))))), ((cell_far (p := ⟨gb232, _, none⟩) NB222_232.out _).trans (((cell_far (p := ⟨gb232, _, none⟩) NB222_232.out _).trans (((cell_far (p := ⟨gb232, _, none⟩) NB222_232.out _).trans (((cell_far (p := ⟨gb232, _, none⟩) NB222_232.out _).trans (((cell_far (p := ⟨gb232, _, none⟩) NB222_232.out _).trans (((cell_far (p := ⟨gb232, _, none⟩) NB222_232.out _).trans (((cell_far (p := ⟨gb232, _, none⟩) NB222_232.out _).trans (hHeld.2.2.2.2.2.1)))))))))))))), ((cell_far (p := ⟨gb232, _, none⟩) NB222_232.out _).trans (((cell_far (p := ⟨gb232, _, none⟩) NB222_232.out _).trans (((cell_far (p := ⟨gb232, _, none⟩) NB222_232.out _).trans (((cell_far (p := ⟨gb232, _, none⟩) NB222_232.out _).trans (((cell_far (p := ⟨gb232, _, none⟩) NB222_232.out _).trans (((cell_far (p := ⟨gb232, _, none⟩) NB222_232.out _).trans (((cell_far (p := ⟨gb232, _, none⟩) NB222_232.out _).trans (hHeld.2.2.2.2.2.2.1)))))))))))))), ((cell_far (p := ⟨gb232, _, none⟩) (by first | exact Kd.own_blk (Kd.R_ne HO_4.out BK232.out (by decide)) | (rw [add_block]; exact Kd.own_blk (Kd.R_ne HO_4.out BK232.out (by decide))) | (show (Addr.add _ _).block ≠ _; rw [add_block]; exact Kd.own_blk (Kd.R_ne HO_4.out BK232.out (by decide))) | (dsimp only; exact Kd.own_blk (Kd.R_ne HO_4.out BK232.out (by decide)))) _).trans (((cell_far (p := ⟨gb232, _, none⟩) (by first | exact Kd.own_blk (Kd.R_ne HO_4.out BK232.out (by decide)) | (rw [add_block]; exact Kd.own_blk (Kd.R_ne HO_4.out BK232.out (by decide))) | (show (Addr.add _ _).block ≠ _; rw [add_block]; exact Kd.own_blk (Kd.R_ne HO_4.out BK232.out (by decide))) | (dsimp only; exact Kd.own_blk (Kd.R_ne HO_4.out BK232.out (by decide)))) _).trans (((cell_far (p := ⟨gb232, _, none⟩) (by first | exact Kd.own_blk (Kd.R_ne HO_4.out BK232.out (by decide)) | (rw [add_block]; exact Kd.own_blk (Kd.R_ne HO_4.out BK232.out (by decide))) | (show (Addr.add _ _).block ≠ _; rw [add_block]; exact Kd.own_blk (Kd.R_ne HO_4.out BK232.out (by decide))) | (dsimp only; exact Kd.own_blk (Kd.R_ne HO_4.out BK232.out (by decide)))) _).trans (((cell_far (p := ⟨gb232, _, none⟩) (by first | exact Kd.own_blk (Kd.R_ne HO_4.out BK232.out (by decide)) | (rw [add_block]; exact Kd.own_blk (Kd.R_ne HO_4.out BK232.out (by decide))) | (show (Addr.add _ _).block ≠ _; rw [add_block]; exact Kd.own_blk (Kd.R_ne HO_4.out BK232.out (by decide))) | (dsimp only; exact Kd.own_blk (Kd.R_ne HO_4.out BK232.out (by decide)))) _).trans (((cell_far (p := ⟨gb232, _, none⟩) (by first | exact Kd.own_blk (Kd.R_ne HO_4.out BK232.out (by decide)) | (rw [add_block]; exact Kd.own_blk (Kd.R_ne HO_4.out BK232.out (by decide))) | (show (Addr.add _ _).block ≠ _; rw [add_block]; exact Kd.own_blk (Kd.R_ne HO_4.out BK232.out (by decide))) | (dsimp only; exact Kd.own_blk (Kd.R_ne HO_4.out BK232.out (by decide)))) _).trans (((cell_far (p := ⟨gb232, _, none⟩) (by first | exact Kd.own_blk (Kd.R_ne HO_4.out BK232.out (by decide)) | (rw [add_block]; exact Kd.own_blk (Kd.R_ne HO_4.out BK232.out (by decide))) | (show (Addr.add _ _).block ≠ _; rw [add_block]; exact Kd.own_blk (Kd.R_ne HO_4.out BK232.out (by decide))) | (dsimp only; exact Kd.own_blk (Kd.R_ne HO_4.out BK232.out (by decide)))) _).trans (((cell_far (p := ⟨gb232, _, none⟩) (by first | exact Kd.own_blk (Kd.R_ne HO_4.out BK232.out (by decide)) | (rw [add_block]; exact Kd.own_blk (Kd.R_ne HO_4.out BK232.out (by decide))) | (show (Addr.add _ _).block ≠ _; rw [add_block]; exact Kd.own_blk (Kd.R_ne HO_4.out BK232.out (by decide))) | (dsimp only; exact Kd.own_blk (Kd.R_ne HO_4.out BK232.out (by decide)))) _).trans (hHeld.2.2.2.2.2.2.2))))))))))))))⟩ (fun hHeld => ?_)
                                    clear hK K
                                    refine pure_ (i := 15) (N := some 10) (v := ?_) (a' := ?_) #[true, true, true, true, true, true, true, true, true, true, true, true, true, true, true, true] rfl rfl (any_of HT_.out (by kernel_rfl)) (fun _ _ _ h => h) (Or.inl ⟨by rfl, ?_⟩) ?_ ?_
                                    rotate_left
                                    · intro w'
                                      go_simp
                                      with_reducible rfl
                                    rotate_left
                                    · simp only [Act.put, List.setIfInBounds_toArray, List.set_cons_zero, List.set_cons_succ, i64_w, i32_w]
                                      rfl
                                    refine done_ (done_of HT_.out (by kernel_rfl)) ?_
                                    have hnb45 := NB232_209.out
                                    have hnc45 := NB209_232.out
                                    have hnb46 := NB232_222.out
                                    have hnc46 := NB222_232.out
                                    have hcz47_0 : w37.cell? ⟨gb232, 0, none⟩ = some (.int .i64 0) := (blk_cell BK232.out 0).trans rfl
                                    have hcz47_1 : w37.cell? ⟨gb232, 1, none⟩ = some (.int .i64 0) := (blk_cell BK232.out 1).trans rfl
                                    have hcz47_2 : w37.cell? ⟨gb232, 2, none⟩ = some (.int .i64 0) := (blk_cell BK232.out 2).trans rfl
                                    have hcz47_3 : w37.cell? ⟨gb232, 3, none⟩ = some (.int .i64 0) := (blk_cell BK232.out 3).trans rfl
                                    have hcz47_4 : w37.cell? ⟨gb232, 4, none⟩ = some (.int .i64 0) := (blk_cell BK232.out 4).trans rfl
                                    have hcz47_5 : w37.cell? ⟨gb232, 5, none⟩ = some (.int .i64 0) := (blk_cell BK232.out 5).trans rfl
                                    have hcz47_6 : w37.cell? ⟨gb232, 6, none⟩ = some (.int .u64 0) := (blk_cell BK232.out 6).trans rfl
                                    have hfz47_0 := blk_frozen BK232.out 0
                                    have hfz47_1 := blk_frozen BK232.out 1
                                    have hfz47_2 := blk_frozen BK232.out 2
                                    have hfz47_3 := blk_frozen BK232.out 3
                                    have hfz47_4 := blk_frozen BK232.out 4
                                    have hfz47_5 := blk_frozen BK232.out 5
                                    have hfz47_6 := blk_frozen BK232.out 6
                                    have hnb48 := NB222_209.out
                                    have hnc48 := NB209_222.out
                                    have hcz49_0 : w37.cell? ⟨gb222, 0, none⟩ = some (.int .i64 x223000_2) := (blk_cell BK222.out 0).trans rfl
                                    have hcz49_1 : w37.cell? ⟨gb222, 1, none⟩ = some (.int .i64 x223001_2) := (blk_cell BK222.out 1).trans rfl
                                    have hcz49_2 : w37.cell? ⟨gb222, 2, none⟩ = some (.int .i64 x223002_2) := (blk_cell BK222.out 2).trans rfl
                                    have hcz49_3 : w37.cell? ⟨gb222, 3, none⟩ = some (.int .i64 x223003_2) := (blk_cell BK222.out 3).trans rfl
                                    have hcz49_4 : w37.cell? ⟨gb222, 4, none⟩ = some (.int .i64 x223004_2) := (blk_cell BK222.out 4).trans rfl
                                    have hcz49_5 : w37.cell? ⟨gb222, 5, none⟩ = some (.int .i64 x223005_2) := (blk_cell BK222.out 5).trans rfl
                                    have hcz49_6 : w37.cell? ⟨gb222, 6, none⟩ = some (.int .u64 x223006_2) := (blk_cell BK222.out 6).trans rfl
                                    have hfz49_0 := blk_frozen BK222.out 0
                                    have hfz49_1 := blk_frozen BK222.out 1
                                    have hfz49_2 := blk_frozen BK222.out 2
                                    have hfz49_3 := blk_frozen BK222.out 3
                                    have hfz49_4 := blk_frozen BK222.out 4
                                    have hfz49_5 := blk_frozen BK222.out 5
                                    have hfz49_6 := blk_frozen BK222.out 6
                                    try go_wp2
                                    go_roundg k2
                                    case measure => have := HK1.out; have := HK2.out; omega
                                    case rel => exact ⟨(ji29), (x210000_2), (x210001_2), (x210002_2), (x210003_2), (x210004_2), (x210005_2), (x210006_2), (t224), (t225), (t226), (t227), (t228), (t229), (t230), (by first | rfl | (simp; done) | (simp only [← hji29] <;> (first | rfl | simp)) | (simp [*]; done)), H', ⟨by have := HK1.out; have := HK2.out; omega⟩, ⟨by (with_reducible repeat (first | apply Kd.R_alloc | apply Kd.R_drewN | apply Kd.R_drew)); exact Kd.R_mono (Kd.R_far (p := ⟨gb222, 6, none⟩) (Kd.R_far (p := ⟨gb222, 5, none⟩) (Kd.R_far (p := ⟨gb222, 4, none⟩) (Kd.R_far (p := ⟨gb222, 3, none⟩) (Kd.R_far (p := ⟨gb222, 2, none⟩) (Kd.R_far (p := ⟨gb222, 1, none⟩) (Kd.R_far (p := ⟨gb222, 0, none⟩) (Kd.R_far (p := ⟨gb232, 6, none⟩) (Kd.R_far (p := ⟨gb232, 5, none⟩) (Kd.R_far (p := ⟨gb232, 4, none⟩) (Kd.R_far (p := ⟨gb232, 3, none⟩) (Kd.R_far (p := ⟨gb232, 2, none⟩) (Kd.R_far (p := ⟨gb232, 1, none⟩) (Kd.R_far (p := ⟨gb232, 0, none⟩) (Kd.R_types (Kd.R_types HO_4.out BK232.out (by decide)) BK222.out (by decide)) (fun _ hk => hk.1.2) (.int .i64 t224)) (fun _ hk => hk.1.2) (.int .i64 t225)) (fun _ hk => hk.1.2) (.int .i64 t226)) (fun _ hk => hk.1.2) (.int .i64 t227)) (fun _ hk => hk.1.2) (.int .i64 t228)) (fun _ hk => hk.1.2) (.int .i64 t229)) (fun _ hk => hk.1.2) (.int .u64 t230)) (fun _ hk => hk.2) (.int .i64 t224)) (fun _ hk => hk.2) (.int .i64 t225)) (fun _ hk => hk.2) (.int .i64 t226)) (fun _ hk => hk.2) (.int .i64 t227)) (fun _ hk => hk.2) (.int .i64 t228)) (fun _ hk => hk.2) (.int .i64 t229)) (fun _ hk => hk.2) (.int .u64 t230)) (fun _ hk => trivial)⟩, ⟨by (with_reducible repeat (first | refine blk_drewN ?_ _ | refine blk_drew ?_ | refine blk_alloc ?_ _)); refine blk_far ?_ NB209_222.out _; (with_reducible repeat (first | refine blk_drewN ?_ _ | refine blk_drew ?_ | refine blk_alloc ?_ _)); refine blk_far ?_ NB209_222.out _; (with_reducible repeat (first | refine blk_drewN ?_ _ | refine blk_drew ?_ | refine blk_alloc ?_ _)); refine blk_far ?_ NB209_222.out _; (with_reducible repeat (first | refine blk_drewN ?_ _ | refine blk_drew ?_ | refine blk_alloc ?_ _)); refine blk_far ?_ NB209_222.out _; (with_reducible repeat (first | refine blk_drewN ?_ _ | refine blk_drew ?_ | refine blk_alloc ?_ _)); refine blk_far ?_ NB209_222.out _; (with_reducible repeat (first | refine blk_drewN ?_ _ | refine blk_drew ?_ | refine blk_alloc ?_ _)); refine blk_far ?_ NB209_222.out _; (with_reducible repeat (first | refine blk_drewN ?_ _ | refine blk_drew ?_ | refine blk_alloc ?_ _)); refine blk_far ?_ NB209_222.out _; (with_reducible repeat (first | refine blk_drewN ?_ _ | refine blk_drew ?_ | refine blk_alloc ?_ _)); refine blk_far ?_ NB209_232.out _; (with_reducible repeat (first | refine blk_drewN ?_ _ | refine blk_drew ?_ | refine blk_alloc ?_ _)); refine blk_far ?_ NB209_232.out _; (with_reducible repeat (first | refine blk_drewN ?_ _ | refine blk_drew ?_ | refine blk_alloc ?_ _)); refine blk_far ?_ NB209_232.out _; (with_reducible repeat (first | refine blk_drewN ?_ _ | refine blk_drew ?_ | refine blk_alloc ?_ _)); refine blk_far ?_ NB209_232.out _; (with_reducible repeat (first | refine blk_drewN ?_ _ | refine blk_drew ?_ | refine blk_alloc ?_ _)); refine blk_far ?_ NB209_232.out _; (with_reducible repeat (first | refine blk_drewN ?_ _ | refine blk_drew ?_ | refine blk_alloc ?_ _)); refine blk_far ?_ NB209_232.out _; (with_reducible repeat (first | refine blk_drewN ?_ _ | refine blk_drew ?_ | refine blk_alloc ?_ _)); refine blk_far ?_ NB209_232.out _; (with_reducible repeat (first | refine blk_drewN ?_ _ | refine blk_drew ?_ | refine blk_alloc ?_ _)); exact BK209.out⟩, ⟨by (with_reducible repeat (first | refine blk_drewN ?_ _ | refine blk_drew ?_ | refine blk_alloc ?_ _)); refine blk_put (cs := #[.int .i64 t224, .int .i64 t225, .int .i64 t226, .int .i64 t227, .int .i64 t228, .int .i64 t229, .int .u64 x223006_2]) ?_ 6 _ (by first | rfl | simp [*]); (with_reducible repeat (first | refine blk_drewN ?_ _ | refine blk_drew ?_ | refine blk_alloc ?_ _)); refine blk_put (cs := #[.int .i64 t224, .int .i64 t225, .int .i64 t226, .int .i64 t227, .int .i64 t228, .int .i64 x223005_2, .int .u64 x223006_2]) ?_ 5 _ (by first | rfl | simp [*]); (with_reducible repeat (first | refine blk_drewN ?_ _ | refine blk_drew ?_ | refine blk_alloc ?_ _)); refine blk_put (cs := #[.int .i64 t224, .int .i64 t225, .int .i64 t226, .int .i64 t227, .int .i64 x223004_2, .int .i64 x223005_2, .int .u64 x223006_2]) ?_ 4 _ (by first | rfl | simp [*]); (with_reducible repeat (first | refine blk_drewN ?_ _ | refine blk_drew ?_ | refine blk_alloc ?_ _)); refine blk_put (cs := #[.int .i64 t224, .int .i64 t225, .int .i64 t226, .int .i64 x223003_2, .int .i64 x223004_2, .int .i64 x223005_2, .int .u64 x223006_2]) ?_ 3 _ (by first | rfl | simp [*]); (with_reducible repeat (first | refine blk_drewN ?_ _ | refine blk_drew ?_ | refine blk_alloc ?_ _)); refine blk_put (cs := #[.int .i64 t224, .int .i64 t225, .int .i64 x223002_2, .int .i64 x223003_2, .int .i64 x223004_2, .int .i64 x223005_2, .int .u64 x223006_2]) ?_ 2 _ (by first | rfl | simp [*]); (with_reducible repeat (first | refine blk_drewN ?_ _ | refine blk_drew ?_ | refine blk_alloc ?_ _)); refine blk_put (cs := #[.int .i64 t224, .int .i64 x223001_2, .int .i64 x223002_2, .int .i64 x223003_2, .int .i64 x223004_2, .int .i64 x223005_2, .int .u64 x223006_2]) ?_ 1 _ (by first | rfl | simp [*]); (with_reducible repeat (first | refine blk_drewN ?_ _ | refine blk_drew ?_ | refine blk_alloc ?_ _)); refine blk_put (cs := #[.int .i64 x223000_2, .int .i64 x223001_2, .int .i64 x223002_2, .int .i64 x223003_2, .int .i64 x223004_2, .int .i64 x223005_2, .int .u64 x223006_2]) ?_ 0 _ (by first | rfl | simp [*]); (with_reducible repeat (first | refine blk_drewN ?_ _ | refine blk_drew ?_ | refine blk_alloc ?_ _)); refine blk_far ?_ NB222_232.out _; (with_reducible repeat (first | refine blk_drewN ?_ _ | refine blk_drew ?_ | refine blk_alloc ?_ _)); refine blk_far ?_ NB222_232.out _; (with_reducible repeat (first | refine blk_drewN ?_ _ | refine blk_drew ?_ | refine blk_alloc ?_ _)); refine blk_far ?_ NB222_232.out _; (with_reducible repeat (first | refine blk_drewN ?_ _ | refine blk_drew ?_ | refine blk_alloc ?_ _)); refine blk_far ?_ NB222_232.out _; (with_reducible repeat (first | refine blk_drewN ?_ _ | refine blk_drew ?_ | refine blk_alloc ?_ _)); refine blk_far ?_ NB222_232.out _; (with_reducible repeat (first | refine blk_drewN ?_ _ | refine blk_drew ?_ | refine blk_alloc ?_ _)); refine blk_far ?_ NB222_232.out _; (with_reducible repeat (first | refine blk_drewN ?_ _ | refine blk_drew ?_ | refine blk_alloc ?_ _)); refine blk_far ?_ NB222_232.out _; (with_reducible repeat (first | refine blk_drewN ?_ _ | refine blk_drew ?_ | refine blk_alloc ?_ _)); exact BK222.out⟩, ⟨by repeat (first | (with_reducible first | exact HB.out | apply below_alloc | apply pw_below_drewN | apply below_drew1 | refine below_set ?_ GE209.out | refine below_set ?_ GE222.out | refine below_set ?_ GE232.out) | exact HB.out)⟩⟩
                                  · replace c33 := Bool.eq_false_iff.mpr c33
                                    subst c33
                                    have H1 : (some (0, 0, 0, 0, 0, 0, 0, 3)) = some (r1, r2, r3, r4, r5, r6, r7, r8) := by rw [if_neg (show ¬ (false = true) by decide)] at H; exact H
                                    clear H
                                    have H := H1
                                    clear H1
                                    simp only [Option.some.injEq, Prod.mk.injEq] at H
                                    obtain ⟨rfl, rfl, rfl, rfl, rfl, rfl, rfl, rfl⟩ := H
                                    try go_wp2
                                    have n0_ := Aside0.mk (Kd.R_drew HO_4.out)
                                    have n1_ := Aside0.mk (blk_drew BK209.out)
                                    have n2_ := Aside0.mk (blk_drew BK222.out)
                                    have n3_ := Aside0.mk (below_drew1 HB.out)
                                    clear HO_4
                                    clear BK209
                                    clear BK222
                                    clear HB
                                    have HO_4 := n0_
                                    have BK209 := n1_
                                    have BK222 := n2_
                                    have HB := n3_
                                    clear n0_ n1_ n2_ n3_
                                    have p28 : 0 ≤ (x8_2 : Int) := of_decide_eq_true (by first | (with_reducible assumption) | assumption)
                                    have q28 : x8_2 < ((rdOf ByteArray.empty t218 x5_1).size : Int) := of_decide_eq_true (by first | (with_reducible assumption) | assumption)
                                    have hx28 := bt_at (rdOf ByteArray.empty t218 x5_1) x8_2
                                    replace p28 := eq_true p28
                                    replace q28 := eq_true q28
                                    have p223 : 0 ≤ ((ji29) : Int) := of_decide_eq_true (by first | (with_reducible assumption) | assumption)
                                    have q223 : (ji29) < (t210.length : Int) := of_decide_eq_true (by first | (with_reducible assumption) | assumption)
                                    obtain ⟨ad223, e223, hx223_0⟩ := Kd.at_string (Kd.R_reads' HO_4.out).2.2 (ji29) p223 q223
                                    obtain rfl : ad217 = ad223 := (by injection e223)
                                    replace p223 := eq_true p223
                                    replace q223 := eq_true q223
                                    refine start_ (n := 16) (S := fun w' => w'.cell? ⟨gb222, 0, none⟩ = some (.int .i64 x223000_2) ∧ w'.cell? ⟨gb222, 1, none⟩ = some (.int .i64 x223001_2) ∧ w'.cell? ⟨gb222, 2, none⟩ = some (.int .i64 x223002_2) ∧ w'.cell? ⟨gb222, 3, none⟩ = some (.int .i64 x223003_2) ∧ w'.cell? ⟨gb222, 4, none⟩ = some (.int .i64 x223004_2) ∧ w'.cell? ⟨gb222, 5, none⟩ = some (.int .i64 x223005_2) ∧ w'.cell? ⟨gb222, 6, none⟩ = some (.int .u64 x223006_2) ∧ w'.cell? (ad217.add ((ji29)).toNat) = some (.string (rdOf ByteArray.empty t210 (ji29)))) (ds := []) #[false, false, false, false, false, false, false, false, false, false, false, false, false, false, false, false] (by kernel_rfl) rfl rfl ⟨(blk_cell BK222.out 0).trans rfl, (blk_cell BK222.out 1).trans rfl, (blk_cell BK222.out 2).trans rfl, (blk_cell BK222.out 3).trans rfl, (blk_cell BK222.out 4).trans rfl, (blk_cell BK222.out 5).trans rfl, (blk_cell BK222.out 6).trans rfl, hx223_0⟩ (fun hHeld => ?_); refine with_tabW turnspitref15_Parse.tab15 turnspitref15_Parse.bits15 (fun HT_ HW_ => ?_)
                                    generalize wr.drew = w50 at HO_4 BK209 BK222 HB hx223_0 hHeld ⊢
                                    refine pure_ (i := 1) (N := some 51) (v := ?_) (a' := ?_) #[false, true, false, false, false, false, false, false, false, false, false, false, false, false, false, false] rfl rfl (any_of HT_.out (by kernel_rfl)) (fun _ _ _ h => h) (Or.inl ⟨by rfl, ?_⟩) ?_ ?_
                                    rotate_left
                                    · intro w'
                                      go_simp
                                      with_reducible rfl
                                    rotate_left
                                    · simp only [Act.put, List.setIfInBounds_toArray, List.set_cons_zero, List.set_cons_succ, i64_w, i32_w]
                                      rfl
                                    refine pure_ (i := 2) (N := some 52) (v := ?_) (a' := ?_) #[false, true, true, false, false, false, false, false, false, false, false, false, false, false, false, false] rfl rfl (any_of HT_.out (by kernel_rfl)) (fun _ _ _ h => h) (Or.inl ⟨by rfl, ?_⟩) ?_ ?_
                                    rotate_left
                                    · intro w'
                                      go_simp
                                      with_reducible rfl
                                    rotate_left
                                    · simp only [Act.put, List.setIfInBounds_toArray, List.set_cons_zero, List.set_cons_succ, i64_w, i32_w]
                                      rfl
                                    refine pure_ (i := 4) (N := some 54) (v := ?_) (a' := ?_) #[false, true, true, false, true, false, false, false, false, false, false, false, false, false, false, false] rfl rfl (any_of HT_.out (by kernel_rfl)) (fun _ _ _ h => h) (Or.inl ⟨by rfl, ?_⟩) ?_ ?_
                                    rotate_left
                                    · intro w'
                                      go_simp
                                      with_reducible rfl
                                    rotate_left
                                    · simp only [Act.put, List.setIfInBounds_toArray, List.set_cons_zero, List.set_cons_succ, i64_w, i32_w]
                                      rfl
                                    refine pure_ (i := 5) (N := some 55) (v := ?_) (a' := ?_) #[false, true, true, false, true, true, false, false, false, false, false, false, false, false, false, false] rfl rfl (any_of HT_.out (by kernel_rfl)) (fun _ _ _ h => h) (Or.inl ⟨by rfl, ?_⟩) ?_ ?_
                                    rotate_left
                                    · intro w'
                                      go_simp
                                      with_reducible rfl
                                    rotate_left
                                    · simp only [Act.put, List.setIfInBounds_toArray, List.set_cons_zero, List.set_cons_succ, i64_w, i32_w]
                                      rfl
                                    refine pure_ (i := 6) (N := some 56) (v := ?_) (a' := ?_) #[false, true, true, false, true, true, true, false, false, false, false, false, false, false, false, false] rfl rfl (any_of HT_.out (by kernel_rfl)) (fun _ _ _ h => h) (Or.inl ⟨by rfl, ?_⟩) ?_ ?_
                                    rotate_left
                                    · intro w'
                                      go_simp
                                      with_reducible rfl
                                    rotate_left
                                    · simp only [Act.put, List.setIfInBounds_toArray, List.set_cons_zero, List.set_cons_succ, i64_w, i32_w]
                                      rfl
                                    refine pure_ (i := 7) (N := some 57) (v := ?_) (a' := ?_) #[false, true, true, false, true, true, true, true, false, false, false, false, false, false, false, false] rfl rfl (any_of HT_.out (by kernel_rfl)) (fun _ _ _ h => h) (Or.inl ⟨by rfl, ?_⟩) ?_ ?_
                                    rotate_left
                                    · intro w'
                                      go_simp
                                      with_reducible rfl
                                    rotate_left
                                    · simp only [Act.put, List.setIfInBounds_toArray, List.set_cons_zero, List.set_cons_succ, i64_w, i32_w]
                                      rfl
                                    refine take_ (i := 0) (N := some 50) (v := ?_) (a' := ?_) #[true, true, true, false, true, true, true, true, false, false, false, false, false, false, false, false] rfl rfl (take_ofW HT_.out HW_.out (by kernel_rfl)) (fun _ _ _ h => h) (Or.inl ⟨by rfl, ?_⟩) hHeld ?_ ?_
                                    rotate_left
                                    · rintro w' ⟨s0, s1, s2, s3, s4, s5, s6, s7⟩
                                      go_simp
                                      with_reducible rfl
                                    rotate_left
                                    · simp only [Act.put, List.setIfInBounds_toArray, List.set_cons_zero, List.set_cons_succ, i64_w, i32_w]
                                      rfl
                                    refine take_ (i := 3) (N := some 53) (v := ?_) (a' := ?_) #[true, true, true, true, true, true, true, true, false, false, false, false, false, false, false, false] rfl rfl (take_ofW HT_.out HW_.out (by kernel_rfl)) (fun _ _ _ h => h) (Or.inl ⟨by rfl, ?_⟩) hHeld ?_ ?_
                                    rotate_left
                                    · rintro w' ⟨s0, s1, s2, s3, s4, s5, s6, s7⟩
                                      go_simp
                                      with_reducible rfl
                                    rotate_left
                                    · simp only [Act.put, List.setIfInBounds_toArray, List.set_cons_zero, List.set_cons_succ, i64_w, i32_w]
                                      rfl
                                    refine take_ (i := 8) (N := some 58) (v := ?_) (a' := ?_) #[true, true, true, true, true, true, true, true, true, false, false, false, false, false, false, false] rfl rfl (take_ofW HT_.out HW_.out (by kernel_rfl)) (fun _ _ _ h => h) (Or.inl ⟨by rfl, ?_⟩) hHeld ?_ ?_
                                    rotate_left
                                    · rintro w' ⟨s0, s1, s2, s3, s4, s5, s6, s7⟩
                                      go_simp
                                      with_reducible rfl
                                    rotate_left
                                    · simp only [Act.put, List.setIfInBounds_toArray, List.set_cons_zero, List.set_cons_succ, i64_w, i32_w]
                                      rfl
                                    refine join_ (σ := Nat) 2 #[true, true, true, true, true, true, true, true, true, true, true, true, true, true, false, false] (fun s_ => [(59, .tuple #[.agg #[.int .i64 t224, .int .i64 t225, .int .i64 t226, .int .i64 t227, .int .i64 t228, .int .i64 t229, .int .u64 t230], .bool false]), (9, .pointer (some ⟨s_, 0, none⟩)), (49, .tuple #[.agg #[.int .i64 t224, .int .i64 t225, .int .i64 t226, .int .i64 t227, .int .i64 t228, .int .i64 t229, .int .u64 t230], .bool false]), (60, .agg #[.int .i64 t224, .int .i64 t225, .int .i64 t226, .int .i64 t227, .int .i64 t228, .int .i64 t229, .int .u64 t230]), (61, .bool false)]) (fun s_ w' => (w'.cell? ⟨gb222, 0, none⟩ = some (.int .i64 x223000_2) ∧ w'.cell? ⟨gb222, 1, none⟩ = some (.int .i64 x223001_2) ∧ w'.cell? ⟨gb222, 2, none⟩ = some (.int .i64 x223002_2) ∧ w'.cell? ⟨gb222, 3, none⟩ = some (.int .i64 x223003_2) ∧ w'.cell? ⟨gb222, 4, none⟩ = some (.int .i64 x223004_2) ∧ w'.cell? ⟨gb222, 5, none⟩ = some (.int .i64 x223005_2) ∧ w'.cell? ⟨gb222, 6, none⟩ = some (.int .u64 x223006_2) ∧ w'.cell? (ad217.add ((ji29)).toNat) = some (.string (rdOf ByteArray.empty t210 (ji29)))) ∧ (Kd.R Kd.string 9 w' w.heap.size (fun _ => True) (.slice (some ad217) t210.length co18) t210) ∧ (w'.heap[gb209]? = some (.cells #[.int .i64 x210000_2, .int .i64 x210001_2, .int .i64 x210002_2, .int .i64 x210003_2, .int .i64 x210004_2, .int .i64 x210005_2, .int .u64 x210006_2] 26 (0, 0))) ∧ (w'.heap[gb222]? = some (.cells #[.int .i64 x223000_2, .int .i64 x223001_2, .int .i64 x223002_2, .int .i64 x223003_2, .int .i64 x223004_2, .int .i64 x223005_2, .int .u64 x223006_2] 26 (0, 0))) ∧ (w'.heap[s_]? = some (.cells #[.int .i64 0, .int .i64 0, .int .i64 0, .int .i64 0, .int .i64 0, .int .i64 0, .int .u64 0] 26 (0, 0))) ∧ (w.heap.size ≤ s_) ∧ (w.heap.size ≤ s_) ∧ (gb209 ≠ s_) ∧ (s_ ≠ gb209) ∧ (gb222 ≠ s_) ∧ (s_ ≠ gb222) ∧ (Below w.heap.size w w')) ?_ ?_
                                    rotate_left
                                    · intro hCont
                                      refine two_ (i := 9) (j := 13) (Ni := some 59) (Nj := some 9) #[true, true, true, true, true, true, true, true, true, true, false, false, false, false, false, false] #[true, true, true, true, true, true, true, true, true, false, false, false, false, true, false, false] rfl rfl rfl rfl (two_of HT_.out (by kernel_rfl)) (by decide) (by decide) (fun K hK => ?_) (fun K hK => ?_)
                                      · skip
                                        refine goes_ Tryd.func27 (by kernel_rfl) rfl #[.agg #[.int .i64 x223000_2, .int .i64 x223001_2, .int .i64 x223002_2, .int .i64 x223003_2, .int .i64 x223004_2, .int .i64 x223005_2, .int .u64 x223006_2], .int .u8 (bt (rdOf ByteArray.empty t218 x5_1) x8_2), .string (rdOf ByteArray.empty t210 (ji29))] (by rfl) rfl rfl (by (try simp only [List.map_toArray, List.map_cons, List.map_nil]); first | done | (simp only [hji29]; rfl) | rfl | (simp only [List.length_drop, List.length_take]; rfl)) ?_
                                        with_reducible refine (turnspitref15_put.calls k2 x223000_2 x223001_2 x223002_2 x223003_2 x223004_2 x223005_2 x223006_2 (bt (rdOf ByteArray.empty t218 x5_1) x8_2) (rdOf ByteArray.empty t210 (ji29)) t224 t225 t226 t227 t228 t229 t230 false _ ?side1 A32.out).mono ?_
                                        (case side1 => first | exact HLd | (refine Ld.below HLd ?_; repeat (first | (with_reducible first | exact HB.out | apply below_alloc | apply pw_below_drewN | apply below_drew1 | refine below_set ?_ GE209.out | refine below_set ?_ GE222.out) | exact HB.out)))
                                        rintro e w51 ⟨rfl, hb⟩
                                        have HS7_ := (hb.cell (World.block_lt_of_cell? _ _ (hHeld.2.2.2.2.2.2.2))).trans (hHeld.2.2.2.2.2.2.2)
                                        refine ⟨_, rfl, ?_⟩
                                        have n0_ := Aside0.mk (Kd.R_below (by (with_reducible repeat (first | apply Kd.R_alloc | apply Kd.R_drewN | apply Kd.R_drew)); exact HO_4.out) hb)
                                        have n1_ := Aside0.mk (blk_below (g := gb209) (o := .cells #[.int .i64 x210000_2, .int .i64 x210001_2, .int .i64 x210002_2, .int .i64 x210003_2, .int .i64 x210004_2, .int .i64 x210005_2, .int .u64 x210006_2] 26 (0, 0)) (by (with_reducible repeat (first | refine blk_drewN ?_ _ | refine blk_drew ?_ | refine blk_alloc ?_ _)); exact BK209.out) hb)
                                        have n2_ := Aside0.mk (blk_below (g := gb222) (o := .cells #[.int .i64 x223000_2, .int .i64 x223001_2, .int .i64 x223002_2, .int .i64 x223003_2, .int .i64 x223004_2, .int .i64 x223005_2, .int .u64 x223006_2] 26 (0, 0)) (by (with_reducible repeat (first | refine blk_drewN ?_ _ | refine blk_drew ?_ | refine blk_alloc ?_ _)); exact BK222.out) hb)
                                        have n3_ := Aside0.mk (below_step (by repeat (first | (with_reducible first | exact HB.out | apply below_alloc | apply pw_below_drewN | apply below_drew1 | refine below_set ?_ GE209.out | refine below_set ?_ GE222.out) | exact HB.out)) hb)
                                        clear HO_4
                                        clear BK209
                                        clear BK222
                                        clear HB
                                        have HO_4 := n0_
                                        have BK209 := n1_
                                        have BK222 := n2_
                                        have HB := n3_
                                        clear n0_ n1_ n2_ n3_
                                        (try clear hb)
                                        (try clear hb2)
                                        (try clear hk)
                                        (try clear hi)
                                        refine hK.out _ _ ⟨(blk_cell BK222.out 0).trans rfl, (blk_cell BK222.out 1).trans rfl, (blk_cell BK222.out 2).trans rfl, (blk_cell BK222.out 3).trans rfl, (blk_cell BK222.out 4).trans rfl, (blk_cell BK222.out 5).trans rfl, (blk_cell BK222.out 6).trans rfl, HS7_⟩ (fun hHeld => ?_)
                                        clear hK K
                                        refine norm_ (a' := ?_) ?_ ?_
                                        rotate_left
                                        · show Act.put _ (some 59) _ = _
                                          simp only [Act.put, List.setIfInBounds_toArray, List.set_cons_zero, List.set_cons_succ, i64_w, i32_w]
                                          rfl
                                        refine pure_ (i := 10) (N := some 49) (v := ?_) (a' := ?_) #[true, true, true, true, true, true, true, true, true, true, true, false, false, false, false, false] rfl rfl (any_of HT_.out (by kernel_rfl)) (fun _ _ _ h => h) (Or.inl ⟨by rfl, ?_⟩) ?_ ?_
                                        rotate_left
                                        · intro w'
                                          go_simp
                                          with_reducible rfl
                                        rotate_left
                                        · simp only [Act.put, List.setIfInBounds_toArray, List.set_cons_zero, List.set_cons_succ, i64_w, i32_w]
                                          rfl
                                        refine pure_ (i := 11) (N := some 60) (v := ?_) (a' := ?_) #[true, true, true, true, true, true, true, true, true, true, true, true, false, false, false, false] rfl rfl (any_of HT_.out (by kernel_rfl)) (fun _ _ _ h => h) (Or.inl ⟨by rfl, ?_⟩) ?_ ?_
                                        rotate_left
                                        · intro w'
                                          go_simp
                                          with_reducible rfl
                                        rotate_left
                                        · simp only [Act.put, List.setIfInBounds_toArray, List.set_cons_zero, List.set_cons_succ, i64_w, i32_w]
                                          rfl
                                        refine pure_ (i := 12) (N := some 61) (v := ?_) (a' := ?_) #[true, true, true, true, true, true, true, true, true, true, true, true, true, false, false, false] rfl rfl (any_of HT_.out (by kernel_rfl)) (fun _ _ _ h => h) (Or.inl ⟨by rfl, ?_⟩) ?_ ?_
                                        rotate_left
                                        · intro w'
                                          go_simp
                                          with_reducible rfl
                                        rotate_left
                                        · simp only [Act.put, List.setIfInBounds_toArray, List.set_cons_zero, List.set_cons_succ, i64_w, i32_w]
                                          rfl
                                        refine one_ (i := 13) (N := some 9) #[true, true, true, true, true, true, true, true, true, true, true, true, true, true, false, false] rfl rfl (one_of HT_.out (by kernel_rfl)) (by decide) (fun K hK => ?_)
                                        refine box_step ?hg (N := 9) ?hd (cs := #[.int .i64 0, .int .i64 0, .int .i64 0, .int .i64 0, .int .i64 0, .int .i64 0, .int .u64 0]) (t := 26) ?hr ?_; (case hd => rfl); (case hg => rfl); (case hr => first | (go_simp; done) | (go_simp; rfl))
                                        intro gb232 hg w52 hbox hb
                                        have HS7_ := (hb.cell (World.block_lt_of_cell? _ _ (hHeld.2.2.2.2.2.2.2))).trans (hHeld.2.2.2.2.2.2.2)
                                        have n0_ := Aside0.mk (Kd.R_below (by (with_reducible repeat (first | apply Kd.R_alloc | apply Kd.R_drewN | apply Kd.R_drew)); exact HO_4.out) hb)
                                        have n1_ := Aside0.mk (blk_below (g := gb209) (o := .cells #[.int .i64 x210000_2, .int .i64 x210001_2, .int .i64 x210002_2, .int .i64 x210003_2, .int .i64 x210004_2, .int .i64 x210005_2, .int .u64 x210006_2] 26 (0, 0)) (by (with_reducible repeat (first | refine blk_drewN ?_ _ | refine blk_drew ?_ | refine blk_alloc ?_ _)); exact BK209.out) hb)
                                        have n2_ := Aside0.mk (blk_below (g := gb222) (o := .cells #[.int .i64 x223000_2, .int .i64 x223001_2, .int .i64 x223002_2, .int .i64 x223003_2, .int .i64 x223004_2, .int .i64 x223005_2, .int .u64 x223006_2] 26 (0, 0)) (by (with_reducible repeat (first | refine blk_drewN ?_ _ | refine blk_drew ?_ | refine blk_alloc ?_ _)); exact BK222.out) hb)
                                        have n3_ := Aside0.mk (below_step (by repeat (first | (with_reducible first | exact HB.out | apply below_alloc | apply pw_below_drewN | apply below_drew1 | refine below_set ?_ GE209.out | refine below_set ?_ GE222.out) | exact HB.out)) hb)
                                        have n4_ := Aside0.mk (hbox)
                                        have n5_ := Aside0.mk ((by rw [hg]; exact (below_size (by repeat (first | (with_reducible first | exact HB.out | apply below_alloc | apply pw_below_drewN | apply below_drew1 | refine below_set ?_ GE209.out | refine below_set ?_ GE222.out) | exact HB.out))) : w.heap.size ≤ gb232))
                                        have n6_ := Aside0.mk ((by rw [hg]; exact (below_size (by repeat (first | (with_reducible first | exact HB.out | apply below_alloc | apply pw_below_drewN | apply below_drew1 | refine below_set ?_ GE209.out | refine below_set ?_ GE222.out) | exact HB.out))) : w.heap.size ≤ gb232))
                                        have n7_ := Aside0.mk ((by rw [hg]; exact Nat.ne_of_lt (blk_lt (g := gb209) (o := .cells #[.int .i64 x210000_2, .int .i64 x210001_2, .int .i64 x210002_2, .int .i64 x210003_2, .int .i64 x210004_2, .int .i64 x210005_2, .int .u64 x210006_2] 26 (0, 0)) (by (with_reducible repeat (first | refine blk_drewN ?_ _ | refine blk_drew ?_ | refine blk_alloc ?_ _)); exact BK209.out)) : gb209 ≠ gb232))
                                        have n8_ := Aside0.mk ((by rw [hg]; exact Nat.ne_of_gt (blk_lt (g := gb209) (o := .cells #[.int .i64 x210000_2, .int .i64 x210001_2, .int .i64 x210002_2, .int .i64 x210003_2, .int .i64 x210004_2, .int .i64 x210005_2, .int .u64 x210006_2] 26 (0, 0)) (by (with_reducible repeat (first | refine blk_drewN ?_ _ | refine blk_drew ?_ | refine blk_alloc ?_ _)); exact BK209.out)) : gb232 ≠ gb209))
                                        have n9_ := Aside0.mk ((by rw [hg]; exact Nat.ne_of_lt (blk_lt (g := gb222) (o := .cells #[.int .i64 x223000_2, .int .i64 x223001_2, .int .i64 x223002_2, .int .i64 x223003_2, .int .i64 x223004_2, .int .i64 x223005_2, .int .u64 x223006_2] 26 (0, 0)) (by (with_reducible repeat (first | refine blk_drewN ?_ _ | refine blk_drew ?_ | refine blk_alloc ?_ _)); exact BK222.out)) : gb222 ≠ gb232))
                                        have n10_ := Aside0.mk ((by rw [hg]; exact Nat.ne_of_gt (blk_lt (g := gb222) (o := .cells #[.int .i64 x223000_2, .int .i64 x223001_2, .int .i64 x223002_2, .int .i64 x223003_2, .int .i64 x223004_2, .int .i64 x223005_2, .int .u64 x223006_2] 26 (0, 0)) (by (with_reducible repeat (first | refine blk_drewN ?_ _ | refine blk_drew ?_ | refine blk_alloc ?_ _)); exact BK222.out)) : gb232 ≠ gb222))
                                        clear HO_4
                                        clear BK209
                                        clear BK222
                                        clear HB
                                        have HO_4 := n0_
                                        have BK209 := n1_
                                        have BK222 := n2_
                                        have HB := n3_
                                        have BK232 := n4_
                                        have GW232 := n5_
                                        have GE232 := n6_
                                        have NB209_232 := n7_
                                        have NB232_209 := n8_
                                        have NB222_232 := n9_
                                        have NB232_222 := n10_
                                        clear n0_ n1_ n2_ n3_ n4_ n5_ n6_ n7_ n8_ n9_ n10_
                                        clear hb hbox hg
                                        refine hK.out _ _ ⟨(blk_cell BK222.out 0).trans rfl, (blk_cell BK222.out 1).trans rfl, (blk_cell BK222.out 2).trans rfl, (blk_cell BK222.out 3).trans rfl, (blk_cell BK222.out 4).trans rfl, (blk_cell BK222.out 5).trans rfl, (blk_cell BK222.out 6).trans rfl, HS7_⟩ (fun hHeld => ?_)
                                        clear hK K
                                        refine norm_ (a' := ?_) ?_ ?_
                                        rotate_left
                                        · show Act.put _ (some 9) _ = _
                                          simp only [Act.put, List.setIfInBounds_toArray, List.set_cons_zero, List.set_cons_succ, i64_w, i32_w]
                                          rfl
                                        exact norm_ (by simp only [putAll, Act.put, List.setIfInBounds_toArray, List.set_cons_zero, List.set_cons_succ]) (hCont (gb232) _ ⟨hHeld, (by (with_reducible repeat (first | apply Kd.R_alloc | apply Kd.R_drewN | apply Kd.R_drew)); exact HO_4.out), (by (with_reducible repeat (first | refine blk_drewN ?_ _ | refine blk_drew ?_ | refine blk_alloc ?_ _)); exact BK209.out), (by (with_reducible repeat (first | refine blk_drewN ?_ _ | refine blk_drew ?_ | refine blk_alloc ?_ _)); exact BK222.out), (by (with_reducible repeat (first | refine blk_drewN ?_ _ | refine blk_drew ?_ | refine blk_alloc ?_ _)); exact BK232.out), GW232.out, GE232.out, NB209_232.out, NB232_209.out, NB222_232.out, NB232_222.out, (by repeat (first | (with_reducible first | exact HB.out | apply below_alloc | apply pw_below_drewN | apply below_drew1 | refine below_set ?_ GE209.out | refine below_set ?_ GE222.out | refine below_set ?_ GE232.out) | exact HB.out))⟩)
                                      · skip
                                        refine box_step ?hg (N := 9) ?hd (cs := #[.int .i64 0, .int .i64 0, .int .i64 0, .int .i64 0, .int .i64 0, .int .i64 0, .int .u64 0]) (t := 26) ?hr ?_; (case hd => rfl); (case hg => rfl); (case hr => first | (go_simp; done) | (go_simp; rfl))
                                        intro gb232 hg w51 hbox hb
                                        have HS7_ := (hb.cell (World.block_lt_of_cell? _ _ (hHeld.2.2.2.2.2.2.2))).trans (hHeld.2.2.2.2.2.2.2)
                                        have n0_ := Aside0.mk (Kd.R_below (by (with_reducible repeat (first | apply Kd.R_alloc | apply Kd.R_drewN | apply Kd.R_drew)); exact HO_4.out) hb)
                                        have n1_ := Aside0.mk (blk_below (g := gb209) (o := .cells #[.int .i64 x210000_2, .int .i64 x210001_2, .int .i64 x210002_2, .int .i64 x210003_2, .int .i64 x210004_2, .int .i64 x210005_2, .int .u64 x210006_2] 26 (0, 0)) (by (with_reducible repeat (first | refine blk_drewN ?_ _ | refine blk_drew ?_ | refine blk_alloc ?_ _)); exact BK209.out) hb)
                                        have n2_ := Aside0.mk (blk_below (g := gb222) (o := .cells #[.int .i64 x223000_2, .int .i64 x223001_2, .int .i64 x223002_2, .int .i64 x223003_2, .int .i64 x223004_2, .int .i64 x223005_2, .int .u64 x223006_2] 26 (0, 0)) (by (with_reducible repeat (first | refine blk_drewN ?_ _ | refine blk_drew ?_ | refine blk_alloc ?_ _)); exact BK222.out) hb)
                                        have n3_ := Aside0.mk (below_step (by repeat (first | (with_reducible first | exact HB.out | apply below_alloc | apply pw_below_drewN | apply below_drew1 | refine below_set ?_ GE209.out | refine below_set ?_ GE222.out) | exact HB.out)) hb)
                                        have n4_ := Aside0.mk (hbox)
                                        have n5_ := Aside0.mk ((by rw [hg]; exact (below_size (by repeat (first | (with_reducible first | exact HB.out | apply below_alloc | apply pw_below_drewN | apply below_drew1 | refine below_set ?_ GE209.out | refine below_set ?_ GE222.out) | exact HB.out))) : w.heap.size ≤ gb232))
                                        have n6_ := Aside0.mk ((by rw [hg]; exact (below_size (by repeat (first | (with_reducible first | exact HB.out | apply below_alloc | apply pw_below_drewN | apply below_drew1 | refine below_set ?_ GE209.out | refine below_set ?_ GE222.out) | exact HB.out))) : w.heap.size ≤ gb232))
                                        have n7_ := Aside0.mk ((by rw [hg]; exact Nat.ne_of_lt (blk_lt (g := gb209) (o := .cells #[.int .i64 x210000_2, .int .i64 x210001_2, .int .i64 x210002_2, .int .i64 x210003_2, .int .i64 x210004_2, .int .i64 x210005_2, .int .u64 x210006_2] 26 (0, 0)) (by (with_reducible repeat (first | refine blk_drewN ?_ _ | refine blk_drew ?_ | refine blk_alloc ?_ _)); exact BK209.out)) : gb209 ≠ gb232))
                                        have n8_ := Aside0.mk ((by rw [hg]; exact Nat.ne_of_gt (blk_lt (g := gb209) (o := .cells #[.int .i64 x210000_2, .int .i64 x210001_2, .int .i64 x210002_2, .int .i64 x210003_2, .int .i64 x210004_2, .int .i64 x210005_2, .int .u64 x210006_2] 26 (0, 0)) (by (with_reducible repeat (first | refine blk_drewN ?_ _ | refine blk_drew ?_ | refine blk_alloc ?_ _)); exact BK209.out)) : gb232 ≠ gb209))
                                        have n9_ := Aside0.mk ((by rw [hg]; exact Nat.ne_of_lt (blk_lt (g := gb222) (o := .cells #[.int .i64 x223000_2, .int .i64 x223001_2, .int .i64 x223002_2, .int .i64 x223003_2, .int .i64 x223004_2, .int .i64 x223005_2, .int .u64 x223006_2] 26 (0, 0)) (by (with_reducible repeat (first | refine blk_drewN ?_ _ | refine blk_drew ?_ | refine blk_alloc ?_ _)); exact BK222.out)) : gb222 ≠ gb232))
                                        have n10_ := Aside0.mk ((by rw [hg]; exact Nat.ne_of_gt (blk_lt (g := gb222) (o := .cells #[.int .i64 x223000_2, .int .i64 x223001_2, .int .i64 x223002_2, .int .i64 x223003_2, .int .i64 x223004_2, .int .i64 x223005_2, .int .u64 x223006_2] 26 (0, 0)) (by (with_reducible repeat (first | refine blk_drewN ?_ _ | refine blk_drew ?_ | refine blk_alloc ?_ _)); exact BK222.out)) : gb232 ≠ gb222))
                                        clear HO_4
                                        clear BK209
                                        clear BK222
                                        clear HB
                                        have HO_4 := n0_
                                        have BK209 := n1_
                                        have BK222 := n2_
                                        have HB := n3_
                                        have BK232 := n4_
                                        have GW232 := n5_
                                        have GE232 := n6_
                                        have NB209_232 := n7_
                                        have NB232_209 := n8_
                                        have NB222_232 := n9_
                                        have NB232_222 := n10_
                                        clear n0_ n1_ n2_ n3_ n4_ n5_ n6_ n7_ n8_ n9_ n10_
                                        clear hb hbox hg
                                        refine hK.out _ _ ⟨(blk_cell BK222.out 0).trans rfl, (blk_cell BK222.out 1).trans rfl, (blk_cell BK222.out 2).trans rfl, (blk_cell BK222.out 3).trans rfl, (blk_cell BK222.out 4).trans rfl, (blk_cell BK222.out 5).trans rfl, (blk_cell BK222.out 6).trans rfl, HS7_⟩ (fun hHeld => ?_)
                                        clear hK K
                                        refine norm_ (a' := ?_) ?_ ?_
                                        rotate_left
                                        · show Act.put _ (some 9) _ = _
                                          simp only [Act.put, List.setIfInBounds_toArray, List.set_cons_zero, List.set_cons_succ, i64_w, i32_w]
                                          rfl
                                        refine one_ (i := 9) (N := some 59) #[true, true, true, true, true, true, true, true, true, true, false, false, false, true, false, false] rfl rfl (one_of HT_.out (by kernel_rfl)) (by decide) (fun K hK => ?_)
                                        refine goes_ Tryd.func27 (by kernel_rfl) rfl #[.agg #[.int .i64 x223000_2, .int .i64 x223001_2, .int .i64 x223002_2, .int .i64 x223003_2, .int .i64 x223004_2, .int .i64 x223005_2, .int .u64 x223006_2], .int .u8 (bt (rdOf ByteArray.empty t218 x5_1) x8_2), .string (rdOf ByteArray.empty t210 (ji29))] (by rfl) rfl rfl (by (try simp only [List.map_toArray, List.map_cons, List.map_nil]); first | done | (simp only [hji29]; rfl) | rfl | (simp only [List.length_drop, List.length_take]; rfl)) ?_
                                        with_reducible refine (turnspitref15_put.calls k2 x223000_2 x223001_2 x223002_2 x223003_2 x223004_2 x223005_2 x223006_2 (bt (rdOf ByteArray.empty t218 x5_1) x8_2) (rdOf ByteArray.empty t210 (ji29)) t224 t225 t226 t227 t228 t229 t230 false _ ?side1 A32.out).mono ?_
                                        (case side1 => first | exact HLd | (refine Ld.below HLd ?_; repeat (first | (with_reducible first | exact HB.out | apply below_alloc | apply pw_below_drewN | apply below_drew1 | refine below_set ?_ GE209.out | refine below_set ?_ GE222.out | refine below_set ?_ GE232.out) | exact HB.out)))
                                        rintro e w52 ⟨rfl, hb⟩
                                        have HS7_ := (hb.cell (World.block_lt_of_cell? _ _ (hHeld.2.2.2.2.2.2.2))).trans (hHeld.2.2.2.2.2.2.2)
                                        refine ⟨_, rfl, ?_⟩
                                        have n0_ := Aside0.mk (Kd.R_below (by (with_reducible repeat (first | apply Kd.R_alloc | apply Kd.R_drewN | apply Kd.R_drew)); exact HO_4.out) hb)
                                        have n1_ := Aside0.mk (blk_below (g := gb209) (o := .cells #[.int .i64 x210000_2, .int .i64 x210001_2, .int .i64 x210002_2, .int .i64 x210003_2, .int .i64 x210004_2, .int .i64 x210005_2, .int .u64 x210006_2] 26 (0, 0)) (by (with_reducible repeat (first | refine blk_drewN ?_ _ | refine blk_drew ?_ | refine blk_alloc ?_ _)); exact BK209.out) hb)
                                        have n2_ := Aside0.mk (blk_below (g := gb222) (o := .cells #[.int .i64 x223000_2, .int .i64 x223001_2, .int .i64 x223002_2, .int .i64 x223003_2, .int .i64 x223004_2, .int .i64 x223005_2, .int .u64 x223006_2] 26 (0, 0)) (by (with_reducible repeat (first | refine blk_drewN ?_ _ | refine blk_drew ?_ | refine blk_alloc ?_ _)); exact BK222.out) hb)
                                        have n3_ := Aside0.mk (blk_below (g := gb232) (o := .cells #[.int .i64 0, .int .i64 0, .int .i64 0, .int .i64 0, .int .i64 0, .int .i64 0, .int .u64 0] 26 (0, 0)) (by (with_reducible repeat (first | refine blk_drewN ?_ _ | refine blk_drew ?_ | refine blk_alloc ?_ _)); exact BK232.out) hb)
                                        have n4_ := Aside0.mk (below_step (by repeat (first | (with_reducible first | exact HB.out | apply below_alloc | apply pw_below_drewN | apply below_drew1 | refine below_set ?_ GE209.out | refine below_set ?_ GE222.out | refine below_set ?_ GE232.out) | exact HB.out)) hb)
                                        clear HO_4
                                        clear BK209
                                        clear BK222
                                        clear BK232
                                        clear HB
                                        have HO_4 := n0_
                                        have BK209 := n1_
                                        have BK222 := n2_
                                        have BK232 := n3_
                                        have HB := n4_
                                        clear n0_ n1_ n2_ n3_ n4_
                                        (try clear hb)
                                        (try clear hb2)
                                        (try clear hk)
                                        (try clear hi)
                                        refine hK.out _ _ ⟨(blk_cell BK222.out 0).trans rfl, (blk_cell BK222.out 1).trans rfl, (blk_cell BK222.out 2).trans rfl, (blk_cell BK222.out 3).trans rfl, (blk_cell BK222.out 4).trans rfl, (blk_cell BK222.out 5).trans rfl, (blk_cell BK222.out 6).trans rfl, HS7_⟩ (fun hHeld => ?_)
                                        clear hK K
                                        refine norm_ (a' := ?_) ?_ ?_
                                        rotate_left
                                        · show Act.put _ (some 59) _ = _
                                          simp only [Act.put, List.setIfInBounds_toArray, List.set_cons_zero, List.set_cons_succ, i64_w, i32_w]
                                          rfl
                                        refine pure_ (i := 10) (N := some 49) (v := ?_) (a' := ?_) #[true, true, true, true, true, true, true, true, true, true, true, false, false, true, false, false] rfl rfl (any_of HT_.out (by kernel_rfl)) (fun _ _ _ h => h) (Or.inl ⟨by rfl, ?_⟩) ?_ ?_
                                        rotate_left
                                        · intro w'
                                          go_simp
                                          with_reducible rfl
                                        rotate_left
                                        · simp only [Act.put, List.setIfInBounds_toArray, List.set_cons_zero, List.set_cons_succ, i64_w, i32_w]
                                          rfl
                                        refine pure_ (i := 11) (N := some 60) (v := ?_) (a' := ?_) #[true, true, true, true, true, true, true, true, true, true, true, true, false, true, false, false] rfl rfl (any_of HT_.out (by kernel_rfl)) (fun _ _ _ h => h) (Or.inl ⟨by rfl, ?_⟩) ?_ ?_
                                        rotate_left
                                        · intro w'
                                          go_simp
                                          with_reducible rfl
                                        rotate_left
                                        · simp only [Act.put, List.setIfInBounds_toArray, List.set_cons_zero, List.set_cons_succ, i64_w, i32_w]
                                          rfl
                                        refine pure_ (i := 12) (N := some 61) (v := ?_) (a' := ?_) #[true, true, true, true, true, true, true, true, true, true, true, true, true, true, false, false] rfl rfl (any_of HT_.out (by kernel_rfl)) (fun _ _ _ h => h) (Or.inl ⟨by rfl, ?_⟩) ?_ ?_
                                        rotate_left
                                        · intro w'
                                          go_simp
                                          with_reducible rfl
                                        rotate_left
                                        · simp only [Act.put, List.setIfInBounds_toArray, List.set_cons_zero, List.set_cons_succ, i64_w, i32_w]
                                          rfl
                                        exact norm_ (by simp only [putAll, Act.put, List.setIfInBounds_toArray, List.set_cons_zero, List.set_cons_succ]) (hCont (gb232) _ ⟨hHeld, (by (with_reducible repeat (first | apply Kd.R_alloc | apply Kd.R_drewN | apply Kd.R_drew)); exact HO_4.out), (by (with_reducible repeat (first | refine blk_drewN ?_ _ | refine blk_drew ?_ | refine blk_alloc ?_ _)); exact BK209.out), (by (with_reducible repeat (first | refine blk_drewN ?_ _ | refine blk_drew ?_ | refine blk_alloc ?_ _)); exact BK222.out), (by (with_reducible repeat (first | refine blk_drewN ?_ _ | refine blk_drew ?_ | refine blk_alloc ?_ _)); exact BK232.out), GW232.out, GE232.out, NB209_232.out, NB232_209.out, NB222_232.out, NB232_222.out, (by repeat (first | (with_reducible first | exact HB.out | apply below_alloc | apply pw_below_drewN | apply below_drew1 | refine below_set ?_ GE209.out | refine below_set ?_ GE222.out | refine below_set ?_ GE232.out) | exact HB.out))⟩)
                                    rintro gb232 w53 ⟨hS_, h0_, h1_, h2_, h3_, h4_, h5_, h6_, h7_, h8_, h9_, h10_⟩
                                    have n0_ : Aside0 (Kd.R Kd.string 9 w53 w.heap.size (fun _ => True) (.slice (some ad217) t210.length co18) t210) := ⟨h0_⟩
                                    have n1_ : Aside0 (w53.heap[gb209]? = some (.cells #[.int .i64 x210000_2, .int .i64 x210001_2, .int .i64 x210002_2, .int .i64 x210003_2, .int .i64 x210004_2, .int .i64 x210005_2, .int .u64 x210006_2] 26 (0, 0))) := ⟨h1_⟩
                                    have n2_ : Aside0 (w53.heap[gb222]? = some (.cells #[.int .i64 x223000_2, .int .i64 x223001_2, .int .i64 x223002_2, .int .i64 x223003_2, .int .i64 x223004_2, .int .i64 x223005_2, .int .u64 x223006_2] 26 (0, 0))) := ⟨h2_⟩
                                    have n3_ : Aside0 (w53.heap[gb232]? = some (.cells #[.int .i64 0, .int .i64 0, .int .i64 0, .int .i64 0, .int .i64 0, .int .i64 0, .int .u64 0] 26 (0, 0))) := ⟨h3_⟩
                                    have n4_ : Aside0 (w.heap.size ≤ gb232) := ⟨h4_⟩
                                    have n5_ : Aside0 (w.heap.size ≤ gb232) := ⟨h5_⟩
                                    have n6_ : Aside0 (gb209 ≠ gb232) := ⟨h6_⟩
                                    have n7_ : Aside0 (gb232 ≠ gb209) := ⟨h7_⟩
                                    have n8_ : Aside0 (gb222 ≠ gb232) := ⟨h8_⟩
                                    have n9_ : Aside0 (gb232 ≠ gb222) := ⟨h9_⟩
                                    have n10_ : Aside0 (Below w.heap.size w w53) := ⟨h10_⟩
                                    clear HO_4
                                    clear BK209
                                    clear BK222
                                    clear HB
                                    clear h0_ h1_ h2_ h3_ h4_ h5_ h6_ h7_ h8_ h9_ h10_
                                    have HO_4 := n0_
                                    have BK209 := n1_
                                    have BK222 := n2_
                                    have BK232 := n3_
                                    have GW232 := n4_
                                    have GE232 := n5_
                                    have NB209_232 := n6_
                                    have NB232_209 := n7_
                                    have NB222_232 := n8_
                                    have NB232_222 := n9_
                                    have HB := n10_
                                    clear n0_ n1_ n2_ n3_ n4_ n5_ n6_ n7_ n8_ n9_ n10_
                                    have hHeld : w53.cell? ⟨gb222, 0, none⟩ = some (.int .i64 x223000_2) ∧ w53.cell? ⟨gb222, 1, none⟩ = some (.int .i64 x223001_2) ∧ w53.cell? ⟨gb222, 2, none⟩ = some (.int .i64 x223002_2) ∧ w53.cell? ⟨gb222, 3, none⟩ = some (.int .i64 x223003_2) ∧ w53.cell? ⟨gb222, 4, none⟩ = some (.int .i64 x223004_2) ∧ w53.cell? ⟨gb222, 5, none⟩ = some (.int .i64 x223005_2) ∧ w53.cell? ⟨gb222, 6, none⟩ = some (.int .u64 x223006_2) ∧ w53.cell? (ad217.add ((ji29)).toNat) = some (.string (rdOf ByteArray.empty t210 (ji29))) := hS_
                                    refine norm_ (a' := ?_) ?_ ?_
                                    rotate_left
                                    · simp only [putAll, Act.put, List.setIfInBounds_toArray, List.set_cons_zero, List.set_cons_succ]
                                      rfl
                                    refine one_ (i := 14) (N := none) #[true, true, true, true, true, true, true, true, true, true, true, true, true, true, true, false] rfl rfl (one_of HT_.out (by kernel_rfl)) (by decide) (fun K hK => ?_)
                                    have hs54 : w53.cell? ⟨gb232, 0, none⟩ = some (.int .i64 0) := (blk_cell BK232.out 0).trans rfl
                                    have hfs54 := blk_frozen BK232.out 0
                                    have hns54_0 := NB209_232.out
                                    have hns54_1 := NB222_232.out
                                    have hms54_0 := NB232_209.out
                                    have hms54_1 := NB232_222.out
                                    have hs55 : w53.cell? ⟨gb232, 1, none⟩ = some (.int .i64 0) := (blk_cell BK232.out 1).trans rfl
                                    have hfs55 := blk_frozen BK232.out 1
                                    have hns55_0 := NB209_232.out
                                    have hns55_1 := NB222_232.out
                                    have hms55_0 := NB232_209.out
                                    have hms55_1 := NB232_222.out
                                    have hs56 : w53.cell? ⟨gb232, 2, none⟩ = some (.int .i64 0) := (blk_cell BK232.out 2).trans rfl
                                    have hfs56 := blk_frozen BK232.out 2
                                    have hns56_0 := NB209_232.out
                                    have hns56_1 := NB222_232.out
                                    have hms56_0 := NB232_209.out
                                    have hms56_1 := NB232_222.out
                                    have hs57 : w53.cell? ⟨gb232, 3, none⟩ = some (.int .i64 0) := (blk_cell BK232.out 3).trans rfl
                                    have hfs57 := blk_frozen BK232.out 3
                                    have hns57_0 := NB209_232.out
                                    have hns57_1 := NB222_232.out
                                    have hms57_0 := NB232_209.out
                                    have hms57_1 := NB232_222.out
                                    have hs58 : w53.cell? ⟨gb232, 4, none⟩ = some (.int .i64 0) := (blk_cell BK232.out 4).trans rfl
                                    have hfs58 := blk_frozen BK232.out 4
                                    have hns58_0 := NB209_232.out
                                    have hns58_1 := NB222_232.out
                                    have hms58_0 := NB232_209.out
                                    have hms58_1 := NB232_222.out
                                    have hs59 : w53.cell? ⟨gb232, 5, none⟩ = some (.int .i64 0) := (blk_cell BK232.out 5).trans rfl
                                    have hfs59 := blk_frozen BK232.out 5
                                    have hns59_0 := NB209_232.out
                                    have hns59_1 := NB222_232.out
                                    have hms59_0 := NB232_209.out
                                    have hms59_1 := NB232_222.out
                                    have hs60 : w53.cell? ⟨gb232, 6, none⟩ = some (.int .u64 0) := (blk_cell BK232.out 6).trans rfl
                                    have hfs60 := blk_frozen BK232.out 6
                                    have hns60_0 := NB209_232.out
                                    have hns60_1 := NB222_232.out
                                    have hms60_0 := NB232_209.out
                                    have hms60_1 := NB232_222.out
                                    refine skip_ (w1 := ?_) (by rfl) rfl ?_ ?_
                                    rotate_left
                                    · go_simp
                                      rfl
                                    refine hK.out _ _ ⟨((cell_far (p := ⟨gb232, _, none⟩) NB222_232.out _).trans (((cell_far (p := ⟨gb232, _, none⟩) NB222_232.out _).trans (((cell_far (p := ⟨gb232, _, none⟩) NB222_232.out _).trans (((cell_far (p := ⟨gb232, _, none⟩) NB222_232.out _).trans (((cell_far (p := ⟨gb232, _, none⟩) NB222_232.out _).trans (((cell_far (p := ⟨gb232, _, none⟩) NB222_232.out _).trans (((cell_far (p := ⟨gb232, _, none⟩) NB222_232.out _).trans (hHeld.1)))))))))))))), ((cell_far (p := ⟨gb232, _, none⟩) NB222_232.out _).trans (((cell_far (p := ⟨gb232, _, none⟩) NB222_232.out _).trans (((cell_far (p := ⟨gb232, _, none⟩) NB222_232.out _).trans (((cell_far (p := ⟨gb232, _, none⟩) NB222_232.out _).trans (((cell_far (p := ⟨gb232, _, none⟩) NB222_232.out _).trans (((cell_far (p := ⟨gb232, _, none⟩) NB222_232.out _).trans (((cell_far (p := ⟨gb232, _, none⟩) NB222_232.out _).trans (hHeld.2.1)))))))))))))), ((cell_far (p := ⟨gb232, _, none⟩) NB222_232.out _).trans (((cell_far (p := ⟨gb232, _, none⟩) NB222_232.out _).trans (((cell_far (p := ⟨gb232, _, none⟩) NB222_232.out _).trans (((cell_far (p := ⟨gb232, _, none⟩) NB222_232.out _).trans (((cell_far (p := ⟨gb232, _, none⟩) NB222_232.out _).trans (((cell_far (p := ⟨gb232, _, none⟩) NB222_232.out _).trans (((cell_far (p := ⟨gb232, _, none⟩) NB222_232.out _).trans (hHeld.2.2.1)))))))))))))), ((cell_far (p := ⟨gb232, _, none⟩) NB222_232.out _).trans (((cell_far (p := ⟨gb232, _, none⟩) NB222_232.out _).trans (((cell_far (p := ⟨gb232, _, none⟩) NB222_232.out _).trans (((cell_far (p := ⟨gb232, _, none⟩) NB222_232.out _).trans (((cell_far (p := ⟨gb232, _, none⟩) NB222_232.out _).trans (((cell_far (p := ⟨gb232, _, none⟩) NB222_232.out _).trans (((cell_far (p := ⟨gb232, _, none⟩) NB222_232.out _).trans (hHeld.2.2.2.1)))))))))))))), ((cell_far (p := ⟨gb232, _, none⟩) NB222_232.out _).trans (((cell_far (p := ⟨gb232, _, none⟩) NB222_232.out _).trans (((cell_far (p := ⟨gb232, _, none⟩) NB222_232.out _).trans (((cell_far (p := ⟨gb232, _, none⟩) NB222_232.out _).trans (((cell_far (p := ⟨gb232, _, none⟩) NB222_232.out _).trans (((cell_far (p := ⟨gb232, _, none⟩) NB222_232.out _).trans (((cell_far (p := ⟨gb232, _, none⟩) NB222_232.out _).trans (hHeld.2.2.2.2.1)))))))))))))), ((cell_far (p := ⟨gb232, _, none⟩) NB222_232.out _).trans (((cell_far (p := ⟨gb232, _, none⟩) NB222_232.out _).trans (((cell_far (p := ⟨gb232, _, none⟩) NB222_232.out _).trans (((cell_far (p := ⟨gb232, _, none⟩) NB222_232.out _).trans (((cell_far (p := ⟨gb232, _, none⟩) NB222_232.out _).trans (((cell_far (p := ⟨gb232, _, none⟩) NB222_232.out _).trans (((cell_far (p := ⟨gb232, _, none⟩) NB222_232.out _).trans (hHeld.2.2.2.2.2.1)))))))))))))), ((cell_far (p := ⟨gb232, _, none⟩) NB222_232.out _).trans (((cell_far (p := ⟨gb232, _, none⟩) NB222_232.out _).trans (((cell_far (p := ⟨gb232, _, none⟩) NB222_232.out _).trans (((cell_far (p := ⟨gb232, _, none⟩) NB222_232.out _).trans (((cell_far (p := ⟨gb232, _, none⟩) NB222_232.out _).trans (((cell_far (p := ⟨gb232, _, none⟩) NB222_232.out _).trans (((cell_far (p := ⟨gb232, _, none⟩) NB222_232.out _).trans (hHeld.2.2.2.2.2.2.1)))))))))))))), ((cell_far (p := ⟨gb232, _, none⟩) (by first | exact Kd.own_blk (Kd.R_ne HO_4.out BK232.out (by decide)) | (rw [add_block]; exact Kd.own_blk (Kd.R_ne HO_4.out BK232.out (by decide))) | (show (Addr.add _ _).block ≠ _; rw [add_block]; exact Kd.own_blk (Kd.R_ne HO_4.out BK232.out (by decide))) | (dsimp only; exact Kd.own_blk (Kd.R_ne HO_4.out BK232.out (by decide)))) _).trans (((cell_far (p := ⟨gb232, _, none⟩) (by first | exact Kd.own_blk (Kd.R_ne HO_4.out BK232.out (by decide)) | (rw [add_block]; exact Kd.own_blk (Kd.R_ne HO_4.out BK232.out (by decide))) | (show (Addr.add _ _).block ≠ _; rw [add_block]; exact Kd.own_blk (Kd.R_ne HO_4.out BK232.out (by decide))) | (dsimp only; exact Kd.own_blk (Kd.R_ne HO_4.out BK232.out (by decide)))) _).trans (((cell_far (p := ⟨gb232, _, none⟩) (by first | exact Kd.own_blk (Kd.R_ne HO_4.out BK232.out (by decide)) | (rw [add_block]; exact Kd.own_blk (Kd.R_ne HO_4.out BK232.out (by decide))) | (show (Addr.add _ _).block ≠ _; rw [add_block]; exact Kd.own_blk (Kd.R_ne HO_4.out BK232.out (by decide))) | (dsimp only; exact Kd.own_blk (Kd.R_ne HO_4.out BK232.out (by decide)))) _).trans (((cell_far (p := ⟨gb232, _, none⟩) (by first | exact Kd.own_blk (Kd.R_ne HO_4.out BK232.out (by decide)) | (rw [add_block]; exact Kd.own_blk (Kd.R_ne HO_4.out BK232.out (by decide))) | (show (Addr.add _ _).block ≠ _; rw [add_block]; exact Kd.own_blk (Kd.R_ne HO_4.out BK232.out (by decide))) | (dsimp only; exact Kd.own_blk (Kd.R_ne HO_4.out BK232.out (by decide)))) _).trans (((cell_far (p := ⟨gb232, _, none⟩) (by first | exact Kd.own_blk (Kd.R_ne HO_4.out BK232.out (by decide)) | (rw [add_block]; exact Kd.own_blk (Kd.R_ne HO_4.out BK232.out (by decide))) | (show (Addr.add _ _).block ≠ _; rw [add_block]; exact Kd.own_blk (Kd.R_ne HO_4.out BK232.out (by decide))) | (dsimp only; exact Kd.own_blk (Kd.R_ne HO_4.out BK232.out (by decide)))) _).trans (((cell_far (p := ⟨gb232, _, none⟩) (by first | exact Kd.own_blk (Kd.R_ne HO_4.out BK232.out (by decide)) | (rw [add_block]; exact Kd.own_blk (Kd.R_ne HO_4.out BK232.out (by decide))) | (show (Addr.add _ _).block ≠ _; rw [add_block]; exact Kd.own_blk (Kd.R_ne HO_4.out BK232.out (by decide))) | (dsimp only; exact Kd.own_blk (Kd.R_ne HO_4.out BK232.out (by decide)))) _).trans (((cell_far (p := ⟨gb232, _, none⟩) (by first | exact Kd.own_blk (Kd.R_ne HO_4.out BK232.out (by decide)) | (rw [add_block]; exact Kd.own_blk (Kd.R_ne HO_4.out BK232.out (by decide))) | (show (Addr.add _ _).block ≠ _; rw [add_block]; exact Kd.own_blk (Kd.R_ne HO_4.out BK232.out (by decide))) | (dsimp only; exact Kd.own_blk (Kd.R_ne HO_4.out BK232.out (by decide)))) _).trans (hHeld.2.2.2.2.2.2.2))))))))))))))⟩ (fun hHeld => ?_)
                                    clear hK K
                                    refine pure_ (i := 15) (N := some 10) (v := ?_) (a' := ?_) #[true, true, true, true, true, true, true, true, true, true, true, true, true, true, true, true] rfl rfl (any_of HT_.out (by kernel_rfl)) (fun _ _ _ h => h) (Or.inl ⟨by rfl, ?_⟩) ?_ ?_
                                    rotate_left
                                    · intro w'
                                      go_simp
                                      with_reducible rfl
                                    rotate_left
                                    · simp only [Act.put, List.setIfInBounds_toArray, List.set_cons_zero, List.set_cons_succ, i64_w, i32_w]
                                      rfl
                                    refine done_ (done_of HT_.out (by kernel_rfl)) ?_
                                    have hnb61 := NB209_222.out
                                    have hnc61 := NB222_209.out
                                    have hnb62 := NB209_232.out
                                    have hnc62 := NB232_209.out
                                    have hcz63_0 : w53.cell? ⟨gb209, 0, none⟩ = some (.int .i64 x210000_2) := (blk_cell BK209.out 0).trans rfl
                                    have hcz63_1 : w53.cell? ⟨gb209, 1, none⟩ = some (.int .i64 x210001_2) := (blk_cell BK209.out 1).trans rfl
                                    have hcz63_2 : w53.cell? ⟨gb209, 2, none⟩ = some (.int .i64 x210002_2) := (blk_cell BK209.out 2).trans rfl
                                    have hcz63_3 : w53.cell? ⟨gb209, 3, none⟩ = some (.int .i64 x210003_2) := (blk_cell BK209.out 3).trans rfl
                                    have hcz63_4 : w53.cell? ⟨gb209, 4, none⟩ = some (.int .i64 x210004_2) := (blk_cell BK209.out 4).trans rfl
                                    have hcz63_5 : w53.cell? ⟨gb209, 5, none⟩ = some (.int .i64 x210005_2) := (blk_cell BK209.out 5).trans rfl
                                    have hcz63_6 : w53.cell? ⟨gb209, 6, none⟩ = some (.int .u64 x210006_2) := (blk_cell BK209.out 6).trans rfl
                                    have hfz63_0 := blk_frozen BK209.out 0
                                    have hfz63_1 := blk_frozen BK209.out 1
                                    have hfz63_2 := blk_frozen BK209.out 2
                                    have hfz63_3 := blk_frozen BK209.out 3
                                    have hfz63_4 := blk_frozen BK209.out 4
                                    have hfz63_5 := blk_frozen BK209.out 5
                                    have hfz63_6 := blk_frozen BK209.out 6
                                    try go_wp2
                                    refine bodyPost_ret (results_ct rfl _ _ gb209 26 #[.int .i64 0, .int .i64 0, .int .i64 0, .int .i64 0, .int .i64 0, .int .i64 0, .int .u64 0] (0, 0) _ rfl (by (with_reducible repeat (first | refine blk_drewN ?_ _ | refine blk_drew ?_ | refine blk_alloc ?_ _)); refine blk_put (cs := #[.int .i64 0, .int .i64 0, .int .i64 0, .int .i64 0, .int .i64 0, .int .i64 0, .int .u64 x210006_2]) ?_ 6 _ (by first | rfl | simp [*]); (with_reducible repeat (first | refine blk_drewN ?_ _ | refine blk_drew ?_ | refine blk_alloc ?_ _)); refine blk_put (cs := #[.int .i64 0, .int .i64 0, .int .i64 0, .int .i64 0, .int .i64 0, .int .i64 x210005_2, .int .u64 x210006_2]) ?_ 5 _ (by first | rfl | simp [*]); (with_reducible repeat (first | refine blk_drewN ?_ _ | refine blk_drew ?_ | refine blk_alloc ?_ _)); refine blk_put (cs := #[.int .i64 0, .int .i64 0, .int .i64 0, .int .i64 0, .int .i64 x210004_2, .int .i64 x210005_2, .int .u64 x210006_2]) ?_ 4 _ (by first | rfl | simp [*]); (with_reducible repeat (first | refine blk_drewN ?_ _ | refine blk_drew ?_ | refine blk_alloc ?_ _)); refine blk_put (cs := #[.int .i64 0, .int .i64 0, .int .i64 0, .int .i64 x210003_2, .int .i64 x210004_2, .int .i64 x210005_2, .int .u64 x210006_2]) ?_ 3 _ (by first | rfl | simp [*]); (with_reducible repeat (first | refine blk_drewN ?_ _ | refine blk_drew ?_ | refine blk_alloc ?_ _)); refine blk_put (cs := #[.int .i64 0, .int .i64 0, .int .i64 x210002_2, .int .i64 x210003_2, .int .i64 x210004_2, .int .i64 x210005_2, .int .u64 x210006_2]) ?_ 2 _ (by first | rfl | simp [*]); (with_reducible repeat (first | refine blk_drewN ?_ _ | refine blk_drew ?_ | refine blk_alloc ?_ _)); refine blk_put (cs := #[.int .i64 0, .int .i64 x210001_2, .int .i64 x210002_2, .int .i64 x210003_2, .int .i64 x210004_2, .int .i64 x210005_2, .int .u64 x210006_2]) ?_ 1 _ (by first | rfl | simp [*]); (with_reducible repeat (first | refine blk_drewN ?_ _ | refine blk_drew ?_ | refine blk_alloc ?_ _)); refine blk_put (cs := #[.int .i64 x210000_2, .int .i64 x210001_2, .int .i64 x210002_2, .int .i64 x210003_2, .int .i64 x210004_2, .int .i64 x210005_2, .int .u64 x210006_2]) ?_ 0 _ (by first | rfl | simp [*]); (with_reducible repeat (first | refine blk_drewN ?_ _ | refine blk_drew ?_ | refine blk_alloc ?_ _)); refine blk_far ?_ NB209_232.out _; (with_reducible repeat (first | refine blk_drewN ?_ _ | refine blk_drew ?_ | refine blk_alloc ?_ _)); refine blk_far ?_ NB209_232.out _; (with_reducible repeat (first | refine blk_drewN ?_ _ | refine blk_drew ?_ | refine blk_alloc ?_ _)); refine blk_far ?_ NB209_232.out _; (with_reducible repeat (first | refine blk_drewN ?_ _ | refine blk_drew ?_ | refine blk_alloc ?_ _)); refine blk_far ?_ NB209_232.out _; (with_reducible repeat (first | refine blk_drewN ?_ _ | refine blk_drew ?_ | refine blk_alloc ?_ _)); refine blk_far ?_ NB209_232.out _; (with_reducible repeat (first | refine blk_drewN ?_ _ | refine blk_drew ?_ | refine blk_alloc ?_ _)); refine blk_far ?_ NB209_232.out _; (with_reducible repeat (first | refine blk_drewN ?_ _ | refine blk_drew ?_ | refine blk_alloc ?_ _)); refine blk_far ?_ NB209_232.out _; (with_reducible repeat (first | refine blk_drewN ?_ _ | refine blk_drew ?_ | refine blk_alloc ?_ _)); exact BK209.out) Tryd.underlying26 rfl (by kernel_rfl)) rfl ?_
                                    exact ⟨by first | rfl | (simp [errW_none, errW_some] <;> rfl) | (simp only [← hji29]; first | rfl | (simp [errW_none, errW_some] <;> rfl)) | (simp [*, errW_none, errW_some] <;> rfl), by repeat (first | (with_reducible first | exact HB.out | apply below_alloc | apply pw_below_drewN | apply below_drew1 | refine below_set ?_ GE209.out | refine below_set ?_ GE222.out | refine below_set ?_ GE232.out) | exact HB.out)⟩
                                · rw [if_neg c31] at H
                                  exact absurd H (by simp)
                              · rw [if_neg c30] at H
                                exact absurd H (by simp)
                            · rw [if_neg c27] at H
                              exact absurd H (by simp)
                          · rw [if_neg c26] at H
                            have c26b0 : decide (x8_2 < ((rdOf ByteArray.empty t218 x5_1).size : Int)) = false := decide_eq_false c26
                            clear c26
                            simp only [Option.some.injEq, Prod.mk.injEq] at H
                            obtain ⟨rfl, rfl, rfl, rfl, rfl, rfl, rfl, rfl⟩ := H
                            have hnb64 := NB222_209.out
                            have hnc64 := NB209_222.out
                            have hcz65_0 : wr.cell? ⟨gb222, 0, none⟩ = some (.int .i64 x223000_2) := (blk_cell BK222.out 0).trans rfl
                            have hcz65_1 : wr.cell? ⟨gb222, 1, none⟩ = some (.int .i64 x223001_2) := (blk_cell BK222.out 1).trans rfl
                            have hcz65_2 : wr.cell? ⟨gb222, 2, none⟩ = some (.int .i64 x223002_2) := (blk_cell BK222.out 2).trans rfl
                            have hcz65_3 : wr.cell? ⟨gb222, 3, none⟩ = some (.int .i64 x223003_2) := (blk_cell BK222.out 3).trans rfl
                            have hcz65_4 : wr.cell? ⟨gb222, 4, none⟩ = some (.int .i64 x223004_2) := (blk_cell BK222.out 4).trans rfl
                            have hcz65_5 : wr.cell? ⟨gb222, 5, none⟩ = some (.int .i64 x223005_2) := (blk_cell BK222.out 5).trans rfl
                            have hcz65_6 : wr.cell? ⟨gb222, 6, none⟩ = some (.int .u64 x223006_2) := (blk_cell BK222.out 6).trans rfl
                            have hfz65_0 := blk_frozen BK222.out 0
                            have hfz65_1 := blk_frozen BK222.out 1
                            have hfz65_2 := blk_frozen BK222.out 2
                            have hfz65_3 := blk_frozen BK222.out 3
                            have hfz65_4 := blk_frozen BK222.out 4
                            have hfz65_5 := blk_frozen BK222.out 5
                            have hfz65_6 := blk_frozen BK222.out 6
                            have hcz66_0 : wr.cell? ⟨gb209, 0, none⟩ = some (.int .i64 x210000_2) := (blk_cell BK209.out 0).trans rfl
                            have hcz66_1 : wr.cell? ⟨gb209, 1, none⟩ = some (.int .i64 x210001_2) := (blk_cell BK209.out 1).trans rfl
                            have hcz66_2 : wr.cell? ⟨gb209, 2, none⟩ = some (.int .i64 x210002_2) := (blk_cell BK209.out 2).trans rfl
                            have hcz66_3 : wr.cell? ⟨gb209, 3, none⟩ = some (.int .i64 x210003_2) := (blk_cell BK209.out 3).trans rfl
                            have hcz66_4 : wr.cell? ⟨gb209, 4, none⟩ = some (.int .i64 x210004_2) := (blk_cell BK209.out 4).trans rfl
                            have hcz66_5 : wr.cell? ⟨gb209, 5, none⟩ = some (.int .i64 x210005_2) := (blk_cell BK209.out 5).trans rfl
                            have hcz66_6 : wr.cell? ⟨gb209, 6, none⟩ = some (.int .u64 x210006_2) := (blk_cell BK209.out 6).trans rfl
                            have hfz66_0 := blk_frozen BK209.out 0
                            have hfz66_1 := blk_frozen BK209.out 1
                            have hfz66_2 := blk_frozen BK209.out 2
                            have hfz66_3 := blk_frozen BK209.out 3
                            have hfz66_4 := blk_frozen BK209.out 4
                            have hfz66_5 := blk_frozen BK209.out 5
                            have hfz66_6 := blk_frozen BK209.out 6
                            go_wp2
                            refine bodyPost_ret (results_ct rfl _ _ gb209 26 #[.int .i64 x223000_2, .int .i64 x223001_2, .int .i64 x223002_2, .int .i64 x223003_2, .int .i64 x223004_2, .int .i64 x223005_2, .int .u64 x223006_2] (0, 0) _ rfl (by (with_reducible repeat (first | refine blk_drewN ?_ _ | refine blk_drew ?_ | refine blk_alloc ?_ _)); refine blk_put (cs := #[.int .i64 x223000_2, .int .i64 x223001_2, .int .i64 x223002_2, .int .i64 x223003_2, .int .i64 x223004_2, .int .i64 x223005_2, .int .u64 x210006_2]) ?_ 6 _ (by first | rfl | simp [*]); (with_reducible repeat (first | refine blk_drewN ?_ _ | refine blk_drew ?_ | refine blk_alloc ?_ _)); refine blk_put (cs := #[.int .i64 x223000_2, .int .i64 x223001_2, .int .i64 x223002_2, .int .i64 x223003_2, .int .i64 x223004_2, .int .i64 x210005_2, .int .u64 x210006_2]) ?_ 5 _ (by first | rfl | simp [*]); (with_reducible repeat (first | refine blk_drewN ?_ _ | refine blk_drew ?_ | refine blk_alloc ?_ _)); refine blk_put (cs := #[.int .i64 x223000_2, .int .i64 x223001_2, .int .i64 x223002_2, .int .i64 x223003_2, .int .i64 x210004_2, .int .i64 x210005_2, .int .u64 x210006_2]) ?_ 4 _ (by first | rfl | simp [*]); (with_reducible repeat (first | refine blk_drewN ?_ _ | refine blk_drew ?_ | refine blk_alloc ?_ _)); refine blk_put (cs := #[.int .i64 x223000_2, .int .i64 x223001_2, .int .i64 x223002_2, .int .i64 x210003_2, .int .i64 x210004_2, .int .i64 x210005_2, .int .u64 x210006_2]) ?_ 3 _ (by first | rfl | simp [*]); (with_reducible repeat (first | refine blk_drewN ?_ _ | refine blk_drew ?_ | refine blk_alloc ?_ _)); refine blk_put (cs := #[.int .i64 x223000_2, .int .i64 x223001_2, .int .i64 x210002_2, .int .i64 x210003_2, .int .i64 x210004_2, .int .i64 x210005_2, .int .u64 x210006_2]) ?_ 2 _ (by first | rfl | simp [*]); (with_reducible repeat (first | refine blk_drewN ?_ _ | refine blk_drew ?_ | refine blk_alloc ?_ _)); refine blk_put (cs := #[.int .i64 x223000_2, .int .i64 x210001_2, .int .i64 x210002_2, .int .i64 x210003_2, .int .i64 x210004_2, .int .i64 x210005_2, .int .u64 x210006_2]) ?_ 1 _ (by first | rfl | simp [*]); (with_reducible repeat (first | refine blk_drewN ?_ _ | refine blk_drew ?_ | refine blk_alloc ?_ _)); refine blk_put (cs := #[.int .i64 x210000_2, .int .i64 x210001_2, .int .i64 x210002_2, .int .i64 x210003_2, .int .i64 x210004_2, .int .i64 x210005_2, .int .u64 x210006_2]) ?_ 0 _ (by first | rfl | simp [*]); (with_reducible repeat (first | refine blk_drewN ?_ _ | refine blk_drew ?_ | refine blk_alloc ?_ _)); exact BK209.out) Tryd.underlying26 rfl (by kernel_rfl)) rfl ?_
                            exact ⟨by first | rfl | (simp [errW_none, errW_some] <;> rfl) | (simp [*, errW_none, errW_some] <;> rfl), by repeat (first | (with_reducible first | exact HB.out | apply below_alloc | apply pw_below_drewN | apply below_drew1 | refine below_set ?_ GE209.out | refine below_set ?_ GE222.out) | exact HB.out)⟩
                    · rw [if_neg c16] at H
                      have c16b0 : ((t210.length : Int) == (wrap64 (((rdOf ByteArray.empty t218 x5_1).size : Int) + 1))) = false := beq_eq_false_iff_ne.mpr c16
                      have c16b1 : ((t210.length : Int) != (wrap64 (((rdOf ByteArray.empty t218 x5_1).size : Int) + 1))) = true := bne_iff_ne.mpr c16
                      simp only [Option.some.injEq, Prod.mk.injEq] at H
                      obtain ⟨rfl, rfl, rfl, rfl, rfl, rfl, rfl, rfl⟩ := H
                      try go_wp2
                      have n0_ := Aside0.mk (Kd.R_drew HO_4.out)
                      have n1_ := Aside0.mk (blk_drew BK209.out)
                      have n2_ := Aside0.mk (below_drew1 HB.out)
                      clear HO_4
                      clear BK209
                      clear HB
                      have HO_4 := n0_
                      have BK209 := n1_
                      have HB := n2_
                      clear n0_ n1_ n2_
                      obtain ⟨Ao68, co68, eo68⟩ := Kd.R_slice HO_4.out
                      (first | subst eo68 | (injection eo68 with f1_ f2_ f3_; have f4_ := f1_.symm; have f5_ := f3_.symm; clear f1_ f2_ f3_; subst f4_; subst f5_))
                      have p217 : 0 ≤ (0 : Int) := (by omega)
                      have q217 : 0 < (t210.length : Int) := of_decide_eq_true (by first | (with_reducible assumption) | assumption)
                      obtain ⟨ad217, e217, hx217_0⟩ := Kd.at_string (Kd.R_reads' HO_4.out).2.2 0 p217 q217
                      cases e217
                      have qi217 : (0 < t210.length) = True := eq_true (by omega)
                      (try rw [show ((0 : Int)).toNat = 0 from rfl] at hx217_0)
                      (try rw [Addr.add_zero'] at hx217_0)
                      replace p217 := eq_true p217
                      replace q217 := eq_true q217
                      refine start_ (n := 8) (S := fun w' => w'.cell? ad217 = some (.string (rdOf ByteArray.empty t210 0))) (ds := []) #[false, false, false, false, false, false, false, false] (by kernel_rfl) rfl rfl hx217_0 (fun hHeld => ?_); refine with_tabW turnspitref15_Parse.tab7 turnspitref15_Parse.bits7 (fun HT_ HW_ => ?_)
                      generalize wr.drew = w67 at HO_4 BK209 HB hx217_0 hHeld ⊢
                      refine pure_ (i := 1) (N := some 22) (v := ?_) (a' := ?_) #[false, true, false, false, false, false, false, false] rfl rfl (any_of HT_.out (by kernel_rfl)) (fun _ _ _ h => h) (Or.inl ⟨by rfl, ?_⟩) ?_ ?_
                      rotate_left
                      · intro w'
                        go_simp
                        with_reducible rfl
                      rotate_left
                      · simp only [Act.put, List.setIfInBounds_toArray, List.set_cons_zero, List.set_cons_succ, i64_w, i32_w]
                        rfl
                      refine pure_ (i := 4) (N := some 25) (v := ?_) (a' := ?_) #[false, true, false, false, true, false, false, false] rfl rfl (any_of HT_.out (by kernel_rfl)) (fun _ _ _ h => h) (Or.inl ⟨by rfl, ?_⟩) ?_ ?_
                      rotate_left
                      · intro w'
                        go_simp
                        with_reducible rfl
                      rotate_left
                      · simp only [Act.put, List.setIfInBounds_toArray, List.set_cons_zero, List.set_cons_succ, i64_w, i32_w]
                        rfl
                      refine pure_ (i := 5) (N := some 26) (v := ?_) (a' := ?_) #[false, true, false, false, true, true, false, false] rfl rfl (any_of HT_.out (by kernel_rfl)) (fun _ _ _ h => h) (Or.inl ⟨by rfl, ?_⟩) ?_ ?_
                      rotate_left
                      · intro w'
                        go_simp
                        with_reducible rfl
                      rotate_left
                      · simp only [Act.put, List.setIfInBounds_toArray, List.set_cons_zero, List.set_cons_succ, i64_w, i32_w]
                        rfl
                      refine take_ (i := 6) (N := some 27) (v := ?_) (a' := ?_) #[false, true, false, false, true, true, true, false] rfl rfl (take_ofW HT_.out HW_.out (by kernel_rfl)) (fun _ _ _ h => h) (Or.inl ⟨by rfl, ?_⟩) hHeld ?_ ?_
                      rotate_left
                      · rintro w' s0
                        go_simp
                        with_reducible rfl
                      rotate_left
                      · simp only [Act.put, List.setIfInBounds_toArray, List.set_cons_zero, List.set_cons_succ, i64_w, i32_w]
                        rfl
                      refine one_ (i := 0) (N := some 21) #[true, true, false, false, true, true, true, false] rfl rfl (one_of HT_.out (by kernel_rfl)) (by decide) (fun K hK => ?_)
                      refine goes_ Tryd.func21 (by kernel_rfl) rfl #[] (by rfl) rfl rfl (by (try simp only [List.map_toArray, List.map_cons, List.map_nil]); first | done | rfl | (simp only [List.length_drop, List.length_take]; rfl)) ?_
                      with_reducible refine (turnspitref15_names.calls  t213 _ ?side1 A9.out).mono ?_
                      (case side1 => first | exact HLd | (refine Ld.below HLd ?_; repeat (first | (with_reducible first | exact HB.out | apply below_alloc | apply pw_below_drewN | apply below_drew1 | refine below_set ?_ GE209.out) | exact HB.out)))
                      rintro e w69 ⟨v214, rfl, ho0, hb⟩
                      have HS0_ := (hb.cell (World.block_lt_of_cell? _ _ hHeld)).trans hHeld
                      refine ⟨_, rfl, ?_⟩
                      have n0_ := Aside0.mk (Kd.R_elder' (by (with_reducible repeat (first | apply Kd.R_alloc | apply Kd.R_drewN | apply Kd.R_drew)); exact HO_4.out) (Kd.R_base ho0) hb)
                      have n1_ := Aside0.mk (Kd.R_lower (Kd.R_new' ho0 (Kd.R_lt (by (with_reducible repeat (first | apply Kd.R_alloc | apply Kd.R_drewN | apply Kd.R_drew)); exact HO_4.out))) (below_size (by repeat (first | (with_reducible first | exact HB.out | apply below_alloc | apply pw_below_drewN | apply below_drew1 | refine below_set ?_ GE209.out) | exact HB.out))))
                      have n2_ := Aside0.mk (blk_below (g := gb209) (o := .cells #[.int .i64 x210000_1, .int .i64 x210001_1, .int .i64 x210002_1, .int .i64 x210003_1, .int .i64 x210004_1, .int .i64 x210005_1, .int .u64 x210006_1] 26 (0, 0)) (by (with_reducible repeat (first | refine blk_drewN ?_ _ | refine blk_drew ?_ | refine blk_alloc ?_ _)); exact BK209.out) hb)
                      have n3_ := Aside0.mk (below_step (by repeat (first | (with_reducible first | exact HB.out | apply below_alloc | apply pw_below_drewN | apply below_drew1 | refine below_set ?_ GE209.out) | exact HB.out)) hb)
                      clear HO_4
                      clear BK209
                      clear HB
                      have HO_4 := n0_
                      have HO215 := n1_
                      have BK209 := n2_
                      have HB := n3_
                      clear n0_ n1_ n2_ n3_
                      (try clear hb)
                      (try clear hb2)
                      (try clear hk)
                      (try clear hi)
                      (try clear ho0)
                      obtain ⟨Ao70, co70, eo70⟩ := Kd.R_slice HO215.out
                      (first | subst eo70 | (injection eo70 with f1_ f2_ f3_; have f4_ := f1_.symm; have f5_ := f3_.symm; clear f1_ f2_ f3_; subst f4_; subst f5_))
                      have p216 : 0 ≤ (x5_1 : Int) := of_decide_eq_true (by first | (with_reducible assumption) | assumption)
                      have q216 : x5_1 < (t213.length : Int) := of_decide_eq_true (by first | (with_reducible assumption) | assumption)
                      obtain ⟨ad216, e216, hx216_0⟩ := Kd.at_string (Kd.R_reads' HO215.out).2.2 x5_1 p216 q216
                      cases e216
                      replace p216 := eq_true p216
                      replace q216 := eq_true q216
                      refine hK.out _ _ HS0_ (fun hHeld => ?_)
                      clear hK K
                      refine norm_ (a' := ?_) ?_ ?_
                      rotate_left
                      · show Act.put _ (some 21) _ = _
                        simp only [Act.put, List.setIfInBounds_toArray, List.set_cons_zero, List.set_cons_succ, i64_w, i32_w]
                        rfl
                      refine pure_ (i := 2) (N := some 23) (v := ?_) (a' := ?_) #[true, true, true, false, true, true, true, false] rfl rfl (any_of HT_.out (by kernel_rfl)) (fun _ _ _ h => h) (Or.inl ⟨by rfl, ?_⟩) ?_ ?_
                      rotate_left
                      · intro w'
                        go_simp
                        with_reducible rfl
                      rotate_left
                      · simp only [Act.put, List.setIfInBounds_toArray, List.set_cons_zero, List.set_cons_succ, i64_w, i32_w]
                        rfl
                      refine one_ (i := 3) (N := some 24) #[true, true, true, true, true, true, true, false] rfl rfl (by kernel_rfl) (by decide) (fun K hK => ?_)
                      go_simp
                      refine hK.out _ _ hHeld (fun hHeld => ?_)
                      clear hK K
                      refine pure_ (i := 7) (N := some 28) (v := ?_) (a' := ?_) #[true, true, true, true, true, true, true, true] rfl rfl (any_of HT_.out (by kernel_rfl)) (fun _ _ _ h => h) (Or.inl ⟨by rfl, ?_⟩) ?_ ?_
                      rotate_left
                      · intro w'
                        go_simp
                        with_reducible rfl
                      rotate_left
                      · simp only [Act.put, List.setIfInBounds_toArray, List.set_cons_zero, List.set_cons_succ, i64_w, i32_w]
                        rfl
                      refine done_ (done_of HT_.out (by kernel_rfl)) ?_
                      try go_wp2_with (first | ((with_reducible refine gate_callee (f := 22) rfl ?_); refine goesL_ (some 29) rfl rfl Tryd.func22 (by kernel_rfl) rfl #[] rfl (by (try simp only [List.map_toArray, List.map_cons, List.map_nil]); first | done | rfl | (simp only [List.length_drop, List.length_take]; rfl)) ?_; (with_reducible refine (turnspitref15_told.calls  t218 _ ?side1 A14.out).mono ?_); (case side1 => first | exact HLd | (refine Ld.below HLd ?_; repeat (first | (with_reducible first | exact HB.out | apply below_alloc | apply pw_below_drewN | apply below_drew1 | refine below_set ?_ GE209.out) | exact HB.out))); rintro e w71 ⟨v219, rfl, ho0, hb⟩; refine ⟨_, rfl, ?_⟩; have n0_ := Aside0.mk (Kd.R_elder' (by (with_reducible repeat (first | apply Kd.R_alloc | apply Kd.R_drewN | apply Kd.R_drew)); exact HO_4.out) (Kd.R_base ho0) hb); have n1_ := Aside0.mk (Kd.R_elder' (by (with_reducible repeat (first | apply Kd.R_alloc | apply Kd.R_drewN | apply Kd.R_drew)); exact HO215.out) (Kd.R_base ho0) hb); have n2_ := Aside0.mk (Kd.R_lower (Kd.R_new' (Kd.R_new' ho0 (Kd.R_lt (by (with_reducible repeat (first | apply Kd.R_alloc | apply Kd.R_drewN | apply Kd.R_drew)); exact HO_4.out))) (Kd.R_lt (by (with_reducible repeat (first | apply Kd.R_alloc | apply Kd.R_drewN | apply Kd.R_drew)); exact HO215.out))) (below_size (by repeat (first | (with_reducible first | exact HB.out | apply below_alloc | apply pw_below_drewN | apply below_drew1 | refine below_set ?_ GE209.out) | exact HB.out)))); have n3_ := Aside0.mk (blk_below (g := gb209) (o := .cells #[.int .i64 x210000_1, .int .i64 x210001_1, .int .i64 x210002_1, .int .i64 x210003_1, .int .i64 x210004_1, .int .i64 x210005_1, .int .u64 x210006_1] 26 (0, 0)) (by (with_reducible repeat (first | refine blk_drewN ?_ _ | refine blk_drew ?_ | refine blk_alloc ?_ _)); exact BK209.out) hb); have n4_ := Aside0.mk (below_step (by repeat (first | (with_reducible first | exact HB.out | apply below_alloc | apply pw_below_drewN | apply below_drew1 | refine below_set ?_ GE209.out) | exact HB.out)) hb); clear HO_4; clear HO215; clear BK209; clear HB; have HO_4 := n0_; have HO215 := n1_; have HO220 := n2_; have BK209 := n3_; have HB := n4_; clear n0_ n1_ n2_ n3_ n4_; (try clear hb); (try clear hb2); (try clear hk); (try clear hi); (try clear ho0); obtain ⟨Ao72, co72, eo72⟩ := Kd.R_slice HO220.out; subst eo72; have p221 : 0 ≤ (x5_1 : Int) := of_decide_eq_true (by first | (with_reducible assumption) | assumption); have q221 : x5_1 < (t218.length : Int) := of_decide_eq_true (by first | (with_reducible assumption) | assumption); obtain ⟨ad221, e221, hx221_0⟩ := Kd.at_string (Kd.R_reads' HO220.out).2.2 x5_1 p221 q221; cases e221; replace p221 := eq_true p221; replace q221 := eq_true q221; have hcz73_0 : w71.cell? ⟨gb209, 0, none⟩ = some (.int .i64 x210000_1) := (blk_cell BK209.out 0).trans rfl; have hcz73_1 : w71.cell? ⟨gb209, 1, none⟩ = some (.int .i64 x210001_1) := (blk_cell BK209.out 1).trans rfl; have hcz73_2 : w71.cell? ⟨gb209, 2, none⟩ = some (.int .i64 x210002_1) := (blk_cell BK209.out 2).trans rfl; have hcz73_3 : w71.cell? ⟨gb209, 3, none⟩ = some (.int .i64 x210003_1) := (blk_cell BK209.out 3).trans rfl; have hcz73_4 : w71.cell? ⟨gb209, 4, none⟩ = some (.int .i64 x210004_1) := (blk_cell BK209.out 4).trans rfl; have hcz73_5 : w71.cell? ⟨gb209, 5, none⟩ = some (.int .i64 x210005_1) := (blk_cell BK209.out 5).trans rfl; have hcz73_6 : w71.cell? ⟨gb209, 6, none⟩ = some (.int .u64 x210006_1) := (blk_cell BK209.out 6).trans rfl; have hfz73_0 := blk_frozen BK209.out 0; have hfz73_1 := blk_frozen BK209.out 1; have hfz73_2 := blk_frozen BK209.out 2; have hfz73_3 := blk_frozen BK209.out 3; have hfz73_4 := blk_frozen BK209.out 4; have hfz73_5 := blk_frozen BK209.out 5; have hfz73_6 := blk_frozen BK209.out 6))
                      refine bodyPost_ret (results_ct rfl _ _ gb209 26 #[.int .i64 0, .int .i64 0, .int .i64 0, .int .i64 0, .int .i64 0, .int .i64 0, .int .u64 0] (0, 0) _ rfl (by (with_reducible repeat (first | refine blk_drewN ?_ _ | refine blk_drew ?_ | refine blk_alloc ?_ _)); refine blk_put (cs := #[.int .i64 0, .int .i64 0, .int .i64 0, .int .i64 0, .int .i64 0, .int .i64 0, .int .u64 x210006_1]) ?_ 6 _ (by first | rfl | simp [*]); (with_reducible repeat (first | refine blk_drewN ?_ _ | refine blk_drew ?_ | refine blk_alloc ?_ _)); refine blk_put (cs := #[.int .i64 0, .int .i64 0, .int .i64 0, .int .i64 0, .int .i64 0, .int .i64 x210005_1, .int .u64 x210006_1]) ?_ 5 _ (by first | rfl | simp [*]); (with_reducible repeat (first | refine blk_drewN ?_ _ | refine blk_drew ?_ | refine blk_alloc ?_ _)); refine blk_put (cs := #[.int .i64 0, .int .i64 0, .int .i64 0, .int .i64 0, .int .i64 x210004_1, .int .i64 x210005_1, .int .u64 x210006_1]) ?_ 4 _ (by first | rfl | simp [*]); (with_reducible repeat (first | refine blk_drewN ?_ _ | refine blk_drew ?_ | refine blk_alloc ?_ _)); refine blk_put (cs := #[.int .i64 0, .int .i64 0, .int .i64 0, .int .i64 x210003_1, .int .i64 x210004_1, .int .i64 x210005_1, .int .u64 x210006_1]) ?_ 3 _ (by first | rfl | simp [*]); (with_reducible repeat (first | refine blk_drewN ?_ _ | refine blk_drew ?_ | refine blk_alloc ?_ _)); refine blk_put (cs := #[.int .i64 0, .int .i64 0, .int .i64 x210002_1, .int .i64 x210003_1, .int .i64 x210004_1, .int .i64 x210005_1, .int .u64 x210006_1]) ?_ 2 _ (by first | rfl | simp [*]); (with_reducible repeat (first | refine blk_drewN ?_ _ | refine blk_drew ?_ | refine blk_alloc ?_ _)); refine blk_put (cs := #[.int .i64 0, .int .i64 x210001_1, .int .i64 x210002_1, .int .i64 x210003_1, .int .i64 x210004_1, .int .i64 x210005_1, .int .u64 x210006_1]) ?_ 1 _ (by first | rfl | simp [*]); (with_reducible repeat (first | refine blk_drewN ?_ _ | refine blk_drew ?_ | refine blk_alloc ?_ _)); refine blk_put (cs := #[.int .i64 x210000_1, .int .i64 x210001_1, .int .i64 x210002_1, .int .i64 x210003_1, .int .i64 x210004_1, .int .i64 x210005_1, .int .u64 x210006_1]) ?_ 0 _ (by first | rfl | simp [*]); (with_reducible repeat (first | refine blk_drewN ?_ _ | refine blk_drew ?_ | refine blk_alloc ?_ _)); exact BK209.out) Tryd.underlying26 rfl (by kernel_rfl)) rfl ?_
                      exact ⟨by first | rfl | (simp [errW_none, errW_some] <;> rfl) | (simp [*, errW_none, errW_some] <;> rfl), by repeat (first | (with_reducible first | exact HB.out | apply below_alloc | apply pw_below_drewN | apply below_drew1 | refine below_set ?_ GE209.out) | exact HB.out)⟩
                  · rw [if_neg c15] at H
                    exact absurd H (by simp)
                · rw [if_neg c13] at H
                  have c13b0 : ((rdOf ByteArray.empty t213 x5_1).toList == (rdOf ByteArray.empty t210 0).toList) = false := beq_eq_false_iff_ne.mpr c13
                  have c13b1 : ((rdOf ByteArray.empty t213 x5_1).toList != (rdOf ByteArray.empty t210 0).toList) = true := bne_iff_ne.mpr c13
                  have H' := Aside0.mk H
                  clear H
                  try go_wp2
                  have n0_ := Aside0.mk (Kd.R_drew HO_4.out)
                  have n1_ := Aside0.mk (blk_drew BK209.out)
                  have n2_ := Aside0.mk (below_drew1 HB.out)
                  clear HO_4
                  clear BK209
                  clear HB
                  have HO_4 := n0_
                  have BK209 := n1_
                  have HB := n2_
                  clear n0_ n1_ n2_
                  obtain ⟨Ao75, co75, eo75⟩ := Kd.R_slice HO_4.out
                  (first | subst eo75 | (injection eo75 with f1_ f2_ f3_; have f4_ := f1_.symm; have f5_ := f3_.symm; clear f1_ f2_ f3_; subst f4_; subst f5_))
                  have p217 : 0 ≤ (0 : Int) := (by omega)
                  have q217 : 0 < (t210.length : Int) := of_decide_eq_true (by first | (with_reducible assumption) | assumption)
                  obtain ⟨ad217, e217, hx217_0⟩ := Kd.at_string (Kd.R_reads' HO_4.out).2.2 0 p217 q217
                  cases e217
                  have qi217 : (0 < t210.length) = True := eq_true (by omega)
                  (try rw [show ((0 : Int)).toNat = 0 from rfl] at hx217_0)
                  (try rw [Addr.add_zero'] at hx217_0)
                  replace p217 := eq_true p217
                  replace q217 := eq_true q217
                  refine start_ (n := 8) (S := fun w' => w'.cell? ad217 = some (.string (rdOf ByteArray.empty t210 0))) (ds := []) #[false, false, false, false, false, false, false, false] (by kernel_rfl) rfl rfl hx217_0 (fun hHeld => ?_); refine with_tabW turnspitref15_Parse.tab7 turnspitref15_Parse.bits7 (fun HT_ HW_ => ?_)
                  generalize wr.drew = w74 at HO_4 BK209 HB hx217_0 hHeld ⊢
                  refine pure_ (i := 1) (N := some 22) (v := ?_) (a' := ?_) #[false, true, false, false, false, false, false, false] rfl rfl (any_of HT_.out (by kernel_rfl)) (fun _ _ _ h => h) (Or.inl ⟨by rfl, ?_⟩) ?_ ?_
                  rotate_left
                  · intro w'
                    go_simp
                    with_reducible rfl
                  rotate_left
                  · simp only [Act.put, List.setIfInBounds_toArray, List.set_cons_zero, List.set_cons_succ, i64_w, i32_w]
                    rfl
                  refine pure_ (i := 4) (N := some 25) (v := ?_) (a' := ?_) #[false, true, false, false, true, false, false, false] rfl rfl (any_of HT_.out (by kernel_rfl)) (fun _ _ _ h => h) (Or.inl ⟨by rfl, ?_⟩) ?_ ?_
                  rotate_left
                  · intro w'
                    go_simp
                    with_reducible rfl
                  rotate_left
                  · simp only [Act.put, List.setIfInBounds_toArray, List.set_cons_zero, List.set_cons_succ, i64_w, i32_w]
                    rfl
                  refine pure_ (i := 5) (N := some 26) (v := ?_) (a' := ?_) #[false, true, false, false, true, true, false, false] rfl rfl (any_of HT_.out (by kernel_rfl)) (fun _ _ _ h => h) (Or.inl ⟨by rfl, ?_⟩) ?_ ?_
                  rotate_left
                  · intro w'
                    go_simp
                    with_reducible rfl
                  rotate_left
                  · simp only [Act.put, List.setIfInBounds_toArray, List.set_cons_zero, List.set_cons_succ, i64_w, i32_w]
                    rfl
                  refine take_ (i := 6) (N := some 27) (v := ?_) (a' := ?_) #[false, true, false, false, true, true, true, false] rfl rfl (take_ofW HT_.out HW_.out (by kernel_rfl)) (fun _ _ _ h => h) (Or.inl ⟨by rfl, ?_⟩) hHeld ?_ ?_
                  rotate_left
                  · rintro w' s0
                    go_simp
                    with_reducible rfl
                  rotate_left
                  · simp only [Act.put, List.setIfInBounds_toArray, List.set_cons_zero, List.set_cons_succ, i64_w, i32_w]
                    rfl
                  refine one_ (i := 0) (N := some 21) #[true, true, false, false, true, true, true, false] rfl rfl (one_of HT_.out (by kernel_rfl)) (by decide) (fun K hK => ?_)
                  refine goes_ Tryd.func21 (by kernel_rfl) rfl #[] (by rfl) rfl rfl (by (try simp only [List.map_toArray, List.map_cons, List.map_nil]); first | done | rfl | (simp only [List.length_drop, List.length_take]; rfl)) ?_
                  with_reducible refine (turnspitref15_names.calls  t213 _ ?side1 A9.out).mono ?_
                  (case side1 => first | exact HLd | (refine Ld.below HLd ?_; repeat (first | (with_reducible first | exact HB.out | apply below_alloc | apply pw_below_drewN | apply below_drew1 | refine below_set ?_ GE209.out) | exact HB.out)))
                  rintro e w76 ⟨v214, rfl, ho0, hb⟩
                  have HS0_ := (hb.cell (World.block_lt_of_cell? _ _ hHeld)).trans hHeld
                  refine ⟨_, rfl, ?_⟩
                  have n0_ := Aside0.mk (Kd.R_elder' (by (with_reducible repeat (first | apply Kd.R_alloc | apply Kd.R_drewN | apply Kd.R_drew)); exact HO_4.out) (Kd.R_base ho0) hb)
                  have n1_ := Aside0.mk (Kd.R_lower (Kd.R_new' ho0 (Kd.R_lt (by (with_reducible repeat (first | apply Kd.R_alloc | apply Kd.R_drewN | apply Kd.R_drew)); exact HO_4.out))) (below_size (by repeat (first | (with_reducible first | exact HB.out | apply below_alloc | apply pw_below_drewN | apply below_drew1 | refine below_set ?_ GE209.out) | exact HB.out))))
                  have n2_ := Aside0.mk (blk_below (g := gb209) (o := .cells #[.int .i64 x210000_1, .int .i64 x210001_1, .int .i64 x210002_1, .int .i64 x210003_1, .int .i64 x210004_1, .int .i64 x210005_1, .int .u64 x210006_1] 26 (0, 0)) (by (with_reducible repeat (first | refine blk_drewN ?_ _ | refine blk_drew ?_ | refine blk_alloc ?_ _)); exact BK209.out) hb)
                  have n3_ := Aside0.mk (below_step (by repeat (first | (with_reducible first | exact HB.out | apply below_alloc | apply pw_below_drewN | apply below_drew1 | refine below_set ?_ GE209.out) | exact HB.out)) hb)
                  clear HO_4
                  clear BK209
                  clear HB
                  have HO_4 := n0_
                  have HO215 := n1_
                  have BK209 := n2_
                  have HB := n3_
                  clear n0_ n1_ n2_ n3_
                  (try clear hb)
                  (try clear hb2)
                  (try clear hk)
                  (try clear hi)
                  (try clear ho0)
                  obtain ⟨Ao77, co77, eo77⟩ := Kd.R_slice HO215.out
                  (first | subst eo77 | (injection eo77 with f1_ f2_ f3_; have f4_ := f1_.symm; have f5_ := f3_.symm; clear f1_ f2_ f3_; subst f4_; subst f5_))
                  have p216 : 0 ≤ (x5_1 : Int) := of_decide_eq_true (by first | (with_reducible assumption) | assumption)
                  have q216 : x5_1 < (t213.length : Int) := of_decide_eq_true (by first | (with_reducible assumption) | assumption)
                  obtain ⟨ad216, e216, hx216_0⟩ := Kd.at_string (Kd.R_reads' HO215.out).2.2 x5_1 p216 q216
                  cases e216
                  replace p216 := eq_true p216
                  replace q216 := eq_true q216
                  refine hK.out _ _ HS0_ (fun hHeld => ?_)
                  clear hK K
                  refine norm_ (a' := ?_) ?_ ?_
                  rotate_left
                  · show Act.put _ (some 21) _ = _
                    simp only [Act.put, List.setIfInBounds_toArray, List.set_cons_zero, List.set_cons_succ, i64_w, i32_w]
                    rfl
                  refine pure_ (i := 2) (N := some 23) (v := ?_) (a' := ?_) #[true, true, true, false, true, true, true, false] rfl rfl (any_of HT_.out (by kernel_rfl)) (fun _ _ _ h => h) (Or.inl ⟨by rfl, ?_⟩) ?_ ?_
                  rotate_left
                  · intro w'
                    go_simp
                    with_reducible rfl
                  rotate_left
                  · simp only [Act.put, List.setIfInBounds_toArray, List.set_cons_zero, List.set_cons_succ, i64_w, i32_w]
                    rfl
                  refine one_ (i := 3) (N := some 24) #[true, true, true, true, true, true, true, false] rfl rfl (by kernel_rfl) (by decide) (fun K hK => ?_)
                  go_simp
                  refine hK.out _ _ hHeld (fun hHeld => ?_)
                  clear hK K
                  refine pure_ (i := 7) (N := some 28) (v := ?_) (a' := ?_) #[true, true, true, true, true, true, true, true] rfl rfl (any_of HT_.out (by kernel_rfl)) (fun _ _ _ h => h) (Or.inl ⟨by rfl, ?_⟩) ?_ ?_
                  rotate_left
                  · intro w'
                    go_simp
                    with_reducible rfl
                  rotate_left
                  · simp only [Act.put, List.setIfInBounds_toArray, List.set_cons_zero, List.set_cons_succ, i64_w, i32_w]
                    rfl
                  refine done_ (done_of HT_.out (by kernel_rfl)) ?_
                  try go_wp2
                  go_roundg k1
                  case measure => have := HK1.out; omega
                  case rel => exact ⟨(wrap64 (x5_1 + 1)), (x210000_1), (x210001_1), (x210002_1), (x210003_1), (x210004_1), (x210005_1), (x210006_1), (by first | rfl | (simp; done) | (simp [*]; done)), H', ⟨by have := HK1.out; omega⟩, ⟨by (with_reducible repeat (first | apply Kd.R_alloc | apply Kd.R_drewN | apply Kd.R_drew)); exact Kd.R_mono HO_4.out (fun _ hk => trivial)⟩, ⟨by (with_reducible repeat (first | refine blk_drewN ?_ _ | refine blk_drew ?_ | refine blk_alloc ?_ _)); exact BK209.out⟩, ⟨by repeat (first | (with_reducible first | exact HB.out | apply below_alloc | apply pw_below_drewN | apply below_drew1 | refine below_set ?_ GE209.out) | exact HB.out)⟩⟩
              · rw [if_neg c12] at H
                exact absurd H (by simp)
            · rw [if_neg c11] at H
              exact absurd H (by simp)
          · rw [if_neg c10] at H
            exact absurd H (by simp)
        · rw [if_neg c8] at H
          have c8b0 : decide (x5_1 < 13) = false := decide_eq_false c8
          clear c8
          simp only [Option.some.injEq, Prod.mk.injEq] at H
          obtain ⟨rfl, rfl, rfl, rfl, rfl, rfl, rfl, rfl⟩ := H
          have hcz78_0 : wr.cell? ⟨gb209, 0, none⟩ = some (.int .i64 x210000_1) := (blk_cell BK209.out 0).trans rfl
          have hcz78_1 : wr.cell? ⟨gb209, 1, none⟩ = some (.int .i64 x210001_1) := (blk_cell BK209.out 1).trans rfl
          have hcz78_2 : wr.cell? ⟨gb209, 2, none⟩ = some (.int .i64 x210002_1) := (blk_cell BK209.out 2).trans rfl
          have hcz78_3 : wr.cell? ⟨gb209, 3, none⟩ = some (.int .i64 x210003_1) := (blk_cell BK209.out 3).trans rfl
          have hcz78_4 : wr.cell? ⟨gb209, 4, none⟩ = some (.int .i64 x210004_1) := (blk_cell BK209.out 4).trans rfl
          have hcz78_5 : wr.cell? ⟨gb209, 5, none⟩ = some (.int .i64 x210005_1) := (blk_cell BK209.out 5).trans rfl
          have hcz78_6 : wr.cell? ⟨gb209, 6, none⟩ = some (.int .u64 x210006_1) := (blk_cell BK209.out 6).trans rfl
          have hfz78_0 := blk_frozen BK209.out 0
          have hfz78_1 := blk_frozen BK209.out 1
          have hfz78_2 := blk_frozen BK209.out 2
          have hfz78_3 := blk_frozen BK209.out 3
          have hfz78_4 := blk_frozen BK209.out 4
          have hfz78_5 := blk_frozen BK209.out 5
          have hfz78_6 := blk_frozen BK209.out 6
          go_wp2
          refine bodyPost_ret (results_ct rfl _ _ gb209 26 #[.int .i64 0, .int .i64 0, .int .i64 0, .int .i64 0, .int .i64 0, .int .i64 0, .int .u64 0] (0, 0) _ rfl (by (with_reducible repeat (first | refine blk_drewN ?_ _ | refine blk_drew ?_ | refine blk_alloc ?_ _)); refine blk_put (cs := #[.int .i64 0, .int .i64 0, .int .i64 0, .int .i64 0, .int .i64 0, .int .i64 0, .int .u64 x210006_1]) ?_ 6 _ (by first | rfl | simp [*]); (with_reducible repeat (first | refine blk_drewN ?_ _ | refine blk_drew ?_ | refine blk_alloc ?_ _)); refine blk_put (cs := #[.int .i64 0, .int .i64 0, .int .i64 0, .int .i64 0, .int .i64 0, .int .i64 x210005_1, .int .u64 x210006_1]) ?_ 5 _ (by first | rfl | simp [*]); (with_reducible repeat (first | refine blk_drewN ?_ _ | refine blk_drew ?_ | refine blk_alloc ?_ _)); refine blk_put (cs := #[.int .i64 0, .int .i64 0, .int .i64 0, .int .i64 0, .int .i64 x210004_1, .int .i64 x210005_1, .int .u64 x210006_1]) ?_ 4 _ (by first | rfl | simp [*]); (with_reducible repeat (first | refine blk_drewN ?_ _ | refine blk_drew ?_ | refine blk_alloc ?_ _)); refine blk_put (cs := #[.int .i64 0, .int .i64 0, .int .i64 0, .int .i64 x210003_1, .int .i64 x210004_1, .int .i64 x210005_1, .int .u64 x210006_1]) ?_ 3 _ (by first | rfl | simp [*]); (with_reducible repeat (first | refine blk_drewN ?_ _ | refine blk_drew ?_ | refine blk_alloc ?_ _)); refine blk_put (cs := #[.int .i64 0, .int .i64 0, .int .i64 x210002_1, .int .i64 x210003_1, .int .i64 x210004_1, .int .i64 x210005_1, .int .u64 x210006_1]) ?_ 2 _ (by first | rfl | simp [*]); (with_reducible repeat (first | refine blk_drewN ?_ _ | refine blk_drew ?_ | refine blk_alloc ?_ _)); refine blk_put (cs := #[.int .i64 0, .int .i64 x210001_1, .int .i64 x210002_1, .int .i64 x210003_1, .int .i64 x210004_1, .int .i64 x210005_1, .int .u64 x210006_1]) ?_ 1 _ (by first | rfl | simp [*]); (with_reducible repeat (first | refine blk_drewN ?_ _ | refine blk_drew ?_ | refine blk_alloc ?_ _)); refine blk_put (cs := #[.int .i64 x210000_1, .int .i64 x210001_1, .int .i64 x210002_1, .int .i64 x210003_1, .int .i64 x210004_1, .int .i64 x210005_1, .int .u64 x210006_1]) ?_ 0 _ (by first | rfl | simp [*]); (with_reducible repeat (first | refine blk_drewN ?_ _ | refine blk_drew ?_ | refine blk_alloc ?_ _)); exact BK209.out) Tryd.underlying26 rfl (by kernel_rfl)) rfl ?_
          exact ⟨by first | rfl | (simp [errW_none, errW_some] <;> rfl) | (simp [*, errW_none, errW_some] <;> rfl), by repeat (first | (with_reducible first | exact HB.out | apply below_alloc | apply pw_below_drewN | apply below_drew1 | refine below_set ?_ GE209.out) | exact HB.out)⟩

end Go.Proofs.YtilmbpdfdickoaaDoor.Print

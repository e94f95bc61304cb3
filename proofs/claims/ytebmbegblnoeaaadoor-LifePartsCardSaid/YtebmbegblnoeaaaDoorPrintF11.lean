-- Written for this claim by a program out of the translation. Lean checks it.
import Derived.Test.YtebmbegblnoeaaaDoorPrint0
import Derived.Test.YtebmbegblnoeaaaDoorPrintF31
import Derived.Test.YtebmbegblnoeaaaDoorPrintF28
import Derived.Test.YtebmbegblnoeaaaDoorPrintF29
import Derived.Test.YtebmbegblnoeaaaDoorPrintF30
namespace Go.Proofs.YtebmbegblnoeaaaDoor.Print
open Go.RowKit Go.Proofs.YtebmbegblnoeaaaDoor Go.Proofs.YtebmbegblnoeaaaDoor.Given Go.Proofs.YtebmbegblnoeaaaDoorW.PrintWords Go.Proofs.YtebmbegblnoeaaaDoorW.PrintLast Go.Proofs.YtebmbegblnoeaaaDoorW.PrintMore
attribute [local go_sem] max2_int min2_int max_two min_two max_three min_three max_four min_four   -- for this text's walks alone
set_option linter.unusedVariables false
set_option linter.unusedSimpArgs false

/-! ### turnspitref07_Next: function 11 -/
mutual
def turnspitref07_Next.j0 : Nat → Int → Int → Bool → Int → Int → Bool → Int → Int → Option (Int × Int)
  | 0, _, _, _, _, _, _, _, _ => none
  | k + 1, x1, x2, x32, x123000, x123001, x123002, x123003, x123004 => if x32 = true then (some (0, 1)) else ((turnspitref07_of.f k x123000 x123001 x123002 x123003 x123004 x1).bind fun t123 => (if t123 = true then (if x1 = 0 then (turnspitref07_Next.j1 k x1 x2 (x123004 == 4294967295) x123000 x123001 x123002 x123003 x123004) else (turnspitref07_Next.j1 k x1 x2 false x123000 x123001 x123002 x123003 x123004)) else (some (0, 4))))
def turnspitref07_Next.j1 : Nat → Int → Int → Bool → Int → Int → Bool → Int → Int → Option (Int × Int)
  | 0, _, _, _, _, _, _, _, _ => none
  | k + 1, x1, x2, x43, x123000, x123001, x123002, x123003, x123004 => if x43 = true then (some (0, 5)) else ((turnspitref07_comes.f x1).bind fun t124 => (if x1 = 0 then ((turnspitref06_Pack.f t124 x2 (x1 == 8) 0 (wrap64 (x123004 + 1))).bind fun bt125 => (some (bt125.1, bt125.2))) else (if x1 = 1 then ((turnspitref06_Pack.f t124 0 (x1 == 8) 0 x123004).bind fun bt127 => (some (bt127.1, bt127.2))) else (if x1 = 2 then ((turnspitref06_Pack.f t124 x123001 (x1 == 8) (Int.tmod (wrap64 (x123003 + 1)) 65536) x123004).bind fun bt129 => (some (bt129.1, bt129.2))) else (if x1 = 11 then ((turnspitref06_Pack.f t124 x2 (x1 == 8) x123003 x123004).bind fun bt131 => (some (bt131.1, bt131.2))) else (if x1 = 12 then ((turnspitref06_Pack.f t124 x2 (x1 == 8) x123003 x123004).bind fun bt133 => (some (bt133.1, bt133.2))) else (if x1 = 13 then ((turnspitref06_Pack.f t124 x2 (x1 == 8) x123003 x123004).bind fun bt135 => (some (bt135.1, bt135.2))) else (if x1 = 15 then ((turnspitref06_Pack.f t124 x2 (x1 == 8) x123003 x123004).bind fun bt137 => (some (bt137.1, bt137.2))) else ((turnspitref06_Pack.f t124 x123001 (x1 == 8) x123003 x123004).bind fun bt139 => (some (bt139.1, bt139.2)))))))))))
end
def turnspitref07_Next.f (k : Nat) (a0 : Int) (a1 : Int) (a2 : Int) : Option (Int × Int) := (turnspitref06_Unpack.f a0).bind fun bt116 => (if bt116.2.2.2.2.2 = 0 then (if a1 < 0 then (turnspitref07_Next.j0 k a1 a2 true bt116.1 bt116.2.1 bt116.2.2.1 bt116.2.2.2.1 bt116.2.2.2.2.1) else (if a1 > 15 then (turnspitref07_Next.j0 k a1 a2 true bt116.1 bt116.2.1 bt116.2.2.1 bt116.2.2.2.1 bt116.2.2.2.2.1) else (if a2 < 0 then (turnspitref07_Next.j0 k a1 a2 true bt116.1 bt116.2.1 bt116.2.2.1 bt116.2.2.2.1 bt116.2.2.2.2.1) else (turnspitref07_Next.j0 k a1 a2 (decide (a2 > 63)) bt116.1 bt116.2.1 bt116.2.2.1 bt116.2.2.2.1 bt116.2.2.2.2.1)))) else (turnspitref07_Next.j0 k a1 a2 true bt116.1 bt116.2.1 bt116.2.2.1 bt116.2.2.2.1 bt116.2.2.2.2.1))
theorem turnspitref07_Next.mono_l : ∀ k, (∀ y0 y1 y2 y3 y4 y5 y6 y7, LeO (turnspitref07_Next.j0 k y0 y1 y2 y3 y4 y5 y6 y7) (turnspitref07_Next.j0 (k + 1) y0 y1 y2 y3 y4 y5 y6 y7)) ∧ (∀ y0 y1 y2 y3 y4 y5 y6 y7, LeO (turnspitref07_Next.j1 k y0 y1 y2 y3 y4 y5 y6 y7) (turnspitref07_Next.j1 (k + 1) y0 y1 y2 y3 y4 y5 y6 y7))
  | 0 => ⟨fun _ _ _ _ _ _ _ _ r h => by simp [turnspitref07_Next.j0] at h, fun _ _ _ _ _ _ _ _ r h => by simp [turnspitref07_Next.j1] at h⟩
  | k + 1 => by
    obtain ⟨ih0, ih1⟩ := turnspitref07_Next.mono_l k
    refine ⟨?_, ?_⟩
    · intro y0 y1 y2 y3 y4 y5 y6 y7
      unfold turnspitref07_Next.j0
      repeat' first
      | (with_reducible exact ih0 _ _ _ _ _ _ _ _)
      | (with_reducible exact ih1 _ _ _ _ _ _ _ _)
      | (with_reducible exact turnspitref07_of.mono _ _ _ _ _ _ _)
      | (with_reducible exact LeO.refl _)
      | (with_reducible exact LeO.none _)
      | (with_reducible refine LeO.ite ?_ ?_)
      | (with_reducible refine LeO.bind ?_ (fun _ => ?_))
      | exact ih0 _ _ _ _ _ _ _ _
      | exact ih1 _ _ _ _ _ _ _ _
      | exact turnspitref07_of.mono _ _ _ _ _ _ _
      | exact LeO.none _
      | refine LeO.ite ?_ ?_
      | refine LeO.bind ?_ (fun _ => ?_)
    · intro y0 y1 y2 y3 y4 y5 y6 y7
      unfold turnspitref07_Next.j1
      repeat' first
      | (with_reducible exact ih0 _ _ _ _ _ _ _ _)
      | (with_reducible exact ih1 _ _ _ _ _ _ _ _)
      | (with_reducible exact turnspitref07_of.mono _ _ _ _ _ _ _)
      | (with_reducible exact LeO.refl _)
      | (with_reducible exact LeO.none _)
      | (with_reducible refine LeO.ite ?_ ?_)
      | (with_reducible refine LeO.bind ?_ (fun _ => ?_))
      | exact ih0 _ _ _ _ _ _ _ _
      | exact ih1 _ _ _ _ _ _ _ _
      | exact turnspitref07_of.mono _ _ _ _ _ _ _
      | exact LeO.none _
      | refine LeO.ite ?_ ?_
      | refine LeO.bind ?_ (fun _ => ?_)
theorem turnspitref07_Next.mono : ∀ a0 a1 a2 k, LeO (turnspitref07_Next.f k a0 a1 a2) (turnspitref07_Next.f (k + 1) a0 a1 a2) := by
  intro a0 a1 a2 k
  obtain ⟨ih0, ih1⟩ := turnspitref07_Next.mono_l k
  unfold turnspitref07_Next.f
  repeat' first
      | (with_reducible exact ih0 _ _ _ _ _ _ _ _)
      | (with_reducible exact ih1 _ _ _ _ _ _ _ _)
      | (with_reducible exact turnspitref07_of.mono _ _ _ _ _ _ _)
      | (with_reducible exact LeO.refl _)
      | (with_reducible exact LeO.none _)
      | (with_reducible refine LeO.ite ?_ ?_)
      | (with_reducible refine LeO.bind ?_ (fun _ => ?_))
      | exact ih0 _ _ _ _ _ _ _ _
      | exact ih1 _ _ _ _ _ _ _ _
      | exact turnspitref07_of.mono _ _ _ _ _ _ _
      | exact LeO.none _
      | refine LeO.ite ?_ ?_
      | refine LeO.bind ?_ (fun _ => ?_)
set_option maxHeartbeats 8000000 in
set_option maxRecDepth 100000 in
theorem turnspitref07_Next.calls (k : Nat) (a0 : Int) (a1 : Int) (a2 : Int) (r1 : Int) (r2 : Int) (w : World) (HLd : Ld w) (h : turnspitref07_Next.f k a0 a1 a2 = some (r1, r2)) :
    Calls Tryd.prog 11 #[.int .u64 a0, .int .i64 a1, .int .i64 a2] w fun e w' => e = .returned (.tuple #[.int .u64 r1, .int .i64 r2]) ∧ Below w.heap.size w w' := by
  have hu35 := Tryd.underlying35
  have HB := Aside0.mk (Below.refl w.heap.size w)
  have H : ((turnspitref06_Unpack.f a0).bind fun bt116 => (if bt116.2.2.2.2.2 = 0 then (if a1 < 0 then (turnspitref07_Next.j0 k a1 a2 true bt116.1 bt116.2.1 bt116.2.2.1 bt116.2.2.2.1 bt116.2.2.2.2.1) else (if a1 > 15 then (turnspitref07_Next.j0 k a1 a2 true bt116.1 bt116.2.1 bt116.2.2.1 bt116.2.2.2.1 bt116.2.2.2.2.1) else (if a2 < 0 then (turnspitref07_Next.j0 k a1 a2 true bt116.1 bt116.2.1 bt116.2.2.1 bt116.2.2.2.1 bt116.2.2.2.2.1) else (turnspitref07_Next.j0 k a1 a2 (decide (a2 > 63)) bt116.1 bt116.2.1 bt116.2.2.1 bt116.2.2.2.1 bt116.2.2.2.2.1)))) else (turnspitref07_Next.j0 k a1 a2 true bt116.1 bt116.2.1 bt116.2.2.1 bt116.2.2.2.1 bt116.2.2.2.2.1))) = some (r1, r2) := h
  clear h
  replace H := Option.bind_eq_some_iff.mp H
  obtain ⟨⟨t116, t117, t118, t119, t120, t121⟩, A40, H⟩ := H
  replace H : (if t121 = 0 then (if a1 < 0 then (turnspitref07_Next.j0 k a1 a2 true t116 t117 t118 t119 t120) else (if a1 > 15 then (turnspitref07_Next.j0 k a1 a2 true t116 t117 t118 t119 t120) else (if a2 < 0 then (turnspitref07_Next.j0 k a1 a2 true t116 t117 t118 t119 t120) else (turnspitref07_Next.j0 k a1 a2 (decide (a2 > 63)) t116 t117 t118 t119 t120)))) else (turnspitref07_Next.j0 k a1 a2 true t116 t117 t118 t119 t120)) = some (r1, r2) := H
  have A4 := Aside0.mk A40
  clear A40
  have HC5 := Aside0.mk H
  clear H
  go_enter Tryd.func11, Tryd.ntmps11
  go_upto_region 2 with (first | ((with_reducible refine gate_callee (f := 28) rfl ?_); refine goesL_ (some 12) rfl rfl Tryd.func28 (by kernel_rfl) rfl #[.int .u64 a0] rfl (by (try simp only [List.map_toArray, List.map_cons, List.map_nil]); first | done | rfl | (simp only [List.length_drop, List.length_take]; rfl)) ?_; (with_reducible refine (turnspitref06_Unpack.calls a0 t116 t117 t118 t119 t120 t121 _ ?side1 A4.out).mono ?_); (case side1 => first | exact HLd | (refine Ld.below HLd ?_; repeat (first | (with_reducible first | exact HB.out | apply below_alloc | apply pw_below_drewN | apply below_drew1) | exact HB.out))); rintro e w6 ⟨rfl, hb⟩; refine ⟨_, rfl, ?_⟩; have n0_ := Aside0.mk (below_step (by repeat (first | (with_reducible first | exact HB.out | apply below_alloc | apply pw_below_drewN | apply below_drew1) | exact HB.out)) hb); clear HB; have HB := n0_; clear n0_; (try clear hb); (try clear hb2); (try clear hk); (try clear hi)) | ((with_reducible refine gate_dst (N := 8) rfl ?_); refine box_event ?hg (N := 8) ?hd (cs := #[.int .i64 0, .int .i64 0, .bool false, .int .i64 0, .int .i64 0]) (t := 35) ?hr ?_; (case hd => rfl); (case hg => rfl); (case hr => first | (go_simp; done) | (go_simp; rfl)); intro gb122 hg w7 hbox hb; have n0_ := Aside0.mk (below_step (by repeat (first | (with_reducible first | exact HB.out | apply below_alloc | apply pw_below_drewN | apply below_drew1) | exact HB.out)) hb); have n1_ := Aside0.mk (hbox); have n2_ := Aside0.mk ((by rw [hg]; exact (below_size (by repeat (first | (with_reducible first | exact HB.out | apply below_alloc | apply pw_below_drewN | apply below_drew1) | exact HB.out))) : w.heap.size ≤ gb122)); have n3_ := Aside0.mk ((by rw [hg]; exact (below_size (by repeat (first | (with_reducible first | exact HB.out | apply below_alloc | apply pw_below_drewN | apply below_drew1) | exact HB.out))) : w.heap.size ≤ gb122)); clear HB; have HB := n0_; have BK122 := n1_; have GW122 := n2_; have GE122 := n3_; clear n0_ n1_ n2_ n3_; clear hb hbox hg; have hcz8_0 : w7.cell? ⟨gb122, 0, none⟩ = some (.int .i64 0) := (blk_cell BK122.out 0).trans rfl; have hcz8_1 : w7.cell? ⟨gb122, 1, none⟩ = some (.int .i64 0) := (blk_cell BK122.out 1).trans rfl; have hcz8_2 : w7.cell? ⟨gb122, 2, none⟩ = some (.bool false) := (blk_cell BK122.out 2).trans rfl; have hcz8_3 : w7.cell? ⟨gb122, 3, none⟩ = some (.int .i64 0) := (blk_cell BK122.out 3).trans rfl; have hcz8_4 : w7.cell? ⟨gb122, 4, none⟩ = some (.int .i64 0) := (blk_cell BK122.out 4).trans rfl; have hfz8_0 := blk_frozen BK122.out 0; have hfz8_1 := blk_frozen BK122.out 1; have hfz8_2 := blk_frozen BK122.out 2; have hfz8_3 := blk_frozen BK122.out 3; have hfz8_4 := blk_frozen BK122.out 4))
  (try simp only [Act.put, List.setIfInBounds_toArray, List.set_cons_zero, List.set_cons_succ])
  go_cut [32] (fun v32 wc => ∃ (kq : Nat) (x32_4 : Bool), v32 = .bool x32_4 ∧ Aside0 (turnspitref07_Next.j0 kq a1 a2 x32_4 t116 t117 t118 t119 t120 = some (r1, r2)) ∧ Aside0 (kq ≤ k) ∧ Aside0 (wc.heap[gb122]? = some (.cells #[.int .i64 t116, .int .i64 t117, .bool t118, .int .i64 t119, .int .i64 t120] 35 (0, 0))) ∧ Aside0 (Below w.heap.size w wc))
  case first =>
    have H := HC5.out
    clear HC5
    by_cases c9 : t121 = 0
    · rw [if_pos c9] at H
      have c9b0 : (t121 == 0) = true := beq_iff_eq.mpr c9
      have c9b1 : (t121 != 0) = false := bne_eq_false_iff_eq.mpr c9
      clear c9
      (first | rw [c9b0] | (simp only [i64_w, i32_w]; rw [c9b0]) | skip)
      by_cases c10 : a1 < 0
      · rw [if_pos c10] at H
        have c10b0 : decide (a1 < 0) = true := decide_eq_true c10
        clear c10
        have H' := Aside0.mk H
        clear H
        go_wp2
        go_meet
        case rel => exact ⟨_, (true), (by first | rfl | (simp; done) | (simp [*]; done)), H', ⟨by first | omega | exact Nat.le_refl _⟩, ⟨by (with_reducible repeat (first | refine blk_drewN ?_ _ | refine blk_drew ?_ | refine blk_alloc ?_ _)); refine blk_put (cs := #[.int .i64 t116, .int .i64 t117, .bool t118, .int .i64 t119, .int .i64 0]) ?_ 4 _ (by first | rfl | simp [*]); (with_reducible repeat (first | refine blk_drewN ?_ _ | refine blk_drew ?_ | refine blk_alloc ?_ _)); refine blk_put (cs := #[.int .i64 t116, .int .i64 t117, .bool t118, .int .i64 0, .int .i64 0]) ?_ 3 _ (by first | rfl | simp [*]); (with_reducible repeat (first | refine blk_drewN ?_ _ | refine blk_drew ?_ | refine blk_alloc ?_ _)); refine blk_put (cs := #[.int .i64 t116, .int .i64 t117, .bool false, .int .i64 0, .int .i64 0]) ?_ 2 _ (by first | rfl | simp [*]); (with_reducible repeat (first | refine blk_drewN ?_ _ | refine blk_drew ?_ | refine blk_alloc ?_ _)); refine blk_put (cs := #[.int .i64 t116, .int .i64 0, .bool false, .int .i64 0, .int .i64 0]) ?_ 1 _ (by first | rfl | simp [*]); (with_reducible repeat (first | refine blk_drewN ?_ _ | refine blk_drew ?_ | refine blk_alloc ?_ _)); refine blk_put (cs := #[.int .i64 0, .int .i64 0, .bool false, .int .i64 0, .int .i64 0]) ?_ 0 _ (by first | rfl | simp [*]); (with_reducible repeat (first | refine blk_drewN ?_ _ | refine blk_drew ?_ | refine blk_alloc ?_ _)); exact BK122.out⟩, ⟨by repeat (first | (with_reducible first | exact HB.out | apply below_alloc | apply pw_below_drewN | apply below_drew1 | refine below_set ?_ GE122.out) | exact HB.out)⟩⟩
      · rw [if_neg c10] at H
        have c10b0 : decide (a1 < 0) = false := decide_eq_false c10
        clear c10
        by_cases c11 : a1 > 15
        · rw [if_pos c11] at H
          have c11b0 : decide (15 < a1) = true := decide_eq_true c11
          clear c11
          have H' := Aside0.mk H
          clear H
          go_wp2
          go_meet
          case rel => exact ⟨_, (true), (by first | rfl | (simp; done) | (simp [*]; done)), H', ⟨by first | omega | exact Nat.le_refl _⟩, ⟨by (with_reducible repeat (first | refine blk_drewN ?_ _ | refine blk_drew ?_ | refine blk_alloc ?_ _)); refine blk_put (cs := #[.int .i64 t116, .int .i64 t117, .bool t118, .int .i64 t119, .int .i64 0]) ?_ 4 _ (by first | rfl | simp [*]); (with_reducible repeat (first | refine blk_drewN ?_ _ | refine blk_drew ?_ | refine blk_alloc ?_ _)); refine blk_put (cs := #[.int .i64 t116, .int .i64 t117, .bool t118, .int .i64 0, .int .i64 0]) ?_ 3 _ (by first | rfl | simp [*]); (with_reducible repeat (first | refine blk_drewN ?_ _ | refine blk_drew ?_ | refine blk_alloc ?_ _)); refine blk_put (cs := #[.int .i64 t116, .int .i64 t117, .bool false, .int .i64 0, .int .i64 0]) ?_ 2 _ (by first | rfl | simp [*]); (with_reducible repeat (first | refine blk_drewN ?_ _ | refine blk_drew ?_ | refine blk_alloc ?_ _)); refine blk_put (cs := #[.int .i64 t116, .int .i64 0, .bool false, .int .i64 0, .int .i64 0]) ?_ 1 _ (by first | rfl | simp [*]); (with_reducible repeat (first | refine blk_drewN ?_ _ | refine blk_drew ?_ | refine blk_alloc ?_ _)); refine blk_put (cs := #[.int .i64 0, .int .i64 0, .bool false, .int .i64 0, .int .i64 0]) ?_ 0 _ (by first | rfl | simp [*]); (with_reducible repeat (first | refine blk_drewN ?_ _ | refine blk_drew ?_ | refine blk_alloc ?_ _)); exact BK122.out⟩, ⟨by repeat (first | (with_reducible first | exact HB.out | apply below_alloc | apply pw_below_drewN | apply below_drew1 | refine below_set ?_ GE122.out) | exact HB.out)⟩⟩
        · rw [if_neg c11] at H
          have c11b0 : decide (15 < a1) = false := decide_eq_false c11
          clear c11
          by_cases c12 : a2 < 0
          · rw [if_pos c12] at H
            have c12b0 : decide (a2 < 0) = true := decide_eq_true c12
            clear c12
            have H' := Aside0.mk H
            clear H
            go_wp2
            go_meet
            case rel => exact ⟨_, (true), (by first | rfl | (simp; done) | (simp [*]; done)), H', ⟨by first | omega | exact Nat.le_refl _⟩, ⟨by (with_reducible repeat (first | refine blk_drewN ?_ _ | refine blk_drew ?_ | refine blk_alloc ?_ _)); refine blk_put (cs := #[.int .i64 t116, .int .i64 t117, .bool t118, .int .i64 t119, .int .i64 0]) ?_ 4 _ (by first | rfl | simp [*]); (with_reducible repeat (first | refine blk_drewN ?_ _ | refine blk_drew ?_ | refine blk_alloc ?_ _)); refine blk_put (cs := #[.int .i64 t116, .int .i64 t117, .bool t118, .int .i64 0, .int .i64 0]) ?_ 3 _ (by first | rfl | simp [*]); (with_reducible repeat (first | refine blk_drewN ?_ _ | refine blk_drew ?_ | refine blk_alloc ?_ _)); refine blk_put (cs := #[.int .i64 t116, .int .i64 t117, .bool false, .int .i64 0, .int .i64 0]) ?_ 2 _ (by first | rfl | simp [*]); (with_reducible repeat (first | refine blk_drewN ?_ _ | refine blk_drew ?_ | refine blk_alloc ?_ _)); refine blk_put (cs := #[.int .i64 t116, .int .i64 0, .bool false, .int .i64 0, .int .i64 0]) ?_ 1 _ (by first | rfl | simp [*]); (with_reducible repeat (first | refine blk_drewN ?_ _ | refine blk_drew ?_ | refine blk_alloc ?_ _)); refine blk_put (cs := #[.int .i64 0, .int .i64 0, .bool false, .int .i64 0, .int .i64 0]) ?_ 0 _ (by first | rfl | simp [*]); (with_reducible repeat (first | refine blk_drewN ?_ _ | refine blk_drew ?_ | refine blk_alloc ?_ _)); exact BK122.out⟩, ⟨by repeat (first | (with_reducible first | exact HB.out | apply below_alloc | apply pw_below_drewN | apply below_drew1 | refine below_set ?_ GE122.out) | exact HB.out)⟩⟩
          · rw [if_neg c12] at H
            have c12b0 : decide (a2 < 0) = false := decide_eq_false c12
            clear c12
            have H' := Aside0.mk H
            clear H
            go_wp2
            go_meet
            case rel => exact ⟨_, (decide (a2 > 63)), (by first | rfl | (simp; done) | (simp [*]; done)), H', ⟨by first | omega | exact Nat.le_refl _⟩, ⟨by (with_reducible repeat (first | refine blk_drewN ?_ _ | refine blk_drew ?_ | refine blk_alloc ?_ _)); refine blk_put (cs := #[.int .i64 t116, .int .i64 t117, .bool t118, .int .i64 t119, .int .i64 0]) ?_ 4 _ (by first | rfl | simp [*]); (with_reducible repeat (first | refine blk_drewN ?_ _ | refine blk_drew ?_ | refine blk_alloc ?_ _)); refine blk_put (cs := #[.int .i64 t116, .int .i64 t117, .bool t118, .int .i64 0, .int .i64 0]) ?_ 3 _ (by first | rfl | simp [*]); (with_reducible repeat (first | refine blk_drewN ?_ _ | refine blk_drew ?_ | refine blk_alloc ?_ _)); refine blk_put (cs := #[.int .i64 t116, .int .i64 t117, .bool false, .int .i64 0, .int .i64 0]) ?_ 2 _ (by first | rfl | simp [*]); (with_reducible repeat (first | refine blk_drewN ?_ _ | refine blk_drew ?_ | refine blk_alloc ?_ _)); refine blk_put (cs := #[.int .i64 t116, .int .i64 0, .bool false, .int .i64 0, .int .i64 0]) ?_ 1 _ (by first | rfl | simp [*]); (with_reducible repeat (first | refine blk_drewN ?_ _ | refine blk_drew ?_ | refine blk_alloc ?_ _)); refine blk_put (cs := #[.int .i64 0, .int .i64 0, .bool false, .int .i64 0, .int .i64 0]) ?_ 0 _ (by first | rfl | simp [*]); (with_reducible repeat (first | refine blk_drewN ?_ _ | refine blk_drew ?_ | refine blk_alloc ?_ _)); exact BK122.out⟩, ⟨by repeat (first | (with_reducible first | exact HB.out | apply below_alloc | apply pw_below_drewN | apply below_drew1 | refine below_set ?_ GE122.out) | exact HB.out)⟩⟩
    · rw [if_neg c9] at H
      have c9b0 : (t121 == 0) = false := beq_eq_false_iff_ne.mpr c9
      have c9b1 : (t121 != 0) = true := bne_iff_ne.mpr c9
      (first | rw [c9b0] | (simp only [i64_w, i32_w]; rw [c9b0]) | skip)
      have H' := Aside0.mk H
      clear H
      go_wp2
      go_meet
      case rel => exact ⟨_, (true), (by first | rfl | (simp; done) | (simp [*]; done)), H', ⟨by first | omega | exact Nat.le_refl _⟩, ⟨by (with_reducible repeat (first | refine blk_drewN ?_ _ | refine blk_drew ?_ | refine blk_alloc ?_ _)); refine blk_put (cs := #[.int .i64 t116, .int .i64 t117, .bool t118, .int .i64 t119, .int .i64 0]) ?_ 4 _ (by first | rfl | simp [*]); (with_reducible repeat (first | refine blk_drewN ?_ _ | refine blk_drew ?_ | refine blk_alloc ?_ _)); refine blk_put (cs := #[.int .i64 t116, .int .i64 t117, .bool t118, .int .i64 0, .int .i64 0]) ?_ 3 _ (by first | rfl | simp [*]); (with_reducible repeat (first | refine blk_drewN ?_ _ | refine blk_drew ?_ | refine blk_alloc ?_ _)); refine blk_put (cs := #[.int .i64 t116, .int .i64 t117, .bool false, .int .i64 0, .int .i64 0]) ?_ 2 _ (by first | rfl | simp [*]); (with_reducible repeat (first | refine blk_drewN ?_ _ | refine blk_drew ?_ | refine blk_alloc ?_ _)); refine blk_put (cs := #[.int .i64 t116, .int .i64 0, .bool false, .int .i64 0, .int .i64 0]) ?_ 1 _ (by first | rfl | simp [*]); (with_reducible repeat (first | refine blk_drewN ?_ _ | refine blk_drew ?_ | refine blk_alloc ?_ _)); refine blk_put (cs := #[.int .i64 0, .int .i64 0, .bool false, .int .i64 0, .int .i64 0]) ?_ 0 _ (by first | rfl | simp [*]); (with_reducible repeat (first | refine blk_drewN ?_ _ | refine blk_drew ?_ | refine blk_alloc ?_ _)); exact BK122.out⟩, ⟨by repeat (first | (with_reducible first | exact HB.out | apply below_alloc | apply pw_below_drewN | apply below_drew1 | refine below_set ?_ GE122.out) | exact HB.out)⟩⟩
  case rest =>
    clear HC5
    try clear c1
    try clear c2
    try clear p2
    try clear c9
    try clear c9b0
    try clear c9b1
    try clear c10
    try clear c10b0
    try clear c11
    try clear c11b0
    try clear c12
    try clear c12b0
    try clear hcz8_0
    try clear hcz8_1
    try clear hcz8_2
    try clear hcz8_3
    try clear hcz8_4
    try clear hfz8_0
    try clear hfz8_1
    try clear hfz8_2
    try clear hfz8_3
    try clear hfz8_4
    obtain ⟨kq, x32_4, rfl, HA, HJ4, BK122, HB⟩ := hcut
    cases kq with
    | zero => exact absurd HA.out (by simp [turnspitref07_Next.j0])
    | succ kj4 =>
      have H := HA.out
      clear HA
      simp only [turnspitref07_Next.j0] at H
      by_cases c13 : x32_4 = true
      · subst c13
        have H1 : (some (0, 1)) = some (r1, r2) := by rw [if_pos rfl] at H; exact H
        clear H
        have H := H1
        clear H1
        simp only [Option.some.injEq, Prod.mk.injEq] at H
        obtain ⟨rfl, rfl⟩ := H
        go_wp2
        go_ret2
        exact ⟨by first | rfl | (simp [errW_none, errW_some] <;> rfl) | (simp [*, errW_none, errW_some] <;> rfl), by repeat (first | (with_reducible first | exact HB.out | apply below_alloc | apply pw_below_drewN | apply below_drew1 | refine below_set ?_ GE122.out) | exact HB.out)⟩
      · replace c13 := Bool.eq_false_iff.mpr c13
        subst c13
        have H1 : ((turnspitref07_of.f kj4 t116 t117 t118 t119 t120 a1).bind fun t123 => (if t123 = true then (if a1 = 0 then (turnspitref07_Next.j1 kj4 a1 a2 (t120 == 4294967295) t116 t117 t118 t119 t120) else (turnspitref07_Next.j1 kj4 a1 a2 false t116 t117 t118 t119 t120)) else (some (0, 4)))) = some (r1, r2) := by rw [if_neg (show ¬ (false = true) by decide)] at H; exact H
        clear H
        have H := H1
        clear H1
        replace H := Option.bind_eq_some_iff.mp H
        obtain ⟨t123, A140, H⟩ := H
        replace H : (if t123 = true then (if a1 = 0 then (turnspitref07_Next.j1 kj4 a1 a2 (t120 == 4294967295) t116 t117 t118 t119 t120) else (turnspitref07_Next.j1 kj4 a1 a2 false t116 t117 t118 t119 t120)) else (some (0, 4))) = some (r1, r2) := H
        have A14 := Aside0.mk A140
        clear A140
        by_cases c15 : t123 = true
        · subst c15
          have H1 : (if a1 = 0 then (turnspitref07_Next.j1 kj4 a1 a2 (t120 == 4294967295) t116 t117 t118 t119 t120) else (turnspitref07_Next.j1 kj4 a1 a2 false t116 t117 t118 t119 t120)) = some (r1, r2) := by rw [if_pos rfl] at H; exact H
          clear H
          have H := H1
          clear H1
          have HC16 := Aside0.mk H
          clear H
          have hcz17_0 : wc.cell? ⟨gb122, 0, none⟩ = some (.int .i64 t116) := (blk_cell BK122.out 0).trans rfl
          have hcz17_1 : wc.cell? ⟨gb122, 1, none⟩ = some (.int .i64 t117) := (blk_cell BK122.out 1).trans rfl
          have hcz17_2 : wc.cell? ⟨gb122, 2, none⟩ = some (.bool t118) := (blk_cell BK122.out 2).trans rfl
          have hcz17_3 : wc.cell? ⟨gb122, 3, none⟩ = some (.int .i64 t119) := (blk_cell BK122.out 3).trans rfl
          have hcz17_4 : wc.cell? ⟨gb122, 4, none⟩ = some (.int .i64 t120) := (blk_cell BK122.out 4).trans rfl
          have hfz17_0 := blk_frozen BK122.out 0
          have hfz17_1 := blk_frozen BK122.out 1
          have hfz17_2 := blk_frozen BK122.out 2
          have hfz17_3 := blk_frozen BK122.out 3
          have hfz17_4 := blk_frozen BK122.out 4
          go_upto_region 6 with (first | ((with_reducible refine gate_callee (f := 29) rfl ?_); refine goesL_ (some 35) rfl rfl Tryd.func29 (by kernel_rfl) rfl #[.agg #[.int .i64 t116, .int .i64 t117, .bool t118, .int .i64 t119, .int .i64 t120], .int .i64 a1] rfl (by (try simp only [List.map_toArray, List.map_cons, List.map_nil]); first | done | rfl | (simp only [List.length_drop, List.length_take]; rfl)) ?_; (with_reducible refine (turnspitref07_of.calls kj4 t116 t117 t118 t119 t120 a1 true _ ?side1 A14.out).mono ?_); (case side1 => first | exact HLd | (refine Ld.below HLd ?_; repeat (first | (with_reducible first | exact HB.out | apply below_alloc | apply pw_below_drewN | apply below_drew1 | refine below_set ?_ GE122.out) | exact HB.out))); rintro e w18 ⟨rfl, hb⟩; refine ⟨_, rfl, ?_⟩; have n0_ := Aside0.mk (blk_below (g := gb122) (o := .cells #[.int .i64 t116, .int .i64 t117, .bool t118, .int .i64 t119, .int .i64 t120] 35 (0, 0)) (by (with_reducible repeat (first | refine blk_drewN ?_ _ | refine blk_drew ?_ | refine blk_alloc ?_ _)); exact BK122.out) hb); have n1_ := Aside0.mk (below_step (by repeat (first | (with_reducible first | exact HB.out | apply below_alloc | apply pw_below_drewN | apply below_drew1 | refine below_set ?_ GE122.out) | exact HB.out)) hb); clear BK122; clear HB; have BK122 := n0_; have HB := n1_; clear n0_ n1_; (try clear hb); (try clear hb2); (try clear hk); (try clear hi)))
          (try simp only [Act.put, List.setIfInBounds_toArray, List.set_cons_zero, List.set_cons_succ])
          go_cut [43] (fun v43 wc => ∃ (kq : Nat) (x43_15 : Bool), v43 = .bool x43_15 ∧ Aside0 (turnspitref07_Next.j1 kq a1 a2 x43_15 t116 t117 t118 t119 t120 = some (r1, r2)) ∧ Aside0 (kq ≤ kj4) ∧ Aside0 (wc.heap[gb122]? = some (.cells #[.int .i64 t116, .int .i64 t117, .bool t118, .int .i64 t119, .int .i64 t120] 35 (0, 0))) ∧ Aside0 (Below w.heap.size w wc))
          case first =>
            have H := HC16.out
            clear HC16
            by_cases c19 : a1 = 0
            · rw [if_pos c19] at H
              have c19b0 : (a1 == 0) = true := beq_iff_eq.mpr c19
              have c19b1 : (a1 != 0) = false := bne_eq_false_iff_eq.mpr c19
              clear c19
              (first | rw [c19b0] | (simp only [i64_w, i32_w]; rw [c19b0]) | skip)
              have H' := Aside0.mk H
              clear H
              have hcz20_0 : w18.cell? ⟨gb122, 0, none⟩ = some (.int .i64 t116) := (blk_cell BK122.out 0).trans rfl
              have hcz20_1 : w18.cell? ⟨gb122, 1, none⟩ = some (.int .i64 t117) := (blk_cell BK122.out 1).trans rfl
              have hcz20_2 : w18.cell? ⟨gb122, 2, none⟩ = some (.bool t118) := (blk_cell BK122.out 2).trans rfl
              have hcz20_3 : w18.cell? ⟨gb122, 3, none⟩ = some (.int .i64 t119) := (blk_cell BK122.out 3).trans rfl
              have hcz20_4 : w18.cell? ⟨gb122, 4, none⟩ = some (.int .i64 t120) := (blk_cell BK122.out 4).trans rfl
              have hfz20_0 := blk_frozen BK122.out 0
              have hfz20_1 := blk_frozen BK122.out 1
              have hfz20_2 := blk_frozen BK122.out 2
              have hfz20_3 := blk_frozen BK122.out 3
              have hfz20_4 := blk_frozen BK122.out 4
              go_wp2
              go_meet
              case rel => exact ⟨_, ((t120 == 4294967295)), (by first | rfl | (simp; done) | (simp [*]; done)), H', ⟨by have := HJ4.out; first | omega | exact Nat.le_refl _⟩, ⟨by (with_reducible repeat (first | refine blk_drewN ?_ _ | refine blk_drew ?_ | refine blk_alloc ?_ _)); exact BK122.out⟩, ⟨by repeat (first | (with_reducible first | exact HB.out | apply below_alloc | apply pw_below_drewN | apply below_drew1 | refine below_set ?_ GE122.out) | exact HB.out)⟩⟩
            · rw [if_neg c19] at H
              have c19b0 : (a1 == 0) = false := beq_eq_false_iff_ne.mpr c19
              have c19b1 : (a1 != 0) = true := bne_iff_ne.mpr c19
              (first | rw [c19b0] | (simp only [i64_w, i32_w]; rw [c19b0]) | skip)
              have H' := Aside0.mk H
              clear H
              go_wp2
              go_meet
              case rel => exact ⟨_, (false), (by first | rfl | (simp; done) | (simp [*]; done)), H', ⟨by have := HJ4.out; first | omega | exact Nat.le_refl _⟩, ⟨by (with_reducible repeat (first | refine blk_drewN ?_ _ | refine blk_drew ?_ | refine blk_alloc ?_ _)); exact BK122.out⟩, ⟨by repeat (first | (with_reducible first | exact HB.out | apply below_alloc | apply pw_below_drewN | apply below_drew1 | refine below_set ?_ GE122.out) | exact HB.out)⟩⟩
          case rest =>
            clear HC16
            try clear c1
            try clear c2
            try clear p2
            try clear c9
            try clear c9b0
            try clear c9b1
            try clear c10
            try clear c10b0
            try clear c11
            try clear c11b0
            try clear c12
            try clear c12b0
            try clear c13
            try clear c15
            try clear c19
            try clear c19b0
            try clear c19b1
            try clear hcz17_0
            try clear hcz17_1
            try clear hcz17_2
            try clear hcz17_3
            try clear hcz17_4
            try clear hcz20_0
            try clear hcz20_1
            try clear hcz20_2
            try clear hcz20_3
            try clear hcz20_4
            try clear hcz8_0
            try clear hcz8_1
            try clear hcz8_2
            try clear hcz8_3
            try clear hcz8_4
            try clear hfz17_0
            try clear hfz17_1
            try clear hfz17_2
            try clear hfz17_3
            try clear hfz17_4
            try clear hfz20_0
            try clear hfz20_1
            try clear hfz20_2
            try clear hfz20_3
            try clear hfz20_4
            try clear hfz8_0
            try clear hfz8_1
            try clear hfz8_2
            try clear hfz8_3
            try clear hfz8_4
            try clear p2
            obtain ⟨kq, x43_15, rfl, HA, HJ15, BK122, HB⟩ := hcut
            cases kq with
            | zero => exact absurd HA.out (by simp [turnspitref07_Next.j1])
            | succ kj15 =>
              have H := HA.out
              clear HA
              simp only [turnspitref07_Next.j1] at H
              by_cases c21 : x43_15 = true
              · subst c21
                have H1 : (some (0, 5)) = some (r1, r2) := by rw [if_pos rfl] at H; exact H
                clear H
                have H := H1
                clear H1
                simp only [Option.some.injEq, Prod.mk.injEq] at H
                obtain ⟨rfl, rfl⟩ := H
                go_wp2
                go_ret2
                exact ⟨by first | rfl | (simp [errW_none, errW_some] <;> rfl) | (simp [*, errW_none, errW_some] <;> rfl), by repeat (first | (with_reducible first | exact HB.out | apply below_alloc | apply pw_below_drewN | apply below_drew1 | refine below_set ?_ GE122.out) | exact HB.out)⟩
              · replace c21 := Bool.eq_false_iff.mpr c21
                subst c21
                have H1 : ((turnspitref07_comes.f a1).bind fun t124 => (if a1 = 0 then ((turnspitref06_Pack.f t124 a2 (a1 == 8) 0 (wrap64 (t120 + 1))).bind fun bt125 => (some (bt125.1, bt125.2))) else (if a1 = 1 then ((turnspitref06_Pack.f t124 0 (a1 == 8) 0 t120).bind fun bt127 => (some (bt127.1, bt127.2))) else (if a1 = 2 then ((turnspitref06_Pack.f t124 t117 (a1 == 8) (Int.tmod (wrap64 (t119 + 1)) 65536) t120).bind fun bt129 => (some (bt129.1, bt129.2))) else (if a1 = 11 then ((turnspitref06_Pack.f t124 a2 (a1 == 8) t119 t120).bind fun bt131 => (some (bt131.1, bt131.2))) else (if a1 = 12 then ((turnspitref06_Pack.f t124 a2 (a1 == 8) t119 t120).bind fun bt133 => (some (bt133.1, bt133.2))) else (if a1 = 13 then ((turnspitref06_Pack.f t124 a2 (a1 == 8) t119 t120).bind fun bt135 => (some (bt135.1, bt135.2))) else (if a1 = 15 then ((turnspitref06_Pack.f t124 a2 (a1 == 8) t119 t120).bind fun bt137 => (some (bt137.1, bt137.2))) else ((turnspitref06_Pack.f t124 t117 (a1 == 8) t119 t120).bind fun bt139 => (some (bt139.1, bt139.2))))))))))) = some (r1, r2) := by rw [if_neg (show ¬ (false = true) by decide)] at H; exact H
                clear H
                have H := H1
                clear H1
                replace H := Option.bind_eq_some_iff.mp H
                obtain ⟨t124, A220, H⟩ := H
                replace H : (if a1 = 0 then ((turnspitref06_Pack.f t124 a2 (a1 == 8) 0 (wrap64 (t120 + 1))).bind fun bt125 => (some (bt125.1, bt125.2))) else (if a1 = 1 then ((turnspitref06_Pack.f t124 0 (a1 == 8) 0 t120).bind fun bt127 => (some (bt127.1, bt127.2))) else (if a1 = 2 then ((turnspitref06_Pack.f t124 t117 (a1 == 8) (Int.tmod (wrap64 (t119 + 1)) 65536) t120).bind fun bt129 => (some (bt129.1, bt129.2))) else (if a1 = 11 then ((turnspitref06_Pack.f t124 a2 (a1 == 8) t119 t120).bind fun bt131 => (some (bt131.1, bt131.2))) else (if a1 = 12 then ((turnspitref06_Pack.f t124 a2 (a1 == 8) t119 t120).bind fun bt133 => (some (bt133.1, bt133.2))) else (if a1 = 13 then ((turnspitref06_Pack.f t124 a2 (a1 == 8) t119 t120).bind fun bt135 => (some (bt135.1, bt135.2))) else (if a1 = 15 then ((turnspitref06_Pack.f t124 a2 (a1 == 8) t119 t120).bind fun bt137 => (some (bt137.1, bt137.2))) else ((turnspitref06_Pack.f t124 t117 (a1 == 8) t119 t120).bind fun bt139 => (some (bt139.1, bt139.2)))))))))) = some (r1, r2) := H
                have A22 := Aside0.mk A220
                clear A220
                by_cases c23 : a1 = 0
                · rw [if_pos c23] at H
                  have c23b0 : (a1 == 0) = true := beq_iff_eq.mpr c23
                  have c23b1 : (a1 != 0) = false := bne_eq_false_iff_eq.mpr c23
                  clear c23
                  replace H := Option.bind_eq_some_iff.mp H
                  obtain ⟨⟨t125, t126⟩, A240, H⟩ := H
                  replace H : (some (t125, t126)) = some (r1, r2) := H
                  have A24 := Aside0.mk A240
                  clear A240
                  simp only [Option.some.injEq, Prod.mk.injEq] at H
                  obtain ⟨rfl, rfl⟩ := H
                  go_wp2_with (first | ((with_reducible refine gate_callee (f := 30) rfl ?_); refine goesL_ (some 45) rfl rfl Tryd.func30 (by kernel_rfl) rfl #[.int .i64 a1] rfl (by (try simp only [List.map_toArray, List.map_cons, List.map_nil]); first | done | rfl | (simp only [List.length_drop, List.length_take]; rfl)) ?_; (with_reducible refine (turnspitref07_comes.calls a1 t124 _ ?side1 A22.out).mono ?_); (case side1 => first | exact HLd | (refine Ld.below HLd ?_; repeat (first | (with_reducible first | exact HB.out | apply below_alloc | apply pw_below_drewN | apply below_drew1 | refine below_set ?_ GE122.out) | exact HB.out))); rintro e w25 ⟨rfl, hb⟩; refine ⟨_, rfl, ?_⟩; have n0_ := Aside0.mk (blk_below (g := gb122) (o := .cells #[.int .i64 t116, .int .i64 t117, .bool t118, .int .i64 t119, .int .i64 t120] 35 (0, 0)) (by (with_reducible repeat (first | refine blk_drewN ?_ _ | refine blk_drew ?_ | refine blk_alloc ?_ _)); exact BK122.out) hb); have n1_ := Aside0.mk (below_step (by repeat (first | (with_reducible first | exact HB.out | apply below_alloc | apply pw_below_drewN | apply below_drew1 | refine below_set ?_ GE122.out) | exact HB.out)) hb); clear BK122; clear HB; have BK122 := n0_; have HB := n1_; clear n0_ n1_; (try clear hb); (try clear hb2); (try clear hk); (try clear hi); have hcz26_0 : w25.cell? ⟨gb122, 0, none⟩ = some (.int .i64 t116) := (blk_cell BK122.out 0).trans rfl; have hcz26_1 : w25.cell? ⟨gb122, 1, none⟩ = some (.int .i64 t117) := (blk_cell BK122.out 1).trans rfl; have hcz26_2 : w25.cell? ⟨gb122, 2, none⟩ = some (.bool t118) := (blk_cell BK122.out 2).trans rfl; have hcz26_3 : w25.cell? ⟨gb122, 3, none⟩ = some (.int .i64 t119) := (blk_cell BK122.out 3).trans rfl; have hcz26_4 : w25.cell? ⟨gb122, 4, none⟩ = some (.int .i64 t120) := (blk_cell BK122.out 4).trans rfl; have hfz26_0 := blk_frozen BK122.out 0; have hfz26_1 := blk_frozen BK122.out 1; have hfz26_2 := blk_frozen BK122.out 2; have hfz26_3 := blk_frozen BK122.out 3; have hfz26_4 := blk_frozen BK122.out 4) | ((with_reducible refine gate_callee (f := 31) rfl ?_); refine goesL_ (some 79) rfl rfl Tryd.func31 (by kernel_rfl) rfl #[.agg #[.int .i64 t124, .int .i64 a2, .bool (a1 == 8), .int .i64 0, .int .i64 (wrap64 (t120 + 1))]] rfl (by (try simp only [List.map_toArray, List.map_cons, List.map_nil]); first | done | rfl | (simp only [List.length_drop, List.length_take]; rfl)) ?_; (with_reducible refine (turnspitref06_Pack.calls t124 a2 (a1 == 8) 0 (wrap64 (t120 + 1)) t125 t126 _ ?side1 A24.out).mono ?_); (case side1 => first | exact HLd | (refine Ld.below HLd ?_; repeat (first | (with_reducible first | exact HB.out | apply below_alloc | apply pw_below_drewN | apply below_drew1 | refine below_set ?_ GE122.out) | exact HB.out))); rintro e w27 ⟨rfl, hb⟩; refine ⟨_, rfl, ?_⟩; have n0_ := Aside0.mk (blk_below (g := gb122) (o := .cells #[.int .i64 t124, .int .i64 a2, .bool (a1 == 8), .int .i64 0, .int .i64 (wrap64 (t120 + 1))] 35 (0, 0)) (by (with_reducible repeat (first | refine blk_drewN ?_ _ | refine blk_drew ?_ | refine blk_alloc ?_ _)); refine blk_put (cs := #[.int .i64 t124, .int .i64 t117, .bool (a1 == 8), .int .i64 0, .int .i64 (wrap64 (t120 + 1))]) ?_ 1 _ (by first | rfl | simp [*]); (with_reducible repeat (first | refine blk_drewN ?_ _ | refine blk_drew ?_ | refine blk_alloc ?_ _)); refine blk_put (cs := #[.int .i64 t124, .int .i64 t117, .bool (a1 == 8), .int .i64 t119, .int .i64 (wrap64 (t120 + 1))]) ?_ 3 _ (by first | rfl | simp [*]); (with_reducible repeat (first | refine blk_drewN ?_ _ | refine blk_drew ?_ | refine blk_alloc ?_ _)); refine blk_put (cs := #[.int .i64 t124, .int .i64 t117, .bool (a1 == 8), .int .i64 t119, .int .i64 t120]) ?_ 4 _ (by first | rfl | simp [*]); (with_reducible repeat (first | refine blk_drewN ?_ _ | refine blk_drew ?_ | refine blk_alloc ?_ _)); refine blk_put (cs := #[.int .i64 t124, .int .i64 t117, .bool t118, .int .i64 t119, .int .i64 t120]) ?_ 2 _ (by first | rfl | simp [*]); (with_reducible repeat (first | refine blk_drewN ?_ _ | refine blk_drew ?_ | refine blk_alloc ?_ _)); refine blk_put (cs := #[.int .i64 t116, .int .i64 t117, .bool t118, .int .i64 t119, .int .i64 t120]) ?_ 0 _ (by first | rfl | simp [*]); (with_reducible repeat (first | refine blk_drewN ?_ _ | refine blk_drew ?_ | refine blk_alloc ?_ _)); exact BK122.out) hb); have n1_ := Aside0.mk (below_step (by repeat (first | (with_reducible first | exact HB.out | apply below_alloc | apply pw_below_drewN | apply below_drew1 | refine below_set ?_ GE122.out) | exact HB.out)) hb); clear BK122; clear HB; have BK122 := n0_; have HB := n1_; clear n0_ n1_; (try clear hb); (try clear hb2); (try clear hk); (try clear hi)))
                  go_ret2
                  exact ⟨by first | rfl | (simp [errW_none, errW_some] <;> rfl) | (simp [*, errW_none, errW_some] <;> rfl), by repeat (first | (with_reducible first | exact HB.out | apply below_alloc | apply pw_below_drewN | apply below_drew1 | refine below_set ?_ GE122.out) | exact HB.out)⟩
                · rw [if_neg c23] at H
                  have c23b0 : (a1 == 0) = false := beq_eq_false_iff_ne.mpr c23
                  have c23b1 : (a1 != 0) = true := bne_iff_ne.mpr c23
                  by_cases c28 : a1 = 1
                  · rw [if_pos c28] at H
                    have c28b0 : (a1 == 1) = true := beq_iff_eq.mpr c28
                    have c28b1 : (a1 != 1) = false := bne_eq_false_iff_eq.mpr c28
                    clear c28
                    replace H := Option.bind_eq_some_iff.mp H
                    obtain ⟨⟨t127, t128⟩, A290, H⟩ := H
                    replace H : (some (t127, t128)) = some (r1, r2) := H
                    have A29 := Aside0.mk A290
                    clear A290
                    simp only [Option.some.injEq, Prod.mk.injEq] at H
                    obtain ⟨rfl, rfl⟩ := H
                    go_wp2_with (first | ((with_reducible refine gate_callee (f := 30) rfl ?_); refine goesL_ (some 45) rfl rfl Tryd.func30 (by kernel_rfl) rfl #[.int .i64 a1] rfl (by (try simp only [List.map_toArray, List.map_cons, List.map_nil]); first | done | rfl | (simp only [List.length_drop, List.length_take]; rfl)) ?_; (with_reducible refine (turnspitref07_comes.calls a1 t124 _ ?side1 A22.out).mono ?_); (case side1 => first | exact HLd | (refine Ld.below HLd ?_; repeat (first | (with_reducible first | exact HB.out | apply below_alloc | apply pw_below_drewN | apply below_drew1 | refine below_set ?_ GE122.out) | exact HB.out))); rintro e w30 ⟨rfl, hb⟩; refine ⟨_, rfl, ?_⟩; have n0_ := Aside0.mk (blk_below (g := gb122) (o := .cells #[.int .i64 t116, .int .i64 t117, .bool t118, .int .i64 t119, .int .i64 t120] 35 (0, 0)) (by (with_reducible repeat (first | refine blk_drewN ?_ _ | refine blk_drew ?_ | refine blk_alloc ?_ _)); exact BK122.out) hb); have n1_ := Aside0.mk (below_step (by repeat (first | (with_reducible first | exact HB.out | apply below_alloc | apply pw_below_drewN | apply below_drew1 | refine below_set ?_ GE122.out) | exact HB.out)) hb); clear BK122; clear HB; have BK122 := n0_; have HB := n1_; clear n0_ n1_; (try clear hb); (try clear hb2); (try clear hk); (try clear hi); have hcz31_0 : w30.cell? ⟨gb122, 0, none⟩ = some (.int .i64 t116) := (blk_cell BK122.out 0).trans rfl; have hcz31_1 : w30.cell? ⟨gb122, 1, none⟩ = some (.int .i64 t117) := (blk_cell BK122.out 1).trans rfl; have hcz31_2 : w30.cell? ⟨gb122, 2, none⟩ = some (.bool t118) := (blk_cell BK122.out 2).trans rfl; have hcz31_3 : w30.cell? ⟨gb122, 3, none⟩ = some (.int .i64 t119) := (blk_cell BK122.out 3).trans rfl; have hcz31_4 : w30.cell? ⟨gb122, 4, none⟩ = some (.int .i64 t120) := (blk_cell BK122.out 4).trans rfl; have hfz31_0 := blk_frozen BK122.out 0; have hfz31_1 := blk_frozen BK122.out 1; have hfz31_2 := blk_frozen BK122.out 2; have hfz31_3 := blk_frozen BK122.out 3; have hfz31_4 := blk_frozen BK122.out 4) | ((with_reducible refine gate_callee (f := 31) rfl ?_); refine goesL_ (some 79) rfl rfl Tryd.func31 (by kernel_rfl) rfl #[.agg #[.int .i64 t124, .int .i64 0, .bool (a1 == 8), .int .i64 0, .int .i64 t120]] rfl (by (try simp only [List.map_toArray, List.map_cons, List.map_nil]); first | done | rfl | (simp only [List.length_drop, List.length_take]; rfl)) ?_; (with_reducible refine (turnspitref06_Pack.calls t124 0 (a1 == 8) 0 t120 t127 t128 _ ?side1 A29.out).mono ?_); (case side1 => first | exact HLd | (refine Ld.below HLd ?_; repeat (first | (with_reducible first | exact HB.out | apply below_alloc | apply pw_below_drewN | apply below_drew1 | refine below_set ?_ GE122.out) | exact HB.out))); rintro e w32 ⟨rfl, hb⟩; refine ⟨_, rfl, ?_⟩; have n0_ := Aside0.mk (blk_below (g := gb122) (o := .cells #[.int .i64 t124, .int .i64 0, .bool (a1 == 8), .int .i64 0, .int .i64 t120] 35 (0, 0)) (by (with_reducible repeat (first | refine blk_drewN ?_ _ | refine blk_drew ?_ | refine blk_alloc ?_ _)); refine blk_put (cs := #[.int .i64 t124, .int .i64 t117, .bool (a1 == 8), .int .i64 0, .int .i64 t120]) ?_ 1 _ (by first | rfl | simp [*]); (with_reducible repeat (first | refine blk_drewN ?_ _ | refine blk_drew ?_ | refine blk_alloc ?_ _)); refine blk_put (cs := #[.int .i64 t124, .int .i64 t117, .bool (a1 == 8), .int .i64 t119, .int .i64 t120]) ?_ 3 _ (by first | rfl | simp [*]); (with_reducible repeat (first | refine blk_drewN ?_ _ | refine blk_drew ?_ | refine blk_alloc ?_ _)); refine blk_put (cs := #[.int .i64 t124, .int .i64 t117, .bool t118, .int .i64 t119, .int .i64 t120]) ?_ 2 _ (by first | rfl | simp [*]); (with_reducible repeat (first | refine blk_drewN ?_ _ | refine blk_drew ?_ | refine blk_alloc ?_ _)); refine blk_put (cs := #[.int .i64 t116, .int .i64 t117, .bool t118, .int .i64 t119, .int .i64 t120]) ?_ 0 _ (by first | rfl | simp [*]); (with_reducible repeat (first | refine blk_drewN ?_ _ | refine blk_drew ?_ | refine blk_alloc ?_ _)); exact BK122.out) hb); have n1_ := Aside0.mk (below_step (by repeat (first | (with_reducible first | exact HB.out | apply below_alloc | apply pw_below_drewN | apply below_drew1 | refine below_set ?_ GE122.out) | exact HB.out)) hb); clear BK122; clear HB; have BK122 := n0_; have HB := n1_; clear n0_ n1_; (try clear hb); (try clear hb2); (try clear hk); (try clear hi)))
                    go_ret2
                    exact ⟨by first | rfl | (simp [errW_none, errW_some] <;> rfl) | (simp [*, errW_none, errW_some] <;> rfl), by repeat (first | (with_reducible first | exact HB.out | apply below_alloc | apply pw_below_drewN | apply below_drew1 | refine below_set ?_ GE122.out) | exact HB.out)⟩
                  · rw [if_neg c28] at H
                    have c28b0 : (a1 == 1) = false := beq_eq_false_iff_ne.mpr c28
                    have c28b1 : (a1 != 1) = true := bne_iff_ne.mpr c28
                    by_cases c33 : a1 = 2
                    · rw [if_pos c33] at H
                      have c33b0 : (a1 == 2) = true := beq_iff_eq.mpr c33
                      have c33b1 : (a1 != 2) = false := bne_eq_false_iff_eq.mpr c33
                      clear c33
                      replace H := Option.bind_eq_some_iff.mp H
                      obtain ⟨⟨t129, t130⟩, A340, H⟩ := H
                      replace H : (some (t129, t130)) = some (r1, r2) := H
                      have A34 := Aside0.mk A340
                      clear A340
                      simp only [Option.some.injEq, Prod.mk.injEq] at H
                      obtain ⟨rfl, rfl⟩ := H
                      go_wp2_with (first | ((with_reducible refine gate_callee (f := 30) rfl ?_); refine goesL_ (some 45) rfl rfl Tryd.func30 (by kernel_rfl) rfl #[.int .i64 a1] rfl (by (try simp only [List.map_toArray, List.map_cons, List.map_nil]); first | done | rfl | (simp only [List.length_drop, List.length_take]; rfl)) ?_; (with_reducible refine (turnspitref07_comes.calls a1 t124 _ ?side1 A22.out).mono ?_); (case side1 => first | exact HLd | (refine Ld.below HLd ?_; repeat (first | (with_reducible first | exact HB.out | apply below_alloc | apply pw_below_drewN | apply below_drew1 | refine below_set ?_ GE122.out) | exact HB.out))); rintro e w35 ⟨rfl, hb⟩; refine ⟨_, rfl, ?_⟩; have n0_ := Aside0.mk (blk_below (g := gb122) (o := .cells #[.int .i64 t116, .int .i64 t117, .bool t118, .int .i64 t119, .int .i64 t120] 35 (0, 0)) (by (with_reducible repeat (first | refine blk_drewN ?_ _ | refine blk_drew ?_ | refine blk_alloc ?_ _)); exact BK122.out) hb); have n1_ := Aside0.mk (below_step (by repeat (first | (with_reducible first | exact HB.out | apply below_alloc | apply pw_below_drewN | apply below_drew1 | refine below_set ?_ GE122.out) | exact HB.out)) hb); clear BK122; clear HB; have BK122 := n0_; have HB := n1_; clear n0_ n1_; (try clear hb); (try clear hb2); (try clear hk); (try clear hi); have hcz36_0 : w35.cell? ⟨gb122, 0, none⟩ = some (.int .i64 t116) := (blk_cell BK122.out 0).trans rfl; have hcz36_1 : w35.cell? ⟨gb122, 1, none⟩ = some (.int .i64 t117) := (blk_cell BK122.out 1).trans rfl; have hcz36_2 : w35.cell? ⟨gb122, 2, none⟩ = some (.bool t118) := (blk_cell BK122.out 2).trans rfl; have hcz36_3 : w35.cell? ⟨gb122, 3, none⟩ = some (.int .i64 t119) := (blk_cell BK122.out 3).trans rfl; have hcz36_4 : w35.cell? ⟨gb122, 4, none⟩ = some (.int .i64 t120) := (blk_cell BK122.out 4).trans rfl; have hfz36_0 := blk_frozen BK122.out 0; have hfz36_1 := blk_frozen BK122.out 1; have hfz36_2 := blk_frozen BK122.out 2; have hfz36_3 := blk_frozen BK122.out 3; have hfz36_4 := blk_frozen BK122.out 4) | ((with_reducible refine gate_callee (f := 31) rfl ?_); refine goesL_ (some 79) rfl rfl Tryd.func31 (by kernel_rfl) rfl #[.agg #[.int .i64 t124, .int .i64 t117, .bool (a1 == 8), .int .i64 (Int.tmod (wrap64 (t119 + 1)) 65536), .int .i64 t120]] rfl (by (try simp only [List.map_toArray, List.map_cons, List.map_nil]); first | done | rfl | (simp only [List.length_drop, List.length_take]; rfl)) ?_; (with_reducible refine (turnspitref06_Pack.calls t124 t117 (a1 == 8) (Int.tmod (wrap64 (t119 + 1)) 65536) t120 t129 t130 _ ?side1 A34.out).mono ?_); (case side1 => first | exact HLd | (refine Ld.below HLd ?_; repeat (first | (with_reducible first | exact HB.out | apply below_alloc | apply pw_below_drewN | apply below_drew1 | refine below_set ?_ GE122.out) | exact HB.out))); rintro e w37 ⟨rfl, hb⟩; refine ⟨_, rfl, ?_⟩; have n0_ := Aside0.mk (blk_below (g := gb122) (o := .cells #[.int .i64 t124, .int .i64 t117, .bool (a1 == 8), .int .i64 (Int.tmod (wrap64 (t119 + 1)) 65536), .int .i64 t120] 35 (0, 0)) (by (with_reducible repeat (first | refine blk_drewN ?_ _ | refine blk_drew ?_ | refine blk_alloc ?_ _)); refine blk_put (cs := #[.int .i64 t124, .int .i64 t117, .bool (a1 == 8), .int .i64 t119, .int .i64 t120]) ?_ 3 _ (by first | rfl | simp [*]); (with_reducible repeat (first | refine blk_drewN ?_ _ | refine blk_drew ?_ | refine blk_alloc ?_ _)); refine blk_put (cs := #[.int .i64 t124, .int .i64 t117, .bool t118, .int .i64 t119, .int .i64 t120]) ?_ 2 _ (by first | rfl | simp [*]); (with_reducible repeat (first | refine blk_drewN ?_ _ | refine blk_drew ?_ | refine blk_alloc ?_ _)); refine blk_put (cs := #[.int .i64 t116, .int .i64 t117, .bool t118, .int .i64 t119, .int .i64 t120]) ?_ 0 _ (by first | rfl | simp [*]); (with_reducible repeat (first | refine blk_drewN ?_ _ | refine blk_drew ?_ | refine blk_alloc ?_ _)); exact BK122.out) hb); have n1_ := Aside0.mk (below_step (by repeat (first | (with_reducible first | exact HB.out | apply below_alloc | apply pw_below_drewN | apply below_drew1 | refine below_set ?_ GE122.out) | exact HB.out)) hb); clear BK122; clear HB; have BK122 := n0_; have HB := n1_; clear n0_ n1_; (try clear hb); (try clear hb2); (try clear hk); (try clear hi)))
                      go_ret2
                      exact ⟨by first | rfl | (simp [errW_none, errW_some] <;> rfl) | (simp [*, errW_none, errW_some] <;> rfl), by repeat (first | (with_reducible first | exact HB.out | apply below_alloc | apply pw_below_drewN | apply below_drew1 | refine below_set ?_ GE122.out) | exact HB.out)⟩
                    · rw [if_neg c33] at H
                      have c33b0 : (a1 == 2) = false := beq_eq_false_iff_ne.mpr c33
                      have c33b1 : (a1 != 2) = true := bne_iff_ne.mpr c33
                      by_cases c38 : a1 = 11
                      · rw [if_pos c38] at H
                        have c38b0 : (a1 == 11) = true := beq_iff_eq.mpr c38
                        have c38b1 : (a1 != 11) = false := bne_eq_false_iff_eq.mpr c38
                        clear c38
                        replace H := Option.bind_eq_some_iff.mp H
                        obtain ⟨⟨t131, t132⟩, A390, H⟩ := H
                        replace H : (some (t131, t132)) = some (r1, r2) := H
                        have A39 := Aside0.mk A390
                        clear A390
                        simp only [Option.some.injEq, Prod.mk.injEq] at H
                        obtain ⟨rfl, rfl⟩ := H
                        go_wp2_with (first | ((with_reducible refine gate_callee (f := 30) rfl ?_); refine goesL_ (some 45) rfl rfl Tryd.func30 (by kernel_rfl) rfl #[.int .i64 a1] rfl (by (try simp only [List.map_toArray, List.map_cons, List.map_nil]); first | done | rfl | (simp only [List.length_drop, List.length_take]; rfl)) ?_; (with_reducible refine (turnspitref07_comes.calls a1 t124 _ ?side1 A22.out).mono ?_); (case side1 => first | exact HLd | (refine Ld.below HLd ?_; repeat (first | (with_reducible first | exact HB.out | apply below_alloc | apply pw_below_drewN | apply below_drew1 | refine below_set ?_ GE122.out) | exact HB.out))); rintro e w40 ⟨rfl, hb⟩; refine ⟨_, rfl, ?_⟩; have n0_ := Aside0.mk (blk_below (g := gb122) (o := .cells #[.int .i64 t116, .int .i64 t117, .bool t118, .int .i64 t119, .int .i64 t120] 35 (0, 0)) (by (with_reducible repeat (first | refine blk_drewN ?_ _ | refine blk_drew ?_ | refine blk_alloc ?_ _)); exact BK122.out) hb); have n1_ := Aside0.mk (below_step (by repeat (first | (with_reducible first | exact HB.out | apply below_alloc | apply pw_below_drewN | apply below_drew1 | refine below_set ?_ GE122.out) | exact HB.out)) hb); clear BK122; clear HB; have BK122 := n0_; have HB := n1_; clear n0_ n1_; (try clear hb); (try clear hb2); (try clear hk); (try clear hi); have hcz41_0 : w40.cell? ⟨gb122, 0, none⟩ = some (.int .i64 t116) := (blk_cell BK122.out 0).trans rfl; have hcz41_1 : w40.cell? ⟨gb122, 1, none⟩ = some (.int .i64 t117) := (blk_cell BK122.out 1).trans rfl; have hcz41_2 : w40.cell? ⟨gb122, 2, none⟩ = some (.bool t118) := (blk_cell BK122.out 2).trans rfl; have hcz41_3 : w40.cell? ⟨gb122, 3, none⟩ = some (.int .i64 t119) := (blk_cell BK122.out 3).trans rfl; have hcz41_4 : w40.cell? ⟨gb122, 4, none⟩ = some (.int .i64 t120) := (blk_cell BK122.out 4).trans rfl; have hfz41_0 := blk_frozen BK122.out 0; have hfz41_1 := blk_frozen BK122.out 1; have hfz41_2 := blk_frozen BK122.out 2; have hfz41_3 := blk_frozen BK122.out 3; have hfz41_4 := blk_frozen BK122.out 4) | ((with_reducible refine gate_callee (f := 31) rfl ?_); refine goesL_ (some 79) rfl rfl Tryd.func31 (by kernel_rfl) rfl #[.agg #[.int .i64 t124, .int .i64 a2, .bool (a1 == 8), .int .i64 t119, .int .i64 t120]] rfl (by (try simp only [List.map_toArray, List.map_cons, List.map_nil]); first | done | rfl | (simp only [List.length_drop, List.length_take]; rfl)) ?_; (with_reducible refine (turnspitref06_Pack.calls t124 a2 (a1 == 8) t119 t120 t131 t132 _ ?side1 A39.out).mono ?_); (case side1 => first | exact HLd | (refine Ld.below HLd ?_; repeat (first | (with_reducible first | exact HB.out | apply below_alloc | apply pw_below_drewN | apply below_drew1 | refine below_set ?_ GE122.out) | exact HB.out))); rintro e w42 ⟨rfl, hb⟩; refine ⟨_, rfl, ?_⟩; have n0_ := Aside0.mk (blk_below (g := gb122) (o := .cells #[.int .i64 t124, .int .i64 a2, .bool (a1 == 8), .int .i64 t119, .int .i64 t120] 35 (0, 0)) (by (with_reducible repeat (first | refine blk_drewN ?_ _ | refine blk_drew ?_ | refine blk_alloc ?_ _)); refine blk_put (cs := #[.int .i64 t124, .int .i64 t117, .bool (a1 == 8), .int .i64 t119, .int .i64 t120]) ?_ 1 _ (by first | rfl | simp [*]); (with_reducible repeat (first | refine blk_drewN ?_ _ | refine blk_drew ?_ | refine blk_alloc ?_ _)); refine blk_put (cs := #[.int .i64 t124, .int .i64 t117, .bool t118, .int .i64 t119, .int .i64 t120]) ?_ 2 _ (by first | rfl | simp [*]); (with_reducible repeat (first | refine blk_drewN ?_ _ | refine blk_drew ?_ | refine blk_alloc ?_ _)); refine blk_put (cs := #[.int .i64 t116, .int .i64 t117, .bool t118, .int .i64 t119, .int .i64 t120]) ?_ 0 _ (by first | rfl | simp [*]); (with_reducible repeat (first | refine blk_drewN ?_ _ | refine blk_drew ?_ | refine blk_alloc ?_ _)); exact BK122.out) hb); have n1_ := Aside0.mk (below_step (by repeat (first | (with_reducible first | exact HB.out | apply below_alloc | apply pw_below_drewN | apply below_drew1 | refine below_set ?_ GE122.out) | exact HB.out)) hb); clear BK122; clear HB; have BK122 := n0_; have HB := n1_; clear n0_ n1_; (try clear hb); (try clear hb2); (try clear hk); (try clear hi)))
                        go_ret2
                        exact ⟨by first | rfl | (simp [errW_none, errW_some] <;> rfl) | (simp [*, errW_none, errW_some] <;> rfl), by repeat (first | (with_reducible first | exact HB.out | apply below_alloc | apply pw_below_drewN | apply below_drew1 | refine below_set ?_ GE122.out) | exact HB.out)⟩
                      · rw [if_neg c38] at H
                        have c38b0 : (a1 == 11) = false := beq_eq_false_iff_ne.mpr c38
                        have c38b1 : (a1 != 11) = true := bne_iff_ne.mpr c38
                        by_cases c43 : a1 = 12
                        · rw [if_pos c43] at H
                          have c43b0 : (a1 == 12) = true := beq_iff_eq.mpr c43
                          have c43b1 : (a1 != 12) = false := bne_eq_false_iff_eq.mpr c43
                          clear c43
                          replace H := Option.bind_eq_some_iff.mp H
                          obtain ⟨⟨t133, t134⟩, A440, H⟩ := H
                          replace H : (some (t133, t134)) = some (r1, r2) := H
                          have A44 := Aside0.mk A440
                          clear A440
                          simp only [Option.some.injEq, Prod.mk.injEq] at H
                          obtain ⟨rfl, rfl⟩ := H
                          go_wp2_with (first | ((with_reducible refine gate_callee (f := 30) rfl ?_); refine goesL_ (some 45) rfl rfl Tryd.func30 (by kernel_rfl) rfl #[.int .i64 a1] rfl (by (try simp only [List.map_toArray, List.map_cons, List.map_nil]); first | done | rfl | (simp only [List.length_drop, List.length_take]; rfl)) ?_; (with_reducible refine (turnspitref07_comes.calls a1 t124 _ ?side1 A22.out).mono ?_); (case side1 => first | exact HLd | (refine Ld.below HLd ?_; repeat (first | (with_reducible first | exact HB.out | apply below_alloc | apply pw_below_drewN | apply below_drew1 | refine below_set ?_ GE122.out) | exact HB.out))); rintro e w45 ⟨rfl, hb⟩; refine ⟨_, rfl, ?_⟩; have n0_ := Aside0.mk (blk_below (g := gb122) (o := .cells #[.int .i64 t116, .int .i64 t117, .bool t118, .int .i64 t119, .int .i64 t120] 35 (0, 0)) (by (with_reducible repeat (first | refine blk_drewN ?_ _ | refine blk_drew ?_ | refine blk_alloc ?_ _)); exact BK122.out) hb); have n1_ := Aside0.mk (below_step (by repeat (first | (with_reducible first | exact HB.out | apply below_alloc | apply pw_below_drewN | apply below_drew1 | refine below_set ?_ GE122.out) | exact HB.out)) hb); clear BK122; clear HB; have BK122 := n0_; have HB := n1_; clear n0_ n1_; (try clear hb); (try clear hb2); (try clear hk); (try clear hi); have hcz46_0 : w45.cell? ⟨gb122, 0, none⟩ = some (.int .i64 t116) := (blk_cell BK122.out 0).trans rfl; have hcz46_1 : w45.cell? ⟨gb122, 1, none⟩ = some (.int .i64 t117) := (blk_cell BK122.out 1).trans rfl; have hcz46_2 : w45.cell? ⟨gb122, 2, none⟩ = some (.bool t118) := (blk_cell BK122.out 2).trans rfl; have hcz46_3 : w45.cell? ⟨gb122, 3, none⟩ = some (.int .i64 t119) := (blk_cell BK122.out 3).trans rfl; have hcz46_4 : w45.cell? ⟨gb122, 4, none⟩ = some (.int .i64 t120) := (blk_cell BK122.out 4).trans rfl; have hfz46_0 := blk_frozen BK122.out 0; have hfz46_1 := blk_frozen BK122.out 1; have hfz46_2 := blk_frozen BK122.out 2; have hfz46_3 := blk_frozen BK122.out 3; have hfz46_4 := blk_frozen BK122.out 4) | ((with_reducible refine gate_callee (f := 31) rfl ?_); refine goesL_ (some 79) rfl rfl Tryd.func31 (by kernel_rfl) rfl #[.agg #[.int .i64 t124, .int .i64 a2, .bool (a1 == 8), .int .i64 t119, .int .i64 t120]] rfl (by (try simp only [List.map_toArray, List.map_cons, List.map_nil]); first | done | rfl | (simp only [List.length_drop, List.length_take]; rfl)) ?_; (with_reducible refine (turnspitref06_Pack.calls t124 a2 (a1 == 8) t119 t120 t133 t134 _ ?side1 A44.out).mono ?_); (case side1 => first | exact HLd | (refine Ld.below HLd ?_; repeat (first | (with_reducible first | exact HB.out | apply below_alloc | apply pw_below_drewN | apply below_drew1 | refine below_set ?_ GE122.out) | exact HB.out))); rintro e w47 ⟨rfl, hb⟩; refine ⟨_, rfl, ?_⟩; have n0_ := Aside0.mk (blk_below (g := gb122) (o := .cells #[.int .i64 t124, .int .i64 a2, .bool (a1 == 8), .int .i64 t119, .int .i64 t120] 35 (0, 0)) (by (with_reducible repeat (first | refine blk_drewN ?_ _ | refine blk_drew ?_ | refine blk_alloc ?_ _)); refine blk_put (cs := #[.int .i64 t124, .int .i64 t117, .bool (a1 == 8), .int .i64 t119, .int .i64 t120]) ?_ 1 _ (by first | rfl | simp [*]); (with_reducible repeat (first | refine blk_drewN ?_ _ | refine blk_drew ?_ | refine blk_alloc ?_ _)); refine blk_put (cs := #[.int .i64 t124, .int .i64 t117, .bool t118, .int .i64 t119, .int .i64 t120]) ?_ 2 _ (by first | rfl | simp [*]); (with_reducible repeat (first | refine blk_drewN ?_ _ | refine blk_drew ?_ | refine blk_alloc ?_ _)); refine blk_put (cs := #[.int .i64 t116, .int .i64 t117, .bool t118, .int .i64 t119, .int .i64 t120]) ?_ 0 _ (by first | rfl | simp [*]); (with_reducible repeat (first | refine blk_drewN ?_ _ | refine blk_drew ?_ | refine blk_alloc ?_ _)); exact BK122.out) hb); have n1_ := Aside0.mk (below_step (by repeat (first | (with_reducible first | exact HB.out | apply below_alloc | apply pw_below_drewN | apply below_drew1 | refine below_set ?_ GE122.out) | exact HB.out)) hb); clear BK122; clear HB; have BK122 := n0_; have HB := n1_; clear n0_ n1_; (try clear hb); (try clear hb2); (try clear hk); (try clear hi)))
                          go_ret2
                          exact ⟨by first | rfl | (simp [errW_none, errW_some] <;> rfl) | (simp [*, errW_none, errW_some] <;> rfl), by repeat (first | (with_reducible first | exact HB.out | apply below_alloc | apply pw_below_drewN | apply below_drew1 | refine below_set ?_ GE122.out) | exact HB.out)⟩
                        · rw [if_neg c43] at H
                          have c43b0 : (a1 == 12) = false := beq_eq_false_iff_ne.mpr c43
                          have c43b1 : (a1 != 12) = true := bne_iff_ne.mpr c43
                          by_cases c48 : a1 = 13
                          · rw [if_pos c48] at H
                            have c48b0 : (a1 == 13) = true := beq_iff_eq.mpr c48
                            have c48b1 : (a1 != 13) = false := bne_eq_false_iff_eq.mpr c48
                            clear c48
                            replace H := Option.bind_eq_some_iff.mp H
                            obtain ⟨⟨t135, t136⟩, A490, H⟩ := H
                            replace H : (some (t135, t136)) = some (r1, r2) := H
                            have A49 := Aside0.mk A490
                            clear A490
                            simp only [Option.some.injEq, Prod.mk.injEq] at H
                            obtain ⟨rfl, rfl⟩ := H
                            go_wp2_with (first | ((with_reducible refine gate_callee (f := 30) rfl ?_); refine goesL_ (some 45) rfl rfl Tryd.func30 (by kernel_rfl) rfl #[.int .i64 a1] rfl (by (try simp only [List.map_toArray, List.map_cons, List.map_nil]); first | done | rfl | (simp only [List.length_drop, List.length_take]; rfl)) ?_; (with_reducible refine (turnspitref07_comes.calls a1 t124 _ ?side1 A22.out).mono ?_); (case side1 => first | exact HLd | (refine Ld.below HLd ?_; repeat (first | (with_reducible first | exact HB.out | apply below_alloc | apply pw_below_drewN | apply below_drew1 | refine below_set ?_ GE122.out) | exact HB.out))); rintro e w50 ⟨rfl, hb⟩; refine ⟨_, rfl, ?_⟩; have n0_ := Aside0.mk (blk_below (g := gb122) (o := .cells #[.int .i64 t116, .int .i64 t117, .bool t118, .int .i64 t119, .int .i64 t120] 35 (0, 0)) (by (with_reducible repeat (first | refine blk_drewN ?_ _ | refine blk_drew ?_ | refine blk_alloc ?_ _)); exact BK122.out) hb); have n1_ := Aside0.mk (below_step (by repeat (first | (with_reducible first | exact HB.out | apply below_alloc | apply pw_below_drewN | apply below_drew1 | refine below_set ?_ GE122.out) | exact HB.out)) hb); clear BK122; clear HB; have BK122 := n0_; have HB := n1_; clear n0_ n1_; (try clear hb); (try clear hb2); (try clear hk); (try clear hi); have hcz51_0 : w50.cell? ⟨gb122, 0, none⟩ = some (.int .i64 t116) := (blk_cell BK122.out 0).trans rfl; have hcz51_1 : w50.cell? ⟨gb122, 1, none⟩ = some (.int .i64 t117) := (blk_cell BK122.out 1).trans rfl; have hcz51_2 : w50.cell? ⟨gb122, 2, none⟩ = some (.bool t118) := (blk_cell BK122.out 2).trans rfl; have hcz51_3 : w50.cell? ⟨gb122, 3, none⟩ = some (.int .i64 t119) := (blk_cell BK122.out 3).trans rfl; have hcz51_4 : w50.cell? ⟨gb122, 4, none⟩ = some (.int .i64 t120) := (blk_cell BK122.out 4).trans rfl; have hfz51_0 := blk_frozen BK122.out 0; have hfz51_1 := blk_frozen BK122.out 1; have hfz51_2 := blk_frozen BK122.out 2; have hfz51_3 := blk_frozen BK122.out 3; have hfz51_4 := blk_frozen BK122.out 4) | ((with_reducible refine gate_callee (f := 31) rfl ?_); refine goesL_ (some 79) rfl rfl Tryd.func31 (by kernel_rfl) rfl #[.agg #[.int .i64 t124, .int .i64 a2, .bool (a1 == 8), .int .i64 t119, .int .i64 t120]] rfl (by (try simp only [List.map_toArray, List.map_cons, List.map_nil]); first | done | rfl | (simp only [List.length_drop, List.length_take]; rfl)) ?_; (with_reducible refine (turnspitref06_Pack.calls t124 a2 (a1 == 8) t119 t120 t135 t136 _ ?side1 A49.out).mono ?_); (case side1 => first | exact HLd | (refine Ld.below HLd ?_; repeat (first | (with_reducible first | exact HB.out | apply below_alloc | apply pw_below_drewN | apply below_drew1 | refine below_set ?_ GE122.out) | exact HB.out))); rintro e w52 ⟨rfl, hb⟩; refine ⟨_, rfl, ?_⟩; have n0_ := Aside0.mk (blk_below (g := gb122) (o := .cells #[.int .i64 t124, .int .i64 a2, .bool (a1 == 8), .int .i64 t119, .int .i64 t120] 35 (0, 0)) (by (with_reducible repeat (first | refine blk_drewN ?_ _ | refine blk_drew ?_ | refine blk_alloc ?_ _)); refine blk_put (cs := #[.int .i64 t124, .int .i64 t117, .bool (a1 == 8), .int .i64 t119, .int .i64 t120]) ?_ 1 _ (by first | rfl | simp [*]); (with_reducible repeat (first | refine blk_drewN ?_ _ | refine blk_drew ?_ | refine blk_alloc ?_ _)); refine blk_put (cs := #[.int .i64 t124, .int .i64 t117, .bool t118, .int .i64 t119, .int .i64 t120]) ?_ 2 _ (by first | rfl | simp [*]); (with_reducible repeat (first | refine blk_drewN ?_ _ | refine blk_drew ?_ | refine blk_alloc ?_ _)); refine blk_put (cs := #[.int .i64 t116, .int .i64 t117, .bool t118, .int .i64 t119, .int .i64 t120]) ?_ 0 _ (by first | rfl | simp [*]); (with_reducible repeat (first | refine blk_drewN ?_ _ | refine blk_drew ?_ | refine blk_alloc ?_ _)); exact BK122.out) hb); have n1_ := Aside0.mk (below_step (by repeat (first | (with_reducible first | exact HB.out | apply below_alloc | apply pw_below_drewN | apply below_drew1 | refine below_set ?_ GE122.out) | exact HB.out)) hb); clear BK122; clear HB; have BK122 := n0_; have HB := n1_; clear n0_ n1_; (try clear hb); (try clear hb2); (try clear hk); (try clear hi)))
                            go_ret2
                            exact ⟨by first | rfl | (simp [errW_none, errW_some] <;> rfl) | (simp [*, errW_none, errW_some] <;> rfl), by repeat (first | (with_reducible first | exact HB.out | apply below_alloc | apply pw_below_drewN | apply below_drew1 | refine below_set ?_ GE122.out) | exact HB.out)⟩
                          · rw [if_neg c48] at H
                            have c48b0 : (a1 == 13) = false := beq_eq_false_iff_ne.mpr c48
                            have c48b1 : (a1 != 13) = true := bne_iff_ne.mpr c48
                            by_cases c53 : a1 = 15
                            · rw [if_pos c53] at H
                              have c53b0 : (a1 == 15) = true := beq_iff_eq.mpr c53
                              have c53b1 : (a1 != 15) = false := bne_eq_false_iff_eq.mpr c53
                              clear c53
                              replace H := Option.bind_eq_some_iff.mp H
                              obtain ⟨⟨t137, t138⟩, A540, H⟩ := H
                              replace H : (some (t137, t138)) = some (r1, r2) := H
                              have A54 := Aside0.mk A540
                              clear A540
                              simp only [Option.some.injEq, Prod.mk.injEq] at H
                              obtain ⟨rfl, rfl⟩ := H
                              go_wp2_with (first | ((with_reducible refine gate_callee (f := 30) rfl ?_); refine goesL_ (some 45) rfl rfl Tryd.func30 (by kernel_rfl) rfl #[.int .i64 a1] rfl (by (try simp only [List.map_toArray, List.map_cons, List.map_nil]); first | done | rfl | (simp only [List.length_drop, List.length_take]; rfl)) ?_; (with_reducible refine (turnspitref07_comes.calls a1 t124 _ ?side1 A22.out).mono ?_); (case side1 => first | exact HLd | (refine Ld.below HLd ?_; repeat (first | (with_reducible first | exact HB.out | apply below_alloc | apply pw_below_drewN | apply below_drew1 | refine below_set ?_ GE122.out) | exact HB.out))); rintro e w55 ⟨rfl, hb⟩; refine ⟨_, rfl, ?_⟩; have n0_ := Aside0.mk (blk_below (g := gb122) (o := .cells #[.int .i64 t116, .int .i64 t117, .bool t118, .int .i64 t119, .int .i64 t120] 35 (0, 0)) (by (with_reducible repeat (first | refine blk_drewN ?_ _ | refine blk_drew ?_ | refine blk_alloc ?_ _)); exact BK122.out) hb); have n1_ := Aside0.mk (below_step (by repeat (first | (with_reducible first | exact HB.out | apply below_alloc | apply pw_below_drewN | apply below_drew1 | refine below_set ?_ GE122.out) | exact HB.out)) hb); clear BK122; clear HB; have BK122 := n0_; have HB := n1_; clear n0_ n1_; (try clear hb); (try clear hb2); (try clear hk); (try clear hi); have hcz56_0 : w55.cell? ⟨gb122, 0, none⟩ = some (.int .i64 t116) := (blk_cell BK122.out 0).trans rfl; have hcz56_1 : w55.cell? ⟨gb122, 1, none⟩ = some (.int .i64 t117) := (blk_cell BK122.out 1).trans rfl; have hcz56_2 : w55.cell? ⟨gb122, 2, none⟩ = some (.bool t118) := (blk_cell BK122.out 2).trans rfl; have hcz56_3 : w55.cell? ⟨gb122, 3, none⟩ = some (.int .i64 t119) := (blk_cell BK122.out 3).trans rfl; have hcz56_4 : w55.cell? ⟨gb122, 4, none⟩ = some (.int .i64 t120) := (blk_cell BK122.out 4).trans rfl; have hfz56_0 := blk_frozen BK122.out 0; have hfz56_1 := blk_frozen BK122.out 1; have hfz56_2 := blk_frozen BK122.out 2; have hfz56_3 := blk_frozen BK122.out 3; have hfz56_4 := blk_frozen BK122.out 4) | ((with_reducible refine gate_callee (f := 31) rfl ?_); refine goesL_ (some 79) rfl rfl Tryd.func31 (by kernel_rfl) rfl #[.agg #[.int .i64 t124, .int .i64 a2, .bool (a1 == 8), .int .i64 t119, .int .i64 t120]] rfl (by (try simp only [List.map_toArray, List.map_cons, List.map_nil]); first | done | rfl | (simp only [List.length_drop, List.length_take]; rfl)) ?_; (with_reducible refine (turnspitref06_Pack.calls t124 a2 (a1 == 8) t119 t120 t137 t138 _ ?side1 A54.out).mono ?_); (case side1 => first | exact HLd | (refine Ld.below HLd ?_; repeat (first | (with_reducible first | exact HB.out | apply below_alloc | apply pw_below_drewN | apply below_drew1 | refine below_set ?_ GE122.out) | exact HB.out))); rintro e w57 ⟨rfl, hb⟩; refine ⟨_, rfl, ?_⟩; have n0_ := Aside0.mk (blk_below (g := gb122) (o := .cells #[.int .i64 t124, .int .i64 a2, .bool (a1 == 8), .int .i64 t119, .int .i64 t120] 35 (0, 0)) (by (with_reducible repeat (first | refine blk_drewN ?_ _ | refine blk_drew ?_ | refine blk_alloc ?_ _)); refine blk_put (cs := #[.int .i64 t124, .int .i64 t117, .bool (a1 == 8), .int .i64 t119, .int .i64 t120]) ?_ 1 _ (by first | rfl | simp [*]); (with_reducible repeat (first | refine blk_drewN ?_ _ | refine blk_drew ?_ | refine blk_alloc ?_ _)); refine blk_put (cs := #[.int .i64 t124, .int .i64 t117, .bool t118, .int .i64 t119, .int .i64 t120]) ?_ 2 _ (by first | rfl | simp [*]); (with_reducible repeat (first | refine blk_drewN ?_ _ | refine blk_drew ?_ | refine blk_alloc ?_ _)); refine blk_put (cs := #[.int .i64 t116, .int .i64 t117, .bool t118, .int .i64 t119, .int .i64 t120]) ?_ 0 _ (by first | rfl | simp [*]); (with_reducible repeat (first | refine blk_drewN ?_ _ | refine blk_drew ?_ | refine blk_alloc ?_ _)); exact BK122.out) hb); have n1_ := Aside0.mk (below_step (by repeat (first | (with_reducible first | exact HB.out | apply below_alloc | apply pw_below_drewN | apply below_drew1 | refine below_set ?_ GE122.out) | exact HB.out)) hb); clear BK122; clear HB; have BK122 := n0_; have HB := n1_; clear n0_ n1_; (try clear hb); (try clear hb2); (try clear hk); (try clear hi)))
                              go_ret2
                              exact ⟨by first | rfl | (simp [errW_none, errW_some] <;> rfl) | (simp [*, errW_none, errW_some] <;> rfl), by repeat (first | (with_reducible first | exact HB.out | apply below_alloc | apply pw_below_drewN | apply below_drew1 | refine below_set ?_ GE122.out) | exact HB.out)⟩
                            · rw [if_neg c53] at H
                              have c53b0 : (a1 == 15) = false := beq_eq_false_iff_ne.mpr c53
                              have c53b1 : (a1 != 15) = true := bne_iff_ne.mpr c53
                              replace H := Option.bind_eq_some_iff.mp H
                              obtain ⟨⟨t139, t140⟩, A580, H⟩ := H
                              replace H : (some (t139, t140)) = some (r1, r2) := H
                              have A58 := Aside0.mk A580
                              clear A580
                              simp only [Option.some.injEq, Prod.mk.injEq] at H
                              obtain ⟨rfl, rfl⟩ := H
                              go_wp2_with (first | ((with_reducible refine gate_callee (f := 30) rfl ?_); refine goesL_ (some 45) rfl rfl Tryd.func30 (by kernel_rfl) rfl #[.int .i64 a1] rfl (by (try simp only [List.map_toArray, List.map_cons, List.map_nil]); first | done | rfl | (simp only [List.length_drop, List.length_take]; rfl)) ?_; (with_reducible refine (turnspitref07_comes.calls a1 t124 _ ?side1 A22.out).mono ?_); (case side1 => first | exact HLd | (refine Ld.below HLd ?_; repeat (first | (with_reducible first | exact HB.out | apply below_alloc | apply pw_below_drewN | apply below_drew1 | refine below_set ?_ GE122.out) | exact HB.out))); rintro e w59 ⟨rfl, hb⟩; refine ⟨_, rfl, ?_⟩; have n0_ := Aside0.mk (blk_below (g := gb122) (o := .cells #[.int .i64 t116, .int .i64 t117, .bool t118, .int .i64 t119, .int .i64 t120] 35 (0, 0)) (by (with_reducible repeat (first | refine blk_drewN ?_ _ | refine blk_drew ?_ | refine blk_alloc ?_ _)); exact BK122.out) hb); have n1_ := Aside0.mk (below_step (by repeat (first | (with_reducible first | exact HB.out | apply below_alloc | apply pw_below_drewN | apply below_drew1 | refine below_set ?_ GE122.out) | exact HB.out)) hb); clear BK122; clear HB; have BK122 := n0_; have HB := n1_; clear n0_ n1_; (try clear hb); (try clear hb2); (try clear hk); (try clear hi); have hcz60_0 : w59.cell? ⟨gb122, 0, none⟩ = some (.int .i64 t116) := (blk_cell BK122.out 0).trans rfl; have hcz60_1 : w59.cell? ⟨gb122, 1, none⟩ = some (.int .i64 t117) := (blk_cell BK122.out 1).trans rfl; have hcz60_2 : w59.cell? ⟨gb122, 2, none⟩ = some (.bool t118) := (blk_cell BK122.out 2).trans rfl; have hcz60_3 : w59.cell? ⟨gb122, 3, none⟩ = some (.int .i64 t119) := (blk_cell BK122.out 3).trans rfl; have hcz60_4 : w59.cell? ⟨gb122, 4, none⟩ = some (.int .i64 t120) := (blk_cell BK122.out 4).trans rfl; have hfz60_0 := blk_frozen BK122.out 0; have hfz60_1 := blk_frozen BK122.out 1; have hfz60_2 := blk_frozen BK122.out 2; have hfz60_3 := blk_frozen BK122.out 3; have hfz60_4 := blk_frozen BK122.out 4) | ((with_reducible refine gate_callee (f := 31) rfl ?_); refine goesL_ (some 79) rfl rfl Tryd.func31 (by kernel_rfl) rfl #[.agg #[.int .i64 t124, .int .i64 t117, .bool (a1 == 8), .int .i64 t119, .int .i64 t120]] rfl (by (try simp only [List.map_toArray, List.map_cons, List.map_nil]); first | done | rfl | (simp only [List.length_drop, List.length_take]; rfl)) ?_; (with_reducible refine (turnspitref06_Pack.calls t124 t117 (a1 == 8) t119 t120 t139 t140 _ ?side1 A58.out).mono ?_); (case side1 => first | exact HLd | (refine Ld.below HLd ?_; repeat (first | (with_reducible first | exact HB.out | apply below_alloc | apply pw_below_drewN | apply below_drew1 | refine below_set ?_ GE122.out) | exact HB.out))); rintro e w61 ⟨rfl, hb⟩; refine ⟨_, rfl, ?_⟩; have n0_ := Aside0.mk (blk_below (g := gb122) (o := .cells #[.int .i64 t124, .int .i64 t117, .bool (a1 == 8), .int .i64 t119, .int .i64 t120] 35 (0, 0)) (by (with_reducible repeat (first | refine blk_drewN ?_ _ | refine blk_drew ?_ | refine blk_alloc ?_ _)); refine blk_put (cs := #[.int .i64 t124, .int .i64 t117, .bool t118, .int .i64 t119, .int .i64 t120]) ?_ 2 _ (by first | rfl | simp [*]); (with_reducible repeat (first | refine blk_drewN ?_ _ | refine blk_drew ?_ | refine blk_alloc ?_ _)); refine blk_put (cs := #[.int .i64 t116, .int .i64 t117, .bool t118, .int .i64 t119, .int .i64 t120]) ?_ 0 _ (by first | rfl | simp [*]); (with_reducible repeat (first | refine blk_drewN ?_ _ | refine blk_drew ?_ | refine blk_alloc ?_ _)); exact BK122.out) hb); have n1_ := Aside0.mk (below_step (by repeat (first | (with_reducible first | exact HB.out | apply below_alloc | apply pw_below_drewN | apply below_drew1 | refine below_set ?_ GE122.out) | exact HB.out)) hb); clear BK122; clear HB; have BK122 := n0_; have HB := n1_; clear n0_ n1_; (try clear hb); (try clear hb2); (try clear hk); (try clear hi)))
                              go_ret2
                              exact ⟨by first | rfl | (simp [errW_none, errW_some] <;> rfl) | (simp [*, errW_none, errW_some] <;> rfl), by repeat (first | (with_reducible first | exact HB.out | apply below_alloc | apply pw_below_drewN | apply below_drew1 | refine below_set ?_ GE122.out) | exact HB.out)⟩
        · replace c15 := Bool.eq_false_iff.mpr c15
          subst c15
          have H1 : (some (0, 4)) = some (r1, r2) := by rw [if_neg (show ¬ (false = true) by decide)] at H; exact H
          clear H
          have H := H1
          clear H1
          simp only [Option.some.injEq, Prod.mk.injEq] at H
          obtain ⟨rfl, rfl⟩ := H
          have hcz62_0 : wc.cell? ⟨gb122, 0, none⟩ = some (.int .i64 t116) := (blk_cell BK122.out 0).trans rfl
          have hcz62_1 : wc.cell? ⟨gb122, 1, none⟩ = some (.int .i64 t117) := (blk_cell BK122.out 1).trans rfl
          have hcz62_2 : wc.cell? ⟨gb122, 2, none⟩ = some (.bool t118) := (blk_cell BK122.out 2).trans rfl
          have hcz62_3 : wc.cell? ⟨gb122, 3, none⟩ = some (.int .i64 t119) := (blk_cell BK122.out 3).trans rfl
          have hcz62_4 : wc.cell? ⟨gb122, 4, none⟩ = some (.int .i64 t120) := (blk_cell BK122.out 4).trans rfl
          have hfz62_0 := blk_frozen BK122.out 0
          have hfz62_1 := blk_frozen BK122.out 1
          have hfz62_2 := blk_frozen BK122.out 2
          have hfz62_3 := blk_frozen BK122.out 3
          have hfz62_4 := blk_frozen BK122.out 4
          go_wp2_with (first | ((with_reducible refine gate_callee (f := 29) rfl ?_); refine goesL_ (some 35) rfl rfl Tryd.func29 (by kernel_rfl) rfl #[.agg #[.int .i64 t116, .int .i64 t117, .bool t118, .int .i64 t119, .int .i64 t120], .int .i64 a1] rfl (by (try simp only [List.map_toArray, List.map_cons, List.map_nil]); first | done | rfl | (simp only [List.length_drop, List.length_take]; rfl)) ?_; (with_reducible refine (turnspitref07_of.calls kj4 t116 t117 t118 t119 t120 a1 false _ ?side1 A14.out).mono ?_); (case side1 => first | exact HLd | (refine Ld.below HLd ?_; repeat (first | (with_reducible first | exact HB.out | apply below_alloc | apply pw_below_drewN | apply below_drew1 | refine below_set ?_ GE122.out) | exact HB.out))); rintro e w63 ⟨rfl, hb⟩; refine ⟨_, rfl, ?_⟩; have n0_ := Aside0.mk (blk_below (g := gb122) (o := .cells #[.int .i64 t116, .int .i64 t117, .bool t118, .int .i64 t119, .int .i64 t120] 35 (0, 0)) (by (with_reducible repeat (first | refine blk_drewN ?_ _ | refine blk_drew ?_ | refine blk_alloc ?_ _)); exact BK122.out) hb); have n1_ := Aside0.mk (below_step (by repeat (first | (with_reducible first | exact HB.out | apply below_alloc | apply pw_below_drewN | apply below_drew1 | refine below_set ?_ GE122.out) | exact HB.out)) hb); clear BK122; clear HB; have BK122 := n0_; have HB := n1_; clear n0_ n1_; (try clear hb); (try clear hb2); (try clear hk); (try clear hi)))
          go_ret2
          exact ⟨by first | rfl | (simp [errW_none, errW_some] <;> rfl) | (simp [*, errW_none, errW_some] <;> rfl), by repeat (first | (with_reducible first | exact HB.out | apply below_alloc | apply pw_below_drewN | apply below_drew1 | refine below_set ?_ GE122.out) | exact HB.out)⟩

end Go.Proofs.YtebmbegblnoeaaaDoor.Print

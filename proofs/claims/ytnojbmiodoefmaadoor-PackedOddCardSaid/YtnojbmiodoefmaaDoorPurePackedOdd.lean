/- PackedOdd: the walk. -/
import Derived.Test.YtnojbmiodoefmaaDoorPureBase
import Derived.Test.YtnojbmiodoefmaaDoorPureState
import Derived.Test.YtnojbmiodoefmaaDoorPrintE1
namespace Go.Proofs.YtnojbmiodoefmaaDoor
open Go.RowKit Go.Proofs.YtnojbmiodoefmaaDoor.Given Go.Proofs.YtnojbmiodoefmaaDoor.Print Go.Proofs.YtnojbmiodoefmaaDoor.Pure Go.Proofs.YtnojbmiodoefmaaDoorW.PrintWords
set_option linter.unusedVariables false
set_option linter.unusedSimpArgs false
attribute [local go_sem high] eqA23
set_option maxHeartbeats 4000000 in
set_option maxRecDepth 100000 in
theorem odd_0neg (n q much z0 z1 z3 z4 W : Int) (w : World) (HLd : Ld w) (hn0 : 0 ≤ n) (hn1 : n < 18446744073709551616) (hq0 : 0 ≤ q) (hq1 : q < 256) (b0 : (q % 5 == 0) = true) (m0 : decide (much < 0) = true) (m1 : -9223372036854775808 ≤ much) (m2 : much < 0)
    (s1 : turnspitlaw06_state.f n false = some (z0, z1, false, z3, z4)) :
    Calls Tryd.prog 9 #[.int .u64 n, .int .u8 q, .int .i64 much] w fun e w' => e = .returned (.bool true) ∧ Below w.heap.size w w' := by
  have HL := Aside0.mk HLd
  clear HLd
  have S1 := Aside0.mk s1
  clear s1
  go_enter Tryd.func9, Tryd.ntmps9
  go_wp2_with fail
  refine (turnspitlaw06_awake.calls true _ HL.out rfl).mono ?_
  rintro e w1 ⟨rfl, hb⟩
  have HB1 := Aside0.mk (below_step (Below.refl w.heap.size w) hb)
  clear hb
  go_wp2_with fail
  refine (turnspitlaw06_state.calls n false z0 z1 false z3 z4 _ (Ld.below HL.out (by exact HB1.out)) S1.out).mono ?_
  rintro e w2 ⟨rfl, hb⟩
  have HB2 := Aside0.mk (below_step HB1.out hb)
  clear hb
  go_wp2_with fail
  go_ret
  exact ⟨rfl, by repeat (first | exact HB2.out | apply below_alloc | (refine below_far ?_ (by have := HB2.out.size; simp; omega) _))⟩
set_option maxHeartbeats 4000000 in
set_option maxRecDepth 100000 in
theorem odd_0big (n q much z0 z1 z3 z4 W : Int) (w : World) (HLd : Ld w) (hn0 : 0 ≤ n) (hn1 : n < 18446744073709551616) (hq0 : 0 ≤ q) (hq1 : q < 256) (b0 : (q % 5 == 0) = true) (m0 : decide (much < 0) = false) (m1 : decide (1099511627776 < much) = true) (m2 : 0 ≤ much) (m3 : much ≤ 9223372036854775807)
    (s1 : turnspitlaw06_state.f n false = some (z0, z1, false, z3, z4)) :
    Calls Tryd.prog 9 #[.int .u64 n, .int .u8 q, .int .i64 much] w fun e w' => e = .returned (.bool true) ∧ Below w.heap.size w w' := by
  have HL := Aside0.mk HLd
  clear HLd
  have S1 := Aside0.mk s1
  clear s1
  go_enter Tryd.func9, Tryd.ntmps9
  go_wp2_with fail
  refine (turnspitlaw06_awake.calls true _ HL.out rfl).mono ?_
  rintro e w1 ⟨rfl, hb⟩
  have HB1 := Aside0.mk (below_step (Below.refl w.heap.size w) hb)
  clear hb
  go_wp2_with fail
  refine (turnspitlaw06_state.calls n false z0 z1 false z3 z4 _ (Ld.below HL.out (by exact HB1.out)) S1.out).mono ?_
  rintro e w2 ⟨rfl, hb⟩
  have HB2 := Aside0.mk (below_step HB1.out hb)
  clear hb
  go_wp2_with fail
  go_ret
  exact ⟨rfl, by repeat (first | exact HB2.out | apply below_alloc | (refine below_far ?_ (by have := HB2.out.size; simp; omega) _))⟩
set_option maxHeartbeats 4000000 in
set_option maxRecDepth 100000 in
theorem odd_0go (n q much z0 z1 z3 z4 W : Int) (w : World) (HLd : Ld w) (hn0 : 0 ≤ n) (hn1 : n < 18446744073709551616) (hq0 : 0 ≤ q) (hq1 : q < 256) (b0 : (q % 5 == 0) = true) (m0 : decide (much < 0) = false) (m1 : decide (1099511627776 < much) = false) (m2 : 0 ≤ much) (m3 : much ≤ 1099511627776)
    (s1 : turnspitlaw06_state.f n false = some (z0, z1, false, z3, z4)) (k0 : decide ((8 + much) < 0) = false) (s2 : packed_Pack.f (8 + much) z1 false z3 z4 = some (0, 1)) (s3 : packed_Pack.f z0 z1 false z3 z4 = some (W, 0)) (s4 : packed_Unpack.f (W + 288230376151711744) = some (0, 0, false, 0, 0, 1)) (hW0 : 0 ≤ W) (hW1 : W < 288230376151711744) (hW2 : decide (W < 288230376151711744) = true) :
    Calls Tryd.prog 9 #[.int .u64 n, .int .u8 q, .int .i64 much] w fun e w' => e = .returned (.bool true) ∧ Below w.heap.size w w' := by
  have HL := Aside0.mk HLd
  clear HLd
  have S1 := Aside0.mk s1
  clear s1
  have S2 := Aside0.mk s2
  clear s2
  have S3 := Aside0.mk s3
  clear s3
  have S4 := Aside0.mk s4
  clear s4
  go_enter Tryd.func9, Tryd.ntmps9
  go_wp2_with fail
  refine (turnspitlaw06_awake.calls true _ HL.out rfl).mono ?_
  rintro e w1 ⟨rfl, hb⟩
  have HB1 := Aside0.mk (below_step (Below.refl w.heap.size w) hb)
  clear hb
  go_wp2_with fail
  refine (turnspitlaw06_state.calls n false z0 z1 false z3 z4 _ (Ld.below HL.out (by exact HB1.out)) S1.out).mono ?_
  rintro e w2 ⟨rfl, hb⟩
  have HB2 := Aside0.mk (below_step HB1.out hb)
  clear hb
  go_wp2_with fail
  refine (packed_Pack.calls (8 + much) z1 false z3 z4 0 1 _ (Ld.below HL.out (by exact (below_alloc (below_alloc HB2.out _) _))) S2.out).mono ?_
  rintro e w3 ⟨rfl, hb⟩
  have HB3 := Aside0.mk (below_step (below_alloc (below_alloc HB2.out _) _) hb)
  have Kn_X : (w2.alloc (.cells #[.int .i64 z0, .int .i64 z1, .bool false, .int .i64 z3, .int .i64 z4] 23)).heap[w2.heap.size]? = some (.cells #[.int .i64 z0, .int .i64 z1, .bool false, .int .i64 z3, .int .i64 z4] 23 (0, 0)) := by have h_ := blk_new w2 (.cells #[.int .i64 z0, .int .i64 z1, .bool false, .int .i64 z3, .int .i64 z4] 23); simpa only [World.size_alloc] using h_
  have Kn_Y : ((w2.alloc (.cells #[.int .i64 z0, .int .i64 z1, .bool false, .int .i64 z3, .int .i64 z4] 23)).alloc (.cells #[.int .i64 (8 + much), .int .i64 z1, .bool false, .int .i64 z3, .int .i64 z4] 23)).heap[w2.heap.size + 1]? = some (.cells #[.int .i64 (8 + much), .int .i64 z1, .bool false, .int .i64 z3, .int .i64 z4] 23 (0, 0)) := by have h_ := blk_new (w2.alloc (.cells #[.int .i64 z0, .int .i64 z1, .bool false, .int .i64 z3, .int .i64 z4] 23)) (.cells #[.int .i64 (8 + much), .int .i64 z1, .bool false, .int .i64 z3, .int .i64 z4] 23); simpa only [World.size_alloc] using h_
  have KX_ := Aside0.mk (blk_below (blk_alloc Kn_X _) hb)
  have KY_ := Aside0.mk (blk_below Kn_Y hb)
  have KX := KX_
  clear KX_
  have KY := KY_
  clear KY_
  clear Kn_X
  clear Kn_Y
  clear hb
  have yX_3 : w2.heap.size < w3.heap.size := blk_lt KX.out
  have yX_3a : (w2.heap.size = w3.heap.size) = False := eq_false (Nat.ne_of_lt yX_3)
  have yX_3b : (w3.heap.size = w2.heap.size) = False := eq_false (Nat.ne_of_gt yX_3)
  have xX_3_0 : w3.cell? ⟨w2.heap.size, 0, none⟩ = some (.int .i64 z0) := (blk_cell KX.out 0).trans rfl
  have xX_3_1 : w3.cell? ⟨w2.heap.size, 1, none⟩ = some (.int .i64 z1) := (blk_cell KX.out 1).trans rfl
  have xX_3_2 : w3.cell? ⟨w2.heap.size, 2, none⟩ = some (.bool false) := (blk_cell KX.out 2).trans rfl
  have xX_3_3 : w3.cell? ⟨w2.heap.size, 3, none⟩ = some (.int .i64 z3) := (blk_cell KX.out 3).trans rfl
  have xX_3_4 : w3.cell? ⟨w2.heap.size, 4, none⟩ = some (.int .i64 z4) := (blk_cell KX.out 4).trans rfl
  have yY_3 : w2.heap.size + 1 < w3.heap.size := blk_lt KY.out
  have yY_3a : (w2.heap.size + 1 = w3.heap.size) = False := eq_false (Nat.ne_of_lt yY_3)
  have yY_3b : (w3.heap.size = w2.heap.size + 1) = False := eq_false (Nat.ne_of_gt yY_3)
  have xY_3_0 : w3.cell? ⟨w2.heap.size + 1, 0, none⟩ = some (.int .i64 (8 + much)) := (blk_cell KY.out 0).trans rfl
  have xY_3_1 : w3.cell? ⟨w2.heap.size + 1, 1, none⟩ = some (.int .i64 z1) := (blk_cell KY.out 1).trans rfl
  have xY_3_2 : w3.cell? ⟨w2.heap.size + 1, 2, none⟩ = some (.bool false) := (blk_cell KY.out 2).trans rfl
  have xY_3_3 : w3.cell? ⟨w2.heap.size + 1, 3, none⟩ = some (.int .i64 z3) := (blk_cell KY.out 3).trans rfl
  have xY_3_4 : w3.cell? ⟨w2.heap.size + 1, 4, none⟩ = some (.int .i64 z4) := (blk_cell KY.out 4).trans rfl
  go_wp2_with fail
  refine (packed_Pack.calls z0 z1 false z3 z4 W 0 _ (Ld.below HL.out (by exact HB3.out)) S3.out).mono ?_
  rintro e w4 ⟨rfl, hb⟩
  have HB4 := Aside0.mk (below_step HB3.out hb)
  have KX_ := Aside0.mk (blk_below KX.out hb)
  have KY_ := Aside0.mk (blk_below KY.out hb)
  clear KX
  have KX := KX_
  clear KX_
  clear KY
  have KY := KY_
  clear KY_
  clear hb
  try clear yX_3 yX_3a yX_3b xX_3_0 xX_3_1 xX_3_2 xX_3_3 xX_3_4 yY_3 yY_3a yY_3b xY_3_0 xY_3_1 xY_3_2 xY_3_3 xY_3_4
  have yX_4 : w2.heap.size < w4.heap.size := blk_lt KX.out
  have yX_4a : (w2.heap.size = w4.heap.size) = False := eq_false (Nat.ne_of_lt yX_4)
  have yX_4b : (w4.heap.size = w2.heap.size) = False := eq_false (Nat.ne_of_gt yX_4)
  have xX_4_0 : w4.cell? ⟨w2.heap.size, 0, none⟩ = some (.int .i64 z0) := (blk_cell KX.out 0).trans rfl
  have xX_4_1 : w4.cell? ⟨w2.heap.size, 1, none⟩ = some (.int .i64 z1) := (blk_cell KX.out 1).trans rfl
  have xX_4_2 : w4.cell? ⟨w2.heap.size, 2, none⟩ = some (.bool false) := (blk_cell KX.out 2).trans rfl
  have xX_4_3 : w4.cell? ⟨w2.heap.size, 3, none⟩ = some (.int .i64 z3) := (blk_cell KX.out 3).trans rfl
  have xX_4_4 : w4.cell? ⟨w2.heap.size, 4, none⟩ = some (.int .i64 z4) := (blk_cell KX.out 4).trans rfl
  have yY_4 : w2.heap.size + 1 < w4.heap.size := blk_lt KY.out
  have yY_4a : (w2.heap.size + 1 = w4.heap.size) = False := eq_false (Nat.ne_of_lt yY_4)
  have yY_4b : (w4.heap.size = w2.heap.size + 1) = False := eq_false (Nat.ne_of_gt yY_4)
  have xY_4_0 : w4.cell? ⟨w2.heap.size + 1, 0, none⟩ = some (.int .i64 (8 + much)) := (blk_cell KY.out 0).trans rfl
  have xY_4_1 : w4.cell? ⟨w2.heap.size + 1, 1, none⟩ = some (.int .i64 z1) := (blk_cell KY.out 1).trans rfl
  have xY_4_2 : w4.cell? ⟨w2.heap.size + 1, 2, none⟩ = some (.bool false) := (blk_cell KY.out 2).trans rfl
  have xY_4_3 : w4.cell? ⟨w2.heap.size + 1, 3, none⟩ = some (.int .i64 z3) := (blk_cell KY.out 3).trans rfl
  have xY_4_4 : w4.cell? ⟨w2.heap.size + 1, 4, none⟩ = some (.int .i64 z4) := (blk_cell KY.out 4).trans rfl
  go_wp2_with fail
  refine (packed_Unpack.calls _ 0 0 false 0 0 1 _ (Ld.below HL.out (by exact HB4.out)) S4.out).mono ?_
  rintro e w5 ⟨rfl, hb⟩
  have HB5 := Aside0.mk (below_step HB4.out hb)
  have KX_ := Aside0.mk (blk_below KX.out hb)
  have KY_ := Aside0.mk (blk_below KY.out hb)
  clear KX
  have KX := KX_
  clear KX_
  clear KY
  have KY := KY_
  clear KY_
  clear hb
  try clear yX_4 yX_4a yX_4b xX_4_0 xX_4_1 xX_4_2 xX_4_3 xX_4_4 yY_4 yY_4a yY_4b xY_4_0 xY_4_1 xY_4_2 xY_4_3 xY_4_4
  have yX_5 : w2.heap.size < w5.heap.size := blk_lt KX.out
  have yX_5a : (w2.heap.size = w5.heap.size) = False := eq_false (Nat.ne_of_lt yX_5)
  have yX_5b : (w5.heap.size = w2.heap.size) = False := eq_false (Nat.ne_of_gt yX_5)
  have xX_5_0 : w5.cell? ⟨w2.heap.size, 0, none⟩ = some (.int .i64 z0) := (blk_cell KX.out 0).trans rfl
  have xX_5_1 : w5.cell? ⟨w2.heap.size, 1, none⟩ = some (.int .i64 z1) := (blk_cell KX.out 1).trans rfl
  have xX_5_2 : w5.cell? ⟨w2.heap.size, 2, none⟩ = some (.bool false) := (blk_cell KX.out 2).trans rfl
  have xX_5_3 : w5.cell? ⟨w2.heap.size, 3, none⟩ = some (.int .i64 z3) := (blk_cell KX.out 3).trans rfl
  have xX_5_4 : w5.cell? ⟨w2.heap.size, 4, none⟩ = some (.int .i64 z4) := (blk_cell KX.out 4).trans rfl
  have yY_5 : w2.heap.size + 1 < w5.heap.size := blk_lt KY.out
  have yY_5a : (w2.heap.size + 1 = w5.heap.size) = False := eq_false (Nat.ne_of_lt yY_5)
  have yY_5b : (w5.heap.size = w2.heap.size + 1) = False := eq_false (Nat.ne_of_gt yY_5)
  have xY_5_0 : w5.cell? ⟨w2.heap.size + 1, 0, none⟩ = some (.int .i64 (8 + much)) := (blk_cell KY.out 0).trans rfl
  have xY_5_1 : w5.cell? ⟨w2.heap.size + 1, 1, none⟩ = some (.int .i64 z1) := (blk_cell KY.out 1).trans rfl
  have xY_5_2 : w5.cell? ⟨w2.heap.size + 1, 2, none⟩ = some (.bool false) := (blk_cell KY.out 2).trans rfl
  have xY_5_3 : w5.cell? ⟨w2.heap.size + 1, 3, none⟩ = some (.int .i64 z3) := (blk_cell KY.out 3).trans rfl
  have xY_5_4 : w5.cell? ⟨w2.heap.size + 1, 4, none⟩ = some (.int .i64 z4) := (blk_cell KY.out 4).trans rfl
  go_wp2_with fail
  go_ret
  exact ⟨rfl, by repeat (first | exact HB5.out | apply below_alloc | apply pw_below_drewN)⟩
set_option maxHeartbeats 4000000 in
set_option maxRecDepth 100000 in
theorem odd_1neg (n q much z0 z1 z3 z4 W : Int) (w : World) (HLd : Ld w) (hn0 : 0 ≤ n) (hn1 : n < 18446744073709551616) (hq0 : 0 ≤ q) (hq1 : q < 256) (b0 : (q % 5 == 0) = false) (b1 : (q % 5 == 1) = true) (m0 : decide (much < 0) = true) (m1 : -9223372036854775808 ≤ much) (m2 : much < 0)
    (s1 : turnspitlaw06_state.f n false = some (z0, z1, false, z3, z4)) :
    Calls Tryd.prog 9 #[.int .u64 n, .int .u8 q, .int .i64 much] w fun e w' => e = .returned (.bool true) ∧ Below w.heap.size w w' := by
  have HL := Aside0.mk HLd
  clear HLd
  have S1 := Aside0.mk s1
  clear s1
  go_enter Tryd.func9, Tryd.ntmps9
  go_wp2_with fail
  refine (turnspitlaw06_awake.calls true _ HL.out rfl).mono ?_
  rintro e w1 ⟨rfl, hb⟩
  have HB1 := Aside0.mk (below_step (Below.refl w.heap.size w) hb)
  clear hb
  go_wp2_with fail
  refine (turnspitlaw06_state.calls n false z0 z1 false z3 z4 _ (Ld.below HL.out (by exact HB1.out)) S1.out).mono ?_
  rintro e w2 ⟨rfl, hb⟩
  have HB2 := Aside0.mk (below_step HB1.out hb)
  clear hb
  go_wp2_with fail
  go_ret
  exact ⟨rfl, by repeat (first | exact HB2.out | apply below_alloc | (refine below_far ?_ (by have := HB2.out.size; simp; omega) _))⟩
set_option maxHeartbeats 4000000 in
set_option maxRecDepth 100000 in
theorem odd_1big (n q much z0 z1 z3 z4 W : Int) (w : World) (HLd : Ld w) (hn0 : 0 ≤ n) (hn1 : n < 18446744073709551616) (hq0 : 0 ≤ q) (hq1 : q < 256) (b0 : (q % 5 == 0) = false) (b1 : (q % 5 == 1) = true) (m0 : decide (much < 0) = false) (m1 : decide (1099511627776 < much) = true) (m2 : 0 ≤ much) (m3 : much ≤ 9223372036854775807)
    (s1 : turnspitlaw06_state.f n false = some (z0, z1, false, z3, z4)) :
    Calls Tryd.prog 9 #[.int .u64 n, .int .u8 q, .int .i64 much] w fun e w' => e = .returned (.bool true) ∧ Below w.heap.size w w' := by
  have HL := Aside0.mk HLd
  clear HLd
  have S1 := Aside0.mk s1
  clear s1
  go_enter Tryd.func9, Tryd.ntmps9
  go_wp2_with fail
  refine (turnspitlaw06_awake.calls true _ HL.out rfl).mono ?_
  rintro e w1 ⟨rfl, hb⟩
  have HB1 := Aside0.mk (below_step (Below.refl w.heap.size w) hb)
  clear hb
  go_wp2_with fail
  refine (turnspitlaw06_state.calls n false z0 z1 false z3 z4 _ (Ld.below HL.out (by exact HB1.out)) S1.out).mono ?_
  rintro e w2 ⟨rfl, hb⟩
  have HB2 := Aside0.mk (below_step HB1.out hb)
  clear hb
  go_wp2_with fail
  go_ret
  exact ⟨rfl, by repeat (first | exact HB2.out | apply below_alloc | (refine below_far ?_ (by have := HB2.out.size; simp; omega) _))⟩
set_option maxHeartbeats 4000000 in
set_option maxRecDepth 100000 in
theorem odd_1go (n q much z0 z1 z3 z4 W : Int) (w : World) (HLd : Ld w) (hn0 : 0 ≤ n) (hn1 : n < 18446744073709551616) (hq0 : 0 ≤ q) (hq1 : q < 256) (b0 : (q % 5 == 0) = false) (b1 : (q % 5 == 1) = true) (m0 : decide (much < 0) = false) (m1 : decide (1099511627776 < much) = false) (m2 : 0 ≤ much) (m3 : much ≤ 1099511627776)
    (s1 : turnspitlaw06_state.f n false = some (z0, z1, false, z3, z4)) (k0 : decide (z0 < 0) = false) (s2 : packed_Pack.f z0 (64 + much) false z3 z4 = some (0, 1)) (s3 : packed_Pack.f z0 z1 false z3 z4 = some (W, 0)) (s4 : packed_Unpack.f (W + 288230376151711744) = some (0, 0, false, 0, 0, 1)) (hW0 : 0 ≤ W) (hW1 : W < 288230376151711744) (hW2 : decide (W < 288230376151711744) = true) :
    Calls Tryd.prog 9 #[.int .u64 n, .int .u8 q, .int .i64 much] w fun e w' => e = .returned (.bool true) ∧ Below w.heap.size w w' := by
  have HL := Aside0.mk HLd
  clear HLd
  have S1 := Aside0.mk s1
  clear s1
  have S2 := Aside0.mk s2
  clear s2
  have S3 := Aside0.mk s3
  clear s3
  have S4 := Aside0.mk s4
  clear s4
  go_enter Tryd.func9, Tryd.ntmps9
  go_wp2_with fail
  refine (turnspitlaw06_awake.calls true _ HL.out rfl).mono ?_
  rintro e w1 ⟨rfl, hb⟩
  have HB1 := Aside0.mk (below_step (Below.refl w.heap.size w) hb)
  clear hb
  go_wp2_with fail
  refine (turnspitlaw06_state.calls n false z0 z1 false z3 z4 _ (Ld.below HL.out (by exact HB1.out)) S1.out).mono ?_
  rintro e w2 ⟨rfl, hb⟩
  have HB2 := Aside0.mk (below_step HB1.out hb)
  clear hb
  go_wp2_with fail
  refine (packed_Pack.calls z0 (64 + much) false z3 z4 0 1 _ (Ld.below HL.out (by exact (below_alloc (below_alloc HB2.out _) _))) S2.out).mono ?_
  rintro e w3 ⟨rfl, hb⟩
  have HB3 := Aside0.mk (below_step (below_alloc (below_alloc HB2.out _) _) hb)
  have Kn_X : (w2.alloc (.cells #[.int .i64 z0, .int .i64 z1, .bool false, .int .i64 z3, .int .i64 z4] 23)).heap[w2.heap.size]? = some (.cells #[.int .i64 z0, .int .i64 z1, .bool false, .int .i64 z3, .int .i64 z4] 23 (0, 0)) := by have h_ := blk_new w2 (.cells #[.int .i64 z0, .int .i64 z1, .bool false, .int .i64 z3, .int .i64 z4] 23); simpa only [World.size_alloc] using h_
  have Kn_Y : ((w2.alloc (.cells #[.int .i64 z0, .int .i64 z1, .bool false, .int .i64 z3, .int .i64 z4] 23)).alloc (.cells #[.int .i64 z0, .int .i64 (64 + much), .bool false, .int .i64 z3, .int .i64 z4] 23)).heap[w2.heap.size + 1]? = some (.cells #[.int .i64 z0, .int .i64 (64 + much), .bool false, .int .i64 z3, .int .i64 z4] 23 (0, 0)) := by have h_ := blk_new (w2.alloc (.cells #[.int .i64 z0, .int .i64 z1, .bool false, .int .i64 z3, .int .i64 z4] 23)) (.cells #[.int .i64 z0, .int .i64 (64 + much), .bool false, .int .i64 z3, .int .i64 z4] 23); simpa only [World.size_alloc] using h_
  have KX_ := Aside0.mk (blk_below (blk_alloc Kn_X _) hb)
  have KY_ := Aside0.mk (blk_below Kn_Y hb)
  have KX := KX_
  clear KX_
  have KY := KY_
  clear KY_
  clear Kn_X
  clear Kn_Y
  clear hb
  have yX_3 : w2.heap.size < w3.heap.size := blk_lt KX.out
  have yX_3a : (w2.heap.size = w3.heap.size) = False := eq_false (Nat.ne_of_lt yX_3)
  have yX_3b : (w3.heap.size = w2.heap.size) = False := eq_false (Nat.ne_of_gt yX_3)
  have xX_3_0 : w3.cell? ⟨w2.heap.size, 0, none⟩ = some (.int .i64 z0) := (blk_cell KX.out 0).trans rfl
  have xX_3_1 : w3.cell? ⟨w2.heap.size, 1, none⟩ = some (.int .i64 z1) := (blk_cell KX.out 1).trans rfl
  have xX_3_2 : w3.cell? ⟨w2.heap.size, 2, none⟩ = some (.bool false) := (blk_cell KX.out 2).trans rfl
  have xX_3_3 : w3.cell? ⟨w2.heap.size, 3, none⟩ = some (.int .i64 z3) := (blk_cell KX.out 3).trans rfl
  have xX_3_4 : w3.cell? ⟨w2.heap.size, 4, none⟩ = some (.int .i64 z4) := (blk_cell KX.out 4).trans rfl
  have yY_3 : w2.heap.size + 1 < w3.heap.size := blk_lt KY.out
  have yY_3a : (w2.heap.size + 1 = w3.heap.size) = False := eq_false (Nat.ne_of_lt yY_3)
  have yY_3b : (w3.heap.size = w2.heap.size + 1) = False := eq_false (Nat.ne_of_gt yY_3)
  have xY_3_0 : w3.cell? ⟨w2.heap.size + 1, 0, none⟩ = some (.int .i64 z0) := (blk_cell KY.out 0).trans rfl
  have xY_3_1 : w3.cell? ⟨w2.heap.size + 1, 1, none⟩ = some (.int .i64 (64 + much)) := (blk_cell KY.out 1).trans rfl
  have xY_3_2 : w3.cell? ⟨w2.heap.size + 1, 2, none⟩ = some (.bool false) := (blk_cell KY.out 2).trans rfl
  have xY_3_3 : w3.cell? ⟨w2.heap.size + 1, 3, none⟩ = some (.int .i64 z3) := (blk_cell KY.out 3).trans rfl
  have xY_3_4 : w3.cell? ⟨w2.heap.size + 1, 4, none⟩ = some (.int .i64 z4) := (blk_cell KY.out 4).trans rfl
  go_wp2_with fail
  refine (packed_Pack.calls z0 z1 false z3 z4 W 0 _ (Ld.below HL.out (by exact HB3.out)) S3.out).mono ?_
  rintro e w4 ⟨rfl, hb⟩
  have HB4 := Aside0.mk (below_step HB3.out hb)
  have KX_ := Aside0.mk (blk_below KX.out hb)
  have KY_ := Aside0.mk (blk_below KY.out hb)
  clear KX
  have KX := KX_
  clear KX_
  clear KY
  have KY := KY_
  clear KY_
  clear hb
  try clear yX_3 yX_3a yX_3b xX_3_0 xX_3_1 xX_3_2 xX_3_3 xX_3_4 yY_3 yY_3a yY_3b xY_3_0 xY_3_1 xY_3_2 xY_3_3 xY_3_4
  have yX_4 : w2.heap.size < w4.heap.size := blk_lt KX.out
  have yX_4a : (w2.heap.size = w4.heap.size) = False := eq_false (Nat.ne_of_lt yX_4)
  have yX_4b : (w4.heap.size = w2.heap.size) = False := eq_false (Nat.ne_of_gt yX_4)
  have xX_4_0 : w4.cell? ⟨w2.heap.size, 0, none⟩ = some (.int .i64 z0) := (blk_cell KX.out 0).trans rfl
  have xX_4_1 : w4.cell? ⟨w2.heap.size, 1, none⟩ = some (.int .i64 z1) := (blk_cell KX.out 1).trans rfl
  have xX_4_2 : w4.cell? ⟨w2.heap.size, 2, none⟩ = some (.bool false) := (blk_cell KX.out 2).trans rfl
  have xX_4_3 : w4.cell? ⟨w2.heap.size, 3, none⟩ = some (.int .i64 z3) := (blk_cell KX.out 3).trans rfl
  have xX_4_4 : w4.cell? ⟨w2.heap.size, 4, none⟩ = some (.int .i64 z4) := (blk_cell KX.out 4).trans rfl
  have yY_4 : w2.heap.size + 1 < w4.heap.size := blk_lt KY.out
  have yY_4a : (w2.heap.size + 1 = w4.heap.size) = False := eq_false (Nat.ne_of_lt yY_4)
  have yY_4b : (w4.heap.size = w2.heap.size + 1) = False := eq_false (Nat.ne_of_gt yY_4)
  have xY_4_0 : w4.cell? ⟨w2.heap.size + 1, 0, none⟩ = some (.int .i64 z0) := (blk_cell KY.out 0).trans rfl
  have xY_4_1 : w4.cell? ⟨w2.heap.size + 1, 1, none⟩ = some (.int .i64 (64 + much)) := (blk_cell KY.out 1).trans rfl
  have xY_4_2 : w4.cell? ⟨w2.heap.size + 1, 2, none⟩ = some (.bool false) := (blk_cell KY.out 2).trans rfl
  have xY_4_3 : w4.cell? ⟨w2.heap.size + 1, 3, none⟩ = some (.int .i64 z3) := (blk_cell KY.out 3).trans rfl
  have xY_4_4 : w4.cell? ⟨w2.heap.size + 1, 4, none⟩ = some (.int .i64 z4) := (blk_cell KY.out 4).trans rfl
  go_wp2_with fail
  refine (packed_Unpack.calls _ 0 0 false 0 0 1 _ (Ld.below HL.out (by exact HB4.out)) S4.out).mono ?_
  rintro e w5 ⟨rfl, hb⟩
  have HB5 := Aside0.mk (below_step HB4.out hb)
  have KX_ := Aside0.mk (blk_below KX.out hb)
  have KY_ := Aside0.mk (blk_below KY.out hb)
  clear KX
  have KX := KX_
  clear KX_
  clear KY
  have KY := KY_
  clear KY_
  clear hb
  try clear yX_4 yX_4a yX_4b xX_4_0 xX_4_1 xX_4_2 xX_4_3 xX_4_4 yY_4 yY_4a yY_4b xY_4_0 xY_4_1 xY_4_2 xY_4_3 xY_4_4
  have yX_5 : w2.heap.size < w5.heap.size := blk_lt KX.out
  have yX_5a : (w2.heap.size = w5.heap.size) = False := eq_false (Nat.ne_of_lt yX_5)
  have yX_5b : (w5.heap.size = w2.heap.size) = False := eq_false (Nat.ne_of_gt yX_5)
  have xX_5_0 : w5.cell? ⟨w2.heap.size, 0, none⟩ = some (.int .i64 z0) := (blk_cell KX.out 0).trans rfl
  have xX_5_1 : w5.cell? ⟨w2.heap.size, 1, none⟩ = some (.int .i64 z1) := (blk_cell KX.out 1).trans rfl
  have xX_5_2 : w5.cell? ⟨w2.heap.size, 2, none⟩ = some (.bool false) := (blk_cell KX.out 2).trans rfl
  have xX_5_3 : w5.cell? ⟨w2.heap.size, 3, none⟩ = some (.int .i64 z3) := (blk_cell KX.out 3).trans rfl
  have xX_5_4 : w5.cell? ⟨w2.heap.size, 4, none⟩ = some (.int .i64 z4) := (blk_cell KX.out 4).trans rfl
  have yY_5 : w2.heap.size + 1 < w5.heap.size := blk_lt KY.out
  have yY_5a : (w2.heap.size + 1 = w5.heap.size) = False := eq_false (Nat.ne_of_lt yY_5)
  have yY_5b : (w5.heap.size = w2.heap.size + 1) = False := eq_false (Nat.ne_of_gt yY_5)
  have xY_5_0 : w5.cell? ⟨w2.heap.size + 1, 0, none⟩ = some (.int .i64 z0) := (blk_cell KY.out 0).trans rfl
  have xY_5_1 : w5.cell? ⟨w2.heap.size + 1, 1, none⟩ = some (.int .i64 (64 + much)) := (blk_cell KY.out 1).trans rfl
  have xY_5_2 : w5.cell? ⟨w2.heap.size + 1, 2, none⟩ = some (.bool false) := (blk_cell KY.out 2).trans rfl
  have xY_5_3 : w5.cell? ⟨w2.heap.size + 1, 3, none⟩ = some (.int .i64 z3) := (blk_cell KY.out 3).trans rfl
  have xY_5_4 : w5.cell? ⟨w2.heap.size + 1, 4, none⟩ = some (.int .i64 z4) := (blk_cell KY.out 4).trans rfl
  go_wp2_with fail
  go_ret
  exact ⟨rfl, by repeat (first | exact HB5.out | apply below_alloc | apply pw_below_drewN)⟩
set_option maxHeartbeats 4000000 in
set_option maxRecDepth 100000 in
theorem odd_2neg (n q much z0 z1 z3 z4 W : Int) (w : World) (HLd : Ld w) (hn0 : 0 ≤ n) (hn1 : n < 18446744073709551616) (hq0 : 0 ≤ q) (hq1 : q < 256) (b0 : (q % 5 == 0) = false) (b1 : (q % 5 == 1) = false) (b2 : (q % 5 == 2) = true) (m0 : decide (much < 0) = true) (m1 : -9223372036854775808 ≤ much) (m2 : much < 0)
    (s1 : turnspitlaw06_state.f n false = some (z0, z1, false, z3, z4)) :
    Calls Tryd.prog 9 #[.int .u64 n, .int .u8 q, .int .i64 much] w fun e w' => e = .returned (.bool true) ∧ Below w.heap.size w w' := by
  have HL := Aside0.mk HLd
  clear HLd
  have S1 := Aside0.mk s1
  clear s1
  go_enter Tryd.func9, Tryd.ntmps9
  go_wp2_with fail
  refine (turnspitlaw06_awake.calls true _ HL.out rfl).mono ?_
  rintro e w1 ⟨rfl, hb⟩
  have HB1 := Aside0.mk (below_step (Below.refl w.heap.size w) hb)
  clear hb
  go_wp2_with fail
  refine (turnspitlaw06_state.calls n false z0 z1 false z3 z4 _ (Ld.below HL.out (by exact HB1.out)) S1.out).mono ?_
  rintro e w2 ⟨rfl, hb⟩
  have HB2 := Aside0.mk (below_step HB1.out hb)
  clear hb
  go_wp2_with fail
  go_ret
  exact ⟨rfl, by repeat (first | exact HB2.out | apply below_alloc | (refine below_far ?_ (by have := HB2.out.size; simp; omega) _))⟩
set_option maxHeartbeats 4000000 in
set_option maxRecDepth 100000 in
theorem odd_2big (n q much z0 z1 z3 z4 W : Int) (w : World) (HLd : Ld w) (hn0 : 0 ≤ n) (hn1 : n < 18446744073709551616) (hq0 : 0 ≤ q) (hq1 : q < 256) (b0 : (q % 5 == 0) = false) (b1 : (q % 5 == 1) = false) (b2 : (q % 5 == 2) = true) (m0 : decide (much < 0) = false) (m1 : decide (1099511627776 < much) = true) (m2 : 0 ≤ much) (m3 : much ≤ 9223372036854775807)
    (s1 : turnspitlaw06_state.f n false = some (z0, z1, false, z3, z4)) :
    Calls Tryd.prog 9 #[.int .u64 n, .int .u8 q, .int .i64 much] w fun e w' => e = .returned (.bool true) ∧ Below w.heap.size w w' := by
  have HL := Aside0.mk HLd
  clear HLd
  have S1 := Aside0.mk s1
  clear s1
  go_enter Tryd.func9, Tryd.ntmps9
  go_wp2_with fail
  refine (turnspitlaw06_awake.calls true _ HL.out rfl).mono ?_
  rintro e w1 ⟨rfl, hb⟩
  have HB1 := Aside0.mk (below_step (Below.refl w.heap.size w) hb)
  clear hb
  go_wp2_with fail
  refine (turnspitlaw06_state.calls n false z0 z1 false z3 z4 _ (Ld.below HL.out (by exact HB1.out)) S1.out).mono ?_
  rintro e w2 ⟨rfl, hb⟩
  have HB2 := Aside0.mk (below_step HB1.out hb)
  clear hb
  go_wp2_with fail
  go_ret
  exact ⟨rfl, by repeat (first | exact HB2.out | apply below_alloc | (refine below_far ?_ (by have := HB2.out.size; simp; omega) _))⟩
set_option maxHeartbeats 4000000 in
set_option maxRecDepth 100000 in
theorem odd_2go (n q much z0 z1 z3 z4 W : Int) (w : World) (HLd : Ld w) (hn0 : 0 ≤ n) (hn1 : n < 18446744073709551616) (hq0 : 0 ≤ q) (hq1 : q < 256) (b0 : (q % 5 == 0) = false) (b1 : (q % 5 == 1) = false) (b2 : (q % 5 == 2) = true) (m0 : decide (much < 0) = false) (m1 : decide (1099511627776 < much) = false) (m2 : 0 ≤ much) (m3 : much ≤ 1099511627776)
    (s1 : turnspitlaw06_state.f n false = some (z0, z1, false, z3, z4)) (k0 : decide (z0 < 0) = false) (s2 : packed_Pack.f z0 z1 false (-1 - much) z4 = some (0, 1)) (s3 : packed_Pack.f z0 z1 false z3 z4 = some (W, 0)) (s4 : packed_Unpack.f (W + 288230376151711744) = some (0, 0, false, 0, 0, 1)) (hW0 : 0 ≤ W) (hW1 : W < 288230376151711744) (hW2 : decide (W < 288230376151711744) = true) :
    Calls Tryd.prog 9 #[.int .u64 n, .int .u8 q, .int .i64 much] w fun e w' => e = .returned (.bool true) ∧ Below w.heap.size w w' := by
  have HL := Aside0.mk HLd
  clear HLd
  have S1 := Aside0.mk s1
  clear s1
  have S2 := Aside0.mk s2
  clear s2
  have S3 := Aside0.mk s3
  clear s3
  have S4 := Aside0.mk s4
  clear s4
  go_enter Tryd.func9, Tryd.ntmps9
  go_wp2_with fail
  refine (turnspitlaw06_awake.calls true _ HL.out rfl).mono ?_
  rintro e w1 ⟨rfl, hb⟩
  have HB1 := Aside0.mk (below_step (Below.refl w.heap.size w) hb)
  clear hb
  go_wp2_with fail
  refine (turnspitlaw06_state.calls n false z0 z1 false z3 z4 _ (Ld.below HL.out (by exact HB1.out)) S1.out).mono ?_
  rintro e w2 ⟨rfl, hb⟩
  have HB2 := Aside0.mk (below_step HB1.out hb)
  clear hb
  go_wp2_with fail
  refine (packed_Pack.calls z0 z1 false (-1 - much) z4 0 1 _ (Ld.below HL.out (by exact (below_alloc (below_alloc HB2.out _) _))) S2.out).mono ?_
  rintro e w3 ⟨rfl, hb⟩
  have HB3 := Aside0.mk (below_step (below_alloc (below_alloc HB2.out _) _) hb)
  have Kn_X : (w2.alloc (.cells #[.int .i64 z0, .int .i64 z1, .bool false, .int .i64 z3, .int .i64 z4] 23)).heap[w2.heap.size]? = some (.cells #[.int .i64 z0, .int .i64 z1, .bool false, .int .i64 z3, .int .i64 z4] 23 (0, 0)) := by have h_ := blk_new w2 (.cells #[.int .i64 z0, .int .i64 z1, .bool false, .int .i64 z3, .int .i64 z4] 23); simpa only [World.size_alloc] using h_
  have Kn_Y : ((w2.alloc (.cells #[.int .i64 z0, .int .i64 z1, .bool false, .int .i64 z3, .int .i64 z4] 23)).alloc (.cells #[.int .i64 z0, .int .i64 z1, .bool false, .int .i64 (-1 - much), .int .i64 z4] 23)).heap[w2.heap.size + 1]? = some (.cells #[.int .i64 z0, .int .i64 z1, .bool false, .int .i64 (-1 - much), .int .i64 z4] 23 (0, 0)) := by have h_ := blk_new (w2.alloc (.cells #[.int .i64 z0, .int .i64 z1, .bool false, .int .i64 z3, .int .i64 z4] 23)) (.cells #[.int .i64 z0, .int .i64 z1, .bool false, .int .i64 (-1 - much), .int .i64 z4] 23); simpa only [World.size_alloc] using h_
  have KX_ := Aside0.mk (blk_below (blk_alloc Kn_X _) hb)
  have KY_ := Aside0.mk (blk_below Kn_Y hb)
  have KX := KX_
  clear KX_
  have KY := KY_
  clear KY_
  clear Kn_X
  clear Kn_Y
  clear hb
  have yX_3 : w2.heap.size < w3.heap.size := blk_lt KX.out
  have yX_3a : (w2.heap.size = w3.heap.size) = False := eq_false (Nat.ne_of_lt yX_3)
  have yX_3b : (w3.heap.size = w2.heap.size) = False := eq_false (Nat.ne_of_gt yX_3)
  have xX_3_0 : w3.cell? ⟨w2.heap.size, 0, none⟩ = some (.int .i64 z0) := (blk_cell KX.out 0).trans rfl
  have xX_3_1 : w3.cell? ⟨w2.heap.size, 1, none⟩ = some (.int .i64 z1) := (blk_cell KX.out 1).trans rfl
  have xX_3_2 : w3.cell? ⟨w2.heap.size, 2, none⟩ = some (.bool false) := (blk_cell KX.out 2).trans rfl
  have xX_3_3 : w3.cell? ⟨w2.heap.size, 3, none⟩ = some (.int .i64 z3) := (blk_cell KX.out 3).trans rfl
  have xX_3_4 : w3.cell? ⟨w2.heap.size, 4, none⟩ = some (.int .i64 z4) := (blk_cell KX.out 4).trans rfl
  have yY_3 : w2.heap.size + 1 < w3.heap.size := blk_lt KY.out
  have yY_3a : (w2.heap.size + 1 = w3.heap.size) = False := eq_false (Nat.ne_of_lt yY_3)
  have yY_3b : (w3.heap.size = w2.heap.size + 1) = False := eq_false (Nat.ne_of_gt yY_3)
  have xY_3_0 : w3.cell? ⟨w2.heap.size + 1, 0, none⟩ = some (.int .i64 z0) := (blk_cell KY.out 0).trans rfl
  have xY_3_1 : w3.cell? ⟨w2.heap.size + 1, 1, none⟩ = some (.int .i64 z1) := (blk_cell KY.out 1).trans rfl
  have xY_3_2 : w3.cell? ⟨w2.heap.size + 1, 2, none⟩ = some (.bool false) := (blk_cell KY.out 2).trans rfl
  have xY_3_3 : w3.cell? ⟨w2.heap.size + 1, 3, none⟩ = some (.int .i64 (-1 - much)) := (blk_cell KY.out 3).trans rfl
  have xY_3_4 : w3.cell? ⟨w2.heap.size + 1, 4, none⟩ = some (.int .i64 z4) := (blk_cell KY.out 4).trans rfl
  go_wp2_with fail
  refine (packed_Pack.calls z0 z1 false z3 z4 W 0 _ (Ld.below HL.out (by exact HB3.out)) S3.out).mono ?_
  rintro e w4 ⟨rfl, hb⟩
  have HB4 := Aside0.mk (below_step HB3.out hb)
  have KX_ := Aside0.mk (blk_below KX.out hb)
  have KY_ := Aside0.mk (blk_below KY.out hb)
  clear KX
  have KX := KX_
  clear KX_
  clear KY
  have KY := KY_
  clear KY_
  clear hb
  try clear yX_3 yX_3a yX_3b xX_3_0 xX_3_1 xX_3_2 xX_3_3 xX_3_4 yY_3 yY_3a yY_3b xY_3_0 xY_3_1 xY_3_2 xY_3_3 xY_3_4
  have yX_4 : w2.heap.size < w4.heap.size := blk_lt KX.out
  have yX_4a : (w2.heap.size = w4.heap.size) = False := eq_false (Nat.ne_of_lt yX_4)
  have yX_4b : (w4.heap.size = w2.heap.size) = False := eq_false (Nat.ne_of_gt yX_4)
  have xX_4_0 : w4.cell? ⟨w2.heap.size, 0, none⟩ = some (.int .i64 z0) := (blk_cell KX.out 0).trans rfl
  have xX_4_1 : w4.cell? ⟨w2.heap.size, 1, none⟩ = some (.int .i64 z1) := (blk_cell KX.out 1).trans rfl
  have xX_4_2 : w4.cell? ⟨w2.heap.size, 2, none⟩ = some (.bool false) := (blk_cell KX.out 2).trans rfl
  have xX_4_3 : w4.cell? ⟨w2.heap.size, 3, none⟩ = some (.int .i64 z3) := (blk_cell KX.out 3).trans rfl
  have xX_4_4 : w4.cell? ⟨w2.heap.size, 4, none⟩ = some (.int .i64 z4) := (blk_cell KX.out 4).trans rfl
  have yY_4 : w2.heap.size + 1 < w4.heap.size := blk_lt KY.out
  have yY_4a : (w2.heap.size + 1 = w4.heap.size) = False := eq_false (Nat.ne_of_lt yY_4)
  have yY_4b : (w4.heap.size = w2.heap.size + 1) = False := eq_false (Nat.ne_of_gt yY_4)
  have xY_4_0 : w4.cell? ⟨w2.heap.size + 1, 0, none⟩ = some (.int .i64 z0) := (blk_cell KY.out 0).trans rfl
  have xY_4_1 : w4.cell? ⟨w2.heap.size + 1, 1, none⟩ = some (.int .i64 z1) := (blk_cell KY.out 1).trans rfl
  have xY_4_2 : w4.cell? ⟨w2.heap.size + 1, 2, none⟩ = some (.bool false) := (blk_cell KY.out 2).trans rfl
  have xY_4_3 : w4.cell? ⟨w2.heap.size + 1, 3, none⟩ = some (.int .i64 (-1 - much)) := (blk_cell KY.out 3).trans rfl
  have xY_4_4 : w4.cell? ⟨w2.heap.size + 1, 4, none⟩ = some (.int .i64 z4) := (blk_cell KY.out 4).trans rfl
  go_wp2_with fail
  refine (packed_Unpack.calls _ 0 0 false 0 0 1 _ (Ld.below HL.out (by exact HB4.out)) S4.out).mono ?_
  rintro e w5 ⟨rfl, hb⟩
  have HB5 := Aside0.mk (below_step HB4.out hb)
  have KX_ := Aside0.mk (blk_below KX.out hb)
  have KY_ := Aside0.mk (blk_below KY.out hb)
  clear KX
  have KX := KX_
  clear KX_
  clear KY
  have KY := KY_
  clear KY_
  clear hb
  try clear yX_4 yX_4a yX_4b xX_4_0 xX_4_1 xX_4_2 xX_4_3 xX_4_4 yY_4 yY_4a yY_4b xY_4_0 xY_4_1 xY_4_2 xY_4_3 xY_4_4
  have yX_5 : w2.heap.size < w5.heap.size := blk_lt KX.out
  have yX_5a : (w2.heap.size = w5.heap.size) = False := eq_false (Nat.ne_of_lt yX_5)
  have yX_5b : (w5.heap.size = w2.heap.size) = False := eq_false (Nat.ne_of_gt yX_5)
  have xX_5_0 : w5.cell? ⟨w2.heap.size, 0, none⟩ = some (.int .i64 z0) := (blk_cell KX.out 0).trans rfl
  have xX_5_1 : w5.cell? ⟨w2.heap.size, 1, none⟩ = some (.int .i64 z1) := (blk_cell KX.out 1).trans rfl
  have xX_5_2 : w5.cell? ⟨w2.heap.size, 2, none⟩ = some (.bool false) := (blk_cell KX.out 2).trans rfl
  have xX_5_3 : w5.cell? ⟨w2.heap.size, 3, none⟩ = some (.int .i64 z3) := (blk_cell KX.out 3).trans rfl
  have xX_5_4 : w5.cell? ⟨w2.heap.size, 4, none⟩ = some (.int .i64 z4) := (blk_cell KX.out 4).trans rfl
  have yY_5 : w2.heap.size + 1 < w5.heap.size := blk_lt KY.out
  have yY_5a : (w2.heap.size + 1 = w5.heap.size) = False := eq_false (Nat.ne_of_lt yY_5)
  have yY_5b : (w5.heap.size = w2.heap.size + 1) = False := eq_false (Nat.ne_of_gt yY_5)
  have xY_5_0 : w5.cell? ⟨w2.heap.size + 1, 0, none⟩ = some (.int .i64 z0) := (blk_cell KY.out 0).trans rfl
  have xY_5_1 : w5.cell? ⟨w2.heap.size + 1, 1, none⟩ = some (.int .i64 z1) := (blk_cell KY.out 1).trans rfl
  have xY_5_2 : w5.cell? ⟨w2.heap.size + 1, 2, none⟩ = some (.bool false) := (blk_cell KY.out 2).trans rfl
  have xY_5_3 : w5.cell? ⟨w2.heap.size + 1, 3, none⟩ = some (.int .i64 (-1 - much)) := (blk_cell KY.out 3).trans rfl
  have xY_5_4 : w5.cell? ⟨w2.heap.size + 1, 4, none⟩ = some (.int .i64 z4) := (blk_cell KY.out 4).trans rfl
  go_wp2_with fail
  go_ret
  exact ⟨rfl, by repeat (first | exact HB5.out | apply below_alloc | apply pw_below_drewN)⟩
set_option maxHeartbeats 4000000 in
set_option maxRecDepth 100000 in
theorem odd_3neg (n q much z0 z1 z3 z4 W : Int) (w : World) (HLd : Ld w) (hn0 : 0 ≤ n) (hn1 : n < 18446744073709551616) (hq0 : 0 ≤ q) (hq1 : q < 256) (b0 : (q % 5 == 0) = false) (b1 : (q % 5 == 1) = false) (b2 : (q % 5 == 2) = false) (b3 : (q % 5 == 3) = true) (m0 : decide (much < 0) = true) (m1 : -9223372036854775808 ≤ much) (m2 : much < 0)
    (s1 : turnspitlaw06_state.f n false = some (z0, z1, false, z3, z4)) :
    Calls Tryd.prog 9 #[.int .u64 n, .int .u8 q, .int .i64 much] w fun e w' => e = .returned (.bool true) ∧ Below w.heap.size w w' := by
  have HL := Aside0.mk HLd
  clear HLd
  have S1 := Aside0.mk s1
  clear s1
  go_enter Tryd.func9, Tryd.ntmps9
  go_wp2_with fail
  refine (turnspitlaw06_awake.calls true _ HL.out rfl).mono ?_
  rintro e w1 ⟨rfl, hb⟩
  have HB1 := Aside0.mk (below_step (Below.refl w.heap.size w) hb)
  clear hb
  go_wp2_with fail
  refine (turnspitlaw06_state.calls n false z0 z1 false z3 z4 _ (Ld.below HL.out (by exact HB1.out)) S1.out).mono ?_
  rintro e w2 ⟨rfl, hb⟩
  have HB2 := Aside0.mk (below_step HB1.out hb)
  clear hb
  go_wp2_with fail
  go_ret
  exact ⟨rfl, by repeat (first | exact HB2.out | apply below_alloc | (refine below_far ?_ (by have := HB2.out.size; simp; omega) _))⟩
set_option maxHeartbeats 4000000 in
set_option maxRecDepth 100000 in
theorem odd_3big (n q much z0 z1 z3 z4 W : Int) (w : World) (HLd : Ld w) (hn0 : 0 ≤ n) (hn1 : n < 18446744073709551616) (hq0 : 0 ≤ q) (hq1 : q < 256) (b0 : (q % 5 == 0) = false) (b1 : (q % 5 == 1) = false) (b2 : (q % 5 == 2) = false) (b3 : (q % 5 == 3) = true) (m0 : decide (much < 0) = false) (m1 : decide (1099511627776 < much) = true) (m2 : 0 ≤ much) (m3 : much ≤ 9223372036854775807)
    (s1 : turnspitlaw06_state.f n false = some (z0, z1, false, z3, z4)) :
    Calls Tryd.prog 9 #[.int .u64 n, .int .u8 q, .int .i64 much] w fun e w' => e = .returned (.bool true) ∧ Below w.heap.size w w' := by
  have HL := Aside0.mk HLd
  clear HLd
  have S1 := Aside0.mk s1
  clear s1
  go_enter Tryd.func9, Tryd.ntmps9
  go_wp2_with fail
  refine (turnspitlaw06_awake.calls true _ HL.out rfl).mono ?_
  rintro e w1 ⟨rfl, hb⟩
  have HB1 := Aside0.mk (below_step (Below.refl w.heap.size w) hb)
  clear hb
  go_wp2_with fail
  refine (turnspitlaw06_state.calls n false z0 z1 false z3 z4 _ (Ld.below HL.out (by exact HB1.out)) S1.out).mono ?_
  rintro e w2 ⟨rfl, hb⟩
  have HB2 := Aside0.mk (below_step HB1.out hb)
  clear hb
  go_wp2_with fail
  go_ret
  exact ⟨rfl, by repeat (first | exact HB2.out | apply below_alloc | (refine below_far ?_ (by have := HB2.out.size; simp; omega) _))⟩
set_option maxHeartbeats 4000000 in
set_option maxRecDepth 100000 in
theorem odd_3go (n q much z0 z1 z3 z4 W : Int) (w : World) (HLd : Ld w) (hn0 : 0 ≤ n) (hn1 : n < 18446744073709551616) (hq0 : 0 ≤ q) (hq1 : q < 256) (b0 : (q % 5 == 0) = false) (b1 : (q % 5 == 1) = false) (b2 : (q % 5 == 2) = false) (b3 : (q % 5 == 3) = true) (m0 : decide (much < 0) = false) (m1 : decide (1099511627776 < much) = false) (m2 : 0 ≤ much) (m3 : much ≤ 1099511627776)
    (s1 : turnspitlaw06_state.f n false = some (z0, z1, false, z3, z4)) (k0 : decide (z0 < 0) = false) (s2 : packed_Pack.f z0 z1 false z3 (4294967296 + much) = some (0, 1)) (s3 : packed_Pack.f z0 z1 false z3 z4 = some (W, 0)) (s4 : packed_Unpack.f (W + 288230376151711744) = some (0, 0, false, 0, 0, 1)) (hW0 : 0 ≤ W) (hW1 : W < 288230376151711744) (hW2 : decide (W < 288230376151711744) = true) :
    Calls Tryd.prog 9 #[.int .u64 n, .int .u8 q, .int .i64 much] w fun e w' => e = .returned (.bool true) ∧ Below w.heap.size w w' := by
  have HL := Aside0.mk HLd
  clear HLd
  have S1 := Aside0.mk s1
  clear s1
  have S2 := Aside0.mk s2
  clear s2
  have S3 := Aside0.mk s3
  clear s3
  have S4 := Aside0.mk s4
  clear s4
  go_enter Tryd.func9, Tryd.ntmps9
  go_wp2_with fail
  refine (turnspitlaw06_awake.calls true _ HL.out rfl).mono ?_
  rintro e w1 ⟨rfl, hb⟩
  have HB1 := Aside0.mk (below_step (Below.refl w.heap.size w) hb)
  clear hb
  go_wp2_with fail
  refine (turnspitlaw06_state.calls n false z0 z1 false z3 z4 _ (Ld.below HL.out (by exact HB1.out)) S1.out).mono ?_
  rintro e w2 ⟨rfl, hb⟩
  have HB2 := Aside0.mk (below_step HB1.out hb)
  clear hb
  go_wp2_with fail
  refine (packed_Pack.calls z0 z1 false z3 (4294967296 + much) 0 1 _ (Ld.below HL.out (by exact (below_alloc (below_alloc HB2.out _) _))) S2.out).mono ?_
  rintro e w3 ⟨rfl, hb⟩
  have HB3 := Aside0.mk (below_step (below_alloc (below_alloc HB2.out _) _) hb)
  have Kn_X : (w2.alloc (.cells #[.int .i64 z0, .int .i64 z1, .bool false, .int .i64 z3, .int .i64 z4] 23)).heap[w2.heap.size]? = some (.cells #[.int .i64 z0, .int .i64 z1, .bool false, .int .i64 z3, .int .i64 z4] 23 (0, 0)) := by have h_ := blk_new w2 (.cells #[.int .i64 z0, .int .i64 z1, .bool false, .int .i64 z3, .int .i64 z4] 23); simpa only [World.size_alloc] using h_
  have Kn_Y : ((w2.alloc (.cells #[.int .i64 z0, .int .i64 z1, .bool false, .int .i64 z3, .int .i64 z4] 23)).alloc (.cells #[.int .i64 z0, .int .i64 z1, .bool false, .int .i64 z3, .int .i64 (4294967296 + much)] 23)).heap[w2.heap.size + 1]? = some (.cells #[.int .i64 z0, .int .i64 z1, .bool false, .int .i64 z3, .int .i64 (4294967296 + much)] 23 (0, 0)) := by have h_ := blk_new (w2.alloc (.cells #[.int .i64 z0, .int .i64 z1, .bool false, .int .i64 z3, .int .i64 z4] 23)) (.cells #[.int .i64 z0, .int .i64 z1, .bool false, .int .i64 z3, .int .i64 (4294967296 + much)] 23); simpa only [World.size_alloc] using h_
  have KX_ := Aside0.mk (blk_below (blk_alloc Kn_X _) hb)
  have KY_ := Aside0.mk (blk_below Kn_Y hb)
  have KX := KX_
  clear KX_
  have KY := KY_
  clear KY_
  clear Kn_X
  clear Kn_Y
  clear hb
  have yX_3 : w2.heap.size < w3.heap.size := blk_lt KX.out
  have yX_3a : (w2.heap.size = w3.heap.size) = False := eq_false (Nat.ne_of_lt yX_3)
  have yX_3b : (w3.heap.size = w2.heap.size) = False := eq_false (Nat.ne_of_gt yX_3)
  have xX_3_0 : w3.cell? ⟨w2.heap.size, 0, none⟩ = some (.int .i64 z0) := (blk_cell KX.out 0).trans rfl
  have xX_3_1 : w3.cell? ⟨w2.heap.size, 1, none⟩ = some (.int .i64 z1) := (blk_cell KX.out 1).trans rfl
  have xX_3_2 : w3.cell? ⟨w2.heap.size, 2, none⟩ = some (.bool false) := (blk_cell KX.out 2).trans rfl
  have xX_3_3 : w3.cell? ⟨w2.heap.size, 3, none⟩ = some (.int .i64 z3) := (blk_cell KX.out 3).trans rfl
  have xX_3_4 : w3.cell? ⟨w2.heap.size, 4, none⟩ = some (.int .i64 z4) := (blk_cell KX.out 4).trans rfl
  have yY_3 : w2.heap.size + 1 < w3.heap.size := blk_lt KY.out
  have yY_3a : (w2.heap.size + 1 = w3.heap.size) = False := eq_false (Nat.ne_of_lt yY_3)
  have yY_3b : (w3.heap.size = w2.heap.size + 1) = False := eq_false (Nat.ne_of_gt yY_3)
  have xY_3_0 : w3.cell? ⟨w2.heap.size + 1, 0, none⟩ = some (.int .i64 z0) := (blk_cell KY.out 0).trans rfl
  have xY_3_1 : w3.cell? ⟨w2.heap.size + 1, 1, none⟩ = some (.int .i64 z1) := (blk_cell KY.out 1).trans rfl
  have xY_3_2 : w3.cell? ⟨w2.heap.size + 1, 2, none⟩ = some (.bool false) := (blk_cell KY.out 2).trans rfl
  have xY_3_3 : w3.cell? ⟨w2.heap.size + 1, 3, none⟩ = some (.int .i64 z3) := (blk_cell KY.out 3).trans rfl
  have xY_3_4 : w3.cell? ⟨w2.heap.size + 1, 4, none⟩ = some (.int .i64 (4294967296 + much)) := (blk_cell KY.out 4).trans rfl
  go_wp2_with fail
  refine (packed_Pack.calls z0 z1 false z3 z4 W 0 _ (Ld.below HL.out (by exact HB3.out)) S3.out).mono ?_
  rintro e w4 ⟨rfl, hb⟩
  have HB4 := Aside0.mk (below_step HB3.out hb)
  have KX_ := Aside0.mk (blk_below KX.out hb)
  have KY_ := Aside0.mk (blk_below KY.out hb)
  clear KX
  have KX := KX_
  clear KX_
  clear KY
  have KY := KY_
  clear KY_
  clear hb
  try clear yX_3 yX_3a yX_3b xX_3_0 xX_3_1 xX_3_2 xX_3_3 xX_3_4 yY_3 yY_3a yY_3b xY_3_0 xY_3_1 xY_3_2 xY_3_3 xY_3_4
  have yX_4 : w2.heap.size < w4.heap.size := blk_lt KX.out
  have yX_4a : (w2.heap.size = w4.heap.size) = False := eq_false (Nat.ne_of_lt yX_4)
  have yX_4b : (w4.heap.size = w2.heap.size) = False := eq_false (Nat.ne_of_gt yX_4)
  have xX_4_0 : w4.cell? ⟨w2.heap.size, 0, none⟩ = some (.int .i64 z0) := (blk_cell KX.out 0).trans rfl
  have xX_4_1 : w4.cell? ⟨w2.heap.size, 1, none⟩ = some (.int .i64 z1) := (blk_cell KX.out 1).trans rfl
  have xX_4_2 : w4.cell? ⟨w2.heap.size, 2, none⟩ = some (.bool false) := (blk_cell KX.out 2).trans rfl
  have xX_4_3 : w4.cell? ⟨w2.heap.size, 3, none⟩ = some (.int .i64 z3) := (blk_cell KX.out 3).trans rfl
  have xX_4_4 : w4.cell? ⟨w2.heap.size, 4, none⟩ = some (.int .i64 z4) := (blk_cell KX.out 4).trans rfl
  have yY_4 : w2.heap.size + 1 < w4.heap.size := blk_lt KY.out
  have yY_4a : (w2.heap.size + 1 = w4.heap.size) = False := eq_false (Nat.ne_of_lt yY_4)
  have yY_4b : (w4.heap.size = w2.heap.size + 1) = False := eq_false (Nat.ne_of_gt yY_4)
  have xY_4_0 : w4.cell? ⟨w2.heap.size + 1, 0, none⟩ = some (.int .i64 z0) := (blk_cell KY.out 0).trans rfl
  have xY_4_1 : w4.cell? ⟨w2.heap.size + 1, 1, none⟩ = some (.int .i64 z1) := (blk_cell KY.out 1).trans rfl
  have xY_4_2 : w4.cell? ⟨w2.heap.size + 1, 2, none⟩ = some (.bool false) := (blk_cell KY.out 2).trans rfl
  have xY_4_3 : w4.cell? ⟨w2.heap.size + 1, 3, none⟩ = some (.int .i64 z3) := (blk_cell KY.out 3).trans rfl
  have xY_4_4 : w4.cell? ⟨w2.heap.size + 1, 4, none⟩ = some (.int .i64 (4294967296 + much)) := (blk_cell KY.out 4).trans rfl
  go_wp2_with fail
  refine (packed_Unpack.calls _ 0 0 false 0 0 1 _ (Ld.below HL.out (by exact HB4.out)) S4.out).mono ?_
  rintro e w5 ⟨rfl, hb⟩
  have HB5 := Aside0.mk (below_step HB4.out hb)
  have KX_ := Aside0.mk (blk_below KX.out hb)
  have KY_ := Aside0.mk (blk_below KY.out hb)
  clear KX
  have KX := KX_
  clear KX_
  clear KY
  have KY := KY_
  clear KY_
  clear hb
  try clear yX_4 yX_4a yX_4b xX_4_0 xX_4_1 xX_4_2 xX_4_3 xX_4_4 yY_4 yY_4a yY_4b xY_4_0 xY_4_1 xY_4_2 xY_4_3 xY_4_4
  have yX_5 : w2.heap.size < w5.heap.size := blk_lt KX.out
  have yX_5a : (w2.heap.size = w5.heap.size) = False := eq_false (Nat.ne_of_lt yX_5)
  have yX_5b : (w5.heap.size = w2.heap.size) = False := eq_false (Nat.ne_of_gt yX_5)
  have xX_5_0 : w5.cell? ⟨w2.heap.size, 0, none⟩ = some (.int .i64 z0) := (blk_cell KX.out 0).trans rfl
  have xX_5_1 : w5.cell? ⟨w2.heap.size, 1, none⟩ = some (.int .i64 z1) := (blk_cell KX.out 1).trans rfl
  have xX_5_2 : w5.cell? ⟨w2.heap.size, 2, none⟩ = some (.bool false) := (blk_cell KX.out 2).trans rfl
  have xX_5_3 : w5.cell? ⟨w2.heap.size, 3, none⟩ = some (.int .i64 z3) := (blk_cell KX.out 3).trans rfl
  have xX_5_4 : w5.cell? ⟨w2.heap.size, 4, none⟩ = some (.int .i64 z4) := (blk_cell KX.out 4).trans rfl
  have yY_5 : w2.heap.size + 1 < w5.heap.size := blk_lt KY.out
  have yY_5a : (w2.heap.size + 1 = w5.heap.size) = False := eq_false (Nat.ne_of_lt yY_5)
  have yY_5b : (w5.heap.size = w2.heap.size + 1) = False := eq_false (Nat.ne_of_gt yY_5)
  have xY_5_0 : w5.cell? ⟨w2.heap.size + 1, 0, none⟩ = some (.int .i64 z0) := (blk_cell KY.out 0).trans rfl
  have xY_5_1 : w5.cell? ⟨w2.heap.size + 1, 1, none⟩ = some (.int .i64 z1) := (blk_cell KY.out 1).trans rfl
  have xY_5_2 : w5.cell? ⟨w2.heap.size + 1, 2, none⟩ = some (.bool false) := (blk_cell KY.out 2).trans rfl
  have xY_5_3 : w5.cell? ⟨w2.heap.size + 1, 3, none⟩ = some (.int .i64 z3) := (blk_cell KY.out 3).trans rfl
  have xY_5_4 : w5.cell? ⟨w2.heap.size + 1, 4, none⟩ = some (.int .i64 (4294967296 + much)) := (blk_cell KY.out 4).trans rfl
  go_wp2_with fail
  go_ret
  exact ⟨rfl, by repeat (first | exact HB5.out | apply below_alloc | apply pw_below_drewN)⟩
set_option maxHeartbeats 4000000 in
set_option maxRecDepth 100000 in
theorem odd_4neg (n q much z0 z1 z3 z4 W : Int) (w : World) (HLd : Ld w) (hn0 : 0 ≤ n) (hn1 : n < 18446744073709551616) (hq0 : 0 ≤ q) (hq1 : q < 256) (b0 : (q % 5 == 0) = false) (b1 : (q % 5 == 1) = false) (b2 : (q % 5 == 2) = false) (b3 : (q % 5 == 3) = false) (m0 : decide (much < 0) = true) (m1 : -9223372036854775808 ≤ much) (m2 : much < 0)
    (s1 : turnspitlaw06_state.f n false = some (z0, z1, false, z3, z4)) (y0 : Int) (hy : Aside0 ((wrap64 n).tmod 7 = y0)) :
    Calls Tryd.prog 9 #[.int .u64 n, .int .u8 q, .int .i64 much] w fun e w' => e = .returned (.bool true) ∧ Below w.heap.size w w' := by
  have HL := Aside0.mk HLd
  clear HLd
  have S1 := Aside0.mk s1
  clear s1
  go_enter Tryd.func9, Tryd.ntmps9
  go_wp2_with fail
  refine (turnspitlaw06_awake.calls true _ HL.out rfl).mono ?_
  rintro e w1 ⟨rfl, hb⟩
  have HB1 := Aside0.mk (below_step (Below.refl w.heap.size w) hb)
  clear hb
  go_wp2_with fail
  refine (turnspitlaw06_state.calls n false z0 z1 false z3 z4 _ (Ld.below HL.out (by exact HB1.out)) S1.out).mono ?_
  rintro e w2 ⟨rfl, hb⟩
  have HB2 := Aside0.mk (below_step HB1.out hb)
  clear hb
  go_wp2_with fail
  go_ret
  exact ⟨rfl, by repeat (first | exact HB2.out | apply below_alloc | (refine below_far ?_ (by have := HB2.out.size; simp; omega) _))⟩
set_option maxHeartbeats 4000000 in
set_option maxRecDepth 100000 in
theorem odd_4big (n q much z0 z1 z3 z4 W : Int) (w : World) (HLd : Ld w) (hn0 : 0 ≤ n) (hn1 : n < 18446744073709551616) (hq0 : 0 ≤ q) (hq1 : q < 256) (b0 : (q % 5 == 0) = false) (b1 : (q % 5 == 1) = false) (b2 : (q % 5 == 2) = false) (b3 : (q % 5 == 3) = false) (m0 : decide (much < 0) = false) (m1 : decide (1099511627776 < much) = true) (m2 : 0 ≤ much) (m3 : much ≤ 9223372036854775807)
    (s1 : turnspitlaw06_state.f n false = some (z0, z1, false, z3, z4)) (y0 : Int) (hy : Aside0 ((wrap64 n).tmod 7 = y0)) :
    Calls Tryd.prog 9 #[.int .u64 n, .int .u8 q, .int .i64 much] w fun e w' => e = .returned (.bool true) ∧ Below w.heap.size w w' := by
  have HL := Aside0.mk HLd
  clear HLd
  have S1 := Aside0.mk s1
  clear s1
  go_enter Tryd.func9, Tryd.ntmps9
  go_wp2_with fail
  refine (turnspitlaw06_awake.calls true _ HL.out rfl).mono ?_
  rintro e w1 ⟨rfl, hb⟩
  have HB1 := Aside0.mk (below_step (Below.refl w.heap.size w) hb)
  clear hb
  go_wp2_with fail
  refine (turnspitlaw06_state.calls n false z0 z1 false z3 z4 _ (Ld.below HL.out (by exact HB1.out)) S1.out).mono ?_
  rintro e w2 ⟨rfl, hb⟩
  have HB2 := Aside0.mk (below_step HB1.out hb)
  clear hb
  go_wp2_with fail
  go_ret
  exact ⟨rfl, by repeat (first | exact HB2.out | apply below_alloc | (refine below_far ?_ (by have := HB2.out.size; simp; omega) _))⟩
set_option maxHeartbeats 4000000 in
set_option maxRecDepth 100000 in
theorem odd_4go (n q much z0 z1 z3 z4 W : Int) (w : World) (HLd : Ld w) (hn0 : 0 ≤ n) (hn1 : n < 18446744073709551616) (hq0 : 0 ≤ q) (hq1 : q < 256) (b0 : (q % 5 == 0) = false) (b1 : (q % 5 == 1) = false) (b2 : (q % 5 == 2) = false) (b3 : (q % 5 == 3) = false) (m0 : decide (much < 0) = false) (m1 : decide (1099511627776 < much) = false) (m2 : 0 ≤ much) (m3 : much ≤ 1099511627776)
    (s1 : turnspitlaw06_state.f n false = some (z0, z1, false, z3, z4)) (y0 : Int) (hy : Aside0 ((wrap64 n).tmod 7 = y0)) (k0 : decide ((wrap64 n).tmod 7 < 0) = false) (s2 : packed_Pack.f y0 z1 true z3 z4 = some (0, 1)) (s3 : packed_Pack.f z0 z1 false z3 z4 = some (W, 0)) (s4 : packed_Unpack.f (W + 288230376151711744) = some (0, 0, false, 0, 0, 1)) (hW0 : 0 ≤ W) (hW1 : W < 288230376151711744) (hW2 : decide (W < 288230376151711744) = true) :
    Calls Tryd.prog 9 #[.int .u64 n, .int .u8 q, .int .i64 much] w fun e w' => e = .returned (.bool true) ∧ Below w.heap.size w w' := by
  have HL := Aside0.mk HLd
  clear HLd
  have S1 := Aside0.mk s1
  clear s1
  have S2 := Aside0.mk s2
  clear s2
  have S3 := Aside0.mk s3
  clear s3
  have S4 := Aside0.mk s4
  clear s4
  go_enter Tryd.func9, Tryd.ntmps9
  go_wp2_with fail
  refine (turnspitlaw06_awake.calls true _ HL.out rfl).mono ?_
  rintro e w1 ⟨rfl, hb⟩
  have HB1 := Aside0.mk (below_step (Below.refl w.heap.size w) hb)
  clear hb
  go_wp2_with fail
  refine (turnspitlaw06_state.calls n false z0 z1 false z3 z4 _ (Ld.below HL.out (by exact HB1.out)) S1.out).mono ?_
  rintro e w2 ⟨rfl, hb⟩
  have HB2 := Aside0.mk (below_step HB1.out hb)
  clear hb
  go_wp2_with fail
  refine (packed_Pack.calls ((wrap64 n).tmod 7) z1 true z3 z4 0 1 _ (Ld.below HL.out (by exact (below_alloc (below_alloc HB2.out _) _))) (by rw [hy.out]; exact S2.out)).mono ?_
  rintro e w3 ⟨rfl, hb⟩
  have HB3 := Aside0.mk (below_step (below_alloc (below_alloc HB2.out _) _) hb)
  have Kn_X : (w2.alloc (.cells #[.int .i64 z0, .int .i64 z1, .bool false, .int .i64 z3, .int .i64 z4] 23)).heap[w2.heap.size]? = some (.cells #[.int .i64 z0, .int .i64 z1, .bool false, .int .i64 z3, .int .i64 z4] 23 (0, 0)) := by have h_ := blk_new w2 (.cells #[.int .i64 z0, .int .i64 z1, .bool false, .int .i64 z3, .int .i64 z4] 23); simpa only [World.size_alloc] using h_
  have Kn_Y : ((w2.alloc (.cells #[.int .i64 z0, .int .i64 z1, .bool false, .int .i64 z3, .int .i64 z4] 23)).alloc (.cells #[.int .i64 ((wrap64 n).tmod 7), .int .i64 z1, .bool true, .int .i64 z3, .int .i64 z4] 23)).heap[w2.heap.size + 1]? = some (.cells #[.int .i64 ((wrap64 n).tmod 7), .int .i64 z1, .bool true, .int .i64 z3, .int .i64 z4] 23 (0, 0)) := by have h_ := blk_new (w2.alloc (.cells #[.int .i64 z0, .int .i64 z1, .bool false, .int .i64 z3, .int .i64 z4] 23)) (.cells #[.int .i64 ((wrap64 n).tmod 7), .int .i64 z1, .bool true, .int .i64 z3, .int .i64 z4] 23); simpa only [World.size_alloc] using h_
  have KX_ := Aside0.mk (blk_below (blk_alloc Kn_X _) hb)
  have KY_ := Aside0.mk (blk_below Kn_Y hb)
  have KX := KX_
  clear KX_
  have KY := KY_
  clear KY_
  clear Kn_X
  clear Kn_Y
  clear hb
  have yX_3 : w2.heap.size < w3.heap.size := blk_lt KX.out
  have yX_3a : (w2.heap.size = w3.heap.size) = False := eq_false (Nat.ne_of_lt yX_3)
  have yX_3b : (w3.heap.size = w2.heap.size) = False := eq_false (Nat.ne_of_gt yX_3)
  have xX_3_0 : w3.cell? ⟨w2.heap.size, 0, none⟩ = some (.int .i64 z0) := (blk_cell KX.out 0).trans rfl
  have xX_3_1 : w3.cell? ⟨w2.heap.size, 1, none⟩ = some (.int .i64 z1) := (blk_cell KX.out 1).trans rfl
  have xX_3_2 : w3.cell? ⟨w2.heap.size, 2, none⟩ = some (.bool false) := (blk_cell KX.out 2).trans rfl
  have xX_3_3 : w3.cell? ⟨w2.heap.size, 3, none⟩ = some (.int .i64 z3) := (blk_cell KX.out 3).trans rfl
  have xX_3_4 : w3.cell? ⟨w2.heap.size, 4, none⟩ = some (.int .i64 z4) := (blk_cell KX.out 4).trans rfl
  have yY_3 : w2.heap.size + 1 < w3.heap.size := blk_lt KY.out
  have yY_3a : (w2.heap.size + 1 = w3.heap.size) = False := eq_false (Nat.ne_of_lt yY_3)
  have yY_3b : (w3.heap.size = w2.heap.size + 1) = False := eq_false (Nat.ne_of_gt yY_3)
  have xY_3_0 : w3.cell? ⟨w2.heap.size + 1, 0, none⟩ = some (.int .i64 ((wrap64 n).tmod 7)) := (blk_cell KY.out 0).trans rfl
  have xY_3_1 : w3.cell? ⟨w2.heap.size + 1, 1, none⟩ = some (.int .i64 z1) := (blk_cell KY.out 1).trans rfl
  have xY_3_2 : w3.cell? ⟨w2.heap.size + 1, 2, none⟩ = some (.bool true) := (blk_cell KY.out 2).trans rfl
  have xY_3_3 : w3.cell? ⟨w2.heap.size + 1, 3, none⟩ = some (.int .i64 z3) := (blk_cell KY.out 3).trans rfl
  have xY_3_4 : w3.cell? ⟨w2.heap.size + 1, 4, none⟩ = some (.int .i64 z4) := (blk_cell KY.out 4).trans rfl
  go_wp2_with fail
  refine (packed_Pack.calls z0 z1 false z3 z4 W 0 _ (Ld.below HL.out (by exact HB3.out)) S3.out).mono ?_
  rintro e w4 ⟨rfl, hb⟩
  have HB4 := Aside0.mk (below_step HB3.out hb)
  have KX_ := Aside0.mk (blk_below KX.out hb)
  have KY_ := Aside0.mk (blk_below KY.out hb)
  clear KX
  have KX := KX_
  clear KX_
  clear KY
  have KY := KY_
  clear KY_
  clear hb
  try clear yX_3 yX_3a yX_3b xX_3_0 xX_3_1 xX_3_2 xX_3_3 xX_3_4 yY_3 yY_3a yY_3b xY_3_0 xY_3_1 xY_3_2 xY_3_3 xY_3_4
  have yX_4 : w2.heap.size < w4.heap.size := blk_lt KX.out
  have yX_4a : (w2.heap.size = w4.heap.size) = False := eq_false (Nat.ne_of_lt yX_4)
  have yX_4b : (w4.heap.size = w2.heap.size) = False := eq_false (Nat.ne_of_gt yX_4)
  have xX_4_0 : w4.cell? ⟨w2.heap.size, 0, none⟩ = some (.int .i64 z0) := (blk_cell KX.out 0).trans rfl
  have xX_4_1 : w4.cell? ⟨w2.heap.size, 1, none⟩ = some (.int .i64 z1) := (blk_cell KX.out 1).trans rfl
  have xX_4_2 : w4.cell? ⟨w2.heap.size, 2, none⟩ = some (.bool false) := (blk_cell KX.out 2).trans rfl
  have xX_4_3 : w4.cell? ⟨w2.heap.size, 3, none⟩ = some (.int .i64 z3) := (blk_cell KX.out 3).trans rfl
  have xX_4_4 : w4.cell? ⟨w2.heap.size, 4, none⟩ = some (.int .i64 z4) := (blk_cell KX.out 4).trans rfl
  have yY_4 : w2.heap.size + 1 < w4.heap.size := blk_lt KY.out
  have yY_4a : (w2.heap.size + 1 = w4.heap.size) = False := eq_false (Nat.ne_of_lt yY_4)
  have yY_4b : (w4.heap.size = w2.heap.size + 1) = False := eq_false (Nat.ne_of_gt yY_4)
  have xY_4_0 : w4.cell? ⟨w2.heap.size + 1, 0, none⟩ = some (.int .i64 ((wrap64 n).tmod 7)) := (blk_cell KY.out 0).trans rfl
  have xY_4_1 : w4.cell? ⟨w2.heap.size + 1, 1, none⟩ = some (.int .i64 z1) := (blk_cell KY.out 1).trans rfl
  have xY_4_2 : w4.cell? ⟨w2.heap.size + 1, 2, none⟩ = some (.bool true) := (blk_cell KY.out 2).trans rfl
  have xY_4_3 : w4.cell? ⟨w2.heap.size + 1, 3, none⟩ = some (.int .i64 z3) := (blk_cell KY.out 3).trans rfl
  have xY_4_4 : w4.cell? ⟨w2.heap.size + 1, 4, none⟩ = some (.int .i64 z4) := (blk_cell KY.out 4).trans rfl
  go_wp2_with fail
  refine (packed_Unpack.calls _ 0 0 false 0 0 1 _ (Ld.below HL.out (by exact HB4.out)) S4.out).mono ?_
  rintro e w5 ⟨rfl, hb⟩
  have HB5 := Aside0.mk (below_step HB4.out hb)
  have KX_ := Aside0.mk (blk_below KX.out hb)
  have KY_ := Aside0.mk (blk_below KY.out hb)
  clear KX
  have KX := KX_
  clear KX_
  clear KY
  have KY := KY_
  clear KY_
  clear hb
  try clear yX_4 yX_4a yX_4b xX_4_0 xX_4_1 xX_4_2 xX_4_3 xX_4_4 yY_4 yY_4a yY_4b xY_4_0 xY_4_1 xY_4_2 xY_4_3 xY_4_4
  have yX_5 : w2.heap.size < w5.heap.size := blk_lt KX.out
  have yX_5a : (w2.heap.size = w5.heap.size) = False := eq_false (Nat.ne_of_lt yX_5)
  have yX_5b : (w5.heap.size = w2.heap.size) = False := eq_false (Nat.ne_of_gt yX_5)
  have xX_5_0 : w5.cell? ⟨w2.heap.size, 0, none⟩ = some (.int .i64 z0) := (blk_cell KX.out 0).trans rfl
  have xX_5_1 : w5.cell? ⟨w2.heap.size, 1, none⟩ = some (.int .i64 z1) := (blk_cell KX.out 1).trans rfl
  have xX_5_2 : w5.cell? ⟨w2.heap.size, 2, none⟩ = some (.bool false) := (blk_cell KX.out 2).trans rfl
  have xX_5_3 : w5.cell? ⟨w2.heap.size, 3, none⟩ = some (.int .i64 z3) := (blk_cell KX.out 3).trans rfl
  have xX_5_4 : w5.cell? ⟨w2.heap.size, 4, none⟩ = some (.int .i64 z4) := (blk_cell KX.out 4).trans rfl
  have yY_5 : w2.heap.size + 1 < w5.heap.size := blk_lt KY.out
  have yY_5a : (w2.heap.size + 1 = w5.heap.size) = False := eq_false (Nat.ne_of_lt yY_5)
  have yY_5b : (w5.heap.size = w2.heap.size + 1) = False := eq_false (Nat.ne_of_gt yY_5)
  have xY_5_0 : w5.cell? ⟨w2.heap.size + 1, 0, none⟩ = some (.int .i64 ((wrap64 n).tmod 7)) := (blk_cell KY.out 0).trans rfl
  have xY_5_1 : w5.cell? ⟨w2.heap.size + 1, 1, none⟩ = some (.int .i64 z1) := (blk_cell KY.out 1).trans rfl
  have xY_5_2 : w5.cell? ⟨w2.heap.size + 1, 2, none⟩ = some (.bool true) := (blk_cell KY.out 2).trans rfl
  have xY_5_3 : w5.cell? ⟨w2.heap.size + 1, 3, none⟩ = some (.int .i64 z3) := (blk_cell KY.out 3).trans rfl
  have xY_5_4 : w5.cell? ⟨w2.heap.size + 1, 4, none⟩ = some (.int .i64 z4) := (blk_cell KY.out 4).trans rfl
  go_wp2_with fail
  go_ret
  exact ⟨rfl, by repeat (first | exact HB5.out | apply below_alloc | apply pw_below_drewN)⟩
set_option maxHeartbeats 4000000 in
set_option maxRecDepth 100000 in
theorem odd_4kn (n q much z0 z1 z3 z4 W : Int) (w : World) (HLd : Ld w) (hn0 : 0 ≤ n) (hn1 : n < 18446744073709551616) (hq0 : 0 ≤ q) (hq1 : q < 256) (b0 : (q % 5 == 0) = false) (b1 : (q % 5 == 1) = false) (b2 : (q % 5 == 2) = false) (b3 : (q % 5 == 3) = false) (m0 : decide (much < 0) = false) (m1 : decide (1099511627776 < much) = false) (m2 : 0 ≤ much) (m3 : much ≤ 1099511627776)
    (s1 : turnspitlaw06_state.f n false = some (z0, z1, false, z3, z4)) (y0 : Int) (hy : Aside0 ((wrap64 n).tmod 7 = y0)) (k0 : decide ((wrap64 n).tmod 7 < 0) = true) :
    Calls Tryd.prog 9 #[.int .u64 n, .int .u8 q, .int .i64 much] w fun e w' => e = .returned (.bool true) ∧ Below w.heap.size w w' := by
  have HL := Aside0.mk HLd
  clear HLd
  have S1 := Aside0.mk s1
  clear s1
  go_enter Tryd.func9, Tryd.ntmps9
  go_wp2_with fail
  refine (turnspitlaw06_awake.calls true _ HL.out rfl).mono ?_
  rintro e w1 ⟨rfl, hb⟩
  have HB1 := Aside0.mk (below_step (Below.refl w.heap.size w) hb)
  clear hb
  go_wp2_with fail
  refine (turnspitlaw06_state.calls n false z0 z1 false z3 z4 _ (Ld.below HL.out (by exact HB1.out)) S1.out).mono ?_
  rintro e w2 ⟨rfl, hb⟩
  have HB2 := Aside0.mk (below_step HB1.out hb)
  clear hb
  go_wp2_with fail
  go_ret
  exact ⟨rfl, by repeat (first | exact HB2.out | apply below_alloc | (refine below_far ?_ (by have := HB2.out.size; simp; omega) _))⟩
theorem Walk.PackedOdd (n : Int) (hn : (Lit.int .u64 n).wf = true) (q : Int) (hq : (Lit.int .u8 q).wf = true) (much : Int) (hm : (Lit.int .i64 much).wf = true) (w : World) (HLd : Ld w) :
    Calls Tryd.prog 9 #[.int .u64 n, .int .u8 q, .int .i64 much] w fun e w' => e = .returned (.bool true) ∧ Below w.heap.size w w' := by
  have hn := u64_of hn
  have hm := i64_of hm
  have hq : 0 ≤ q ∧ q < 256 := by
    simp [Lit.wf, IntKind.min, IntKind.max, IntKind.signed, IntKind.bits] at hq
    omega
  have s1 := state_eq hn false
  have hp := state_ok (n := n) false
  simp only [Bool.false_and] at s1 hp
  have hW := word_u64 hp
  have s3 := pack_ok hp
  have s4 : packed_Unpack.f (wordOf (n % 8) (n / 8 % 64) false (n / 512 % 65536) (n / 33554432 % 4294967296) + 288230376151711744) = some (0, 0, false, 0, 0, 1) := by
    have hW' := hW
    unfold u64 at hW'
    rw [unpack_eq (by unfold u64; omega)]
    unfold opened
    rw [if_neg (fun h => by have := h.1; omega)]
  have hW0 := hW.1.1
  have hW1 := hW.2
  generalize hz0 : n % 8 = z0 at *
  generalize hz1 : n / 8 % 64 = z1 at *
  generalize hz3 : n / 512 % 65536 = z3 at *
  generalize hz4 : n / 33554432 % 4294967296 = z4 at *
  generalize wordOf z0 z1 false z3 z4 = W at *
  have hk := hp.2
  have t7 : (wrap64 n).tmod 7 < 7 := Int.tmod_lt_of_pos _ (by decide)
  have no : ∀ {k c s g : Int} {b : Bool}, ¬ packOk k c b s g → packed_Pack.f k c b s g = some (0, 1) := fun h => pack_no h
  have hB : ∀ j : Int, (q % 5 = j → (q % 5 == j) = true) ∧ (q % 5 ≠ j → (q % 5 == j) = false) := fun j => ⟨fun h => by rw [h]; simp, fun h => by simp [h]⟩
  by_cases m0 : much < 0
  · by_cases q0 : q % 5 = 0
    · exact odd_0neg n q much z0 z1 z3 z4 W w HLd hn.1 hn.2 hq.1 hq.2 ((hB 0).1 q0) (decide_eq_true m0) (by omega) m0 s1
    by_cases q1 : q % 5 = 1
    · exact odd_1neg n q much z0 z1 z3 z4 W w HLd hn.1 hn.2 hq.1 hq.2 ((hB 0).2 q0) ((hB 1).1 q1) (decide_eq_true m0) (by omega) m0 s1
    by_cases q2 : q % 5 = 2
    · exact odd_2neg n q much z0 z1 z3 z4 W w HLd hn.1 hn.2 hq.1 hq.2 ((hB 0).2 q0) ((hB 1).2 q1) ((hB 2).1 q2) (decide_eq_true m0) (by omega) m0 s1
    by_cases q3 : q % 5 = 3
    · exact odd_3neg n q much z0 z1 z3 z4 W w HLd hn.1 hn.2 hq.1 hq.2 ((hB 0).2 q0) ((hB 1).2 q1) ((hB 2).2 q2) ((hB 3).1 q3) (decide_eq_true m0) (by omega) m0 s1
    exact odd_4neg n q much z0 z1 z3 z4 W w HLd hn.1 hn.2 hq.1 hq.2 ((hB 0).2 q0) ((hB 1).2 q1) ((hB 2).2 q2) ((hB 3).2 q3) (decide_eq_true m0) (by omega) m0 s1 _ (Aside0.mk rfl)
  · by_cases m1 : 1099511627776 < much
    · by_cases q0 : q % 5 = 0
      · exact odd_0big n q much z0 z1 z3 z4 W w HLd hn.1 hn.2 hq.1 hq.2 ((hB 0).1 q0) (decide_eq_false m0) (decide_eq_true m1) (by omega) (by omega) s1
      by_cases q1 : q % 5 = 1
      · exact odd_1big n q much z0 z1 z3 z4 W w HLd hn.1 hn.2 hq.1 hq.2 ((hB 0).2 q0) ((hB 1).1 q1) (decide_eq_false m0) (decide_eq_true m1) (by omega) (by omega) s1
      by_cases q2 : q % 5 = 2
      · exact odd_2big n q much z0 z1 z3 z4 W w HLd hn.1 hn.2 hq.1 hq.2 ((hB 0).2 q0) ((hB 1).2 q1) ((hB 2).1 q2) (decide_eq_false m0) (decide_eq_true m1) (by omega) (by omega) s1
      by_cases q3 : q % 5 = 3
      · exact odd_3big n q much z0 z1 z3 z4 W w HLd hn.1 hn.2 hq.1 hq.2 ((hB 0).2 q0) ((hB 1).2 q1) ((hB 2).2 q2) ((hB 3).1 q3) (decide_eq_false m0) (decide_eq_true m1) (by omega) (by omega) s1
      exact odd_4big n q much z0 z1 z3 z4 W w HLd hn.1 hn.2 hq.1 hq.2 ((hB 0).2 q0) ((hB 1).2 q1) ((hB 2).2 q2) ((hB 3).2 q3) (decide_eq_false m0) (decide_eq_true m1) (by omega) (by omega) s1 _ (Aside0.mk rfl)
    · by_cases q0 : q % 5 = 0
      · exact odd_0go n q much z0 z1 z3 z4 W w HLd hn.1 hn.2 hq.1 hq.2 ((hB 0).1 q0) (decide_eq_false m0) (decide_eq_false m1) (by omega) (by omega) s1 (decide_eq_false (by omega)) (no (fun h => by have := h.2; omega)) s3 s4 hW0 hW1 (decide_eq_true hW1)
      by_cases q1 : q % 5 = 1
      · exact odd_1go n q much z0 z1 z3 z4 W w HLd hn.1 hn.2 hq.1 hq.2 ((hB 0).2 q0) ((hB 1).1 q1) (decide_eq_false m0) (decide_eq_false m1) (by omega) (by omega) s1 (decide_eq_false (by omega)) (no (fun h => by have := h.2; omega)) s3 s4 hW0 hW1 (decide_eq_true hW1)
      by_cases q2 : q % 5 = 2
      · exact odd_2go n q much z0 z1 z3 z4 W w HLd hn.1 hn.2 hq.1 hq.2 ((hB 0).2 q0) ((hB 1).2 q1) ((hB 2).1 q2) (decide_eq_false m0) (decide_eq_false m1) (by omega) (by omega) s1 (decide_eq_false (by omega)) (no (fun h => by have := h.2; omega)) s3 s4 hW0 hW1 (decide_eq_true hW1)
      by_cases q3 : q % 5 = 3
      · exact odd_3go n q much z0 z1 z3 z4 W w HLd hn.1 hn.2 hq.1 hq.2 ((hB 0).2 q0) ((hB 1).2 q1) ((hB 2).2 q2) ((hB 3).1 q3) (decide_eq_false m0) (decide_eq_false m1) (by omega) (by omega) s1 (decide_eq_false (by omega)) (no (fun h => by have := h.2; omega)) s3 s4 hW0 hW1 (decide_eq_true hW1)
      by_cases k0 : (wrap64 n).tmod 7 < 0
      · exact odd_4kn n q much z0 z1 z3 z4 W w HLd hn.1 hn.2 hq.1 hq.2 ((hB 0).2 q0) ((hB 1).2 q1) ((hB 2).2 q2) ((hB 3).2 q3) (decide_eq_false m0) (decide_eq_false m1) (by omega) (by omega) s1 _ (Aside0.mk rfl) (decide_eq_true k0)
      exact odd_4go n q much z0 z1 z3 z4 W w HLd hn.1 hn.2 hq.1 hq.2 ((hB 0).2 q0) ((hB 1).2 q1) ((hB 2).2 q2) ((hB 3).2 q3) (decide_eq_false m0) (decide_eq_false m1) (by omega) (by omega) s1 _ (Aside0.mk rfl) (decide_eq_false k0) (no (fun h => by have := h.1 rfl; omega)) s3 s4 hW0 hW1 (decide_eq_true hW1)
end Go.Proofs.YtnojbmiodoefmaaDoor

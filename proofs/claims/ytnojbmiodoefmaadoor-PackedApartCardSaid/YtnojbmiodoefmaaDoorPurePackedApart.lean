/- PackedApart: the walk. -/
import Derived.Test.YtnojbmiodoefmaaDoorPureBase
import Derived.Test.YtnojbmiodoefmaaDoorPureState
import Derived.Test.YtnojbmiodoefmaaDoorPrintE1
namespace Go.Proofs.YtnojbmiodoefmaaDoor
open Go.RowKit Go.Proofs.YtnojbmiodoefmaaDoor.Given Go.Proofs.YtnojbmiodoefmaaDoor.Print Go.Proofs.YtnojbmiodoefmaaDoor.Pure Go.Proofs.YtnojbmiodoefmaaDoorW.PrintWords
set_option linter.unusedVariables false
set_option linter.unusedSimpArgs false
attribute [local go_sem high] eqA23
theorem word_inj {k c : Int} {b : Bool} {s g k' c' : Int} {b' : Bool} {s' g' : Int} (h : packOk k c b s g) (h' : packOk k' c' b' s' g') :
    (wordOf k c b s g == wordOf k' c' b' s' g') = (k == k' && (c == c' && (b == b' && (s == s' && (g == g'))))) := by
  have a := opened_word h
  have a' := opened_word h'
  rw [Bool.eq_iff_iff]
  simp only [beq_iff_eq, Bool.and_eq_true]
  constructor
  · intro e
    rw [e, a'] at a
    simp only [Prod.mk.injEq] at a
    obtain ⟨h0, h1, h2, h3, h4, _⟩ := a
    exact ⟨h0.symm, h1.symm, h2.symm, h3.symm, h4.symm⟩
  · rintro ⟨rfl, rfl, rfl, rfl, rfl⟩
    rfl
theorem word_lt {k c : Int} {b : Bool} {s g k' c' : Int} {b' : Bool} {s' g' : Int} (h : packOk k c b s g) (h' : packOk k' c' b' s' g') (hg : g < g') : wordOf k c b s g < wordOf k' c' b' s' g' := by
  obtain ⟨_, h0, h1, h3, h4⟩ := h
  obtain ⟨_, h0', h1', h3', h4'⟩ := h'
  have hb := b2i_01 b
  have hb' := b2i_01 b'
  unfold wordOf
  omega
set_option maxHeartbeats 4000000 in
set_option maxRecDepth 100000 in
theorem apart_walk1 (n m q : Int) (z0 z1 : Int) (z2 : Bool) (z3 z4 W y0 y1 : Int) (y2 : Bool) (y3 y4 V : Int) (w : World) (HLd : Ld w) (hq0 : 0 ≤ q) (hq1 : q < 256)
    (s1 : turnspitlaw06_state.f n (q % 2 == 1) = some (z0, z1, z2, z3, z4)) (s2 : turnspitlaw06_state.f m (q / 2 % 2 == 1) = some (y0, y1, y2, y3, y4)) (s3 : packed_Pack.f z0 z1 z2 z3 z4 = some (W, 0)) (s4 : packed_Pack.f y0 y1 y2 y3 y4 = some (V, 0))
    (t1 : ((W == V) == (z0 == y0 && (z1 == y1 && (z2 == y2 && (z3 == y3 && (z4 == y4)))))) = true) (t2 : decide (y4 ≤ z4) = true) :
    Calls Tryd.prog 8 #[.int .u64 n, .int .u64 m, .int .u8 q] w fun e w' => e = .returned (.bool true) ∧ Below w.heap.size w w' := by
  have HL := Aside0.mk HLd
  clear HLd
  have S1 := Aside0.mk s1
  clear s1
  have S2 := Aside0.mk s2
  clear s2
  have S3 := Aside0.mk s3
  clear s3
  have S4 := Aside0.mk s4
  clear s4
  go_enter Tryd.func8, Tryd.ntmps8
  go_wp2_with fail
  refine (turnspitlaw06_awake.calls true _ HL.out rfl).mono ?_
  rintro e w1 ⟨rfl, hb⟩
  have HB1 := Aside0.mk (below_step (Below.refl w.heap.size w) hb)
  clear hb
  go_wp2_with fail
  refine (turnspitlaw06_state.calls n _ z0 z1 z2 z3 z4 _ (Ld.below HL.out (by exact HB1.out)) S1.out).mono ?_
  rintro e w2 ⟨rfl, hb⟩
  have HB2 := Aside0.mk (below_step HB1.out hb)
  clear hb
  go_wp2_with fail
  refine (turnspitlaw06_state.calls m _ y0 y1 y2 y3 y4 _ (Ld.below HL.out (by exact HB2.out)) S2.out).mono ?_
  rintro e w3 ⟨rfl, hb⟩
  have HB3 := Aside0.mk (below_step HB2.out hb)
  clear hb
  go_wp2_with fail
  refine (packed_Pack.calls z0 z1 z2 z3 z4 W 0 _ (Ld.below HL.out (by exact (below_alloc (below_alloc HB3.out _) _))) S3.out).mono ?_
  rintro e w4 ⟨rfl, hb⟩
  have HB4 := Aside0.mk (below_step (below_alloc (below_alloc HB3.out _) _) hb)
  have Kn_X : (w3.alloc (.cells #[.int .i64 z0, .int .i64 z1, .bool z2, .int .i64 z3, .int .i64 z4] 23)).heap[w3.heap.size]? = some (.cells #[.int .i64 z0, .int .i64 z1, .bool z2, .int .i64 z3, .int .i64 z4] 23 (0, 0)) := by have h_ := blk_new w3 (.cells #[.int .i64 z0, .int .i64 z1, .bool z2, .int .i64 z3, .int .i64 z4] 23); simpa only [World.size_alloc] using h_
  have Kn_Y : ((w3.alloc (.cells #[.int .i64 z0, .int .i64 z1, .bool z2, .int .i64 z3, .int .i64 z4] 23)).alloc (.cells #[.int .i64 y0, .int .i64 y1, .bool y2, .int .i64 y3, .int .i64 y4] 23)).heap[w3.heap.size + 1]? = some (.cells #[.int .i64 y0, .int .i64 y1, .bool y2, .int .i64 y3, .int .i64 y4] 23 (0, 0)) := by have h_ := blk_new (w3.alloc (.cells #[.int .i64 z0, .int .i64 z1, .bool z2, .int .i64 z3, .int .i64 z4] 23)) (.cells #[.int .i64 y0, .int .i64 y1, .bool y2, .int .i64 y3, .int .i64 y4] 23); simpa only [World.size_alloc] using h_
  have KX_ := Aside0.mk (blk_below (blk_alloc Kn_X _) hb)
  have KY_ := Aside0.mk (blk_below Kn_Y hb)
  have KX := KX_
  clear KX_
  have KY := KY_
  clear KY_
  clear Kn_X
  clear Kn_Y
  clear hb
  have yX_4 : w3.heap.size < w4.heap.size := blk_lt KX.out
  have yX_4a : (w3.heap.size = w4.heap.size) = False := eq_false (Nat.ne_of_lt yX_4)
  have yX_4b : (w4.heap.size = w3.heap.size) = False := eq_false (Nat.ne_of_gt yX_4)
  have xX_4_0 : w4.cell? ⟨w3.heap.size, 0, none⟩ = some (.int .i64 z0) := (blk_cell KX.out 0).trans rfl
  have xX_4_1 : w4.cell? ⟨w3.heap.size, 1, none⟩ = some (.int .i64 z1) := (blk_cell KX.out 1).trans rfl
  have xX_4_2 : w4.cell? ⟨w3.heap.size, 2, none⟩ = some (.bool z2) := (blk_cell KX.out 2).trans rfl
  have xX_4_3 : w4.cell? ⟨w3.heap.size, 3, none⟩ = some (.int .i64 z3) := (blk_cell KX.out 3).trans rfl
  have xX_4_4 : w4.cell? ⟨w3.heap.size, 4, none⟩ = some (.int .i64 z4) := (blk_cell KX.out 4).trans rfl
  have yY_4 : w3.heap.size + 1 < w4.heap.size := blk_lt KY.out
  have yY_4a : (w3.heap.size + 1 = w4.heap.size) = False := eq_false (Nat.ne_of_lt yY_4)
  have yY_4b : (w4.heap.size = w3.heap.size + 1) = False := eq_false (Nat.ne_of_gt yY_4)
  have xY_4_0 : w4.cell? ⟨w3.heap.size + 1, 0, none⟩ = some (.int .i64 y0) := (blk_cell KY.out 0).trans rfl
  have xY_4_1 : w4.cell? ⟨w3.heap.size + 1, 1, none⟩ = some (.int .i64 y1) := (blk_cell KY.out 1).trans rfl
  have xY_4_2 : w4.cell? ⟨w3.heap.size + 1, 2, none⟩ = some (.bool y2) := (blk_cell KY.out 2).trans rfl
  have xY_4_3 : w4.cell? ⟨w3.heap.size + 1, 3, none⟩ = some (.int .i64 y3) := (blk_cell KY.out 3).trans rfl
  have xY_4_4 : w4.cell? ⟨w3.heap.size + 1, 4, none⟩ = some (.int .i64 y4) := (blk_cell KY.out 4).trans rfl
  go_wp2_with fail
  refine (packed_Pack.calls y0 y1 y2 y3 y4 V 0 _ (Ld.below HL.out (by exact HB4.out)) S4.out).mono ?_
  rintro e w5 ⟨rfl, hb⟩
  have HB5 := Aside0.mk (below_step HB4.out hb)
  have KX_ := Aside0.mk (blk_below KX.out hb)
  have KY_ := Aside0.mk (blk_below KY.out hb)
  clear KX
  have KX := KX_
  clear KX_
  clear KY
  have KY := KY_
  clear KY_
  clear hb
  try clear yX_4 yX_4a yX_4b xX_4_0 xX_4_1 xX_4_2 xX_4_3 xX_4_4 yY_4 yY_4a yY_4b xY_4_0 xY_4_1 xY_4_2 xY_4_3 xY_4_4
  have yX_5 : w3.heap.size < w5.heap.size := blk_lt KX.out
  have yX_5a : (w3.heap.size = w5.heap.size) = False := eq_false (Nat.ne_of_lt yX_5)
  have yX_5b : (w5.heap.size = w3.heap.size) = False := eq_false (Nat.ne_of_gt yX_5)
  have xX_5_0 : w5.cell? ⟨w3.heap.size, 0, none⟩ = some (.int .i64 z0) := (blk_cell KX.out 0).trans rfl
  have xX_5_1 : w5.cell? ⟨w3.heap.size, 1, none⟩ = some (.int .i64 z1) := (blk_cell KX.out 1).trans rfl
  have xX_5_2 : w5.cell? ⟨w3.heap.size, 2, none⟩ = some (.bool z2) := (blk_cell KX.out 2).trans rfl
  have xX_5_3 : w5.cell? ⟨w3.heap.size, 3, none⟩ = some (.int .i64 z3) := (blk_cell KX.out 3).trans rfl
  have xX_5_4 : w5.cell? ⟨w3.heap.size, 4, none⟩ = some (.int .i64 z4) := (blk_cell KX.out 4).trans rfl
  have yY_5 : w3.heap.size + 1 < w5.heap.size := blk_lt KY.out
  have yY_5a : (w3.heap.size + 1 = w5.heap.size) = False := eq_false (Nat.ne_of_lt yY_5)
  have yY_5b : (w5.heap.size = w3.heap.size + 1) = False := eq_false (Nat.ne_of_gt yY_5)
  have xY_5_0 : w5.cell? ⟨w3.heap.size + 1, 0, none⟩ = some (.int .i64 y0) := (blk_cell KY.out 0).trans rfl
  have xY_5_1 : w5.cell? ⟨w3.heap.size + 1, 1, none⟩ = some (.int .i64 y1) := (blk_cell KY.out 1).trans rfl
  have xY_5_2 : w5.cell? ⟨w3.heap.size + 1, 2, none⟩ = some (.bool y2) := (blk_cell KY.out 2).trans rfl
  have xY_5_3 : w5.cell? ⟨w3.heap.size + 1, 3, none⟩ = some (.int .i64 y3) := (blk_cell KY.out 3).trans rfl
  have xY_5_4 : w5.cell? ⟨w3.heap.size + 1, 4, none⟩ = some (.int .i64 y4) := (blk_cell KY.out 4).trans rfl
  go_wp2_with fail
  go_ret
  exact ⟨rfl, by repeat (first | exact HB5.out | apply below_alloc | apply pw_below_drewN)⟩
set_option maxHeartbeats 4000000 in
set_option maxRecDepth 100000 in
theorem apart_walk0 (n m q : Int) (z0 z1 : Int) (z2 : Bool) (z3 z4 W y0 y1 : Int) (y2 : Bool) (y3 y4 V : Int) (w : World) (HLd : Ld w) (hq0 : 0 ≤ q) (hq1 : q < 256)
    (s1 : turnspitlaw06_state.f n (q % 2 == 1) = some (z0, z1, z2, z3, z4)) (s2 : turnspitlaw06_state.f m (q / 2 % 2 == 1) = some (y0, y1, y2, y3, y4)) (s3 : packed_Pack.f z0 z1 z2 z3 z4 = some (W, 0)) (s4 : packed_Pack.f y0 y1 y2 y3 y4 = some (V, 0))
    (t1 : ((W == V) == (z0 == y0 && (z1 == y1 && (z2 == y2 && (z3 == y3 && (z4 == y4)))))) = true) (t2 : decide (y4 ≤ z4) = false) (t3 : decide (W < V) = true) :
    Calls Tryd.prog 8 #[.int .u64 n, .int .u64 m, .int .u8 q] w fun e w' => e = .returned (.bool true) ∧ Below w.heap.size w w' := by
  have HL := Aside0.mk HLd
  clear HLd
  have S1 := Aside0.mk s1
  clear s1
  have S2 := Aside0.mk s2
  clear s2
  have S3 := Aside0.mk s3
  clear s3
  have S4 := Aside0.mk s4
  clear s4
  go_enter Tryd.func8, Tryd.ntmps8
  go_wp2_with fail
  refine (turnspitlaw06_awake.calls true _ HL.out rfl).mono ?_
  rintro e w1 ⟨rfl, hb⟩
  have HB1 := Aside0.mk (below_step (Below.refl w.heap.size w) hb)
  clear hb
  go_wp2_with fail
  refine (turnspitlaw06_state.calls n _ z0 z1 z2 z3 z4 _ (Ld.below HL.out (by exact HB1.out)) S1.out).mono ?_
  rintro e w2 ⟨rfl, hb⟩
  have HB2 := Aside0.mk (below_step HB1.out hb)
  clear hb
  go_wp2_with fail
  refine (turnspitlaw06_state.calls m _ y0 y1 y2 y3 y4 _ (Ld.below HL.out (by exact HB2.out)) S2.out).mono ?_
  rintro e w3 ⟨rfl, hb⟩
  have HB3 := Aside0.mk (below_step HB2.out hb)
  clear hb
  go_wp2_with fail
  refine (packed_Pack.calls z0 z1 z2 z3 z4 W 0 _ (Ld.below HL.out (by exact (below_alloc (below_alloc HB3.out _) _))) S3.out).mono ?_
  rintro e w4 ⟨rfl, hb⟩
  have HB4 := Aside0.mk (below_step (below_alloc (below_alloc HB3.out _) _) hb)
  have Kn_X : (w3.alloc (.cells #[.int .i64 z0, .int .i64 z1, .bool z2, .int .i64 z3, .int .i64 z4] 23)).heap[w3.heap.size]? = some (.cells #[.int .i64 z0, .int .i64 z1, .bool z2, .int .i64 z3, .int .i64 z4] 23 (0, 0)) := by have h_ := blk_new w3 (.cells #[.int .i64 z0, .int .i64 z1, .bool z2, .int .i64 z3, .int .i64 z4] 23); simpa only [World.size_alloc] using h_
  have Kn_Y : ((w3.alloc (.cells #[.int .i64 z0, .int .i64 z1, .bool z2, .int .i64 z3, .int .i64 z4] 23)).alloc (.cells #[.int .i64 y0, .int .i64 y1, .bool y2, .int .i64 y3, .int .i64 y4] 23)).heap[w3.heap.size + 1]? = some (.cells #[.int .i64 y0, .int .i64 y1, .bool y2, .int .i64 y3, .int .i64 y4] 23 (0, 0)) := by have h_ := blk_new (w3.alloc (.cells #[.int .i64 z0, .int .i64 z1, .bool z2, .int .i64 z3, .int .i64 z4] 23)) (.cells #[.int .i64 y0, .int .i64 y1, .bool y2, .int .i64 y3, .int .i64 y4] 23); simpa only [World.size_alloc] using h_
  have KX_ := Aside0.mk (blk_below (blk_alloc Kn_X _) hb)
  have KY_ := Aside0.mk (blk_below Kn_Y hb)
  have KX := KX_
  clear KX_
  have KY := KY_
  clear KY_
  clear Kn_X
  clear Kn_Y
  clear hb
  have yX_4 : w3.heap.size < w4.heap.size := blk_lt KX.out
  have yX_4a : (w3.heap.size = w4.heap.size) = False := eq_false (Nat.ne_of_lt yX_4)
  have yX_4b : (w4.heap.size = w3.heap.size) = False := eq_false (Nat.ne_of_gt yX_4)
  have xX_4_0 : w4.cell? ⟨w3.heap.size, 0, none⟩ = some (.int .i64 z0) := (blk_cell KX.out 0).trans rfl
  have xX_4_1 : w4.cell? ⟨w3.heap.size, 1, none⟩ = some (.int .i64 z1) := (blk_cell KX.out 1).trans rfl
  have xX_4_2 : w4.cell? ⟨w3.heap.size, 2, none⟩ = some (.bool z2) := (blk_cell KX.out 2).trans rfl
  have xX_4_3 : w4.cell? ⟨w3.heap.size, 3, none⟩ = some (.int .i64 z3) := (blk_cell KX.out 3).trans rfl
  have xX_4_4 : w4.cell? ⟨w3.heap.size, 4, none⟩ = some (.int .i64 z4) := (blk_cell KX.out 4).trans rfl
  have yY_4 : w3.heap.size + 1 < w4.heap.size := blk_lt KY.out
  have yY_4a : (w3.heap.size + 1 = w4.heap.size) = False := eq_false (Nat.ne_of_lt yY_4)
  have yY_4b : (w4.heap.size = w3.heap.size + 1) = False := eq_false (Nat.ne_of_gt yY_4)
  have xY_4_0 : w4.cell? ⟨w3.heap.size + 1, 0, none⟩ = some (.int .i64 y0) := (blk_cell KY.out 0).trans rfl
  have xY_4_1 : w4.cell? ⟨w3.heap.size + 1, 1, none⟩ = some (.int .i64 y1) := (blk_cell KY.out 1).trans rfl
  have xY_4_2 : w4.cell? ⟨w3.heap.size + 1, 2, none⟩ = some (.bool y2) := (blk_cell KY.out 2).trans rfl
  have xY_4_3 : w4.cell? ⟨w3.heap.size + 1, 3, none⟩ = some (.int .i64 y3) := (blk_cell KY.out 3).trans rfl
  have xY_4_4 : w4.cell? ⟨w3.heap.size + 1, 4, none⟩ = some (.int .i64 y4) := (blk_cell KY.out 4).trans rfl
  go_wp2_with fail
  refine (packed_Pack.calls y0 y1 y2 y3 y4 V 0 _ (Ld.below HL.out (by exact HB4.out)) S4.out).mono ?_
  rintro e w5 ⟨rfl, hb⟩
  have HB5 := Aside0.mk (below_step HB4.out hb)
  have KX_ := Aside0.mk (blk_below KX.out hb)
  have KY_ := Aside0.mk (blk_below KY.out hb)
  clear KX
  have KX := KX_
  clear KX_
  clear KY
  have KY := KY_
  clear KY_
  clear hb
  try clear yX_4 yX_4a yX_4b xX_4_0 xX_4_1 xX_4_2 xX_4_3 xX_4_4 yY_4 yY_4a yY_4b xY_4_0 xY_4_1 xY_4_2 xY_4_3 xY_4_4
  have yX_5 : w3.heap.size < w5.heap.size := blk_lt KX.out
  have yX_5a : (w3.heap.size = w5.heap.size) = False := eq_false (Nat.ne_of_lt yX_5)
  have yX_5b : (w5.heap.size = w3.heap.size) = False := eq_false (Nat.ne_of_gt yX_5)
  have xX_5_0 : w5.cell? ⟨w3.heap.size, 0, none⟩ = some (.int .i64 z0) := (blk_cell KX.out 0).trans rfl
  have xX_5_1 : w5.cell? ⟨w3.heap.size, 1, none⟩ = some (.int .i64 z1) := (blk_cell KX.out 1).trans rfl
  have xX_5_2 : w5.cell? ⟨w3.heap.size, 2, none⟩ = some (.bool z2) := (blk_cell KX.out 2).trans rfl
  have xX_5_3 : w5.cell? ⟨w3.heap.size, 3, none⟩ = some (.int .i64 z3) := (blk_cell KX.out 3).trans rfl
  have xX_5_4 : w5.cell? ⟨w3.heap.size, 4, none⟩ = some (.int .i64 z4) := (blk_cell KX.out 4).trans rfl
  have yY_5 : w3.heap.size + 1 < w5.heap.size := blk_lt KY.out
  have yY_5a : (w3.heap.size + 1 = w5.heap.size) = False := eq_false (Nat.ne_of_lt yY_5)
  have yY_5b : (w5.heap.size = w3.heap.size + 1) = False := eq_false (Nat.ne_of_gt yY_5)
  have xY_5_0 : w5.cell? ⟨w3.heap.size + 1, 0, none⟩ = some (.int .i64 y0) := (blk_cell KY.out 0).trans rfl
  have xY_5_1 : w5.cell? ⟨w3.heap.size + 1, 1, none⟩ = some (.int .i64 y1) := (blk_cell KY.out 1).trans rfl
  have xY_5_2 : w5.cell? ⟨w3.heap.size + 1, 2, none⟩ = some (.bool y2) := (blk_cell KY.out 2).trans rfl
  have xY_5_3 : w5.cell? ⟨w3.heap.size + 1, 3, none⟩ = some (.int .i64 y3) := (blk_cell KY.out 3).trans rfl
  have xY_5_4 : w5.cell? ⟨w3.heap.size + 1, 4, none⟩ = some (.int .i64 y4) := (blk_cell KY.out 4).trans rfl
  go_wp2_with fail
  go_ret
  exact ⟨rfl, by repeat (first | exact HB5.out | apply below_alloc | apply pw_below_drewN)⟩
theorem Walk.PackedApart (n : Int) (hn : (Lit.int .u64 n).wf = true) (m : Int) (hm : (Lit.int .u64 m).wf = true) (q : Int) (hq : (Lit.int .u8 q).wf = true) (w : World) (HLd : Ld w) :
    Calls Tryd.prog 8 #[.int .u64 n, .int .u64 m, .int .u8 q] w fun e w' => e = .returned (.bool true) ∧ Below w.heap.size w w' := by
  have hn := u64_of hn
  have hm := u64_of hm
  have hq : 0 ≤ q ∧ q < 256 := by
    simp [Lit.wf, IntKind.min, IntKind.max, IntKind.signed, IntKind.bits] at hq
    omega
  have h1 := state_ok (n := n) (q % 2 == 1)
  have h2 := state_ok (n := m) (q / 2 % 2 == 1)
  have ht : ∀ x : Bool, (x == x) = true := fun x => by cases x <;> rfl
  by_cases hg : m / 33554432 % 4294967296 ≤ n / 33554432 % 4294967296
  · exact apart_walk1 n m q _ _ _ _ _ _ _ _ _ _ _ _ w HLd hq.1 hq.2 (state_eq hn _) (state_eq hm _) (pack_ok h1) (pack_ok h2) (by rw [word_inj h1 h2]; exact ht _) (decide_eq_true hg)
  · exact apart_walk0 n m q _ _ _ _ _ _ _ _ _ _ _ _ w HLd hq.1 hq.2 (state_eq hn _) (state_eq hm _) (pack_ok h1) (pack_ok h2) (by rw [word_inj h1 h2]; exact ht _) (decide_eq_false hg) (decide_eq_true (word_lt h1 h2 (by omega)))
end Go.Proofs.YtnojbmiodoefmaaDoor

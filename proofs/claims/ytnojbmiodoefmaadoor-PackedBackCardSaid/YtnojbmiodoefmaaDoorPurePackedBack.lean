/- PackedBack: the walk. -/
import Derived.Test.YtnojbmiodoefmaaDoorPureBase
import Derived.Test.YtnojbmiodoefmaaDoorPrintE1
namespace Go.Proofs.YtnojbmiodoefmaaDoor
open Go.RowKit Go.Proofs.YtnojbmiodoefmaaDoor.Given Go.Proofs.YtnojbmiodoefmaaDoor.Print Go.Proofs.YtnojbmiodoefmaaDoor.Pure Go.Proofs.YtnojbmiodoefmaaDoorW.PrintWords
set_option linter.unusedVariables false
set_option linter.unusedSimpArgs false
attribute [local go_sem high] eqA23
set_option maxHeartbeats 4000000 in
set_option maxRecDepth 100000 in
theorem back_11 (k c : Int) (b : Bool) (s g a : Int) (w : World) (HLd : Ld w) (ha : u64 a) (h : packOk k c b s g) (h2 : (a < 288230376151711744 ∧ (a / 512 % 2 = 1 → a % 8 = 7))) :
    Calls Tryd.prog 6 #[.agg #[.int .i64 k, .int .i64 c, .bool b, .int .i64 s, .int .i64 g], .int .u64 a] w fun e w' => e = .returned (.bool true) ∧ Below w.heap.size w w' := by
  have HL := Aside0.mk HLd
  clear HLd
  have e1 := Aside0.mk (pack_ok h)
  have e2 := Aside0.mk ((unpack_eq (word_u64 h).1).trans (congrArg some (opened_word h)))
  generalize wordOf k c b s g = W at e1 e2
  have hw := word_opened ha h2.1 h2.2
  have e3 : packed_Unpack.f a = some (a % 8, a / 8 % 64, a / 512 % 2 == 1, a / 1024 % 65536, a / 67108864 % 4294967296, 0) := by rw [unpack_eq ha]; unfold opened; rw [if_pos h2]
  have e4 := (pack_ok hw.1).trans (congrArg (fun z => some (z, 0)) hw.2)
  clear hw
  generalize a % 8 = z0 at e3 e4
  generalize a / 8 % 64 = z1 at e3 e4
  generalize (a / 512 % 2 == 1) = z2 at e3 e4
  generalize a / 1024 % 65536 = z3 at e3 e4
  generalize a / 67108864 % 4294967296 = z4 at e3 e4
  have E3 := Aside0.mk e3
  have E4 := Aside0.mk e4
  clear e3 e4 h h2 ha
  go_enter Tryd.func6, Tryd.ntmps6
  go_wp2_with fail
  refine (turnspitlaw06_awake.calls true _ (Ld.below HL.out (by exact (below_alloc (Below.refl w.heap.size w) _))) rfl).mono ?_
  rintro e w1 ⟨rfl, hb⟩
  have HB1 := Aside0.mk (below_step (below_alloc (Below.refl w.heap.size w) _) hb)
  have Kn_X : (w.alloc (.cells #[.int .i64 k, .int .i64 c, .bool b, .int .i64 s, .int .i64 g] 23)).heap[w.heap.size]? = some (.cells #[.int .i64 k, .int .i64 c, .bool b, .int .i64 s, .int .i64 g] 23 (0, 0)) := by have h_ := blk_new w (.cells #[.int .i64 k, .int .i64 c, .bool b, .int .i64 s, .int .i64 g] 23); simpa only [World.size_alloc] using h_
  have KX_ := Aside0.mk (blk_below Kn_X hb)
  have KX := KX_
  clear KX_
  clear Kn_X
  clear hb
  have yX_1 : w.heap.size < w1.heap.size := blk_lt KX.out
  have yX_1a : (w.heap.size = w1.heap.size) = False := eq_false (Nat.ne_of_lt yX_1)
  have yX_1b : (w1.heap.size = w.heap.size) = False := eq_false (Nat.ne_of_gt yX_1)
  have xX_1_0 : w1.cell? ⟨w.heap.size, 0, none⟩ = some (.int .i64 k) := (blk_cell KX.out 0).trans rfl
  have xX_1_1 : w1.cell? ⟨w.heap.size, 1, none⟩ = some (.int .i64 c) := (blk_cell KX.out 1).trans rfl
  have xX_1_2 : w1.cell? ⟨w.heap.size, 2, none⟩ = some (.bool b) := (blk_cell KX.out 2).trans rfl
  have xX_1_3 : w1.cell? ⟨w.heap.size, 3, none⟩ = some (.int .i64 s) := (blk_cell KX.out 3).trans rfl
  have xX_1_4 : w1.cell? ⟨w.heap.size, 4, none⟩ = some (.int .i64 g) := (blk_cell KX.out 4).trans rfl
  go_wp2_with fail
  refine (packed_Pack.calls k c b s g W 0 _ (Ld.below HL.out (by exact HB1.out)) e1.out).mono ?_
  rintro e w2 ⟨rfl, hb⟩
  have HB2 := Aside0.mk (below_step HB1.out hb)
  have KX_ := Aside0.mk (blk_below KX.out hb)
  clear KX
  have KX := KX_
  clear KX_
  clear hb
  try clear yX_1 yX_1a yX_1b xX_1_0 xX_1_1 xX_1_2 xX_1_3 xX_1_4
  have yX_2 : w.heap.size < w2.heap.size := blk_lt KX.out
  have yX_2a : (w.heap.size = w2.heap.size) = False := eq_false (Nat.ne_of_lt yX_2)
  have yX_2b : (w2.heap.size = w.heap.size) = False := eq_false (Nat.ne_of_gt yX_2)
  have xX_2_0 : w2.cell? ⟨w.heap.size, 0, none⟩ = some (.int .i64 k) := (blk_cell KX.out 0).trans rfl
  have xX_2_1 : w2.cell? ⟨w.heap.size, 1, none⟩ = some (.int .i64 c) := (blk_cell KX.out 1).trans rfl
  have xX_2_2 : w2.cell? ⟨w.heap.size, 2, none⟩ = some (.bool b) := (blk_cell KX.out 2).trans rfl
  have xX_2_3 : w2.cell? ⟨w.heap.size, 3, none⟩ = some (.int .i64 s) := (blk_cell KX.out 3).trans rfl
  have xX_2_4 : w2.cell? ⟨w.heap.size, 4, none⟩ = some (.int .i64 g) := (blk_cell KX.out 4).trans rfl
  go_wp2_with fail
  refine (packed_Unpack.calls W k c b s g 0 _ (Ld.below HL.out (by exact HB2.out)) e2.out).mono ?_
  rintro e w3 ⟨rfl, hb⟩
  have HB3 := Aside0.mk (below_step HB2.out hb)
  have KX_ := Aside0.mk (blk_below KX.out hb)
  clear KX
  have KX := KX_
  clear KX_
  clear hb
  try clear yX_2 yX_2a yX_2b xX_2_0 xX_2_1 xX_2_2 xX_2_3 xX_2_4
  have yX_3 : w.heap.size < w3.heap.size := blk_lt KX.out
  have yX_3a : (w.heap.size = w3.heap.size) = False := eq_false (Nat.ne_of_lt yX_3)
  have yX_3b : (w3.heap.size = w.heap.size) = False := eq_false (Nat.ne_of_gt yX_3)
  have xX_3_0 : w3.cell? ⟨w.heap.size, 0, none⟩ = some (.int .i64 k) := (blk_cell KX.out 0).trans rfl
  have xX_3_1 : w3.cell? ⟨w.heap.size, 1, none⟩ = some (.int .i64 c) := (blk_cell KX.out 1).trans rfl
  have xX_3_2 : w3.cell? ⟨w.heap.size, 2, none⟩ = some (.bool b) := (blk_cell KX.out 2).trans rfl
  have xX_3_3 : w3.cell? ⟨w.heap.size, 3, none⟩ = some (.int .i64 s) := (blk_cell KX.out 3).trans rfl
  have xX_3_4 : w3.cell? ⟨w.heap.size, 4, none⟩ = some (.int .i64 g) := (blk_cell KX.out 4).trans rfl
  go_wp2_with fail
  refine (packed_Unpack.calls a z0 z1 z2 z3 z4 0 _ (Ld.below HL.out (by exact (below_alloc HB3.out _))) E3.out).mono ?_
  rintro e w4 ⟨rfl, hb⟩
  have HB4 := Aside0.mk (below_step (below_alloc HB3.out _) hb)
  have Kn_Y : (w3.alloc (.cells #[.int .i64 k, .int .i64 c, .bool b, .int .i64 s, .int .i64 g] 23)).heap[w3.heap.size]? = some (.cells #[.int .i64 k, .int .i64 c, .bool b, .int .i64 s, .int .i64 g] 23 (0, 0)) := by have h_ := blk_new w3 (.cells #[.int .i64 k, .int .i64 c, .bool b, .int .i64 s, .int .i64 g] 23); simpa only [World.size_alloc] using h_
  have KX_ := Aside0.mk (blk_below (blk_alloc KX.out _) hb)
  have KY_ := Aside0.mk (blk_below Kn_Y hb)
  clear KX
  have KX := KX_
  clear KX_
  have KY := KY_
  clear KY_
  clear Kn_Y
  clear hb
  try clear yX_3 yX_3a yX_3b xX_3_0 xX_3_1 xX_3_2 xX_3_3 xX_3_4
  have yX_4 : w.heap.size < w4.heap.size := blk_lt KX.out
  have yX_4a : (w.heap.size = w4.heap.size) = False := eq_false (Nat.ne_of_lt yX_4)
  have yX_4b : (w4.heap.size = w.heap.size) = False := eq_false (Nat.ne_of_gt yX_4)
  have xX_4_0 : w4.cell? ⟨w.heap.size, 0, none⟩ = some (.int .i64 k) := (blk_cell KX.out 0).trans rfl
  have xX_4_1 : w4.cell? ⟨w.heap.size, 1, none⟩ = some (.int .i64 c) := (blk_cell KX.out 1).trans rfl
  have xX_4_2 : w4.cell? ⟨w.heap.size, 2, none⟩ = some (.bool b) := (blk_cell KX.out 2).trans rfl
  have xX_4_3 : w4.cell? ⟨w.heap.size, 3, none⟩ = some (.int .i64 s) := (blk_cell KX.out 3).trans rfl
  have xX_4_4 : w4.cell? ⟨w.heap.size, 4, none⟩ = some (.int .i64 g) := (blk_cell KX.out 4).trans rfl
  have yY_4 : w3.heap.size < w4.heap.size := blk_lt KY.out
  have yY_4a : (w3.heap.size = w4.heap.size) = False := eq_false (Nat.ne_of_lt yY_4)
  have yY_4b : (w4.heap.size = w3.heap.size) = False := eq_false (Nat.ne_of_gt yY_4)
  have xY_4_0 : w4.cell? ⟨w3.heap.size, 0, none⟩ = some (.int .i64 k) := (blk_cell KY.out 0).trans rfl
  have xY_4_1 : w4.cell? ⟨w3.heap.size, 1, none⟩ = some (.int .i64 c) := (blk_cell KY.out 1).trans rfl
  have xY_4_2 : w4.cell? ⟨w3.heap.size, 2, none⟩ = some (.bool b) := (blk_cell KY.out 2).trans rfl
  have xY_4_3 : w4.cell? ⟨w3.heap.size, 3, none⟩ = some (.int .i64 s) := (blk_cell KY.out 3).trans rfl
  have xY_4_4 : w4.cell? ⟨w3.heap.size, 4, none⟩ = some (.int .i64 g) := (blk_cell KY.out 4).trans rfl
  go_wp2_with fail
  refine (packed_Pack.calls z0 z1 z2 z3 z4 a 0 _ (Ld.below HL.out (by exact (below_alloc HB4.out _))) E4.out).mono ?_
  rintro e w5 ⟨rfl, hb⟩
  have HB5 := Aside0.mk (below_step (below_alloc HB4.out _) hb)
  have Kn_Q : (w4.alloc (.cells #[.int .i64 z0, .int .i64 z1, .bool z2, .int .i64 z3, .int .i64 z4] 23)).heap[w4.heap.size]? = some (.cells #[.int .i64 z0, .int .i64 z1, .bool z2, .int .i64 z3, .int .i64 z4] 23 (0, 0)) := by have h_ := blk_new w4 (.cells #[.int .i64 z0, .int .i64 z1, .bool z2, .int .i64 z3, .int .i64 z4] 23); simpa only [World.size_alloc] using h_
  have KX_ := Aside0.mk (blk_below (blk_alloc KX.out _) hb)
  have KY_ := Aside0.mk (blk_below (blk_alloc KY.out _) hb)
  have KQ_ := Aside0.mk (blk_below Kn_Q hb)
  clear KX
  have KX := KX_
  clear KX_
  clear KY
  have KY := KY_
  clear KY_
  have KQ := KQ_
  clear KQ_
  clear Kn_Q
  clear hb
  try clear yX_4 yX_4a yX_4b xX_4_0 xX_4_1 xX_4_2 xX_4_3 xX_4_4 yY_4 yY_4a yY_4b xY_4_0 xY_4_1 xY_4_2 xY_4_3 xY_4_4
  have yX_5 : w.heap.size < w5.heap.size := blk_lt KX.out
  have yX_5a : (w.heap.size = w5.heap.size) = False := eq_false (Nat.ne_of_lt yX_5)
  have yX_5b : (w5.heap.size = w.heap.size) = False := eq_false (Nat.ne_of_gt yX_5)
  have xX_5_0 : w5.cell? ⟨w.heap.size, 0, none⟩ = some (.int .i64 k) := (blk_cell KX.out 0).trans rfl
  have xX_5_1 : w5.cell? ⟨w.heap.size, 1, none⟩ = some (.int .i64 c) := (blk_cell KX.out 1).trans rfl
  have xX_5_2 : w5.cell? ⟨w.heap.size, 2, none⟩ = some (.bool b) := (blk_cell KX.out 2).trans rfl
  have xX_5_3 : w5.cell? ⟨w.heap.size, 3, none⟩ = some (.int .i64 s) := (blk_cell KX.out 3).trans rfl
  have xX_5_4 : w5.cell? ⟨w.heap.size, 4, none⟩ = some (.int .i64 g) := (blk_cell KX.out 4).trans rfl
  have yY_5 : w3.heap.size < w5.heap.size := blk_lt KY.out
  have yY_5a : (w3.heap.size = w5.heap.size) = False := eq_false (Nat.ne_of_lt yY_5)
  have yY_5b : (w5.heap.size = w3.heap.size) = False := eq_false (Nat.ne_of_gt yY_5)
  have xY_5_0 : w5.cell? ⟨w3.heap.size, 0, none⟩ = some (.int .i64 k) := (blk_cell KY.out 0).trans rfl
  have xY_5_1 : w5.cell? ⟨w3.heap.size, 1, none⟩ = some (.int .i64 c) := (blk_cell KY.out 1).trans rfl
  have xY_5_2 : w5.cell? ⟨w3.heap.size, 2, none⟩ = some (.bool b) := (blk_cell KY.out 2).trans rfl
  have xY_5_3 : w5.cell? ⟨w3.heap.size, 3, none⟩ = some (.int .i64 s) := (blk_cell KY.out 3).trans rfl
  have xY_5_4 : w5.cell? ⟨w3.heap.size, 4, none⟩ = some (.int .i64 g) := (blk_cell KY.out 4).trans rfl
  have yQ_5 : w4.heap.size < w5.heap.size := blk_lt KQ.out
  have yQ_5a : (w4.heap.size = w5.heap.size) = False := eq_false (Nat.ne_of_lt yQ_5)
  have yQ_5b : (w5.heap.size = w4.heap.size) = False := eq_false (Nat.ne_of_gt yQ_5)
  have xQ_5_0 : w5.cell? ⟨w4.heap.size, 0, none⟩ = some (.int .i64 z0) := (blk_cell KQ.out 0).trans rfl
  have xQ_5_1 : w5.cell? ⟨w4.heap.size, 1, none⟩ = some (.int .i64 z1) := (blk_cell KQ.out 1).trans rfl
  have xQ_5_2 : w5.cell? ⟨w4.heap.size, 2, none⟩ = some (.bool z2) := (blk_cell KQ.out 2).trans rfl
  have xQ_5_3 : w5.cell? ⟨w4.heap.size, 3, none⟩ = some (.int .i64 z3) := (blk_cell KQ.out 3).trans rfl
  have xQ_5_4 : w5.cell? ⟨w4.heap.size, 4, none⟩ = some (.int .i64 z4) := (blk_cell KQ.out 4).trans rfl
  go_wp2_with fail
  go_ret
  exact ⟨rfl, HB5.out⟩
set_option maxHeartbeats 4000000 in
set_option maxRecDepth 100000 in
theorem back_10 (k c : Int) (b : Bool) (s g a : Int) (w : World) (HLd : Ld w) (ha : u64 a) (h : packOk k c b s g) (h2 : ¬ (a < 288230376151711744 ∧ (a / 512 % 2 = 1 → a % 8 = 7))) :
    Calls Tryd.prog 6 #[.agg #[.int .i64 k, .int .i64 c, .bool b, .int .i64 s, .int .i64 g], .int .u64 a] w fun e w' => e = .returned (.bool true) ∧ Below w.heap.size w w' := by
  have HL := Aside0.mk HLd
  clear HLd
  have e1 := Aside0.mk (pack_ok h)
  have e2 := Aside0.mk ((unpack_eq (word_u64 h).1).trans (congrArg some (opened_word h)))
  generalize wordOf k c b s g = W at e1 e2
  have e3 : packed_Unpack.f a = some (0, 0, false, 0, 0, 1) := by rw [unpack_eq ha]; unfold opened; rw [if_neg h2]
  have e4 : packed_Pack.f 0 0 false 0 0 = some (0, 0) := rfl
  have E3 := Aside0.mk e3
  have E4 := Aside0.mk e4
  clear e3 e4 h h2 ha
  go_enter Tryd.func6, Tryd.ntmps6
  go_wp2_with fail
  refine (turnspitlaw06_awake.calls true _ (Ld.below HL.out (by exact (below_alloc (Below.refl w.heap.size w) _))) rfl).mono ?_
  rintro e w1 ⟨rfl, hb⟩
  have HB1 := Aside0.mk (below_step (below_alloc (Below.refl w.heap.size w) _) hb)
  have Kn_X : (w.alloc (.cells #[.int .i64 k, .int .i64 c, .bool b, .int .i64 s, .int .i64 g] 23)).heap[w.heap.size]? = some (.cells #[.int .i64 k, .int .i64 c, .bool b, .int .i64 s, .int .i64 g] 23 (0, 0)) := by have h_ := blk_new w (.cells #[.int .i64 k, .int .i64 c, .bool b, .int .i64 s, .int .i64 g] 23); simpa only [World.size_alloc] using h_
  have KX_ := Aside0.mk (blk_below Kn_X hb)
  have KX := KX_
  clear KX_
  clear Kn_X
  clear hb
  have yX_1 : w.heap.size < w1.heap.size := blk_lt KX.out
  have yX_1a : (w.heap.size = w1.heap.size) = False := eq_false (Nat.ne_of_lt yX_1)
  have yX_1b : (w1.heap.size = w.heap.size) = False := eq_false (Nat.ne_of_gt yX_1)
  have xX_1_0 : w1.cell? ⟨w.heap.size, 0, none⟩ = some (.int .i64 k) := (blk_cell KX.out 0).trans rfl
  have xX_1_1 : w1.cell? ⟨w.heap.size, 1, none⟩ = some (.int .i64 c) := (blk_cell KX.out 1).trans rfl
  have xX_1_2 : w1.cell? ⟨w.heap.size, 2, none⟩ = some (.bool b) := (blk_cell KX.out 2).trans rfl
  have xX_1_3 : w1.cell? ⟨w.heap.size, 3, none⟩ = some (.int .i64 s) := (blk_cell KX.out 3).trans rfl
  have xX_1_4 : w1.cell? ⟨w.heap.size, 4, none⟩ = some (.int .i64 g) := (blk_cell KX.out 4).trans rfl
  go_wp2_with fail
  refine (packed_Pack.calls k c b s g W 0 _ (Ld.below HL.out (by exact HB1.out)) e1.out).mono ?_
  rintro e w2 ⟨rfl, hb⟩
  have HB2 := Aside0.mk (below_step HB1.out hb)
  have KX_ := Aside0.mk (blk_below KX.out hb)
  clear KX
  have KX := KX_
  clear KX_
  clear hb
  try clear yX_1 yX_1a yX_1b xX_1_0 xX_1_1 xX_1_2 xX_1_3 xX_1_4
  have yX_2 : w.heap.size < w2.heap.size := blk_lt KX.out
  have yX_2a : (w.heap.size = w2.heap.size) = False := eq_false (Nat.ne_of_lt yX_2)
  have yX_2b : (w2.heap.size = w.heap.size) = False := eq_false (Nat.ne_of_gt yX_2)
  have xX_2_0 : w2.cell? ⟨w.heap.size, 0, none⟩ = some (.int .i64 k) := (blk_cell KX.out 0).trans rfl
  have xX_2_1 : w2.cell? ⟨w.heap.size, 1, none⟩ = some (.int .i64 c) := (blk_cell KX.out 1).trans rfl
  have xX_2_2 : w2.cell? ⟨w.heap.size, 2, none⟩ = some (.bool b) := (blk_cell KX.out 2).trans rfl
  have xX_2_3 : w2.cell? ⟨w.heap.size, 3, none⟩ = some (.int .i64 s) := (blk_cell KX.out 3).trans rfl
  have xX_2_4 : w2.cell? ⟨w.heap.size, 4, none⟩ = some (.int .i64 g) := (blk_cell KX.out 4).trans rfl
  go_wp2_with fail
  refine (packed_Unpack.calls W k c b s g 0 _ (Ld.below HL.out (by exact HB2.out)) e2.out).mono ?_
  rintro e w3 ⟨rfl, hb⟩
  have HB3 := Aside0.mk (below_step HB2.out hb)
  have KX_ := Aside0.mk (blk_below KX.out hb)
  clear KX
  have KX := KX_
  clear KX_
  clear hb
  try clear yX_2 yX_2a yX_2b xX_2_0 xX_2_1 xX_2_2 xX_2_3 xX_2_4
  have yX_3 : w.heap.size < w3.heap.size := blk_lt KX.out
  have yX_3a : (w.heap.size = w3.heap.size) = False := eq_false (Nat.ne_of_lt yX_3)
  have yX_3b : (w3.heap.size = w.heap.size) = False := eq_false (Nat.ne_of_gt yX_3)
  have xX_3_0 : w3.cell? ⟨w.heap.size, 0, none⟩ = some (.int .i64 k) := (blk_cell KX.out 0).trans rfl
  have xX_3_1 : w3.cell? ⟨w.heap.size, 1, none⟩ = some (.int .i64 c) := (blk_cell KX.out 1).trans rfl
  have xX_3_2 : w3.cell? ⟨w.heap.size, 2, none⟩ = some (.bool b) := (blk_cell KX.out 2).trans rfl
  have xX_3_3 : w3.cell? ⟨w.heap.size, 3, none⟩ = some (.int .i64 s) := (blk_cell KX.out 3).trans rfl
  have xX_3_4 : w3.cell? ⟨w.heap.size, 4, none⟩ = some (.int .i64 g) := (blk_cell KX.out 4).trans rfl
  go_wp2_with fail
  refine (packed_Unpack.calls a 0 0 false 0 0 1 _ (Ld.below HL.out (by exact (below_alloc HB3.out _))) E3.out).mono ?_
  rintro e w4 ⟨rfl, hb⟩
  have HB4 := Aside0.mk (below_step (below_alloc HB3.out _) hb)
  have Kn_Y : (w3.alloc (.cells #[.int .i64 k, .int .i64 c, .bool b, .int .i64 s, .int .i64 g] 23)).heap[w3.heap.size]? = some (.cells #[.int .i64 k, .int .i64 c, .bool b, .int .i64 s, .int .i64 g] 23 (0, 0)) := by have h_ := blk_new w3 (.cells #[.int .i64 k, .int .i64 c, .bool b, .int .i64 s, .int .i64 g] 23); simpa only [World.size_alloc] using h_
  have KX_ := Aside0.mk (blk_below (blk_alloc KX.out _) hb)
  have KY_ := Aside0.mk (blk_below Kn_Y hb)
  clear KX
  have KX := KX_
  clear KX_
  have KY := KY_
  clear KY_
  clear Kn_Y
  clear hb
  try clear yX_3 yX_3a yX_3b xX_3_0 xX_3_1 xX_3_2 xX_3_3 xX_3_4
  have yX_4 : w.heap.size < w4.heap.size := blk_lt KX.out
  have yX_4a : (w.heap.size = w4.heap.size) = False := eq_false (Nat.ne_of_lt yX_4)
  have yX_4b : (w4.heap.size = w.heap.size) = False := eq_false (Nat.ne_of_gt yX_4)
  have xX_4_0 : w4.cell? ⟨w.heap.size, 0, none⟩ = some (.int .i64 k) := (blk_cell KX.out 0).trans rfl
  have xX_4_1 : w4.cell? ⟨w.heap.size, 1, none⟩ = some (.int .i64 c) := (blk_cell KX.out 1).trans rfl
  have xX_4_2 : w4.cell? ⟨w.heap.size, 2, none⟩ = some (.bool b) := (blk_cell KX.out 2).trans rfl
  have xX_4_3 : w4.cell? ⟨w.heap.size, 3, none⟩ = some (.int .i64 s) := (blk_cell KX.out 3).trans rfl
  have xX_4_4 : w4.cell? ⟨w.heap.size, 4, none⟩ = some (.int .i64 g) := (blk_cell KX.out 4).trans rfl
  have yY_4 : w3.heap.size < w4.heap.size := blk_lt KY.out
  have yY_4a : (w3.heap.size = w4.heap.size) = False := eq_false (Nat.ne_of_lt yY_4)
  have yY_4b : (w4.heap.size = w3.heap.size) = False := eq_false (Nat.ne_of_gt yY_4)
  have xY_4_0 : w4.cell? ⟨w3.heap.size, 0, none⟩ = some (.int .i64 k) := (blk_cell KY.out 0).trans rfl
  have xY_4_1 : w4.cell? ⟨w3.heap.size, 1, none⟩ = some (.int .i64 c) := (blk_cell KY.out 1).trans rfl
  have xY_4_2 : w4.cell? ⟨w3.heap.size, 2, none⟩ = some (.bool b) := (blk_cell KY.out 2).trans rfl
  have xY_4_3 : w4.cell? ⟨w3.heap.size, 3, none⟩ = some (.int .i64 s) := (blk_cell KY.out 3).trans rfl
  have xY_4_4 : w4.cell? ⟨w3.heap.size, 4, none⟩ = some (.int .i64 g) := (blk_cell KY.out 4).trans rfl
  go_wp2_with fail
  refine (packed_Pack.calls 0 0 false 0 0 0 0 _ (Ld.below HL.out (by exact (below_alloc HB4.out _))) E4.out).mono ?_
  rintro e w5 ⟨rfl, hb⟩
  have HB5 := Aside0.mk (below_step (below_alloc HB4.out _) hb)
  have Kn_Q : (w4.alloc (.cells #[.int .i64 0, .int .i64 0, .bool false, .int .i64 0, .int .i64 0] 23)).heap[w4.heap.size]? = some (.cells #[.int .i64 0, .int .i64 0, .bool false, .int .i64 0, .int .i64 0] 23 (0, 0)) := by have h_ := blk_new w4 (.cells #[.int .i64 0, .int .i64 0, .bool false, .int .i64 0, .int .i64 0] 23); simpa only [World.size_alloc] using h_
  have KX_ := Aside0.mk (blk_below (blk_alloc KX.out _) hb)
  have KY_ := Aside0.mk (blk_below (blk_alloc KY.out _) hb)
  have KQ_ := Aside0.mk (blk_below Kn_Q hb)
  clear KX
  have KX := KX_
  clear KX_
  clear KY
  have KY := KY_
  clear KY_
  have KQ := KQ_
  clear KQ_
  clear Kn_Q
  clear hb
  try clear yX_4 yX_4a yX_4b xX_4_0 xX_4_1 xX_4_2 xX_4_3 xX_4_4 yY_4 yY_4a yY_4b xY_4_0 xY_4_1 xY_4_2 xY_4_3 xY_4_4
  have yX_5 : w.heap.size < w5.heap.size := blk_lt KX.out
  have yX_5a : (w.heap.size = w5.heap.size) = False := eq_false (Nat.ne_of_lt yX_5)
  have yX_5b : (w5.heap.size = w.heap.size) = False := eq_false (Nat.ne_of_gt yX_5)
  have xX_5_0 : w5.cell? ⟨w.heap.size, 0, none⟩ = some (.int .i64 k) := (blk_cell KX.out 0).trans rfl
  have xX_5_1 : w5.cell? ⟨w.heap.size, 1, none⟩ = some (.int .i64 c) := (blk_cell KX.out 1).trans rfl
  have xX_5_2 : w5.cell? ⟨w.heap.size, 2, none⟩ = some (.bool b) := (blk_cell KX.out 2).trans rfl
  have xX_5_3 : w5.cell? ⟨w.heap.size, 3, none⟩ = some (.int .i64 s) := (blk_cell KX.out 3).trans rfl
  have xX_5_4 : w5.cell? ⟨w.heap.size, 4, none⟩ = some (.int .i64 g) := (blk_cell KX.out 4).trans rfl
  have yY_5 : w3.heap.size < w5.heap.size := blk_lt KY.out
  have yY_5a : (w3.heap.size = w5.heap.size) = False := eq_false (Nat.ne_of_lt yY_5)
  have yY_5b : (w5.heap.size = w3.heap.size) = False := eq_false (Nat.ne_of_gt yY_5)
  have xY_5_0 : w5.cell? ⟨w3.heap.size, 0, none⟩ = some (.int .i64 k) := (blk_cell KY.out 0).trans rfl
  have xY_5_1 : w5.cell? ⟨w3.heap.size, 1, none⟩ = some (.int .i64 c) := (blk_cell KY.out 1).trans rfl
  have xY_5_2 : w5.cell? ⟨w3.heap.size, 2, none⟩ = some (.bool b) := (blk_cell KY.out 2).trans rfl
  have xY_5_3 : w5.cell? ⟨w3.heap.size, 3, none⟩ = some (.int .i64 s) := (blk_cell KY.out 3).trans rfl
  have xY_5_4 : w5.cell? ⟨w3.heap.size, 4, none⟩ = some (.int .i64 g) := (blk_cell KY.out 4).trans rfl
  have yQ_5 : w4.heap.size < w5.heap.size := blk_lt KQ.out
  have yQ_5a : (w4.heap.size = w5.heap.size) = False := eq_false (Nat.ne_of_lt yQ_5)
  have yQ_5b : (w5.heap.size = w4.heap.size) = False := eq_false (Nat.ne_of_gt yQ_5)
  have xQ_5_0 : w5.cell? ⟨w4.heap.size, 0, none⟩ = some (.int .i64 0) := (blk_cell KQ.out 0).trans rfl
  have xQ_5_1 : w5.cell? ⟨w4.heap.size, 1, none⟩ = some (.int .i64 0) := (blk_cell KQ.out 1).trans rfl
  have xQ_5_2 : w5.cell? ⟨w4.heap.size, 2, none⟩ = some (.bool false) := (blk_cell KQ.out 2).trans rfl
  have xQ_5_3 : w5.cell? ⟨w4.heap.size, 3, none⟩ = some (.int .i64 0) := (blk_cell KQ.out 3).trans rfl
  have xQ_5_4 : w5.cell? ⟨w4.heap.size, 4, none⟩ = some (.int .i64 0) := (blk_cell KQ.out 4).trans rfl
  go_wp2_with fail
  go_ret
  exact ⟨rfl, HB5.out⟩
set_option maxHeartbeats 4000000 in
set_option maxRecDepth 100000 in
theorem back_01 (k c : Int) (b : Bool) (s g a : Int) (w : World) (HLd : Ld w) (ha : u64 a) (h : ¬ packOk k c b s g) (h2 : (a < 288230376151711744 ∧ (a / 512 % 2 = 1 → a % 8 = 7))) :
    Calls Tryd.prog 6 #[.agg #[.int .i64 k, .int .i64 c, .bool b, .int .i64 s, .int .i64 g], .int .u64 a] w fun e w' => e = .returned (.bool true) ∧ Below w.heap.size w w' := by
  have HL := Aside0.mk HLd
  clear HLd
  have e1 := Aside0.mk (pack_no h)
  have e2 : Aside0 (packed_Unpack.f 0 = some (0, 0, false, 0, 0, 0)) := Aside0.mk rfl
  have hw := word_opened ha h2.1 h2.2
  have e3 : packed_Unpack.f a = some (a % 8, a / 8 % 64, a / 512 % 2 == 1, a / 1024 % 65536, a / 67108864 % 4294967296, 0) := by rw [unpack_eq ha]; unfold opened; rw [if_pos h2]
  have e4 := (pack_ok hw.1).trans (congrArg (fun z => some (z, 0)) hw.2)
  clear hw
  generalize a % 8 = z0 at e3 e4
  generalize a / 8 % 64 = z1 at e3 e4
  generalize (a / 512 % 2 == 1) = z2 at e3 e4
  generalize a / 1024 % 65536 = z3 at e3 e4
  generalize a / 67108864 % 4294967296 = z4 at e3 e4
  have E3 := Aside0.mk e3
  have E4 := Aside0.mk e4
  clear e3 e4 h h2 ha
  go_enter Tryd.func6, Tryd.ntmps6
  go_wp2_with fail
  refine (turnspitlaw06_awake.calls true _ (Ld.below HL.out (by exact (below_alloc (Below.refl w.heap.size w) _))) rfl).mono ?_
  rintro e w1 ⟨rfl, hb⟩
  have HB1 := Aside0.mk (below_step (below_alloc (Below.refl w.heap.size w) _) hb)
  have Kn_X : (w.alloc (.cells #[.int .i64 k, .int .i64 c, .bool b, .int .i64 s, .int .i64 g] 23)).heap[w.heap.size]? = some (.cells #[.int .i64 k, .int .i64 c, .bool b, .int .i64 s, .int .i64 g] 23 (0, 0)) := by have h_ := blk_new w (.cells #[.int .i64 k, .int .i64 c, .bool b, .int .i64 s, .int .i64 g] 23); simpa only [World.size_alloc] using h_
  have KX_ := Aside0.mk (blk_below Kn_X hb)
  have KX := KX_
  clear KX_
  clear Kn_X
  clear hb
  have yX_1 : w.heap.size < w1.heap.size := blk_lt KX.out
  have yX_1a : (w.heap.size = w1.heap.size) = False := eq_false (Nat.ne_of_lt yX_1)
  have yX_1b : (w1.heap.size = w.heap.size) = False := eq_false (Nat.ne_of_gt yX_1)
  have xX_1_0 : w1.cell? ⟨w.heap.size, 0, none⟩ = some (.int .i64 k) := (blk_cell KX.out 0).trans rfl
  have xX_1_1 : w1.cell? ⟨w.heap.size, 1, none⟩ = some (.int .i64 c) := (blk_cell KX.out 1).trans rfl
  have xX_1_2 : w1.cell? ⟨w.heap.size, 2, none⟩ = some (.bool b) := (blk_cell KX.out 2).trans rfl
  have xX_1_3 : w1.cell? ⟨w.heap.size, 3, none⟩ = some (.int .i64 s) := (blk_cell KX.out 3).trans rfl
  have xX_1_4 : w1.cell? ⟨w.heap.size, 4, none⟩ = some (.int .i64 g) := (blk_cell KX.out 4).trans rfl
  go_wp2_with fail
  refine (packed_Pack.calls k c b s g 0 1 _ (Ld.below HL.out (by exact HB1.out)) e1.out).mono ?_
  rintro e w2 ⟨rfl, hb⟩
  have HB2 := Aside0.mk (below_step HB1.out hb)
  have KX_ := Aside0.mk (blk_below KX.out hb)
  clear KX
  have KX := KX_
  clear KX_
  clear hb
  try clear yX_1 yX_1a yX_1b xX_1_0 xX_1_1 xX_1_2 xX_1_3 xX_1_4
  have yX_2 : w.heap.size < w2.heap.size := blk_lt KX.out
  have yX_2a : (w.heap.size = w2.heap.size) = False := eq_false (Nat.ne_of_lt yX_2)
  have yX_2b : (w2.heap.size = w.heap.size) = False := eq_false (Nat.ne_of_gt yX_2)
  have xX_2_0 : w2.cell? ⟨w.heap.size, 0, none⟩ = some (.int .i64 k) := (blk_cell KX.out 0).trans rfl
  have xX_2_1 : w2.cell? ⟨w.heap.size, 1, none⟩ = some (.int .i64 c) := (blk_cell KX.out 1).trans rfl
  have xX_2_2 : w2.cell? ⟨w.heap.size, 2, none⟩ = some (.bool b) := (blk_cell KX.out 2).trans rfl
  have xX_2_3 : w2.cell? ⟨w.heap.size, 3, none⟩ = some (.int .i64 s) := (blk_cell KX.out 3).trans rfl
  have xX_2_4 : w2.cell? ⟨w.heap.size, 4, none⟩ = some (.int .i64 g) := (blk_cell KX.out 4).trans rfl
  go_wp2_with fail
  refine (packed_Unpack.calls 0 0 0 false 0 0 0 _ (Ld.below HL.out (by exact HB2.out)) e2.out).mono ?_
  rintro e w3 ⟨rfl, hb⟩
  have HB3 := Aside0.mk (below_step HB2.out hb)
  have KX_ := Aside0.mk (blk_below KX.out hb)
  clear KX
  have KX := KX_
  clear KX_
  clear hb
  try clear yX_2 yX_2a yX_2b xX_2_0 xX_2_1 xX_2_2 xX_2_3 xX_2_4
  have yX_3 : w.heap.size < w3.heap.size := blk_lt KX.out
  have yX_3a : (w.heap.size = w3.heap.size) = False := eq_false (Nat.ne_of_lt yX_3)
  have yX_3b : (w3.heap.size = w.heap.size) = False := eq_false (Nat.ne_of_gt yX_3)
  have xX_3_0 : w3.cell? ⟨w.heap.size, 0, none⟩ = some (.int .i64 k) := (blk_cell KX.out 0).trans rfl
  have xX_3_1 : w3.cell? ⟨w.heap.size, 1, none⟩ = some (.int .i64 c) := (blk_cell KX.out 1).trans rfl
  have xX_3_2 : w3.cell? ⟨w.heap.size, 2, none⟩ = some (.bool b) := (blk_cell KX.out 2).trans rfl
  have xX_3_3 : w3.cell? ⟨w.heap.size, 3, none⟩ = some (.int .i64 s) := (blk_cell KX.out 3).trans rfl
  have xX_3_4 : w3.cell? ⟨w.heap.size, 4, none⟩ = some (.int .i64 g) := (blk_cell KX.out 4).trans rfl
  go_wp2_with fail
  refine (packed_Unpack.calls a z0 z1 z2 z3 z4 0 _ (Ld.below HL.out (by exact (below_alloc HB3.out _))) E3.out).mono ?_
  rintro e w4 ⟨rfl, hb⟩
  have HB4 := Aside0.mk (below_step (below_alloc HB3.out _) hb)
  have Kn_Y : (w3.alloc (.cells #[.int .i64 0, .int .i64 0, .bool false, .int .i64 0, .int .i64 0] 23)).heap[w3.heap.size]? = some (.cells #[.int .i64 0, .int .i64 0, .bool false, .int .i64 0, .int .i64 0] 23 (0, 0)) := by have h_ := blk_new w3 (.cells #[.int .i64 0, .int .i64 0, .bool false, .int .i64 0, .int .i64 0] 23); simpa only [World.size_alloc] using h_
  have KX_ := Aside0.mk (blk_below (blk_alloc KX.out _) hb)
  have KY_ := Aside0.mk (blk_below Kn_Y hb)
  clear KX
  have KX := KX_
  clear KX_
  have KY := KY_
  clear KY_
  clear Kn_Y
  clear hb
  try clear yX_3 yX_3a yX_3b xX_3_0 xX_3_1 xX_3_2 xX_3_3 xX_3_4
  have yX_4 : w.heap.size < w4.heap.size := blk_lt KX.out
  have yX_4a : (w.heap.size = w4.heap.size) = False := eq_false (Nat.ne_of_lt yX_4)
  have yX_4b : (w4.heap.size = w.heap.size) = False := eq_false (Nat.ne_of_gt yX_4)
  have xX_4_0 : w4.cell? ⟨w.heap.size, 0, none⟩ = some (.int .i64 k) := (blk_cell KX.out 0).trans rfl
  have xX_4_1 : w4.cell? ⟨w.heap.size, 1, none⟩ = some (.int .i64 c) := (blk_cell KX.out 1).trans rfl
  have xX_4_2 : w4.cell? ⟨w.heap.size, 2, none⟩ = some (.bool b) := (blk_cell KX.out 2).trans rfl
  have xX_4_3 : w4.cell? ⟨w.heap.size, 3, none⟩ = some (.int .i64 s) := (blk_cell KX.out 3).trans rfl
  have xX_4_4 : w4.cell? ⟨w.heap.size, 4, none⟩ = some (.int .i64 g) := (blk_cell KX.out 4).trans rfl
  have yY_4 : w3.heap.size < w4.heap.size := blk_lt KY.out
  have yY_4a : (w3.heap.size = w4.heap.size) = False := eq_false (Nat.ne_of_lt yY_4)
  have yY_4b : (w4.heap.size = w3.heap.size) = False := eq_false (Nat.ne_of_gt yY_4)
  have xY_4_0 : w4.cell? ⟨w3.heap.size, 0, none⟩ = some (.int .i64 0) := (blk_cell KY.out 0).trans rfl
  have xY_4_1 : w4.cell? ⟨w3.heap.size, 1, none⟩ = some (.int .i64 0) := (blk_cell KY.out 1).trans rfl
  have xY_4_2 : w4.cell? ⟨w3.heap.size, 2, none⟩ = some (.bool false) := (blk_cell KY.out 2).trans rfl
  have xY_4_3 : w4.cell? ⟨w3.heap.size, 3, none⟩ = some (.int .i64 0) := (blk_cell KY.out 3).trans rfl
  have xY_4_4 : w4.cell? ⟨w3.heap.size, 4, none⟩ = some (.int .i64 0) := (blk_cell KY.out 4).trans rfl
  go_wp2_with fail
  refine (packed_Pack.calls z0 z1 z2 z3 z4 a 0 _ (Ld.below HL.out (by exact (below_alloc HB4.out _))) E4.out).mono ?_
  rintro e w5 ⟨rfl, hb⟩
  have HB5 := Aside0.mk (below_step (below_alloc HB4.out _) hb)
  have Kn_Q : (w4.alloc (.cells #[.int .i64 z0, .int .i64 z1, .bool z2, .int .i64 z3, .int .i64 z4] 23)).heap[w4.heap.size]? = some (.cells #[.int .i64 z0, .int .i64 z1, .bool z2, .int .i64 z3, .int .i64 z4] 23 (0, 0)) := by have h_ := blk_new w4 (.cells #[.int .i64 z0, .int .i64 z1, .bool z2, .int .i64 z3, .int .i64 z4] 23); simpa only [World.size_alloc] using h_
  have KX_ := Aside0.mk (blk_below (blk_alloc KX.out _) hb)
  have KY_ := Aside0.mk (blk_below (blk_alloc KY.out _) hb)
  have KQ_ := Aside0.mk (blk_below Kn_Q hb)
  clear KX
  have KX := KX_
  clear KX_
  clear KY
  have KY := KY_
  clear KY_
  have KQ := KQ_
  clear KQ_
  clear Kn_Q
  clear hb
  try clear yX_4 yX_4a yX_4b xX_4_0 xX_4_1 xX_4_2 xX_4_3 xX_4_4 yY_4 yY_4a yY_4b xY_4_0 xY_4_1 xY_4_2 xY_4_3 xY_4_4
  have yX_5 : w.heap.size < w5.heap.size := blk_lt KX.out
  have yX_5a : (w.heap.size = w5.heap.size) = False := eq_false (Nat.ne_of_lt yX_5)
  have yX_5b : (w5.heap.size = w.heap.size) = False := eq_false (Nat.ne_of_gt yX_5)
  have xX_5_0 : w5.cell? ⟨w.heap.size, 0, none⟩ = some (.int .i64 k) := (blk_cell KX.out 0).trans rfl
  have xX_5_1 : w5.cell? ⟨w.heap.size, 1, none⟩ = some (.int .i64 c) := (blk_cell KX.out 1).trans rfl
  have xX_5_2 : w5.cell? ⟨w.heap.size, 2, none⟩ = some (.bool b) := (blk_cell KX.out 2).trans rfl
  have xX_5_3 : w5.cell? ⟨w.heap.size, 3, none⟩ = some (.int .i64 s) := (blk_cell KX.out 3).trans rfl
  have xX_5_4 : w5.cell? ⟨w.heap.size, 4, none⟩ = some (.int .i64 g) := (blk_cell KX.out 4).trans rfl
  have yY_5 : w3.heap.size < w5.heap.size := blk_lt KY.out
  have yY_5a : (w3.heap.size = w5.heap.size) = False := eq_false (Nat.ne_of_lt yY_5)
  have yY_5b : (w5.heap.size = w3.heap.size) = False := eq_false (Nat.ne_of_gt yY_5)
  have xY_5_0 : w5.cell? ⟨w3.heap.size, 0, none⟩ = some (.int .i64 0) := (blk_cell KY.out 0).trans rfl
  have xY_5_1 : w5.cell? ⟨w3.heap.size, 1, none⟩ = some (.int .i64 0) := (blk_cell KY.out 1).trans rfl
  have xY_5_2 : w5.cell? ⟨w3.heap.size, 2, none⟩ = some (.bool false) := (blk_cell KY.out 2).trans rfl
  have xY_5_3 : w5.cell? ⟨w3.heap.size, 3, none⟩ = some (.int .i64 0) := (blk_cell KY.out 3).trans rfl
  have xY_5_4 : w5.cell? ⟨w3.heap.size, 4, none⟩ = some (.int .i64 0) := (blk_cell KY.out 4).trans rfl
  have yQ_5 : w4.heap.size < w5.heap.size := blk_lt KQ.out
  have yQ_5a : (w4.heap.size = w5.heap.size) = False := eq_false (Nat.ne_of_lt yQ_5)
  have yQ_5b : (w5.heap.size = w4.heap.size) = False := eq_false (Nat.ne_of_gt yQ_5)
  have xQ_5_0 : w5.cell? ⟨w4.heap.size, 0, none⟩ = some (.int .i64 z0) := (blk_cell KQ.out 0).trans rfl
  have xQ_5_1 : w5.cell? ⟨w4.heap.size, 1, none⟩ = some (.int .i64 z1) := (blk_cell KQ.out 1).trans rfl
  have xQ_5_2 : w5.cell? ⟨w4.heap.size, 2, none⟩ = some (.bool z2) := (blk_cell KQ.out 2).trans rfl
  have xQ_5_3 : w5.cell? ⟨w4.heap.size, 3, none⟩ = some (.int .i64 z3) := (blk_cell KQ.out 3).trans rfl
  have xQ_5_4 : w5.cell? ⟨w4.heap.size, 4, none⟩ = some (.int .i64 z4) := (blk_cell KQ.out 4).trans rfl
  go_wp2_with fail
  go_ret
  exact ⟨rfl, HB5.out⟩
set_option maxHeartbeats 4000000 in
set_option maxRecDepth 100000 in
theorem back_00 (k c : Int) (b : Bool) (s g a : Int) (w : World) (HLd : Ld w) (ha : u64 a) (h : ¬ packOk k c b s g) (h2 : ¬ (a < 288230376151711744 ∧ (a / 512 % 2 = 1 → a % 8 = 7))) :
    Calls Tryd.prog 6 #[.agg #[.int .i64 k, .int .i64 c, .bool b, .int .i64 s, .int .i64 g], .int .u64 a] w fun e w' => e = .returned (.bool true) ∧ Below w.heap.size w w' := by
  have HL := Aside0.mk HLd
  clear HLd
  have e1 := Aside0.mk (pack_no h)
  have e2 : Aside0 (packed_Unpack.f 0 = some (0, 0, false, 0, 0, 0)) := Aside0.mk rfl
  have e3 : packed_Unpack.f a = some (0, 0, false, 0, 0, 1) := by rw [unpack_eq ha]; unfold opened; rw [if_neg h2]
  have e4 : packed_Pack.f 0 0 false 0 0 = some (0, 0) := rfl
  have E3 := Aside0.mk e3
  have E4 := Aside0.mk e4
  clear e3 e4 h h2 ha
  go_enter Tryd.func6, Tryd.ntmps6
  go_wp2_with fail
  refine (turnspitlaw06_awake.calls true _ (Ld.below HL.out (by exact (below_alloc (Below.refl w.heap.size w) _))) rfl).mono ?_
  rintro e w1 ⟨rfl, hb⟩
  have HB1 := Aside0.mk (below_step (below_alloc (Below.refl w.heap.size w) _) hb)
  have Kn_X : (w.alloc (.cells #[.int .i64 k, .int .i64 c, .bool b, .int .i64 s, .int .i64 g] 23)).heap[w.heap.size]? = some (.cells #[.int .i64 k, .int .i64 c, .bool b, .int .i64 s, .int .i64 g] 23 (0, 0)) := by have h_ := blk_new w (.cells #[.int .i64 k, .int .i64 c, .bool b, .int .i64 s, .int .i64 g] 23); simpa only [World.size_alloc] using h_
  have KX_ := Aside0.mk (blk_below Kn_X hb)
  have KX := KX_
  clear KX_
  clear Kn_X
  clear hb
  have yX_1 : w.heap.size < w1.heap.size := blk_lt KX.out
  have yX_1a : (w.heap.size = w1.heap.size) = False := eq_false (Nat.ne_of_lt yX_1)
  have yX_1b : (w1.heap.size = w.heap.size) = False := eq_false (Nat.ne_of_gt yX_1)
  have xX_1_0 : w1.cell? ⟨w.heap.size, 0, none⟩ = some (.int .i64 k) := (blk_cell KX.out 0).trans rfl
  have xX_1_1 : w1.cell? ⟨w.heap.size, 1, none⟩ = some (.int .i64 c) := (blk_cell KX.out 1).trans rfl
  have xX_1_2 : w1.cell? ⟨w.heap.size, 2, none⟩ = some (.bool b) := (blk_cell KX.out 2).trans rfl
  have xX_1_3 : w1.cell? ⟨w.heap.size, 3, none⟩ = some (.int .i64 s) := (blk_cell KX.out 3).trans rfl
  have xX_1_4 : w1.cell? ⟨w.heap.size, 4, none⟩ = some (.int .i64 g) := (blk_cell KX.out 4).trans rfl
  go_wp2_with fail
  refine (packed_Pack.calls k c b s g 0 1 _ (Ld.below HL.out (by exact HB1.out)) e1.out).mono ?_
  rintro e w2 ⟨rfl, hb⟩
  have HB2 := Aside0.mk (below_step HB1.out hb)
  have KX_ := Aside0.mk (blk_below KX.out hb)
  clear KX
  have KX := KX_
  clear KX_
  clear hb
  try clear yX_1 yX_1a yX_1b xX_1_0 xX_1_1 xX_1_2 xX_1_3 xX_1_4
  have yX_2 : w.heap.size < w2.heap.size := blk_lt KX.out
  have yX_2a : (w.heap.size = w2.heap.size) = False := eq_false (Nat.ne_of_lt yX_2)
  have yX_2b : (w2.heap.size = w.heap.size) = False := eq_false (Nat.ne_of_gt yX_2)
  have xX_2_0 : w2.cell? ⟨w.heap.size, 0, none⟩ = some (.int .i64 k) := (blk_cell KX.out 0).trans rfl
  have xX_2_1 : w2.cell? ⟨w.heap.size, 1, none⟩ = some (.int .i64 c) := (blk_cell KX.out 1).trans rfl
  have xX_2_2 : w2.cell? ⟨w.heap.size, 2, none⟩ = some (.bool b) := (blk_cell KX.out 2).trans rfl
  have xX_2_3 : w2.cell? ⟨w.heap.size, 3, none⟩ = some (.int .i64 s) := (blk_cell KX.out 3).trans rfl
  have xX_2_4 : w2.cell? ⟨w.heap.size, 4, none⟩ = some (.int .i64 g) := (blk_cell KX.out 4).trans rfl
  go_wp2_with fail
  refine (packed_Unpack.calls 0 0 0 false 0 0 0 _ (Ld.below HL.out (by exact HB2.out)) e2.out).mono ?_
  rintro e w3 ⟨rfl, hb⟩
  have HB3 := Aside0.mk (below_step HB2.out hb)
  have KX_ := Aside0.mk (blk_below KX.out hb)
  clear KX
  have KX := KX_
  clear KX_
  clear hb
  try clear yX_2 yX_2a yX_2b xX_2_0 xX_2_1 xX_2_2 xX_2_3 xX_2_4
  have yX_3 : w.heap.size < w3.heap.size := blk_lt KX.out
  have yX_3a : (w.heap.size = w3.heap.size) = False := eq_false (Nat.ne_of_lt yX_3)
  have yX_3b : (w3.heap.size = w.heap.size) = False := eq_false (Nat.ne_of_gt yX_3)
  have xX_3_0 : w3.cell? ⟨w.heap.size, 0, none⟩ = some (.int .i64 k) := (blk_cell KX.out 0).trans rfl
  have xX_3_1 : w3.cell? ⟨w.heap.size, 1, none⟩ = some (.int .i64 c) := (blk_cell KX.out 1).trans rfl
  have xX_3_2 : w3.cell? ⟨w.heap.size, 2, none⟩ = some (.bool b) := (blk_cell KX.out 2).trans rfl
  have xX_3_3 : w3.cell? ⟨w.heap.size, 3, none⟩ = some (.int .i64 s) := (blk_cell KX.out 3).trans rfl
  have xX_3_4 : w3.cell? ⟨w.heap.size, 4, none⟩ = some (.int .i64 g) := (blk_cell KX.out 4).trans rfl
  go_wp2_with fail
  refine (packed_Unpack.calls a 0 0 false 0 0 1 _ (Ld.below HL.out (by exact (below_alloc HB3.out _))) E3.out).mono ?_
  rintro e w4 ⟨rfl, hb⟩
  have HB4 := Aside0.mk (below_step (below_alloc HB3.out _) hb)
  have Kn_Y : (w3.alloc (.cells #[.int .i64 0, .int .i64 0, .bool false, .int .i64 0, .int .i64 0] 23)).heap[w3.heap.size]? = some (.cells #[.int .i64 0, .int .i64 0, .bool false, .int .i64 0, .int .i64 0] 23 (0, 0)) := by have h_ := blk_new w3 (.cells #[.int .i64 0, .int .i64 0, .bool false, .int .i64 0, .int .i64 0] 23); simpa only [World.size_alloc] using h_
  have KX_ := Aside0.mk (blk_below (blk_alloc KX.out _) hb)
  have KY_ := Aside0.mk (blk_below Kn_Y hb)
  clear KX
  have KX := KX_
  clear KX_
  have KY := KY_
  clear KY_
  clear Kn_Y
  clear hb
  try clear yX_3 yX_3a yX_3b xX_3_0 xX_3_1 xX_3_2 xX_3_3 xX_3_4
  have yX_4 : w.heap.size < w4.heap.size := blk_lt KX.out
  have yX_4a : (w.heap.size = w4.heap.size) = False := eq_false (Nat.ne_of_lt yX_4)
  have yX_4b : (w4.heap.size = w.heap.size) = False := eq_false (Nat.ne_of_gt yX_4)
  have xX_4_0 : w4.cell? ⟨w.heap.size, 0, none⟩ = some (.int .i64 k) := (blk_cell KX.out 0).trans rfl
  have xX_4_1 : w4.cell? ⟨w.heap.size, 1, none⟩ = some (.int .i64 c) := (blk_cell KX.out 1).trans rfl
  have xX_4_2 : w4.cell? ⟨w.heap.size, 2, none⟩ = some (.bool b) := (blk_cell KX.out 2).trans rfl
  have xX_4_3 : w4.cell? ⟨w.heap.size, 3, none⟩ = some (.int .i64 s) := (blk_cell KX.out 3).trans rfl
  have xX_4_4 : w4.cell? ⟨w.heap.size, 4, none⟩ = some (.int .i64 g) := (blk_cell KX.out 4).trans rfl
  have yY_4 : w3.heap.size < w4.heap.size := blk_lt KY.out
  have yY_4a : (w3.heap.size = w4.heap.size) = False := eq_false (Nat.ne_of_lt yY_4)
  have yY_4b : (w4.heap.size = w3.heap.size) = False := eq_false (Nat.ne_of_gt yY_4)
  have xY_4_0 : w4.cell? ⟨w3.heap.size, 0, none⟩ = some (.int .i64 0) := (blk_cell KY.out 0).trans rfl
  have xY_4_1 : w4.cell? ⟨w3.heap.size, 1, none⟩ = some (.int .i64 0) := (blk_cell KY.out 1).trans rfl
  have xY_4_2 : w4.cell? ⟨w3.heap.size, 2, none⟩ = some (.bool false) := (blk_cell KY.out 2).trans rfl
  have xY_4_3 : w4.cell? ⟨w3.heap.size, 3, none⟩ = some (.int .i64 0) := (blk_cell KY.out 3).trans rfl
  have xY_4_4 : w4.cell? ⟨w3.heap.size, 4, none⟩ = some (.int .i64 0) := (blk_cell KY.out 4).trans rfl
  go_wp2_with fail
  refine (packed_Pack.calls 0 0 false 0 0 0 0 _ (Ld.below HL.out (by exact (below_alloc HB4.out _))) E4.out).mono ?_
  rintro e w5 ⟨rfl, hb⟩
  have HB5 := Aside0.mk (below_step (below_alloc HB4.out _) hb)
  have Kn_Q : (w4.alloc (.cells #[.int .i64 0, .int .i64 0, .bool false, .int .i64 0, .int .i64 0] 23)).heap[w4.heap.size]? = some (.cells #[.int .i64 0, .int .i64 0, .bool false, .int .i64 0, .int .i64 0] 23 (0, 0)) := by have h_ := blk_new w4 (.cells #[.int .i64 0, .int .i64 0, .bool false, .int .i64 0, .int .i64 0] 23); simpa only [World.size_alloc] using h_
  have KX_ := Aside0.mk (blk_below (blk_alloc KX.out _) hb)
  have KY_ := Aside0.mk (blk_below (blk_alloc KY.out _) hb)
  have KQ_ := Aside0.mk (blk_below Kn_Q hb)
  clear KX
  have KX := KX_
  clear KX_
  clear KY
  have KY := KY_
  clear KY_
  have KQ := KQ_
  clear KQ_
  clear Kn_Q
  clear hb
  try clear yX_4 yX_4a yX_4b xX_4_0 xX_4_1 xX_4_2 xX_4_3 xX_4_4 yY_4 yY_4a yY_4b xY_4_0 xY_4_1 xY_4_2 xY_4_3 xY_4_4
  have yX_5 : w.heap.size < w5.heap.size := blk_lt KX.out
  have yX_5a : (w.heap.size = w5.heap.size) = False := eq_false (Nat.ne_of_lt yX_5)
  have yX_5b : (w5.heap.size = w.heap.size) = False := eq_false (Nat.ne_of_gt yX_5)
  have xX_5_0 : w5.cell? ⟨w.heap.size, 0, none⟩ = some (.int .i64 k) := (blk_cell KX.out 0).trans rfl
  have xX_5_1 : w5.cell? ⟨w.heap.size, 1, none⟩ = some (.int .i64 c) := (blk_cell KX.out 1).trans rfl
  have xX_5_2 : w5.cell? ⟨w.heap.size, 2, none⟩ = some (.bool b) := (blk_cell KX.out 2).trans rfl
  have xX_5_3 : w5.cell? ⟨w.heap.size, 3, none⟩ = some (.int .i64 s) := (blk_cell KX.out 3).trans rfl
  have xX_5_4 : w5.cell? ⟨w.heap.size, 4, none⟩ = some (.int .i64 g) := (blk_cell KX.out 4).trans rfl
  have yY_5 : w3.heap.size < w5.heap.size := blk_lt KY.out
  have yY_5a : (w3.heap.size = w5.heap.size) = False := eq_false (Nat.ne_of_lt yY_5)
  have yY_5b : (w5.heap.size = w3.heap.size) = False := eq_false (Nat.ne_of_gt yY_5)
  have xY_5_0 : w5.cell? ⟨w3.heap.size, 0, none⟩ = some (.int .i64 0) := (blk_cell KY.out 0).trans rfl
  have xY_5_1 : w5.cell? ⟨w3.heap.size, 1, none⟩ = some (.int .i64 0) := (blk_cell KY.out 1).trans rfl
  have xY_5_2 : w5.cell? ⟨w3.heap.size, 2, none⟩ = some (.bool false) := (blk_cell KY.out 2).trans rfl
  have xY_5_3 : w5.cell? ⟨w3.heap.size, 3, none⟩ = some (.int .i64 0) := (blk_cell KY.out 3).trans rfl
  have xY_5_4 : w5.cell? ⟨w3.heap.size, 4, none⟩ = some (.int .i64 0) := (blk_cell KY.out 4).trans rfl
  have yQ_5 : w4.heap.size < w5.heap.size := blk_lt KQ.out
  have yQ_5a : (w4.heap.size = w5.heap.size) = False := eq_false (Nat.ne_of_lt yQ_5)
  have yQ_5b : (w5.heap.size = w4.heap.size) = False := eq_false (Nat.ne_of_gt yQ_5)
  have xQ_5_0 : w5.cell? ⟨w4.heap.size, 0, none⟩ = some (.int .i64 0) := (blk_cell KQ.out 0).trans rfl
  have xQ_5_1 : w5.cell? ⟨w4.heap.size, 1, none⟩ = some (.int .i64 0) := (blk_cell KQ.out 1).trans rfl
  have xQ_5_2 : w5.cell? ⟨w4.heap.size, 2, none⟩ = some (.bool false) := (blk_cell KQ.out 2).trans rfl
  have xQ_5_3 : w5.cell? ⟨w4.heap.size, 3, none⟩ = some (.int .i64 0) := (blk_cell KQ.out 3).trans rfl
  have xQ_5_4 : w5.cell? ⟨w4.heap.size, 4, none⟩ = some (.int .i64 0) := (blk_cell KQ.out 4).trans rfl
  go_wp2_with fail
  go_ret
  exact ⟨rfl, HB5.out⟩
theorem Walk.PackedBack (k : Int) (_ : (Lit.int .i64 k).wf = true) (c : Int) (_ : (Lit.int .i64 c).wf = true) (b : Bool) (s : Int) (_ : (Lit.int .i64 s).wf = true) (g : Int) (_ : (Lit.int .i64 g).wf = true) (a : Int) (ha : (Lit.int .u64 a).wf = true) (w : World) (HLd : Ld w) :
    Calls Tryd.prog 6 #[.agg #[.int .i64 k, .int .i64 c, .bool b, .int .i64 s, .int .i64 g], .int .u64 a] w fun e w' => e = .returned (.bool true) ∧ Below w.heap.size w w' := by
  by_cases h : packOk k c b s g <;> by_cases h2 : (a < 288230376151711744 ∧ (a / 512 % 2 = 1 → a % 8 = 7))
  · exact back_11 k c b s g a w HLd (u64_of ha) h h2
  · exact back_10 k c b s g a w HLd (u64_of ha) h h2
  · exact back_01 k c b s g a w HLd (u64_of ha) h h2
  · exact back_00 k c b s g a w HLd (u64_of ha) h h2
end Go.Proofs.YtnojbmiodoefmaaDoor

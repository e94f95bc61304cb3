/- PackedMade: the walk. -/
import Derived.Test.YtnojbmiodoefmaaDoorPureBase
import Derived.Test.YtnojbmiodoefmaaDoorPureState
import Derived.Test.YtnojbmiodoefmaaDoorGQ
import Derived.Test.YtnojbmiodoefmaaDoorPrintE1
namespace Go.Proofs.YtnojbmiodoefmaaDoor
open Go.RowKit Go.Proofs.YtnojbmiodoefmaaDoor.Given Go.Proofs.YtnojbmiodoefmaaDoor.Print Go.Proofs.YtnojbmiodoefmaaDoor.Pure Go.Proofs.YtnojbmiodoefmaaDoorW.PrintWords
set_option linter.unusedVariables false
set_option linter.unusedSimpArgs false
attribute [local go_sem high] eqA23
set_option maxHeartbeats 4000000 in
set_option maxRecDepth 100000 in
theorem made_walk (n : Int) (b : Bool) (m : Int) (z0 z1 : Int) (z2 : Bool) (z3 z4 W m0 m1 V : Int) (w : World) (HLd : Ld w) (hn : 0 ≤ n) (hm : 0 ≤ m) (hm1 : m < 65536)
    (s1 : turnspitlaw06_state.f n b = some (z0, z1, z2, z3, z4)) (s2 : packed_Pack.f z0 z1 z2 z3 z4 = some (W, 0)) (s3 : packed_Kind.f W = some z0) (s4 : packed_Cpu.f W = some z1) (s5 : packed_Gen.f W = some z4)
    (s6 : packed_Put.f W (m % 8) (m / 8 % 64) = some (V, 0)) (s7 : packed_Unpack.f V = some (m % 8, m / 8 % 64, false, z3, z4, 0)) :
    Calls Tryd.prog 7 #[.int .u64 n, .bool b, .int .u16 m] w fun e w' => e = .returned (.bool true) ∧ Below w.heap.size w w' := by
  have HL := Aside0.mk HLd
  clear HLd
  have S1 := Aside0.mk s1
  clear s1
  have S2 := Aside0.mk s2
  clear s2
  have S3 := Aside0.mk s3
  clear s3
  have S4 := Aside0.mk s4
  clear s4
  have S5 := Aside0.mk s5
  clear s5
  have S6 := Aside0.mk s6
  clear s6
  have S7 := Aside0.mk s7
  clear s7
  go_enter Tryd.func7, Tryd.ntmps7
  go_wp2_with fail
  refine (turnspitlaw06_awake.calls true _ HL.out rfl).mono ?_
  rintro e w1 ⟨rfl, hb⟩
  have HB1 := Aside0.mk (below_step (Below.refl w.heap.size w) hb)
  clear hb
  go_wp2_with fail
  refine (turnspitlaw06_state.calls n b z0 z1 z2 z3 z4 _ (Ld.below HL.out (by exact HB1.out)) S1.out).mono ?_
  rintro e w2 ⟨rfl, hb⟩
  have HB2 := Aside0.mk (below_step HB1.out hb)
  clear hb
  go_wp2_with fail
  refine (packed_Pack.calls z0 z1 z2 z3 z4 W 0 _ (Ld.below HL.out (by exact (below_alloc HB2.out _))) S2.out).mono ?_
  rintro e w3 ⟨rfl, hb⟩
  have HB3 := Aside0.mk (below_step (below_alloc HB2.out _) hb)
  have Kn_X : (w2.alloc (.cells #[.int .i64 z0, .int .i64 z1, .bool z2, .int .i64 z3, .int .i64 z4] 23)).heap[w2.heap.size]? = some (.cells #[.int .i64 z0, .int .i64 z1, .bool z2, .int .i64 z3, .int .i64 z4] 23 (0, 0)) := by have h_ := blk_new w2 (.cells #[.int .i64 z0, .int .i64 z1, .bool z2, .int .i64 z3, .int .i64 z4] 23); simpa only [World.size_alloc] using h_
  have KX_ := Aside0.mk (blk_below Kn_X hb)
  have KX := KX_
  clear KX_
  clear Kn_X
  clear hb
  have yX_3 : w2.heap.size < w3.heap.size := blk_lt KX.out
  have yX_3a : (w2.heap.size = w3.heap.size) = False := eq_false (Nat.ne_of_lt yX_3)
  have yX_3b : (w3.heap.size = w2.heap.size) = False := eq_false (Nat.ne_of_gt yX_3)
  have xX_3_0 : w3.cell? ⟨w2.heap.size, 0, none⟩ = some (.int .i64 z0) := (blk_cell KX.out 0).trans rfl
  have xX_3_1 : w3.cell? ⟨w2.heap.size, 1, none⟩ = some (.int .i64 z1) := (blk_cell KX.out 1).trans rfl
  have xX_3_2 : w3.cell? ⟨w2.heap.size, 2, none⟩ = some (.bool z2) := (blk_cell KX.out 2).trans rfl
  have xX_3_3 : w3.cell? ⟨w2.heap.size, 3, none⟩ = some (.int .i64 z3) := (blk_cell KX.out 3).trans rfl
  have xX_3_4 : w3.cell? ⟨w2.heap.size, 4, none⟩ = some (.int .i64 z4) := (blk_cell KX.out 4).trans rfl
  have HLq_nq : Aside0 (Ld w3) := Aside0.mk (Ld.below HL.out (by exact HB3.out))
  go_wp2_with fail
  go_quiet ((first | (go_at_call 15; exact Calls.quiet_of (packed_Kind.quiet W z0 _ (Ld.drewN HLq_nq.out _) S3.out)) | (go_at_call 17; exact Calls.quiet_of (packed_Cpu.quiet W z1 _ (Ld.drewN HLq_nq.out _) S4.out)) | (go_at_call 19; exact Calls.quiet_of (packed_Gen.quiet W z4 _ (Ld.drewN HLq_nq.out _) S5.out))))
  have HB3q_nq := Aside0.mk (pw_below_drewN HB3.out nq)
  have KX_ := Aside0.mk (blk_drewN KX.out nq)
  clear KX
  have KX := KX_
  clear KX_
  go_wp2_with fail
  refine (packed_Put.calls W (m % 8) (m / 8 % 64) V 0 _ (Ld.below HL.out (by exact HB3q_nq.out)) S6.out).mono ?_
  rintro e w4 ⟨rfl, hb⟩
  have HB4 := Aside0.mk (below_step HB3q_nq.out hb)
  have KX_ := Aside0.mk (blk_below KX.out hb)
  clear KX
  have KX := KX_
  clear KX_
  clear hb
  try clear yX_3 yX_3a yX_3b xX_3_0 xX_3_1 xX_3_2 xX_3_3 xX_3_4
  have yX_4 : w2.heap.size < w4.heap.size := blk_lt KX.out
  have yX_4a : (w2.heap.size = w4.heap.size) = False := eq_false (Nat.ne_of_lt yX_4)
  have yX_4b : (w4.heap.size = w2.heap.size) = False := eq_false (Nat.ne_of_gt yX_4)
  have xX_4_0 : w4.cell? ⟨w2.heap.size, 0, none⟩ = some (.int .i64 z0) := (blk_cell KX.out 0).trans rfl
  have xX_4_1 : w4.cell? ⟨w2.heap.size, 1, none⟩ = some (.int .i64 z1) := (blk_cell KX.out 1).trans rfl
  have xX_4_2 : w4.cell? ⟨w2.heap.size, 2, none⟩ = some (.bool z2) := (blk_cell KX.out 2).trans rfl
  have xX_4_3 : w4.cell? ⟨w2.heap.size, 3, none⟩ = some (.int .i64 z3) := (blk_cell KX.out 3).trans rfl
  have xX_4_4 : w4.cell? ⟨w2.heap.size, 4, none⟩ = some (.int .i64 z4) := (blk_cell KX.out 4).trans rfl
  go_wp2_with fail
  refine (packed_Unpack.calls V (m % 8) (m / 8 % 64) false z3 z4 0 _ (Ld.below HL.out (by exact HB4.out)) S7.out).mono ?_
  rintro e w5 ⟨rfl, hb⟩
  have HB5 := Aside0.mk (below_step HB4.out hb)
  have KX_ := Aside0.mk (blk_below KX.out hb)
  clear KX
  have KX := KX_
  clear KX_
  clear hb
  try clear yX_4 yX_4a yX_4b xX_4_0 xX_4_1 xX_4_2 xX_4_3 xX_4_4
  have yX_5 : w2.heap.size < w5.heap.size := blk_lt KX.out
  have yX_5a : (w2.heap.size = w5.heap.size) = False := eq_false (Nat.ne_of_lt yX_5)
  have yX_5b : (w5.heap.size = w2.heap.size) = False := eq_false (Nat.ne_of_gt yX_5)
  have xX_5_0 : w5.cell? ⟨w2.heap.size, 0, none⟩ = some (.int .i64 z0) := (blk_cell KX.out 0).trans rfl
  have xX_5_1 : w5.cell? ⟨w2.heap.size, 1, none⟩ = some (.int .i64 z1) := (blk_cell KX.out 1).trans rfl
  have xX_5_2 : w5.cell? ⟨w2.heap.size, 2, none⟩ = some (.bool z2) := (blk_cell KX.out 2).trans rfl
  have xX_5_3 : w5.cell? ⟨w2.heap.size, 3, none⟩ = some (.int .i64 z3) := (blk_cell KX.out 3).trans rfl
  have xX_5_4 : w5.cell? ⟨w2.heap.size, 4, none⟩ = some (.int .i64 z4) := (blk_cell KX.out 4).trans rfl
  go_wp2_with fail
  go_ret
  exact ⟨rfl, by repeat (first | exact (below_alloc HB5.out _) | apply below_alloc | apply pw_below_drewN)⟩
theorem Walk.PackedMade (n : Int) (hn : (Lit.int .u64 n).wf = true) (b : Bool) (m : Int) (hm : (Lit.int .u16 m).wf = true) (w : World) (HLd : Ld w) :
    Calls Tryd.prog 7 #[.int .u64 n, .bool b, .int .u16 m] w fun e w' => e = .returned (.bool true) ∧ Below w.heap.size w w' := by
  have hn := u64_of hn
  have hm : 0 ≤ m ∧ m < 65536 := by
    simp [Lit.wf, IntKind.min, IntKind.max, IntKind.signed, IntKind.bits] at hm
    omega
  have hw := state_ok (n := n) b
  have hu := word_u64 hw
  have ho := opened_word hw
  have hp := pack_ok hw
  generalize wordOf (n % 8) (n / 8 % 64) (b && n % 8 == 7) (n / 512 % 65536) (n / 33554432 % 4294967296) = W at hu ho hp
  have hop := ho
  unfold opened at ho
  split at ho
  · rename_i hc
    simp only [Prod.mk.injEq] at ho
    obtain ⟨h0, h1, h2, h3, h4, _⟩ := ho
    have hq : packOk (m % 8) (m / 8 % 64) false (n / 512 % 65536) (n / 33554432 % 4294967296) := by
      refine ⟨fun h => absurd h (by decide), ?_, ?_, ?_, ?_⟩ <;> omega
    refine made_walk n b m _ _ _ _ _ W 0 0 _ w HLd hn.1 hm.1 hm.2 (state_eq hn b) hp ?_ ?_ ?_ ?_ ((unpack_eq (word_u64 hq).1).trans (congrArg some (opened_word hq)))
    · rw [kind_eq hu.1, h0]
    · rw [cpu_eq hu.1, h1]
    · rw [gen_eq hu.1, h4]
    · unfold packed_Put.f
      rw [unpack_eq hu.1, hop]
      simp only [Option.bind_some]
      rw [if_pos trivial, pack_ok hq]
      rfl
  · simp at ho
end Go.Proofs.YtnojbmiodoefmaaDoor

-- Written for this claim by a program out of the translation. Lean checks it.
import Derived.Test.YtdchbcpfciljoaaDoorPrint0
import Derived.Test.YtdchbcpfciljoaaDoorPrintS
import Derived.Test.YtdchbcpfciljoaaDoorG1
namespace Go.Proofs.YtdchbcpfciljoaaDoor.Print
open Go.RowKit Go.Proofs.YtdchbcpfciljoaaDoor Go.Proofs.YtdchbcpfciljoaaDoor.Given Go.Proofs.YtdchbcpfciljoaaDoorW.PrintWords Go.Proofs.YtdchbcpfciljoaaDoorW.PrintLast Go.Proofs.YtdchbcpfciljoaaDoorW.PrintMore
attribute [local go_sem] max2_int min2_int max_two min_two max_three min_three max_four min_four   -- for this text's walks alone
set_option linter.unusedVariables false
set_option linter.unusedSimpArgs false

/-! ### packed_Unpack: function 57 -/
def packed_Unpack.f (a0 : Int) : Option (Int × Int × Bool × Int × Int × Int) := (packed_Kind.f a0).bind fun t332 => ((packed_Cpu.f a0).bind fun t333 => ((packed_part.f a0 2).bind fun t334 => ((packed_part.f a0 3).bind fun t335 => ((packed_Gen.f a0).bind fun t336 => (if (a0 / 288230376151711744) = 0 then (if t334 = 1 then (if t332 = 7 then (some (t332, t333, (t334 == 1), t335, t336, 0)) else (some (0, 0, false, 0, 0, 1))) else (some (t332, t333, (t334 == 1), t335, t336, 0))) else (some (0, 0, false, 0, 0, 1)))))))
set_option maxHeartbeats 8000000 in
set_option maxRecDepth 100000 in
theorem packed_Unpack.calls (a0 : Int) (r1 : Int) (r2 : Int) (r3 : Bool) (r4 : Int) (r5 : Int) (r6 : Int) (w : World) (HLd : Ld w) (h : packed_Unpack.f a0 = some (r1, r2, r3, r4, r5, r6)) :
    Calls Tryd.prog 57 #[.int .u64 a0] w fun e w' => e = .returned (.tuple #[.agg #[.int .i64 r1, .int .i64 r2, .bool r3, .int .i64 r4, .int .i64 r5], .int .i64 r6]) ∧ Below w.heap.size w w' := by
  have hu77 := Tryd.underlying77
  have HL := Aside0.mk HLd
  clear HLd
  unfold packed_Unpack.f at h
  have H := h
  clear h
  obtain ⟨t1, A1_, H⟩ := Option.bind_eq_some_iff.1 H
  have A1 := Aside0.mk A1_
  clear A1_
  obtain ⟨t2, A2_, H⟩ := Option.bind_eq_some_iff.1 H
  have A2 := Aside0.mk A2_
  clear A2_
  obtain ⟨t3, A3_, H⟩ := Option.bind_eq_some_iff.1 H
  have A3 := Aside0.mk A3_
  clear A3_
  obtain ⟨t4, A4_, H⟩ := Option.bind_eq_some_iff.1 H
  have A4 := Aside0.mk A4_
  clear A4_
  obtain ⟨t5, A5_, H⟩ := Option.bind_eq_some_iff.1 H
  have A5 := Aside0.mk A5_
  clear A5_
  go_enter Tryd.func57, Tryd.ntmps57
  go_wp2_with fail
  refine (packed_Kind.calls a0 t1 _ (Ld.below HL.out (by exact (below_alloc (Below.refl w.heap.size w) _))) A1.out).mono ?_
  rintro e w1 ⟨rfl, hb⟩
  have HB1 := Aside0.mk (below_step (below_alloc (Below.refl w.heap.size w) _) hb)
  have Kn_O : (w.alloc (.cells #[.int .i64 0, .int .i64 0, .bool false, .int .i64 0, .int .i64 0] 77)).heap[w.heap.size]? = some (.cells #[.int .i64 0, .int .i64 0, .bool false, .int .i64 0, .int .i64 0] 77 (0, 0)) := by have h_ := blk_new w (.cells #[.int .i64 0, .int .i64 0, .bool false, .int .i64 0, .int .i64 0] 77); simpa only [World.size_alloc] using h_
  have KO_ := Aside0.mk (blk_below Kn_O hb)
  have KO := KO_
  clear KO_
  clear Kn_O
  clear hb
  generalize hgO : w.heap.size = gO at KO ⊢
  have bO : Aside0 (w.heap.size ≤ gO) := ⟨by have h_ := ((Below.refl w.heap.size w) : Below w.heap.size w w).size; omega⟩
  clear hgO
  go_wp2_with fail
  refine (packed_Cpu.calls a0 t2 _ (Ld.below HL.out (by exact HB1.out)) A2.out).mono ?_
  rintro e w2 ⟨rfl, hb⟩
  have HB2 := Aside0.mk (below_step HB1.out hb)
  have KO_ := Aside0.mk (blk_below KO.out hb)
  clear KO
  have KO := KO_
  clear KO_
  clear hb
  go_wp2_with fail
  refine (packed_part.calls a0 2 t3 _ (Ld.below HL.out (by exact HB2.out)) A3.out).mono ?_
  rintro e w3 ⟨rfl, hb⟩
  have HB3 := Aside0.mk (below_step HB2.out hb)
  have KO_ := Aside0.mk (blk_below KO.out hb)
  clear KO
  have KO := KO_
  clear KO_
  clear hb
  go_wp2_with fail
  refine (packed_part.calls a0 3 t4 _ (Ld.below HL.out (by exact HB3.out)) A4.out).mono ?_
  rintro e w4 ⟨rfl, hb⟩
  have HB4 := Aside0.mk (below_step HB3.out hb)
  have KO_ := Aside0.mk (blk_below KO.out hb)
  clear KO
  have KO := KO_
  clear KO_
  clear hb
  go_wp2_with fail
  refine (packed_Gen.calls a0 t5 _ (Ld.below HL.out (by exact HB4.out)) A5.out).mono ?_
  rintro e w5 ⟨rfl, hb⟩
  have HB5 := Aside0.mk (below_step HB4.out hb)
  have KO_ := Aside0.mk (blk_below KO.out hb)
  clear KO
  have KO := KO_
  clear KO_
  clear hb
  have yO_5 : gO < w5.heap.size := blk_lt KO.out
  have yO_5z0 : (gO = w5.heap.size) = False := eq_false (by omega)
  have yO_5z1 : (w5.heap.size = gO) = False := eq_false (by omega)
  have yO_5z2 : (gO = w5.heap.size + 1) = False := eq_false (by omega)
  have yO_5z3 : (w5.heap.size + 1 = gO) = False := eq_false (by omega)
  have xO_5_0 : w5.cell? ⟨gO, 0, none⟩ = some (.int .i64 0) := (blk_cell KO.out 0).trans rfl
  have xO_5_0f := blk_frozen KO.out 0
  have xO_5_1 : w5.cell? ⟨gO, 1, none⟩ = some (.int .i64 0) := (blk_cell KO.out 1).trans rfl
  have xO_5_1f := blk_frozen KO.out 1
  have xO_5_2 : w5.cell? ⟨gO, 2, none⟩ = some (.bool false) := (blk_cell KO.out 2).trans rfl
  have xO_5_2f := blk_frozen KO.out 2
  have xO_5_3 : w5.cell? ⟨gO, 3, none⟩ = some (.int .i64 0) := (blk_cell KO.out 3).trans rfl
  have xO_5_3f := blk_frozen KO.out 3
  have xO_5_4 : w5.cell? ⟨gO, 4, none⟩ = some (.int .i64 0) := (blk_cell KO.out 4).trans rfl
  have xO_5_4f := blk_frozen KO.out 4
  by_cases c1 : (a0 / 288230376151711744) = 0
  · rw [if_pos c1] at H
    have c1b : ((a0 / 288230376151711744) == 0) = true := beq_iff_eq.mpr c1
    have c1d : ((a0 / 288230376151711744) != 0) = false := bne_eq_false_iff_eq.mpr c1
    clear c1
    by_cases c2 : t3 = 1
    · rw [if_pos c2] at H
      have c2b : (t3 == 1) = true := beq_iff_eq.mpr c2
      clear c2
      by_cases c3 : t1 = 7
      · rw [if_pos c3] at H
        have c3b : (t1 != 7) = false := bne_eq_false_iff_eq.mpr c3
        clear c3
        simp only [Option.some.injEq, Prod.mk.injEq] at H
        obtain ⟨rfl, rfl, rfl, rfl, rfl, rfl⟩ := H
        go_wp2_with fail
        refine bodyPost_ret (results_ct rfl _ _ gO 77 #[.int .i64 t1, .int .i64 t2, .bool true, .int .i64 t4, .int .i64 t5] (0, 0) _ rfl (blk_alloc (blk_put (blk_put (blk_put (blk_put (blk_put KO.out 0 (.int .i64 t1) rfl) 1 (.int .i64 t2) rfl) 2 (.bool true) rfl) 3 (.int .i64 t4) rfl) 4 (.int .i64 t5) rfl) _) Tryd.underlying77 rfl (by kernel_rfl)) rfl ?_
        exact ⟨by rw [c2b] <;> rfl, by repeat (with_reducible first | exact HB5.out | apply below_alloc | refine below_set ?_ bO.out)⟩
      · rw [if_neg c3] at H
        have c3b : (t1 != 7) = true := bne_iff_ne.mpr c3
        clear c3
        simp only [Option.some.injEq, Prod.mk.injEq] at H
        obtain ⟨rfl, rfl, rfl, rfl, rfl, rfl⟩ := H
        go_wp2_with fail
        refine bodyPost_ret (results_ct rfl _ _ gO 77 #[.int .i64 0, .int .i64 0, .bool false, .int .i64 0, .int .i64 0] (0, 0) _ rfl (blk_alloc (blk_put (blk_put (blk_put (blk_put (blk_put KO.out 0 (.int .i64 0) rfl) 1 (.int .i64 0) rfl) 2 (.bool false) rfl) 3 (.int .i64 0) rfl) 4 (.int .i64 0) rfl) _) Tryd.underlying77 rfl (by kernel_rfl)) rfl ?_
        exact ⟨rfl, by repeat (with_reducible first | exact HB5.out | apply below_alloc | refine below_set ?_ bO.out)⟩
    · rw [if_neg c2] at H
      have c2b : (t3 == 1) = false := beq_eq_false_iff_ne.mpr c2
      clear c2
      simp only [Option.some.injEq, Prod.mk.injEq] at H
      obtain ⟨rfl, rfl, rfl, rfl, rfl, rfl⟩ := H
      go_wp2_with fail
      refine bodyPost_ret (results_ct rfl _ _ gO 77 #[.int .i64 t1, .int .i64 t2, .bool false, .int .i64 t4, .int .i64 t5] (0, 0) _ rfl (blk_alloc (blk_put (blk_put (blk_put (blk_put (blk_put KO.out 0 (.int .i64 t1) rfl) 1 (.int .i64 t2) rfl) 2 (.bool false) rfl) 3 (.int .i64 t4) rfl) 4 (.int .i64 t5) rfl) _) Tryd.underlying77 rfl (by kernel_rfl)) rfl ?_
      exact ⟨by rw [c2b] <;> rfl, by repeat (with_reducible first | exact HB5.out | apply below_alloc | refine below_set ?_ bO.out)⟩
  · rw [if_neg c1] at H
    have c1b : ((a0 / 288230376151711744) == 0) = false := beq_eq_false_iff_ne.mpr c1
    have c1d : ((a0 / 288230376151711744) != 0) = true := bne_iff_ne.mpr c1
    clear c1
    simp only [Option.some.injEq, Prod.mk.injEq] at H
    obtain ⟨rfl, rfl, rfl, rfl, rfl, rfl⟩ := H
    go_wp2_with fail
    refine bodyPost_ret (results_ct rfl _ _ gO 77 #[.int .i64 0, .int .i64 0, .bool false, .int .i64 0, .int .i64 0] (0, 0) _ rfl (blk_alloc (blk_put (blk_put (blk_put (blk_put (blk_put KO.out 0 (.int .i64 0) rfl) 1 (.int .i64 0) rfl) 2 (.bool false) rfl) 3 (.int .i64 0) rfl) 4 (.int .i64 0) rfl) _) Tryd.underlying77 rfl (by kernel_rfl)) rfl ?_
    exact ⟨rfl, by repeat (with_reducible first | exact HB5.out | apply below_alloc | refine below_set ?_ bO.out)⟩

end Go.Proofs.YtdchbcpfciljoaaDoor.Print

-- Written for this claim by a program out of the translation. Lean checks it.
import Derived.Test.YtdchbcpfciljoaaDoorPrint0
import Derived.Test.YtdchbcpfciljoaaDoorPrintE
import Derived.Test.YtdchbcpfciljoaaDoorPrintS
import Derived.Test.YtdchbcpfciljoaaDoorPrintF56
namespace Go.Proofs.YtdchbcpfciljoaaDoor.Print
open Go.RowKit Go.Proofs.YtdchbcpfciljoaaDoor Go.Proofs.YtdchbcpfciljoaaDoor.Given Go.Proofs.YtdchbcpfciljoaaDoorW.PrintWords Go.Proofs.YtdchbcpfciljoaaDoorW.PrintLast Go.Proofs.YtdchbcpfciljoaaDoorW.PrintMore
attribute [local go_sem] max2_int min2_int max_two min_two max_three min_three max_four min_four   -- for this text's walks alone
set_option linter.unusedVariables false
set_option linter.unusedSimpArgs false

/-! ### turnspitref06_Unpack: function 43 -/
def turnspitref06_Unpack.f (a0 : Int) : Option (Int × Int × Bool × Int × Int × Int) := (turnspitref06_Kind.f a0).bind fun t146 => ((turnspitref06_Cpu.f a0).bind fun t147 => ((turnspitref06_Gen.f a0).bind fun t148 => ((turnspitref06_Pack.f t146 t147 ((Int.tmod (IntKind.u64.wrap (Int.tdiv a0 512)) 2) == 1) (wrap64 (Int.tmod (IntKind.u64.wrap (Int.tdiv a0 1024)) 65536)) t148).bind fun bt150 => (if bt150.2 = 0 then (if bt150.1 = a0 then (some (t146, t147, ((Int.tmod (IntKind.u64.wrap (Int.tdiv a0 512)) 2) == 1), wrap64 (Int.tmod (IntKind.u64.wrap (Int.tdiv a0 1024)) 65536), t148, 0)) else (some (0, 0, false, 0, 0, 1))) else (some (0, 0, false, 0, 0, 1))))))
set_option maxHeartbeats 8000000 in
set_option maxRecDepth 100000 in
theorem turnspitref06_Unpack.calls (a0 : Int) (r1 : Int) (r2 : Int) (r3 : Bool) (r4 : Int) (r5 : Int) (r6 : Int) (w : World) (HLd : Ld w) (h : turnspitref06_Unpack.f a0 = some (r1, r2, r3, r4, r5, r6)) :
    Calls Tryd.prog 43 #[.int .u64 a0] w fun e w' => e = .returned (.tuple #[.agg #[.int .i64 r1, .int .i64 r2, .bool r3, .int .i64 r4, .int .i64 r5], .int .i64 r6]) ∧ Below w.heap.size w w' := by
  have hu77 := Tryd.underlying77
  have HL := Aside0.mk HLd
  clear HLd
  unfold turnspitref06_Unpack.f at h
  have H := h
  clear h
  obtain ⟨t1, A1_, H⟩ := Option.bind_eq_some_iff.1 H
  have A1 := Aside0.mk A1_
  clear A1_
  obtain ⟨t2, A2_, H⟩ := Option.bind_eq_some_iff.1 H
  have A2 := Aside0.mk A2_
  clear A2_
  obtain ⟨t5, A5_, H⟩ := Option.bind_eq_some_iff.1 H
  have A5 := Aside0.mk A5_
  clear A5_
  obtain ⟨⟨p1, p2⟩, A6_, H⟩ := Option.bind_eq_some_iff.1 H
  have A6 := Aside0.mk A6_
  clear A6_
  go_enter Tryd.func43, Tryd.ntmps43
  go_wp2_with fail
  refine (turnspitref06_Kind.calls a0 t1 _ A1.out).mono ?_
  rintro e w1 ⟨rfl, hd⟩
  have hb := Drawn0.below hd
  clear hd
  have HB1 := Aside0.mk (below_step (below_alloc (Below.refl w.heap.size w) _) hb)
  have Kn_O : (w.alloc (.cells #[.int .i64 0, .int .i64 0, .bool false, .int .i64 0, .int .i64 0] 77)).heap[w.heap.size]? = some (.cells #[.int .i64 0, .int .i64 0, .bool false, .int .i64 0, .int .i64 0] 77 (0, 0)) := by have h_ := blk_new w (.cells #[.int .i64 0, .int .i64 0, .bool false, .int .i64 0, .int .i64 0] 77); simpa only [World.size_alloc] using h_
  have KO_ := Aside0.mk (blk_below Kn_O hb)
  have KO := KO_
  clear KO_
  clear Kn_O
  clear hb
  generalize hgO : w.heap.size = gO at KO ⊢
  have bO : Aside0 (w.heap.size ≤ gO) := ⟨by have h_ := ((Below.refl w.heap.size w) : Below w.heap.size w w).size; omega⟩
  clear hgO
  go_wp2_with fail
  refine (turnspitref06_Cpu.calls a0 t2 _ A2.out).mono ?_
  rintro e w2 ⟨rfl, hd⟩
  have hb := Drawn0.below hd
  clear hd
  have HB2 := Aside0.mk (below_step HB1.out hb)
  have KO_ := Aside0.mk (blk_below KO.out hb)
  clear KO
  have KO := KO_
  clear KO_
  clear hb
  go_wp2_with fail
  refine (turnspitref06_Gen.calls a0 t5 _ A5.out).mono ?_
  rintro e w3 ⟨rfl, hd⟩
  have hb := Drawn0.below hd
  clear hd
  have HB3 := Aside0.mk (below_step HB2.out hb)
  have KO_ := Aside0.mk (blk_below KO.out hb)
  clear KO
  have KO := KO_
  clear KO_
  clear hb
  have yO_3 : gO < w3.heap.size := blk_lt KO.out
  have yO_3z0 : (gO = w3.heap.size) = False := eq_false (by omega)
  have yO_3z1 : (w3.heap.size = gO) = False := eq_false (by omega)
  have yO_3z2 : (gO = w3.heap.size + 1) = False := eq_false (by omega)
  have yO_3z3 : (w3.heap.size + 1 = gO) = False := eq_false (by omega)
  have xO_3_0 : w3.cell? ⟨gO, 0, none⟩ = some (.int .i64 0) := (blk_cell KO.out 0).trans rfl
  have xO_3_0f := blk_frozen KO.out 0
  have xO_3_1 : w3.cell? ⟨gO, 1, none⟩ = some (.int .i64 0) := (blk_cell KO.out 1).trans rfl
  have xO_3_1f := blk_frozen KO.out 1
  have xO_3_2 : w3.cell? ⟨gO, 2, none⟩ = some (.bool false) := (blk_cell KO.out 2).trans rfl
  have xO_3_2f := blk_frozen KO.out 2
  have xO_3_3 : w3.cell? ⟨gO, 3, none⟩ = some (.int .i64 0) := (blk_cell KO.out 3).trans rfl
  have xO_3_3f := blk_frozen KO.out 3
  have xO_3_4 : w3.cell? ⟨gO, 4, none⟩ = some (.int .i64 0) := (blk_cell KO.out 4).trans rfl
  have xO_3_4f := blk_frozen KO.out 4
  go_wp2_with fail
  refine (turnspitref06_Pack.calls t1 t2 ((Int.tmod (IntKind.u64.wrap (Int.tdiv a0 512)) 2) == 1) (wrap64 (Int.tmod (IntKind.u64.wrap (Int.tdiv a0 1024)) 65536)) t5 p1 p2 _ (Ld.below HL.out (by exact (below_alloc HB3.out _))) A6.out).mono ?_
  rintro e w4 ⟨rfl, hb⟩
  have HB4 := Aside0.mk (below_step (below_alloc HB3.out _) hb)
  have Kn_X : (w3.alloc (.cells #[.int .i64 t1, .int .i64 t2, .bool ((Int.tmod (IntKind.u64.wrap (Int.tdiv a0 512)) 2) == 1), .int .i64 (wrap64 (Int.tmod (IntKind.u64.wrap (Int.tdiv a0 1024)) 65536)), .int .i64 t5] 77)).heap[w3.heap.size]? = some (.cells #[.int .i64 t1, .int .i64 t2, .bool ((Int.tmod (IntKind.u64.wrap (Int.tdiv a0 512)) 2) == 1), .int .i64 (wrap64 (Int.tmod (IntKind.u64.wrap (Int.tdiv a0 1024)) 65536)), .int .i64 t5] 77 (0, 0)) := by have h_ := blk_new w3 (.cells #[.int .i64 t1, .int .i64 t2, .bool ((Int.tmod (IntKind.u64.wrap (Int.tdiv a0 512)) 2) == 1), .int .i64 (wrap64 (Int.tmod (IntKind.u64.wrap (Int.tdiv a0 1024)) 65536)), .int .i64 t5] 77); simpa only [World.size_alloc] using h_
  have KO_ := Aside0.mk (blk_below (blk_alloc KO.out _) hb)
  have KX_ := Aside0.mk (blk_below Kn_X hb)
  clear KO
  have KO := KO_
  clear KO_
  have KX := KX_
  clear KX_
  clear Kn_X
  clear hb
  try clear yO_3 yO_3z0 yO_3z1 yO_3z2 yO_3z3 xO_3_0 xO_3_0f xO_3_1 xO_3_1f xO_3_2 xO_3_2f xO_3_3 xO_3_3f xO_3_4 xO_3_4f
  generalize hgX : w3.heap.size = gX at KX ⊢
  have bX : Aside0 (w.heap.size ≤ gX) := ⟨by have h_ := (HB3.out : Below w.heap.size w w3).size; omega⟩
  clear hgX
  have xO_4_0 : w4.cell? ⟨gO, 0, none⟩ = some (.int .i64 0) := (blk_cell KO.out 0).trans rfl
  have xO_4_0f := blk_frozen KO.out 0
  have xO_4_1 : w4.cell? ⟨gO, 1, none⟩ = some (.int .i64 0) := (blk_cell KO.out 1).trans rfl
  have xO_4_1f := blk_frozen KO.out 1
  have xO_4_2 : w4.cell? ⟨gO, 2, none⟩ = some (.bool false) := (blk_cell KO.out 2).trans rfl
  have xO_4_2f := blk_frozen KO.out 2
  have xO_4_3 : w4.cell? ⟨gO, 3, none⟩ = some (.int .i64 0) := (blk_cell KO.out 3).trans rfl
  have xO_4_3f := blk_frozen KO.out 3
  have xO_4_4 : w4.cell? ⟨gO, 4, none⟩ = some (.int .i64 0) := (blk_cell KO.out 4).trans rfl
  have xO_4_4f := blk_frozen KO.out 4
  have xX_4_0 : w4.cell? ⟨gX, 0, none⟩ = some (.int .i64 t1) := (blk_cell KX.out 0).trans rfl
  have xX_4_1 : w4.cell? ⟨gX, 1, none⟩ = some (.int .i64 t2) := (blk_cell KX.out 1).trans rfl
  have xX_4_2 : w4.cell? ⟨gX, 2, none⟩ = some (.bool ((Int.tmod (IntKind.u64.wrap (Int.tdiv a0 512)) 2) == 1)) := (blk_cell KX.out 2).trans rfl
  have xX_4_3 : w4.cell? ⟨gX, 3, none⟩ = some (.int .i64 (wrap64 (Int.tmod (IntKind.u64.wrap (Int.tdiv a0 1024)) 65536))) := (blk_cell KX.out 3).trans rfl
  have xX_4_4 : w4.cell? ⟨gX, 4, none⟩ = some (.int .i64 t5) := (blk_cell KX.out 4).trans rfl
  skip
  by_cases c1 : p2 = 0
  · rw [if_pos c1] at H
    have c1b : (p2 == 0) = true := beq_iff_eq.mpr c1
    have c1d : (p2 != 0) = false := bne_eq_false_iff_eq.mpr c1
    clear c1
    by_cases c2 : p1 = a0
    · rw [if_pos c2] at H
      have c2b : (p1 != a0) = false := bne_eq_false_iff_eq.mpr c2
      clear c2
      simp only [Option.some.injEq, Prod.mk.injEq] at H
      obtain ⟨rfl, rfl, rfl, rfl, rfl, rfl⟩ := H
      go_wp2_with fail
      refine bodyPost_ret (results_ct rfl _ _ gO 77 #[.int .i64 t1, .int .i64 t2, .bool ((Int.tmod (IntKind.u64.wrap (Int.tdiv a0 512)) 2) == 1), .int .i64 (wrap64 (Int.tmod (IntKind.u64.wrap (Int.tdiv a0 1024)) 65536)), .int .i64 t5] (0, 0) _ rfl (blk_put (blk_put (blk_put (blk_put (blk_put KO.out 0 (.int .i64 t1) rfl) 1 (.int .i64 t2) rfl) 2 (.bool ((Int.tmod (IntKind.u64.wrap (Int.tdiv a0 512)) 2) == 1)) rfl) 3 (.int .i64 (wrap64 (Int.tmod (IntKind.u64.wrap (Int.tdiv a0 1024)) 65536))) rfl) 4 (.int .i64 t5) rfl) Tryd.underlying77 rfl (by kernel_rfl)) rfl ?_
      exact ⟨rfl, by repeat (first | exact HB4.out | refine below_set ?_ bO.out | apply below_alloc)⟩
    · rw [if_neg c2] at H
      have c2b : (p1 != a0) = true := bne_iff_ne.mpr c2
      clear c2
      simp only [Option.some.injEq, Prod.mk.injEq] at H
      obtain ⟨rfl, rfl, rfl, rfl, rfl, rfl⟩ := H
      go_wp2_with fail
      refine bodyPost_ret (results_ct rfl _ _ gO 77 #[.int .i64 0, .int .i64 0, .bool false, .int .i64 0, .int .i64 0] (0, 0) _ rfl (blk_put (blk_put (blk_put (blk_put (blk_put KO.out 0 (.int .i64 0) rfl) 1 (.int .i64 0) rfl) 2 (.bool false) rfl) 3 (.int .i64 0) rfl) 4 (.int .i64 0) rfl) Tryd.underlying77 rfl (by kernel_rfl)) rfl ?_
      exact ⟨rfl, by repeat (first | exact HB4.out | refine below_set ?_ bO.out | apply below_alloc)⟩
  · rw [if_neg c1] at H
    have c1b : (p2 == 0) = false := beq_eq_false_iff_ne.mpr c1
    have c1d : (p2 != 0) = true := bne_iff_ne.mpr c1
    clear c1
    simp only [Option.some.injEq, Prod.mk.injEq] at H
    obtain ⟨rfl, rfl, rfl, rfl, rfl, rfl⟩ := H
    go_wp2_with fail
    refine bodyPost_ret (results_ct rfl _ _ gO 77 #[.int .i64 0, .int .i64 0, .bool false, .int .i64 0, .int .i64 0] (0, 0) _ rfl (blk_put (blk_put (blk_put (blk_put (blk_put KO.out 0 (.int .i64 0) rfl) 1 (.int .i64 0) rfl) 2 (.bool false) rfl) 3 (.int .i64 0) rfl) 4 (.int .i64 0) rfl) Tryd.underlying77 rfl (by kernel_rfl)) rfl ?_
    exact ⟨rfl, by repeat (first | exact HB4.out | refine below_set ?_ bO.out | apply below_alloc)⟩

end Go.Proofs.YtdchbcpfciljoaaDoor.Print

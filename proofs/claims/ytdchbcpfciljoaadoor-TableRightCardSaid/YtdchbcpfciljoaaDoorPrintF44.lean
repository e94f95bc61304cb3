-- Written for this claim by a program out of the translation. Lean checks it.
import Derived.Test.YtdchbcpfciljoaaDoorPrint0
import Derived.Test.YtdchbcpfciljoaaDoorPrintE
import Derived.Test.YtdchbcpfciljoaaDoorPrintF57
namespace Go.Proofs.YtdchbcpfciljoaaDoor.Print
open Go.RowKit Go.Proofs.YtdchbcpfciljoaaDoor Go.Proofs.YtdchbcpfciljoaaDoor.Given Go.Proofs.YtdchbcpfciljoaaDoorW.PrintWords Go.Proofs.YtdchbcpfciljoaaDoorW.PrintLast Go.Proofs.YtdchbcpfciljoaaDoorW.PrintMore
attribute [local go_sem] max2_int min2_int max_two min_two max_three min_three max_four min_four   -- for this text's walks alone
set_option linter.unusedVariables false
set_option linter.unusedSimpArgs false

attribute [local go_sem high] eqA52
/-! ### table_right: function 44 -/
def table_right.f (a0 : Int) (a1_0 : Int) (a1_1 : Int) (a1_2 : Int) : Option (Bool) := (packed_Unpack.f a0).bind fun bt339 => (if bt339.2.2.2.2.2 = 0 then (if bt339.1 = 0 then (some (a1_0 == 0 && (a1_1 == 0 && (a1_2 == 0)))) else (if a1_0 ≥ (-20) then (if a1_0 ≤ 19 then (if a1_1 = 0 then (some false) else (if a1_2 ≥ (-1125899906842624) then (some (decide (a1_2 ≤ 1125899906842624))) else (some false))) else (some false)) else (some false))) else (some false))
set_option maxHeartbeats 8000000 in
set_option maxRecDepth 100000 in
theorem table_right.calls (a0 : Int) (a1_0 : Int) (a1_1 : Int) (a1_2 : Int) (r : Bool) (w : World) (HLd : Ld w) (h : table_right.f a0 a1_0 a1_1 a1_2 = some r) :
    Calls Tryd.prog 44 #[.int .u64 a0, .agg #[.int .i64 a1_0, .int .u64 a1_1, .int .i64 a1_2]] w fun e w' => e = .returned (.bool r) ∧ Below w.heap.size w w' := by
  have hu77 := Tryd.underlying77
  have hu52 := Tryd.underlying52
  have HL := Aside0.mk HLd
  clear HLd
  unfold table_right.f at h
  have H := h
  clear h
  obtain ⟨⟨t1, t2, t3, t4, t5, t6⟩, A1_, H⟩ := Option.bind_eq_some_iff.1 H
  have A1 := Aside0.mk A1_
  clear A1_
  go_enter Tryd.func44, Tryd.ntmps44
  go_wp2_with fail
  refine (packed_Unpack.calls a0 t1 t2 t3 t4 t5 t6 _ (Ld.below HL.out (by exact (below_alloc (Below.refl w.heap.size w) _))) A1.out).mono ?_
  rintro e w1 ⟨rfl, hb⟩
  have HB1 := Aside0.mk (below_step (below_alloc (Below.refl w.heap.size w) _) hb)
  have Kn_B : (w.alloc (.cells #[.int .i64 a1_0, .int .u64 a1_1, .int .i64 a1_2] 52)).heap[w.heap.size]? = some (.cells #[.int .i64 a1_0, .int .u64 a1_1, .int .i64 a1_2] 52 (0, 0)) := by have h_ := blk_new w (.cells #[.int .i64 a1_0, .int .u64 a1_1, .int .i64 a1_2] 52); simpa only [World.size_alloc] using h_
  have KB_ := Aside0.mk (blk_below Kn_B hb)
  have KB := KB_
  clear KB_
  clear Kn_B
  clear hb
  generalize hgB : w.heap.size = gB at KB ⊢
  have bB : Aside0 (w.heap.size ≤ gB) := ⟨by have h_ := ((Below.refl w.heap.size w) : Below w.heap.size w w).size; omega⟩
  clear hgB
  have yB_1 : gB < w1.heap.size := blk_lt KB.out
  have yB_1z0 : (gB = w1.heap.size) = False := eq_false (by omega)
  have yB_1z1 : (w1.heap.size = gB) = False := eq_false (by omega)
  have yB_1z2 : (gB = w1.heap.size + 1) = False := eq_false (by omega)
  have yB_1z3 : (w1.heap.size + 1 = gB) = False := eq_false (by omega)
  have xB_1_0 : w1.cell? ⟨gB, 0, none⟩ = some (.int .i64 a1_0) := (blk_cell KB.out 0).trans rfl
  have xB_1_1 : w1.cell? ⟨gB, 1, none⟩ = some (.int .u64 a1_1) := (blk_cell KB.out 1).trans rfl
  have xB_1_2 : w1.cell? ⟨gB, 2, none⟩ = some (.int .i64 a1_2) := (blk_cell KB.out 2).trans rfl
  by_cases er : t6 = 0
  · rw [if_pos er] at H
    have erb : (t6 == 0) = true := beq_iff_eq.mpr er
    have erd : (t6 != 0) = false := bne_eq_false_iff_eq.mpr er
    clear er
    by_cases c1 : t1 = 0
    · rw [if_pos c1] at H
      have c1b : (t1 == 0) = true := beq_iff_eq.mpr c1
      have c1d : (t1 != 0) = false := bne_eq_false_iff_eq.mpr c1
      clear c1
      obtain rfl := Option.some.inj H
      go_wp2_with fail
      go_ret
      exact ⟨rfl, by repeat (with_reducible first | exact HB1.out | apply below_alloc)⟩
    · rw [if_neg c1] at H
      have c1b : (t1 == 0) = false := beq_eq_false_iff_ne.mpr c1
      have c1d : (t1 != 0) = true := bne_iff_ne.mpr c1
      clear c1
      by_cases g1 : (-20) ≤ a1_0
      · rw [if_pos g1] at H
        have g1b : decide ((-20) ≤ a1_0) = true := decide_eq_true g1
        clear g1
        by_cases g2 : a1_0 ≤ 19
        · rw [if_pos g2] at H
          have g2b : decide (a1_0 ≤ 19) = true := decide_eq_true g2
          clear g2
          by_cases g3 : a1_1 = 0
          · rw [if_pos g3] at H
            have g3b : (a1_1 == 0) = true := beq_iff_eq.mpr g3
            have g3d : (a1_1 != 0) = false := bne_eq_false_iff_eq.mpr g3
            clear g3
            obtain rfl := Option.some.inj H
            go_wp2_with fail
            go_ret
            exact ⟨rfl, by repeat (with_reducible first | exact HB1.out | apply below_alloc)⟩
          · rw [if_neg g3] at H
            have g3b : (a1_1 == 0) = false := beq_eq_false_iff_ne.mpr g3
            have g3d : (a1_1 != 0) = true := bne_iff_ne.mpr g3
            clear g3
            by_cases g4 : (-1125899906842624) ≤ a1_2
            · rw [if_pos g4] at H
              have g4b : decide ((-1125899906842624) ≤ a1_2) = true := decide_eq_true g4
              clear g4
              obtain rfl := Option.some.inj H
              go_wp2_with fail
              go_ret
              exact ⟨rfl, by repeat (with_reducible first | exact HB1.out | apply below_alloc)⟩
            · rw [if_neg g4] at H
              have g4b : decide ((-1125899906842624) ≤ a1_2) = false := decide_eq_false g4
              clear g4
              obtain rfl := Option.some.inj H
              go_wp2_with fail
              go_ret
              exact ⟨rfl, by repeat (with_reducible first | exact HB1.out | apply below_alloc)⟩
        · rw [if_neg g2] at H
          have g2b : decide (a1_0 ≤ 19) = false := decide_eq_false g2
          clear g2
          obtain rfl := Option.some.inj H
          go_wp2_with fail
          go_ret
          exact ⟨rfl, by repeat (with_reducible first | exact HB1.out | apply below_alloc)⟩
      · rw [if_neg g1] at H
        have g1b : decide ((-20) ≤ a1_0) = false := decide_eq_false g1
        clear g1
        obtain rfl := Option.some.inj H
        go_wp2_with fail
        go_ret
        exact ⟨rfl, by repeat (with_reducible first | exact HB1.out | apply below_alloc)⟩
  · rw [if_neg er] at H
    have erb : (t6 == 0) = false := beq_eq_false_iff_ne.mpr er
    have erd : (t6 != 0) = true := bne_iff_ne.mpr er
    clear er
    obtain rfl := Option.some.inj H
    go_wp2_with fail
    go_ret
    exact ⟨rfl, by repeat (with_reducible first | exact HB1.out | apply below_alloc)⟩

end Go.Proofs.YtdchbcpfciljoaaDoor.Print

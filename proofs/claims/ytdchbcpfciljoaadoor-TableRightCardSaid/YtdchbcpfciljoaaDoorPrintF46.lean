-- Written for this claim by a program out of the translation. Lean checks it.
import Derived.Test.YtdchbcpfciljoaaDoorPrint0
import Derived.Test.YtdchbcpfciljoaaDoorPrintF56
import Derived.Test.YtdchbcpfciljoaaDoorPrintF43
import Derived.Test.YtdchbcpfciljoaaDoorPrintE
namespace Go.Proofs.YtdchbcpfciljoaaDoor.Print
open Go.RowKit Go.Proofs.YtdchbcpfciljoaaDoor Go.Proofs.YtdchbcpfciljoaaDoor.Given Go.Proofs.YtdchbcpfciljoaaDoorW.PrintWords Go.Proofs.YtdchbcpfciljoaaDoorW.PrintLast Go.Proofs.YtdchbcpfciljoaaDoorW.PrintMore
attribute [local go_sem] max2_int min2_int max_two min_two max_three min_three max_four min_four   -- for this text's walks alone
set_option linter.unusedVariables false
set_option linter.unusedSimpArgs false

/-! ### turnspitref07_Next: function 46 -/
mutual
def turnspitref07_Next.j0 : Nat → Int → Int → Bool → Int → Int → Bool → Int → Int → Option (Int × Int)
  | 0, _, _, _, _, _, _, _, _ => none
  | k + 1, x1, x2, x32, x175000, x175001, x175002, x175003, x175004 => if x32 = true then (some (0, 1)) else ((turnspitref07_of.f k x175000 x175001 x175002 x175003 x175004 x1).bind fun t175 => (if t175 = true then (if x1 = 0 then (turnspitref07_Next.j1 k x1 x2 (x175004 == 4294967295) x175000 x175001 x175002 x175003 x175004) else (turnspitref07_Next.j1 k x1 x2 false x175000 x175001 x175002 x175003 x175004)) else (some (0, 4))))
def turnspitref07_Next.j1 : Nat → Int → Int → Bool → Int → Int → Bool → Int → Int → Option (Int × Int)
  | 0, _, _, _, _, _, _, _, _ => none
  | k + 1, x1, x2, x43, x175000, x175001, x175002, x175003, x175004 => if x43 = true then (some (0, 5)) else ((turnspitref07_comes.f x1).bind fun t176 => (if x1 = 0 then ((turnspitref06_Pack.f t176 x2 (x1 == 8) 0 (wrap64 (x175004 + 1))).bind fun bt177 => (some (bt177.1, bt177.2))) else (if x1 = 1 then ((turnspitref06_Pack.f t176 0 (x1 == 8) 0 x175004).bind fun bt179 => (some (bt179.1, bt179.2))) else (if x1 = 2 then ((turnspitref06_Pack.f t176 x175001 (x1 == 8) (Int.tmod (wrap64 (x175003 + 1)) 65536) x175004).bind fun bt181 => (some (bt181.1, bt181.2))) else (if x1 = 11 then ((turnspitref06_Pack.f t176 x2 (x1 == 8) x175003 x175004).bind fun bt183 => (some (bt183.1, bt183.2))) else (if x1 = 12 then ((turnspitref06_Pack.f t176 x2 (x1 == 8) x175003 x175004).bind fun bt185 => (some (bt185.1, bt185.2))) else (if x1 = 13 then ((turnspitref06_Pack.f t176 x2 (x1 == 8) x175003 x175004).bind fun bt187 => (some (bt187.1, bt187.2))) else (if x1 = 15 then ((turnspitref06_Pack.f t176 x2 (x1 == 8) x175003 x175004).bind fun bt189 => (some (bt189.1, bt189.2))) else ((turnspitref06_Pack.f t176 x175001 (x1 == 8) x175003 x175004).bind fun bt191 => (some (bt191.1, bt191.2)))))))))))
end
def turnspitref07_Next.f (k : Nat) (a0 : Int) (a1 : Int) (a2 : Int) : Option (Int × Int) := (turnspitref06_Unpack.f a0).bind fun bt168 => (if bt168.2.2.2.2.2 = 0 then (if a1 < 0 then (turnspitref07_Next.j0 k a1 a2 true bt168.1 bt168.2.1 bt168.2.2.1 bt168.2.2.2.1 bt168.2.2.2.2.1) else (if a1 > 15 then (turnspitref07_Next.j0 k a1 a2 true bt168.1 bt168.2.1 bt168.2.2.1 bt168.2.2.2.1 bt168.2.2.2.2.1) else (if a2 < 0 then (turnspitref07_Next.j0 k a1 a2 true bt168.1 bt168.2.1 bt168.2.2.1 bt168.2.2.2.1 bt168.2.2.2.2.1) else (turnspitref07_Next.j0 k a1 a2 (decide (a2 > 63)) bt168.1 bt168.2.1 bt168.2.2.1 bt168.2.2.2.1 bt168.2.2.2.2.1)))) else (turnspitref07_Next.j0 k a1 a2 true bt168.1 bt168.2.1 bt168.2.2.1 bt168.2.2.2.1 bt168.2.2.2.2.1))
theorem turnspitref07_Next.mono_l : ∀ k, (∀ y0 y1 y2 y3 y4 y5 y6 y7, LeO (turnspitref07_Next.j0 k y0 y1 y2 y3 y4 y5 y6 y7) (turnspitref07_Next.j0 (k + 1) y0 y1 y2 y3 y4 y5 y6 y7)) ∧ (∀ y0 y1 y2 y3 y4 y5 y6 y7, LeO (turnspitref07_Next.j1 k y0 y1 y2 y3 y4 y5 y6 y7) (turnspitref07_Next.j1 (k + 1) y0 y1 y2 y3 y4 y5 y6 y7))
  | 0 => ⟨fun _ _ _ _ _ _ _ _ r h => by simp [turnspitref07_Next.j0] at h, fun _ _ _ _ _ _ _ _ r h => by simp [turnspitref07_Next.j1] at h⟩
  | k + 1 => by
    obtain ⟨ih0, ih1⟩ := turnspitref07_Next.mono_l k
    refine ⟨?_, ?_⟩
    · intro y0 y1 y2 y3 y4 y5 y6 y7
      unfold turnspitref07_Next.j0
      repeat' first
      | (with_reducible exact ih0 _ _ _ _ _ _ _ _)
      | (with_reducible exact ih1 _ _ _ _ _ _ _ _)
      | (with_reducible exact turnspitref07_of.mono _ _ _ _ _ _ _)
      | (with_reducible exact LeO.refl _)
      | (with_reducible exact LeO.none _)
      | (with_reducible refine LeO.ite ?_ ?_)
      | (with_reducible refine LeO.bind ?_ (fun _ => ?_))
      | exact ih0 _ _ _ _ _ _ _ _
      | exact ih1 _ _ _ _ _ _ _ _
      | exact turnspitref07_of.mono _ _ _ _ _ _ _
      | exact LeO.none _
      | refine LeO.ite ?_ ?_
      | refine LeO.bind ?_ (fun _ => ?_)
    · intro y0 y1 y2 y3 y4 y5 y6 y7
      unfold turnspitref07_Next.j1
      repeat' first
      | (with_reducible exact ih0 _ _ _ _ _ _ _ _)
      | (with_reducible exact ih1 _ _ _ _ _ _ _ _)
      | (with_reducible exact turnspitref07_of.mono _ _ _ _ _ _ _)
      | (with_reducible exact LeO.refl _)
      | (with_reducible exact LeO.none _)
      | (with_reducible refine LeO.ite ?_ ?_)
      | (with_reducible refine LeO.bind ?_ (fun _ => ?_))
      | exact ih0 _ _ _ _ _ _ _ _
      | exact ih1 _ _ _ _ _ _ _ _
      | exact turnspitref07_of.mono _ _ _ _ _ _ _
      | exact LeO.none _
      | refine LeO.ite ?_ ?_
      | refine LeO.bind ?_ (fun _ => ?_)
theorem turnspitref07_Next.mono : ∀ a0 a1 a2 k, LeO (turnspitref07_Next.f k a0 a1 a2) (turnspitref07_Next.f (k + 1) a0 a1 a2) := by
  intro a0 a1 a2 k
  obtain ⟨ih0, ih1⟩ := turnspitref07_Next.mono_l k
  unfold turnspitref07_Next.f
  repeat' first
      | (with_reducible exact ih0 _ _ _ _ _ _ _ _)
      | (with_reducible exact ih1 _ _ _ _ _ _ _ _)
      | (with_reducible exact turnspitref07_of.mono _ _ _ _ _ _ _)
      | (with_reducible exact LeO.refl _)
      | (with_reducible exact LeO.none _)
      | (with_reducible refine LeO.ite ?_ ?_)
      | (with_reducible refine LeO.bind ?_ (fun _ => ?_))
      | exact ih0 _ _ _ _ _ _ _ _
      | exact ih1 _ _ _ _ _ _ _ _
      | exact turnspitref07_of.mono _ _ _ _ _ _ _
      | exact LeO.none _
      | refine LeO.ite ?_ ?_
      | refine LeO.bind ?_ (fun _ => ?_)
set_option maxHeartbeats 8000000 in
set_option maxRecDepth 100000 in
theorem turnspitref07_Next.calls (k : Nat) (a0 : Int) (a1 : Int) (a2 : Int) (r1 : Int) (r2 : Int) (w : World) (HLd : Ld w) (h : turnspitref07_Next.f k a0 a1 a2 = some (r1, r2)) :
    Calls Tryd.prog 46 #[.int .u64 a0, .int .i64 a1, .int .i64 a2] w fun e w' => e = .returned (.tuple #[.int .u64 r1, .int .i64 r2]) ∧ Below w.heap.size w w' := by
  have hu77 := Tryd.underlying77
  have HL := Aside0.mk HLd
  clear HLd
  unfold turnspitref07_Next.f at h
  have H := h
  clear h
  obtain ⟨⟨t1, t2, t3, t4, t5, t6⟩, A1_, H⟩ := Option.bind_eq_some_iff.1 H
  have A1 := Aside0.mk A1_
  clear A1_
  go_enter Tryd.func46, Tryd.ntmps46
  go_wp2_with fail
  refine (turnspitref06_Unpack.calls a0 t1 t2 t3 t4 t5 t6 _ HL.out A1.out).mono ?_
  rintro e w1 ⟨rfl, hb⟩
  have HB1 := Aside0.mk (below_step (Below.refl w.heap.size w) hb)
  clear hb
  by_cases er : t6 = 0
  · rw [if_pos er] at H
    have erb : (t6 == 0) = true := beq_iff_eq.mpr er
    have erd : (t6 != 0) = false := bne_eq_false_iff_eq.mpr er
    clear er
    by_cases g1 : a1 < 0
    · rw [if_pos g1] at H
      have g1b : decide (a1 < 0) = true := decide_eq_true g1
      clear g1
      cases k with
      | zero => simp [turnspitref07_Next.j0] at H
      | succ k =>
        rw [turnspitref07_Next.j0, if_pos rfl] at H
        simp only [Option.some.injEq, Prod.mk.injEq] at H
        obtain ⟨rfl, rfl⟩ := H
        go_wp2_with fail
        go_ret2
        exact ⟨rfl, by repeat (first | exact HB1.out | apply below_alloc)⟩
    · rw [if_neg g1] at H
      have g1b : decide (a1 < 0) = false := decide_eq_false g1
      clear g1
      by_cases g2 : 15 < a1
      · rw [if_pos g2] at H
        have g2b : decide (15 < a1) = true := decide_eq_true g2
        clear g2
        cases k with
        | zero => simp [turnspitref07_Next.j0] at H
        | succ k =>
          rw [turnspitref07_Next.j0, if_pos rfl] at H
          simp only [Option.some.injEq, Prod.mk.injEq] at H
          obtain ⟨rfl, rfl⟩ := H
          go_wp2_with fail
          go_ret2
          exact ⟨rfl, by repeat (first | exact HB1.out | apply below_alloc)⟩
      · rw [if_neg g2] at H
        have g2b : decide (15 < a1) = false := decide_eq_false g2
        clear g2
        by_cases g3 : a2 < 0
        · rw [if_pos g3] at H
          have g3b : decide (a2 < 0) = true := decide_eq_true g3
          clear g3
          cases k with
          | zero => simp [turnspitref07_Next.j0] at H
          | succ k =>
            rw [turnspitref07_Next.j0, if_pos rfl] at H
            simp only [Option.some.injEq, Prod.mk.injEq] at H
            obtain ⟨rfl, rfl⟩ := H
            go_wp2_with fail
            go_ret2
            exact ⟨rfl, by repeat (first | exact HB1.out | apply below_alloc)⟩
        · rw [if_neg g3] at H
          have g3b : decide (a2 < 0) = false := decide_eq_false g3
          clear g3
          cases g4 : decide (a2 > 63)
          · rw [g4] at H
            cases k with
            | zero => simp [turnspitref07_Next.j0] at H
            | succ k =>
              rw [turnspitref07_Next.j0, if_neg Bool.false_ne_true] at H
              obtain ⟨t175, A2_, H⟩ := Option.bind_eq_some_iff.1 H
              have A2 := Aside0.mk A2_
              clear A2_
              go_wp2_with fail
              refine (turnspitref07_of.calls k t1 t2 t3 t4 t5 a1 t175 _ (Ld.below HL.out (by exact (below_alloc HB1.out _))) (by have := of_decide_eq_false g1b; omega) (by have := of_decide_eq_false g2b; omega) A2.out).mono ?_
              rintro e w2 ⟨rfl, hb⟩
              have HB2 := Aside0.mk (below_step (below_alloc HB1.out _) hb)
              have Kn_X : (w1.alloc (.cells #[.int .i64 t1, .int .i64 t2, .bool t3, .int .i64 t4, .int .i64 t5] 77)).heap[w1.heap.size]? = some (.cells #[.int .i64 t1, .int .i64 t2, .bool t3, .int .i64 t4, .int .i64 t5] 77 (0, 0)) := by have h_ := blk_new w1 (.cells #[.int .i64 t1, .int .i64 t2, .bool t3, .int .i64 t4, .int .i64 t5] 77); simpa only [World.size_alloc] using h_
              have KX_ := Aside0.mk (blk_below Kn_X hb)
              have KX := KX_
              clear KX_
              clear Kn_X
              clear hb
              generalize hgX : w1.heap.size = gX at KX ⊢
              have bX : Aside0 (w.heap.size ≤ gX) := ⟨by have h_ := (HB1.out : Below w.heap.size w w1).size; omega⟩
              clear hgX
              have xX_2_0 : w2.cell? ⟨gX, 0, none⟩ = some (.int .i64 t1) := (blk_cell KX.out 0).trans rfl
              have xX_2_0f := blk_frozen KX.out 0
              have xX_2_1 : w2.cell? ⟨gX, 1, none⟩ = some (.int .i64 t2) := (blk_cell KX.out 1).trans rfl
              have xX_2_1f := blk_frozen KX.out 1
              have xX_2_2 : w2.cell? ⟨gX, 2, none⟩ = some (.bool t3) := (blk_cell KX.out 2).trans rfl
              have xX_2_2f := blk_frozen KX.out 2
              have xX_2_3 : w2.cell? ⟨gX, 3, none⟩ = some (.int .i64 t4) := (blk_cell KX.out 3).trans rfl
              have xX_2_3f := blk_frozen KX.out 3
              have xX_2_4 : w2.cell? ⟨gX, 4, none⟩ = some (.int .i64 t5) := (blk_cell KX.out 4).trans rfl
              have xX_2_4f := blk_frozen KX.out 4
              cases t175
              · rw [if_neg Bool.false_ne_true] at H
                simp only [Option.some.injEq, Prod.mk.injEq] at H
                obtain ⟨rfl, rfl⟩ := H
                go_wp2_with fail
                go_ret2
                exact ⟨rfl, by repeat (first | exact HB2.out | apply below_alloc)⟩
              · rw [if_pos rfl] at H
                by_cases s0 : a1 = 0
                · rw [if_pos s0] at H
                  have s0b : (a1 == 0) = true := beq_iff_eq.mpr s0
                  clear s0
                  cases hg : (t5 == 4294967295)
                  · rw [hg] at H
                    cases k with
                    | zero => simp [turnspitref07_Next.j1] at H
                    | succ k =>
                      rw [turnspitref07_Next.j1, if_neg Bool.false_ne_true] at H
                      obtain ⟨t176, A3_, H⟩ := Option.bind_eq_some_iff.1 H
                      have A3 := Aside0.mk A3_
                      clear A3_
                      go_wp2_with fail
                      refine (turnspitref07_comes.calls a1 t176 _ (Ld.below HL.out (by exact HB2.out)) A3.out).mono ?_
                      rintro e w3 ⟨rfl, hb⟩
                      have HB3 := Aside0.mk (below_step HB2.out hb)
                      have KX_ := Aside0.mk (blk_below KX.out hb)
                      clear KX
                      have KX := KX_
                      clear KX_
                      clear hb
                      try clear xX_2_0 xX_2_0f xX_2_1 xX_2_1f xX_2_2 xX_2_2f xX_2_3 xX_2_3f xX_2_4 xX_2_4f
                      have xX_3_0 : w3.cell? ⟨gX, 0, none⟩ = some (.int .i64 t1) := (blk_cell KX.out 0).trans rfl
                      have xX_3_0f := blk_frozen KX.out 0
                      have xX_3_1 : w3.cell? ⟨gX, 1, none⟩ = some (.int .i64 t2) := (blk_cell KX.out 1).trans rfl
                      have xX_3_1f := blk_frozen KX.out 1
                      have xX_3_2 : w3.cell? ⟨gX, 2, none⟩ = some (.bool t3) := (blk_cell KX.out 2).trans rfl
                      have xX_3_2f := blk_frozen KX.out 2
                      have xX_3_3 : w3.cell? ⟨gX, 3, none⟩ = some (.int .i64 t4) := (blk_cell KX.out 3).trans rfl
                      have xX_3_3f := blk_frozen KX.out 3
                      have xX_3_4 : w3.cell? ⟨gX, 4, none⟩ = some (.int .i64 t5) := (blk_cell KX.out 4).trans rfl
                      have xX_3_4f := blk_frozen KX.out 4
                      rw [if_pos (eq_of_beq s0b)] at H
                      obtain ⟨⟨p1, p2⟩, A4_, H⟩ := Option.bind_eq_some_iff.1 H
                      have A4 := Aside0.mk A4_
                      clear A4_
                      simp only [Option.some.injEq, Prod.mk.injEq] at H
                      obtain ⟨rfl, rfl⟩ := H
                      go_wp2_with fail
                      refine (turnspitref06_Pack.calls _ _ _ _ _ p1 p2 _ (Ld.below HL.out (by repeat (first | exact HB3.out | refine below_set ?_ bX.out))) A4.out).mono ?_
                      rintro e w9 ⟨rfl, hb⟩
                      have HB9 := below_step (by repeat (first | exact HB3.out | refine below_set ?_ bX.out)) hb
                      go_wp2
                      go_ret2
                      exact ⟨rfl, HB9⟩
                  · rw [hg] at H
                    cases k with
                    | zero => simp [turnspitref07_Next.j1] at H
                    | succ k =>
                      rw [turnspitref07_Next.j1, if_pos rfl] at H
                      simp only [Option.some.injEq, Prod.mk.injEq] at H
                      obtain ⟨rfl, rfl⟩ := H
                      go_wp2_with fail
                      go_ret2
                      exact ⟨rfl, by repeat (first | exact HB2.out | apply below_alloc)⟩
                · rw [if_neg s0] at H
                  have s0b : (a1 == 0) = false := beq_eq_false_iff_ne.mpr s0
                  clear s0
                  cases k with
                  | zero => simp [turnspitref07_Next.j1] at H
                  | succ k =>
                    rw [turnspitref07_Next.j1, if_neg Bool.false_ne_true] at H
                    obtain ⟨t176, A3_, H⟩ := Option.bind_eq_some_iff.1 H
                    have A3 := Aside0.mk A3_
                    clear A3_
                    go_wp2_with fail
                    refine (turnspitref07_comes.calls a1 t176 _ (Ld.below HL.out (by exact HB2.out)) A3.out).mono ?_
                    rintro e w3 ⟨rfl, hb⟩
                    have HB3 := Aside0.mk (below_step HB2.out hb)
                    have KX_ := Aside0.mk (blk_below KX.out hb)
                    clear KX
                    have KX := KX_
                    clear KX_
                    clear hb
                    try clear xX_2_0 xX_2_0f xX_2_1 xX_2_1f xX_2_2 xX_2_2f xX_2_3 xX_2_3f xX_2_4 xX_2_4f
                    have xX_3_0 : w3.cell? ⟨gX, 0, none⟩ = some (.int .i64 t1) := (blk_cell KX.out 0).trans rfl
                    have xX_3_0f := blk_frozen KX.out 0
                    have xX_3_1 : w3.cell? ⟨gX, 1, none⟩ = some (.int .i64 t2) := (blk_cell KX.out 1).trans rfl
                    have xX_3_1f := blk_frozen KX.out 1
                    have xX_3_2 : w3.cell? ⟨gX, 2, none⟩ = some (.bool t3) := (blk_cell KX.out 2).trans rfl
                    have xX_3_2f := blk_frozen KX.out 2
                    have xX_3_3 : w3.cell? ⟨gX, 3, none⟩ = some (.int .i64 t4) := (blk_cell KX.out 3).trans rfl
                    have xX_3_3f := blk_frozen KX.out 3
                    have xX_3_4 : w3.cell? ⟨gX, 4, none⟩ = some (.int .i64 t5) := (blk_cell KX.out 4).trans rfl
                    have xX_3_4f := blk_frozen KX.out 4
                    rw [if_neg (by simpa using s0b)] at H
                    by_cases s1 : a1 = 1
                    · rw [if_pos s1] at H
                      have s1b : (a1 == 1) = true := beq_iff_eq.mpr s1
                      clear s1
                      obtain ⟨⟨p1, p2⟩, A4_, H⟩ := Option.bind_eq_some_iff.1 H
                      have A4 := Aside0.mk A4_
                      clear A4_
                      simp only [Option.some.injEq, Prod.mk.injEq] at H
                      obtain ⟨rfl, rfl⟩ := H
                      go_wp2_with fail
                      refine (turnspitref06_Pack.calls _ _ _ _ _ p1 p2 _ (Ld.below HL.out (by repeat (first | exact HB3.out | refine below_set ?_ bX.out))) A4.out).mono ?_
                      rintro e w9 ⟨rfl, hb⟩
                      have HB9 := below_step (by repeat (first | exact HB3.out | refine below_set ?_ bX.out)) hb
                      go_wp2
                      go_ret2
                      exact ⟨rfl, HB9⟩
                    · rw [if_neg s1] at H
                      have s1b : (a1 == 1) = false := beq_eq_false_iff_ne.mpr s1
                      clear s1
                      by_cases s2 : a1 = 2
                      · rw [if_pos s2] at H
                        have s2b : (a1 == 2) = true := beq_iff_eq.mpr s2
                        clear s2
                        obtain ⟨⟨p1, p2⟩, A4_, H⟩ := Option.bind_eq_some_iff.1 H
                        have A4 := Aside0.mk A4_
                        clear A4_
                        simp only [Option.some.injEq, Prod.mk.injEq] at H
                        obtain ⟨rfl, rfl⟩ := H
                        go_wp2_with fail
                        refine (turnspitref06_Pack.calls _ _ _ _ _ p1 p2 _ (Ld.below HL.out (by repeat (first | exact HB3.out | refine below_set ?_ bX.out))) A4.out).mono ?_
                        rintro e w9 ⟨rfl, hb⟩
                        have HB9 := below_step (by repeat (first | exact HB3.out | refine below_set ?_ bX.out)) hb
                        go_wp2
                        go_ret2
                        exact ⟨rfl, HB9⟩
                      · rw [if_neg s2] at H
                        have s2b : (a1 == 2) = false := beq_eq_false_iff_ne.mpr s2
                        clear s2
                        by_cases s11 : a1 = 11
                        · rw [if_pos s11] at H
                          have s11b : (a1 == 11) = true := beq_iff_eq.mpr s11
                          clear s11
                          obtain ⟨⟨p1, p2⟩, A4_, H⟩ := Option.bind_eq_some_iff.1 H
                          have A4 := Aside0.mk A4_
                          clear A4_
                          simp only [Option.some.injEq, Prod.mk.injEq] at H
                          obtain ⟨rfl, rfl⟩ := H
                          go_wp2_with fail
                          refine (turnspitref06_Pack.calls _ _ _ _ _ p1 p2 _ (Ld.below HL.out (by repeat (first | exact HB3.out | refine below_set ?_ bX.out))) A4.out).mono ?_
                          rintro e w9 ⟨rfl, hb⟩
                          have HB9 := below_step (by repeat (first | exact HB3.out | refine below_set ?_ bX.out)) hb
                          go_wp2
                          go_ret2
                          exact ⟨rfl, HB9⟩
                        · rw [if_neg s11] at H
                          have s11b : (a1 == 11) = false := beq_eq_false_iff_ne.mpr s11
                          clear s11
                          by_cases s12 : a1 = 12
                          · rw [if_pos s12] at H
                            have s12b : (a1 == 12) = true := beq_iff_eq.mpr s12
                            clear s12
                            obtain ⟨⟨p1, p2⟩, A4_, H⟩ := Option.bind_eq_some_iff.1 H
                            have A4 := Aside0.mk A4_
                            clear A4_
                            simp only [Option.some.injEq, Prod.mk.injEq] at H
                            obtain ⟨rfl, rfl⟩ := H
                            go_wp2_with fail
                            refine (turnspitref06_Pack.calls _ _ _ _ _ p1 p2 _ (Ld.below HL.out (by repeat (first | exact HB3.out | refine below_set ?_ bX.out))) A4.out).mono ?_
                            rintro e w9 ⟨rfl, hb⟩
                            have HB9 := below_step (by repeat (first | exact HB3.out | refine below_set ?_ bX.out)) hb
                            go_wp2
                            go_ret2
                            exact ⟨rfl, HB9⟩
                          · rw [if_neg s12] at H
                            have s12b : (a1 == 12) = false := beq_eq_false_iff_ne.mpr s12
                            clear s12
                            by_cases s13 : a1 = 13
                            · rw [if_pos s13] at H
                              have s13b : (a1 == 13) = true := beq_iff_eq.mpr s13
                              clear s13
                              obtain ⟨⟨p1, p2⟩, A4_, H⟩ := Option.bind_eq_some_iff.1 H
                              have A4 := Aside0.mk A4_
                              clear A4_
                              simp only [Option.some.injEq, Prod.mk.injEq] at H
                              obtain ⟨rfl, rfl⟩ := H
                              go_wp2_with fail
                              refine (turnspitref06_Pack.calls _ _ _ _ _ p1 p2 _ (Ld.below HL.out (by repeat (first | exact HB3.out | refine below_set ?_ bX.out))) A4.out).mono ?_
                              rintro e w9 ⟨rfl, hb⟩
                              have HB9 := below_step (by repeat (first | exact HB3.out | refine below_set ?_ bX.out)) hb
                              go_wp2
                              go_ret2
                              exact ⟨rfl, HB9⟩
                            · rw [if_neg s13] at H
                              have s13b : (a1 == 13) = false := beq_eq_false_iff_ne.mpr s13
                              clear s13
                              by_cases s15 : a1 = 15
                              · rw [if_pos s15] at H
                                have s15b : (a1 == 15) = true := beq_iff_eq.mpr s15
                                clear s15
                                obtain ⟨⟨p1, p2⟩, A4_, H⟩ := Option.bind_eq_some_iff.1 H
                                have A4 := Aside0.mk A4_
                                clear A4_
                                simp only [Option.some.injEq, Prod.mk.injEq] at H
                                obtain ⟨rfl, rfl⟩ := H
                                go_wp2_with fail
                                refine (turnspitref06_Pack.calls _ _ _ _ _ p1 p2 _ (Ld.below HL.out (by repeat (first | exact HB3.out | refine below_set ?_ bX.out))) A4.out).mono ?_
                                rintro e w9 ⟨rfl, hb⟩
                                have HB9 := below_step (by repeat (first | exact HB3.out | refine below_set ?_ bX.out)) hb
                                go_wp2
                                go_ret2
                                exact ⟨rfl, HB9⟩
                              · rw [if_neg s15] at H
                                have s15b : (a1 == 15) = false := beq_eq_false_iff_ne.mpr s15
                                clear s15
                                obtain ⟨⟨p1, p2⟩, A4_, H⟩ := Option.bind_eq_some_iff.1 H
                                have A4 := Aside0.mk A4_
                                clear A4_
                                simp only [Option.some.injEq, Prod.mk.injEq] at H
                                obtain ⟨rfl, rfl⟩ := H
                                go_wp2_with fail
                                refine (turnspitref06_Pack.calls _ _ _ _ _ p1 p2 _ (Ld.below HL.out (by repeat (first | exact HB3.out | refine below_set ?_ bX.out))) A4.out).mono ?_
                                rintro e w9 ⟨rfl, hb⟩
                                have HB9 := below_step (by repeat (first | exact HB3.out | refine below_set ?_ bX.out)) hb
                                go_wp2
                                go_ret2
                                exact ⟨rfl, HB9⟩
          · rw [g4] at H
            cases k with
            | zero => simp [turnspitref07_Next.j0] at H
            | succ k =>
              rw [turnspitref07_Next.j0, if_pos rfl] at H
              simp only [Option.some.injEq, Prod.mk.injEq] at H
              obtain ⟨rfl, rfl⟩ := H
              go_wp2_with fail
              go_ret2
              exact ⟨rfl, by repeat (first | exact HB1.out | apply below_alloc)⟩
  · rw [if_neg er] at H
    have erb : (t6 == 0) = false := beq_eq_false_iff_ne.mpr er
    have erd : (t6 != 0) = true := bne_iff_ne.mpr er
    clear er
    cases k with
    | zero => simp [turnspitref07_Next.j0] at H
    | succ k =>
      rw [turnspitref07_Next.j0, if_pos rfl] at H
      simp only [Option.some.injEq, Prod.mk.injEq] at H
      obtain ⟨rfl, rfl⟩ := H
      go_wp2_with fail
      go_ret2
      exact ⟨rfl, by repeat (first | exact HB1.out | apply below_alloc)⟩

end Go.Proofs.YtdchbcpfciljoaaDoor.Print

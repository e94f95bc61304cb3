-- Written for this claim by a program out of the translation. Lean checks it.
import Derived.Test.YtdchbcpfciljoaaDoorPrint0
import Derived.Test.YtdchbcpfciljoaaDoorPrintF20
import Derived.Test.YtdchbcpfciljoaaDoorPrintF46
import Derived.Test.YtdchbcpfciljoaaDoorPrintF49
import Derived.Test.YtdchbcpfciljoaaDoorPrintF30
namespace Go.Proofs.YtdchbcpfciljoaaDoor.Print
open Go.RowKit Go.Proofs.YtdchbcpfciljoaaDoor Go.Proofs.YtdchbcpfciljoaaDoor.Given Go.Proofs.YtdchbcpfciljoaaDoorW.PrintWords Go.Proofs.YtdchbcpfciljoaaDoorW.PrintLast Go.Proofs.YtdchbcpfciljoaaDoorW.PrintMore
attribute [local go_sem] max2_int min2_int max_two min_two max_three min_three max_four min_four   -- for this text's walks alone
set_option linter.unusedVariables false
set_option linter.unusedSimpArgs false

/-! ### turnspitref14_Exit: function 28 -/
def turnspitref14_Exit.f (k : Nat) (l0_0 : List Int) (l0_1 : List (S52)) (a1_0 : Int) (a1_1 : Int) : Option (List Int × (List (S52)) × Int) := (turnspitref14_Right.f k l0_0 l0_1).bind fun t245 => (if t245 = true then ((turnspitref14_Check.f k l0_0 l0_1 a1_0 a1_1).bind fun t246 => (if t246 = 0 then (if 0 ≤ a1_0 then (if a1_0 < (l0_0.length : Int) then ((turnspitref07_Next.f k (rd l0_0 a1_0) 1 0).bind fun bt248 => (if bt248.2 = 0 then ((turnspitref14_With.f l0_0 l0_1 a1_0 bt248.1 0 0 0).bind fun bt250 => (some (bt250.1, bt250.2, 0))) else (some (([] : List Int), ([] : List (S52)), bt248.2)))) else (none)) else (none)) else (some (([] : List Int), ([] : List (S52)), t246)))) else (some (([] : List Int), ([] : List (S52)), 4)))
theorem turnspitref14_Exit.mono : ∀ a0 a1 a2 a3 k, LeO (turnspitref14_Exit.f k a0 a1 a2 a3) (turnspitref14_Exit.f (k + 1) a0 a1 a2 a3) := by
  intro a0 a1 a2 a3 k
  unfold turnspitref14_Exit.f
  repeat' first
      | (with_reducible exact turnspitref07_Next.mono _ _ _ _)
      | (with_reducible exact turnspitref14_Check.mono _ _ _ _ _)
      | (with_reducible exact turnspitref14_Right.mono _ _ _)
      | (with_reducible exact LeO.refl _)
      | (with_reducible exact LeO.none _)
      | (with_reducible refine LeO.ite ?_ ?_)
      | (with_reducible refine LeO.bind ?_ (fun _ => ?_))
      | exact turnspitref07_Next.mono _ _ _ _
      | exact turnspitref14_Check.mono _ _ _ _ _
      | exact turnspitref14_Right.mono _ _ _
      | exact LeO.none _
      | refine LeO.ite ?_ ?_
      | refine LeO.bind ?_ (fun _ => ?_)
set_option maxHeartbeats 8000000 in
set_option maxRecDepth 100000 in
theorem turnspitref14_Exit.calls (k : Nat) (A0_0 : Option Addr) (c0_0 : Nat) (l0_0 : List Int) (A0_1 : Option Addr) (c0_1 : Nat) (l0_1 : List (S52)) (a1_0 : Int) (a1_1 : Int) (r1 : List Int) (r2 : List (S52)) (r3 : Int) (w : World) (hr0_0 : Kd.C (Kd.int .u64) w A0_0 l0_0.length l0_0) (hc0_0 : l0_0.length ≤ c0_0) (hr0_1 : Kd.C k52 w A0_1 l0_1.length l0_1) (hc0_1 : l0_1.length ≤ c0_1) (HLd : Ld w) (h : turnspitref14_Exit.f k l0_0 l0_1 a1_0 a1_1 = some (r1, r2, r3)) :
    Calls Tryd.prog 28 #[.agg #[.slice A0_0 l0_0.length c0_0, .slice A0_1 l0_1.length c0_1], .agg #[.int .i64 a1_0, .int .i64 a1_1]] w fun e w' => ∃ v0_ v1_ : Value, e = .returned (.tuple #[.agg #[v0_, v1_], .int .i64 r3]) ∧ Kd.R (Kd.int .u64) 28 w' w.heap.size (fun _ => True) v0_ r1 ∧ Kd.R k52 52 w' w.heap.size (fun _ => True) v1_ r2 ∧ Below w.heap.size w w' := by
  have hu25 := Tryd.underlying25
  have hu27 := Tryd.underlying27
  have hu52 := Tryd.underlying52
  have HR0 := Aside0.mk hr0_0
  have HC0 := Aside0.mk hc0_0
  have HR1 := Aside0.mk hr0_1
  have HC1 := Aside0.mk hc0_1
  have HL := Aside0.mk HLd
  clear hr0_0 hc0_0 hr0_1 hc0_1 HLd
  unfold turnspitref14_Exit.f at h
  have H := h
  clear h
  obtain ⟨t245, A3_, H⟩ := Option.bind_eq_some_iff.1 H
  have A3 := Aside0.mk A3_
  clear A3_
  go_enter Tryd.func28, Tryd.ntmps28
  go_wp2_with fail
  refine (turnspitref14_Right.calls k A0_0 c0_0 l0_0 A0_1 c0_1 l0_1 t245 _ (Kd.C_below HR0.out (below_alloc (below_alloc (below_alloc (Below.refl w.heap.size w) _) _) _)) HC0.out (Kd.C_below HR1.out (below_alloc (below_alloc (below_alloc (Below.refl w.heap.size w) _) _) _)) HC1.out (Ld.below HL.out (by exact (below_alloc (below_alloc (below_alloc (Below.refl w.heap.size w) _) _) _))) A3.out).mono ?_
  rintro e w1 ⟨rfl, hb⟩
  have HB1 := Aside0.mk (below_step (below_alloc (below_alloc (below_alloc (Below.refl w.heap.size w) _) _) _) hb)
  have Kn_T : (w.alloc (.cells #[.slice A0_0 l0_0.length c0_0, .slice A0_1 l0_1.length c0_1] 25)).heap[w.heap.size]? = some (.cells #[.slice A0_0 l0_0.length c0_0, .slice A0_1 l0_1.length c0_1] 25 (0, 0)) := by have h_ := blk_new w (.cells #[.slice A0_0 l0_0.length c0_0, .slice A0_1 l0_1.length c0_1] 25); simpa only [World.size_alloc] using h_
  have Kn_h : ((w.alloc (.cells #[.slice A0_0 l0_0.length c0_0, .slice A0_1 l0_1.length c0_1] 25)).alloc (.cells #[.int .i64 a1_0, .int .i64 a1_1] 27)).heap[w.heap.size + 1]? = some (.cells #[.int .i64 a1_0, .int .i64 a1_1] 27 (0, 0)) := by have h_ := blk_new (w.alloc (.cells #[.slice A0_0 l0_0.length c0_0, .slice A0_1 l0_1.length c0_1] 25)) (.cells #[.int .i64 a1_0, .int .i64 a1_1] 27); simpa only [World.size_alloc] using h_
  have Kn_O : (((w.alloc (.cells #[.slice A0_0 l0_0.length c0_0, .slice A0_1 l0_1.length c0_1] 25)).alloc (.cells #[.int .i64 a1_0, .int .i64 a1_1] 27)).alloc (.cells #[.slice none 0 0, .slice none 0 0] 25)).heap[w.heap.size + 2]? = some (.cells #[.slice none 0 0, .slice none 0 0] 25 (0, 0)) := by have h_ := blk_new ((w.alloc (.cells #[.slice A0_0 l0_0.length c0_0, .slice A0_1 l0_1.length c0_1] 25)).alloc (.cells #[.int .i64 a1_0, .int .i64 a1_1] 27)) (.cells #[.slice none 0 0, .slice none 0 0] 25); simpa only [World.size_alloc] using h_
  have KT_ := Aside0.mk (blk_below (blk_alloc (blk_alloc Kn_T _) _) hb)
  have Kh_ := Aside0.mk (blk_below (blk_alloc Kn_h _) hb)
  have KO_ := Aside0.mk (blk_below Kn_O hb)
  have KT := KT_
  clear KT_
  have Kh := Kh_
  clear Kh_
  have KO := KO_
  clear KO_
  clear Kn_T
  clear Kn_h
  clear Kn_O
  clear hb
  generalize hgO : w.heap.size + 2 = gO at KO ⊢
  have bO : Aside0 (w.heap.size ≤ gO) := ⟨by have h_ := ((Below.refl w.heap.size w) : Below w.heap.size w w).size; omega⟩
  clear hgO
  generalize hgh : w.heap.size + 1 = gh at Kh ⊢
  have bh : Aside0 (w.heap.size ≤ gh) := ⟨by have h_ := ((Below.refl w.heap.size w) : Below w.heap.size w w).size; omega⟩
  clear hgh
  generalize hgT : w.heap.size = gT at KT ⊢
  have bT : Aside0 (w.heap.size ≤ gT) := ⟨by have h_ := ((Below.refl w.heap.size w) : Below w.heap.size w w).size; omega⟩
  clear hgT
  have xT_1_0 : w1.cell? ⟨gT, 0, none⟩ = some (.slice A0_0 l0_0.length c0_0) := (blk_cell KT.out 0).trans rfl
  have xT_1_1 : w1.cell? ⟨gT, 1, none⟩ = some (.slice A0_1 l0_1.length c0_1) := (blk_cell KT.out 1).trans rfl
  have xh_1_0 : w1.cell? ⟨gh, 0, none⟩ = some (.int .i64 a1_0) := (blk_cell Kh.out 0).trans rfl
  have xh_1_1 : w1.cell? ⟨gh, 1, none⟩ = some (.int .i64 a1_1) := (blk_cell Kh.out 1).trans rfl
  have xO_1_0 : w1.cell? ⟨gO, 0, none⟩ = some (.slice none 0 0) := (blk_cell KO.out 0).trans rfl
  have xO_1_0f := blk_frozen KO.out 0
  have xO_1_1 : w1.cell? ⟨gO, 1, none⟩ = some (.slice none 0 0) := (blk_cell KO.out 1).trans rfl
  have xO_1_1f := blk_frozen KO.out 1
  cases t245
  · rw [if_neg Bool.false_ne_true] at H
    simp only [Option.some.injEq, Prod.mk.injEq] at H
    obtain ⟨rfl, rfl, rfl⟩ := H
    go_wp2_with fail
    refine bodyPost_ret (results_ct rfl _ _ gO 25 #[.slice none 0 0, .slice none 0 0] (0, 0) _ rfl (blk_put (blk_put KO.out 0 _ rfl) 1 _ rfl) Tryd.underlying25 rfl (by kernel_rfl)) rfl ?_
    exact ⟨_, _, rfl, Kd.R_nil _ _ _ _ _, Kd.R_nil _ _ _ _ _, below_set (below_set HB1.out bO.out) bO.out⟩
  · rw [if_pos rfl] at H
    obtain ⟨t246, A5_, H⟩ := Option.bind_eq_some_iff.1 H
    have A5 := Aside0.mk A5_
    clear A5_
    go_wp2_with fail
    refine (turnspitref14_Check.calls k A0_0 c0_0 l0_0 A0_1 c0_1 l0_1 a1_0 a1_1 t246 _ (Kd.C_below HR0.out HB1.out) HC0.out (Kd.C_below HR1.out HB1.out) HC1.out (Ld.below HL.out (by exact HB1.out)) A5.out).mono ?_
    rintro e w2 ⟨rfl, hb⟩
    have HB2 := Aside0.mk (below_step HB1.out hb)
    have KT_ := Aside0.mk (blk_below KT.out hb)
    have Kh_ := Aside0.mk (blk_below Kh.out hb)
    have KO_ := Aside0.mk (blk_below KO.out hb)
    clear KT
    have KT := KT_
    clear KT_
    clear Kh
    have Kh := Kh_
    clear Kh_
    clear KO
    have KO := KO_
    clear KO_
    clear hb
    try clear xT_1_0 xT_1_1 xh_1_0 xh_1_1 xO_1_0 xO_1_0f xO_1_1 xO_1_1f
    have xT_2_0 : w2.cell? ⟨gT, 0, none⟩ = some (.slice A0_0 l0_0.length c0_0) := (blk_cell KT.out 0).trans rfl
    have xT_2_1 : w2.cell? ⟨gT, 1, none⟩ = some (.slice A0_1 l0_1.length c0_1) := (blk_cell KT.out 1).trans rfl
    have xh_2_0 : w2.cell? ⟨gh, 0, none⟩ = some (.int .i64 a1_0) := (blk_cell Kh.out 0).trans rfl
    have xh_2_1 : w2.cell? ⟨gh, 1, none⟩ = some (.int .i64 a1_1) := (blk_cell Kh.out 1).trans rfl
    have xO_2_0 : w2.cell? ⟨gO, 0, none⟩ = some (.slice none 0 0) := (blk_cell KO.out 0).trans rfl
    have xO_2_0f := blk_frozen KO.out 0
    have xO_2_1 : w2.cell? ⟨gO, 1, none⟩ = some (.slice none 0 0) := (blk_cell KO.out 1).trans rfl
    have xO_2_1f := blk_frozen KO.out 1
    by_cases c6 : t246 = 0
    · rw [if_pos c6] at H
      have c6b : (t246 == 0) = true := beq_iff_eq.mpr c6
      have c6d : (t246 != 0) = false := bne_eq_false_iff_eq.mpr c6
      clear c6
      by_cases c7 : 0 ≤ a1_0
      · rw [if_pos c7] at H
        have c7b : decide (0 ≤ a1_0) = true := decide_eq_true c7
        clear c7
        by_cases c8 : a1_0 < (l0_0.length : Int)
        · rw [if_pos c8] at H
          have c8b : decide (a1_0 < (l0_0.length : Int)) = true := decide_eq_true c8
          clear c8
          obtain ⟨⟨t248, t249⟩, A9_, H⟩ := Option.bind_eq_some_iff.1 H
          have A9 := Aside0.mk A9_
          clear A9_
          obtain ⟨ad, ead, hx⟩ := Kd.at_int HR0.out a1_0 (of_decide_eq_true c7b) (of_decide_eq_true c8b)
          subst ead
          have hx_ : w2.cell? (ad.add a1_0.toNat) = some (.int .u64 (rd l0_0 a1_0)) := pw_cell_below HB2.out hx
          clear hx
          have p7 := eq_true (of_decide_eq_true c7b)
          have p8 := eq_true (of_decide_eq_true c8b)
          go_wp2_with fail
          refine (turnspitref07_Next.calls k (rd l0_0 a1_0) 1 0 t248 t249 _ (Ld.below HL.out (by exact HB2.out)) A9.out).mono ?_
          rintro e w3 ⟨rfl, hb⟩
          have HB3 := Aside0.mk (below_step HB2.out hb)
          have KT_ := Aside0.mk (blk_below KT.out hb)
          have Kh_ := Aside0.mk (blk_below Kh.out hb)
          have KO_ := Aside0.mk (blk_below KO.out hb)
          clear KT
          have KT := KT_
          clear KT_
          clear Kh
          have Kh := Kh_
          clear Kh_
          clear KO
          have KO := KO_
          clear KO_
          clear hb
          try clear xT_2_0 xT_2_1 xh_2_0 xh_2_1 xO_2_0 xO_2_0f xO_2_1 xO_2_1f
          have xT_3_0 : w3.cell? ⟨gT, 0, none⟩ = some (.slice (some ad) l0_0.length c0_0) := (blk_cell KT.out 0).trans rfl
          have xT_3_1 : w3.cell? ⟨gT, 1, none⟩ = some (.slice A0_1 l0_1.length c0_1) := (blk_cell KT.out 1).trans rfl
          have xh_3_0 : w3.cell? ⟨gh, 0, none⟩ = some (.int .i64 a1_0) := (blk_cell Kh.out 0).trans rfl
          have xh_3_1 : w3.cell? ⟨gh, 1, none⟩ = some (.int .i64 a1_1) := (blk_cell Kh.out 1).trans rfl
          have xO_3_0 : w3.cell? ⟨gO, 0, none⟩ = some (.slice none 0 0) := (blk_cell KO.out 0).trans rfl
          have xO_3_0f := blk_frozen KO.out 0
          have xO_3_1 : w3.cell? ⟨gO, 1, none⟩ = some (.slice none 0 0) := (blk_cell KO.out 1).trans rfl
          have xO_3_1f := blk_frozen KO.out 1
          by_cases c10 : t249 = 0
          · rw [if_pos c10] at H
            have c10b : (t249 == 0) = true := beq_iff_eq.mpr c10
            have c10d : (t249 != 0) = false := bne_eq_false_iff_eq.mpr c10
            clear c10
            obtain ⟨⟨t250, t253⟩, A11_, H⟩ := Option.bind_eq_some_iff.1 H
            have A11 := Aside0.mk A11_
            clear A11_
            simp only [Option.some.injEq, Prod.mk.injEq] at H
            obtain ⟨rfl, rfl, rfl⟩ := H
            go_wp2_with fail
            refine (turnspitref14_With.calls (some ad) c0_0 l0_0 A0_1 c0_1 l0_1 a1_0 t248 0 0 0 t250 t253 _ (Kd.C_below HR0.out HB3.out) HC0.out (Kd.C_below HR1.out HB3.out) HC1.out (Ld.below HL.out (by exact HB3.out)) A11.out).mono ?_
            rintro e w4 ⟨vn0, vn1, rfl, ho0, ho1, hb⟩
            obtain ⟨An0, cn0, rfl⟩ := Kd.R_slice ho0
            obtain ⟨An1, cn1, rfl⟩ := Kd.R_slice ho1
            have Hn0 := Aside0.mk ho0
            have Hn1 := Aside0.mk ho1
            clear ho0 ho1
            have HB4 := Aside0.mk (below_step HB3.out hb)
            have KT_ := Aside0.mk (blk_below KT.out hb)
            have Kh_ := Aside0.mk (blk_below Kh.out hb)
            have KO_ := Aside0.mk (blk_below KO.out hb)
            clear KT
            have KT := KT_
            clear KT_
            clear Kh
            have Kh := Kh_
            clear Kh_
            clear KO
            have KO := KO_
            clear KO_
            clear hb
            try clear xT_3_0 xT_3_1 xh_3_0 xh_3_1 xO_3_0 xO_3_0f xO_3_1 xO_3_1f
            have xO_4_0 : w4.cell? ⟨gO, 0, none⟩ = some (.slice none 0 0) := (blk_cell KO.out 0).trans rfl
            have xO_4_0f := blk_frozen KO.out 0
            have xO_4_1 : w4.cell? ⟨gO, 1, none⟩ = some (.slice none 0 0) := (blk_cell KO.out 1).trans rfl
            have xO_4_1f := blk_frozen KO.out 1
            go_wp2_with fail
            refine bodyPost_ret (results_ct rfl _ _ gO 25 #[.slice An0 t250.length cn0, .slice An1 t253.length cn1] (0, 0) _ rfl (blk_put (blk_put KO.out 0 _ rfl) 1 _ rfl) Tryd.underlying25 rfl (by kernel_rfl)) rfl ?_
            exact ⟨_, _, rfl, Kd.R_lower (Kd.R_set (Kd.R_set Hn0.out KO.out (by decide) 0 _) (blk_put KO.out 0 _ rfl) (by decide) 1 _) HB3.out.size, Kd.R_lower (Kd.R_set (Kd.R_set Hn1.out KO.out (by decide) 0 _) (blk_put KO.out 0 _ rfl) (by decide) 1 _) HB3.out.size, below_set (below_set HB4.out bO.out) bO.out⟩
          · rw [if_neg c10] at H
            have c10b : (t249 == 0) = false := beq_eq_false_iff_ne.mpr c10
            have c10d : (t249 != 0) = true := bne_iff_ne.mpr c10
            clear c10
            simp only [Option.some.injEq, Prod.mk.injEq] at H
            obtain ⟨rfl, rfl, rfl⟩ := H
            go_wp2_with fail
            refine bodyPost_ret (results_ct rfl _ _ gO 25 #[.slice none 0 0, .slice none 0 0] (0, 0) _ rfl (blk_put (blk_put KO.out 0 _ rfl) 1 _ rfl) Tryd.underlying25 rfl (by kernel_rfl)) rfl ?_
            exact ⟨_, _, rfl, Kd.R_nil _ _ _ _ _, Kd.R_nil _ _ _ _ _, below_set (below_set HB3.out bO.out) bO.out⟩
        · rw [if_neg c8] at H
          have c8b : decide (a1_0 < (l0_0.length : Int)) = false := decide_eq_false c8
          clear c8
          exact absurd H (by simp)
      · rw [if_neg c7] at H
        have c7b : decide (0 ≤ a1_0) = false := decide_eq_false c7
        clear c7
        exact absurd H (by simp)
    · rw [if_neg c6] at H
      have c6b : (t246 == 0) = false := beq_eq_false_iff_ne.mpr c6
      have c6d : (t246 != 0) = true := bne_iff_ne.mpr c6
      clear c6
      simp only [Option.some.injEq, Prod.mk.injEq] at H
      obtain ⟨rfl, rfl, rfl⟩ := H
      go_wp2_with fail
      refine bodyPost_ret (results_ct rfl _ _ gO 25 #[.slice none 0 0, .slice none 0 0] (0, 0) _ rfl (blk_put (blk_put KO.out 0 _ rfl) 1 _ rfl) Tryd.underlying25 rfl (by kernel_rfl)) rfl ?_
      exact ⟨_, _, rfl, Kd.R_nil _ _ _ _ _, Kd.R_nil _ _ _ _ _, below_set (below_set HB2.out bO.out) bO.out⟩

end Go.Proofs.YtdchbcpfciljoaaDoor.Print

-- Written for this claim by a program out of the translation. Lean checks it.
import Derived.Test.YtdchbcpfciljoaaDoorPrint0
import Derived.StillTailTactics
import Derived.Test.YtdchbcpfciljoaaDoorPrintF20
import Derived.Test.YtdchbcpfciljoaaDoorPrintF46
import Derived.Test.YtdchbcpfciljoaaDoorPrintF49
namespace Go.Proofs.YtdchbcpfciljoaaDoor.Print
open Go.RowKit Go.Proofs.YtdchbcpfciljoaaDoor Go.Proofs.YtdchbcpfciljoaaDoor.Given Go.Proofs.YtdchbcpfciljoaaDoorW.PrintWords Go.Proofs.YtdchbcpfciljoaaDoorW.PrintLast Go.Proofs.YtdchbcpfciljoaaDoorW.PrintMore
attribute [local go_sem] max2_int min2_int max_two min_two max_three min_three max_four min_four   -- for this text's walks alone
set_option linter.unusedVariables false
set_option linter.unusedSimpArgs false

/-! ### turnspitref14_Step: function 29 -/
def turnspitref14_Step.j0 : Nat → Int → Int → Int → Bool → List Int → List (S52) → Option (List Int × (List (S52)) × Int)
  | 0, _, _, _, _, _, _ => none
  | k + 1, x1, x2, x3, x32, x257000, x257001 => if x32 = true then (some (([] : List Int), ([] : List (S52)), 1)) else (if 0 ≤ x1 then (if x1 < (x257000.length : Int) then ((turnspitref07_Next.f k (rd x257000 x1) x2 x3).bind fun bt260 => (if bt260.2 = 0 then (if x1 < (x257001.length : Int) then ((turnspitref14_With.f x257000 x257001 x1 bt260.1 ((rd_T52 x257001 x1).f0) ((rd_T52 x257001 x1).f1) ((rd_T52 x257001 x1).f2)).bind fun bt263 => (some (bt263.1, bt263.2, 0))) else (none)) else (some (([] : List Int), ([] : List (S52)), bt260.2)))) else (none)) else (none))
def turnspitref14_Step.f (k : Nat) (l0_0 : List Int) (l0_1 : List (S52)) (a1 : Int) (a2 : Int) (a3 : Int) : Option (List Int × (List (S52)) × Int) := (turnspitref14_Right.f k l0_0 l0_1).bind fun t258 => (if t258 = true then (if a1 < 0 then (turnspitref14_Step.j0 k a1 a2 a3 true l0_0 l0_1) else (if a1 ≥ (l0_0.length : Int) then (turnspitref14_Step.j0 k a1 a2 a3 true l0_0 l0_1) else (if a2 = 0 then (turnspitref14_Step.j0 k a1 a2 a3 true l0_0 l0_1) else (turnspitref14_Step.j0 k a1 a2 a3 (a2 == 1) l0_0 l0_1)))) else (some (([] : List Int), ([] : List (S52)), 4)))
theorem turnspitref14_Step.mono_l : ∀ k, (∀ y0 y1 y2 y3 y4 y5, LeO (turnspitref14_Step.j0 k y0 y1 y2 y3 y4 y5) (turnspitref14_Step.j0 (k + 1) y0 y1 y2 y3 y4 y5))
  | 0 => fun _ _ _ _ _ _ r h => by simp [turnspitref14_Step.j0] at h
  | k + 1 => by
    have ih0 := turnspitref14_Step.mono_l k
    · intro y0 y1 y2 y3 y4 y5
      unfold turnspitref14_Step.j0
      repeat' first
      | (with_reducible exact ih0 _ _ _ _ _ _)
      | (with_reducible exact turnspitref07_Next.mono _ _ _ _)
      | (with_reducible exact turnspitref14_Right.mono _ _ _)
      | (with_reducible exact LeO.refl _)
      | (with_reducible exact LeO.none _)
      | (with_reducible refine LeO.ite ?_ ?_)
      | (with_reducible refine LeO.bind ?_ (fun _ => ?_))
      | exact ih0 _ _ _ _ _ _
      | exact turnspitref07_Next.mono _ _ _ _
      | exact turnspitref14_Right.mono _ _ _
      | exact LeO.none _
      | refine LeO.ite ?_ ?_
      | refine LeO.bind ?_ (fun _ => ?_)
theorem turnspitref14_Step.mono : ∀ a0 a1 a2 a3 a4 k, LeO (turnspitref14_Step.f k a0 a1 a2 a3 a4) (turnspitref14_Step.f (k + 1) a0 a1 a2 a3 a4) := by
  intro a0 a1 a2 a3 a4 k
  have ih0 := turnspitref14_Step.mono_l k
  unfold turnspitref14_Step.f
  repeat' first
      | (with_reducible exact ih0 _ _ _ _ _ _)
      | (with_reducible exact turnspitref07_Next.mono _ _ _ _)
      | (with_reducible exact turnspitref14_Right.mono _ _ _)
      | (with_reducible exact LeO.refl _)
      | (with_reducible exact LeO.none _)
      | (with_reducible refine LeO.ite ?_ ?_)
      | (with_reducible refine LeO.bind ?_ (fun _ => ?_))
      | exact ih0 _ _ _ _ _ _
      | exact turnspitref07_Next.mono _ _ _ _
      | exact turnspitref14_Right.mono _ _ _
      | exact LeO.none _
      | refine LeO.ite ?_ ?_
      | refine LeO.bind ?_ (fun _ => ?_)
set_option maxHeartbeats 8000000 in
set_option maxRecDepth 100000 in
theorem turnspitref14_Step.calls (k : Nat) (A0_0 : Option Addr) (c0_0 : Nat) (l0_0 : List Int) (A0_1 : Option Addr) (c0_1 : Nat) (l0_1 : List (S52)) (a1 : Int) (a2 : Int) (a3 : Int) (r1 : List Int) (r2 : List (S52)) (r3 : Int) (w : World) (hr0_0 : Kd.C (Kd.int .u64) w A0_0 l0_0.length l0_0) (hc0_0 : l0_0.length ≤ c0_0) (hr0_1 : Kd.C k52 w A0_1 l0_1.length l0_1) (hc0_1 : l0_1.length ≤ c0_1) (HLd : Ld w) (h : turnspitref14_Step.f k l0_0 l0_1 a1 a2 a3 = some (r1, r2, r3)) :
    Calls Tryd.prog 29 #[.agg #[.slice A0_0 l0_0.length c0_0, .slice A0_1 l0_1.length c0_1], .int .i64 a1, .int .i64 a2, .int .i64 a3] w fun e w' => ∃ v0_ v1_ : Value, e = .returned (.tuple #[.agg #[v0_, v1_], .int .i64 r3]) ∧ Kd.R (Kd.int .u64) 28 w' w.heap.size (fun _ => True) v0_ r1 ∧ Kd.R k52 52 w' w.heap.size (fun _ => True) v1_ r2 ∧ Below w.heap.size w w' := by
  have hu25 := Tryd.underlying25
  have hu27 := Tryd.underlying27
  have hu52 := Tryd.underlying52
  have HR0 := Aside0.mk hr0_0
  have HC0 := Aside0.mk hc0_0
  have HR1 := Aside0.mk hr0_1
  have HC1 := Aside0.mk hc0_1
  have HL := Aside0.mk HLd
  clear hr0_0 hc0_0 hr0_1 hc0_1 HLd
  unfold turnspitref14_Step.f at h
  have H := h
  clear h
  obtain ⟨t258, A3_, H⟩ := Option.bind_eq_some_iff.1 H
  have A3 := Aside0.mk A3_
  clear A3_
  go_enter Tryd.func29, Tryd.ntmps29
  go_wp2_with fail
  refine (turnspitref14_Right.calls k A0_0 c0_0 l0_0 A0_1 c0_1 l0_1 t258 _ (Kd.C_below HR0.out (below_alloc (below_alloc (Below.refl w.heap.size w) _) _)) HC0.out (Kd.C_below HR1.out (below_alloc (below_alloc (Below.refl w.heap.size w) _) _)) HC1.out (Ld.below HL.out (by exact (below_alloc (below_alloc (Below.refl w.heap.size w) _) _))) A3.out).mono ?_
  rintro e w1 ⟨rfl, hb⟩
  have HB1 := Aside0.mk (below_step (below_alloc (below_alloc (Below.refl w.heap.size w) _) _) hb)
  have Kn_T : (w.alloc (.cells #[.slice A0_0 l0_0.length c0_0, .slice A0_1 l0_1.length c0_1] 25)).heap[w.heap.size]? = some (.cells #[.slice A0_0 l0_0.length c0_0, .slice A0_1 l0_1.length c0_1] 25 (0, 0)) := by have h_ := blk_new w (.cells #[.slice A0_0 l0_0.length c0_0, .slice A0_1 l0_1.length c0_1] 25); simpa only [World.size_alloc] using h_
  have Kn_O : ((w.alloc (.cells #[.slice A0_0 l0_0.length c0_0, .slice A0_1 l0_1.length c0_1] 25)).alloc (.cells #[.slice none 0 0, .slice none 0 0] 25)).heap[w.heap.size + 1]? = some (.cells #[.slice none 0 0, .slice none 0 0] 25 (0, 0)) := by have h_ := blk_new (w.alloc (.cells #[.slice A0_0 l0_0.length c0_0, .slice A0_1 l0_1.length c0_1] 25)) (.cells #[.slice none 0 0, .slice none 0 0] 25); simpa only [World.size_alloc] using h_
  have KT_ := Aside0.mk (blk_below (blk_alloc Kn_T _) hb)
  have KO_ := Aside0.mk (blk_below Kn_O hb)
  have KT := KT_
  clear KT_
  have KO := KO_
  clear KO_
  clear Kn_T
  clear Kn_O
  clear hb
  generalize hgO : w.heap.size + 1 = gO at KO ⊢
  have bO : Aside0 (w.heap.size ≤ gO) := ⟨by have h_ := ((Below.refl w.heap.size w) : Below w.heap.size w w).size; omega⟩
  clear hgO
  generalize hgT : w.heap.size = gT at KT ⊢
  have bT : Aside0 (w.heap.size ≤ gT) := ⟨by have h_ := ((Below.refl w.heap.size w) : Below w.heap.size w w).size; omega⟩
  clear hgT
  have xT_1_0 : w1.cell? ⟨gT, 0, none⟩ = some (.slice A0_0 l0_0.length c0_0) := (blk_cell KT.out 0).trans rfl
  have xT_1_1 : w1.cell? ⟨gT, 1, none⟩ = some (.slice A0_1 l0_1.length c0_1) := (blk_cell KT.out 1).trans rfl
  have xO_1_0 : w1.cell? ⟨gO, 0, none⟩ = some (.slice none 0 0) := (blk_cell KO.out 0).trans rfl
  have xO_1_0f := blk_frozen KO.out 0
  have xO_1_1 : w1.cell? ⟨gO, 1, none⟩ = some (.slice none 0 0) := (blk_cell KO.out 1).trans rfl
  have xO_1_1f := blk_frozen KO.out 1
  cases t258
  · rw [if_neg Bool.false_ne_true] at H
    simp only [Option.some.injEq, Prod.mk.injEq] at H
    obtain ⟨rfl, rfl, rfl⟩ := H
    go_wp2_with fail
    refine bodyPost_ret (results_ct rfl _ _ gO 25 #[.slice none 0 0, .slice none 0 0] (0, 0) _ rfl (blk_put (blk_put KO.out 0 _ rfl) 1 _ rfl) Tryd.underlying25 rfl (by kernel_rfl)) rfl ?_
    exact ⟨_, _, rfl, Kd.R_nil _ _ _ _ _, Kd.R_nil _ _ _ _ _, below_set (below_set HB1.out bO.out) bO.out⟩
  · rw [if_pos rfl] at H
    by_cases c1 : a1 < 0
    · rw [if_pos c1] at H
      have c1b : decide (a1 < 0) = true := decide_eq_true c1
      clear c1
      cases k with
      | zero => simp [turnspitref14_Step.j0] at H
      | succ k =>
        rw [turnspitref14_Step.j0, if_pos rfl] at H
        simp only [Option.some.injEq, Prod.mk.injEq] at H
        obtain ⟨rfl, rfl, rfl⟩ := H
        go_wp2_with fail
        refine bodyPost_ret (results_ct rfl _ _ gO 25 #[.slice none 0 0, .slice none 0 0] (0, 0) _ rfl (blk_put (blk_put KO.out 0 _ rfl) 1 _ rfl) Tryd.underlying25 rfl (by kernel_rfl)) rfl ?_
        exact ⟨_, _, rfl, Kd.R_nil _ _ _ _ _, Kd.R_nil _ _ _ _ _, below_set (below_set HB1.out bO.out) bO.out⟩
    · rw [if_neg c1] at H
      have c1b : decide (a1 < 0) = false := decide_eq_false c1
      clear c1
      by_cases c2 : (l0_0.length : Int) ≤ a1
      · rw [if_pos c2] at H
        have c2b : decide ((l0_0.length : Int) ≤ a1) = true := decide_eq_true c2
        clear c2
        cases k with
        | zero => simp [turnspitref14_Step.j0] at H
        | succ k =>
          rw [turnspitref14_Step.j0, if_pos rfl] at H
          simp only [Option.some.injEq, Prod.mk.injEq] at H
          obtain ⟨rfl, rfl, rfl⟩ := H
          go_wp2_with fail
          refine bodyPost_ret (results_ct rfl _ _ gO 25 #[.slice none 0 0, .slice none 0 0] (0, 0) _ rfl (blk_put (blk_put KO.out 0 _ rfl) 1 _ rfl) Tryd.underlying25 rfl (by kernel_rfl)) rfl ?_
          exact ⟨_, _, rfl, Kd.R_nil _ _ _ _ _, Kd.R_nil _ _ _ _ _, below_set (below_set HB1.out bO.out) bO.out⟩
      · rw [if_neg c2] at H
        have c2b : decide ((l0_0.length : Int) ≤ a1) = false := decide_eq_false c2
        clear c2
        by_cases c3 : a2 = 0
        · rw [if_pos c3] at H
          have c3b : (a2 == 0) = true := beq_iff_eq.mpr c3
          have c3d : (a2 != 0) = false := bne_eq_false_iff_eq.mpr c3
          clear c3
          cases k with
          | zero => simp [turnspitref14_Step.j0] at H
          | succ k =>
            rw [turnspitref14_Step.j0, if_pos rfl] at H
            simp only [Option.some.injEq, Prod.mk.injEq] at H
            obtain ⟨rfl, rfl, rfl⟩ := H
            go_wp2_with fail
            refine bodyPost_ret (results_ct rfl _ _ gO 25 #[.slice none 0 0, .slice none 0 0] (0, 0) _ rfl (blk_put (blk_put KO.out 0 _ rfl) 1 _ rfl) Tryd.underlying25 rfl (by kernel_rfl)) rfl ?_
            exact ⟨_, _, rfl, Kd.R_nil _ _ _ _ _, Kd.R_nil _ _ _ _ _, below_set (below_set HB1.out bO.out) bO.out⟩
        · rw [if_neg c3] at H
          have c3b : (a2 == 0) = false := beq_eq_false_iff_ne.mpr c3
          have c3d : (a2 != 0) = true := bne_iff_ne.mpr c3
          clear c3
          cases c4b : a2 == 1
          · rw [c4b] at H
            cases k with
            | zero => simp [turnspitref14_Step.j0] at H
            | succ k =>
              rw [turnspitref14_Step.j0, if_neg Bool.false_ne_true] at H
              have e1 : 0 ≤ a1 := by have := of_decide_eq_false c1b; omega
              have e2 : a1 < (l0_0.length : Int) := by have := of_decide_eq_false c2b; omega
              rw [if_pos e1, if_pos e2] at H
              have e1b := decide_eq_true e1
              have e2b := decide_eq_true e2
              clear e1 e2
              obtain ⟨⟨t260, t261⟩, A9_, H⟩ := Option.bind_eq_some_iff.1 H
              have A9 := Aside0.mk A9_
              clear A9_
              obtain ⟨ad, ead, hx⟩ := Kd.at_int HR0.out a1 (of_decide_eq_true e1b) (of_decide_eq_true e2b)
              subst ead
              have hx_ : w1.cell? (ad.add (a1).toNat) = some (.int .u64 (rd l0_0 a1)) := pw_cell_below HB1.out hx
              clear hx
              have p7 := eq_true (of_decide_eq_true e1b)
              have p8 := eq_true (of_decide_eq_true e2b)
              go_wp2_with fail
              refine (turnspitref07_Next.calls k (rd l0_0 a1) a2 a3 t260 t261 _ (Ld.below HL.out (by exact HB1.out)) A9.out).mono ?_
              rintro e w2 ⟨rfl, hb⟩
              have HB2 := Aside0.mk (below_step HB1.out hb)
              have KT_ := Aside0.mk (blk_below KT.out hb)
              have KO_ := Aside0.mk (blk_below KO.out hb)
              clear KT
              have KT := KT_
              clear KT_
              clear KO
              have KO := KO_
              clear KO_
              clear hb
              try clear xT_1_0 xT_1_1 xO_1_0 xO_1_0f xO_1_1 xO_1_1f
              have xT_2_0 : w2.cell? ⟨gT, 0, none⟩ = some (.slice (some ad) l0_0.length c0_0) := (blk_cell KT.out 0).trans rfl
              have xT_2_1 : w2.cell? ⟨gT, 1, none⟩ = some (.slice A0_1 l0_1.length c0_1) := (blk_cell KT.out 1).trans rfl
              have xO_2_0 : w2.cell? ⟨gO, 0, none⟩ = some (.slice none 0 0) := (blk_cell KO.out 0).trans rfl
              have xO_2_0f := blk_frozen KO.out 0
              have xO_2_1 : w2.cell? ⟨gO, 1, none⟩ = some (.slice none 0 0) := (blk_cell KO.out 1).trans rfl
              have xO_2_1f := blk_frozen KO.out 1
              by_cases c10 : t261 = 0
              · rw [if_pos c10] at H
                have c10b : (t261 == 0) = true := beq_iff_eq.mpr c10
                have c10d : (t261 != 0) = false := bne_eq_false_iff_eq.mpr c10
                clear c10
                by_cases c11 : a1 < (l0_1.length : Int)
                · rw [if_pos c11] at H
                  have c11b : decide (a1 < (l0_1.length : Int)) = true := decide_eq_true c11
                  clear c11
                  obtain ⟨⟨t250, t253⟩, A11_, H⟩ := Option.bind_eq_some_iff.1 H
                  have A11 := Aside0.mk A11_
                  clear A11_
                  simp only [Option.some.injEq, Prod.mk.injEq] at H
                  obtain ⟨rfl, rfl, rfl⟩ := H
                  obtain ⟨ad1, ead1, hy0, hy1, hy2⟩ := at_T52 HR1.out a1 (of_decide_eq_true e1b) (of_decide_eq_true c11b)
                  subst ead1
                  have hy0_ := pw_cell_below HB2.out hy0
                  have hy1_ := pw_cell_below HB2.out hy1
                  have hy2_ := pw_cell_below HB2.out hy2
                  clear hy0 hy1 hy2
                  have p9 := eq_true (of_decide_eq_true c11b)
                  go_wp2_with fail
                  refine wp_region_still_tail 8 (by kernel_rfl) (by kernel_rfl) ?_
                  simp only [List.take_succ_cons, List.take_zero, List.drop_succ_cons, List.drop_zero]
                  repeat still_step
                  try refine wpStill_nil ?_
                  change wpList _ _ _ _ _ w2.drew
                  have HBd := Aside0.mk (below_drew1 HB2.out)
                  have KO_ : Aside0 (w2.drew.heap[gO]? = some (.cells #[.slice none 0 0, .slice none 0 0] 25 (0, 0))) := KO
                  generalize w2.drew = wd at HBd KO_ ⊢
                  clear KO KT
                  have KO := KO_
                  clear KO_
                  go_wp2_with fail
                  refine (turnspitref14_With.calls (some ad) c0_0 l0_0 (some ad1) c0_1 l0_1 a1 t260 (rd_T52 l0_1 a1).f0 (rd_T52 l0_1 a1).f1 (rd_T52 l0_1 a1).f2 t250 t253 _ (Kd.C_below HR0.out HBd.out) HC0.out (Kd.C_below HR1.out HBd.out) HC1.out (Ld.below HL.out (by exact HBd.out)) A11.out).mono ?_
                  rintro e w3 ⟨vn0, vn1, rfl, ho0, ho1, hb⟩
                  obtain ⟨An0, cn0, rfl⟩ := Kd.R_slice ho0
                  obtain ⟨An1, cn1, rfl⟩ := Kd.R_slice ho1
                  have Hn0 := Aside0.mk ho0
                  have Hn1 := Aside0.mk ho1
                  clear ho0 ho1
                  have HB3 := Aside0.mk (below_step HBd.out hb)
                  have KO_ := Aside0.mk (blk_below KO.out hb)
                  clear KO
                  have KO := KO_
                  clear KO_
                  clear hb
                  try clear xT_2_0 xT_2_1 xO_2_0 xO_2_0f xO_2_1 xO_2_1f
                  have xO_3_0 : w3.cell? ⟨gO, 0, none⟩ = some (.slice none 0 0) := (blk_cell KO.out 0).trans rfl
                  have xO_3_0f := blk_frozen KO.out 0
                  have xO_3_1 : w3.cell? ⟨gO, 1, none⟩ = some (.slice none 0 0) := (blk_cell KO.out 1).trans rfl
                  have xO_3_1f := blk_frozen KO.out 1
                  go_wp2_with fail
                  refine bodyPost_ret (results_ct rfl _ _ gO 25 #[.slice An0 t250.length cn0, .slice An1 t253.length cn1] (0, 0) _ rfl (blk_put (blk_put KO.out 0 _ rfl) 1 _ rfl) Tryd.underlying25 rfl (by kernel_rfl)) rfl ?_
                  exact ⟨_, _, rfl, Kd.R_lower (Kd.R_set (Kd.R_set Hn0.out KO.out (by decide) 0 _) (blk_put KO.out 0 _ rfl) (by decide) 1 _) HBd.out.size, Kd.R_lower (Kd.R_set (Kd.R_set Hn1.out KO.out (by decide) 0 _) (blk_put KO.out 0 _ rfl) (by decide) 1 _) HBd.out.size, below_set (below_set HB3.out bO.out) bO.out⟩
                · rw [if_neg c11] at H
                  have c11b : decide (a1 < (l0_1.length : Int)) = false := decide_eq_false c11
                  clear c11
                  exact absurd H (by simp)
              · rw [if_neg c10] at H
                have c10b : (t261 == 0) = false := beq_eq_false_iff_ne.mpr c10
                have c10d : (t261 != 0) = true := bne_iff_ne.mpr c10
                clear c10
                simp only [Option.some.injEq, Prod.mk.injEq] at H
                obtain ⟨rfl, rfl, rfl⟩ := H
                go_wp2_with fail
                refine bodyPost_ret (results_ct rfl _ _ gO 25 #[.slice none 0 0, .slice none 0 0] (0, 0) _ rfl (blk_put (blk_put KO.out 0 _ rfl) 1 _ rfl) Tryd.underlying25 rfl (by kernel_rfl)) rfl ?_
                exact ⟨_, _, rfl, Kd.R_nil _ _ _ _ _, Kd.R_nil _ _ _ _ _, below_set (below_set HB2.out bO.out) bO.out⟩
          · rw [c4b] at H
            cases k with
            | zero => simp [turnspitref14_Step.j0] at H
            | succ k =>
              rw [turnspitref14_Step.j0, if_pos rfl] at H
              simp only [Option.some.injEq, Prod.mk.injEq] at H
              obtain ⟨rfl, rfl, rfl⟩ := H
              go_wp2_with fail
              refine bodyPost_ret (results_ct rfl _ _ gO 25 #[.slice none 0 0, .slice none 0 0] (0, 0) _ rfl (blk_put (blk_put KO.out 0 _ rfl) 1 _ rfl) Tryd.underlying25 rfl (by kernel_rfl)) rfl ?_
              exact ⟨_, _, rfl, Kd.R_nil _ _ _ _ _, Kd.R_nil _ _ _ _ _, below_set (below_set HB1.out bO.out) bO.out⟩

end Go.Proofs.YtdchbcpfciljoaaDoor.Print

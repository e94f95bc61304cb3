-- Written for this claim by a program out of the translation. Lean checks it.
import Derived.Test.YtdchbcpfciljoaaDoorPrint0
import Derived.Test.YtdchbcpfciljoaaDoorPrintE
import Derived.Test.YtdchbcpfciljoaaDoorPrintF43
namespace Go.Proofs.YtdchbcpfciljoaaDoor.Print
open Go.RowKit Go.Proofs.YtdchbcpfciljoaaDoor Go.Proofs.YtdchbcpfciljoaaDoor.Given Go.Proofs.YtdchbcpfciljoaaDoorW.PrintWords Go.Proofs.YtdchbcpfciljoaaDoorW.PrintLast Go.Proofs.YtdchbcpfciljoaaDoorW.PrintMore
attribute [local go_sem] max2_int min2_int max_two min_two max_three min_three max_four min_four   -- for this text's walks alone
set_option linter.unusedVariables false
set_option linter.unusedSimpArgs false

attribute [local go_sem high] eqA52
/-! ### turnspitref14_Right: function 20 -/
mutual
def turnspitref14_Right.j0 : Nat → Bool → List Int → List (S52) → Option (Bool)
  | 0, _, _, _ => none
  | k + 1, x19, x153000, x153001 => if x19 = true then (some false) else (turnspitref14_Right.l0 k 0 x153000 x153001)
def turnspitref14_Right.l0 : Nat → Int → List Int → List (S52) → Option (Bool)
  | 0, _, _, _ => none
  | k + 1, x3, x153000, x153001 => if x3 < (x153000.length : Int) then (if 0 ≤ x3 then ((turnspitref06_Unpack.f (rd x153000 x3)).bind fun bt154 => (if x3 < (x153001.length : Int) then (if bt154.2.2.2.2.2 = 0 then (if bt154.1 = 0 then (turnspitref14_Right.j2 k x3 (!(((rd_T52 x153001 x3).f0) == 0) || (!(((rd_T52 x153001 x3).f1) == 0) || (!(((rd_T52 x153001 x3).f2) == 0)))) x153000 x153001 bt154.1 bt154.2.1 bt154.2.2.1 bt154.2.2.2.1 bt154.2.2.2.2.1 ((rd_T52 x153001 x3).f0) ((rd_T52 x153001 x3).f1) ((rd_T52 x153001 x3).f2)) else (turnspitref14_Right.j2 k x3 false x153000 x153001 bt154.1 bt154.2.1 bt154.2.2.1 bt154.2.2.2.1 bt154.2.2.2.2.1 ((rd_T52 x153001 x3).f0) ((rd_T52 x153001 x3).f1) ((rd_T52 x153001 x3).f2))) else (turnspitref14_Right.j2 k x3 true x153000 x153001 bt154.1 bt154.2.1 bt154.2.2.1 bt154.2.2.2.1 bt154.2.2.2.2.1 ((rd_T52 x153001 x3).f0) ((rd_T52 x153001 x3).f1) ((rd_T52 x153001 x3).f2))) else (none))) else (none)) else (some true)
def turnspitref14_Right.j2 : Nat → Int → Bool → List Int → List (S52) → Int → Int → Bool → Int → Int → Int → Int → Int → Option (Bool)
  | 0, _, _, _, _, _, _, _, _, _, _, _, _ => none
  | k + 1, x3, x52, x153000, x153001, x161000, x161001, x161002, x161003, x161004, x163000, x163001, x163002 => if x52 = true then (some false) else (if x161000 = 0 then (turnspitref14_Right.l0 k (wrap64 (x3 + 1)) x153000 x153001) else (if x163000 < (-20) then (some false) else (if x163000 > 19 then (some false) else (if x163001 = 0 then (some false) else (if x163002 < (-1125899906842624) then (some false) else (if x163002 > 1125899906842624 then (some false) else (turnspitref14_Right.l0 k (wrap64 (x3 + 1)) x153000 x153001)))))))
end
def turnspitref14_Right.f (k : Nat) (l0_0 : List Int) (l0_1 : List (S52)) : Option (Bool) := if (l0_0.length : Int) > 64 then (turnspitref14_Right.j0 k true l0_0 l0_1) else (turnspitref14_Right.j0 k ((l0_0.length : Int) != (l0_1.length : Int)) l0_0 l0_1)
theorem turnspitref14_Right.mono_l : ∀ k, (∀ y0 y1 y2, LeO (turnspitref14_Right.j0 k y0 y1 y2) (turnspitref14_Right.j0 (k + 1) y0 y1 y2)) ∧ (∀ y0 y1 y2, LeO (turnspitref14_Right.l0 k y0 y1 y2) (turnspitref14_Right.l0 (k + 1) y0 y1 y2)) ∧ (∀ y0 y1 y2 y3 y4 y5 y6 y7 y8 y9 y10 y11, LeO (turnspitref14_Right.j2 k y0 y1 y2 y3 y4 y5 y6 y7 y8 y9 y10 y11) (turnspitref14_Right.j2 (k + 1) y0 y1 y2 y3 y4 y5 y6 y7 y8 y9 y10 y11))
  | 0 => ⟨fun _ _ _ r h => by simp [turnspitref14_Right.j0] at h, fun _ _ _ r h => by simp [turnspitref14_Right.l0] at h, fun _ _ _ _ _ _ _ _ _ _ _ _ r h => by simp [turnspitref14_Right.j2] at h⟩
  | k + 1 => by
    obtain ⟨ih0, ih1, ih2⟩ := turnspitref14_Right.mono_l k
    refine ⟨?_, ?_, ?_⟩
    · intro y0 y1 y2
      unfold turnspitref14_Right.j0
      repeat' first
      | (with_reducible exact ih0 _ _ _)
      | (with_reducible exact ih1 _ _ _)
      | (with_reducible exact ih2 _ _ _ _ _ _ _ _ _ _ _ _)
      | (with_reducible exact LeO.refl _)
      | (with_reducible exact LeO.none _)
      | (with_reducible refine LeO.ite ?_ ?_)
      | (with_reducible refine LeO.bind ?_ (fun _ => ?_))
      | exact ih0 _ _ _
      | exact ih1 _ _ _
      | exact ih2 _ _ _ _ _ _ _ _ _ _ _ _
      | exact LeO.none _
      | refine LeO.ite ?_ ?_
      | refine LeO.bind ?_ (fun _ => ?_)
    · intro y0 y1 y2
      unfold turnspitref14_Right.l0
      repeat' first
      | (with_reducible exact ih0 _ _ _)
      | (with_reducible exact ih1 _ _ _)
      | (with_reducible exact ih2 _ _ _ _ _ _ _ _ _ _ _ _)
      | (with_reducible exact LeO.refl _)
      | (with_reducible exact LeO.none _)
      | (with_reducible refine LeO.ite ?_ ?_)
      | (with_reducible refine LeO.bind ?_ (fun _ => ?_))
      | exact ih0 _ _ _
      | exact ih1 _ _ _
      | exact ih2 _ _ _ _ _ _ _ _ _ _ _ _
      | exact LeO.none _
      | refine LeO.ite ?_ ?_
      | refine LeO.bind ?_ (fun _ => ?_)
    · intro y0 y1 y2 y3 y4 y5 y6 y7 y8 y9 y10 y11
      unfold turnspitref14_Right.j2
      repeat' first
      | (with_reducible exact ih0 _ _ _)
      | (with_reducible exact ih1 _ _ _)
      | (with_reducible exact ih2 _ _ _ _ _ _ _ _ _ _ _ _)
      | (with_reducible exact LeO.refl _)
      | (with_reducible exact LeO.none _)
      | (with_reducible refine LeO.ite ?_ ?_)
      | (with_reducible refine LeO.bind ?_ (fun _ => ?_))
      | exact ih0 _ _ _
      | exact ih1 _ _ _
      | exact ih2 _ _ _ _ _ _ _ _ _ _ _ _
      | exact LeO.none _
      | refine LeO.ite ?_ ?_
      | refine LeO.bind ?_ (fun _ => ?_)
theorem turnspitref14_Right.mono : ∀ a0 a1 k, LeO (turnspitref14_Right.f k a0 a1) (turnspitref14_Right.f (k + 1) a0 a1) := by
  intro a0 a1 k
  obtain ⟨ih0, ih1, ih2⟩ := turnspitref14_Right.mono_l k
  unfold turnspitref14_Right.f
  repeat' first
      | (with_reducible exact ih0 _ _ _)
      | (with_reducible exact ih1 _ _ _)
      | (with_reducible exact ih2 _ _ _ _ _ _ _ _ _ _ _ _)
      | (with_reducible exact LeO.refl _)
      | (with_reducible exact LeO.none _)
      | (with_reducible refine LeO.ite ?_ ?_)
      | (with_reducible refine LeO.bind ?_ (fun _ => ?_))
      | exact ih0 _ _ _
      | exact ih1 _ _ _
      | exact ih2 _ _ _ _ _ _ _ _ _ _ _ _
      | exact LeO.none _
      | refine LeO.ite ?_ ?_
      | refine LeO.bind ?_ (fun _ => ?_)
set_option maxHeartbeats 8000000 in
set_option maxRecDepth 100000 in
theorem turnspitref14_Right.calls (k : Nat) (A0_0 : Option Addr) (c0_0 : Nat) (l0_0 : List Int) (A0_1 : Option Addr) (c0_1 : Nat) (l0_1 : List (S52)) (r : Bool) (w : World) (hr0_0 : Kd.C (Kd.int .u64) w A0_0 l0_0.length l0_0) (hc0_0 : l0_0.length ≤ c0_0) (hr0_1 : Kd.C k52 w A0_1 l0_1.length l0_1) (hc0_1 : l0_1.length ≤ c0_1) (HLd : Ld w) (h : turnspitref14_Right.f k l0_0 l0_1 = some r) :
    Calls Tryd.prog 20 #[.agg #[.slice A0_0 l0_0.length c0_0, .slice A0_1 l0_1.length c0_1]] w fun e w' => e = .returned (.bool r) ∧ Below w.heap.size w w' := by
  have hu25 := Tryd.underlying25
  have hu27 := Tryd.underlying27
  have hu52 := Tryd.underlying52
  have HR0 := Aside0.mk hr0_0
  have HC0 := Aside0.mk hc0_0
  have HR1 := Aside0.mk hr0_1
  have HC1 := Aside0.mk hc0_1
  have HL := Aside0.mk HLd
  clear hr0_0 hc0_0 hr0_1 hc0_1 HLd
  have hu77 := Tryd.underlying77
  unfold turnspitref14_Right.f at h
  have H := h
  clear h
  go_enter Tryd.func20, Tryd.ntmps20
  by_cases c1 : 64 < (l0_0.length : Int)
  · rw [if_pos c1] at H
    have c1b : decide (64 < (l0_0.length : Int)) = true := decide_eq_true c1
    clear c1
    cases k with
    | zero => simp [turnspitref14_Right.j0] at H
    | succ k =>
      rw [turnspitref14_Right.j0, if_pos rfl] at H
      obtain rfl := Option.some.inj H
      go_wp2_with fail
      go_ret
      exact ⟨rfl, by repeat (first | exact Below.refl _ _ | apply below_alloc)⟩
  · rw [if_neg c1] at H
    have c1b : decide (64 < (l0_0.length : Int)) = false := decide_eq_false c1
    clear c1
    cases c2b : ((l0_0.length : Int) != (l0_1.length : Int))
    · rw [c2b] at H
      cases k with
      | zero => simp [turnspitref14_Right.j0] at H
      | succ k =>
        rw [turnspitref14_Right.j0, if_neg Bool.false_ne_true] at H
        go_wp2_with fail
        have KT := Aside0.mk (blk_new w (.cells #[.slice A0_0 l0_0.length c0_0, .slice A0_1 l0_1.length c0_1] 25))
        have HB1 := Aside0.mk (below_alloc (Below.refl w.heap.size w) (.cells #[.slice A0_0 l0_0.length c0_0, .slice A0_1 l0_1.length c0_1] 25))
        have HX := Aside0.mk H
        clear H
        try clear HX_
        go_loopg [3] k (fun kq v_ w' => ∃ (i : Int) (wl : World), v_ = .int .i64 i ∧ wl = w' ∧ Aside0 (turnspitref14_Right.l0 kq i l0_0 l0_1 = some r) ∧ Aside0 (kq ≤ k) ∧ Aside0 (Below w.heap.size w w') ∧ Aside0 (w'.heap[w.heap.size]? = some (.cells #[.slice A0_0 l0_0.length c0_0, .slice A0_1 l0_1.length c0_1] 25 (0, 0))))
        case atStart => exact ⟨0, _, rfl, rfl, HX, ⟨Nat.le_refl _⟩, HB1, KT⟩
        case round =>
          clear HX KT
          obtain ⟨i, wl, rfl, rfl, HA, HK1, HBl, KT⟩ := hrel
          cases gk with
          | zero => exact absurd HA.out (by simp [turnspitref14_Right.l0])
          | succ k1 =>
            have H := HA.out
            clear HA
            simp only [turnspitref14_Right.l0] at H
            have xT_20_0 : wl.cell? ⟨w.heap.size, 0, none⟩ = some (.slice A0_0 l0_0.length c0_0) := (blk_cell KT.out 0).trans rfl
            have xT_20_1 : wl.cell? ⟨w.heap.size, 1, none⟩ = some (.slice A0_1 l0_1.length c0_1) := (blk_cell KT.out 1).trans rfl
            by_cases il : i < (l0_0.length : Int)
            · rw [if_pos il] at H
              have ilb : decide (i < (l0_0.length : Int)) = true := decide_eq_true il
              clear il
              by_cases i0 : 0 ≤ i
              · rw [if_pos i0] at H
                have i0b : decide (0 ≤ i) = true := decide_eq_true i0
                clear i0
                obtain ⟨⟨t1, t2, t3, t4, t5, t6⟩, A6_, H⟩ := Option.bind_eq_some_iff.1 H
                have A6 := Aside0.mk A6_
                clear A6_
                by_cases i1 : i < (l0_1.length : Int)
                · rw [if_pos i1] at H
                  have i1b : decide (i < (l0_1.length : Int)) = true := decide_eq_true i1
                  clear i1
                  obtain ⟨ad, ead, hx⟩ := Kd.at_int HR0.out i (of_decide_eq_true i0b) (of_decide_eq_true ilb)
                  subst ead
                  have hx_ : wl.cell? (ad.add (i).toNat) = some (.int .u64 (rd l0_0 i)) := pw_cell_below HBl.out hx
                  clear hx
                  have p7 := eq_true (of_decide_eq_true i0b)
                  have p8 := eq_true (of_decide_eq_true ilb)
                  obtain ⟨ad1, ead1, hy0, hy1, hy2⟩ := at_T52 HR1.out i (of_decide_eq_true i0b) (of_decide_eq_true i1b)
                  subst ead1
                  have p9 := eq_true (of_decide_eq_true i1b)
                  go_wp2_with fail
                  refine (turnspitref06_Unpack.calls (rd l0_0 i) t1 t2 t3 t4 t5 t6 _ (Ld.below HL.out (by exact HBl.out)) A6.out).mono ?_
                  rintro e w21 ⟨rfl, hb⟩
                  have HB21 := Aside0.mk (below_step HBl.out hb)
                  have KT_ := Aside0.mk (blk_below KT.out hb)
                  clear KT
                  have KT := KT_
                  clear KT_
                  clear hb
                  try clear xT_20_0 xT_20_1
                  have yT_21 : w.heap.size < w21.heap.size := blk_lt KT.out
                  have yT_21z0 : (w.heap.size = w21.heap.size) = False := eq_false (by omega)
                  have yT_21z1 : (w21.heap.size = w.heap.size) = False := eq_false (by omega)
                  have yT_21z2 : (w.heap.size = w21.heap.size + 1) = False := eq_false (by omega)
                  have yT_21z3 : (w21.heap.size + 1 = w.heap.size) = False := eq_false (by omega)
                  have xT_21_0 : w21.cell? ⟨w.heap.size, 0, none⟩ = some (.slice (some ad) l0_0.length c0_0) := (blk_cell KT.out 0).trans rfl
                  have xT_21_1 : w21.cell? ⟨w.heap.size, 1, none⟩ = some (.slice (some ad1) l0_1.length c0_1) := (blk_cell KT.out 1).trans rfl
                  have hy0_ := fun o => pw_cell_below (below_alloc HB21.out o) hy0
                  have hy1_ := fun o => pw_cell_below (below_alloc HB21.out o) hy1
                  have hy2_ := fun o => pw_cell_below (below_alloc HB21.out o) hy2
                  clear hy0 hy1 hy2
                  by_cases er : t6 = 0
                  · rw [if_pos er] at H
                    have erb : (t6 == 0) = true := beq_iff_eq.mpr er
                    have erd : (t6 != 0) = false := bne_eq_false_iff_eq.mpr er
                    clear er
                    by_cases c1_ : t1 = 0
                    · rw [if_pos c1_] at H
                      have c1b_ : (t1 == 0) = true := beq_iff_eq.mpr c1_
                      have c1d_ : (t1 != 0) = false := bne_eq_false_iff_eq.mpr c1_
                      clear c1_
                      have d1b := c1b_
                      cases hX : (!(((rd_T52 l0_1 i).f0) == 0) || (!(((rd_T52 l0_1 i).f1) == 0) || (!(((rd_T52 l0_1 i).f2) == 0))))
                      · rw [hX] at H
                        cases k1 with
                        | zero => simp [turnspitref14_Right.j2] at H
                        | succ k1 =>
                          rw [turnspitref14_Right.j2, if_neg Bool.false_ne_true] at H
                          rw [if_pos (eq_of_beq d1b)] at H
                          go_wp2_with fail
                          go_roundg k1
                          case measure => have := HK1.out; omega
                          case rel => exact ⟨wrap64 (i + 1), _, rfl, rfl, ⟨H⟩, ⟨by have := HK1.out; omega⟩, ⟨by repeat (first | exact HB21.out | apply below_alloc)⟩, ⟨by repeat (first | exact KT.out | refine blk_alloc ?_ _)⟩⟩
                      · rw [hX] at H
                        cases k1 with
                        | zero => simp [turnspitref14_Right.j2] at H
                        | succ k1 =>
                          rw [turnspitref14_Right.j2, if_pos rfl] at H
                          obtain rfl := Option.some.inj H
                          go_wp2_with fail
                          go_ret
                          exact ⟨rfl, by repeat (first | exact HB21.out | apply below_alloc)⟩
                    · rw [if_neg c1_] at H
                      have c1b_ : (t1 == 0) = false := beq_eq_false_iff_ne.mpr c1_
                      have c1d_ : (t1 != 0) = true := bne_iff_ne.mpr c1_
                      clear c1_
                      have d1b := c1b_
                      cases k1 with
                      | zero => simp [turnspitref14_Right.j2] at H
                      | succ k1 =>
                        rw [turnspitref14_Right.j2, if_neg Bool.false_ne_true] at H
                        rw [if_neg (by simpa using d1b)] at H
                        by_cases g1 : (rd_T52 l0_1 i).f0 < (-20)
                        · rw [if_pos g1] at H
                          have g1b : decide ((rd_T52 l0_1 i).f0 < (-20)) = true := decide_eq_true g1
                          clear g1
                          obtain rfl := Option.some.inj H
                          go_wp2_with fail
                          go_ret
                          exact ⟨rfl, by repeat (first | exact HB21.out | apply below_alloc)⟩
                        · rw [if_neg g1] at H
                          have g1b : decide ((rd_T52 l0_1 i).f0 < (-20)) = false := decide_eq_false g1
                          clear g1
                          by_cases g2 : 19 < (rd_T52 l0_1 i).f0
                          · rw [if_pos g2] at H
                            have g2b : decide (19 < (rd_T52 l0_1 i).f0) = true := decide_eq_true g2
                            clear g2
                            obtain rfl := Option.some.inj H
                            go_wp2_with fail
                            go_ret
                            exact ⟨rfl, by repeat (first | exact HB21.out | apply below_alloc)⟩
                          · rw [if_neg g2] at H
                            have g2b : decide (19 < (rd_T52 l0_1 i).f0) = false := decide_eq_false g2
                            clear g2
                            by_cases g3 : (rd_T52 l0_1 i).f1 = 0
                            · rw [if_pos g3] at H
                              have g3b : ((rd_T52 l0_1 i).f1 == 0) = true := beq_iff_eq.mpr g3
                              have g3d : ((rd_T52 l0_1 i).f1 != 0) = false := bne_eq_false_iff_eq.mpr g3
                              clear g3
                              obtain rfl := Option.some.inj H
                              go_wp2_with fail
                              go_ret
                              exact ⟨rfl, by repeat (first | exact HB21.out | apply below_alloc)⟩
                            · rw [if_neg g3] at H
                              have g3b : ((rd_T52 l0_1 i).f1 == 0) = false := beq_eq_false_iff_ne.mpr g3
                              have g3d : ((rd_T52 l0_1 i).f1 != 0) = true := bne_iff_ne.mpr g3
                              clear g3
                              by_cases g4 : (rd_T52 l0_1 i).f2 < (-1125899906842624)
                              · rw [if_pos g4] at H
                                have g4b : decide ((rd_T52 l0_1 i).f2 < (-1125899906842624)) = true := decide_eq_true g4
                                clear g4
                                obtain rfl := Option.some.inj H
                                go_wp2_with fail
                                go_ret
                                exact ⟨rfl, by repeat (first | exact HB21.out | apply below_alloc)⟩
                              · rw [if_neg g4] at H
                                have g4b : decide ((rd_T52 l0_1 i).f2 < (-1125899906842624)) = false := decide_eq_false g4
                                clear g4
                                by_cases g5 : 1125899906842624 < (rd_T52 l0_1 i).f2
                                · rw [if_pos g5] at H
                                  have g5b : decide (1125899906842624 < (rd_T52 l0_1 i).f2) = true := decide_eq_true g5
                                  clear g5
                                  obtain rfl := Option.some.inj H
                                  go_wp2_with fail
                                  go_ret
                                  exact ⟨rfl, by repeat (first | exact HB21.out | apply below_alloc)⟩
                                · rw [if_neg g5] at H
                                  have g5b : decide (1125899906842624 < (rd_T52 l0_1 i).f2) = false := decide_eq_false g5
                                  clear g5
                                  go_wp2_with fail
                                  go_roundg k1
                                  case measure => have := HK1.out; omega
                                  case rel => exact ⟨wrap64 (i + 1), _, rfl, rfl, ⟨H⟩, ⟨by have := HK1.out; omega⟩, ⟨by repeat (first | exact HB21.out | apply below_alloc)⟩, ⟨by repeat (first | exact KT.out | refine blk_alloc ?_ _)⟩⟩
                  · rw [if_neg er] at H
                    have erb : (t6 == 0) = false := beq_eq_false_iff_ne.mpr er
                    have erd : (t6 != 0) = true := bne_iff_ne.mpr er
                    clear er
                    cases k1 with
                    | zero => simp [turnspitref14_Right.j2] at H
                    | succ k1 =>
                      rw [turnspitref14_Right.j2, if_pos rfl] at H
                      obtain rfl := Option.some.inj H
                      go_wp2_with fail
                      go_ret
                      exact ⟨rfl, by repeat (first | exact HB21.out | apply below_alloc)⟩
                · rw [if_neg i1] at H
                  have i1b : decide (i < (l0_1.length : Int)) = false := decide_eq_false i1
                  clear i1
                  exact absurd H (by simp)
              · rw [if_neg i0] at H
                have i0b : decide (0 ≤ i) = false := decide_eq_false i0
                clear i0
                exact absurd H (by simp)
            · rw [if_neg il] at H
              have ilb : decide (i < (l0_0.length : Int)) = false := decide_eq_false il
              clear il
              obtain rfl := Option.some.inj H
              go_wp2_with fail
              go_ret
              exact ⟨rfl, by repeat (first | exact HBl.out | apply below_alloc)⟩
    · rw [c2b] at H
      cases k with
      | zero => simp [turnspitref14_Right.j0] at H
      | succ k =>
        rw [turnspitref14_Right.j0, if_pos rfl] at H
        obtain rfl := Option.some.inj H
        go_wp2_with fail
        go_ret
        exact ⟨rfl, by repeat (first | exact Below.refl _ _ | apply below_alloc)⟩

end Go.Proofs.YtdchbcpfciljoaaDoor.Print

-- Written for this claim by a program out of the translation. Lean checks it.
import Derived.Test.YtdchbcpfciljoaaDoorPrint0
import Derived.Test.YtdchbcpfciljoaaDoorPrintE
namespace Go.Proofs.YtdchbcpfciljoaaDoor.Print
open Go.RowKit Go.Proofs.YtdchbcpfciljoaaDoor Go.Proofs.YtdchbcpfciljoaaDoor.Given Go.Proofs.YtdchbcpfciljoaaDoorW.PrintWords Go.Proofs.YtdchbcpfciljoaaDoorW.PrintLast Go.Proofs.YtdchbcpfciljoaaDoorW.PrintMore
attribute [local go_sem] max2_int min2_int max_two min_two max_three min_three max_four min_four   -- for this text's walks alone
set_option linter.unusedVariables false
set_option linter.unusedSimpArgs false

attribute [local go_sem high] eqA52
/-! ### turnspitref14_Same: function 14 -/
mutual
def turnspitref14_Same.j0 : Nat → Bool → List Int → List (S52) → List Int → List (S52) → Option (Bool)
  | 0, _, _, _, _, _ => none
  | k + 1, x22, x119000, x119001, x120000, x120001 => if x22 = true then (some false) else (turnspitref14_Same.l0 k 0 x119000 x119001 x120000 x120001)
def turnspitref14_Same.l0 : Nat → Int → List Int → List (S52) → List Int → List (S52) → Option (Bool)
  | 0, _, _, _, _, _ => none
  | k + 1, x5, x119000, x119001, x120000, x120001 => if x5 < (x119000.length : Int) then (if 0 ≤ x5 then (if x5 < (x120000.length : Int) then (if (rd x119000 x5) = (rd x120000 x5) then (turnspitref14_Same.l0 k (wrap64 (x5 + 1)) x119000 x119001 x120000 x120001) else (some false)) else (none)) else (none)) else (turnspitref14_Same.l1 k 0 x119000 x119001 x120000 x120001)
def turnspitref14_Same.l1 : Nat → Int → List Int → List (S52) → List Int → List (S52) → Option (Bool)
  | 0, _, _, _, _, _ => none
  | k + 1, x6, x119000, x119001, x120000, x120001 => if x6 < (x119001.length : Int) then (if 0 ≤ x6 then (if x6 < (x120001.length : Int) then (if (!(((rd_T52 x119001 x6).f0) == ((rd_T52 x120001 x6).f0)) || (!(((rd_T52 x119001 x6).f1) == ((rd_T52 x120001 x6).f1)) || (!(((rd_T52 x119001 x6).f2) == ((rd_T52 x120001 x6).f2))))) = true then (some false) else (turnspitref14_Same.l1 k (wrap64 (x6 + 1)) x119000 x119001 x120000 x120001)) else (none)) else (none)) else (some true)
end
def turnspitref14_Same.f (k : Nat) (l0_0 : List Int) (l0_1 : List (S52)) (l1_0 : List Int) (l1_1 : List (S52)) : Option (Bool) := if (l0_0.length : Int) = (l1_0.length : Int) then (turnspitref14_Same.j0 k ((l0_1.length : Int) != (l1_1.length : Int)) l0_0 l0_1 l1_0 l1_1) else (turnspitref14_Same.j0 k true l0_0 l0_1 l1_0 l1_1)
theorem turnspitref14_Same.mono_l : ∀ k, (∀ y0 y1 y2 y3 y4, LeO (turnspitref14_Same.j0 k y0 y1 y2 y3 y4) (turnspitref14_Same.j0 (k + 1) y0 y1 y2 y3 y4)) ∧ (∀ y0 y1 y2 y3 y4, LeO (turnspitref14_Same.l0 k y0 y1 y2 y3 y4) (turnspitref14_Same.l0 (k + 1) y0 y1 y2 y3 y4)) ∧ (∀ y0 y1 y2 y3 y4, LeO (turnspitref14_Same.l1 k y0 y1 y2 y3 y4) (turnspitref14_Same.l1 (k + 1) y0 y1 y2 y3 y4))
  | 0 => ⟨fun _ _ _ _ _ r h => by simp [turnspitref14_Same.j0] at h, fun _ _ _ _ _ r h => by simp [turnspitref14_Same.l0] at h, fun _ _ _ _ _ r h => by simp [turnspitref14_Same.l1] at h⟩
  | k + 1 => by
    obtain ⟨ih0, ih1, ih2⟩ := turnspitref14_Same.mono_l k
    refine ⟨?_, ?_, ?_⟩
    · intro y0 y1 y2 y3 y4
      unfold turnspitref14_Same.j0
      repeat' first
      | (with_reducible exact ih0 _ _ _ _ _)
      | (with_reducible exact ih1 _ _ _ _ _)
      | (with_reducible exact ih2 _ _ _ _ _)
      | (with_reducible exact LeO.refl _)
      | (with_reducible exact LeO.none _)
      | (with_reducible refine LeO.ite ?_ ?_)
      | (with_reducible refine LeO.bind ?_ (fun _ => ?_))
      | exact ih0 _ _ _ _ _
      | exact ih1 _ _ _ _ _
      | exact ih2 _ _ _ _ _
      | exact LeO.none _
      | refine LeO.ite ?_ ?_
      | refine LeO.bind ?_ (fun _ => ?_)
    · intro y0 y1 y2 y3 y4
      unfold turnspitref14_Same.l0
      repeat' first
      | (with_reducible exact ih0 _ _ _ _ _)
      | (with_reducible exact ih1 _ _ _ _ _)
      | (with_reducible exact ih2 _ _ _ _ _)
      | (with_reducible exact LeO.refl _)
      | (with_reducible exact LeO.none _)
      | (with_reducible refine LeO.ite ?_ ?_)
      | (with_reducible refine LeO.bind ?_ (fun _ => ?_))
      | exact ih0 _ _ _ _ _
      | exact ih1 _ _ _ _ _
      | exact ih2 _ _ _ _ _
      | exact LeO.none _
      | refine LeO.ite ?_ ?_
      | refine LeO.bind ?_ (fun _ => ?_)
    · intro y0 y1 y2 y3 y4
      unfold turnspitref14_Same.l1
      repeat' first
      | (with_reducible exact ih0 _ _ _ _ _)
      | (with_reducible exact ih1 _ _ _ _ _)
      | (with_reducible exact ih2 _ _ _ _ _)
      | (with_reducible exact LeO.refl _)
      | (with_reducible exact LeO.none _)
      | (with_reducible refine LeO.ite ?_ ?_)
      | (with_reducible refine LeO.bind ?_ (fun _ => ?_))
      | exact ih0 _ _ _ _ _
      | exact ih1 _ _ _ _ _
      | exact ih2 _ _ _ _ _
      | exact LeO.none _
      | refine LeO.ite ?_ ?_
      | refine LeO.bind ?_ (fun _ => ?_)
theorem turnspitref14_Same.mono : ∀ a0 a1 a2 a3 k, LeO (turnspitref14_Same.f k a0 a1 a2 a3) (turnspitref14_Same.f (k + 1) a0 a1 a2 a3) := by
  intro a0 a1 a2 a3 k
  obtain ⟨ih0, ih1, ih2⟩ := turnspitref14_Same.mono_l k
  unfold turnspitref14_Same.f
  repeat' first
      | (with_reducible exact ih0 _ _ _ _ _)
      | (with_reducible exact ih1 _ _ _ _ _)
      | (with_reducible exact ih2 _ _ _ _ _)
      | (with_reducible exact LeO.refl _)
      | (with_reducible exact LeO.none _)
      | (with_reducible refine LeO.ite ?_ ?_)
      | (with_reducible refine LeO.bind ?_ (fun _ => ?_))
      | exact ih0 _ _ _ _ _
      | exact ih1 _ _ _ _ _
      | exact ih2 _ _ _ _ _
      | exact LeO.none _
      | refine LeO.ite ?_ ?_
      | refine LeO.bind ?_ (fun _ => ?_)
set_option maxHeartbeats 8000000 in
set_option maxRecDepth 100000 in
theorem turnspitref14_Same.calls (k : Nat) (A0_0 : Option Addr) (c0_0 : Nat) (l0_0 : List Int) (A0_1 : Option Addr) (c0_1 : Nat) (l0_1 : List (S52)) (A1_0 : Option Addr) (c1_0 : Nat) (l1_0 : List Int) (A1_1 : Option Addr) (c1_1 : Nat) (l1_1 : List (S52)) (r : Bool) (w : World) (hr0_0 : Kd.C (Kd.int .u64) w A0_0 l0_0.length l0_0) (hc0_0 : l0_0.length ≤ c0_0) (hr0_1 : Kd.C k52 w A0_1 l0_1.length l0_1) (hc0_1 : l0_1.length ≤ c0_1) (hr1_0 : Kd.C (Kd.int .u64) w A1_0 l1_0.length l1_0) (hc1_0 : l1_0.length ≤ c1_0) (hr1_1 : Kd.C k52 w A1_1 l1_1.length l1_1) (hc1_1 : l1_1.length ≤ c1_1) (HLd : Ld w) (h : turnspitref14_Same.f k l0_0 l0_1 l1_0 l1_1 = some r) :
    Calls Tryd.prog 14 #[.agg #[.slice A0_0 l0_0.length c0_0, .slice A0_1 l0_1.length c0_1], .agg #[.slice A1_0 l1_0.length c1_0, .slice A1_1 l1_1.length c1_1]] w fun e w' => e = .returned (.bool r) ∧ Below w.heap.size w w' := by
  have hu25 := Tryd.underlying25
  have hu52 := Tryd.underlying52
  have HR0 := Aside0.mk hr0_0
  have HR1 := Aside0.mk hr0_1
  have HS0 := Aside0.mk hr1_0
  have HS1 := Aside0.mk hr1_1
  clear hr0_0 hc0_0 hr0_1 hc0_1 hr1_0 hc1_0 hr1_1 hc1_1 HLd
  unfold turnspitref14_Same.f at h
  have H := h
  clear h
  go_enter Tryd.func14, Tryd.ntmps14
  by_cases c1 : (l0_0.length : Int) = (l1_0.length : Int)
  · rw [if_pos c1] at H
    have c1b : ((l0_0.length : Int) != (l1_0.length : Int)) = false := bne_eq_false_iff_eq.mpr c1
    clear c1
    cases c2b : ((l0_1.length : Int) != (l1_1.length : Int))
    · rw [c2b] at H
      cases k with
      | zero => simp [turnspitref14_Same.j0] at H
      | succ k =>
        rw [turnspitref14_Same.j0, if_neg Bool.false_ne_true] at H
        go_wp2_with fail
        have KA := Aside0.mk (blk_alloc (blk_new w (.cells #[.slice A0_0 l0_0.length c0_0, .slice A0_1 l0_1.length c0_1] 25)) (.cells #[.slice A1_0 l1_0.length c1_0, .slice A1_1 l1_1.length c1_1] 25))
        have KB_ := blk_new (w.alloc (.cells #[.slice A0_0 l0_0.length c0_0, .slice A0_1 l0_1.length c0_1] 25)) (.cells #[.slice A1_0 l1_0.length c1_0, .slice A1_1 l1_1.length c1_1] 25)
        simp only [World.size_alloc] at KB_
        have KB := Aside0.mk KB_
        clear KB_
        have HB1 := Aside0.mk (below_alloc (below_alloc (Below.refl w.heap.size w) (.cells #[.slice A0_0 l0_0.length c0_0, .slice A0_1 l0_1.length c0_1] 25)) (.cells #[.slice A1_0 l1_0.length c1_0, .slice A1_1 l1_1.length c1_1] 25))
        have HX := Aside0.mk H
        clear H
        try clear HX_
        go_loopg [5] k (fun kq v_ w' => ∃ (i : Int) (wl : World), v_ = .int .i64 i ∧ wl = w' ∧ Aside0 (turnspitref14_Same.l0 kq i l0_0 l0_1 l1_0 l1_1 = some r) ∧ Aside0 (kq ≤ k) ∧ Aside0 (Below w.heap.size w w') ∧ Aside0 (w'.heap[w.heap.size]? = some (.cells #[.slice A0_0 l0_0.length c0_0, .slice A0_1 l0_1.length c0_1] 25 (0, 0))) ∧ Aside0 (w'.heap[w.heap.size + 1]? = some (.cells #[.slice A1_0 l1_0.length c1_0, .slice A1_1 l1_1.length c1_1] 25 (0, 0))))
        case atStart => exact ⟨0, _, rfl, rfl, HX, ⟨Nat.le_refl _⟩, HB1, KA, KB⟩
        case round =>
          clear HX KA KB
          obtain ⟨i, wl, rfl, rfl, HA, HK1, HBl, KA, KB⟩ := hrel
          cases gk with
          | zero => exact absurd HA.out (by simp [turnspitref14_Same.l0])
          | succ k1 =>
            have H := HA.out
            clear HA
            simp only [turnspitref14_Same.l0] at H
            have xA_20_0 : wl.cell? ⟨w.heap.size, 0, none⟩ = some (.slice A0_0 l0_0.length c0_0) := (blk_cell KA.out 0).trans rfl
            have xA_20_1 : wl.cell? ⟨w.heap.size, 1, none⟩ = some (.slice A0_1 l0_1.length c0_1) := (blk_cell KA.out 1).trans rfl
            have xB_20_0 : wl.cell? ⟨w.heap.size + 1, 0, none⟩ = some (.slice A1_0 l1_0.length c1_0) := (blk_cell KB.out 0).trans rfl
            have xB_20_1 : wl.cell? ⟨w.heap.size + 1, 1, none⟩ = some (.slice A1_1 l1_1.length c1_1) := (blk_cell KB.out 1).trans rfl
            by_cases il : i < (l0_0.length : Int)
            · rw [if_pos il] at H
              have ilb : decide (i < (l0_0.length : Int)) = true := decide_eq_true il
              clear il
              by_cases i0 : 0 ≤ i
              · rw [if_pos i0] at H
                have i0b : decide (0 ≤ i) = true := decide_eq_true i0
                clear i0
                by_cases i1 : i < (l1_0.length : Int)
                · rw [if_pos i1] at H
                  have i1b : decide (i < (l1_0.length : Int)) = true := decide_eq_true i1
                  clear i1
                  obtain ⟨ad, ead, hx⟩ := Kd.at_int HR0.out i (of_decide_eq_true i0b) (of_decide_eq_true ilb)
                  obtain ⟨ae, eae, hy⟩ := Kd.at_int HS0.out i (of_decide_eq_true i0b) (of_decide_eq_true i1b)
                  subst ead eae
                  have hx_ := pw_cell_below HBl.out hx
                  have hy_ := pw_cell_below HBl.out hy
                  clear hx hy
                  have p7 := eq_true (of_decide_eq_true i0b)
                  have p8 := eq_true (of_decide_eq_true ilb)
                  have p9 := eq_true (of_decide_eq_true i1b)
                  go_wp2_with fail
                  go_quiet (fail)
                  by_cases ce : rd l0_0 i = rd l1_0 i
                  · rw [if_pos ce] at H
                    have ceb : (rd l0_0 i != rd l1_0 i) = false := bne_eq_false_iff_eq.mpr ce
                    clear ce
                    go_wp2_with fail
                    go_roundg k1
                    case measure => have := HK1.out; omega
                    case rel => exact ⟨wrap64 (i + 1), _, rfl, rfl, ⟨H⟩, ⟨by have := HK1.out; omega⟩, ⟨by repeat (with_reducible first | exact HBl.out | apply pw_below_drewN | apply below_drew1)⟩, ⟨by repeat (with_reducible first | exact KA.out | refine blk_drewN ?_ _ | refine blk_drew ?_)⟩, ⟨by repeat (with_reducible first | exact KB.out | refine blk_drewN ?_ _ | refine blk_drew ?_)⟩⟩
                  · rw [if_neg ce] at H
                    have ceb : (rd l0_0 i != rd l1_0 i) = true := bne_iff_ne.mpr ce
                    clear ce
                    obtain rfl := Option.some.inj H
                    go_wp2_with fail
                    go_ret
                    exact ⟨rfl, by repeat (with_reducible first | exact HBl.out | apply pw_below_drewN | apply below_drew1)⟩
                · rw [if_neg i1] at H
                  have i1b : decide (i < (l1_0.length : Int)) = false := decide_eq_false i1
                  clear i1
                  exact absurd H (by simp)
              · rw [if_neg i0] at H
                have i0b : decide (0 ≤ i) = false := decide_eq_false i0
                clear i0
                exact absurd H (by simp)
            · rw [if_neg il] at H
              have ilb : decide (i < (l0_0.length : Int)) = false := decide_eq_false il
              clear il
              go_wp2_with fail
              have HK0 := HK1
              clear HK1
              have HX := Aside0.mk H
              clear H
              try clear xA_20_0 xA_20_1 xB_20_0 xB_20_1
              go_loopg [6] k1 (fun kq v_ w' => ∃ (j : Int) (wl : World), v_ = .int .i64 j ∧ wl = w' ∧ Aside0 (turnspitref14_Same.l1 kq j l0_0 l0_1 l1_0 l1_1 = some r) ∧ Aside0 (kq ≤ k1) ∧ Aside0 (Below w.heap.size w w') ∧ Aside0 (w'.heap[w.heap.size]? = some (.cells #[.slice A0_0 l0_0.length c0_0, .slice A0_1 l0_1.length c0_1] 25 (0, 0))) ∧ Aside0 (w'.heap[w.heap.size + 1]? = some (.cells #[.slice A1_0 l1_0.length c1_0, .slice A1_1 l1_1.length c1_1] 25 (0, 0))))
              case atStart => exact ⟨0, _, rfl, rfl, HX, ⟨Nat.le_refl _⟩, HBl, KA, KB⟩
              case round =>
                clear HX KA KB
                obtain ⟨j, wl, rfl, rfl, HA, HK1, HBl, KA, KB⟩ := hrel
                cases gk with
                | zero => exact absurd HA.out (by simp [turnspitref14_Same.l1])
                | succ k1 =>
                  have H := HA.out
                  clear HA
                  simp only [turnspitref14_Same.l1] at H
                  have xA_20_0 : wl.cell? ⟨w.heap.size, 0, none⟩ = some (.slice A0_0 l0_0.length c0_0) := (blk_cell KA.out 0).trans rfl
                  have xA_20_1 : wl.cell? ⟨w.heap.size, 1, none⟩ = some (.slice A0_1 l0_1.length c0_1) := (blk_cell KA.out 1).trans rfl
                  have xB_20_0 : wl.cell? ⟨w.heap.size + 1, 0, none⟩ = some (.slice A1_0 l1_0.length c1_0) := (blk_cell KB.out 0).trans rfl
                  have xB_20_1 : wl.cell? ⟨w.heap.size + 1, 1, none⟩ = some (.slice A1_1 l1_1.length c1_1) := (blk_cell KB.out 1).trans rfl
                  by_cases jl : j < (l0_1.length : Int)
                  · rw [if_pos jl] at H
                    have jlb : decide (j < (l0_1.length : Int)) = true := decide_eq_true jl
                    clear jl
                    by_cases j0 : 0 ≤ j
                    · rw [if_pos j0] at H
                      have j0b : decide (0 ≤ j) = true := decide_eq_true j0
                      clear j0
                      by_cases j1 : j < (l1_1.length : Int)
                      · rw [if_pos j1] at H
                        have j1b : decide (j < (l1_1.length : Int)) = true := decide_eq_true j1
                        clear j1
                        obtain ⟨ad, ead, hx0, hx1, hx2⟩ := at_T52 HR1.out j (of_decide_eq_true j0b) (of_decide_eq_true jlb)
                        obtain ⟨ae, eae, hy0, hy1, hy2⟩ := at_T52 HS1.out j (of_decide_eq_true j0b) (of_decide_eq_true j1b)
                        subst ead eae
                        have hx0_ := pw_cell_below HBl.out hx0
                        clear hx0
                        have hx1_ := pw_cell_below HBl.out hx1
                        clear hx1
                        have hx2_ := pw_cell_below HBl.out hx2
                        clear hx2
                        have hy0_ := pw_cell_below HBl.out hy0
                        clear hy0
                        have hy1_ := pw_cell_below HBl.out hy1
                        clear hy1
                        have hy2_ := pw_cell_below HBl.out hy2
                        clear hy2
                        have p7 := eq_true (of_decide_eq_true j0b)
                        have p8 := eq_true (of_decide_eq_true jlb)
                        have p9 := eq_true (of_decide_eq_true j1b)
                        go_wp2_with fail
                        go_quiet (fail)
                        cases hX : (!(((rd_T52 l0_1 j).f0) == ((rd_T52 l1_1 j).f0)) || (!(((rd_T52 l0_1 j).f1) == ((rd_T52 l1_1 j).f1)) || (!(((rd_T52 l0_1 j).f2) == ((rd_T52 l1_1 j).f2)))))
                        · rw [hX, if_neg Bool.false_ne_true] at H
                          go_wp2_with fail
                          go_roundg k1
                          case measure => have := HK1.out; omega
                          case rel => exact ⟨wrap64 (j + 1), _, rfl, rfl, ⟨H⟩, ⟨by have := HK1.out; omega⟩, ⟨by repeat (with_reducible first | exact HBl.out | apply pw_below_drewN | apply below_drew1)⟩, ⟨by repeat (with_reducible first | exact KA.out | refine blk_drewN ?_ _ | refine blk_drew ?_)⟩, ⟨by repeat (with_reducible first | exact KB.out | refine blk_drewN ?_ _ | refine blk_drew ?_)⟩⟩
                        · rw [hX, if_pos rfl] at H
                          obtain rfl := Option.some.inj H
                          go_wp2_with fail
                          go_ret
                          exact ⟨rfl, by repeat (with_reducible first | exact HBl.out | apply pw_below_drewN | apply below_drew1)⟩
                      · rw [if_neg j1] at H
                        have j1b : decide (j < (l1_1.length : Int)) = false := decide_eq_false j1
                        clear j1
                        exact absurd H (by simp)
                    · rw [if_neg j0] at H
                      have j0b : decide (0 ≤ j) = false := decide_eq_false j0
                      clear j0
                      exact absurd H (by simp)
                  · rw [if_neg jl] at H
                    have jlb : decide (j < (l0_1.length : Int)) = false := decide_eq_false jl
                    clear jl
                    obtain rfl := Option.some.inj H
                    go_wp2_with fail
                    go_ret
                    exact ⟨rfl, by repeat (with_reducible first | exact HBl.out | apply pw_below_drewN | apply below_drew1)⟩
    · rw [c2b] at H
      cases k with
      | zero => simp [turnspitref14_Same.j0] at H
      | succ k =>
        rw [turnspitref14_Same.j0, if_pos rfl] at H
        obtain rfl := Option.some.inj H
        go_wp2_with fail
        go_ret
        exact ⟨rfl, by repeat (with_reducible first | exact Below.refl _ _ | apply below_alloc)⟩
  · rw [if_neg c1] at H
    have c1b : ((l0_0.length : Int) != (l1_0.length : Int)) = true := bne_iff_ne.mpr c1
    clear c1
    cases k with
    | zero => simp [turnspitref14_Same.j0] at H
    | succ k =>
      rw [turnspitref14_Same.j0, if_pos rfl] at H
      obtain rfl := Option.some.inj H
      go_wp2_with fail
      go_ret
      exact ⟨rfl, by repeat (with_reducible first | exact Below.refl _ _ | apply below_alloc)⟩

end Go.Proofs.YtdchbcpfciljoaaDoor.Print

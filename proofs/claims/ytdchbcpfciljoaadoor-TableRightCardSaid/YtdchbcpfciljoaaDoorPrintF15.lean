-- Written for this claim by a program out of the translation. Lean checks it.
import Derived.Test.YtdchbcpfciljoaaDoorPrint0
import Derived.StillTailTactics
import Derived.Test.YtdchbcpfciljoaaDoorPrintN
import Derived.Test.YtdchbcpfciljoaaDoorPrintF32
namespace Go.Proofs.YtdchbcpfciljoaaDoor.Print
open Go.RowKit Go.Proofs.YtdchbcpfciljoaaDoor Go.Proofs.YtdchbcpfciljoaaDoor.Given Go.Proofs.YtdchbcpfciljoaaDoorW.PrintWords Go.Proofs.YtdchbcpfciljoaaDoorW.PrintLast Go.Proofs.YtdchbcpfciljoaaDoorW.PrintMore
attribute [local go_sem] max2_int min2_int max_two min_two max_three min_three max_four min_four   -- for this text's walks alone
set_option linter.unusedVariables false
set_option linter.unusedSimpArgs false

/-! ### turnspitlaw14_Made: function 15 -/
def turnspitlaw14_Made.l0 : Nat → List Int → Int → List Int → List (S52) → Option (List Int × (List (S52)))
  | 0, _, _, _, _ => none
  | k + 1, x0, x5, x310000, x310001 => if x5 < (x0.length : Int) then (if x5 < 60 then (if 0 ≤ x5 then ((turnspitlaw14_do.f k x310000 x310001 (rd x0 x5)).bind fun bt311 => (turnspitlaw14_Made.l0 k x0 (wrap64 (x5 + 1)) bt311.1 bt311.2)) else (none)) else (some (x310000, x310001))) else (some (x310000, x310001))
def turnspitlaw14_Made.f (k : Nat) (l0 : List Int) : Option (List Int × (List (S52))) := (turnspitref14_New.f 5).bind fun bt302 => (turnspitlaw14_Made.l0 k l0 0 bt302.1 bt302.2.1)
theorem turnspitlaw14_Made.mono_l : ∀ k, (∀ y0 y1 y2 y3, LeO (turnspitlaw14_Made.l0 k y0 y1 y2 y3) (turnspitlaw14_Made.l0 (k + 1) y0 y1 y2 y3))
  | 0 => fun _ _ _ _ r h => by simp [turnspitlaw14_Made.l0] at h
  | k + 1 => by
    have ih0 := turnspitlaw14_Made.mono_l k
    · intro y0 y1 y2 y3
      unfold turnspitlaw14_Made.l0
      repeat' first
      | (with_reducible exact ih0 _ _ _ _)
      | (with_reducible exact turnspitlaw14_do.mono _ _ _ _)
      | (with_reducible exact LeO.refl _)
      | (with_reducible exact LeO.none _)
      | (with_reducible refine LeO.ite ?_ ?_)
      | (with_reducible refine LeO.bind ?_ (fun _ => ?_))
      | exact ih0 _ _ _ _
      | exact turnspitlaw14_do.mono _ _ _ _
      | exact LeO.none _
      | refine LeO.ite ?_ ?_
      | refine LeO.bind ?_ (fun _ => ?_)
theorem turnspitlaw14_Made.mono : ∀ a0 k, LeO (turnspitlaw14_Made.f k a0) (turnspitlaw14_Made.f (k + 1) a0) := by
  intro a0 k
  have ih0 := turnspitlaw14_Made.mono_l k
  unfold turnspitlaw14_Made.f
  repeat' first
      | (with_reducible exact ih0 _ _ _ _)
      | (with_reducible exact turnspitlaw14_do.mono _ _ _ _)
      | (with_reducible exact LeO.refl _)
      | (with_reducible exact LeO.none _)
      | (with_reducible refine LeO.ite ?_ ?_)
      | (with_reducible refine LeO.bind ?_ (fun _ => ?_))
      | exact ih0 _ _ _ _
      | exact turnspitlaw14_do.mono _ _ _ _
      | exact LeO.none _
      | refine LeO.ite ?_ ?_
      | refine LeO.bind ?_ (fun _ => ?_)
set_option maxHeartbeats 8000000 in
set_option maxRecDepth 100000 in
theorem turnspitlaw14_Made.calls (k : Nat) (A0 : Option Addr) (c0 : Nat) (l0 : List Int) (r1 : List Int) (r2 : List (S52)) (w : World) (hr0 : Kd.C (Kd.int .u16) w A0 l0.length l0) (hc0 : l0.length ≤ c0) (HLd : Ld w) (h : turnspitlaw14_Made.f k l0 = some (r1, r2)) :
    Calls Tryd.prog 15 #[.slice A0 l0.length c0] w fun e w' => ∃ v0_ v1_ : Value, e = .returned (.agg #[v0_, v1_]) ∧ Kd.R (Kd.int .u64) 28 w' w.heap.size (fun _ => True) v0_ r1 ∧ Kd.R k52 52 w' w.heap.size (fun _ => True) v1_ r2 ∧ Below w.heap.size w w' := by
  have hu25 := Tryd.underlying25
  have HR0 := Aside0.mk hr0
  have HC0 := Aside0.mk hc0
  have HL := Aside0.mk HLd
  clear hr0 hc0 HLd
  unfold turnspitlaw14_Made.f at h
  have H := h
  clear h
  obtain ⟨⟨t1, t2, t3⟩, A2_, H⟩ := Option.bind_eq_some_iff.1 H
  have A2 := Aside0.mk A2_
  clear A2_
  go_enter Tryd.func15, Tryd.ntmps15
  go_wp2_with fail
  refine (turnspitref14_New.calls 5 t1 t2 t3 _ (Ld.below HL.out (by exact (below_alloc (Below.refl w.heap.size w) _))) A2.out).mono ?_
  rintro e w1 ⟨vn0, vn1, rfl, ho0, ho1, hb⟩
  obtain ⟨An0, cn0, rfl⟩ := Kd.R_slice ho0
  obtain ⟨An1, cn1, rfl⟩ := Kd.R_slice ho1
  have Hn0 := Aside0.mk ho0
  have Hn1 := Aside0.mk ho1
  clear ho0 ho1
  have HB1 := Aside0.mk (below_step (below_alloc (Below.refl w.heap.size w) _) hb)
  have Kn_O : (w.alloc (.cells #[.slice none 0 0, .slice none 0 0] 25)).heap[w.heap.size]? = some (.cells #[.slice none 0 0, .slice none 0 0] 25 (0, 0)) := by have h_ := blk_new w (.cells #[.slice none 0 0, .slice none 0 0] 25); simpa only [World.size_alloc] using h_
  have KO_ := Aside0.mk (blk_below Kn_O hb)
  have KO := KO_
  clear KO_
  clear Kn_O
  clear hb
  generalize hgO : w.heap.size = gO at KO ⊢
  have bO : Aside0 (w.heap.size ≤ gO) := ⟨by have h_ := ((Below.refl w.heap.size w) : Below w.heap.size w w).size; omega⟩
  clear hgO
  have xO_1_0 : w1.cell? ⟨gO, 0, none⟩ = some (.slice none 0 0) := (blk_cell KO.out 0).trans rfl
  have xO_1_0f := blk_frozen KO.out 0
  have xO_1_1 : w1.cell? ⟨gO, 1, none⟩ = some (.slice none 0 0) := (blk_cell KO.out 1).trans rfl
  have xO_1_1f := blk_frozen KO.out 1
  go_wp2_with fail
  have HX := Aside0.mk H
  clear H
  try clear xO_1_0 xO_1_0f xO_1_1 xO_1_1f
  have KM := Aside0.mk (blk_new w1 (.cells #[.slice An0 t1.length cn0, .slice An1 t2.length cn1] 25))
  have KO_ := Aside0.mk (blk_alloc KO.out (.cells #[.slice An0 t1.length cn0, .slice An1 t2.length cn1] 25))
  have HB2 := Aside0.mk (below_alloc HB1.out (.cells #[.slice An0 t1.length cn0, .slice An1 t2.length cn1] 25))
  have R0_ := Aside0.mk (Kd.R_alloc (Kd.R_lower Hn0.out (below_alloc (Below.refl w.heap.size w) _).size) (.cells #[.slice An0 t1.length cn0, .slice An1 t2.length cn1] 25))
  have R1_ := Aside0.mk (Kd.R_alloc (Kd.R_lower Hn1.out (below_alloc (Below.refl w.heap.size w) _).size) (.cells #[.slice An0 t1.length cn0, .slice An1 t2.length cn1] 25))
  have dOM_ : gO ≠ w1.heap.size := Nat.ne_of_lt (blk_lt KO.out)
  have bM : Aside0 (w.heap.size ≤ w1.heap.size) := ⟨HB1.out.size⟩
  generalize w1.alloc (.cells #[.slice An0 t1.length cn0, .slice An1 t2.length cn1] 25) = w2 at KM KO_ HB2 R0_ R1_ ⊢
  generalize w1.heap.size = gM at KM dOM_ bM ⊢
  clear KO Hn0 Hn1 HB1
  have dOM : (gO = gM) = False := eq_false dOM_
  have dMO : (gM = gO) = False := eq_false dOM_.symm
  go_loopg [5] k (fun kq v_ w' => ∃ (i : Int) (wl : World) (Ax : Option Addr) (cx : Nat) (x : List Int) (Ay : Option Addr) (cy : Nat) (y : List S52), v_ = .int .i64 i ∧ wl = w' ∧ Aside0 (turnspitlaw14_Made.l0 kq l0 i x y = some (r1, r2)) ∧ Aside0 (kq ≤ k) ∧ Aside0 (Below w.heap.size w w') ∧ Aside0 (w'.heap[gO]? = some (.cells #[.slice none 0 0, .slice none 0 0] 25 (0, 0))) ∧ Aside0 (w'.heap[gM]? = some (.cells #[.slice Ax x.length cx, .slice Ay y.length cy] 25 (0, 0))) ∧ Aside0 (Kd.R (Kd.int .u64) 28 w' w.heap.size (fun _ => True) (.slice Ax x.length cx) x) ∧ Aside0 (Kd.R k52 52 w' w.heap.size (fun _ => True) (.slice Ay y.length cy) y))
  case atStart => exact ⟨0, _, _, _, _, _, _, _, rfl, rfl, HX, ⟨Nat.le_refl _⟩, HB2, KO_, KM, R0_, R1_⟩
  case round =>
    clear HX KO_ KM HB2 R0_ R1_
    obtain ⟨i, wl, Ax, cx, x, Ay, cy, y, rfl, rfl, HA, HK1, HBl, KO, KM, RX, RY⟩ := hrel
    cases gk with
    | zero => exact absurd HA.out (by simp [turnspitlaw14_Made.l0])
    | succ k1 =>
      have H := HA.out
      clear HA
      simp only [turnspitlaw14_Made.l0] at H
      have xO_20_0 : wl.cell? ⟨gO, 0, none⟩ = some (.slice none 0 0) := (blk_cell KO.out 0).trans rfl
      have xO_20_0f := blk_frozen KO.out 0
      have xO_20_1 : wl.cell? ⟨gO, 1, none⟩ = some (.slice none 0 0) := (blk_cell KO.out 1).trans rfl
      have xO_20_1f := blk_frozen KO.out 1
      have xM_20_0 : wl.cell? ⟨gM, 0, none⟩ = some (.slice Ax x.length cx) := (blk_cell KM.out 0).trans rfl
      have xM_20_0f := blk_frozen KM.out 0
      have xM_20_1 : wl.cell? ⟨gM, 1, none⟩ = some (.slice Ay y.length cy) := (blk_cell KM.out 1).trans rfl
      have xM_20_1f := blk_frozen KM.out 1
      by_cases il : i < (l0.length : Int)
      · rw [if_pos il] at H
        have ilb : decide (i < (l0.length : Int)) = true := decide_eq_true il
        clear il
        by_cases i6 : i < 60
        · rw [if_pos i6] at H
          have i6b : decide (i < 60) = true := decide_eq_true i6
          clear i6
          by_cases i0 : 0 ≤ i
          · rw [if_pos i0] at H
            have i0b : decide (0 ≤ i) = true := decide_eq_true i0
            clear i0
            obtain ⟨⟨t1, t2⟩, A6_, H⟩ := Option.bind_eq_some_iff.1 H
            have A6 := Aside0.mk A6_
            clear A6_
            have HN := Aside0.mk H
            clear H
            try clear H
            obtain ⟨ad, ead, hx⟩ := Kd.at_int HR0.out i (of_decide_eq_true i0b) (of_decide_eq_true ilb)
            subst ead
            have hx_ : wl.cell? (ad.add i.toNat) = some (.int .u16 (rd l0 i)) := pw_cell_below HBl.out hx
            clear hx
            have p7 := eq_true (of_decide_eq_true i0b)
            have p8 := eq_true (of_decide_eq_true ilb)
            go_wp2_with fail
            refine wp_region_still_tail 5 (by kernel_rfl) (by kernel_rfl) ?_
            simp only [List.take_succ_cons, List.take_zero, List.drop_succ_cons, List.drop_zero]
            repeat still_step
            try refine wpStill_nil ?_
            change wpList _ _ _ _ _ wl.drew
            have HBd := Aside0.mk (below_drew1 HBl.out)
            have KO_ : Aside0 (wl.drew.heap[gO]? = some (.cells #[.slice none 0 0, .slice none 0 0] 25 (0, 0))) := KO
            have KM_ : Aside0 (wl.drew.heap[gM]? = some (.cells #[.slice Ax x.length cx, .slice Ay y.length cy] 25 (0, 0))) := KM
            have RX_ := Aside0.mk (Kd.R_drew RX.out)
            clear RX
            have RY_ := Aside0.mk (Kd.R_drew RY.out)
            clear RY
            generalize wl.drew = wd at HBd KO_ KM_ RX_ RY_ ⊢
            clear KO KM
            have RX := RX_
            clear RX_
            have RY := RY_
            clear RY_
            have KO := KO_
            clear KO_
            have KM := KM_
            clear KM_
            go_wp2_with fail
            refine (turnspitlaw14_do.calls k1 Ax cx x Ay cy y (rd l0 i) t1 t2 _ (Kd.R_reads' RX.out).2.2 (Kd.R_reads' RX.out).2.1 (Kd.R_reads' RY.out).2.2 (Kd.R_reads' RY.out).2.1 (Ld.below HL.out (by exact HBd.out)) A6.out).mono ?_
            rintro e w2 ⟨v0, v1, rfl, hor, hb⟩
            have HB2 := Aside0.mk (below_step HBd.out hb)
            have KO_ := Aside0.mk (blk_below KO.out hb)
            have KM_ := Aside0.mk (blk_below KM.out hb)
            clear KO
            have KO := KO_
            clear KO_
            clear KM
            have KM := KM_
            clear KM_
            have RX_ := Aside0.mk (Kd.R_below RX.out hb)
            clear RX
            have RX := RX_
            clear RX_
            have RY_ := Aside0.mk (Kd.R_below RY.out hb)
            clear RY
            have RY := RY_
            clear RY_
            clear hb
            have xO_2_0 : w2.cell? ⟨gO, 0, none⟩ = some (.slice none 0 0) := (blk_cell KO.out 0).trans rfl
            have xO_2_0f := blk_frozen KO.out 0
            have xO_2_1 : w2.cell? ⟨gO, 1, none⟩ = some (.slice none 0 0) := (blk_cell KO.out 1).trans rfl
            have xO_2_1f := blk_frozen KO.out 1
            have xM_2_0 : w2.cell? ⟨gM, 0, none⟩ = some (.slice Ax x.length cx) := (blk_cell KM.out 0).trans rfl
            have xM_2_0f := blk_frozen KM.out 0
            have xM_2_1 : w2.cell? ⟨gM, 1, none⟩ = some (.slice Ay y.length cy) := (blk_cell KM.out 1).trans rfl
            have xM_2_1f := blk_frozen KM.out 1
            rcases hor with ⟨rfl, rfl, rfl, rfl⟩ | ⟨ho0, ho1⟩
            · go_wp2_with fail
              have km_ := blk_put KM.out 0 (.slice Ax t1.length cx) rfl
              go_roundg k1
              case measure => have := HK1.out; omega
              case rel => exact ⟨wrap64 (i + 1), _, _, _, _, _, _, _, rfl, rfl, HN, ⟨by have := HK1.out; omega⟩, ⟨below_set (below_set HB2.out bM.out) bM.out⟩, ⟨blk_far (p := ⟨gM, 1, none⟩) (blk_far (p := ⟨gM, 0, none⟩) KO.out dOM_ _) dOM_ _⟩, ⟨blk_put km_ 1 _ rfl⟩, ⟨Kd.R_set (Kd.R_set RX.out KM.out (by decide) 0 _) km_ (by decide) 1 _⟩, ⟨Kd.R_set (Kd.R_set RY.out KM.out (by decide) 0 _) km_ (by decide) 1 _⟩⟩
            · obtain ⟨Az, cz, rfl⟩ := Kd.R_slice ho0
              obtain ⟨Aw, cw, rfl⟩ := Kd.R_slice ho1
              have R0 := Aside0.mk (Kd.R_lower ho0 HBd.out.size)
              have R1 := Aside0.mk (Kd.R_lower ho1 HBd.out.size)
              clear ho0 ho1
              go_wp2_with fail
              have km_ := blk_put KM.out 0 (.slice Az t1.length cz) rfl
              go_roundg k1
              case measure => have := HK1.out; omega
              case rel => exact ⟨wrap64 (i + 1), _, _, _, _, _, _, _, rfl, rfl, HN, ⟨by have := HK1.out; omega⟩, ⟨below_set (below_set HB2.out bM.out) bM.out⟩, ⟨blk_far (p := ⟨gM, 1, none⟩) (blk_far (p := ⟨gM, 0, none⟩) KO.out dOM_ _) dOM_ _⟩, ⟨blk_put km_ 1 _ rfl⟩, ⟨Kd.R_set (Kd.R_set R0.out KM.out (by decide) 0 _) km_ (by decide) 1 _⟩, ⟨Kd.R_set (Kd.R_set R1.out KM.out (by decide) 0 _) km_ (by decide) 1 _⟩⟩
          · rw [if_neg i0] at H
            have i0b : decide (0 ≤ i) = false := decide_eq_false i0
            clear i0
            exact absurd H (by simp)
        · rw [if_neg i6] at H
          have i6b : decide (i < 60) = false := decide_eq_false i6
          clear i6
          simp only [Option.some.injEq, Prod.mk.injEq] at H
          obtain ⟨rfl, rfl⟩ := H
          go_wp2_with fail
          have k1_ := blk_put KO.out 0 (.slice Ax x.length cx) rfl
          refine bodyPost_ret (results_cell_row rfl _ _ gO 25 #[.slice Ax x.length cx, .slice Ay y.length cy] (0, 0) _ rfl (blk_put k1_ 1 (.slice Ay y.length cy) rfl) Tryd.underlying25 rfl (by kernel_rfl)) rfl ?_
          exact ⟨_, _, rfl, Kd.R_set (Kd.R_set RX.out KO.out (by decide) 0 _) k1_ (by decide) 1 _, Kd.R_set (Kd.R_set RY.out KO.out (by decide) 0 _) k1_ (by decide) 1 _, below_set (below_set HBl.out bO.out) bO.out⟩
      · rw [if_neg il] at H
        have ilb : decide (i < (l0.length : Int)) = false := decide_eq_false il
        clear il
        simp only [Option.some.injEq, Prod.mk.injEq] at H
        obtain ⟨rfl, rfl⟩ := H
        go_wp2_with fail
        have k1_ := blk_put KO.out 0 (.slice Ax x.length cx) rfl
        refine bodyPost_ret (results_cell_row rfl _ _ gO 25 #[.slice Ax x.length cx, .slice Ay y.length cy] (0, 0) _ rfl (blk_put k1_ 1 (.slice Ay y.length cy) rfl) Tryd.underlying25 rfl (by kernel_rfl)) rfl ?_
        exact ⟨_, _, rfl, Kd.R_set (Kd.R_set RX.out KO.out (by decide) 0 _) k1_ (by decide) 1 _, Kd.R_set (Kd.R_set RY.out KO.out (by decide) 0 _) k1_ (by decide) 1 _, below_set (below_set HBl.out bO.out) bO.out⟩

end Go.Proofs.YtdchbcpfciljoaaDoor.Print

-- Written for this claim by a program out of the translation. Lean checks it.
import Derived.Test.YtkhdfbmkikiapaaPrint0
import Derived.Test.YtkhdfbmkikiapaaPrintF9
import Derived.Test.YtkhdfbmkikiapaaPrintF19
import Derived.Test.YtkhdfbmkikiapaaG5
namespace Go.Proofs.Ytkhdfbmkikiapaa.Print
open Go.RowKit Go.Proofs.Ytkhdfbmkikiapaa Go.Proofs.Ytkhdfbmkikiapaa.Given Go.Proofs.YtkhdfbmkikiapaaW.PrintWords Go.Proofs.YtkhdfbmkikiapaaW.PrintLast Go.Proofs.YtkhdfbmkikiapaaW.PrintMore
attribute [local go_sem] max2_int min2_int max_two min_two max_three min_three max_four min_four   -- for this text's walks alone
set_option linter.unusedVariables false
set_option linter.unusedSimpArgs false

/-! ### turnspitlaw13_SpreadGains: function 5 -/
mutual
def turnspitlaw13_SpreadGains.l0 : Nat → Bool → List (S41) → Int → Int → List Int → Int → Int → Option (Bool)
  | 0, _, _, _, _, _, _, _ => none
  | k + 1, x7, x8, x9, x10, x11, x13, x14 => if x14 < (x11.length : Int) then (if 0 ≤ x14 then (if (rd x11 x14) < 0 then (turnspitlaw13_SpreadGains.j1 k x7 x8 x9 x10 x11 x14 (rd x11 x14) true) else (if (rd x11 x14) ≥ x13 then (turnspitlaw13_SpreadGains.j1 k x7 x8 x9 x10 x11 x14 (rd x11 x14) true) else (if 0 ≤ (rd x11 x14) then (if (rd x11 x14) < (x8.length : Int) then (turnspitlaw13_SpreadGains.j1 k x7 x8 x9 x10 x11 x14 (rd x11 x14) ((Int.tmod (IntKind.u64.wrap (Int.tdiv ((rd_T41 x8 (rd x11 x14)).f2) 8)) 2) == 0)) else (none)) else (none)))) else (none)) else (some x7)
def turnspitlaw13_SpreadGains.j1 : Nat → Bool → List (S41) → Int → Int → List Int → Int → Int → Bool → Option (Bool)
  | 0, _, _, _, _, _, _, _, _ => none
  | k + 1, x7, x8, x9, x10, x11, x14, x15, x66 => if x66 = true then (some false) else (if 0 ≤ x15 then (if x15 < (x8.length : Int) then (if (wrap64 ((wrap64 (x10 - ((rd_T41 x8 x15).f1))) - (wrap64 (x9 + ((rd_T41 x8 x15).f1))))) < 0 then (some false) else (if (wrap64 ((wrap64 (x10 - ((rd_T41 x8 x15).f1))) - (wrap64 (x9 + ((rd_T41 x8 x15).f1))))) > (wrap64 (x10 - x9)) then (some false) else (turnspitlaw13_SpreadGains.l0 k x7 x8 (wrap64 (x9 + ((rd_T41 x8 x15).f1))) (wrap64 (x10 - ((rd_T41 x8 x15).f1))) x11 x15 (wrap64 (x14 + 1))))) else (none)) else (none))
end
def turnspitlaw13_SpreadGains.f (k : Nat) (l0 : List Int) (a1 : Int) (a2 : Int) : Option (Bool) := (turnspitlaw13_awake.f k).bind fun t196 => (if t196 = true then ((turnspitlaw13_Made.f k l0).bind fun t197 => ((spread_Plan.f 3 (wrap64 (a1)) (wrap64 ((wrap64 (a1)) + (Int.tmod (wrap64 (a2)) 200000))) t197 40).bind fun bt200 => (if bt200.2 = 0 then (turnspitlaw13_SpreadGains.l0 k t196 t197 (wrap64 (a1)) (wrap64 ((wrap64 (a1)) + (Int.tmod (wrap64 (a2)) 200000))) bt200.1 (t197.length : Int) 0) else (some false)))) else (some false))
theorem turnspitlaw13_SpreadGains.mono_l : ∀ k, (∀ y0 y1 y2 y3 y4 y5 y6, LeO (turnspitlaw13_SpreadGains.l0 k y0 y1 y2 y3 y4 y5 y6) (turnspitlaw13_SpreadGains.l0 (k + 1) y0 y1 y2 y3 y4 y5 y6)) ∧ (∀ y0 y1 y2 y3 y4 y5 y6 y7, LeO (turnspitlaw13_SpreadGains.j1 k y0 y1 y2 y3 y4 y5 y6 y7) (turnspitlaw13_SpreadGains.j1 (k + 1) y0 y1 y2 y3 y4 y5 y6 y7))
  | 0 => ⟨fun _ _ _ _ _ _ _ r h => by simp [turnspitlaw13_SpreadGains.l0] at h, fun _ _ _ _ _ _ _ _ r h => by simp [turnspitlaw13_SpreadGains.j1] at h⟩
  | k + 1 => by
    obtain ⟨ih0, ih1⟩ := turnspitlaw13_SpreadGains.mono_l k
    refine ⟨?_, ?_⟩
    · intro y0 y1 y2 y3 y4 y5 y6
      unfold turnspitlaw13_SpreadGains.l0
      repeat' first
      | (with_reducible exact ih0 _ _ _ _ _ _ _)
      | (with_reducible exact ih1 _ _ _ _ _ _ _ _)
      | (with_reducible exact turnspitlaw13_Made.mono _ _)
      | (with_reducible exact turnspitlaw13_awake.mono _)
      | (with_reducible exact LeO.refl _)
      | (with_reducible exact LeO.none _)
      | (with_reducible refine LeO.ite ?_ ?_)
      | (with_reducible refine LeO.bind ?_ (fun _ => ?_))
      | exact ih0 _ _ _ _ _ _ _
      | exact ih1 _ _ _ _ _ _ _ _
      | exact turnspitlaw13_Made.mono _ _
      | exact turnspitlaw13_awake.mono _
      | exact LeO.none _
      | refine LeO.ite ?_ ?_
      | refine LeO.bind ?_ (fun _ => ?_)
    · intro y0 y1 y2 y3 y4 y5 y6 y7
      unfold turnspitlaw13_SpreadGains.j1
      repeat' first
      | (with_reducible exact ih0 _ _ _ _ _ _ _)
      | (with_reducible exact ih1 _ _ _ _ _ _ _ _)
      | (with_reducible exact turnspitlaw13_Made.mono _ _)
      | (with_reducible exact turnspitlaw13_awake.mono _)
      | (with_reducible exact LeO.refl _)
      | (with_reducible exact LeO.none _)
      | (with_reducible refine LeO.ite ?_ ?_)
      | (with_reducible refine LeO.bind ?_ (fun _ => ?_))
      | exact ih0 _ _ _ _ _ _ _
      | exact ih1 _ _ _ _ _ _ _ _
      | exact turnspitlaw13_Made.mono _ _
      | exact turnspitlaw13_awake.mono _
      | exact LeO.none _
      | refine LeO.ite ?_ ?_
      | refine LeO.bind ?_ (fun _ => ?_)
theorem turnspitlaw13_SpreadGains.mono : ∀ a0 a1 a2 k, LeO (turnspitlaw13_SpreadGains.f k a0 a1 a2) (turnspitlaw13_SpreadGains.f (k + 1) a0 a1 a2) := by
  intro a0 a1 a2 k
  obtain ⟨ih0, ih1⟩ := turnspitlaw13_SpreadGains.mono_l k
  unfold turnspitlaw13_SpreadGains.f
  repeat' first
      | (with_reducible exact ih0 _ _ _ _ _ _ _)
      | (with_reducible exact ih1 _ _ _ _ _ _ _ _)
      | (with_reducible exact turnspitlaw13_Made.mono _ _)
      | (with_reducible exact turnspitlaw13_awake.mono _)
      | (with_reducible exact LeO.refl _)
      | (with_reducible exact LeO.none _)
      | (with_reducible refine LeO.ite ?_ ?_)
      | (with_reducible refine LeO.bind ?_ (fun _ => ?_))
      | exact ih0 _ _ _ _ _ _ _
      | exact ih1 _ _ _ _ _ _ _ _
      | exact turnspitlaw13_Made.mono _ _
      | exact turnspitlaw13_awake.mono _
      | exact LeO.none _
      | refine LeO.ite ?_ ?_
      | refine LeO.bind ?_ (fun _ => ?_)
set_option maxHeartbeats 8000000 in
set_option maxRecDepth 100000 in
theorem turnspitlaw13_SpreadGains.calls (k : Nat) (A0 : Option Addr) (c0 : Nat) (l0 : List Int) (a1 : Int) (a2 : Int) (r : Bool) (w : World) (hr0 : Kd.C (Kd.int .u16) w A0 l0.length l0) (hc0 : l0.length ≤ c0) (h : turnspitlaw13_SpreadGains.f k l0 a1 a2 = some r) :
    Calls Try.prog 5 #[.slice A0 l0.length c0, .int .u32 a1, .int .u32 a2] w fun e w' => e = .returned (.bool r) ∧ Below w.heap.size w w' := by
  have HR0 := Aside0.mk hr0
  have HC0 := Aside0.mk hc0
  clear hr0 hc0
  have HB := Aside0.mk (Below.refl w.heap.size w)
  have H : ((turnspitlaw13_awake.f k).bind fun t196 => (if t196 = true then ((turnspitlaw13_Made.f k l0).bind fun t197 => ((spread_Plan.f 3 (wrap64 (a1)) (wrap64 ((wrap64 (a1)) + (Int.tmod (wrap64 (a2)) 200000))) t197 40).bind fun bt200 => (if bt200.2 = 0 then (turnspitlaw13_SpreadGains.l0 k t196 t197 (wrap64 (a1)) (wrap64 ((wrap64 (a1)) + (Int.tmod (wrap64 (a2)) 200000))) bt200.1 (t197.length : Int) 0) else (some false)))) else (some false))) = some r := h
  clear h
  replace H := Option.bind_eq_some_iff.mp H
  obtain ⟨t196, A40, H⟩ := H
  replace H : (if t196 = true then ((turnspitlaw13_Made.f k l0).bind fun t197 => ((spread_Plan.f 3 (wrap64 (a1)) (wrap64 ((wrap64 (a1)) + (Int.tmod (wrap64 (a2)) 200000))) t197 40).bind fun bt200 => (if bt200.2 = 0 then (turnspitlaw13_SpreadGains.l0 k t196 t197 (wrap64 (a1)) (wrap64 ((wrap64 (a1)) + (Int.tmod (wrap64 (a2)) 200000))) bt200.1 (t197.length : Int) 0) else (some false)))) else (some false)) = some r := H
  have A4 := Aside0.mk A40
  clear A40
  by_cases c5 : t196 = true
  · subst c5
    have H1 : ((turnspitlaw13_Made.f k l0).bind fun t197 => ((spread_Plan.f 3 (wrap64 (a1)) (wrap64 ((wrap64 (a1)) + (Int.tmod (wrap64 (a2)) 200000))) t197 40).bind fun bt200 => (if bt200.2 = 0 then (turnspitlaw13_SpreadGains.l0 k true t197 (wrap64 (a1)) (wrap64 ((wrap64 (a1)) + (Int.tmod (wrap64 (a2)) 200000))) bt200.1 (t197.length : Int) 0) else (some false)))) = some r := by rw [if_pos rfl] at H; exact H
    clear H
    have H := H1
    clear H1
    replace H := Option.bind_eq_some_iff.mp H
    obtain ⟨t197, A60, H⟩ := H
    replace H : ((spread_Plan.f 3 (wrap64 (a1)) (wrap64 ((wrap64 (a1)) + (Int.tmod (wrap64 (a2)) 200000))) t197 40).bind fun bt200 => (if bt200.2 = 0 then (turnspitlaw13_SpreadGains.l0 k true t197 (wrap64 (a1)) (wrap64 ((wrap64 (a1)) + (Int.tmod (wrap64 (a2)) 200000))) bt200.1 (t197.length : Int) 0) else (some false))) = some r := H
    have A6 := Aside0.mk A60
    clear A60
    replace H := Option.bind_eq_some_iff.mp H
    obtain ⟨⟨t200, t201⟩, A70, H⟩ := H
    replace H : (if t201 = 0 then (turnspitlaw13_SpreadGains.l0 k true t197 (wrap64 (a1)) (wrap64 ((wrap64 (a1)) + (Int.tmod (wrap64 (a2)) 200000))) t200 (t197.length : Int) 0) else (some false)) = some r := H
    have A7 := Aside0.mk A70
    clear A70
    by_cases c8 : t201 = 0
    · rw [if_pos c8] at H
      have c8b0 : (t201 == 0) = true := beq_iff_eq.mpr c8
      have c8b1 : (t201 != 0) = false := bne_eq_false_iff_eq.mpr c8
      clear c8
      have H' := Aside0.mk H
      clear H
      go_enter Try.func5, Try.ntmps5
      go_wp2_with (first | ((with_reducible refine gate_callee (f := 9) rfl ?_); refine goesL_ (some 17) rfl rfl Try.func9 (by kernel_rfl) rfl #[] rfl (by (try simp only [List.map_toArray, List.map_cons, List.map_nil]); first | done | rfl | (simp only [List.length_drop, List.length_take]; rfl)) ?_; (with_reducible refine (turnspitlaw13_awake.calls k  true _ A4.out).mono ?_); rintro e w9 ⟨rfl, hb⟩; refine ⟨_, rfl, ?_⟩; have n0_ := Aside0.mk (below_step (by repeat (first | (with_reducible first | exact HB.out | apply below_alloc | apply pw_below_drewN | apply below_drew1) | exact HB.out)) hb); clear HB; have HB := n0_; clear n0_; (try clear hb); (try clear hb2); (try clear hk); (try clear hi)) | ((with_reducible refine gate_callee (f := 19) rfl ?_); refine goesL_ (some 21) rfl rfl Try.func19 (by kernel_rfl) rfl #[.slice A0 l0.length c0] rfl (by (try simp only [List.map_toArray, List.map_cons, List.map_nil]); first | done | rfl | (simp only [List.length_drop, List.length_take]; rfl)) ?_; (with_reducible refine (turnspitlaw13_Made.calls k _ _ l0 t197 _ ?side1 ?side2 A6.out).mono ?_); (case side1 => repeat (first | exact (Kd.C_below HR0.out HB.out) | (with_reducible refine Kd.C_alloc ?_ _) | (with_reducible refine Kd.C_drewN ?_ _) | (with_reducible refine Kd.C_drew ?_))); (case side2 => exact HC0.out); rintro e w10 ⟨v198, rfl, ho0, hb⟩; refine ⟨_, rfl, ?_⟩; have n0_ := Aside0.mk (Kd.R_lower ho0 (below_size (by repeat (first | (with_reducible first | exact HB.out | apply below_alloc | apply pw_below_drewN | apply below_drew1) | exact HB.out)))); have n1_ := Aside0.mk (below_step (by repeat (first | (with_reducible first | exact HB.out | apply below_alloc | apply pw_below_drewN | apply below_drew1) | exact HB.out)) hb); clear HB; have HO199 := n0_; have HB := n1_; clear n0_ n1_; (try clear hb); (try clear hb2); (try clear hk); (try clear hi); (try clear ho0); obtain ⟨Ao11, co11, eo11⟩ := Kd.R_slice HO199.out; subst eo11) | ((with_reducible refine gate_callee (f := 10) rfl ?_); refine goesL_ (some 33) rfl rfl Try.func10 (by kernel_rfl) rfl #[.int .i64 3, .int .i64 (wrap64 (a1)), .int .i64 (wrap64 ((wrap64 (a1)) + (Int.tmod (wrap64 (a2)) 200000))), .slice Ao11 t197.length co11, .int .i64 40] rfl (by (try simp only [List.map_toArray, List.map_cons, List.map_nil]); first | done | rfl | (simp only [List.length_drop, List.length_take]; rfl)) ?_; (with_reducible refine (spread_Plan.calls 3 (wrap64 (a1)) (wrap64 ((wrap64 (a1)) + (Int.tmod (wrap64 (a2)) 200000))) _ _ t197 40 t200 t201 _ ?side1 ?side2 A7.out).mono ?_); (case side1 => repeat (first | exact (Kd.R_reads' HO199.out).2.2 | (with_reducible refine Kd.C_alloc ?_ _) | (with_reducible refine Kd.C_drewN ?_ _) | (with_reducible refine Kd.C_drew ?_))); (case side2 => exact (Kd.R_reads' HO199.out).2.1); rintro e w12 ⟨v202, rfl, ho0, hb⟩; refine ⟨_, rfl, ?_⟩; have n0_ := Aside0.mk (Kd.R_below (by (with_reducible repeat (first | apply Kd.R_alloc | apply Kd.R_drewN | apply Kd.R_drew)); exact HO199.out) hb); have n1_ := Aside0.mk (Kd.R_lower ho0 (below_size (by repeat (first | (with_reducible first | exact HB.out | apply below_alloc | apply pw_below_drewN | apply below_drew1) | exact HB.out)))); have n2_ := Aside0.mk (below_step (by repeat (first | (with_reducible first | exact HB.out | apply below_alloc | apply pw_below_drewN | apply below_drew1) | exact HB.out)) hb); clear HO199; clear HB; have HO199 := n0_; have HO203 := n1_; have HB := n2_; clear n0_ n1_ n2_; (try clear hb); (try clear hb2); (try clear hk); (try clear hi); (try clear ho0)))
      go_loopg [9, 10, 13, 14] k (fun kq v9 v10 v13 v14 w' => ∃ (x9_1 : Int) (x10_1 : Int) (x13_1 : Int) (x14_1 : Int), v9 = .int .i64 x9_1 ∧ v10 = .int .i64 x10_1 ∧ v13 = .int .i64 x13_1 ∧ v14 = .int .i64 x14_1 ∧ Aside0 (turnspitlaw13_SpreadGains.l0 kq true t197 x9_1 x10_1 t200 x13_1 x14_1 = some r) ∧ Aside0 (kq ≤ k) ∧ Aside0 (Kd.R k41 41 w' w.heap.size (fun _ => True) (.slice Ao11 t197.length co11) t197) ∧ Aside0 (Kd.R (Kd.int .i64) 3 w' w.heap.size (fun _ => True) v202 t200) ∧ Aside0 (Below w.heap.size w w'))
      case atStart => exact ⟨(wrap64 (a1)), (wrap64 ((wrap64 (a1)) + (Int.tmod (wrap64 (a2)) 200000))), ((t197.length : Int)), (0), (by first | rfl | (simp; done) | (simp [*]; done)), (by first | rfl | (simp; done) | (simp [*]; done)), (by first | rfl | (simp; done) | (simp [*]; done)), (by first | rfl | (simp; done) | (simp [*]; done)), H', ⟨Nat.le_refl _⟩, ⟨by (with_reducible repeat (first | apply Kd.R_alloc | apply Kd.R_drewN | apply Kd.R_drew)); exact HO199.out⟩, ⟨by (with_reducible repeat (first | apply Kd.R_alloc | apply Kd.R_drewN | apply Kd.R_drew)); exact HO203.out⟩, ⟨by repeat (first | (with_reducible first | exact HB.out | apply below_alloc | apply pw_below_drewN | apply below_drew1) | exact HB.out)⟩⟩
      case round =>
        clear H'
        try clear c1
        try clear p2
        try clear c5
        try clear p6
        try clear c8
        try clear c8b0
        try clear c8b1
        try clear c9
        try clear c10
        obtain ⟨x9_1, x10_1, x13_1, x14_1, rfl, rfl, rfl, rfl, HA, HK1, HO_8, HO_11, HB⟩ := hrel
        cases gk with
        | zero => exact absurd HA.out (by simp [turnspitlaw13_SpreadGains.l0])
        | succ k1 =>
          have H := HA.out
          clear HA
          simp only [turnspitlaw13_SpreadGains.l0] at H
          by_cases c13 : x14_1 < (t200.length : Int)
          · rw [if_pos c13] at H
            have c13b0 : decide (x14_1 < (t200.length : Int)) = true := decide_eq_true c13
            clear c13
            by_cases c14 : 0 ≤ x14_1
            · rw [if_pos c14] at H
              have c14b0 : decide (0 ≤ x14_1) = true := decide_eq_true c14
              clear c14
              have HC15 := Aside0.mk H
              clear H
              obtain ⟨Ao16, co16, eo16⟩ := Kd.R_slice HO_11.out
              subst eo16
              have p204 : 0 ≤ (x14_1 : Int) := of_decide_eq_true (by first | (with_reducible assumption) | assumption)
              have q204 : x14_1 < (t200.length : Int) := of_decide_eq_true (by first | (with_reducible assumption) | assumption)
              obtain ⟨ad204, e204, hx204_0⟩ := Kd.at_int (Kd.R_reads' HO_11.out).2.2 x14_1 p204 q204
              cases e204
              replace p204 := eq_true p204
              replace q204 := eq_true q204
              go_upto_region 15 with (fail)
              go_cut [66] (fun v66 wc => ∃ (kq : Nat) (x66_14 : Bool), v66 = .bool x66_14 ∧ Aside0 (turnspitlaw13_SpreadGains.j1 kq true t197 x9_1 x10_1 t200 x14_1 (rd t200 x14_1) x66_14 = some r) ∧ Aside0 (kq ≤ k1) ∧ Aside0 (Kd.R k41 41 wc w.heap.size (fun _ => True) (.slice Ao11 t197.length co11) t197) ∧ Aside0 (Kd.R (Kd.int .i64) 3 wc w.heap.size (fun _ => True) (.slice (some ad204) t200.length co16) t200) ∧ Aside0 (Below w.heap.size w wc))
              case first =>
                have H := HC15.out
                clear HC15
                by_cases c17 : (rd t200 x14_1) < 0
                · rw [if_pos c17] at H
                  have c17b0 : decide ((rd t200 x14_1) < 0) = true := decide_eq_true c17
                  clear c17
                  (first | rw [c17b0] | (simp only [i64_w, i32_w]; rw [c17b0]) | skip)
                  have H' := Aside0.mk H
                  clear H
                  go_wp2
                  go_meet
                  case rel => exact ⟨_, (true), (by first | rfl | (simp; done) | (simp [*]; done)), H', ⟨by have := HK1.out; first | omega | exact Nat.le_refl _⟩, ⟨by (with_reducible repeat (first | apply Kd.R_alloc | apply Kd.R_drewN | apply Kd.R_drew)); exact HO_8.out⟩, ⟨by (with_reducible repeat (first | apply Kd.R_alloc | apply Kd.R_drewN | apply Kd.R_drew)); exact HO_11.out⟩, ⟨by repeat (first | (with_reducible first | exact HB.out | apply below_alloc | apply pw_below_drewN | apply below_drew1) | exact HB.out)⟩⟩
                · rw [if_neg c17] at H
                  have c17b0 : decide ((rd t200 x14_1) < 0) = false := decide_eq_false c17
                  clear c17
                  (first | rw [c17b0] | (simp only [i64_w, i32_w]; rw [c17b0]) | skip)
                  by_cases c18 : (rd t200 x14_1) ≥ x13_1
                  · rw [if_pos c18] at H
                    have c18b0 : decide (x13_1 ≤ (rd t200 x14_1)) = true := decide_eq_true c18
                    clear c18
                    have H' := Aside0.mk H
                    clear H
                    go_wp2
                    go_meet
                    case rel => exact ⟨_, (true), (by first | rfl | (simp; done) | (simp [*]; done)), H', ⟨by have := HK1.out; first | omega | exact Nat.le_refl _⟩, ⟨by (with_reducible repeat (first | apply Kd.R_alloc | apply Kd.R_drewN | apply Kd.R_drew)); exact HO_8.out⟩, ⟨by (with_reducible repeat (first | apply Kd.R_alloc | apply Kd.R_drewN | apply Kd.R_drew)); exact HO_11.out⟩, ⟨by repeat (first | (with_reducible first | exact HB.out | apply below_alloc | apply pw_below_drewN | apply below_drew1) | exact HB.out)⟩⟩
                  · rw [if_neg c18] at H
                    have c18b0 : decide (x13_1 ≤ (rd t200 x14_1)) = false := decide_eq_false c18
                    clear c18
                    by_cases c19 : 0 ≤ (rd t200 x14_1)
                    · rw [if_pos c19] at H
                      have c19b0 : decide (0 ≤ (rd t200 x14_1)) = true := decide_eq_true c19
                      clear c19
                      by_cases c20 : (rd t200 x14_1) < (t197.length : Int)
                      · rw [if_pos c20] at H
                        have c20b0 : decide ((rd t200 x14_1) < (t197.length : Int)) = true := decide_eq_true c20
                        clear c20
                        have H' := Aside0.mk H
                        clear H
                        have p205 : 0 ≤ ((rd t200 x14_1) : Int) := of_decide_eq_true (by first | (with_reducible assumption) | assumption)
                        have q205 : (rd t200 x14_1) < (t197.length : Int) := of_decide_eq_true (by first | (with_reducible assumption) | assumption)
                        obtain ⟨ad205, e205, hx205_0, hx205_1, hx205_2⟩ := at_T41 (Kd.R_reads' HO_8.out).2.2 (rd t200 x14_1) p205 q205
                        cases e205
                        replace p205 := eq_true p205
                        replace q205 := eq_true q205
                        go_wp2
                        go_meet
                        case rel => exact ⟨_, (((Int.tmod (IntKind.u64.wrap (Int.tdiv ((rd_T41 t197 (rd t200 x14_1)).f2) 8)) 2) == 0)), (by first | rfl | (simp; done) | (simp [*]; done)), H', ⟨by have := HK1.out; first | omega | exact Nat.le_refl _⟩, ⟨by (with_reducible repeat (first | apply Kd.R_alloc | apply Kd.R_drewN | apply Kd.R_drew)); exact HO_8.out⟩, ⟨by (with_reducible repeat (first | apply Kd.R_alloc | apply Kd.R_drewN | apply Kd.R_drew)); exact HO_11.out⟩, ⟨by repeat (first | (with_reducible first | exact HB.out | apply below_alloc | apply pw_below_drewN | apply below_drew1) | exact HB.out)⟩⟩
                      · rw [if_neg c20] at H
                        exact absurd H (by simp)
                    · rw [if_neg c19] at H
                      exact absurd H (by simp)
              case rest =>
                clear HC15
                try clear c1
                try clear c2
                try clear p2
                try clear q2
                try clear hx2
                try clear c5
                try clear p6
                try clear c8
                try clear c8b0
                try clear c8b1
                try clear c9
                try clear c10
                try clear c13
                try clear c13b0
                try clear c14
                try clear c14b0
                try clear c17
                try clear c17b0
                try clear c18
                try clear c18b0
                try clear c19
                try clear c19b0
                try clear c20
                try clear c20b0
                try clear p20
                try clear q20
                try clear hx20
                try clear hx204_0
                try clear hx205_0
                try clear hx205_1
                try clear hx205_2
                try clear p2
                try clear p204
                try clear p205
                try clear p6
                try clear q204
                try clear q205
                obtain ⟨kq, x66_14, rfl, HA, HJ14, HO_8, HO_11, HB⟩ := hcut
                cases kq with
                | zero => exact absurd HA.out (by simp [turnspitlaw13_SpreadGains.j1])
                | succ kj14 =>
                  have H := HA.out
                  clear HA
                  simp only [turnspitlaw13_SpreadGains.j1] at H
                  by_cases c21 : x66_14 = true
                  · subst c21
                    have H1 : (some false) = some r := by rw [if_pos rfl] at H; exact H
                    clear H
                    have H := H1
                    clear H1
                    obtain rfl := Option.some.inj H
                    go_wp2
                    go_ret
                    exact ⟨by first | rfl | (simp [errW_none, errW_some] <;> rfl) | (simp [*, errW_none, errW_some] <;> rfl), by repeat (first | (with_reducible first | exact HB.out | apply below_alloc | apply pw_below_drewN | apply below_drew1) | exact HB.out)⟩
                  · replace c21 := Bool.eq_false_iff.mpr c21
                    subst c21
                    have H1 : (if 0 ≤ (rd t200 x14_1) then (if (rd t200 x14_1) < (t197.length : Int) then (if (wrap64 ((wrap64 (x10_1 - ((rd_T41 t197 (rd t200 x14_1)).f1))) - (wrap64 (x9_1 + ((rd_T41 t197 (rd t200 x14_1)).f1))))) < 0 then (some false) else (if (wrap64 ((wrap64 (x10_1 - ((rd_T41 t197 (rd t200 x14_1)).f1))) - (wrap64 (x9_1 + ((rd_T41 t197 (rd t200 x14_1)).f1))))) > (wrap64 (x10_1 - x9_1)) then (some false) else (turnspitlaw13_SpreadGains.l0 kj14 true t197 (wrap64 (x9_1 + ((rd_T41 t197 (rd t200 x14_1)).f1))) (wrap64 (x10_1 - ((rd_T41 t197 (rd t200 x14_1)).f1))) t200 (rd t200 x14_1) (wrap64 (x14_1 + 1))))) else (none)) else (none)) = some r := by rw [if_neg (show ¬ (false = true) by decide)] at H; exact H
                    clear H
                    have H := H1
                    clear H1
                    by_cases c22 : 0 ≤ (rd t200 x14_1)
                    · rw [if_pos c22] at H
                      have c22b0 : decide (0 ≤ (rd t200 x14_1)) = true := decide_eq_true c22
                      clear c22
                      by_cases c23 : (rd t200 x14_1) < (t197.length : Int)
                      · rw [if_pos c23] at H
                        have c23b0 : decide ((rd t200 x14_1) < (t197.length : Int)) = true := decide_eq_true c23
                        clear c23
                        by_cases c24 : (wrap64 ((wrap64 (x10_1 - ((rd_T41 t197 (rd t200 x14_1)).f1))) - (wrap64 (x9_1 + ((rd_T41 t197 (rd t200 x14_1)).f1))))) < 0
                        · rw [if_pos c24] at H
                          have c24b0 : decide ((wrap64 ((wrap64 (x10_1 - ((rd_T41 t197 (rd t200 x14_1)).f1))) - (wrap64 (x9_1 + ((rd_T41 t197 (rd t200 x14_1)).f1))))) < 0) = true := decide_eq_true c24
                          clear c24
                          obtain rfl := Option.some.inj H
                          have p206 : 0 ≤ ((rd t200 x14_1) : Int) := of_decide_eq_true (by first | (with_reducible assumption) | assumption)
                          have q206 : (rd t200 x14_1) < (t197.length : Int) := of_decide_eq_true (by first | (with_reducible assumption) | assumption)
                          obtain ⟨ad206, e206, hx206_0, hx206_1, hx206_2⟩ := at_T41 (Kd.R_reads' HO_8.out).2.2 (rd t200 x14_1) p206 q206
                          cases e206
                          replace p206 := eq_true p206
                          replace q206 := eq_true q206
                          have p207 : 0 ≤ ((rd t200 x14_1) : Int) := of_decide_eq_true (by first | (with_reducible assumption) | assumption)
                          have q207 : (rd t200 x14_1) < (t197.length : Int) := of_decide_eq_true (by first | (with_reducible assumption) | assumption)
                          obtain ⟨ad207, e207, hx207_0, hx207_1, hx207_2⟩ := at_T41 (Kd.R_reads' HO_8.out).2.2 (rd t200 x14_1) p207 q207
                          obtain rfl : ad206 = ad207 := (by injection e207)
                          replace p207 := eq_true p207
                          replace q207 := eq_true q207
                          go_wp2
                          go_ret
                          exact ⟨by first | rfl | (simp [errW_none, errW_some] <;> rfl) | (simp [*, errW_none, errW_some] <;> rfl), by repeat (first | (with_reducible first | exact HB.out | apply below_alloc | apply pw_below_drewN | apply below_drew1) | exact HB.out)⟩
                        · rw [if_neg c24] at H
                          have c24b0 : decide ((wrap64 ((wrap64 (x10_1 - ((rd_T41 t197 (rd t200 x14_1)).f1))) - (wrap64 (x9_1 + ((rd_T41 t197 (rd t200 x14_1)).f1))))) < 0) = false := decide_eq_false c24
                          clear c24
                          by_cases c25 : (wrap64 ((wrap64 (x10_1 - ((rd_T41 t197 (rd t200 x14_1)).f1))) - (wrap64 (x9_1 + ((rd_T41 t197 (rd t200 x14_1)).f1))))) > (wrap64 (x10_1 - x9_1))
                          · rw [if_pos c25] at H
                            have c25b0 : decide ((wrap64 (x10_1 - x9_1)) < (wrap64 ((wrap64 (x10_1 - ((rd_T41 t197 (rd t200 x14_1)).f1))) - (wrap64 (x9_1 + ((rd_T41 t197 (rd t200 x14_1)).f1)))))) = true := decide_eq_true c25
                            clear c25
                            obtain rfl := Option.some.inj H
                            have p206 : 0 ≤ ((rd t200 x14_1) : Int) := of_decide_eq_true (by first | (with_reducible assumption) | assumption)
                            have q206 : (rd t200 x14_1) < (t197.length : Int) := of_decide_eq_true (by first | (with_reducible assumption) | assumption)
                            obtain ⟨ad206, e206, hx206_0, hx206_1, hx206_2⟩ := at_T41 (Kd.R_reads' HO_8.out).2.2 (rd t200 x14_1) p206 q206
                            cases e206
                            replace p206 := eq_true p206
                            replace q206 := eq_true q206
                            have p207 : 0 ≤ ((rd t200 x14_1) : Int) := of_decide_eq_true (by first | (with_reducible assumption) | assumption)
                            have q207 : (rd t200 x14_1) < (t197.length : Int) := of_decide_eq_true (by first | (with_reducible assumption) | assumption)
                            obtain ⟨ad207, e207, hx207_0, hx207_1, hx207_2⟩ := at_T41 (Kd.R_reads' HO_8.out).2.2 (rd t200 x14_1) p207 q207
                            obtain rfl : ad206 = ad207 := (by injection e207)
                            replace p207 := eq_true p207
                            replace q207 := eq_true q207
                            go_wp2
                            go_ret
                            exact ⟨by first | rfl | (simp [errW_none, errW_some] <;> rfl) | (simp [*, errW_none, errW_some] <;> rfl), by repeat (first | (with_reducible first | exact HB.out | apply below_alloc | apply pw_below_drewN | apply below_drew1) | exact HB.out)⟩
                          · rw [if_neg c25] at H
                            have c25b0 : decide ((wrap64 (x10_1 - x9_1)) < (wrap64 ((wrap64 (x10_1 - ((rd_T41 t197 (rd t200 x14_1)).f1))) - (wrap64 (x9_1 + ((rd_T41 t197 (rd t200 x14_1)).f1)))))) = false := decide_eq_false c25
                            clear c25
                            have H' := Aside0.mk H
                            clear H
                            have p206 : 0 ≤ ((rd t200 x14_1) : Int) := of_decide_eq_true (by first | (with_reducible assumption) | assumption)
                            have q206 : (rd t200 x14_1) < (t197.length : Int) := of_decide_eq_true (by first | (with_reducible assumption) | assumption)
                            obtain ⟨ad206, e206, hx206_0, hx206_1, hx206_2⟩ := at_T41 (Kd.R_reads' HO_8.out).2.2 (rd t200 x14_1) p206 q206
                            cases e206
                            replace p206 := eq_true p206
                            replace q206 := eq_true q206
                            have p207 : 0 ≤ ((rd t200 x14_1) : Int) := of_decide_eq_true (by first | (with_reducible assumption) | assumption)
                            have q207 : (rd t200 x14_1) < (t197.length : Int) := of_decide_eq_true (by first | (with_reducible assumption) | assumption)
                            obtain ⟨ad207, e207, hx207_0, hx207_1, hx207_2⟩ := at_T41 (Kd.R_reads' HO_8.out).2.2 (rd t200 x14_1) p207 q207
                            obtain rfl : ad206 = ad207 := (by injection e207)
                            replace p207 := eq_true p207
                            replace q207 := eq_true q207
                            go_wp2
                            go_roundg kj14
                            case measure => have := HK1.out; have := HJ14.out; omega
                            case rel => exact ⟨(wrap64 (x9_1 + ((rd_T41 t197 (rd t200 x14_1)).f1))), (wrap64 (x10_1 - ((rd_T41 t197 (rd t200 x14_1)).f1))), ((rd t200 x14_1)), (wrap64 (x14_1 + 1)), (by first | rfl | (simp; done) | (simp [*]; done)), (by first | rfl | (simp; done) | (simp [*]; done)), (by first | rfl | (simp; done) | (simp [*]; done)), (by first | rfl | (simp; done) | (simp [*]; done)), H', ⟨by have := HK1.out; have := HJ14.out; omega⟩, ⟨by (with_reducible repeat (first | apply Kd.R_alloc | apply Kd.R_drewN | apply Kd.R_drew)); exact HO_8.out⟩, ⟨by (with_reducible repeat (first | apply Kd.R_alloc | apply Kd.R_drewN | apply Kd.R_drew)); exact HO_11.out⟩, ⟨by repeat (first | (with_reducible first | exact HB.out | apply below_alloc | apply pw_below_drewN | apply below_drew1) | exact HB.out)⟩⟩
                      · rw [if_neg c23] at H
                        exact absurd H (by simp)
                    · rw [if_neg c22] at H
                      exact absurd H (by simp)
            · rw [if_neg c14] at H
              exact absurd H (by simp)
          · rw [if_neg c13] at H
            have c13b0 : decide (x14_1 < (t200.length : Int)) = false := decide_eq_false c13
            clear c13
            obtain rfl := Option.some.inj H
            obtain ⟨Ao26, co26, eo26⟩ := Kd.R_slice HO_11.out
            subst eo26
            go_wp2
            go_ret
            exact ⟨by first | rfl | (simp [errW_none, errW_some] <;> rfl) | (simp [*, errW_none, errW_some] <;> rfl), by repeat (first | (with_reducible first | exact HB.out | apply below_alloc | apply pw_below_drewN | apply below_drew1) | exact HB.out)⟩
    · rw [if_neg c8] at H
      have c8b0 : (t201 == 0) = false := beq_eq_false_iff_ne.mpr c8
      have c8b1 : (t201 != 0) = true := bne_iff_ne.mpr c8
      obtain rfl := Option.some.inj H
      go_enter Try.func5, Try.ntmps5
      go_wp2_with (first | ((with_reducible refine gate_callee (f := 9) rfl ?_); refine goesL_ (some 17) rfl rfl Try.func9 (by kernel_rfl) rfl #[] rfl (by (try simp only [List.map_toArray, List.map_cons, List.map_nil]); first | done | rfl | (simp only [List.length_drop, List.length_take]; rfl)) ?_; (with_reducible refine (turnspitlaw13_awake.calls k  true _ A4.out).mono ?_); rintro e w27 ⟨rfl, hb⟩; refine ⟨_, rfl, ?_⟩; have n0_ := Aside0.mk (below_step (by repeat (first | (with_reducible first | exact HB.out | apply below_alloc | apply pw_below_drewN | apply below_drew1) | exact HB.out)) hb); clear HB; have HB := n0_; clear n0_; (try clear hb); (try clear hb2); (try clear hk); (try clear hi)) | ((with_reducible refine gate_callee (f := 19) rfl ?_); refine goesL_ (some 21) rfl rfl Try.func19 (by kernel_rfl) rfl #[.slice A0 l0.length c0] rfl (by (try simp only [List.map_toArray, List.map_cons, List.map_nil]); first | done | rfl | (simp only [List.length_drop, List.length_take]; rfl)) ?_; (with_reducible refine (turnspitlaw13_Made.calls k _ _ l0 t197 _ ?side1 ?side2 A6.out).mono ?_); (case side1 => repeat (first | exact (Kd.C_below HR0.out HB.out) | (with_reducible refine Kd.C_alloc ?_ _) | (with_reducible refine Kd.C_drewN ?_ _) | (with_reducible refine Kd.C_drew ?_))); (case side2 => exact HC0.out); rintro e w28 ⟨v198, rfl, ho0, hb⟩; refine ⟨_, rfl, ?_⟩; have n0_ := Aside0.mk (Kd.R_lower ho0 (below_size (by repeat (first | (with_reducible first | exact HB.out | apply below_alloc | apply pw_below_drewN | apply below_drew1) | exact HB.out)))); have n1_ := Aside0.mk (below_step (by repeat (first | (with_reducible first | exact HB.out | apply below_alloc | apply pw_below_drewN | apply below_drew1) | exact HB.out)) hb); clear HB; have HO199 := n0_; have HB := n1_; clear n0_ n1_; (try clear hb); (try clear hb2); (try clear hk); (try clear hi); (try clear ho0); obtain ⟨Ao29, co29, eo29⟩ := Kd.R_slice HO199.out; subst eo29) | ((with_reducible refine gate_callee (f := 10) rfl ?_); refine goesL_ (some 33) rfl rfl Try.func10 (by kernel_rfl) rfl #[.int .i64 3, .int .i64 (wrap64 (a1)), .int .i64 (wrap64 ((wrap64 (a1)) + (Int.tmod (wrap64 (a2)) 200000))), .slice Ao29 t197.length co29, .int .i64 40] rfl (by (try simp only [List.map_toArray, List.map_cons, List.map_nil]); first | done | rfl | (simp only [List.length_drop, List.length_take]; rfl)) ?_; (with_reducible refine (spread_Plan.calls 3 (wrap64 (a1)) (wrap64 ((wrap64 (a1)) + (Int.tmod (wrap64 (a2)) 200000))) _ _ t197 40 t200 t201 _ ?side1 ?side2 A7.out).mono ?_); (case side1 => repeat (first | exact (Kd.R_reads' HO199.out).2.2 | (with_reducible refine Kd.C_alloc ?_ _) | (with_reducible refine Kd.C_drewN ?_ _) | (with_reducible refine Kd.C_drew ?_))); (case side2 => exact (Kd.R_reads' HO199.out).2.1); rintro e w30 ⟨v202, rfl, ho0, hb⟩; refine ⟨_, rfl, ?_⟩; have n0_ := Aside0.mk (Kd.R_below (by (with_reducible repeat (first | apply Kd.R_alloc | apply Kd.R_drewN | apply Kd.R_drew)); exact HO199.out) hb); have n1_ := Aside0.mk (Kd.R_lower ho0 (below_size (by repeat (first | (with_reducible first | exact HB.out | apply below_alloc | apply pw_below_drewN | apply below_drew1) | exact HB.out)))); have n2_ := Aside0.mk (below_step (by repeat (first | (with_reducible first | exact HB.out | apply below_alloc | apply pw_below_drewN | apply below_drew1) | exact HB.out)) hb); clear HO199; clear HB; have HO199 := n0_; have HO203 := n1_; have HB := n2_; clear n0_ n1_ n2_; (try clear hb); (try clear hb2); (try clear hk); (try clear hi); (try clear ho0)))
      go_ret
      exact ⟨by first | rfl | (simp [errW_none, errW_some] <;> rfl) | (simp [*, errW_none, errW_some] <;> rfl), by repeat (first | (with_reducible first | exact HB.out | apply below_alloc | apply pw_below_drewN | apply below_drew1) | exact HB.out)⟩
  · replace c5 := Bool.eq_false_iff.mpr c5
    subst c5
    have H1 : (some false) = some r := by rw [if_neg (show ¬ (false = true) by decide)] at H; exact H
    clear H
    have H := H1
    clear H1
    obtain rfl := Option.some.inj H
    go_enter Try.func5, Try.ntmps5
    go_wp2_with (first | ((with_reducible refine gate_callee (f := 9) rfl ?_); refine goesL_ (some 17) rfl rfl Try.func9 (by kernel_rfl) rfl #[] rfl (by (try simp only [List.map_toArray, List.map_cons, List.map_nil]); first | done | rfl | (simp only [List.length_drop, List.length_take]; rfl)) ?_; (with_reducible refine (turnspitlaw13_awake.calls k  false _ A4.out).mono ?_); rintro e w31 ⟨rfl, hb⟩; refine ⟨_, rfl, ?_⟩; have n0_ := Aside0.mk (below_step (by repeat (first | (with_reducible first | exact HB.out | apply below_alloc | apply pw_below_drewN | apply below_drew1) | exact HB.out)) hb); clear HB; have HB := n0_; clear n0_; (try clear hb); (try clear hb2); (try clear hk); (try clear hi)))
    go_ret
    exact ⟨by first | rfl | (simp [errW_none, errW_some] <;> rfl) | (simp [*, errW_none, errW_some] <;> rfl), by repeat (first | (with_reducible first | exact HB.out | apply below_alloc | apply pw_below_drewN | apply below_drew1) | exact HB.out)⟩

end Go.Proofs.Ytkhdfbmkikiapaa.Print

-- Written for this claim by a program out of the translation. Lean checks it.
import Derived.Test.YtkhdfbmkikiapaaPrint0
import Derived.Test.YtkhdfbmkikiapaaPrintF15
import Derived.Test.YtkhdfbmkikiapaaPrintF17
import Derived.Test.YtkhdfbmkikiapaaPrintF9
namespace Go.Proofs.Ytkhdfbmkikiapaa.Print
open Go.RowKit Go.Proofs.Ytkhdfbmkikiapaa Go.Proofs.Ytkhdfbmkikiapaa.Given Go.Proofs.YtkhdfbmkikiapaaW.PrintWords Go.Proofs.YtkhdfbmkikiapaaW.PrintLast Go.Proofs.YtkhdfbmkikiapaaW.PrintMore
attribute [local go_sem] max2_int min2_int max_two min_two max_three min_three max_four min_four   -- for this text's walks alone
set_option linter.unusedVariables false
set_option linter.unusedSimpArgs false

/-! ### turnspitlaw13_SpreadEnds: function 8 -/
mutual
def turnspitlaw13_SpreadEnds.j0 : Nat → List Int → Int → Bool → Int → Bool → Int → Bool → Int → Bool → Option (Bool)
  | 0, _, _, _, _, _, _, _, _, _ => none
  | k + 1, x0, x1, x5, x6, x7, x8, x9, x10, x40 => if x40 = true then (turnspitlaw13_SpreadEnds.j1 k x0 x1 x5 x6 x7 x8 x9 (wrap64 (x10 - 1))) else (turnspitlaw13_SpreadEnds.j1 k x0 x1 x5 x6 x7 x8 x9 x10)
def turnspitlaw13_SpreadEnds.j1 : Nat → List Int → Int → Bool → Int → Bool → Int → Bool → Int → Option (Bool)
  | 0, _, _, _, _, _, _, _, _ => none
  | k + 1, x0, x1, x5, x6, x7, x8, x9, x10 => if (x7 != (decide (x10 > 0))) = true then (turnspitlaw13_SpreadEnds.j2 k x0 x1 x5 x6 x7 x8 true) else (turnspitlaw13_SpreadEnds.j2 k x0 x1 x5 x6 x7 x8 (x9 != x7))
def turnspitlaw13_SpreadEnds.j2 : Nat → List Int → Int → Bool → Int → Bool → Int → Bool → Option (Bool)
  | 0, _, _, _, _, _, _, _ => none
  | k + 1, x0, x1, x5, x6, x7, x8, x51 => if x51 = true then (some false) else (turnspitlaw13_SpreadEnds.l0 k x0 x1 x5 x6 x7 x8 0)
def turnspitlaw13_SpreadEnds.l0 : Nat → List Int → Int → Bool → Int → Bool → Int → Int → Option (Bool)
  | 0, _, _, _, _, _, _, _ => none
  | k + 1, x0, x1, x5, x6, x7, x8, x11 => if x11 < (x0.length : Int) then (turnspitlaw13_SpreadEnds.j4 k x0 x1 x5 x6 x7 x8 x11 x7) else (turnspitlaw13_SpreadEnds.j4 k x0 x1 x5 x6 x7 x8 x11 false)
def turnspitlaw13_SpreadEnds.j4 : Nat → List Int → Int → Bool → Int → Bool → Int → Int → Bool → Option (Bool)
  | 0, _, _, _, _, _, _, _, _ => none
  | k + 1, x0, x1, x5, x6, x7, x8, x11, x58 => if x58 = true then (if x11 = x1 then (turnspitlaw13_SpreadEnds.l0 k x0 x1 x5 x6 x7 x8 (wrap64 (x11 + 1))) else (if 0 ≤ x11 then (if x11 < (x0.length : Int) then (if 0 ≤ x6 then (if x6 < (x0.length : Int) then (if (rd x0 x11) > (rd x0 x6) then (some false) else (if (rd x0 x11) = (rd x0 x6) then (if x11 < x6 then (some false) else (if 0 ≤ x8 then (if x8 < (x0.length : Int) then (if (rd x0 x11) < (rd x0 x8) then (some false) else (if (rd x0 x11) = (rd x0 x8) then (if x11 < x8 then (some false) else (turnspitlaw13_SpreadEnds.l0 k x0 x1 x5 x6 x7 x8 (wrap64 (x11 + 1)))) else (turnspitlaw13_SpreadEnds.l0 k x0 x1 x5 x6 x7 x8 (wrap64 (x11 + 1))))) else (none)) else (none))) else (if 0 ≤ x8 then (if x8 < (x0.length : Int) then (if (rd x0 x11) < (rd x0 x8) then (some false) else (if (rd x0 x11) = (rd x0 x8) then (if x11 < x8 then (some false) else (turnspitlaw13_SpreadEnds.l0 k x0 x1 x5 x6 x7 x8 (wrap64 (x11 + 1)))) else (turnspitlaw13_SpreadEnds.l0 k x0 x1 x5 x6 x7 x8 (wrap64 (x11 + 1))))) else (none)) else (none)))) else (none)) else (none)) else (none)) else (none))) else (if x5 = true then (if x7 = true then (if x6 = x1 then (some false) else (some (x8 != x1))) else (some true)) else (some false))
end
def turnspitlaw13_SpreadEnds.f (k : Nat) (l0 : List Int) (a1 : Int) : Option (Bool) := (turnspitlaw13_awake.f k).bind fun t248 => (if t248 = true then (if (l0.length : Int) > 100 then (some t248) else ((spread_Busiest.f k l0 a1).bind fun bt249 => ((spread_Idlest.f k l0 a1).bind fun bt251 => (if a1 ≥ 0 then (turnspitlaw13_SpreadEnds.j0 k l0 a1 t248 bt249.1 bt249.2 bt251.1 bt251.2 (l0.length : Int) (decide (a1 < (l0.length : Int)))) else (turnspitlaw13_SpreadEnds.j0 k l0 a1 t248 bt249.1 bt249.2 bt251.1 bt251.2 (l0.length : Int) false))))) else (some false))
theorem turnspitlaw13_SpreadEnds.mono_l : ∀ k, (∀ y0 y1 y2 y3 y4 y5 y6 y7 y8, LeO (turnspitlaw13_SpreadEnds.j0 k y0 y1 y2 y3 y4 y5 y6 y7 y8) (turnspitlaw13_SpreadEnds.j0 (k + 1) y0 y1 y2 y3 y4 y5 y6 y7 y8)) ∧ (∀ y0 y1 y2 y3 y4 y5 y6 y7, LeO (turnspitlaw13_SpreadEnds.j1 k y0 y1 y2 y3 y4 y5 y6 y7) (turnspitlaw13_SpreadEnds.j1 (k + 1) y0 y1 y2 y3 y4 y5 y6 y7)) ∧ (∀ y0 y1 y2 y3 y4 y5 y6, LeO (turnspitlaw13_SpreadEnds.j2 k y0 y1 y2 y3 y4 y5 y6) (turnspitlaw13_SpreadEnds.j2 (k + 1) y0 y1 y2 y3 y4 y5 y6)) ∧ (∀ y0 y1 y2 y3 y4 y5 y6, LeO (turnspitlaw13_SpreadEnds.l0 k y0 y1 y2 y3 y4 y5 y6) (turnspitlaw13_SpreadEnds.l0 (k + 1) y0 y1 y2 y3 y4 y5 y6)) ∧ (∀ y0 y1 y2 y3 y4 y5 y6 y7, LeO (turnspitlaw13_SpreadEnds.j4 k y0 y1 y2 y3 y4 y5 y6 y7) (turnspitlaw13_SpreadEnds.j4 (k + 1) y0 y1 y2 y3 y4 y5 y6 y7))
  | 0 => ⟨fun _ _ _ _ _ _ _ _ _ r h => by simp [turnspitlaw13_SpreadEnds.j0] at h, fun _ _ _ _ _ _ _ _ r h => by simp [turnspitlaw13_SpreadEnds.j1] at h, fun _ _ _ _ _ _ _ r h => by simp [turnspitlaw13_SpreadEnds.j2] at h, fun _ _ _ _ _ _ _ r h => by simp [turnspitlaw13_SpreadEnds.l0] at h, fun _ _ _ _ _ _ _ _ r h => by simp [turnspitlaw13_SpreadEnds.j4] at h⟩
  | k + 1 => by
    obtain ⟨ih0, ih1, ih2, ih3, ih4⟩ := turnspitlaw13_SpreadEnds.mono_l k
    refine ⟨?_, ?_, ?_, ?_, ?_⟩
    · intro y0 y1 y2 y3 y4 y5 y6 y7 y8
      unfold turnspitlaw13_SpreadEnds.j0
      repeat' first
      | (with_reducible exact ih0 _ _ _ _ _ _ _ _ _)
      | (with_reducible exact ih1 _ _ _ _ _ _ _ _)
      | (with_reducible exact ih2 _ _ _ _ _ _ _)
      | (with_reducible exact ih3 _ _ _ _ _ _ _)
      | (with_reducible exact ih4 _ _ _ _ _ _ _ _)
      | (with_reducible exact spread_Busiest.mono _ _ _)
      | (with_reducible exact spread_Idlest.mono _ _ _)
      | (with_reducible exact turnspitlaw13_awake.mono _)
      | (with_reducible exact LeO.refl _)
      | (with_reducible exact LeO.none _)
      | (with_reducible refine LeO.ite ?_ ?_)
      | (with_reducible refine LeO.bind ?_ (fun _ => ?_))
      | exact ih0 _ _ _ _ _ _ _ _ _
      | exact ih1 _ _ _ _ _ _ _ _
      | exact ih2 _ _ _ _ _ _ _
      | exact ih3 _ _ _ _ _ _ _
      | exact ih4 _ _ _ _ _ _ _ _
      | exact spread_Busiest.mono _ _ _
      | exact spread_Idlest.mono _ _ _
      | exact turnspitlaw13_awake.mono _
      | exact LeO.none _
      | refine LeO.ite ?_ ?_
      | refine LeO.bind ?_ (fun _ => ?_)
    · intro y0 y1 y2 y3 y4 y5 y6 y7
      unfold turnspitlaw13_SpreadEnds.j1
      repeat' first
      | (with_reducible exact ih0 _ _ _ _ _ _ _ _ _)
      | (with_reducible exact ih1 _ _ _ _ _ _ _ _)
      | (with_reducible exact ih2 _ _ _ _ _ _ _)
      | (with_reducible exact ih3 _ _ _ _ _ _ _)
      | (with_reducible exact ih4 _ _ _ _ _ _ _ _)
      | (with_reducible exact spread_Busiest.mono _ _ _)
      | (with_reducible exact spread_Idlest.mono _ _ _)
      | (with_reducible exact turnspitlaw13_awake.mono _)
      | (with_reducible exact LeO.refl _)
      | (with_reducible exact LeO.none _)
      | (with_reducible refine LeO.ite ?_ ?_)
      | (with_reducible refine LeO.bind ?_ (fun _ => ?_))
      | exact ih0 _ _ _ _ _ _ _ _ _
      | exact ih1 _ _ _ _ _ _ _ _
      | exact ih2 _ _ _ _ _ _ _
      | exact ih3 _ _ _ _ _ _ _
      | exact ih4 _ _ _ _ _ _ _ _
      | exact spread_Busiest.mono _ _ _
      | exact spread_Idlest.mono _ _ _
      | exact turnspitlaw13_awake.mono _
      | exact LeO.none _
      | refine LeO.ite ?_ ?_
      | refine LeO.bind ?_ (fun _ => ?_)
    · intro y0 y1 y2 y3 y4 y5 y6
      unfold turnspitlaw13_SpreadEnds.j2
      repeat' first
      | (with_reducible exact ih0 _ _ _ _ _ _ _ _ _)
      | (with_reducible exact ih1 _ _ _ _ _ _ _ _)
      | (with_reducible exact ih2 _ _ _ _ _ _ _)
      | (with_reducible exact ih3 _ _ _ _ _ _ _)
      | (with_reducible exact ih4 _ _ _ _ _ _ _ _)
      | (with_reducible exact spread_Busiest.mono _ _ _)
      | (with_reducible exact spread_Idlest.mono _ _ _)
      | (with_reducible exact turnspitlaw13_awake.mono _)
      | (with_reducible exact LeO.refl _)
      | (with_reducible exact LeO.none _)
      | (with_reducible refine LeO.ite ?_ ?_)
      | (with_reducible refine LeO.bind ?_ (fun _ => ?_))
      | exact ih0 _ _ _ _ _ _ _ _ _
      | exact ih1 _ _ _ _ _ _ _ _
      | exact ih2 _ _ _ _ _ _ _
      | exact ih3 _ _ _ _ _ _ _
      | exact ih4 _ _ _ _ _ _ _ _
      | exact spread_Busiest.mono _ _ _
      | exact spread_Idlest.mono _ _ _
      | exact turnspitlaw13_awake.mono _
      | exact LeO.none _
      | refine LeO.ite ?_ ?_
      | refine LeO.bind ?_ (fun _ => ?_)
    · intro y0 y1 y2 y3 y4 y5 y6
      unfold turnspitlaw13_SpreadEnds.l0
      repeat' first
      | (with_reducible exact ih0 _ _ _ _ _ _ _ _ _)
      | (with_reducible exact ih1 _ _ _ _ _ _ _ _)
      | (with_reducible exact ih2 _ _ _ _ _ _ _)
      | (with_reducible exact ih3 _ _ _ _ _ _ _)
      | (with_reducible exact ih4 _ _ _ _ _ _ _ _)
      | (with_reducible exact spread_Busiest.mono _ _ _)
      | (with_reducible exact spread_Idlest.mono _ _ _)
      | (with_reducible exact turnspitlaw13_awake.mono _)
      | (with_reducible exact LeO.refl _)
      | (with_reducible exact LeO.none _)
      | (with_reducible refine LeO.ite ?_ ?_)
      | (with_reducible refine LeO.bind ?_ (fun _ => ?_))
      | exact ih0 _ _ _ _ _ _ _ _ _
      | exact ih1 _ _ _ _ _ _ _ _
      | exact ih2 _ _ _ _ _ _ _
      | exact ih3 _ _ _ _ _ _ _
      | exact ih4 _ _ _ _ _ _ _ _
      | exact spread_Busiest.mono _ _ _
      | exact spread_Idlest.mono _ _ _
      | exact turnspitlaw13_awake.mono _
      | exact LeO.none _
      | refine LeO.ite ?_ ?_
      | refine LeO.bind ?_ (fun _ => ?_)
    · intro y0 y1 y2 y3 y4 y5 y6 y7
      unfold turnspitlaw13_SpreadEnds.j4
      repeat' first
      | (with_reducible exact ih0 _ _ _ _ _ _ _ _ _)
      | (with_reducible exact ih1 _ _ _ _ _ _ _ _)
      | (with_reducible exact ih2 _ _ _ _ _ _ _)
      | (with_reducible exact ih3 _ _ _ _ _ _ _)
      | (with_reducible exact ih4 _ _ _ _ _ _ _ _)
      | (with_reducible exact spread_Busiest.mono _ _ _)
      | (with_reducible exact spread_Idlest.mono _ _ _)
      | (with_reducible exact turnspitlaw13_awake.mono _)
      | (with_reducible exact LeO.refl _)
      | (with_reducible exact LeO.none _)
      | (with_reducible refine LeO.ite ?_ ?_)
      | (with_reducible refine LeO.bind ?_ (fun _ => ?_))
      | exact ih0 _ _ _ _ _ _ _ _ _
      | exact ih1 _ _ _ _ _ _ _ _
      | exact ih2 _ _ _ _ _ _ _
      | exact ih3 _ _ _ _ _ _ _
      | exact ih4 _ _ _ _ _ _ _ _
      | exact spread_Busiest.mono _ _ _
      | exact spread_Idlest.mono _ _ _
      | exact turnspitlaw13_awake.mono _
      | exact LeO.none _
      | refine LeO.ite ?_ ?_
      | refine LeO.bind ?_ (fun _ => ?_)
theorem turnspitlaw13_SpreadEnds.mono : ∀ a0 a1 k, LeO (turnspitlaw13_SpreadEnds.f k a0 a1) (turnspitlaw13_SpreadEnds.f (k + 1) a0 a1) := by
  intro a0 a1 k
  obtain ⟨ih0, ih1, ih2, ih3, ih4⟩ := turnspitlaw13_SpreadEnds.mono_l k
  unfold turnspitlaw13_SpreadEnds.f
  repeat' first
      | (with_reducible exact ih0 _ _ _ _ _ _ _ _ _)
      | (with_reducible exact ih1 _ _ _ _ _ _ _ _)
      | (with_reducible exact ih2 _ _ _ _ _ _ _)
      | (with_reducible exact ih3 _ _ _ _ _ _ _)
      | (with_reducible exact ih4 _ _ _ _ _ _ _ _)
      | (with_reducible exact spread_Busiest.mono _ _ _)
      | (with_reducible exact spread_Idlest.mono _ _ _)
      | (with_reducible exact turnspitlaw13_awake.mono _)
      | (with_reducible exact LeO.refl _)
      | (with_reducible exact LeO.none _)
      | (with_reducible refine LeO.ite ?_ ?_)
      | (with_reducible refine LeO.bind ?_ (fun _ => ?_))
      | exact ih0 _ _ _ _ _ _ _ _ _
      | exact ih1 _ _ _ _ _ _ _ _
      | exact ih2 _ _ _ _ _ _ _
      | exact ih3 _ _ _ _ _ _ _
      | exact ih4 _ _ _ _ _ _ _ _
      | exact spread_Busiest.mono _ _ _
      | exact spread_Idlest.mono _ _ _
      | exact turnspitlaw13_awake.mono _
      | exact LeO.none _
      | refine LeO.ite ?_ ?_
      | refine LeO.bind ?_ (fun _ => ?_)
set_option maxHeartbeats 8000000 in
set_option maxRecDepth 100000 in
theorem turnspitlaw13_SpreadEnds.calls (k : Nat) (A0 : Option Addr) (c0 : Nat) (l0 : List Int) (a1 : Int) (r : Bool) (w : World) (hr0 : Kd.C (Kd.int .i64) w A0 l0.length l0) (hc0 : l0.length ≤ c0) (h : turnspitlaw13_SpreadEnds.f k l0 a1 = some r) :
    Calls Try.prog 8 #[.slice A0 l0.length c0, .int .i64 a1] w fun e w' => e = .returned (.bool r) ∧ Below w.heap.size w w' := by
  have HR0 := Aside0.mk hr0
  have HC0 := Aside0.mk hc0
  clear hr0 hc0
  have HB := Aside0.mk (Below.refl w.heap.size w)
  have H : ((turnspitlaw13_awake.f k).bind fun t248 => (if t248 = true then (if (l0.length : Int) > 100 then (some t248) else ((spread_Busiest.f k l0 a1).bind fun bt249 => ((spread_Idlest.f k l0 a1).bind fun bt251 => (if a1 ≥ 0 then (turnspitlaw13_SpreadEnds.j0 k l0 a1 t248 bt249.1 bt249.2 bt251.1 bt251.2 (l0.length : Int) (decide (a1 < (l0.length : Int)))) else (turnspitlaw13_SpreadEnds.j0 k l0 a1 t248 bt249.1 bt249.2 bt251.1 bt251.2 (l0.length : Int) false))))) else (some false))) = some r := h
  clear h
  replace H := Option.bind_eq_some_iff.mp H
  obtain ⟨t248, A30, H⟩ := H
  replace H : (if t248 = true then (if (l0.length : Int) > 100 then (some t248) else ((spread_Busiest.f k l0 a1).bind fun bt249 => ((spread_Idlest.f k l0 a1).bind fun bt251 => (if a1 ≥ 0 then (turnspitlaw13_SpreadEnds.j0 k l0 a1 t248 bt249.1 bt249.2 bt251.1 bt251.2 (l0.length : Int) (decide (a1 < (l0.length : Int)))) else (turnspitlaw13_SpreadEnds.j0 k l0 a1 t248 bt249.1 bt249.2 bt251.1 bt251.2 (l0.length : Int) false))))) else (some false)) = some r := H
  have A3 := Aside0.mk A30
  clear A30
  by_cases c4 : t248 = true
  · subst c4
    have H1 : (if (l0.length : Int) > 100 then (some true) else ((spread_Busiest.f k l0 a1).bind fun bt249 => ((spread_Idlest.f k l0 a1).bind fun bt251 => (if a1 ≥ 0 then (turnspitlaw13_SpreadEnds.j0 k l0 a1 true bt249.1 bt249.2 bt251.1 bt251.2 (l0.length : Int) (decide (a1 < (l0.length : Int)))) else (turnspitlaw13_SpreadEnds.j0 k l0 a1 true bt249.1 bt249.2 bt251.1 bt251.2 (l0.length : Int) false))))) = some r := by rw [if_pos rfl] at H; exact H
    clear H
    have H := H1
    clear H1
    by_cases c5 : (l0.length : Int) > 100
    · rw [if_pos c5] at H
      have c5b0 : decide (100 < (l0.length : Int)) = true := decide_eq_true c5
      have c5b1 : decide (100 < l0.length) = true := decide_eq_true (by omega)
      clear c5
      obtain rfl := Option.some.inj H
      go_enter Try.func8, Try.ntmps8
      go_wp2_with (first | (go_at_call 9; (with_reducible refine (turnspitlaw13_awake.calls k  true _ A3.out).mono ?_); rintro e w6 ⟨rfl, hb⟩; have n0_ := Aside0.mk (below_step (by repeat (first | (with_reducible first | exact HB.out | apply below_alloc | apply pw_below_drewN | apply below_drew1) | exact HB.out)) hb); clear HB; have HB := n0_; clear n0_; (try clear hb); (try clear hb2); (try clear hk); (try clear hi)))
      repeat (go_quiet (first | (go_at_call 9; (with_reducible refine (turnspitlaw13_awake.calls k  true _ A3.out).mono ?_); rintro e w6 ⟨rfl, hb⟩; have n0_ := Aside0.mk (below_step (by repeat (first | (with_reducible first | exact HB.out | apply below_alloc | apply pw_below_drewN | apply below_drew1) | exact HB.out)) hb); clear HB; have HB := n0_; clear n0_; (try clear hb); (try clear hb2); (try clear hk); (try clear hi))); try go_wp2_with (first | (go_at_call 9; (with_reducible refine (turnspitlaw13_awake.calls k  true _ A3.out).mono ?_); rintro e w6 ⟨rfl, hb⟩; have n0_ := Aside0.mk (below_step (by repeat (first | (with_reducible first | exact HB.out | apply below_alloc | apply pw_below_drewN | apply below_drew1) | exact HB.out)) hb); clear HB; have HB := n0_; clear n0_; (try clear hb); (try clear hb2); (try clear hk); (try clear hi))))
      go_ret
      exact ⟨by first | rfl | (simp [errW_none, errW_some] <;> rfl) | (simp [*, errW_none, errW_some] <;> rfl), by repeat (first | (with_reducible first | exact HB.out | apply below_alloc | apply pw_below_drewN | apply below_drew1) | exact HB.out)⟩
    · rw [if_neg c5] at H
      have c5b0 : decide (100 < (l0.length : Int)) = false := decide_eq_false c5
      have c5b1 : decide (100 < l0.length) = false := decide_eq_false (by omega)
      clear c5
      replace H := Option.bind_eq_some_iff.mp H
      obtain ⟨⟨t249, t250⟩, A70, H⟩ := H
      replace H : ((spread_Idlest.f k l0 a1).bind fun bt251 => (if a1 ≥ 0 then (turnspitlaw13_SpreadEnds.j0 k l0 a1 true t249 t250 bt251.1 bt251.2 (l0.length : Int) (decide (a1 < (l0.length : Int)))) else (turnspitlaw13_SpreadEnds.j0 k l0 a1 true t249 t250 bt251.1 bt251.2 (l0.length : Int) false))) = some r := H
      have A7 := Aside0.mk A70
      clear A70
      replace H := Option.bind_eq_some_iff.mp H
      obtain ⟨⟨t251, t252⟩, A80, H⟩ := H
      replace H : (if a1 ≥ 0 then (turnspitlaw13_SpreadEnds.j0 k l0 a1 true t249 t250 t251 t252 (l0.length : Int) (decide (a1 < (l0.length : Int)))) else (turnspitlaw13_SpreadEnds.j0 k l0 a1 true t249 t250 t251 t252 (l0.length : Int) false)) = some r := H
      have A8 := Aside0.mk A80
      clear A80
      have HC9 := Aside0.mk H
      clear H
      go_enter Try.func8, Try.ntmps8
      go_upto_region 9 with (first | (go_at_call 9; (with_reducible refine (turnspitlaw13_awake.calls k  true _ A3.out).mono ?_); rintro e w10 ⟨rfl, hb⟩; have n0_ := Aside0.mk (below_step (by repeat (first | (with_reducible first | exact HB.out | apply below_alloc | apply pw_below_drewN | apply below_drew1) | exact HB.out)) hb); clear HB; have HB := n0_; clear n0_; (try clear hb); (try clear hb2); (try clear hk); (try clear hi)) | (go_at_call 15; (with_reducible refine (spread_Busiest.calls k _ _ l0 a1 t249 t250 _ ?side1 ?side2 A7.out).mono ?_); (case side1 => repeat (first | exact (Kd.C_below HR0.out HB.out) | (with_reducible refine Kd.C_alloc ?_ _) | (with_reducible refine Kd.C_drewN ?_ _) | (with_reducible refine Kd.C_drew ?_))); (case side2 => exact HC0.out); rintro e w' ⟨rfl, ⟨nd, rfl⟩⟩; (try first | exact ⟨rfl, _, World.drewN_drewN _ _ _⟩ | exact ⟨rfl, _, Eq.trans (World.drewN_drewN _ _ _) (congrArg (World.drewN _) (Nat.add_assoc _ _ _))⟩)) | (go_at_call 17; (with_reducible refine (spread_Idlest.calls k _ _ l0 a1 t251 t252 _ ?side1 ?side2 A8.out).mono ?_); (case side1 => repeat (first | exact (Kd.C_below HR0.out (by repeat (first | (with_reducible first | exact HB.out | apply below_alloc | apply pw_below_drewN | apply below_drew1) | exact HB.out))) | (with_reducible refine Kd.C_alloc ?_ _) | (with_reducible refine Kd.C_drewN ?_ _) | (with_reducible refine Kd.C_drew ?_))); (case side2 => exact HC0.out); rintro e w' ⟨rfl, ⟨nd, rfl⟩⟩; (try first | exact ⟨rfl, _, World.drewN_drewN _ _ _⟩ | exact ⟨rfl, _, Eq.trans (World.drewN_drewN _ _ _) (congrArg (World.drewN _) (Nat.add_assoc _ _ _))⟩)))
      repeat (go_quiet (first | (go_at_call 9; (with_reducible refine (turnspitlaw13_awake.calls k  true _ A3.out).mono ?_); rintro e w10 ⟨rfl, hb⟩; have n0_ := Aside0.mk (below_step (by repeat (first | (with_reducible first | exact HB.out | apply below_alloc | apply pw_below_drewN | apply below_drew1) | exact HB.out)) hb); clear HB; have HB := n0_; clear n0_; (try clear hb); (try clear hb2); (try clear hk); (try clear hi)) | (go_at_call 15; (with_reducible refine (spread_Busiest.calls k _ _ l0 a1 t249 t250 _ ?side1 ?side2 A7.out).mono ?_); (case side1 => repeat (first | exact (Kd.C_below HR0.out HB.out) | (with_reducible refine Kd.C_alloc ?_ _) | (with_reducible refine Kd.C_drewN ?_ _) | (with_reducible refine Kd.C_drew ?_))); (case side2 => exact HC0.out); rintro e w' ⟨rfl, ⟨nd, rfl⟩⟩; (try first | exact ⟨rfl, _, World.drewN_drewN _ _ _⟩ | exact ⟨rfl, _, Eq.trans (World.drewN_drewN _ _ _) (congrArg (World.drewN _) (Nat.add_assoc _ _ _))⟩)) | (go_at_call 17; (with_reducible refine (spread_Idlest.calls k _ _ l0 a1 t251 t252 _ ?side1 ?side2 A8.out).mono ?_); (case side1 => repeat (first | exact (Kd.C_below HR0.out (by repeat (first | (with_reducible first | exact HB.out | apply below_alloc | apply pw_below_drewN | apply below_drew1) | exact HB.out))) | (with_reducible refine Kd.C_alloc ?_ _) | (with_reducible refine Kd.C_drewN ?_ _) | (with_reducible refine Kd.C_drew ?_))); (case side2 => exact HC0.out); rintro e w' ⟨rfl, ⟨nd, rfl⟩⟩; (try first | exact ⟨rfl, _, World.drewN_drewN _ _ _⟩ | exact ⟨rfl, _, Eq.trans (World.drewN_drewN _ _ _) (congrArg (World.drewN _) (Nat.add_assoc _ _ _))⟩))); go_upto_region 9 with (first | (go_at_call 9; (with_reducible refine (turnspitlaw13_awake.calls k  true _ A3.out).mono ?_); rintro e w10 ⟨rfl, hb⟩; have n0_ := Aside0.mk (below_step (by repeat (first | (with_reducible first | exact HB.out | apply below_alloc | apply pw_below_drewN | apply below_drew1) | exact HB.out)) hb); clear HB; have HB := n0_; clear n0_; (try clear hb); (try clear hb2); (try clear hk); (try clear hi)) | (go_at_call 15; (with_reducible refine (spread_Busiest.calls k _ _ l0 a1 t249 t250 _ ?side1 ?side2 A7.out).mono ?_); (case side1 => repeat (first | exact (Kd.C_below HR0.out HB.out) | (with_reducible refine Kd.C_alloc ?_ _) | (with_reducible refine Kd.C_drewN ?_ _) | (with_reducible refine Kd.C_drew ?_))); (case side2 => exact HC0.out); rintro e w' ⟨rfl, ⟨nd, rfl⟩⟩; (try first | exact ⟨rfl, _, World.drewN_drewN _ _ _⟩ | exact ⟨rfl, _, Eq.trans (World.drewN_drewN _ _ _) (congrArg (World.drewN _) (Nat.add_assoc _ _ _))⟩)) | (go_at_call 17; (with_reducible refine (spread_Idlest.calls k _ _ l0 a1 t251 t252 _ ?side1 ?side2 A8.out).mono ?_); (case side1 => repeat (first | exact (Kd.C_below HR0.out (by repeat (first | (with_reducible first | exact HB.out | apply below_alloc | apply pw_below_drewN | apply below_drew1) | exact HB.out))) | (with_reducible refine Kd.C_alloc ?_ _) | (with_reducible refine Kd.C_drewN ?_ _) | (with_reducible refine Kd.C_drew ?_))); (case side2 => exact HC0.out); rintro e w' ⟨rfl, ⟨nd, rfl⟩⟩; (try first | exact ⟨rfl, _, World.drewN_drewN _ _ _⟩ | exact ⟨rfl, _, Eq.trans (World.drewN_drewN _ _ _) (congrArg (World.drewN _) (Nat.add_assoc _ _ _))⟩))))
      (try simp only [Act.put, List.setIfInBounds_toArray, List.set_cons_zero, List.set_cons_succ])
      go_cut [40] (fun v40 wc => ∃ (kq : Nat) (x40_8 : Bool), v40 = .bool x40_8 ∧ Aside0 (turnspitlaw13_SpreadEnds.j0 kq l0 a1 true t249 t250 t251 t252 (l0.length : Int) x40_8 = some r) ∧ Aside0 (kq ≤ k) ∧ Aside0 (Below w.heap.size w wc))
      case first =>
        have H := HC9.out
        clear HC9
        by_cases c11 : a1 ≥ 0
        · rw [if_pos c11] at H
          have c11b0 : decide (0 ≤ a1) = true := decide_eq_true c11
          clear c11
          (first | rw [c11b0] | (simp only [i64_w, i32_w]; rw [c11b0]) | skip)
          have H' := Aside0.mk H
          clear H
          go_wp2
          repeat (go_quiet (fail); try go_wp2)
          go_meet
          case rel => exact ⟨_, (decide (a1 < (l0.length : Int))), (by first | rfl | (simp; done) | (simp [*]; done)), H', ⟨by first | omega | exact Nat.le_refl _⟩, ⟨by repeat (first | (with_reducible first | exact HB.out | apply below_alloc | apply pw_below_drewN | apply below_drew1) | exact HB.out)⟩⟩
        · rw [if_neg c11] at H
          have c11b0 : decide (0 ≤ a1) = false := decide_eq_false c11
          clear c11
          (first | rw [c11b0] | (simp only [i64_w, i32_w]; rw [c11b0]) | skip)
          have H' := Aside0.mk H
          clear H
          go_wp2
          repeat (go_quiet (fail); try go_wp2)
          go_meet
          case rel => exact ⟨_, (false), (by first | rfl | (simp; done) | (simp [*]; done)), H', ⟨by first | omega | exact Nat.le_refl _⟩, ⟨by repeat (first | (with_reducible first | exact HB.out | apply below_alloc | apply pw_below_drewN | apply below_drew1) | exact HB.out)⟩⟩
      case rest =>
        clear HC9
        try clear c1
        try clear p2
        try clear c4
        try clear c5
        try clear c5b0
        try clear c5b1
        try clear c8
        try clear c11
        try clear c11b0
        obtain ⟨kq, x40_8, rfl, HA, HJ8, HB⟩ := hcut
        cases kq with
        | zero => exact absurd HA.out (by simp [turnspitlaw13_SpreadEnds.j0])
        | succ kj8 =>
          have H := HA.out
          clear HA
          simp only [turnspitlaw13_SpreadEnds.j0] at H
          have HC12 := Aside0.mk H
          clear H
          go_upto_if 40 with (fail)
          repeat (go_quiet (fail); go_upto_if 40 with (fail))
          go_cut [10] (fun v10 wc => ∃ (kq : Nat) (x10_11 : Int), v10 = .int .i64 x10_11 ∧ Aside0 (turnspitlaw13_SpreadEnds.j1 kq l0 a1 true t249 t250 t251 t252 x10_11 = some r) ∧ Aside0 (kq ≤ kj8) ∧ Aside0 (Below w.heap.size w wc))
          case first =>
            have H := HC12.out
            clear HC12
            by_cases c13 : x40_8 = true
            · subst c13
              have H1 : (turnspitlaw13_SpreadEnds.j1 kj8 l0 a1 true t249 t250 t251 t252 (wrap64 ((l0.length : Int) - 1))) = some r := by rw [if_pos rfl] at H; exact H
              clear H
              have H := H1
              clear H1
              have H' := Aside0.mk H
              clear H
              go_wp2
              repeat (go_quiet (fail); try go_wp2)
              go_meet
              case rel => exact ⟨_, (wrap64 ((l0.length : Int) - 1)), (by first | rfl | (simp; done) | (simp [*]; done)), H', ⟨by have := HJ8.out; first | omega | exact Nat.le_refl _⟩, ⟨by repeat (first | (with_reducible first | exact HB.out | apply below_alloc | apply pw_below_drewN | apply below_drew1) | exact HB.out)⟩⟩
            · replace c13 := Bool.eq_false_iff.mpr c13
              subst c13
              have H1 : (turnspitlaw13_SpreadEnds.j1 kj8 l0 a1 true t249 t250 t251 t252 (l0.length : Int)) = some r := by rw [if_neg (show ¬ (false = true) by decide)] at H; exact H
              clear H
              have H := H1
              clear H1
              have H' := Aside0.mk H
              clear H
              go_wp2
              repeat (go_quiet (fail); try go_wp2)
              go_meet
              case rel => exact ⟨_, ((l0.length : Int)), (by first | rfl | (simp; done) | (simp [*]; done)), H', ⟨by have := HJ8.out; first | omega | exact Nat.le_refl _⟩, ⟨by repeat (first | (with_reducible first | exact HB.out | apply below_alloc | apply pw_below_drewN | apply below_drew1) | exact HB.out)⟩⟩
          case rest =>
            clear HC12
            try clear c1
            try clear p2
            try clear c4
            try clear c5
            try clear c5b0
            try clear c5b1
            try clear p6
            try clear c8
            try clear c11
            try clear c11b0
            try clear c13
            try clear p2
            obtain ⟨kq, x10_11, rfl, HA, HJ11, HB⟩ := hcut
            cases kq with
            | zero => exact absurd HA.out (by simp [turnspitlaw13_SpreadEnds.j1])
            | succ kj11 =>
              have H := HA.out
              clear HA
              simp only [turnspitlaw13_SpreadEnds.j1] at H
              have HC14 := Aside0.mk H
              clear H
              go_upto_region 11 with (fail)
              repeat (go_quiet (fail); go_upto_region 11 with (fail))
              go_cut [51] (fun v51 wc => ∃ (kq : Nat) (x51_13 : Bool), v51 = .bool x51_13 ∧ Aside0 (turnspitlaw13_SpreadEnds.j2 kq l0 a1 true t249 t250 t251 x51_13 = some r) ∧ Aside0 (kq ≤ kj11) ∧ Aside0 (Below w.heap.size w wc))
              case first =>
                have H := HC14.out
                clear HC14
                by_cases c15 : (t250 != (decide (x10_11 > 0))) = true
                · rw [if_pos c15] at H
                  have c15b0 : (t250 != (decide (x10_11 > 0))) = true := c15
                  (try (have c15b1 : decide (t250 = (decide (x10_11 > 0))) = false := by simpa using c15))
                  (try (have c15b2 : (t250 == (decide (x10_11 > 0))) = false := by simpa using c15))
                  (try (have c15b3 : ¬ (t250 = (decide (x10_11 > 0))) := by simpa using c15))
                  clear c15
                  (first | rw [c15b0] | (simp only [i64_w, i32_w]; rw [c15b0]) | skip)
                  have H' := Aside0.mk H
                  clear H
                  go_wp2
                  repeat (go_quiet (fail); try go_wp2)
                  go_meet
                  case rel => exact ⟨_, (true), (by first | rfl | (simp; done) | (simp [*]; done)), H', ⟨by have := HJ8.out; have := HJ11.out; first | omega | exact Nat.le_refl _⟩, ⟨by repeat (first | (with_reducible first | exact HB.out | apply below_alloc | apply pw_below_drewN | apply below_drew1) | exact HB.out)⟩⟩
                · rw [if_neg c15] at H
                  have c15b0 : (t250 != (decide (x10_11 > 0))) = false := by simpa using c15
                  (try (have c15b1 : decide (t250 = (decide (x10_11 > 0))) = true := by simpa using c15))
                  (try (have c15b2 : (t250 == (decide (x10_11 > 0))) = true := by simpa using c15))
                  clear c15
                  (first | rw [c15b0] | (simp only [i64_w, i32_w]; rw [c15b0]) | skip)
                  have H' := Aside0.mk H
                  clear H
                  go_wp2
                  repeat (go_quiet (fail); try go_wp2)
                  go_meet
                  case rel => exact ⟨_, ((t252 != t250)), (by first | rfl | (simp; done) | (simp [*]; done)), H', ⟨by have := HJ8.out; have := HJ11.out; first | omega | exact Nat.le_refl _⟩, ⟨by repeat (first | (with_reducible first | exact HB.out | apply below_alloc | apply pw_below_drewN | apply below_drew1) | exact HB.out)⟩⟩
              case rest =>
                clear HC14
                try clear c1
                try clear p2
                try clear c4
                try clear c5
                try clear c5b0
                try clear c5b1
                try clear p6
                try clear c8
                try clear c11
                try clear c11b0
                try clear c13
                try clear c15
                try clear c15b0
                try clear c15b1
                try clear c15b2
                try clear p2
                try clear p6
                obtain ⟨kq, x51_13, rfl, HA, HJ13, HB⟩ := hcut
                cases kq with
                | zero => exact absurd HA.out (by simp [turnspitlaw13_SpreadEnds.j2])
                | succ kj13 =>
                  have H := HA.out
                  clear HA
                  simp only [turnspitlaw13_SpreadEnds.j2] at H
                  by_cases c16 : x51_13 = true
                  · subst c16
                    have H1 : (some false) = some r := by rw [if_pos rfl] at H; exact H
                    clear H
                    have H := H1
                    clear H1
                    obtain rfl := Option.some.inj H
                    go_wp2
                    repeat (go_quiet (fail); try go_wp2)
                    go_ret
                    exact ⟨by first | rfl | (simp [errW_none, errW_some] <;> rfl) | (simp [*, errW_none, errW_some] <;> rfl), by repeat (first | (with_reducible first | exact HB.out | apply below_alloc | apply pw_below_drewN | apply below_drew1) | exact HB.out)⟩
                  · replace c16 := Bool.eq_false_iff.mpr c16
                    subst c16
                    have H1 : (turnspitlaw13_SpreadEnds.l0 kj13 l0 a1 true t249 t250 t251 0) = some r := by rw [if_neg (show ¬ (false = true) by decide)] at H; exact H
                    clear H
                    have H := H1
                    clear H1
                    have H' := Aside0.mk H
                    clear H
                    go_wp2
                    repeat (go_quiet (fail); try go_wp2)
                    go_loopg [11] kj13 (fun kq v11 w' => ∃ (x11_4 : Int), v11 = .int .i64 x11_4 ∧ Aside0 (turnspitlaw13_SpreadEnds.l0 kq l0 a1 true t249 t250 t251 x11_4 = some r) ∧ Aside0 (kq ≤ kj13) ∧ Aside0 (Below w.heap.size w w'))
                    case atStart => exact ⟨(0), (by first | rfl | (simp; done) | (simp [*]; done)), H', ⟨Nat.le_refl _⟩, ⟨by repeat (first | (with_reducible first | exact HB.out | apply below_alloc | apply pw_below_drewN | apply below_drew1) | exact HB.out)⟩⟩
                    case round =>
                      clear H'
                      try clear c1
                      try clear p2
                      try clear c4
                      try clear c5
                      try clear c5b0
                      try clear c5b1
                      try clear p6
                      try clear c8
                      try clear c11
                      try clear c11b0
                      try clear c13
                      try clear c15
                      try clear c15b0
                      try clear c15b1
                      try clear c15b2
                      try clear c16
                      try clear p2
                      try clear p6
                      obtain ⟨x11_4, rfl, HA, HK4, HB⟩ := hrel
                      cases gk with
                      | zero => exact absurd HA.out (by simp [turnspitlaw13_SpreadEnds.l0])
                      | succ k4 =>
                        have H := HA.out
                        clear HA
                        simp only [turnspitlaw13_SpreadEnds.l0] at H
                        have HC17 := Aside0.mk H
                        clear H
                        go_upto_region 14 with (fail)
                        repeat (go_quiet (fail); go_upto_region 14 with (fail))
                        go_cut [58] (fun v58 wc => ∃ (kq : Nat) (x58_16 : Bool), v58 = .bool x58_16 ∧ Aside0 (turnspitlaw13_SpreadEnds.j4 kq l0 a1 true t249 t250 t251 x11_4 x58_16 = some r) ∧ Aside0 (kq ≤ k4) ∧ Aside0 (Below w.heap.size w wc))
                        case first =>
                          have H := HC17.out
                          clear HC17
                          by_cases c18 : x11_4 < (l0.length : Int)
                          · rw [if_pos c18] at H
                            have c18b0 : decide (x11_4 < (l0.length : Int)) = true := decide_eq_true c18
                            clear c18
                            (first | rw [c18b0] | (simp only [i64_w, i32_w]; rw [c18b0]) | skip)
                            have H' := Aside0.mk H
                            clear H
                            go_wp2
                            repeat (go_quiet (fail); try go_wp2)
                            go_meet
                            case rel => exact ⟨_, (t250), (by first | rfl | (simp; done) | (simp [*]; done)), H', ⟨by have := HJ8.out; have := HJ11.out; have := HJ13.out; have := HK4.out; first | omega | exact Nat.le_refl _⟩, ⟨by repeat (first | (with_reducible first | exact HB.out | apply below_alloc | apply pw_below_drewN | apply below_drew1) | exact HB.out)⟩⟩
                          · rw [if_neg c18] at H
                            have c18b0 : decide (x11_4 < (l0.length : Int)) = false := decide_eq_false c18
                            clear c18
                            (first | rw [c18b0] | (simp only [i64_w, i32_w]; rw [c18b0]) | skip)
                            have H' := Aside0.mk H
                            clear H
                            go_wp2
                            repeat (go_quiet (fail); try go_wp2)
                            go_meet
                            case rel => exact ⟨_, (false), (by first | rfl | (simp; done) | (simp [*]; done)), H', ⟨by have := HJ8.out; have := HJ11.out; have := HJ13.out; have := HK4.out; first | omega | exact Nat.le_refl _⟩, ⟨by repeat (first | (with_reducible first | exact HB.out | apply below_alloc | apply pw_below_drewN | apply below_drew1) | exact HB.out)⟩⟩
                        case rest =>
                          clear HC17
                          try clear c1
                          try clear p2
                          try clear c4
                          try clear c5
                          try clear c5b0
                          try clear c5b1
                          try clear p6
                          try clear c8
                          try clear c11
                          try clear c11b0
                          try clear c13
                          try clear c15
                          try clear c15b0
                          try clear c15b1
                          try clear c15b2
                          try clear c16
                          try clear c18
                          try clear c18b0
                          try clear p2
                          try clear p6
                          obtain ⟨kq, x58_16, rfl, HA, HJ16, HB⟩ := hcut
                          cases kq with
                          | zero => exact absurd HA.out (by simp [turnspitlaw13_SpreadEnds.j4])
                          | succ kj16 =>
                            have H := HA.out
                            clear HA
                            simp only [turnspitlaw13_SpreadEnds.j4] at H
                            by_cases c19 : x58_16 = true
                            · subst c19
                              have H1 : (if x11_4 = a1 then (turnspitlaw13_SpreadEnds.l0 kj16 l0 a1 true t249 t250 t251 (wrap64 (x11_4 + 1))) else (if 0 ≤ x11_4 then (if x11_4 < (l0.length : Int) then (if 0 ≤ t249 then (if t249 < (l0.length : Int) then (if (rd l0 x11_4) > (rd l0 t249) then (some false) else (if (rd l0 x11_4) = (rd l0 t249) then (if x11_4 < t249 then (some false) else (if 0 ≤ t251 then (if t251 < (l0.length : Int) then (if (rd l0 x11_4) < (rd l0 t251) then (some false) else (if (rd l0 x11_4) = (rd l0 t251) then (if x11_4 < t251 then (some false) else (turnspitlaw13_SpreadEnds.l0 kj16 l0 a1 true t249 t250 t251 (wrap64 (x11_4 + 1)))) else (turnspitlaw13_SpreadEnds.l0 kj16 l0 a1 true t249 t250 t251 (wrap64 (x11_4 + 1))))) else (none)) else (none))) else (if 0 ≤ t251 then (if t251 < (l0.length : Int) then (if (rd l0 x11_4) < (rd l0 t251) then (some false) else (if (rd l0 x11_4) = (rd l0 t251) then (if x11_4 < t251 then (some false) else (turnspitlaw13_SpreadEnds.l0 kj16 l0 a1 true t249 t250 t251 (wrap64 (x11_4 + 1)))) else (turnspitlaw13_SpreadEnds.l0 kj16 l0 a1 true t249 t250 t251 (wrap64 (x11_4 + 1))))) else (none)) else (none)))) else (none)) else (none)) else (none)) else (none))) = some r := by rw [if_pos rfl] at H; exact H
                              clear H
                              have H := H1
                              clear H1
                              by_cases c20 : x11_4 = a1
                              · rw [if_pos c20] at H
                                have c20b0 : (x11_4 == a1) = true := beq_iff_eq.mpr c20
                                have c20b1 : (x11_4 != a1) = false := bne_eq_false_iff_eq.mpr c20
                                clear c20
                                have H' := Aside0.mk H
                                clear H
                                go_wp2
                                repeat (go_quiet (fail); try go_wp2)
                                go_roundg kj16
                                case measure => have := HJ8.out; have := HJ11.out; have := HJ13.out; have := HK4.out; have := HJ16.out; omega
                                case rel => exact ⟨(wrap64 (x11_4 + 1)), (by first | rfl | (simp; done) | (simp [*]; done)), H', ⟨by have := HJ8.out; have := HJ11.out; have := HJ13.out; have := HK4.out; have := HJ16.out; omega⟩, ⟨by repeat (first | (with_reducible first | exact HB.out | apply below_alloc | apply pw_below_drewN | apply below_drew1) | exact HB.out)⟩⟩
                              · rw [if_neg c20] at H
                                have c20b0 : (x11_4 == a1) = false := beq_eq_false_iff_ne.mpr c20
                                have c20b1 : (x11_4 != a1) = true := bne_iff_ne.mpr c20
                                by_cases c21 : 0 ≤ x11_4
                                · rw [if_pos c21] at H
                                  have c21b0 : decide (0 ≤ x11_4) = true := decide_eq_true c21
                                  clear c21
                                  by_cases c22 : x11_4 < (l0.length : Int)
                                  · rw [if_pos c22] at H
                                    have c22b0 : decide (x11_4 < (l0.length : Int)) = true := decide_eq_true c22
                                    clear c22
                                    by_cases c23 : 0 ≤ t249
                                    · rw [if_pos c23] at H
                                      have c23b0 : decide (0 ≤ t249) = true := decide_eq_true c23
                                      clear c23
                                      by_cases c24 : t249 < (l0.length : Int)
                                      · rw [if_pos c24] at H
                                        have c24b0 : decide (t249 < (l0.length : Int)) = true := decide_eq_true c24
                                        clear c24
                                        by_cases c25 : (rd l0 x11_4) > (rd l0 t249)
                                        · rw [if_pos c25] at H
                                          have c25b0 : decide ((rd l0 t249) < (rd l0 x11_4)) = true := decide_eq_true c25
                                          clear c25
                                          obtain rfl := Option.some.inj H
                                          have p253 : 0 ≤ (x11_4 : Int) := of_decide_eq_true (by first | (with_reducible assumption) | assumption)
                                          have q253 : x11_4 < (l0.length : Int) := of_decide_eq_true (by first | (with_reducible assumption) | assumption)
                                          obtain ⟨ad253, e253, hx253_0⟩ := Kd.at_int HR0.out x11_4 p253 q253
                                          cases e253
                                          replace hx253_0 := (HB.out.cell (World.block_lt_of_cell? w _ hx253_0)).trans hx253_0
                                          replace p253 := eq_true p253
                                          replace q253 := eq_true q253
                                          have p254 : 0 ≤ (t249 : Int) := of_decide_eq_true (by first | (with_reducible assumption) | assumption)
                                          have q254 : t249 < (l0.length : Int) := of_decide_eq_true (by first | (with_reducible assumption) | assumption)
                                          obtain ⟨ad254, e254, hx254_0⟩ := Kd.at_int HR0.out t249 p254 q254
                                          obtain rfl : ad253 = ad254 := (by injection e254)
                                          replace hx254_0 := (HB.out.cell (World.block_lt_of_cell? w _ hx254_0)).trans hx254_0
                                          replace p254 := eq_true p254
                                          replace q254 := eq_true q254
                                          go_wp2
                                          repeat (go_quiet (fail); try go_wp2)
                                          go_ret
                                          exact ⟨by first | rfl | (simp [errW_none, errW_some] <;> rfl) | (simp [*, errW_none, errW_some] <;> rfl), by repeat (first | (with_reducible first | exact HB.out | apply below_alloc | apply pw_below_drewN | apply below_drew1) | exact HB.out)⟩
                                        · rw [if_neg c25] at H
                                          have c25b0 : decide ((rd l0 t249) < (rd l0 x11_4)) = false := decide_eq_false c25
                                          clear c25
                                          by_cases c26 : (rd l0 x11_4) = (rd l0 t249)
                                          · rw [if_pos c26] at H
                                            have c26b0 : ((rd l0 x11_4) == (rd l0 t249)) = true := beq_iff_eq.mpr c26
                                            have c26b1 : ((rd l0 x11_4) != (rd l0 t249)) = false := bne_eq_false_iff_eq.mpr c26
                                            clear c26
                                            by_cases c27 : x11_4 < t249
                                            · rw [if_pos c27] at H
                                              have c27b0 : decide (x11_4 < t249) = true := decide_eq_true c27
                                              clear c27
                                              obtain rfl := Option.some.inj H
                                              have p253 : 0 ≤ (x11_4 : Int) := of_decide_eq_true (by first | (with_reducible assumption) | assumption)
                                              have q253 : x11_4 < (l0.length : Int) := of_decide_eq_true (by first | (with_reducible assumption) | assumption)
                                              obtain ⟨ad253, e253, hx253_0⟩ := Kd.at_int HR0.out x11_4 p253 q253
                                              cases e253
                                              replace hx253_0 := (HB.out.cell (World.block_lt_of_cell? w _ hx253_0)).trans hx253_0
                                              replace p253 := eq_true p253
                                              replace q253 := eq_true q253
                                              have p254 : 0 ≤ (t249 : Int) := of_decide_eq_true (by first | (with_reducible assumption) | assumption)
                                              have q254 : t249 < (l0.length : Int) := of_decide_eq_true (by first | (with_reducible assumption) | assumption)
                                              obtain ⟨ad254, e254, hx254_0⟩ := Kd.at_int HR0.out t249 p254 q254
                                              obtain rfl : ad253 = ad254 := (by injection e254)
                                              replace hx254_0 := (HB.out.cell (World.block_lt_of_cell? w _ hx254_0)).trans hx254_0
                                              replace p254 := eq_true p254
                                              replace q254 := eq_true q254
                                              have p255 : 0 ≤ (x11_4 : Int) := of_decide_eq_true (by first | (with_reducible assumption) | assumption)
                                              have q255 : x11_4 < (l0.length : Int) := of_decide_eq_true (by first | (with_reducible assumption) | assumption)
                                              obtain ⟨ad255, e255, hx255_0⟩ := Kd.at_int HR0.out x11_4 p255 q255
                                              obtain rfl : ad253 = ad255 := (by injection e255)
                                              replace hx255_0 := (HB.out.cell (World.block_lt_of_cell? w _ hx255_0)).trans hx255_0
                                              replace p255 := eq_true p255
                                              replace q255 := eq_true q255
                                              have p256 : 0 ≤ (t249 : Int) := of_decide_eq_true (by first | (with_reducible assumption) | assumption)
                                              have q256 : t249 < (l0.length : Int) := of_decide_eq_true (by first | (with_reducible assumption) | assumption)
                                              obtain ⟨ad256, e256, hx256_0⟩ := Kd.at_int HR0.out t249 p256 q256
                                              obtain rfl : ad253 = ad256 := (by injection e256)
                                              replace hx256_0 := (HB.out.cell (World.block_lt_of_cell? w _ hx256_0)).trans hx256_0
                                              replace p256 := eq_true p256
                                              replace q256 := eq_true q256
                                              go_wp2
                                              repeat (go_quiet (fail); try go_wp2)
                                              go_ret
                                              exact ⟨by first | rfl | (simp [errW_none, errW_some] <;> rfl) | (simp [*, errW_none, errW_some] <;> rfl), by repeat (first | (with_reducible first | exact HB.out | apply below_alloc | apply pw_below_drewN | apply below_drew1) | exact HB.out)⟩
                                            · rw [if_neg c27] at H
                                              have c27b0 : decide (x11_4 < t249) = false := decide_eq_false c27
                                              clear c27
                                              by_cases c28 : 0 ≤ t251
                                              · rw [if_pos c28] at H
                                                have c28b0 : decide (0 ≤ t251) = true := decide_eq_true c28
                                                clear c28
                                                by_cases c29 : t251 < (l0.length : Int)
                                                · rw [if_pos c29] at H
                                                  have c29b0 : decide (t251 < (l0.length : Int)) = true := decide_eq_true c29
                                                  clear c29
                                                  by_cases c30 : (rd l0 x11_4) < (rd l0 t251)
                                                  · rw [if_pos c30] at H
                                                    have c30b0 : decide ((rd l0 x11_4) < (rd l0 t251)) = true := decide_eq_true c30
                                                    clear c30
                                                    obtain rfl := Option.some.inj H
                                                    have p253 : 0 ≤ (x11_4 : Int) := of_decide_eq_true (by first | (with_reducible assumption) | assumption)
                                                    have q253 : x11_4 < (l0.length : Int) := of_decide_eq_true (by first | (with_reducible assumption) | assumption)
                                                    obtain ⟨ad253, e253, hx253_0⟩ := Kd.at_int HR0.out x11_4 p253 q253
                                                    cases e253
                                                    replace hx253_0 := (HB.out.cell (World.block_lt_of_cell? w _ hx253_0)).trans hx253_0
                                                    replace p253 := eq_true p253
                                                    replace q253 := eq_true q253
                                                    have p254 : 0 ≤ (t249 : Int) := of_decide_eq_true (by first | (with_reducible assumption) | assumption)
                                                    have q254 : t249 < (l0.length : Int) := of_decide_eq_true (by first | (with_reducible assumption) | assumption)
                                                    obtain ⟨ad254, e254, hx254_0⟩ := Kd.at_int HR0.out t249 p254 q254
                                                    obtain rfl : ad253 = ad254 := (by injection e254)
                                                    replace hx254_0 := (HB.out.cell (World.block_lt_of_cell? w _ hx254_0)).trans hx254_0
                                                    replace p254 := eq_true p254
                                                    replace q254 := eq_true q254
                                                    have p255 : 0 ≤ (x11_4 : Int) := of_decide_eq_true (by first | (with_reducible assumption) | assumption)
                                                    have q255 : x11_4 < (l0.length : Int) := of_decide_eq_true (by first | (with_reducible assumption) | assumption)
                                                    obtain ⟨ad255, e255, hx255_0⟩ := Kd.at_int HR0.out x11_4 p255 q255
                                                    obtain rfl : ad253 = ad255 := (by injection e255)
                                                    replace hx255_0 := (HB.out.cell (World.block_lt_of_cell? w _ hx255_0)).trans hx255_0
                                                    replace p255 := eq_true p255
                                                    replace q255 := eq_true q255
                                                    have p256 : 0 ≤ (t249 : Int) := of_decide_eq_true (by first | (with_reducible assumption) | assumption)
                                                    have q256 : t249 < (l0.length : Int) := of_decide_eq_true (by first | (with_reducible assumption) | assumption)
                                                    obtain ⟨ad256, e256, hx256_0⟩ := Kd.at_int HR0.out t249 p256 q256
                                                    obtain rfl : ad253 = ad256 := (by injection e256)
                                                    replace hx256_0 := (HB.out.cell (World.block_lt_of_cell? w _ hx256_0)).trans hx256_0
                                                    replace p256 := eq_true p256
                                                    replace q256 := eq_true q256
                                                    have p257 : 0 ≤ (x11_4 : Int) := of_decide_eq_true (by first | (with_reducible assumption) | assumption)
                                                    have q257 : x11_4 < (l0.length : Int) := of_decide_eq_true (by first | (with_reducible assumption) | assumption)
                                                    obtain ⟨ad257, e257, hx257_0⟩ := Kd.at_int HR0.out x11_4 p257 q257
                                                    obtain rfl : ad253 = ad257 := (by injection e257)
                                                    replace hx257_0 := (HB.out.cell (World.block_lt_of_cell? w _ hx257_0)).trans hx257_0
                                                    replace p257 := eq_true p257
                                                    replace q257 := eq_true q257
                                                    have p258 : 0 ≤ (t251 : Int) := of_decide_eq_true (by first | (with_reducible assumption) | assumption)
                                                    have q258 : t251 < (l0.length : Int) := of_decide_eq_true (by first | (with_reducible assumption) | assumption)
                                                    obtain ⟨ad258, e258, hx258_0⟩ := Kd.at_int HR0.out t251 p258 q258
                                                    obtain rfl : ad253 = ad258 := (by injection e258)
                                                    replace hx258_0 := (HB.out.cell (World.block_lt_of_cell? w _ hx258_0)).trans hx258_0
                                                    replace p258 := eq_true p258
                                                    replace q258 := eq_true q258
                                                    go_wp2
                                                    repeat (go_quiet (fail); try go_wp2)
                                                    go_ret
                                                    exact ⟨by first | rfl | (simp [errW_none, errW_some] <;> rfl) | (simp [*, errW_none, errW_some] <;> rfl), by repeat (first | (with_reducible first | exact HB.out | apply below_alloc | apply pw_below_drewN | apply below_drew1) | exact HB.out)⟩
                                                  · rw [if_neg c30] at H
                                                    have c30b0 : decide ((rd l0 x11_4) < (rd l0 t251)) = false := decide_eq_false c30
                                                    clear c30
                                                    by_cases c31 : (rd l0 x11_4) = (rd l0 t251)
                                                    · rw [if_pos c31] at H
                                                      have c31b0 : ((rd l0 x11_4) == (rd l0 t251)) = true := beq_iff_eq.mpr c31
                                                      have c31b1 : ((rd l0 x11_4) != (rd l0 t251)) = false := bne_eq_false_iff_eq.mpr c31
                                                      clear c31
                                                      by_cases c32 : x11_4 < t251
                                                      · rw [if_pos c32] at H
                                                        have c32b0 : decide (x11_4 < t251) = true := decide_eq_true c32
                                                        clear c32
                                                        obtain rfl := Option.some.inj H
                                                        have p253 : 0 ≤ (x11_4 : Int) := of_decide_eq_true (by first | (with_reducible assumption) | assumption)
                                                        have q253 : x11_4 < (l0.length : Int) := of_decide_eq_true (by first | (with_reducible assumption) | assumption)
                                                        obtain ⟨ad253, e253, hx253_0⟩ := Kd.at_int HR0.out x11_4 p253 q253
                                                        cases e253
                                                        replace hx253_0 := (HB.out.cell (World.block_lt_of_cell? w _ hx253_0)).trans hx253_0
                                                        replace p253 := eq_true p253
                                                        replace q253 := eq_true q253
                                                        have p254 : 0 ≤ (t249 : Int) := of_decide_eq_true (by first | (with_reducible assumption) | assumption)
                                                        have q254 : t249 < (l0.length : Int) := of_decide_eq_true (by first | (with_reducible assumption) | assumption)
                                                        obtain ⟨ad254, e254, hx254_0⟩ := Kd.at_int HR0.out t249 p254 q254
                                                        obtain rfl : ad253 = ad254 := (by injection e254)
                                                        replace hx254_0 := (HB.out.cell (World.block_lt_of_cell? w _ hx254_0)).trans hx254_0
                                                        replace p254 := eq_true p254
                                                        replace q254 := eq_true q254
                                                        have p255 : 0 ≤ (x11_4 : Int) := of_decide_eq_true (by first | (with_reducible assumption) | assumption)
                                                        have q255 : x11_4 < (l0.length : Int) := of_decide_eq_true (by first | (with_reducible assumption) | assumption)
                                                        obtain ⟨ad255, e255, hx255_0⟩ := Kd.at_int HR0.out x11_4 p255 q255
                                                        obtain rfl : ad253 = ad255 := (by injection e255)
                                                        replace hx255_0 := (HB.out.cell (World.block_lt_of_cell? w _ hx255_0)).trans hx255_0
                                                        replace p255 := eq_true p255
                                                        replace q255 := eq_true q255
                                                        have p256 : 0 ≤ (t249 : Int) := of_decide_eq_true (by first | (with_reducible assumption) | assumption)
                                                        have q256 : t249 < (l0.length : Int) := of_decide_eq_true (by first | (with_reducible assumption) | assumption)
                                                        obtain ⟨ad256, e256, hx256_0⟩ := Kd.at_int HR0.out t249 p256 q256
                                                        obtain rfl : ad253 = ad256 := (by injection e256)
                                                        replace hx256_0 := (HB.out.cell (World.block_lt_of_cell? w _ hx256_0)).trans hx256_0
                                                        replace p256 := eq_true p256
                                                        replace q256 := eq_true q256
                                                        have p257 : 0 ≤ (x11_4 : Int) := of_decide_eq_true (by first | (with_reducible assumption) | assumption)
                                                        have q257 : x11_4 < (l0.length : Int) := of_decide_eq_true (by first | (with_reducible assumption) | assumption)
                                                        obtain ⟨ad257, e257, hx257_0⟩ := Kd.at_int HR0.out x11_4 p257 q257
                                                        obtain rfl : ad253 = ad257 := (by injection e257)
                                                        replace hx257_0 := (HB.out.cell (World.block_lt_of_cell? w _ hx257_0)).trans hx257_0
                                                        replace p257 := eq_true p257
                                                        replace q257 := eq_true q257
                                                        have p258 : 0 ≤ (t251 : Int) := of_decide_eq_true (by first | (with_reducible assumption) | assumption)
                                                        have q258 : t251 < (l0.length : Int) := of_decide_eq_true (by first | (with_reducible assumption) | assumption)
                                                        obtain ⟨ad258, e258, hx258_0⟩ := Kd.at_int HR0.out t251 p258 q258
                                                        obtain rfl : ad253 = ad258 := (by injection e258)
                                                        replace hx258_0 := (HB.out.cell (World.block_lt_of_cell? w _ hx258_0)).trans hx258_0
                                                        replace p258 := eq_true p258
                                                        replace q258 := eq_true q258
                                                        have p259 : 0 ≤ (x11_4 : Int) := of_decide_eq_true (by first | (with_reducible assumption) | assumption)
                                                        have q259 : x11_4 < (l0.length : Int) := of_decide_eq_true (by first | (with_reducible assumption) | assumption)
                                                        obtain ⟨ad259, e259, hx259_0⟩ := Kd.at_int HR0.out x11_4 p259 q259
                                                        obtain rfl : ad253 = ad259 := (by injection e259)
                                                        replace hx259_0 := (HB.out.cell (World.block_lt_of_cell? w _ hx259_0)).trans hx259_0
                                                        replace p259 := eq_true p259
                                                        replace q259 := eq_true q259
                                                        have p260 : 0 ≤ (t251 : Int) := of_decide_eq_true (by first | (with_reducible assumption) | assumption)
                                                        have q260 : t251 < (l0.length : Int) := of_decide_eq_true (by first | (with_reducible assumption) | assumption)
                                                        obtain ⟨ad260, e260, hx260_0⟩ := Kd.at_int HR0.out t251 p260 q260
                                                        obtain rfl : ad253 = ad260 := (by injection e260)
                                                        replace hx260_0 := (HB.out.cell (World.block_lt_of_cell? w _ hx260_0)).trans hx260_0
                                                        replace p260 := eq_true p260
                                                        replace q260 := eq_true q260
                                                        go_wp2
                                                        repeat (go_quiet (fail); try go_wp2)
                                                        go_ret
                                                        exact ⟨by first | rfl | (simp [errW_none, errW_some] <;> rfl) | (simp [*, errW_none, errW_some] <;> rfl), by repeat (first | (with_reducible first | exact HB.out | apply below_alloc | apply pw_below_drewN | apply below_drew1) | exact HB.out)⟩
                                                      · rw [if_neg c32] at H
                                                        have c32b0 : decide (x11_4 < t251) = false := decide_eq_false c32
                                                        clear c32
                                                        have H' := Aside0.mk H
                                                        clear H
                                                        have p253 : 0 ≤ (x11_4 : Int) := of_decide_eq_true (by first | (with_reducible assumption) | assumption)
                                                        have q253 : x11_4 < (l0.length : Int) := of_decide_eq_true (by first | (with_reducible assumption) | assumption)
                                                        obtain ⟨ad253, e253, hx253_0⟩ := Kd.at_int HR0.out x11_4 p253 q253
                                                        cases e253
                                                        replace hx253_0 := (HB.out.cell (World.block_lt_of_cell? w _ hx253_0)).trans hx253_0
                                                        replace p253 := eq_true p253
                                                        replace q253 := eq_true q253
                                                        have p254 : 0 ≤ (t249 : Int) := of_decide_eq_true (by first | (with_reducible assumption) | assumption)
                                                        have q254 : t249 < (l0.length : Int) := of_decide_eq_true (by first | (with_reducible assumption) | assumption)
                                                        obtain ⟨ad254, e254, hx254_0⟩ := Kd.at_int HR0.out t249 p254 q254
                                                        obtain rfl : ad253 = ad254 := (by injection e254)
                                                        replace hx254_0 := (HB.out.cell (World.block_lt_of_cell? w _ hx254_0)).trans hx254_0
                                                        replace p254 := eq_true p254
                                                        replace q254 := eq_true q254
                                                        have p255 : 0 ≤ (x11_4 : Int) := of_decide_eq_true (by first | (with_reducible assumption) | assumption)
                                                        have q255 : x11_4 < (l0.length : Int) := of_decide_eq_true (by first | (with_reducible assumption) | assumption)
                                                        obtain ⟨ad255, e255, hx255_0⟩ := Kd.at_int HR0.out x11_4 p255 q255
                                                        obtain rfl : ad253 = ad255 := (by injection e255)
                                                        replace hx255_0 := (HB.out.cell (World.block_lt_of_cell? w _ hx255_0)).trans hx255_0
                                                        replace p255 := eq_true p255
                                                        replace q255 := eq_true q255
                                                        have p256 : 0 ≤ (t249 : Int) := of_decide_eq_true (by first | (with_reducible assumption) | assumption)
                                                        have q256 : t249 < (l0.length : Int) := of_decide_eq_true (by first | (with_reducible assumption) | assumption)
                                                        obtain ⟨ad256, e256, hx256_0⟩ := Kd.at_int HR0.out t249 p256 q256
                                                        obtain rfl : ad253 = ad256 := (by injection e256)
                                                        replace hx256_0 := (HB.out.cell (World.block_lt_of_cell? w _ hx256_0)).trans hx256_0
                                                        replace p256 := eq_true p256
                                                        replace q256 := eq_true q256
                                                        have p257 : 0 ≤ (x11_4 : Int) := of_decide_eq_true (by first | (with_reducible assumption) | assumption)
                                                        have q257 : x11_4 < (l0.length : Int) := of_decide_eq_true (by first | (with_reducible assumption) | assumption)
                                                        obtain ⟨ad257, e257, hx257_0⟩ := Kd.at_int HR0.out x11_4 p257 q257
                                                        obtain rfl : ad253 = ad257 := (by injection e257)
                                                        replace hx257_0 := (HB.out.cell (World.block_lt_of_cell? w _ hx257_0)).trans hx257_0
                                                        replace p257 := eq_true p257
                                                        replace q257 := eq_true q257
                                                        have p258 : 0 ≤ (t251 : Int) := of_decide_eq_true (by first | (with_reducible assumption) | assumption)
                                                        have q258 : t251 < (l0.length : Int) := of_decide_eq_true (by first | (with_reducible assumption) | assumption)
                                                        obtain ⟨ad258, e258, hx258_0⟩ := Kd.at_int HR0.out t251 p258 q258
                                                        obtain rfl : ad253 = ad258 := (by injection e258)
                                                        replace hx258_0 := (HB.out.cell (World.block_lt_of_cell? w _ hx258_0)).trans hx258_0
                                                        replace p258 := eq_true p258
                                                        replace q258 := eq_true q258
                                                        have p259 : 0 ≤ (x11_4 : Int) := of_decide_eq_true (by first | (with_reducible assumption) | assumption)
                                                        have q259 : x11_4 < (l0.length : Int) := of_decide_eq_true (by first | (with_reducible assumption) | assumption)
                                                        obtain ⟨ad259, e259, hx259_0⟩ := Kd.at_int HR0.out x11_4 p259 q259
                                                        obtain rfl : ad253 = ad259 := (by injection e259)
                                                        replace hx259_0 := (HB.out.cell (World.block_lt_of_cell? w _ hx259_0)).trans hx259_0
                                                        replace p259 := eq_true p259
                                                        replace q259 := eq_true q259
                                                        have p260 : 0 ≤ (t251 : Int) := of_decide_eq_true (by first | (with_reducible assumption) | assumption)
                                                        have q260 : t251 < (l0.length : Int) := of_decide_eq_true (by first | (with_reducible assumption) | assumption)
                                                        obtain ⟨ad260, e260, hx260_0⟩ := Kd.at_int HR0.out t251 p260 q260
                                                        obtain rfl : ad253 = ad260 := (by injection e260)
                                                        replace hx260_0 := (HB.out.cell (World.block_lt_of_cell? w _ hx260_0)).trans hx260_0
                                                        replace p260 := eq_true p260
                                                        replace q260 := eq_true q260
                                                        go_wp2
                                                        repeat (go_quiet (fail); try go_wp2)
                                                        go_roundg kj16
                                                        case measure => have := HJ8.out; have := HJ11.out; have := HJ13.out; have := HK4.out; have := HJ16.out; omega
                                                        case rel => exact ⟨(wrap64 (x11_4 + 1)), (by first | rfl | (simp; done) | (simp [*]; done)), H', ⟨by have := HJ8.out; have := HJ11.out; have := HJ13.out; have := HK4.out; have := HJ16.out; omega⟩, ⟨by repeat (first | (with_reducible first | exact HB.out | apply below_alloc | apply pw_below_drewN | apply below_drew1) | exact HB.out)⟩⟩
                                                    · rw [if_neg c31] at H
                                                      have c31b0 : ((rd l0 x11_4) == (rd l0 t251)) = false := beq_eq_false_iff_ne.mpr c31
                                                      have c31b1 : ((rd l0 x11_4) != (rd l0 t251)) = true := bne_iff_ne.mpr c31
                                                      have H' := Aside0.mk H
                                                      clear H
                                                      have p253 : 0 ≤ (x11_4 : Int) := of_decide_eq_true (by first | (with_reducible assumption) | assumption)
                                                      have q253 : x11_4 < (l0.length : Int) := of_decide_eq_true (by first | (with_reducible assumption) | assumption)
                                                      obtain ⟨ad253, e253, hx253_0⟩ := Kd.at_int HR0.out x11_4 p253 q253
                                                      cases e253
                                                      replace hx253_0 := (HB.out.cell (World.block_lt_of_cell? w _ hx253_0)).trans hx253_0
                                                      replace p253 := eq_true p253
                                                      replace q253 := eq_true q253
                                                      have p254 : 0 ≤ (t249 : Int) := of_decide_eq_true (by first | (with_reducible assumption) | assumption)
                                                      have q254 : t249 < (l0.length : Int) := of_decide_eq_true (by first | (with_reducible assumption) | assumption)
                                                      obtain ⟨ad254, e254, hx254_0⟩ := Kd.at_int HR0.out t249 p254 q254
                                                      obtain rfl : ad253 = ad254 := (by injection e254)
                                                      replace hx254_0 := (HB.out.cell (World.block_lt_of_cell? w _ hx254_0)).trans hx254_0
                                                      replace p254 := eq_true p254
                                                      replace q254 := eq_true q254
                                                      have p255 : 0 ≤ (x11_4 : Int) := of_decide_eq_true (by first | (with_reducible assumption) | assumption)
                                                      have q255 : x11_4 < (l0.length : Int) := of_decide_eq_true (by first | (with_reducible assumption) | assumption)
                                                      obtain ⟨ad255, e255, hx255_0⟩ := Kd.at_int HR0.out x11_4 p255 q255
                                                      obtain rfl : ad253 = ad255 := (by injection e255)
                                                      replace hx255_0 := (HB.out.cell (World.block_lt_of_cell? w _ hx255_0)).trans hx255_0
                                                      replace p255 := eq_true p255
                                                      replace q255 := eq_true q255
                                                      have p256 : 0 ≤ (t249 : Int) := of_decide_eq_true (by first | (with_reducible assumption) | assumption)
                                                      have q256 : t249 < (l0.length : Int) := of_decide_eq_true (by first | (with_reducible assumption) | assumption)
                                                      obtain ⟨ad256, e256, hx256_0⟩ := Kd.at_int HR0.out t249 p256 q256
                                                      obtain rfl : ad253 = ad256 := (by injection e256)
                                                      replace hx256_0 := (HB.out.cell (World.block_lt_of_cell? w _ hx256_0)).trans hx256_0
                                                      replace p256 := eq_true p256
                                                      replace q256 := eq_true q256
                                                      have p257 : 0 ≤ (x11_4 : Int) := of_decide_eq_true (by first | (with_reducible assumption) | assumption)
                                                      have q257 : x11_4 < (l0.length : Int) := of_decide_eq_true (by first | (with_reducible assumption) | assumption)
                                                      obtain ⟨ad257, e257, hx257_0⟩ := Kd.at_int HR0.out x11_4 p257 q257
                                                      obtain rfl : ad253 = ad257 := (by injection e257)
                                                      replace hx257_0 := (HB.out.cell (World.block_lt_of_cell? w _ hx257_0)).trans hx257_0
                                                      replace p257 := eq_true p257
                                                      replace q257 := eq_true q257
                                                      have p258 : 0 ≤ (t251 : Int) := of_decide_eq_true (by first | (with_reducible assumption) | assumption)
                                                      have q258 : t251 < (l0.length : Int) := of_decide_eq_true (by first | (with_reducible assumption) | assumption)
                                                      obtain ⟨ad258, e258, hx258_0⟩ := Kd.at_int HR0.out t251 p258 q258
                                                      obtain rfl : ad253 = ad258 := (by injection e258)
                                                      replace hx258_0 := (HB.out.cell (World.block_lt_of_cell? w _ hx258_0)).trans hx258_0
                                                      replace p258 := eq_true p258
                                                      replace q258 := eq_true q258
                                                      have p259 : 0 ≤ (x11_4 : Int) := of_decide_eq_true (by first | (with_reducible assumption) | assumption)
                                                      have q259 : x11_4 < (l0.length : Int) := of_decide_eq_true (by first | (with_reducible assumption) | assumption)
                                                      obtain ⟨ad259, e259, hx259_0⟩ := Kd.at_int HR0.out x11_4 p259 q259
                                                      obtain rfl : ad253 = ad259 := (by injection e259)
                                                      replace hx259_0 := (HB.out.cell (World.block_lt_of_cell? w _ hx259_0)).trans hx259_0
                                                      replace p259 := eq_true p259
                                                      replace q259 := eq_true q259
                                                      have p260 : 0 ≤ (t251 : Int) := of_decide_eq_true (by first | (with_reducible assumption) | assumption)
                                                      have q260 : t251 < (l0.length : Int) := of_decide_eq_true (by first | (with_reducible assumption) | assumption)
                                                      obtain ⟨ad260, e260, hx260_0⟩ := Kd.at_int HR0.out t251 p260 q260
                                                      obtain rfl : ad253 = ad260 := (by injection e260)
                                                      replace hx260_0 := (HB.out.cell (World.block_lt_of_cell? w _ hx260_0)).trans hx260_0
                                                      replace p260 := eq_true p260
                                                      replace q260 := eq_true q260
                                                      go_wp2
                                                      repeat (go_quiet (fail); try go_wp2)
                                                      go_roundg kj16
                                                      case measure => have := HJ8.out; have := HJ11.out; have := HJ13.out; have := HK4.out; have := HJ16.out; omega
                                                      case rel => exact ⟨(wrap64 (x11_4 + 1)), (by first | rfl | (simp; done) | (simp [*]; done)), H', ⟨by have := HJ8.out; have := HJ11.out; have := HJ13.out; have := HK4.out; have := HJ16.out; omega⟩, ⟨by repeat (first | (with_reducible first | exact HB.out | apply below_alloc | apply pw_below_drewN | apply below_drew1) | exact HB.out)⟩⟩
                                                · rw [if_neg c29] at H
                                                  exact absurd H (by simp)
                                              · rw [if_neg c28] at H
                                                exact absurd H (by simp)
                                          · rw [if_neg c26] at H
                                            have c26b0 : ((rd l0 x11_4) == (rd l0 t249)) = false := beq_eq_false_iff_ne.mpr c26
                                            have c26b1 : ((rd l0 x11_4) != (rd l0 t249)) = true := bne_iff_ne.mpr c26
                                            by_cases c33 : 0 ≤ t251
                                            · rw [if_pos c33] at H
                                              have c33b0 : decide (0 ≤ t251) = true := decide_eq_true c33
                                              clear c33
                                              by_cases c34 : t251 < (l0.length : Int)
                                              · rw [if_pos c34] at H
                                                have c34b0 : decide (t251 < (l0.length : Int)) = true := decide_eq_true c34
                                                clear c34
                                                by_cases c35 : (rd l0 x11_4) < (rd l0 t251)
                                                · rw [if_pos c35] at H
                                                  have c35b0 : decide ((rd l0 x11_4) < (rd l0 t251)) = true := decide_eq_true c35
                                                  clear c35
                                                  obtain rfl := Option.some.inj H
                                                  have p253 : 0 ≤ (x11_4 : Int) := of_decide_eq_true (by first | (with_reducible assumption) | assumption)
                                                  have q253 : x11_4 < (l0.length : Int) := of_decide_eq_true (by first | (with_reducible assumption) | assumption)
                                                  obtain ⟨ad253, e253, hx253_0⟩ := Kd.at_int HR0.out x11_4 p253 q253
                                                  cases e253
                                                  replace hx253_0 := (HB.out.cell (World.block_lt_of_cell? w _ hx253_0)).trans hx253_0
                                                  replace p253 := eq_true p253
                                                  replace q253 := eq_true q253
                                                  have p254 : 0 ≤ (t249 : Int) := of_decide_eq_true (by first | (with_reducible assumption) | assumption)
                                                  have q254 : t249 < (l0.length : Int) := of_decide_eq_true (by first | (with_reducible assumption) | assumption)
                                                  obtain ⟨ad254, e254, hx254_0⟩ := Kd.at_int HR0.out t249 p254 q254
                                                  obtain rfl : ad253 = ad254 := (by injection e254)
                                                  replace hx254_0 := (HB.out.cell (World.block_lt_of_cell? w _ hx254_0)).trans hx254_0
                                                  replace p254 := eq_true p254
                                                  replace q254 := eq_true q254
                                                  have p255 : 0 ≤ (x11_4 : Int) := of_decide_eq_true (by first | (with_reducible assumption) | assumption)
                                                  have q255 : x11_4 < (l0.length : Int) := of_decide_eq_true (by first | (with_reducible assumption) | assumption)
                                                  obtain ⟨ad255, e255, hx255_0⟩ := Kd.at_int HR0.out x11_4 p255 q255
                                                  obtain rfl : ad253 = ad255 := (by injection e255)
                                                  replace hx255_0 := (HB.out.cell (World.block_lt_of_cell? w _ hx255_0)).trans hx255_0
                                                  replace p255 := eq_true p255
                                                  replace q255 := eq_true q255
                                                  have p256 : 0 ≤ (t249 : Int) := of_decide_eq_true (by first | (with_reducible assumption) | assumption)
                                                  have q256 : t249 < (l0.length : Int) := of_decide_eq_true (by first | (with_reducible assumption) | assumption)
                                                  obtain ⟨ad256, e256, hx256_0⟩ := Kd.at_int HR0.out t249 p256 q256
                                                  obtain rfl : ad253 = ad256 := (by injection e256)
                                                  replace hx256_0 := (HB.out.cell (World.block_lt_of_cell? w _ hx256_0)).trans hx256_0
                                                  replace p256 := eq_true p256
                                                  replace q256 := eq_true q256
                                                  have p261 : 0 ≤ (x11_4 : Int) := of_decide_eq_true (by first | (with_reducible assumption) | assumption)
                                                  have q261 : x11_4 < (l0.length : Int) := of_decide_eq_true (by first | (with_reducible assumption) | assumption)
                                                  obtain ⟨ad261, e261, hx261_0⟩ := Kd.at_int HR0.out x11_4 p261 q261
                                                  obtain rfl : ad253 = ad261 := (by injection e261)
                                                  replace hx261_0 := (HB.out.cell (World.block_lt_of_cell? w _ hx261_0)).trans hx261_0
                                                  replace p261 := eq_true p261
                                                  replace q261 := eq_true q261
                                                  have p262 : 0 ≤ (t251 : Int) := of_decide_eq_true (by first | (with_reducible assumption) | assumption)
                                                  have q262 : t251 < (l0.length : Int) := of_decide_eq_true (by first | (with_reducible assumption) | assumption)
                                                  obtain ⟨ad262, e262, hx262_0⟩ := Kd.at_int HR0.out t251 p262 q262
                                                  obtain rfl : ad253 = ad262 := (by injection e262)
                                                  replace hx262_0 := (HB.out.cell (World.block_lt_of_cell? w _ hx262_0)).trans hx262_0
                                                  replace p262 := eq_true p262
                                                  replace q262 := eq_true q262
                                                  go_wp2
                                                  repeat (go_quiet (fail); try go_wp2)
                                                  go_ret
                                                  exact ⟨by first | rfl | (simp [errW_none, errW_some] <;> rfl) | (simp [*, errW_none, errW_some] <;> rfl), by repeat (first | (with_reducible first | exact HB.out | apply below_alloc | apply pw_below_drewN | apply below_drew1) | exact HB.out)⟩
                                                · rw [if_neg c35] at H
                                                  have c35b0 : decide ((rd l0 x11_4) < (rd l0 t251)) = false := decide_eq_false c35
                                                  clear c35
                                                  by_cases c36 : (rd l0 x11_4) = (rd l0 t251)
                                                  · rw [if_pos c36] at H
                                                    have c36b0 : ((rd l0 x11_4) == (rd l0 t251)) = true := beq_iff_eq.mpr c36
                                                    have c36b1 : ((rd l0 x11_4) != (rd l0 t251)) = false := bne_eq_false_iff_eq.mpr c36
                                                    clear c36
                                                    by_cases c37 : x11_4 < t251
                                                    · rw [if_pos c37] at H
                                                      have c37b0 : decide (x11_4 < t251) = true := decide_eq_true c37
                                                      clear c37
                                                      obtain rfl := Option.some.inj H
                                                      have p253 : 0 ≤ (x11_4 : Int) := of_decide_eq_true (by first | (with_reducible assumption) | assumption)
                                                      have q253 : x11_4 < (l0.length : Int) := of_decide_eq_true (by first | (with_reducible assumption) | assumption)
                                                      obtain ⟨ad253, e253, hx253_0⟩ := Kd.at_int HR0.out x11_4 p253 q253
                                                      cases e253
                                                      replace hx253_0 := (HB.out.cell (World.block_lt_of_cell? w _ hx253_0)).trans hx253_0
                                                      replace p253 := eq_true p253
                                                      replace q253 := eq_true q253
                                                      have p254 : 0 ≤ (t249 : Int) := of_decide_eq_true (by first | (with_reducible assumption) | assumption)
                                                      have q254 : t249 < (l0.length : Int) := of_decide_eq_true (by first | (with_reducible assumption) | assumption)
                                                      obtain ⟨ad254, e254, hx254_0⟩ := Kd.at_int HR0.out t249 p254 q254
                                                      obtain rfl : ad253 = ad254 := (by injection e254)
                                                      replace hx254_0 := (HB.out.cell (World.block_lt_of_cell? w _ hx254_0)).trans hx254_0
                                                      replace p254 := eq_true p254
                                                      replace q254 := eq_true q254
                                                      have p255 : 0 ≤ (x11_4 : Int) := of_decide_eq_true (by first | (with_reducible assumption) | assumption)
                                                      have q255 : x11_4 < (l0.length : Int) := of_decide_eq_true (by first | (with_reducible assumption) | assumption)
                                                      obtain ⟨ad255, e255, hx255_0⟩ := Kd.at_int HR0.out x11_4 p255 q255
                                                      obtain rfl : ad253 = ad255 := (by injection e255)
                                                      replace hx255_0 := (HB.out.cell (World.block_lt_of_cell? w _ hx255_0)).trans hx255_0
                                                      replace p255 := eq_true p255
                                                      replace q255 := eq_true q255
                                                      have p256 : 0 ≤ (t249 : Int) := of_decide_eq_true (by first | (with_reducible assumption) | assumption)
                                                      have q256 : t249 < (l0.length : Int) := of_decide_eq_true (by first | (with_reducible assumption) | assumption)
                                                      obtain ⟨ad256, e256, hx256_0⟩ := Kd.at_int HR0.out t249 p256 q256
                                                      obtain rfl : ad253 = ad256 := (by injection e256)
                                                      replace hx256_0 := (HB.out.cell (World.block_lt_of_cell? w _ hx256_0)).trans hx256_0
                                                      replace p256 := eq_true p256
                                                      replace q256 := eq_true q256
                                                      have p261 : 0 ≤ (x11_4 : Int) := of_decide_eq_true (by first | (with_reducible assumption) | assumption)
                                                      have q261 : x11_4 < (l0.length : Int) := of_decide_eq_true (by first | (with_reducible assumption) | assumption)
                                                      obtain ⟨ad261, e261, hx261_0⟩ := Kd.at_int HR0.out x11_4 p261 q261
                                                      obtain rfl : ad253 = ad261 := (by injection e261)
                                                      replace hx261_0 := (HB.out.cell (World.block_lt_of_cell? w _ hx261_0)).trans hx261_0
                                                      replace p261 := eq_true p261
                                                      replace q261 := eq_true q261
                                                      have p262 : 0 ≤ (t251 : Int) := of_decide_eq_true (by first | (with_reducible assumption) | assumption)
                                                      have q262 : t251 < (l0.length : Int) := of_decide_eq_true (by first | (with_reducible assumption) | assumption)
                                                      obtain ⟨ad262, e262, hx262_0⟩ := Kd.at_int HR0.out t251 p262 q262
                                                      obtain rfl : ad253 = ad262 := (by injection e262)
                                                      replace hx262_0 := (HB.out.cell (World.block_lt_of_cell? w _ hx262_0)).trans hx262_0
                                                      replace p262 := eq_true p262
                                                      replace q262 := eq_true q262
                                                      have p263 : 0 ≤ (x11_4 : Int) := of_decide_eq_true (by first | (with_reducible assumption) | assumption)
                                                      have q263 : x11_4 < (l0.length : Int) := of_decide_eq_true (by first | (with_reducible assumption) | assumption)
                                                      obtain ⟨ad263, e263, hx263_0⟩ := Kd.at_int HR0.out x11_4 p263 q263
                                                      obtain rfl : ad253 = ad263 := (by injection e263)
                                                      replace hx263_0 := (HB.out.cell (World.block_lt_of_cell? w _ hx263_0)).trans hx263_0
                                                      replace p263 := eq_true p263
                                                      replace q263 := eq_true q263
                                                      have p264 : 0 ≤ (t251 : Int) := of_decide_eq_true (by first | (with_reducible assumption) | assumption)
                                                      have q264 : t251 < (l0.length : Int) := of_decide_eq_true (by first | (with_reducible assumption) | assumption)
                                                      obtain ⟨ad264, e264, hx264_0⟩ := Kd.at_int HR0.out t251 p264 q264
                                                      obtain rfl : ad253 = ad264 := (by injection e264)
                                                      replace hx264_0 := (HB.out.cell (World.block_lt_of_cell? w _ hx264_0)).trans hx264_0
                                                      replace p264 := eq_true p264
                                                      replace q264 := eq_true q264
                                                      go_wp2
                                                      repeat (go_quiet (fail); try go_wp2)
                                                      go_ret
                                                      exact ⟨by first | rfl | (simp [errW_none, errW_some] <;> rfl) | (simp [*, errW_none, errW_some] <;> rfl), by repeat (first | (with_reducible first | exact HB.out | apply below_alloc | apply pw_below_drewN | apply below_drew1) | exact HB.out)⟩
                                                    · rw [if_neg c37] at H
                                                      have c37b0 : decide (x11_4 < t251) = false := decide_eq_false c37
                                                      clear c37
                                                      have H' := Aside0.mk H
                                                      clear H
                                                      have p253 : 0 ≤ (x11_4 : Int) := of_decide_eq_true (by first | (with_reducible assumption) | assumption)
                                                      have q253 : x11_4 < (l0.length : Int) := of_decide_eq_true (by first | (with_reducible assumption) | assumption)
                                                      obtain ⟨ad253, e253, hx253_0⟩ := Kd.at_int HR0.out x11_4 p253 q253
                                                      cases e253
                                                      replace hx253_0 := (HB.out.cell (World.block_lt_of_cell? w _ hx253_0)).trans hx253_0
                                                      replace p253 := eq_true p253
                                                      replace q253 := eq_true q253
                                                      have p254 : 0 ≤ (t249 : Int) := of_decide_eq_true (by first | (with_reducible assumption) | assumption)
                                                      have q254 : t249 < (l0.length : Int) := of_decide_eq_true (by first | (with_reducible assumption) | assumption)
                                                      obtain ⟨ad254, e254, hx254_0⟩ := Kd.at_int HR0.out t249 p254 q254
                                                      obtain rfl : ad253 = ad254 := (by injection e254)
                                                      replace hx254_0 := (HB.out.cell (World.block_lt_of_cell? w _ hx254_0)).trans hx254_0
                                                      replace p254 := eq_true p254
                                                      replace q254 := eq_true q254
                                                      have p255 : 0 ≤ (x11_4 : Int) := of_decide_eq_true (by first | (with_reducible assumption) | assumption)
                                                      have q255 : x11_4 < (l0.length : Int) := of_decide_eq_true (by first | (with_reducible assumption) | assumption)
                                                      obtain ⟨ad255, e255, hx255_0⟩ := Kd.at_int HR0.out x11_4 p255 q255
                                                      obtain rfl : ad253 = ad255 := (by injection e255)
                                                      replace hx255_0 := (HB.out.cell (World.block_lt_of_cell? w _ hx255_0)).trans hx255_0
                                                      replace p255 := eq_true p255
                                                      replace q255 := eq_true q255
                                                      have p256 : 0 ≤ (t249 : Int) := of_decide_eq_true (by first | (with_reducible assumption) | assumption)
                                                      have q256 : t249 < (l0.length : Int) := of_decide_eq_true (by first | (with_reducible assumption) | assumption)
                                                      obtain ⟨ad256, e256, hx256_0⟩ := Kd.at_int HR0.out t249 p256 q256
                                                      obtain rfl : ad253 = ad256 := (by injection e256)
                                                      replace hx256_0 := (HB.out.cell (World.block_lt_of_cell? w _ hx256_0)).trans hx256_0
                                                      replace p256 := eq_true p256
                                                      replace q256 := eq_true q256
                                                      have p261 : 0 ≤ (x11_4 : Int) := of_decide_eq_true (by first | (with_reducible assumption) | assumption)
                                                      have q261 : x11_4 < (l0.length : Int) := of_decide_eq_true (by first | (with_reducible assumption) | assumption)
                                                      obtain ⟨ad261, e261, hx261_0⟩ := Kd.at_int HR0.out x11_4 p261 q261
                                                      obtain rfl : ad253 = ad261 := (by injection e261)
                                                      replace hx261_0 := (HB.out.cell (World.block_lt_of_cell? w _ hx261_0)).trans hx261_0
                                                      replace p261 := eq_true p261
                                                      replace q261 := eq_true q261
                                                      have p262 : 0 ≤ (t251 : Int) := of_decide_eq_true (by first | (with_reducible assumption) | assumption)
                                                      have q262 : t251 < (l0.length : Int) := of_decide_eq_true (by first | (with_reducible assumption) | assumption)
                                                      obtain ⟨ad262, e262, hx262_0⟩ := Kd.at_int HR0.out t251 p262 q262
                                                      obtain rfl : ad253 = ad262 := (by injection e262)
                                                      replace hx262_0 := (HB.out.cell (World.block_lt_of_cell? w _ hx262_0)).trans hx262_0
                                                      replace p262 := eq_true p262
                                                      replace q262 := eq_true q262
                                                      have p263 : 0 ≤ (x11_4 : Int) := of_decide_eq_true (by first | (with_reducible assumption) | assumption)
                                                      have q263 : x11_4 < (l0.length : Int) := of_decide_eq_true (by first | (with_reducible assumption) | assumption)
                                                      obtain ⟨ad263, e263, hx263_0⟩ := Kd.at_int HR0.out x11_4 p263 q263
                                                      obtain rfl : ad253 = ad263 := (by injection e263)
                                                      replace hx263_0 := (HB.out.cell (World.block_lt_of_cell? w _ hx263_0)).trans hx263_0
                                                      replace p263 := eq_true p263
                                                      replace q263 := eq_true q263
                                                      have p264 : 0 ≤ (t251 : Int) := of_decide_eq_true (by first | (with_reducible assumption) | assumption)
                                                      have q264 : t251 < (l0.length : Int) := of_decide_eq_true (by first | (with_reducible assumption) | assumption)
                                                      obtain ⟨ad264, e264, hx264_0⟩ := Kd.at_int HR0.out t251 p264 q264
                                                      obtain rfl : ad253 = ad264 := (by injection e264)
                                                      replace hx264_0 := (HB.out.cell (World.block_lt_of_cell? w _ hx264_0)).trans hx264_0
                                                      replace p264 := eq_true p264
                                                      replace q264 := eq_true q264
                                                      go_wp2
                                                      repeat (go_quiet (fail); try go_wp2)
                                                      go_roundg kj16
                                                      case measure => have := HJ8.out; have := HJ11.out; have := HJ13.out; have := HK4.out; have := HJ16.out; omega
                                                      case rel => exact ⟨(wrap64 (x11_4 + 1)), (by first | rfl | (simp; done) | (simp [*]; done)), H', ⟨by have := HJ8.out; have := HJ11.out; have := HJ13.out; have := HK4.out; have := HJ16.out; omega⟩, ⟨by repeat (first | (with_reducible first | exact HB.out | apply below_alloc | apply pw_below_drewN | apply below_drew1) | exact HB.out)⟩⟩
                                                  · rw [if_neg c36] at H
                                                    have c36b0 : ((rd l0 x11_4) == (rd l0 t251)) = false := beq_eq_false_iff_ne.mpr c36
                                                    have c36b1 : ((rd l0 x11_4) != (rd l0 t251)) = true := bne_iff_ne.mpr c36
                                                    have H' := Aside0.mk H
                                                    clear H
                                                    have p253 : 0 ≤ (x11_4 : Int) := of_decide_eq_true (by first | (with_reducible assumption) | assumption)
                                                    have q253 : x11_4 < (l0.length : Int) := of_decide_eq_true (by first | (with_reducible assumption) | assumption)
                                                    obtain ⟨ad253, e253, hx253_0⟩ := Kd.at_int HR0.out x11_4 p253 q253
                                                    cases e253
                                                    replace hx253_0 := (HB.out.cell (World.block_lt_of_cell? w _ hx253_0)).trans hx253_0
                                                    replace p253 := eq_true p253
                                                    replace q253 := eq_true q253
                                                    have p254 : 0 ≤ (t249 : Int) := of_decide_eq_true (by first | (with_reducible assumption) | assumption)
                                                    have q254 : t249 < (l0.length : Int) := of_decide_eq_true (by first | (with_reducible assumption) | assumption)
                                                    obtain ⟨ad254, e254, hx254_0⟩ := Kd.at_int HR0.out t249 p254 q254
                                                    obtain rfl : ad253 = ad254 := (by injection e254)
                                                    replace hx254_0 := (HB.out.cell (World.block_lt_of_cell? w _ hx254_0)).trans hx254_0
                                                    replace p254 := eq_true p254
                                                    replace q254 := eq_true q254
                                                    have p255 : 0 ≤ (x11_4 : Int) := of_decide_eq_true (by first | (with_reducible assumption) | assumption)
                                                    have q255 : x11_4 < (l0.length : Int) := of_decide_eq_true (by first | (with_reducible assumption) | assumption)
                                                    obtain ⟨ad255, e255, hx255_0⟩ := Kd.at_int HR0.out x11_4 p255 q255
                                                    obtain rfl : ad253 = ad255 := (by injection e255)
                                                    replace hx255_0 := (HB.out.cell (World.block_lt_of_cell? w _ hx255_0)).trans hx255_0
                                                    replace p255 := eq_true p255
                                                    replace q255 := eq_true q255
                                                    have p256 : 0 ≤ (t249 : Int) := of_decide_eq_true (by first | (with_reducible assumption) | assumption)
                                                    have q256 : t249 < (l0.length : Int) := of_decide_eq_true (by first | (with_reducible assumption) | assumption)
                                                    obtain ⟨ad256, e256, hx256_0⟩ := Kd.at_int HR0.out t249 p256 q256
                                                    obtain rfl : ad253 = ad256 := (by injection e256)
                                                    replace hx256_0 := (HB.out.cell (World.block_lt_of_cell? w _ hx256_0)).trans hx256_0
                                                    replace p256 := eq_true p256
                                                    replace q256 := eq_true q256
                                                    have p261 : 0 ≤ (x11_4 : Int) := of_decide_eq_true (by first | (with_reducible assumption) | assumption)
                                                    have q261 : x11_4 < (l0.length : Int) := of_decide_eq_true (by first | (with_reducible assumption) | assumption)
                                                    obtain ⟨ad261, e261, hx261_0⟩ := Kd.at_int HR0.out x11_4 p261 q261
                                                    obtain rfl : ad253 = ad261 := (by injection e261)
                                                    replace hx261_0 := (HB.out.cell (World.block_lt_of_cell? w _ hx261_0)).trans hx261_0
                                                    replace p261 := eq_true p261
                                                    replace q261 := eq_true q261
                                                    have p262 : 0 ≤ (t251 : Int) := of_decide_eq_true (by first | (with_reducible assumption) | assumption)
                                                    have q262 : t251 < (l0.length : Int) := of_decide_eq_true (by first | (with_reducible assumption) | assumption)
                                                    obtain ⟨ad262, e262, hx262_0⟩ := Kd.at_int HR0.out t251 p262 q262
                                                    obtain rfl : ad253 = ad262 := (by injection e262)
                                                    replace hx262_0 := (HB.out.cell (World.block_lt_of_cell? w _ hx262_0)).trans hx262_0
                                                    replace p262 := eq_true p262
                                                    replace q262 := eq_true q262
                                                    have p263 : 0 ≤ (x11_4 : Int) := of_decide_eq_true (by first | (with_reducible assumption) | assumption)
                                                    have q263 : x11_4 < (l0.length : Int) := of_decide_eq_true (by first | (with_reducible assumption) | assumption)
                                                    obtain ⟨ad263, e263, hx263_0⟩ := Kd.at_int HR0.out x11_4 p263 q263
                                                    obtain rfl : ad253 = ad263 := (by injection e263)
                                                    replace hx263_0 := (HB.out.cell (World.block_lt_of_cell? w _ hx263_0)).trans hx263_0
                                                    replace p263 := eq_true p263
                                                    replace q263 := eq_true q263
                                                    have p264 : 0 ≤ (t251 : Int) := of_decide_eq_true (by first | (with_reducible assumption) | assumption)
                                                    have q264 : t251 < (l0.length : Int) := of_decide_eq_true (by first | (with_reducible assumption) | assumption)
                                                    obtain ⟨ad264, e264, hx264_0⟩ := Kd.at_int HR0.out t251 p264 q264
                                                    obtain rfl : ad253 = ad264 := (by injection e264)
                                                    replace hx264_0 := (HB.out.cell (World.block_lt_of_cell? w _ hx264_0)).trans hx264_0
                                                    replace p264 := eq_true p264
                                                    replace q264 := eq_true q264
                                                    go_wp2
                                                    repeat (go_quiet (fail); try go_wp2)
                                                    go_roundg kj16
                                                    case measure => have := HJ8.out; have := HJ11.out; have := HJ13.out; have := HK4.out; have := HJ16.out; omega
                                                    case rel => exact ⟨(wrap64 (x11_4 + 1)), (by first | rfl | (simp; done) | (simp [*]; done)), H', ⟨by have := HJ8.out; have := HJ11.out; have := HJ13.out; have := HK4.out; have := HJ16.out; omega⟩, ⟨by repeat (first | (with_reducible first | exact HB.out | apply below_alloc | apply pw_below_drewN | apply below_drew1) | exact HB.out)⟩⟩
                                              · rw [if_neg c34] at H
                                                exact absurd H (by simp)
                                            · rw [if_neg c33] at H
                                              exact absurd H (by simp)
                                      · rw [if_neg c24] at H
                                        exact absurd H (by simp)
                                    · rw [if_neg c23] at H
                                      exact absurd H (by simp)
                                  · rw [if_neg c22] at H
                                    exact absurd H (by simp)
                                · rw [if_neg c21] at H
                                  exact absurd H (by simp)
                            · replace c19 := Bool.eq_false_iff.mpr c19
                              subst c19
                              have H1 : (if true = true then (if t250 = true then (if t249 = a1 then (some false) else (some (t251 != a1))) else (some true)) else (some false)) = some r := by rw [if_neg (show ¬ (false = true) by decide)] at H; exact H
                              clear H
                              have H := H1
                              clear H1
                              by_cases c38 : true = true
                              · clear c38
                                have H1 : (if t250 = true then (if t249 = a1 then (some false) else (some (t251 != a1))) else (some true)) = some r := by rw [if_pos rfl] at H; exact H
                                clear H
                                have H := H1
                                clear H1
                                by_cases c39 : t250 = true
                                · subst c39
                                  have H1 : (if t249 = a1 then (some false) else (some (t251 != a1))) = some r := by rw [if_pos rfl] at H; exact H
                                  clear H
                                  have H := H1
                                  clear H1
                                  by_cases c40 : t249 = a1
                                  · rw [if_pos c40] at H
                                    have c40b0 : (t249 == a1) = true := beq_iff_eq.mpr c40
                                    have c40b1 : (t249 != a1) = false := bne_eq_false_iff_eq.mpr c40
                                    clear c40
                                    obtain rfl := Option.some.inj H
                                    go_wp2
                                    repeat (go_quiet (fail); try go_wp2)
                                    go_ret
                                    exact ⟨by first | rfl | (simp [errW_none, errW_some] <;> rfl) | (simp [*, errW_none, errW_some] <;> rfl), by repeat (first | (with_reducible first | exact HB.out | apply below_alloc | apply pw_below_drewN | apply below_drew1) | exact HB.out)⟩
                                  · rw [if_neg c40] at H
                                    have c40b0 : (t249 == a1) = false := beq_eq_false_iff_ne.mpr c40
                                    have c40b1 : (t249 != a1) = true := bne_iff_ne.mpr c40
                                    obtain rfl := Option.some.inj H
                                    go_wp2
                                    repeat (go_quiet (fail); try go_wp2)
                                    go_ret
                                    exact ⟨by first | rfl | (simp [errW_none, errW_some] <;> rfl) | (simp [*, errW_none, errW_some] <;> rfl), by repeat (first | (with_reducible first | exact HB.out | apply below_alloc | apply pw_below_drewN | apply below_drew1) | exact HB.out)⟩
                                · replace c39 := Bool.eq_false_iff.mpr c39
                                  subst c39
                                  have H1 : (some true) = some r := by rw [if_neg (show ¬ (false = true) by decide)] at H; exact H
                                  clear H
                                  have H := H1
                                  clear H1
                                  obtain rfl := Option.some.inj H
                                  go_wp2
                                  repeat (go_quiet (fail); try go_wp2)
                                  go_ret
                                  exact ⟨by first | rfl | (simp [errW_none, errW_some] <;> rfl) | (simp [*, errW_none, errW_some] <;> rfl), by repeat (first | (with_reducible first | exact HB.out | apply below_alloc | apply pw_below_drewN | apply below_drew1) | exact HB.out)⟩
                              · exact absurd rfl c38
  · replace c4 := Bool.eq_false_iff.mpr c4
    subst c4
    have H1 : (some false) = some r := by rw [if_neg (show ¬ (false = true) by decide)] at H; exact H
    clear H
    have H := H1
    clear H1
    obtain rfl := Option.some.inj H
    go_enter Try.func8, Try.ntmps8
    go_wp2_with (first | (go_at_call 9; (with_reducible refine (turnspitlaw13_awake.calls k  false _ A3.out).mono ?_); rintro e w41 ⟨rfl, hb⟩; have n0_ := Aside0.mk (below_step (by repeat (first | (with_reducible first | exact HB.out | apply below_alloc | apply pw_below_drewN | apply below_drew1) | exact HB.out)) hb); clear HB; have HB := n0_; clear n0_; (try clear hb); (try clear hb2); (try clear hk); (try clear hi)))
    repeat (go_quiet (first | (go_at_call 9; (with_reducible refine (turnspitlaw13_awake.calls k  false _ A3.out).mono ?_); rintro e w41 ⟨rfl, hb⟩; have n0_ := Aside0.mk (below_step (by repeat (first | (with_reducible first | exact HB.out | apply below_alloc | apply pw_below_drewN | apply below_drew1) | exact HB.out)) hb); clear HB; have HB := n0_; clear n0_; (try clear hb); (try clear hb2); (try clear hk); (try clear hi))); try go_wp2_with (first | (go_at_call 9; (with_reducible refine (turnspitlaw13_awake.calls k  false _ A3.out).mono ?_); rintro e w41 ⟨rfl, hb⟩; have n0_ := Aside0.mk (below_step (by repeat (first | (with_reducible first | exact HB.out | apply below_alloc | apply pw_below_drewN | apply below_drew1) | exact HB.out)) hb); clear HB; have HB := n0_; clear n0_; (try clear hb); (try clear hb2); (try clear hk); (try clear hi))))
    go_ret
    exact ⟨by first | rfl | (simp [errW_none, errW_some] <;> rfl) | (simp [*, errW_none, errW_some] <;> rfl), by repeat (first | (with_reducible first | exact HB.out | apply below_alloc | apply pw_below_drewN | apply below_drew1) | exact HB.out)⟩

end Go.Proofs.Ytkhdfbmkikiapaa.Print

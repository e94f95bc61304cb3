/- Package spread: Plan, in the printed form. -/
import Derived.Test.YtkhdfbmkikiapaaG4
namespace Go.Proofs.Ytkhdfbmkikiapaa.Given
open Go.RowKit Go.Shelf Go.Proofs.YtkhdfbmkikiapaaW.PrintWords Go.Proofs.Ytkhdfbmkikiapaa.Print
set_option linter.unusedVariables false
set_option linter.unusedSimpArgs false
def PlanPost (w : World) (k : Int) (e : Ending) (w' : World) : Prop := e = .returned (.tuple #[.slice none 0 0, .int .i64 k]) ∧ Below w.heap.size w w'
set_option maxRecDepth 100000 in
set_option maxHeartbeats 4000000 in
theorem plan_long (tc here there most : Int) (A : Option Addr) (c : Nat) (l : List S41) (w : World) (hl : 64 < l.length) :
    Calls Try.prog 10 #[.int .i64 tc, .int .i64 here, .int .i64 there, .slice A l.length c, .int .i64 most] w (PlanPost w 2) := by
  have d1 : decide (64 < (l.length : Int)) = true := decide_eq_true (by omega)
  have d1' : decide (64 < l.length) = true := decide_eq_true hl
  clear hl
  go_enter Try.func10, Try.ntmps10
  go_wp2
  go_ret2
  exact ⟨by first | rfl | (simp; rfl), by repeat (first | exact Below.refl _ _ | apply below_alloc | apply pw_below_drewN)⟩
set_option maxRecDepth 100000 in
set_option maxHeartbeats 4000000 in
theorem plan_odd1 (tc here there most : Int) (A : Option Addr) (c : Nat) (l : List S41) (w : World) (hl : l.length ≤ 64) (h : tc < 0) :
    Calls Try.prog 10 #[.int .i64 tc, .int .i64 here, .int .i64 there, .slice A l.length c, .int .i64 most] w (PlanPost w 1) := by
  have d1 : decide (64 < (l.length : Int)) = false := decide_eq_false (by omega)
  have d1' : decide (64 < l.length) = false := decide_eq_false (by omega)
  have d2 : decide (tc < 0) = true := decide_eq_true h
  clear hl h
  go_enter Try.func10, Try.ntmps10
  go_wp2
  go_ret2
  exact ⟨by first | rfl | (simp; rfl), by repeat (first | exact Below.refl _ _ | apply below_alloc | apply pw_below_drewN)⟩
set_option maxRecDepth 100000 in
set_option maxHeartbeats 4000000 in
theorem plan_odd2 (tc here there most : Int) (A : Option Addr) (c : Nat) (l : List S41) (w : World) (hl : l.length ≤ 64) (h0 : 0 ≤ tc) (h : 64 ≤ tc) :
    Calls Try.prog 10 #[.int .i64 tc, .int .i64 here, .int .i64 there, .slice A l.length c, .int .i64 most] w (PlanPost w 1) := by
  have d1 : decide (64 < (l.length : Int)) = false := decide_eq_false (by omega)
  have d1' : decide (64 < l.length) = false := decide_eq_false (by omega)
  have d2 : decide (tc < 0) = false := decide_eq_false (by omega)
  have d3 : decide (64 ≤ tc) = true := decide_eq_true h
  clear hl h0 h
  go_enter Try.func10, Try.ntmps10
  go_wp2
  go_ret2
  exact ⟨by first | rfl | (simp; rfl), by repeat (first | exact Below.refl _ _ | apply below_alloc | apply pw_below_drewN)⟩
set_option maxRecDepth 100000 in
set_option maxHeartbeats 4000000 in
theorem plan_odd3 (tc here there most : Int) (A : Option Addr) (c : Nat) (l : List S41) (w : World) (hl : l.length ≤ 64) (h0 : 0 ≤ tc) (h1 : tc < 64) (hh : loadB here = false) :
    Calls Try.prog 10 #[.int .i64 tc, .int .i64 here, .int .i64 there, .slice A l.length c, .int .i64 most] w (PlanPost w 1) := by
  have d1 : decide (64 < (l.length : Int)) = false := decide_eq_false (by omega)
  have d1' : decide (64 < l.length) = false := decide_eq_false (by omega)
  have d2 : decide (tc < 0) = false := decide_eq_false (by omega)
  have d3 : decide (64 ≤ tc) = false := decide_eq_false (by omega)
  have HLH := Aside0.mk ((load_f here).trans (congrArg some hh))
  clear hl h0 h1 hh
  go_enter Try.func10, Try.ntmps10
  go_wp2_with (first | (go_at_call 22; (with_reducible refine (spread_load.calls here false _ HLH.out).mono ?_); rintro e w' ⟨rfl, ⟨nd, rfl⟩⟩))
  go_ret2
  exact ⟨by first | rfl | (simp; rfl), by repeat (first | exact Below.refl _ _ | apply below_alloc | apply pw_below_drewN)⟩
set_option maxRecDepth 100000 in
set_option maxHeartbeats 4000000 in
theorem plan_odd4 (tc here there most : Int) (A : Option Addr) (c : Nat) (l : List S41) (w : World) (hl : l.length ≤ 64) (h0 : 0 ≤ tc) (h1 : tc < 64) (hh : loadB here = true) (ht : loadB there = false) :
    Calls Try.prog 10 #[.int .i64 tc, .int .i64 here, .int .i64 there, .slice A l.length c, .int .i64 most] w (PlanPost w 1) := by
  have d1 : decide (64 < (l.length : Int)) = false := decide_eq_false (by omega)
  have d1' : decide (64 < l.length) = false := decide_eq_false (by omega)
  have d2 : decide (tc < 0) = false := decide_eq_false (by omega)
  have d3 : decide (64 ≤ tc) = false := decide_eq_false (by omega)
  have HLH := Aside0.mk ((load_f here).trans (congrArg some hh))
  have HLT := Aside0.mk ((load_f there).trans (congrArg some ht))
  clear hl h0 h1 hh ht
  go_enter Try.func10, Try.ntmps10
  go_wp2_with (first | (go_at_call 22; (with_reducible refine (spread_load.calls here true _ HLH.out).mono ?_); rintro e w' ⟨rfl, ⟨nd, rfl⟩⟩) | (go_at_call 22; (with_reducible refine (spread_load.calls there false _ HLT.out).mono ?_); rintro e w' ⟨rfl, ⟨nd2, rfl⟩⟩))
  go_ret2
  exact ⟨by first | rfl | (simp; rfl), by repeat (first | exact Below.refl _ _ | apply below_alloc | apply pw_below_drewN)⟩
set_option maxRecDepth 100000 in
set_option maxHeartbeats 4000000 in
theorem plan_odd5 (tc here there most : Int) (A : Option Addr) (c : Nat) (l : List S41) (w : World) (hl : l.length ≤ 64) (h0 : 0 ≤ tc) (h1 : tc < 64) (hh : loadB here = true) (ht : loadB there = true) (h : most < 0) :
    Calls Try.prog 10 #[.int .i64 tc, .int .i64 here, .int .i64 there, .slice A l.length c, .int .i64 most] w (PlanPost w 1) := by
  have d1 : decide (64 < (l.length : Int)) = false := decide_eq_false (by omega)
  have d1' : decide (64 < l.length) = false := decide_eq_false (by omega)
  have d2 : decide (tc < 0) = false := decide_eq_false (by omega)
  have d3 : decide (64 ≤ tc) = false := decide_eq_false (by omega)
  have HLH := Aside0.mk ((load_f here).trans (congrArg some hh))
  have HLT := Aside0.mk ((load_f there).trans (congrArg some ht))
  have d4 : decide (most < 0) = true := decide_eq_true h
  clear hl h0 h1 hh ht h
  go_enter Try.func10, Try.ntmps10
  go_wp2_with (first | (go_at_call 22; (with_reducible refine (spread_load.calls here true _ HLH.out).mono ?_); rintro e w' ⟨rfl, ⟨nd, rfl⟩⟩) | (go_at_call 22; (with_reducible refine (spread_load.calls there true _ HLT.out).mono ?_); rintro e w' ⟨rfl, ⟨nd2, rfl⟩⟩))
  go_ret2
  exact ⟨by first | rfl | (simp; rfl), by repeat (first | exact Below.refl _ _ | apply below_alloc | apply pw_below_drewN)⟩
set_option maxRecDepth 100000 in
set_option maxHeartbeats 4000000 in
theorem plan_odd6 (tc here there most : Int) (A : Option Addr) (c : Nat) (l : List S41) (w : World) (hl : l.length ≤ 64) (h0 : 0 ≤ tc) (h1 : tc < 64) (hh : loadB here = true) (ht : loadB there = true) (h : 0 ≤ most) (hr : Kd.C k41 w A l.length l) (ho : l.any oddW = true) :
    Calls Try.prog 10 #[.int .i64 tc, .int .i64 here, .int .i64 there, .slice A l.length c, .int .i64 most] w (PlanPost w 1) := by
  have d1 : decide (64 < (l.length : Int)) = false := decide_eq_false (by omega)
  have d1' : decide (64 < l.length) = false := decide_eq_false (by omega)
  have d2 : decide (tc < 0) = false := decide_eq_false (by omega)
  have d3 : decide (64 ≤ tc) = false := decide_eq_false (by omega)
  have HLH := Aside0.mk ((load_f here).trans (congrArg some hh))
  have HLT := Aside0.mk ((load_f there).trans (congrArg some ht))
  have d4 : decide (most < 0) = false := decide_eq_false (by omega)
  have HCON := Aside0.mk (fun W (hb : Below w.heap.size w W) => ho ▸ contains_any A c l W (Kd.C_below hr hb) (by omega))
  clear hl h0 h1 hh ht h hr ho
  go_enter Try.func10, Try.ntmps10
  go_wp2_with (first | (go_at_call 22; (with_reducible refine (spread_load.calls here true _ HLH.out).mono ?_); rintro e w' ⟨rfl, ⟨nd, rfl⟩⟩) | (go_at_call 22; (with_reducible refine (spread_load.calls there true _ HLT.out).mono ?_); rintro e w' ⟨rfl, ⟨nd2, rfl⟩⟩))
  refine (HCON.out _ ?side).mono ?_
  case side => repeat (first | exact Below.refl _ _ | apply below_alloc | apply pw_below_drewN)
  rintro e w5 ⟨rfl, hb⟩
  have HB5 := below_step (show Below w.heap.size w _ by repeat (first | exact Below.refl _ _ | apply below_alloc | apply pw_below_drewN)) hb
  clear hb
  go_wp2
  go_ret2
  exact ⟨by first | rfl | (simp; rfl), HB5⟩
def maskOk (l : List S41) : Bool := l.all fun x => decide (0 ≤ x.f2) && decide (x.f2 < 18446744073709551616)
def oddP (tc here there : Int) (l : List S41) (most : Int) : Bool := decide (tc < 0) || (decide (64 ≤ tc) || (!loadB here || (!loadB there || (decide (most < 0) || l.any oddW))))
def spread_Plan.f (tc here there : Int) (l : List S41) (most : Int) : Option (List Int × Int) := if (l.length : Int) > 64 then some ([], 2) else if oddP tc here there l most = true then some ([], 1) else if maskOk l = true then some ((runP most here there (sel l tc (downs l.length))).out, 0) else none
theorem mask_rd {l : List S41} (h : maskOk l = true) (i : Int) : 0 ≤ (rd_T41 l i).f2 ∧ (rd_T41 l i).f2 < 18446744073709551616 := by
  unfold rd_T41
  rw [List.getD_eq_getElem?_getD]
  cases hx : l[i.toNat]? with
  | none => exact ⟨by decide, by decide⟩
  | some x =>
    have := List.all_eq_true.1 h x (List.mem_of_getElem? hx)
    simp only [Bool.and_eq_true, decide_eq_true_eq] at this
    exact this
theorem planPost_R {w : World} {k : Int} {e : Ending} {w' : World} (h : PlanPost w k e w') : ∃ v0_ : Value, e = .returned (.tuple #[v0_, .int .i64 k]) ∧ Kd.R (Kd.int .i64) 3 w' w.heap.size (fun _ => True) v0_ [] ∧ Below w.heap.size w w' :=
  ⟨_, h.1, Kd.R_nil _ _ _ _ _, h.2⟩
theorem spread_Plan.calls (a0 : Int) (a1 : Int) (a2 : Int) (A3 : Option Addr) (c3 : Nat) (l3 : List (S41)) (a4 : Int) (r1 : List Int) (r2 : Int) (w : World) (hr3 : Kd.C k41 w A3 l3.length l3) (hc3 : l3.length ≤ c3) (h : spread_Plan.f a0 a1 a2 l3 a4 = some (r1, r2)) :
    Calls Try.prog 10 #[.int .i64 a0, .int .i64 a1, .int .i64 a2, .slice A3 l3.length c3, .int .i64 a4] w fun e w' => ∃ v0_ : Value, e = .returned (.tuple #[v0_, .int .i64 r2]) ∧ Kd.R (Kd.int .i64) 3 w' w.heap.size (fun _ => True) v0_ r1 ∧ Below w.heap.size w w' := by
  unfold spread_Plan.f at h
  by_cases hl : (l3.length : Int) > 64
  · rw [if_pos hl] at h
    simp only [Option.some.injEq, Prod.mk.injEq] at h
    obtain ⟨rfl, rfl⟩ := h
    exact (plan_long a0 a1 a2 a4 A3 c3 l3 w (by omega)).mono fun e w' => planPost_R
  · rw [if_neg hl] at h
    have hl' : l3.length ≤ 64 := by omega
    by_cases ho : oddP a0 a1 a2 l3 a4 = true
    · rw [if_pos ho] at h
      simp only [Option.some.injEq, Prod.mk.injEq] at h
      obtain ⟨rfl, rfl⟩ := h
      refine Calls.mono (R := PlanPost w 1) ?_ fun e w' => planPost_R
      unfold oddP at ho
      by_cases h1 : a0 < 0
      · exact plan_odd1 a0 a1 a2 a4 A3 c3 l3 w hl' h1
      by_cases h2 : 64 ≤ a0
      · exact plan_odd2 a0 a1 a2 a4 A3 c3 l3 w hl' (by omega) h2
      cases h3 : loadB a1
      · exact plan_odd3 a0 a1 a2 a4 A3 c3 l3 w hl' (by omega) (by omega) h3
      cases h4 : loadB a2
      · exact plan_odd4 a0 a1 a2 a4 A3 c3 l3 w hl' (by omega) (by omega) h3 h4
      by_cases h5 : a4 < 0
      · exact plan_odd5 a0 a1 a2 a4 A3 c3 l3 w hl' (by omega) (by omega) h3 h4 h5
      · rw [decide_eq_false h1, decide_eq_false h2, h3, h4, decide_eq_false h5] at ho
        exact plan_odd6 a0 a1 a2 a4 A3 c3 l3 w hl' (by omega) (by omega) h3 h4 (by omega) hr3 (by simpa using ho)
    · rw [if_neg ho] at h
      by_cases hm : maskOk l3 = true
      · rw [if_pos hm] at h
        simp only [Option.some.injEq, Prod.mk.injEq] at h
        obtain ⟨rfl, rfl⟩ := h
        unfold oddP at ho
        simp only [Bool.or_eq_true, decide_eq_true_eq, Bool.not_eq_true', not_or, Bool.not_eq_true, Bool.not_eq_false] at ho
        obtain ⟨h1, h2, h3, h4, h5, h6⟩ := ho
        refine Calls.mono (callsIn_wide.1 (plan_ok a0 a1 a2 a4 A3 c3 l3 w hr3 hl' (by omega) (by omega) h3 h4 (by omega) h6 (mask_rd hm))) ?_
        rintro e w' ⟨v, rfl, hv, hb⟩
        exact ⟨v, rfl, Kd.R_of_own (h1 := fun _ => rfl) (ok := fun _ => True) hv (fun _ _ => trivial), hb⟩
      · rw [if_neg hm] at h; cases h
end Go.Proofs.Ytkhdfbmkikiapaa.Given

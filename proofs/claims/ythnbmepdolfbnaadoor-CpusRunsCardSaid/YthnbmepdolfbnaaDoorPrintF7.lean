-- Written for this claim by a program out of the translation. Lean checks it.
import Derived.Test.YthnbmepdolfbnaaDoorPrint0
import Derived.Test.YthnbmepdolfbnaaDoorPrintF12
import Derived.Test.YthnbmepdolfbnaaDoorPrintF17
import Derived.Test.YthnbmepdolfbnaaDoorGQ
import Derived.Test.YthnbmepdolfbnaaDoorGV
namespace Go.Proofs.YthnbmepdolfbnaaDoor.Print
open Go.RowKit Go.Proofs.YthnbmepdolfbnaaDoor Go.Proofs.YthnbmepdolfbnaaDoor.Given Go.Proofs.YthnbmepdolfbnaaDoorW.PrintWords Go.Proofs.YthnbmepdolfbnaaDoorW.PrintLast Go.Proofs.YthnbmepdolfbnaaDoorW.PrintMore
attribute [local go_sem] max2_int min2_int max_two min_two max_three min_three max_four min_four   -- for this text's walks alone
set_option linter.unusedVariables false
set_option linter.unusedSimpArgs false

/-! ### turnspitlaw05_CpusRuns: function 7 -/
mutual
def turnspitlaw05_CpusRuns.j0 : Nat → Int → Int → Option (Bool)
  | 0, _, _ => none
  | k + 1, x5, x6 => (turnspitref04_All.f k (wrap64 (x6 + 1))).bind fun t178 => ((turnspitref04_All.f k x5).bind fun t179 => ((cpus_Print.f (IntKind.u64.wrap (t178 - t179))).bind fun t180 => ((cpus_Parse.f t180).bind fun bt181 => (turnspitlaw05_CpusRuns.l0 k x5 x6 (IntKind.u64.wrap (t178 - t179)) t180 bt181.1 bt181.2 0 0))))
def turnspitlaw05_CpusRuns.l0 : Nat → Int → Int → Int → ByteArray → Int → Int → Int → Int → Option (Bool)
  | 0, _, _, _, _, _, _, _, _ => none
  | k + 1, x5, x6, x7, x8, x9, x10, x11, x12 => if x12 < (x8.size : Int) then (if 0 ≤ x12 then (if (bt x8 x12) = 44 then (turnspitlaw05_CpusRuns.l0 k x5 x6 x7 x8 x9 x10 (wrap64 (x11 + 1)) (wrap64 (x12 + 1))) else (turnspitlaw05_CpusRuns.l0 k x5 x6 x7 x8 x9 x10 x11 (wrap64 (x12 + 1)))) else (none)) else ((turnspitlaw05_awake.f).bind fun t183 => (if t183 = true then (if x9 = x7 then (if x10 = 0 then (if x11 = 0 then (some ((x5 == x6) == (decide ((x8.size : Int) < 3)))) else (some false)) else (some false)) else (some false)) else (some false)))
end
def turnspitlaw05_CpusRuns.f (k : Nat) (a0 : Int) (a1 : Int) : Option (Bool) := if (Int.tmod (wrap64 (a0)) 64) > (Int.tmod (wrap64 (a1)) 64) then (turnspitlaw05_CpusRuns.j0 k (Int.tmod (wrap64 (a1)) 64) (Int.tmod (wrap64 (a0)) 64)) else (turnspitlaw05_CpusRuns.j0 k (Int.tmod (wrap64 (a0)) 64) (Int.tmod (wrap64 (a1)) 64))
theorem turnspitlaw05_CpusRuns.mono_l : ∀ k, (∀ y0 y1, LeO (turnspitlaw05_CpusRuns.j0 k y0 y1) (turnspitlaw05_CpusRuns.j0 (k + 1) y0 y1)) ∧ (∀ y0 y1 y2 y3 y4 y5 y6 y7, LeO (turnspitlaw05_CpusRuns.l0 k y0 y1 y2 y3 y4 y5 y6 y7) (turnspitlaw05_CpusRuns.l0 (k + 1) y0 y1 y2 y3 y4 y5 y6 y7))
  | 0 => ⟨fun _ _ r h => by simp [turnspitlaw05_CpusRuns.j0] at h, fun _ _ _ _ _ _ _ _ r h => by simp [turnspitlaw05_CpusRuns.l0] at h⟩
  | k + 1 => by
    obtain ⟨ih0, ih1⟩ := turnspitlaw05_CpusRuns.mono_l k
    refine ⟨?_, ?_⟩
    · intro y0 y1
      unfold turnspitlaw05_CpusRuns.j0
      repeat' first
      | (with_reducible exact ih0 _ _)
      | (with_reducible exact ih1 _ _ _ _ _ _ _ _)
      | (with_reducible exact turnspitref04_All.mono _ _)
      | (with_reducible exact LeO.refl _)
      | (with_reducible exact LeO.none _)
      | (with_reducible refine LeO.ite ?_ ?_)
      | (with_reducible refine LeO.bind ?_ (fun _ => ?_))
      | exact ih0 _ _
      | exact ih1 _ _ _ _ _ _ _ _
      | exact turnspitref04_All.mono _ _
      | exact LeO.none _
      | refine LeO.ite ?_ ?_
      | refine LeO.bind ?_ (fun _ => ?_)
    · intro y0 y1 y2 y3 y4 y5 y6 y7
      unfold turnspitlaw05_CpusRuns.l0
      repeat' first
      | (with_reducible exact ih0 _ _)
      | (with_reducible exact ih1 _ _ _ _ _ _ _ _)
      | (with_reducible exact turnspitref04_All.mono _ _)
      | (with_reducible exact LeO.refl _)
      | (with_reducible exact LeO.none _)
      | (with_reducible refine LeO.ite ?_ ?_)
      | (with_reducible refine LeO.bind ?_ (fun _ => ?_))
      | exact ih0 _ _
      | exact ih1 _ _ _ _ _ _ _ _
      | exact turnspitref04_All.mono _ _
      | exact LeO.none _
      | refine LeO.ite ?_ ?_
      | refine LeO.bind ?_ (fun _ => ?_)
theorem turnspitlaw05_CpusRuns.mono : ∀ a0 a1 k, LeO (turnspitlaw05_CpusRuns.f k a0 a1) (turnspitlaw05_CpusRuns.f (k + 1) a0 a1) := by
  intro a0 a1 k
  obtain ⟨ih0, ih1⟩ := turnspitlaw05_CpusRuns.mono_l k
  unfold turnspitlaw05_CpusRuns.f
  repeat' first
      | (with_reducible exact ih0 _ _)
      | (with_reducible exact ih1 _ _ _ _ _ _ _ _)
      | (with_reducible exact turnspitref04_All.mono _ _)
      | (with_reducible exact LeO.refl _)
      | (with_reducible exact LeO.none _)
      | (with_reducible refine LeO.ite ?_ ?_)
      | (with_reducible refine LeO.bind ?_ (fun _ => ?_))
      | exact ih0 _ _
      | exact ih1 _ _ _ _ _ _ _ _
      | exact turnspitref04_All.mono _ _
      | exact LeO.none _
      | refine LeO.ite ?_ ?_
      | refine LeO.bind ?_ (fun _ => ?_)
set_option maxHeartbeats 8000000 in
set_option maxRecDepth 100000 in
theorem turnspitlaw05_CpusRuns.calls (k : Nat) (a0 : Int) (a1 : Int) (r : Bool) (w : World) (h : turnspitlaw05_CpusRuns.f k a0 a1 = some r) :
    Calls Tryd.prog 7 #[.int .u8 a0, .int .u8 a1] w fun e w' => e = .returned (.bool r) ∧ Below w.heap.size w w' := by
  have HB := Aside0.mk (Below.refl w.heap.size w)
  have H : (if (Int.tmod (wrap64 (a0)) 64) > (Int.tmod (wrap64 (a1)) 64) then (turnspitlaw05_CpusRuns.j0 k (Int.tmod (wrap64 (a1)) 64) (Int.tmod (wrap64 (a0)) 64)) else (turnspitlaw05_CpusRuns.j0 k (Int.tmod (wrap64 (a0)) 64) (Int.tmod (wrap64 (a1)) 64))) = some r := h
  clear h
  have HC3 := Aside0.mk H
  clear H
  go_enter Tryd.func7, Tryd.ntmps7
  go_upto_if 21 with (fail)
  go_cut [5, 6] (fun v5 v6 wc => ∃ (kq : Nat) (x5_2 : Int) (x6_2 : Int), v5 = .int .i64 x5_2 ∧ v6 = .int .i64 x6_2 ∧ Aside0 (turnspitlaw05_CpusRuns.j0 kq x5_2 x6_2 = some r) ∧ Aside0 (kq ≤ k) ∧ Aside0 (Below w.heap.size w wc))
  case first =>
    have H := HC3.out
    clear HC3
    by_cases c4 : (Int.tmod (wrap64 (a0)) 64) > (Int.tmod (wrap64 (a1)) 64)
    · rw [if_pos c4] at H
      have c4b0 : decide ((Int.tmod (wrap64 (a1)) 64) < (Int.tmod (wrap64 (a0)) 64)) = true := decide_eq_true c4
      clear c4
      (first | rw [c4b0] | (simp only [i64_w, i32_w]; rw [c4b0]) | skip)
      have H' := Aside0.mk H
      clear H
      go_wp2
      go_meet
      case rel => exact ⟨_, (Int.tmod (wrap64 (a1)) 64), (Int.tmod (wrap64 (a0)) 64), (by first | rfl | (simp; done) | (simp [*]; done)), (by first | rfl | (simp; done) | (simp [*]; done)), H', ⟨by first | omega | exact Nat.le_refl _⟩, ⟨by repeat (first | (with_reducible first | exact HB.out | apply below_alloc | apply pw_below_drewN | apply below_drew1) | exact HB.out)⟩⟩
    · rw [if_neg c4] at H
      have c4b0 : decide ((Int.tmod (wrap64 (a1)) 64) < (Int.tmod (wrap64 (a0)) 64)) = false := decide_eq_false c4
      clear c4
      (first | rw [c4b0] | (simp only [i64_w, i32_w]; rw [c4b0]) | skip)
      have H' := Aside0.mk H
      clear H
      go_wp2
      go_meet
      case rel => exact ⟨_, (Int.tmod (wrap64 (a0)) 64), (Int.tmod (wrap64 (a1)) 64), (by first | rfl | (simp; done) | (simp [*]; done)), (by first | rfl | (simp; done) | (simp [*]; done)), H', ⟨by first | omega | exact Nat.le_refl _⟩, ⟨by repeat (first | (with_reducible first | exact HB.out | apply below_alloc | apply pw_below_drewN | apply below_drew1) | exact HB.out)⟩⟩
  case rest =>
    clear HC3
    try clear p2
    try clear c4
    try clear c4b0
    obtain ⟨kq, x5_2, x6_2, rfl, rfl, HA, HJ2, HB⟩ := hcut
    cases kq with
    | zero => exact absurd HA.out (by simp [turnspitlaw05_CpusRuns.j0])
    | succ kj2 =>
      have H := HA.out
      clear HA
      simp only [turnspitlaw05_CpusRuns.j0] at H
      replace H := Option.bind_eq_some_iff.mp H
      obtain ⟨t178, A50, H⟩ := H
      replace H : ((turnspitref04_All.f kj2 x5_2).bind fun t179 => ((cpus_Print.f (IntKind.u64.wrap (t178 - t179))).bind fun t180 => ((cpus_Parse.f t180).bind fun bt181 => (turnspitlaw05_CpusRuns.l0 kj2 x5_2 x6_2 (IntKind.u64.wrap (t178 - t179)) t180 bt181.1 bt181.2 0 0)))) = some r := H
      have A5 := Aside0.mk A50
      clear A50
      replace H := Option.bind_eq_some_iff.mp H
      obtain ⟨t179, A60, H⟩ := H
      replace H : ((cpus_Print.f (IntKind.u64.wrap (t178 - t179))).bind fun t180 => ((cpus_Parse.f t180).bind fun bt181 => (turnspitlaw05_CpusRuns.l0 kj2 x5_2 x6_2 (IntKind.u64.wrap (t178 - t179)) t180 bt181.1 bt181.2 0 0))) = some r := H
      have A6 := Aside0.mk A60
      clear A60
      replace H := Option.bind_eq_some_iff.mp H
      obtain ⟨t180, A70, H⟩ := H
      replace H : ((cpus_Parse.f t180).bind fun bt181 => (turnspitlaw05_CpusRuns.l0 kj2 x5_2 x6_2 (IntKind.u64.wrap (t178 - t179)) t180 bt181.1 bt181.2 0 0)) = some r := H
      have A7 := Aside0.mk A70
      clear A70
      replace H := Option.bind_eq_some_iff.mp H
      obtain ⟨⟨t181, t182⟩, A80, H⟩ := H
      replace H : (turnspitlaw05_CpusRuns.l0 kj2 x5_2 x6_2 (IntKind.u64.wrap (t178 - t179)) t180 t181 t182 0 0) = some r := H
      have A8 := Aside0.mk A80
      clear A80
      have H' := Aside0.mk H
      clear H
      go_wp2_with (first | ((with_reducible refine gate_callee (f := 17) rfl ?_); refine goesL_ (some 26) rfl rfl Tryd.func17 (by kernel_rfl) rfl #[.int .i64 (wrap64 (x6_2 + 1))] rfl (by (try simp only [List.map_toArray, List.map_cons, List.map_nil]); first | done | rfl | (simp only [List.length_drop, List.length_take]; rfl)) ?_; (with_reducible refine (turnspitref04_All.calls kj2 (wrap64 (x6_2 + 1)) t178 _ A5.out).mono ?_); rintro e w' ⟨rfl, ⟨nd, rfl⟩⟩; refine ⟨_, rfl, ?_⟩) | ((with_reducible refine gate_callee (f := 17) rfl ?_); refine goesL_ (some 28) rfl rfl Tryd.func17 (by kernel_rfl) rfl #[.int .i64 x5_2] rfl (by (try simp only [List.map_toArray, List.map_cons, List.map_nil]); first | done | rfl | (simp only [List.length_drop, List.length_take]; rfl)) ?_; (with_reducible refine (turnspitref04_All.calls kj2 x5_2 t179 _ A6.out).mono ?_); rintro e w' ⟨rfl, ⟨nd, rfl⟩⟩; refine ⟨_, rfl, ?_⟩) | ((with_reducible refine gate_callee (f := 10) rfl ?_); refine goesL_ (some 31) rfl rfl Tryd.func10 (by kernel_rfl) rfl #[.int .u64 (IntKind.u64.wrap (t178 - t179))] rfl (by (try simp only [List.map_toArray, List.map_cons, List.map_nil]); first | done | rfl | (simp only [List.length_drop, List.length_take]; rfl)) ?_; (with_reducible refine (cpus_Print.calls (IntKind.u64.wrap (t178 - t179)) t180 _ A7.out).mono ?_); rintro e w9 ⟨rfl, hb⟩; refine ⟨_, rfl, ?_⟩; have n0_ := Aside0.mk (below_step (by repeat (first | (with_reducible first | exact HB.out | apply below_alloc | apply pw_below_drewN | apply below_drew1) | exact HB.out)) hb); clear HB; have HB := n0_; clear n0_; (try clear hb); (try clear hb2); (try clear hk); (try clear hi)) | ((with_reducible refine gate_callee (f := 11) rfl ?_); refine goesL_ (some 34) rfl rfl Tryd.func11 (by kernel_rfl) rfl #[.string t180] rfl (by (try simp only [List.map_toArray, List.map_cons, List.map_nil]); first | done | rfl | (simp only [List.length_drop, List.length_take]; rfl)) ?_; (with_reducible refine (cpus_Parse.calls t180 t181 t182 _ A8.out).mono ?_); rintro e w10 ⟨rfl, hb⟩; refine ⟨_, rfl, ?_⟩; have n0_ := Aside0.mk (below_step (by repeat (first | (with_reducible first | exact HB.out | apply below_alloc | apply pw_below_drewN | apply below_drew1) | exact HB.out)) hb); clear HB; have HB := n0_; clear n0_; (try clear hb); (try clear hb2); (try clear hk); (try clear hi)))
      go_loopg [11, 12] kj2 (fun kq v11 v12 w' => ∃ (x11_2 : Int) (x12_2 : Int), v11 = .int .i64 x11_2 ∧ v12 = .int .i64 x12_2 ∧ Aside0 (turnspitlaw05_CpusRuns.l0 kq x5_2 x6_2 (IntKind.u64.wrap (t178 - t179)) t180 t181 t182 x11_2 x12_2 = some r) ∧ Aside0 (kq ≤ kj2) ∧ Aside0 (Below w.heap.size w w'))
      case atStart => exact ⟨(0), (0), (by first | rfl | (simp; done) | (simp [*]; done)), (by first | rfl | (simp; done) | (simp [*]; done)), H', ⟨Nat.le_refl _⟩, ⟨by repeat (first | (with_reducible first | exact HB.out | apply below_alloc | apply pw_below_drewN | apply below_drew1) | exact HB.out)⟩⟩
      case round =>
        clear H'
        try clear c1
        try clear p2
        try clear c4
        try clear c4b0
        try clear p6
        try clear c7
        try clear c10
        try clear p2
        obtain ⟨x11_2, x12_2, rfl, rfl, HA, HK2, HB⟩ := hrel
        cases gk with
        | zero => exact absurd HA.out (by simp [turnspitlaw05_CpusRuns.l0])
        | succ k2 =>
          have H := HA.out
          clear HA
          simp only [turnspitlaw05_CpusRuns.l0] at H
          by_cases c11 : x12_2 < (t180.size : Int)
          · rw [if_pos c11] at H
            have c11b0 : decide (x12_2 < (t180.size : Int)) = true := decide_eq_true c11
            clear c11
            by_cases c12 : 0 ≤ x12_2
            · rw [if_pos c12] at H
              have c12b0 : decide (0 ≤ x12_2) = true := decide_eq_true c12
              clear c12
              by_cases c14 : (bt t180 x12_2) = 44
              · rw [if_pos c14] at H
                have c14b0 : ((bt t180 x12_2) == 44) = true := beq_iff_eq.mpr c14
                have c14b1 : ((bt t180 x12_2) != 44) = false := bne_eq_false_iff_eq.mpr c14
                clear c14
                have H' := Aside0.mk H
                clear H
                have p13 : 0 ≤ (x12_2 : Int) := of_decide_eq_true (by first | (with_reducible assumption) | assumption)
                have q13 : x12_2 < (t180.size : Int) := of_decide_eq_true (by first | (with_reducible assumption) | assumption)
                have hx13 := bt_at t180 x12_2
                replace p13 := eq_true p13
                replace q13 := eq_true q13
                go_wp2
                go_roundg k2
                case measure => have := HJ2.out; have := HK2.out; omega
                case rel => exact ⟨(wrap64 (x11_2 + 1)), (wrap64 (x12_2 + 1)), (by first | rfl | (simp; done) | (simp [*]; done)), (by first | rfl | (simp; done) | (simp [*]; done)), H', ⟨by have := HJ2.out; have := HK2.out; omega⟩, ⟨by repeat (first | (with_reducible first | exact HB.out | apply below_alloc | apply pw_below_drewN | apply below_drew1) | exact HB.out)⟩⟩
              · rw [if_neg c14] at H
                have c14b0 : ((bt t180 x12_2) == 44) = false := beq_eq_false_iff_ne.mpr c14
                have c14b1 : ((bt t180 x12_2) != 44) = true := bne_iff_ne.mpr c14
                have H' := Aside0.mk H
                clear H
                have p13 : 0 ≤ (x12_2 : Int) := of_decide_eq_true (by first | (with_reducible assumption) | assumption)
                have q13 : x12_2 < (t180.size : Int) := of_decide_eq_true (by first | (with_reducible assumption) | assumption)
                have hx13 := bt_at t180 x12_2
                replace p13 := eq_true p13
                replace q13 := eq_true q13
                go_wp2
                go_roundg k2
                case measure => have := HJ2.out; have := HK2.out; omega
                case rel => exact ⟨(x11_2), (wrap64 (x12_2 + 1)), (by first | rfl | (simp; done) | (simp [*]; done)), (by first | rfl | (simp; done) | (simp [*]; done)), H', ⟨by have := HJ2.out; have := HK2.out; omega⟩, ⟨by repeat (first | (with_reducible first | exact HB.out | apply below_alloc | apply pw_below_drewN | apply below_drew1) | exact HB.out)⟩⟩
            · rw [if_neg c12] at H
              exact absurd H (by simp)
          · rw [if_neg c11] at H
            have c11b0 : decide (x12_2 < (t180.size : Int)) = false := decide_eq_false c11
            clear c11
            replace H := Option.bind_eq_some_iff.mp H
            obtain ⟨t183, A150, H⟩ := H
            replace H : (if t183 = true then (if t181 = (IntKind.u64.wrap (t178 - t179)) then (if t182 = 0 then (if x11_2 = 0 then (some ((x5_2 == x6_2) == (decide ((t180.size : Int) < 3)))) else (some false)) else (some false)) else (some false)) else (some false)) = some r := H
            have A15 := Aside0.mk A150
            clear A150
            by_cases c16 : t183 = true
            · subst c16
              have H1 : (if t181 = (IntKind.u64.wrap (t178 - t179)) then (if t182 = 0 then (if x11_2 = 0 then (some ((x5_2 == x6_2) == (decide ((t180.size : Int) < 3)))) else (some false)) else (some false)) else (some false)) = some r := by rw [if_pos rfl] at H; exact H
              clear H
              have H := H1
              clear H1
              by_cases c17 : t181 = (IntKind.u64.wrap (t178 - t179))
              · rw [if_pos c17] at H
                have c17b0 : (t181 == (IntKind.u64.wrap (t178 - t179))) = true := beq_iff_eq.mpr c17
                have c17b1 : (t181 != (IntKind.u64.wrap (t178 - t179))) = false := bne_eq_false_iff_eq.mpr c17
                clear c17
                by_cases c18 : t182 = 0
                · rw [if_pos c18] at H
                  have c18b0 : (t182 == 0) = true := beq_iff_eq.mpr c18
                  have c18b1 : (t182 != 0) = false := bne_eq_false_iff_eq.mpr c18
                  clear c18
                  by_cases c19 : x11_2 = 0
                  · rw [if_pos c19] at H
                    have c19b0 : (x11_2 == 0) = true := beq_iff_eq.mpr c19
                    have c19b1 : (x11_2 != 0) = false := bne_eq_false_iff_eq.mpr c19
                    clear c19
                    obtain rfl := Option.some.inj H
                    go_wp2_with (first | ((with_reducible refine gate_callee (f := 12) rfl ?_); refine goesL_ (some 49) rfl rfl Tryd.func12 (by kernel_rfl) rfl #[] rfl (by (try simp only [List.map_toArray, List.map_cons, List.map_nil]); first | done | rfl | (simp only [List.length_drop, List.length_take]; rfl)) ?_; (with_reducible refine (turnspitlaw05_awake.calls  true _ A15.out).mono ?_); rintro e w20 ⟨rfl, hb⟩; refine ⟨_, rfl, ?_⟩; have n0_ := Aside0.mk (below_step (by repeat (first | (with_reducible first | exact HB.out | apply below_alloc | apply pw_below_drewN | apply below_drew1) | exact HB.out)) hb); clear HB; have HB := n0_; clear n0_; (try clear hb); (try clear hb2); (try clear hk); (try clear hi)))
                    go_ret
                    exact ⟨by first | rfl | (simp [errW_none, errW_some] <;> rfl) | (simp [*, errW_none, errW_some] <;> rfl), by repeat (first | (with_reducible first | exact HB.out | apply below_alloc | apply pw_below_drewN | apply below_drew1) | exact HB.out)⟩
                  · rw [if_neg c19] at H
                    have c19b0 : (x11_2 == 0) = false := beq_eq_false_iff_ne.mpr c19
                    have c19b1 : (x11_2 != 0) = true := bne_iff_ne.mpr c19
                    obtain rfl := Option.some.inj H
                    go_wp2_with (first | ((with_reducible refine gate_callee (f := 12) rfl ?_); refine goesL_ (some 49) rfl rfl Tryd.func12 (by kernel_rfl) rfl #[] rfl (by (try simp only [List.map_toArray, List.map_cons, List.map_nil]); first | done | rfl | (simp only [List.length_drop, List.length_take]; rfl)) ?_; (with_reducible refine (turnspitlaw05_awake.calls  true _ A15.out).mono ?_); rintro e w21 ⟨rfl, hb⟩; refine ⟨_, rfl, ?_⟩; have n0_ := Aside0.mk (below_step (by repeat (first | (with_reducible first | exact HB.out | apply below_alloc | apply pw_below_drewN | apply below_drew1) | exact HB.out)) hb); clear HB; have HB := n0_; clear n0_; (try clear hb); (try clear hb2); (try clear hk); (try clear hi)))
                    go_ret
                    exact ⟨by first | rfl | (simp [errW_none, errW_some] <;> rfl) | (simp [*, errW_none, errW_some] <;> rfl), by repeat (first | (with_reducible first | exact HB.out | apply below_alloc | apply pw_below_drewN | apply below_drew1) | exact HB.out)⟩
                · rw [if_neg c18] at H
                  have c18b0 : (t182 == 0) = false := beq_eq_false_iff_ne.mpr c18
                  have c18b1 : (t182 != 0) = true := bne_iff_ne.mpr c18
                  obtain rfl := Option.some.inj H
                  go_wp2_with (first | ((with_reducible refine gate_callee (f := 12) rfl ?_); refine goesL_ (some 49) rfl rfl Tryd.func12 (by kernel_rfl) rfl #[] rfl (by (try simp only [List.map_toArray, List.map_cons, List.map_nil]); first | done | rfl | (simp only [List.length_drop, List.length_take]; rfl)) ?_; (with_reducible refine (turnspitlaw05_awake.calls  true _ A15.out).mono ?_); rintro e w22 ⟨rfl, hb⟩; refine ⟨_, rfl, ?_⟩; have n0_ := Aside0.mk (below_step (by repeat (first | (with_reducible first | exact HB.out | apply below_alloc | apply pw_below_drewN | apply below_drew1) | exact HB.out)) hb); clear HB; have HB := n0_; clear n0_; (try clear hb); (try clear hb2); (try clear hk); (try clear hi)))
                  go_ret
                  exact ⟨by first | rfl | (simp [errW_none, errW_some] <;> rfl) | (simp [*, errW_none, errW_some] <;> rfl), by repeat (first | (with_reducible first | exact HB.out | apply below_alloc | apply pw_below_drewN | apply below_drew1) | exact HB.out)⟩
              · rw [if_neg c17] at H
                have c17b0 : (t181 == (IntKind.u64.wrap (t178 - t179))) = false := beq_eq_false_iff_ne.mpr c17
                have c17b1 : (t181 != (IntKind.u64.wrap (t178 - t179))) = true := bne_iff_ne.mpr c17
                obtain rfl := Option.some.inj H
                go_wp2_with (first | ((with_reducible refine gate_callee (f := 12) rfl ?_); refine goesL_ (some 49) rfl rfl Tryd.func12 (by kernel_rfl) rfl #[] rfl (by (try simp only [List.map_toArray, List.map_cons, List.map_nil]); first | done | rfl | (simp only [List.length_drop, List.length_take]; rfl)) ?_; (with_reducible refine (turnspitlaw05_awake.calls  true _ A15.out).mono ?_); rintro e w23 ⟨rfl, hb⟩; refine ⟨_, rfl, ?_⟩; have n0_ := Aside0.mk (below_step (by repeat (first | (with_reducible first | exact HB.out | apply below_alloc | apply pw_below_drewN | apply below_drew1) | exact HB.out)) hb); clear HB; have HB := n0_; clear n0_; (try clear hb); (try clear hb2); (try clear hk); (try clear hi)))
                go_ret
                exact ⟨by first | rfl | (simp [errW_none, errW_some] <;> rfl) | (simp [*, errW_none, errW_some] <;> rfl), by repeat (first | (with_reducible first | exact HB.out | apply below_alloc | apply pw_below_drewN | apply below_drew1) | exact HB.out)⟩
            · replace c16 := Bool.eq_false_iff.mpr c16
              subst c16
              have H1 : (some false) = some r := by rw [if_neg (show ¬ (false = true) by decide)] at H; exact H
              clear H
              have H := H1
              clear H1
              obtain rfl := Option.some.inj H
              go_wp2_with (first | ((with_reducible refine gate_callee (f := 12) rfl ?_); refine goesL_ (some 49) rfl rfl Tryd.func12 (by kernel_rfl) rfl #[] rfl (by (try simp only [List.map_toArray, List.map_cons, List.map_nil]); first | done | rfl | (simp only [List.length_drop, List.length_take]; rfl)) ?_; (with_reducible refine (turnspitlaw05_awake.calls  false _ A15.out).mono ?_); rintro e w24 ⟨rfl, hb⟩; refine ⟨_, rfl, ?_⟩; have n0_ := Aside0.mk (below_step (by repeat (first | (with_reducible first | exact HB.out | apply below_alloc | apply pw_below_drewN | apply below_drew1) | exact HB.out)) hb); clear HB; have HB := n0_; clear n0_; (try clear hb); (try clear hb2); (try clear hk); (try clear hi)))
              go_ret
              exact ⟨by first | rfl | (simp [errW_none, errW_some] <;> rfl) | (simp [*, errW_none, errW_some] <;> rfl), by repeat (first | (with_reducible first | exact HB.out | apply below_alloc | apply pw_below_drewN | apply below_drew1) | exact HB.out)⟩

end Go.Proofs.YthnbmepdolfbnaaDoor.Print

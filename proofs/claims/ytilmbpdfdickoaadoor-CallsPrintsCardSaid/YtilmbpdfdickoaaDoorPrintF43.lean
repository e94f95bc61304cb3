-- Written for this claim by a program out of the translation. Lean checks it.
import Derived.Test.YtilmbpdfdickoaaDoorPrint0
import Derived.Test.YtilmbpdfdickoaaDoorPrintF53
import Derived.Test.YtilmbpdfdickoaaDoorPrintF54
namespace Go.Proofs.YtilmbpdfdickoaaDoor.Print
open Go.RowKit Go.Proofs.YtilmbpdfdickoaaDoor Go.Proofs.YtilmbpdfdickoaaDoor.Given Go.Proofs.YtilmbpdfdickoaaDoorW.PrintWords Go.Proofs.YtilmbpdfdickoaaDoorW.PrintLast Go.Proofs.YtilmbpdfdickoaaDoorW.PrintMore
attribute [local go_sem] max2_int min2_int max_two min_two max_three min_three max_four min_four   -- for this text's walks alone
set_option linter.unusedVariables false
set_option linter.unusedSimpArgs false

/-! ### turnspitref05_Print: function 43 -/
mutual
def turnspitref05_Print.l0 : Nat → Int → ByteArray → Int → Option (ByteArray)
  | 0, _, _, _ => none
  | k + 1, x0, x3, x4 => if x4 < 64 then ((turnspitref04_Has.f k x0 (wrap64 (x4 - 1))).bind fun t120 => ((turnspitref04_Has.f k x0 x4).bind fun t121 => (if t121 = true then (turnspitref05_Print.j1 k x0 x3 x4 t120) else (turnspitref05_Print.j1 k x0 x3 x4 true)))) else (if x3.toList = ([] : List UInt8) then (some (⟨#[45]⟩ : ByteArray)) else (some x3))
def turnspitref05_Print.j1 : Nat → Int → ByteArray → Int → Bool → Option (ByteArray)
  | 0, _, _, _, _ => none
  | k + 1, x0, x3, x4, x25 => if x25 = true then (turnspitref05_Print.l0 k x0 x3 (wrap64 (x4 + 1))) else (turnspitref05_Print.l1 k x0 x3 x4 x4 x4)
def turnspitref05_Print.j3 : Nat → Int → ByteArray → Int → Int → Option (ByteArray)
  | 0, _, _, _, _ => none
  | k + 1, x0, x3, x4, x7 => if x3.toList = ([] : List UInt8) then (turnspitref05_Print.j4 k x0 x3 x4 x7) else (if x3.size + 1 ≤ 9223372036854775807 then (turnspitref05_Print.j4 k x0 (x3 ++ (⟨#[44]⟩ : ByteArray)) x4 x7) else (none))
def turnspitref05_Print.j4 : Nat → Int → ByteArray → Int → Int → Option (ByteArray)
  | 0, _, _, _, _ => none
  | k + 1, x0, x3, x4, x7 => (turnspitref05_digits.f k x4).bind fun t123 => (if x3.size + t123.size ≤ 9223372036854775807 then (if x7 > x4 then (if (x3 ++ t123).size + 1 ≤ 9223372036854775807 then ((turnspitref05_digits.f k x7).bind fun t124 => (if ((x3 ++ t123) ++ (⟨#[45]⟩ : ByteArray)).size + t124.size ≤ 9223372036854775807 then (turnspitref05_Print.l0 k x0 (((x3 ++ t123) ++ (⟨#[45]⟩ : ByteArray)) ++ t124) (wrap64 (x4 + 1))) else (none))) else (none)) else (turnspitref05_Print.l0 k x0 (x3 ++ t123) (wrap64 (x4 + 1)))) else (none))
def turnspitref05_Print.l1 : Nat → Int → ByteArray → Int → Int → Int → Option (ByteArray)
  | 0, _, _, _, _, _ => none
  | k + 1, x0, x3, x4, x7, x8 => if x8 < 64 then ((turnspitref04_Has.f k x0 x8).bind fun t122 => (if t122 = true then (turnspitref05_Print.l1 k x0 x3 x4 x8 (wrap64 (x8 + 1))) else (turnspitref05_Print.j3 k x0 x3 x4 x7))) else (turnspitref05_Print.j3 k x0 x3 x4 x7)
end
def turnspitref05_Print.f (k : Nat) (a0 : Int) : Option (ByteArray) := turnspitref05_Print.l0 k a0 (⟨#[]⟩ : ByteArray) 0
theorem turnspitref05_Print.mono_l : ∀ k, (∀ y0 y1 y2, LeO (turnspitref05_Print.l0 k y0 y1 y2) (turnspitref05_Print.l0 (k + 1) y0 y1 y2)) ∧ (∀ y0 y1 y2 y3, LeO (turnspitref05_Print.j1 k y0 y1 y2 y3) (turnspitref05_Print.j1 (k + 1) y0 y1 y2 y3)) ∧ (∀ y0 y1 y2 y3, LeO (turnspitref05_Print.j3 k y0 y1 y2 y3) (turnspitref05_Print.j3 (k + 1) y0 y1 y2 y3)) ∧ (∀ y0 y1 y2 y3, LeO (turnspitref05_Print.j4 k y0 y1 y2 y3) (turnspitref05_Print.j4 (k + 1) y0 y1 y2 y3)) ∧ (∀ y0 y1 y2 y3 y4, LeO (turnspitref05_Print.l1 k y0 y1 y2 y3 y4) (turnspitref05_Print.l1 (k + 1) y0 y1 y2 y3 y4))
  | 0 => ⟨fun _ _ _ r h => by simp [turnspitref05_Print.l0] at h, fun _ _ _ _ r h => by simp [turnspitref05_Print.j1] at h, fun _ _ _ _ r h => by simp [turnspitref05_Print.j3] at h, fun _ _ _ _ r h => by simp [turnspitref05_Print.j4] at h, fun _ _ _ _ _ r h => by simp [turnspitref05_Print.l1] at h⟩
  | k + 1 => by
    obtain ⟨ih0, ih1, ih2, ih3, ih4⟩ := turnspitref05_Print.mono_l k
    refine ⟨?_, ?_, ?_, ?_, ?_⟩
    · intro y0 y1 y2
      unfold turnspitref05_Print.l0
      repeat' first
      | (with_reducible exact ih0 _ _ _)
      | (with_reducible exact ih1 _ _ _ _)
      | (with_reducible exact ih2 _ _ _ _)
      | (with_reducible exact ih3 _ _ _ _)
      | (with_reducible exact ih4 _ _ _ _ _)
      | (with_reducible exact turnspitref04_Has.mono _ _ _)
      | (with_reducible exact turnspitref05_digits.mono _ _)
      | (with_reducible exact LeO.refl _)
      | (with_reducible exact LeO.none _)
      | (with_reducible refine LeO.ite ?_ ?_)
      | (with_reducible refine LeO.bind ?_ (fun _ => ?_))
      | exact ih0 _ _ _
      | exact ih1 _ _ _ _
      | exact ih2 _ _ _ _
      | exact ih3 _ _ _ _
      | exact ih4 _ _ _ _ _
      | exact turnspitref04_Has.mono _ _ _
      | exact turnspitref05_digits.mono _ _
      | exact LeO.none _
      | refine LeO.ite ?_ ?_
      | refine LeO.bind ?_ (fun _ => ?_)
    · intro y0 y1 y2 y3
      unfold turnspitref05_Print.j1
      repeat' first
      | (with_reducible exact ih0 _ _ _)
      | (with_reducible exact ih1 _ _ _ _)
      | (with_reducible exact ih2 _ _ _ _)
      | (with_reducible exact ih3 _ _ _ _)
      | (with_reducible exact ih4 _ _ _ _ _)
      | (with_reducible exact turnspitref04_Has.mono _ _ _)
      | (with_reducible exact turnspitref05_digits.mono _ _)
      | (with_reducible exact LeO.refl _)
      | (with_reducible exact LeO.none _)
      | (with_reducible refine LeO.ite ?_ ?_)
      | (with_reducible refine LeO.bind ?_ (fun _ => ?_))
      | exact ih0 _ _ _
      | exact ih1 _ _ _ _
      | exact ih2 _ _ _ _
      | exact ih3 _ _ _ _
      | exact ih4 _ _ _ _ _
      | exact turnspitref04_Has.mono _ _ _
      | exact turnspitref05_digits.mono _ _
      | exact LeO.none _
      | refine LeO.ite ?_ ?_
      | refine LeO.bind ?_ (fun _ => ?_)
    · intro y0 y1 y2 y3
      unfold turnspitref05_Print.j3
      repeat' first
      | (with_reducible exact ih0 _ _ _)
      | (with_reducible exact ih1 _ _ _ _)
      | (with_reducible exact ih2 _ _ _ _)
      | (with_reducible exact ih3 _ _ _ _)
      | (with_reducible exact ih4 _ _ _ _ _)
      | (with_reducible exact turnspitref04_Has.mono _ _ _)
      | (with_reducible exact turnspitref05_digits.mono _ _)
      | (with_reducible exact LeO.refl _)
      | (with_reducible exact LeO.none _)
      | (with_reducible refine LeO.ite ?_ ?_)
      | (with_reducible refine LeO.bind ?_ (fun _ => ?_))
      | exact ih0 _ _ _
      | exact ih1 _ _ _ _
      | exact ih2 _ _ _ _
      | exact ih3 _ _ _ _
      | exact ih4 _ _ _ _ _
      | exact turnspitref04_Has.mono _ _ _
      | exact turnspitref05_digits.mono _ _
      | exact LeO.none _
      | refine LeO.ite ?_ ?_
      | refine LeO.bind ?_ (fun _ => ?_)
    · intro y0 y1 y2 y3
      unfold turnspitref05_Print.j4
      repeat' first
      | (with_reducible exact ih0 _ _ _)
      | (with_reducible exact ih1 _ _ _ _)
      | (with_reducible exact ih2 _ _ _ _)
      | (with_reducible exact ih3 _ _ _ _)
      | (with_reducible exact ih4 _ _ _ _ _)
      | (with_reducible exact turnspitref04_Has.mono _ _ _)
      | (with_reducible exact turnspitref05_digits.mono _ _)
      | (with_reducible exact LeO.refl _)
      | (with_reducible exact LeO.none _)
      | (with_reducible refine LeO.ite ?_ ?_)
      | (with_reducible refine LeO.bind ?_ (fun _ => ?_))
      | exact ih0 _ _ _
      | exact ih1 _ _ _ _
      | exact ih2 _ _ _ _
      | exact ih3 _ _ _ _
      | exact ih4 _ _ _ _ _
      | exact turnspitref04_Has.mono _ _ _
      | exact turnspitref05_digits.mono _ _
      | exact LeO.none _
      | refine LeO.ite ?_ ?_
      | refine LeO.bind ?_ (fun _ => ?_)
    · intro y0 y1 y2 y3 y4
      unfold turnspitref05_Print.l1
      repeat' first
      | (with_reducible exact ih0 _ _ _)
      | (with_reducible exact ih1 _ _ _ _)
      | (with_reducible exact ih2 _ _ _ _)
      | (with_reducible exact ih3 _ _ _ _)
      | (with_reducible exact ih4 _ _ _ _ _)
      | (with_reducible exact turnspitref04_Has.mono _ _ _)
      | (with_reducible exact turnspitref05_digits.mono _ _)
      | (with_reducible exact LeO.refl _)
      | (with_reducible exact LeO.none _)
      | (with_reducible refine LeO.ite ?_ ?_)
      | (with_reducible refine LeO.bind ?_ (fun _ => ?_))
      | exact ih0 _ _ _
      | exact ih1 _ _ _ _
      | exact ih2 _ _ _ _
      | exact ih3 _ _ _ _
      | exact ih4 _ _ _ _ _
      | exact turnspitref04_Has.mono _ _ _
      | exact turnspitref05_digits.mono _ _
      | exact LeO.none _
      | refine LeO.ite ?_ ?_
      | refine LeO.bind ?_ (fun _ => ?_)
theorem turnspitref05_Print.mono : ∀ a0 k, LeO (turnspitref05_Print.f k a0) (turnspitref05_Print.f (k + 1) a0) := by
  intro a0 k
  obtain ⟨ih0, ih1, ih2, ih3, ih4⟩ := turnspitref05_Print.mono_l k
  unfold turnspitref05_Print.f
  repeat' first
      | (with_reducible exact ih0 _ _ _)
      | (with_reducible exact ih1 _ _ _ _)
      | (with_reducible exact ih2 _ _ _ _)
      | (with_reducible exact ih3 _ _ _ _)
      | (with_reducible exact ih4 _ _ _ _ _)
      | (with_reducible exact turnspitref04_Has.mono _ _ _)
      | (with_reducible exact turnspitref05_digits.mono _ _)
      | (with_reducible exact LeO.refl _)
      | (with_reducible exact LeO.none _)
      | (with_reducible refine LeO.ite ?_ ?_)
      | (with_reducible refine LeO.bind ?_ (fun _ => ?_))
      | exact ih0 _ _ _
      | exact ih1 _ _ _ _
      | exact ih2 _ _ _ _
      | exact ih3 _ _ _ _
      | exact ih4 _ _ _ _ _
      | exact turnspitref04_Has.mono _ _ _
      | exact turnspitref05_digits.mono _ _
      | exact LeO.none _
      | refine LeO.ite ?_ ?_
      | refine LeO.bind ?_ (fun _ => ?_)
set_option maxHeartbeats 8000000 in
set_option maxRecDepth 100000 in
theorem turnspitref05_Print.calls (k : Nat) (a0 : Int) (r : ByteArray) (w : World) (h : turnspitref05_Print.f k a0 = some r) :
    Calls Tryd.prog 43 #[.int .u64 a0] w fun e w' => e = .returned (.string r) ∧ Drawn0 w w' := by
  have H : (turnspitref05_Print.l0 k a0 (⟨#[]⟩ : ByteArray) 0) = some r := h
  clear h
  have H' := Aside0.mk H
  clear H
  go_enter Tryd.func43, Tryd.ntmps43
  go_wp2
  go_loopg [3, 4] k (fun kq v3 v4 w' => ∃ (x3_1 : ByteArray) (x4_1 : Int), v3 = .string x3_1 ∧ v4 = .int .i64 x4_1 ∧ Aside0 (turnspitref05_Print.l0 kq a0 x3_1 x4_1 = some r) ∧ Aside0 (kq ≤ k) ∧ Drawn0 w w')
  case atStart => exact ⟨((⟨#[]⟩ : ByteArray)), (0), (by first | rfl | (simp; done) | (simp [*]; done)), (by first | rfl | (simp; done) | (simp [*]; done)), H', ⟨Nat.le_refl _⟩, by repeat (first | exact Drawn0.refl _ | apply Drawn0.step)⟩
  case round =>
    clear H'
    obtain ⟨x3_1, x4_1, rfl, rfl, HA, HK1, ⟨m1, rfl⟩⟩ := hrel
    cases gk with
    | zero => exact absurd HA.out (by simp [turnspitref05_Print.l0])
    | succ k1 =>
      have H := HA.out
      clear HA
      simp only [turnspitref05_Print.l0] at H
      by_cases c2 : x4_1 < 64
      · rw [if_pos c2] at H
        have c2b0 : decide (x4_1 < 64) = true := decide_eq_true c2
        clear c2
        replace H := Option.bind_eq_some_iff.mp H
        obtain ⟨t120, A30, H⟩ := H
        replace H : ((turnspitref04_Has.f k1 a0 x4_1).bind fun t121 => (if t121 = true then (turnspitref05_Print.j1 k1 a0 x3_1 x4_1 t120) else (turnspitref05_Print.j1 k1 a0 x3_1 x4_1 true))) = some r := H
        have A3 := Aside0.mk A30
        clear A30
        replace H := Option.bind_eq_some_iff.mp H
        obtain ⟨t121, A40, H⟩ := H
        replace H : (if t121 = true then (turnspitref05_Print.j1 k1 a0 x3_1 x4_1 t120) else (turnspitref05_Print.j1 k1 a0 x3_1 x4_1 true)) = some r := H
        have A4 := Aside0.mk A40
        clear A40
        have HC5 := Aside0.mk H
        clear H
        go_upto_region 7 with (first | ((with_reducible refine gate_callee (f := 53) rfl ?_); refine goesL_ (some 17) rfl rfl Tryd.func53 (by kernel_rfl) rfl #[.int .u64 a0, .int .i64 (wrap64 (x4_1 - 1))] rfl (by (try simp only [List.map_toArray, List.map_cons, List.map_nil]); first | done | rfl | (simp only [List.length_drop, List.length_take]; rfl)) ?_; (with_reducible refine (turnspitref04_Has.calls k1 a0 (wrap64 (x4_1 - 1)) t120 _ A3.out).mono ?_); rintro e w' ⟨rfl, ⟨nd, rfl⟩⟩; refine ⟨_, rfl, ?_⟩) | ((with_reducible refine gate_callee (f := 53) rfl ?_); refine goesL_ (some 20) rfl rfl Tryd.func53 (by kernel_rfl) rfl #[.int .u64 a0, .int .i64 x4_1] rfl (by (try simp only [List.map_toArray, List.map_cons, List.map_nil]); first | done | rfl | (simp only [List.length_drop, List.length_take]; rfl)) ?_; (with_reducible refine (turnspitref04_Has.calls k1 a0 x4_1 t121 _ A4.out).mono ?_); rintro e w' ⟨rfl, ⟨nd, rfl⟩⟩; refine ⟨_, rfl, ?_⟩))
        (try simp only [Act.put, List.setIfInBounds_toArray, List.set_cons_zero, List.set_cons_succ])
        go_cut [25] (fun v25 wc => ∃ (kq : Nat) (x25_4 : Bool), v25 = .bool x25_4 ∧ Aside0 (turnspitref05_Print.j1 kq a0 x3_1 x4_1 x25_4 = some r) ∧ Aside0 (kq ≤ k1) ∧ Drawn0 w wc)
        case first =>
          have H := HC5.out
          clear HC5
          by_cases c6 : t121 = true
          · subst c6
            have H1 : (turnspitref05_Print.j1 k1 a0 x3_1 x4_1 t120) = some r := by rw [if_pos rfl] at H; exact H
            clear H
            have H := H1
            clear H1
            have H' := Aside0.mk H
            clear H
            go_wp2
            go_meet
            case rel => exact ⟨_, (t120), (by first | rfl | (simp; done) | (simp [*]; done)), H', ⟨by have := HK1.out; first | omega | exact Nat.le_refl _⟩, by repeat (first | exact Drawn0.refl _ | apply Drawn0.step)⟩
          · replace c6 := Bool.eq_false_iff.mpr c6
            subst c6
            have H1 : (turnspitref05_Print.j1 k1 a0 x3_1 x4_1 true) = some r := by rw [if_neg (show ¬ (false = true) by decide)] at H; exact H
            clear H
            have H := H1
            clear H1
            have H' := Aside0.mk H
            clear H
            go_wp2
            go_meet
            case rel => exact ⟨_, (true), (by first | rfl | (simp; done) | (simp [*]; done)), H', ⟨by have := HK1.out; first | omega | exact Nat.le_refl _⟩, by repeat (first | exact Drawn0.refl _ | apply Drawn0.step)⟩
        case rest =>
          clear HC5
          try clear c2
          try clear c2b0
          try clear p2
          try clear c4
          try clear c5
          try clear c6
          try clear p6
          obtain ⟨kq, x25_4, rfl, HA, HJ4, ⟨mc4, rfl⟩⟩ := hcut
          cases kq with
          | zero => exact absurd HA.out (by simp [turnspitref05_Print.j1])
          | succ kj4 =>
            have H := HA.out
            clear HA
            simp only [turnspitref05_Print.j1] at H
            by_cases c7 : x25_4 = true
            · subst c7
              have H1 : (turnspitref05_Print.l0 kj4 a0 x3_1 (wrap64 (x4_1 + 1))) = some r := by rw [if_pos rfl] at H; exact H
              clear H
              have H := H1
              clear H1
              have H' := Aside0.mk H
              clear H
              go_wp2
              go_roundg kj4
              case measure => have := HK1.out; have := HJ4.out; omega
              case rel => exact ⟨(x3_1), (wrap64 (x4_1 + 1)), (by first | rfl | (simp; done) | (simp [*]; done)), (by first | rfl | (simp; done) | (simp [*]; done)), H', ⟨by have := HK1.out; have := HJ4.out; omega⟩, by repeat (first | exact Drawn0.refl _ | apply Drawn0.step)⟩
            · replace c7 := Bool.eq_false_iff.mpr c7
              subst c7
              have H1 : (turnspitref05_Print.l1 kj4 a0 x3_1 x4_1 x4_1 x4_1) = some r := by rw [if_neg (show ¬ (false = true) by decide)] at H; exact H
              clear H
              have H := H1
              clear H1
              have HC8 := Aside0.mk H
              clear H
              go_upto_block 2 with (fail)
              go_cut [7] (fun v7 wc => ∃ (kq : Nat) (x7_7 : Int), v7 = .int .i64 x7_7 ∧ Aside0 (turnspitref05_Print.j3 kq a0 x3_1 x4_1 x7_7 = some r) ∧ Aside0 (kq ≤ kj4) ∧ Drawn0 w wc)
              case first =>
                have H := HC8.out
                clear HC8
                have H' := Aside0.mk H
                clear H
                go_wp2
                go_loopg [7, 8] kj4 (fun kq v7 v8 w' => ∃ (x7_3 : Int) (x8_3 : Int), v7 = .int .i64 x7_3 ∧ v8 = .int .i64 x8_3 ∧ Aside0 (turnspitref05_Print.l1 kq a0 x3_1 x4_1 x7_3 x8_3 = some r) ∧ Aside0 (kq ≤ kj4) ∧ Drawn0 w w')
                case atStart => exact ⟨(x4_1), (x4_1), (by first | rfl | (simp; done) | (simp [*]; done)), (by first | rfl | (simp; done) | (simp [*]; done)), H', ⟨Nat.le_refl _⟩, by repeat (first | exact Drawn0.refl _ | apply Drawn0.step)⟩
                case round =>
                  clear H'
                  try clear c2
                  try clear c2b0
                  try clear p2
                  try clear c4
                  try clear c5
                  try clear c6
                  try clear p6
                  try clear c7
                  try clear p2
                  try clear p6
                  obtain ⟨x7_3, x8_3, rfl, rfl, HA, HK3, ⟨m3, rfl⟩⟩ := hrel
                  cases gk with
                  | zero => exact absurd HA.out (by simp [turnspitref05_Print.l1])
                  | succ k3 =>
                    have H := HA.out
                    clear HA
                    simp only [turnspitref05_Print.l1] at H
                    by_cases c9 : x8_3 < 64
                    · rw [if_pos c9] at H
                      have c9b0 : decide (x8_3 < 64) = true := decide_eq_true c9
                      clear c9
                      (first | rw [c9b0] | (simp only [i64_w, i32_w]; rw [c9b0]) | skip)
                      replace H := Option.bind_eq_some_iff.mp H
                      obtain ⟨t122, A100, H⟩ := H
                      replace H : (if t122 = true then (turnspitref05_Print.l1 k3 a0 x3_1 x4_1 x8_3 (wrap64 (x8_3 + 1))) else (turnspitref05_Print.j3 k3 a0 x3_1 x4_1 x7_3)) = some r := H
                      have A10 := Aside0.mk A100
                      clear A100
                      by_cases c11 : t122 = true
                      · subst c11
                        have H1 : (turnspitref05_Print.l1 k3 a0 x3_1 x4_1 x8_3 (wrap64 (x8_3 + 1))) = some r := by rw [if_pos rfl] at H; exact H
                        clear H
                        have H := H1
                        clear H1
                        have H' := Aside0.mk H
                        clear H
                        go_wp2_with (first | ((with_reducible refine gate_callee (f := 53) rfl ?_); refine goesL_ (some 34) rfl rfl Tryd.func53 (by kernel_rfl) rfl #[.int .u64 a0, .int .i64 x8_3] rfl (by (try simp only [List.map_toArray, List.map_cons, List.map_nil]); first | done | rfl | (simp only [List.length_drop, List.length_take]; rfl)) ?_; (with_reducible refine (turnspitref04_Has.calls k3 a0 x8_3 true _ A10.out).mono ?_); rintro e w' ⟨rfl, ⟨nd, rfl⟩⟩; refine ⟨_, rfl, ?_⟩))
                        go_roundg k3
                        case measure => have := HK1.out; have := HJ4.out; have := HK3.out; omega
                        case rel => exact ⟨(x8_3), (wrap64 (x8_3 + 1)), (by first | rfl | (simp; done) | (simp [*]; done)), (by first | rfl | (simp; done) | (simp [*]; done)), H', ⟨by have := HK1.out; have := HJ4.out; have := HK3.out; omega⟩, by repeat (first | exact Drawn0.refl _ | apply Drawn0.step)⟩
                      · replace c11 := Bool.eq_false_iff.mpr c11
                        subst c11
                        have H1 : (turnspitref05_Print.j3 k3 a0 x3_1 x4_1 x7_3) = some r := by rw [if_neg (show ¬ (false = true) by decide)] at H; exact H
                        clear H
                        have H := H1
                        clear H1
                        have H' := Aside0.mk H
                        clear H
                        go_wp2_with (first | ((with_reducible refine gate_callee (f := 53) rfl ?_); refine goesL_ (some 34) rfl rfl Tryd.func53 (by kernel_rfl) rfl #[.int .u64 a0, .int .i64 x8_3] rfl (by (try simp only [List.map_toArray, List.map_cons, List.map_nil]); first | done | rfl | (simp only [List.length_drop, List.length_take]; rfl)) ?_; (with_reducible refine (turnspitref04_Has.calls k3 a0 x8_3 false _ A10.out).mono ?_); rintro e w' ⟨rfl, ⟨nd, rfl⟩⟩; refine ⟨_, rfl, ?_⟩))
                        go_meet
                        case rel => exact ⟨_, (x7_3), (by first | rfl | (simp; done) | (simp [*]; done)), H', ⟨by have := HK1.out; have := HJ4.out; have := HK3.out; first | omega | exact Nat.le_refl _⟩, by repeat (first | exact Drawn0.refl _ | apply Drawn0.step)⟩
                    · rw [if_neg c9] at H
                      have c9b0 : decide (x8_3 < 64) = false := decide_eq_false c9
                      clear c9
                      (first | rw [c9b0] | (simp only [i64_w, i32_w]; rw [c9b0]) | skip)
                      have H' := Aside0.mk H
                      clear H
                      go_wp2
                      go_meet
                      case rel => exact ⟨_, (x7_3), (by first | rfl | (simp; done) | (simp [*]; done)), H', ⟨by have := HK1.out; have := HJ4.out; have := HK3.out; first | omega | exact Nat.le_refl _⟩, by repeat (first | exact Drawn0.refl _ | apply Drawn0.step)⟩
              case rest =>
                clear HC8
                try clear c1
                try clear c2
                try clear c2b0
                try clear p2
                try clear c4
                try clear c5
                try clear c6
                try clear p6
                try clear c7
                try clear c9
                try clear c9b0
                try clear c11
                try clear p2
                try clear p6
                obtain ⟨kq, x7_7, rfl, HA, HJ7, ⟨mc7, rfl⟩⟩ := hcut
                cases kq with
                | zero => exact absurd HA.out (by simp [turnspitref05_Print.j3])
                | succ kj7 =>
                  have H := HA.out
                  clear HA
                  simp only [turnspitref05_Print.j3] at H
                  have HC12 := Aside0.mk H
                  clear H
                  go_upto_if 39 with (fail)
                  go_cut [3] (fun v3 wc => ∃ (kq : Nat) (x3_11 : ByteArray), v3 = .string x3_11 ∧ Aside0 (turnspitref05_Print.j4 kq a0 x3_11 x4_1 x7_7 = some r) ∧ Aside0 (kq ≤ kj7) ∧ Drawn0 w wc)
                  case first =>
                    have H := HC12.out
                    clear HC12
                    by_cases c13 : x3_1.toList = ([] : List UInt8)
                    · rw [if_pos c13] at H
                      have c13b0 : (x3_1.toList == ([] : List UInt8)) = true := beq_iff_eq.mpr c13
                      have c13b1 : (x3_1.toList != ([] : List UInt8)) = false := bne_eq_false_iff_eq.mpr c13
                      have c13e0 : x3_1.toList.isEmpty = true := by rw [c13]; rfl
                      have c13e1 : (!x3_1.toList.isEmpty) = false := by rw [c13e0]; rfl
                      clear c13
                      (first | rw [c13b0] | (simp only [i64_w, i32_w]; rw [c13b0]) | skip)
                      have H' := Aside0.mk H
                      clear H
                      go_wp2
                      all_goals (try (exfalso; exact absurd ‹(!x3_1.toList.isEmpty) = true› (by rw [c13e1]; decide)))
                      go_meet
                      case rel => exact ⟨_, (x3_1), (by first | rfl | (simp; done) | (simp [*]; done)), H', ⟨by have := HK1.out; have := HJ4.out; have := HJ7.out; first | omega | exact Nat.le_refl _⟩, by repeat (first | exact Drawn0.refl _ | apply Drawn0.step)⟩
                    · rw [if_neg c13] at H
                      have c13b0 : (x3_1.toList == ([] : List UInt8)) = false := beq_eq_false_iff_ne.mpr c13
                      have c13b1 : (x3_1.toList != ([] : List UInt8)) = true := bne_iff_ne.mpr c13
                      have c13e0 : x3_1.toList.isEmpty = false := by rw [List.isEmpty_eq_false_iff]; exact c13
                      have c13e1 : (!x3_1.toList.isEmpty) = true := by rw [c13e0]; rfl
                      (first | rw [c13b0] | (simp only [i64_w, i32_w]; rw [c13b0]) | skip)
                      by_cases c14 : x3_1.size + 1 ≤ 9223372036854775807
                      · rw [if_pos c14] at H
                        have c14b0 := eq_true c14
                        have c14b1 : decide (x3_1.size + 1 ≤ 9223372036854775807) = true := decide_eq_true c14
                        try have c14b2 : (9223372036854775807 < x3_1.size + 1) = False := eq_false (Nat.not_lt.2 c14)
                        have H' := Aside0.mk H
                        clear H
                        go_wp2
                        all_goals (try (exfalso; exact absurd ‹(!x3_1.toList.isEmpty) = false› (by rw [c13e1]; decide)))
                        go_meet
                        case rel => exact ⟨_, (x3_1 ++ (⟨#[44]⟩ : ByteArray)), (by first | rfl | (simp; done) | (simp [*]; done)), H', ⟨by have := HK1.out; have := HJ4.out; have := HJ7.out; first | omega | exact Nat.le_refl _⟩, by repeat (first | exact Drawn0.refl _ | apply Drawn0.step)⟩
                      · rw [if_neg c14] at H
                        exact absurd H (by simp)
                  case rest =>
                    clear HC12
                    try clear c1
                    try clear c2
                    try clear c2b0
                    try clear p2
                    try clear c4
                    try clear c5
                    try clear c6
                    try clear p6
                    try clear c7
                    try clear c9
                    try clear c9b0
                    try clear c11
                    try clear c13
                    try clear c13b0
                    try clear c13b1
                    try clear c14
                    try clear c14b0
                    try clear c14b1
                    try clear c14b2
                    try clear p2
                    try clear p6
                    obtain ⟨kq, x3_11, rfl, HA, HJ11, ⟨mc11, rfl⟩⟩ := hcut
                    cases kq with
                    | zero => exact absurd HA.out (by simp [turnspitref05_Print.j4])
                    | succ kj11 =>
                      have H := HA.out
                      clear HA
                      simp only [turnspitref05_Print.j4] at H
                      replace H := Option.bind_eq_some_iff.mp H
                      obtain ⟨t123, A150, H⟩ := H
                      replace H : (if x3_11.size + t123.size ≤ 9223372036854775807 then (if x7_7 > x4_1 then (if (x3_11 ++ t123).size + 1 ≤ 9223372036854775807 then ((turnspitref05_digits.f kj11 x7_7).bind fun t124 => (if ((x3_11 ++ t123) ++ (⟨#[45]⟩ : ByteArray)).size + t124.size ≤ 9223372036854775807 then (turnspitref05_Print.l0 kj11 a0 (((x3_11 ++ t123) ++ (⟨#[45]⟩ : ByteArray)) ++ t124) (wrap64 (x4_1 + 1))) else (none))) else (none)) else (turnspitref05_Print.l0 kj11 a0 (x3_11 ++ t123) (wrap64 (x4_1 + 1)))) else (none)) = some r := H
                      have A15 := Aside0.mk A150
                      clear A150
                      by_cases c16 : x3_11.size + t123.size ≤ 9223372036854775807
                      · rw [if_pos c16] at H
                        have c16b0 := eq_true c16
                        have c16b1 : decide (x3_11.size + t123.size ≤ 9223372036854775807) = true := decide_eq_true c16
                        try have c16b2 : (9223372036854775807 < x3_11.size + t123.size) = False := eq_false (Nat.not_lt.2 c16)
                        by_cases c17 : x7_7 > x4_1
                        · rw [if_pos c17] at H
                          have c17b0 : decide (x4_1 < x7_7) = true := decide_eq_true c17
                          clear c17
                          by_cases c18 : (x3_11 ++ t123).size + 1 ≤ 9223372036854775807
                          · rw [if_pos c18] at H
                            have c18b0 := eq_true c18
                            have c18s := c18
                            simp only [ByteArray.size_append, show (⟨#[45]⟩ : ByteArray).size = 1 from rfl] at c18s
                            have c18s0 := eq_true c18s
                            have c18s2 := eq_false (Nat.not_lt.2 c18s)
                            have c18b1 : decide ((x3_11 ++ t123).size + 1 ≤ 9223372036854775807) = true := decide_eq_true c18
                            try have c18b2 : (9223372036854775807 < (x3_11 ++ t123).size + 1) = False := eq_false (Nat.not_lt.2 c18)
                            replace H := Option.bind_eq_some_iff.mp H
                            obtain ⟨t124, A190, H⟩ := H
                            replace H : (if ((x3_11 ++ t123) ++ (⟨#[45]⟩ : ByteArray)).size + t124.size ≤ 9223372036854775807 then (turnspitref05_Print.l0 kj11 a0 (((x3_11 ++ t123) ++ (⟨#[45]⟩ : ByteArray)) ++ t124) (wrap64 (x4_1 + 1))) else (none)) = some r := H
                            have A19 := Aside0.mk A190
                            clear A190
                            by_cases c20 : ((x3_11 ++ t123) ++ (⟨#[45]⟩ : ByteArray)).size + t124.size ≤ 9223372036854775807
                            · rw [if_pos c20] at H
                              have c20b0 := eq_true c20
                              have c20s := c20
                              simp only [ByteArray.size_append, show (⟨#[45]⟩ : ByteArray).size = 1 from rfl] at c20s
                              have c20s0 := eq_true c20s
                              have c20s2 := eq_false (Nat.not_lt.2 c20s)
                              have c20b1 : decide (((x3_11 ++ t123) ++ (⟨#[45]⟩ : ByteArray)).size + t124.size ≤ 9223372036854775807) = true := decide_eq_true c20
                              try have c20b2 : (9223372036854775807 < ((x3_11 ++ t123) ++ (⟨#[45]⟩ : ByteArray)).size + t124.size) = False := eq_false (Nat.not_lt.2 c20)
                              have H' := Aside0.mk H
                              clear H
                              go_wp2_with (first | ((with_reducible refine gate_callee (f := 54) rfl ?_); refine goesL_ (some 44) rfl rfl Tryd.func54 (by kernel_rfl) rfl #[.int .i64 x4_1] rfl (by (try simp only [List.map_toArray, List.map_cons, List.map_nil]); first | done | rfl | (simp only [List.length_drop, List.length_take]; rfl)) ?_; (with_reducible refine (turnspitref05_digits.calls kj11 x4_1 t123 _ A15.out).mono ?_); rintro e w' ⟨rfl, ⟨nd, rfl⟩⟩; refine ⟨_, rfl, ?_⟩) | ((with_reducible refine gate_callee (f := 54) rfl ?_); refine goesL_ (some 52) rfl rfl Tryd.func54 (by kernel_rfl) rfl #[.int .i64 x7_7] rfl (by (try simp only [List.map_toArray, List.map_cons, List.map_nil]); first | done | rfl | (simp only [List.length_drop, List.length_take]; rfl)) ?_; (with_reducible refine (turnspitref05_digits.calls kj11 x7_7 t124 _ A19.out).mono ?_); rintro e w' ⟨rfl, ⟨nd, rfl⟩⟩; refine ⟨_, rfl, ?_⟩))
                              go_roundg kj11
                              case measure => have := HK1.out; have := HJ4.out; have := HJ7.out; have := HJ11.out; omega
                              case rel => exact ⟨(((x3_11 ++ t123) ++ (⟨#[45]⟩ : ByteArray)) ++ t124), (wrap64 (x4_1 + 1)), (by first | rfl | (simp; done) | (simp [*]; done)), (by first | rfl | (simp; done) | (simp [*]; done)), H', ⟨by have := HK1.out; have := HJ4.out; have := HJ7.out; have := HJ11.out; omega⟩, by repeat (first | exact Drawn0.refl _ | apply Drawn0.step)⟩
                            · rw [if_neg c20] at H
                              exact absurd H (by simp)
                          · rw [if_neg c18] at H
                            exact absurd H (by simp)
                        · rw [if_neg c17] at H
                          have c17b0 : decide (x4_1 < x7_7) = false := decide_eq_false c17
                          clear c17
                          have H' := Aside0.mk H
                          clear H
                          go_wp2_with (first | ((with_reducible refine gate_callee (f := 54) rfl ?_); refine goesL_ (some 44) rfl rfl Tryd.func54 (by kernel_rfl) rfl #[.int .i64 x4_1] rfl (by (try simp only [List.map_toArray, List.map_cons, List.map_nil]); first | done | rfl | (simp only [List.length_drop, List.length_take]; rfl)) ?_; (with_reducible refine (turnspitref05_digits.calls kj11 x4_1 t123 _ A15.out).mono ?_); rintro e w' ⟨rfl, ⟨nd, rfl⟩⟩; refine ⟨_, rfl, ?_⟩))
                          go_roundg kj11
                          case measure => have := HK1.out; have := HJ4.out; have := HJ7.out; have := HJ11.out; omega
                          case rel => exact ⟨(x3_11 ++ t123), (wrap64 (x4_1 + 1)), (by first | rfl | (simp; done) | (simp [*]; done)), (by first | rfl | (simp; done) | (simp [*]; done)), H', ⟨by have := HK1.out; have := HJ4.out; have := HJ7.out; have := HJ11.out; omega⟩, by repeat (first | exact Drawn0.refl _ | apply Drawn0.step)⟩
                      · rw [if_neg c16] at H
                        exact absurd H (by simp)
      · rw [if_neg c2] at H
        have c2b0 : decide (x4_1 < 64) = false := decide_eq_false c2
        clear c2
        by_cases c21 : x3_1.toList = ([] : List UInt8)
        · rw [if_pos c21] at H
          have c21b0 : (x3_1.toList == ([] : List UInt8)) = true := beq_iff_eq.mpr c21
          have c21b1 : (x3_1.toList != ([] : List UInt8)) = false := bne_eq_false_iff_eq.mpr c21
          have c21e0 : x3_1.toList.isEmpty = true := by rw [c21]; rfl
          have c21e1 : (!x3_1.toList.isEmpty) = false := by rw [c21e0]; rfl
          clear c21
          obtain rfl := Option.some.inj H
          go_wp2
          all_goals (try (exfalso; exact absurd ‹(!x3_1.toList.isEmpty) = true› (by rw [c21e1]; decide)))
          go_ret
          exact ⟨by first | rfl | (simp; done) | (simp [*]; done), by repeat (first | exact Drawn0.refl _ | apply Drawn0.step)⟩
        · rw [if_neg c21] at H
          have c21b0 : (x3_1.toList == ([] : List UInt8)) = false := beq_eq_false_iff_ne.mpr c21
          have c21b1 : (x3_1.toList != ([] : List UInt8)) = true := bne_iff_ne.mpr c21
          have c21e0 : x3_1.toList.isEmpty = false := by rw [List.isEmpty_eq_false_iff]; exact c21
          have c21e1 : (!x3_1.toList.isEmpty) = true := by rw [c21e0]; rfl
          obtain rfl := Option.some.inj H
          go_wp2
          all_goals (try (exfalso; exact absurd ‹(!x3_1.toList.isEmpty) = false› (by rw [c21e1]; decide)))
          go_ret
          exact ⟨by first | rfl | (simp; done) | (simp [*]; done), by repeat (first | exact Drawn0.refl _ | apply Drawn0.step)⟩

end Go.Proofs.YtilmbpdfdickoaaDoor.Print

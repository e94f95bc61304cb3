-- Written for this claim by a program out of the translation. Lean checks it.
import Derived.Test.YtdchbcpfciljoaaDoorPrint0
namespace Go.Proofs.YtdchbcpfciljoaaDoor.Print
open Go.RowKit Go.Proofs.YtdchbcpfciljoaaDoor Go.Proofs.YtdchbcpfciljoaaDoor.Given Go.Proofs.YtdchbcpfciljoaaDoorW.PrintWords Go.Proofs.YtdchbcpfciljoaaDoorW.PrintLast Go.Proofs.YtdchbcpfciljoaaDoorW.PrintMore
attribute [local go_sem] max2_int min2_int max_two min_two max_three min_three max_four min_four   -- for this text's walks alone
set_option linter.unusedVariables false
set_option linter.unusedSimpArgs false

/-! ### turnspitref06_May: function 65 -/
def turnspitref06_May.f (a0_0 : Int) (a0_1 : Int) (a0_2 : Bool) (a0_3 : Int) (a0_4 : Int) : Option (Bool) := if a0_0 < 0 then (some false) else (if a0_0 > 7 then (some false) else (if a0_1 < 0 then (some false) else (if a0_1 > 63 then (some false) else (if a0_3 < 0 then (some false) else (if a0_3 > 65535 then (some false) else (if a0_4 < 0 then (some false) else (if a0_4 > 4294967295 then (some false) else (if a0_2 = true then (some (a0_0 == 7)) else (some true)))))))))
set_option maxHeartbeats 8000000 in
set_option maxRecDepth 100000 in
theorem turnspitref06_May.calls (a0_0 : Int) (a0_1 : Int) (a0_2 : Bool) (a0_3 : Int) (a0_4 : Int) (r : Bool) (w : World) (HLd : Ld w) (h : turnspitref06_May.f a0_0 a0_1 a0_2 a0_3 a0_4 = some r) :
    Calls Tryd.prog 65 #[.agg #[.int .i64 a0_0, .int .i64 a0_1, .bool a0_2, .int .i64 a0_3, .int .i64 a0_4]] w fun e w' => e = .returned (.bool r) ∧ Below w.heap.size w w' := by
  have hu77 := Tryd.underlying77
  have HB := Aside0.mk (Below.refl w.heap.size w)
  have H : (if a0_0 < 0 then (some false) else (if a0_0 > 7 then (some false) else (if a0_1 < 0 then (some false) else (if a0_1 > 63 then (some false) else (if a0_3 < 0 then (some false) else (if a0_3 > 65535 then (some false) else (if a0_4 < 0 then (some false) else (if a0_4 > 4294967295 then (some false) else (if a0_2 = true then (some (a0_0 == 7)) else (some true)))))))))) = some r := h
  clear h
  by_cases c2 : a0_0 < 0
  · rw [if_pos c2] at H
    have c2b0 : decide (a0_0 < 0) = true := decide_eq_true c2
    clear c2
    obtain rfl := Option.some.inj H
    go_enter Tryd.func65, Tryd.ntmps65
    go_wp2_with fail
    go_ret
    exact ⟨by first | rfl | simp [*], by repeat (first | exact HB.out | apply below_alloc)⟩
  · rw [if_neg c2] at H
    have c2b0 : decide (a0_0 < 0) = false := decide_eq_false c2
    clear c2
    by_cases c5 : a0_0 > 7
    · rw [if_pos c5] at H
      have c5b0 : decide (7 < a0_0) = true := decide_eq_true c5
      clear c5
      obtain rfl := Option.some.inj H
      go_enter Tryd.func65, Tryd.ntmps65
      go_wp2_with fail
      go_ret
      exact ⟨by first | rfl | simp [*], by repeat (first | exact HB.out | apply below_alloc)⟩
    · rw [if_neg c5] at H
      have c5b0 : decide (7 < a0_0) = false := decide_eq_false c5
      clear c5
      by_cases c8 : a0_1 < 0
      · rw [if_pos c8] at H
        have c8b0 : decide (a0_1 < 0) = true := decide_eq_true c8
        clear c8
        obtain rfl := Option.some.inj H
        go_enter Tryd.func65, Tryd.ntmps65
        go_wp2_with fail
        go_ret
        exact ⟨by first | rfl | simp [*], by repeat (first | exact HB.out | apply below_alloc)⟩
      · rw [if_neg c8] at H
        have c8b0 : decide (a0_1 < 0) = false := decide_eq_false c8
        clear c8
        by_cases c11 : a0_1 > 63
        · rw [if_pos c11] at H
          have c11b0 : decide (63 < a0_1) = true := decide_eq_true c11
          clear c11
          obtain rfl := Option.some.inj H
          go_enter Tryd.func65, Tryd.ntmps65
          go_wp2_with fail
          go_ret
          exact ⟨by first | rfl | simp [*], by repeat (first | exact HB.out | apply below_alloc)⟩
        · rw [if_neg c11] at H
          have c11b0 : decide (63 < a0_1) = false := decide_eq_false c11
          clear c11
          by_cases c14 : a0_3 < 0
          · rw [if_pos c14] at H
            have c14b0 : decide (a0_3 < 0) = true := decide_eq_true c14
            clear c14
            obtain rfl := Option.some.inj H
            go_enter Tryd.func65, Tryd.ntmps65
            go_wp2_with fail
            go_ret
            exact ⟨by first | rfl | simp [*], by repeat (first | exact HB.out | apply below_alloc)⟩
          · rw [if_neg c14] at H
            have c14b0 : decide (a0_3 < 0) = false := decide_eq_false c14
            clear c14
            by_cases c17 : a0_3 > 65535
            · rw [if_pos c17] at H
              have c17b0 : decide (65535 < a0_3) = true := decide_eq_true c17
              clear c17
              obtain rfl := Option.some.inj H
              go_enter Tryd.func65, Tryd.ntmps65
              go_wp2_with fail
              go_ret
              exact ⟨by first | rfl | simp [*], by repeat (first | exact HB.out | apply below_alloc)⟩
            · rw [if_neg c17] at H
              have c17b0 : decide (65535 < a0_3) = false := decide_eq_false c17
              clear c17
              by_cases c20 : a0_4 < 0
              · rw [if_pos c20] at H
                have c20b0 : decide (a0_4 < 0) = true := decide_eq_true c20
                clear c20
                obtain rfl := Option.some.inj H
                go_enter Tryd.func65, Tryd.ntmps65
                go_wp2_with fail
                go_ret
                exact ⟨by first | rfl | simp [*], by repeat (first | exact HB.out | apply below_alloc)⟩
              · rw [if_neg c20] at H
                have c20b0 : decide (a0_4 < 0) = false := decide_eq_false c20
                clear c20
                by_cases c23 : a0_4 > 4294967295
                · rw [if_pos c23] at H
                  have c23b0 : decide (4294967295 < a0_4) = true := decide_eq_true c23
                  clear c23
                  obtain rfl := Option.some.inj H
                  go_enter Tryd.func65, Tryd.ntmps65
                  go_wp2_with fail
                  go_ret
                  exact ⟨by first | rfl | simp [*], by repeat (first | exact HB.out | apply below_alloc)⟩
                · rw [if_neg c23] at H
                  have c23b0 : decide (4294967295 < a0_4) = false := decide_eq_false c23
                  clear c23
                  by_cases c26 : a0_2 = true
                  · subst c26
                    have H1 : (some (a0_0 == 7)) = some r := by rw [if_pos rfl] at H; exact H
                    clear H
                    have H := H1
                    clear H1
                    obtain rfl := Option.some.inj H
                    go_enter Tryd.func65, Tryd.ntmps65
                    go_wp2_with fail
                    go_ret
                    exact ⟨by first | rfl | simp [*], by repeat (first | exact HB.out | apply below_alloc)⟩
                  · replace c26 := Bool.eq_false_iff.mpr c26
                    subst c26
                    have H1 : (some true) = some r := by rw [if_neg (show ¬ (false = true) by decide)] at H; exact H
                    clear H
                    have H := H1
                    clear H1
                    obtain rfl := Option.some.inj H
                    go_enter Tryd.func65, Tryd.ntmps65
                    go_wp2_with fail
                    go_ret
                    exact ⟨by first | rfl | simp [*], by repeat (first | exact HB.out | apply below_alloc)⟩

end Go.Proofs.YtdchbcpfciljoaaDoor.Print

/- MaskOf: the walk. -/
import Derived.Test.YtdghjigeddphaaaGA
namespace Go.Proofs.Ytdghjigeddphaaa
open Go.RowKit Go.Proofs.Ytdghjigeddphaaa.Given Go.Proofs.Ytdghjigeddphaaa.Print Go.Proofs.Ytdghjigeddphaaa.Pure Go.Proofs.YtdghjigeddphaaaW.PrintWords
set_option linter.unusedVariables false
set_option linter.unusedSimpArgs false
set_option maxHeartbeats 4000000 in
set_option maxRecDepth 100000 in
theorem of_many (A0 : Option Addr) (c0 : Nat) (l0 : List Int) (n : Int) (w : World) (hl : l0.length ≤ 9223372036854775806) (h : decide (100 < (l0.length : Int)) = true) :
    Calls Try.prog 4 #[.slice A0 l0.length c0, .int .i64 n] w fun e w' => e = .returned (.bool true) ∧ Below w.heap.size w w' := by
  go_enter Try.func4, Try.ntmps4
  go_wp2_with fail
  refine (turnspitlaw04_awake.calls true _ rfl).mono ?_
  rintro e w1 ⟨rfl, hb⟩
  have HB1 := Aside0.mk (below_step (Below.refl w.heap.size w) hb)
  clear hb
  go_wp2_with fail
  go_ret
  exact ⟨rfl, by repeat (first | exact HB1.out | apply below_alloc | apply pw_below_drewN)⟩
set_option maxHeartbeats 4000000 in
set_option maxRecDepth 100000 in
theorem of_few (A0 : Option Addr) (c0 : Nat) (l0 : List Int) (n a e v : Int) (k : Nat) (w : World) (hr : Kd.C (Kd.int .i64) w A0 l0.length l0) (hc : l0.length ≤ c0) (hl : l0.length ≤ 9223372036854775806) (h : decide (100 < (l0.length : Int)) = false)
    (s1 : mask_Of.f l0 = some (a, e)) (s2 : turnspitref04_Of.f k l0 = some (a, e)) (s3 : mask_All.f n = some v) (s4 : turnspitref04_All.f k n = some v) :
    Calls Try.prog 4 #[.slice A0 l0.length c0, .int .i64 n] w fun e w' => e = .returned (.bool true) ∧ Below w.heap.size w w' := by
  have S1 := Aside0.mk s1
  clear s1
  have S2 := Aside0.mk s2
  clear s2
  have S3 := Aside0.mk s3
  clear s3
  have S4 := Aside0.mk s4
  clear s4
  have HR := Aside0.mk hr
  clear hr
  have HC := Aside0.mk hc
  clear hc
  go_enter Try.func4, Try.ntmps4
  go_wp2_with fail
  refine (mask_Of.calls A0 c0 l0 a e _ HR.out HC.out S1.out).mono ?_
  rintro e w1 ⟨rfl, hw⟩
  have hb := below_of_eq hw
  clear hw
  have HB1 := Aside0.mk (below_step (Below.refl w.heap.size w) hb)
  have HR_ := Aside0.mk (Kd.C_below HR.out hb)
  clear HR
  have HR := HR_
  clear HR_
  clear hb
  go_wp2_with fail
  refine (turnspitref04_Of.calls k A0 c0 l0 a e _ HR.out HC.out S2.out).mono ?_
  rintro e w2 ⟨rfl, hd⟩
  have hb := Drawn0.below hd
  clear hd
  have HB2 := Aside0.mk (below_step HB1.out hb)
  have HR_ := Aside0.mk (Kd.C_below HR.out hb)
  clear HR
  have HR := HR_
  clear HR_
  clear hb
  go_wp2_with fail
  refine (turnspitlaw04_awake.calls true _ rfl).mono ?_
  rintro e w3 ⟨rfl, hb⟩
  have HB3 := Aside0.mk (below_step HB2.out hb)
  have HR_ := Aside0.mk (Kd.C_below HR.out hb)
  clear HR
  have HR := HR_
  clear HR_
  clear hb
  go_wp2_with fail
  refine (mask_All.calls n v _ S3.out).mono ?_
  rintro e w4 ⟨rfl, hd⟩
  have hb := Drawn0.below hd
  clear hd
  have HB4 := Aside0.mk (below_step HB3.out hb)
  have HR_ := Aside0.mk (Kd.C_below HR.out hb)
  clear HR
  have HR := HR_
  clear HR_
  clear hb
  go_wp2_with fail
  refine (turnspitref04_All.calls k n v _ S4.out).mono ?_
  rintro e w5 ⟨rfl, hd⟩
  have hb := Drawn0.below hd
  clear hd
  have HB5 := Aside0.mk (below_step HB4.out hb)
  have HR_ := Aside0.mk (Kd.C_below HR.out hb)
  clear HR
  have HR := HR_
  clear HR_
  clear hb
  go_wp2_with fail
  go_ret
  exact ⟨rfl, by repeat (first | exact HB5.out | apply below_alloc | apply pw_below_drewN)⟩
theorem Walk.MaskOf (A0 : Option Addr) (c0 : Nat) (l0 : List Int) (n : Int) (hn : (Lit.int .i64 n).wf = true) (w : World) (hr : Kd.C (Kd.int .i64) w A0 l0.length l0) (hc : l0.length ≤ c0) (hl : l0.length ≤ 9223372036854775806) :
    Calls Try.prog 4 #[.slice A0 l0.length c0, .int .i64 n] w fun e w' => e = .returned (.bool true) ∧ Below w.heap.size w w' := by
  by_cases h : 100 < (l0.length : Int)
  · exact of_many A0 c0 l0 n w hl (decide_eq_true h)
  · have s1 := of_f l0 hl
    have s2 := of_r l0 (200 + l0.length) hl (by omega)
    cases ha : l0.any oddB
    · rw [ha, if_neg (by decide)] at s1 s2
      exact of_few A0 c0 l0 n _ _ _ _ w hr hc hl (decide_eq_false h) s1 s2 (all_f n) (all_r n _ (by omega))
    · rw [ha, if_pos rfl] at s1 s2
      exact of_few A0 c0 l0 n _ _ _ _ w hr hc hl (decide_eq_false h) s1 s2 (all_f n) (all_r n _ (by omega))
end Go.Proofs.Ytdghjigeddphaaa

/- SpreadLoads: plain. -/
import Derived.Test.YtkhdfbmkikiapaaPureBase
import Derived.Test.YtkhdfbmkikiapaaPrintF4
namespace Go.Proofs.Ytkhdfbmkikiapaa
set_option linter.unusedVariables false
set_option linter.unusedSimpArgs false
open Go.RowKit Go.Proofs.Ytkhdfbmkikiapaa.Given Go.Proofs.Ytkhdfbmkikiapaa.Print Go.Proofs.YtkhdfbmkikiapaaW.PrintWords Go.Proofs.Ytkhdfbmkikiapaa.Pure
theorem Pure.SpreadLoads (l : List Int) (but : Int) (hl : l.length ≤ 9223372036854775806) : turnspitlaw13_SpreadLoads.f 1000 l but = some true := by
  unfold turnspitlaw13_SpreadLoads.f
  rw [awake_true]
  by_cases h : (l.length : Int) > 100
  · rw [if_pos h]; rfl
  · rw [if_neg h, busiest_f l but 1000 hl (by omega), refBusiest_f l but 1000 hl (by omega), idlest_f l but 1000 hl (by omega), refIdlest_f l but 1000 hl (by omega)]
    simp
theorem Walk.SpreadLoads (A0 : Option Addr) (c0 : Nat) (l0 : List Int) (but : Int) (hb : (Lit.int .i64 but).wf = true) (w : World) (hr : Kd.C (Kd.int .i64) w A0 l0.length l0) (hc : l0.length ≤ c0) (hl : l0.length ≤ 9223372036854775806) :
    Calls Try.prog 4 #[.slice A0 l0.length c0, .int .i64 but] w fun e w' => e = .returned (.bool true) ∧ Below w.heap.size w w' :=
  turnspitlaw13_SpreadLoads.calls 1000 A0 c0 l0 but true w hr hc (Pure.SpreadLoads l0 but hl)
end Go.Proofs.Ytkhdfbmkikiapaa

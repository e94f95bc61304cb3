/- TableTells: plain. -/
import Derived.Test.YtdchbcpfciljoaaDoorPrintF3
namespace Go.Proofs.YtdchbcpfciljoaaDoor
set_option linter.unusedVariables false
set_option linter.unusedSimpArgs false
open Go.RowKit Go.Proofs.YtdchbcpfciljoaaDoor.Given Go.Proofs.YtdchbcpfciljoaaDoor.Print Go.Proofs.YtdchbcpfciljoaaDoorW.PrintWords
theorem Walk.TableTells (A0 : Option Addr) (c0 : Nat) (l0 : List Int) (A1 : Option Addr) (c1 : Nat) (l1 : List S52) (a2 a3 a4 a5 a6 a7 : Int) (w : World) (HLd : Ld w) (hr0 : Kd.C (Kd.int .u64) w A0 l0.length l0) (hc0 : l0.length ≤ c0) (hU : ∀ x ∈ l0, 0 ≤ x ∧ x < 18446744073709551616) (hr1 : Kd.C k52 w A1 l1.length l1) (hc1 : l1.length ≤ c1) (w6 : (Lit.int .u64 a6).wf = true) (w7 : (Lit.int .i64 a7).wf = true) :
    Calls Tryd.prog 3 #[.agg #[.slice A0 l0.length c0, .slice A1 l1.length c1, .int .i64 a2, .int .i64 a3, .int .i64 a4, .int .i64 a5, .int .u64 a6, .int .i64 a7]] w fun e w' => e = .returned (.bool true) ∧ Below w.heap.size w w' := by
  refine turnspitlaw14_TableTells.calls A0 c0 l0 A1 c1 l1 a2 a3 a4 a5 a6 a7 true w hr0 hc0 hr1 hc1 HLd ?_
  have h6 : 0 ≤ a6 ∧ a6 < 18446744073709551616 := by
    simp [Lit.wf, IntKind.min, IntKind.max, IntKind.signed, IntKind.bits] at w6
    omega
  unfold turnspitlaw14_TableTells.f turnspitlaw14_awake.f
  rw [Option.bind_some, if_pos rfl]
  by_cases h1 : (l0.length : Int) > 70
  · rw [if_pos h1]
  · rw [if_neg h1]
    by_cases h2 : (l1.length : Int) > 70
    · rw [if_pos h2]
    · rw [if_neg h2]
      unfold turnspitlaw14_told.f
      rw [if_pos ⟨by omega, by omega, hU, h6, w7⟩]
      rfl
end Go.Proofs.YtdchbcpfciljoaaDoor

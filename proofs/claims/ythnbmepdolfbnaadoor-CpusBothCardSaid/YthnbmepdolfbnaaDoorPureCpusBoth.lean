/- CpusBoth: plain. -/
import Derived.Test.YthnbmepdolfbnaaDoorPureCpus
import Derived.Test.YthnbmepdolfbnaaDoorPrintF6
namespace Go.Proofs.YthnbmepdolfbnaaDoor
set_option linter.unusedVariables false
set_option linter.unusedSimpArgs false
set_option maxRecDepth 100000
open Go.RowKit Go.Proofs.YthnbmepdolfbnaaDoor.Given Go.Proofs.YthnbmepdolfbnaaDoor.Print Go.Proofs.YthnbmepdolfbnaaDoor.Pure Go.Proofs.YthnbmepdolfbnaaDoorW.PrintWords Go.Proofs.YthnbmepdolfbnaaDoorW.PrintLast Go.Proofs.YthnbmepdolfbnaaDoorW.PrintMore
theorem both_parse (A B : Nat) (hA : A < 2 ^ 64) (hB : B < 2 ^ 64) (h0 : A ≠ 0) (h1 : B ≠ 0) : parseS (txt A 64 ++ 44 :: txt B 64) = (((A ||| B : Nat) : Int), 0) := by
  have l0 := printL_len A hA
  have l1 := printL_len B hB
  rw [show printL A = txt A 64 from if_neg h0] at l0
  rw [show printL B = txt B 64 from if_neg h1] at l1
  unfold parseS
  rw [if_neg (by rw [List.length_append, List.length_cons]; omega), if_neg, parse_both A B hA hB h0 h1]
  intro e
  have := congrArg List.length e
  have hn := txt_ne A hA h0
  have : 1 ≤ (txt A 64).length := List.length_pos_iff.2 hn
  simp at *
  omega
theorem Walk.CpusBoth (a0 : Int) (w0 : (Lit.int .u64 a0).wf = true) (a1 : Int) (w1 : (Lit.int .u64 a1).wf = true) (w : World) (HLd : True) :
    Calls Tryd.prog 6 #[.int .u64 a0, .int .u64 a1] w fun e w' => e = .returned (.bool true) ∧ Below w.heap.size w w' := by
  obtain ⟨A, rfl, hA⟩ := of_u64 w0
  obtain ⟨B, rfl, hB⟩ := of_u64 w1
  refine turnspitlaw05_CpusBoth.calls 10 _ _ true w ?_
  have hj : ∀ b : Bool, (b = false → A ≠ 0 ∧ B ≠ 0) → turnspitlaw05_CpusBoth.j0 10 (A : Int) (B : Int) true b = some true := by
    intro b hb
    rw [turnspitlaw05_CpusBoth.j0]
    cases b with
    | true => rw [if_pos rfl]
    | false =>
      obtain ⟨h0, h1⟩ := hb rfl
      have l0 := printL_len A hA
      have l1 := printL_len B hB
      have e0 : printL A = txt A 64 := if_neg h0
      have e1 : printL B = txt B 64 := if_neg h1
      rw [e0] at l0
      rw [e1] at l1
      rw [if_neg Bool.false_ne_true, pr_f A hA, Option.bind_some, pr_f B hB, Option.bind_some, e0, e1, show (⟨#[44]⟩ : ByteArray) = ba [44] from rfl, ba_app, ba_app, ba_app, ba_app, ba_size, ba_size, ba_size, ba_size]
      have f0 : (txt A 64 ++ [44]) ++ txt B 64 = txt A 64 ++ 44 :: txt B 64 := by rw [List.append_assoc]; rfl
      have f1 : (txt B 64 ++ [44]) ++ txt A 64 = txt B 64 ++ 44 :: txt A 64 := by rw [List.append_assoc]; rfl
      rw [if_pos (by omega), if_pos (by rw [List.length_append, List.length_singleton]; omega), f0, pa_f _ (by rw [List.length_append, List.length_cons]; omega), both_parse A B hA hB h0 h1, Option.bind_some]
      rw [if_pos (by omega), if_pos (by rw [List.length_append, List.length_singleton]; omega), f1, pa_f _ (by rw [List.length_append, List.length_cons]; omega), both_parse B A hB hA h1 h0, Option.bind_some, if_pos rfl]
      rw [if_pos (bits_or_u64_nat A B (by omega) (by omega)).symm, if_pos rfl, if_pos (by rw [Nat.or_comm])]
      rfl
  unfold turnspitlaw05_CpusBoth.f
  rw [awake_f, Option.bind_some, if_pos rfl]
  split
  · exact hj true (fun h => by cases h)
  · rename_i h0
    refine hj _ (fun h => ?_)
    have := beq_eq_false_iff_ne.1 h
    exact ⟨by omega, by omega⟩
end Go.Proofs.YthnbmepdolfbnaaDoor

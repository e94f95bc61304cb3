/- TableNew: plain. -/
import Derived.Test.YtdchbcpfciljoaaDoorPureSame
import Derived.Test.YtdchbcpfciljoaaDoorPrintF4
namespace Go.Proofs.YtdchbcpfciljoaaDoor
set_option linter.unusedVariables false
set_option linter.unusedSimpArgs false
open Go.RowKit Go.Proofs.YtdchbcpfciljoaaDoor.Given Go.Proofs.YtdchbcpfciljoaaDoor.Print Go.Proofs.YtdchbcpfciljoaaDoor.Pure Go.Proofs.YtdchbcpfciljoaaDoorW.PrintWords
theorem Walk.TableNew (n : Int) (hn : (Lit.int .i64 n).wf = true) (w : World) (HLd : Ld w) :
    Calls Tryd.prog 4 #[.int .i64 n] w fun e w' => e = .returned (.bool true) ∧ Below w.heap.size w w' := by
  refine turnspitlaw14_TableNew.calls 200 n true w HLd ?_
  have e : turnspitref14_New.f n = table_New.f n := rfl
  have hs : ∃ a b x, table_New.f n = some (a, b, x) ∧ a.length ≤ 64 ∧ b.length ≤ 64 := by
    unfold table_New.f
    split
    · exact ⟨_, _, _, rfl, by simp, by simp⟩
    · split
      · exact ⟨_, _, _, rfl, by simp, by simp⟩
      · rw [if_pos (by omega), if_pos (by omega), if_pos (by omega)]
        exact ⟨_, _, _, rfl, by simp; omega, by simp; omega⟩
  obtain ⟨a, b, x, h, ha, hb⟩ := hs
  unfold turnspitlaw14_TableNew.f turnspitlaw14_awake.f
  rw [e, h]
  simp only [Option.bind_some, if_true]
  rw [same_f a b (by omega) (by omega) 200 (by omega), Option.bind_some, if_pos rfl, beq_self_eq_true]
end Go.Proofs.YtdchbcpfciljoaaDoor

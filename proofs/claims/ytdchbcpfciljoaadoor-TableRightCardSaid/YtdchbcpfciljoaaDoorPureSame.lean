/- Plain: a table is the same as itself. -/
import Derived.Test.YtdchbcpfciljoaaDoorPrintF14
namespace Go.Proofs.YtdchbcpfciljoaaDoor.Pure
open Go.RowKit Go.Proofs.YtdchbcpfciljoaaDoor Go.Proofs.YtdchbcpfciljoaaDoor.Given Go.Proofs.YtdchbcpfciljoaaDoor.Print Go.Proofs.YtdchbcpfciljoaaDoorW.PrintWords
set_option linter.unusedVariables false
set_option linter.unusedSimpArgs false
theorem wrap_nat (i n : Nat) (hi : i < n) (hn : n ≤ 1000000) : wrap64 ((i : Int) + 1) = ((i + 1 : Nat) : Int) := by unfold wrap64; omega
/-! Same, Handles -/
theorem same_l1 (a : List Int) (b : List S52) (c : List Int) (hb : b.length ≤ 1000) : ∀ d i k : Nat, i + d = b.length → d < k → turnspitref14_Same.l1 k (i : Int) a b c b = some true := by
  intro d
  induction d with
  | zero =>
    intro i k hi hk
    obtain ⟨k, rfl⟩ : ∃ m, k = m + 1 := ⟨k - 1, by omega⟩
    rw [turnspitref14_Same.l1, if_neg (by omega)]
  | succ d ih =>
    intro i k hi hk
    obtain ⟨k, rfl⟩ : ∃ m, k = m + 1 := ⟨k - 1, by omega⟩
    rw [turnspitref14_Same.l1, if_pos (by omega), if_pos (by omega), if_pos (by omega), if_neg (by simp), wrap_nat i b.length (by omega) (by omega)]
    exact ih (i + 1) k (by omega) (by omega)
theorem same_l0 (a : List Int) (b : List S52) (ha : a.length ≤ 1000) (hb : b.length ≤ 1000) : ∀ d i k : Nat, i + d = a.length → d + b.length + 1 < k → turnspitref14_Same.l0 k (i : Int) a b a b = some true := by
  intro d
  induction d with
  | zero =>
    intro i k hi hk
    obtain ⟨k, rfl⟩ : ∃ m, k = m + 1 := ⟨k - 1, by omega⟩
    rw [turnspitref14_Same.l0, if_neg (by omega)]
    exact same_l1 a b a hb b.length 0 k (by omega) (by omega)
  | succ d ih =>
    intro i k hi hk
    obtain ⟨k, rfl⟩ : ∃ m, k = m + 1 := ⟨k - 1, by omega⟩
    rw [turnspitref14_Same.l0, if_pos (by omega), if_pos (by omega), if_pos (by omega), if_pos rfl, wrap_nat i a.length (by omega) (by omega)]
    exact ih (i + 1) k (by omega) (by omega)
theorem same_f (a : List Int) (b : List S52) (ha : a.length ≤ 1000) (hb : b.length ≤ 1000) (k : Nat) (hk : a.length + b.length + 2 < k) : turnspitref14_Same.f k a b a b = some true := by
  obtain ⟨k, rfl⟩ : ∃ m, k = m + 1 := ⟨k - 1, by omega⟩
  unfold turnspitref14_Same.f
  rw [if_pos rfl, bne_self_eq_false, turnspitref14_Same.j0, if_neg Bool.false_ne_true]
  exact same_l0 a b ha hb a.length 0 k (by omega) (by omega)
end Go.Proofs.YtdchbcpfciljoaaDoor.Pure

/- The first free slot, and who is live: plain. -/
import Derived.Test.YtdchbcpfciljoaaDoorPureMade
import Derived.Test.YtdchbcpfciljoaaDoorPrintF25
namespace Go.Proofs.YtdchbcpfciljoaaDoor.Pure
open Go.RowKit Go.Proofs.YtdchbcpfciljoaaDoor Go.Proofs.YtdchbcpfciljoaaDoor.Given Go.Proofs.YtdchbcpfciljoaaDoor.Print Go.Proofs.YtdchbcpfciljoaaDoorW.PrintWords
set_option linter.unusedVariables false
set_option linter.unusedSimpArgs false
set_option maxRecDepth 100000
theorem rmay_f (x : Int) (hx : u64 x) (k : Nat) (hk : 100 ≤ k) : turnspitref07_May.f k x 0 = some (freeB x) := by
  have h := free_iff x 0 hx (by decide) (by decide)
  unfold turnspitref07_May.f
  rw [rnext_f x 0 0 hx (by decide) k hk, Option.bind_some]
  congr 1
  rw [Bool.eq_iff_iff, beq_iff_eq]
  exact h
/-- The first free slot from i on, or -1. -/
def fd (l : List Int) (i : Nat) : Int := match firstFree (l.drop i) i with | some n => (n : Int) | none => -1
theorem fd_end (l : List Int) (i : Nat) (h : l.length ≤ i) : fd l i = -1 := by
  unfold fd
  rw [List.drop_eq_nil_of_le h]
  rfl
theorem fd_yes (l : List Int) (i : Nat) (h : i < l.length) (hf : freeB l[i] = true) : fd l i = (i : Int) := by
  unfold fd
  rw [List.drop_eq_getElem_cons h]
  simp [firstFree, hf]
theorem fd_no (l : List Int) (i : Nat) (h : i < l.length) (hf : freeB l[i] = false) : fd l i = fd l (i + 1) := by
  unfold fd
  rw [List.drop_eq_getElem_cons h]
  simp [firstFree, hf]
theorem fd_none {l : List Int} (h : firstFree l 0 = none) : fd l 0 = -1 := by unfold fd; simp [h]
theorem fd_some {l : List Int} {n : Nat} (h : firstFree l 0 = some n) : fd l 0 = (n : Int) := by unfold fd; simp [h]
theorem live_set : ∀ (l : List Int) (i b : Nat) (q : Int) (hi : i < l.length), l[i] % 8 = 0 → q % 8 ≠ 0 → (liveS (l.set i q) b).length = (liveS l b).length + 1 := by
  intro l
  induction l with
  | nil => intro i b q hi; exact absurd hi (by simp)
  | cons x l ih =>
    intro i b q hi h0 hq
    cases i with
    | zero =>
      simp only [List.getElem_cons_zero] at h0
      rw [List.set_cons_zero, liveS, liveS, if_neg hq, if_pos h0]
      rw [List.length_cons]
    | succ i =>
      simp only [List.getElem_cons_succ] at h0
      rw [List.set_cons_succ, liveS, liveS]
      by_cases hx : x % 8 = 0
      · rw [if_pos hx, if_pos hx]; exact ih i (b + 1) q (by simpa using hi) h0 hq
      · rw [if_neg hx, if_neg hx, List.length_cons, List.length_cons, ih i (b + 1) q (by simpa using hi) h0 hq]
theorem live_kept : ∀ (l : List Int) (i b : Nat) (q : Int) (hi : i < l.length), l[i] % 8 ≠ 0 → q % 8 ≠ 0 → q / 67108864 % 4294967296 = l[i] / 67108864 % 4294967296 → liveS (l.set i q) b = liveS l b := by
  intro l
  induction l with
  | nil => intro i b q hi; exact absurd hi (by simp)
  | cons x l ih =>
    intro i b q hi h0 hq hg
    cases i with
    | zero =>
      simp only [List.getElem_cons_zero] at h0 hg
      rw [List.set_cons_zero, liveS, liveS, if_neg hq, if_neg h0, hg]
    | succ i =>
      simp only [List.getElem_cons_succ] at h0 hg
      rw [List.set_cons_succ, liveS, liveS, ih i (b + 1) q (by simpa using hi) h0 hq hg]
theorem check_set (l : List Int) (i : Nat) (q : Int) (hi : i < l.length) (hq : q % 8 ≠ 0) : checkS (l.set i q) (i : Int) (q / 67108864 % 4294967296) = 0 := by
  unfold checkS
  rw [if_neg (by simp; omega), rd_nat _ i (by simpa using hi), List.getElem_set_self, if_neg (by intro h; exact h.elim hq (fun h => h rfl))]
theorem mask_first (m : Int) (h0 : 0 ≤ m) (h1 : m < 256) : u64 (bits .or .u64 (IntKind.u64.wrap m) 1) ∧ maskS 8 (bits .or .u64 (IntKind.u64.wrap m) 1) ≠ 0 := by
  obtain ⟨a, rfl⟩ := Int.eq_ofNat_of_zero_le h0
  have ha : a < 256 := by omega
  have hw : IntKind.u64.wrap (a : Int) = (a : Int) := u64_wrap_nat a (by omega)
  rw [hw]
  have ho : bits .or .u64 (a : Int) 1 = ((a ||| 1 : Nat) : Int) := bits_or_u64_nat a 1 (by omega) (by decide)
  rw [ho]
  have hl : a ||| 1 < 18446744073709551616 := or_lt a 1 (by omega) (by decide)
  refine ⟨⟨by omega, by omega⟩, ?_⟩
  obtain ⟨M, hM, hM1, hM2⟩ := mask_u64 8 ((a ||| 1 : Nat) : Int) ⟨by omega, by omega⟩
  rw [hM]
  intro h
  have h0 : M = 0 := by omega
  have e : allN 8 = 255 := by decide
  rw [h0, Int.toNat_natCast, e] at hM2
  have hb := congrArg (fun x => Nat.testBit x 0) hM2
  simp [Nat.testBit_and, Nat.testBit_or] at hb
theorem create_none (l0 : List Int) (l1 : List S52) (m : Int) (hr : rightS l0 l1 = true) (hm : maskS 8 m ≠ 0) (h : firstFree l0 0 = none) : createS l0 l1 8 3 m = ([], [], 0, 0, 5) := by
  unfold createS
  rw [if_pos hr, if_neg (by intro h; omega), h]
theorem create_err (l0 : List Int) (l1 : List S52) (m : Int) (n : Nat) (hr : rightS l0 l1 = true) (hm : maskS 8 m ≠ 0) (h : firstFree l0 0 = some n) : (createS l0 l1 8 3 m).2.2.2.2 = 0 := by
  unfold createS
  rw [if_pos hr, if_neg (by intro h; omega), h]
/-- All that the law asks where a slot is free. -/
theorem first_some (r0 : List Int) (r1 : List S52) (m : Int) (n : Nat) (e0 : r0.length = 5) (hU : U r0) (hr : rightS r0 r1 = true) (hm : u64 m ∧ maskS 8 m ≠ 0) (h : firstFree r0 0 = some n) :
    ∃ (s0 : List Int) (s1 : List S52) (g g0 : Int) (LU LT : List S27), table_Create.f r0 r1 8 3 m = some (s0, s1, (n : Int), g, 0) ∧ table_Live.f 1000 s0 s1 = some LU ∧ table_Live.f 1000 r0 r1 = some LT ∧ table_Check.f 1000 s0 s1 (n : Int) g = some 0 ∧ turnspitref06_Gen.f (rd r0 (n : Int)) = some g0 ∧ (g == wrap64 (g0 + 1)) = true ∧ ((LU.length : Int) == wrap64 ((LT.length : Int) + 1)) = true ∧ (n : Int) < (r0.length : Int) := by
  have hC := Create_f r0 r1 hU 8 3 m hm.1
  obtain ⟨i, q, t, hf, hi, es, _, _, hq, hq1, hz, hg⟩ := create_ok r0 r1 hU 8 3 m hm.1 (create_err r0 r1 m n hr hm.2 h)
  obtain rfl : n = i := Option.some.inj (h.symm.trans hf)
  rw [es] at hC
  have hU' := U_set hU n hq
  have hl := liveS_len r0 0
  have hx := hU _ (List.getElem_mem hi)
  have hx0 := hx.1
  refine ⟨_, _, _, r0[n] / 67108864 % 4294967296, _, _, hC, Live_f _ _ hU' (by rw [List.length_set]; omega) 1000 (by rw [List.length_set]; omega), Live_f _ _ hU (by omega) 1000 (by omega), ?_, ?_, ?_, ?_, by omega⟩
  · rw [Check_f _ _ hU' _ _ 1000 (by decide), check_set r0 n q hi (by omega)]
  · rw [rd_nat r0 n hi]; exact refGen_eq hx
  · rw [wrap64_small (by omega) (by omega), beq_iff_eq]; exact hg
  · rw [live_set r0 n 0 q hi hz (by omega), wrap64_small (by omega) (by omega), beq_iff_eq]; omega
end Go.Proofs.YtdchbcpfciljoaaDoor.Pure

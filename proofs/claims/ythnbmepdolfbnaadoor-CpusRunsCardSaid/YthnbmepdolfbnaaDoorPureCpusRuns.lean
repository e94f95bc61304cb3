/- CpusRuns: plain. -/
import Derived.Test.YthnbmepdolfbnaaDoorPureCpus
import Derived.Test.YthnbmepdolfbnaaDoorPrintF7
namespace Go.Proofs.YthnbmepdolfbnaaDoor
set_option linter.unusedVariables false
set_option linter.unusedSimpArgs false
set_option maxRecDepth 100000
open Go.RowKit Go.Proofs.YthnbmepdolfbnaaDoor.Given Go.Proofs.YthnbmepdolfbnaaDoor.Print Go.Proofs.YthnbmepdolfbnaaDoor.Pure Go.Proofs.YthnbmepdolfbnaaDoorW.PrintWords Go.Proofs.YthnbmepdolfbnaaDoorW.PrintLast Go.Proofs.YthnbmepdolfbnaaDoorW.PrintMore
def allN (n : Int) : Nat := if n ≤ 0 then 0 else if n ≥ 64 then 18446744073709551615 else 2 ^ n.toNat - 1
theorem all_l (n : Int) (d : Nat) : ∀ i fuel : Nat, i + d = 64 → 65 + d < fuel → (i : Int) ≤ max n 0 → turnspitref04_All.l0 fuel n ((2 ^ i - 1 : Nat) : Int) (i : Int) = some (allN n : Int) := by
  induction d with
  | zero =>
    rintro i (_ | fuel) h hf hi
    · omega
    · obtain rfl : i = 64 := by omega
      unfold turnspitref04_All.l0 allN
      rw [if_neg (by omega : ¬ n ≤ 0), if_pos (by omega : n ≥ 64)]
      split
      · rw [if_neg (by omega)]
      · rfl
  | succ d ih =>
    rintro i (_ | fuel) h hf hi
    · omega
    · unfold turnspitref04_All.l0
      by_cases hin : (i : Int) < n
      · have hp := pow_succ_nat i
        have hpos := Nat.two_pow_pos i
        have hl := pow_lt64 i (by omega)
        rw [if_pos hin, if_pos (by omega), with_r _ _ fuel (by omega) (by omega), Option.bind_some, wrap64_small (by omega) (by omega)]
        have ho : oddB (i : Int) = false := odd_false.2 ⟨by omega, by omega⟩
        have ht : (2 ^ i - 1).testBit i = false := by rw [Nat.testBit_two_pow_sub_one]; simp
        have e : withN (2 ^ i - 1) (i : Int) = 2 ^ (i + 1) - 1 := by
          unfold withN
          rw [ho, if_neg (by decide), Int.toNat_natCast, ← add_or _ _ ht]
          omega
        rw [e]
        exact ih (i + 1) fuel (by omega) (by omega) (by omega)
      · rw [if_neg hin]
        unfold allN
        split
        · obtain rfl : i = 0 := by omega
          rfl
        · rw [if_neg (by omega)]
          obtain rfl : n = (i : Int) := by omega
          rfl
theorem all_r (n : Nat) (hn : n ≤ 64) (fuel : Nat) (hf : 129 < fuel) : turnspitref04_All.f fuel (n : Int) = some ((2 ^ n - 1 : Nat) : Int) := by
  unfold turnspitref04_All.f
  have h := all_l (n : Int) 64 0 fuel (by omega) (by omega) (by omega)
  refine Eq.trans h ?_
  unfold allN
  by_cases h0 : n = 0
  · subst h0; rfl
  · rw [if_neg (by omega)]
    by_cases h64 : n = 64
    · subst h64; rfl
    · rw [if_neg (by omega), Int.toNat_natCast]
/-- The text of all from x to y is one item. -/
theorem one_item (x y : Nat) (hxy : x ≤ y) (hy : y < 64) : printL (span x y) = itemT (x, y) := by
  have hM := span_lt x y hy
  have hb : ∀ i, (span x y).testBit i = (decide (x ≤ i) && decide (i ≤ y)) := fun i => span_bit x y i (by omega)
  have hx : (span x y).testBit x = true := by rw [hb]; simp [hxy]
  have hne : span x y ≠ 0 := fun h => by rw [h, Nat.zero_testBit] at hx; cases hx
  have hst : ∀ k, k ≠ x → isStart (span x y) k = false := by
    intro k hk
    by_cases h1 : x < k
    · by_cases h2 : k ≤ y
      · exact not_start' (by omega) (by rw [hb]; simp; omega)
      · exact not_start (by rw [hb]; simp; omega)
    · exact not_start (by rw [hb]; simp; omega)
  have hsx : isStart (span x y) x = true := by
    unfold isStart
    rw [hx, Bool.true_and]
    by_cases h0 : x = 0
    · rw [h0]; rfl
    · rw [hb (x - 1), decide_eq_false (show ¬ x ≤ x - 1 by omega)]; simp
  have hlast : lastR (span x y) x 64 = y := by
    have h1 := lastR_ge (span x y) 64 x
    have h2 := lastR_in (span x y) 64 x hx _ h1 (Nat.le_refl _)
    have h3 := lastR_max (span x y) hM x hx y (fun j g1 g2 => by rw [hb]; simp [g1, g2])
    rw [hb] at h2
    simp at h2
    omega
  have e0 : txt (span x y) x = [] := txt_skip (span x y) 0 x (by omega) (fun k _ hk => hst k (by omega))
  have e1 : txt (span x y) (x + 1) = itemT (x, y) := by rw [txt_succ, if_pos hsx, if_pos e0, hlast]
  have e2 := txt_skip (span x y) (x + 1) 64 (by omega) (fun k hk _ => hst k (by omega))
  rw [show printL (span x y) = txt (span x y) 64 from if_neg hne, e2, e1]
theorem commas_l (x5 x6 x7 x9 x10 : Int) (l : List UInt8) (h44 : (44 : UInt8) ∉ l) (hl : l.length ≤ 1000) (h9 : x9 = x7) (h10 : x10 = 0) (hfin : ((x5 == x6) == decide ((l.length : Int) < 3)) = true) : ∀ d i k : Nat, i + d = l.length → d < k → turnspitlaw05_CpusRuns.l0 k x5 x6 x7 (ba l) x9 x10 0 (i : Int) = some true := by
  intro d
  induction d with
  | zero =>
    intro i k hi hk
    obtain ⟨k, rfl⟩ : ∃ m, k = m + 1 := ⟨k - 1, by omega⟩
    rw [turnspitlaw05_CpusRuns.l0, if_neg (by rw [ba_size]; omega), awake_f, Option.bind_some, if_pos rfl, if_pos h9, if_pos h10, if_pos rfl, ba_size, hfin]
  | succ d ih =>
    intro i k hi hk
    obtain ⟨k, rfl⟩ : ∃ m, k = m + 1 := ⟨k - 1, by omega⟩
    have hil : i < l.length := by omega
    have hne : ¬ (((l[i]).toNat : Int) = 44) := fun h => h44 (by have : l[i] = 44 := UInt8.toNat_inj.1 (show (l[i]).toNat = 44 by omega); rw [← this]; exact List.getElem_mem hil)
    rw [turnspitlaw05_CpusRuns.l0, if_pos (by rw [ba_size]; omega), if_pos (by omega), bt_ba l i hil, if_neg hne, wrap64_small (by omega) (by omega)]
    exact ih (i + 1) k (by omega) (by omega)
theorem runs_j (x y : Nat) (hxy : x ≤ y) (hy : y < 64) (k : Nat) (hk : 999 ≤ k) : turnspitlaw05_CpusRuns.j0 (k + 1) (x : Int) (y : Int) = some true := by
  have hp := Nat.two_pow_pos x
  have hxp : 2 ^ x ≤ 2 ^ (y + 1) := Nat.pow_le_pow_right (by decide) (by omega)
  have hM := span_lt x y hy
  have e64 : (2 : Nat) ^ 64 = 18446744073709551616 := by decide
  have es : ((2 ^ (y + 1) - 1 : Nat) : Int) - ((2 ^ x - 1 : Nat) : Int) = ((span x y : Nat) : Int) := by unfold span; omega
  have hl := printL_len _ hM
  rw [turnspitlaw05_CpusRuns.j0, wrap64_small (by omega) (by omega), show ((y : Int) + 1) = ((y + 1 : Nat) : Int) from rfl, all_r (y + 1) (by omega) k (by omega), Option.bind_some, all_r x (by omega) k (by omega), Option.bind_some, es, u64_wrap_nat _ (by omega), pr_f _ hM, Option.bind_some, pa_f _ (by omega), Option.bind_some, parse_print _ hM]
  rw [one_item x y hxy hy] at hl ⊢
  refine commas_l _ _ _ _ _ (itemT (x, y)) (item_no44 (x, y) (by simp; omega) hy) (by omega) rfl rfl ?_ (itemT (x, y)).length 0 k (by omega) (by omega)
  have h1 := dg_len x
  have h2 := dg_len y
  rw [beq_iff_eq, Bool.eq_iff_iff, beq_iff_eq, decide_eq_true_eq]
  show ((x : Int) = (y : Int)) ↔ (((if x < y then dg x ++ 45 :: dg y else dg x).length : Int) < 3)
  by_cases hlt : x < y
  · rw [if_pos hlt, List.length_append, List.length_cons]; omega
  · rw [if_neg hlt]; omega
theorem Walk.CpusRuns (a0 : Int) (w0 : (Lit.int .u8 a0).wf = true) (a1 : Int) (w1 : (Lit.int .u8 a1).wf = true) (w : World) (HLd : True) :
    Calls Tryd.prog 7 #[.int .u8 a0, .int .u8 a1] w fun e w' => e = .returned (.bool true) ∧ Below w.heap.size w w' := by
  have h0 := of_u8 w0
  have h1 := of_u8 w1
  refine turnspitlaw05_CpusRuns.calls 1000 _ _ true w ?_
  have m0 : Int.tmod (wrap64 a0) 64 = ((a0.toNat % 64 : Nat) : Int) := by rw [wrap64_small (by omega) (by omega), Int.tmod_eq_emod_of_nonneg h0.1]; omega
  have m1 : Int.tmod (wrap64 a1) 64 = ((a1.toNat % 64 : Nat) : Int) := by rw [wrap64_small (by omega) (by omega), Int.tmod_eq_emod_of_nonneg h1.1]; omega
  unfold turnspitlaw05_CpusRuns.f
  rw [m0, m1]
  split
  · exact runs_j _ _ (by omega) (by omega) 999 (by decide)
  · exact runs_j _ _ (by omega) (by omega) 999 (by decide)
end Go.Proofs.YthnbmepdolfbnaaDoor

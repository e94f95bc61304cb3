/- cpus.Print: its contract: the text of a mask's runs. -/
import Derived.Test.YthnbmepdolfbnaaDoorPureRuns
import Derived.Test.YthnbmepdolfbnaaDoorGB
import Derived.Test.YthnbmepdolfbnaaDoorPrintF18
import Derived.Deep.DeepFit
namespace Go.Proofs.YthnbmepdolfbnaaDoor.Given
open Go.RowKit Go.Proofs.YthnbmepdolfbnaaDoor Go.Proofs.YthnbmepdolfbnaaDoor.Print Go.Proofs.YthnbmepdolfbnaaDoor.Pure Go.Proofs.YthnbmepdolfbnaaDoorW.PrintWords
set_option linter.unusedVariables false
set_option linter.unusedSimpArgs false
theorem bitB_nat (M k : Nat) : bitB (M : Int) k = M.testBit k := by
  unfold bitB
  rw [Nat.testBit_eq_decide_div_mod_eq, Bool.eq_iff_iff, beq_iff_eq, decide_eq_true_eq]
  have e : ((2 : Int) ^ k) = ((2 ^ k : Nat) : Int) := by rw [Int.natCast_pow]; rfl
  rw [e, ← Int.natCast_ediv]
  omega
theorem below_head (m c : Int) : ∀ i : Nat, (cpusBelow m c i = [] ∧ ∀ k : Nat, k < i → ¬ (c < (k : Int) ∧ bitB m k = true)) ∨ ∃ (n : Nat) (t : List Int), n < i ∧ c < (n : Int) ∧ bitB m n = true ∧ (∀ k : Nat, k < n → ¬ (c < (k : Int) ∧ bitB m k = true)) ∧ cpusBelow m c i = (n : Int) :: t := by
  intro i
  induction i with
  | zero => exact .inl ⟨rfl, fun k hk => absurd hk (Nat.not_lt_zero k)⟩
  | succ i ih =>
    by_cases hc : c < (i : Int)
    · rw [cpusBelow_succ m c i hc]
      by_cases hb : bitB m i = true
      · rw [if_pos hb]
        rcases ih with ⟨e, h⟩ | ⟨n, t, h1, h2, h3, h4, e⟩
        · exact .inr ⟨i, [], Nat.lt_succ_self _, hc, hb, h, by rw [e]; rfl⟩
        · exact .inr ⟨n, t ++ [(i : Int)], by omega, h2, h3, h4, by rw [e]; rfl⟩
      · rw [if_neg hb]
        rcases ih with ⟨e, h⟩ | ⟨n, t, h1, h2, h3, h4, e⟩
        · refine .inl ⟨e, fun k hk => ?_⟩
          by_cases hki : k = i
          · subst hki; exact fun h => hb h.2
          · exact h k (by omega)
        · exact .inr ⟨n, t, by omega, h2, h3, h4, e⟩
    · rw [cpusBelow_none m c (i + 1) (by omega)]
      exact .inl ⟨rfl, fun k hk => fun h => by omega⟩
/-- The least CPU above another one, or that there is none. -/
theorem next_spec (M : Nat) (c : Int) (hc : c < 64) : (nextOf (M : Int) c = (0, false) ∧ ∀ k : Nat, k < 64 → c < (k : Int) → M.testBit k = false) ∨ ∃ n : Nat, n < 64 ∧ c < (n : Int) ∧ M.testBit n = true ∧ (∀ k : Nat, k < n → c < (k : Int) → M.testBit k = false) ∧ nextOf (M : Int) c = ((n : Int), true) := by
  have fl : ∀ k : Nat, ¬ (c < (k : Int) ∧ bitB (M : Int) k = true) → c < (k : Int) → M.testBit k = false := by
    intro k h hk
    cases hb : M.testBit k with
    | false => rfl
    | true => exact absurd ⟨hk, (bitB_nat M k).trans hb⟩ h
  unfold nextOf
  rw [if_pos hc]
  unfold aboveL
  rcases below_head (M : Int) c 64 with ⟨e, h⟩ | ⟨n, t, h1, h2, h3, h4, e⟩
  · exact .inl ⟨by rw [e], fun k hk => fl k (h k hk)⟩
  · exact .inr ⟨n, h1, h2, (bitB_nat M n).symm.trans h3, fun k hk => fl k (h4 k hk), by rw [e]⟩
theorem txt_skip (M i : Nat) : ∀ j, i ≤ j → (∀ k, i ≤ k → k < j → isStart M k = false) → txt M j = txt M i := by
  intro j
  induction j with
  | zero => intro h _; obtain rfl : i = 0 := by omega
            rfl
  | succ j ih =>
    intro h hk
    by_cases e : i = j + 1
    · rw [e]
    · rw [txt_succ, if_neg (by rw [hk j (by omega) (by omega)]; decide)]
      exact ih (by omega) (fun k h1 h2 => hk k h1 (by omega))
theorem not_start {M k : Nat} (h : M.testBit k = false) : isStart M k = false := by simp [isStart, h]
theorem not_start' {M k : Nat} (h0 : 0 < k) (h : M.testBit (k - 1) = true) : isStart M k = false := by
  have : ¬ k = 0 := by omega
  simp [isStart, h, this]
theorem dec_dg (n : Nat) (h : n < 64) : Lib.decDigits n = dg n := by
  unfold dg
  rw [Lib.decDigits]
  by_cases h10 : n < 10
  · rw [dif_pos h10, if_pos h10]
  · rw [dif_neg h10, if_neg h10, Lib.decDigits, dif_pos (by omega)]
    rfl
/-- What stands first, where nothing has been written yet. -/
theorem first_print (M : Nat) (hM : M < 2 ^ 64) (h0 : M ≠ 0) : ∃ c : Nat, c < 64 ∧ isStart M c = true ∧ txt M c = [] ∧ nextOf (M : Int) (-1) = ((c : Int), true) := by
  rcases next_spec M (-1) (by decide) with ⟨_, h⟩ | ⟨n, h1, _, h3, h4, e⟩
  · exfalso
    apply h0
    apply Nat.eq_of_testBit_eq
    intro i
    rw [Nat.zero_testBit]
    by_cases hi : i < 64
    · exact h i hi (by omega)
    · cases hb : M.testBit i with
      | false => rfl
      | true => exact absurd (bit_lt hM hb) hi
  · refine ⟨n, h1, ?_, ?_, e⟩
    · by_cases hn : n = 0
      · simp [isStart, h3, hn]
        rw [hn] at h3; simpa using h3
      · simp [isStart, h3, h4 (n - 1) (by omega) (by omega)]
    · have := txt_skip M 0 n (by omega) (fun k _ hk => not_start (h4 k hk (by omega)))
      rw [this]; rfl
/-- What stands next, behind a run. -/
theorem next_print (M : Nat) (hM : M < 2 ^ 64) (c : Nat) (hc : c < 64) (hs : isStart M c = true) :
    (nextOf (M : Int) (lastR M c 64 : Nat) = (0, false) ∧ txt M 64 = txt M (c + 1)) ∨ ∃ n : Nat, n < 64 ∧ c < n ∧ isStart M n = true ∧ txt M n = txt M (c + 1) ∧ nextOf (M : Int) (lastR M c 64 : Nat) = ((n : Int), true) := by
  have hb : M.testBit c = true := by simp [isStart] at hs; exact hs.1
  have hge := lastR_ge M 64 c
  have hin := lastR_in M 64 c hb
  have hstop := lastR_stop M hM 64 c (by omega) hb
  have hlt := bit_lt hM (hin _ hge (Nat.le_refl _))
  generalize lastR M c 64 = z at hge hin hstop hlt ⊢
  have skip : ∀ j, z < j → (∀ k : Nat, k < j → z < k → M.testBit k = false) → txt M j = txt M (c + 1) := by
    intro j hj h
    refine txt_skip M (c + 1) j (by omega) (fun k h1 h2 => ?_)
    by_cases hk : k ≤ z
    · exact not_start' (by omega) (hin (k - 1) (by omega) (by omega))
    · exact not_start (h k h2 (by omega))
  rcases next_spec M (z : Int) (by omega) with ⟨e, h⟩ | ⟨n, h1, h2, h3, h4, e⟩
  · exact .inl ⟨e, skip 64 (by omega) (fun k h1 h2 => h k h1 (by omega))⟩
  · refine .inr ⟨n, h1, by omega, ?_, skip n (by omega) (fun k h1 h2 => h4 k h1 (by omega)), e⟩
    have hz1 : n ≠ z + 1 := fun e1 => by rw [e1, hstop] at h3; cases h3
    simp [isStart, h3, h4 (n - 1) (by omega) (by omega)]
theorem is_below {B b : Nat} {bs : List Value} {w w1 : World} (h : Lib.IsBuilder 39 5 B b bs w) (hb : Below w.heap.size w w1) : Lib.IsBuilder 39 5 B b bs w1 := by
  rcases h with ⟨h1, v, h2, h3, h4⟩ | ⟨h1, v, h2, h3, h4⟩
  · exact .inl ⟨h1, v, blk_below h2 hb, pw_own_below h3 hb, h4⟩
  · exact .inr ⟨h1, v, blk_below h2 hb, pw_own_below h3 hb, h4⟩
theorem has_c (m c : Int) (w : World) (h0 : 0 ≤ m) (h1 : m < 18446744073709551616) (r : Bool) (hr : hasB m c = r) : Calls Tryd.prog 19 #[.int .u64 m, .int .i64 c] w fun e w' => e = .returned (.bool r) ∧ w = w' :=
  hr ▸ callsIn_wide.1 (has_in Fence.wide 3 trivial trivial rfl (by decide) m c w h0 h1)
theorem wb_c (B b : Nat) (l : List UInt8) (c : UInt8) (w : World) (h : Lib.IsBuilder 39 5 B b (Lib.byteCells l) w) (hlen : l.length ≤ 1000) (hB : B ≤ w.heap.size) :
    Calls Tryd.prog 21 #[.pointer (some ⟨b, 0, none⟩), .int .u8 c.toNat] w fun e w' => e = .returned .nilIface ∧ (Lib.IsBuilder 39 5 B b (Lib.byteCells (l ++ [c])) w' ∧ Below B w w') := by
  refine (Tryd.Builder_WriteByte B b _ c.toNat w h (by simp [Lib.byteCells]; omega) hB).mono ?_
  rintro e w' ⟨rfl, h1, h2⟩
  exact ⟨rfl, .inr (by simpa [Lib.byteCells] using h1), h2⟩
theorem ws_c (B b : Nat) (l s : List UInt8) (w : World) (h : Lib.IsBuilder 39 5 B b (Lib.byteCells l) w) (hlen : l.length ≤ 1000) (hs : s.length ≤ 1000) (hB : B ≤ w.heap.size) :
    Calls Tryd.prog 22 #[.pointer (some ⟨b, 0, none⟩), .string ⟨s.toArray⟩] w fun e w' => (∃ n : Int, e = .returned (.tuple #[.int .i64 n, .nilIface])) ∧ (Lib.IsBuilder 39 5 B b (Lib.byteCells (l ++ s)) w' ∧ Below B w w') := by
  refine (Tryd.Builder_WriteString B b _ ⟨s.toArray⟩ w h (by simp [Lib.byteCells, ByteArray.size]; omega) hB).mono ?_
  rintro e w' ⟨rfl, h1, h2⟩
  exact ⟨⟨_, rfl⟩, .inr (by simpa [Lib.byteCells, Lib.strCells] using h1), h2⟩
theorem len_c (B b : Nat) (l : List UInt8) (w : World) (h : Lib.IsBuilder 39 5 B b (Lib.byteCells l) w) :
    Calls Tryd.prog 20 #[.pointer (some ⟨b, 0, none⟩)] w fun e w' => e = .returned (.int .i64 l.length) ∧ w = w' := by
  refine (Tryd.Builder_Len B b _ w h).mono ?_
  rintro e w' ⟨rfl, rfl⟩
  exact ⟨by simp [Lib.byteCells], rfl⟩
theorem itoa_c (n : Nat) (h : n < 64) (w : World) : Calls Tryd.prog 23 #[.int .i64 n] w fun e w' => e = .returned (.string ⟨(dg n).toArray⟩) ∧ w = w' := by
  refine (Tryd.strconv_Itoa_small n (by omega) w).mono ?_
  rintro e w' ⟨rfl, rfl⟩
  exact ⟨by rw [dec_dg n h], rfl⟩
theorem next_c (M : Nat) (hM : M < 2 ^ 64) (c : Int) (hc : -1 ≤ c) (r : Int × Bool) (h : nextOf (M : Int) c = r) (w : World) : Calls Tryd.prog 24 #[.int .u64 M, .int .i64 c] w fun e w' => e = .returned (.tuple #[.int .i64 r.1, .bool r.2]) ∧ Below w.heap.size w w' := by
  refine mask_Next.calls _ _ _ _ _ ?_
  unfold mask_Next.f
  rw [if_pos ⟨by omega, by omega, by omega⟩, h]
theorem first_c (M : Nat) (hM : M < 2 ^ 64) (r : Int × Bool) (h : nextOf (M : Int) (-1) = r) (w : World) : Calls Tryd.prog 18 #[.int .u64 M] w fun e w' => e = .returned (.tuple #[.int .i64 r.1, .bool r.2]) ∧ Below w.heap.size w w' := by
  refine mask_First.calls _ _ _ _ ?_
  unfold mask_First.f mask_Next.f
  rw [if_pos ⟨by omega, by omega, by omega⟩, h]
  rfl
end Go.Proofs.YthnbmepdolfbnaaDoor.Given

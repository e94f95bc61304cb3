/- Plain facts on what the functions of package mask and of its reference compute. -/
import Derived.Test.YtdghjigeddphaaaPrintF10
import Derived.Test.YtdghjigeddphaaaPrintF11
import Derived.Test.YtdghjigeddphaaaPrintF13
import Derived.Test.YtdghjigeddphaaaPrintF14
import Derived.Test.YtdghjigeddphaaaPrintF15
import Derived.Test.YtdghjigeddphaaaPrintF16
import Derived.Test.YtdghjigeddphaaaPrintF18
import Derived.Test.YtdghjigeddphaaaPrintF19
import Derived.Test.YtdghjigeddphaaaPrintF20
import Derived.Test.YtdghjigeddphaaaPrintF21
import Derived.Test.YtdghjigeddphaaaPrintF22
import Derived.Test.YtdghjigeddphaaaPrintF23
import Derived.Test.YtdghjigeddphaaaPrintF24
import Derived.Test.YtdghjigeddphaaaPrintF25
import Derived.Test.YtdghjigeddphaaaPrintF28
import Derived.Test.YtdghjigeddphaaaPrintF29
import Derived.Test.YtdghjigeddphaaaPrintF30
import Derived.Test.YtdghjigeddphaaaG2
namespace Go.Proofs.Ytdghjigeddphaaa.Pure
open Go.RowKit Go.Proofs.Ytdghjigeddphaaa Go.Proofs.Ytdghjigeddphaaa.Given Go.Proofs.Ytdghjigeddphaaa.Print Go.Proofs.YtdghjigeddphaaaW.PrintWords Go.Proofs.YtdghjigeddphaaaW.PrintLast Go.Proofs.YtdghjigeddphaaaW.PrintMore
set_option linter.unusedVariables false
set_option linter.unusedSimpArgs false

def u64 (a : Int) : Prop := 0 ≤ a ∧ a < 18446744073709551616
theorem u64_of {a : Int} (h : (Lit.int .u64 a).wf = true) : u64 a := by
  simp [Lit.wf, IntKind.min, IntKind.max, IntKind.signed, IntKind.bits] at h
  unfold u64
  omega
theorem i64_of {a : Int} (h : (Lit.int .i64 a).wf = true) : -9223372036854775808 ≤ a ∧ a ≤ 9223372036854775807 := by
  simp [Lit.wf, IntKind.min, IntKind.max, IntKind.signed, IntKind.bits] at h
  omega
theorem wrap64_small {n : Int} (h0 : -9223372036854775808 ≤ n) (h1 : n ≤ 9223372036854775807) : wrap64 n = n := by
  unfold wrap64
  omega
theorem pow_succ_nat (k : Nat) : 2 ^ (k + 1) = 2 ^ k * 2 := Nat.pow_succ ..
theorem u64_wrap_nat (p : Nat) (h : p < 18446744073709551616) : IntKind.u64.wrap (p : Int) = (p : Int) := by
  rw [IntKind.wrap_u64]; omega
theorem shl1 (k : Nat) (h : k < 64) : shl .u64 1 (k : Int) = ((2 ^ k : Nat) : Int) := by
  unfold shl
  have h2 := pow_lt64 k h
  have e : min (k : Int).toNat IntKind.u64.bits = k := by
    show min k 64 = k
    omega
  rw [e, Int.one_mul, show ((2 : Int) ^ k) = ((2 ^ k : Nat) : Int) from (Int.natCast_pow 2 k).symm]
  exact u64_wrap_nat _ h2
theorem bitB_nat (M k : Nat) : bitB (M : Int) k = M.testBit k := by
  unfold bitB
  rw [show ((2 : Int) ^ k) = ((2 ^ k : Nat) : Int) from (Int.natCast_pow 2 k).symm, Nat.testBit_eq_decide_div_mod_eq, ← Int.natCast_ediv, Bool.eq_iff_iff, decide_eq_true_eq, beq_iff_eq]
  omega

/-! The bits of a natural number, with one put in and one taken out. -/
theorem add_or (M k : Nat) (h : M.testBit k = false) : M + 2 ^ k = M ||| 2 ^ k := by
  rw [Nat.testBit_eq_decide_div_mod_eq, decide_eq_false_iff_not] at h
  have hp := pow_succ_nat k
  have hpos : 0 < 2 ^ k := Nat.two_pow_pos k
  obtain ⟨q, r, hr, hM⟩ : ∃ q r, r < 2 ^ k ∧ M = 2 ^ (k + 1) * q + r := by
    refine ⟨M / 2 ^ k / 2, M % 2 ^ k, Nat.mod_lt _ hpos, ?_⟩
    have e1 := Nat.div_add_mod M (2 ^ k)
    have e2 : M / 2 ^ k = 2 * (M / 2 ^ k / 2) := by omega
    calc M = 2 ^ k * (M / 2 ^ k) + M % 2 ^ k := e1.symm
      _ = 2 ^ k * (2 * (M / 2 ^ k / 2)) + M % 2 ^ k := by rw [← e2]
      _ = 2 ^ (k + 1) * (M / 2 ^ k / 2) + M % 2 ^ k := by rw [hp, Nat.mul_assoc]
  have h1 : 2 ^ (k + 1) * q + r = 2 ^ (k + 1) * q ||| r := Nat.two_pow_add_eq_or_of_lt (by omega) q
  have h2 : 2 ^ (k + 1) * q + (2 ^ k * 1 + r) = 2 ^ (k + 1) * q ||| (2 ^ k * 1 + r) := Nat.two_pow_add_eq_or_of_lt (by omega) q
  have h3 : 2 ^ k * 1 + r = 2 ^ k * 1 ||| r := Nat.two_pow_add_eq_or_of_lt hr 1
  rw [Nat.mul_one] at h2 h3
  rw [hM]
  have e : 2 ^ (k + 1) * q + r + 2 ^ k = 2 ^ (k + 1) * q + (2 ^ k + r) := by omega
  rw [e, h2, h3, h1, Nat.or_assoc, Nat.or_comm r]
theorem or_same (M k : Nat) (h : M.testBit k = true) : M ||| 2 ^ k = M := by
  apply Nat.eq_of_testBit_eq
  intro i
  rw [Nat.testBit_or, Nat.testBit_two_pow]
  by_cases hi : k = i
  · subst hi; simp [h]
  · simp [hi]
theorem testBit_not (k i : Nat) (hk : k < 64) : (18446744073709551615 - 2 ^ k).testBit i = (decide (i < 64) && !decide (k = i)) := by
  have := Nat.testBit_two_pow_sub_succ (x := 2 ^ k) (n := 64) (pow_lt64 k hk) i
  rw [Nat.testBit_two_pow] at this
  rw [← this]
  congr 1
  omega
theorem testBit_big (M i : Nat) (hM : M < 18446744073709551616) (hi : 64 ≤ i) : M.testBit i = false :=
  Nat.testBit_lt_two_pow (Nat.lt_of_lt_of_le hM (Nat.pow_le_pow_right (n := 2) (by decide) hi))
theorem testBit_wio (M k i : Nat) (hM : M < 18446744073709551616) (hk : k < 64) : (M &&& (18446744073709551615 - 2 ^ k)).testBit i = (M.testBit i && !decide (k = i)) := by
  rw [Nat.testBit_and, testBit_not k i hk]
  by_cases hi : i < 64
  · simp [hi]
  · rw [testBit_big M i hM (by omega)]; rfl
theorem sub_wio (M k : Nat) (hM : M < 18446744073709551616) (hk : k < 64) (h : M.testBit k = true) : M - 2 ^ k = M &&& (18446744073709551615 - 2 ^ k) := by
  have h2 : (M &&& (18446744073709551615 - 2 ^ k)).testBit k = false := by rw [testBit_wio _ _ _ hM hk]; simp
  have h3 := add_or _ k h2
  have h4 : M = M &&& (18446744073709551615 - 2 ^ k) ||| 2 ^ k := by
    apply Nat.eq_of_testBit_eq
    intro i
    rw [Nat.testBit_or, testBit_wio _ _ _ hM hk, Nat.testBit_two_pow]
    by_cases hi : k = i
    · subst hi; simp [h]
    · simp [hi]
  omega

def withN (M : Nat) (c : Int) : Nat := if oddB c then M else M ||| 2 ^ c.toNat
def wioN (M : Nat) (c : Int) : Nat := if oddB c then M else M &&& (18446744073709551615 - 2 ^ c.toNat)
theorem odd_false {c : Int} : oddB c = false ↔ 0 ≤ c ∧ c < 64 := by simp [oddB]
theorem odd_true {c : Int} : oddB c = true ↔ ¬ (0 ≤ c ∧ c < 64) := by
  unfold oddB
  rw [Bool.not_eq_true', decide_eq_false_iff_not]
theorem withN_lt (M : Nat) (c : Int) (hM : M < 18446744073709551616) : withN M c < 18446744073709551616 := by
  unfold withN
  split
  · exact hM
  · rename_i h
    have := odd_false.1 (by simpa using h)
    exact or_lt _ _ hM (pow_lt64 _ (by omega))
theorem wioN_lt (M : Nat) (c : Int) (hM : M < 18446744073709551616) : wioN M c < 18446744073709551616 := by
  unfold wioN
  split
  · exact hM
  · exact Nat.lt_of_le_of_lt Nat.and_le_left hM
theorem hasB_nat (M : Nat) (c : Int) : hasB (M : Int) c = (!oddB c && M.testBit c.toNat) := by
  unfold hasB oddB
  rw [bitB_nat, Bool.not_not]

/-! ### Package mask -/
theorem odd_f (c : Int) : mask_odd.f c = some (oddB c) := by
  unfold mask_odd.f oddB
  split
  · rw [Option.some_inj, Bool.eq_iff_iff]; simp; omega
  · rw [Option.some_inj, Bool.eq_iff_iff]; simp; omega
theorem with_f (M : Nat) (c : Int) (hM : M < 18446744073709551616) : mask_With.f (M : Int) c = some (withN M c : Int) := by
  unfold mask_With.f withN
  rw [odd_f, Option.bind_some]
  cases ho : oddB c
  · have hc := odd_false.1 ho
    obtain ⟨k, rfl⟩ := Int.eq_ofNat_of_zero_le hc.1
    have hk : k < 64 := by omega
    rw [if_neg (by decide), if_pos hc.1, shl1 k hk, u64_or_nat _ _ hM (pow_lt64 k hk)]
    rfl
  · rfl
theorem wio_f (M : Nat) (c : Int) (hM : M < 18446744073709551616) : mask_Without.f (M : Int) c = some (wioN M c : Int) := by
  unfold mask_Without.f wioN
  rw [odd_f, Option.bind_some]
  cases ho : oddB c
  · have hc := odd_false.1 ho
    obtain ⟨k, rfl⟩ := Int.eq_ofNat_of_zero_le hc.1
    have hk : k < 64 := by omega
    rw [if_neg (by decide), if_pos hc.1, shl1 k hk, u64_andNot_nat _ _ hM (pow_lt64 k hk)]
    rfl
  · rfl
theorem has_calls (m c : Int) (w : World) (hm : u64 m) : Calls Try.prog 18 #[.int .u64 m, .int .i64 c] w fun e w' => e = .returned (.bool (hasB m c)) ∧ w = w' :=
  callsIn_wide.1 (has_in Fence.wide 3 trivial trivial rfl (by omega) m c w hm.1 hm.2)
theorem next_f (m c : Int) (hm : u64 m) (hc : -9223372036854775808 ≤ c) : mask_Next.f m c = some (nextOf m c) := by
  unfold mask_Next.f
  rw [if_pos ⟨hm.1, hm.2, hc⟩]
theorem first_f (m : Int) (hm : u64 m) : mask_First.f m = some (nextOf m (-1)) := by
  unfold mask_First.f
  rw [next_f m _ hm (by decide)]
  rfl
def roundOf (m c : Int) : Int × Bool := if (nextOf m c).2 then ((nextOf m c).1, true) else nextOf m (-1)
theorem round_f (m c : Int) (hm : u64 m) (hc : -9223372036854775808 ≤ c) : mask_Round.f m c = some (roundOf m c) := by
  unfold mask_Round.f roundOf
  rw [next_f m c hm hc, Option.bind_some, first_f m hm]
  split <;> rfl
theorem list_f (m : Int) (hm : u64 m) : mask_List.f m = some (aboveL m (-1)) := by
  unfold mask_List.f
  exact if_pos hm
theorem count_f (m : Int) (hm : u64 m) : mask_Count.f m = some ((aboveL m (-1)).length : Int) := by
  unfold mask_Count.f
  rw [list_f m hm]
  rfl
def allN (n : Int) : Nat := if n ≤ 0 then 0 else if n ≥ 64 then 18446744073709551615 else 2 ^ n.toNat - 1
theorem all_f (n : Int) : mask_All.f n = some (allN n : Int) := by
  unfold mask_All.f allN
  split
  · rfl
  · split
    · rfl
    · rename_i h0 h1
      obtain ⟨k, rfl⟩ := Int.eq_ofNat_of_zero_le (by omega : 0 ≤ n)
      have hp : 1 ≤ 2 ^ k := Nat.two_pow_pos k
      have hl := pow_lt64 k (by omega)
      rw [if_pos (by omega), shl1 k (by omega), Int.toNat_natCast, show (((2 ^ k : Nat) : Int) - 1) = ((2 ^ k - 1 : Nat) : Int) by omega, u64_wrap_nat _ (by omega)]

/-! ### The reference -/
def bitv (c : Int) : Nat := if oddB c then 0 else 2 ^ c.toNat
theorem bit_l (d : Nat) : ∀ i c fuel : Nat, i + d = c → c < 64 → d < fuel → turnspitref04_bit.l0 fuel (c : Int) ((2 ^ i : Nat) : Int) (i : Int) = some ((2 ^ c : Nat) : Int) := by
  induction d with
  | zero =>
    rintro i c (_ | fuel) h hc hf
    · omega
    · obtain rfl : i = c := by omega
      unfold turnspitref04_bit.l0
      rw [if_neg (by omega)]
  | succ d ih =>
    rintro i c (_ | fuel) h hc hf
    · omega
    · unfold turnspitref04_bit.l0
      have hp := pow_succ_nat i
      have hl := pow_lt64 (i + 1) (by omega)
      rw [if_pos (by omega), wrap64_small (by omega) (by omega), show (((2 ^ i : Nat) : Int) * 2) = ((2 ^ (i + 1) : Nat) : Int) by omega, u64_wrap_nat _ hl]
      exact ih (i + 1) c fuel (by omega) hc (by omega)
theorem bit_f (c : Int) (fuel : Nat) (hf : 65 < fuel) : turnspitref04_bit.f fuel c = some (bitv c : Int) := by
  obtain ⟨k, rfl⟩ : ∃ k, fuel = k + 1 := ⟨fuel - 1, by omega⟩
  have hj : ∀ b : Bool, turnspitref04_bit.j0 (k + 1) c b = if b = true then (some 0) else (turnspitref04_bit.l0 k c 1 0) := fun b => rfl
  unfold turnspitref04_bit.f bitv
  cases ho : oddB c
  · have hc := odd_false.1 ho
    obtain ⟨i, rfl⟩ := Int.eq_ofNat_of_zero_le hc.1
    rw [if_neg (by omega), hj, if_neg (by simp; omega)]
    exact bit_l i 0 i k (by omega) (by omega) (by omega)
  · have hc := odd_true.1 ho
    split
    · rw [hj]; rfl
    · rw [hj, if_pos (by simp; omega)]; rfl
theorem has_r (M : Nat) (c : Int) (fuel : Nat) (hf : 65 < fuel) (hM : M < 18446744073709551616) : turnspitref04_Has.f fuel (M : Int) c = some (hasB (M : Int) c) := by
  unfold turnspitref04_Has.f
  rw [bit_f c fuel hf, Option.bind_some, Option.bind_some, hasB_nat]
  unfold bitv
  cases ho : oddB c
  · have hp : 0 < 2 ^ c.toNat := Nat.two_pow_pos _
    simp only [Bool.false_eq_true, if_false, Bool.not_false, Bool.true_and]
    generalize hq : 2 ^ c.toNat = q at hp
    rw [if_neg (by omega), if_neg (by omega), Nat.testBit_eq_decide_div_mod_eq, hq, Int.tdiv_eq_ediv_of_nonneg (by omega), ← Int.natCast_ediv, u64_wrap_nat _ (Nat.lt_of_le_of_lt (Nat.div_le_self _ _) hM), Int.tmod_eq_emod_of_nonneg (Int.natCast_nonneg _)]
    rw [Option.some_inj, Bool.eq_iff_iff]
    simp
    omega
  · rfl
theorem with_r (M : Nat) (c : Int) (fuel : Nat) (hf : 65 < fuel) (hM : M < 18446744073709551616) : turnspitref04_With.f fuel (M : Int) c = some (withN M c : Int) := by
  unfold turnspitref04_With.f withN
  rw [has_r M c fuel hf hM, Option.bind_some, hasB_nat, bit_f c fuel hf, Option.bind_some]
  unfold bitv
  cases ho : oddB c
  · have hc := odd_false.1 ho
    cases ht : M.testBit c.toNat
    · rw [if_neg (by decide), if_neg (by decide), if_neg (by decide), ← Int.natCast_add, add_or _ _ ht, u64_wrap_nat _ (or_lt _ _ hM (pow_lt64 _ (by omega)))]
    · rw [if_pos (by decide), if_neg (by decide), or_same _ _ ht]
  · simp
    exact u64_wrap_nat _ hM
theorem wio_r (M : Nat) (c : Int) (fuel : Nat) (hf : 65 < fuel) (hM : M < 18446744073709551616) : turnspitref04_Without.f fuel (M : Int) c = some (wioN M c : Int) := by
  unfold turnspitref04_Without.f wioN
  rw [has_r M c fuel hf hM, Option.bind_some, hasB_nat, bit_f c fuel hf, Option.bind_some]
  unfold bitv
  cases ho : oddB c
  · have hc := odd_false.1 ho
    have hk : c.toNat < 64 := by omega
    cases ht : M.testBit c.toNat
    · rw [if_neg (by decide), if_neg (by decide)]
      have e : M &&& (18446744073709551615 - 2 ^ c.toNat) = M := by
        apply Nat.eq_of_testBit_eq
        intro i
        rw [testBit_wio _ _ _ hM hk]
        by_cases hi : c.toNat = i
        · subst hi; simp [ht]
        · simp [hi]
      rw [e]
    · rw [if_pos (by decide), if_neg (by decide), if_neg (by decide)]
      have h1 := sub_wio M _ hM hk ht
      have h2 := Nat.ge_two_pow_of_testBit ht
      rw [show ((M : Int) - ((2 ^ c.toNat : Nat) : Int)) = ((M - 2 ^ c.toNat : Nat) : Int) by omega, u64_wrap_nat _ (Nat.lt_of_le_of_lt (Nat.sub_le _ _) hM), h1]
  · rfl

theorem cpusBelow_zero (m : Int) : cpusBelow m (-1) 0 = [] := rfl
theorem hasB_lo (m : Int) (i : Nat) (hi : i < 64) : hasB m (i : Int) = bitB m i := by
  unfold hasB
  rw [decide_eq_true (⟨by omega, by omega⟩ : (0 : Int) ≤ (i : Int) ∧ (i : Int) < 64)]
  rfl
theorem list_l (M : Nat) (hM : M < 18446744073709551616) (d : Nat) : ∀ i fuel : Nat, i + d = 64 → 65 + d < fuel → turnspitref04_List.l0 fuel (M : Int) (cpusBelow M (-1) i) (i : Int) = some (aboveL M (-1)) := by
  induction d with
  | zero =>
    rintro i (_ | fuel) h hf
    · omega
    · obtain rfl : i = 64 := by omega
      unfold turnspitref04_List.l0
      rw [if_neg (by omega)]
      rfl
  | succ d ih =>
    rintro i (_ | fuel) h hf
    · omega
    · unfold turnspitref04_List.l0
      have hl := cpusBelow_length M (-1) i
      have hs := cpusBelow_succ M (-1) i (by omega)
      rw [if_pos (by omega), has_r M _ fuel (by omega) hM, Option.bind_some, hasB_lo _ _ (by omega), wrap64_small (by omega) (by omega)]
      have ih' := ih (i + 1) fuel (by omega) (by omega)
      rw [hs] at ih'
      cases hb : bitB M i
      · rw [hb, if_neg (by decide)] at ih'
        rw [if_neg (by decide)]
        exact ih'
      · rw [hb, if_pos rfl] at ih'
        rw [if_pos rfl, if_pos (by omega)]
        exact ih'
theorem list_r (M fuel : Nat) (hf : 129 < fuel) (hM : M < 18446744073709551616) : turnspitref04_List.f fuel (M : Int) = some (aboveL M (-1)) := by
  unfold turnspitref04_List.f
  exact list_l M hM 64 0 fuel (by omega) (by omega)

theorem filter_map (P Q : Nat → Bool) (l : List Nat) : ((l.filter P).map fun (k : Nat) => (k : Int)).filter (fun x => Q x.toNat) = (l.filter fun k => P k && Q k).map fun (k : Nat) => (k : Int) := by
  induction l with
  | nil => rfl
  | cons x xs ih =>
    by_cases h : P x = true
    · by_cases h2 : Q x = true
      · simp [List.filter_cons, h, h2] at ih ⊢
        exact ih
      · simp [List.filter_cons, h, h2] at ih ⊢
        exact ih
    · simp [List.filter_cons, h] at ih ⊢
      exact ih
theorem above_filter (m c : Int) : (aboveL m (-1)).filter (fun x => decide (c < x)) = aboveL m c := by
  have h := filter_map (fun k => decide (-1 < (k : Int)) && bitB m k) (fun k => decide (c < (k : Int))) (List.range 64)
  have e : (aboveL m (-1)).filter (fun x => decide (c < x)) = (aboveL m (-1)).filter (fun x => decide (c < ((x.toNat : Nat) : Int))) := by
    apply List.filter_congr
    intro x hx
    unfold aboveL cpusBelow at hx
    rw [List.mem_map] at hx
    obtain ⟨k, _, rfl⟩ := hx
    rfl
  rw [e]
  refine Eq.trans h ?_
  unfold aboveL cpusBelow
  congr 1
  apply List.filter_congr
  intro k _
  have : decide (-1 < (k : Int)) = true := decide_eq_true (by omega)
  rw [this, Bool.true_and, Bool.and_comm]
theorem next_l (c : Int) (L : List Int) (hL : L.length ≤ 64) (d : Nat) : ∀ i fuel : Nat, i + d = L.length → d < fuel → turnspitref04_Next.l0 fuel c L (i : Int) = some (match (L.drop i).filter (fun x => decide (c < x)) with | [] => (0, false) | x :: _ => (x, true)) := by
  induction d with
  | zero =>
    rintro i (_ | fuel) h hf
    · omega
    · unfold turnspitref04_Next.l0
      rw [if_neg (by omega), List.drop_of_length_le (by omega)]
      rfl
  | succ d ih =>
    rintro i (_ | fuel) h hf
    · omega
    · unfold turnspitref04_Next.l0
      have hi : i < L.length := by omega
      have hr : rd L (i : Int) = L[i] := by simp [rd, hi]
      rw [if_pos (by omega), if_pos (by omega), hr, List.drop_eq_getElem_cons hi, wrap64_small (by omega) (by omega), List.filter_cons]
      by_cases hg : L[i] > c
      · rw [if_pos hg, if_pos (by simpa using hg)]
      · rw [if_neg hg, if_neg (by simpa using hg)]
        exact ih (i + 1) fuel (by omega) (by omega)
theorem next_far_none (m c : Int) (hc : 64 ≤ c) : aboveL m c = [] := cpusBelow_none m c 64 (by omega)
theorem next_r (M : Nat) (c : Int) (fuel : Nat) (hf : 129 < fuel) (hM : M < 18446744073709551616) : turnspitref04_Next.f fuel (M : Int) c = some (nextOf M c) := by
  unfold turnspitref04_Next.f
  rw [list_r M fuel hf hM, Option.bind_some]
  have h := next_l c (aboveL M (-1)) (aboveL_length _ _) (aboveL M (-1)).length 0 fuel (by omega) (by have := aboveL_length M (-1); omega)
  rw [List.drop_zero, above_filter] at h
  refine h.trans ?_
  unfold nextOf
  by_cases hc : c < 64
  · rw [if_pos hc]
    cases aboveL (M : Int) c <;> rfl
  · rw [if_neg hc, next_far_none _ _ (by omega)]
theorem first_r (M fuel : Nat) (hf : 129 < fuel) (hM : M < 18446744073709551616) : turnspitref04_First.f fuel (M : Int) = some (nextOf M (-1)) := by
  unfold turnspitref04_First.f
  rw [next_r M _ fuel hf hM]
  rfl
theorem round_r (M : Nat) (c : Int) (fuel : Nat) (hf : 129 < fuel) (hM : M < 18446744073709551616) : turnspitref04_Round.f fuel (M : Int) c = some (roundOf M c) := by
  unfold turnspitref04_Round.f roundOf
  rw [next_r M c fuel hf hM, Option.bind_some, first_r M fuel hf hM]
  split <;> rfl
theorem ints_l (L : List Int) (hL : L.length ≤ 9223372036854775806) (d : Nat) : ∀ i fuel : Nat, i + d = L.length → d < fuel → turnspitref04_Ints.l0 fuel L L (i : Int) = some true := by
  induction d with
  | zero =>
    rintro i (_ | fuel) h hf
    · omega
    · unfold turnspitref04_Ints.l0
      rw [if_neg (by omega)]
  | succ d ih =>
    rintro i (_ | fuel) h hf
    · omega
    · unfold turnspitref04_Ints.l0
      rw [if_pos (by omega), if_pos (by omega), if_pos (by omega), if_pos rfl, wrap64_small (by omega) (by omega)]
      exact ih (i + 1) fuel (by omega) (by omega)
theorem ints_r (L : List Int) (fuel : Nat) (hL : L.length ≤ 9223372036854775806) (hf : L.length < fuel) : turnspitref04_Ints.f fuel L L = some true := by
  unfold turnspitref04_Ints.f
  rw [if_pos rfl]
  exact ints_l L hL L.length 0 fuel (by omega) hf
/-! Of, All -/
theorem of_l (l : List Int) (hl : l.length ≤ 9223372036854775806) (d : Nat) : ∀ i fuel : Nat, i + d = l.length → 65 + d < fuel → (l.take i).any oddB = false →
    turnspitref04_Of.l0 fuel l (ofN (l.take i) : Int) (i : Int) = some (if l.any oddB then (0, 1) else ((ofN l : Int), 0)) := by
  induction d with
  | zero =>
    rintro i (_ | fuel) h hf ha
    · omega
    · unfold turnspitref04_Of.l0
      rw [List.take_of_length_le (by omega)] at ha ⊢
      rw [if_neg (by omega), ha]
      rfl
  | succ d ih =>
    rintro i (_ | fuel) h hf ha
    · omega
    · unfold turnspitref04_Of.l0
      have hi : i < l.length := by omega
      have hr : rd l (i : Int) = l.getD i 0 := by simp [rd]
      have hs := any_take_succ l i hi
      have hs2 := ofN_take_succ l i hi
      have hlt := ofN_lt _ ha
      rw [if_pos (by omega), if_pos (by omega), hr, bit_f _ fuel (by omega), Option.bind_some, with_r _ _ fuel (by omega) hlt, Option.bind_some, wrap64_small (by omega) (by omega)]
      generalize hx : l.getD i 0 = x at hs hs2
      rw [ha, Bool.false_or] at hs
      cases ho : oddB x
      · rw [ho] at hs
        have hb : ¬ ((bitv x : Int) = 0) := by
          unfold bitv
          rw [ho, if_neg (by decide)]
          have := Nat.two_pow_pos x.toNat
          omega
        rw [if_neg hb]
        have e : withN (ofN (l.take i)) x = ofN (l.take (i + 1)) := by
          unfold withN
          rw [ho, if_neg (by decide), hs2]
        rw [e]
        exact ih (i + 1) fuel (by omega) (by omega) hs
      · rw [ho] at hs
        have hb : (bitv x : Int) = 0 := by
          unfold bitv
          rw [ho, if_pos rfl]
          rfl
        rw [if_pos hb]
        have : l.any oddB = true := by
          rw [List.any_eq_true] at hs ⊢
          obtain ⟨z, hz, hz2⟩ := hs
          exact ⟨z, List.mem_of_mem_take hz, hz2⟩
        rw [this]
        rfl
theorem of_r (l : List Int) (fuel : Nat) (hl : l.length ≤ 9223372036854775806) (hf : 65 + l.length < fuel) : turnspitref04_Of.f fuel l = some (if l.any oddB then (0, 1) else ((ofN l : Int), 0)) := by
  unfold turnspitref04_Of.f
  exact of_l l hl l.length 0 fuel (by omega) hf rfl
theorem of_f (l : List Int) (hl : l.length ≤ 9223372036854775806) : mask_Of.f l = some (if l.any oddB then (0, 1) else ((ofN l : Int), 0)) := by
  unfold mask_Of.f
  rw [if_pos hl]
  split <;> rfl
theorem all_l (n : Int) (d : Nat) : ∀ i fuel : Nat, i + d = 64 → 65 + d < fuel → (i : Int) ≤ max n 0 → turnspitref04_All.l0 fuel n ((2 ^ i - 1 : Nat) : Int) (i : Int) = some (allN n : Int) := by
  induction d with
  | zero =>
    rintro i (_ | fuel) h hf hi
    · omega
    · obtain rfl : i = 64 := by omega
      unfold turnspitref04_All.l0 allN
      rw [if_neg (by omega : ¬ n ≤ 0), if_pos (by omega : n ≥ 64)]
      split
      · rw [if_neg (by omega)]
      · rfl
  | succ d ih =>
    rintro i (_ | fuel) h hf hi
    · omega
    · unfold turnspitref04_All.l0
      by_cases hin : (i : Int) < n
      · have hp := pow_succ_nat i
        have hpos := Nat.two_pow_pos i
        have hl := pow_lt64 i (by omega)
        rw [if_pos hin, if_pos (by omega), with_r _ _ fuel (by omega) (by omega), Option.bind_some, wrap64_small (by omega) (by omega)]
        have ho : oddB (i : Int) = false := odd_false.2 ⟨by omega, by omega⟩
        have ht : (2 ^ i - 1).testBit i = false := by rw [Nat.testBit_two_pow_sub_one]; simp
        have e : withN (2 ^ i - 1) (i : Int) = 2 ^ (i + 1) - 1 := by
          unfold withN
          rw [ho, if_neg (by decide), Int.toNat_natCast, ← add_or _ _ ht]
          omega
        rw [e]
        exact ih (i + 1) fuel (by omega) (by omega) (by omega)
      · rw [if_neg hin]
        unfold allN
        split
        · obtain rfl : i = 0 := by omega
          rfl
        · rw [if_neg (by omega)]
          obtain rfl : n = (i : Int) := by omega
          rfl
theorem all_r (n : Int) (fuel : Nat) (hf : 129 < fuel) : turnspitref04_All.f fuel n = some (allN n : Int) := by
  unfold turnspitref04_All.f
  exact all_l n 64 0 fuel (by omega) (by omega) (by omega)
end Go.Proofs.Ytdghjigeddphaaa.Pure

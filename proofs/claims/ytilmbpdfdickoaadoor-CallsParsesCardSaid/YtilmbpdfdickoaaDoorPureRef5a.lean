/- Chapter 05's reference, what both halves want: plain. -/
import Derived.Test.YtilmbpdfdickoaaDoorMC
import Derived.Test.YtilmbpdfdickoaaDoorPrintF53
import Derived.Test.YtilmbpdfdickoaaDoorPrintF54
namespace Go.Proofs.YtilmbpdfdickoaaDoor.Pure.R5
open Go Go.RowKit Go.Proofs.YtilmbpdfdickoaaDoor Go.Proofs.YtilmbpdfdickoaaDoor.Pure Go.Proofs.YtilmbpdfdickoaaDoor.Given Go.Proofs.YtilmbpdfdickoaaDoor.Print Go.Proofs.YtilmbpdfdickoaaDoorW.PrintWords Go.Proofs.YtilmbpdfdickoaaDoorW.PrintLast Go.Proofs.YtilmbpdfdickoaaDoorW.PrintMore
set_option linter.unusedVariables false
set_option linter.unusedSimpArgs false
def oddB (c : Int) : Bool := !decide (0 ≤ c ∧ c < 64)
theorem or_lt (a b : Nat) (ha : a < 18446744073709551616) (hb : b < 18446744073709551616) : a ||| b < 18446744073709551616 := Nat.or_lt_two_pow (n := 64) ha hb
theorem wrap64_small {n : Int} (h0 : -9223372036854775808 ≤ n) (h1 : n ≤ 9223372036854775807) : wrap64 n = n := by
  unfold wrap64
  omega
theorem pow_succ_nat (k : Nat) : 2 ^ (k + 1) = 2 ^ k * 2 := Nat.pow_succ ..
theorem add_or (M k : Nat) (h : M.testBit k = false) : M + 2 ^ k = M ||| 2 ^ k := by
  rw [Nat.testBit_eq_decide_div_mod_eq, decide_eq_false_iff_not] at h
  have hp := pow_succ_nat k
  have hpos : 0 < 2 ^ k := Nat.two_pow_pos k
  obtain ⟨q, r, hr, hM⟩ : ∃ q r, r < 2 ^ k ∧ M = 2 ^ (k + 1) * q + r := by
    refine ⟨M / 2 ^ k / 2, M % 2 ^ k, Nat.mod_lt _ hpos, ?_⟩
    have e1 := Nat.div_add_mod M (2 ^ k)
    have e2 : M / 2 ^ k = 2 * (M / 2 ^ k / 2) := by omega
    calc M = 2 ^ k * (M / 2 ^ k) + M % 2 ^ k := e1.symm
      _ = 2 ^ k * (2 * (M / 2 ^ k / 2)) + M % 2 ^ k := by rw [← e2]
      _ = 2 ^ (k + 1) * (M / 2 ^ k / 2) + M % 2 ^ k := by rw [hp, Nat.mul_assoc]
  have h1 : 2 ^ (k + 1) * q + r = 2 ^ (k + 1) * q ||| r := Nat.two_pow_add_eq_or_of_lt (by omega) q
  have h2 : 2 ^ (k + 1) * q + (2 ^ k * 1 + r) = 2 ^ (k + 1) * q ||| (2 ^ k * 1 + r) := Nat.two_pow_add_eq_or_of_lt (by omega) q
  have h3 : 2 ^ k * 1 + r = 2 ^ k * 1 ||| r := Nat.two_pow_add_eq_or_of_lt hr 1
  rw [Nat.mul_one] at h2 h3
  rw [hM]
  have e : 2 ^ (k + 1) * q + r + 2 ^ k = 2 ^ (k + 1) * q + (2 ^ k + r) := by omega
  rw [e, h2, h3, h1, Nat.or_assoc, Nat.or_comm r]
theorem or_same (M k : Nat) (h : M.testBit k = true) : M ||| 2 ^ k = M := by
  apply Nat.eq_of_testBit_eq
  intro i
  rw [Nat.testBit_or, Nat.testBit_two_pow]
  by_cases hi : k = i
  · subst hi; simp [h]
  · simp [hi]
def withN (M : Nat) (c : Int) : Nat := if oddB c then M else M ||| 2 ^ c.toNat
theorem odd_false {c : Int} : oddB c = false ↔ 0 ≤ c ∧ c < 64 := by simp [oddB]
theorem odd_true {c : Int} : oddB c = true ↔ ¬ (0 ≤ c ∧ c < 64) := by
  unfold oddB
  rw [Bool.not_eq_true', decide_eq_false_iff_not]
theorem hasB_nat (M : Nat) (c : Int) : hasB (M : Int) c = (!oddB c && M.testBit c.toNat) := by
  unfold hasB oddB
  rw [bitB_nat, Bool.not_not]
def bitv (c : Int) : Nat := if oddB c then 0 else 2 ^ c.toNat
theorem bit_l (d : Nat) : ∀ i c fuel : Nat, i + d = c → c < 64 → d < fuel → turnspitref04_bit.l0 fuel (c : Int) ((2 ^ i : Nat) : Int) (i : Int) = some ((2 ^ c : Nat) : Int) := by
  induction d with
  | zero =>
    rintro i c (_ | fuel) h hc hf
    · omega
    · obtain rfl : i = c := by omega
      unfold turnspitref04_bit.l0
      rw [if_neg (by omega)]
  | succ d ih =>
    rintro i c (_ | fuel) h hc hf
    · omega
    · unfold turnspitref04_bit.l0
      have hp := pow_succ_nat i
      have hl := pow_lt64 (i + 1) (by omega)
      rw [if_pos (by omega), wrap64_small (by omega) (by omega), show (((2 ^ i : Nat) : Int) * 2) = ((2 ^ (i + 1) : Nat) : Int) by omega, u64_wrap_nat _ hl]
      exact ih (i + 1) c fuel (by omega) hc (by omega)
theorem bit_f (c : Int) (fuel : Nat) (hf : 65 < fuel) : turnspitref04_bit.f fuel c = some (bitv c : Int) := by
  obtain ⟨k, rfl⟩ : ∃ k, fuel = k + 1 := ⟨fuel - 1, by omega⟩
  have hj : ∀ b : Bool, turnspitref04_bit.j0 (k + 1) c b = if b = true then (some 0) else (turnspitref04_bit.l0 k c 1 0) := fun b => rfl
  unfold turnspitref04_bit.f bitv
  cases ho : oddB c
  · have hc := odd_false.1 ho
    obtain ⟨i, rfl⟩ := Int.eq_ofNat_of_zero_le hc.1
    rw [if_neg (by omega), hj, if_neg (by simp; omega)]
    exact bit_l i 0 i k (by omega) (by omega) (by omega)
  · have hc := odd_true.1 ho
    split
    · rw [hj]; rfl
    · rw [hj, if_pos (by simp; omega)]; rfl
theorem has_r (M : Nat) (c : Int) (fuel : Nat) (hf : 65 < fuel) (hM : M < 18446744073709551616) : turnspitref04_Has.f fuel (M : Int) c = some (hasB (M : Int) c) := by
  unfold turnspitref04_Has.f
  rw [bit_f c fuel hf, Option.bind_some, Option.bind_some, hasB_nat]
  unfold bitv
  cases ho : oddB c
  · have hp : 0 < 2 ^ c.toNat := Nat.two_pow_pos _
    simp only [Bool.false_eq_true, if_false, Bool.not_false, Bool.true_and]
    generalize hq : 2 ^ c.toNat = q at hp
    rw [if_neg (by omega), if_neg (by omega), Nat.testBit_eq_decide_div_mod_eq, hq, Int.tdiv_eq_ediv_of_nonneg (by omega), ← Int.natCast_ediv, u64_wrap_nat _ (Nat.lt_of_le_of_lt (Nat.div_le_self _ _) hM), Int.tmod_eq_emod_of_nonneg (Int.natCast_nonneg _)]
    rw [Option.some_inj, Bool.eq_iff_iff]
    simp
    omega
  · rfl
def ba (l : List UInt8) : ByteArray := ⟨l.toArray⟩
theorem ba_list (l : List UInt8) : (ba l).toList = l := by rw [ByteArray.toList_eq]; rfl
theorem ba_data (l : List UInt8) : (ba l).data.toList = l := rfl
theorem ba_size (l : List UInt8) : (ba l).size = l.length := rfl
theorem ba_of (s : ByteArray) : s = ba s.data.toList := rfl
theorem ba_app (a b : List UInt8) : ba a ++ ba b = ba (a ++ b) := by
  apply ByteArray.ext
  apply Array.toList_inj.1
  simp [ba]
theorem ba_inj {a b : List UInt8} : ba a = ba b ↔ a = b := ⟨fun h => by have := congrArg (fun s => s.data.toList) h; exact this, fun h => by rw [h]⟩
theorem ba_extract (l : List UInt8) (i j : Nat) : (ba l).extract i j = ba ((l.drop i).take (j - i)) := by
  apply ByteArray.ext
  apply Array.toList_inj.1
  simp [ba, List.extract_eq_take_drop]
theorem bt_ba (l : List UInt8) (i : Nat) (h : i < l.length) : bt (ba l) (i : Int) = ((l[i]).toNat : Int) := by
  unfold bt
  rw [dif_pos (show ((i : Nat) : Int).toNat < (ba l).size by rw [Int.toNat_natCast]; exact h)]
  rfl
/-! ### digits -/
theorem dig_one (n : Nat) (h : n < 10) (k : Nat) : turnspitref05_digits.f (k + 1) (n : Int) = some (ba (dg n)) := by
  have key : ∀ m : Fin 10, (⟨#[48, 49, 50, 51, 52, 53, 54, 55, 56, 57]⟩ : ByteArray).extract m.val (m.val + 1) = ba (dg m.val) := by decide
  rw [turnspitref05_digits.f, wrap64_small (by omega) (by omega), if_pos (by omega), if_pos (by omega), if_pos (by omega), if_pos (by omega), show (((n : Int) + 1).toNat) = n + 1 by omega, Int.toNat_natCast]
  exact congrArg some (key ⟨n, h⟩)
theorem digits_r (n : Nat) (h : n < 100) (k : Nat) : turnspitref05_digits.f (k + 2) (n : Int) = some (ba (dg n)) := by
  by_cases h10 : n < 10
  · exact dig_one n h10 (k + 1)
  · have e1 : Int.tdiv (n : Int) 10 = ((n / 10 : Nat) : Int) := by rw [Int.tdiv_eq_ediv_of_nonneg (by omega)]; rfl
    have e2 : Int.tmod (n : Int) 10 = ((n % 10 : Nat) : Int) := by rw [Int.tmod_eq_emod_of_nonneg (by omega)]; rfl
    have e3 : dg (n / 10) ++ dg (n % 10) = dg n := by
      unfold dg
      rw [if_pos (by omega), if_pos (by omega), if_neg h10]
      rfl
    rw [turnspitref05_digits.f, if_neg (by omega), e1, wrap64_small (by omega) (by omega), dig_one (n / 10) (by omega) k, Option.bind_some, e2, dig_one (n % 10) (by omega) k, Option.bind_some, ba_app, e3]
    rw [if_pos]
    have h1 := dg_len (n / 10)
    have h2 := dg_len (n % 10)
    rw [ba_size, ba_size]
    omega
/-! ### split -/
end Go.Proofs.YtilmbpdfdickoaaDoor.Pure.R5

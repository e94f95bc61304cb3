/- The reference of chapter 05 tells what the program tells: plain. -/
import Derived.Test.YthnbmepdolfbnaaDoorGQ
import Derived.Test.YthnbmepdolfbnaaDoorGV
import Derived.Test.YthnbmepdolfbnaaDoorPrintF16
import Derived.Test.YthnbmepdolfbnaaDoorPrintF15
import Derived.Test.YthnbmepdolfbnaaDoorPrintF17
namespace Go.Proofs.YthnbmepdolfbnaaDoor.Pure
open Go.RowKit Go.Proofs.YthnbmepdolfbnaaDoor Go.Proofs.YthnbmepdolfbnaaDoor.Given Go.Proofs.YthnbmepdolfbnaaDoor.Print Go.Proofs.YthnbmepdolfbnaaDoorW.PrintWords Go.Proofs.YthnbmepdolfbnaaDoorW.PrintLast Go.Proofs.YthnbmepdolfbnaaDoorW.PrintMore
set_option linter.unusedVariables false
set_option linter.unusedSimpArgs false
def oddB (c : Int) : Bool := !decide (0 ≤ c ∧ c < 64)
theorem or_lt (a b : Nat) (ha : a < 18446744073709551616) (hb : b < 18446744073709551616) : a ||| b < 18446744073709551616 := Nat.or_lt_two_pow (n := 64) ha hb
theorem wrap64_small {n : Int} (h0 : -9223372036854775808 ≤ n) (h1 : n ≤ 9223372036854775807) : wrap64 n = n := by
  unfold wrap64
  omega
theorem pow_succ_nat (k : Nat) : 2 ^ (k + 1) = 2 ^ k * 2 := Nat.pow_succ ..
theorem add_or (M k : Nat) (h : M.testBit k = false) : M + 2 ^ k = M ||| 2 ^ k := by
  rw [Nat.testBit_eq_decide_div_mod_eq, decide_eq_false_iff_not] at h
  have hp := pow_succ_nat k
  have hpos : 0 < 2 ^ k := Nat.two_pow_pos k
  obtain ⟨q, r, hr, hM⟩ : ∃ q r, r < 2 ^ k ∧ M = 2 ^ (k + 1) * q + r := by
    refine ⟨M / 2 ^ k / 2, M % 2 ^ k, Nat.mod_lt _ hpos, ?_⟩
    have e1 := Nat.div_add_mod M (2 ^ k)
    have e2 : M / 2 ^ k = 2 * (M / 2 ^ k / 2) := by omega
    calc M = 2 ^ k * (M / 2 ^ k) + M % 2 ^ k := e1.symm
      _ = 2 ^ k * (2 * (M / 2 ^ k / 2)) + M % 2 ^ k := by rw [← e2]
      _ = 2 ^ (k + 1) * (M / 2 ^ k / 2) + M % 2 ^ k := by rw [hp, Nat.mul_assoc]
  have h1 : 2 ^ (k + 1) * q + r = 2 ^ (k + 1) * q ||| r := Nat.two_pow_add_eq_or_of_lt (by omega) q
  have h2 : 2 ^ (k + 1) * q + (2 ^ k * 1 + r) = 2 ^ (k + 1) * q ||| (2 ^ k * 1 + r) := Nat.two_pow_add_eq_or_of_lt (by omega) q
  have h3 : 2 ^ k * 1 + r = 2 ^ k * 1 ||| r := Nat.two_pow_add_eq_or_of_lt hr 1
  rw [Nat.mul_one] at h2 h3
  rw [hM]
  have e : 2 ^ (k + 1) * q + r + 2 ^ k = 2 ^ (k + 1) * q + (2 ^ k + r) := by omega
  rw [e, h2, h3, h1, Nat.or_assoc, Nat.or_comm r]
theorem or_same (M k : Nat) (h : M.testBit k = true) : M ||| 2 ^ k = M := by
  apply Nat.eq_of_testBit_eq
  intro i
  rw [Nat.testBit_or, Nat.testBit_two_pow]
  by_cases hi : k = i
  · subst hi; simp [h]
  · simp [hi]
def withN (M : Nat) (c : Int) : Nat := if oddB c then M else M ||| 2 ^ c.toNat
theorem odd_false {c : Int} : oddB c = false ↔ 0 ≤ c ∧ c < 64 := by simp [oddB]
theorem odd_true {c : Int} : oddB c = true ↔ ¬ (0 ≤ c ∧ c < 64) := by
  unfold oddB
  rw [Bool.not_eq_true', decide_eq_false_iff_not]
theorem hasB_nat (M : Nat) (c : Int) : hasB (M : Int) c = (!oddB c && M.testBit c.toNat) := by
  unfold hasB oddB
  rw [bitB_nat, Bool.not_not]
def bitv (c : Int) : Nat := if oddB c then 0 else 2 ^ c.toNat
theorem bit_l (d : Nat) : ∀ i c fuel : Nat, i + d = c → c < 64 → d < fuel → turnspitref04_bit.l0 fuel (c : Int) ((2 ^ i : Nat) : Int) (i : Int) = some ((2 ^ c : Nat) : Int) := by
  induction d with
  | zero =>
    rintro i c (_ | fuel) h hc hf
    · omega
    · obtain rfl : i = c := by omega
      unfold turnspitref04_bit.l0
      rw [if_neg (by omega)]
  | succ d ih =>
    rintro i c (_ | fuel) h hc hf
    · omega
    · unfold turnspitref04_bit.l0
      have hp := pow_succ_nat i
      have hl := pow_lt64 (i + 1) (by omega)
      rw [if_pos (by omega), wrap64_small (by omega) (by omega), show (((2 ^ i : Nat) : Int) * 2) = ((2 ^ (i + 1) : Nat) : Int) by omega, u64_wrap_nat _ hl]
      exact ih (i + 1) c fuel (by omega) hc (by omega)
theorem bit_f (c : Int) (fuel : Nat) (hf : 65 < fuel) : turnspitref04_bit.f fuel c = some (bitv c : Int) := by
  obtain ⟨k, rfl⟩ : ∃ k, fuel = k + 1 := ⟨fuel - 1, by omega⟩
  have hj : ∀ b : Bool, turnspitref04_bit.j0 (k + 1) c b = if b = true then (some 0) else (turnspitref04_bit.l0 k c 1 0) := fun b => rfl
  unfold turnspitref04_bit.f bitv
  cases ho : oddB c
  · have hc := odd_false.1 ho
    obtain ⟨i, rfl⟩ := Int.eq_ofNat_of_zero_le hc.1
    rw [if_neg (by omega), hj, if_neg (by simp; omega)]
    exact bit_l i 0 i k (by omega) (by omega) (by omega)
  · have hc := odd_true.1 ho
    split
    · rw [hj]; rfl
    · rw [hj, if_pos (by simp; omega)]; rfl
theorem has_r (M : Nat) (c : Int) (fuel : Nat) (hf : 65 < fuel) (hM : M < 18446744073709551616) : turnspitref04_Has.f fuel (M : Int) c = some (hasB (M : Int) c) := by
  unfold turnspitref04_Has.f
  rw [bit_f c fuel hf, Option.bind_some, Option.bind_some, hasB_nat]
  unfold bitv
  cases ho : oddB c
  · have hp : 0 < 2 ^ c.toNat := Nat.two_pow_pos _
    simp only [Bool.false_eq_true, if_false, Bool.not_false, Bool.true_and]
    generalize hq : 2 ^ c.toNat = q at hp
    rw [if_neg (by omega), if_neg (by omega), Nat.testBit_eq_decide_div_mod_eq, hq, Int.tdiv_eq_ediv_of_nonneg (by omega), ← Int.natCast_ediv, u64_wrap_nat _ (Nat.lt_of_le_of_lt (Nat.div_le_self _ _) hM), Int.tmod_eq_emod_of_nonneg (Int.natCast_nonneg _)]
    rw [Option.some_inj, Bool.eq_iff_iff]
    simp
    omega
  · rfl
theorem with_r (M : Nat) (c : Int) (fuel : Nat) (hf : 65 < fuel) (hM : M < 18446744073709551616) : turnspitref04_With.f fuel (M : Int) c = some (withN M c : Int) := by
  unfold turnspitref04_With.f withN
  rw [has_r M c fuel hf hM, Option.bind_some, hasB_nat, bit_f c fuel hf, Option.bind_some]
  unfold bitv
  cases ho : oddB c
  · have hc := odd_false.1 ho
    cases ht : M.testBit c.toNat
    · rw [if_neg (by decide), if_neg (by decide), if_neg (by decide), ← Int.natCast_add, add_or _ _ ht, u64_wrap_nat _ (or_lt _ _ hM (pow_lt64 _ (by omega)))]
    · rw [if_pos (by decide), if_neg (by decide), or_same _ _ ht]
  · simp
    exact u64_wrap_nat _ hM
/-! ### Strings as lists -/
def ba (l : List UInt8) : ByteArray := ⟨l.toArray⟩
theorem ba_list (l : List UInt8) : (ba l).toList = l := by rw [ByteArray.toList_eq]; rfl
theorem ba_data (l : List UInt8) : (ba l).data.toList = l := rfl
theorem ba_size (l : List UInt8) : (ba l).size = l.length := rfl
theorem ba_of (s : ByteArray) : s = ba s.data.toList := rfl
theorem ba_app (a b : List UInt8) : ba a ++ ba b = ba (a ++ b) := by
  apply ByteArray.ext
  apply Array.toList_inj.1
  simp [ba]
theorem ba_inj {a b : List UInt8} : ba a = ba b ↔ a = b := ⟨fun h => by have := congrArg (fun s => s.data.toList) h; exact this, fun h => by rw [h]⟩
theorem ba_extract (l : List UInt8) (i j : Nat) : (ba l).extract i j = ba ((l.drop i).take (j - i)) := by
  apply ByteArray.ext
  apply Array.toList_inj.1
  simp [ba, List.extract_eq_take_drop]
theorem bt_ba (l : List UInt8) (i : Nat) (h : i < l.length) : bt (ba l) (i : Int) = ((l[i]).toNat : Int) := by
  unfold bt
  rw [dif_pos (show ((i : Nat) : Int).toNat < (ba l).size by rw [Int.toNat_natCast]; exact h)]
  rfl
/-! ### digits -/
theorem dig_one (n : Nat) (h : n < 10) (k : Nat) : turnspitref05_digits.f (k + 1) (n : Int) = some (ba (dg n)) := by
  have key : ∀ m : Fin 10, (⟨#[48, 49, 50, 51, 52, 53, 54, 55, 56, 57]⟩ : ByteArray).extract m.val (m.val + 1) = ba (dg m.val) := by decide
  rw [turnspitref05_digits.f, wrap64_small (by omega) (by omega), if_pos (by omega), if_pos (by omega), if_pos (by omega), if_pos (by omega), show (((n : Int) + 1).toNat) = n + 1 by omega, Int.toNat_natCast]
  exact congrArg some (key ⟨n, h⟩)
theorem digits_r (n : Nat) (h : n < 100) (k : Nat) : turnspitref05_digits.f (k + 2) (n : Int) = some (ba (dg n)) := by
  by_cases h10 : n < 10
  · exact dig_one n h10 (k + 1)
  · have e1 : Int.tdiv (n : Int) 10 = ((n / 10 : Nat) : Int) := by rw [Int.tdiv_eq_ediv_of_nonneg (by omega)]; rfl
    have e2 : Int.tmod (n : Int) 10 = ((n % 10 : Nat) : Int) := by rw [Int.tmod_eq_emod_of_nonneg (by omega)]; rfl
    have e3 : dg (n / 10) ++ dg (n % 10) = dg n := by
      unfold dg
      rw [if_pos (by omega), if_pos (by omega), if_neg h10]
      rfl
    rw [turnspitref05_digits.f, if_neg (by omega), e1, wrap64_small (by omega) (by omega), dig_one (n / 10) (by omega) k, Option.bind_some, e2, dig_one (n % 10) (by omega) k, Option.bind_some, ba_app, e3]
    rw [if_pos]
    have h1 := dg_len (n / 10)
    have h2 := dg_len (n % 10)
    rw [ba_size, ba_size]
    omega
/-! ### split -/
def headPut (h : List UInt8) : List (List UInt8) → List (List UInt8)
  | [] => [h]
  | x :: r => (h ++ x) :: r
theorem split_l (l : List UInt8) (hl : l.length ≤ 1000000) (c : UInt8) : ∀ d i f k : Nat, ∀ out : List ByteArray, i + d = l.length → f ≤ i → d < k → out.length ≤ i →
    turnspitref05_split.l0 k (ba l) (c.toNat : Int) out (f : Int) (i : Int) = some (out ++ (headPut ((l.drop f).take (i - f)) (splitL c (l.drop i))).map ba) := by
  intro d
  induction d with
  | zero =>
    intro i f k out hi hf hk ho
    obtain ⟨k, rfl⟩ : ∃ m, k = m + 1 := ⟨k - 1, by omega⟩
    obtain rfl : i = l.length := by omega
    rw [turnspitref05_split.l0, if_neg (by rw [ba_size]; omega), if_pos (by omega), if_pos (by rw [ba_size]; omega), if_pos (by omega), Int.toNat_natCast, ba_size, ba_extract, List.drop_length]
    show some (out ++ [ba _]) = some (out ++ [ba (_ ++ [])])
    rw [List.append_nil]
  | succ d ih =>
    intro i f k out hi hf hk ho
    obtain ⟨k, rfl⟩ : ∃ m, k = m + 1 := ⟨k - 1, by omega⟩
    have hil : i < l.length := by omega
    have ew : wrap64 ((i : Int) + 1) = ((i + 1 : Nat) : Int) := by rw [wrap64_small (by omega) (by omega)]; rfl
    rw [turnspitref05_split.l0, if_pos (by rw [ba_size]; omega), if_pos (by omega), bt_ba l i hil, ew, List.drop_eq_getElem_cons hil, splitL]
    by_cases hc : l[i] = c
    · rw [if_pos (by rw [hc]), if_pos (by omega), if_pos (by omega), if_pos (by rw [ba_size]; omega), if_pos (by omega), Int.toNat_natCast, Int.toNat_natCast, ba_extract, if_pos hc]
      rw [ih (i + 1) (i + 1) k _ (by omega) (Nat.le_refl _) (by omega) (by rw [List.length_append, List.length_singleton]; omega)]
      have hs := splitL_ne c (l.drop (i + 1))
      cases hq : splitL c (l.drop (i + 1)) with
      | nil => exact absurd hq hs
      | cons u v => simp [headPut]
    · rw [if_neg (fun h => hc (UInt8.toNat_inj.1 (by omega))), if_neg hc, ih (i + 1) f k out (by omega) (by omega) (by omega) (by omega)]
      have ht : (l.drop f).take (i + 1 - f) = (l.drop f).take (i - f) ++ [l[i]] := by
        rw [show i + 1 - f = (i - f) + 1 by omega, List.take_succ_eq_append_getElem (by simp; omega)]
        congr 2
        rw [List.getElem_drop]
        congr 1
        omega
      rw [ht]
      have hs := splitL_ne c (l.drop (i + 1))
      cases hq : splitL c (l.drop (i + 1)) with
      | nil => exact absurd hq hs
      | cons u v => simp [headPut]
theorem split_r (l : List UInt8) (hl : l.length ≤ 1000000) (c : UInt8) (k : Nat) (hk : l.length < k) : turnspitref05_split.f k (ba l) (c.toNat : Int) = some ((splitL c l).map ba) := by
  unfold turnspitref05_split.f
  have h := split_l l hl c l.length 0 0 k [] (by omega) (Nat.le_refl _) hk (by simp)
  rw [show ((0 : Nat) : Int) = 0 from rfl] at h
  rw [h]
  have hs := splitL_ne c l
  cases hq : splitL c l with
  | nil => exact absurd hq hs
  | cons u v => simp [headPut, hq]
/-! ### number -/
def numI (l : List UInt8) : Int := match numV l with
  | some n => (n : Int)
  | none => -1
theorem dg_of1 (a : UInt8) (h : isD a = true) : dg (a.toNat - 48) = [a] := by
  have := (isD_iff a).1 h
  unfold dg
  rw [if_pos (by omega), show 48 + (a.toNat - 48) = a.toNat by omega, UInt8.ofNat_toNat]
theorem dg_of2 (a b : UInt8) (ha : isD a = true) (hb : isD b = true) : dg (10 * (a.toNat - 48) + (b.toNat - 48)) = [a, b] ↔ a.toNat ≠ 48 := by
  have h1 := (isD_iff a).1 ha
  have h2 := (isD_iff b).1 hb
  unfold dg
  constructor
  · intro h h48
    rw [if_pos (by omega)] at h
    have := congrArg List.length h
    simp at this
  · intro h48
    rw [if_neg (by omega), show 48 + (10 * (a.toNat - 48) + (b.toNat - 48)) / 10 = a.toNat by omega, show 48 + (10 * (a.toNat - 48) + (b.toNat - 48)) % 10 = b.toNat by omega, UInt8.ofNat_toNat, UInt8.ofNat_toNat]
theorem num_bad (k : Nat) (l : List UInt8) (n i : Nat) (h : i < l.length) (hb : isD l[i] = false ∨ 1 < i) : turnspitref05_number.l0 (k + 1) (ba l) (n : Int) (i : Int) = some (-1) := by
  rw [turnspitref05_number.l0, if_pos (by rw [ba_size]; omega), if_pos (by omega), bt_ba l i h]
  by_cases h1 : ((l[i]).toNat : Int) < 48
  · rw [if_pos h1]
  · rw [if_neg h1]
    by_cases h2 : ((l[i]).toNat : Int) > 57
    · rw [if_pos h2]
    · rw [if_neg h2, if_pos]
      rcases hb with hb | hb
      · have := (isD_iff l[i]).2 ⟨by omega, by omega⟩
        rw [hb] at this; cases this
      · omega
theorem num_dig (k : Nat) (l : List UInt8) (n i : Nat) (h : i < l.length) (hd : isD l[i] = true) (hi : i ≤ 1) (hn : n ≤ 100) : turnspitref05_number.l0 (k + 1) (ba l) (n : Int) (i : Int) = turnspitref05_number.l0 k (ba l) ((n * 10 + ((l[i]).toNat - 48) : Nat) : Int) ((i + 1 : Nat) : Int) := by
  have := (isD_iff l[i]).1 hd
  rw [turnspitref05_number.l0, if_pos (by rw [ba_size]; omega), if_pos (by omega), bt_ba l i h, if_neg (by omega), if_neg (by omega), if_neg (by omega)]
  congr 1
  · rw [wrap64_small (n := (n : Int) * 10) (by omega) (by omega), wrap64_small (n := ((l[i]).toNat : Int)) (by omega) (by omega), wrap64_small (n := (n : Int) * 10 + ((l[i]).toNat : Int)) (by omega) (by omega), wrap64_small (by omega) (by omega)]
    omega
  · rw [wrap64_small (by omega) (by omega)]; rfl
theorem num_end (k : Nat) (l : List UInt8) (n : Nat) (h0 : l ≠ []) (hn : n < 100) : turnspitref05_number.l0 (k + 3) (ba l) (n : Int) (l.length : Int) = some (if 63 < n then -1 else if dg n = l then (n : Int) else -1) := by
  rw [turnspitref05_number.l0, if_neg (by rw [ba_size]; omega), if_neg (by rw [ba_list]; exact h0)]
  by_cases h63 : 63 < n
  · rw [if_pos (by omega), if_pos h63]
  · rw [if_neg (by omega), if_neg h63, digits_r n hn k, Option.bind_some, ba_list, ba_list]
    by_cases he : dg n = l
    · rw [if_pos he, if_pos he]
    · rw [if_neg he, if_neg he]
theorem number_r (l : List UInt8) (k : Nat) (hk : 10 ≤ k) : turnspitref05_number.f k (ba l) = some (numI l) := by
  obtain ⟨k, rfl⟩ : ∃ m, k = m + 6 := ⟨k - 6, by omega⟩
  unfold turnspitref05_number.f
  match l with
  | [] =>
    rw [turnspitref05_number.l0, if_neg (by rw [ba_size]; simp), if_pos (by rw [ba_list])]
    rfl
  | [a] =>
    cases ha : isD a with
    | false =>
      have h := num_bad (k + 5) [a] 0 0 (by simp) (.inl ha)
      rw [show ((0 : Nat) : Int) = 0 from rfl] at h
      rw [h]
      unfold numI
      rw [numV1, ha]
      rfl
    | true =>
      have h := num_dig (k + 5) [a] 0 0 (by simp) ha (by omega) (by omega)
      have had := (isD_iff a).1 ha
      rw [show ((0 : Nat) : Int) = 0 from rfl] at h
      rw [h]
      have h2 := num_end (k + 2) [a] (0 * 10 + (a.toNat - 48)) (by simp) (by omega)
      refine Eq.trans h2 ?_
      have e0 : 0 * 10 + (a.toNat - 48) = a.toNat - 48 := by omega
      rw [e0, if_neg (by omega), if_pos (dg_of1 a ha)]
      unfold numI
      rw [numV1, ha]
      rfl
  | [a, b] =>
    cases ha : isD a with
    | false =>
      have h := num_bad (k + 5) [a, b] 0 0 (by simp) (.inl ha)
      rw [show ((0 : Nat) : Int) = 0 from rfl] at h
      rw [h]
      unfold numI
      rw [numV_bad (x := a) (by simp) ha]
    | true =>
      have h := num_dig (k + 5) [a, b] 0 0 (by simp) ha (by omega) (by omega)
      have had := (isD_iff a).1 ha
      rw [show ((0 : Nat) : Int) = 0 from rfl] at h
      rw [h]
      cases hb : isD b with
      | false =>
        have h2 := num_bad (k + 4) [a, b] (0 * 10 + (a.toNat - 48)) 1 (by simp) (.inl hb)
        refine Eq.trans h2 ?_
        unfold numI
        rw [numV_bad (x := b) (by simp) hb]
      | true =>
        have hbd := (isD_iff b).1 hb
        have h2 := num_dig (k + 4) [a, b] (0 * 10 + (a.toNat - 48)) 1 (by simp) hb (by omega) (by omega)
        refine Eq.trans h2 ?_
        have h3 := num_end (k + 1) [a, b] ((0 * 10 + (a.toNat - 48)) * 10 + (b.toNat - 48)) (by simp) (by omega)
        refine Eq.trans h3 ?_
        have e0 : (0 * 10 + (a.toNat - 48)) * 10 + (b.toNat - 48) = 10 * (a.toNat - 48) + (b.toNat - 48) := by omega
        rw [e0]
        unfold numI
        rw [numV2]
        have hd2 := dg_of2 a b ha hb
        by_cases h48 : a.toNat = 48
        · rw [if_neg (show ¬ (63 < 10 * (a.toNat - 48) + (b.toNat - 48)) by omega), if_neg (fun h => hd2.1 h h48), if_neg (fun h => h.2.2.1 h48)]
        · by_cases h64 : 10 * (a.toNat - 48) + (b.toNat - 48) < 64
          · rw [if_neg (by omega), if_pos (hd2.2 h48), if_pos ⟨ha, hb, h48, h64⟩]
          · rw [if_pos (by omega), if_neg (fun h => h64 h.2.2.2)]
  | a :: b :: c :: r =>
    have hn : numV (a :: b :: c :: r) = none := rfl
    have hI : numI (a :: b :: c :: r) = -1 := by unfold numI; rw [hn]
    rw [hI]
    cases ha : isD a with
    | false =>
      have h := num_bad (k + 5) (a :: b :: c :: r) 0 0 (by simp) (.inl ha)
      exact h
    | true =>
      have h := num_dig (k + 5) (a :: b :: c :: r) 0 0 (by simp) ha (by omega) (by omega)
      have had := (isD_iff a).1 ha
      rw [show ((0 : Nat) : Int) = 0 from rfl] at h
      rw [h]
      cases hb : isD b with
      | false => exact num_bad (k + 4) (a :: b :: c :: r) (0 * 10 + (a.toNat - 48)) 1 (by simp) (.inl hb)
      | true =>
        have hbd := (isD_iff b).1 hb
        refine Eq.trans (num_dig (k + 4) (a :: b :: c :: r) (0 * 10 + (a.toNat - 48)) 1 (by simp) hb (by omega) (by omega)) ?_
        exact num_bad (k + 3) (a :: b :: c :: r) _ 2 (by simp) (.inr (by omega))
/-! ### Parse -/
theorem span_step (m c b : Nat) (h : c ≤ b) : (m ||| 2 ^ c) ||| span (c + 1) b = m ||| span c b := by
  apply Nat.eq_of_testBit_eq
  intro i
  rw [Nat.testBit_or, Nat.testBit_or, Nat.testBit_or, span_bit (c + 1) b i (by omega), span_bit c b i (by omega), Nat.testBit_two_pow]
  by_cases h1 : c = i
  · subst h1
    cases m.testBit c <;> simp [h]
  · cases m.testBit i
    · by_cases h2 : c ≤ i
      · have : c + 1 ≤ i := by omega
        simp [h1, h2, this]
      · have : ¬ c + 1 ≤ i := by omega
        simp [h1, h2, this]
    · simp
theorem span_none (b : Nat) : span (b + 1) b = 0 := by unfold span; omega
theorem l1_r (x5 : List ByteArray) (x6 : Int) (b : Nat) (hb : b < 64) : ∀ d c k m : Nat, c + d = b + 1 → m < 2 ^ 64 → 70 ≤ k →
    turnspitref05_Parse.l1 (k + d + 1) (m : Int) x5 x6 (b : Int) (c : Int) = turnspitref05_Parse.l0 k ((m ||| span c b : Nat) : Int) x5 (wrap64 (x6 + 1)) := by
  intro d
  induction d with
  | zero =>
    intro c k m h hm hk
    obtain rfl : c = b + 1 := by omega
    rw [turnspitref05_Parse.l1, if_neg (by omega), span_none, Nat.or_zero]
  | succ d ih =>
    intro c k m h hm hk
    rw [turnspitref05_Parse.l1, if_pos (by omega), with_r m c _ (by omega) (by omega), Option.bind_some]
    have hw : withN m (c : Int) = m ||| 2 ^ c := by
      unfold withN
      rw [if_neg (by rw [odd_false.2 ⟨by omega, by omega⟩]; decide), Int.toNat_natCast]
    have hm2 : m ||| 2 ^ c < 2 ^ 64 := or64 m _ hm (pow_lt64 c (by omega))
    rw [hw, wrap64_small (by omega) (by omega), show ((c : Int) + 1) = ((c + 1 : Nat) : Int) from rfl, show k + (d + 1) = k + d + 1 from rfl, ih (c + 1) k (m ||| 2 ^ c) (by omega) hm2 hk, span_step m c b (by omega)]
def resI (o : Option Nat) : Int × Int := match o with
  | some m => ((m : Int), 0)
  | none => (0, 3)
theorem piece_len (c : UInt8) : ∀ (l x : List UInt8), x ∈ splitL c l → x.length ≤ l.length := by
  intro l
  induction l with
  | nil => intro x hx; simp [splitL] at hx; rw [hx]; exact Nat.le_refl _
  | cons y l ih =>
    intro x hx
    rw [splitL] at hx
    split at hx
    · rcases List.mem_cons.1 hx with rfl | hx
      · simp
      · have := ih x hx; rw [List.length_cons]; omega
    · cases hs : splitL c l with
      | nil => exact absurd hs (splitL_ne c l)
      | cons u v =>
        rw [hs] at hx
        rcases List.mem_cons.1 hx with rfl | hx
        · have := ih u (by rw [hs]; exact List.mem_cons_self); simp only [List.length_cons]; omega
        · have := ih x (by rw [hs]; exact List.mem_cons_of_mem _ hx); rw [List.length_cons]; omega
theorem splits_len (c : UInt8) : ∀ l : List UInt8, (splitL c l).length ≤ l.length + 1 := by
  intro l
  induction l with
  | nil => simp [splitL]
  | cons y l ih =>
    rw [splitL]
    split
    · simp only [List.length_cons]; omega
    · cases hs : splitL c l with
      | nil => exact absurd hs (splitL_ne c l)
      | cons u v => rw [hs] at ih; simp only [List.length_cons] at ih ⊢; omega
theorem rd_ba (d : ByteArray) (l : List (List UInt8)) (i : Nat) (h : i < l.length) : rdOf d (l.map ba) (i : Int) = ba l[i] := by
  simp [rdOf, h]
theorem numI_neg {l : List UInt8} (h : numV l = none) : numI l = -1 := by unfold numI; rw [h]
theorem numI_pos {l : List UInt8} {n : Nat} (h : numV l = some n) : numI l = (n : Int) := by unfold numI; rw [h]
theorem numI_ge (l : List UInt8) : -1 ≤ numI l := by unfold numI; split <;> omega
theorem j1_bad (k : Nat) (m : Int) (x5 : List ByteArray) (i : Int) (x7 : List ByteArray) (a b : Int) (h : (x7.length : Int) > 2 ∨ a < 0 ∨ b < a) : turnspitref05_Parse.j1 (k + 2) m x5 i x7 a b = some (0, 3) := by
  rw [turnspitref05_Parse.j1]
  by_cases h1 : (x7.length : Int) > 2
  · rw [if_pos h1, turnspitref05_Parse.j2, if_pos rfl]
  · rw [if_neg h1]
    by_cases h2 : a < 0
    · rw [if_pos h2, turnspitref05_Parse.j2, if_pos rfl]
    · rw [if_neg h2, decide_eq_true (by omega), turnspitref05_Parse.j2, if_pos rfl]
theorem j1_good (k : Nat) (m : Int) (x5 : List ByteArray) (i : Int) (x7 : List ByteArray) (a b : Int) (h : (x7.length : Int) ≤ 2) (h0 : 0 ≤ a) (h1 : a ≤ b) : turnspitref05_Parse.j1 (k + 2) m x5 i x7 a b = turnspitref05_Parse.l1 k m x5 i b a := by
  rw [turnspitref05_Parse.j1, if_neg (by omega), if_neg (by omega), decide_eq_false (by omega), turnspitref05_Parse.j2, if_neg Bool.false_ne_true]
theorem parse_l (items : List (List UInt8)) (hit : ∀ x ∈ items, x.length ≤ 1000) (hlen : items.length ≤ 1100) : ∀ d i k m : Nat, i + d = items.length → m < 2 ^ 64 → 70 * d + 2000 ≤ k →
    turnspitref05_Parse.l0 k (m : Int) (items.map ba) (i : Int) = some (resI (parseL (items.drop i) m)) := by
  intro d
  induction d with
  | zero =>
    intro i k m hi hm hk
    obtain ⟨k, rfl⟩ : ∃ q, k = q + 1 := ⟨k - 1, by omega⟩
    obtain rfl : i = items.length := by omega
    rw [turnspitref05_Parse.l0, if_neg (by rw [List.length_map]; omega), List.drop_length]
    rfl
  | succ d ih =>
    intro i k m hi hm hk
    have hil : i < items.length := by omega
    have hx := hit _ (List.getElem_mem hil)
    have ew : wrap64 ((i : Int) + 1) = ((i + 1 : Nat) : Int) := by rw [wrap64_small (by omega) (by omega)]; rfl
    -- a good item
    have good : ∀ (k : Nat) (x7 : List ByteArray) (a b : Nat), (x7.length : Int) ≤ 2 → a ≤ b → b < 64 → itemV items[i] = some (a, b) → 70 * d + 2000 ≤ k → turnspitref05_Parse.j1 (k + 67) (m : Int) (items.map ba) (i : Int) x7 (a : Int) (b : Int) = some (resI (parseL (items.drop i) m)) := by
      intro k x7 a b h7 hab hb hiv hk'
      rw [show k + 67 = (k + 65) + 2 by omega, j1_good (k + 65) _ _ _ x7 _ _ h7 (by omega) (by omega)]
      have e : k + 65 = (k + 65 - (b + 1 - a) - 1) + (b + 1 - a) + 1 := by omega
      rw [e, l1_r (items.map ba) (i : Int) b hb (b + 1 - a) a _ m (by omega) hm (by omega), ew, ih (i + 1) _ _ (by omega) (or64 m _ hm (span_lt a b hb)) (by omega), List.drop_eq_getElem_cons hil, parseL, hiv]
    have bad : ∀ (k : Nat) (x7 : List ByteArray) (a b : Int), ((x7.length : Int) > 2 ∨ a < 0 ∨ b < a) → itemV items[i] = none → turnspitref05_Parse.j1 (k + 2) (m : Int) (items.map ba) (i : Int) x7 a b = some (resI (parseL (items.drop i) m)) := by
      intro k x7 a b h hiv
      rw [j1_bad k _ _ _ x7 a b h, List.drop_eq_getElem_cons hil, parseL, hiv]
      rfl
    obtain ⟨k, rfl⟩ : ∃ q, k = q + 68 := ⟨k - 68, by omega⟩
    rw [turnspitref05_Parse.l0, if_pos (by rw [List.length_map]; omega), if_pos (by omega), rd_ba _ items i hil]
    have hsp := split_r items[i] (by omega) 45 (k + 67) (by omega)
    rw [show ((45 : UInt8).toNat : Int) = 45 from rfl] at hsp
    rw [hsp, Option.bind_some]
    have hne := splitL_ne 45 items[i]
    have hivd : itemV items[i] = (match splitL 45 items[i] with
      | [p] => match numV p with
        | none => none
        | some n => some (n, n)
      | [p, q] => match numV p with
        | none => none
        | some a => match numV q with
          | none => none
          | some b => if b < a then none else some (a, b)
      | _ => none) := rfl
    cases hs : splitL 45 items[i] with
    | nil => exact absurd hs hne
    | cons p0 ps =>
      rw [hs] at hivd
      have hn0 := number_r p0 (k + 67) (by omega)
      have r0 : rdOf ByteArray.empty ((p0 :: ps).map ba) 0 = ba p0 := rd_ba ByteArray.empty (p0 :: ps) 0 (by simp)
      rw [if_pos (by rw [List.length_map, List.length_cons]; omega), r0, hn0, Option.bind_some]
      cases ps with
      | nil =>
        rw [if_neg (by simp)]
        cases hv : numV p0 with
        | none =>
          rw [numI_neg hv]
          exact bad (k + 65) _ _ _ (.inr (.inl (by decide))) (by rw [hivd]; simp only [hv])
        | some n =>
          rw [numI_pos hv]
          exact good k _ n n (by simp) (Nat.le_refl _) (numV_lt hv) (by rw [hivd]; simp only [hv]) (by omega)
      | cons p1 ps =>
        have hn1 := number_r p1 (k + 67) (by omega)
        have r1 : rdOf ByteArray.empty ((p0 :: p1 :: ps).map ba) 1 = ba p1 := rd_ba ByteArray.empty (p0 :: p1 :: ps) 1 (by simp)
        rw [if_pos (by simp; omega), if_pos (by simp; omega), r1, hn1, Option.bind_some]
        cases ps with
        | nil =>
          cases hv : numV p0 with
          | none =>
            rw [numI_neg hv]
            exact bad (k + 65) _ _ _ (.inr (.inl (by decide))) (by rw [hivd]; simp only [hv])
          | some a =>
            cases hu : numV p1 with
            | none =>
              rw [numI_pos hv, numI_neg hu]
              exact bad (k + 65) _ _ _ (.inr (.inr (by omega))) (by rw [hivd]; simp only [hv, hu])
            | some b =>
              rw [numI_pos hv, numI_pos hu]
              by_cases hab : b < a
              · exact bad (k + 65) _ _ _ (.inr (.inr (by omega))) (by rw [hivd]; simp only [hv, hu, if_pos hab])
              · exact good k _ a b (by simp) (by omega) (numV_lt hu) (by rw [hivd]; simp only [hv, hu, if_neg hab]) (by omega)
        | cons p2 ps => exact bad (k + 65) _ _ _ (.inl (by simp; omega)) (by rw [hivd])
theorem parse_r (l : List UInt8) (k : Nat) (hk : 100000 ≤ k) : turnspitref05_Parse.f k (ba l) = some (parseS l) := by
  unfold turnspitref05_Parse.f parseS
  by_cases hlong : 1000 < l.length
  · rw [if_pos (by rw [ba_size]; omega), if_pos hlong]
  · rw [if_neg (by rw [ba_size]; omega), if_neg hlong, ba_list]
    by_cases hd : l = [45]
    · rw [if_pos hd, if_pos hd]
    · have hsp := split_r l (by omega) 44 k (by omega)
      rw [show ((44 : UInt8).toNat : Int) = 44 from rfl] at hsp
      have hsl := splits_len 44 l
      have h := parse_l (splitL 44 l) (fun x hx => by have := piece_len 44 l x hx; omega) (by omega) (splitL 44 l).length 0 k 0 (by omega) (by decide) (by omega)
      rw [if_neg hd, if_neg hd, hsp, Option.bind_some]
      refine Eq.trans h ?_
      rw [List.drop_zero]
      unfold parseT resI
      rfl
/-! ### Print -/
theorem hasB_in (M c : Nat) (hc : c < 64) : hasB (M : Int) (c : Int) = M.testBit c := by
  rw [hasB_nat, odd_false.2 ⟨by omega, by omega⟩, Int.toNat_natCast]; rfl
theorem last_l (M : Nat) (hM : M < 2 ^ 64) (out : ByteArray) (c : Nat) (hb : M.testBit c = true) : ∀ d q k : Nat, q + d = lastR M c 64 → c ≤ q → 70 ≤ k →
    turnspitref05_Print.l1 (k + d + 1) (M : Int) out (c : Int) (q : Int) ((q + 1 : Nat) : Int) = turnspitref05_Print.j3 k (M : Int) out (c : Int) ((lastR M c 64 : Nat) : Int) := by
  intro d
  induction d with
  | zero =>
    intro q k h hq hk
    have h1 := lastR_stop M hM 64 c (by omega) hb
    obtain rfl : q = lastR M c 64 := by omega
    rw [turnspitref05_Print.l1]
    by_cases h64 : ((lastR M c 64 + 1 : Nat) : Int) < 64
    · rw [if_pos h64, has_r M _ _ (by omega) (by omega), Option.bind_some, hasB_in M _ (by omega), h1, if_neg Bool.false_ne_true]
    · rw [if_neg h64]
  | succ d ih =>
    intro q k h hq hk
    have h1 := lastR_in M 64 c hb (q + 1) (by omega) (by omega)
    have h2 := bit_lt hM h1
    rw [turnspitref05_Print.l1, if_pos (by omega), has_r M _ _ (by omega) (by omega), Option.bind_some, hasB_in M _ h2, h1, if_pos rfl, wrap64_small (by omega) (by omega)]
    exact ih (q + 1) k (by omega) (by omega) hk
theorem j4_r (M : Nat) (out : List UInt8) (hout : out.length ≤ 100000) (c z : Nat) (hc : c < 64) (hz : z < 64) (k : Nat) (hk : 2 ≤ k) :
    turnspitref05_Print.j4 (k + 1) (M : Int) (ba out) (c : Int) (z : Int) = turnspitref05_Print.l0 k (M : Int) (ba (out ++ itemT (c, z))) ((c + 1 : Nat) : Int) := by
  obtain ⟨k, rfl⟩ : ∃ q, k = q + 2 := ⟨k - 2, by omega⟩
  have h1 := dg_len c
  have h2 := dg_len z
  have ew : wrap64 ((c : Int) + 1) = ((c + 1 : Nat) : Int) := by rw [wrap64_small (by omega) (by omega)]; rfl
  rw [turnspitref05_Print.j4, digits_r c (by omega) k, Option.bind_some, if_pos (by rw [ba_size, ba_size]; omega), ba_app]
  unfold itemT
  by_cases hlt : c < z
  · rw [if_pos (by omega), if_pos (by rw [ba_size, List.length_append]; omega), digits_r z (by omega) k, Option.bind_some, show (⟨#[45]⟩ : ByteArray) = ba [45] from rfl, ba_app, if_pos (by rw [ba_size, ba_size, List.length_append, List.length_append]; simp; omega), ba_app, ew, if_pos hlt]
    congr 2
    simp
  · rw [if_neg (by omega), ew, if_neg hlt]
theorem print_l (M : Nat) (hM : M < 2 ^ 64) : ∀ d c k : Nat, c + d = 64 → 70 * d + 200 ≤ k →
    turnspitref05_Print.l0 k (M : Int) (ba (txt M c)) (c : Int) = some (if txt M 64 = [] then ba [45] else ba (txt M 64)) := by
  intro d
  induction d with
  | zero =>
    intro c k h hk
    obtain ⟨k, rfl⟩ : ∃ q, k = q + 1 := ⟨k - 1, by omega⟩
    obtain rfl : c = 64 := by omega
    rw [turnspitref05_Print.l0, if_neg (by decide), ba_list]
    split <;> rfl
  | succ d ih =>
    intro c k h hk
    obtain ⟨k, rfl⟩ : ∃ q, k = q + 70 := ⟨k - 70, by omega⟩
    have hc : c < 64 := by omega
    have ew : wrap64 ((c : Int) + 1) = ((c + 1 : Nat) : Int) := by rw [wrap64_small (by omega) (by omega)]; rfl
    have em : wrap64 ((c : Int) - 1) = (c : Int) - 1 := wrap64_small (by omega) (by omega)
    have hlow : hasB (M : Int) ((c : Int) - 1) = (!(c == 0) && M.testBit (c - 1)) := by
      by_cases h0 : c = 0
      · subst h0
        rw [hasB_nat, odd_true.2 (by omega)]
        rfl
      · rw [show ((c : Int) - 1) = ((c - 1 : Nat) : Int) by omega, hasB_in M (c - 1) (by omega), show (c == 0) = false from beq_eq_false_iff_ne.mpr h0]
        rfl
    rw [turnspitref05_Print.l0, if_pos (by omega), em, has_r M _ _ (by omega) (by omega), Option.bind_some, has_r M _ _ (by omega) (by omega), Option.bind_some, hasB_in M c hc, hlow]
    have go_on : ∀ q : Nat, 70 * d + 200 ≤ q → isStart M c = false → turnspitref05_Print.j1 (q + 1) (M : Int) (ba (txt M c)) (c : Int) true = some (if txt M 64 = [] then ba [45] else ba (txt M 64)) := by
      intro q hq hs
      rw [turnspitref05_Print.j1, if_pos rfl, ew]
      have := ih (c + 1) q (by omega) hq
      rw [txt_succ, if_neg (by rw [hs]; decide)] at this
      exact this
    cases hb : M.testBit c with
    | false =>
      rw [if_neg Bool.false_ne_true]
      exact go_on (k + 68) (by omega) (by simp [isStart, hb])
    | true =>
      rw [if_pos rfl]
      cases hl : (!(c == 0) && M.testBit (c - 1)) with
      | true =>
        refine go_on (k + 68) (by omega) ?_
        simp at hl
        simp [isStart, hb, hl]
      | false =>
        have hs : isStart M c = true := by
          unfold isStart
          rw [hb, Bool.true_and]
          cases h0 : (c == 0) with
          | true => rfl
          | false => rw [h0] at hl; simp at hl; simp [hl]
        have hge := lastR_ge M 64 c
        have hz := bit_lt hM (lastR_in M 64 c hb _ hge (Nat.le_refl _))
        have hln := txt_len M hM c (by omega)
        have hln' : (txt M c).length ≤ 200 := by split at hln <;> omega
        rw [turnspitref05_Print.j1, if_neg Bool.false_ne_true, show k + 68 = (k + 67) + 1 from rfl, turnspitref05_Print.l1, if_pos (by omega), has_r M _ _ (by omega) (by omega), Option.bind_some, hasB_in M c hc, hb, if_pos rfl, ew]
        have e : k + 67 = (k + 66 - (lastR M c 64 - c)) + (lastR M c 64 - c) + 1 := by omega
        rw [e, last_l M hM (ba (txt M c)) c hb (lastR M c 64 - c) c _ (by omega) (Nat.le_refl _) (by omega)]
        obtain ⟨q, hq⟩ : ∃ q, k + 66 - (lastR M c 64 - c) = q + 2 := ⟨k + 66 - (lastR M c 64 - c) - 2, by omega⟩
        rw [hq, turnspitref05_Print.j3, ba_list]
        have hn := ih (c + 1) q (by omega) (by omega)
        rw [txt_succ, if_pos hs] at hn
        by_cases ht : txt M c = []
        · rw [if_pos ht, j4_r M (txt M c) (by omega) c _ hc hz q (by omega), ht, List.nil_append]
          rw [if_pos ht] at hn
          exact hn
        · rw [if_neg ht, if_pos (by rw [ba_size]; omega), show (⟨#[44]⟩ : ByteArray) = ba [44] from rfl, ba_app, j4_r M (txt M c ++ [44]) (by rw [List.length_append, List.length_singleton]; omega) c _ hc hz q (by omega)]
          rw [if_neg ht] at hn
          rw [List.append_assoc]
          exact hn
theorem print_r (M : Nat) (hM : M < 2 ^ 64) (k : Nat) (hk : 5000 ≤ k) : turnspitref05_Print.f k (M : Int) = some (ba (printL M)) := by
  unfold turnspitref05_Print.f
  have h := print_l M hM 64 0 k (by omega) (by omega)
  refine Eq.trans h ?_
  unfold printL
  by_cases h0 : M = 0
  · subst h0
    rw [if_pos (by decide), if_pos rfl]
  · rw [if_neg (txt_ne M hM h0), if_neg h0]
end Go.Proofs.YthnbmepdolfbnaaDoor.Pure

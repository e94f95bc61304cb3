/- Chapter 15's reference: digits, may, task, nice, number, cut, handle: what they tell: plain. -/
import Derived.Test.YtilmbpdfdickoaaDoorMA
import Derived.Test.YtilmbpdfdickoaaDoorPrintF32
import Derived.Test.YtilmbpdfdickoaaDoorPrintF42
import Derived.Test.YtilmbpdfdickoaaDoorPrintF38
namespace Go.Proofs.YtilmbpdfdickoaaDoor.Pure
open Go Go.RowKit Go.Proofs.YtilmbpdfdickoaaDoor Go.Proofs.YtilmbpdfdickoaaDoor.Given Go.Proofs.YtilmbpdfdickoaaDoor.Print Go.Proofs.YtilmbpdfdickoaaDoorW.PrintWords Go.Proofs.YtilmbpdfdickoaaDoorW.PrintLast Go.Proofs.YtilmbpdfdickoaaDoorW.PrintMore
set_option linter.unusedVariables false
set_option linter.unusedSimpArgs false
theorem wrap64_small {n : Int} (h0 : -9223372036854775808 ≤ n) (h1 : n ≤ 9223372036854775807) : wrap64 n = n := by
  unfold wrap64; omega
def ba (l : List UInt8) : ByteArray := ⟨l.toArray⟩
theorem ba_list (l : List UInt8) : (ba l).toList = l := by rw [ByteArray.toList_eq]; rfl
theorem ba_data (l : List UInt8) : (ba l).data.toList = l := rfl
theorem ba_size (l : List UInt8) : (ba l).size = l.length := rfl
theorem ba_of (s : ByteArray) : s = ba s.data.toList := rfl
theorem ba_app (a b : List UInt8) : ba a ++ ba b = ba (a ++ b) := by
  apply ByteArray.ext
  apply Array.toList_inj.1
  simp [ba]
theorem ba_inj {a b : List UInt8} : ba a = ba b ↔ a = b := ⟨fun h => by have := congrArg (fun s => s.data.toList) h; exact this, fun h => by rw [h]⟩
theorem ba_extract (l : List UInt8) (i j : Nat) : (ba l).extract i j = ba ((l.drop i).take (j - i)) := by
  apply ByteArray.ext
  apply Array.toList_inj.1
  simp [ba, List.extract_eq_take_drop]
theorem bt_ba (l : List UInt8) (i : Nat) (h : i < l.length) : bt (ba l) (i : Int) = ((l[i]).toNat : Int) := by
  unfold bt
  rw [dif_pos (show ((i : Nat) : Int).toNat < (ba l).size by rw [Int.toNat_natCast]; exact h)]
  rfl
theorem rd_ba (d : ByteArray) (l : List (List UInt8)) (i : Nat) (h : i < l.length) : rdOf d (l.map ba) (i : Int) = ba l[i] := by
  unfold rdOf
  simp [h]
/-! ### digits -/
theorem dig_one (n : Nat) (h : n < 10) (k : Nat) : turnspitref15_digits.f (k + 1) (n : Int) = some (ba (Lib.decDigits n)) := by
  have key : ∀ m : Fin 10, (⟨#[48, 49, 50, 51, 52, 53, 54, 55, 56, 57]⟩ : ByteArray).extract m.val (m.val + 1) = ba [UInt8.ofNat (48 + m.val)] := by decide
  rw [turnspitref15_digits.f, wrap64_small (by omega) (by omega), if_pos (by omega), if_pos (by omega), if_pos (by omega), if_pos (by omega), show (((n : Int) + 1).toNat) = n + 1 by omega, Int.toNat_natCast, Lib.decDigits, dif_pos h]
  exact congrArg some (key ⟨n, h⟩)
theorem digits_r : ∀ (d n k : Nat), n < 10 ^ (d + 1) → d ≤ 17 → d + 2 ≤ k → turnspitref15_digits.f k (n : Int) = some (ba (Lib.decDigits n)) := by
  intro d
  induction d with
  | zero =>
    intro n k hn _ hk
    obtain ⟨k, rfl⟩ : ∃ m, k = m + 1 := ⟨k - 1, by omega⟩
    exact dig_one n (by simpa using hn) k
  | succ d ih =>
    intro n k hn hd hk
    by_cases h10 : n < 10
    · obtain ⟨k, rfl⟩ : ∃ m, k = m + 1 := ⟨k - 1, by omega⟩
      exact dig_one n h10 k
    · obtain ⟨k, rfl⟩ : ∃ m, k = m + 2 := ⟨k - 2, by omega⟩
      have hb : n < 10 ^ 19 := Nat.lt_of_lt_of_le hn (Nat.pow_le_pow_right (by decide) (by omega))
      have e1 : Int.tdiv (n : Int) 10 = ((n / 10 : Nat) : Int) := by rw [Int.tdiv_eq_ediv_of_nonneg (by omega)]; rfl
      have e2 : Int.tmod (n : Int) 10 = ((n % 10 : Nat) : Int) := by rw [Int.tmod_eq_emod_of_nonneg (by omega)]; rfl
      have h19 : (10 : Nat) ^ 19 = 10000000000000000000 := by decide
      rw [h19] at hb
      have hn2 : n / 10 < 10 ^ (d + 1) := by rw [Nat.pow_succ] at hn; omega
      have e3 : Lib.decDigits n = Lib.decDigits (n / 10) ++ Lib.decDigits (n % 10) := by
        have ed : Lib.decDigits (n % 10) = [UInt8.ofNat (48 + n % 10)] := by rw [Lib.decDigits, dif_pos (by omega)]
        rw [ed, Lib.decDigits, dif_neg h10]
      rw [show k + 2 = (k + 1) + 1 from rfl, turnspitref15_digits.f, if_neg (by omega), e1, wrap64_small (by omega) (by omega), ih (n / 10) (k + 1) hn2 (by omega) (by omega), Option.bind_some, e2, dig_one (n % 10) (by omega) k, Option.bind_some, ba_app, ← e3]
      rw [if_pos]
      have h1 := dec_len d (n / 10) hn2
      have h2 := dec_len 0 (n % 10) (by simpa using Nat.mod_lt n (by decide))
      rw [ba_size, ba_size]
      omega
theorem digits15 (n : Nat) (h : n ≤ most) (k : Nat) (hk : 20 ≤ k) : turnspitref15_digits.f k (n : Int) = some (ba (Lib.decDigits n)) :=
  digits_r 12 n k (by unfold most at h; omega) (by omega) (by omega)
theorem digitsI {n : Int} (h : mayI n) (k : Nat) (hk : 20 ≤ k) : turnspitref15_digits.f k n = some (ba (decI n)) := by
  obtain ⟨m, rfl⟩ := Int.eq_ofNat_of_zero_le h.1
  have := digits15 m (by unfold most; have := h.2; omega) k hk
  rw [this]; rfl
theorem may15 (a : Int) : turnspitref15_may.f a = some (decide (mayI a)) := by
  unfold turnspitref15_may.f
  by_cases h : a ≥ 0
  · rw [if_pos h]
    congr 1
    exact decide_eq_decide.2 ⟨fun h1 => ⟨h, h1⟩, fun h1 => h1.2⟩
  · rw [if_neg h, decide_eq_false (fun h1 : mayI a => h h1.1)]
def optT (o : Option (List UInt8)) : ByteArray × Bool := match o with
  | some t => (ba t, true)
  | none => (ba [], false)
theorem dec_size {n : Int} (h : mayI n) : (ba (decI n)).size ≤ 13 := len_dec h
theorem task15 (a b : Int) (k : Nat) (hk : 30 ≤ k) : turnspitref15_task.f k a b = some (optT (taskT a b)) := by
  obtain ⟨k, rfl⟩ : ∃ m, k = m + 1 := ⟨k - 1, by omega⟩
  unfold turnspitref15_task.f taskT
  rw [may15, Option.bind_some]
  by_cases h1 : mayI a
  · rw [decide_eq_true h1, if_pos rfl, may15, Option.bind_some]
    by_cases h2 : mayI b
    · rw [decide_eq_true h2, if_pos ⟨h1, h2⟩]
      unfold turnspitref15_task.j0
      dsimp only
      have s1 := dec_size h1
      have s2 := dec_size h2
      have e46 : (⟨#[46]⟩ : ByteArray) = ba [46] := rfl
      rw [if_neg (by decide), digitsI h1 k (by omega), Option.bind_some, if_pos (by omega), digitsI h2 k (by omega), Option.bind_some, e46, ba_app]
      rw [if_pos (by show (decI a ++ [46]).length + (decI b).length ≤ 9223372036854775807; rw [List.length_append, List.length_singleton]; have := len_dec h1; have := len_dec h2; omega), ba_app]
      simp [optT]
    · rw [decide_eq_false h2, if_neg (fun h => h2 h.2)]; rfl
  · rw [decide_eq_false h1, if_neg (by decide), if_neg (fun h => h1 h.1)]; rfl
theorem nice15 (v : Int) (h0 : -1000 ≤ v) (h1 : v ≤ 1000) (k : Nat) (hk : 20 ≤ k) : turnspitref15_nice.f k v = some (ba (Lib.itoa v)) := by
  unfold turnspitref15_nice.f
  rcases itoa_cases v with ⟨h, e⟩ | ⟨h, e⟩
  · rw [if_neg (by omega), digitsI (n := v) ⟨h, by omega⟩ k hk, Option.bind_some, e]; rfl
  · rw [if_pos h, wrap64_small (by omega) (by omega), digitsI (n := -v) ⟨by omega, by omega⟩ k hk, Option.bind_some, e, if_pos]
    · have e45 : (⟨#[45]⟩ : ByteArray) = ba [45] := rfl
      rw [e45, ba_app]; rfl
    · have := dec_size (n := -v) ⟨by omega, by omega⟩; omega
/-! ### number -/
def numJ (l : List UInt8) : Int := match numT l with
  | some n => (n : Int)
  | none => -1
theorem vD_lt : ∀ (n : Nat) (l : List UInt8), l.length = n → (∀ x ∈ l, dD x = true) → vD l < 10 ^ n := by
  intro n
  induction n with
  | zero => intro l h _; obtain rfl := List.length_eq_zero_iff.1 h; show 0 < 10 ^ 0; decide
  | succ n ih =>
    intro l h hd
    obtain ⟨a, x, rfl⟩ : ∃ a x, l = a ++ [x] := ⟨l.dropLast, l.getLast (by intro e; rw [e] at h; cases h), (List.dropLast_concat_getLast _).symm⟩
    rw [List.length_append, List.length_singleton] at h
    have h1 := ih a (by omega) (fun y hy => hd y (List.mem_append.2 (.inl hy)))
    have h2 := (dD_iff x).1 (hd x (List.mem_append.2 (.inr (List.mem_singleton.2 rfl))))
    rw [vD_snoc, Nat.pow_succ]
    omega
theorem numT_digits {l : List UInt8} {n : Nat} (h : numT l = some n) : (∀ x ∈ l, dD x = true) ∧ l.length ≤ 13 ∧ l ≠ [] := by
  obtain ⟨rfl, hm⟩ := numT_some.1 h
  exact ⟨dec_dig n, dec_len13 n hm, dec_ne n⟩
theorem numJ_none {l : List UInt8} (h : numT l = none) : numJ l = -1 := by unfold numJ; rw [h]
theorem numJ_bad {l : List UInt8} (h : ¬ ((∀ x ∈ l, dD x = true) ∧ l.length ≤ 13 ∧ l ≠ [])) : numJ l = -1 := by
  apply numJ_none
  cases hn : numT l with
  | none => rfl
  | some n => exact absurd (numT_digits hn) h
theorem num_l (l : List UInt8) : ∀ d i k : Nat, i + d = l.length → i ≤ 13 → (∀ x ∈ l.take i, dD x = true) → 40 + (13 - i) ≤ k → turnspitref15_number.l0 k (ba l) ((vD (l.take i) : Nat) : Int) (i : Int) = some (numJ l) := by
  intro d
  induction d with
  | zero =>
    intro i k hi h13 hd hk
    obtain ⟨k, rfl⟩ : ∃ m, k = m + 1 := ⟨k - 1, by omega⟩
    obtain rfl : i = l.length := by omega
    rw [List.take_length] at hd ⊢
    rw [turnspitref15_number.l0, if_neg (by rw [ba_size]; omega), ba_list]
    by_cases h0 : l = []
    · rw [if_pos h0, numJ_bad (fun h => h.2.2 h0)]
    · rw [if_neg h0, may15, Option.bind_some]
      by_cases hm : vD l ≤ most
      · have hm2 : mayI ((vD l : Nat) : Int) := ⟨by omega, by unfold most at hm; omega⟩
        rw [decide_eq_true hm2, if_pos rfl, digits15 (vD l) hm k (by omega), Option.bind_some, ba_list]
        unfold numJ numT
        by_cases he : Lib.decDigits (vD l) = l
        · rw [if_pos he, if_pos ⟨he, hm⟩]
        · rw [if_neg he, if_neg (fun h => he h.1)]
      · have hm2 : ¬ mayI ((vD l : Nat) : Int) := fun h => hm (by unfold most; have := h.2; omega)
        rw [decide_eq_false hm2, if_neg (by decide)]
        unfold numJ numT
        rw [if_neg (fun h => hm h.2)]
  | succ d ih =>
    intro i k hi h13 hd hk
    obtain ⟨k, rfl⟩ : ∃ m, k = m + 1 := ⟨k - 1, by omega⟩
    have hil : i < l.length := by omega
    rw [turnspitref15_number.l0, if_pos (by rw [ba_size]; omega), if_pos (by omega), bt_ba l i hil]
    have hmem : l[i] ∈ l := List.getElem_mem hil
    by_cases h1 : ((l[i]).toNat : Int) < 48
    · rw [if_pos h1, numJ_bad (fun h => by have := (dD_iff _).1 (h.1 _ hmem); omega)]
    · rw [if_neg h1]
      by_cases h2 : ((l[i]).toNat : Int) > 57
      · rw [if_pos h2, numJ_bad (fun h => by have := (dD_iff _).1 (h.1 _ hmem); omega)]
      · rw [if_neg h2]
        by_cases h3 : (i : Int) > 12
        · rw [if_pos h3, numJ_bad (fun h => by have := h.2.1; omega)]
        · rw [if_neg h3]
          have q1 : i + 1 ≤ 13 := by omega
          have q2 : 40 + (13 - (i + 1)) ≤ k := by omega
          have q3 : i + 1 + d = l.length := by omega
          have hlt := vD_lt i (l.take i) (by rw [List.length_take]; omega) hd
          have hb : (10 : Nat) ^ i ≤ 10 ^ 12 := Nat.pow_le_pow_right (by decide) (by omega)
          have h12 : (10 : Nat) ^ 12 = 1000000000000 := by decide
          rw [h12] at hb
          have e : vD (l.take (i + 1)) = vD (l.take i) * 10 + ((l[i]).toNat - 48) := by
            rw [List.take_succ_eq_append_getElem hil, vD_snoc]
          have ev : wrap64 (wrap64 (wrap64 (((vD (l.take i) : Nat) : Int) * 10) + wrap64 ((l[i]).toNat : Int)) - 48) = ((vD (l.take (i + 1)) : Nat) : Int) := by
            rw [e, wrap64_small (n := ((vD (l.take i) : Nat) : Int) * 10) (by omega) (by omega), wrap64_small (n := ((l[i]).toNat : Int)) (by omega) (by omega), wrap64_small (n := ((vD (l.take i) : Nat) : Int) * 10 + ((l[i]).toNat : Int)) (by omega) (by omega), wrap64_small (by omega) (by omega)]
            omega
          have ew : wrap64 ((i : Int) + 1) = ((i + 1 : Nat) : Int) := by rw [wrap64_small (by omega) (by omega)]; rfl
          rw [ev, ew]
          refine ih (i + 1) k q3 q1 ?_ q2
          intro x hx
          rw [List.take_succ_eq_append_getElem hil] at hx
          rcases List.mem_append.1 hx with hx | hx
          · exact hd x hx
          · rw [List.mem_singleton.1 hx, dD_iff]; omega
theorem number15 (l : List UInt8) (k : Nat) (hk : 60 ≤ k) : turnspitref15_number.f k (ba l) = some (numJ l) := by
  unfold turnspitref15_number.f
  have h := num_l l l.length 0 k (by omega) (by omega) (fun x hx => by rw [List.take_zero] at hx; cases hx) (by omega)
  have e : ((vD (l.take 0) : Nat) : Int) = 0 := by rw [List.take_zero]; rfl
  rw [e, show ((0 : Nat) : Int) = 0 from rfl] at h
  exact h
/-! ### cut -/
def headPut (h : List UInt8) : List (List UInt8) → List (List UInt8)
  | [] => [h]
  | x :: r => (h ++ x) :: r
theorem cut_l (l : List UInt8) (hl : l.length ≤ 1000000) (c : UInt8) : ∀ d i f k : Nat, ∀ out : List ByteArray, i + d = l.length → f ≤ i → d < k → out.length ≤ i →
    turnspitref15_cut.l0 k (ba l) (c.toNat : Int) out (f : Int) (i : Int) = some (out ++ (headPut ((l.drop f).take (i - f)) (splitL c (l.drop i))).map ba) := by
  intro d
  induction d with
  | zero =>
    intro i f k out hi hf hk ho
    obtain ⟨k, rfl⟩ : ∃ m, k = m + 1 := ⟨k - 1, by omega⟩
    obtain rfl : i = l.length := by omega
    rw [turnspitref15_cut.l0, if_neg (by rw [ba_size]; omega), if_pos (by omega), if_pos (by rw [ba_size]; omega), if_pos (by omega), Int.toNat_natCast, ba_size, ba_extract, List.drop_length]
    show some (out ++ [ba _]) = some (out ++ [ba (_ ++ [])])
    rw [List.append_nil]
  | succ d ih =>
    intro i f k out hi hf hk ho
    obtain ⟨k, rfl⟩ : ∃ m, k = m + 1 := ⟨k - 1, by omega⟩
    have hil : i < l.length := by omega
    have ew : wrap64 ((i : Int) + 1) = ((i + 1 : Nat) : Int) := by rw [wrap64_small (by omega) (by omega)]; rfl
    rw [turnspitref15_cut.l0, if_pos (by rw [ba_size]; omega), if_pos (by omega), bt_ba l i hil, ew, List.drop_eq_getElem_cons hil, splitL]
    by_cases hc : l[i] = c
    · rw [if_pos (by rw [hc]), if_pos (by omega), if_pos (by omega), if_pos (by rw [ba_size]; omega), if_pos (by omega), Int.toNat_natCast, Int.toNat_natCast, ba_extract, if_pos hc]
      rw [ih (i + 1) (i + 1) k _ (by omega) (Nat.le_refl _) (by omega) (by rw [List.length_append, List.length_singleton]; omega)]
      have hs := splitL_ne c (l.drop (i + 1))
      cases hq : splitL c (l.drop (i + 1)) with
      | nil => exact absurd hq hs
      | cons u v => simp [headPut]
    · rw [if_neg (fun h => hc (UInt8.toNat_inj.1 (by omega))), if_neg hc, ih (i + 1) f k out (by omega) (by omega) (by omega) (by omega)]
      have ht : (l.drop f).take (i + 1 - f) = (l.drop f).take (i - f) ++ [l[i]] := by
        rw [show i + 1 - f = (i - f) + 1 by omega, List.take_succ_eq_append_getElem (by simp; omega)]
        congr 2
        rw [List.getElem_drop]
        congr 1
        omega
      rw [ht]
      have hs := splitL_ne c (l.drop (i + 1))
      cases hq : splitL c (l.drop (i + 1)) with
      | nil => exact absurd hq hs
      | cons u v => simp [headPut]
theorem cut15 (l : List UInt8) (hl : l.length ≤ 1000000) (c : UInt8) (k : Nat) (hk : l.length < k) : turnspitref15_cut.f k (ba l) (c.toNat : Int) = some ((splitL c l).map ba) := by
  unfold turnspitref15_cut.f
  have h := cut_l l hl c l.length 0 0 k [] (by omega) (Nat.le_refl _) hk (by simp)
  rw [show ((0 : Nat) : Int) = 0 from rfl] at h
  rw [h]
  have hs := splitL_ne c l
  cases hq : splitL c l with
  | nil => exact absurd hq hs
  | cons u v => simp [headPut, hq]
def optH (o : Option (Int × Int)) : Int × Int × Bool := match o with
  | some v => (v.1, v.2, true)
  | none => (0, 0, false)
theorem numJ_some {l : List UInt8} {n : Nat} (h : numT l = some n) : numJ l = (n : Int) := by unfold numJ; rw [h]
theorem handle15 (l : List UInt8) (hl : l.length ≤ 1000000) (k : Nat) (hk : l.length + 60 ≤ k) : turnspitref15_handle.f k (ba l) = some (optH (handleV l)) := by
  unfold turnspitref15_handle.f handleV
  have hc := cut15 l hl 46 k (by omega)
  rw [show (((46 : UInt8).toNat : Nat) : Int) = 46 from rfl] at hc
  rw [hc, Option.bind_some]
  generalize splitL 46 l = q
  rw [List.length_map]
  rcases q with _ | ⟨a, _ | ⟨b, _ | ⟨c, r⟩⟩⟩
  · rfl
  · rfl
  · rw [if_pos (by rfl), if_pos (by show (0 : Int) < 2; decide)]
    have r0 : rdOf ByteArray.empty ([a, b].map ba) 0 = ba a := rfl
    have r1 : rdOf ByteArray.empty ([a, b].map ba) 1 = ba b := rfl
    rw [r0, r1, number15 a k (by omega), Option.bind_some, if_pos (by show (1 : Int) < 2; decide), number15 b k (by omega), Option.bind_some]
    cases ha : numT a with
    | none =>
      rw [numJ_none ha, if_pos (by decide)]
      dsimp only
      rw [ha]; rfl
    | some x =>
      rw [numJ_some ha, if_neg (by omega)]
      cases hb : numT b with
      | none =>
        rw [numJ_none hb, if_pos (by decide)]
        dsimp only
        rw [ha]
        dsimp only
        rw [hb]; rfl
      | some y =>
        rw [numJ_some hb, if_neg (by omega)]
        dsimp only
        rw [ha]
        dsimp only
        rw [hb]; rfl
  · rw [if_neg (by simp only [List.length_cons]; omega)]; rfl
end Go.Proofs.YtilmbpdfdickoaaDoor.Pure

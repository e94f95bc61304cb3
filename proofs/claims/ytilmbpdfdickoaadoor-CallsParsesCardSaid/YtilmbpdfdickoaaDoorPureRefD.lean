/- Chapter 15's reference: Parse tells what the program tells: plain. -/
import Derived.Test.YtilmbpdfdickoaaDoorMA
import Derived.Test.YtilmbpdfdickoaaDoorPureRef5b
import Derived.Test.YtilmbpdfdickoaaDoorPrintF14
namespace Go.Proofs.YtilmbpdfdickoaaDoor.Pure
open Go Go.RowKit Go.Proofs.YtilmbpdfdickoaaDoor Go.Proofs.YtilmbpdfdickoaaDoor.Given Go.Proofs.YtilmbpdfdickoaaDoor.Print Go.Proofs.YtilmbpdfdickoaaDoorW.PrintWords Go.Proofs.YtilmbpdfdickoaaDoorW.PrintLast Go.Proofs.YtilmbpdfdickoaaDoorW.PrintMore
set_option linter.unusedVariables false
set_option linter.unusedSimpArgs false
theorem wrap64_small {n : Int} (h0 : -9223372036854775808 ≤ n) (h1 : n ≤ 9223372036854775807) : wrap64 n = n := by
  unfold wrap64; omega
def ba (l : List UInt8) : ByteArray := ⟨l.toArray⟩
theorem ba_list (l : List UInt8) : (ba l).toList = l := by rw [ByteArray.toList_eq]; rfl
theorem ba_data (l : List UInt8) : (ba l).data.toList = l := rfl
theorem ba_size (l : List UInt8) : (ba l).size = l.length := rfl
theorem ba_of (s : ByteArray) : s = ba s.data.toList := rfl
theorem ba_app (a b : List UInt8) : ba a ++ ba b = ba (a ++ b) := by
  apply ByteArray.ext
  apply Array.toList_inj.1
  simp [ba]
theorem ba_inj {a b : List UInt8} : ba a = ba b ↔ a = b := ⟨fun h => by have := congrArg (fun s => s.data.toList) h; exact this, fun h => by rw [h]⟩
theorem ba_extract (l : List UInt8) (i j : Nat) : (ba l).extract i j = ba ((l.drop i).take (j - i)) := by
  apply ByteArray.ext
  apply Array.toList_inj.1
  simp [ba, List.extract_eq_take_drop]
theorem bt_ba (l : List UInt8) (i : Nat) (h : i < l.length) : bt (ba l) (i : Int) = ((l[i]).toNat : Int) := by
  unfold bt
  rw [dif_pos (show ((i : Nat) : Int).toNat < (ba l).size by rw [Int.toNat_natCast]; exact h)]
  rfl
theorem rd_ba (d : ByteArray) (l : List (List UInt8)) (i : Nat) (h : i < l.length) : rdOf d (l.map ba) (i : Int) = ba l[i] := by
  unfold rdOf
  simp [h]
/-! ### digits -/
theorem dig_one (n : Nat) (h : n < 10) (k : Nat) : turnspitref15_digits.f (k + 1) (n : Int) = some (ba (Lib.decDigits n)) := by
  have key : ∀ m : Fin 10, (⟨#[48, 49, 50, 51, 52, 53, 54, 55, 56, 57]⟩ : ByteArray).extract m.val (m.val + 1) = ba [UInt8.ofNat (48 + m.val)] := by decide
  rw [turnspitref15_digits.f, wrap64_small (by omega) (by omega), if_pos (by omega), if_pos (by omega), if_pos (by omega), if_pos (by omega), show (((n : Int) + 1).toNat) = n + 1 by omega, Int.toNat_natCast, Lib.decDigits, dif_pos h]
  exact congrArg some (key ⟨n, h⟩)
theorem digits_r : ∀ (d n k : Nat), n < 10 ^ (d + 1) → d ≤ 17 → d + 2 ≤ k → turnspitref15_digits.f k (n : Int) = some (ba (Lib.decDigits n)) := by
  intro d
  induction d with
  | zero =>
    intro n k hn _ hk
    obtain ⟨k, rfl⟩ : ∃ m, k = m + 1 := ⟨k - 1, by omega⟩
    exact dig_one n (by simpa using hn) k
  | succ d ih =>
    intro n k hn hd hk
    by_cases h10 : n < 10
    · obtain ⟨k, rfl⟩ : ∃ m, k = m + 1 := ⟨k - 1, by omega⟩
      exact dig_one n h10 k
    · obtain ⟨k, rfl⟩ : ∃ m, k = m + 2 := ⟨k - 2, by omega⟩
      have hb : n < 10 ^ 19 := Nat.lt_of_lt_of_le hn (Nat.pow_le_pow_right (by decide) (by omega))
      have e1 : Int.tdiv (n : Int) 10 = ((n / 10 : Nat) : Int) := by rw [Int.tdiv_eq_ediv_of_nonneg (by omega)]; rfl
      have e2 : Int.tmod (n : Int) 10 = ((n % 10 : Nat) : Int) := by rw [Int.tmod_eq_emod_of_nonneg (by omega)]; rfl
      have h19 : (10 : Nat) ^ 19 = 10000000000000000000 := by decide
      rw [h19] at hb
      have hn2 : n / 10 < 10 ^ (d + 1) := by rw [Nat.pow_succ] at hn; omega
      have e3 : Lib.decDigits n = Lib.decDigits (n / 10) ++ Lib.decDigits (n % 10) := by
        have ed : Lib.decDigits (n % 10) = [UInt8.ofNat (48 + n % 10)] := by rw [Lib.decDigits, dif_pos (by omega)]
        rw [ed, Lib.decDigits, dif_neg h10]
      rw [show k + 2 = (k + 1) + 1 from rfl, turnspitref15_digits.f, if_neg (by omega), e1, wrap64_small (by omega) (by omega), ih (n / 10) (k + 1) hn2 (by omega) (by omega), Option.bind_some, e2, dig_one (n % 10) (by omega) k, Option.bind_some, ba_app, ← e3]
      rw [if_pos]
      have h1 := dec_len d (n / 10) hn2
      have h2 := dec_len 0 (n % 10) (by simpa using Nat.mod_lt n (by decide))
      rw [ba_size, ba_size]
      omega
theorem digits15 (n : Nat) (h : n ≤ most) (k : Nat) (hk : 20 ≤ k) : turnspitref15_digits.f k (n : Int) = some (ba (Lib.decDigits n)) :=
  digits_r 12 n k (by unfold most at h; omega) (by omega) (by omega)
theorem digitsI {n : Int} (h : mayI n) (k : Nat) (hk : 20 ≤ k) : turnspitref15_digits.f k n = some (ba (decI n)) := by
  obtain ⟨m, rfl⟩ := Int.eq_ofNat_of_zero_le h.1
  have := digits15 m (by unfold most; have := h.2; omega) k hk
  rw [this]; rfl
theorem may15 (a : Int) : turnspitref15_may.f a = some (decide (mayI a)) := by
  unfold turnspitref15_may.f
  by_cases h : a ≥ 0
  · rw [if_pos h]
    congr 1
    exact decide_eq_decide.2 ⟨fun h1 => ⟨h, h1⟩, fun h1 => h1.2⟩
  · rw [if_neg h, decide_eq_false (fun h1 : mayI a => h h1.1)]
theorem dec_size {n : Int} (h : mayI n) : (ba (decI n)).size ≤ 13 := len_dec h
def numJ (l : List UInt8) : Int := match numT l with
  | some n => (n : Int)
  | none => -1
theorem vD_lt : ∀ (n : Nat) (l : List UInt8), l.length = n → (∀ x ∈ l, dD x = true) → vD l < 10 ^ n := by
  intro n
  induction n with
  | zero => intro l h _; obtain rfl := List.length_eq_zero_iff.1 h; show 0 < 10 ^ 0; decide
  | succ n ih =>
    intro l h hd
    obtain ⟨a, x, rfl⟩ : ∃ a x, l = a ++ [x] := ⟨l.dropLast, l.getLast (by intro e; rw [e] at h; cases h), (List.dropLast_concat_getLast _).symm⟩
    rw [List.length_append, List.length_singleton] at h
    have h1 := ih a (by omega) (fun y hy => hd y (List.mem_append.2 (.inl hy)))
    have h2 := (dD_iff x).1 (hd x (List.mem_append.2 (.inr (List.mem_singleton.2 rfl))))
    rw [vD_snoc, Nat.pow_succ]
    omega
theorem numT_digits {l : List UInt8} {n : Nat} (h : numT l = some n) : (∀ x ∈ l, dD x = true) ∧ l.length ≤ 13 ∧ l ≠ [] := by
  obtain ⟨rfl, hm⟩ := numT_some.1 h
  exact ⟨dec_dig n, dec_len13 n hm, dec_ne n⟩
theorem numJ_none {l : List UInt8} (h : numT l = none) : numJ l = -1 := by unfold numJ; rw [h]
theorem numJ_bad {l : List UInt8} (h : ¬ ((∀ x ∈ l, dD x = true) ∧ l.length ≤ 13 ∧ l ≠ [])) : numJ l = -1 := by
  apply numJ_none
  cases hn : numT l with
  | none => rfl
  | some n => exact absurd (numT_digits hn) h
theorem num_l (l : List UInt8) : ∀ d i k : Nat, i + d = l.length → i ≤ 13 → (∀ x ∈ l.take i, dD x = true) → 40 + (13 - i) ≤ k → turnspitref15_number.l0 k (ba l) ((vD (l.take i) : Nat) : Int) (i : Int) = some (numJ l) := by
  intro d
  induction d with
  | zero =>
    intro i k hi h13 hd hk
    obtain ⟨k, rfl⟩ : ∃ m, k = m + 1 := ⟨k - 1, by omega⟩
    obtain rfl : i = l.length := by omega
    rw [List.take_length] at hd ⊢
    rw [turnspitref15_number.l0, if_neg (by rw [ba_size]; omega), ba_list]
    by_cases h0 : l = []
    · rw [if_pos h0, numJ_bad (fun h => h.2.2 h0)]
    · rw [if_neg h0, may15, Option.bind_some]
      by_cases hm : vD l ≤ most
      · have hm2 : mayI ((vD l : Nat) : Int) := ⟨by omega, by unfold most at hm; omega⟩
        rw [decide_eq_true hm2, if_pos rfl, digits15 (vD l) hm k (by omega), Option.bind_some, ba_list]
        unfold numJ numT
        by_cases he : Lib.decDigits (vD l) = l
        · rw [if_pos he, if_pos ⟨he, hm⟩]
        · rw [if_neg he, if_neg (fun h => he h.1)]
      · have hm2 : ¬ mayI ((vD l : Nat) : Int) := fun h => hm (by unfold most; have := h.2; omega)
        rw [decide_eq_false hm2, if_neg (by decide)]
        unfold numJ numT
        rw [if_neg (fun h => hm h.2)]
  | succ d ih =>
    intro i k hi h13 hd hk
    obtain ⟨k, rfl⟩ : ∃ m, k = m + 1 := ⟨k - 1, by omega⟩
    have hil : i < l.length := by omega
    rw [turnspitref15_number.l0, if_pos (by rw [ba_size]; omega), if_pos (by omega), bt_ba l i hil]
    have hmem : l[i] ∈ l := List.getElem_mem hil
    by_cases h1 : ((l[i]).toNat : Int) < 48
    · rw [if_pos h1, numJ_bad (fun h => by have := (dD_iff _).1 (h.1 _ hmem); omega)]
    · rw [if_neg h1]
      by_cases h2 : ((l[i]).toNat : Int) > 57
      · rw [if_pos h2, numJ_bad (fun h => by have := (dD_iff _).1 (h.1 _ hmem); omega)]
      · rw [if_neg h2]
        by_cases h3 : (i : Int) > 12
        · rw [if_pos h3, numJ_bad (fun h => by have := h.2.1; omega)]
        · rw [if_neg h3]
          have q1 : i + 1 ≤ 13 := by omega
          have q2 : 40 + (13 - (i + 1)) ≤ k := by omega
          have q3 : i + 1 + d = l.length := by omega
          have hlt := vD_lt i (l.take i) (by rw [List.length_take]; omega) hd
          have hb : (10 : Nat) ^ i ≤ 10 ^ 12 := Nat.pow_le_pow_right (by decide) (by omega)
          have h12 : (10 : Nat) ^ 12 = 1000000000000 := by decide
          rw [h12] at hb
          have e : vD (l.take (i + 1)) = vD (l.take i) * 10 + ((l[i]).toNat - 48) := by
            rw [List.take_succ_eq_append_getElem hil, vD_snoc]
          have ev : wrap64 (wrap64 (wrap64 (((vD (l.take i) : Nat) : Int) * 10) + wrap64 ((l[i]).toNat : Int)) - 48) = ((vD (l.take (i + 1)) : Nat) : Int) := by
            rw [e, wrap64_small (n := ((vD (l.take i) : Nat) : Int) * 10) (by omega) (by omega), wrap64_small (n := ((l[i]).toNat : Int)) (by omega) (by omega), wrap64_small (n := ((vD (l.take i) : Nat) : Int) * 10 + ((l[i]).toNat : Int)) (by omega) (by omega), wrap64_small (by omega) (by omega)]
            omega
          have ew : wrap64 ((i : Int) + 1) = ((i + 1 : Nat) : Int) := by rw [wrap64_small (by omega) (by omega)]; rfl
          rw [ev, ew]
          refine ih (i + 1) k q3 q1 ?_ q2
          intro x hx
          rw [List.take_succ_eq_append_getElem hil] at hx
          rcases List.mem_append.1 hx with hx | hx
          · exact hd x hx
          · rw [List.mem_singleton.1 hx, dD_iff]; omega
theorem number15 (l : List UInt8) (k : Nat) (hk : 60 ≤ k) : turnspitref15_number.f k (ba l) = some (numJ l) := by
  unfold turnspitref15_number.f
  have h := num_l l l.length 0 k (by omega) (by omega) (fun x hx => by rw [List.take_zero] at hx; cases hx) (by omega)
  have e : ((vD (l.take 0) : Nat) : Int) = 0 := by rw [List.take_zero]; rfl
  rw [e, show ((0 : Nat) : Int) = 0 from rfl] at h
  exact h
/-! ### cut -/
def headPut (h : List UInt8) : List (List UInt8) → List (List UInt8)
  | [] => [h]
  | x :: r => (h ++ x) :: r
theorem cut_l (l : List UInt8) (hl : l.length ≤ 1000000) (c : UInt8) : ∀ d i f k : Nat, ∀ out : List ByteArray, i + d = l.length → f ≤ i → d < k → out.length ≤ i →
    turnspitref15_cut.l0 k (ba l) (c.toNat : Int) out (f : Int) (i : Int) = some (out ++ (headPut ((l.drop f).take (i - f)) (splitL c (l.drop i))).map ba) := by
  intro d
  induction d with
  | zero =>
    intro i f k out hi hf hk ho
    obtain ⟨k, rfl⟩ : ∃ m, k = m + 1 := ⟨k - 1, by omega⟩
    obtain rfl : i = l.length := by omega
    rw [turnspitref15_cut.l0, if_neg (by rw [ba_size]; omega), if_pos (by omega), if_pos (by rw [ba_size]; omega), if_pos (by omega), Int.toNat_natCast, ba_size, ba_extract, List.drop_length]
    show some (out ++ [ba _]) = some (out ++ [ba (_ ++ [])])
    rw [List.append_nil]
  | succ d ih =>
    intro i f k out hi hf hk ho
    obtain ⟨k, rfl⟩ : ∃ m, k = m + 1 := ⟨k - 1, by omega⟩
    have hil : i < l.length := by omega
    have ew : wrap64 ((i : Int) + 1) = ((i + 1 : Nat) : Int) := by rw [wrap64_small (by omega) (by omega)]; rfl
    rw [turnspitref15_cut.l0, if_pos (by rw [ba_size]; omega), if_pos (by omega), bt_ba l i hil, ew, List.drop_eq_getElem_cons hil, splitL]
    by_cases hc : l[i] = c
    · rw [if_pos (by rw [hc]), if_pos (by omega), if_pos (by omega), if_pos (by rw [ba_size]; omega), if_pos (by omega), Int.toNat_natCast, Int.toNat_natCast, ba_extract, if_pos hc]
      rw [ih (i + 1) (i + 1) k _ (by omega) (Nat.le_refl _) (by omega) (by rw [List.length_append, List.length_singleton]; omega)]
      have hs := splitL_ne c (l.drop (i + 1))
      cases hq : splitL c (l.drop (i + 1)) with
      | nil => exact absurd hq hs
      | cons u v => simp [headPut]
    · rw [if_neg (fun h => hc (UInt8.toNat_inj.1 (by omega))), if_neg hc, ih (i + 1) f k out (by omega) (by omega) (by omega) (by omega)]
      have ht : (l.drop f).take (i + 1 - f) = (l.drop f).take (i - f) ++ [l[i]] := by
        rw [show i + 1 - f = (i - f) + 1 by omega, List.take_succ_eq_append_getElem (by simp; omega)]
        congr 2
        rw [List.getElem_drop]
        congr 1
        omega
      rw [ht]
      have hs := splitL_ne c (l.drop (i + 1))
      cases hq : splitL c (l.drop (i + 1)) with
      | nil => exact absurd hq hs
      | cons u v => simp [headPut]
theorem cut15 (l : List UInt8) (hl : l.length ≤ 1000000) (c : UInt8) (k : Nat) (hk : l.length < k) : turnspitref15_cut.f k (ba l) (c.toNat : Int) = some ((splitL c l).map ba) := by
  unfold turnspitref15_cut.f
  have h := cut_l l hl c l.length 0 0 k [] (by omega) (Nat.le_refl _) hk (by simp)
  rw [show ((0 : Nat) : Int) = 0 from rfl] at h
  rw [h]
  have hs := splitL_ne c l
  cases hq : splitL c l with
  | nil => exact absurd hq hs
  | cons u v => simp [headPut, hq]
def optH (o : Option (Int × Int)) : Int × Int × Bool := match o with
  | some v => (v.1, v.2, true)
  | none => (0, 0, false)
theorem numJ_some {l : List UInt8} {n : Nat} (h : numT l = some n) : numJ l = (n : Int) := by unfold numJ; rw [h]
theorem handle15 (l : List UInt8) (hl : l.length ≤ 1000000) (k : Nat) (hk : l.length + 60 ≤ k) : turnspitref15_handle.f k (ba l) = some (optH (handleV l)) := by
  unfold turnspitref15_handle.f handleV
  have hc := cut15 l hl 46 k (by omega)
  rw [show (((46 : UInt8).toNat : Nat) : Int) = 46 from rfl] at hc
  rw [hc, Option.bind_some]
  generalize splitL 46 l = q
  rw [List.length_map]
  rcases q with _ | ⟨a, _ | ⟨b, _ | ⟨c, r⟩⟩⟩
  · rfl
  · rfl
  · rw [if_pos (by rfl), if_pos (by show (0 : Int) < 2; decide)]
    have r0 : rdOf ByteArray.empty ([a, b].map ba) 0 = ba a := rfl
    have r1 : rdOf ByteArray.empty ([a, b].map ba) 1 = ba b := rfl
    rw [r0, r1, number15 a k (by omega), Option.bind_some, if_pos (by show (1 : Int) < 2; decide), number15 b k (by omega), Option.bind_some]
    cases ha : numT a with
    | none =>
      rw [numJ_none ha, if_pos (by decide)]
      dsimp only
      rw [ha]; rfl
    | some x =>
      rw [numJ_some ha, if_neg (by omega)]
      cases hb : numT b with
      | none =>
        rw [numJ_none hb, if_pos (by decide)]
        dsimp only
        rw [ha]
        dsimp only
        rw [hb]; rfl
      | some y =>
        rw [numJ_some hb, if_neg (by omega)]
        dsimp only
        rw [ha]
        dsimp only
        rw [hb]; rfl
  · rw [if_neg (by simp only [List.length_cons]; omega)]; rfl
theorem splitL_len32 : ∀ (l : List UInt8), ∀ x ∈ splitL 32 l, x.length ≤ l.length
  | [], x, hx => by
    rw [List.mem_singleton.1 (show x ∈ [[]] from hx)]; exact Nat.le_refl _
  | y :: l, x, hx => by
    have ih := splitL_len32 l
    unfold splitL at hx
    split at hx
    · rcases List.mem_cons.1 hx with rfl | h
      · exact Nat.zero_le _
      · exact Nat.le_succ_of_le (ih x h)
    · split at hx
      · rw [List.mem_singleton.1 hx]; simp
      · rename_i h t he
        rcases List.mem_cons.1 hx with rfl | h2
        · have := ih h (by rw [he]; simp)
          simp; omega
        · exact Nat.le_succ_of_le (ih x (by rw [he]; exact List.mem_cons.2 (.inr h2)))
def c8 (c : CallS) (b : Bool) : Int × Int × Int × Int × Int × Int × Int × Bool := (c.op, c.slot, c.gen, c.cpu, c.n, c.nice, c.mask, b)
def c8i (c : CallS) (b : Int) : Int × Int × Int × Int × Int × Int × Int × Int := (c.op, c.slot, c.gen, c.cpu, c.n, c.nice, c.mask, b)
def PutOk (k : UInt8) (c : CallS) (l : List UInt8) (r : Option (Int × Int × Int × Int × Int × Int × Int × Bool)) : Prop :=
  ∃ c', r = some (c8 c' (readF k c l).isSome) ∧ ∀ d, readF k c l = some d → c' = d
theorem numJ_ge (l : List UInt8) : decide (numJ l ≥ 0) = (numT l).isSome := by
  cases h : numT l with
  | none => rw [numJ_none h]; rfl
  | some n => rw [numJ_some h]; exact decide_eq_true (by omega)
theorem nice_j2 (c : CallS) (l t : List UInt8) (n : Nat) (hn : n ≤ 1000) (h0 : ¬ (n = 0 ∧ t ≠ l)) (K : Nat) (b : Bool) (hb : b = false) :
    turnspitref15_put.j2 (K + 1) (ba l) (ba t) (n : Int) b c.op c.slot c.gen c.cpu c.n c.nice c.mask = some (c8 { c with nice := if t = l then (n : Int) else -(n : Int) } true) := by
  rw [turnspitref15_put.j2, hb, if_neg (by decide), ba_list, ba_list]
  by_cases h : t = l
  · rw [if_pos h, if_pos h]; rfl
  · rw [if_neg h, if_neg h, wrap64_small (by omega) (by omega)]; rfl
theorem nice_bad (c : CallS) (l t : List UInt8) (n : Int) (K : Nat) (b : Bool) (hb : b = true) :
    turnspitref15_put.j2 (K + 1) (ba l) (ba t) n b c.op c.slot c.gen c.cpu c.n c.nice c.mask = some (c8 c false) := by
  rw [turnspitref15_put.j2, hb, if_pos rfl]; rfl
/-- What j1 tells: the number of t, with the sign that l has. -/
def signV (l t : List UInt8) : Option Int := match numT t with
  | none => none
  | some n => if 1000 < n ∨ (n = 0 ∧ t ≠ l) then none else some (if t = l then (n : Int) else -(n : Int))
theorem nice_j1 (c : CallS) (l t : List UInt8) (K : Nat) (hK : 100 ≤ K) :
    turnspitref15_put.j1 K (ba l) (ba t) c.op c.slot c.gen c.cpu c.n c.nice c.mask = some (match signV l t with
      | none => c8 c false
      | some v => c8 { c with nice := v } true) := by
  obtain ⟨K, rfl⟩ : ∃ m, K = m + 2 := ⟨K - 2, by omega⟩
  rw [turnspitref15_put.j1, number15 t (K + 1) (by omega), Option.bind_some]
  unfold signV
  cases h : numT t with
  | none => rw [numJ_none h, if_pos (by decide), nice_bad c l t _ K true rfl]
  | some n =>
    rw [numJ_some h]
    dsimp only
    by_cases h1 : 1000 < n
    · rw [if_neg (by omega), if_pos (by omega), nice_bad c l t _ K true rfl, if_pos (.inl h1)]
    · rw [if_neg (by omega), if_neg (by omega)]
      by_cases h0 : n = 0
      · rw [if_pos (by omega), ba_list, ba_list]
        by_cases he : t = l
        · have hc : ¬ (1000 < n ∨ (n = 0 ∧ t ≠ l)) := fun hh => by
            rcases hh with hh | hh
            · omega
            · exact hh.2 he
          rw [nice_j2 c l t n (by omega) (fun hh => hh.2 he) K _ (by rw [he]; exact bne_self_eq_false _), if_neg hc]
        · rw [nice_bad c l t _ K _ (bne_iff_ne.2 he), if_pos (.inr ⟨h0, he⟩)]
      · have hc : ¬ (1000 < n ∨ (n = 0 ∧ t ≠ l)) := fun hh => by
          rcases hh with hh | hh
          · omega
          · exact h0 hh.1
        rw [if_neg (by omega), nice_j2 c l t n (by omega) (fun hh => h0 hh.1) K false rfl, if_neg hc]
theorem numT_nil : numT [] = none := by
  cases h : numT [] with
  | none => rfl
  | some n => exact absurd rfl (numT_digits h).2.2
theorem numT_minus : numT [45] = none := by
  cases h : numT [45] with
  | none => rfl
  | some n => exact absurd ((numT_digits h).1 45 (by simp)) (by decide)
theorem sign_same (l : List UInt8) (h : ∀ t, l ≠ 45 :: t) : signV l l = niceV l := by
  unfold signV niceV
  cases l with
  | nil =>
    rw [numT_nil]
  | cons x t =>
    have hx : x ≠ 45 := fun e => h t (by rw [e])
    dsimp only
    rw [if_neg hx]
    cases hn : numT (x :: t) with
    | none => rfl
    | some n =>
      dsimp only
      by_cases h1 : 1000 < n
      · rw [if_pos (.inl h1), if_pos h1]
      · have hc : ¬ (1000 < n ∨ (n = 0 ∧ x :: t ≠ x :: t)) := fun hh => by
          rcases hh with hh | hh
          · omega
          · exact hh.2 rfl
        rw [if_neg hc, if_neg h1, if_pos rfl]
theorem sign_neg (t : List UInt8) : signV (45 :: t) t = niceV (45 :: t) := by
  unfold signV niceV
  have hne : t ≠ 45 :: t := fun e => by have := congrArg List.length e; simp at this
  dsimp only
  rw [if_pos rfl]
  cases hn : numT t with
  | none => rfl
  | some n =>
    dsimp only
    by_cases h1 : 1000 < n
    · rw [if_pos (.inl h1), if_pos (.inr h1)]
    · by_cases h0 : n = 0
      · rw [if_pos (.inr ⟨h0, hne⟩), if_pos (.inl h0)]
      · have hc : ¬ (1000 < n ∨ (n = 0 ∧ t ≠ 45 :: t)) := fun hh => by
          rcases hh with hh | hh
          · omega
          · exact h0 hh.1
        have hd : ¬ (n = 0 ∨ 1000 < n) := fun hh => by omega
        rw [if_neg hc, if_neg hd, if_neg hne]
theorem put_nice (c : CallS) (l : List UInt8) (K : Nat) (hK : 200 ≤ K) : PutOk 110 c l (turnspitref15_put.f K c.op c.slot c.gen c.cpu c.n c.nice c.mask 110 (ba l)) := by
  obtain ⟨K, rfl⟩ : ∃ m, K = m + 1 := ⟨K - 1, by omega⟩
  have fin : ∀ r, r = some (match niceV l with
      | none => c8 c false
      | some v => c8 { c with nice := v } true) → PutOk 110 c l r := by
    intro r hr
    have e : readF 110 c l = (niceV l).map fun v => { c with nice := v } := rfl
    unfold PutOk
    rw [hr, e]
    cases niceV l with
    | none => exact ⟨c, rfl, fun d h => by cases h⟩
    | some v => exact ⟨{ c with nice := v }, rfl, fun d h => Option.some.inj h⟩
  refine fin _ ?_
  unfold turnspitref15_put.f
  rw [if_pos rfl, ba_size]
  have same : (∀ t, l ≠ 45 :: t) → turnspitref15_put.j0 (K + 1) (ba l) (ba l) false c.op c.slot c.gen c.cpu c.n c.nice c.mask = some (match niceV l with
      | none => c8 c false
      | some v => c8 { c with nice := v } true) := by
    intro h
    rw [turnspitref15_put.j0, if_neg (by decide), nice_j1 c l l K (by omega), sign_same l h]
  by_cases h1 : (l.length : Int) > 1
  · rw [if_pos h1, if_pos (by omega)]
    cases l with
    | nil => exact absurd h1 (by simp)
    | cons x t =>
      have hb : bt (ba (x :: t)) 0 = (x.toNat : Int) := bt_ba (x :: t) 0 (by simp)
      rw [hb]
      by_cases hx : x = 45
      · subst hx
        rw [show ((((45 : UInt8).toNat : Nat) : Int) == 45) = true from rfl, turnspitref15_put.j0, if_pos rfl, if_pos (by rw [ba_size]; omega), ba_extract, List.drop_one, List.tail_cons, ba_size, List.take_of_length_le (by simp), nice_j1 c _ t K (by omega), sign_neg]
      · have hn : ((x.toNat : Int) == 45) = false := by
          rw [beq_eq_false_iff_ne]
          intro e
          exact hx (UInt8.toNat_inj.1 (by have : (45 : UInt8).toNat = 45 := rfl; omega))
        rw [hn]
        exact same (fun u e => hx (List.cons.inj e).1)
  · rw [if_neg h1]
    by_cases hh : ∃ t, l = 45 :: t
    · obtain ⟨t, rfl⟩ := hh
      have ht : t = [] := by
        cases t with
        | nil => rfl
        | cons a b => exact absurd (by simp only [List.length_cons]; omega) h1
      subst ht
      rw [turnspitref15_put.j0, if_neg (by decide), nice_j1 c _ _ K (by omega)]
      unfold signV niceV
      dsimp only
      rw [numT_minus, numT_nil]
      rfl
    · exact same (fun t e => hh ⟨t, e⟩)
theorem put15 (k : UInt8) (hk : isLet k) (c : CallS) (l : List UInt8) (hl : l.length ≤ 2000) (K : Nat) (hK : 110000 ≤ K) : PutOk k c l (turnspitref15_put.f K c.op c.slot c.gen c.cpu c.n c.nice c.mask (k.toNat : Int) (ba l)) := by
  rcases hk with rfl | rfl | rfl | rfl | rfl
  · exact put_nice c l K (by omega)
  · unfold turnspitref15_put.f
    rw [if_neg (by decide), if_pos (by rfl)]
    have hr : turnspitref05_Parse.f K (ba l) = some (parseS l) := R5.parse_r l K (by omega)
    rw [hr, Option.bind_some]
    have e : readF 109 c l = if (parseS l).2 = 0 then some { c with mask := (parseS l).1 } else none := rfl
    unfold PutOk
    rw [e]
    by_cases h : (parseS l).2 = 0
    · rw [if_pos h]
      exact ⟨{ c with mask := (parseS l).1 }, by rw [h]; rfl, fun d h => Option.some.inj h⟩
    · rw [if_neg h]
      exact ⟨{ c with mask := (parseS l).1 }, by rw [beq_eq_false_iff_ne.2 h]; rfl, fun d h => by cases h⟩
  · unfold turnspitref15_put.f
    rw [if_neg (by decide), if_neg (by decide), if_pos (by rfl), handle15 l (by omega) K (by omega), Option.bind_some]
    have e : readF 116 c l = (handleV l).map fun v => { c with slot := v.1, gen := v.2 } := rfl
    unfold PutOk
    rw [e]
    cases h : handleV l with
    | none => exact ⟨{ c with slot := (optH none).1, gen := (optH none).2.1 }, rfl, fun d h => by cases h⟩
    | some v => exact ⟨{ c with slot := v.1, gen := v.2 }, rfl, fun d h => Option.some.inj h⟩
  · unfold turnspitref15_put.f
    rw [if_neg (by decide), if_neg (by decide), if_neg (by decide), if_pos (by rfl), number15 l K (by omega), Option.bind_some, numJ_ge]
    have e : readF 99 c l = (numT l).map fun (v : Nat) => { c with cpu := (v : Int) } := rfl
    unfold PutOk
    rw [e]
    refine ⟨{ c with cpu := numJ l }, by cases numT l <;> rfl, fun d h => ?_⟩
    cases hn : numT l with
    | none => rw [hn] at h; cases h
    | some n => rw [hn] at h; rw [numJ_some hn]; exact Option.some.inj h
  · unfold turnspitref15_put.f
    rw [if_neg (by decide), if_neg (by decide), if_neg (by decide), if_neg (by decide), number15 l K (by omega), Option.bind_some, numJ_ge]
    have e : readF 107 c l = (numT l).map fun (v : Nat) => { c with n := (v : Int) } := rfl
    unfold PutOk
    rw [e]
    refine ⟨{ c with n := numJ l }, by cases numT l <;> rfl, fun d h => ?_⟩
    cases hn : numT l with
    | none => rw [hn] at h; cases h
    | some n => rw [hn] at h; rw [numJ_some hn]; exact Option.some.inj h
def endR (o : Option CallS) : Int × Int × Int × Int × Int × Int × Int × Int := match o with
  | none => c8i call0 3
  | some d => c8i d 0
theorem goRead_len : ∀ (ks : List UInt8) (ws : List (List UInt8)) (c : CallS), ws.length ≠ ks.length → goRead ks ws c = none
  | [], [], _, h => absurd rfl h
  | [], _ :: _, _, _ => rfl
  | _ :: _, [], _, _ => rfl
  | k :: ks, w :: ws, c, h => by
    rw [goRead]
    cases readF k c w with
    | none => rfl
    | some d => exact goRead_len ks ws d (fun e => h (by simp [e]))
theorem parse_l1 (L : List UInt8) (hL : ∀ x ∈ L, isLet x) (hLl : L.length ≤ 10) (q : List (List UInt8)) (hq : ∀ x ∈ q, x.length ≤ 2000) :
    ∀ (ks pre : List UInt8) (ws wp : List (List UInt8)) (c : CallS) (K : Nat), L = pre ++ ks → q = wp ++ ws → wp.length = pre.length + 1 → ws.length = ks.length → 120000 + ks.length ≤ K →
      turnspitref15_Parse.l1 K (q.map ba) (ba L) (pre.length : Int) c.op c.slot c.gen c.cpu c.n c.nice c.mask = some (endR (goRead ks ws c)) := by
  intro ks
  induction ks with
  | nil =>
    intro pre ws wp c K hp hw hwl hl hK
    obtain ⟨K, rfl⟩ : ∃ m, K = m + 1 := ⟨K - 1, by omega⟩
    rw [List.append_nil] at hp
    rw [turnspitref15_Parse.l1, if_neg (by rw [ba_size, hp]; omega)]
    cases ws with
    | nil => rfl
    | cons a b => cases hl
  | cons k ks ih =>
    intro pre ws wp c K hp hw hwl hl hK
    obtain ⟨K, rfl⟩ : ∃ m, K = m + 1 := ⟨K - 1, by omega⟩
    cases ws with
    | nil => cases hl
    | cons x ws =>
      rw [List.length_cons] at hK
      have hlt : pre.length < L.length := by rw [hp]; simp
      have hget : L[pre.length] = k := by simp [hp]
      have hk : isLet k := hL k (by rw [hp]; simp)
      have hpl : pre.length ≤ 10 := by omega
      have ew : wrap64 ((pre.length : Int) + 1) = ((pre ++ [k]).length : Int) := by rw [wrap64_small (by omega) (by omega), List.length_append]; rfl
      have hwlt : (pre ++ [k]).length < q.length := by rw [hw]; simp; omega
      have hwget : q[(pre ++ [k]).length] = x := by
        have : (pre ++ [k]).length = wp.length := by simp; omega
        simp only [this, hw]
        simp
      have hx : x.length ≤ 2000 := hq x (by rw [hw]; simp)
      obtain ⟨c', hput, hc'⟩ := put15 k hk c x hx K (by omega)
      rw [turnspitref15_Parse.l1, if_pos (by rw [ba_size]; omega), if_pos (by omega), ew, if_pos (by omega), if_pos (by rw [List.length_map]; omega), bt_ba L pre.length hlt, hget, rd_ba _ q _ hwlt, hwget, hput, Option.bind_some, goRead]
      cases hr : readF k c x with
      | none => rfl
      | some d =>
        obtain rfl := hc' d hr
        refine Eq.trans (if_pos (by rfl)) ?_
        exact ih (pre ++ [k]) ws (wp ++ [x]) c' K (by rw [hp]; simp) (by rw [hw]; simp) (by simp; omega) (by simpa using hl) (by omega)
theorem names_at (k : Fin 13) : rdOf ByteArray.empty [(⟨#[99, 114, 101, 97, 116, 101]⟩ : ByteArray), (⟨#[101, 120, 105, 116]⟩ : ByteArray), (⟨#[119, 97, 107, 101]⟩ : ByteArray), (⟨#[98, 108, 111, 99, 107]⟩ : ByteArray), (⟨#[121, 105, 101, 108, 100]⟩ : ByteArray), (⟨#[116, 105, 99, 107]⟩ : ByteArray), (⟨#[112, 105, 99, 107]⟩ : ByteArray), (⟨#[109, 105, 103, 114, 97, 116, 101]⟩ : ByteArray), (⟨#[109, 97, 115, 107]⟩ : ByteArray), (⟨#[110, 105, 99, 101]⟩ : ByteArray), (⟨#[98, 97, 108, 97, 110, 99, 101]⟩ : ByteArray), (⟨#[115, 116, 111, 112]⟩ : ByteArray), (⟨#[108, 111, 111, 107]⟩ : ByteArray)] (k.val : Int) = ba (nameL (k.val + 1)) := by
  match k with
  | ⟨0, _⟩ | ⟨1, _⟩ | ⟨2, _⟩ | ⟨3, _⟩ | ⟨4, _⟩ | ⟨5, _⟩ | ⟨6, _⟩ | ⟨7, _⟩ | ⟨8, _⟩ | ⟨9, _⟩ | ⟨10, _⟩ | ⟨11, _⟩ | ⟨12, _⟩ => rfl
theorem told_at (k : Fin 13) : rdOf ByteArray.empty [(⟨#[110, 109]⟩ : ByteArray), (⟨#[116]⟩ : ByteArray), (⟨#[116]⟩ : ByteArray), (⟨#[99]⟩ : ByteArray), (⟨#[99]⟩ : ByteArray), (⟨#[99, 107]⟩ : ByteArray), (⟨#[99]⟩ : ByteArray), (⟨#[116, 99]⟩ : ByteArray), (⟨#[116, 109]⟩ : ByteArray), (⟨#[116, 110]⟩ : ByteArray), (⟨#[99, 107]⟩ : ByteArray), (⟨#[99]⟩ : ByteArray), (⟨#[116]⟩ : ByteArray)] (k.val : Int) = ba (toldL (k.val + 1)) := by
  match k with
  | ⟨0, _⟩ | ⟨1, _⟩ | ⟨2, _⟩ | ⟨3, _⟩ | ⟨4, _⟩ | ⟨5, _⟩ | ⟨6, _⟩ | ⟨7, _⟩ | ⟨8, _⟩ | ⟨9, _⟩ | ⟨10, _⟩ | ⟨11, _⟩ | ⟨12, _⟩ => rfl
theorem told_lets (k : Fin 13) : (∀ x ∈ toldL (k.val + 1), isLet x) ∧ (toldL (k.val + 1)).length ≤ 2 := by
  rcases told_ok k with ⟨a, e, ha⟩ | ⟨a, b, e, ha, hb, _⟩
  · rw [e]
    exact ⟨fun x hx => by rw [List.mem_singleton.1 hx]; exact ha, by simp⟩
  · rw [e]
    exact ⟨fun x hx => by rcases List.mem_cons.1 hx with rfl | hx; exact ha; rw [List.mem_singleton.1 hx]; exact hb, by simp⟩
/-- The reference's search for a word's op. -/
theorem parse_l0 (w : List UInt8) (ws : List (List UInt8)) (hq : ∀ x ∈ w :: ws, x.length ≤ 2000) (hql : ws.length ≤ 2000) :
    ∀ (d i K : Nat), i + d = 13 → (∀ j, j < i → nameL (j + 1) ≠ w) → 120100 + d ≤ K →
      turnspitref15_Parse.l0 K ((w :: ws).map ba) (i : Int) = some (endR (match opOf w with
        | none => none
        | some op => goRead (toldL op) ws (callOf (op : Int)))) := by
  intro d
  induction d with
  | zero =>
    intro i K hi hn hK
    obtain ⟨K, rfl⟩ : ∃ m, K = m + 1 := ⟨K - 1, by omega⟩
    have ho : opOf w = none := by
      cases ho : opOf w with
      | none => rfl
      | some op =>
        obtain ⟨h, k, rfl⟩ := opOf_some ho
        exact absurd h (hn k.val (by have := k.isLt; omega))
    rw [turnspitref15_Parse.l0, if_neg (by omega), ho]; rfl
  | succ d ih =>
    intro i K hi hn hK
    obtain ⟨K, rfl⟩ : ∃ m, K = m + 1 := ⟨K - 1, by omega⟩
    have hi13 : i < 13 := by omega
    have ew : wrap64 ((i : Int) + 1) = ((i + 1 : Nat) : Int) := by rw [wrap64_small (by omega) (by omega)]; rfl
    have r0 : rdOf ByteArray.empty ((w :: ws).map ba) 0 = ba w := rfl
    rw [turnspitref15_Parse.l0, if_pos (by omega)]
    unfold turnspitref15_names.f turnspitref15_told.f
    rw [Option.bind_some, if_pos (by omega), if_pos (by show (i : Int) < 13; omega), if_pos (by rw [List.length_map, List.length_cons]; omega), r0, ba_list]
    have hna := names_at ⟨i, hi13⟩
    have hta := told_at ⟨i, hi13⟩
    dsimp only at hna hta
    rw [hna, ba_list]
    by_cases h : nameL (i + 1) = w
    · rw [if_pos h, Option.bind_some, if_pos (by show (i : Int) < 13; omega), hta, ba_size]
      obtain ⟨hl1, hl2⟩ := told_lets ⟨i, hi13⟩
      dsimp only at hl1 hl2
      have ho : opOf w = some (i + 1) := by rw [← h]; exact name_op ⟨i, hi13⟩
      have ew2 : wrap64 (((toldL (i + 1)).length : Int) + 1) = (((toldL (i + 1)).length + 1 : Nat) : Int) := by rw [wrap64_small (by omega) (by omega)]; rfl
      rw [ho, ew2, List.length_map, List.length_cons]
      by_cases hl : ws.length = (toldL (i + 1)).length
      · rw [if_pos (by omega), ew]
        exact parse_l1 (toldL (i + 1)) hl1 (by omega) (w :: ws) hq (toldL (i + 1)) [] ws [w] (callOf ((i + 1 : Nat) : Int)) K rfl rfl rfl hl (by omega)
      · rw [if_neg (by omega)]
        dsimp only
        rw [goRead_len _ _ _ hl]; rfl
    · rw [if_neg h, ew]
      exact ih (i + 1) K (by omega) (fun j hj => by
        by_cases e : j = i
        · rw [e]; exact h
        · exact hn j (by omega)) (by omega)
theorem parse15r (l : List UInt8) (K : Nat) (hK : 130000 ≤ K) : turnspitref15_Parse.f K (ba l) = some (c8i (parseCS l).1 (parseCS l).2) := by
  unfold turnspitref15_Parse.f parseCS
  by_cases h : 1200 < l.length
  · rw [if_pos (by rw [ba_size]; omega), if_pos h]; rfl
  · have hc := cut15 l (by omega) 32 K (by omega)
    rw [show (((32 : UInt8).toNat : Nat) : Int) = 32 from rfl] at hc
    rw [if_neg (by rw [ba_size]; omega), if_neg h, hc, Option.bind_some]
    unfold parseC
    have hw := splitL_len32 l
    have hn := R5.splits_len 32 l
    have hne := splitL_ne 32 l
    generalize splitL 32 l = q at hw hn hne
    cases q with
    | nil => exact absurd rfl hne
    | cons w ws =>
      refine Eq.trans (parse_l0 w ws (fun x hx => by have := hw x hx; omega) (by simp at hn; omega) 13 0 K rfl (fun j hj => by omega) (by omega)) ?_
      dsimp only
      cases opOf w with
      | none => rfl
      | some op =>
        dsimp only
        cases goRead (toldL op) ws (callOf (op : Int)) with
        | none => rfl
        | some d => rfl
end Go.Proofs.YtilmbpdfdickoaaDoor.Pure

/- Chapter 05's reference, its Parse: plain. -/
import Derived.Test.YtilmbpdfdickoaaDoorPureRef5a
import Derived.Test.YtilmbpdfdickoaaDoorPrintF45
namespace Go.Proofs.YtilmbpdfdickoaaDoor.Pure.R5
open Go Go.RowKit Go.Proofs.YtilmbpdfdickoaaDoor Go.Proofs.YtilmbpdfdickoaaDoor.Pure Go.Proofs.YtilmbpdfdickoaaDoor.Given Go.Proofs.YtilmbpdfdickoaaDoor.Print Go.Proofs.YtilmbpdfdickoaaDoorW.PrintWords Go.Proofs.YtilmbpdfdickoaaDoorW.PrintLast Go.Proofs.YtilmbpdfdickoaaDoorW.PrintMore
set_option linter.unusedVariables false
set_option linter.unusedSimpArgs false
theorem with_r (M : Nat) (c : Int) (fuel : Nat) (hf : 65 < fuel) (hM : M < 18446744073709551616) : turnspitref04_With.f fuel (M : Int) c = some (withN M c : Int) := by
  unfold turnspitref04_With.f withN
  rw [has_r M c fuel hf hM, Option.bind_some, hasB_nat, bit_f c fuel hf, Option.bind_some]
  unfold bitv
  cases ho : oddB c
  · have hc := odd_false.1 ho
    cases ht : M.testBit c.toNat
    · rw [if_neg (by decide), if_neg (by decide), if_neg (by decide), ← Int.natCast_add, add_or _ _ ht, u64_wrap_nat _ (or_lt _ _ hM (pow_lt64 _ (by omega)))]
    · rw [if_pos (by decide), if_neg (by decide), or_same _ _ ht]
  · simp
    exact u64_wrap_nat _ hM
/-! ### Strings as lists -/
def headPut (h : List UInt8) : List (List UInt8) → List (List UInt8)
  | [] => [h]
  | x :: r => (h ++ x) :: r
theorem split_l (l : List UInt8) (hl : l.length ≤ 1000000) (c : UInt8) : ∀ d i f k : Nat, ∀ out : List ByteArray, i + d = l.length → f ≤ i → d < k → out.length ≤ i →
    turnspitref05_split.l0 k (ba l) (c.toNat : Int) out (f : Int) (i : Int) = some (out ++ (headPut ((l.drop f).take (i - f)) (splitL c (l.drop i))).map ba) := by
  intro d
  induction d with
  | zero =>
    intro i f k out hi hf hk ho
    obtain ⟨k, rfl⟩ : ∃ m, k = m + 1 := ⟨k - 1, by omega⟩
    obtain rfl : i = l.length := by omega
    rw [turnspitref05_split.l0, if_neg (by rw [ba_size]; omega), if_pos (by omega), if_pos (by rw [ba_size]; omega), if_pos (by omega), Int.toNat_natCast, ba_size, ba_extract, List.drop_length]
    show some (out ++ [ba _]) = some (out ++ [ba (_ ++ [])])
    rw [List.append_nil]
  | succ d ih =>
    intro i f k out hi hf hk ho
    obtain ⟨k, rfl⟩ : ∃ m, k = m + 1 := ⟨k - 1, by omega⟩
    have hil : i < l.length := by omega
    have ew : wrap64 ((i : Int) + 1) = ((i + 1 : Nat) : Int) := by rw [wrap64_small (by omega) (by omega)]; rfl
    rw [turnspitref05_split.l0, if_pos (by rw [ba_size]; omega), if_pos (by omega), bt_ba l i hil, ew, List.drop_eq_getElem_cons hil, splitL]
    by_cases hc : l[i] = c
    · rw [if_pos (by rw [hc]), if_pos (by omega), if_pos (by omega), if_pos (by rw [ba_size]; omega), if_pos (by omega), Int.toNat_natCast, Int.toNat_natCast, ba_extract, if_pos hc]
      rw [ih (i + 1) (i + 1) k _ (by omega) (Nat.le_refl _) (by omega) (by rw [List.length_append, List.length_singleton]; omega)]
      have hs := splitL_ne c (l.drop (i + 1))
      cases hq : splitL c (l.drop (i + 1)) with
      | nil => exact absurd hq hs
      | cons u v => simp [headPut]
    · rw [if_neg (fun h => hc (UInt8.toNat_inj.1 (by omega))), if_neg hc, ih (i + 1) f k out (by omega) (by omega) (by omega) (by omega)]
      have ht : (l.drop f).take (i + 1 - f) = (l.drop f).take (i - f) ++ [l[i]] := by
        rw [show i + 1 - f = (i - f) + 1 by omega, List.take_succ_eq_append_getElem (by simp; omega)]
        congr 2
        rw [List.getElem_drop]
        congr 1
        omega
      rw [ht]
      have hs := splitL_ne c (l.drop (i + 1))
      cases hq : splitL c (l.drop (i + 1)) with
      | nil => exact absurd hq hs
      | cons u v => simp [headPut]
theorem split_r (l : List UInt8) (hl : l.length ≤ 1000000) (c : UInt8) (k : Nat) (hk : l.length < k) : turnspitref05_split.f k (ba l) (c.toNat : Int) = some ((splitL c l).map ba) := by
  unfold turnspitref05_split.f
  have h := split_l l hl c l.length 0 0 k [] (by omega) (Nat.le_refl _) hk (by simp)
  rw [show ((0 : Nat) : Int) = 0 from rfl] at h
  rw [h]
  have hs := splitL_ne c l
  cases hq : splitL c l with
  | nil => exact absurd hq hs
  | cons u v => simp [headPut, hq]
/-! ### number -/
def numI (l : List UInt8) : Int := match numV l with
  | some n => (n : Int)
  | none => -1
theorem dg_of1 (a : UInt8) (h : isD a = true) : dg (a.toNat - 48) = [a] := by
  have := (isD_iff a).1 h
  unfold dg
  rw [if_pos (by omega), show 48 + (a.toNat - 48) = a.toNat by omega, UInt8.ofNat_toNat]
theorem dg_of2 (a b : UInt8) (ha : isD a = true) (hb : isD b = true) : dg (10 * (a.toNat - 48) + (b.toNat - 48)) = [a, b] ↔ a.toNat ≠ 48 := by
  have h1 := (isD_iff a).1 ha
  have h2 := (isD_iff b).1 hb
  unfold dg
  constructor
  · intro h h48
    rw [if_pos (by omega)] at h
    have := congrArg List.length h
    simp at this
  · intro h48
    rw [if_neg (by omega), show 48 + (10 * (a.toNat - 48) + (b.toNat - 48)) / 10 = a.toNat by omega, show 48 + (10 * (a.toNat - 48) + (b.toNat - 48)) % 10 = b.toNat by omega, UInt8.ofNat_toNat, UInt8.ofNat_toNat]
theorem num_bad (k : Nat) (l : List UInt8) (n i : Nat) (h : i < l.length) (hb : isD l[i] = false ∨ 1 < i) : turnspitref05_number.l0 (k + 1) (ba l) (n : Int) (i : Int) = some (-1) := by
  rw [turnspitref05_number.l0, if_pos (by rw [ba_size]; omega), if_pos (by omega), bt_ba l i h]
  by_cases h1 : ((l[i]).toNat : Int) < 48
  · rw [if_pos h1]
  · rw [if_neg h1]
    by_cases h2 : ((l[i]).toNat : Int) > 57
    · rw [if_pos h2]
    · rw [if_neg h2, if_pos]
      rcases hb with hb | hb
      · have := (isD_iff l[i]).2 ⟨by omega, by omega⟩
        rw [hb] at this; cases this
      · omega
theorem num_dig (k : Nat) (l : List UInt8) (n i : Nat) (h : i < l.length) (hd : isD l[i] = true) (hi : i ≤ 1) (hn : n ≤ 100) : turnspitref05_number.l0 (k + 1) (ba l) (n : Int) (i : Int) = turnspitref05_number.l0 k (ba l) ((n * 10 + ((l[i]).toNat - 48) : Nat) : Int) ((i + 1 : Nat) : Int) := by
  have := (isD_iff l[i]).1 hd
  rw [turnspitref05_number.l0, if_pos (by rw [ba_size]; omega), if_pos (by omega), bt_ba l i h, if_neg (by omega), if_neg (by omega), if_neg (by omega)]
  congr 1
  · rw [wrap64_small (n := (n : Int) * 10) (by omega) (by omega), wrap64_small (n := ((l[i]).toNat : Int)) (by omega) (by omega), wrap64_small (n := (n : Int) * 10 + ((l[i]).toNat : Int)) (by omega) (by omega), wrap64_small (by omega) (by omega)]
    omega
  · rw [wrap64_small (by omega) (by omega)]; rfl
theorem num_end (k : Nat) (l : List UInt8) (n : Nat) (h0 : l ≠ []) (hn : n < 100) : turnspitref05_number.l0 (k + 3) (ba l) (n : Int) (l.length : Int) = some (if 63 < n then -1 else if dg n = l then (n : Int) else -1) := by
  rw [turnspitref05_number.l0, if_neg (by rw [ba_size]; omega), if_neg (by rw [ba_list]; exact h0)]
  by_cases h63 : 63 < n
  · rw [if_pos (by omega), if_pos h63]
  · rw [if_neg (by omega), if_neg h63, digits_r n hn k, Option.bind_some, ba_list, ba_list]
    by_cases he : dg n = l
    · rw [if_pos he, if_pos he]
    · rw [if_neg he, if_neg he]
theorem number_r (l : List UInt8) (k : Nat) (hk : 10 ≤ k) : turnspitref05_number.f k (ba l) = some (numI l) := by
  obtain ⟨k, rfl⟩ : ∃ m, k = m + 6 := ⟨k - 6, by omega⟩
  unfold turnspitref05_number.f
  match l with
  | [] =>
    rw [turnspitref05_number.l0, if_neg (by rw [ba_size]; simp), if_pos (by rw [ba_list])]
    rfl
  | [a] =>
    cases ha : isD a with
    | false =>
      have h := num_bad (k + 5) [a] 0 0 (by simp) (.inl ha)
      rw [show ((0 : Nat) : Int) = 0 from rfl] at h
      rw [h]
      unfold numI
      rw [numV1, ha]
      rfl
    | true =>
      have h := num_dig (k + 5) [a] 0 0 (by simp) ha (by omega) (by omega)
      have had := (isD_iff a).1 ha
      rw [show ((0 : Nat) : Int) = 0 from rfl] at h
      rw [h]
      have h2 := num_end (k + 2) [a] (0 * 10 + (a.toNat - 48)) (by simp) (by omega)
      refine Eq.trans h2 ?_
      have e0 : 0 * 10 + (a.toNat - 48) = a.toNat - 48 := by omega
      rw [e0, if_neg (by omega), if_pos (dg_of1 a ha)]
      unfold numI
      rw [numV1, ha]
      rfl
  | [a, b] =>
    cases ha : isD a with
    | false =>
      have h := num_bad (k + 5) [a, b] 0 0 (by simp) (.inl ha)
      rw [show ((0 : Nat) : Int) = 0 from rfl] at h
      rw [h]
      unfold numI
      rw [numV_bad (x := a) (by simp) ha]
    | true =>
      have h := num_dig (k + 5) [a, b] 0 0 (by simp) ha (by omega) (by omega)
      have had := (isD_iff a).1 ha
      rw [show ((0 : Nat) : Int) = 0 from rfl] at h
      rw [h]
      cases hb : isD b with
      | false =>
        have h2 := num_bad (k + 4) [a, b] (0 * 10 + (a.toNat - 48)) 1 (by simp) (.inl hb)
        refine Eq.trans h2 ?_
        unfold numI
        rw [numV_bad (x := b) (by simp) hb]
      | true =>
        have hbd := (isD_iff b).1 hb
        have h2 := num_dig (k + 4) [a, b] (0 * 10 + (a.toNat - 48)) 1 (by simp) hb (by omega) (by omega)
        refine Eq.trans h2 ?_
        have h3 := num_end (k + 1) [a, b] ((0 * 10 + (a.toNat - 48)) * 10 + (b.toNat - 48)) (by simp) (by omega)
        refine Eq.trans h3 ?_
        have e0 : (0 * 10 + (a.toNat - 48)) * 10 + (b.toNat - 48) = 10 * (a.toNat - 48) + (b.toNat - 48) := by omega
        rw [e0]
        unfold numI
        rw [numV2]
        have hd2 := dg_of2 a b ha hb
        by_cases h48 : a.toNat = 48
        · rw [if_neg (show ¬ (63 < 10 * (a.toNat - 48) + (b.toNat - 48)) by omega), if_neg (fun h => hd2.1 h h48), if_neg (fun h => h.2.2.1 h48)]
        · by_cases h64 : 10 * (a.toNat - 48) + (b.toNat - 48) < 64
          · rw [if_neg (by omega), if_pos (hd2.2 h48), if_pos ⟨ha, hb, h48, h64⟩]
          · rw [if_pos (by omega), if_neg (fun h => h64 h.2.2.2)]
  | a :: b :: c :: r =>
    have hn : numV (a :: b :: c :: r) = none := rfl
    have hI : numI (a :: b :: c :: r) = -1 := by unfold numI; rw [hn]
    rw [hI]
    cases ha : isD a with
    | false =>
      have h := num_bad (k + 5) (a :: b :: c :: r) 0 0 (by simp) (.inl ha)
      exact h
    | true =>
      have h := num_dig (k + 5) (a :: b :: c :: r) 0 0 (by simp) ha (by omega) (by omega)
      have had := (isD_iff a).1 ha
      rw [show ((0 : Nat) : Int) = 0 from rfl] at h
      rw [h]
      cases hb : isD b with
      | false => exact num_bad (k + 4) (a :: b :: c :: r) (0 * 10 + (a.toNat - 48)) 1 (by simp) (.inl hb)
      | true =>
        have hbd := (isD_iff b).1 hb
        refine Eq.trans (num_dig (k + 4) (a :: b :: c :: r) (0 * 10 + (a.toNat - 48)) 1 (by simp) hb (by omega) (by omega)) ?_
        exact num_bad (k + 3) (a :: b :: c :: r) _ 2 (by simp) (.inr (by omega))
/-! ### Parse -/
theorem span_step (m c b : Nat) (h : c ≤ b) : (m ||| 2 ^ c) ||| span (c + 1) b = m ||| span c b := by
  apply Nat.eq_of_testBit_eq
  intro i
  rw [Nat.testBit_or, Nat.testBit_or, Nat.testBit_or, span_bit (c + 1) b i (by omega), span_bit c b i (by omega), Nat.testBit_two_pow]
  by_cases h1 : c = i
  · subst h1
    cases m.testBit c <;> simp [h]
  · cases m.testBit i
    · by_cases h2 : c ≤ i
      · have : c + 1 ≤ i := by omega
        simp [h1, h2, this]
      · have : ¬ c + 1 ≤ i := by omega
        simp [h1, h2, this]
    · simp
theorem span_none (b : Nat) : span (b + 1) b = 0 := by unfold span; omega
theorem l1_r (x5 : List ByteArray) (x6 : Int) (b : Nat) (hb : b < 64) : ∀ d c k m : Nat, c + d = b + 1 → m < 2 ^ 64 → 70 ≤ k →
    turnspitref05_Parse.l1 (k + d + 1) (m : Int) x5 x6 (b : Int) (c : Int) = turnspitref05_Parse.l0 k ((m ||| span c b : Nat) : Int) x5 (wrap64 (x6 + 1)) := by
  intro d
  induction d with
  | zero =>
    intro c k m h hm hk
    obtain rfl : c = b + 1 := by omega
    rw [turnspitref05_Parse.l1, if_neg (by omega), span_none, Nat.or_zero]
  | succ d ih =>
    intro c k m h hm hk
    rw [turnspitref05_Parse.l1, if_pos (by omega), with_r m c _ (by omega) (by omega), Option.bind_some]
    have hw : withN m (c : Int) = m ||| 2 ^ c := by
      unfold withN
      rw [if_neg (by rw [odd_false.2 ⟨by omega, by omega⟩]; decide), Int.toNat_natCast]
    have hm2 : m ||| 2 ^ c < 2 ^ 64 := or64 m _ hm (pow_lt64 c (by omega))
    rw [hw, wrap64_small (by omega) (by omega), show ((c : Int) + 1) = ((c + 1 : Nat) : Int) from rfl, show k + (d + 1) = k + d + 1 from rfl, ih (c + 1) k (m ||| 2 ^ c) (by omega) hm2 hk, span_step m c b (by omega)]
def resI (o : Option Nat) : Int × Int := match o with
  | some m => ((m : Int), 0)
  | none => (0, 3)
theorem piece_len (c : UInt8) : ∀ (l x : List UInt8), x ∈ splitL c l → x.length ≤ l.length := by
  intro l
  induction l with
  | nil => intro x hx; simp [splitL] at hx; rw [hx]; exact Nat.le_refl _
  | cons y l ih =>
    intro x hx
    rw [splitL] at hx
    split at hx
    · rcases List.mem_cons.1 hx with rfl | hx
      · simp
      · have := ih x hx; rw [List.length_cons]; omega
    · cases hs : splitL c l with
      | nil => exact absurd hs (splitL_ne c l)
      | cons u v =>
        rw [hs] at hx
        rcases List.mem_cons.1 hx with rfl | hx
        · have := ih u (by rw [hs]; exact List.mem_cons_self); simp only [List.length_cons]; omega
        · have := ih x (by rw [hs]; exact List.mem_cons_of_mem _ hx); rw [List.length_cons]; omega
theorem splits_len (c : UInt8) : ∀ l : List UInt8, (splitL c l).length ≤ l.length + 1 := by
  intro l
  induction l with
  | nil => simp [splitL]
  | cons y l ih =>
    rw [splitL]
    split
    · simp only [List.length_cons]; omega
    · cases hs : splitL c l with
      | nil => exact absurd hs (splitL_ne c l)
      | cons u v => rw [hs] at ih; simp only [List.length_cons] at ih ⊢; omega
theorem rd_ba (d : ByteArray) (l : List (List UInt8)) (i : Nat) (h : i < l.length) : rdOf d (l.map ba) (i : Int) = ba l[i] := by
  simp [rdOf, h]
theorem numI_neg {l : List UInt8} (h : numV l = none) : numI l = -1 := by unfold numI; rw [h]
theorem numI_pos {l : List UInt8} {n : Nat} (h : numV l = some n) : numI l = (n : Int) := by unfold numI; rw [h]
theorem numI_ge (l : List UInt8) : -1 ≤ numI l := by unfold numI; split <;> omega
theorem j1_bad (k : Nat) (m : Int) (x5 : List ByteArray) (i : Int) (x7 : List ByteArray) (a b : Int) (h : (x7.length : Int) > 2 ∨ a < 0 ∨ b < a) : turnspitref05_Parse.j1 (k + 2) m x5 i x7 a b = some (0, 3) := by
  rw [turnspitref05_Parse.j1]
  by_cases h1 : (x7.length : Int) > 2
  · rw [if_pos h1, turnspitref05_Parse.j2, if_pos rfl]
  · rw [if_neg h1]
    by_cases h2 : a < 0
    · rw [if_pos h2, turnspitref05_Parse.j2, if_pos rfl]
    · rw [if_neg h2, decide_eq_true (by omega), turnspitref05_Parse.j2, if_pos rfl]
theorem j1_good (k : Nat) (m : Int) (x5 : List ByteArray) (i : Int) (x7 : List ByteArray) (a b : Int) (h : (x7.length : Int) ≤ 2) (h0 : 0 ≤ a) (h1 : a ≤ b) : turnspitref05_Parse.j1 (k + 2) m x5 i x7 a b = turnspitref05_Parse.l1 k m x5 i b a := by
  rw [turnspitref05_Parse.j1, if_neg (by omega), if_neg (by omega), decide_eq_false (by omega), turnspitref05_Parse.j2, if_neg Bool.false_ne_true]
theorem parse_l (items : List (List UInt8)) (hit : ∀ x ∈ items, x.length ≤ 1000) (hlen : items.length ≤ 1100) : ∀ d i k m : Nat, i + d = items.length → m < 2 ^ 64 → 70 * d + 2000 ≤ k →
    turnspitref05_Parse.l0 k (m : Int) (items.map ba) (i : Int) = some (resI (parseL (items.drop i) m)) := by
  intro d
  induction d with
  | zero =>
    intro i k m hi hm hk
    obtain ⟨k, rfl⟩ : ∃ q, k = q + 1 := ⟨k - 1, by omega⟩
    obtain rfl : i = items.length := by omega
    rw [turnspitref05_Parse.l0, if_neg (by rw [List.length_map]; omega), List.drop_length]
    rfl
  | succ d ih =>
    intro i k m hi hm hk
    have hil : i < items.length := by omega
    have hx := hit _ (List.getElem_mem hil)
    have ew : wrap64 ((i : Int) + 1) = ((i + 1 : Nat) : Int) := by rw [wrap64_small (by omega) (by omega)]; rfl
    -- a good item
    have good : ∀ (k : Nat) (x7 : List ByteArray) (a b : Nat), (x7.length : Int) ≤ 2 → a ≤ b → b < 64 → itemV items[i] = some (a, b) → 70 * d + 2000 ≤ k → turnspitref05_Parse.j1 (k + 67) (m : Int) (items.map ba) (i : Int) x7 (a : Int) (b : Int) = some (resI (parseL (items.drop i) m)) := by
      intro k x7 a b h7 hab hb hiv hk'
      rw [show k + 67 = (k + 65) + 2 by omega, j1_good (k + 65) _ _ _ x7 _ _ h7 (by omega) (by omega)]
      have e : k + 65 = (k + 65 - (b + 1 - a) - 1) + (b + 1 - a) + 1 := by omega
      rw [e, l1_r (items.map ba) (i : Int) b hb (b + 1 - a) a _ m (by omega) hm (by omega), ew, ih (i + 1) _ _ (by omega) (or64 m _ hm (span_lt a b hb)) (by omega), List.drop_eq_getElem_cons hil, parseL, hiv]
    have bad : ∀ (k : Nat) (x7 : List ByteArray) (a b : Int), ((x7.length : Int) > 2 ∨ a < 0 ∨ b < a) → itemV items[i] = none → turnspitref05_Parse.j1 (k + 2) (m : Int) (items.map ba) (i : Int) x7 a b = some (resI (parseL (items.drop i) m)) := by
      intro k x7 a b h hiv
      rw [j1_bad k _ _ _ x7 a b h, List.drop_eq_getElem_cons hil, parseL, hiv]
      rfl
    obtain ⟨k, rfl⟩ : ∃ q, k = q + 68 := ⟨k - 68, by omega⟩
    rw [turnspitref05_Parse.l0, if_pos (by rw [List.length_map]; omega), if_pos (by omega), rd_ba _ items i hil]
    have hsp := split_r items[i] (by omega) 45 (k + 67) (by omega)
    rw [show ((45 : UInt8).toNat : Int) = 45 from rfl] at hsp
    rw [hsp, Option.bind_some]
    have hne := splitL_ne 45 items[i]
    have hivd : itemV items[i] = (match splitL 45 items[i] with
      | [p] => match numV p with
        | none => none
        | some n => some (n, n)
      | [p, q] => match numV p with
        | none => none
        | some a => match numV q with
          | none => none
          | some b => if b < a then none else some (a, b)
      | _ => none) := rfl
    cases hs : splitL 45 items[i] with
    | nil => exact absurd hs hne
    | cons p0 ps =>
      rw [hs] at hivd
      have hn0 := number_r p0 (k + 67) (by omega)
      have r0 : rdOf ByteArray.empty ((p0 :: ps).map ba) 0 = ba p0 := rd_ba ByteArray.empty (p0 :: ps) 0 (by simp)
      rw [if_pos (by rw [List.length_map, List.length_cons]; omega), r0, hn0, Option.bind_some]
      cases ps with
      | nil =>
        rw [if_neg (by simp)]
        cases hv : numV p0 with
        | none =>
          rw [numI_neg hv]
          exact bad (k + 65) _ _ _ (.inr (.inl (by decide))) (by rw [hivd]; simp only [hv])
        | some n =>
          rw [numI_pos hv]
          exact good k _ n n (by simp) (Nat.le_refl _) (numV_lt hv) (by rw [hivd]; simp only [hv]) (by omega)
      | cons p1 ps =>
        have hn1 := number_r p1 (k + 67) (by omega)
        have r1 : rdOf ByteArray.empty ((p0 :: p1 :: ps).map ba) 1 = ba p1 := rd_ba ByteArray.empty (p0 :: p1 :: ps) 1 (by simp)
        rw [if_pos (by simp; omega), if_pos (by simp; omega), r1, hn1, Option.bind_some]
        cases ps with
        | nil =>
          cases hv : numV p0 with
          | none =>
            rw [numI_neg hv]
            exact bad (k + 65) _ _ _ (.inr (.inl (by decide))) (by rw [hivd]; simp only [hv])
          | some a =>
            cases hu : numV p1 with
            | none =>
              rw [numI_pos hv, numI_neg hu]
              exact bad (k + 65) _ _ _ (.inr (.inr (by omega))) (by rw [hivd]; simp only [hv, hu])
            | some b =>
              rw [numI_pos hv, numI_pos hu]
              by_cases hab : b < a
              · exact bad (k + 65) _ _ _ (.inr (.inr (by omega))) (by rw [hivd]; simp only [hv, hu, if_pos hab])
              · exact good k _ a b (by simp) (by omega) (numV_lt hu) (by rw [hivd]; simp only [hv, hu, if_neg hab]) (by omega)
        | cons p2 ps => exact bad (k + 65) _ _ _ (.inl (by simp; omega)) (by rw [hivd])
theorem parse_r (l : List UInt8) (k : Nat) (hk : 100000 ≤ k) : turnspitref05_Parse.f k (ba l) = some (parseS l) := by
  unfold turnspitref05_Parse.f parseS
  by_cases hlong : 1000 < l.length
  · rw [if_pos (by rw [ba_size]; omega), if_pos hlong]
  · rw [if_neg (by rw [ba_size]; omega), if_neg hlong, ba_list]
    by_cases hd : l = [45]
    · rw [if_pos hd, if_pos hd]
    · have hsp := split_r l (by omega) 44 k (by omega)
      rw [show ((44 : UInt8).toNat : Int) = 44 from rfl] at hsp
      have hsl := splits_len 44 l
      have h := parse_l (splitL 44 l) (fun x hx => by have := piece_len 44 l x hx; omega) (by omega) (splitL 44 l).length 0 k 0 (by omega) (by decide) (by omega)
      rw [if_neg hd, if_neg hd, hsp, Option.bind_some]
      refine Eq.trans h ?_
      rw [List.drop_zero]
      unfold parseT resI
      rfl
/-! ### Print -/
end Go.Proofs.YtilmbpdfdickoaaDoor.Pure.R5

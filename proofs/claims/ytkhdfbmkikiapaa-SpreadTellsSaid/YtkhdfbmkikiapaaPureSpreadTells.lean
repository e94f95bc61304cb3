/- SpreadTells: plain. -/
import Derived.Test.YtkhdfbmkikiapaaPureBase
import Derived.Test.YtkhdfbmkikiapaaPrintF3
namespace Go.Proofs.Ytkhdfbmkikiapaa
set_option linter.unusedVariables false
set_option linter.unusedSimpArgs false
open Go.RowKit Go.Proofs.Ytkhdfbmkikiapaa.Given Go.Proofs.Ytkhdfbmkikiapaa.Print Go.Proofs.YtkhdfbmkikiapaaW.PrintWords Go.Proofs.Ytkhdfbmkikiapaa.Pure
namespace Pure
theorem load_of {n : Int} (h0 : 0 ≤ n) (h1 : n ≤ 1099511627776) : loadB n = true := by
  unfold loadB
  rw [decide_eq_true h0, decide_eq_true h1]; rfl
theorem gain_half {h t x : Int} (hg : gainB h t x = true) : 2 * x ≤ t - h := by
  obtain ⟨⟨h0, h1⟩, ⟨t0, t1⟩, x0, x1⟩ := gain_range hg
  unfold gainB at hg
  simp only [Bool.and_eq_true, decide_eq_true_eq] at hg
  obtain ⟨_, _, _, h5⟩ := hg
  have e1 : wrap64 (t - h) = t - h := wrap64_small (by omega) (by omega)
  rw [e1] at h5
  rcases Int.le_total 0 (t - h) with h2 | h2
  · rw [Int.tdiv_eq_ediv_of_nonneg h2, wrap64_small (by omega) (by omega)] at h5
    omega
  · have h3 : (t - h) = -(h - t) := by omega
    rw [h3, Int.neg_tdiv, Int.tdiv_eq_ediv_of_nonneg (by omega), wrap64_small (by omega) (by omega)] at h5
    omega
theorem gain_of {h t x : Int} (hh : loadB h = true) (ht : loadB t = true) (hx : 1 ≤ x) (h2 : 2 * x ≤ t - h) : gainB h t x = true := by
  have a := hh
  have b := ht
  unfold loadB at a b
  simp only [Bool.and_eq_true, decide_eq_true_eq] at a b
  unfold gainB
  rw [hh, ht, decide_eq_true hx, Bool.true_and, Bool.true_and, Bool.true_and, decide_eq_true_eq, wrap64_small (n := t - h) (by omega) (by omega), Int.tdiv_eq_ediv_of_nonneg (by omega), wrap64_small (by omega) (by omega)]
  omega
theorem refLoad_f (n : Int) : turnspitref13_load.f n = some (loadB n) := by
  unfold turnspitref13_load.f loadB
  split
  · rename_i h; rw [decide_eq_true (show 0 ≤ n from h), Bool.true_and]
  · rename_i h; rw [decide_eq_false (show ¬ 0 ≤ n from h)]; rfl
theorem refGain_f (h t x : Int) : turnspitref13_Gain.f h t x = some (gainB h t x) := by
  unfold turnspitref13_Gain.f
  rw [refLoad_f, Option.bind_some, refLoad_f, Option.bind_some]
  cases hh : loadB h with
  | false =>
    rw [if_neg Bool.false_ne_true]
    unfold gainB
    rw [hh]; rfl
  | true =>
    rw [if_pos rfl]
    cases ht : loadB t with
    | false =>
      rw [if_neg Bool.false_ne_true]
      unfold gainB
      rw [hh, ht]; rfl
    | true =>
      rw [if_pos rfl]
      have a := hh
      have b := ht
      unfold loadB at a b
      simp only [Bool.and_eq_true, decide_eq_true_eq] at a b
      cases hg : gainB h t x with
      | true =>
        obtain ⟨_, _, x0, x1⟩ := gain_range hg
        have := gain_half hg
        rw [if_neg (by omega), if_neg (by omega), wrap64_small (by omega) (by omega), wrap64_small (by omega) (by omega), decide_eq_true this]
      | false =>
        split
        · rfl
        · split
          · rfl
          · rw [wrap64_small (by omega) (by omega), wrap64_small (by omega) (by omega), decide_eq_false]
            intro h2
            rw [gain_of hh ht (by omega) h2] at hg
            cases hg
theorem pow_lt64 (k : Nat) (h : k < 64) : 2 ^ k < 18446744073709551616 := by
  have := Nat.pow_lt_pow_right (a := 2) (by decide) h
  simpa using this
theorem u64_wrap_nat (p : Nat) (h : p < 18446744073709551616) : IntKind.u64.wrap (p : Int) = (p : Int) := by
  rw [IntKind.wrap_u64]; omega
theorem bit_l (d : Nat) : ∀ i c fuel : Nat, i + d = c → c < 64 → d < fuel → turnspitref04_bit.l0 fuel (c : Int) ((2 ^ i : Nat) : Int) (i : Int) = some ((2 ^ c : Nat) : Int) := by
  induction d with
  | zero =>
    rintro i c (_ | fuel) h hc hf
    · omega
    · obtain rfl : i = c := by omega
      unfold turnspitref04_bit.l0
      rw [if_neg (by omega)]
  | succ d ih =>
    rintro i c (_ | fuel) h hc hf
    · omega
    · unfold turnspitref04_bit.l0
      have hp : 2 ^ (i + 1) = 2 ^ i * 2 := Nat.pow_succ ..
      have hl := pow_lt64 (i + 1) (by omega)
      rw [if_pos (by omega), wrap64_small (by omega) (by omega), show (((2 ^ i : Nat) : Int) * 2) = ((2 ^ (i + 1) : Nat) : Int) by omega, u64_wrap_nat _ hl]
      exact ih (i + 1) c fuel (by omega) hc (by omega)
theorem has_r (m : Int) (m0 : 0 ≤ m) (m1 : m < 18446744073709551616) (c : Int) (c0 : 0 ≤ c) (c1 : c < 64) (fuel : Nat) (hf : 66 < fuel) : turnspitref04_Has.f fuel m c = some (hasB m c) := by
  obtain ⟨M, rfl⟩ := Int.eq_ofNat_of_zero_le m0
  obtain ⟨i, rfl⟩ := Int.eq_ofNat_of_zero_le c0
  obtain ⟨k, rfl⟩ : ∃ k, fuel = k + 1 := ⟨fuel - 1, by omega⟩
  have hb : turnspitref04_bit.f (k + 1) (i : Int) = some ((2 ^ i : Nat) : Int) := by
    unfold turnspitref04_bit.f
    rw [if_neg (by omega)]
    show (if decide ((i : Int) > 63) = true then (some 0) else (turnspitref04_bit.l0 k (i : Int) 1 0)) = _
    rw [if_neg (by simp; omega)]
    exact bit_l i 0 i k (by omega) (by omega) (by omega)
  unfold turnspitref04_Has.f
  rw [hb, Option.bind_some, Option.bind_some]
  have hp : 0 < 2 ^ i := Nat.two_pow_pos _
  unfold hasB bitB
  rw [decide_eq_true (⟨c0, c1⟩ : 0 ≤ (i : Int) ∧ (i : Int) < 64), Bool.true_and, Int.toNat_natCast, show ((2 : Int) ^ i) = ((2 ^ i : Nat) : Int) from (Int.natCast_pow 2 i).symm]
  generalize 2 ^ i = q at hp
  rw [if_neg (by omega), if_neg (by omega), Int.tdiv_eq_ediv_of_nonneg (by omega), ← Int.natCast_ediv, u64_wrap_nat _ (Nat.lt_of_le_of_lt (Nat.div_le_self _ _) (by omega)), Int.tmod_eq_emod_of_nonneg (Int.natCast_nonneg _)]
theorem downs_succ' (n : Nat) : downs (n + 1) = n :: downs n := by
  unfold downs
  rw [List.range_succ, List.reverse_append]; rfl
theorem sel_cons' (c : List S41) (tc : Int) (i : Nat) (is : List Nat) : sel c tc (i :: is) = if hasB (rd_T41 c (i : Int)).f2 tc then rd_T41 c (i : Int) :: sel c tc is else sel c tc is := by
  unfold sel
  rw [List.filter_cons]
  split <;> rfl
theorem ref_l1 (l : List S41) (tc most : Int) (hl : l.length ≤ 64) (c0 : 0 ≤ tc) (c1 : tc < 64) (hm : maskOk l = true) :
    ∀ (n k : Nat) (h t : Int) (o : List Int), n ≤ l.length → n + 70 ≤ k → (o.length : Int) ≤ most → o.length + n ≤ 64 →
      turnspitref13_Plan.l1 k tc h t l most o ((n : Int) - 1) = some (((sel l tc (downs n)).foldl (stepP most) ⟨h, t, o⟩).out, 0) := by
  intro n
  induction n with
  | zero =>
    intro k h t o hn hk ho ho2
    obtain ⟨k, rfl⟩ : ∃ j, k = j + 1 := ⟨k - 1, by omega⟩
    rw [turnspitref13_Plan.l1, if_neg (by omega)]
    rfl
  | succ n ih =>
    intro k h t o hn hk ho ho2
    obtain ⟨k, rfl⟩ : ∃ j, k = j + 1 := ⟨k - 1, by omega⟩
    obtain ⟨m0, m1⟩ := mask_rd hm (n : Int)
    have ei : (((n + 1 : Nat) : Int) - 1) = (n : Int) := by omega
    have ew : wrap64 ((n : Int) - 1) = (n : Int) - 1 := wrap64_small (by omega) (by omega)
    rw [turnspitref13_Plan.l1, ei, if_pos (by omega), if_pos (by omega), if_pos (by omega), has_r _ m0 m1 tc c0 c1 k (by omega), Option.bind_some, refGain_f, Option.bind_some, ew, downs_succ', sel_cons']
    have hskip := ih k h t o (by omega) (by omega) ho (by omega)
    cases hb : hasB (rd_T41 l (n : Int)).f2 tc with
    | false =>
      rw [if_neg Bool.false_ne_true, if_neg Bool.false_ne_true]
      exact hskip
    | true =>
      rw [if_pos rfl, if_pos rfl, List.foldl_cons]
      cases hg : gainB h t (rd_T41 l (n : Int)).f1 with
      | false =>
        have e : stepP most ⟨h, t, o⟩ (rd_T41 l (n : Int)) = ⟨h, t, o⟩ := by
          unfold stepP
          split
          · rfl
          · simp only [hg]; rw [if_neg Bool.false_ne_true]
        rw [if_neg Bool.false_ne_true, e]
        exact hskip
      | true =>
        rw [if_pos rfl]
        obtain ⟨⟨h0, h1⟩, ⟨t0, t1⟩, x0, x1⟩ := gain_range hg
        have hhalf := gain_half hg
        by_cases hlt : (o.length : Int) < most
        · have e : stepP most ⟨h, t, o⟩ (rd_T41 l (n : Int)) = ⟨h + (rd_T41 l (n : Int)).f1, t - (rd_T41 l (n : Int)).f1, o ++ [(rd_T41 l (n : Int)).f0]⟩ := by
            unfold stepP
            rw [if_neg (by simp only; omega)]
            simp only [hg]
            rw [if_pos trivial]
          rw [if_pos hlt, if_pos (by omega), wrap64_small (n := h + _) (by omega) (by omega), wrap64_small (n := t - _) (by omega) (by omega), e]
          exact ih k _ _ _ (by omega) (by omega) (by simp; omega) (by simp; omega)
        · have e : stepP most ⟨h, t, o⟩ (rd_T41 l (n : Int)) = ⟨h, t, o⟩ := by
            unfold stepP
            rw [if_pos (by simp only; omega)]
          rw [if_neg hlt, e]
          exact hskip
theorem ref_l0 (l : List S41) (tc here there most : Int) (hl : l.length ≤ 64) (c0 : 0 ≤ tc) (c1 : tc < 64) (hm : maskOk l = true) (h0 : 0 ≤ most) :
    ∀ m n k, n + m = l.length → m + 200 ≤ k → turnspitref13_Plan.l0 k tc here there l most (n : Int) = if (l.drop n).any oddW = true then some ([], 1) else some ((runP most here there (sel l tc (downs l.length))).out, 0) := by
  intro m
  induction m with
  | zero =>
    intro n k hn hk
    obtain ⟨k, rfl⟩ : ∃ j, k = j + 1 := ⟨k - 1, by omega⟩
    have ew : wrap64 ((l.length : Int) - 1) = (l.length : Int) - 1 := wrap64_small (by omega) (by omega)
    rw [turnspitref13_Plan.l0, if_neg (by omega), List.drop_eq_nil_of_le (by omega), List.any_nil, if_neg Bool.false_ne_true, ew, ref_l1 l tc most hl c0 c1 hm l.length k here there [] (Nat.le_refl _) (by omega) (by simpa using h0) (by simpa using hl)]
    rfl
  | succ m ih =>
    intro n k hn hk
    obtain ⟨k, rfl⟩ : ∃ j, k = j + 1 := ⟨k - 1, by omega⟩
    have hnl : n < l.length := by omega
    have hrd : rd_T41 l (n : Int) = l[n] := by rw [rd_nat, List.getD_eq_getElem?_getD, List.getElem?_eq_getElem hnl]; rfl
    rw [turnspitref13_Plan.l0, if_pos (by omega), if_pos (by omega), hrd, wrap_succ n l.length hnl (by omega), ih (n + 1) k (by omega) (by omega), List.drop_eq_getElem_cons hnl, List.any_cons]
    unfold oddW
    by_cases h1 : l[n].f1 < 1
    · rw [if_pos h1, decide_eq_true h1, Bool.true_or, Bool.true_or, if_pos rfl]
    · by_cases h2 : l[n].f1 > 88761
      · rw [if_neg h1, if_pos h2, decide_eq_true (show 88761 < l[n].f1 from h2), Bool.or_true, Bool.true_or, if_pos rfl]
      · rw [if_neg h1, if_neg h2, decide_eq_false h1, decide_eq_false (show ¬ 88761 < l[n].f1 from h2), Bool.or_false, Bool.false_or]
theorem ref_plan (tc here there : Int) (l : List S41) (most : Int) (hm : maskOk l = true) : turnspitref13_Plan.f 1000 tc here there l most = spread_Plan.f tc here there l most := by
  unfold turnspitref13_Plan.f spread_Plan.f
  by_cases hl : (l.length : Int) > 64
  · rw [if_pos hl, if_pos hl]
  · rw [if_neg hl, if_neg hl, if_pos hm, refLoad_f, Option.bind_some, refLoad_f, Option.bind_some]
    have hj : ∀ b, turnspitref13_Plan.j0 1000 tc here there l most b = if b = true then (some (([] : List Int), 1)) else (turnspitref13_Plan.l0 999 tc here there l most 0) := fun b => rfl
    unfold oddP
    by_cases h1 : tc < 0
    · rw [if_pos h1, decide_eq_true h1, Bool.true_or, if_pos rfl, hj, if_pos rfl]
    · rw [if_neg h1, decide_eq_false h1, Bool.false_or]
      by_cases h2 : tc > 63
      · rw [if_pos h2, decide_eq_true (show 64 ≤ tc by omega), Bool.true_or, if_pos rfl, hj, if_pos rfl]
      · rw [if_neg h2, decide_eq_false (show ¬ 64 ≤ tc by omega), Bool.false_or]
        cases h3 : loadB here with
        | false => rw [if_neg Bool.false_ne_true, hj, if_pos rfl]; rfl
        | true =>
          rw [if_pos rfl]
          cases h4 : loadB there with
          | false => rw [if_neg Bool.false_ne_true, hj, if_pos rfl]; rfl
          | true =>
            rw [if_pos rfl, hj]
            by_cases h5 : most < 0
            · rw [decide_eq_true h5, if_pos rfl]; rfl
            · rw [decide_eq_false h5, if_neg Bool.false_ne_true]
              have := ref_l0 l tc here there most (by omega) (by omega) (by omega) hm (by omega) l.length 0 999 (by omega) (by omega)
              rw [show ((0 : Nat) : Int) = 0 from rfl, List.drop_zero] at this
              rw [this]
              rfl
theorem plan_some (tc here there : Int) (l : List S41) (most : Int) (hm : maskOk l = true) : ∃ r1 r2, spread_Plan.f tc here there l most = some (r1, r2) ∧ r1.length ≤ 64 := by
  unfold spread_Plan.f
  by_cases hl : (l.length : Int) > 64
  · exact ⟨_, _, by rw [if_pos hl], by simp⟩
  · by_cases ho : oddP tc here there l most = true
    · exact ⟨_, _, by rw [if_neg hl, if_pos ho], by simp⟩
    · refine ⟨_, _, by rw [if_neg hl, if_neg ho, if_pos hm], ?_⟩
      have h1 := run_len most here there (sel l tc (downs l.length))
      have h2 := sel_length l tc (downs l.length)
      have h3 : (downs l.length).length = l.length := by simp [downs]
      omega
theorem SpreadTells (tc here there : Int) (l : List S41) (most : Int) (hm : maskOk l = true) : turnspitlaw13_SpreadTells.f 1000 tc here there l most = some true := by
  unfold turnspitlaw13_SpreadTells.f
  rw [awake_true, ref_plan tc here there l most hm]
  obtain ⟨r1, r2, e, hr⟩ := plan_some tc here there l most hm
  rw [e]
  by_cases h : (l.length : Int) > 100
  · rw [if_pos h]; rfl
  · rw [if_neg h, refGain_f, gain_f, Option.bind_some, Option.bind_some, Option.bind_some, if_pos rfl]
    simp only
    rw [ints_f r1 1000 (by omega) (by omega), Option.bind_some, if_pos rfl, if_pos trivial]
    simp
end Pure
theorem Walk.SpreadTells (tc : Int) (here : Int) (there : Int) (A0 : Option Addr) (c0 : Nat) (l0 : List S41) (most : Int) (w : World) (hr : Kd.C k41 w A0 l0.length l0) (hc : l0.length ≤ c0) (hm : maskOk l0 = true) :
    Calls Try.prog 3 #[.agg #[.int .i64 tc, .int .i64 here, .int .i64 there, .slice A0 l0.length c0, .int .i64 most]] w fun e w' => e = .returned (.bool true) ∧ Below w.heap.size w w' :=
  turnspitlaw13_SpreadTells.calls 1000 tc here there A0 c0 l0 most true w hr hc (Pure.SpreadTells tc here there l0 most hm)
end Go.Proofs.Ytkhdfbmkikiapaa

/- MaskCounts: the walk. -/
import Derived.Test.YtdghjigeddphaaaPureMaskPuts
namespace Go.Proofs.Ytdghjigeddphaaa
open Go.RowKit Go.Proofs.Ytdghjigeddphaaa.Given Go.Proofs.Ytdghjigeddphaaa.Print Go.Proofs.Ytdghjigeddphaaa.Pure Go.Proofs.YtdghjigeddphaaaW.PrintWords
set_option linter.unusedVariables false
set_option linter.unusedSimpArgs false
set_option maxHeartbeats 4000000 in
set_option maxRecDepth 100000 in
theorem counts_walk (a b n k m x1 x2 x3 x4 x5 x6 : Int) (w : World) (hn0 : 0 ≤ n) (hn1 : n < 256) (e0 : n.tmod 65 = k) (s1 : mask_All.f k = some m)
    (s2 : mask_Count.f (bits .and .u64 a b) = some x1) (s3 : mask_Count.f (bits .or .u64 a b) = some x2) (s4 : mask_Count.f a = some x3) (s5 : mask_Count.f b = some x4) (s6 : mask_Count.f m = some k)
    (s7 : mask_Count.f (bits .and .u64 a m) = some x5) (s8 : mask_Count.f (bits .andNot .u64 a m) = some x6) (t1 : (x1 + x2 == x3 + x4) = true) (t2 : (x5 + x6 == x3) = true)
    (r1 : 0 ≤ x1) (r2 : 0 ≤ x2) (r3 : 0 ≤ x3) (r4 : 0 ≤ x4) (r5 : 0 ≤ x5) (r6 : 0 ≤ x6) (q1 : x1 ≤ 64) (q2 : x2 ≤ 64) (q3 : x3 ≤ 64) (q4 : x4 ≤ 64) (q5 : x5 ≤ 64) (q6 : x6 ≤ 64) (kk0 : 0 ≤ k) (kk1 : k ≤ 64) :
    Calls Try.prog 9 #[.int .u64 a, .int .u64 b, .int .u8 n] w fun e w' => e = .returned (.bool true) ∧ Below w.heap.size w w' := by
  have S1 := Aside0.mk s1
  clear s1
  have S2 := Aside0.mk s2
  clear s2
  have S3 := Aside0.mk s3
  clear s3
  have S4 := Aside0.mk s4
  clear s4
  have S5 := Aside0.mk s5
  clear s5
  have S6 := Aside0.mk s6
  clear s6
  have S7 := Aside0.mk s7
  clear s7
  have S8 := Aside0.mk s8
  clear s8
  go_enter Try.func9, Try.ntmps9
  go_wp2_with fail
  refine (mask_All.calls _ m _ S1.out).mono ?_
  rintro e w1 ⟨rfl, hd⟩
  have hb := Drawn0.below hd
  clear hd
  have HB1 := Aside0.mk (below_step (Below.refl w.heap.size w) hb)
  clear hb
  go_wp2_with fail
  refine (turnspitlaw04_awake.calls true _ rfl).mono ?_
  rintro e w2 ⟨rfl, hb⟩
  have HB2 := Aside0.mk (below_step HB1.out hb)
  clear hb
  go_wp2_with fail
  refine (mask_Count.calls _ x1 _ S2.out).mono ?_
  rintro e w3 ⟨rfl, hb⟩
  have HB3 := Aside0.mk (below_step HB2.out hb)
  clear hb
  go_wp2_with fail
  refine (mask_Count.calls _ x2 _ S3.out).mono ?_
  rintro e w4 ⟨rfl, hb⟩
  have HB4 := Aside0.mk (below_step HB3.out hb)
  clear hb
  go_wp2_with fail
  refine (mask_Count.calls _ x3 _ S4.out).mono ?_
  rintro e w5 ⟨rfl, hb⟩
  have HB5 := Aside0.mk (below_step HB4.out hb)
  clear hb
  go_wp2_with fail
  refine (mask_Count.calls _ x4 _ S5.out).mono ?_
  rintro e w6 ⟨rfl, hb⟩
  have HB6 := Aside0.mk (below_step HB5.out hb)
  clear hb
  go_wp2_with fail
  refine (mask_Count.calls _ k _ S6.out).mono ?_
  rintro e w7 ⟨rfl, hb⟩
  have HB7 := Aside0.mk (below_step HB6.out hb)
  clear hb
  go_wp2_with fail
  refine (mask_Count.calls _ x5 _ S7.out).mono ?_
  rintro e w8 ⟨rfl, hb⟩
  have HB8 := Aside0.mk (below_step HB7.out hb)
  clear hb
  go_wp2_with fail
  refine (mask_Count.calls _ x6 _ S8.out).mono ?_
  rintro e w9 ⟨rfl, hb⟩
  have HB9 := Aside0.mk (below_step HB8.out hb)
  clear hb
  go_wp2_with fail
  refine (mask_Count.calls _ x3 _ S4.out).mono ?_
  rintro e w10 ⟨rfl, hb⟩
  have HB10 := Aside0.mk (below_step HB9.out hb)
  clear hb
  go_wp2_with fail
  go_ret
  exact ⟨rfl, by repeat (first | exact HB10.out | apply below_alloc | apply pw_below_drewN)⟩
theorem cnt_and_or (A B : Nat) : ∀ i, cnt (A &&& B) i + cnt (A ||| B) i = cnt A i + cnt B i
  | 0 => rfl
  | i + 1 => by
    have ih := cnt_and_or A B i
    rw [cnt_succ, cnt_succ, cnt_succ, cnt_succ, Nat.testBit_and, Nat.testBit_or]
    cases A.testBit i <;> cases B.testBit i <;> simp <;> omega
theorem cnt_split (A B : Nat) (hA : A < 18446744073709551616) (hB : B < 18446744073709551616) : ∀ i, cnt (A &&& B) i + cnt (A &&& (18446744073709551615 - B)) i = cnt A i
  | 0 => rfl
  | i + 1 => by
    have ih := cnt_split A B hA hB i
    have ht : (18446744073709551615 - B).testBit i = (decide (i < 64) && !B.testBit i) := by
      have := Nat.testBit_two_pow_sub_succ (x := B) (n := 64) hB i
      rw [← this]
      congr 1
      omega
    rw [cnt_succ, cnt_succ, cnt_succ, Nat.testBit_and, Nat.testBit_and, ht]
    by_cases hi : i < 64
    · rw [decide_eq_true hi]
      cases A.testBit i <;> cases B.testBit i <;> simp <;> omega
    · rw [testBit_big A i hA (by omega)]
      simp
      omega
theorem cnt_mask (k : Nat) : ∀ i, cnt (2 ^ k - 1) i = min i k
  | 0 => by simp [cnt]
  | i + 1 => by
    rw [cnt_succ, cnt_mask k i, Nat.testBit_two_pow_sub_one]
    by_cases h : i < k
    · rw [decide_eq_true h]
      simp
      omega
    · rw [decide_eq_false h]
      simp
      omega
theorem allN_eq (k : Nat) (h : k ≤ 64) : allN (k : Int) = 2 ^ k - 1 := by
  unfold allN
  by_cases h0 : k = 0
  · subst h0; rfl
  · rw [if_neg (by omega)]
    by_cases h1 : k = 64
    · subst h1; rfl
    · rw [if_neg (by omega), Int.toNat_natCast]
theorem cnt_le (A i : Nat) : cnt A i ≤ i := by
  unfold cnt
  refine Nat.le_trans (List.length_filter_le _ _) ?_
  rw [List.length_range]
  exact Nat.le_refl i
theorem Walk.MaskCounts (a : Int) (ha : (Lit.int .u64 a).wf = true) (b : Int) (hb : (Lit.int .u64 b).wf = true) (n : Int) (hn : (Lit.int .u8 n).wf = true) (w : World) :
    Calls Try.prog 9 #[.int .u64 a, .int .u64 b, .int .u8 n] w fun e w' => e = .returned (.bool true) ∧ Below w.heap.size w w' := by
  have ha := u64_of ha
  have hb := u64_of hb
  have hn : 0 ≤ n ∧ n < 256 := by
    simp [Lit.wf, IntKind.min, IntKind.max, IntKind.signed, IntKind.bits] at hn
    omega
  obtain ⟨A, rfl⟩ := Int.eq_ofNat_of_zero_le ha.1
  obtain ⟨B, rfl⟩ := Int.eq_ofNat_of_zero_le hb.1
  obtain ⟨q, rfl⟩ := Int.eq_ofNat_of_zero_le hn.1
  have hA : A < 18446744073709551616 := by have := ha.2; omega
  have hB : B < 18446744073709551616 := by have := hb.2; omega
  have hM : 2 ^ (q % 65) - 1 < 18446744073709551616 := by
    have : 2 ^ (q % 65) ≤ 2 ^ 64 := Nat.pow_le_pow_right (by decide) (by omega)
    omega
  have hN := Nat.lt_of_le_of_lt (Nat.and_le_left (n := A) (m := 18446744073709551615 - (2 ^ (q % 65) - 1))) hA
  have c1 := count_f _ (u64_nat (Nat.lt_of_le_of_lt (Nat.and_le_left (n := A) (m := B)) hA))
  have c2 := count_f _ (u64_nat (or_lt A B hA hB))
  have c3 := count_f _ ha
  have c4 := count_f _ hb
  have c6 := count_f _ (u64_nat hM)
  have c7 := count_f _ (u64_nat (Nat.lt_of_le_of_lt (Nat.and_le_left (n := A) (m := 2 ^ (q % 65) - 1)) hA))
  have c8 := count_f _ (u64_nat hN)
  rw [count_cnt] at c1 c2 c3 c4 c6 c7 c8
  rw [cnt_mask, show min 64 (q % 65) = q % 65 by omega] at c6
  have t1 := cnt_and_or A B 64
  have t2 := cnt_split A _ hA hM 64
  have l1 := cnt_le (A &&& B) 64
  have l2 := cnt_le (A ||| B) 64
  have l3 := cnt_le A 64
  have l4 := cnt_le B 64
  have l5 := cnt_le (A &&& (2 ^ (q % 65) - 1)) 64
  have l6 := cnt_le (A &&& (18446744073709551615 - (2 ^ (q % 65) - 1))) 64
  have hall := all_f ((q % 65 : Nat) : Int)
  rw [allN_eq _ (by omega)] at hall
  rw [← u64_and_nat _ _ hA hB] at c1
  rw [← u64_or_nat _ _ hA hB] at c2
  rw [← u64_and_nat _ _ hA hM] at c7
  rw [← u64_andNot_nat _ _ hA hM] at c8
  refine counts_walk A B q ((q % 65 : Nat) : Int) _ _ _ _ _ _ _ w hn.1 hn.2 ?_ hall c1 c2 c3 c4 c6 c7 c8 ?_ ?_ (Int.natCast_nonneg _) (Int.natCast_nonneg _) (Int.natCast_nonneg _) (Int.natCast_nonneg _) (Int.natCast_nonneg _) (Int.natCast_nonneg _) ?_ ?_ ?_ ?_ ?_ ?_ (Int.natCast_nonneg _) ?_
  · rw [Int.tmod_eq_emod_of_nonneg (Int.natCast_nonneg _)]; omega
  · rw [beq_iff_eq]; omega
  · rw [beq_iff_eq]; omega
  all_goals omega
end Go.Proofs.Ytdghjigeddphaaa

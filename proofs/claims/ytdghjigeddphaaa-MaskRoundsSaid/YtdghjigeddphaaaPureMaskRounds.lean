/- MaskRounds: the walk. -/
import Derived.Test.YtdghjigeddphaaaPureMaskPuts
import Derived.Test.YtdghjigeddphaaaPureMaskNexts
namespace Go.Proofs.Ytdghjigeddphaaa
open Go.RowKit Go.Proofs.Ytdghjigeddphaaa.Given Go.Proofs.Ytdghjigeddphaaa.Print Go.Proofs.Ytdghjigeddphaaa.Pure Go.Proofs.YtdghjigeddphaaaW.PrintWords Go.Proofs.YtdghjigeddphaaaW.PrintMore
set_option linter.unusedVariables false
set_option linter.unusedSimpArgs false
set_option maxHeartbeats 4000000 in
set_option maxRecDepth 100000 in
theorem rounds_walk (m c n0 ft : Int) (s at_ : Nat → Int) (N : Nat) (r : Bool) (w : World) (hm : u64 m) (hN : N ≤ 64) (ht : r = decide (0 < (N : Int)))
    (s0 : s 0 = 0) (a0 : at_ 0 = c) (s1 : mask_Count.f m = some (N : Int)) (hu : ∀ i, i ≤ N → u64 (s i)) (hend : s N = m)
    (h1 : ∀ i, i < N → mask_Round.f m (at_ i) = some (at_ (i + 1), true)) (h2 : ∀ i, i < N → hasB (s i) (at_ (i + 1)) = false) (h3 : ∀ i, i < N → hasB m (at_ (i + 1)) = true) (h4 : ∀ i, i < N → mask_With.f (s i) (at_ (i + 1)) = some (s (i + 1)))
    (hf : ft = if N = 0 then 0 else at_ 1) (h5 : mask_Round.f m (at_ N) = some (n0, r)) (h6 : r = true → (n0 == ft) = true) :
    Calls Try.prog 6 #[.int .u64 m, .int .i64 c] w fun e w' => e = .returned (.bool true) ∧ Below w.heap.size w w' := by
  have HM := Aside0.mk hm
  clear hm
  have HU := Aside0.mk hu
  clear hu
  have H1 := Aside0.mk h1
  clear h1
  have H2 := Aside0.mk h2
  clear h2
  have H3 := Aside0.mk h3
  clear h3
  have H4 := Aside0.mk h4
  clear h4
  have H5 := Aside0.mk h5
  clear h5
  have H6 := Aside0.mk h6
  clear h6
  have HF := Aside0.mk hf
  clear hf
  have HEND := Aside0.mk hend
  clear hend
  have S1 := Aside0.mk s1
  clear s1
  have HT := Aside0.mk ht
  clear ht
  have S0 := Aside0.mk s0
  clear s0
  have A0 := Aside0.mk a0
  clear a0
  go_enter Try.func6, Try.ntmps6
  go_wp2_with fail
  refine (turnspitlaw04_awake.calls true _ rfl).mono ?_
  rintro e w1 ⟨rfl, hb⟩
  have HB1 := Aside0.mk (below_step (Below.refl w.heap.size w) hb)
  clear hb
  go_wp2_with fail
  refine (mask_Count.calls m _ _ S1.out).mono ?_
  rintro e w2 ⟨rfl, hb⟩
  have HB2 := Aside0.mk (below_step HB1.out hb)
  clear hb
  go_wp2_with fail
  go_loopg [6, 7, 9, 10] N (fun kq sv av fv iv w' => ∃ i : Nat, kq + i = N ∧ sv = .int .u64 (s i) ∧ av = .int .i64 (at_ i) ∧ fv = .int .i64 (if i = 0 then 0 else at_ 1) ∧ iv = .int .i64 (i : Int) ∧ Aside0 (Below w.heap.size w w'))
  case atStart => exact ⟨0, by omega, by rw [S0.out], by rw [A0.out], rfl, rfl, ⟨HB2.out⟩⟩
  case round =>
    obtain ⟨i, hk, rfl, rfl, rfl, rfl, HB3⟩ := hrel
    by_cases hlt : i < N
    · have hi64 : i < 64 := by omega
      have G1 := Aside0.mk (H1.out i hlt)
      have G2 := Aside0.mk (H2.out i hlt)
      have G3 := Aside0.mk (H3.out i hlt)
      have G4 := Aside0.mk (H4.out i hlt)
      have GU := Aside0.mk (HU.out i (by omega))
      have hlI : ((i : Int) < (N : Int)) := by omega
      have GS : Aside0 (s (i + 1) = s (i + 1)) := ⟨rfl⟩
      have GA : Aside0 (at_ 1 = at_ (0 + 1)) := ⟨rfl⟩
      by_cases hi0 : i = 0
      · subst hi0
        clear GS
        rw [if_pos rfl]
        go_wp2_with fail
        refine (mask_Round.calls m _ _ _ _ G1.out).mono ?_
        rintro e w4 ⟨rfl, hb⟩
        have HB4 := Aside0.mk (below_step HB3.out hb)
        clear hb
        go_wp2_with fail
        refine (has_c _ _ false _ ⟨GU.out, G2.out⟩).mono ?_
        rintro e w5 ⟨rfl, hb⟩
        have HB5 := Aside0.mk (below_step HB4.out hb)
        clear hb
        go_wp2_with fail
        refine (has_c m _ true _ ⟨HM.out, G3.out⟩).mono ?_
        rintro e w6 ⟨rfl, hb⟩
        have HB6 := Aside0.mk (below_step HB5.out hb)
        clear hb
        go_wp2_with fail
        refine (mask_With.calls _ _ _ _ G4.out).mono ?_
        rintro e w7 ⟨rfl, hd⟩
        have hb := Drawn0.below hd
        clear hd
        have HB7 := Aside0.mk (below_step HB6.out hb)
        clear hb
        go_wp2_with fail
        go_roundg (gk - 1)
        case measure => omega
        case rel => exact ⟨0 + 1, by omega, rfl, rfl, by rw [if_neg (by omega)], by simp, ⟨by repeat (first | exact HB7.out | apply below_alloc)⟩⟩
      · have hi1 : ((i : Int) == 0) = false := by rw [beq_eq_false_iff_ne]; omega
        clear GS
        rw [if_neg hi0]
        go_wp2_with fail
        refine (mask_Round.calls m _ _ _ _ G1.out).mono ?_
        rintro e w4 ⟨rfl, hb⟩
        have HB4 := Aside0.mk (below_step HB3.out hb)
        clear hb
        go_wp2_with fail
        refine (has_c _ _ false _ ⟨GU.out, G2.out⟩).mono ?_
        rintro e w5 ⟨rfl, hb⟩
        have HB5 := Aside0.mk (below_step HB4.out hb)
        clear hb
        go_wp2_with fail
        refine (has_c m _ true _ ⟨HM.out, G3.out⟩).mono ?_
        rintro e w6 ⟨rfl, hb⟩
        have HB6 := Aside0.mk (below_step HB5.out hb)
        clear hb
        go_wp2_with fail
        refine (mask_With.calls _ _ _ _ G4.out).mono ?_
        rintro e w7 ⟨rfl, hd⟩
        have hb := Drawn0.below hd
        clear hd
        have HB7 := Aside0.mk (below_step HB6.out hb)
        clear hb
        go_wp2_with fail
        go_roundg (gk - 1)
        case measure => omega
        case rel => exact ⟨i + 1, by omega, rfl, rfl, by rw [if_neg (by omega)], by simp, ⟨by repeat (first | exact HB7.out | apply below_alloc)⟩⟩
    · obtain rfl : i = N := by omega
      have hlI : ¬ ((i : Int) < (i : Int)) := by omega
      have hfe := HF.out
      rw [← hfe]
      clear hfe
      have hse := HEND.out
      have H6_ := H6.out
      have H5_ := H5.out
      have HT_ := HT.out
      cases r
      · have h0 : decide (0 < (i : Int)) = false := HT_.symm
        obtain rfl : i = 0 := by have := of_decide_eq_false h0; omega
        clear h0 hlt
        have G5 := Aside0.mk H5_
        clear H5_ H6_ HT_
        rw [hse]
        clear hse
        go_wp2_with fail
        refine (mask_Round.calls m _ n0 _ _ G5.out).mono ?_
        rintro e w4 ⟨rfl, hb⟩
        have HB4 := Aside0.mk (below_step HB3.out hb)
        clear hb
        go_wp2_with fail
        go_ret
        exact ⟨rfl, by repeat (first | exact HB4.out | apply below_alloc | apply pw_below_drewN)⟩
      · have h0 : decide (0 < (i : Int)) = true := HT_.symm
        have h0n : 0 < i := by have := of_decide_eq_true h0; omega
        clear h0 hlt
        have hnf := H6_ rfl
        have G5 := Aside0.mk H5_
        clear H5_ H6_ HT_
        rw [hse]
        clear hse
        go_wp2_with fail
        refine (mask_Round.calls m _ n0 _ _ G5.out).mono ?_
        rintro e w4 ⟨rfl, hb⟩
        have HB4 := Aside0.mk (below_step HB3.out hb)
        clear hb
        go_wp2_with fail
        go_ret
        exact ⟨rfl, by repeat (first | exact HB4.out | apply below_alloc | apply pw_below_drewN)⟩
/-- The rounds: where the i-th one stands, and what has been seen. -/
def atR (M : Nat) (c : Int) : Nat → Int
  | 0 => c
  | i + 1 => (roundOf (M : Int) (atR M c i)).1
def seenR (M : Nat) (c : Int) : Nat → Nat
  | 0 => 0
  | i + 1 => withN (seenR M c i) (atR M c (i + 1))
theorem seen_lt (M : Nat) (c : Int) : ∀ i, seenR M c i < 18446744073709551616
  | 0 => by unfold seenR; decide
  | i + 1 => withN_lt _ _ (seen_lt M c i)
/-- The next one behind x of a rising row is the one behind it in the row. -/
theorem sorted_next (l : List Int) (hs : l.Pairwise (· < ·)) (i : Nat) (hi : i + 1 < l.length) : (l.filter (fun y => decide (l[i] < y))).head? = some l[i + 1] := by
  induction l generalizing i with
  | nil => simp at hi
  | cons x xs ih =>
    have hp := List.pairwise_cons.1 hs
    cases i with
    | zero =>
      cases xs with
      | nil => simp at hi
      | cons y ys =>
        have h1 := hp.1 y List.mem_cons_self
        simp [List.filter_cons, h1]
    | succ i =>
      have hi' : i + 1 < xs.length := by simpa using hi
      have h1 := hp.1 xs[i] (List.getElem_mem _)
      have h2 := ih hp.2 i hi'
      simp only [List.getElem_cons_succ]
      rw [List.filter_cons, if_neg (by simp; omega)]
      exact h2
theorem sorted_last (l : List Int) (hs : l.Pairwise (· < ·)) (i : Nat) (hi : i + 1 = l.length) : l.filter (fun y => decide (l[i] < y)) = [] := by
  rw [List.filter_eq_nil_iff]
  intro x hx
  obtain ⟨j, hj, rfl⟩ := List.getElem_of_mem hx
  rw [decide_eq_true_eq]
  rcases Nat.lt_or_ge j i with h | h
  · have := List.pairwise_iff_getElem.1 hs j i hj (by omega) h
    omega
  · obtain rfl : j = i := by omega
    omega
theorem next_eq (m c : Int) : nextOf m c = match (aboveL m c).head? with | none => (0, false) | some x => (x, true) := by
  unfold nextOf
  by_cases h : c < 64
  · rw [if_pos h]
    cases aboveL m c <;> rfl
  · rw [if_neg h, next_far_none m c (by omega)]
    rfl
theorem round_none (m c : Int) (h : aboveL m (-1) = []) : roundOf m c = (0, false) := by
  have h2 := above_filter m c
  rw [h] at h2
  unfold roundOf
  rw [next_eq, next_eq, ← h2, h]
  rfl
theorem getD_lt {l : List Int} {k : Nat} (h : k < l.length) : l.getD k 0 = l[k] := by
  rw [List.getD_eq_getElem?_getD, List.getElem?_eq_getElem h]
  rfl
theorem round_some (m c : Int) (h : 0 < (aboveL m (-1)).length) : ∃ k, k < (aboveL m (-1)).length ∧ roundOf m c = ((aboveL m (-1)).getD k 0, true) := by
  unfold roundOf
  rw [next_eq, next_eq]
  cases hA : aboveL m c with
  | nil =>
    refine ⟨0, h, ?_⟩
    cases hL : aboveL m (-1) with
    | nil => rw [hL] at h; simp at h
    | cons x l => rfl
  | cons x l =>
    have hx : x ∈ aboveL m (-1) := by
      have h2 := above_filter m c
      rw [hA] at h2
      have : x ∈ (aboveL m (-1)).filter (fun x => decide (c < x)) := by rw [h2]; exact List.mem_cons_self
      exact (List.mem_filter.1 this).1
    obtain ⟨k, hk, rfl⟩ := List.getElem_of_mem hx
    exact ⟨k, hk, by rw [getD_lt hk]; rfl⟩
theorem round_at (m : Int) (k : Nat) (hk : k < (aboveL m (-1)).length) : roundOf m ((aboveL m (-1)).getD k 0) = ((aboveL m (-1)).getD ((k + 1) % (aboveL m (-1)).length) 0, true) := by
  have hs := above_sorted m (-1)
  have hf := above_filter m ((aboveL m (-1)).getD k 0)
  unfold roundOf
  rw [next_eq, next_eq, ← hf, getD_lt hk]
  generalize aboveL m (-1) = L at *
  by_cases h : k + 1 < L.length
  · rw [sorted_next L hs k h, Nat.mod_eq_of_lt h, getD_lt h]
    rfl
  · obtain h : k + 1 = L.length := by omega
    rw [sorted_last L hs k h, h, Nat.mod_self]
    cases L with
    | nil => simp at hk
    | cons x l => rfl
theorem at_round (M : Nat) (c : Int) (p : Nat) (hp : p < (aboveL (M : Int) (-1)).length) (h0 : roundOf (M : Int) c = ((aboveL (M : Int) (-1)).getD p 0, true)) : ∀ i, atR M c (i + 1) = (aboveL (M : Int) (-1)).getD ((p + i) % (aboveL (M : Int) (-1)).length) 0 ∧ roundOf (M : Int) (atR M c i) = (atR M c (i + 1), true)
  | 0 => by
    have e : atR M c 1 = (aboveL (M : Int) (-1)).getD p 0 := by
      show (roundOf (M : Int) c).1 = _
      rw [h0]
    refine ⟨by rw [e, Nat.add_zero, Nat.mod_eq_of_lt hp], ?_⟩
    rw [e]
    exact h0
  | i + 1 => by
    have ih := (at_round M c p hp h0 i).1
    have h1 := round_at (M : Int) ((p + i) % (aboveL (M : Int) (-1)).length) (Nat.mod_lt _ (by omega))
    rw [← ih] at h1
    have e : ((p + i) % (aboveL (M : Int) (-1)).length + 1) % (aboveL (M : Int) (-1)).length = (p + (i + 1)) % (aboveL (M : Int) (-1)).length := by rw [Nat.mod_add_mod, Nat.add_assoc]
    rw [e] at h1
    have e2 : atR M c (i + 1 + 1) = (aboveL (M : Int) (-1)).getD ((p + (i + 1)) % (aboveL (M : Int) (-1)).length) 0 := by
      show (roundOf (M : Int) (atR M c (i + 1))).1 = _
      rw [h1]
    exact ⟨e2, by rw [h1, e2]⟩
theorem seen_has (M : Nat) (c x : Int) : ∀ i, hasB (seenR M c i) x = true ↔ oddB x = false ∧ ∃ j, j < i ∧ atR M c (j + 1) = x
  | 0 => by
    rw [hasB_nat]
    constructor
    · intro h; rw [show seenR M c 0 = 0 from rfl, Nat.zero_testBit, Bool.and_false] at h; cases h
    · rintro ⟨_, j, hj, _⟩; omega
  | i + 1 => by
    rw [show seenR M c (i + 1) = withN (seenR M c i) (atR M c (i + 1)) from rfl, hasB_with]
    have ih := seen_has M c x i
    by_cases e : atR M c (i + 1) = x
    · rw [if_pos e]
      constructor
      · intro h
        rw [e] at h
        exact ⟨by simpa using h, i, by omega, e⟩
      · rintro ⟨h, _⟩
        rw [e, h]
        rfl
    · rw [if_neg e, ih]
      constructor
      · rintro ⟨h, j, hj, hx⟩; exact ⟨h, j, by omega, hx⟩
      · rintro ⟨h, j, hj, hx⟩
        refine ⟨h, j, ?_, hx⟩
        rcases Nat.lt_or_ge j i with h1 | h1
        · exact h1
        · obtain rfl : j = i := by omega
          exact absurd hx e
theorem mod_inj {N p i j : Nat} (hi : i < N) (hj : j < N) (h : (p + i) % N = (p + j) % N) : i = j := by
  have h1 := Nat.div_add_mod (p + i) N
  have h2 := Nat.div_add_mod (p + j) N
  rw [h] at h1
  rcases Nat.lt_trichotomy ((p + i) / N) ((p + j) / N) with h3 | h3 | h3
  · have := Nat.mul_le_mul_left N (Nat.succ_le_of_lt h3)
    rw [Nat.mul_succ] at this
    omega
  · rw [h3] at h1; omega
  · have := Nat.mul_le_mul_left N (Nat.succ_le_of_lt h3)
    rw [Nat.mul_succ] at this
    omega
theorem getD_inj {l : List Int} (hs : l.Pairwise (· < ·)) {i j : Nat} (hi : i < l.length) (hj : j < l.length) (h : l.getD i 0 = l.getD j 0) : i = j := by
  rw [getD_lt hi, getD_lt hj] at h
  rcases Nat.lt_trichotomy i j with h3 | h3 | h3
  · have := List.pairwise_iff_getElem.1 hs i j hi hj h3; omega
  · exact h3
  · have := List.pairwise_iff_getElem.1 hs j i hj hi h3; omega
theorem eq_of_has {A B : Nat} (hA : A < 18446744073709551616) (hB : B < 18446744073709551616) (h : ∀ x : Int, hasB (A : Int) x = true ↔ hasB (B : Int) x = true) : A = B := by
  apply Nat.eq_of_testBit_eq
  intro i
  by_cases h64 : i < 64
  · have := h (i : Int)
    rw [hasB_nat, hasB_nat, Int.toNat_natCast, odd_false.2 ⟨by omega, by omega⟩, Bool.not_false, Bool.true_and, Bool.true_and] at this
    exact Bool.eq_iff_iff.2 this
  · rw [testBit_big A i hA (by omega), testBit_big B i hB (by omega)]
theorem mem_all (M : Nat) (x : Int) : x ∈ aboveL (M : Int) (-1) ↔ hasB (M : Int) x = true := by
  rw [mem_above]
  refine ⟨fun h => h.2, fun h => ⟨?_, h⟩⟩
  rw [hasB_nat, Bool.and_eq_true] at h
  have := odd_false.1 (by simpa using h.1)
  omega
theorem i64_round (M : Nat) (c : Int) (hc : -9223372036854775808 ≤ c) : ∀ i, -9223372036854775808 ≤ atR M c i
  | 0 => hc
  | i + 1 => by
    show _ ≤ (roundOf (M : Int) (atR M c i)).1
    rcases Nat.eq_zero_or_pos (aboveL (M : Int) (-1)).length with h | h
    · rw [round_none _ _ (List.length_eq_zero_iff.1 h)]; simp
    · obtain ⟨k, hk, he⟩ := round_some (M : Int) (atR M c i) h
      rw [he, getD_lt hk]
      have := (mem_above.1 (List.getElem_mem hk)).1
      simp only
      omega
theorem Walk.MaskRounds (m : Int) (hm : (Lit.int .u64 m).wf = true) (c : Int) (hc : (Lit.int .i64 c).wf = true) (w : World) :
    Calls Try.prog 6 #[.int .u64 m, .int .i64 c] w fun e w' => e = .returned (.bool true) ∧ Below w.heap.size w w' := by
  have hm := u64_of hm
  have hc := (i64_of hc).1
  obtain ⟨M, rfl⟩ := Int.eq_ofNat_of_zero_le hm.1
  have hM : M < 18446744073709551616 := by have := hm.2; omega
  have hlen := aboveL_length (M : Int) (-1)
  rcases Nat.eq_zero_or_pos (aboveL (M : Int) (-1)).length with h0 | h0
  · have hnil := List.length_eq_zero_iff.1 h0
    have hM0 : M = 0 := by
      refine eq_of_has hM (by decide) fun x => ?_
      rw [← mem_all, hnil]
      constructor
      · intro h; cases h
      · intro h; rw [hasB_nat, Nat.zero_testBit, Bool.and_false] at h; cases h
    refine rounds_walk M c 0 0 (fun i => (seenR M c i : Int)) (atR M c) 0 false w hm (by omega) rfl rfl rfl ?_ (fun i _ => u64_nat (seen_lt M c i)) ?_ (fun i h => by omega) (fun i h => by omega) (fun i h => by omega) (fun i h => by omega) rfl ?_ (fun h => by cases h)
    · rw [count_f _ hm, h0]
    · show ((0 : Nat) : Int) = (M : Int)
      rw [hM0]
    · show mask_Round.f (M : Int) c = some (0, false)
      rw [round_f _ _ hm hc]
      exact congrArg some (round_none _ _ hnil)
  · obtain ⟨p, hp, hr⟩ := round_some (M : Int) c h0
    have hat := at_round M c p hp hr
    have hs := above_sorted (M : Int) (-1)
    have hin : ∀ i, hasB (M : Int) (atR M c (i + 1)) = true := fun i => by
      rw [← mem_all, (hat i).1, getD_lt (Nat.mod_lt _ h0)]
      exact List.getElem_mem _
    refine rounds_walk M c (atR M c 1) (atR M c 1) (fun i => (seenR M c i : Int)) (atR M c) (aboveL (M : Int) (-1)).length true w hm hlen (decide_eq_true (by omega)).symm rfl rfl (count_f _ hm) (fun i _ => u64_nat (seen_lt M c i)) ?_ ?_ ?_ (fun i _ => hin i) ?_ (by rw [if_neg (by omega)]) ?_ (fun _ => beq_self_eq_true _)
    · show (seenR M c (aboveL (M : Int) (-1)).length : Int) = (M : Int)
      congr 1
      refine eq_of_has (seen_lt M c _) hM fun x => ?_
      rw [seen_has]
      constructor
      · rintro ⟨_, j, _, rfl⟩; exact hin j
      · intro h
        refine ⟨by rw [hasB_nat, Bool.and_eq_true] at h; simpa using h.1, ?_⟩
        obtain ⟨k, hk, rfl⟩ := List.getElem_of_mem ((mem_all M x).2 h)
        refine ⟨(k + ((aboveL (M : Int) (-1)).length - p)) % (aboveL (M : Int) (-1)).length, Nat.mod_lt _ h0, ?_⟩
        rw [(hat _).1, Nat.add_mod_mod, show p + (k + ((aboveL (M : Int) (-1)).length - p)) = k + (aboveL (M : Int) (-1)).length by omega, Nat.add_mod_right, Nat.mod_eq_of_lt hk, getD_lt hk]
    · intro i hi
      rw [round_f _ _ hm (i64_round M c hc i), (hat i).2]
    · intro i hi
      cases hb : hasB (seenR M c i) (atR M c (i + 1))
      · rfl
      · obtain ⟨_, j, hj, he⟩ := (seen_has M c _ i).1 hb
        rw [(hat i).1, (hat j).1] at he
        have := mod_inj (by omega) hi (getD_inj hs (Nat.mod_lt _ h0) (Nat.mod_lt _ h0) he)
        omega
    · intro i hi
      exact with_f _ _ (seen_lt M c i)
    · have h1 := (hat (aboveL (M : Int) (-1)).length).2
      rw [round_f _ _ hm (i64_round M c hc _), h1]
      have h2 := (hat (aboveL (M : Int) (-1)).length).1
      rw [h2, (hat 0).1, Nat.add_mod_right, Nat.add_zero]
end Go.Proofs.Ytdghjigeddphaaa

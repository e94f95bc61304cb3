/- MaskBack: the walk. -/
import Derived.Test.YtdghjigeddphaaaPureMaskNexts
import Derived.Test.YtdghjigeddphaaaPrint0
namespace Go.Proofs.Ytdghjigeddphaaa
open Go.RowKit Go.Proofs.Ytdghjigeddphaaa.Given Go.Proofs.Ytdghjigeddphaaa.Print Go.Proofs.Ytdghjigeddphaaa.Pure Go.Proofs.YtdghjigeddphaaaW.PrintWords Go.Proofs.YtdghjigeddphaaaW.PrintMore
set_option linter.unusedVariables false
set_option linter.unusedSimpArgs false
theorem c_cells {w : World} {ad : Addr} {l : List Int} (hr : Kd.C (Kd.int .i64) w (some ad) l.length l) : ∀ k : Nat, k < l.length → w.cell? (ad.add k) = some (.int .i64 (l.getD k 0)) := by
  intro k hk
  obtain ⟨ad', e, hc⟩ := Kd.at_int hr (k : Int) (by omega) (by omega)
  injection e with e
  subst e
  simpa [rd] using hc
set_option maxHeartbeats 4000000 in
set_option maxRecDepth 100000 in
theorem back_1 (m : Int) (L : List Int) (w : World) (hL : L.length ≤ 64) (hs : ∀ j : Nat, j + 1 < L.length → L.getD j 0 < L.getD (j + 1) 0) (hL2 : L.length ≤ 1)
    (s1 : mask_List.f m = some L) (s2 : mask_Of.f L = some (m, 0)) (s3 : mask_Of.f (L ++ L) = some (m, 0)) (s4 : mask_Count.f m = some (L.length : Int)) :
    Calls Try.prog 5 #[.int .u64 m] w fun e w' => e = .returned (.bool true) ∧ Below w.heap.size w w' := by
  have S1 := Aside0.mk s1
  clear s1
  have S2 := Aside0.mk s2
  clear s2
  have S3 := Aside0.mk s3
  clear s3
  have S4 := Aside0.mk s4
  clear s4
  have HS := Aside0.mk hs
  clear hs
  go_enter Try.func5, Try.ntmps5
  go_wp2_with fail
  refine (turnspitlaw04_awake.calls true _ rfl).mono ?_
  rintro e w1 ⟨rfl, hb⟩
  have HB1 := Aside0.mk (below_step (Below.refl w.heap.size w) hb)
  clear hb
  go_wp2_with fail
  refine (mask_List.calls m L _ S1.out).mono ?_
  rintro e w2 ⟨v1, rfl, ho, hb⟩
  obtain ⟨A1, c1, rfl⟩ := Kd.R_slice ho
  have HO := Aside0.mk ho
  clear ho
  have HB2 := Aside0.mk (below_step HB1.out hb)
  clear hb
  go_wp2_with fail
  refine (mask_Of.calls A1 c1 L m 0 _ (Kd.R_reads' HO.out).2.2 (Kd.R_reads' HO.out).2.1 S2.out).mono ?_
  rintro e w3 ⟨rfl, hw⟩
  have hb := below_of_eq hw
  clear hw
  have HB3 := Aside0.mk (below_step HB2.out hb)
  have HO_ := Aside0.mk (Kd.R_below HO.out hb)
  clear HO
  have HO := HO_
  clear HO_
  clear hb
  go_wp2_with (first | ((with_reducible refine gate_builtin (b := .append) (xs := #[.const (.slice none 0 0), .tmp 21]) rfl ?_); at_builtin; refine Kd.R_append_row (Value.int .i64) (0 : Int) (h1 := fun _ => rfl) (w0 := w3) w3.heap.size rfl (.const (.slice none 0 0)) (.tmp 21) 26 3 (.int .i64 0) 8 rfl Try.underlying26 Given.info3 rfl (by decide) (.slice none 0 0) [] L A1 L.length c1 (fun _ => True) rfl rfl (fun _ _ => trivial) (Kd.R_nil _ _ _ _ _) (Kd.R_reads' HO.out).2.2 (Below.refl _ _) (Nat.le_refl _) (by simp; omega) ?_; rintro v2 w4 hr2 hb2 _ _; have HR2 := Aside0.mk hr2; have HB2_ := Aside0.mk hb2; clear hr2 hb2) | ((with_reducible refine gate_builtin (b := .append) (xs := #[.tmp 22, .tmp 23]) rfl ?_); at_builtin; refine Kd.R_append_row (Value.int .i64) (0 : Int) (h1 := fun _ => rfl) (w0 := w3) w3.heap.size rfl (.tmp 22) (.tmp 23) 26 3 (.int .i64 0) 8 rfl Try.underlying26 Given.info3 rfl (by decide) (v2) ([] ++ L) L A1 L.length c1 (fun _ => True) rfl rfl (fun _ _ => trivial) HR2.out (Kd.R_reads' (Kd.R_below HO.out HB2_.out)).2.2 HB2_.out (HB2_.out.size) (by simp; omega) ?_; rintro v3 w5 hr3 hb3 _ _; obtain ⟨A3, c3, rfl⟩ := Kd.R_slice hr3; have HR3 := Aside0.mk hr3; have HB3_ := Aside0.mk hb3; clear hr3 hb3))
  have hq := mask_Of.calls A3 c3 (([] ++ L) ++ L) m 0 w5 (Kd.R_reads' HR3.out).2.2 (Kd.R_reads' HR3.out).2.1 S3.out
  rw [List.nil_append, List.length_append] at hq
  refine hq.mono ?_
  clear hq
  rintro e w6 ⟨rfl, hw⟩
  have hb := below_of_eq hw
  clear hw
  have HB6 := Aside0.mk (below_step (below_step HB3.out HB3_.out) hb)
  have HQ := Aside0.mk (Kd.R_below (Kd.R_below HO.out HB3_.out) hb)
  clear hb
  go_wp2_with fail
  go_loop [9] (fun i => i = .int .i64 1) (fun _ => 0)
  case atStart => rfl
  case round =>
    obtain rfl := hrel
    have hlt : ¬ (1 < L.length) := by omega
    go_wp2_with fail
    refine (mask_Count.calls m _ _ S4.out).mono ?_
    rintro e w7 ⟨rfl, hb⟩
    have HB7 := Aside0.mk (below_step HB6.out hb)
    clear hb
    go_wp2_with fail
    go_ret
    exact ⟨rfl, by repeat (first | exact HB7.out | apply below_alloc | apply pw_below_drewN)⟩
set_option maxHeartbeats 4000000 in
set_option maxRecDepth 100000 in
theorem back_0 (m : Int) (L : List Int) (w : World) (hL : L.length ≤ 64) (hs : ∀ j : Nat, j + 1 < L.length → L.getD j 0 < L.getD (j + 1) 0) (hL2 : 1 < L.length)
    (s1 : mask_List.f m = some L) (s2 : mask_Of.f L = some (m, 0)) (s3 : mask_Of.f (L ++ L) = some (m, 0)) (s4 : mask_Count.f m = some (L.length : Int)) :
    Calls Try.prog 5 #[.int .u64 m] w fun e w' => e = .returned (.bool true) ∧ Below w.heap.size w w' := by
  have S1 := Aside0.mk s1
  clear s1
  have S2 := Aside0.mk s2
  clear s2
  have S3 := Aside0.mk s3
  clear s3
  have S4 := Aside0.mk s4
  clear s4
  have HS := Aside0.mk hs
  clear hs
  go_enter Try.func5, Try.ntmps5
  go_wp2_with fail
  refine (turnspitlaw04_awake.calls true _ rfl).mono ?_
  rintro e w1 ⟨rfl, hb⟩
  have HB1 := Aside0.mk (below_step (Below.refl w.heap.size w) hb)
  clear hb
  go_wp2_with fail
  refine (mask_List.calls m L _ S1.out).mono ?_
  rintro e w2 ⟨v1, rfl, ho, hb⟩
  obtain ⟨A1, c1, rfl⟩ := Kd.R_slice ho
  have HO := Aside0.mk ho
  clear ho
  have HB2 := Aside0.mk (below_step HB1.out hb)
  clear hb
  go_wp2_with fail
  refine (mask_Of.calls A1 c1 L m 0 _ (Kd.R_reads' HO.out).2.2 (Kd.R_reads' HO.out).2.1 S2.out).mono ?_
  rintro e w3 ⟨rfl, hw⟩
  have hb := below_of_eq hw
  clear hw
  have HB3 := Aside0.mk (below_step HB2.out hb)
  have HO_ := Aside0.mk (Kd.R_below HO.out hb)
  clear HO
  have HO := HO_
  clear HO_
  clear hb
  go_wp2_with (first | ((with_reducible refine gate_builtin (b := .append) (xs := #[.const (.slice none 0 0), .tmp 21]) rfl ?_); at_builtin; refine Kd.R_append_row (Value.int .i64) (0 : Int) (h1 := fun _ => rfl) (w0 := w3) w3.heap.size rfl (.const (.slice none 0 0)) (.tmp 21) 26 3 (.int .i64 0) 8 rfl Try.underlying26 Given.info3 rfl (by decide) (.slice none 0 0) [] L A1 L.length c1 (fun _ => True) rfl rfl (fun _ _ => trivial) (Kd.R_nil _ _ _ _ _) (Kd.R_reads' HO.out).2.2 (Below.refl _ _) (Nat.le_refl _) (by simp; omega) ?_; rintro v2 w4 hr2 hb2 _ _; have HR2 := Aside0.mk hr2; have HB2_ := Aside0.mk hb2; clear hr2 hb2) | ((with_reducible refine gate_builtin (b := .append) (xs := #[.tmp 22, .tmp 23]) rfl ?_); at_builtin; refine Kd.R_append_row (Value.int .i64) (0 : Int) (h1 := fun _ => rfl) (w0 := w3) w3.heap.size rfl (.tmp 22) (.tmp 23) 26 3 (.int .i64 0) 8 rfl Try.underlying26 Given.info3 rfl (by decide) (v2) ([] ++ L) L A1 L.length c1 (fun _ => True) rfl rfl (fun _ _ => trivial) HR2.out (Kd.R_reads' (Kd.R_below HO.out HB2_.out)).2.2 HB2_.out (HB2_.out.size) (by simp; omega) ?_; rintro v3 w5 hr3 hb3 _ _; obtain ⟨A3, c3, rfl⟩ := Kd.R_slice hr3; have HR3 := Aside0.mk hr3; have HB3_ := Aside0.mk hb3; clear hr3 hb3))
  have hq := mask_Of.calls A3 c3 (([] ++ L) ++ L) m 0 w5 (Kd.R_reads' HR3.out).2.2 (Kd.R_reads' HR3.out).2.1 S3.out
  rw [List.nil_append, List.length_append] at hq
  refine hq.mono ?_
  clear hq
  rintro e w6 ⟨rfl, hw⟩
  have hb := below_of_eq hw
  clear hw
  have HB6 := Aside0.mk (below_step (below_step HB3.out HB3_.out) hb)
  have HQ := Aside0.mk (Kd.R_below (Kd.R_below HO.out HB3_.out) hb)
  clear hb
  obtain ⟨ad, hA, _⟩ := Kd.at_int (Kd.R_reads' HQ.out).2.2 0 (by omega) (by omega)
  subst hA
  have HC := Aside0.mk (c_cells (Kd.R_reads' HQ.out).2.2)
  go_wp2_with fail
  go_loopg [9] (L.length - 1) (fun kq v w' => ∃ j : Nat, kq + (j + 1) = L.length ∧ v = .int .i64 ((j : Int) + 1) ∧ Drawn0 w6 w')
  case atStart => exact ⟨0, by omega, rfl, Drawn0.refl _⟩
  case round =>
    obtain ⟨j, hk, rfl, ⟨m1, rfl⟩⟩ := hrel
    by_cases hlt : j + 1 < L.length
    · have hx := HC.out j (by omega)
      have hy := HC.out (j + 1) hlt
      obtain ⟨k, hk1⟩ : ∃ k : Nat, j + 1 = k := ⟨_, rfl⟩
      have hk2 : (k : Int) - 1 = (j : Int) := by omega
      have hxy := decide_eq_false (show ¬ (L.getD (j + 1) 0 ≤ L.getD j 0) from by have := HS.out j hlt; omega)
      generalize L.getD j 0 = x at hx hxy
      generalize L.getD (j + 1) 0 = y at hy hxy
      rw [hk1] at hy
      rw [show ((j : Int) + 1) = (k : Int) by omega]
      have p1 := eq_true (show (0 : Int) ≤ (j : Int) from by omega)
      have p2 := eq_true (show (0 : Int) ≤ (k : Int) from by omega)
      have p3 := eq_true (show (j : Int) < (L.length : Int) from by omega)
      have p4 : ((k : Int) < (L.length : Int)) := by omega
      have hwj : IntKind.i64.wrap (j : Int) = (j : Int) := by rw [IntKind.wrap_i64]; omega
      go_wp2_with fail
      go_quiet (fail)
      go_wp2_with fail
      go_roundg (gk - 1)
      case measure => omega
      case rel => exact ⟨j + 1, by omega, by simp; omega, by repeat (first | exact Drawn0.refl _ | apply Drawn0.step)⟩
    · have hlt : ¬ ((j : Int) + 1 < (L.length : Int)) := by omega
      have HDr := Aside0.mk (Drawn0.below ⟨m1, rfl⟩ : Below w6.heap.size w6 (w6.drewN m1))
      have HB7_ := Aside0.mk (below_step HB6.out HDr.out)
      go_wp2_with fail
      refine (mask_Count.calls m _ _ S4.out).mono ?_
      rintro e w7 ⟨rfl, hb⟩
      have HB7 := Aside0.mk (below_step HB7_.out hb)
      clear hb
      go_wp2_with fail
      go_ret
      exact ⟨rfl, by repeat (first | exact HB7.out | apply below_alloc | apply pw_below_drewN)⟩
theorem fold_bit (l : List Int) (i : Nat) : ∀ m : Nat, (l.foldl (fun m c => m ||| 2 ^ c.toNat) m).testBit i = (m.testBit i || l.any (fun c => decide (c.toNat = i))) := by
  induction l with
  | nil => intro m; simp
  | cons x xs ih =>
    intro m
    rw [List.foldl_cons, ih, Nat.testBit_or, Nat.testBit_two_pow, List.any_cons, Bool.or_assoc]
theorem ofN_of (M : Nat) (hM : M < 18446744073709551616) (l : List Int) (h : ∀ x : Int, x ∈ l ↔ hasB (M : Int) x = true) : ofN l = M := by
  apply Nat.eq_of_testBit_eq
  intro i
  unfold ofN
  rw [fold_bit, Nat.zero_testBit, Bool.false_or, Bool.eq_iff_iff, List.any_eq_true]
  constructor
  · rintro ⟨x, hx, he⟩
    have h1 := (h x).1 hx
    rw [hasB_nat, Bool.and_eq_true] at h1
    rw [← of_decide_eq_true he]
    exact h1.2
  · intro hi
    have h64 : i < 64 := by
      cases Nat.lt_or_ge i 64 with
      | inl h => exact h
      | inr h => rw [testBit_big M i hM h] at hi; cases hi
    refine ⟨(i : Int), (h _).2 ?_, by simp⟩
    rw [hasB_nat, Int.toNat_natCast, hi, odd_false.2 ⟨by omega, by omega⟩]
    rfl
theorem any_of (M : Nat) (l : List Int) (h : ∀ x : Int, x ∈ l ↔ hasB (M : Int) x = true) : l.any oddB = false := by
  rw [List.any_eq_false]
  intro x hx
  have h1 := (h x).1 hx
  rw [hasB_nat, Bool.and_eq_true] at h1
  simpa using h1.1
theorem Walk.MaskBack (m : Int) (hm : (Lit.int .u64 m).wf = true) (w : World) :
    Calls Try.prog 5 #[.int .u64 m] w fun e w' => e = .returned (.bool true) ∧ Below w.heap.size w w' := by
  have hm := u64_of hm
  obtain ⟨M, rfl⟩ := Int.eq_ofNat_of_zero_le hm.1
  have hM : M < 18446744073709551616 := by have := hm.2; omega
  have hlen := aboveL_length (M : Int) (-1)
  have hs := above_sorted (M : Int) (-1)
  have hc := count_f (M : Int) hm
  have hl := list_f (M : Int) hm
  have hmem : ∀ x : Int, x ∈ aboveL (M : Int) (-1) ↔ hasB (M : Int) x = true := by
    intro x
    rw [mem_above]
    refine ⟨fun h => h.2, fun h => ⟨?_, h⟩⟩
    rw [hasB_nat, Bool.and_eq_true] at h
    have := odd_false.1 (by simpa using h.1)
    omega
  generalize aboveL (M : Int) (-1) = L at *
  have hmem2 : ∀ x : Int, x ∈ L ++ L ↔ hasB (M : Int) x = true := by
    intro x
    rw [List.mem_append, or_self]
    exact hmem x
  have s2 := of_f L (by omega)
  rw [any_of M L hmem, if_neg (by decide), ofN_of M hM L hmem] at s2
  have s3 := of_f (L ++ L) (by rw [List.length_append]; omega)
  rw [any_of M _ hmem2, if_neg (by decide), ofN_of M hM _ hmem2] at s3
  have hsort : ∀ j : Nat, j + 1 < L.length → L.getD j 0 < L.getD (j + 1) 0 := by
    intro j hj
    rw [List.getD_eq_getElem?_getD, List.getD_eq_getElem?_getD, List.getElem?_eq_getElem hj, List.getElem?_eq_getElem (by omega : j < L.length)]
    exact List.pairwise_iff_getElem.1 hs j (j + 1) (by omega) hj (by omega)
  by_cases h2 : L.length ≤ 1
  · exact back_1 M L w hlen hsort h2 hl s2 s3 hc
  · exact back_0 M L w hlen hsort (by omega) hl s2 s3 hc
end Go.Proofs.Ytdghjigeddphaaa

/- calls.Print, calls.Parse, calls.Hear, in the printed form. -/
import Derived.Test.YtilmbpdfdickoaaDoorMP
import Derived.Test.YtilmbpdfdickoaaDoorMR
import Derived.Test.YtilmbpdfdickoaaDoorMS
import Derived.KernelRfl
import Derived.Test.YtilmbpdfdickoaaDoorPrint0
namespace Go.Proofs.YtilmbpdfdickoaaDoor.Given
open Go.RowKit Go.Proofs.YtilmbpdfdickoaaDoor Go.Proofs.YtilmbpdfdickoaaDoor.Pure Go.Proofs.YtilmbpdfdickoaaDoorW.PrintWords
set_option linter.unusedVariables false
def calls_Print.f (a0_0 a0_1 a0_2 a0_3 a0_4 a0_5 a0_6 : Int) : Option (ByteArray × Int) := if (-9223372036854775808 ≤ a0_0 ∧ a0_0 ≤ 9223372036854775807) ∧ (-9223372036854775808 ≤ a0_1 ∧ a0_1 ≤ 9223372036854775807) ∧ (-9223372036854775808 ≤ a0_2 ∧ a0_2 ≤ 9223372036854775807) ∧ (-9223372036854775808 ≤ a0_3 ∧ a0_3 ≤ 9223372036854775807) ∧ (-9223372036854775808 ≤ a0_4 ∧ a0_4 ≤ 9223372036854775807) ∧ (-9223372036854775808 ≤ a0_5 ∧ a0_5 ≤ 9223372036854775807) ∧ (0 ≤ a0_6 ∧ a0_6 < 18446744073709551616) then some (⟨(printCS (⟨a0_0, a0_1, a0_2, a0_3, a0_4, a0_5, a0_6⟩ : CallS)).1.toArray⟩, (printCS (⟨a0_0, a0_1, a0_2, a0_3, a0_4, a0_5, a0_6⟩ : CallS)).2) else none
theorem calls_Print.calls (a0_0 a0_1 a0_2 a0_3 a0_4 a0_5 a0_6 : Int) (r1 : ByteArray) (r2 : Int) (w : World) (HLd : Ld w) (h : calls_Print.f a0_0 a0_1 a0_2 a0_3 a0_4 a0_5 a0_6 = some (r1, r2)) :
    Calls Tryd.prog 10 #[.agg #[.int .i64 a0_0, .int .i64 a0_1, .int .i64 a0_2, .int .i64 a0_3, .int .i64 a0_4, .int .i64 a0_5, .int .u64 a0_6]] w fun e w' => e = .returned (.tuple #[.string r1, .int .i64 r2]) ∧ Below w.heap.size w w' := by
  unfold calls_Print.f at h
  split at h
  · rename_i hr
    obtain ⟨h0, h1, h2, h3, h4, h5, h6⟩ := hr
    have e := Option.some.inj h
    have e1 := congrArg Prod.fst e
    have e2 := congrArg Prod.snd e
    dsimp only at e1 e2
    rw [← e1, ← e2]
    exact print_c (⟨a0_0, a0_1, a0_2, a0_3, a0_4, a0_5, a0_6⟩ : CallS) ⟨h0, h1, h2, h3, h4, h5, h6⟩ w HLd
  · cases h
def calls_Parse.f (s : ByteArray) : Option (Int × Int × Int × Int × Int × Int × Int × Int) := if s.size ≤ 4000000000 then some ((parseCS s.data.toList).1.op, (parseCS s.data.toList).1.slot, (parseCS s.data.toList).1.gen, (parseCS s.data.toList).1.cpu, (parseCS s.data.toList).1.n, (parseCS s.data.toList).1.nice, (parseCS s.data.toList).1.mask, (parseCS s.data.toList).2) else none
theorem calls_Parse.calls (a0 : ByteArray) (r1 r2 r3 r4 r5 r6 r7 r8 : Int) (w : World) (HLd : Ld w) (h : calls_Parse.f a0 = some (r1, r2, r3, r4, r5, r6, r7, r8)) :
    Calls Tryd.prog 13 #[.string a0] w fun e w' => e = .returned (.tuple #[.agg #[.int .i64 r1, .int .i64 r2, .int .i64 r3, .int .i64 r4, .int .i64 r5, .int .i64 r6, .int .u64 r7], .int .i64 r8]) ∧ Below w.heap.size w w' := by
  unfold calls_Parse.f at h
  split at h
  · rename_i hs
    have e := Option.some.inj h
    simp only [Prod.mk.injEq] at e
    obtain ⟨e1, e2, e3, e4, e5, e6, e7, e8⟩ := e
    rw [← e1, ← e2, ← e3, ← e4, ← e5, ← e6, ← e7, ← e8]
    exact parse15_c a0 hs w HLd
  · cases h
def calls_Hear.f (s : ByteArray) : Option (Int × Int × Int × Int × Int) := if s.size ≤ 4000000000 then some ((hearS s.data.toList).1.errno, (hearS s.data.toList).1.n, (hearS s.data.toList).1.slot, (hearS s.data.toList).1.gen, (hearS s.data.toList).2) else none
theorem calls_Hear.calls (a0 : ByteArray) (r1 r2 r3 r4 r5 : Int) (w : World) (HLd : Ld w) (h : calls_Hear.f a0 = some (r1, r2, r3, r4, r5)) :
    Calls Tryd.prog 17 #[.string a0] w fun e w' => e = .returned (.tuple #[.agg #[.int .i64 r1, .int .i64 r2, .int .i64 r3, .int .i64 r4], .int .i64 r5]) ∧ Below w.heap.size w w' := by
  unfold calls_Hear.f at h
  split at h
  · rename_i hs
    have e := Option.some.inj h
    simp only [Prod.mk.injEq] at e
    obtain ⟨e1, e2, e3, e4, e5⟩ := e
    rw [← e1, ← e2, ← e3, ← e4, ← e5]
    exact hear_c a0 hs w HLd
  · cases h
end Go.Proofs.YtilmbpdfdickoaaDoor.Given
/- calls.Say and awake: what they answer. -/
namespace Go.Proofs.YtilmbpdfdickoaaDoor.Given
open Go.RowKit Go.Proofs.YtilmbpdfdickoaaDoor Go.Proofs.YtilmbpdfdickoaaDoor.Print Go.Proofs.YtilmbpdfdickoaaDoor.Pure Go.Proofs.YtilmbpdfdickoaaDoorW.PrintWords
set_option linter.unusedVariables false
set_option linter.unusedSimpArgs false
theorem dec_errno {e : Int} (h0 : 0 ≤ e) (h1 : e ≤ 11) : Lib.itoa e = decI e := itoa_dec ⟨h0, by omega⟩
theorem say_is (a : AnsS) (he : I64 a.errno) (hn : I64 a.n) (h1 : I64 a.slot) (h2 : I64 a.gen) : calls_SayP.f 1 a.errno a.n a.slot a.gen = some (⟨(sayS a).1.toArray⟩, (sayS a).2) := by
  unfold calls_SayP.f sayS sayA
  by_cases h : a.errno = 0
  · rw [if_pos h, if_neg (fun hh => hh h), digits_is a.n hn, Option.bind_some]
    obtain ⟨t, ok, ht, hs⟩ := task_is a.slot a.gen h1 h2
    rw [ht, Option.bind_some]
    dsimp only
    cases hT : taskT a.slot a.gen with
    | none =>
      rw [hT] at hs
      obtain rfl := (hs : ok = false)
      cases decide (mayI a.n) <;> rfl
    | some tl =>
      rw [hT] at hs
      obtain ⟨rfl, rfl⟩ := (hs : ok = true ∧ t = ⟨tl.toArray⟩)
      by_cases hm : mayI a.n
      · have hl := len_dec hm
        have hl2 := len_task hT
        rw [decide_eq_true hm, if_pos rfl, itoa_dec hm]
        dsimp only
        rw [if_pos hm]
        unfold calls_SayP.j0
        dsimp only
        simp only [Bool.not_true, Bool.false_eq_true, if_false]
        have ek : (⟨#[111, 107, 32]⟩ : ByteArray) = ⟨(okT ++ [32]).toArray⟩ := rfl
        have es : (⟨#[32]⟩ : ByteArray) = ⟨([32] : List UInt8).toArray⟩ := rfl
        by_cases h00 : a.slot = 0 ∧ a.gen = 0
        · rw [if_pos (by rw [h00.1, h00.2]; rfl), size_bytes, if_pos (by omega), if_pos h00, ek, cat_bytes]
          simp
        · rw [if_neg (by rw [Bool.and_eq_true, beq_iff_eq, beq_iff_eq]; exact h00), size_bytes, if_pos (by omega), if_neg h00, ek, es, cat_bytes, cat_bytes, cat_bytes, size_bytes, size_bytes, size_bytes]
          have g1 : (okT ++ [32] ++ decI a.n).length + 1 ≤ 9223372036854775807 := by simp [okT]; omega
          have g2 : (okT ++ [32] ++ decI a.n ++ [32]).length + tl.length ≤ 9223372036854775807 := by simp [okT]; omega
          rw [if_pos g1, if_pos g2]
          simp
      · rw [decide_eq_false hm, if_neg (by decide)]
        dsimp only
        rw [if_neg hm]; rfl
  · rw [if_neg h, if_pos h]
    by_cases g0 : a.errno < 0
    · rw [if_pos g0, if_neg (fun hh => by omega)]
    · rw [if_neg g0]
      by_cases g1 : a.errno > 11
      · rw [if_pos g1, if_neg (fun hh => by omega)]
      · rw [if_neg g1]
        by_cases g2 : a.n = 0
        · rw [if_pos g2]
          by_cases g3 : a.slot = 0 ∧ a.gen = 0
          · have hm : mayI a.errno := ⟨by omega, by omega⟩
            have hl := len_dec hm
            rw [g3.1, g3.2, if_neg (by decide), show strconv_Itoa.f a.errno = some ⟨(Lib.itoa a.errno).toArray⟩ from if_pos he, Option.bind_some, itoa_dec hm, size_bytes, if_pos (by omega), if_pos ⟨by omega, by omega, g2, rfl, rfl⟩]
            have ek : (⟨#[101, 114, 114, 111, 114, 32]⟩ : ByteArray) = ⟨(errT ++ [32]).toArray⟩ := rfl
            rw [ek, cat_bytes]
            simp
          · rw [if_pos (by
              rw [Bool.or_eq_true, Bool.not_eq_true', Bool.not_eq_true', beq_eq_false_iff_ne, beq_eq_false_iff_ne]
              by_cases q : a.slot = 0
              · exact .inr (fun q2 => g3 ⟨q, q2⟩)
              · exact .inl q), if_neg (fun hh => g3 ⟨hh.2.2.2.1, hh.2.2.2.2⟩)]
        · rw [if_neg g2, if_neg (fun hh => g2 hh.2.2.1)]
def calls_Say.f (a0_0 a0_1 a0_2 a0_3 : Int) : Option (ByteArray × Int) := if (-9223372036854775808 ≤ a0_0 ∧ a0_0 ≤ 9223372036854775807) ∧ (-9223372036854775808 ≤ a0_1 ∧ a0_1 ≤ 9223372036854775807) ∧ (-9223372036854775808 ≤ a0_2 ∧ a0_2 ≤ 9223372036854775807) ∧ (-9223372036854775808 ≤ a0_3 ∧ a0_3 ≤ 9223372036854775807) then some (⟨(sayS ⟨a0_0, a0_1, a0_2, a0_3⟩).1.toArray⟩, (sayS ⟨a0_0, a0_1, a0_2, a0_3⟩).2) else none
theorem calls_Say.calls (a0_0 a0_1 a0_2 a0_3 : Int) (r1 : ByteArray) (r2 : Int) (w : World) (HLd : Ld w) (h : calls_Say.f a0_0 a0_1 a0_2 a0_3 = some (r1, r2)) :
    Calls Tryd.prog 15 #[.agg #[.int .i64 a0_0, .int .i64 a0_1, .int .i64 a0_2, .int .i64 a0_3]] w fun e w' => e = .returned (.tuple #[.string r1, .int .i64 r2]) ∧ Below w.heap.size w w' := by
  unfold calls_Say.f at h
  split at h
  · rename_i hr
    exact calls_SayP.calls 1 _ _ _ _ _ _ w HLd ((say_is ⟨a0_0, a0_1, a0_2, a0_3⟩ hr.1 hr.2.1 hr.2.2.1 hr.2.2.2).trans h)
  · cases h
theorem p1 : parseCS [109, 97, 115, 107, 32, 51, 46, 49, 32, 48, 45, 49, 44, 52] = (⟨9, 3, 1, 0, 0, 0, 19⟩, 0) := by kernel_rfl
theorem p2 : parseCS [112, 105, 99, 107, 32, 32, 49] = (call0, 3) := by kernel_rfl
theorem p3 : printCS ⟨1, 0, 0, 0, 0, -5, 6⟩ = ([99, 114, 101, 97, 116, 101, 32, 45, 53, 32, 49, 45, 50], 0) := by kernel_rfl
theorem p4 : hearS [101, 114, 114, 111, 114, 32, 55] = (⟨7, 0, 0, 0⟩, 0) := by kernel_rfl
theorem p5 : printCS ⟨7, 0, 0, 0, 1, 0, 0⟩ = ([], 1) := by kernel_rfl
theorem p6 : sayS ⟨0, 0, 0, 1⟩ = ([111, 107, 32, 48, 32, 48, 46, 49], 0) := by kernel_rfl
theorem q1 (w : World) (HLd : Ld w) : Calls Tryd.prog 13 #[.string ⟨#[109, 97, 115, 107, 32, 51, 46, 49, 32, 48, 45, 49, 44, 52]⟩] w fun e w' => e = .returned (.tuple #[.agg #[.int .i64 9, .int .i64 3, .int .i64 1, .int .i64 0, .int .i64 0, .int .i64 0, .int .u64 19], .int .i64 0]) ∧ Below w.heap.size w w' := by
  refine (parse15_c ⟨#[109, 97, 115, 107, 32, 51, 46, 49, 32, 48, 45, 49, 44, 52]⟩ (by decide) w HLd).mono ?_
  rintro e w' ⟨he, hb⟩
  exact ⟨by rw [he, show (⟨#[109, 97, 115, 107, 32, 51, 46, 49, 32, 48, 45, 49, 44, 52]⟩ : ByteArray).data.toList = [109, 97, 115, 107, 32, 51, 46, 49, 32, 48, 45, 49, 44, 52] from rfl, p1]; rfl, hb⟩
theorem q2 (w : World) (HLd : Ld w) : Calls Tryd.prog 13 #[.string ⟨#[112, 105, 99, 107, 32, 32, 49]⟩] w fun e w' => e = .returned (.tuple #[.agg #[.int .i64 0, .int .i64 0, .int .i64 0, .int .i64 0, .int .i64 0, .int .i64 0, .int .u64 0], .int .i64 3]) ∧ Below w.heap.size w w' := by
  refine (parse15_c ⟨#[112, 105, 99, 107, 32, 32, 49]⟩ (by decide) w HLd).mono ?_
  rintro e w' ⟨he, hb⟩
  exact ⟨by rw [he, show (⟨#[112, 105, 99, 107, 32, 32, 49]⟩ : ByteArray).data.toList = [112, 105, 99, 107, 32, 32, 49] from rfl, p2]; rfl, hb⟩
theorem q3 (w : World) (HLd : Ld w) : Calls Tryd.prog 10 #[.agg #[.int .i64 1, .int .i64 0, .int .i64 0, .int .i64 0, .int .i64 0, .int .i64 (-5), .int .u64 6]] w fun e w' => e = .returned (.tuple #[.string ⟨#[99, 114, 101, 97, 116, 101, 32, 45, 53, 32, 49, 45, 50]⟩, .int .i64 0]) ∧ Below w.heap.size w w' :=
  calls_Print.calls 1 0 0 0 0 (-5) 6 _ _ w HLd (by unfold calls_Print.f; rw [if_pos (by decide), p3])
theorem q4 (w : World) (HLd : Ld w) : Calls Tryd.prog 17 #[.string ⟨#[101, 114, 114, 111, 114, 32, 55]⟩] w fun e w' => e = .returned (.tuple #[.agg #[.int .i64 7, .int .i64 0, .int .i64 0, .int .i64 0], .int .i64 0]) ∧ Below w.heap.size w w' := by
  refine (hear_c ⟨#[101, 114, 114, 111, 114, 32, 55]⟩ (by decide) w HLd).mono ?_
  rintro e w' ⟨he, hb⟩
  exact ⟨by rw [he, show (⟨#[101, 114, 114, 111, 114, 32, 55]⟩ : ByteArray).data.toList = [101, 114, 114, 111, 114, 32, 55] from rfl, p4]; rfl, hb⟩
theorem q5 (w : World) (HLd : Ld w) : Calls Tryd.prog 10 #[.agg #[.int .i64 7, .int .i64 0, .int .i64 0, .int .i64 0, .int .i64 1, .int .i64 0, .int .u64 0]] w fun e w' => e = .returned (.tuple #[.string ⟨#[]⟩, .int .i64 1]) ∧ Below w.heap.size w w' :=
  calls_Print.calls 7 0 0 0 1 0 0 _ _ w HLd (by unfold calls_Print.f; rw [if_pos (by decide), p5])
theorem q6 (w : World) (HLd : Ld w) : Calls Tryd.prog 15 #[.agg #[.int .i64 0, .int .i64 0, .int .i64 0, .int .i64 1]] w fun e w' => e = .returned (.tuple #[.string ⟨#[111, 107, 32, 48, 32, 48, 46, 49]⟩, .int .i64 0]) ∧ Below w.heap.size w w' :=
  calls_Say.calls 0 0 0 1 _ _ w HLd (by unfold calls_Say.f; rw [if_pos (by decide), p6])
theorem eqB36 (d : Nat) (w : World) (x0 y0 : Int) (x1 y1 : Int) (x2 y2 : Int) (x3 y3 : Int) :
    (Op.equalIn (d + 3) 36 (.agg #[.int .i64 x0, .int .i64 x1, .int .i64 x2, .int .i64 x3]) (.agg #[.int .i64 y0, .int .i64 y1, .int .i64 y2, .int .i64 y3])).run Tryd.prog w = .ok (x0 == y0 && (x1 == y1 && (x2 == y2 && (x3 == y3)))) w := by
  refine eqA_of Tryd.underlying36 (by kernel_rfl) ?_
  refine eqf_cons (by rfl) (by go_simp; rfl) (by go_simp; rfl) (by go_simp) ?_
  refine eqf_cons (by rfl) (by go_simp; rfl) (by go_simp; rfl) (by go_simp) ?_
  exact eqf_last (by rfl) (by go_simp) (by go_simp) (eqA23 (d + 0) w _ _ _ _)
attribute [local go_sem high] eqA26 eqB36
set_option maxHeartbeats 8000000 in
set_option maxRecDepth 100000 in
theorem awake_c (w : World) (HLd : Ld w) : Calls Tryd.prog 12 #[] w fun e w' => e = .returned (.bool true) ∧ Below w.heap.size w w' := by
  have hu36 := Tryd.underlying36
  have hu23 := Tryd.underlying23
  have hu26 := Tryd.underlying26
  go_enter Tryd.func12, Tryd.ntmps12
  go_wp2_with fail
  refine (q1 _ HLd).mono ?_
  rintro e v1 ⟨rfl, hb⟩
  have HB1 := Aside0.mk (hb)
  clear hb
  go_upto_region 2 with fail
  have K12 := Aside0.mk (blk_new v1 (.cells #[.int .i64 9, .int .i64 3, .int .i64 1, .int .i64 0, .int .i64 0, .int .i64 0, .int .u64 19] 26))
  have HB2 : Aside0 (Below w.heap.size w (v1.alloc (.cells #[.int .i64 9, .int .i64 3, .int .i64 1, .int .i64 0, .int .i64 0, .int .i64 0, .int .u64 19] 26))) := ⟨below_alloc HB1.out _⟩
  generalize v1.alloc (.cells #[.int .i64 9, .int .i64 3, .int .i64 1, .int .i64 0, .int .i64 0, .int .i64 0, .int .u64 19] 26) = v2 at K12 HB2 ⊢
  generalize v1.heap.size = g1 at K12 ⊢
  go_wp2_with fail
  refine (q6 _ (HLd.below HB2.out)).mono ?_
  rintro e v3 ⟨rfl, hb⟩
  have HB3 := Aside0.mk (below_step HB2.out hb)
  have K13 := Aside0.mk (blk_below K12.out hb)
  clear hb
  go_upto_region 3 with fail
  go_wp2_with fail
  refine (q2 _ (HLd.below HB3.out)).mono ?_
  rintro e v4 ⟨rfl, hb⟩
  have HB4 := Aside0.mk (below_step HB3.out hb)
  have K14 := Aside0.mk (blk_below K13.out hb)
  clear hb
  go_upto_region 4 with fail
  have K55 := Aside0.mk (blk_new v4 (.cells #[.int .i64 0, .int .i64 0, .int .i64 0, .int .i64 0, .int .i64 0, .int .i64 0, .int .u64 0] 26))
  have HB5 : Aside0 (Below w.heap.size w (v4.alloc (.cells #[.int .i64 0, .int .i64 0, .int .i64 0, .int .i64 0, .int .i64 0, .int .i64 0, .int .u64 0] 26))) := ⟨below_alloc HB4.out _⟩
  have K15 : Aside0 ((v4.alloc (.cells #[.int .i64 0, .int .i64 0, .int .i64 0, .int .i64 0, .int .i64 0, .int .i64 0, .int .u64 0] 26)).heap[_]? = _) := ⟨blk_alloc K14.out _⟩
  generalize v4.alloc (.cells #[.int .i64 0, .int .i64 0, .int .i64 0, .int .i64 0, .int .i64 0, .int .i64 0, .int .u64 0] 26) = v5 at K15 K55 HB5 ⊢
  generalize v4.heap.size = g5 at K55 ⊢
  go_wp2_with fail
  refine (q3 _ (HLd.below HB5.out)).mono ?_
  rintro e v6 ⟨rfl, hb⟩
  have HB6 := Aside0.mk (below_step HB5.out hb)
  have K16 := Aside0.mk (blk_below K15.out hb)
  have K56 := Aside0.mk (blk_below K55.out hb)
  clear hb
  go_upto_region 5 with fail
  go_wp2_with fail
  refine (q4 _ (HLd.below HB6.out)).mono ?_
  rintro e v7 ⟨rfl, hb⟩
  have HB7 := Aside0.mk (below_step HB6.out hb)
  have K17 := Aside0.mk (blk_below K16.out hb)
  have K57 := Aside0.mk (blk_below K56.out hb)
  clear hb
  go_upto_region 6 with fail
  have K98 := Aside0.mk (blk_new v7 (.cells #[.int .i64 7, .int .i64 0, .int .i64 0, .int .i64 0] 36))
  have HB8 : Aside0 (Below w.heap.size w (v7.alloc (.cells #[.int .i64 7, .int .i64 0, .int .i64 0, .int .i64 0] 36))) := ⟨below_alloc HB7.out _⟩
  have K18 : Aside0 ((v7.alloc (.cells #[.int .i64 7, .int .i64 0, .int .i64 0, .int .i64 0] 36)).heap[_]? = _) := ⟨blk_alloc K17.out _⟩
  have K58 : Aside0 ((v7.alloc (.cells #[.int .i64 7, .int .i64 0, .int .i64 0, .int .i64 0] 36)).heap[_]? = _) := ⟨blk_alloc K57.out _⟩
  generalize v7.alloc (.cells #[.int .i64 7, .int .i64 0, .int .i64 0, .int .i64 0] 36) = v8 at K18 K58 K98 HB8 ⊢
  generalize v7.heap.size = g9 at K98 ⊢
  go_wp2_with fail
  refine (q5 _ (HLd.below HB8.out)).mono ?_
  rintro e v9 ⟨rfl, hb⟩
  have HB9 := Aside0.mk (below_step HB8.out hb)
  have K19 := Aside0.mk (blk_below K18.out hb)
  have K59 := Aside0.mk (blk_below K58.out hb)
  have K99 := Aside0.mk (blk_below K98.out hb)
  clear hb
  have x0 : v9.cell? ⟨g1, 0, none⟩ = some (.int .i64 9) := (blk_cell K19.out 0).trans rfl
  have x1 : v9.cell? ⟨g1, 1, none⟩ = some (.int .i64 3) := (blk_cell K19.out 1).trans rfl
  have x2 : v9.cell? ⟨g1, 2, none⟩ = some (.int .i64 1) := (blk_cell K19.out 2).trans rfl
  have x3 : v9.cell? ⟨g1, 3, none⟩ = some (.int .i64 0) := (blk_cell K19.out 3).trans rfl
  have x4 : v9.cell? ⟨g1, 4, none⟩ = some (.int .i64 0) := (blk_cell K19.out 4).trans rfl
  have x5 : v9.cell? ⟨g1, 5, none⟩ = some (.int .i64 0) := (blk_cell K19.out 5).trans rfl
  have x6 : v9.cell? ⟨g1, 6, none⟩ = some (.int .u64 19) := (blk_cell K19.out 6).trans rfl
  have y0 : v9.cell? ⟨g9, 0, none⟩ = some (.int .i64 7) := (blk_cell K99.out 0).trans rfl
  have y1 : v9.cell? ⟨g9, 1, none⟩ = some (.int .i64 0) := (blk_cell K99.out 1).trans rfl
  have y2 : v9.cell? ⟨g9, 2, none⟩ = some (.int .i64 0) := (blk_cell K99.out 2).trans rfl
  have y3 : v9.cell? ⟨g9, 3, none⟩ = some (.int .i64 0) := (blk_cell K99.out 3).trans rfl
  go_wp2_with fail
  go_ret
  exact ⟨rfl, HB9.out⟩
def turnspitlaw15_awake.f : Option Bool := some true
theorem turnspitlaw15_awake.calls (r : Bool) (w : World) (HLd : Ld w) (h : turnspitlaw15_awake.f = some r) :
    Calls Tryd.prog 12 #[] w fun e w' => e = .returned (.bool r) ∧ Below w.heap.size w w' := by
  obtain rfl := Option.some.inj h
  exact awake_c w HLd
end Go.Proofs.YtilmbpdfdickoaaDoor.Given
/- Contracts as the laws want them. -/
namespace Go.Proofs.YtilmbpdfdickoaaDoor
open Go.RowKit Go.Proofs.YtilmbpdfdickoaaDoor.Given Go.Proofs.YtilmbpdfdickoaaDoor.Print Go.Proofs.YtilmbpdfdickoaaDoor.Pure Go.Proofs.YtilmbpdfdickoaaDoorW.PrintWords Go.Proofs.YtilmbpdfdickoaaDoorW.PrintLast Go.Proofs.YtilmbpdfdickoaaDoorW.PrintMore
set_option linter.unusedVariables false
set_option linter.unusedSimpArgs false
theorem u64_of {a : Int} (h : (Lit.int .u64 a).wf = true) : u64I a := by
  have h_ := h
  simp [Lit.wf, IntKind.min, IntKind.max, IntKind.signed, IntKind.bits] at h_
  exact ⟨by omega, by omega⟩
theorem i64_of {a : Int} (h : (Lit.int .i64 a).wf = true) : I64 a := by
  have h_ := h
  simp [Lit.wf, IntKind.min, IntKind.max, IntKind.signed, IntKind.bits] at h_
  exact ⟨by omega, by omega⟩
theorem print_ok {c : CallS} {s : List UInt8} (ho : OkC c) (hs : printC c = some s) (w : World) (HLd : Ld w) :
    Calls Tryd.prog 10 #[.agg #[.int .i64 c.op, .int .i64 c.slot, .int .i64 c.gen, .int .i64 c.cpu, .int .i64 c.n, .int .i64 c.nice, .int .u64 c.mask]] w fun e w' => e = .returned (.tuple #[.string ⟨s.toArray⟩, .int .i64 0]) ∧ Below w.heap.size w w' := by
  refine (print_c c ho w HLd).mono ?_
  rintro e w' ⟨he, hb⟩
  have hp : printCS c = (s, 0) := by unfold printCS; rw [hs]
  exact ⟨by rw [he, hp], hb⟩
theorem print_no {c : CallS} (ho : OkC c) (hs : printC c = none) (w : World) (HLd : Ld w) :
    Calls Tryd.prog 10 #[.agg #[.int .i64 c.op, .int .i64 c.slot, .int .i64 c.gen, .int .i64 c.cpu, .int .i64 c.n, .int .i64 c.nice, .int .u64 c.mask]] w fun e w' => e = .returned (.tuple #[.string ⟨#[]⟩, .int .i64 1]) ∧ Below w.heap.size w w' := by
  refine (print_c c ho w HLd).mono ?_
  rintro e w' ⟨he, hb⟩
  have hp : printCS c = ([], 1) := by unfold printCS; rw [hs]
  exact ⟨by rw [he, hp], hb⟩
theorem parse_as {s : ByteArray} {c : CallS} {r : Int} (hs : s.size ≤ 4000000000) (hp : parseCS s.data.toList = (c, r)) (w : World) (HLd : Ld w) :
    Calls Tryd.prog 13 #[.string s] w fun e w' => e = .returned (.tuple #[.agg #[.int .i64 c.op, .int .i64 c.slot, .int .i64 c.gen, .int .i64 c.cpu, .int .i64 c.n, .int .i64 c.nice, .int .u64 c.mask], .int .i64 r]) ∧ Below w.heap.size w w' := by
  refine (parse15_c s hs w HLd).mono ?_
  rintro e w' ⟨he, hb⟩
  exact ⟨by rw [he, hp]; rfl, hb⟩
theorem say_as {a : AnsS} {s : List UInt8} {r : Int} (he : I64 a.errno) (hn : I64 a.n) (h1 : I64 a.slot) (h2 : I64 a.gen) (hp : sayS a = (s, r)) (w : World) (HLd : Ld w) :
    Calls Tryd.prog 15 #[.agg #[.int .i64 a.errno, .int .i64 a.n, .int .i64 a.slot, .int .i64 a.gen]] w fun e w' => e = .returned (.tuple #[.string ⟨s.toArray⟩, .int .i64 r]) ∧ Below w.heap.size w w' :=
  calls_Say.calls _ _ _ _ _ _ w HLd (by unfold calls_Say.f; rw [if_pos ⟨he, hn, h1, h2⟩, hp])
theorem hear_as {s : ByteArray} {a : AnsS} {r : Int} (hs : s.size ≤ 4000000000) (hp : hearS s.data.toList = (a, r)) (w : World) (HLd : Ld w) :
    Calls Tryd.prog 17 #[.string s] w fun e w' => e = .returned (.tuple #[.agg #[.int .i64 a.errno, .int .i64 a.n, .int .i64 a.slot, .int .i64 a.gen], .int .i64 r]) ∧ Below w.heap.size w w' := by
  refine (hear_c s hs w HLd).mono ?_
  rintro e w' ⟨he, hb⟩
  exact ⟨by rw [he, hp]; rfl, hb⟩
theorem call_eq (a b : CallS) : (a.op == b.op && ((a.slot == b.slot && (a.gen == b.gen)) && (a.cpu == b.cpu && (a.n == b.n && (a.nice == b.nice && (a.mask == b.mask)))))) = decide (a = b) := by
  by_cases h : a = b
  · rw [decide_eq_true h, h]; simp
  · rw [decide_eq_false h]; exact call_ne h
end Go.Proofs.YtilmbpdfdickoaaDoor

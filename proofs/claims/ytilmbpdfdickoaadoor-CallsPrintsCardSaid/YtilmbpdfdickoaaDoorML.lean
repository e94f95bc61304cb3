/- calls.Print, calls.Parse, calls.Hear, in the printed form. -/
import Derived.Test.YtilmbpdfdickoaaDoorMP
import Derived.Test.YtilmbpdfdickoaaDoorMR
import Derived.Test.YtilmbpdfdickoaaDoorMS
import Derived.KernelRfl
import Derived.Test.YtilmbpdfdickoaaDoorPrint0
namespace Go.Proofs.YtilmbpdfdickoaaDoor.Given
open Go.RowKit Go.Proofs.YtilmbpdfdickoaaDoor Go.Proofs.YtilmbpdfdickoaaDoor.Pure Go.Proofs.YtilmbpdfdickoaaDoorW.PrintWords
set_option linter.unusedVariables false
def calls_Print.f (a0_0 a0_1 a0_2 a0_3 a0_4 a0_5 a0_6 : Int) : Option (ByteArray × Int) := if (-9223372036854775808 ≤ a0_0 ∧ a0_0 ≤ 9223372036854775807) ∧ (-9223372036854775808 ≤ a0_1 ∧ a0_1 ≤ 9223372036854775807) ∧ (-9223372036854775808 ≤ a0_2 ∧ a0_2 ≤ 9223372036854775807) ∧ (-9223372036854775808 ≤ a0_3 ∧ a0_3 ≤ 9223372036854775807) ∧ (-9223372036854775808 ≤ a0_4 ∧ a0_4 ≤ 9223372036854775807) ∧ (-9223372036854775808 ≤ a0_5 ∧ a0_5 ≤ 9223372036854775807) ∧ (0 ≤ a0_6 ∧ a0_6 < 18446744073709551616) then some (⟨(printCS (⟨a0_0, a0_1, a0_2, a0_3, a0_4, a0_5, a0_6⟩ : CallS)).1.toArray⟩, (printCS (⟨a0_0, a0_1, a0_2, a0_3, a0_4, a0_5, a0_6⟩ : CallS)).2) else none
theorem calls_Print.calls (a0_0 a0_1 a0_2 a0_3 a0_4 a0_5 a0_6 : Int) (r1 : ByteArray) (r2 : Int) (w : World) (HLd : Ld w) (h : calls_Print.f a0_0 a0_1 a0_2 a0_3 a0_4 a0_5 a0_6 = some (r1, r2)) :
    Calls Tryd.prog 10 #[.agg #[.int .i64 a0_0, .int .i64 a0_1, .int .i64 a0_2, .int .i64 a0_3, .int .i64 a0_4, .int .i64 a0_5, .int .u64 a0_6]] w fun e w' => e = .returned (.tuple #[.string r1, .int .i64 r2]) ∧ Below w.heap.size w w' := by
  unfold calls_Print.f at h
  split at h
  · rename_i hr
    obtain ⟨h0, h1, h2, h3, h4, h5, h6⟩ := hr
    have e := Option.some.inj h
    have e1 := congrArg Prod.fst e
    have e2 := congrArg Prod.snd e
    dsimp only at e1 e2
    rw [← e1, ← e2]
    exact print_c (⟨a0_0, a0_1, a0_2, a0_3, a0_4, a0_5, a0_6⟩ : CallS) ⟨h0, h1, h2, h3, h4, h5, h6⟩ w HLd
  · cases h
def calls_Parse.f (s : ByteArray) : Option (Int × Int × Int × Int × Int × Int × Int × Int) := if s.size ≤ 4000000000 then some ((parseCS s.data.toList).1.op, (parseCS s.data.toList).1.slot, (parseCS s.data.toList).1.gen, (parseCS s.data.toList).1.cpu, (parseCS s.data.toList).1.n, (parseCS s.data.toList).1.nice, (parseCS s.data.toList).1.mask, (parseCS s.data.toList).2) else none
theorem calls_Parse.calls (a0 : ByteArray) (r1 r2 r3 r4 r5 r6 r7 r8 : Int) (w : World) (HLd : Ld w) (h : calls_Parse.f a0 = some (r1, r2, r3, r4, r5, r6, r7, r8)) :
    Calls Tryd.prog 13 #[.string a0] w fun e w' => e = .returned (.tuple #[.agg #[.int .i64 r1, .int .i64 r2, .int .i64 r3, .int .i64 r4, .int .i64 r5, .int .i64 r6, .int .u64 r7], .int .i64 r8]) ∧ Below w.heap.size w w' := by
  unfold calls_Parse.f at h
  split at h
  · rename_i hs
    have e := Option.some.inj h
    simp only [Prod.mk.injEq] at e
    obtain ⟨e1, e2, e3, e4, e5, e6, e7, e8⟩ := e
    rw [← e1, ← e2, ← e3, ← e4, ← e5, ← e6, ← e7, ← e8]
    exact parse15_c a0 hs w HLd
  · cases h
def calls_Hear.f (s : ByteArray) : Option (Int × Int × Int × Int × Int) := if s.size ≤ 4000000000 then some ((hearS s.data.toList).1.errno, (hearS s.data.toList).1.n, (hearS s.data.toList).1.slot, (hearS s.data.toList).1.gen, (hearS s.data.toList).2) else none
theorem calls_Hear.calls (a0 : ByteArray) (r1 r2 r3 r4 r5 : Int) (w : World) (HLd : Ld w) (h : calls_Hear.f a0 = some (r1, r2, r3, r4, r5)) :
    Calls Tryd.prog 17 #[.string a0] w fun e w' => e = .returned (.tuple #[.agg #[.int .i64 r1, .int .i64 r2, .int .i64 r3, .int .i64 r4], .int .i64 r5]) ∧ Below w.heap.size w w' := by
  unfold calls_Hear.f at h
  split at h
  · rename_i hs
    have e := Option.some.inj h
    simp only [Prod.mk.injEq] at e
    obtain ⟨e1, e2, e3, e4, e5⟩ := e
    rw [← e1, ← e2, ← e3, ← e4, ← e5]
    exact hear_c a0 hs w HLd
  · cases h
end Go.Proofs.YtilmbpdfdickoaaDoor.Given
/- calls.Say and awake: what they answer. -/
namespace Go.Proofs.YtilmbpdfdickoaaDoor.Given
open Go.RowKit Go.Proofs.YtilmbpdfdickoaaDoor Go.Proofs.YtilmbpdfdickoaaDoor.Print Go.Proofs.YtilmbpdfdickoaaDoor.Pure Go.Proofs.YtilmbpdfdickoaaDoorW.PrintWords
set_option linter.unusedVariables false
set_option linter.unusedSimpArgs false
theorem dec_errno {e : Int} (h0 : 0 ≤ e) (h1 : e ≤ 11) : Lib.itoa e = decI e := itoa_dec ⟨h0, by omega⟩
theorem say_is (a : AnsS) (he : I64 a.errno) (hn : I64 a.n) (h1 : I64 a.slot) (h2 : I64 a.gen) : calls_SayP.f 1 a.errno a.n a.slot a.gen = some (⟨(sayS a).1.toArray⟩, (sayS a).2) := by
  unfold calls_SayP.f sayS sayA
  by_cases h : a.errno = 0
  · rw [if_pos h, if_neg (fun hh => hh h), digits_is a.n hn, Option.bind_some]
    obtain ⟨t, ok, ht, hs⟩ := task_is a.slot a.gen h1 h2
    rw [ht, Option.bind_some]
    dsimp only
    cases hT : taskT a.slot a.gen with
    | none =>
      rw [hT] at hs
      obtain rfl := (hs : ok = false)
      cases decide (mayI a.n) <;> rfl
    | some tl =>
      rw [hT] at hs
      obtain ⟨rfl, rfl⟩ := (hs : ok = true ∧ t = ⟨tl.toArray⟩)
      by_cases hm : mayI a.n
      · have hl := len_dec hm
        have hl2 := len_task hT
        rw [decide_eq_true hm, if_pos rfl, itoa_dec hm]
        dsimp only
        rw [if_pos hm]
        unfold calls_SayP.j0
        dsimp only
        simp only [Bool.not_true, Bool.false_eq_true, if_false]
        have ek : (⟨#[111, 107, 32]⟩ : ByteArray) = ⟨(okT ++ [32]).toArray⟩ := rfl
        have es : (⟨#[32]⟩ : ByteArray) = ⟨([32] : List UInt8).toArray⟩ := rfl
        by_cases h00 : a.slot = 0 ∧ a.gen = 0
        · rw [if_pos (by rw [h00.1, h00.2]; rfl), size_bytes, if_pos (by omega), if_pos h00, ek, cat_bytes]
          simp
        · rw [if_neg (by rw [Bool.and_eq_true, beq_iff_eq, beq_iff_eq]; exact h00), size_bytes, if_pos (by omega), if_neg h00, ek, es, cat_bytes, cat_bytes, cat_bytes, size_bytes, size_bytes, size_bytes]
          have g1 : (okT ++ [32] ++ decI a.n).length + 1 ≤ 9223372036854775807 := by simp [okT]; omega
          have g2 : (okT ++ [32] ++ decI a.n ++ [32]).length + tl.length ≤ 9223372036854775807 := by simp [okT]; omega
          rw [if_pos g1, if_pos g2]
          simp
      · rw [decide_eq_false hm, if_neg (by decide)]
        dsimp only
        rw [if_neg hm]; rfl
  · rw [if_neg h, if_pos h]
    by_cases g0 : a.errno < 0
    · rw [if_pos g0, if_neg (fun hh => by omega)]
    · rw [if_neg g0]
      by_cases g1 : a.errno > 11
      · rw [if_pos g1, if_neg (fun hh => by omega)]
      · rw [if_neg g1]
        by_cases g2 : a.n = 0
        · rw [if_pos g2]
          by_cases g3 : a.slot = 0 ∧ a.gen = 0
          · have hm : mayI a.errno := ⟨by omega, by omega⟩
            have hl := len_dec hm
            rw [g3.1, g3.2, if_neg (by decide), show strconv_Itoa.f a.errno = some ⟨(Lib.itoa a.errno).toArray⟩ from if_pos he, Option.bind_some, itoa_dec hm, size_bytes, if_pos (by omega), if_pos ⟨by omega, by omega, g2, rfl, rfl⟩]
            have ek : (⟨#[101, 114, 114, 111, 114, 32]⟩ : ByteArray) = ⟨(errT ++ [32]).toArray⟩ := rfl
            rw [ek, cat_bytes]
            simp
          · rw [if_pos (by
              rw [Bool.or_eq_true, Bool.not_eq_true', Bool.not_eq_true', beq_eq_false_iff_ne, beq_eq_false_iff_ne]
              by_cases q : a.slot = 0
              · exact .inr (fun q2 => g3 ⟨q, q2⟩)
              · exact .inl q), if_neg (fun hh => g3 ⟨hh.2.2.2.1, hh.2.2.2.2⟩)]
        · rw [if_neg g2, if_neg (fun hh => g2 hh.2.2.1)]
def calls_Say.f (a0_0 a0_1 a0_2 a0_3 : Int) : Option (ByteArray × Int) := if (-9223372036854775808 ≤ a0_0 ∧ a0_0 ≤ 9223372036854775807) ∧ (-9223372036854775808 ≤ a0_1 ∧ a0_1 ≤ 9223372036854775807) ∧ (-9223372036854775808 ≤ a0_2 ∧ a0_2 ≤ 9223372036854775807) ∧ (-9223372036854775808 ≤ a0_3 ∧ a0_3 ≤ 9223372036854775807) then some (⟨(sayS ⟨a0_0, a0_1, a0_2, a0_3⟩).1.toArray⟩, (sayS ⟨a0_0, a0_1, a0_2, a0_3⟩).2) else none
theorem calls_Say.calls (a0_0 a0_1 a0_2 a0_3 : Int) (r1 : ByteArray) (r2 : Int) (w : World) (HLd : Ld w) (h : calls_Say.f a0_0 a0_1 a0_2 a0_3 = some (r1, r2)) :
    Calls Tryd.prog 15 #[.agg #[.int .i64 a0_0, .int .i64 a0_1, .int .i64 a0_2, .int .i64 a0_3]] w fun e w' => e = .returned (.tuple #[.string r1, .int .i64 r2]) ∧ Below w.heap.size w w' := by
  unfold calls_Say.f at h
  split at h
  · rename_i hr
    exact calls_SayP.calls 1 _ _ _ _ _ _ w HLd ((say_is ⟨a0_0, a0_1, a0_2, a0_3⟩ hr.1 hr.2.1 hr.2.2.1 hr.2.2.2).trans h)
  · cases h
theorem p1 : parseCS [109, 97, 115, 107, 32, 51, 46, 49, 32, 48, 45, 49, 44, 52] = (⟨9, 3, 1, 0, 0, 0, 19⟩, 0) := by kernel_rfl
theorem p2 : parseCS [112, 105, 99, 107, 32, 32, 49] = (call0, 3) := by kernel_rfl
theorem p3 : printCS ⟨1, 0, 0, 0, 0, -5, 6⟩ = ([99, 114, 101, 97, 116, 101, 32, 45, 53, 32, 49, 45, 50], 0) := by kernel_rfl
theorem p4 : hearS [101, 114, 114, 111, 114, 32, 55] = (⟨7, 0, 0, 0⟩, 0) := by kernel_rfl
theorem p5 : printCS ⟨7, 0, 0, 0, 1, 0, 0⟩ = ([], 1) := by kernel_rfl
theorem p6 : sayS ⟨0, 0, 0, 1⟩ = ([111, 107, 32, 48, 32, 48, 46, 49], 0) := by kernel_rfl
theorem q1 (w : World) (HLd : Ld w) : Calls Tryd.prog 13 #[.string ⟨#[109, 97, 115, 107, 32, 51, 46, 49, 32, 48, 45, 49, 44, 52]⟩] w fun e w' => e = .returned (.tuple #[.agg #[.int .i64 9, .int .i64 3, .int .i64 1, .int .i64 0, .int .i64 0, .int .i64 0, .int .u64 19], .int .i64 0]) ∧ Below w.heap.size w w' := by
  refine (parse15_c ⟨#[109, 97, 115, 107, 32, 51, 46, 49, 32, 48, 45, 49, 44, 52]⟩ (by decide) w HLd).mono ?_
  rintro e w' ⟨he, hb⟩
  exact ⟨by rw [he, show (⟨#[109, 97, 115, 107, 32, 51, 46, 49, 32, 48, 45, 49, 44, 52]⟩ : ByteArray).data.toList = [109, 97, 115, 107, 32, 51, 46, 49, 32, 48, 45, 49, 44, 52] from rfl, p1]; rfl, hb⟩
theorem q2 (w : World) (HLd : Ld w) : Calls Tryd.prog 13 #[.string ⟨#[112, 105, 99, 107, 32, 32, 49]⟩] w fun e w' => e = .returned (.tuple #[.agg #[.int .i64 0, .int .i64 0, .int .i64 0, .int .i64 0, .int .i64 0, .int .i64 0, .int .u64 0], .int .i64 3]) ∧ Below w.heap.size w w' := by
  refine (parse15_c ⟨#[112, 105, 99, 107, 32, 32, 49]⟩ (by decide) w HLd).mono ?_
  rintro e w' ⟨he, hb⟩
  exact ⟨by rw [he, show (⟨#[112, 105, 99, 107, 32, 32, 49]⟩ : ByteArray).data.toList = [112, 105, 99, 107, 32, 32, 49] from rfl, p2]; rfl, hb⟩
theorem q3 (w : World) (HLd : Ld w) : Calls Tryd.prog 10 #[.agg #[.int .i64 1, .int .i64 0, .int .i64 0, .int .i64 0, .int .i64 0, .int .i64 (-5), .int .u64 6]] w fun e w' => e = .returned (.tuple #[.string ⟨#[99, 114, 101, 97, 116, 101, 32, 45, 53, 32, 49, 45, 50]⟩, .int .i64 0]) ∧ Below w.heap.size w w' :=
  calls_Print.calls 1 0 0 0 0 (-5) 6 _ _ w HLd (by unfold calls_Print.f; rw [if_pos (by decide), p3])
theorem q4 (w : World) (HLd : Ld w) : Calls Tryd.prog 17 #[.string ⟨#[101, 114, 114, 111, 114, 32, 55]⟩] w fun e w' => e = .returned (.tuple #[.agg #[.int .i64 7, .int .i64 0, .int .i64 0, .int .i64 0], .int .i64 0]) ∧ Below w.heap.size w w' := by
  refine (hear_c ⟨#[101, 114, 114, 111, 114, 32, 55]⟩ (by decide) w HLd).mono ?_
  rintro e w' ⟨he, hb⟩
  exact ⟨by rw [he, show (⟨#[101, 114, 114, 111, 114, 32, 55]⟩ : ByteArray).data.toList = [101, 114, 114, 111, 114, 32, 55] from rfl, p4]; rfl, hb⟩
theorem q5 (w : World) (HLd : Ld w) : Calls Tryd.prog 10 #[.agg #[.int .i64 7, .int .i64 0, .int .i64 0, .int .i64 0, .int .i64 1, .int .i64 0, .int .u64 0]] w fun e w' => e = .returned (.tuple #[.string ⟨#[]⟩, .int .i64 1]) ∧ Below w.heap.size w w' :=
  calls_Print.calls 7 0 0 0 1 0 0 _ _ w HLd (by unfold calls_Print.f; rw [if_pos (by decide), p5])
theorem q6 (w : World) (HLd : Ld w) : Calls Tryd.prog 15 #[.agg #[.int .i64 0, .int .i64 0, .int .i64 0, .int .i64 1]] w fun e w' => e = .returned (.tuple #[.string ⟨#[111, 107, 32, 48, 32, 48, 46, 49]⟩, .int .i64 0]) ∧ Below w.heap.size w w' :=
  calls_Say.calls 0 0 0 1 _ _ w HLd (by unfold calls_Say.f; rw [if_pos (by decide), p6])
theorem eqB36 (d : Nat) (w : World) (x0 y0 : Int) (x1 y1 : Int) (x2 y2 : Int) (x3 y3 : Int) :
    (Op.equalIn (d + 3) 36 (.agg #[.int .i64 x0, .int .i64 x1, .int .i64 x2, .int .i64 x3]) (.agg #[.int .i64 y0, .int .i64 y1, .int .i64 y2, .int .i64 y3])).run Tryd.prog w = .ok (x0 == y0 && (x1 == y1 && (x2 == y2 && (x3 == y3)))) w := by
  refine eqA_of Tryd.underlying36 (by kernel_rfl) ?_
  refine eqf_cons (by rfl) (by go_simp; rfl) (by go_simp; rfl) (by go_simp) ?_
  refine eqf_cons (by rfl) (by go_simp; rfl) (by go_simp; rfl) (by go_simp) ?_
  exact eqf_last (by rfl) (by go_simp) (by go_simp) (eqA23 (d + 0) w _ _ _ _)
attribute [local go_sem high] eqA26 eqB36
set_option maxHeartbeats 8000000 in
set_option maxRecDepth 100000 in
theorem awake_c (w : World) (HLd : Ld w) : Calls Tryd.prog 12 #[] w fun e w' => e = .returned (.bool true) ∧ Below w.heap.size w w' := by
  have hu36 := Tryd.underlying36
  have hu23 := Tryd.underlying23
  have hu26 := Tryd.underlying26
  go_enter Tryd.func12, Tryd.ntmps12
  go_wp2_with fail
  refine (q1 _ HLd).mono ?_
  rintro e v1 ⟨rfl, hb⟩
  have HB1 := Aside0.mk (hb)
  clear hb
  go_upto_region 2 with fail
  have K12 := Aside0.mk (blk_new v1 (.cells #[.int .i64 9, .int .i64 3, .int .i64 1, .int .i64 0, .int .i64 0, .int .i64 0, .int .u64 19] 26))
  have HB2 : Aside0 (Below w.heap.size w (v1.alloc (.cells #[.int .i64 9, .int .i64 3, .int .i64 1, .int .i64 0, .int .i64 0, .int .i64 0, .int .u64 19] 26))) := ⟨below_alloc HB1.out _⟩
  generalize v1.alloc (.cells #[.int .i64 9, .int .i64 3, .int .i64 1, .int .i64 0, .int .i64 0, .int .i64 0, .int .u64 19] 26) = v2 at K12 HB2 ⊢
  generalize v1.heap.size = g1 at K12 ⊢
  go_wp2_with fail
  refine (q6 _ (HLd.below HB2.out)).mono ?_
  rintro e v3 ⟨rfl, hb⟩
  have HB3 := Aside0.mk (below_step HB2.out hb)
  have K13 := Aside0.mk (blk_below K12.out hb)
  clear hb
  go_upto_region 3 with fail
  go_wp2_with fail
  refine (q2 _ (HLd.below HB3.out)).mono ?_
  rintro e v4 ⟨rfl, hb⟩
  have HB4 := Aside0.mk (below_step HB3.out hb)
  have K14 := Aside0.mk (blk_below K13.out hb)
  clear hb
  go_upto_region 4 with fail
  have K55 := Aside0.mk (blk_new v4 (.cells #[.int .i64 0, .int .i64 0, .int .i64 0, .int .i64 0, .int .i64 0, .int .i64 0, .int .u64 0] 26))
  have HB5 : Aside0 (Below w.heap.size w (v4.alloc (.cells #[.int .i64 0, .int .i64 0, .int .i64 0, .int .i64 0, .int .i64 0, .int .i64 0, .int .u64 0] 26))) := ⟨below_alloc HB4.out _⟩
  have K15 : Aside0 ((v4.alloc (.cells #[.int .i64 0, .int .i64 0, .int .i64 0, .int .i64 0, .int .i64 0, .int .i64 0, .int .u64 0] 26)).heap[_]? = _) := ⟨blk_alloc K14.out _⟩
  generalize v4.alloc (.cells #[.int .i64 0, .int .i64 0, .int .i64 0, .int .i64 0, .int .i64 0, .int .i64 0, .int .u64 0] 26) = v5 at K15 K55 HB5 ⊢
  generalize v4.heap.size = g5 at K55 ⊢
  go_wp2_with fail
  refine (q3 _ (HLd.below HB5.out)).mono ?_
  rintro e v6 ⟨rfl, hb⟩
  have HB6 := Aside0.mk (below_step HB5.out hb)
  have K16 := Aside0.mk (blk_below K15.out hb)
  have K56 := Aside0.mk (blk_below K55.out hb)
  clear hb
  go_upto_region 5 with fail
  go_wp2_with fail
  refine (q4 _ (HLd.below HB6.out)).mono ?_
  rintro e v7 ⟨rfl, hb⟩
  have HB7 := Aside0.mk (below_step HB6.out hb)
  have K17 := Aside0.mk (blk_below K16.out hb)
  have K57 := Aside0.mk (blk_below K56.out hb)
  clear hb
  go_upto_region 6 with fail
  have K98 := Aside0.mk (blk_new v7 (.cells #[.int .i64 7, .int .i64 0, .int .i64 0, .int .i64 0] 36))
  have HB8 : Aside0 (Below w.heap.size w (v7.alloc (.cells #[.int .i64 7, .int .i64 0, .int .i64 0, .int .i64 0] 36))) := ⟨below_alloc HB7.out _⟩
  have K18 : Aside0 ((v7.alloc (.cells #[.int .i64 7, .int .i64 0, .int .i64 0, .int .i64 0] 36)).heap[_]? = _) := ⟨blk_alloc K17.out _⟩
  have K58 : Aside0 ((v7.alloc (.cells #[.int .i64 7, .int .i64 0, .int .i64 0, .int .i64 0] 36)).heap[_]? = _) := ⟨blk_alloc K57.out _⟩
  generalize v7.alloc (.cells #[.int .i64 7, .int .i64 0, .int .i64 0, .int .i64 0] 36) = v8 at K18 K58 K98 HB8 ⊢
  generalize v7.heap.size = g9 at K98 ⊢
  go_wp2_with fail
  refine (q5 _ (HLd.below HB8.out)).mono ?_
  rintro e v9 ⟨rfl, hb⟩
  have HB9 := Aside0.mk (below_step HB8.out hb)
  have K19 := Aside0.mk (blk_below K18.out hb)
  have K59 := Aside0.mk (blk_below K58.out hb)
  have K99 := Aside0.mk (blk_below K98.out hb)
  clear hb
  have x0 : v9.cell? ⟨g1, 0, none⟩ = some (.int .i64 9) := (blk_cell K19.out 0).trans rfl
  have x1 : v9.cell? ⟨g1, 1, none⟩ = some (.int .i64 3) := (blk_cell K19.out 1).trans rfl
  have x2 : v9.cell? ⟨g1, 2, none⟩ = some (.int .i64 1) := (blk_cell K19.out 2).trans rfl
  have x3 : v9.cell? ⟨g1, 3, none⟩ = some (.int .i64 0) := (blk_cell K19.out 3).trans rfl
  have x4 : v9.cell? ⟨g1, 4, none⟩ = some (.int .i64 0) := (blk_cell K19.out 4).trans rfl
  have x5 : v9.cell? ⟨g1, 5, none⟩ = some (.int .i64 0) := (blk_cell K19.out 5).trans rfl
  have x6 : v9.cell? ⟨g1, 6, none⟩ = some (.int .u64 19) := (blk_cell K19.out 6).trans rfl
  have y0 : v9.cell? ⟨g9, 0, none⟩ = some (.int .i64 7) := (blk_cell K99.out 0).trans rfl
  have y1 : v9.cell? ⟨g9, 1, none⟩ = some (.int .i64 0) := (blk_cell K99.out 1).trans rfl
  have y2 : v9.cell? ⟨g9, 2, none⟩ = some (.int .i64 0) := (blk_cell K99.out 2).trans rfl
  have y3 : v9.cell? ⟨g9, 3, none⟩ = some (.int .i64 0) := (blk_cell K99.out 3).trans rfl
  go_wp2_with fail
  go_ret
  exact ⟨rfl, HB9.out⟩
def turnspitlaw15_awake.f : Option Bool := some true
theorem turnspitlaw15_awake.calls (r : Bool) (w : World) (HLd : Ld w) (h : turnspitlaw15_awake.f = some r) :
    Calls Tryd.prog 12 #[] w fun e w' => e = .returned (.bool r) ∧ Below w.heap.size w w' := by
  obtain rfl := Option.some.inj h
  exact awake_c w HLd
end Go.Proofs.YtilmbpdfdickoaaDoor.Given
namespace Go.Proofs.YtilmbpdfdickoaaDoor.Print
open Go.RowKit Go.Proofs.YtilmbpdfdickoaaDoor Go.Proofs.YtilmbpdfdickoaaDoor.Given Go.Proofs.YtilmbpdfdickoaaDoorW.PrintWords Go.Proofs.YtilmbpdfdickoaaDoorW.PrintLast Go.Proofs.YtilmbpdfdickoaaDoorW.PrintMore
attribute [local go_sem] max2_int min2_int max_two min_two max_three min_three max_four min_four   -- for this text's walks alone
set_option linter.unusedVariables false
set_option linter.unusedSimpArgs false

/-! ### turnspitlaw15_Made: function 19 -/
mutual
def turnspitlaw15_Made.j1 : Nat → Int → Int → Int → Int → Int → Int → Int → Int → Option (Int × Int × Int × Int × Int × Int × Int)
  | 0, _, _, _, _, _, _, _, _ => none
  | k + 1, x1, x348000, x348001, x348002, x348003, x348004, x348005, x348006 => if x348000 = 8 then (some (x348000, x348001, x348002, wrap64 (Int.tmod (IntKind.u64.wrap (Int.tdiv x1 1000)) 70), x348004, x348005, x348006)) else (if x348000 = 9 then (some (x348000, x348001, x348002, x348003, x348004, x348005, x1)) else (if x348000 = 10 then (some (x348000, x348001, x348002, x348003, x348004, wrap64 ((wrap64 (Int.tmod (IntKind.u64.wrap (Int.tdiv x1 1000)) 41)) - 20), x348006)) else (some (x348000, x348001, x348002, x348003, x348004, x348005, x348006))))
def turnspitlaw15_Made.j0 : Nat → Int → Int → Int → Int → Bool → Int → Int → Int → Int → Int → Int → Int → Option (Int × Int × Int × Int × Int × Int × Int)
  | 0, _, _, _, _, _, _, _, _, _, _, _, _ => none
  | k + 1, x1, x6, x7, x21, x33, x348000, x348001, x348002, x348003, x348004, x348005, x348006 => if x33 = true then (turnspitlaw15_Made.j1 k x1 x348000 x348001 x348002 x6 x348004 x348005 x348006) else (if x21 = 6 then (turnspitlaw15_Made.j1 k x1 x348000 x348001 x348002 x7 x6 x348005 x348006) else (if x21 = 11 then (turnspitlaw15_Made.j1 k x1 x348000 x348001 x348002 x7 x6 x348005 x348006) else (turnspitlaw15_Made.j1 k x1 x348000 x7 x6 x348003 x348004 x348005 x348006)))
end
def turnspitlaw15_Made.f (k : Nat) (a0 : Int) (a1 : Int) : Option (Int × Int × Int × Int × Int × Int × Int) := if (wrap64 (1 + (wrap64 (Int.tmod a0 13)))) = 1 then (turnspitlaw15_Made.j1 k a1 (wrap64 (1 + (wrap64 (Int.tmod a0 13)))) 0 0 0 0 (wrap64 ((wrap64 (Int.tmod a1 1000)) - 500)) a0) else (if (wrap64 (1 + (wrap64 (Int.tmod a0 13)))) = 4 then (turnspitlaw15_Made.j0 k a1 (wrap64 (Int.tmod (IntKind.u64.wrap (Int.tdiv a0 13)) 1000000)) (wrap64 (Int.tmod a1 1000)) (wrap64 (1 + (wrap64 (Int.tmod a0 13)))) ((wrap64 (1 + (wrap64 (Int.tmod a0 13)))) == 4) (wrap64 (1 + (wrap64 (Int.tmod a0 13)))) 0 0 0 0 0 0) else (if (wrap64 (1 + (wrap64 (Int.tmod a0 13)))) = 5 then (turnspitlaw15_Made.j0 k a1 (wrap64 (Int.tmod (IntKind.u64.wrap (Int.tdiv a0 13)) 1000000)) (wrap64 (Int.tmod a1 1000)) (wrap64 (1 + (wrap64 (Int.tmod a0 13)))) ((wrap64 (1 + (wrap64 (Int.tmod a0 13)))) == 5) (wrap64 (1 + (wrap64 (Int.tmod a0 13)))) 0 0 0 0 0 0) else (if (wrap64 (1 + (wrap64 (Int.tmod a0 13)))) = 7 then (turnspitlaw15_Made.j0 k a1 (wrap64 (Int.tmod (IntKind.u64.wrap (Int.tdiv a0 13)) 1000000)) (wrap64 (Int.tmod a1 1000)) (wrap64 (1 + (wrap64 (Int.tmod a0 13)))) ((wrap64 (1 + (wrap64 (Int.tmod a0 13)))) == 7) (wrap64 (1 + (wrap64 (Int.tmod a0 13)))) 0 0 0 0 0 0) else (turnspitlaw15_Made.j0 k a1 (wrap64 (Int.tmod (IntKind.u64.wrap (Int.tdiv a0 13)) 1000000)) (wrap64 (Int.tmod a1 1000)) (wrap64 (1 + (wrap64 (Int.tmod a0 13)))) ((wrap64 (1 + (wrap64 (Int.tmod a0 13)))) == 12) (wrap64 (1 + (wrap64 (Int.tmod a0 13)))) 0 0 0 0 0 0))))
theorem turnspitlaw15_Made.mono_l : ∀ k, (∀ y0 y1 y2 y3 y4 y5 y6 y7, LeO (turnspitlaw15_Made.j1 k y0 y1 y2 y3 y4 y5 y6 y7) (turnspitlaw15_Made.j1 (k + 1) y0 y1 y2 y3 y4 y5 y6 y7)) ∧ (∀ y0 y1 y2 y3 y4 y5 y6 y7 y8 y9 y10 y11, LeO (turnspitlaw15_Made.j0 k y0 y1 y2 y3 y4 y5 y6 y7 y8 y9 y10 y11) (turnspitlaw15_Made.j0 (k + 1) y0 y1 y2 y3 y4 y5 y6 y7 y8 y9 y10 y11))
  | 0 => ⟨fun _ _ _ _ _ _ _ _ r h => by simp [turnspitlaw15_Made.j1] at h, fun _ _ _ _ _ _ _ _ _ _ _ _ r h => by simp [turnspitlaw15_Made.j0] at h⟩
  | k + 1 => by
    obtain ⟨ih0, ih1⟩ := turnspitlaw15_Made.mono_l k
    refine ⟨?_, ?_⟩
    · intro y0 y1 y2 y3 y4 y5 y6 y7
      unfold turnspitlaw15_Made.j1
      repeat' first
      | (with_reducible exact ih0 _ _ _ _ _ _ _ _)
      | (with_reducible exact ih1 _ _ _ _ _ _ _ _ _ _ _ _)
      | (with_reducible exact LeO.refl _)
      | (with_reducible exact LeO.none _)
      | (with_reducible refine LeO.ite ?_ ?_)
      | (with_reducible refine LeO.bind ?_ (fun _ => ?_))
      | exact ih0 _ _ _ _ _ _ _ _
      | exact ih1 _ _ _ _ _ _ _ _ _ _ _ _
      | exact LeO.none _
      | refine LeO.ite ?_ ?_
      | refine LeO.bind ?_ (fun _ => ?_)
    · intro y0 y1 y2 y3 y4 y5 y6 y7 y8 y9 y10 y11
      unfold turnspitlaw15_Made.j0
      repeat' first
      | (with_reducible exact ih0 _ _ _ _ _ _ _ _)
      | (with_reducible exact ih1 _ _ _ _ _ _ _ _ _ _ _ _)
      | (with_reducible exact LeO.refl _)
      | (with_reducible exact LeO.none _)
      | (with_reducible refine LeO.ite ?_ ?_)
      | (with_reducible refine LeO.bind ?_ (fun _ => ?_))
      | exact ih0 _ _ _ _ _ _ _ _
      | exact ih1 _ _ _ _ _ _ _ _ _ _ _ _
      | exact LeO.none _
      | refine LeO.ite ?_ ?_
      | refine LeO.bind ?_ (fun _ => ?_)
theorem turnspitlaw15_Made.mono : ∀ a0 a1 k, LeO (turnspitlaw15_Made.f k a0 a1) (turnspitlaw15_Made.f (k + 1) a0 a1) := by
  intro a0 a1 k
  obtain ⟨ih0, ih1⟩ := turnspitlaw15_Made.mono_l k
  unfold turnspitlaw15_Made.f
  repeat' first
      | (with_reducible exact ih0 _ _ _ _ _ _ _ _)
      | (with_reducible exact ih1 _ _ _ _ _ _ _ _ _ _ _ _)
      | (with_reducible exact LeO.refl _)
      | (with_reducible exact LeO.none _)
      | (with_reducible refine LeO.ite ?_ ?_)
      | (with_reducible refine LeO.bind ?_ (fun _ => ?_))
      | exact ih0 _ _ _ _ _ _ _ _
      | exact ih1 _ _ _ _ _ _ _ _ _ _ _ _
      | exact LeO.none _
      | refine LeO.ite ?_ ?_
      | refine LeO.bind ?_ (fun _ => ?_)
set_option maxHeartbeats 8000000 in
set_option maxRecDepth 100000 in
theorem turnspitlaw15_Made.calls (k : Nat) (a0 : Int) (a1 : Int) (r1 : Int) (r2 : Int) (r3 : Int) (r4 : Int) (r5 : Int) (r6 : Int) (r7 : Int) (w : World) (HLd : Ld w) (h : turnspitlaw15_Made.f k a0 a1 = some (r1, r2, r3, r4, r5, r6, r7)) :
    Calls Tryd.prog 19 #[.int .u64 a0, .int .u64 a1] w fun e w' => e = .returned (.agg #[.int .i64 r1, .int .i64 r2, .int .i64 r3, .int .i64 r4, .int .i64 r5, .int .i64 r6, .int .u64 r7]) ∧ Below w.heap.size w w' := by
  have hu26 := Tryd.underlying26
  have hu23 := Tryd.underlying23
  have HB := Aside0.mk (Below.refl w.heap.size w)
  have H : (if (wrap64 (1 + (wrap64 (Int.tmod a0 13)))) = 1 then (turnspitlaw15_Made.j1 k a1 (wrap64 (1 + (wrap64 (Int.tmod a0 13)))) 0 0 0 0 (wrap64 ((wrap64 (Int.tmod a1 1000)) - 500)) a0) else (if (wrap64 (1 + (wrap64 (Int.tmod a0 13)))) = 4 then (turnspitlaw15_Made.j0 k a1 (wrap64 (Int.tmod (IntKind.u64.wrap (Int.tdiv a0 13)) 1000000)) (wrap64 (Int.tmod a1 1000)) (wrap64 (1 + (wrap64 (Int.tmod a0 13)))) ((wrap64 (1 + (wrap64 (Int.tmod a0 13)))) == 4) (wrap64 (1 + (wrap64 (Int.tmod a0 13)))) 0 0 0 0 0 0) else (if (wrap64 (1 + (wrap64 (Int.tmod a0 13)))) = 5 then (turnspitlaw15_Made.j0 k a1 (wrap64 (Int.tmod (IntKind.u64.wrap (Int.tdiv a0 13)) 1000000)) (wrap64 (Int.tmod a1 1000)) (wrap64 (1 + (wrap64 (Int.tmod a0 13)))) ((wrap64 (1 + (wrap64 (Int.tmod a0 13)))) == 5) (wrap64 (1 + (wrap64 (Int.tmod a0 13)))) 0 0 0 0 0 0) else (if (wrap64 (1 + (wrap64 (Int.tmod a0 13)))) = 7 then (turnspitlaw15_Made.j0 k a1 (wrap64 (Int.tmod (IntKind.u64.wrap (Int.tdiv a0 13)) 1000000)) (wrap64 (Int.tmod a1 1000)) (wrap64 (1 + (wrap64 (Int.tmod a0 13)))) ((wrap64 (1 + (wrap64 (Int.tmod a0 13)))) == 7) (wrap64 (1 + (wrap64 (Int.tmod a0 13)))) 0 0 0 0 0 0) else (turnspitlaw15_Made.j0 k a1 (wrap64 (Int.tmod (IntKind.u64.wrap (Int.tdiv a0 13)) 1000000)) (wrap64 (Int.tmod a1 1000)) (wrap64 (1 + (wrap64 (Int.tmod a0 13)))) ((wrap64 (1 + (wrap64 (Int.tmod a0 13)))) == 12) (wrap64 (1 + (wrap64 (Int.tmod a0 13)))) 0 0 0 0 0 0))))) = some (r1, r2, r3, r4, r5, r6, r7) := h
  clear h
  have HC3 := Aside0.mk H
  clear H
  go_enter Tryd.func19, Tryd.ntmps19
  go_upto_block 0 with (first | ((with_reducible refine gate_dst (N := 4) rfl ?_); refine box_event ?hg (N := 4) ?hd (cs := #[.int .i64 0, .int .i64 0, .int .i64 0, .int .i64 0, .int .i64 0, .int .i64 0, .int .u64 0]) (t := 26) ?hr ?_; (case hd => rfl); (case hg => rfl); (case hr => first | (go_simp; done) | (go_simp; rfl)); intro gb346 hg w4 hbox hb; have n0_ := Aside0.mk (below_step (by repeat (first | (with_reducible first | exact HB.out | apply below_alloc | apply pw_below_drewN | apply below_drew1) | exact HB.out)) hb); have n1_ := Aside0.mk (hbox); have n2_ := Aside0.mk ((by rw [hg]; exact (below_size (by repeat (first | (with_reducible first | exact HB.out | apply below_alloc | apply pw_below_drewN | apply below_drew1) | exact HB.out))) : w.heap.size ≤ gb346)); have n3_ := Aside0.mk ((by rw [hg]; exact (below_size (by repeat (first | (with_reducible first | exact HB.out | apply below_alloc | apply pw_below_drewN | apply below_drew1) | exact HB.out))) : w.heap.size ≤ gb346)); clear HB; have HB := n0_; have BK346 := n1_; have GW346 := n2_; have GE346 := n3_; clear n0_ n1_ n2_ n3_; clear hb hbox hg) | ((with_reducible refine gate_dst (N := 5) rfl ?_); refine box_event ?hg (N := 5) ?hd (cs := #[.int .i64 0, .int .i64 0, .int .i64 0, .int .i64 0, .int .i64 0, .int .i64 0, .int .u64 0]) (t := 26) ?hr ?_; (case hd => rfl); (case hg => rfl); (case hr => first | (go_simp; done) | (go_simp; rfl)); intro gb347 hg w5 hbox hb; have n0_ := Aside0.mk (blk_below (g := gb346) (o := .cells #[.int .i64 0, .int .i64 0, .int .i64 0, .int .i64 0, .int .i64 0, .int .i64 0, .int .u64 0] 26 (0, 0)) (by (with_reducible repeat (first | refine blk_drewN ?_ _ | refine blk_drew ?_ | refine blk_alloc ?_ _)); exact BK346.out) hb); have n1_ := Aside0.mk (below_step (by repeat (first | (with_reducible first | exact HB.out | apply below_alloc | apply pw_below_drewN | apply below_drew1 | refine below_set ?_ GE346.out) | exact HB.out)) hb); have n2_ := Aside0.mk (hbox); have n3_ := Aside0.mk ((by rw [hg]; exact (below_size (by repeat (first | (with_reducible first | exact HB.out | apply below_alloc | apply pw_below_drewN | apply below_drew1 | refine below_set ?_ GE346.out) | exact HB.out))) : w.heap.size ≤ gb347)); have n4_ := Aside0.mk ((by rw [hg]; exact (below_size (by repeat (first | (with_reducible first | exact HB.out | apply below_alloc | apply pw_below_drewN | apply below_drew1 | refine below_set ?_ GE346.out) | exact HB.out))) : w.heap.size ≤ gb347)); have n5_ := Aside0.mk ((by rw [hg]; exact Nat.ne_of_lt (blk_lt (g := gb346) (o := .cells #[.int .i64 0, .int .i64 0, .int .i64 0, .int .i64 0, .int .i64 0, .int .i64 0, .int .u64 0] 26 (0, 0)) (by (with_reducible repeat (first | refine blk_drewN ?_ _ | refine blk_drew ?_ | refine blk_alloc ?_ _)); exact BK346.out)) : gb346 ≠ gb347)); have n6_ := Aside0.mk ((by rw [hg]; exact Nat.ne_of_gt (blk_lt (g := gb346) (o := .cells #[.int .i64 0, .int .i64 0, .int .i64 0, .int .i64 0, .int .i64 0, .int .i64 0, .int .u64 0] 26 (0, 0)) (by (with_reducible repeat (first | refine blk_drewN ?_ _ | refine blk_drew ?_ | refine blk_alloc ?_ _)); exact BK346.out)) : gb347 ≠ gb346)); clear BK346; clear HB; have BK346 := n0_; have HB := n1_; have BK347 := n2_; have GW347 := n3_; have GE347 := n4_; have NB346_347 := n5_; have NB347_346 := n6_; clear n0_ n1_ n2_ n3_ n4_ n5_ n6_; clear hb hbox hg; have hnb6 := NB347_346.out; have hnc6 := NB346_347.out; have hcz7_0 : w5.cell? ⟨gb347, 0, none⟩ = some (.int .i64 0) := (blk_cell BK347.out 0).trans rfl; have hcz7_1 : w5.cell? ⟨gb347, 1, none⟩ = some (.int .i64 0) := (blk_cell BK347.out 1).trans rfl; have hcz7_2 : w5.cell? ⟨gb347, 2, none⟩ = some (.int .i64 0) := (blk_cell BK347.out 2).trans rfl; have hcz7_3 : w5.cell? ⟨gb347, 3, none⟩ = some (.int .i64 0) := (blk_cell BK347.out 3).trans rfl; have hcz7_4 : w5.cell? ⟨gb347, 4, none⟩ = some (.int .i64 0) := (blk_cell BK347.out 4).trans rfl; have hcz7_5 : w5.cell? ⟨gb347, 5, none⟩ = some (.int .i64 0) := (blk_cell BK347.out 5).trans rfl; have hcz7_6 : w5.cell? ⟨gb347, 6, none⟩ = some (.int .u64 0) := (blk_cell BK347.out 6).trans rfl; have hfz7_0 := blk_frozen BK347.out 0; have hfz7_1 := blk_frozen BK347.out 1; have hfz7_2 := blk_frozen BK347.out 2; have hfz7_3 := blk_frozen BK347.out 3; have hfz7_4 := blk_frozen BK347.out 4; have hfz7_5 := blk_frozen BK347.out 5; have hfz7_6 := blk_frozen BK347.out 6))
  (try simp only [Act.put, List.setIfInBounds_toArray, List.set_cons_zero, List.set_cons_succ])
  go_cut [] (fun wc => ∃ (kq : Nat) (x348001_2 : Int) (x348002_2 : Int) (x348003_2 : Int) (x348004_2 : Int) (x348005_2 : Int) (x348006_2 : Int), Aside0 (turnspitlaw15_Made.j1 kq a1 (wrap64 (1 + (wrap64 (Int.tmod a0 13)))) x348001_2 x348002_2 x348003_2 x348004_2 x348005_2 x348006_2 = some (r1, r2, r3, r4, r5, r6, r7)) ∧ Aside0 (kq ≤ k) ∧ Aside0 (wc.heap[gb346]? = some (.cells #[.int .i64 0, .int .i64 0, .int .i64 0, .int .i64 0, .int .i64 0, .int .i64 0, .int .u64 0] 26 (0, 0))) ∧ Aside0 (wc.heap[gb347]? = some (.cells #[.int .i64 (wrap64 (1 + (wrap64 (Int.tmod a0 13)))), .int .i64 x348001_2, .int .i64 x348002_2, .int .i64 x348003_2, .int .i64 x348004_2, .int .i64 x348005_2, .int .u64 x348006_2] 26 (0, 0))) ∧ Aside0 (Below w.heap.size w wc))
  case first =>
    have H := HC3.out
    clear HC3
    by_cases c8 : (wrap64 (1 + (wrap64 (Int.tmod a0 13)))) = 1
    · rw [if_pos c8] at H
      have c8b0 : ((wrap64 (1 + (wrap64 (Int.tmod a0 13)))) == 1) = true := beq_iff_eq.mpr c8
      have c8b1 : ((wrap64 (1 + (wrap64 (Int.tmod a0 13)))) != 1) = false := bne_eq_false_iff_eq.mpr c8
      clear c8
      (first | rw [c8b0] | (simp only [i64_w, i32_w]; rw [c8b0]) | skip)
      have H' := Aside0.mk H
      clear H
      have hnb9 := NB347_346.out
      have hnc9 := NB346_347.out
      have hcz10_0 : w5.cell? ⟨gb347, 0, none⟩ = some (.int .i64 0) := (blk_cell BK347.out 0).trans rfl
      have hcz10_1 : w5.cell? ⟨gb347, 1, none⟩ = some (.int .i64 0) := (blk_cell BK347.out 1).trans rfl
      have hcz10_2 : w5.cell? ⟨gb347, 2, none⟩ = some (.int .i64 0) := (blk_cell BK347.out 2).trans rfl
      have hcz10_3 : w5.cell? ⟨gb347, 3, none⟩ = some (.int .i64 0) := (blk_cell BK347.out 3).trans rfl
      have hcz10_4 : w5.cell? ⟨gb347, 4, none⟩ = some (.int .i64 0) := (blk_cell BK347.out 4).trans rfl
      have hcz10_5 : w5.cell? ⟨gb347, 5, none⟩ = some (.int .i64 0) := (blk_cell BK347.out 5).trans rfl
      have hcz10_6 : w5.cell? ⟨gb347, 6, none⟩ = some (.int .u64 0) := (blk_cell BK347.out 6).trans rfl
      have hfz10_0 := blk_frozen BK347.out 0
      have hfz10_1 := blk_frozen BK347.out 1
      have hfz10_2 := blk_frozen BK347.out 2
      have hfz10_3 := blk_frozen BK347.out 3
      have hfz10_4 := blk_frozen BK347.out 4
      have hfz10_5 := blk_frozen BK347.out 5
      have hfz10_6 := blk_frozen BK347.out 6
      go_wp2
      go_meet
      case rel => exact ⟨_, (0), (0), (0), (0), (wrap64 ((wrap64 (Int.tmod a1 1000)) - 500)), (a0), H', ⟨by first | omega | exact Nat.le_refl _⟩, ⟨by (with_reducible repeat (first | refine blk_drewN ?_ _ | refine blk_drew ?_ | refine blk_alloc ?_ _)); refine blk_far ?_ NB346_347.out _; (with_reducible repeat (first | refine blk_drewN ?_ _ | refine blk_drew ?_ | refine blk_alloc ?_ _)); refine blk_far ?_ NB346_347.out _; (with_reducible repeat (first | refine blk_drewN ?_ _ | refine blk_drew ?_ | refine blk_alloc ?_ _)); refine blk_far ?_ NB346_347.out _; (with_reducible repeat (first | refine blk_drewN ?_ _ | refine blk_drew ?_ | refine blk_alloc ?_ _)); refine blk_far ?_ NB346_347.out _; (with_reducible repeat (first | refine blk_drewN ?_ _ | refine blk_drew ?_ | refine blk_alloc ?_ _)); refine blk_far ?_ NB346_347.out _; (with_reducible repeat (first | refine blk_drewN ?_ _ | refine blk_drew ?_ | refine blk_alloc ?_ _)); refine blk_far ?_ NB346_347.out _; (with_reducible repeat (first | refine blk_drewN ?_ _ | refine blk_drew ?_ | refine blk_alloc ?_ _)); refine blk_far ?_ NB346_347.out _; (with_reducible repeat (first | refine blk_drewN ?_ _ | refine blk_drew ?_ | refine blk_alloc ?_ _)); refine blk_far ?_ NB346_347.out _; (with_reducible repeat (first | refine blk_drewN ?_ _ | refine blk_drew ?_ | refine blk_alloc ?_ _)); refine blk_far ?_ NB346_347.out _; (with_reducible repeat (first | refine blk_drewN ?_ _ | refine blk_drew ?_ | refine blk_alloc ?_ _)); exact BK346.out⟩, ⟨by (with_reducible repeat (first | refine blk_drewN ?_ _ | refine blk_drew ?_ | refine blk_alloc ?_ _)); refine blk_put (cs := #[.int .i64 (wrap64 (1 + (wrap64 (Int.tmod a0 13)))), .int .i64 0, .int .i64 0, .int .i64 0, .int .i64 0, .int .i64 (wrap64 ((wrap64 (Int.tmod a1 1000)) - 500)), .int .u64 0]) ?_ 6 _ (by first | rfl | simp [*]); (with_reducible repeat (first | refine blk_drewN ?_ _ | refine blk_drew ?_ | refine blk_alloc ?_ _)); refine blk_put (cs := #[.int .i64 (wrap64 (1 + (wrap64 (Int.tmod a0 13)))), .int .i64 0, .int .i64 0, .int .i64 0, .int .i64 0, .int .i64 0, .int .u64 0]) ?_ 5 _ (by first | rfl | simp [*]); (with_reducible repeat (first | refine blk_drewN ?_ _ | refine blk_drew ?_ | refine blk_alloc ?_ _)); refine blk_put (cs := #[.int .i64 (wrap64 (1 + (wrap64 (Int.tmod a0 13)))), .int .i64 0, .int .i64 0, .int .i64 0, .int .i64 0, .int .i64 0, .int .u64 0]) ?_ 6 _ (by first | rfl | simp [*]); (with_reducible repeat (first | refine blk_drewN ?_ _ | refine blk_drew ?_ | refine blk_alloc ?_ _)); refine blk_put (cs := #[.int .i64 (wrap64 (1 + (wrap64 (Int.tmod a0 13)))), .int .i64 0, .int .i64 0, .int .i64 0, .int .i64 0, .int .i64 0, .int .u64 0]) ?_ 5 _ (by first | rfl | simp [*]); (with_reducible repeat (first | refine blk_drewN ?_ _ | refine blk_drew ?_ | refine blk_alloc ?_ _)); refine blk_put (cs := #[.int .i64 (wrap64 (1 + (wrap64 (Int.tmod a0 13)))), .int .i64 0, .int .i64 0, .int .i64 0, .int .i64 0, .int .i64 0, .int .u64 0]) ?_ 4 _ (by first | rfl | simp [*]); (with_reducible repeat (first | refine blk_drewN ?_ _ | refine blk_drew ?_ | refine blk_alloc ?_ _)); refine blk_put (cs := #[.int .i64 (wrap64 (1 + (wrap64 (Int.tmod a0 13)))), .int .i64 0, .int .i64 0, .int .i64 0, .int .i64 0, .int .i64 0, .int .u64 0]) ?_ 3 _ (by first | rfl | simp [*]); (with_reducible repeat (first | refine blk_drewN ?_ _ | refine blk_drew ?_ | refine blk_alloc ?_ _)); refine blk_put (cs := #[.int .i64 (wrap64 (1 + (wrap64 (Int.tmod a0 13)))), .int .i64 0, .int .i64 0, .int .i64 0, .int .i64 0, .int .i64 0, .int .u64 0]) ?_ 2 _ (by first | rfl | simp [*]); (with_reducible repeat (first | refine blk_drewN ?_ _ | refine blk_drew ?_ | refine blk_alloc ?_ _)); refine blk_put (cs := #[.int .i64 (wrap64 (1 + (wrap64 (Int.tmod a0 13)))), .int .i64 0, .int .i64 0, .int .i64 0, .int .i64 0, .int .i64 0, .int .u64 0]) ?_ 1 _ (by first | rfl | simp [*]); (with_reducible repeat (first | refine blk_drewN ?_ _ | refine blk_drew ?_ | refine blk_alloc ?_ _)); refine blk_put (cs := #[.int .i64 0, .int .i64 0, .int .i64 0, .int .i64 0, .int .i64 0, .int .i64 0, .int .u64 0]) ?_ 0 _ (by first | rfl | simp [*]); (with_reducible repeat (first | refine blk_drewN ?_ _ | refine blk_drew ?_ | refine blk_alloc ?_ _)); exact BK347.out⟩, ⟨by repeat (first | (with_reducible first | exact HB.out | apply below_alloc | apply pw_below_drewN | apply below_drew1 | refine below_set ?_ GE346.out | refine below_set ?_ GE347.out) | exact HB.out)⟩⟩
    · rw [if_neg c8] at H
      have c8b0 : ((wrap64 (1 + (wrap64 (Int.tmod a0 13)))) == 1) = false := beq_eq_false_iff_ne.mpr c8
      have c8b1 : ((wrap64 (1 + (wrap64 (Int.tmod a0 13)))) != 1) = true := bne_iff_ne.mpr c8
      (first | rw [c8b0] | (simp only [i64_w, i32_w]; rw [c8b0]) | skip)
      have HC11 := Aside0.mk H
      clear H
      go_upto_if 33 with (fail)
      go_cut [33] (fun v33 wc => ∃ (kq : Nat) (x33_10 : Bool), v33 = .bool x33_10 ∧ Aside0 (turnspitlaw15_Made.j0 kq a1 (wrap64 (Int.tmod (IntKind.u64.wrap (Int.tdiv a0 13)) 1000000)) (wrap64 (Int.tmod a1 1000)) (wrap64 (1 + (wrap64 (Int.tmod a0 13)))) x33_10 (wrap64 (1 + (wrap64 (Int.tmod a0 13)))) 0 0 0 0 0 0 = some (r1, r2, r3, r4, r5, r6, r7)) ∧ Aside0 (kq ≤ k) ∧ Aside0 (wc.heap[gb346]? = some (.cells #[.int .i64 0, .int .i64 0, .int .i64 0, .int .i64 0, .int .i64 0, .int .i64 0, .int .u64 0] 26 (0, 0))) ∧ Aside0 (wc.heap[gb347]? = some (.cells #[.int .i64 (wrap64 (1 + (wrap64 (Int.tmod a0 13)))), .int .i64 0, .int .i64 0, .int .i64 0, .int .i64 0, .int .i64 0, .int .u64 0] 26 (0, 0))) ∧ Aside0 (Below w.heap.size w wc))
      case first =>
        have H := HC11.out
        clear HC11
        by_cases c12 : (wrap64 (1 + (wrap64 (Int.tmod a0 13)))) = 4
        · rw [if_pos c12] at H
          have c12b0 : ((wrap64 (1 + (wrap64 (Int.tmod a0 13)))) == 4) = true := beq_iff_eq.mpr c12
          have c12b1 : ((wrap64 (1 + (wrap64 (Int.tmod a0 13)))) != 4) = false := bne_eq_false_iff_eq.mpr c12
          clear c12
          (first | rw [c12b0] | (simp only [i64_w, i32_w]; rw [c12b0]) | skip)
          have H' := Aside0.mk H
          clear H
          go_wp2
          go_meet
          case rel => exact ⟨_, (((wrap64 (1 + (wrap64 (Int.tmod a0 13)))) == 4)), (by first | rfl | (simp; done) | (simp [*]; done)), H', ⟨by first | omega | exact Nat.le_refl _⟩, ⟨by (with_reducible repeat (first | refine blk_drewN ?_ _ | refine blk_drew ?_ | refine blk_alloc ?_ _)); refine blk_far ?_ NB346_347.out _; (with_reducible repeat (first | refine blk_drewN ?_ _ | refine blk_drew ?_ | refine blk_alloc ?_ _)); refine blk_far ?_ NB346_347.out _; (with_reducible repeat (first | refine blk_drewN ?_ _ | refine blk_drew ?_ | refine blk_alloc ?_ _)); refine blk_far ?_ NB346_347.out _; (with_reducible repeat (first | refine blk_drewN ?_ _ | refine blk_drew ?_ | refine blk_alloc ?_ _)); refine blk_far ?_ NB346_347.out _; (with_reducible repeat (first | refine blk_drewN ?_ _ | refine blk_drew ?_ | refine blk_alloc ?_ _)); refine blk_far ?_ NB346_347.out _; (with_reducible repeat (first | refine blk_drewN ?_ _ | refine blk_drew ?_ | refine blk_alloc ?_ _)); refine blk_far ?_ NB346_347.out _; (with_reducible repeat (first | refine blk_drewN ?_ _ | refine blk_drew ?_ | refine blk_alloc ?_ _)); refine blk_far ?_ NB346_347.out _; (with_reducible repeat (first | refine blk_drewN ?_ _ | refine blk_drew ?_ | refine blk_alloc ?_ _)); exact BK346.out⟩, ⟨by (with_reducible repeat (first | refine blk_drewN ?_ _ | refine blk_drew ?_ | refine blk_alloc ?_ _)); refine blk_put (cs := #[.int .i64 (wrap64 (1 + (wrap64 (Int.tmod a0 13)))), .int .i64 0, .int .i64 0, .int .i64 0, .int .i64 0, .int .i64 0, .int .u64 0]) ?_ 6 _ (by first | rfl | simp [*]); (with_reducible repeat (first | refine blk_drewN ?_ _ | refine blk_drew ?_ | refine blk_alloc ?_ _)); refine blk_put (cs := #[.int .i64 (wrap64 (1 + (wrap64 (Int.tmod a0 13)))), .int .i64 0, .int .i64 0, .int .i64 0, .int .i64 0, .int .i64 0, .int .u64 0]) ?_ 5 _ (by first | rfl | simp [*]); (with_reducible repeat (first | refine blk_drewN ?_ _ | refine blk_drew ?_ | refine blk_alloc ?_ _)); refine blk_put (cs := #[.int .i64 (wrap64 (1 + (wrap64 (Int.tmod a0 13)))), .int .i64 0, .int .i64 0, .int .i64 0, .int .i64 0, .int .i64 0, .int .u64 0]) ?_ 4 _ (by first | rfl | simp [*]); (with_reducible repeat (first | refine blk_drewN ?_ _ | refine blk_drew ?_ | refine blk_alloc ?_ _)); refine blk_put (cs := #[.int .i64 (wrap64 (1 + (wrap64 (Int.tmod a0 13)))), .int .i64 0, .int .i64 0, .int .i64 0, .int .i64 0, .int .i64 0, .int .u64 0]) ?_ 3 _ (by first | rfl | simp [*]); (with_reducible repeat (first | refine blk_drewN ?_ _ | refine blk_drew ?_ | refine blk_alloc ?_ _)); refine blk_put (cs := #[.int .i64 (wrap64 (1 + (wrap64 (Int.tmod a0 13)))), .int .i64 0, .int .i64 0, .int .i64 0, .int .i64 0, .int .i64 0, .int .u64 0]) ?_ 2 _ (by first | rfl | simp [*]); (with_reducible repeat (first | refine blk_drewN ?_ _ | refine blk_drew ?_ | refine blk_alloc ?_ _)); refine blk_put (cs := #[.int .i64 (wrap64 (1 + (wrap64 (Int.tmod a0 13)))), .int .i64 0, .int .i64 0, .int .i64 0, .int .i64 0, .int .i64 0, .int .u64 0]) ?_ 1 _ (by first | rfl | simp [*]); (with_reducible repeat (first | refine blk_drewN ?_ _ | refine blk_drew ?_ | refine blk_alloc ?_ _)); refine blk_put (cs := #[.int .i64 0, .int .i64 0, .int .i64 0, .int .i64 0, .int .i64 0, .int .i64 0, .int .u64 0]) ?_ 0 _ (by first | rfl | simp [*]); (with_reducible repeat (first | refine blk_drewN ?_ _ | refine blk_drew ?_ | refine blk_alloc ?_ _)); exact BK347.out⟩, ⟨by repeat (first | (with_reducible first | exact HB.out | apply below_alloc | apply pw_below_drewN | apply below_drew1 | refine below_set ?_ GE346.out | refine below_set ?_ GE347.out) | exact HB.out)⟩⟩
        · rw [if_neg c12] at H
          have c12b0 : ((wrap64 (1 + (wrap64 (Int.tmod a0 13)))) == 4) = false := beq_eq_false_iff_ne.mpr c12
          have c12b1 : ((wrap64 (1 + (wrap64 (Int.tmod a0 13)))) != 4) = true := bne_iff_ne.mpr c12
          (first | rw [c12b0] | (simp only [i64_w, i32_w]; rw [c12b0]) | skip)
          by_cases c13 : (wrap64 (1 + (wrap64 (Int.tmod a0 13)))) = 5
          · rw [if_pos c13] at H
            have c13b0 : ((wrap64 (1 + (wrap64 (Int.tmod a0 13)))) == 5) = true := beq_iff_eq.mpr c13
            have c13b1 : ((wrap64 (1 + (wrap64 (Int.tmod a0 13)))) != 5) = false := bne_eq_false_iff_eq.mpr c13
            clear c13
            have H' := Aside0.mk H
            clear H
            go_wp2
            go_meet
            case rel => exact ⟨_, (((wrap64 (1 + (wrap64 (Int.tmod a0 13)))) == 5)), (by first | rfl | (simp; done) | (simp [*]; done)), H', ⟨by first | omega | exact Nat.le_refl _⟩, ⟨by (with_reducible repeat (first | refine blk_drewN ?_ _ | refine blk_drew ?_ | refine blk_alloc ?_ _)); refine blk_far ?_ NB346_347.out _; (with_reducible repeat (first | refine blk_drewN ?_ _ | refine blk_drew ?_ | refine blk_alloc ?_ _)); refine blk_far ?_ NB346_347.out _; (with_reducible repeat (first | refine blk_drewN ?_ _ | refine blk_drew ?_ | refine blk_alloc ?_ _)); refine blk_far ?_ NB346_347.out _; (with_reducible repeat (first | refine blk_drewN ?_ _ | refine blk_drew ?_ | refine blk_alloc ?_ _)); refine blk_far ?_ NB346_347.out _; (with_reducible repeat (first | refine blk_drewN ?_ _ | refine blk_drew ?_ | refine blk_alloc ?_ _)); refine blk_far ?_ NB346_347.out _; (with_reducible repeat (first | refine blk_drewN ?_ _ | refine blk_drew ?_ | refine blk_alloc ?_ _)); refine blk_far ?_ NB346_347.out _; (with_reducible repeat (first | refine blk_drewN ?_ _ | refine blk_drew ?_ | refine blk_alloc ?_ _)); refine blk_far ?_ NB346_347.out _; (with_reducible repeat (first | refine blk_drewN ?_ _ | refine blk_drew ?_ | refine blk_alloc ?_ _)); exact BK346.out⟩, ⟨by (with_reducible repeat (first | refine blk_drewN ?_ _ | refine blk_drew ?_ | refine blk_alloc ?_ _)); refine blk_put (cs := #[.int .i64 (wrap64 (1 + (wrap64 (Int.tmod a0 13)))), .int .i64 0, .int .i64 0, .int .i64 0, .int .i64 0, .int .i64 0, .int .u64 0]) ?_ 6 _ (by first | rfl | simp [*]); (with_reducible repeat (first | refine blk_drewN ?_ _ | refine blk_drew ?_ | refine blk_alloc ?_ _)); refine blk_put (cs := #[.int .i64 (wrap64 (1 + (wrap64 (Int.tmod a0 13)))), .int .i64 0, .int .i64 0, .int .i64 0, .int .i64 0, .int .i64 0, .int .u64 0]) ?_ 5 _ (by first | rfl | simp [*]); (with_reducible repeat (first | refine blk_drewN ?_ _ | refine blk_drew ?_ | refine blk_alloc ?_ _)); refine blk_put (cs := #[.int .i64 (wrap64 (1 + (wrap64 (Int.tmod a0 13)))), .int .i64 0, .int .i64 0, .int .i64 0, .int .i64 0, .int .i64 0, .int .u64 0]) ?_ 4 _ (by first | rfl | simp [*]); (with_reducible repeat (first | refine blk_drewN ?_ _ | refine blk_drew ?_ | refine blk_alloc ?_ _)); refine blk_put (cs := #[.int .i64 (wrap64 (1 + (wrap64 (Int.tmod a0 13)))), .int .i64 0, .int .i64 0, .int .i64 0, .int .i64 0, .int .i64 0, .int .u64 0]) ?_ 3 _ (by first | rfl | simp [*]); (with_reducible repeat (first | refine blk_drewN ?_ _ | refine blk_drew ?_ | refine blk_alloc ?_ _)); refine blk_put (cs := #[.int .i64 (wrap64 (1 + (wrap64 (Int.tmod a0 13)))), .int .i64 0, .int .i64 0, .int .i64 0, .int .i64 0, .int .i64 0, .int .u64 0]) ?_ 2 _ (by first | rfl | simp [*]); (with_reducible repeat (first | refine blk_drewN ?_ _ | refine blk_drew ?_ | refine blk_alloc ?_ _)); refine blk_put (cs := #[.int .i64 (wrap64 (1 + (wrap64 (Int.tmod a0 13)))), .int .i64 0, .int .i64 0, .int .i64 0, .int .i64 0, .int .i64 0, .int .u64 0]) ?_ 1 _ (by first | rfl | simp [*]); (with_reducible repeat (first | refine blk_drewN ?_ _ | refine blk_drew ?_ | refine blk_alloc ?_ _)); refine blk_put (cs := #[.int .i64 0, .int .i64 0, .int .i64 0, .int .i64 0, .int .i64 0, .int .i64 0, .int .u64 0]) ?_ 0 _ (by first | rfl | simp [*]); (with_reducible repeat (first | refine blk_drewN ?_ _ | refine blk_drew ?_ | refine blk_alloc ?_ _)); exact BK347.out⟩, ⟨by repeat (first | (with_reducible first | exact HB.out | apply below_alloc | apply pw_below_drewN | apply below_drew1 | refine below_set ?_ GE346.out | refine below_set ?_ GE347.out) | exact HB.out)⟩⟩
          · rw [if_neg c13] at H
            have c13b0 : ((wrap64 (1 + (wrap64 (Int.tmod a0 13)))) == 5) = false := beq_eq_false_iff_ne.mpr c13
            have c13b1 : ((wrap64 (1 + (wrap64 (Int.tmod a0 13)))) != 5) = true := bne_iff_ne.mpr c13
            by_cases c14 : (wrap64 (1 + (wrap64 (Int.tmod a0 13)))) = 7
            · rw [if_pos c14] at H
              have c14b0 : ((wrap64 (1 + (wrap64 (Int.tmod a0 13)))) == 7) = true := beq_iff_eq.mpr c14
              have c14b1 : ((wrap64 (1 + (wrap64 (Int.tmod a0 13)))) != 7) = false := bne_eq_false_iff_eq.mpr c14
              clear c14
              have H' := Aside0.mk H
              clear H
              go_wp2
              go_meet
              case rel => exact ⟨_, (((wrap64 (1 + (wrap64 (Int.tmod a0 13)))) == 7)), (by first | rfl | (simp; done) | (simp [*]; done)), H', ⟨by first | omega | exact Nat.le_refl _⟩, ⟨by (with_reducible repeat (first | refine blk_drewN ?_ _ | refine blk_drew ?_ | refine blk_alloc ?_ _)); refine blk_far ?_ NB346_347.out _; (with_reducible repeat (first | refine blk_drewN ?_ _ | refine blk_drew ?_ | refine blk_alloc ?_ _)); refine blk_far ?_ NB346_347.out _; (with_reducible repeat (first | refine blk_drewN ?_ _ | refine blk_drew ?_ | refine blk_alloc ?_ _)); refine blk_far ?_ NB346_347.out _; (with_reducible repeat (first | refine blk_drewN ?_ _ | refine blk_drew ?_ | refine blk_alloc ?_ _)); refine blk_far ?_ NB346_347.out _; (with_reducible repeat (first | refine blk_drewN ?_ _ | refine blk_drew ?_ | refine blk_alloc ?_ _)); refine blk_far ?_ NB346_347.out _; (with_reducible repeat (first | refine blk_drewN ?_ _ | refine blk_drew ?_ | refine blk_alloc ?_ _)); refine blk_far ?_ NB346_347.out _; (with_reducible repeat (first | refine blk_drewN ?_ _ | refine blk_drew ?_ | refine blk_alloc ?_ _)); refine blk_far ?_ NB346_347.out _; (with_reducible repeat (first | refine blk_drewN ?_ _ | refine blk_drew ?_ | refine blk_alloc ?_ _)); exact BK346.out⟩, ⟨by (with_reducible repeat (first | refine blk_drewN ?_ _ | refine blk_drew ?_ | refine blk_alloc ?_ _)); refine blk_put (cs := #[.int .i64 (wrap64 (1 + (wrap64 (Int.tmod a0 13)))), .int .i64 0, .int .i64 0, .int .i64 0, .int .i64 0, .int .i64 0, .int .u64 0]) ?_ 6 _ (by first | rfl | simp [*]); (with_reducible repeat (first | refine blk_drewN ?_ _ | refine blk_drew ?_ | refine blk_alloc ?_ _)); refine blk_put (cs := #[.int .i64 (wrap64 (1 + (wrap64 (Int.tmod a0 13)))), .int .i64 0, .int .i64 0, .int .i64 0, .int .i64 0, .int .i64 0, .int .u64 0]) ?_ 5 _ (by first | rfl | simp [*]); (with_reducible repeat (first | refine blk_drewN ?_ _ | refine blk_drew ?_ | refine blk_alloc ?_ _)); refine blk_put (cs := #[.int .i64 (wrap64 (1 + (wrap64 (Int.tmod a0 13)))), .int .i64 0, .int .i64 0, .int .i64 0, .int .i64 0, .int .i64 0, .int .u64 0]) ?_ 4 _ (by first | rfl | simp [*]); (with_reducible repeat (first | refine blk_drewN ?_ _ | refine blk_drew ?_ | refine blk_alloc ?_ _)); refine blk_put (cs := #[.int .i64 (wrap64 (1 + (wrap64 (Int.tmod a0 13)))), .int .i64 0, .int .i64 0, .int .i64 0, .int .i64 0, .int .i64 0, .int .u64 0]) ?_ 3 _ (by first | rfl | simp [*]); (with_reducible repeat (first | refine blk_drewN ?_ _ | refine blk_drew ?_ | refine blk_alloc ?_ _)); refine blk_put (cs := #[.int .i64 (wrap64 (1 + (wrap64 (Int.tmod a0 13)))), .int .i64 0, .int .i64 0, .int .i64 0, .int .i64 0, .int .i64 0, .int .u64 0]) ?_ 2 _ (by first | rfl | simp [*]); (with_reducible repeat (first | refine blk_drewN ?_ _ | refine blk_drew ?_ | refine blk_alloc ?_ _)); refine blk_put (cs := #[.int .i64 (wrap64 (1 + (wrap64 (Int.tmod a0 13)))), .int .i64 0, .int .i64 0, .int .i64 0, .int .i64 0, .int .i64 0, .int .u64 0]) ?_ 1 _ (by first | rfl | simp [*]); (with_reducible repeat (first | refine blk_drewN ?_ _ | refine blk_drew ?_ | refine blk_alloc ?_ _)); refine blk_put (cs := #[.int .i64 0, .int .i64 0, .int .i64 0, .int .i64 0, .int .i64 0, .int .i64 0, .int .u64 0]) ?_ 0 _ (by first | rfl | simp [*]); (with_reducible repeat (first | refine blk_drewN ?_ _ | refine blk_drew ?_ | refine blk_alloc ?_ _)); exact BK347.out⟩, ⟨by repeat (first | (with_reducible first | exact HB.out | apply below_alloc | apply pw_below_drewN | apply below_drew1 | refine below_set ?_ GE346.out | refine below_set ?_ GE347.out) | exact HB.out)⟩⟩
            · rw [if_neg c14] at H
              have c14b0 : ((wrap64 (1 + (wrap64 (Int.tmod a0 13)))) == 7) = false := beq_eq_false_iff_ne.mpr c14
              have c14b1 : ((wrap64 (1 + (wrap64 (Int.tmod a0 13)))) != 7) = true := bne_iff_ne.mpr c14
              have H' := Aside0.mk H
              clear H
              go_wp2
              go_meet
              case rel => exact ⟨_, (((wrap64 (1 + (wrap64 (Int.tmod a0 13)))) == 12)), (by first | rfl | (simp; done) | (simp [*]; done)), H', ⟨by first | omega | exact Nat.le_refl _⟩, ⟨by (with_reducible repeat (first | refine blk_drewN ?_ _ | refine blk_drew ?_ | refine blk_alloc ?_ _)); refine blk_far ?_ NB346_347.out _; (with_reducible repeat (first | refine blk_drewN ?_ _ | refine blk_drew ?_ | refine blk_alloc ?_ _)); refine blk_far ?_ NB346_347.out _; (with_reducible repeat (first | refine blk_drewN ?_ _ | refine blk_drew ?_ | refine blk_alloc ?_ _)); refine blk_far ?_ NB346_347.out _; (with_reducible repeat (first | refine blk_drewN ?_ _ | refine blk_drew ?_ | refine blk_alloc ?_ _)); refine blk_far ?_ NB346_347.out _; (with_reducible repeat (first | refine blk_drewN ?_ _ | refine blk_drew ?_ | refine blk_alloc ?_ _)); refine blk_far ?_ NB346_347.out _; (with_reducible repeat (first | refine blk_drewN ?_ _ | refine blk_drew ?_ | refine blk_alloc ?_ _)); refine blk_far ?_ NB346_347.out _; (with_reducible repeat (first | refine blk_drewN ?_ _ | refine blk_drew ?_ | refine blk_alloc ?_ _)); refine blk_far ?_ NB346_347.out _; (with_reducible repeat (first | refine blk_drewN ?_ _ | refine blk_drew ?_ | refine blk_alloc ?_ _)); exact BK346.out⟩, ⟨by (with_reducible repeat (first | refine blk_drewN ?_ _ | refine blk_drew ?_ | refine blk_alloc ?_ _)); refine blk_put (cs := #[.int .i64 (wrap64 (1 + (wrap64 (Int.tmod a0 13)))), .int .i64 0, .int .i64 0, .int .i64 0, .int .i64 0, .int .i64 0, .int .u64 0]) ?_ 6 _ (by first | rfl | simp [*]); (with_reducible repeat (first | refine blk_drewN ?_ _ | refine blk_drew ?_ | refine blk_alloc ?_ _)); refine blk_put (cs := #[.int .i64 (wrap64 (1 + (wrap64 (Int.tmod a0 13)))), .int .i64 0, .int .i64 0, .int .i64 0, .int .i64 0, .int .i64 0, .int .u64 0]) ?_ 5 _ (by first | rfl | simp [*]); (with_reducible repeat (first | refine blk_drewN ?_ _ | refine blk_drew ?_ | refine blk_alloc ?_ _)); refine blk_put (cs := #[.int .i64 (wrap64 (1 + (wrap64 (Int.tmod a0 13)))), .int .i64 0, .int .i64 0, .int .i64 0, .int .i64 0, .int .i64 0, .int .u64 0]) ?_ 4 _ (by first | rfl | simp [*]); (with_reducible repeat (first | refine blk_drewN ?_ _ | refine blk_drew ?_ | refine blk_alloc ?_ _)); refine blk_put (cs := #[.int .i64 (wrap64 (1 + (wrap64 (Int.tmod a0 13)))), .int .i64 0, .int .i64 0, .int .i64 0, .int .i64 0, .int .i64 0, .int .u64 0]) ?_ 3 _ (by first | rfl | simp [*]); (with_reducible repeat (first | refine blk_drewN ?_ _ | refine blk_drew ?_ | refine blk_alloc ?_ _)); refine blk_put (cs := #[.int .i64 (wrap64 (1 + (wrap64 (Int.tmod a0 13)))), .int .i64 0, .int .i64 0, .int .i64 0, .int .i64 0, .int .i64 0, .int .u64 0]) ?_ 2 _ (by first | rfl | simp [*]); (with_reducible repeat (first | refine blk_drewN ?_ _ | refine blk_drew ?_ | refine blk_alloc ?_ _)); refine blk_put (cs := #[.int .i64 (wrap64 (1 + (wrap64 (Int.tmod a0 13)))), .int .i64 0, .int .i64 0, .int .i64 0, .int .i64 0, .int .i64 0, .int .u64 0]) ?_ 1 _ (by first | rfl | simp [*]); (with_reducible repeat (first | refine blk_drewN ?_ _ | refine blk_drew ?_ | refine blk_alloc ?_ _)); refine blk_put (cs := #[.int .i64 0, .int .i64 0, .int .i64 0, .int .i64 0, .int .i64 0, .int .i64 0, .int .u64 0]) ?_ 0 _ (by first | rfl | simp [*]); (with_reducible repeat (first | refine blk_drewN ?_ _ | refine blk_drew ?_ | refine blk_alloc ?_ _)); exact BK347.out⟩, ⟨by repeat (first | (with_reducible first | exact HB.out | apply below_alloc | apply pw_below_drewN | apply below_drew1 | refine below_set ?_ GE346.out | refine below_set ?_ GE347.out) | exact HB.out)⟩⟩
      case rest =>
        clear HC11
        try clear c1
        try clear p2
        try clear c6
        try clear p6
        try clear c8
        try clear c8b0
        try clear c8b1
        try clear c9
        try clear c12
        try clear c12b0
        try clear c12b1
        try clear c13
        try clear c13b0
        try clear c13b1
        try clear c14
        try clear c14b0
        try clear c14b1
        try clear hcz10_0
        try clear hcz10_1
        try clear hcz10_2
        try clear hcz10_3
        try clear hcz10_4
        try clear hcz10_5
        try clear hcz10_6
        try clear hcz7_0
        try clear hcz7_1
        try clear hcz7_2
        try clear hcz7_3
        try clear hcz7_4
        try clear hcz7_5
        try clear hcz7_6
        try clear hfz10_0
        try clear hfz10_1
        try clear hfz10_2
        try clear hfz10_3
        try clear hfz10_4
        try clear hfz10_5
        try clear hfz10_6
        try clear hfz7_0
        try clear hfz7_1
        try clear hfz7_2
        try clear hfz7_3
        try clear hfz7_4
        try clear hfz7_5
        try clear hfz7_6
        obtain ⟨kq, x33_10, rfl, HA, HJ10, BK346, BK347, HB⟩ := hcut
        cases kq with
        | zero => exact absurd HA.out (by simp [turnspitlaw15_Made.j0])
        | succ kj10 =>
          have H := HA.out
          clear HA
          simp only [turnspitlaw15_Made.j0] at H
          by_cases c15 : x33_10 = true
          · subst c15
            have H1 : (turnspitlaw15_Made.j1 kj10 a1 (wrap64 (1 + (wrap64 (Int.tmod a0 13)))) 0 0 (wrap64 (Int.tmod (IntKind.u64.wrap (Int.tdiv a0 13)) 1000000)) 0 0 0) = some (r1, r2, r3, r4, r5, r6, r7) := by rw [if_pos rfl] at H; exact H
            clear H
            have H := H1
            clear H1
            have H' := Aside0.mk H
            clear H
            have hnb16 := NB347_346.out
            have hnc16 := NB346_347.out
            have hcz17_0 : wc.cell? ⟨gb347, 0, none⟩ = some (.int .i64 (wrap64 (1 + (wrap64 (Int.tmod a0 13))))) := (blk_cell BK347.out 0).trans rfl
            have hcz17_1 : wc.cell? ⟨gb347, 1, none⟩ = some (.int .i64 0) := (blk_cell BK347.out 1).trans rfl
            have hcz17_2 : wc.cell? ⟨gb347, 2, none⟩ = some (.int .i64 0) := (blk_cell BK347.out 2).trans rfl
            have hcz17_3 : wc.cell? ⟨gb347, 3, none⟩ = some (.int .i64 0) := (blk_cell BK347.out 3).trans rfl
            have hcz17_4 : wc.cell? ⟨gb347, 4, none⟩ = some (.int .i64 0) := (blk_cell BK347.out 4).trans rfl
            have hcz17_5 : wc.cell? ⟨gb347, 5, none⟩ = some (.int .i64 0) := (blk_cell BK347.out 5).trans rfl
            have hcz17_6 : wc.cell? ⟨gb347, 6, none⟩ = some (.int .u64 0) := (blk_cell BK347.out 6).trans rfl
            have hfz17_0 := blk_frozen BK347.out 0
            have hfz17_1 := blk_frozen BK347.out 1
            have hfz17_2 := blk_frozen BK347.out 2
            have hfz17_3 := blk_frozen BK347.out 3
            have hfz17_4 := blk_frozen BK347.out 4
            have hfz17_5 := blk_frozen BK347.out 5
            have hfz17_6 := blk_frozen BK347.out 6
            go_wp2
            go_meet
            case rel => exact ⟨_, (0), (0), ((wrap64 (Int.tmod (IntKind.u64.wrap (Int.tdiv a0 13)) 1000000))), (0), (0), (0), H', ⟨by have := HJ10.out; first | omega | exact Nat.le_refl _⟩, ⟨by (with_reducible repeat (first | refine blk_drewN ?_ _ | refine blk_drew ?_ | refine blk_alloc ?_ _)); refine blk_far ?_ NB346_347.out _; (with_reducible repeat (first | refine blk_drewN ?_ _ | refine blk_drew ?_ | refine blk_alloc ?_ _)); exact BK346.out⟩, ⟨by (with_reducible repeat (first | refine blk_drewN ?_ _ | refine blk_drew ?_ | refine blk_alloc ?_ _)); refine blk_put (cs := #[.int .i64 (wrap64 (1 + (wrap64 (Int.tmod a0 13)))), .int .i64 0, .int .i64 0, .int .i64 0, .int .i64 0, .int .i64 0, .int .u64 0]) ?_ 3 _ (by first | rfl | simp [*]); (with_reducible repeat (first | refine blk_drewN ?_ _ | refine blk_drew ?_ | refine blk_alloc ?_ _)); exact BK347.out⟩, ⟨by repeat (first | (with_reducible first | exact HB.out | apply below_alloc | apply pw_below_drewN | apply below_drew1 | refine below_set ?_ GE346.out | refine below_set ?_ GE347.out) | exact HB.out)⟩⟩
          · replace c15 := Bool.eq_false_iff.mpr c15
            subst c15
            have H1 : (if (wrap64 (1 + (wrap64 (Int.tmod a0 13)))) = 6 then (turnspitlaw15_Made.j1 kj10 a1 (wrap64 (1 + (wrap64 (Int.tmod a0 13)))) 0 0 (wrap64 (Int.tmod a1 1000)) (wrap64 (Int.tmod (IntKind.u64.wrap (Int.tdiv a0 13)) 1000000)) 0 0) else (if (wrap64 (1 + (wrap64 (Int.tmod a0 13)))) = 11 then (turnspitlaw15_Made.j1 kj10 a1 (wrap64 (1 + (wrap64 (Int.tmod a0 13)))) 0 0 (wrap64 (Int.tmod a1 1000)) (wrap64 (Int.tmod (IntKind.u64.wrap (Int.tdiv a0 13)) 1000000)) 0 0) else (turnspitlaw15_Made.j1 kj10 a1 (wrap64 (1 + (wrap64 (Int.tmod a0 13)))) (wrap64 (Int.tmod a1 1000)) (wrap64 (Int.tmod (IntKind.u64.wrap (Int.tdiv a0 13)) 1000000)) 0 0 0 0))) = some (r1, r2, r3, r4, r5, r6, r7) := by rw [if_neg (show ¬ (false = true) by decide)] at H; exact H
            clear H
            have H := H1
            clear H1
            by_cases c18 : (wrap64 (1 + (wrap64 (Int.tmod a0 13)))) = 6
            · rw [if_pos c18] at H
              have c18b0 : ((wrap64 (1 + (wrap64 (Int.tmod a0 13)))) == 6) = true := beq_iff_eq.mpr c18
              have c18b1 : ((wrap64 (1 + (wrap64 (Int.tmod a0 13)))) != 6) = false := bne_eq_false_iff_eq.mpr c18
              clear c18
              have H' := Aside0.mk H
              clear H
              have hnb19 := NB347_346.out
              have hnc19 := NB346_347.out
              have hcz20_0 : wc.cell? ⟨gb347, 0, none⟩ = some (.int .i64 (wrap64 (1 + (wrap64 (Int.tmod a0 13))))) := (blk_cell BK347.out 0).trans rfl
              have hcz20_1 : wc.cell? ⟨gb347, 1, none⟩ = some (.int .i64 0) := (blk_cell BK347.out 1).trans rfl
              have hcz20_2 : wc.cell? ⟨gb347, 2, none⟩ = some (.int .i64 0) := (blk_cell BK347.out 2).trans rfl
              have hcz20_3 : wc.cell? ⟨gb347, 3, none⟩ = some (.int .i64 0) := (blk_cell BK347.out 3).trans rfl
              have hcz20_4 : wc.cell? ⟨gb347, 4, none⟩ = some (.int .i64 0) := (blk_cell BK347.out 4).trans rfl
              have hcz20_5 : wc.cell? ⟨gb347, 5, none⟩ = some (.int .i64 0) := (blk_cell BK347.out 5).trans rfl
              have hcz20_6 : wc.cell? ⟨gb347, 6, none⟩ = some (.int .u64 0) := (blk_cell BK347.out 6).trans rfl
              have hfz20_0 := blk_frozen BK347.out 0
              have hfz20_1 := blk_frozen BK347.out 1
              have hfz20_2 := blk_frozen BK347.out 2
              have hfz20_3 := blk_frozen BK347.out 3
              have hfz20_4 := blk_frozen BK347.out 4
              have hfz20_5 := blk_frozen BK347.out 5
              have hfz20_6 := blk_frozen BK347.out 6
              go_wp2
              go_meet
              case rel => exact ⟨_, (0), (0), ((wrap64 (Int.tmod a1 1000))), ((wrap64 (Int.tmod (IntKind.u64.wrap (Int.tdiv a0 13)) 1000000))), (0), (0), H', ⟨by have := HJ10.out; first | omega | exact Nat.le_refl _⟩, ⟨by (with_reducible repeat (first | refine blk_drewN ?_ _ | refine blk_drew ?_ | refine blk_alloc ?_ _)); refine blk_far ?_ NB346_347.out _; (with_reducible repeat (first | refine blk_drewN ?_ _ | refine blk_drew ?_ | refine blk_alloc ?_ _)); refine blk_far ?_ NB346_347.out _; (with_reducible repeat (first | refine blk_drewN ?_ _ | refine blk_drew ?_ | refine blk_alloc ?_ _)); exact BK346.out⟩, ⟨by (with_reducible repeat (first | refine blk_drewN ?_ _ | refine blk_drew ?_ | refine blk_alloc ?_ _)); refine blk_put (cs := #[.int .i64 (wrap64 (1 + (wrap64 (Int.tmod a0 13)))), .int .i64 0, .int .i64 0, .int .i64 (wrap64 (Int.tmod a1 1000)), .int .i64 0, .int .i64 0, .int .u64 0]) ?_ 4 _ (by first | rfl | simp [*]); (with_reducible repeat (first | refine blk_drewN ?_ _ | refine blk_drew ?_ | refine blk_alloc ?_ _)); refine blk_put (cs := #[.int .i64 (wrap64 (1 + (wrap64 (Int.tmod a0 13)))), .int .i64 0, .int .i64 0, .int .i64 0, .int .i64 0, .int .i64 0, .int .u64 0]) ?_ 3 _ (by first | rfl | simp [*]); (with_reducible repeat (first | refine blk_drewN ?_ _ | refine blk_drew ?_ | refine blk_alloc ?_ _)); exact BK347.out⟩, ⟨by repeat (first | (with_reducible first | exact HB.out | apply below_alloc | apply pw_below_drewN | apply below_drew1 | refine below_set ?_ GE346.out | refine below_set ?_ GE347.out) | exact HB.out)⟩⟩
            · rw [if_neg c18] at H
              have c18b0 : ((wrap64 (1 + (wrap64 (Int.tmod a0 13)))) == 6) = false := beq_eq_false_iff_ne.mpr c18
              have c18b1 : ((wrap64 (1 + (wrap64 (Int.tmod a0 13)))) != 6) = true := bne_iff_ne.mpr c18
              by_cases c21 : (wrap64 (1 + (wrap64 (Int.tmod a0 13)))) = 11
              · rw [if_pos c21] at H
                have c21b0 : ((wrap64 (1 + (wrap64 (Int.tmod a0 13)))) == 11) = true := beq_iff_eq.mpr c21
                have c21b1 : ((wrap64 (1 + (wrap64 (Int.tmod a0 13)))) != 11) = false := bne_eq_false_iff_eq.mpr c21
                clear c21
                have H' := Aside0.mk H
                clear H
                have hnb22 := NB347_346.out
                have hnc22 := NB346_347.out
                have hcz23_0 : wc.cell? ⟨gb347, 0, none⟩ = some (.int .i64 (wrap64 (1 + (wrap64 (Int.tmod a0 13))))) := (blk_cell BK347.out 0).trans rfl
                have hcz23_1 : wc.cell? ⟨gb347, 1, none⟩ = some (.int .i64 0) := (blk_cell BK347.out 1).trans rfl
                have hcz23_2 : wc.cell? ⟨gb347, 2, none⟩ = some (.int .i64 0) := (blk_cell BK347.out 2).trans rfl
                have hcz23_3 : wc.cell? ⟨gb347, 3, none⟩ = some (.int .i64 0) := (blk_cell BK347.out 3).trans rfl
                have hcz23_4 : wc.cell? ⟨gb347, 4, none⟩ = some (.int .i64 0) := (blk_cell BK347.out 4).trans rfl
                have hcz23_5 : wc.cell? ⟨gb347, 5, none⟩ = some (.int .i64 0) := (blk_cell BK347.out 5).trans rfl
                have hcz23_6 : wc.cell? ⟨gb347, 6, none⟩ = some (.int .u64 0) := (blk_cell BK347.out 6).trans rfl
                have hfz23_0 := blk_frozen BK347.out 0
                have hfz23_1 := blk_frozen BK347.out 1
                have hfz23_2 := blk_frozen BK347.out 2
                have hfz23_3 := blk_frozen BK347.out 3
                have hfz23_4 := blk_frozen BK347.out 4
                have hfz23_5 := blk_frozen BK347.out 5
                have hfz23_6 := blk_frozen BK347.out 6
                go_wp2
                go_meet
                case rel => exact ⟨_, (0), (0), ((wrap64 (Int.tmod a1 1000))), ((wrap64 (Int.tmod (IntKind.u64.wrap (Int.tdiv a0 13)) 1000000))), (0), (0), H', ⟨by have := HJ10.out; first | omega | exact Nat.le_refl _⟩, ⟨by (with_reducible repeat (first | refine blk_drewN ?_ _ | refine blk_drew ?_ | refine blk_alloc ?_ _)); refine blk_far ?_ NB346_347.out _; (with_reducible repeat (first | refine blk_drewN ?_ _ | refine blk_drew ?_ | refine blk_alloc ?_ _)); refine blk_far ?_ NB346_347.out _; (with_reducible repeat (first | refine blk_drewN ?_ _ | refine blk_drew ?_ | refine blk_alloc ?_ _)); exact BK346.out⟩, ⟨by (with_reducible repeat (first | refine blk_drewN ?_ _ | refine blk_drew ?_ | refine blk_alloc ?_ _)); refine blk_put (cs := #[.int .i64 (wrap64 (1 + (wrap64 (Int.tmod a0 13)))), .int .i64 0, .int .i64 0, .int .i64 (wrap64 (Int.tmod a1 1000)), .int .i64 0, .int .i64 0, .int .u64 0]) ?_ 4 _ (by first | rfl | simp [*]); (with_reducible repeat (first | refine blk_drewN ?_ _ | refine blk_drew ?_ | refine blk_alloc ?_ _)); refine blk_put (cs := #[.int .i64 (wrap64 (1 + (wrap64 (Int.tmod a0 13)))), .int .i64 0, .int .i64 0, .int .i64 0, .int .i64 0, .int .i64 0, .int .u64 0]) ?_ 3 _ (by first | rfl | simp [*]); (with_reducible repeat (first | refine blk_drewN ?_ _ | refine blk_drew ?_ | refine blk_alloc ?_ _)); exact BK347.out⟩, ⟨by repeat (first | (with_reducible first | exact HB.out | apply below_alloc | apply pw_below_drewN | apply below_drew1 | refine below_set ?_ GE346.out | refine below_set ?_ GE347.out) | exact HB.out)⟩⟩
              · rw [if_neg c21] at H
                have c21b0 : ((wrap64 (1 + (wrap64 (Int.tmod a0 13)))) == 11) = false := beq_eq_false_iff_ne.mpr c21
                have c21b1 : ((wrap64 (1 + (wrap64 (Int.tmod a0 13)))) != 11) = true := bne_iff_ne.mpr c21
                have H' := Aside0.mk H
                clear H
                have hnb24 := NB347_346.out
                have hnc24 := NB346_347.out
                have hcz25_0 : wc.cell? ⟨gb347, 0, none⟩ = some (.int .i64 (wrap64 (1 + (wrap64 (Int.tmod a0 13))))) := (blk_cell BK347.out 0).trans rfl
                have hcz25_1 : wc.cell? ⟨gb347, 1, none⟩ = some (.int .i64 0) := (blk_cell BK347.out 1).trans rfl
                have hcz25_2 : wc.cell? ⟨gb347, 2, none⟩ = some (.int .i64 0) := (blk_cell BK347.out 2).trans rfl
                have hcz25_3 : wc.cell? ⟨gb347, 3, none⟩ = some (.int .i64 0) := (blk_cell BK347.out 3).trans rfl
                have hcz25_4 : wc.cell? ⟨gb347, 4, none⟩ = some (.int .i64 0) := (blk_cell BK347.out 4).trans rfl
                have hcz25_5 : wc.cell? ⟨gb347, 5, none⟩ = some (.int .i64 0) := (blk_cell BK347.out 5).trans rfl
                have hcz25_6 : wc.cell? ⟨gb347, 6, none⟩ = some (.int .u64 0) := (blk_cell BK347.out 6).trans rfl
                have hfz25_0 := blk_frozen BK347.out 0
                have hfz25_1 := blk_frozen BK347.out 1
                have hfz25_2 := blk_frozen BK347.out 2
                have hfz25_3 := blk_frozen BK347.out 3
                have hfz25_4 := blk_frozen BK347.out 4
                have hfz25_5 := blk_frozen BK347.out 5
                have hfz25_6 := blk_frozen BK347.out 6
                go_wp2
                go_meet
                case rel => exact ⟨_, ((wrap64 (Int.tmod a1 1000))), ((wrap64 (Int.tmod (IntKind.u64.wrap (Int.tdiv a0 13)) 1000000))), (0), (0), (0), (0), H', ⟨by have := HJ10.out; first | omega | exact Nat.le_refl _⟩, ⟨by (with_reducible repeat (first | refine blk_drewN ?_ _ | refine blk_drew ?_ | refine blk_alloc ?_ _)); refine blk_far ?_ NB346_347.out _; (with_reducible repeat (first | refine blk_drewN ?_ _ | refine blk_drew ?_ | refine blk_alloc ?_ _)); refine blk_far ?_ NB346_347.out _; (with_reducible repeat (first | refine blk_drewN ?_ _ | refine blk_drew ?_ | refine blk_alloc ?_ _)); exact BK346.out⟩, ⟨by (with_reducible repeat (first | refine blk_drewN ?_ _ | refine blk_drew ?_ | refine blk_alloc ?_ _)); refine blk_put (cs := #[.int .i64 (wrap64 (1 + (wrap64 (Int.tmod a0 13)))), .int .i64 (wrap64 (Int.tmod a1 1000)), .int .i64 0, .int .i64 0, .int .i64 0, .int .i64 0, .int .u64 0]) ?_ 2 _ (by first | rfl | simp [*]); (with_reducible repeat (first | refine blk_drewN ?_ _ | refine blk_drew ?_ | refine blk_alloc ?_ _)); refine blk_put (cs := #[.int .i64 (wrap64 (1 + (wrap64 (Int.tmod a0 13)))), .int .i64 0, .int .i64 0, .int .i64 0, .int .i64 0, .int .i64 0, .int .u64 0]) ?_ 1 _ (by first | rfl | simp [*]); (with_reducible repeat (first | refine blk_drewN ?_ _ | refine blk_drew ?_ | refine blk_alloc ?_ _)); exact BK347.out⟩, ⟨by repeat (first | (with_reducible first | exact HB.out | apply below_alloc | apply pw_below_drewN | apply below_drew1 | refine below_set ?_ GE346.out | refine below_set ?_ GE347.out) | exact HB.out)⟩⟩
  case rest =>
    clear HC3
    try clear c1
    try clear c2
    try clear p2
    try clear c6
    try clear p6
    try clear c8
    try clear c8b0
    try clear c8b1
    try clear c9
    try clear c12
    try clear c12b0
    try clear c12b1
    try clear c13
    try clear c13b0
    try clear c13b1
    try clear c14
    try clear c14b0
    try clear c14b1
    try clear c15
    try clear c16
    try clear c18
    try clear c18b0
    try clear c18b1
    try clear c19
    try clear c21
    try clear c21b0
    try clear c21b1
    try clear c22
    try clear c24
    try clear hcz10_0
    try clear hcz10_1
    try clear hcz10_2
    try clear hcz10_3
    try clear hcz10_4
    try clear hcz10_5
    try clear hcz10_6
    try clear hcz17_0
    try clear hcz17_1
    try clear hcz17_2
    try clear hcz17_3
    try clear hcz17_4
    try clear hcz17_5
    try clear hcz17_6
    try clear hcz20_0
    try clear hcz20_1
    try clear hcz20_2
    try clear hcz20_3
    try clear hcz20_4
    try clear hcz20_5
    try clear hcz20_6
    try clear hcz23_0
    try clear hcz23_1
    try clear hcz23_2
    try clear hcz23_3
    try clear hcz23_4
    try clear hcz23_5
    try clear hcz23_6
    try clear hcz25_0
    try clear hcz25_1
    try clear hcz25_2
    try clear hcz25_3
    try clear hcz25_4
    try clear hcz25_5
    try clear hcz25_6
    try clear hcz7_0
    try clear hcz7_1
    try clear hcz7_2
    try clear hcz7_3
    try clear hcz7_4
    try clear hcz7_5
    try clear hcz7_6
    try clear hfz10_0
    try clear hfz10_1
    try clear hfz10_2
    try clear hfz10_3
    try clear hfz10_4
    try clear hfz10_5
    try clear hfz10_6
    try clear hfz17_0
    try clear hfz17_1
    try clear hfz17_2
    try clear hfz17_3
    try clear hfz17_4
    try clear hfz17_5
    try clear hfz17_6
    try clear hfz20_0
    try clear hfz20_1
    try clear hfz20_2
    try clear hfz20_3
    try clear hfz20_4
    try clear hfz20_5
    try clear hfz20_6
    try clear hfz23_0
    try clear hfz23_1
    try clear hfz23_2
    try clear hfz23_3
    try clear hfz23_4
    try clear hfz23_5
    try clear hfz23_6
    try clear hfz25_0
    try clear hfz25_1
    try clear hfz25_2
    try clear hfz25_3
    try clear hfz25_4
    try clear hfz25_5
    try clear hfz25_6
    try clear hfz7_0
    try clear hfz7_1
    try clear hfz7_2
    try clear hfz7_3
    try clear hfz7_4
    try clear hfz7_5
    try clear hfz7_6
    try clear p2
    try clear p6
    obtain ⟨kq, x348001_2, x348002_2, x348003_2, x348004_2, x348005_2, x348006_2, HA, HJ2, BK346, BK347, HB⟩ := hcut
    cases kq with
    | zero => exact absurd HA.out (by simp [turnspitlaw15_Made.j1])
    | succ kj2 =>
      have H := HA.out
      clear HA
      simp only [turnspitlaw15_Made.j1] at H
      by_cases c26 : (wrap64 (1 + (wrap64 (Int.tmod a0 13)))) = 8
      · rw [if_pos c26] at H
        have c26b0 : ((wrap64 (1 + (wrap64 (Int.tmod a0 13)))) == 8) = true := beq_iff_eq.mpr c26
        have c26b1 : ((wrap64 (1 + (wrap64 (Int.tmod a0 13)))) != 8) = false := bne_eq_false_iff_eq.mpr c26
        clear c26
        simp only [Option.some.injEq, Prod.mk.injEq] at H
        obtain ⟨rfl, rfl, rfl, rfl, rfl, rfl, rfl⟩ := H
        have hnb27 := NB347_346.out
        have hnc27 := NB346_347.out
        have hcz28_0 : wc.cell? ⟨gb347, 0, none⟩ = some (.int .i64 (wrap64 (1 + (wrap64 (Int.tmod a0 13))))) := (blk_cell BK347.out 0).trans rfl
        have hcz28_1 : wc.cell? ⟨gb347, 1, none⟩ = some (.int .i64 x348001_2) := (blk_cell BK347.out 1).trans rfl
        have hcz28_2 : wc.cell? ⟨gb347, 2, none⟩ = some (.int .i64 x348002_2) := (blk_cell BK347.out 2).trans rfl
        have hcz28_3 : wc.cell? ⟨gb347, 3, none⟩ = some (.int .i64 x348003_2) := (blk_cell BK347.out 3).trans rfl
        have hcz28_4 : wc.cell? ⟨gb347, 4, none⟩ = some (.int .i64 x348004_2) := (blk_cell BK347.out 4).trans rfl
        have hcz28_5 : wc.cell? ⟨gb347, 5, none⟩ = some (.int .i64 x348005_2) := (blk_cell BK347.out 5).trans rfl
        have hcz28_6 : wc.cell? ⟨gb347, 6, none⟩ = some (.int .u64 x348006_2) := (blk_cell BK347.out 6).trans rfl
        have hfz28_0 := blk_frozen BK347.out 0
        have hfz28_1 := blk_frozen BK347.out 1
        have hfz28_2 := blk_frozen BK347.out 2
        have hfz28_3 := blk_frozen BK347.out 3
        have hfz28_4 := blk_frozen BK347.out 4
        have hfz28_5 := blk_frozen BK347.out 5
        have hfz28_6 := blk_frozen BK347.out 6
        have hcz29_0 : wc.cell? ⟨gb346, 0, none⟩ = some (.int .i64 0) := (blk_cell BK346.out 0).trans rfl
        have hcz29_1 : wc.cell? ⟨gb346, 1, none⟩ = some (.int .i64 0) := (blk_cell BK346.out 1).trans rfl
        have hcz29_2 : wc.cell? ⟨gb346, 2, none⟩ = some (.int .i64 0) := (blk_cell BK346.out 2).trans rfl
        have hcz29_3 : wc.cell? ⟨gb346, 3, none⟩ = some (.int .i64 0) := (blk_cell BK346.out 3).trans rfl
        have hcz29_4 : wc.cell? ⟨gb346, 4, none⟩ = some (.int .i64 0) := (blk_cell BK346.out 4).trans rfl
        have hcz29_5 : wc.cell? ⟨gb346, 5, none⟩ = some (.int .i64 0) := (blk_cell BK346.out 5).trans rfl
        have hcz29_6 : wc.cell? ⟨gb346, 6, none⟩ = some (.int .u64 0) := (blk_cell BK346.out 6).trans rfl
        have hfz29_0 := blk_frozen BK346.out 0
        have hfz29_1 := blk_frozen BK346.out 1
        have hfz29_2 := blk_frozen BK346.out 2
        have hfz29_3 := blk_frozen BK346.out 3
        have hfz29_4 := blk_frozen BK346.out 4
        have hfz29_5 := blk_frozen BK346.out 5
        have hfz29_6 := blk_frozen BK346.out 6
        go_wp2
        refine bodyPost_ret (results_cell_row rfl _ _ gb346 26 #[.int .i64 (wrap64 (1 + (wrap64 (Int.tmod a0 13)))), .int .i64 x348001_2, .int .i64 x348002_2, .int .i64 (wrap64 (Int.tmod (IntKind.u64.wrap (Int.tdiv a1 1000)) 70)), .int .i64 x348004_2, .int .i64 x348005_2, .int .u64 x348006_2] (0, 0) _ rfl (by (with_reducible repeat (first | refine blk_drewN ?_ _ | refine blk_drew ?_ | refine blk_alloc ?_ _)); refine blk_put (cs := #[.int .i64 (wrap64 (1 + (wrap64 (Int.tmod a0 13)))), .int .i64 x348001_2, .int .i64 x348002_2, .int .i64 (wrap64 (Int.tmod (IntKind.u64.wrap (Int.tdiv a1 1000)) 70)), .int .i64 x348004_2, .int .i64 x348005_2, .int .u64 0]) ?_ 6 _ (by first | rfl | simp [*]); (with_reducible repeat (first | refine blk_drewN ?_ _ | refine blk_drew ?_ | refine blk_alloc ?_ _)); refine blk_put (cs := #[.int .i64 (wrap64 (1 + (wrap64 (Int.tmod a0 13)))), .int .i64 x348001_2, .int .i64 x348002_2, .int .i64 (wrap64 (Int.tmod (IntKind.u64.wrap (Int.tdiv a1 1000)) 70)), .int .i64 x348004_2, .int .i64 0, .int .u64 0]) ?_ 5 _ (by first | rfl | simp [*]); (with_reducible repeat (first | refine blk_drewN ?_ _ | refine blk_drew ?_ | refine blk_alloc ?_ _)); refine blk_put (cs := #[.int .i64 (wrap64 (1 + (wrap64 (Int.tmod a0 13)))), .int .i64 x348001_2, .int .i64 x348002_2, .int .i64 (wrap64 (Int.tmod (IntKind.u64.wrap (Int.tdiv a1 1000)) 70)), .int .i64 0, .int .i64 0, .int .u64 0]) ?_ 4 _ (by first | rfl | simp [*]); (with_reducible repeat (first | refine blk_drewN ?_ _ | refine blk_drew ?_ | refine blk_alloc ?_ _)); refine blk_put (cs := #[.int .i64 (wrap64 (1 + (wrap64 (Int.tmod a0 13)))), .int .i64 x348001_2, .int .i64 x348002_2, .int .i64 0, .int .i64 0, .int .i64 0, .int .u64 0]) ?_ 3 _ (by first | rfl | simp [*]); (with_reducible repeat (first | refine blk_drewN ?_ _ | refine blk_drew ?_ | refine blk_alloc ?_ _)); refine blk_put (cs := #[.int .i64 (wrap64 (1 + (wrap64 (Int.tmod a0 13)))), .int .i64 x348001_2, .int .i64 0, .int .i64 0, .int .i64 0, .int .i64 0, .int .u64 0]) ?_ 2 _ (by first | rfl | simp [*]); (with_reducible repeat (first | refine blk_drewN ?_ _ | refine blk_drew ?_ | refine blk_alloc ?_ _)); refine blk_put (cs := #[.int .i64 (wrap64 (1 + (wrap64 (Int.tmod a0 13)))), .int .i64 0, .int .i64 0, .int .i64 0, .int .i64 0, .int .i64 0, .int .u64 0]) ?_ 1 _ (by first | rfl | simp [*]); (with_reducible repeat (first | refine blk_drewN ?_ _ | refine blk_drew ?_ | refine blk_alloc ?_ _)); refine blk_put (cs := #[.int .i64 0, .int .i64 0, .int .i64 0, .int .i64 0, .int .i64 0, .int .i64 0, .int .u64 0]) ?_ 0 _ (by first | rfl | simp [*]); (with_reducible repeat (first | refine blk_drewN ?_ _ | refine blk_drew ?_ | refine blk_alloc ?_ _)); refine blk_far ?_ NB346_347.out _; (with_reducible repeat (first | refine blk_drewN ?_ _ | refine blk_drew ?_ | refine blk_alloc ?_ _)); exact BK346.out) Tryd.underlying26 rfl (by kernel_rfl)) rfl ?_
        exact ⟨by first | rfl | (simp [errW_none, errW_some] <;> rfl) | (simp [*, errW_none, errW_some] <;> rfl), by repeat (first | (with_reducible first | exact HB.out | apply below_alloc | apply pw_below_drewN | apply below_drew1 | refine below_set ?_ GE346.out | refine below_set ?_ GE347.out) | exact HB.out)⟩
      · rw [if_neg c26] at H
        have c26b0 : ((wrap64 (1 + (wrap64 (Int.tmod a0 13)))) == 8) = false := beq_eq_false_iff_ne.mpr c26
        have c26b1 : ((wrap64 (1 + (wrap64 (Int.tmod a0 13)))) != 8) = true := bne_iff_ne.mpr c26
        by_cases c30 : (wrap64 (1 + (wrap64 (Int.tmod a0 13)))) = 9
        · rw [if_pos c30] at H
          have c30b0 : ((wrap64 (1 + (wrap64 (Int.tmod a0 13)))) == 9) = true := beq_iff_eq.mpr c30
          have c30b1 : ((wrap64 (1 + (wrap64 (Int.tmod a0 13)))) != 9) = false := bne_eq_false_iff_eq.mpr c30
          clear c30
          simp only [Option.some.injEq, Prod.mk.injEq] at H
          obtain ⟨rfl, rfl, rfl, rfl, rfl, rfl, rfl⟩ := H
          have hnb31 := NB347_346.out
          have hnc31 := NB346_347.out
          have hcz32_0 : wc.cell? ⟨gb347, 0, none⟩ = some (.int .i64 (wrap64 (1 + (wrap64 (Int.tmod a0 13))))) := (blk_cell BK347.out 0).trans rfl
          have hcz32_1 : wc.cell? ⟨gb347, 1, none⟩ = some (.int .i64 x348001_2) := (blk_cell BK347.out 1).trans rfl
          have hcz32_2 : wc.cell? ⟨gb347, 2, none⟩ = some (.int .i64 x348002_2) := (blk_cell BK347.out 2).trans rfl
          have hcz32_3 : wc.cell? ⟨gb347, 3, none⟩ = some (.int .i64 x348003_2) := (blk_cell BK347.out 3).trans rfl
          have hcz32_4 : wc.cell? ⟨gb347, 4, none⟩ = some (.int .i64 x348004_2) := (blk_cell BK347.out 4).trans rfl
          have hcz32_5 : wc.cell? ⟨gb347, 5, none⟩ = some (.int .i64 x348005_2) := (blk_cell BK347.out 5).trans rfl
          have hcz32_6 : wc.cell? ⟨gb347, 6, none⟩ = some (.int .u64 x348006_2) := (blk_cell BK347.out 6).trans rfl
          have hfz32_0 := blk_frozen BK347.out 0
          have hfz32_1 := blk_frozen BK347.out 1
          have hfz32_2 := blk_frozen BK347.out 2
          have hfz32_3 := blk_frozen BK347.out 3
          have hfz32_4 := blk_frozen BK347.out 4
          have hfz32_5 := blk_frozen BK347.out 5
          have hfz32_6 := blk_frozen BK347.out 6
          have hcz33_0 : wc.cell? ⟨gb346, 0, none⟩ = some (.int .i64 0) := (blk_cell BK346.out 0).trans rfl
          have hcz33_1 : wc.cell? ⟨gb346, 1, none⟩ = some (.int .i64 0) := (blk_cell BK346.out 1).trans rfl
          have hcz33_2 : wc.cell? ⟨gb346, 2, none⟩ = some (.int .i64 0) := (blk_cell BK346.out 2).trans rfl
          have hcz33_3 : wc.cell? ⟨gb346, 3, none⟩ = some (.int .i64 0) := (blk_cell BK346.out 3).trans rfl
          have hcz33_4 : wc.cell? ⟨gb346, 4, none⟩ = some (.int .i64 0) := (blk_cell BK346.out 4).trans rfl
          have hcz33_5 : wc.cell? ⟨gb346, 5, none⟩ = some (.int .i64 0) := (blk_cell BK346.out 5).trans rfl
          have hcz33_6 : wc.cell? ⟨gb346, 6, none⟩ = some (.int .u64 0) := (blk_cell BK346.out 6).trans rfl
          have hfz33_0 := blk_frozen BK346.out 0
          have hfz33_1 := blk_frozen BK346.out 1
          have hfz33_2 := blk_frozen BK346.out 2
          have hfz33_3 := blk_frozen BK346.out 3
          have hfz33_4 := blk_frozen BK346.out 4
          have hfz33_5 := blk_frozen BK346.out 5
          have hfz33_6 := blk_frozen BK346.out 6
          go_wp2
          refine bodyPost_ret (results_cell_row rfl _ _ gb346 26 #[.int .i64 (wrap64 (1 + (wrap64 (Int.tmod a0 13)))), .int .i64 x348001_2, .int .i64 x348002_2, .int .i64 x348003_2, .int .i64 x348004_2, .int .i64 x348005_2, .int .u64 a1] (0, 0) _ rfl (by (with_reducible repeat (first | refine blk_drewN ?_ _ | refine blk_drew ?_ | refine blk_alloc ?_ _)); refine blk_put (cs := #[.int .i64 (wrap64 (1 + (wrap64 (Int.tmod a0 13)))), .int .i64 x348001_2, .int .i64 x348002_2, .int .i64 x348003_2, .int .i64 x348004_2, .int .i64 x348005_2, .int .u64 0]) ?_ 6 _ (by first | rfl | simp [*]); (with_reducible repeat (first | refine blk_drewN ?_ _ | refine blk_drew ?_ | refine blk_alloc ?_ _)); refine blk_put (cs := #[.int .i64 (wrap64 (1 + (wrap64 (Int.tmod a0 13)))), .int .i64 x348001_2, .int .i64 x348002_2, .int .i64 x348003_2, .int .i64 x348004_2, .int .i64 0, .int .u64 0]) ?_ 5 _ (by first | rfl | simp [*]); (with_reducible repeat (first | refine blk_drewN ?_ _ | refine blk_drew ?_ | refine blk_alloc ?_ _)); refine blk_put (cs := #[.int .i64 (wrap64 (1 + (wrap64 (Int.tmod a0 13)))), .int .i64 x348001_2, .int .i64 x348002_2, .int .i64 x348003_2, .int .i64 0, .int .i64 0, .int .u64 0]) ?_ 4 _ (by first | rfl | simp [*]); (with_reducible repeat (first | refine blk_drewN ?_ _ | refine blk_drew ?_ | refine blk_alloc ?_ _)); refine blk_put (cs := #[.int .i64 (wrap64 (1 + (wrap64 (Int.tmod a0 13)))), .int .i64 x348001_2, .int .i64 x348002_2, .int .i64 0, .int .i64 0, .int .i64 0, .int .u64 0]) ?_ 3 _ (by first | rfl | simp [*]); (with_reducible repeat (first | refine blk_drewN ?_ _ | refine blk_drew ?_ | refine blk_alloc ?_ _)); refine blk_put (cs := #[.int .i64 (wrap64 (1 + (wrap64 (Int.tmod a0 13)))), .int .i64 x348001_2, .int .i64 0, .int .i64 0, .int .i64 0, .int .i64 0, .int .u64 0]) ?_ 2 _ (by first | rfl | simp [*]); (with_reducible repeat (first | refine blk_drewN ?_ _ | refine blk_drew ?_ | refine blk_alloc ?_ _)); refine blk_put (cs := #[.int .i64 (wrap64 (1 + (wrap64 (Int.tmod a0 13)))), .int .i64 0, .int .i64 0, .int .i64 0, .int .i64 0, .int .i64 0, .int .u64 0]) ?_ 1 _ (by first | rfl | simp [*]); (with_reducible repeat (first | refine blk_drewN ?_ _ | refine blk_drew ?_ | refine blk_alloc ?_ _)); refine blk_put (cs := #[.int .i64 0, .int .i64 0, .int .i64 0, .int .i64 0, .int .i64 0, .int .i64 0, .int .u64 0]) ?_ 0 _ (by first | rfl | simp [*]); (with_reducible repeat (first | refine blk_drewN ?_ _ | refine blk_drew ?_ | refine blk_alloc ?_ _)); refine blk_far ?_ NB346_347.out _; (with_reducible repeat (first | refine blk_drewN ?_ _ | refine blk_drew ?_ | refine blk_alloc ?_ _)); exact BK346.out) Tryd.underlying26 rfl (by kernel_rfl)) rfl ?_
          exact ⟨by first | rfl | (simp [errW_none, errW_some] <;> rfl) | (simp [*, errW_none, errW_some] <;> rfl), by repeat (first | (with_reducible first | exact HB.out | apply below_alloc | apply pw_below_drewN | apply below_drew1 | refine below_set ?_ GE346.out | refine below_set ?_ GE347.out) | exact HB.out)⟩
        · rw [if_neg c30] at H
          have c30b0 : ((wrap64 (1 + (wrap64 (Int.tmod a0 13)))) == 9) = false := beq_eq_false_iff_ne.mpr c30
          have c30b1 : ((wrap64 (1 + (wrap64 (Int.tmod a0 13)))) != 9) = true := bne_iff_ne.mpr c30
          by_cases c34 : (wrap64 (1 + (wrap64 (Int.tmod a0 13)))) = 10
          · rw [if_pos c34] at H
            have c34b0 : ((wrap64 (1 + (wrap64 (Int.tmod a0 13)))) == 10) = true := beq_iff_eq.mpr c34
            have c34b1 : ((wrap64 (1 + (wrap64 (Int.tmod a0 13)))) != 10) = false := bne_eq_false_iff_eq.mpr c34
            clear c34
            simp only [Option.some.injEq, Prod.mk.injEq] at H
            obtain ⟨rfl, rfl, rfl, rfl, rfl, rfl, rfl⟩ := H
            have hnb35 := NB347_346.out
            have hnc35 := NB346_347.out
            have hcz36_0 : wc.cell? ⟨gb347, 0, none⟩ = some (.int .i64 (wrap64 (1 + (wrap64 (Int.tmod a0 13))))) := (blk_cell BK347.out 0).trans rfl
            have hcz36_1 : wc.cell? ⟨gb347, 1, none⟩ = some (.int .i64 x348001_2) := (blk_cell BK347.out 1).trans rfl
            have hcz36_2 : wc.cell? ⟨gb347, 2, none⟩ = some (.int .i64 x348002_2) := (blk_cell BK347.out 2).trans rfl
            have hcz36_3 : wc.cell? ⟨gb347, 3, none⟩ = some (.int .i64 x348003_2) := (blk_cell BK347.out 3).trans rfl
            have hcz36_4 : wc.cell? ⟨gb347, 4, none⟩ = some (.int .i64 x348004_2) := (blk_cell BK347.out 4).trans rfl
            have hcz36_5 : wc.cell? ⟨gb347, 5, none⟩ = some (.int .i64 x348005_2) := (blk_cell BK347.out 5).trans rfl
            have hcz36_6 : wc.cell? ⟨gb347, 6, none⟩ = some (.int .u64 x348006_2) := (blk_cell BK347.out 6).trans rfl
            have hfz36_0 := blk_frozen BK347.out 0
            have hfz36_1 := blk_frozen BK347.out 1
            have hfz36_2 := blk_frozen BK347.out 2
            have hfz36_3 := blk_frozen BK347.out 3
            have hfz36_4 := blk_frozen BK347.out 4
            have hfz36_5 := blk_frozen BK347.out 5
            have hfz36_6 := blk_frozen BK347.out 6
            have hcz37_0 : wc.cell? ⟨gb346, 0, none⟩ = some (.int .i64 0) := (blk_cell BK346.out 0).trans rfl
            have hcz37_1 : wc.cell? ⟨gb346, 1, none⟩ = some (.int .i64 0) := (blk_cell BK346.out 1).trans rfl
            have hcz37_2 : wc.cell? ⟨gb346, 2, none⟩ = some (.int .i64 0) := (blk_cell BK346.out 2).trans rfl
            have hcz37_3 : wc.cell? ⟨gb346, 3, none⟩ = some (.int .i64 0) := (blk_cell BK346.out 3).trans rfl
            have hcz37_4 : wc.cell? ⟨gb346, 4, none⟩ = some (.int .i64 0) := (blk_cell BK346.out 4).trans rfl
            have hcz37_5 : wc.cell? ⟨gb346, 5, none⟩ = some (.int .i64 0) := (blk_cell BK346.out 5).trans rfl
            have hcz37_6 : wc.cell? ⟨gb346, 6, none⟩ = some (.int .u64 0) := (blk_cell BK346.out 6).trans rfl
            have hfz37_0 := blk_frozen BK346.out 0
            have hfz37_1 := blk_frozen BK346.out 1
            have hfz37_2 := blk_frozen BK346.out 2
            have hfz37_3 := blk_frozen BK346.out 3
            have hfz37_4 := blk_frozen BK346.out 4
            have hfz37_5 := blk_frozen BK346.out 5
            have hfz37_6 := blk_frozen BK346.out 6
            go_wp2
            refine bodyPost_ret (results_cell_row rfl _ _ gb346 26 #[.int .i64 (wrap64 (1 + (wrap64 (Int.tmod a0 13)))), .int .i64 x348001_2, .int .i64 x348002_2, .int .i64 x348003_2, .int .i64 x348004_2, .int .i64 (wrap64 ((wrap64 (Int.tmod (IntKind.u64.wrap (Int.tdiv a1 1000)) 41)) - 20)), .int .u64 x348006_2] (0, 0) _ rfl (by (with_reducible repeat (first | refine blk_drewN ?_ _ | refine blk_drew ?_ | refine blk_alloc ?_ _)); refine blk_put (cs := #[.int .i64 (wrap64 (1 + (wrap64 (Int.tmod a0 13)))), .int .i64 x348001_2, .int .i64 x348002_2, .int .i64 x348003_2, .int .i64 x348004_2, .int .i64 (wrap64 ((wrap64 (Int.tmod (IntKind.u64.wrap (Int.tdiv a1 1000)) 41)) - 20)), .int .u64 0]) ?_ 6 _ (by first | rfl | simp [*]); (with_reducible repeat (first | refine blk_drewN ?_ _ | refine blk_drew ?_ | refine blk_alloc ?_ _)); refine blk_put (cs := #[.int .i64 (wrap64 (1 + (wrap64 (Int.tmod a0 13)))), .int .i64 x348001_2, .int .i64 x348002_2, .int .i64 x348003_2, .int .i64 x348004_2, .int .i64 0, .int .u64 0]) ?_ 5 _ (by first | rfl | simp [*]); (with_reducible repeat (first | refine blk_drewN ?_ _ | refine blk_drew ?_ | refine blk_alloc ?_ _)); refine blk_put (cs := #[.int .i64 (wrap64 (1 + (wrap64 (Int.tmod a0 13)))), .int .i64 x348001_2, .int .i64 x348002_2, .int .i64 x348003_2, .int .i64 0, .int .i64 0, .int .u64 0]) ?_ 4 _ (by first | rfl | simp [*]); (with_reducible repeat (first | refine blk_drewN ?_ _ | refine blk_drew ?_ | refine blk_alloc ?_ _)); refine blk_put (cs := #[.int .i64 (wrap64 (1 + (wrap64 (Int.tmod a0 13)))), .int .i64 x348001_2, .int .i64 x348002_2, .int .i64 0, .int .i64 0, .int .i64 0, .int .u64 0]) ?_ 3 _ (by first | rfl | simp [*]); (with_reducible repeat (first | refine blk_drewN ?_ _ | refine blk_drew ?_ | refine blk_alloc ?_ _)); refine blk_put (cs := #[.int .i64 (wrap64 (1 + (wrap64 (Int.tmod a0 13)))), .int .i64 x348001_2, .int .i64 0, .int .i64 0, .int .i64 0, .int .i64 0, .int .u64 0]) ?_ 2 _ (by first | rfl | simp [*]); (with_reducible repeat (first | refine blk_drewN ?_ _ | refine blk_drew ?_ | refine blk_alloc ?_ _)); refine blk_put (cs := #[.int .i64 (wrap64 (1 + (wrap64 (Int.tmod a0 13)))), .int .i64 0, .int .i64 0, .int .i64 0, .int .i64 0, .int .i64 0, .int .u64 0]) ?_ 1 _ (by first | rfl | simp [*]); (with_reducible repeat (first | refine blk_drewN ?_ _ | refine blk_drew ?_ | refine blk_alloc ?_ _)); refine blk_put (cs := #[.int .i64 0, .int .i64 0, .int .i64 0, .int .i64 0, .int .i64 0, .int .i64 0, .int .u64 0]) ?_ 0 _ (by first | rfl | simp [*]); (with_reducible repeat (first | refine blk_drewN ?_ _ | refine blk_drew ?_ | refine blk_alloc ?_ _)); refine blk_far ?_ NB346_347.out _; (with_reducible repeat (first | refine blk_drewN ?_ _ | refine blk_drew ?_ | refine blk_alloc ?_ _)); exact BK346.out) Tryd.underlying26 rfl (by kernel_rfl)) rfl ?_
            exact ⟨by first | rfl | (simp [errW_none, errW_some] <;> rfl) | (simp [*, errW_none, errW_some] <;> rfl), by repeat (first | (with_reducible first | exact HB.out | apply below_alloc | apply pw_below_drewN | apply below_drew1 | refine below_set ?_ GE346.out | refine below_set ?_ GE347.out) | exact HB.out)⟩
          · rw [if_neg c34] at H
            have c34b0 : ((wrap64 (1 + (wrap64 (Int.tmod a0 13)))) == 10) = false := beq_eq_false_iff_ne.mpr c34
            have c34b1 : ((wrap64 (1 + (wrap64 (Int.tmod a0 13)))) != 10) = true := bne_iff_ne.mpr c34
            simp only [Option.some.injEq, Prod.mk.injEq] at H
            obtain ⟨rfl, rfl, rfl, rfl, rfl, rfl, rfl⟩ := H
            have hnb38 := NB347_346.out
            have hnc38 := NB346_347.out
            have hcz39_0 : wc.cell? ⟨gb347, 0, none⟩ = some (.int .i64 (wrap64 (1 + (wrap64 (Int.tmod a0 13))))) := (blk_cell BK347.out 0).trans rfl
            have hcz39_1 : wc.cell? ⟨gb347, 1, none⟩ = some (.int .i64 x348001_2) := (blk_cell BK347.out 1).trans rfl
            have hcz39_2 : wc.cell? ⟨gb347, 2, none⟩ = some (.int .i64 x348002_2) := (blk_cell BK347.out 2).trans rfl
            have hcz39_3 : wc.cell? ⟨gb347, 3, none⟩ = some (.int .i64 x348003_2) := (blk_cell BK347.out 3).trans rfl
            have hcz39_4 : wc.cell? ⟨gb347, 4, none⟩ = some (.int .i64 x348004_2) := (blk_cell BK347.out 4).trans rfl
            have hcz39_5 : wc.cell? ⟨gb347, 5, none⟩ = some (.int .i64 x348005_2) := (blk_cell BK347.out 5).trans rfl
            have hcz39_6 : wc.cell? ⟨gb347, 6, none⟩ = some (.int .u64 x348006_2) := (blk_cell BK347.out 6).trans rfl
            have hfz39_0 := blk_frozen BK347.out 0
            have hfz39_1 := blk_frozen BK347.out 1
            have hfz39_2 := blk_frozen BK347.out 2
            have hfz39_3 := blk_frozen BK347.out 3
            have hfz39_4 := blk_frozen BK347.out 4
            have hfz39_5 := blk_frozen BK347.out 5
            have hfz39_6 := blk_frozen BK347.out 6
            have hcz40_0 : wc.cell? ⟨gb346, 0, none⟩ = some (.int .i64 0) := (blk_cell BK346.out 0).trans rfl
            have hcz40_1 : wc.cell? ⟨gb346, 1, none⟩ = some (.int .i64 0) := (blk_cell BK346.out 1).trans rfl
            have hcz40_2 : wc.cell? ⟨gb346, 2, none⟩ = some (.int .i64 0) := (blk_cell BK346.out 2).trans rfl
            have hcz40_3 : wc.cell? ⟨gb346, 3, none⟩ = some (.int .i64 0) := (blk_cell BK346.out 3).trans rfl
            have hcz40_4 : wc.cell? ⟨gb346, 4, none⟩ = some (.int .i64 0) := (blk_cell BK346.out 4).trans rfl
            have hcz40_5 : wc.cell? ⟨gb346, 5, none⟩ = some (.int .i64 0) := (blk_cell BK346.out 5).trans rfl
            have hcz40_6 : wc.cell? ⟨gb346, 6, none⟩ = some (.int .u64 0) := (blk_cell BK346.out 6).trans rfl
            have hfz40_0 := blk_frozen BK346.out 0
            have hfz40_1 := blk_frozen BK346.out 1
            have hfz40_2 := blk_frozen BK346.out 2
            have hfz40_3 := blk_frozen BK346.out 3
            have hfz40_4 := blk_frozen BK346.out 4
            have hfz40_5 := blk_frozen BK346.out 5
            have hfz40_6 := blk_frozen BK346.out 6
            go_wp2
            refine bodyPost_ret (results_cell_row rfl _ _ gb346 26 #[.int .i64 (wrap64 (1 + (wrap64 (Int.tmod a0 13)))), .int .i64 x348001_2, .int .i64 x348002_2, .int .i64 x348003_2, .int .i64 x348004_2, .int .i64 x348005_2, .int .u64 x348006_2] (0, 0) _ rfl (by (with_reducible repeat (first | refine blk_drewN ?_ _ | refine blk_drew ?_ | refine blk_alloc ?_ _)); refine blk_put (cs := #[.int .i64 (wrap64 (1 + (wrap64 (Int.tmod a0 13)))), .int .i64 x348001_2, .int .i64 x348002_2, .int .i64 x348003_2, .int .i64 x348004_2, .int .i64 x348005_2, .int .u64 0]) ?_ 6 _ (by first | rfl | simp [*]); (with_reducible repeat (first | refine blk_drewN ?_ _ | refine blk_drew ?_ | refine blk_alloc ?_ _)); refine blk_put (cs := #[.int .i64 (wrap64 (1 + (wrap64 (Int.tmod a0 13)))), .int .i64 x348001_2, .int .i64 x348002_2, .int .i64 x348003_2, .int .i64 x348004_2, .int .i64 0, .int .u64 0]) ?_ 5 _ (by first | rfl | simp [*]); (with_reducible repeat (first | refine blk_drewN ?_ _ | refine blk_drew ?_ | refine blk_alloc ?_ _)); refine blk_put (cs := #[.int .i64 (wrap64 (1 + (wrap64 (Int.tmod a0 13)))), .int .i64 x348001_2, .int .i64 x348002_2, .int .i64 x348003_2, .int .i64 0, .int .i64 0, .int .u64 0]) ?_ 4 _ (by first | rfl | simp [*]); (with_reducible repeat (first | refine blk_drewN ?_ _ | refine blk_drew ?_ | refine blk_alloc ?_ _)); refine blk_put (cs := #[.int .i64 (wrap64 (1 + (wrap64 (Int.tmod a0 13)))), .int .i64 x348001_2, .int .i64 x348002_2, .int .i64 0, .int .i64 0, .int .i64 0, .int .u64 0]) ?_ 3 _ (by first | rfl | simp [*]); (with_reducible repeat (first | refine blk_drewN ?_ _ | refine blk_drew ?_ | refine blk_alloc ?_ _)); refine blk_put (cs := #[.int .i64 (wrap64 (1 + (wrap64 (Int.tmod a0 13)))), .int .i64 x348001_2, .int .i64 0, .int .i64 0, .int .i64 0, .int .i64 0, .int .u64 0]) ?_ 2 _ (by first | rfl | simp [*]); (with_reducible repeat (first | refine blk_drewN ?_ _ | refine blk_drew ?_ | refine blk_alloc ?_ _)); refine blk_put (cs := #[.int .i64 (wrap64 (1 + (wrap64 (Int.tmod a0 13)))), .int .i64 0, .int .i64 0, .int .i64 0, .int .i64 0, .int .i64 0, .int .u64 0]) ?_ 1 _ (by first | rfl | simp [*]); (with_reducible repeat (first | refine blk_drewN ?_ _ | refine blk_drew ?_ | refine blk_alloc ?_ _)); refine blk_put (cs := #[.int .i64 0, .int .i64 0, .int .i64 0, .int .i64 0, .int .i64 0, .int .i64 0, .int .u64 0]) ?_ 0 _ (by first | rfl | simp [*]); (with_reducible repeat (first | refine blk_drewN ?_ _ | refine blk_drew ?_ | refine blk_alloc ?_ _)); exact BK346.out) Tryd.underlying26 rfl (by kernel_rfl)) rfl ?_
            exact ⟨by first | rfl | (simp [errW_none, errW_some] <;> rfl) | (simp [*, errW_none, errW_some] <;> rfl), by repeat (first | (with_reducible first | exact HB.out | apply below_alloc | apply pw_below_drewN | apply below_drew1 | refine below_set ?_ GE346.out | refine below_set ?_ GE347.out) | exact HB.out)⟩

end Go.Proofs.YtilmbpdfdickoaaDoor.Print
/- Made: a call that can be told. -/
namespace Go.Proofs.YtilmbpdfdickoaaDoor.Given
open Go.RowKit Go.Proofs.YtilmbpdfdickoaaDoor Go.Proofs.YtilmbpdfdickoaaDoor.Print Go.Proofs.YtilmbpdfdickoaaDoor.Pure Go.Proofs.YtilmbpdfdickoaaDoorW.PrintWords
set_option linter.unusedVariables false
set_option linter.unusedSimpArgs false
theorem goTell_some (c : CallS) : ∀ ks : List UInt8, (∀ x ∈ ks, (tellF x c).isSome = true) → ∃ r, goTell c ks = some r
  | [], _ => ⟨_, rfl⟩
  | k :: ks, h => by
    obtain ⟨s, hs⟩ := Option.isSome_iff_exists.1 (h k List.mem_cons_self)
    obtain ⟨r, hr⟩ := goTell_some c ks (fun x hx => h x (List.mem_cons_of_mem _ hx))
    exact ⟨_, by rw [goTell, hs]; dsimp only; rw [hr]⟩
theorem made_case (c : CallS) (k : Nat) (hk : c.op = (k : Int)) (h : 1 ≤ k ∧ k ≤ 13) (ht : ∀ x ∈ toldL k, (tellF x c).isSome = true) (hp : goPut c (toldL k) (callOf (k : Int)) = c) : ∃ s, printC c = some s := by
  obtain ⟨r, hr⟩ := goTell_some c _ ht
  refine ⟨nameL k ++ r, ?_⟩
  unfold printC
  rw [if_pos (by omega), hk, Int.toNat_natCast, hr]
  dsimp only
  rw [if_pos hp]
theorem tell_nice {c : CallS} (h0 : -1000 ≤ c.nice) (h1 : c.nice ≤ 1000) : (tellF 110 c).isSome = true := by
  show (if -1000 ≤ c.nice ∧ c.nice ≤ 1000 then some (Lib.itoa c.nice) else none : Option (List UInt8)).isSome = true
  rw [if_pos ⟨h0, h1⟩]; rfl
theorem tell_task {c : CallS} (h0 : 0 ≤ c.slot) (h1 : c.slot ≤ 1000000000000) (h2 : 0 ≤ c.gen) (h3 : c.gen ≤ 1000000000000) : (tellF 116 c).isSome = true := by
  show (taskT c.slot c.gen).isSome = true
  unfold taskT
  rw [if_pos ⟨⟨h0, h1⟩, ⟨h2, h3⟩⟩]; rfl
theorem tell_cpu {c : CallS} (h0 : 0 ≤ c.cpu) (h1 : c.cpu ≤ 1000000000000) : (tellF 99 c).isSome = true := by
  show (if mayI c.cpu then some (decI c.cpu) else none : Option (List UInt8)).isSome = true
  rw [if_pos (show mayI c.cpu from ⟨h0, h1⟩)]; rfl
theorem tell_n {c : CallS} (h0 : 0 ≤ c.n) (h1 : c.n ≤ 1000000000000) : (tellF 107 c).isSome = true := by
  show (if mayI c.n then some (decI c.n) else none : Option (List UInt8)).isSome = true
  rw [if_pos (show mayI c.n from ⟨h0, h1⟩)]; rfl
theorem made_ok (a0 a1 : Int) (h0 : u64I a0) (h1 : u64I a1) : ∃ c : CallS, turnspitlaw15_Made.f 2 a0 a1 = some (c.op, c.slot, c.gen, c.cpu, c.n, c.nice, c.mask) ∧ OkC c ∧ ∃ s, printC c = some s := by
  obtain ⟨h0a, h0b⟩ := h0
  obtain ⟨h1a, h1b⟩ := h1
  unfold turnspitlaw15_Made.f
  have t13 : Int.tmod a0 13 = a0 % 13 := Int.tmod_eq_emod_of_nonneg h0a
  have d13 : Int.tdiv a0 13 = a0 / 13 := Int.tdiv_eq_ediv_of_nonneg h0a
  have t1000 : Int.tmod a1 1000 = a1 % 1000 := Int.tmod_eq_emod_of_nonneg h1a
  have d1000 : Int.tdiv a1 1000 = a1 / 1000 := Int.tdiv_eq_ediv_of_nonneg h1a
  have u1 : IntKind.u64.wrap (a0 / 13) = a0 / 13 := by rw [IntKind.wrap_u64]; omega
  have u2 : IntKind.u64.wrap (a1 / 1000) = a1 / 1000 := by rw [IntKind.wrap_u64]; omega
  have m1 : Int.tmod (a0 / 13) 1000000 = (a0 / 13) % 1000000 := Int.tmod_eq_emod_of_nonneg (by omega)
  have m2 : Int.tmod (a1 / 1000) 70 = (a1 / 1000) % 70 := Int.tmod_eq_emod_of_nonneg (by omega)
  have m3 : Int.tmod (a1 / 1000) 41 = (a1 / 1000) % 41 := Int.tmod_eq_emod_of_nonneg (by omega)
  have e1 : wrap64 (1 + wrap64 (Int.tmod a0 13)) = 1 + a0 % 13 := by rw [t13]; unfold wrap64; omega
  have e2 : wrap64 (Int.tmod (IntKind.u64.wrap (Int.tdiv a0 13)) 1000000) = (a0 / 13) % 1000000 := by rw [d13, u1, m1]; unfold wrap64; omega
  have e3 : wrap64 (Int.tmod a1 1000) = a1 % 1000 := by rw [t1000]; unfold wrap64; omega
  have e4 : wrap64 (a1 % 1000 - 500) = a1 % 1000 - 500 := by unfold wrap64; omega
  have e5 : wrap64 (Int.tmod (IntKind.u64.wrap (Int.tdiv a1 1000)) 70) = (a1 / 1000) % 70 := by rw [d1000, u2, m2]; unfold wrap64; omega
  have e6 : wrap64 (wrap64 (Int.tmod (IntKind.u64.wrap (Int.tdiv a1 1000)) 41) - 20) = (a1 / 1000) % 41 - 20 := by rw [d1000, u2, m3]; unfold wrap64; omega
  simp only [turnspitlaw15_Made.j0, turnspitlaw15_Made.j1, e1, e2, e3, e4, e5, e6]
  have hz : -500 ≤ a1 % 1000 - 500 ∧ a1 % 1000 - 500 ≤ 499 := by omega
  have hx : 0 ≤ (a0 / 13) % 1000000 ∧ (a0 / 13) % 1000000 ≤ 999999 := by omega
  have hy : 0 ≤ a1 % 1000 ∧ a1 % 1000 ≤ 999 := by omega
  have hp : 0 ≤ (a1 / 1000) % 70 ∧ (a1 / 1000) % 70 ≤ 69 := by omega
  have hq : -20 ≤ (a1 / 1000) % 41 - 20 ∧ (a1 / 1000) % 41 - 20 ≤ 20 := by omega
  have ho : 1 ≤ 1 + a0 % 13 ∧ 1 + a0 % 13 ≤ 13 := by omega
  generalize a1 % 1000 - 500 = z at hz ⊢
  generalize (a0 / 13) % 1000000 = x at hx ⊢
  generalize a1 % 1000 = y at hy ⊢
  generalize (a1 / 1000) % 70 = p at hp ⊢
  generalize (a1 / 1000) % 41 - 20 = q at hq ⊢
  generalize 1 + a0 % 13 = o at ho ⊢
  clear t13 d13 t1000 d1000 u1 u2 m1 m2 m3 e1 e2 e3 e4 e5 e6
  have hc : o = 1 ∨ o = 2 ∨ o = 3 ∨ o = 4 ∨ o = 5 ∨ o = 6 ∨ o = 7 ∨ o = 8 ∨ o = 9 ∨ o = 10 ∨ o = 11 ∨ o = 12 ∨ o = 13 := by omega
  rcases hc with rfl | rfl | rfl | rfl | rfl | rfl | rfl | rfl | rfl | rfl | rfl | rfl | rfl
  · exact ⟨⟨1, 0, 0, 0, 0, z, a0⟩, rfl, ⟨⟨by dsimp only; omega, by dsimp only; omega⟩, ⟨by dsimp only; omega, by dsimp only; omega⟩, ⟨by dsimp only; omega, by dsimp only; omega⟩, ⟨by dsimp only; omega, by dsimp only; omega⟩, ⟨by dsimp only; omega, by dsimp only; omega⟩, ⟨by dsimp only; omega, by dsimp only; omega⟩, ⟨by dsimp only; omega, by dsimp only; omega⟩⟩, made_case ⟨1, 0, 0, 0, 0, z, a0⟩ 1 rfl (by omega) (fun x_ hx => by rcases List.mem_cons.1 hx with rfl | hx; exact tell_nice (by dsimp only; omega) (by dsimp only; omega); rcases List.mem_cons.1 hx with rfl | hx; exact rfl; cases hx) rfl⟩
  · exact ⟨⟨2, y, x, 0, 0, 0, 0⟩, rfl, ⟨⟨by dsimp only; omega, by dsimp only; omega⟩, ⟨by dsimp only; omega, by dsimp only; omega⟩, ⟨by dsimp only; omega, by dsimp only; omega⟩, ⟨by dsimp only; omega, by dsimp only; omega⟩, ⟨by dsimp only; omega, by dsimp only; omega⟩, ⟨by dsimp only; omega, by dsimp only; omega⟩, ⟨by dsimp only; omega, by dsimp only; omega⟩⟩, made_case ⟨2, y, x, 0, 0, 0, 0⟩ 2 rfl (by omega) (fun x_ hx => by rcases List.mem_cons.1 hx with rfl | hx; exact tell_task (by dsimp only; omega) (by dsimp only; omega) (by dsimp only; omega) (by dsimp only; omega); cases hx) rfl⟩
  · exact ⟨⟨3, y, x, 0, 0, 0, 0⟩, rfl, ⟨⟨by dsimp only; omega, by dsimp only; omega⟩, ⟨by dsimp only; omega, by dsimp only; omega⟩, ⟨by dsimp only; omega, by dsimp only; omega⟩, ⟨by dsimp only; omega, by dsimp only; omega⟩, ⟨by dsimp only; omega, by dsimp only; omega⟩, ⟨by dsimp only; omega, by dsimp only; omega⟩, ⟨by dsimp only; omega, by dsimp only; omega⟩⟩, made_case ⟨3, y, x, 0, 0, 0, 0⟩ 3 rfl (by omega) (fun x_ hx => by rcases List.mem_cons.1 hx with rfl | hx; exact tell_task (by dsimp only; omega) (by dsimp only; omega) (by dsimp only; omega) (by dsimp only; omega); cases hx) rfl⟩
  · exact ⟨⟨4, 0, 0, x, 0, 0, 0⟩, rfl, ⟨⟨by dsimp only; omega, by dsimp only; omega⟩, ⟨by dsimp only; omega, by dsimp only; omega⟩, ⟨by dsimp only; omega, by dsimp only; omega⟩, ⟨by dsimp only; omega, by dsimp only; omega⟩, ⟨by dsimp only; omega, by dsimp only; omega⟩, ⟨by dsimp only; omega, by dsimp only; omega⟩, ⟨by dsimp only; omega, by dsimp only; omega⟩⟩, made_case ⟨4, 0, 0, x, 0, 0, 0⟩ 4 rfl (by omega) (fun x_ hx => by rcases List.mem_cons.1 hx with rfl | hx; exact tell_cpu (by dsimp only; omega) (by dsimp only; omega); cases hx) rfl⟩
  · exact ⟨⟨5, 0, 0, x, 0, 0, 0⟩, rfl, ⟨⟨by dsimp only; omega, by dsimp only; omega⟩, ⟨by dsimp only; omega, by dsimp only; omega⟩, ⟨by dsimp only; omega, by dsimp only; omega⟩, ⟨by dsimp only; omega, by dsimp only; omega⟩, ⟨by dsimp only; omega, by dsimp only; omega⟩, ⟨by dsimp only; omega, by dsimp only; omega⟩, ⟨by dsimp only; omega, by dsimp only; omega⟩⟩, made_case ⟨5, 0, 0, x, 0, 0, 0⟩ 5 rfl (by omega) (fun x_ hx => by rcases List.mem_cons.1 hx with rfl | hx; exact tell_cpu (by dsimp only; omega) (by dsimp only; omega); cases hx) rfl⟩
  · exact ⟨⟨6, 0, 0, y, x, 0, 0⟩, rfl, ⟨⟨by dsimp only; omega, by dsimp only; omega⟩, ⟨by dsimp only; omega, by dsimp only; omega⟩, ⟨by dsimp only; omega, by dsimp only; omega⟩, ⟨by dsimp only; omega, by dsimp only; omega⟩, ⟨by dsimp only; omega, by dsimp only; omega⟩, ⟨by dsimp only; omega, by dsimp only; omega⟩, ⟨by dsimp only; omega, by dsimp only; omega⟩⟩, made_case ⟨6, 0, 0, y, x, 0, 0⟩ 6 rfl (by omega) (fun x_ hx => by rcases List.mem_cons.1 hx with rfl | hx; exact tell_cpu (by dsimp only; omega) (by dsimp only; omega); rcases List.mem_cons.1 hx with rfl | hx; exact tell_n (by dsimp only; omega) (by dsimp only; omega); cases hx) rfl⟩
  · exact ⟨⟨7, 0, 0, x, 0, 0, 0⟩, rfl, ⟨⟨by dsimp only; omega, by dsimp only; omega⟩, ⟨by dsimp only; omega, by dsimp only; omega⟩, ⟨by dsimp only; omega, by dsimp only; omega⟩, ⟨by dsimp only; omega, by dsimp only; omega⟩, ⟨by dsimp only; omega, by dsimp only; omega⟩, ⟨by dsimp only; omega, by dsimp only; omega⟩, ⟨by dsimp only; omega, by dsimp only; omega⟩⟩, made_case ⟨7, 0, 0, x, 0, 0, 0⟩ 7 rfl (by omega) (fun x_ hx => by rcases List.mem_cons.1 hx with rfl | hx; exact tell_cpu (by dsimp only; omega) (by dsimp only; omega); cases hx) rfl⟩
  · exact ⟨⟨8, y, x, p, 0, 0, 0⟩, rfl, ⟨⟨by dsimp only; omega, by dsimp only; omega⟩, ⟨by dsimp only; omega, by dsimp only; omega⟩, ⟨by dsimp only; omega, by dsimp only; omega⟩, ⟨by dsimp only; omega, by dsimp only; omega⟩, ⟨by dsimp only; omega, by dsimp only; omega⟩, ⟨by dsimp only; omega, by dsimp only; omega⟩, ⟨by dsimp only; omega, by dsimp only; omega⟩⟩, made_case ⟨8, y, x, p, 0, 0, 0⟩ 8 rfl (by omega) (fun x_ hx => by rcases List.mem_cons.1 hx with rfl | hx; exact tell_task (by dsimp only; omega) (by dsimp only; omega) (by dsimp only; omega) (by dsimp only; omega); rcases List.mem_cons.1 hx with rfl | hx; exact tell_cpu (by dsimp only; omega) (by dsimp only; omega); cases hx) rfl⟩
  · exact ⟨⟨9, y, x, 0, 0, 0, a1⟩, rfl, ⟨⟨by dsimp only; omega, by dsimp only; omega⟩, ⟨by dsimp only; omega, by dsimp only; omega⟩, ⟨by dsimp only; omega, by dsimp only; omega⟩, ⟨by dsimp only; omega, by dsimp only; omega⟩, ⟨by dsimp only; omega, by dsimp only; omega⟩, ⟨by dsimp only; omega, by dsimp only; omega⟩, ⟨by dsimp only; omega, by dsimp only; omega⟩⟩, made_case ⟨9, y, x, 0, 0, 0, a1⟩ 9 rfl (by omega) (fun x_ hx => by rcases List.mem_cons.1 hx with rfl | hx; exact tell_task (by dsimp only; omega) (by dsimp only; omega) (by dsimp only; omega) (by dsimp only; omega); rcases List.mem_cons.1 hx with rfl | hx; exact rfl; cases hx) rfl⟩
  · exact ⟨⟨10, y, x, 0, 0, q, 0⟩, rfl, ⟨⟨by dsimp only; omega, by dsimp only; omega⟩, ⟨by dsimp only; omega, by dsimp only; omega⟩, ⟨by dsimp only; omega, by dsimp only; omega⟩, ⟨by dsimp only; omega, by dsimp only; omega⟩, ⟨by dsimp only; omega, by dsimp only; omega⟩, ⟨by dsimp only; omega, by dsimp only; omega⟩, ⟨by dsimp only; omega, by dsimp only; omega⟩⟩, made_case ⟨10, y, x, 0, 0, q, 0⟩ 10 rfl (by omega) (fun x_ hx => by rcases List.mem_cons.1 hx with rfl | hx; exact tell_task (by dsimp only; omega) (by dsimp only; omega) (by dsimp only; omega) (by dsimp only; omega); rcases List.mem_cons.1 hx with rfl | hx; exact tell_nice (by dsimp only; omega) (by dsimp only; omega); cases hx) rfl⟩
  · exact ⟨⟨11, 0, 0, y, x, 0, 0⟩, rfl, ⟨⟨by dsimp only; omega, by dsimp only; omega⟩, ⟨by dsimp only; omega, by dsimp only; omega⟩, ⟨by dsimp only; omega, by dsimp only; omega⟩, ⟨by dsimp only; omega, by dsimp only; omega⟩, ⟨by dsimp only; omega, by dsimp only; omega⟩, ⟨by dsimp only; omega, by dsimp only; omega⟩, ⟨by dsimp only; omega, by dsimp only; omega⟩⟩, made_case ⟨11, 0, 0, y, x, 0, 0⟩ 11 rfl (by omega) (fun x_ hx => by rcases List.mem_cons.1 hx with rfl | hx; exact tell_cpu (by dsimp only; omega) (by dsimp only; omega); rcases List.mem_cons.1 hx with rfl | hx; exact tell_n (by dsimp only; omega) (by dsimp only; omega); cases hx) rfl⟩
  · exact ⟨⟨12, 0, 0, x, 0, 0, 0⟩, rfl, ⟨⟨by dsimp only; omega, by dsimp only; omega⟩, ⟨by dsimp only; omega, by dsimp only; omega⟩, ⟨by dsimp only; omega, by dsimp only; omega⟩, ⟨by dsimp only; omega, by dsimp only; omega⟩, ⟨by dsimp only; omega, by dsimp only; omega⟩, ⟨by dsimp only; omega, by dsimp only; omega⟩, ⟨by dsimp only; omega, by dsimp only; omega⟩⟩, made_case ⟨12, 0, 0, x, 0, 0, 0⟩ 12 rfl (by omega) (fun x_ hx => by rcases List.mem_cons.1 hx with rfl | hx; exact tell_cpu (by dsimp only; omega) (by dsimp only; omega); cases hx) rfl⟩
  · exact ⟨⟨13, y, x, 0, 0, 0, 0⟩, rfl, ⟨⟨by dsimp only; omega, by dsimp only; omega⟩, ⟨by dsimp only; omega, by dsimp only; omega⟩, ⟨by dsimp only; omega, by dsimp only; omega⟩, ⟨by dsimp only; omega, by dsimp only; omega⟩, ⟨by dsimp only; omega, by dsimp only; omega⟩, ⟨by dsimp only; omega, by dsimp only; omega⟩, ⟨by dsimp only; omega, by dsimp only; omega⟩⟩, made_case ⟨13, y, x, 0, 0, 0, 0⟩ 13 rfl (by omega) (fun x_ hx => by rcases List.mem_cons.1 hx with rfl | hx; exact tell_task (by dsimp only; omega) (by dsimp only; omega) (by dsimp only; omega) (by dsimp only; omega); cases hx) rfl⟩
end Go.Proofs.YtilmbpdfdickoaaDoor.Given
/- Contracts as the laws want them. -/
namespace Go.Proofs.YtilmbpdfdickoaaDoor
open Go.RowKit Go.Proofs.YtilmbpdfdickoaaDoor.Given Go.Proofs.YtilmbpdfdickoaaDoor.Print Go.Proofs.YtilmbpdfdickoaaDoor.Pure Go.Proofs.YtilmbpdfdickoaaDoorW.PrintWords Go.Proofs.YtilmbpdfdickoaaDoorW.PrintLast Go.Proofs.YtilmbpdfdickoaaDoorW.PrintMore
set_option linter.unusedVariables false
set_option linter.unusedSimpArgs false
theorem u64_of {a : Int} (h : (Lit.int .u64 a).wf = true) : u64I a := by
  have h_ := h
  simp [Lit.wf, IntKind.min, IntKind.max, IntKind.signed, IntKind.bits] at h_
  exact ⟨by omega, by omega⟩
theorem i64_of {a : Int} (h : (Lit.int .i64 a).wf = true) : I64 a := by
  have h_ := h
  simp [Lit.wf, IntKind.min, IntKind.max, IntKind.signed, IntKind.bits] at h_
  exact ⟨by omega, by omega⟩
theorem print_ok {c : CallS} {s : List UInt8} (ho : OkC c) (hs : printC c = some s) (w : World) (HLd : Ld w) :
    Calls Tryd.prog 10 #[.agg #[.int .i64 c.op, .int .i64 c.slot, .int .i64 c.gen, .int .i64 c.cpu, .int .i64 c.n, .int .i64 c.nice, .int .u64 c.mask]] w fun e w' => e = .returned (.tuple #[.string ⟨s.toArray⟩, .int .i64 0]) ∧ Below w.heap.size w w' := by
  refine (print_c c ho w HLd).mono ?_
  rintro e w' ⟨he, hb⟩
  have hp : printCS c = (s, 0) := by unfold printCS; rw [hs]
  exact ⟨by rw [he, hp], hb⟩
theorem print_no {c : CallS} (ho : OkC c) (hs : printC c = none) (w : World) (HLd : Ld w) :
    Calls Tryd.prog 10 #[.agg #[.int .i64 c.op, .int .i64 c.slot, .int .i64 c.gen, .int .i64 c.cpu, .int .i64 c.n, .int .i64 c.nice, .int .u64 c.mask]] w fun e w' => e = .returned (.tuple #[.string ⟨#[]⟩, .int .i64 1]) ∧ Below w.heap.size w w' := by
  refine (print_c c ho w HLd).mono ?_
  rintro e w' ⟨he, hb⟩
  have hp : printCS c = ([], 1) := by unfold printCS; rw [hs]
  exact ⟨by rw [he, hp], hb⟩
theorem parse_as {s : ByteArray} {c : CallS} {r : Int} (hs : s.size ≤ 4000000000) (hp : parseCS s.data.toList = (c, r)) (w : World) (HLd : Ld w) :
    Calls Tryd.prog 13 #[.string s] w fun e w' => e = .returned (.tuple #[.agg #[.int .i64 c.op, .int .i64 c.slot, .int .i64 c.gen, .int .i64 c.cpu, .int .i64 c.n, .int .i64 c.nice, .int .u64 c.mask], .int .i64 r]) ∧ Below w.heap.size w w' := by
  refine (parse15_c s hs w HLd).mono ?_
  rintro e w' ⟨he, hb⟩
  exact ⟨by rw [he, hp]; rfl, hb⟩
theorem say_as {a : AnsS} {s : List UInt8} {r : Int} (he : I64 a.errno) (hn : I64 a.n) (h1 : I64 a.slot) (h2 : I64 a.gen) (hp : sayS a = (s, r)) (w : World) (HLd : Ld w) :
    Calls Tryd.prog 15 #[.agg #[.int .i64 a.errno, .int .i64 a.n, .int .i64 a.slot, .int .i64 a.gen]] w fun e w' => e = .returned (.tuple #[.string ⟨s.toArray⟩, .int .i64 r]) ∧ Below w.heap.size w w' :=
  calls_Say.calls _ _ _ _ _ _ w HLd (by unfold calls_Say.f; rw [if_pos ⟨he, hn, h1, h2⟩, hp])
theorem hear_as {s : ByteArray} {a : AnsS} {r : Int} (hs : s.size ≤ 4000000000) (hp : hearS s.data.toList = (a, r)) (w : World) (HLd : Ld w) :
    Calls Tryd.prog 17 #[.string s] w fun e w' => e = .returned (.tuple #[.agg #[.int .i64 a.errno, .int .i64 a.n, .int .i64 a.slot, .int .i64 a.gen], .int .i64 r]) ∧ Below w.heap.size w w' := by
  refine (hear_c s hs w HLd).mono ?_
  rintro e w' ⟨he, hb⟩
  exact ⟨by rw [he, hp]; rfl, hb⟩
theorem call_eq (a b : CallS) : (a.op == b.op && ((a.slot == b.slot && (a.gen == b.gen)) && (a.cpu == b.cpu && (a.n == b.n && (a.nice == b.nice && (a.mask == b.mask)))))) = decide (a = b) := by
  by_cases h : a = b
  · rw [decide_eq_true h, h]; simp
  · rw [decide_eq_false h]; exact call_ne h
end Go.Proofs.YtilmbpdfdickoaaDoor

/- MaskPuts: the walk. -/
import Derived.Test.YtdghjigeddphaaaGA
namespace Go.Proofs.Ytdghjigeddphaaa
open Go.RowKit Go.Proofs.Ytdghjigeddphaaa.Given Go.Proofs.Ytdghjigeddphaaa.Print Go.Proofs.Ytdghjigeddphaaa.Pure Go.Proofs.YtdghjigeddphaaaW.PrintWords
set_option linter.unusedVariables false
set_option linter.unusedSimpArgs false
set_option maxHeartbeats 4000000 in
set_option maxRecDepth 100000 in
theorem puts_110 (m c d a b n : Int) (hd : Bool) (w : World) (h0 : ¬ (0 ≤ c ∧ c ≤ 63)) (t3 : (c != d) = false) (ha : u64 a) (hb : u64 b) (hm : u64 m) (s1 : mask_With.f m c = some a) (s2 : mask_Without.f m c = some b) (s3 : hasB a c = false) (s4 : hasB b c = false) (s5 : hasB m c = false) (t4 : bits .or .u64 a b = a) (e1 : (b == m) = true) :
    Calls Try.prog 7 #[.int .u64 m, .int .i64 c, .int .i64 d] w fun e w' => e = .returned (.bool true) ∧ Below w.heap.size w w' := by
  have S1 := Aside0.mk s1
  clear s1
  have S2 := Aside0.mk s2
  clear s2
  have S3 := Aside0.mk s3
  clear s3
  have S4 := Aside0.mk s4
  clear s4
  have S5 := Aside0.mk s5
  clear s5
  have Ha := Aside0.mk ha
  clear ha
  have Hb := Aside0.mk hb
  clear hb
  have Hm := Aside0.mk hm
  clear hm
  by_cases t1 : 0 ≤ c
  · have t2 : decide (c ≤ 63) = false := decide_eq_false (fun h => h0 ⟨t1, h⟩)
    have t1 := decide_eq_true t1
    clear h0
    go_enter Try.func7, Try.ntmps7
    go_wp2_with fail
    refine (mask_With.calls m c a _ S1.out).mono ?_
    rintro e w1 ⟨rfl, hd⟩
    have hb := Drawn0.below hd
    clear hd
    have HB1 := Aside0.mk (below_step (Below.refl w.heap.size w) hb)
    clear hb
    go_wp2_with fail
    refine (mask_Without.calls m c b _ S2.out).mono ?_
    rintro e w2 ⟨rfl, hd⟩
    have hb := Drawn0.below hd
    clear hd
    have HB2 := Aside0.mk (below_step HB1.out hb)
    clear hb
    go_wp2_with fail
    refine (has_c a c _ _ ⟨Ha.out, S3.out⟩).mono ?_
    rintro e w3 ⟨rfl, hb⟩
    have HB3 := Aside0.mk (below_step HB2.out hb)
    clear hb
    go_wp2_with fail
    refine (has_c b c false _ ⟨Hb.out, S4.out⟩).mono ?_
    rintro e w4 ⟨rfl, hb⟩
    have HB4 := Aside0.mk (below_step HB3.out hb)
    clear hb
    go_wp2_with fail
    refine (turnspitlaw04_awake.calls true _ rfl).mono ?_
    rintro e w5 ⟨rfl, hb⟩
    have HB5 := Aside0.mk (below_step HB4.out hb)
    clear hb
    go_wp2_with fail
    refine (has_c m c _ _ ⟨Hm.out, S5.out⟩).mono ?_
    rintro e w6 ⟨rfl, hb⟩
    have HB6 := Aside0.mk (below_step HB5.out hb)
    clear hb
    go_wp2_with fail
    refine (has_c m c _ _ ⟨Hm.out, S5.out⟩).mono ?_
    rintro e w7 ⟨rfl, hb⟩
    have HB7 := Aside0.mk (below_step HB6.out hb)
    clear hb
    go_wp2_with fail
    go_ret
    exact ⟨rfl, by repeat (first | exact HB7.out | apply below_alloc | apply pw_below_drewN)⟩
  · have t1 := decide_eq_false t1
    clear h0
    go_enter Try.func7, Try.ntmps7
    go_wp2_with fail
    refine (mask_With.calls m c a _ S1.out).mono ?_
    rintro e w1 ⟨rfl, hd⟩
    have hb := Drawn0.below hd
    clear hd
    have HB1 := Aside0.mk (below_step (Below.refl w.heap.size w) hb)
    clear hb
    go_wp2_with fail
    refine (mask_Without.calls m c b _ S2.out).mono ?_
    rintro e w2 ⟨rfl, hd⟩
    have hb := Drawn0.below hd
    clear hd
    have HB2 := Aside0.mk (below_step HB1.out hb)
    clear hb
    go_wp2_with fail
    refine (has_c a c _ _ ⟨Ha.out, S3.out⟩).mono ?_
    rintro e w3 ⟨rfl, hb⟩
    have HB3 := Aside0.mk (below_step HB2.out hb)
    clear hb
    go_wp2_with fail
    refine (has_c b c false _ ⟨Hb.out, S4.out⟩).mono ?_
    rintro e w4 ⟨rfl, hb⟩
    have HB4 := Aside0.mk (below_step HB3.out hb)
    clear hb
    go_wp2_with fail
    refine (turnspitlaw04_awake.calls true _ rfl).mono ?_
    rintro e w5 ⟨rfl, hb⟩
    have HB5 := Aside0.mk (below_step HB4.out hb)
    clear hb
    go_wp2_with fail
    refine (has_c m c _ _ ⟨Hm.out, S5.out⟩).mono ?_
    rintro e w6 ⟨rfl, hb⟩
    have HB6 := Aside0.mk (below_step HB5.out hb)
    clear hb
    go_wp2_with fail
    refine (has_c m c _ _ ⟨Hm.out, S5.out⟩).mono ?_
    rintro e w7 ⟨rfl, hb⟩
    have HB7 := Aside0.mk (below_step HB6.out hb)
    clear hb
    go_wp2_with fail
    go_ret
    exact ⟨rfl, by repeat (first | exact HB7.out | apply below_alloc | apply pw_below_drewN)⟩
set_option maxHeartbeats 4000000 in
set_option maxRecDepth 100000 in
theorem puts_101 (m c d a b n : Int) (hd : Bool) (w : World) (t1 : decide (0 ≤ c) = true) (t2 : decide (c ≤ 63) = true) (t3 : (c != d) = false) (ha : u64 a) (hb : u64 b) (hm : u64 m) (s1 : mask_With.f m c = some a) (s2 : mask_Without.f m c = some b) (s3 : hasB a c = true) (s4 : hasB b c = false) (s5 : hasB m c = true) (t4 : bits .or .u64 a b = a) (s9 : mask_Count.f a = some (n + 1)) (s10 : mask_Count.f b = some n) (hn0 : 0 ≤ n) (hn1 : n ≤ 64) (e1 : (a == m) = true) :
    Calls Try.prog 7 #[.int .u64 m, .int .i64 c, .int .i64 d] w fun e w' => e = .returned (.bool true) ∧ Below w.heap.size w w' := by
  have S1 := Aside0.mk s1
  clear s1
  have S2 := Aside0.mk s2
  clear s2
  have S3 := Aside0.mk s3
  clear s3
  have S4 := Aside0.mk s4
  clear s4
  have S5 := Aside0.mk s5
  clear s5
  have S9 := Aside0.mk s9
  clear s9
  have S10 := Aside0.mk s10
  clear s10
  have Ha := Aside0.mk ha
  clear ha
  have Hb := Aside0.mk hb
  clear hb
  have Hm := Aside0.mk hm
  clear hm
  go_enter Try.func7, Try.ntmps7
  go_wp2_with fail
  refine (mask_With.calls m c a _ S1.out).mono ?_
  rintro e w1 ⟨rfl, hd⟩
  have hb := Drawn0.below hd
  clear hd
  have HB1 := Aside0.mk (below_step (Below.refl w.heap.size w) hb)
  clear hb
  go_wp2_with fail
  refine (mask_Without.calls m c b _ S2.out).mono ?_
  rintro e w2 ⟨rfl, hd⟩
  have hb := Drawn0.below hd
  clear hd
  have HB2 := Aside0.mk (below_step HB1.out hb)
  clear hb
  go_wp2_with fail
  refine (has_c a c _ _ ⟨Ha.out, S3.out⟩).mono ?_
  rintro e w3 ⟨rfl, hb⟩
  have HB3 := Aside0.mk (below_step HB2.out hb)
  clear hb
  go_wp2_with fail
  refine (has_c b c false _ ⟨Hb.out, S4.out⟩).mono ?_
  rintro e w4 ⟨rfl, hb⟩
  have HB4 := Aside0.mk (below_step HB3.out hb)
  clear hb
  go_wp2_with fail
  refine (turnspitlaw04_awake.calls true _ rfl).mono ?_
  rintro e w5 ⟨rfl, hb⟩
  have HB5 := Aside0.mk (below_step HB4.out hb)
  clear hb
  go_wp2_with fail
  refine (mask_Count.calls a _ _ S9.out).mono ?_
  rintro e w6 ⟨rfl, hb⟩
  have HB6 := Aside0.mk (below_step HB5.out hb)
  clear hb
  go_wp2_with fail
  refine (mask_Count.calls b _ _ S10.out).mono ?_
  rintro e w7 ⟨rfl, hb⟩
  have HB7 := Aside0.mk (below_step HB6.out hb)
  clear hb
  go_wp2_with fail
  refine (has_c m c _ _ ⟨Hm.out, S5.out⟩).mono ?_
  rintro e w8 ⟨rfl, hb⟩
  have HB8 := Aside0.mk (below_step HB7.out hb)
  clear hb
  go_wp2_with fail
  go_ret
  exact ⟨rfl, by repeat (first | exact HB8.out | apply below_alloc | apply pw_below_drewN)⟩
set_option maxHeartbeats 4000000 in
set_option maxRecDepth 100000 in
theorem puts_100 (m c d a b n : Int) (hd : Bool) (w : World) (t1 : decide (0 ≤ c) = true) (t2 : decide (c ≤ 63) = true) (t3 : (c != d) = false) (ha : u64 a) (hb : u64 b) (hm : u64 m) (s1 : mask_With.f m c = some a) (s2 : mask_Without.f m c = some b) (s3 : hasB a c = true) (s4 : hasB b c = false) (s5 : hasB m c = false) (t4 : bits .or .u64 a b = a) (s9 : mask_Count.f a = some (n + 1)) (s10 : mask_Count.f b = some n) (hn0 : 0 ≤ n) (hn1 : n ≤ 64) (e1 : (b == m) = true) :
    Calls Try.prog 7 #[.int .u64 m, .int .i64 c, .int .i64 d] w fun e w' => e = .returned (.bool true) ∧ Below w.heap.size w w' := by
  have S1 := Aside0.mk s1
  clear s1
  have S2 := Aside0.mk s2
  clear s2
  have S3 := Aside0.mk s3
  clear s3
  have S4 := Aside0.mk s4
  clear s4
  have S5 := Aside0.mk s5
  clear s5
  have S9 := Aside0.mk s9
  clear s9
  have S10 := Aside0.mk s10
  clear s10
  have Ha := Aside0.mk ha
  clear ha
  have Hb := Aside0.mk hb
  clear hb
  have Hm := Aside0.mk hm
  clear hm
  go_enter Try.func7, Try.ntmps7
  go_wp2_with fail
  refine (mask_With.calls m c a _ S1.out).mono ?_
  rintro e w1 ⟨rfl, hd⟩
  have hb := Drawn0.below hd
  clear hd
  have HB1 := Aside0.mk (below_step (Below.refl w.heap.size w) hb)
  clear hb
  go_wp2_with fail
  refine (mask_Without.calls m c b _ S2.out).mono ?_
  rintro e w2 ⟨rfl, hd⟩
  have hb := Drawn0.below hd
  clear hd
  have HB2 := Aside0.mk (below_step HB1.out hb)
  clear hb
  go_wp2_with fail
  refine (has_c a c _ _ ⟨Ha.out, S3.out⟩).mono ?_
  rintro e w3 ⟨rfl, hb⟩
  have HB3 := Aside0.mk (below_step HB2.out hb)
  clear hb
  go_wp2_with fail
  refine (has_c b c false _ ⟨Hb.out, S4.out⟩).mono ?_
  rintro e w4 ⟨rfl, hb⟩
  have HB4 := Aside0.mk (below_step HB3.out hb)
  clear hb
  go_wp2_with fail
  refine (turnspitlaw04_awake.calls true _ rfl).mono ?_
  rintro e w5 ⟨rfl, hb⟩
  have HB5 := Aside0.mk (below_step HB4.out hb)
  clear hb
  go_wp2_with fail
  refine (mask_Count.calls a _ _ S9.out).mono ?_
  rintro e w6 ⟨rfl, hb⟩
  have HB6 := Aside0.mk (below_step HB5.out hb)
  clear hb
  go_wp2_with fail
  refine (mask_Count.calls b _ _ S10.out).mono ?_
  rintro e w7 ⟨rfl, hb⟩
  have HB7 := Aside0.mk (below_step HB6.out hb)
  clear hb
  go_wp2_with fail
  refine (has_c m c _ _ ⟨Hm.out, S5.out⟩).mono ?_
  rintro e w8 ⟨rfl, hb⟩
  have HB8 := Aside0.mk (below_step HB7.out hb)
  clear hb
  go_wp2_with fail
  refine (has_c m c _ _ ⟨Hm.out, S5.out⟩).mono ?_
  rintro e w9 ⟨rfl, hb⟩
  have HB9 := Aside0.mk (below_step HB8.out hb)
  clear hb
  go_wp2_with fail
  go_ret
  exact ⟨rfl, by repeat (first | exact HB9.out | apply below_alloc | apply pw_below_drewN)⟩
set_option maxHeartbeats 4000000 in
set_option maxRecDepth 100000 in
theorem puts_010 (m c d a b n : Int) (hd : Bool) (w : World) (h0 : ¬ (0 ≤ c ∧ c ≤ 63)) (t3 : (c != d) = true) (ha : u64 a) (hb : u64 b) (hm : u64 m) (s1 : mask_With.f m c = some a) (s2 : mask_Without.f m c = some b) (s3 : hasB a c = false) (s4 : hasB b c = false) (s5 : hasB m c = false) (s6 : hasB a d = hd) (s7 : hasB m d = hd) (s8 : hasB b d = hd) (t4 : bits .or .u64 a b = a) (e1 : (b == m) = true) :
    Calls Try.prog 7 #[.int .u64 m, .int .i64 c, .int .i64 d] w fun e w' => e = .returned (.bool true) ∧ Below w.heap.size w w' := by
  have S1 := Aside0.mk s1
  clear s1
  have S2 := Aside0.mk s2
  clear s2
  have S3 := Aside0.mk s3
  clear s3
  have S4 := Aside0.mk s4
  clear s4
  have S5 := Aside0.mk s5
  clear s5
  have S6 := Aside0.mk s6
  clear s6
  have S7 := Aside0.mk s7
  clear s7
  have S8 := Aside0.mk s8
  clear s8
  have Ha := Aside0.mk ha
  clear ha
  have Hb := Aside0.mk hb
  clear hb
  have Hm := Aside0.mk hm
  clear hm
  by_cases t1 : 0 ≤ c
  · have t2 : decide (c ≤ 63) = false := decide_eq_false (fun h => h0 ⟨t1, h⟩)
    have t1 := decide_eq_true t1
    clear h0
    go_enter Try.func7, Try.ntmps7
    go_wp2_with fail
    refine (mask_With.calls m c a _ S1.out).mono ?_
    rintro e w1 ⟨rfl, hd⟩
    have hb := Drawn0.below hd
    clear hd
    have HB1 := Aside0.mk (below_step (Below.refl w.heap.size w) hb)
    clear hb
    go_wp2_with fail
    refine (mask_Without.calls m c b _ S2.out).mono ?_
    rintro e w2 ⟨rfl, hd⟩
    have hb := Drawn0.below hd
    clear hd
    have HB2 := Aside0.mk (below_step HB1.out hb)
    clear hb
    go_wp2_with fail
    refine (has_c a c _ _ ⟨Ha.out, S3.out⟩).mono ?_
    rintro e w3 ⟨rfl, hb⟩
    have HB3 := Aside0.mk (below_step HB2.out hb)
    clear hb
    go_wp2_with fail
    refine (has_c b c false _ ⟨Hb.out, S4.out⟩).mono ?_
    rintro e w4 ⟨rfl, hb⟩
    have HB4 := Aside0.mk (below_step HB3.out hb)
    clear hb
    go_wp2_with fail
    refine (has_c a d hd _ ⟨Ha.out, S6.out⟩).mono ?_
    rintro e w5 ⟨rfl, hb⟩
    have HB5 := Aside0.mk (below_step HB4.out hb)
    clear hb
    go_wp2_with fail
    refine (has_c m d hd _ ⟨Hm.out, S7.out⟩).mono ?_
    rintro e w6 ⟨rfl, hb⟩
    have HB6 := Aside0.mk (below_step HB5.out hb)
    clear hb
    go_wp2_with fail
    refine (has_c b d hd _ ⟨Hb.out, S8.out⟩).mono ?_
    rintro e w7 ⟨rfl, hb⟩
    have HB7 := Aside0.mk (below_step HB6.out hb)
    clear hb
    go_wp2_with fail
    refine (has_c m d hd _ ⟨Hm.out, S7.out⟩).mono ?_
    rintro e w8 ⟨rfl, hb⟩
    have HB8 := Aside0.mk (below_step HB7.out hb)
    clear hb
    go_wp2_with fail
    refine (turnspitlaw04_awake.calls true _ rfl).mono ?_
    rintro e w9 ⟨rfl, hb⟩
    have HB9 := Aside0.mk (below_step HB8.out hb)
    clear hb
    go_wp2_with fail
    refine (has_c m c _ _ ⟨Hm.out, S5.out⟩).mono ?_
    rintro e w10 ⟨rfl, hb⟩
    have HB10 := Aside0.mk (below_step HB9.out hb)
    clear hb
    go_wp2_with fail
    refine (has_c m c _ _ ⟨Hm.out, S5.out⟩).mono ?_
    rintro e w11 ⟨rfl, hb⟩
    have HB11 := Aside0.mk (below_step HB10.out hb)
    clear hb
    go_wp2_with fail
    go_ret
    exact ⟨rfl, by repeat (first | exact HB11.out | apply below_alloc | apply pw_below_drewN)⟩
  · have t1 := decide_eq_false t1
    clear h0
    go_enter Try.func7, Try.ntmps7
    go_wp2_with fail
    refine (mask_With.calls m c a _ S1.out).mono ?_
    rintro e w1 ⟨rfl, hd⟩
    have hb := Drawn0.below hd
    clear hd
    have HB1 := Aside0.mk (below_step (Below.refl w.heap.size w) hb)
    clear hb
    go_wp2_with fail
    refine (mask_Without.calls m c b _ S2.out).mono ?_
    rintro e w2 ⟨rfl, hd⟩
    have hb := Drawn0.below hd
    clear hd
    have HB2 := Aside0.mk (below_step HB1.out hb)
    clear hb
    go_wp2_with fail
    refine (has_c a c _ _ ⟨Ha.out, S3.out⟩).mono ?_
    rintro e w3 ⟨rfl, hb⟩
    have HB3 := Aside0.mk (below_step HB2.out hb)
    clear hb
    go_wp2_with fail
    refine (has_c b c false _ ⟨Hb.out, S4.out⟩).mono ?_
    rintro e w4 ⟨rfl, hb⟩
    have HB4 := Aside0.mk (below_step HB3.out hb)
    clear hb
    go_wp2_with fail
    refine (has_c a d hd _ ⟨Ha.out, S6.out⟩).mono ?_
    rintro e w5 ⟨rfl, hb⟩
    have HB5 := Aside0.mk (below_step HB4.out hb)
    clear hb
    go_wp2_with fail
    refine (has_c m d hd _ ⟨Hm.out, S7.out⟩).mono ?_
    rintro e w6 ⟨rfl, hb⟩
    have HB6 := Aside0.mk (below_step HB5.out hb)
    clear hb
    go_wp2_with fail
    refine (has_c b d hd _ ⟨Hb.out, S8.out⟩).mono ?_
    rintro e w7 ⟨rfl, hb⟩
    have HB7 := Aside0.mk (below_step HB6.out hb)
    clear hb
    go_wp2_with fail
    refine (has_c m d hd _ ⟨Hm.out, S7.out⟩).mono ?_
    rintro e w8 ⟨rfl, hb⟩
    have HB8 := Aside0.mk (below_step HB7.out hb)
    clear hb
    go_wp2_with fail
    refine (turnspitlaw04_awake.calls true _ rfl).mono ?_
    rintro e w9 ⟨rfl, hb⟩
    have HB9 := Aside0.mk (below_step HB8.out hb)
    clear hb
    go_wp2_with fail
    refine (has_c m c _ _ ⟨Hm.out, S5.out⟩).mono ?_
    rintro e w10 ⟨rfl, hb⟩
    have HB10 := Aside0.mk (below_step HB9.out hb)
    clear hb
    go_wp2_with fail
    refine (has_c m c _ _ ⟨Hm.out, S5.out⟩).mono ?_
    rintro e w11 ⟨rfl, hb⟩
    have HB11 := Aside0.mk (below_step HB10.out hb)
    clear hb
    go_wp2_with fail
    go_ret
    exact ⟨rfl, by repeat (first | exact HB11.out | apply below_alloc | apply pw_below_drewN)⟩
set_option maxHeartbeats 4000000 in
set_option maxRecDepth 100000 in
theorem puts_001 (m c d a b n : Int) (hd : Bool) (w : World) (t1 : decide (0 ≤ c) = true) (t2 : decide (c ≤ 63) = true) (t3 : (c != d) = true) (ha : u64 a) (hb : u64 b) (hm : u64 m) (s1 : mask_With.f m c = some a) (s2 : mask_Without.f m c = some b) (s3 : hasB a c = true) (s4 : hasB b c = false) (s5 : hasB m c = true) (s6 : hasB a d = hd) (s7 : hasB m d = hd) (s8 : hasB b d = hd) (t4 : bits .or .u64 a b = a) (s9 : mask_Count.f a = some (n + 1)) (s10 : mask_Count.f b = some n) (hn0 : 0 ≤ n) (hn1 : n ≤ 64) (e1 : (a == m) = true) :
    Calls Try.prog 7 #[.int .u64 m, .int .i64 c, .int .i64 d] w fun e w' => e = .returned (.bool true) ∧ Below w.heap.size w w' := by
  have S1 := Aside0.mk s1
  clear s1
  have S2 := Aside0.mk s2
  clear s2
  have S3 := Aside0.mk s3
  clear s3
  have S4 := Aside0.mk s4
  clear s4
  have S5 := Aside0.mk s5
  clear s5
  have S6 := Aside0.mk s6
  clear s6
  have S7 := Aside0.mk s7
  clear s7
  have S8 := Aside0.mk s8
  clear s8
  have S9 := Aside0.mk s9
  clear s9
  have S10 := Aside0.mk s10
  clear s10
  have Ha := Aside0.mk ha
  clear ha
  have Hb := Aside0.mk hb
  clear hb
  have Hm := Aside0.mk hm
  clear hm
  go_enter Try.func7, Try.ntmps7
  go_wp2_with fail
  refine (mask_With.calls m c a _ S1.out).mono ?_
  rintro e w1 ⟨rfl, hd⟩
  have hb := Drawn0.below hd
  clear hd
  have HB1 := Aside0.mk (below_step (Below.refl w.heap.size w) hb)
  clear hb
  go_wp2_with fail
  refine (mask_Without.calls m c b _ S2.out).mono ?_
  rintro e w2 ⟨rfl, hd⟩
  have hb := Drawn0.below hd
  clear hd
  have HB2 := Aside0.mk (below_step HB1.out hb)
  clear hb
  go_wp2_with fail
  refine (has_c a c _ _ ⟨Ha.out, S3.out⟩).mono ?_
  rintro e w3 ⟨rfl, hb⟩
  have HB3 := Aside0.mk (below_step HB2.out hb)
  clear hb
  go_wp2_with fail
  refine (has_c b c false _ ⟨Hb.out, S4.out⟩).mono ?_
  rintro e w4 ⟨rfl, hb⟩
  have HB4 := Aside0.mk (below_step HB3.out hb)
  clear hb
  go_wp2_with fail
  refine (has_c a d hd _ ⟨Ha.out, S6.out⟩).mono ?_
  rintro e w5 ⟨rfl, hb⟩
  have HB5 := Aside0.mk (below_step HB4.out hb)
  clear hb
  go_wp2_with fail
  refine (has_c m d hd _ ⟨Hm.out, S7.out⟩).mono ?_
  rintro e w6 ⟨rfl, hb⟩
  have HB6 := Aside0.mk (below_step HB5.out hb)
  clear hb
  go_wp2_with fail
  refine (has_c b d hd _ ⟨Hb.out, S8.out⟩).mono ?_
  rintro e w7 ⟨rfl, hb⟩
  have HB7 := Aside0.mk (below_step HB6.out hb)
  clear hb
  go_wp2_with fail
  refine (has_c m d hd _ ⟨Hm.out, S7.out⟩).mono ?_
  rintro e w8 ⟨rfl, hb⟩
  have HB8 := Aside0.mk (below_step HB7.out hb)
  clear hb
  go_wp2_with fail
  refine (turnspitlaw04_awake.calls true _ rfl).mono ?_
  rintro e w9 ⟨rfl, hb⟩
  have HB9 := Aside0.mk (below_step HB8.out hb)
  clear hb
  go_wp2_with fail
  refine (mask_Count.calls a _ _ S9.out).mono ?_
  rintro e w10 ⟨rfl, hb⟩
  have HB10 := Aside0.mk (below_step HB9.out hb)
  clear hb
  go_wp2_with fail
  refine (mask_Count.calls b _ _ S10.out).mono ?_
  rintro e w11 ⟨rfl, hb⟩
  have HB11 := Aside0.mk (below_step HB10.out hb)
  clear hb
  go_wp2_with fail
  refine (has_c m c _ _ ⟨Hm.out, S5.out⟩).mono ?_
  rintro e w12 ⟨rfl, hb⟩
  have HB12 := Aside0.mk (below_step HB11.out hb)
  clear hb
  go_wp2_with fail
  go_ret
  exact ⟨rfl, by repeat (first | exact HB12.out | apply below_alloc | apply pw_below_drewN)⟩
set_option maxHeartbeats 4000000 in
set_option maxRecDepth 100000 in
theorem puts_000 (m c d a b n : Int) (hd : Bool) (w : World) (t1 : decide (0 ≤ c) = true) (t2 : decide (c ≤ 63) = true) (t3 : (c != d) = true) (ha : u64 a) (hb : u64 b) (hm : u64 m) (s1 : mask_With.f m c = some a) (s2 : mask_Without.f m c = some b) (s3 : hasB a c = true) (s4 : hasB b c = false) (s5 : hasB m c = false) (s6 : hasB a d = hd) (s7 : hasB m d = hd) (s8 : hasB b d = hd) (t4 : bits .or .u64 a b = a) (s9 : mask_Count.f a = some (n + 1)) (s10 : mask_Count.f b = some n) (hn0 : 0 ≤ n) (hn1 : n ≤ 64) (e1 : (b == m) = true) :
    Calls Try.prog 7 #[.int .u64 m, .int .i64 c, .int .i64 d] w fun e w' => e = .returned (.bool true) ∧ Below w.heap.size w w' := by
  have S1 := Aside0.mk s1
  clear s1
  have S2 := Aside0.mk s2
  clear s2
  have S3 := Aside0.mk s3
  clear s3
  have S4 := Aside0.mk s4
  clear s4
  have S5 := Aside0.mk s5
  clear s5
  have S6 := Aside0.mk s6
  clear s6
  have S7 := Aside0.mk s7
  clear s7
  have S8 := Aside0.mk s8
  clear s8
  have S9 := Aside0.mk s9
  clear s9
  have S10 := Aside0.mk s10
  clear s10
  have Ha := Aside0.mk ha
  clear ha
  have Hb := Aside0.mk hb
  clear hb
  have Hm := Aside0.mk hm
  clear hm
  go_enter Try.func7, Try.ntmps7
  go_wp2_with fail
  refine (mask_With.calls m c a _ S1.out).mono ?_
  rintro e w1 ⟨rfl, hd⟩
  have hb := Drawn0.below hd
  clear hd
  have HB1 := Aside0.mk (below_step (Below.refl w.heap.size w) hb)
  clear hb
  go_wp2_with fail
  refine (mask_Without.calls m c b _ S2.out).mono ?_
  rintro e w2 ⟨rfl, hd⟩
  have hb := Drawn0.below hd
  clear hd
  have HB2 := Aside0.mk (below_step HB1.out hb)
  clear hb
  go_wp2_with fail
  refine (has_c a c _ _ ⟨Ha.out, S3.out⟩).mono ?_
  rintro e w3 ⟨rfl, hb⟩
  have HB3 := Aside0.mk (below_step HB2.out hb)
  clear hb
  go_wp2_with fail
  refine (has_c b c false _ ⟨Hb.out, S4.out⟩).mono ?_
  rintro e w4 ⟨rfl, hb⟩
  have HB4 := Aside0.mk (below_step HB3.out hb)
  clear hb
  go_wp2_with fail
  refine (has_c a d hd _ ⟨Ha.out, S6.out⟩).mono ?_
  rintro e w5 ⟨rfl, hb⟩
  have HB5 := Aside0.mk (below_step HB4.out hb)
  clear hb
  go_wp2_with fail
  refine (has_c m d hd _ ⟨Hm.out, S7.out⟩).mono ?_
  rintro e w6 ⟨rfl, hb⟩
  have HB6 := Aside0.mk (below_step HB5.out hb)
  clear hb
  go_wp2_with fail
  refine (has_c b d hd _ ⟨Hb.out, S8.out⟩).mono ?_
  rintro e w7 ⟨rfl, hb⟩
  have HB7 := Aside0.mk (below_step HB6.out hb)
  clear hb
  go_wp2_with fail
  refine (has_c m d hd _ ⟨Hm.out, S7.out⟩).mono ?_
  rintro e w8 ⟨rfl, hb⟩
  have HB8 := Aside0.mk (below_step HB7.out hb)
  clear hb
  go_wp2_with fail
  refine (turnspitlaw04_awake.calls true _ rfl).mono ?_
  rintro e w9 ⟨rfl, hb⟩
  have HB9 := Aside0.mk (below_step HB8.out hb)
  clear hb
  go_wp2_with fail
  refine (mask_Count.calls a _ _ S9.out).mono ?_
  rintro e w10 ⟨rfl, hb⟩
  have HB10 := Aside0.mk (below_step HB9.out hb)
  clear hb
  go_wp2_with fail
  refine (mask_Count.calls b _ _ S10.out).mono ?_
  rintro e w11 ⟨rfl, hb⟩
  have HB11 := Aside0.mk (below_step HB10.out hb)
  clear hb
  go_wp2_with fail
  refine (has_c m c _ _ ⟨Hm.out, S5.out⟩).mono ?_
  rintro e w12 ⟨rfl, hb⟩
  have HB12 := Aside0.mk (below_step HB11.out hb)
  clear hb
  go_wp2_with fail
  refine (has_c m c _ _ ⟨Hm.out, S5.out⟩).mono ?_
  rintro e w13 ⟨rfl, hb⟩
  have HB13 := Aside0.mk (below_step HB12.out hb)
  clear hb
  go_wp2_with fail
  go_ret
  exact ⟨rfl, by repeat (first | exact HB13.out | apply below_alloc | apply pw_below_drewN)⟩
theorem hasB_with (M : Nat) (c d : Int) : hasB (withN M c) d = if c = d then !oddB c else hasB (M : Int) d := by
  rw [hasB_nat, hasB_nat]
  unfold withN
  cases hc : oddB c
  · have h1 := odd_false.1 hc
    rw [if_neg (by decide), Nat.testBit_or, Nat.testBit_two_pow]
    by_cases h : c = d
    · subst h; rw [if_pos rfl, hc]; simp
    · rw [if_neg h]
      cases hd : oddB d
      · have h2 := odd_false.1 hd
        rw [decide_eq_false (by omega : ¬ c.toNat = d.toNat), Bool.or_false]
      · rfl
  · rw [if_pos rfl]
    by_cases h : c = d
    · subst h; rw [if_pos rfl, hc]; rfl
    · rw [if_neg h]
theorem hasB_wio (M : Nat) (c d : Int) (hM : M < 18446744073709551616) : hasB (wioN M c) d = if c = d then false else hasB (M : Int) d := by
  rw [hasB_nat, hasB_nat]
  unfold wioN
  cases hc : oddB c
  · have h1 := odd_false.1 hc
    rw [if_neg (by decide), testBit_wio _ _ _ hM (by omega)]
    by_cases h : c = d
    · subst h; rw [if_pos rfl]; simp
    · rw [if_neg h]
      cases hd : oddB d
      · have h2 := odd_false.1 hd
        rw [decide_eq_false (by omega : ¬ c.toNat = d.toNat), Bool.not_false, Bool.and_true]
      · rfl
  · rw [if_pos rfl]
    by_cases h : c = d
    · subst h; rw [if_pos rfl, hc]; rfl
    · rw [if_neg h]
theorem with_has (M : Nat) (c : Int) (h : hasB (M : Int) c = true) : withN M c = M := by
  rw [hasB_nat, Bool.and_eq_true] at h
  unfold withN
  rw [if_neg (by simpa using h.1), or_same _ _ h.2]
theorem wio_has (M : Nat) (c : Int) (hM : M < 18446744073709551616) (h : hasB (M : Int) c = false) : wioN M c = M := by
  rw [hasB_nat] at h
  unfold wioN
  cases hc : oddB c
  · rw [hc, Bool.not_false, Bool.true_and] at h
    have h1 := odd_false.1 hc
    rw [if_neg (by decide)]
    apply Nat.eq_of_testBit_eq
    intro i
    rw [testBit_wio _ _ _ hM (by omega)]
    by_cases hi : c.toNat = i
    · subst hi; rw [h]; rfl
    · rw [decide_eq_false hi]; simp
  · rfl
theorem or_wio (M : Nat) (c : Int) (hM : M < 18446744073709551616) : withN M c ||| wioN M c = withN M c := by
  unfold withN wioN
  cases hc : oddB c
  · have h1 := odd_false.1 hc
    rw [if_neg (by decide), if_neg (by decide)]
    apply Nat.eq_of_testBit_eq
    intro i
    rw [Nat.testBit_or, Nat.testBit_or, testBit_wio _ _ _ hM (by omega)]
    cases M.testBit i <;> simp
  · rw [if_pos rfl, if_pos rfl, Nat.or_self]
/-- How many CPUs a mask has: of all bits, those that are on. -/
def cnt (M : Nat) (i : Nat) : Nat := ((List.range i).filter fun k => M.testBit k).length
theorem count_cnt (M : Nat) : (aboveL (M : Int) (-1)).length = cnt M 64 := by
  unfold aboveL cpusBelow cnt
  rw [List.length_map]
  congr 1
  apply List.filter_congr
  intro k _
  rw [bitB_nat, decide_eq_true (by omega : (-1 : Int) < (k : Int)), Bool.true_and]
theorem cnt_succ (M i : Nat) : cnt M (i + 1) = cnt M i + (M.testBit i).toNat := by
  unfold cnt
  rw [List.range_succ, List.filter_append, List.length_append]
  cases h : M.testBit i <;> simp [List.filter_cons, h]
theorem cnt_same (A B i : Nat) (h : ∀ k, k < i → A.testBit k = B.testBit k) : cnt A i = cnt B i := by
  unfold cnt
  congr 1
  apply List.filter_congr
  intro k hk
  exact h k (List.mem_range.1 hk)
theorem cnt_one (A B k : Nat) (hA : A.testBit k = true) (hB : B.testBit k = false) (h : ∀ j, j ≠ k → A.testBit j = B.testBit j) : ∀ i, k < i → cnt A i = cnt B i + 1 := by
  intro i
  induction i with
  | zero => intro h; omega
  | succ i ih =>
    intro hk
    rw [cnt_succ, cnt_succ]
    by_cases e : k = i
    · subst e
      rw [hA, hB, cnt_same A B k (fun j hj => h j (by omega))]
      rfl
    · rw [ih (by omega), h i (by omega)]
      omega
theorem bits_or_nat (A B : Nat) (hA : A < 18446744073709551616) (hB : B < 18446744073709551616) (h : A ||| B = A) : bits .or .u64 (A : Int) (B : Int) = (A : Int) := by
  rw [u64_or_nat A B hA hB, h]
theorem u64_nat {A : Nat} (h : A < 18446744073709551616) : u64 (A : Int) := ⟨by omega, by omega⟩
theorem count_puts (M : Nat) (c : Int) (hM : M < 18446744073709551616) (hc : oddB c = false) : (aboveL (withN M c : Int) (-1)).length = (aboveL (wioN M c : Int) (-1)).length + 1 := by
  have h1 := odd_false.1 hc
  rw [count_cnt, count_cnt]
  refine cnt_one _ _ c.toNat ?_ ?_ ?_ 64 (by omega)
  · unfold withN; rw [if_neg (by simp [hc]), Nat.testBit_or, Nat.testBit_two_pow]; simp
  · unfold wioN; rw [if_neg (by simp [hc]), testBit_wio _ _ _ hM (by omega)]; simp
  · intro j hj
    unfold withN wioN
    rw [if_neg (by simp [hc]), if_neg (by simp [hc]), Nat.testBit_or, Nat.testBit_two_pow, testBit_wio _ _ _ hM (by omega), decide_eq_false (fun e => hj e.symm)]
    simp
theorem Walk.MaskPuts (m : Int) (hm : (Lit.int .u64 m).wf = true) (c : Int) (hc : (Lit.int .i64 c).wf = true) (d : Int) (hd : (Lit.int .i64 d).wf = true) (w : World) :
    Calls Try.prog 7 #[.int .u64 m, .int .i64 c, .int .i64 d] w fun e w' => e = .returned (.bool true) ∧ Below w.heap.size w w' := by
  have hm := u64_of hm
  obtain ⟨M, rfl⟩ := Int.eq_ofNat_of_zero_le hm.1
  have hM : M < 18446744073709551616 := by have := hm.2; omega
  have s1 := with_f M c hM
  have s2 := wio_f M c hM
  have hA := withN_lt M c hM
  have hB := wioN_lt M c hM
  have uA := u64_nat hA
  have uB := u64_nat hB
  have s3 := hasB_with M c c
  rw [if_pos rfl] at s3
  have s4 := hasB_wio M c c hM
  rw [if_pos rfl] at s4
  have hor := bits_or_nat _ _ hA hB (or_wio M c hM)
  have hnA := count_f _ (u64_nat hA)
  have hnB := count_f _ (u64_nat hB)
  have hcard : oddB c = false → (aboveL (withN M c : Int) (-1)).length = (aboveL (wioN M c : Int) (-1)).length + 1 := count_puts M c hM
  have hlen := aboveL_length (wioN M c : Int) (-1)
  have eA : hasB (M : Int) c = true → (withN M c : Int) = (M : Int) := fun h => by rw [with_has M c h]
  have eB : hasB (M : Int) c = false → (wioN M c : Int) = (M : Int) := fun h => by rw [wio_has M c hM h]
  have s6 := hasB_with M c d
  have s8 := hasB_wio M c d hM
  have ho : hasB (M : Int) c = true → oddB c = false := fun h => by
    rw [hasB_nat, Bool.and_eq_true] at h
    simpa using h.1
  clear hA hB
  generalize (withN M c : Int) = a at *
  generalize (wioN M c : Int) = b at *
  by_cases hcd : c = d
  · cases h1 : oddB c
    · have hc := odd_false.1 h1
      have hk := hcard h1
      rw [h1] at s3
      rw [hk] at hnA
      cases h2 : hasB (M : Int) c
      · exact puts_100 M c d a b _ true w (decide_eq_true hc.1) (decide_eq_true (by omega)) (by simp [hcd]) uA uB hm s1 s2 s3 s4 h2 hor hnA hnB (by omega) (by omega) (by simp [eB h2])
      · exact puts_101 M c d a b _ true w (decide_eq_true hc.1) (decide_eq_true (by omega)) (by simp [hcd]) uA uB hm s1 s2 s3 s4 h2 hor hnA hnB (by omega) (by omega) (by simp [eA h2])
    · have hc := odd_true.1 h1
      rw [h1] at s3
      cases h2 : hasB (M : Int) c
      · exact puts_110 M c d a b 0 true w (by omega) (by simp [hcd]) uA uB hm s1 s2 s3 s4 h2 hor (by simp [eB h2])
      · rw [ho h2] at h1; cases h1
  · rw [if_neg hcd] at s6 s8
    cases h1 : oddB c
    · have hc := odd_false.1 h1
      have hk := hcard h1
      rw [h1] at s3
      rw [hk] at hnA
      cases h2 : hasB (M : Int) c
      · exact puts_000 M c d a b _ _ w (decide_eq_true hc.1) (decide_eq_true (by omega)) (by simp [hcd]) uA uB hm s1 s2 s3 s4 h2 s6 rfl s8 hor hnA hnB (by omega) (by omega) (by simp [eB h2])
      · exact puts_001 M c d a b _ _ w (decide_eq_true hc.1) (decide_eq_true (by omega)) (by simp [hcd]) uA uB hm s1 s2 s3 s4 h2 s6 rfl s8 hor hnA hnB (by omega) (by omega) (by simp [eA h2])
    · have hc := odd_true.1 h1
      rw [h1] at s3
      cases h2 : hasB (M : Int) c
      · exact puts_010 M c d a b 0 _ w (by omega) (by simp [hcd]) uA uB hm s1 s2 s3 s4 h2 s6 rfl s8 hor (by simp [eB h2])
      · rw [ho h2] at h1; cases h1
end Go.Proofs.Ytdghjigeddphaaa

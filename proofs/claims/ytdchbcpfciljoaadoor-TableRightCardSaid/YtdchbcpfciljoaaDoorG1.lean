/- part and Pack of package packed: their contracts. -/
import Derived.Test.YtdchbcpfciljoaaDoorLd
import Derived.WalkKit
import Derived.Deep.QuietTactic
import Derived.BigQuiet
import Derived.Laws.BitsAllLaws
namespace Go.Proofs.YtdchbcpfciljoaaDoor.Given
open Go.RowKit Go.Proofs.YtdchbcpfciljoaaDoor Go.Proofs.YtdchbcpfciljoaaDoorW.PrintWords
set_option linter.unusedVariables false
set_option linter.unusedSimpArgs false

theorem below_drewN (w : World) (n : Nat) : Below w.heap.size w (w.drewN n) := pw_below_drewN (Below.refl _ _) n
theorem and_mask (a : Int) (j : Nat) (hj : j ≤ 63) (h0 : 0 ≤ a) (h1 : a < 18446744073709551616) : bits .and .u64 a ((2 : Int) ^ j - 1) = a % 2 ^ j :=
  bits_mask .u64 64 (by decide) (fun n h0 h1 => by rw [IntKind.wrap_u64]; omega) j (by omega) a h0 (by simpa using h1)

def packed_part.f (a at_ : Int) : Option Int :=
  if 0 ≤ a ∧ a < 18446744073709551616 then
    (if at_ = 0 then some (a % 8) else if at_ = 1 then some (a / 8 % 64) else if at_ = 2 then some (a / 512 % 2) else if at_ = 3 then some (a / 1024 % 65536) else if at_ = 4 then some (a / 67108864 % 4294967296) else none)
  else none

theorem ret_i64 {a b : Int} (h : a = b) : Ending.returned (.int .i64 a) = .returned (.int .i64 b) := by rw [h]
theorem ret_bool {a b : Bool} (h : a = b) : Ending.returned (.bool a) = .returned (.bool b) := by rw [h]
theorem wrap_small {x : Int} (h0 : 0 ≤ x) (h1 : x < 9223372036854775808) : wrap64 x = x := by unfold wrap64; omega

set_option maxHeartbeats 1000000 in
theorem part0 (a : Int) (w : World) (HLd : Ld w) (ha : 0 ≤ a) (hb : a < 18446744073709551616) :
    Calls Tryd.prog 54 #[.int .u64 a, .int .i64 0] w fun e w' => e = .returned (.int .i64 (a % 8)) ∧ Below w.heap.size w w' := by
  have h0 := HLd.c 0 (by decide)
  have h1 := HLd.c 1 (by decide)
  simp only [spanL, List.getD_cons_zero, List.getD_cons_succ] at h0 h1
  have HA := Aside0.mk ha
  have HB := Aside0.mk hb
  clear HLd ha hb
  go_enter Tryd.func54, Tryd.ntmps54
  go_wp2
  go_quiet (fail)
  go_wp2
  go_ret
  refine ⟨ret_i64 ?_, below_drewN w nq⟩
  have h0 := HA.out
  have h1 := HB.out
  have := and_mask (a) 3 (by decide) (by omega) (by omega)
  rw [show (7 : Int) = 2 ^ 3 - 1 from rfl, this]
  exact wrap_small (by omega) (by omega)
set_option maxHeartbeats 1000000 in
theorem part1 (a : Int) (w : World) (HLd : Ld w) (ha : 0 ≤ a) (hb : a < 18446744073709551616) :
    Calls Tryd.prog 54 #[.int .u64 a, .int .i64 1] w fun e w' => e = .returned (.int .i64 (a / 8 % 64)) ∧ Below w.heap.size w w' := by
  have h0 := HLd.c 2 (by decide)
  have h1 := HLd.c 3 (by decide)
  simp only [spanL, List.getD_cons_zero, List.getD_cons_succ] at h0 h1
  have HA := Aside0.mk ha
  have HB := Aside0.mk hb
  clear HLd ha hb
  go_enter Tryd.func54, Tryd.ntmps54
  go_wp2
  go_quiet (fail)
  go_wp2
  go_ret
  refine ⟨ret_i64 ?_, below_drewN w nq⟩
  have h0 := HA.out
  have h1 := HB.out
  have := and_mask (a / 8) 6 (by decide) (by omega) (by omega)
  rw [show (63 : Int) = 2 ^ 6 - 1 from rfl, this]
  exact wrap_small (by omega) (by omega)
set_option maxHeartbeats 1000000 in
theorem part2 (a : Int) (w : World) (HLd : Ld w) (ha : 0 ≤ a) (hb : a < 18446744073709551616) :
    Calls Tryd.prog 54 #[.int .u64 a, .int .i64 2] w fun e w' => e = .returned (.int .i64 (a / 512 % 2)) ∧ Below w.heap.size w w' := by
  have h0 := HLd.c 4 (by decide)
  have h1 := HLd.c 5 (by decide)
  simp only [spanL, List.getD_cons_zero, List.getD_cons_succ] at h0 h1
  have HA := Aside0.mk ha
  have HB := Aside0.mk hb
  clear HLd ha hb
  go_enter Tryd.func54, Tryd.ntmps54
  go_wp2
  go_quiet (fail)
  go_wp2
  go_ret
  refine ⟨ret_i64 ?_, below_drewN w nq⟩
  have h0 := HA.out
  have h1 := HB.out
  have := and_mask (a / 512) 1 (by decide) (by omega) (by omega)
  rw [show (1 : Int) = 2 ^ 1 - 1 from rfl, this]
  exact wrap_small (by omega) (by omega)
set_option maxHeartbeats 1000000 in
theorem part3 (a : Int) (w : World) (HLd : Ld w) (ha : 0 ≤ a) (hb : a < 18446744073709551616) :
    Calls Tryd.prog 54 #[.int .u64 a, .int .i64 3] w fun e w' => e = .returned (.int .i64 (a / 1024 % 65536)) ∧ Below w.heap.size w w' := by
  have h0 := HLd.c 6 (by decide)
  have h1 := HLd.c 7 (by decide)
  simp only [spanL, List.getD_cons_zero, List.getD_cons_succ] at h0 h1
  have HA := Aside0.mk ha
  have HB := Aside0.mk hb
  clear HLd ha hb
  go_enter Tryd.func54, Tryd.ntmps54
  go_wp2
  go_quiet (fail)
  go_wp2
  go_ret
  refine ⟨ret_i64 ?_, below_drewN w nq⟩
  have h0 := HA.out
  have h1 := HB.out
  have := and_mask (a / 1024) 16 (by decide) (by omega) (by omega)
  rw [show (65535 : Int) = 2 ^ 16 - 1 from rfl, this]
  exact wrap_small (by omega) (by omega)
set_option maxHeartbeats 1000000 in
theorem part4 (a : Int) (w : World) (HLd : Ld w) (ha : 0 ≤ a) (hb : a < 18446744073709551616) :
    Calls Tryd.prog 54 #[.int .u64 a, .int .i64 4] w fun e w' => e = .returned (.int .i64 (a / 67108864 % 4294967296)) ∧ Below w.heap.size w w' := by
  have h0 := HLd.c 8 (by decide)
  have h1 := HLd.c 9 (by decide)
  simp only [spanL, List.getD_cons_zero, List.getD_cons_succ] at h0 h1
  have HA := Aside0.mk ha
  have HB := Aside0.mk hb
  clear HLd ha hb
  go_enter Tryd.func54, Tryd.ntmps54
  go_wp2
  go_quiet (fail)
  go_wp2
  go_ret
  refine ⟨ret_i64 ?_, below_drewN w nq⟩
  have h0 := HA.out
  have h1 := HB.out
  have := and_mask (a / 67108864) 32 (by decide) (by omega) (by omega)
  rw [show (4294967295 : Int) = 2 ^ 32 - 1 from rfl, this]
  exact wrap_small (by omega) (by omega)

theorem packed_part.calls (a0 a1 r : Int) (w : World) (HLd : Ld w) (h : packed_part.f a0 a1 = some r) :
    Calls Tryd.prog 54 #[.int .u64 a0, .int .i64 a1] w fun e w' => e = .returned (.int .i64 r) ∧ Below w.heap.size w w' := by
  unfold packed_part.f at h
  split at h
  · rename_i hr
    split at h
    · rename_i e; subst e; obtain rfl := Option.some.inj h; exact part0 a0 w HLd hr.1 hr.2
    · split at h
      · rename_i e; subst e; obtain rfl := Option.some.inj h; exact part1 a0 w HLd hr.1 hr.2
      · split at h
        · rename_i e; subst e; obtain rfl := Option.some.inj h; exact part2 a0 w HLd hr.1 hr.2
        · split at h
          · rename_i e; subst e; obtain rfl := Option.some.inj h; exact part3 a0 w HLd hr.1 hr.2
          · split at h
            · rename_i e; subst e; obtain rfl := Option.some.inj h; exact part4 a0 w HLd hr.1 hr.2
            · cases h
  · cases h

set_option maxHeartbeats 1000000 in
theorem fits0 (n : Int) (w : World) (HLd : Ld w) :
    Calls Tryd.prog 73 #[.int .i64 n, .int .i64 0] w fun e w' => e = .returned (.bool (decide (0 ≤ n ∧ n < 8))) ∧ Below w.heap.size w w' := by
  have h0 := HLd.c 0 (by decide)
  have h1 := HLd.c 1 (by decide)
  simp only [spanL, List.getD_cons_zero, List.getD_cons_succ] at h0 h1
  clear HLd
  by_cases hn : 0 ≤ n
  · have hd : decide (0 ≤ n) = true := decide_eq_true hn
    go_enter Tryd.func73, Tryd.ntmps73
    go_wp2
    go_quiet (fail)
    go_wp2
    go_ret
    exact ⟨ret_bool (by rw [Bool.eq_iff_iff]; simp; omega), below_drewN w nq⟩
  · have hd : decide (0 ≤ n) = false := decide_eq_false hn
    go_enter Tryd.func73, Tryd.ntmps73
    go_wp2
    go_quiet (fail)
    go_wp2
    go_ret
    exact ⟨ret_bool (by rw [Bool.eq_iff_iff]; simp; omega), below_drewN w nq⟩
set_option maxHeartbeats 1000000 in
theorem fits1 (n : Int) (w : World) (HLd : Ld w) :
    Calls Tryd.prog 73 #[.int .i64 n, .int .i64 1] w fun e w' => e = .returned (.bool (decide (0 ≤ n ∧ n < 64))) ∧ Below w.heap.size w w' := by
  have h0 := HLd.c 2 (by decide)
  have h1 := HLd.c 3 (by decide)
  simp only [spanL, List.getD_cons_zero, List.getD_cons_succ] at h0 h1
  clear HLd
  by_cases hn : 0 ≤ n
  · have hd : decide (0 ≤ n) = true := decide_eq_true hn
    go_enter Tryd.func73, Tryd.ntmps73
    go_wp2
    go_quiet (fail)
    go_wp2
    go_ret
    exact ⟨ret_bool (by rw [Bool.eq_iff_iff]; simp; omega), below_drewN w nq⟩
  · have hd : decide (0 ≤ n) = false := decide_eq_false hn
    go_enter Tryd.func73, Tryd.ntmps73
    go_wp2
    go_quiet (fail)
    go_wp2
    go_ret
    exact ⟨ret_bool (by rw [Bool.eq_iff_iff]; simp; omega), below_drewN w nq⟩
set_option maxHeartbeats 1000000 in
theorem fits2 (n : Int) (w : World) (HLd : Ld w) :
    Calls Tryd.prog 73 #[.int .i64 n, .int .i64 2] w fun e w' => e = .returned (.bool (decide (0 ≤ n ∧ n < 2))) ∧ Below w.heap.size w w' := by
  have h0 := HLd.c 4 (by decide)
  have h1 := HLd.c 5 (by decide)
  simp only [spanL, List.getD_cons_zero, List.getD_cons_succ] at h0 h1
  clear HLd
  by_cases hn : 0 ≤ n
  · have hd : decide (0 ≤ n) = true := decide_eq_true hn
    go_enter Tryd.func73, Tryd.ntmps73
    go_wp2
    go_quiet (fail)
    go_wp2
    go_ret
    exact ⟨ret_bool (by rw [Bool.eq_iff_iff]; simp; omega), below_drewN w nq⟩
  · have hd : decide (0 ≤ n) = false := decide_eq_false hn
    go_enter Tryd.func73, Tryd.ntmps73
    go_wp2
    go_quiet (fail)
    go_wp2
    go_ret
    exact ⟨ret_bool (by rw [Bool.eq_iff_iff]; simp; omega), below_drewN w nq⟩
set_option maxHeartbeats 1000000 in
theorem fits3 (n : Int) (w : World) (HLd : Ld w) :
    Calls Tryd.prog 73 #[.int .i64 n, .int .i64 3] w fun e w' => e = .returned (.bool (decide (0 ≤ n ∧ n < 65536))) ∧ Below w.heap.size w w' := by
  have h0 := HLd.c 6 (by decide)
  have h1 := HLd.c 7 (by decide)
  simp only [spanL, List.getD_cons_zero, List.getD_cons_succ] at h0 h1
  clear HLd
  by_cases hn : 0 ≤ n
  · have hd : decide (0 ≤ n) = true := decide_eq_true hn
    go_enter Tryd.func73, Tryd.ntmps73
    go_wp2
    go_quiet (fail)
    go_wp2
    go_ret
    exact ⟨ret_bool (by rw [Bool.eq_iff_iff]; simp; omega), below_drewN w nq⟩
  · have hd : decide (0 ≤ n) = false := decide_eq_false hn
    go_enter Tryd.func73, Tryd.ntmps73
    go_wp2
    go_quiet (fail)
    go_wp2
    go_ret
    exact ⟨ret_bool (by rw [Bool.eq_iff_iff]; simp; omega), below_drewN w nq⟩
set_option maxHeartbeats 1000000 in
theorem fits4 (n : Int) (w : World) (HLd : Ld w) :
    Calls Tryd.prog 73 #[.int .i64 n, .int .i64 4] w fun e w' => e = .returned (.bool (decide (0 ≤ n ∧ n < 4294967296))) ∧ Below w.heap.size w w' := by
  have h0 := HLd.c 8 (by decide)
  have h1 := HLd.c 9 (by decide)
  simp only [spanL, List.getD_cons_zero, List.getD_cons_succ] at h0 h1
  clear HLd
  by_cases hn : 0 ≤ n
  · have hd : decide (0 ≤ n) = true := decide_eq_true hn
    go_enter Tryd.func73, Tryd.ntmps73
    go_wp2
    go_quiet (fail)
    go_wp2
    go_ret
    exact ⟨ret_bool (by rw [Bool.eq_iff_iff]; simp; omega), below_drewN w nq⟩
  · have hd : decide (0 ≤ n) = false := decide_eq_false hn
    go_enter Tryd.func73, Tryd.ntmps73
    go_wp2
    go_quiet (fail)
    go_wp2
    go_ret
    exact ⟨ret_bool (by rw [Bool.eq_iff_iff]; simp; omega), below_drewN w nq⟩

def b2i (b : Bool) : Int := if b then 1 else 0
theorem below_far {w W : World} (h : Below w.heap.size w W) {p : Addr} (hp : w.heap.size ≤ p.block) (v : Value) : Below w.heap.size w (W.setCell p v) := h.setCell hp v
theorem numbers (k c : Int) (b : Bool) (s g : Int) (w : World) :
    Calls Tryd.prog 72 #[.agg #[.int .i64 k, .int .i64 c, .bool b, .int .i64 s, .int .i64 g]] w fun e w' => e = .returned (.agg #[.int .i64 k, .int .i64 c, .int .i64 (b2i b), .int .i64 s, .int .i64 g]) ∧ Below w.heap.size w w' := by
  cases b
  all_goals
    go_enter Tryd.func72, Tryd.ntmps72
    go_wp2
    refine bodyPost_ret (v := .agg #[.int .i64 k, .int .i64 c, .int .i64 (b2i _), .int .i64 s, .int .i64 g]) (by simp [results, Tryd.results72, go_sem]; try rfl) rfl ⟨rfl, ?_⟩
    repeat (first | exact Below.refl _ _ | apply below_alloc | apply pw_below_drewN | (refine below_far ?_ (by simp; try omega) _))
def wordOf (k c : Int) (b : Bool) (s g : Int) : Int := k + 8 * c + 512 * b2i b + 1024 * s + 67108864 * g
def packOk (k c : Int) (b : Bool) (s g : Int) : Prop := (b = true → k = 7) ∧ (0 ≤ k ∧ k < 8) ∧ (0 ≤ c ∧ c < 64) ∧ (0 ≤ s ∧ s < 65536) ∧ (0 ≤ g ∧ g < 4294967296)
instance (k c : Int) (b : Bool) (s g : Int) : Decidable (packOk k c b s g) := by unfold packOk; infer_instance
def packed_Pack.f (k c : Int) (b : Bool) (s g : Int) : Option (Int × Int) := if packOk k c b s g then some (wordOf k c b s g, 0) else some (0, 1)
/-- What has been gathered behind so many parts. -/
def acc (k c : Int) (b : Bool) (s g : Int) : Nat → Int
  | 0 => 0
  | 1 => k
  | 2 => k + 8 * c
  | 3 => k + 8 * c + 512 * b2i b
  | 4 => k + 8 * c + 512 * b2i b + 1024 * s
  | _ => k + 8 * c + 512 * b2i b + 1024 * s + 67108864 * g
def fitN (k c : Int) (b : Bool) (s g : Int) : Nat → Prop
  | 0 => 0 ≤ k ∧ k < 8
  | 1 => 0 ≤ c ∧ c < 64
  | 2 => True
  | 3 => 0 ≤ s ∧ s < 65536
  | 4 => 0 ≤ g ∧ g < 4294967296
  | _ => True
theorem b2i_01 (b : Bool) : 0 ≤ b2i b ∧ b2i b < 2 := by cases b <;> decide
theorem or_join (a n : Int) (lo wd : Nat) (hs : lo + wd ≤ 63) (ha0 : 0 ≤ a) (ha : a < 2 ^ lo) (h0 : 0 ≤ n) (h1 : n < 2 ^ wd) : bits .or .u64 a (n * 2 ^ lo) = a + n * 2 ^ lo := by
  have p1 : (2 : Int) ^ lo * 2 ^ wd = 2 ^ (lo + wd) := (Int.pow_add ..).symm
  have p2 : (2 : Int) ^ (lo + wd) ≤ 2 ^ 63 := by
    have : (2 : Nat) ^ (lo + wd) ≤ 2 ^ 63 := Nat.pow_le_pow_right (by decide) hs
    exact_mod_cast this
  have p3 : (2 : Int) ^ lo ≤ 2 ^ 63 := by
    have : (2 : Nat) ^ lo ≤ 2 ^ 63 := Nat.pow_le_pow_right (by decide) (by omega)
    exact_mod_cast this
  have hp : (0 : Int) < 2 ^ lo := Int.pow_pos (by decide)
  have h2 : n * 2 ^ lo < 2 ^ 63 := by
    have : n * 2 ^ lo < 2 ^ wd * 2 ^ lo := Int.mul_lt_mul_of_pos_right h1 hp
    rw [Int.mul_comm (2 ^ wd)] at this
    omega
  have h3 : 0 ≤ n * 2 ^ lo := Int.mul_nonneg h0 (Int.le_of_lt hp)
  rw [u64_or a (n * 2 ^ lo) ha0 (by omega) h3 (by omega)]
  obtain ⟨x, rfl⟩ := Int.eq_ofNat_of_zero_le ha0
  obtain ⟨m, rfl⟩ := Int.eq_ofNat_of_zero_le h0
  have e : ((m : Int) * 2 ^ lo) = ((m * 2 ^ lo : Nat) : Int) := by simp
  rw [e, Int.toNat_natCast, Int.toNat_natCast]
  have hx : x < 2 ^ lo := by exact_mod_cast ha
  have := Nat.shiftLeft_add_eq_or_of_lt hx m
  rw [Nat.shiftLeft_eq] at this
  rw [Nat.or_comm, ← this]
  omega
theorem fits0t (n : Int) (w : World) (HLd : Ld w) (h : (0 ≤ n ∧ n < 8)) :
    Calls Tryd.prog 73 #[.int .i64 n, .int .i64 0] w fun e w' => e = .returned (.bool true) ∧ Below w.heap.size w w' :=
  (fits0 n w HLd).mono fun e w' h' => ⟨by rw [h'.1, decide_eq_true h], h'.2⟩
theorem fits0n (n : Int) (w : World) (HLd : Ld w) (h : ¬ (0 ≤ n ∧ n < 8)) :
    Calls Tryd.prog 73 #[.int .i64 n, .int .i64 0] w fun e w' => e = .returned (.bool false) ∧ Below w.heap.size w w' :=
  (fits0 n w HLd).mono fun e w' h' => ⟨by rw [h'.1, decide_eq_false h], h'.2⟩
theorem fits1t (n : Int) (w : World) (HLd : Ld w) (h : (0 ≤ n ∧ n < 64)) :
    Calls Tryd.prog 73 #[.int .i64 n, .int .i64 1] w fun e w' => e = .returned (.bool true) ∧ Below w.heap.size w w' :=
  (fits1 n w HLd).mono fun e w' h' => ⟨by rw [h'.1, decide_eq_true h], h'.2⟩
theorem fits1n (n : Int) (w : World) (HLd : Ld w) (h : ¬ (0 ≤ n ∧ n < 64)) :
    Calls Tryd.prog 73 #[.int .i64 n, .int .i64 1] w fun e w' => e = .returned (.bool false) ∧ Below w.heap.size w w' :=
  (fits1 n w HLd).mono fun e w' h' => ⟨by rw [h'.1, decide_eq_false h], h'.2⟩
theorem fits2t (n : Int) (w : World) (HLd : Ld w) (h : (0 ≤ n ∧ n < 2)) :
    Calls Tryd.prog 73 #[.int .i64 n, .int .i64 2] w fun e w' => e = .returned (.bool true) ∧ Below w.heap.size w w' :=
  (fits2 n w HLd).mono fun e w' h' => ⟨by rw [h'.1, decide_eq_true h], h'.2⟩
theorem fits2n (n : Int) (w : World) (HLd : Ld w) (h : ¬ (0 ≤ n ∧ n < 2)) :
    Calls Tryd.prog 73 #[.int .i64 n, .int .i64 2] w fun e w' => e = .returned (.bool false) ∧ Below w.heap.size w w' :=
  (fits2 n w HLd).mono fun e w' h' => ⟨by rw [h'.1, decide_eq_false h], h'.2⟩
theorem fits3t (n : Int) (w : World) (HLd : Ld w) (h : (0 ≤ n ∧ n < 65536)) :
    Calls Tryd.prog 73 #[.int .i64 n, .int .i64 3] w fun e w' => e = .returned (.bool true) ∧ Below w.heap.size w w' :=
  (fits3 n w HLd).mono fun e w' h' => ⟨by rw [h'.1, decide_eq_true h], h'.2⟩
theorem fits3n (n : Int) (w : World) (HLd : Ld w) (h : ¬ (0 ≤ n ∧ n < 65536)) :
    Calls Tryd.prog 73 #[.int .i64 n, .int .i64 3] w fun e w' => e = .returned (.bool false) ∧ Below w.heap.size w w' :=
  (fits3 n w HLd).mono fun e w' h' => ⟨by rw [h'.1, decide_eq_false h], h'.2⟩
theorem fits4t (n : Int) (w : World) (HLd : Ld w) (h : (0 ≤ n ∧ n < 4294967296)) :
    Calls Tryd.prog 73 #[.int .i64 n, .int .i64 4] w fun e w' => e = .returned (.bool true) ∧ Below w.heap.size w w' :=
  (fits4 n w HLd).mono fun e w' h' => ⟨by rw [h'.1, decide_eq_true h], h'.2⟩
theorem fits4n (n : Int) (w : World) (HLd : Ld w) (h : ¬ (0 ≤ n ∧ n < 4294967296)) :
    Calls Tryd.prog 73 #[.int .i64 n, .int .i64 4] w fun e w' => e = .returned (.bool false) ∧ Below w.heap.size w w' :=
  (fits4 n w HLd).mono fun e w' h' => ⟨by rw [h'.1, decide_eq_false h], h'.2⟩
theorem step0 (k c : Int) (b : Bool) (s g : Int) (hp : ∀ j, j < 0 → fitN k c b s g j) (hf : 0 ≤ k ∧ k < 8) :
    bits .or .u64 (acc k c b s g 0) (IntKind.u64.wrap (IntKind.u64.wrap k)) = acc k c b s g 1 := by
  have hb := b2i_01 b
  show bits .or .u64 (0) (IntKind.u64.wrap (IntKind.u64.wrap k)) = k
  rw [show IntKind.u64.wrap (IntKind.u64.wrap k) = (k) * 2 ^ 0 by rw [IntKind.wrap_u64, IntKind.wrap_u64]; simp only [Int.reducePow]; omega]
  rw [or_join (0) (k) 0 3 (by decide) (by omega) (by simp only [Int.reducePow]; omega) (by omega) (by simp only [Int.reducePow]; omega)]
  simp only [Int.reducePow]
  omega
theorem fitS0 (k c : Int) (b : Bool) (s g : Int) (hp : ∀ j, j < 0 → fitN k c b s g j) (hf : 0 ≤ k ∧ k < 8) : ∀ j, j < 1 → fitN k c b s g j := by
  intro j hj
  by_cases e : j = 0
  · subst e; exact hf
  · exact hp j (by omega)
theorem step1 (k c : Int) (b : Bool) (s g : Int) (hp : ∀ j, j < 1 → fitN k c b s g j) (hf : 0 ≤ c ∧ c < 64) :
    bits .or .u64 (acc k c b s g 1) (IntKind.u64.wrap (IntKind.u64.wrap c * 8)) = acc k c b s g 2 := by
  have hb := b2i_01 b
  have h0 : 0 ≤ k ∧ k < 8 := hp 0 (by decide)
  show bits .or .u64 (k) (IntKind.u64.wrap (IntKind.u64.wrap c * 8)) = k + 8 * c
  rw [show IntKind.u64.wrap (IntKind.u64.wrap c * 8) = (c) * 2 ^ 3 by rw [IntKind.wrap_u64, IntKind.wrap_u64]; simp only [Int.reducePow]; omega]
  rw [or_join (k) (c) 3 6 (by decide) (by omega) (by simp only [Int.reducePow]; omega) (by omega) (by simp only [Int.reducePow]; omega)]
  simp only [Int.reducePow]
  omega
theorem fitS1 (k c : Int) (b : Bool) (s g : Int) (hp : ∀ j, j < 1 → fitN k c b s g j) (hf : 0 ≤ c ∧ c < 64) : ∀ j, j < 2 → fitN k c b s g j := by
  intro j hj
  by_cases e : j = 1
  · subst e; exact hf
  · exact hp j (by omega)
theorem step2 (k c : Int) (b : Bool) (s g : Int) (hp : ∀ j, j < 2 → fitN k c b s g j) (hf : 0 ≤ b2i b ∧ b2i b < 2) :
    bits .or .u64 (acc k c b s g 2) (IntKind.u64.wrap (IntKind.u64.wrap (b2i b) * 512)) = acc k c b s g 3 := by
  have hb := b2i_01 b
  have h0 : 0 ≤ k ∧ k < 8 := hp 0 (by decide)
  have h1 : 0 ≤ c ∧ c < 64 := hp 1 (by decide)
  show bits .or .u64 (k + 8 * c) (IntKind.u64.wrap (IntKind.u64.wrap (b2i b) * 512)) = k + 8 * c + 512 * b2i b
  rw [show IntKind.u64.wrap (IntKind.u64.wrap (b2i b) * 512) = (b2i b) * 2 ^ 9 by rw [IntKind.wrap_u64, IntKind.wrap_u64]; simp only [Int.reducePow]; omega]
  rw [or_join (k + 8 * c) (b2i b) 9 1 (by decide) (by omega) (by simp only [Int.reducePow]; omega) (by omega) (by simp only [Int.reducePow]; omega)]
  simp only [Int.reducePow]
  omega
theorem fitS2 (k c : Int) (b : Bool) (s g : Int) (hp : ∀ j, j < 2 → fitN k c b s g j) (hf : 0 ≤ b2i b ∧ b2i b < 2) : ∀ j, j < 3 → fitN k c b s g j := by
  intro j hj
  by_cases e : j = 2
  · subst e; exact trivial
  · exact hp j (by omega)
theorem step3 (k c : Int) (b : Bool) (s g : Int) (hp : ∀ j, j < 3 → fitN k c b s g j) (hf : 0 ≤ s ∧ s < 65536) :
    bits .or .u64 (acc k c b s g 3) (IntKind.u64.wrap (IntKind.u64.wrap s * 1024)) = acc k c b s g 4 := by
  have hb := b2i_01 b
  have h0 : 0 ≤ k ∧ k < 8 := hp 0 (by decide)
  have h1 : 0 ≤ c ∧ c < 64 := hp 1 (by decide)
  have h2 : True := hp 2 (by decide)
  show bits .or .u64 (k + 8 * c + 512 * b2i b) (IntKind.u64.wrap (IntKind.u64.wrap s * 1024)) = k + 8 * c + 512 * b2i b + 1024 * s
  rw [show IntKind.u64.wrap (IntKind.u64.wrap s * 1024) = (s) * 2 ^ 10 by rw [IntKind.wrap_u64, IntKind.wrap_u64]; simp only [Int.reducePow]; omega]
  rw [or_join (k + 8 * c + 512 * b2i b) (s) 10 16 (by decide) (by omega) (by simp only [Int.reducePow]; omega) (by omega) (by simp only [Int.reducePow]; omega)]
  simp only [Int.reducePow]
  omega
theorem fitS3 (k c : Int) (b : Bool) (s g : Int) (hp : ∀ j, j < 3 → fitN k c b s g j) (hf : 0 ≤ s ∧ s < 65536) : ∀ j, j < 4 → fitN k c b s g j := by
  intro j hj
  by_cases e : j = 3
  · subst e; exact hf
  · exact hp j (by omega)
theorem step4 (k c : Int) (b : Bool) (s g : Int) (hp : ∀ j, j < 4 → fitN k c b s g j) (hf : 0 ≤ g ∧ g < 4294967296) :
    bits .or .u64 (acc k c b s g 4) (IntKind.u64.wrap (IntKind.u64.wrap g * 67108864)) = acc k c b s g 5 := by
  have hb := b2i_01 b
  have h0 : 0 ≤ k ∧ k < 8 := hp 0 (by decide)
  have h1 : 0 ≤ c ∧ c < 64 := hp 1 (by decide)
  have h2 : True := hp 2 (by decide)
  have h3 : 0 ≤ s ∧ s < 65536 := hp 3 (by decide)
  show bits .or .u64 (k + 8 * c + 512 * b2i b + 1024 * s) (IntKind.u64.wrap (IntKind.u64.wrap g * 67108864)) = k + 8 * c + 512 * b2i b + 1024 * s + 67108864 * g
  rw [show IntKind.u64.wrap (IntKind.u64.wrap g * 67108864) = (g) * 2 ^ 26 by rw [IntKind.wrap_u64, IntKind.wrap_u64]; simp only [Int.reducePow]; omega]
  rw [or_join (k + 8 * c + 512 * b2i b + 1024 * s) (g) 26 32 (by decide) (by omega) (by simp only [Int.reducePow]; omega) (by omega) (by simp only [Int.reducePow]; omega)]
  simp only [Int.reducePow]
  omega
theorem fitS4 (k c : Int) (b : Bool) (s g : Int) (hp : ∀ j, j < 4 → fitN k c b s g j) (hf : 0 ≤ g ∧ g < 4294967296) : ∀ j, j < 5 → fitN k c b s g j := by
  intro j hj
  by_cases e : j = 4
  · subst e; exact hf
  · exact hp j (by omega)

theorem ret_pair {a b : Int} (h : a = b) (c : Int) : Ending.returned (.tuple #[.int .u64 a, .int .i64 c]) = .returned (.tuple #[.int .u64 b, .int .i64 c]) := by rw [h]
def PackPost (k c : Int) (b : Bool) (s g : Int) (w : World) (e : Ending) (w' : World) : Prop :=
  ((packOk k c b s g ∧ e = .returned (.tuple #[.int .u64 (wordOf k c b s g), .int .i64 0])) ∨ (¬ packOk k c b s g ∧ e = .returned (.tuple #[.int .u64 0, .int .i64 1]))) ∧ Below w.heap.size w w'
set_option maxHeartbeats 4000000 in
set_option maxRecDepth 100000 in
theorem packed_Pack.walk_false (k c s g : Int) (w : World) (HLd : Ld w) :
    Calls Tryd.prog 64 #[.agg #[.int .i64 k, .int .i64 c, .bool false, .int .i64 s, .int .i64 g]] w (PackPost k c false s g w) := by
  have hix0 : ∀ w, (Instr.index 107 (.agg #[.int .i64 k, .int .i64 c, .int .i64 (b2i false), .int .i64 s, .int .i64 g]) (.int .i64 0)).run Tryd.prog w = .ok (.int .i64 k) w := fun _ => by kernel_rfl
  have hix1 : ∀ w, (Instr.index 107 (.agg #[.int .i64 k, .int .i64 c, .int .i64 (b2i false), .int .i64 s, .int .i64 g]) (.int .i64 1)).run Tryd.prog w = .ok (.int .i64 c) w := fun _ => by kernel_rfl
  have hix2 : ∀ w, (Instr.index 107 (.agg #[.int .i64 k, .int .i64 c, .int .i64 (b2i false), .int .i64 s, .int .i64 g]) (.int .i64 2)).run Tryd.prog w = .ok (.int .i64 (b2i false)) w := fun _ => by kernel_rfl
  have hix3 : ∀ w, (Instr.index 107 (.agg #[.int .i64 k, .int .i64 c, .int .i64 (b2i false), .int .i64 s, .int .i64 g]) (.int .i64 3)).run Tryd.prog w = .ok (.int .i64 s) w := fun _ => by kernel_rfl
  have hix4 : ∀ w, (Instr.index 107 (.agg #[.int .i64 k, .int .i64 c, .int .i64 (b2i false), .int .i64 s, .int .i64 g]) (.int .i64 4)).run Tryd.prog w = .ok (.int .i64 g) w := fun _ => by kernel_rfl
  go_enter Tryd.func64, Tryd.ntmps64
  go_wp2_with (go_at_call 72; refine (numbers _ _ _ _ _ _).mono ?_; rintro e w1 ⟨rfl, hb1⟩; have hB : Below w.heap.size w w1 := below_then (below_alloc (Below.refl _ _) _) (by simp) hb1; have HB := Aside0.mk hB; clear hB hb1)
  go_loopw [2, 15] (fun a n wr => ∃ i : Nat, i ≤ 5 ∧ n = .int .i64 (i : Int) ∧ a = .int .u64 (acc k c false s g i) ∧ (∀ j, j < i → fitN k c false s g j) ∧ Below w.heap.size w wr) (fun _ n _ => 5 - (intOf n).toNat)
  case atStart => exact ⟨0, by omega, rfl, rfl, fun j hj => absurd hj (by omega), HB.out⟩
  case round =>
    obtain ⟨i, hi, rfl, rfl, hft, hbw⟩ := hrel
    have hL := Ld.below HLd hbw
    have HF := Aside0.mk hft
    have HBW := Aside0.mk hbw
    clear hft hbw
    have hcases : i = 0 ∨ i = 1 ∨ i = 2 ∨ i = 3 ∨ i = 4 ∨ i = 5 := by omega
    rcases hcases with rfl | rfl | rfl | rfl | rfl | rfl
    · by_cases hf : (0 : Int) ≤ k ∧ (k : Int) < 8
      · have HN := Aside0.mk hf
        clear hf
        go_wp2_with (go_at_call 73; refine (fits0t _ _ hL HN.out).mono ?_; rintro e w2 ⟨rfl, hb2⟩; have hc := (Ld.below hL hb2).c 0 (by decide); simp only [spanL, List.getD_cons_zero, List.getD_cons_succ] at hc; have HB2 := Aside0.mk (below_then HBW.out HBW.out.size hb2); clear hb2)
        refine ⟨⟨1, by omega, rfl, ?_, fitS0 _ _ _ _ _ HF.out HN.out, HB2.out⟩, by simp [intOf]⟩
        exact congrArg (Value.int IntKind.u64) (step0 _ _ _ _ _ HF.out HN.out)
      · have HN := Aside0.mk hf
        clear hf
        go_wp2_with (go_at_call 73; refine (fits0n _ _ hL HN.out).mono ?_; rintro e w2 ⟨rfl, hb2⟩; have HB2 := Aside0.mk (below_then HBW.out HBW.out.size hb2); clear hb2)
        go_ret2
        refine ⟨.inr ⟨fun h => HN.out ?_, rfl⟩, HB2.out⟩
        obtain ⟨_, h0, h1, h2, h3⟩ := h
        have := b2i_01 false
        omega
    · by_cases hf : (0 : Int) ≤ c ∧ (c : Int) < 64
      · have HN := Aside0.mk hf
        clear hf
        go_wp2_with (go_at_call 73; refine (fits1t _ _ hL HN.out).mono ?_; rintro e w2 ⟨rfl, hb2⟩; have hc := (Ld.below hL hb2).c 2 (by decide); simp only [spanL, List.getD_cons_zero, List.getD_cons_succ] at hc; have HB2 := Aside0.mk (below_then HBW.out HBW.out.size hb2); clear hb2)
        refine ⟨⟨2, by omega, rfl, ?_, fitS1 _ _ _ _ _ HF.out HN.out, HB2.out⟩, by simp [intOf]⟩
        exact congrArg (Value.int IntKind.u64) (step1 _ _ _ _ _ HF.out HN.out)
      · have HN := Aside0.mk hf
        clear hf
        go_wp2_with (go_at_call 73; refine (fits1n _ _ hL HN.out).mono ?_; rintro e w2 ⟨rfl, hb2⟩; have HB2 := Aside0.mk (below_then HBW.out HBW.out.size hb2); clear hb2)
        go_ret2
        refine ⟨.inr ⟨fun h => HN.out ?_, rfl⟩, HB2.out⟩
        obtain ⟨_, h0, h1, h2, h3⟩ := h
        have := b2i_01 false
        omega
    · by_cases hf : (0 : Int) ≤ b2i false ∧ (b2i false : Int) < 2
      · have HN := Aside0.mk hf
        clear hf
        go_wp2_with (go_at_call 73; refine (fits2t _ _ hL HN.out).mono ?_; rintro e w2 ⟨rfl, hb2⟩; have hc := (Ld.below hL hb2).c 4 (by decide); simp only [spanL, List.getD_cons_zero, List.getD_cons_succ] at hc; have HB2 := Aside0.mk (below_then HBW.out HBW.out.size hb2); clear hb2)
        refine ⟨⟨3, by omega, rfl, ?_, fitS2 _ _ _ _ _ HF.out HN.out, HB2.out⟩, by simp [intOf]⟩
        exact congrArg (Value.int IntKind.u64) (step2 _ _ _ _ _ HF.out HN.out)
      · have HN := Aside0.mk hf
        clear hf
        go_wp2_with (go_at_call 73; refine (fits2n _ _ hL HN.out).mono ?_; rintro e w2 ⟨rfl, hb2⟩; have HB2 := Aside0.mk (below_then HBW.out HBW.out.size hb2); clear hb2)
        go_ret2
        refine ⟨.inr ⟨fun h => HN.out ?_, rfl⟩, HB2.out⟩
        obtain ⟨_, h0, h1, h2, h3⟩ := h
        have := b2i_01 false
        omega
    · by_cases hf : (0 : Int) ≤ s ∧ (s : Int) < 65536
      · have HN := Aside0.mk hf
        clear hf
        go_wp2_with (go_at_call 73; refine (fits3t _ _ hL HN.out).mono ?_; rintro e w2 ⟨rfl, hb2⟩; have hc := (Ld.below hL hb2).c 6 (by decide); simp only [spanL, List.getD_cons_zero, List.getD_cons_succ] at hc; have HB2 := Aside0.mk (below_then HBW.out HBW.out.size hb2); clear hb2)
        refine ⟨⟨4, by omega, rfl, ?_, fitS3 _ _ _ _ _ HF.out HN.out, HB2.out⟩, by simp [intOf]⟩
        exact congrArg (Value.int IntKind.u64) (step3 _ _ _ _ _ HF.out HN.out)
      · have HN := Aside0.mk hf
        clear hf
        go_wp2_with (go_at_call 73; refine (fits3n _ _ hL HN.out).mono ?_; rintro e w2 ⟨rfl, hb2⟩; have HB2 := Aside0.mk (below_then HBW.out HBW.out.size hb2); clear hb2)
        go_ret2
        refine ⟨.inr ⟨fun h => HN.out ?_, rfl⟩, HB2.out⟩
        obtain ⟨_, h0, h1, h2, h3⟩ := h
        have := b2i_01 false
        omega
    · by_cases hf : (0 : Int) ≤ g ∧ (g : Int) < 4294967296
      · have HN := Aside0.mk hf
        clear hf
        go_wp2_with (go_at_call 73; refine (fits4t _ _ hL HN.out).mono ?_; rintro e w2 ⟨rfl, hb2⟩; have hc := (Ld.below hL hb2).c 8 (by decide); simp only [spanL, List.getD_cons_zero, List.getD_cons_succ] at hc; have HB2 := Aside0.mk (below_then HBW.out HBW.out.size hb2); clear hb2)
        refine ⟨⟨5, by omega, rfl, ?_, fitS4 _ _ _ _ _ HF.out HN.out, HB2.out⟩, by simp [intOf]⟩
        exact congrArg (Value.int IntKind.u64) (step4 _ _ _ _ _ HF.out HN.out)
      · have HN := Aside0.mk hf
        clear hf
        go_wp2_with (go_at_call 73; refine (fits4n _ _ hL HN.out).mono ?_; rintro e w2 ⟨rfl, hb2⟩; have HB2 := Aside0.mk (below_then HBW.out HBW.out.size hb2); clear hb2)
        go_ret2
        refine ⟨.inr ⟨fun h => HN.out ?_, rfl⟩, HB2.out⟩
        obtain ⟨_, h0, h1, h2, h3⟩ := h
        have := b2i_01 false
        omega
    · go_wp2
      go_ret2
      have f0 := HF.out 0 (by decide)
      have f1 := HF.out 1 (by decide)
      have f3 := HF.out 3 (by decide)
      have f4 := HF.out 4 (by decide)
      exact ⟨.inl ⟨⟨by simp, f0, f1, f3, f4⟩, rfl⟩, HBW.out⟩
set_option maxHeartbeats 4000000 in
set_option maxRecDepth 100000 in
theorem packed_Pack.walk_true (c s g : Int) (w : World) (HLd : Ld w) :
    Calls Tryd.prog 64 #[.agg #[.int .i64 7, .int .i64 c, .bool true, .int .i64 s, .int .i64 g]] w (PackPost 7 c true s g w) := by
  have hix0 : ∀ w, (Instr.index 107 (.agg #[.int .i64 7, .int .i64 c, .int .i64 (b2i true), .int .i64 s, .int .i64 g]) (.int .i64 0)).run Tryd.prog w = .ok (.int .i64 7) w := fun _ => by kernel_rfl
  have hix1 : ∀ w, (Instr.index 107 (.agg #[.int .i64 7, .int .i64 c, .int .i64 (b2i true), .int .i64 s, .int .i64 g]) (.int .i64 1)).run Tryd.prog w = .ok (.int .i64 c) w := fun _ => by kernel_rfl
  have hix2 : ∀ w, (Instr.index 107 (.agg #[.int .i64 7, .int .i64 c, .int .i64 (b2i true), .int .i64 s, .int .i64 g]) (.int .i64 2)).run Tryd.prog w = .ok (.int .i64 (b2i true)) w := fun _ => by kernel_rfl
  have hix3 : ∀ w, (Instr.index 107 (.agg #[.int .i64 7, .int .i64 c, .int .i64 (b2i true), .int .i64 s, .int .i64 g]) (.int .i64 3)).run Tryd.prog w = .ok (.int .i64 s) w := fun _ => by kernel_rfl
  have hix4 : ∀ w, (Instr.index 107 (.agg #[.int .i64 7, .int .i64 c, .int .i64 (b2i true), .int .i64 s, .int .i64 g]) (.int .i64 4)).run Tryd.prog w = .ok (.int .i64 g) w := fun _ => by kernel_rfl
  go_enter Tryd.func64, Tryd.ntmps64
  go_wp2_with (go_at_call 72; refine (numbers _ _ _ _ _ _).mono ?_; rintro e w1 ⟨rfl, hb1⟩; have hB : Below w.heap.size w w1 := below_then (below_alloc (Below.refl _ _) _) (by simp) hb1; have HB := Aside0.mk hB; clear hB hb1)
  go_loopw [2, 15] (fun a n wr => ∃ i : Nat, i ≤ 5 ∧ n = .int .i64 (i : Int) ∧ a = .int .u64 (acc 7 c true s g i) ∧ (∀ j, j < i → fitN 7 c true s g j) ∧ Below w.heap.size w wr) (fun _ n _ => 5 - (intOf n).toNat)
  case atStart => exact ⟨0, by omega, rfl, rfl, fun j hj => absurd hj (by omega), HB.out⟩
  case round =>
    obtain ⟨i, hi, rfl, rfl, hft, hbw⟩ := hrel
    have hL := Ld.below HLd hbw
    have HF := Aside0.mk hft
    have HBW := Aside0.mk hbw
    clear hft hbw
    have hcases : i = 0 ∨ i = 1 ∨ i = 2 ∨ i = 3 ∨ i = 4 ∨ i = 5 := by omega
    rcases hcases with rfl | rfl | rfl | rfl | rfl | rfl
    · by_cases hf : (0 : Int) ≤ 7 ∧ (7 : Int) < 8
      · have HN := Aside0.mk hf
        clear hf
        go_wp2_with (go_at_call 73; refine (fits0t _ _ hL HN.out).mono ?_; rintro e w2 ⟨rfl, hb2⟩; have hc := (Ld.below hL hb2).c 0 (by decide); simp only [spanL, List.getD_cons_zero, List.getD_cons_succ] at hc; have HB2 := Aside0.mk (below_then HBW.out HBW.out.size hb2); clear hb2)
        refine ⟨⟨1, by omega, rfl, ?_, fitS0 _ _ _ _ _ HF.out HN.out, HB2.out⟩, by simp [intOf]⟩
        exact congrArg (Value.int IntKind.u64) (step0 _ _ _ _ _ HF.out HN.out)
      · have HN := Aside0.mk hf
        clear hf
        go_wp2_with (go_at_call 73; refine (fits0n _ _ hL HN.out).mono ?_; rintro e w2 ⟨rfl, hb2⟩; have HB2 := Aside0.mk (below_then HBW.out HBW.out.size hb2); clear hb2)
        go_ret2
        refine ⟨.inr ⟨fun h => HN.out ?_, rfl⟩, HB2.out⟩
        obtain ⟨_, h0, h1, h2, h3⟩ := h
        have := b2i_01 true
        omega
    · by_cases hf : (0 : Int) ≤ c ∧ (c : Int) < 64
      · have HN := Aside0.mk hf
        clear hf
        go_wp2_with (go_at_call 73; refine (fits1t _ _ hL HN.out).mono ?_; rintro e w2 ⟨rfl, hb2⟩; have hc := (Ld.below hL hb2).c 2 (by decide); simp only [spanL, List.getD_cons_zero, List.getD_cons_succ] at hc; have HB2 := Aside0.mk (below_then HBW.out HBW.out.size hb2); clear hb2)
        refine ⟨⟨2, by omega, rfl, ?_, fitS1 _ _ _ _ _ HF.out HN.out, HB2.out⟩, by simp [intOf]⟩
        exact congrArg (Value.int IntKind.u64) (step1 _ _ _ _ _ HF.out HN.out)
      · have HN := Aside0.mk hf
        clear hf
        go_wp2_with (go_at_call 73; refine (fits1n _ _ hL HN.out).mono ?_; rintro e w2 ⟨rfl, hb2⟩; have HB2 := Aside0.mk (below_then HBW.out HBW.out.size hb2); clear hb2)
        go_ret2
        refine ⟨.inr ⟨fun h => HN.out ?_, rfl⟩, HB2.out⟩
        obtain ⟨_, h0, h1, h2, h3⟩ := h
        have := b2i_01 true
        omega
    · by_cases hf : (0 : Int) ≤ b2i true ∧ (b2i true : Int) < 2
      · have HN := Aside0.mk hf
        clear hf
        go_wp2_with (go_at_call 73; refine (fits2t _ _ hL HN.out).mono ?_; rintro e w2 ⟨rfl, hb2⟩; have hc := (Ld.below hL hb2).c 4 (by decide); simp only [spanL, List.getD_cons_zero, List.getD_cons_succ] at hc; have HB2 := Aside0.mk (below_then HBW.out HBW.out.size hb2); clear hb2)
        refine ⟨⟨3, by omega, rfl, ?_, fitS2 _ _ _ _ _ HF.out HN.out, HB2.out⟩, by simp [intOf]⟩
        exact congrArg (Value.int IntKind.u64) (step2 _ _ _ _ _ HF.out HN.out)
      · have HN := Aside0.mk hf
        clear hf
        go_wp2_with (go_at_call 73; refine (fits2n _ _ hL HN.out).mono ?_; rintro e w2 ⟨rfl, hb2⟩; have HB2 := Aside0.mk (below_then HBW.out HBW.out.size hb2); clear hb2)
        go_ret2
        refine ⟨.inr ⟨fun h => HN.out ?_, rfl⟩, HB2.out⟩
        obtain ⟨_, h0, h1, h2, h3⟩ := h
        have := b2i_01 true
        omega
    · by_cases hf : (0 : Int) ≤ s ∧ (s : Int) < 65536
      · have HN := Aside0.mk hf
        clear hf
        go_wp2_with (go_at_call 73; refine (fits3t _ _ hL HN.out).mono ?_; rintro e w2 ⟨rfl, hb2⟩; have hc := (Ld.below hL hb2).c 6 (by decide); simp only [spanL, List.getD_cons_zero, List.getD_cons_succ] at hc; have HB2 := Aside0.mk (below_then HBW.out HBW.out.size hb2); clear hb2)
        refine ⟨⟨4, by omega, rfl, ?_, fitS3 _ _ _ _ _ HF.out HN.out, HB2.out⟩, by simp [intOf]⟩
        exact congrArg (Value.int IntKind.u64) (step3 _ _ _ _ _ HF.out HN.out)
      · have HN := Aside0.mk hf
        clear hf
        go_wp2_with (go_at_call 73; refine (fits3n _ _ hL HN.out).mono ?_; rintro e w2 ⟨rfl, hb2⟩; have HB2 := Aside0.mk (below_then HBW.out HBW.out.size hb2); clear hb2)
        go_ret2
        refine ⟨.inr ⟨fun h => HN.out ?_, rfl⟩, HB2.out⟩
        obtain ⟨_, h0, h1, h2, h3⟩ := h
        have := b2i_01 true
        omega
    · by_cases hf : (0 : Int) ≤ g ∧ (g : Int) < 4294967296
      · have HN := Aside0.mk hf
        clear hf
        go_wp2_with (go_at_call 73; refine (fits4t _ _ hL HN.out).mono ?_; rintro e w2 ⟨rfl, hb2⟩; have hc := (Ld.below hL hb2).c 8 (by decide); simp only [spanL, List.getD_cons_zero, List.getD_cons_succ] at hc; have HB2 := Aside0.mk (below_then HBW.out HBW.out.size hb2); clear hb2)
        refine ⟨⟨5, by omega, rfl, ?_, fitS4 _ _ _ _ _ HF.out HN.out, HB2.out⟩, by simp [intOf]⟩
        exact congrArg (Value.int IntKind.u64) (step4 _ _ _ _ _ HF.out HN.out)
      · have HN := Aside0.mk hf
        clear hf
        go_wp2_with (go_at_call 73; refine (fits4n _ _ hL HN.out).mono ?_; rintro e w2 ⟨rfl, hb2⟩; have HB2 := Aside0.mk (below_then HBW.out HBW.out.size hb2); clear hb2)
        go_ret2
        refine ⟨.inr ⟨fun h => HN.out ?_, rfl⟩, HB2.out⟩
        obtain ⟨_, h0, h1, h2, h3⟩ := h
        have := b2i_01 true
        omega
    · go_wp2
      go_ret2
      have f0 := HF.out 0 (by decide)
      have f1 := HF.out 1 (by decide)
      have f3 := HF.out 3 (by decide)
      have f4 := HF.out 4 (by decide)
      exact ⟨.inl ⟨⟨by simp, f0, f1, f3, f4⟩, rfl⟩, HBW.out⟩

theorem packed_Pack.calls (a0_0 a0_1 : Int) (a0_2 : Bool) (a0_3 a0_4 : Int) (r1 r2 : Int) (w : World) (HLd : Ld w) (h : packed_Pack.f a0_0 a0_1 a0_2 a0_3 a0_4 = some (r1, r2)) :
    Calls Tryd.prog 64 #[.agg #[.int .i64 a0_0, .int .i64 a0_1, .bool a0_2, .int .i64 a0_3, .int .i64 a0_4]] w fun e w' => e = .returned (.tuple #[.int .u64 r1, .int .i64 r2]) ∧ Below w.heap.size w w' := by
  have key : Calls Tryd.prog 64 #[.agg #[.int .i64 a0_0, .int .i64 a0_1, .bool a0_2, .int .i64 a0_3, .int .i64 a0_4]] w (PackPost a0_0 a0_1 a0_2 a0_3 a0_4 w) := by
    cases a0_2
    · exact packed_Pack.walk_false _ _ _ _ w HLd
    · by_cases hk : a0_0 = 7
      · subst hk; exact packed_Pack.walk_true _ _ _ w HLd
      · have hne : (a0_0 != 7) = true := bne_iff_ne.2 hk
        have HN := Aside0.mk hk
        clear hk h
        go_enter Tryd.func64, Tryd.ntmps64
        go_wp2
        go_ret2
        exact ⟨.inr ⟨fun h => HN.out (h.1 rfl), rfl⟩, below_alloc (Below.refl _ _) _⟩
  refine key.mono fun e w' hp => ⟨?_, hp.2⟩
  unfold packed_Pack.f at h
  rcases hp.1 with ⟨hk, he⟩ | ⟨hk, he⟩
  · rw [if_pos hk] at h; simp only [Option.some.injEq, Prod.mk.injEq] at h; rw [he, ← h.1, ← h.2]
  · rw [if_neg hk] at h; simp only [Option.some.injEq, Prod.mk.injEq] at h; rw [he, ← h.1, ← h.2]
end Go.Proofs.YtdchbcpfciljoaaDoor.Given
/- Package life: (rule).holds, and what a rule does. -/
namespace Go.Proofs.YtdchbcpfciljoaaDoor.Given
open Go.RowKit Go.Proofs.YtdchbcpfciljoaaDoor Go.Proofs.YtdchbcpfciljoaaDoorW.PrintWords
set_option linter.unusedVariables false
set_option linter.unusedSimpArgs false
theorem eqf (w : World) : Sem.run Tryd.prog (binOp BinOp.eql 96 Value.nilFunc Value.nilFunc) w = .ok (.bool true) w := by kernel_rfl
theorem eqf2 (f : Nat) (w : World) : Sem.run Tryd.prog (binOp BinOp.eql 96 (.func (.func f) #[] #[]) Value.nilFunc) w = .ok (.bool false) w := by kernel_rfl
theorem nef (w : World) : Sem.run Tryd.prog (binOp BinOp.neq 97 Value.nilFunc Value.nilFunc) w = .ok (.bool false) w := by kernel_rfl
theorem nef2 (f : Nat) (w : World) : Sem.run Tryd.prog (binOp BinOp.neq 97 (.func (.func f) #[] #[]) Value.nilFunc) w = .ok (.bool true) w := by kernel_rfl
def stV (k c : Int) (b : Bool) (s g : Int) : Value := .agg #[.int .i64 k, .int .i64 c, .bool b, .int .i64 s, .int .i64 g]
set_option maxHeartbeats 1000000 in
theorem plain_calls (k c : Int) (b : Bool) (s g : Int) (w : World) : Calls Tryd.prog 94 #[stV k c b s g] w fun e w' => e = .returned (.bool (!b)) ∧ Below w.heap.size w w' := by
  unfold stV
  go_enter Tryd.func94, Tryd.ntmps94
  go_wp2
  go_ret
  exact ⟨rfl, below_alloc (Below.refl _ _) _⟩
set_option maxHeartbeats 1000000 in
theorem noted_calls (k c : Int) (b : Bool) (s g : Int) (w : World) : Calls Tryd.prog 96 #[stV k c b s g] w fun e w' => e = .returned (.bool b) ∧ Below w.heap.size w w' := by
  unfold stV
  go_enter Tryd.func96, Tryd.ntmps96
  go_wp2
  go_ret
  exact ⟨rfl, below_alloc (Below.refl _ _) _⟩
theorem con_take_succ (l : List Int) (q : Int) (k : Nat) (h : k < l.length) : (l.take (k + 1)).any (fun y => y == q) = ((l.take k).any (fun y => y == q) || (l[k] == q)) := by
  rw [List.take_succ_eq_append_getElem h, List.any_append]
  simp
def ifB : Nat → Bool → Bool
  | 8, b => !b
  | 9, b => !b
  | 10, b => b
  | _, _ => true
theorem cell_block_ {W : World} {a : Addr} {v : Value} (h : W.cell? a = some v) : a.block < W.heap.size := by
  unfold World.cell? at h
  cases hx : W.heap[a.block]? with
  | none => rw [hx] at h; simp at h
  | some o => exact (Array.getElem?_eq_some_iff.1 hx).1
set_option maxRecDepth 100000 in
set_option maxHeartbeats 2000000 in
theorem holds_nil (ad : Addr) (cap : Nat) (l : List Int) (tt : Int) (f : Value) (k c : Int) (b : Bool) (s g : Int) (w : World) (hm : l.length ≤ 100) (hcap : l.length ≤ cap) (hc : ∀ j q, l[j]? = some q → w.cell? (ad.add j) = some (.int .i64 q)) :
    Calls Tryd.prog 63 #[.agg #[.slice (some ad) l.length cap, .int .i64 tt, .nilFunc, f], stV k c b s g] w fun e w' => e = .returned (.bool (l.any fun y => y == k)) ∧ Below w.heap.size w w' := by
  unfold stV
  have HC := Aside0.mk hc
  clear hc
  go_enter Tryd.func63, Tryd.ntmps63
  go_wp2
  go_loopg [10] l.length (fun kq i w' => ∃ q : Nat, kq + q = l.length ∧ i = .int .i64 (q : Int) ∧ (l.take q).any (fun y => y == k) = false ∧ w' = ((w.alloc (.cells #[.slice (some ad) l.length cap, .int .i64 tt, .nilFunc, f] 99)).alloc (.cells #[.int .i64 k, .int .i64 c, .bool b, .int .i64 s, .int .i64 g] 77)))
  case atStart => exact ⟨0, by omega, rfl, rfl, rfl⟩
  case round =>
    obtain ⟨q, hq, rfl, hno, rfl⟩ := hrel
    have HNO := Aside0.mk hno
    clear hno
    by_cases hlt : q < l.length
    · have hx := HC.out q l[q] (List.getElem?_eq_getElem hlt)
      have hxb := cell_block_ hx
      have hx1 := pw_cell_below (w1 := ((w.alloc (.cells #[.slice (some ad) l.length cap, .int .i64 tt, .nilFunc, f] 99)).alloc (.cells #[.int .i64 k, .int .i64 c, .bool b, .int .i64 s, .int .i64 g] 77))) (below_alloc (below_alloc (Below.refl _ _) _) _) hx
      have HT := Aside0.mk (con_take_succ l k q hlt)
      clear hx hxb
      generalize l[q] = y at hx1 HT
      have p1 := eq_true (show (0 : Int) ≤ (q : Int) from by omega)
      have p2 := eq_true (show (q : Int) < (l.length : Int) from by omega)
      cases hy : (y == k)
      · have HY := Aside0.mk hy
        go_wp2
        go_roundg (gk - 1)
        case measure => omega
        case rel => exact ⟨q + 1, by omega, by simp, by rw [HT.out, HNO.out, HY.out]; rfl, rfl⟩
      · have HY := Aside0.mk hy
        have hall : l.any (fun y => y == k) = true := by
          have h2 := HT.out
          rw [HY.out, Bool.or_true, List.any_eq_true] at h2
          obtain ⟨z, hz, hz2⟩ := h2
          exact List.any_eq_true.2 ⟨z, List.mem_of_mem_take hz, hz2⟩
        have HALL := Aside0.mk hall
        clear hall
        have hqf := eqf
        have hqf2 := eqf2
        go_wp2
        go_ret
        refine ⟨?_, ?_⟩
        · rw [HALL.out]; rfl
        · repeat (first | exact Below.refl _ _ | exact HBX.out | apply below_alloc | apply pw_below_drewN)
    · obtain rfl : q = l.length := by omega
      go_wp2
      go_ret
      refine ⟨?_, ?_⟩
      · have := HNO.out
        rw [List.take_length] at this
        rw [this]; rfl
      · repeat (first | exact Below.refl _ _ | apply below_alloc | apply pw_below_drewN)
set_option maxRecDepth 100000 in
set_option maxHeartbeats 2000000 in
theorem holds_plain (ad : Addr) (cap : Nat) (l : List Int) (tt : Int) (f : Value) (k c : Int) (b : Bool) (s g : Int) (w : World) (hm : l.length ≤ 100) (hcap : l.length ≤ cap) (hc : ∀ j q, l[j]? = some q → w.cell? (ad.add j) = some (.int .i64 q)) :
    Calls Tryd.prog 63 #[.agg #[.slice (some ad) l.length cap, .int .i64 tt, .func (.func 94) #[] #[], f], stV k c b s g] w fun e w' => e = .returned (.bool ((l.any fun y => y == k) && !b)) ∧ Below w.heap.size w w' := by
  unfold stV
  have HC := Aside0.mk hc
  clear hc
  go_enter Tryd.func63, Tryd.ntmps63
  go_wp2
  go_loopg [10] l.length (fun kq i w' => ∃ q : Nat, kq + q = l.length ∧ i = .int .i64 (q : Int) ∧ (l.take q).any (fun y => y == k) = false ∧ w' = ((w.alloc (.cells #[.slice (some ad) l.length cap, .int .i64 tt, .func (.func 94) #[] #[], f] 99)).alloc (.cells #[.int .i64 k, .int .i64 c, .bool b, .int .i64 s, .int .i64 g] 77)))
  case atStart => exact ⟨0, by omega, rfl, rfl, rfl⟩
  case round =>
    obtain ⟨q, hq, rfl, hno, rfl⟩ := hrel
    have HNO := Aside0.mk hno
    clear hno
    by_cases hlt : q < l.length
    · have hx := HC.out q l[q] (List.getElem?_eq_getElem hlt)
      have hxb := cell_block_ hx
      have hx1 := pw_cell_below (w1 := ((w.alloc (.cells #[.slice (some ad) l.length cap, .int .i64 tt, .func (.func 94) #[] #[], f] 99)).alloc (.cells #[.int .i64 k, .int .i64 c, .bool b, .int .i64 s, .int .i64 g] 77))) (below_alloc (below_alloc (Below.refl _ _) _) _) hx
      have HT := Aside0.mk (con_take_succ l k q hlt)
      clear hx hxb
      generalize l[q] = y at hx1 HT
      have p1 := eq_true (show (0 : Int) ≤ (q : Int) from by omega)
      have p2 := eq_true (show (q : Int) < (l.length : Int) from by omega)
      cases hy : (y == k)
      · have HY := Aside0.mk hy
        go_wp2
        go_roundg (gk - 1)
        case measure => omega
        case rel => exact ⟨q + 1, by omega, by simp, by rw [HT.out, HNO.out, HY.out]; rfl, rfl⟩
      · have HY := Aside0.mk hy
        have hall : l.any (fun y => y == k) = true := by
          have h2 := HT.out
          rw [HY.out, Bool.or_true, List.any_eq_true] at h2
          obtain ⟨z, hz, hz2⟩ := h2
          exact List.any_eq_true.2 ⟨z, List.mem_of_mem_take hz, hz2⟩
        have HALL := Aside0.mk hall
        clear hall
        have hqf := eqf
        have hqf2 := eqf2
        go_wp2_with (go_at_call 94; refine (plain_calls k c b s g _).mono ?_; rintro e w' ⟨rfl, hb⟩; have HBX := Aside0.mk (below_step (below_alloc (below_alloc (Below.refl w.heap.size w) _) _) hb); clear hb)
        go_ret
        refine ⟨?_, ?_⟩
        · rw [HALL.out]; rfl
        · repeat (first | exact Below.refl _ _ | exact HBX.out | apply below_alloc | apply pw_below_drewN)
    · obtain rfl : q = l.length := by omega
      go_wp2
      go_ret
      refine ⟨?_, ?_⟩
      · have := HNO.out
        rw [List.take_length] at this
        rw [this]; rfl
      · repeat (first | exact Below.refl _ _ | apply below_alloc | apply pw_below_drewN)
set_option maxRecDepth 100000 in
set_option maxHeartbeats 2000000 in
theorem holds_noted (ad : Addr) (cap : Nat) (l : List Int) (tt : Int) (f : Value) (k c : Int) (b : Bool) (s g : Int) (w : World) (hm : l.length ≤ 100) (hcap : l.length ≤ cap) (hc : ∀ j q, l[j]? = some q → w.cell? (ad.add j) = some (.int .i64 q)) :
    Calls Tryd.prog 63 #[.agg #[.slice (some ad) l.length cap, .int .i64 tt, .func (.func 96) #[] #[], f], stV k c b s g] w fun e w' => e = .returned (.bool ((l.any fun y => y == k) && b)) ∧ Below w.heap.size w w' := by
  unfold stV
  have HC := Aside0.mk hc
  clear hc
  go_enter Tryd.func63, Tryd.ntmps63
  go_wp2
  go_loopg [10] l.length (fun kq i w' => ∃ q : Nat, kq + q = l.length ∧ i = .int .i64 (q : Int) ∧ (l.take q).any (fun y => y == k) = false ∧ w' = ((w.alloc (.cells #[.slice (some ad) l.length cap, .int .i64 tt, .func (.func 96) #[] #[], f] 99)).alloc (.cells #[.int .i64 k, .int .i64 c, .bool b, .int .i64 s, .int .i64 g] 77)))
  case atStart => exact ⟨0, by omega, rfl, rfl, rfl⟩
  case round =>
    obtain ⟨q, hq, rfl, hno, rfl⟩ := hrel
    have HNO := Aside0.mk hno
    clear hno
    by_cases hlt : q < l.length
    · have hx := HC.out q l[q] (List.getElem?_eq_getElem hlt)
      have hxb := cell_block_ hx
      have hx1 := pw_cell_below (w1 := ((w.alloc (.cells #[.slice (some ad) l.length cap, .int .i64 tt, .func (.func 96) #[] #[], f] 99)).alloc (.cells #[.int .i64 k, .int .i64 c, .bool b, .int .i64 s, .int .i64 g] 77))) (below_alloc (below_alloc (Below.refl _ _) _) _) hx
      have HT := Aside0.mk (con_take_succ l k q hlt)
      clear hx hxb
      generalize l[q] = y at hx1 HT
      have p1 := eq_true (show (0 : Int) ≤ (q : Int) from by omega)
      have p2 := eq_true (show (q : Int) < (l.length : Int) from by omega)
      cases hy : (y == k)
      · have HY := Aside0.mk hy
        go_wp2
        go_roundg (gk - 1)
        case measure => omega
        case rel => exact ⟨q + 1, by omega, by simp, by rw [HT.out, HNO.out, HY.out]; rfl, rfl⟩
      · have HY := Aside0.mk hy
        have hall : l.any (fun y => y == k) = true := by
          have h2 := HT.out
          rw [HY.out, Bool.or_true, List.any_eq_true] at h2
          obtain ⟨z, hz, hz2⟩ := h2
          exact List.any_eq_true.2 ⟨z, List.mem_of_mem_take hz, hz2⟩
        have HALL := Aside0.mk hall
        clear hall
        have hqf := eqf
        have hqf2 := eqf2
        go_wp2_with (go_at_call 96; refine (noted_calls k c b s g _).mono ?_; rintro e w' ⟨rfl, hb⟩; have HBX := Aside0.mk (below_step (below_alloc (below_alloc (Below.refl w.heap.size w) _) _) hb); clear hb)
        go_ret
        refine ⟨?_, ?_⟩
        · rw [HALL.out]; rfl
        · repeat (first | exact Below.refl _ _ | exact HBX.out | apply below_alloc | apply pw_below_drewN)
    · obtain rfl : q = l.length := by omega
      go_wp2
      go_ret
      refine ⟨?_, ?_⟩
      · have := HNO.out
        rw [List.take_length] at this
        rw [this]; rfl
      · repeat (first | exact Below.refl _ _ | apply below_alloc | apply pw_below_drewN)
theorem Below.less {n m : Nat} {X Y : World} (h : Below n X Y) (hm : m ≤ n) : Below m X Y := ⟨h.os, h.tape, h.output, h.size, fun k hk => h.block k (Nat.lt_of_lt_of_le hk hm)⟩
def DoPost (B : Nat) (cs : Array Value) (W : World) (e : Ending) (w' : World) : Prop := e = .returned (.tuple #[]) ∧ w'.heap[B]? = some (.cells cs 77 (0, 0)) ∧ Below B W w'
set_option maxRecDepth 100000 in
set_option maxHeartbeats 2000000 in
theorem do56 (B : Nat) (k c : Int) (b : Bool) (s g cpu : Int) (W : World) (K : W.heap[B]? = some (.cells #[.int .i64 k, .int .i64 c, .bool b, .int .i64 s, .int .i64 g] 77 (0, 0))) :
    Calls Tryd.prog 91 #[.pointer (some ⟨B, 0, none⟩), .int .i64 cpu] W (DoPost B #[.int .i64 k, .int .i64 cpu, .bool b, .int .i64 0, .int .i64 (wrap64 (g + 1))] W) := by
  have x0 := (blk_cell K 0).trans rfl
  have x1 := (blk_cell K 1).trans rfl
  have x2 := (blk_cell K 2).trans rfl
  have x3 := (blk_cell K 3).trans rfl
  have x4 := (blk_cell K 4).trans rfl
  have q1 := blk_frozen K 1
  have q2 := blk_frozen K 2
  have q3 := blk_frozen K 3
  have q4 := blk_frozen K 4
  have KK := Aside0.mk K
  clear K
  go_enter Tryd.func91, Tryd.ntmps91
  go_wp2
  go_end0
  refine ⟨rfl, ?_, ?_⟩
  · exact (blk_put (blk_put (blk_put KK.out 4 _ rfl) 3 _ rfl) 1 _ rfl)
  · repeat (first | exact Below.refl _ _ | refine Below.setCell (p := ⟨B, _, none⟩) ?_ (Nat.le_refl B) _)
set_option maxRecDepth 100000 in
set_option maxHeartbeats 2000000 in
theorem do57 (B : Nat) (k c : Int) (b : Bool) (s g cpu : Int) (W : World) (K : W.heap[B]? = some (.cells #[.int .i64 k, .int .i64 c, .bool b, .int .i64 s, .int .i64 g] 77 (0, 0))) :
    Calls Tryd.prog 92 #[.pointer (some ⟨B, 0, none⟩), .int .i64 cpu] W (DoPost B #[.int .i64 k, .int .i64 0, .bool b, .int .i64 0, .int .i64 g] W) := by
  have x0 := (blk_cell K 0).trans rfl
  have x1 := (blk_cell K 1).trans rfl
  have x2 := (blk_cell K 2).trans rfl
  have x3 := (blk_cell K 3).trans rfl
  have x4 := (blk_cell K 4).trans rfl
  have q1 := blk_frozen K 1
  have q2 := blk_frozen K 2
  have q3 := blk_frozen K 3
  have q4 := blk_frozen K 4
  have KK := Aside0.mk K
  clear K
  go_enter Tryd.func92, Tryd.ntmps92
  go_wp2
  go_end0
  refine ⟨rfl, ?_, ?_⟩
  · exact (blk_put (blk_put KK.out 3 _ rfl) 1 _ rfl)
  · repeat (first | exact Below.refl _ _ | refine Below.setCell (p := ⟨B, _, none⟩) ?_ (Nat.le_refl B) _)
set_option maxRecDepth 100000 in
set_option maxHeartbeats 2000000 in
theorem do58 (B : Nat) (k c : Int) (b : Bool) (s g cpu : Int) (W : World) (K : W.heap[B]? = some (.cells #[.int .i64 k, .int .i64 c, .bool b, .int .i64 s, .int .i64 g] 77 (0, 0))) :
    Calls Tryd.prog 93 #[.pointer (some ⟨B, 0, none⟩), .int .i64 cpu] W (DoPost B #[.int .i64 k, .int .i64 c, .bool b, .int .i64 (bits .and .i64 (wrap64 (s + 1)) 65535), .int .i64 g] W) := by
  have x0 := (blk_cell K 0).trans rfl
  have x1 := (blk_cell K 1).trans rfl
  have x2 := (blk_cell K 2).trans rfl
  have x3 := (blk_cell K 3).trans rfl
  have x4 := (blk_cell K 4).trans rfl
  have q1 := blk_frozen K 1
  have q2 := blk_frozen K 2
  have q3 := blk_frozen K 3
  have q4 := blk_frozen K 4
  have KK := Aside0.mk K
  clear K
  go_enter Tryd.func93, Tryd.ntmps93
  go_wp2
  go_end0
  refine ⟨rfl, ?_, ?_⟩
  · exact (blk_put KK.out 3 _ rfl)
  · repeat (first | exact Below.refl _ _ | refine Below.setCell (p := ⟨B, _, none⟩) ?_ (Nat.le_refl B) _)
set_option maxRecDepth 100000 in
set_option maxHeartbeats 2000000 in
theorem do60 (B : Nat) (k c : Int) (b : Bool) (s g cpu : Int) (W : World) (K : W.heap[B]? = some (.cells #[.int .i64 k, .int .i64 c, .bool b, .int .i64 s, .int .i64 g] 77 (0, 0))) :
    Calls Tryd.prog 95 #[.pointer (some ⟨B, 0, none⟩), .int .i64 cpu] W (DoPost B #[.int .i64 k, .int .i64 c, .bool true, .int .i64 s, .int .i64 g] W) := by
  have x0 := (blk_cell K 0).trans rfl
  have x1 := (blk_cell K 1).trans rfl
  have x2 := (blk_cell K 2).trans rfl
  have x3 := (blk_cell K 3).trans rfl
  have x4 := (blk_cell K 4).trans rfl
  have q1 := blk_frozen K 1
  have q2 := blk_frozen K 2
  have q3 := blk_frozen K 3
  have q4 := blk_frozen K 4
  have KK := Aside0.mk K
  clear K
  go_enter Tryd.func95, Tryd.ntmps95
  go_wp2
  go_end0
  refine ⟨rfl, ?_, ?_⟩
  · exact (blk_put KK.out 2 _ rfl)
  · repeat (first | exact Below.refl _ _ | refine Below.setCell (p := ⟨B, _, none⟩) ?_ (Nat.le_refl B) _)
set_option maxRecDepth 100000 in
set_option maxHeartbeats 2000000 in
theorem do62 (B : Nat) (k c : Int) (b : Bool) (s g cpu : Int) (W : World) (K : W.heap[B]? = some (.cells #[.int .i64 k, .int .i64 c, .bool b, .int .i64 s, .int .i64 g] 77 (0, 0))) :
    Calls Tryd.prog 97 #[.pointer (some ⟨B, 0, none⟩), .int .i64 cpu] W (DoPost B #[.int .i64 k, .int .i64 cpu, .bool b, .int .i64 s, .int .i64 g] W) := by
  have x0 := (blk_cell K 0).trans rfl
  have x1 := (blk_cell K 1).trans rfl
  have x2 := (blk_cell K 2).trans rfl
  have x3 := (blk_cell K 3).trans rfl
  have x4 := (blk_cell K 4).trans rfl
  have q1 := blk_frozen K 1
  have q2 := blk_frozen K 2
  have q3 := blk_frozen K 3
  have q4 := blk_frozen K 4
  have KK := Aside0.mk K
  clear K
  go_enter Tryd.func97, Tryd.ntmps97
  go_wp2
  go_end0
  refine ⟨rfl, ?_, ?_⟩
  · exact (blk_put KK.out 1 _ rfl)
  · repeat (first | exact Below.refl _ _ | refine Below.setCell (p := ⟨B, _, none⟩) ?_ (Nat.le_refl B) _)
end Go.Proofs.YtdchbcpfciljoaaDoor.Given

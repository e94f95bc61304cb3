/- Kind, Cpu and Gen only read: quiet contracts. -/
import Derived.Test.YtnojbmiodoefmaaDoorPrintF15
import Derived.Test.YtnojbmiodoefmaaDoorPrintF17
import Derived.Test.YtnojbmiodoefmaaDoorPrintF19
namespace Go.Proofs.YtnojbmiodoefmaaDoor
theorem Ld.drewN {w : World} (h : Ld w) (n : Nat) : Ld (w.drewN n) := ⟨fun j hj => h.c j hj⟩
namespace Given
open Go.RowKit Go.Proofs.YtnojbmiodoefmaaDoor Go.Proofs.YtnojbmiodoefmaaDoorW.PrintWords Go.Proofs.YtnojbmiodoefmaaDoor.Print
set_option linter.unusedVariables false
set_option linter.unusedSimpArgs false
set_option maxHeartbeats 1000000 in
theorem part0q (a : Int) (w : World) (HLd : Ld w) (ha : 0 ≤ a) (hb : a < 18446744073709551616) :
    Calls Tryd.prog 27 #[.int .u64 a, .int .i64 0] w fun e w' => e = .returned (.int .i64 (a % 8)) ∧ ∃ n, w' = w.drewN n := by
  have h0 := HLd.c 0 (by decide)
  have h1 := HLd.c 1 (by decide)
  simp only [spanL, List.getD_cons_zero, List.getD_cons_succ] at h0 h1
  have HA := Aside0.mk ha
  have HB := Aside0.mk hb
  clear HLd ha hb
  go_enter Tryd.func27, Tryd.ntmps27
  go_wp2
  go_quiet (fail)
  go_wp2
  go_ret
  refine ⟨ret_i64 ?_, nq, rfl⟩
  have h0 := HA.out
  have h1 := HB.out
  have := and_mask (a) 3 (by decide) (by omega) (by omega)
  rw [show (7 : Int) = 2 ^ 3 - 1 from rfl, this]
  exact wrap_small (by omega) (by omega)
theorem packed_Kind.quiet (a z : Int) (w : World) (HLd : Ld w) (h : packed_Kind.f a = some z) :
    Calls Tryd.prog 15 #[.int .u64 a] w fun e w' => e = .returned (.int .i64 z) ∧ ∃ n, w' = w.drewN n := by
  unfold packed_Kind.f packed_part.f at h
  split at h
  · rename_i hr
    obtain rfl : a % 8 = z := by simpa using h
    clear h
    go_enter Tryd.func15, Tryd.ntmps15
    go_wp2_with fail
    refine (part0q a w HLd hr.1 hr.2).mono ?_
    rintro e w1 ⟨rfl, n1, rfl⟩
    go_wp2_with fail
    go_ret
    exact ⟨rfl, n1, rfl⟩
  · simp at h
set_option maxHeartbeats 1000000 in
theorem part1q (a : Int) (w : World) (HLd : Ld w) (ha : 0 ≤ a) (hb : a < 18446744073709551616) :
    Calls Tryd.prog 27 #[.int .u64 a, .int .i64 1] w fun e w' => e = .returned (.int .i64 (a / 8 % 64)) ∧ ∃ n, w' = w.drewN n := by
  have h0 := HLd.c 2 (by decide)
  have h1 := HLd.c 3 (by decide)
  simp only [spanL, List.getD_cons_zero, List.getD_cons_succ] at h0 h1
  have HA := Aside0.mk ha
  have HB := Aside0.mk hb
  clear HLd ha hb
  go_enter Tryd.func27, Tryd.ntmps27
  go_wp2
  go_quiet (fail)
  go_wp2
  go_ret
  refine ⟨ret_i64 ?_, nq, rfl⟩
  have h0 := HA.out
  have h1 := HB.out
  have := and_mask (a / 8) 6 (by decide) (by omega) (by omega)
  rw [show (63 : Int) = 2 ^ 6 - 1 from rfl, this]
  exact wrap_small (by omega) (by omega)
theorem packed_Cpu.quiet (a z : Int) (w : World) (HLd : Ld w) (h : packed_Cpu.f a = some z) :
    Calls Tryd.prog 17 #[.int .u64 a] w fun e w' => e = .returned (.int .i64 z) ∧ ∃ n, w' = w.drewN n := by
  unfold packed_Cpu.f packed_part.f at h
  split at h
  · rename_i hr
    obtain rfl : a / 8 % 64 = z := by simpa using h
    clear h
    go_enter Tryd.func17, Tryd.ntmps17
    go_wp2_with fail
    refine (part1q a w HLd hr.1 hr.2).mono ?_
    rintro e w1 ⟨rfl, n1, rfl⟩
    go_wp2_with fail
    go_ret
    exact ⟨rfl, n1, rfl⟩
  · simp at h
set_option maxHeartbeats 1000000 in
theorem part4q (a : Int) (w : World) (HLd : Ld w) (ha : 0 ≤ a) (hb : a < 18446744073709551616) :
    Calls Tryd.prog 27 #[.int .u64 a, .int .i64 4] w fun e w' => e = .returned (.int .i64 (a / 67108864 % 4294967296)) ∧ ∃ n, w' = w.drewN n := by
  have h0 := HLd.c 8 (by decide)
  have h1 := HLd.c 9 (by decide)
  simp only [spanL, List.getD_cons_zero, List.getD_cons_succ] at h0 h1
  have HA := Aside0.mk ha
  have HB := Aside0.mk hb
  clear HLd ha hb
  go_enter Tryd.func27, Tryd.ntmps27
  go_wp2
  go_quiet (fail)
  go_wp2
  go_ret
  refine ⟨ret_i64 ?_, nq, rfl⟩
  have h0 := HA.out
  have h1 := HB.out
  have := and_mask (a / 67108864) 32 (by decide) (by omega) (by omega)
  rw [show (4294967295 : Int) = 2 ^ 32 - 1 from rfl, this]
  exact wrap_small (by omega) (by omega)
theorem packed_Gen.quiet (a z : Int) (w : World) (HLd : Ld w) (h : packed_Gen.f a = some z) :
    Calls Tryd.prog 19 #[.int .u64 a] w fun e w' => e = .returned (.int .i64 z) ∧ ∃ n, w' = w.drewN n := by
  unfold packed_Gen.f packed_part.f at h
  split at h
  · rename_i hr
    obtain rfl : a / 67108864 % 4294967296 = z := by simpa using h
    clear h
    go_enter Tryd.func19, Tryd.ntmps19
    go_wp2_with fail
    refine (part4q a w HLd hr.1 hr.2).mono ?_
    rintro e w1 ⟨rfl, n1, rfl⟩
    go_wp2_with fail
    go_ret
    exact ⟨rfl, n1, rfl⟩
  · simp at h
end Given
end Go.Proofs.YtnojbmiodoefmaaDoor

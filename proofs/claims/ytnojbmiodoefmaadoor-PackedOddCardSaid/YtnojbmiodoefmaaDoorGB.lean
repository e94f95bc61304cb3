/- state and the reference's Put: their contracts. -/
import Derived.Test.YtnojbmiodoefmaaDoorPrintF14
namespace Go.Proofs.YtnojbmiodoefmaaDoor.Given
open Go.RowKit Go.Proofs.YtnojbmiodoefmaaDoor Go.Proofs.YtnojbmiodoefmaaDoor.Print Go.Proofs.YtnojbmiodoefmaaDoorW.PrintWords
set_option linter.unusedVariables false
set_option linter.unusedSimpArgs false
def turnspitlaw06_state.f (n : Int) (b : Bool) : Option (Int × Int × Bool × Int × Int) :=
  if 0 ≤ n ∧ n < 18446744073709551616 then some (n % 8, n / 8 % 64, (b && n % 8 == 7), n / 512 % 65536, n / 33554432 % 4294967296) else none
set_option maxHeartbeats 400000 in
theorem state_walk (n : Int) (b : Bool) (w : World) (h0 : 0 ≤ n) (h1 : n < 18446744073709551616) :
    Calls Tryd.prog 23 #[.int .u64 n, .bool b] w fun e w' => e = .returned (.agg #[.int .i64 (n % 8), .int .i64 (n / 8 % 64), .bool (b && n % 8 == 7), .int .i64 (n / 512 % 65536), .int .i64 (n / 33554432 % 4294967296)]) ∧ Below w.heap.size w w' := by
  cases b
  all_goals
    go_enter Tryd.func23, Tryd.ntmps23
    go_wp2
    refine bodyPost_ret (v := .agg #[.int .i64 (n % 8), .int .i64 (n / 8 % 64), .bool (_ && n % 8 == 7), .int .i64 (n / 512 % 65536), .int .i64 (n / 33554432 % 4294967296)]) (by simp [results, Tryd.results23, go_sem]) rfl ⟨rfl, ?_⟩
    exact below_alloc (below_alloc (Below.refl _ _) _) _
theorem turnspitlaw06_state.calls (a0 : Int) (a1 : Bool) (r1 r2 : Int) (r3 : Bool) (r4 r5 : Int) (w : World) (HLd : Ld w) (h : turnspitlaw06_state.f a0 a1 = some (r1, r2, r3, r4, r5)) :
    Calls Tryd.prog 23 #[.int .u64 a0, .bool a1] w fun e w' => e = .returned (.agg #[.int .i64 r1, .int .i64 r2, .bool r3, .int .i64 r4, .int .i64 r5]) ∧ Below w.heap.size w w' := by
  unfold turnspitlaw06_state.f at h
  split at h
  · rename_i hr
    simp only [Option.some.injEq, Prod.mk.injEq] at h
    obtain ⟨rfl, rfl, rfl, rfl, rfl⟩ := h
    exact state_walk a0 a1 w hr.1 hr.2
  · cases h

def turnspitref06_Put.f (a0 a1 a2 : Int) : Option (Int × Int) := (turnspitref06_Unpack.f a0).bind fun x => if x.2.2.2.2.2 = 0 then turnspitref06_Pack.f a1 a2 false x.2.2.2.1 x.2.2.2.2.1 else some (0, x.2.2.2.2.2)
set_option maxHeartbeats 1000000 in
theorem turnspitref06_Put.calls (a0 a1 a2 r1 r2 : Int) (w : World) (HLd : Ld w) (h : turnspitref06_Put.f a0 a1 a2 = some (r1, r2)) :
    Calls Tryd.prog 22 #[.int .u64 a0, .int .i64 a1, .int .i64 a2] w fun e w' => e = .returned (.tuple #[.int .u64 r1, .int .i64 r2]) ∧ Below w.heap.size w w' := by
  unfold turnspitref06_Put.f at h
  obtain ⟨⟨x1, x2, x3, x4, x5, x6⟩, hx, h⟩ := Option.bind_eq_some_iff.mp h
  simp only at h
  have HL := Aside0.mk HLd
  have HX := Aside0.mk hx
  clear HLd hx
  by_cases h6 : x6 = 0
  · subst h6
    rw [if_pos rfl] at h
    have HP := Aside0.mk h
    clear h
    go_enter Tryd.func22, Tryd.ntmps22
    go_wp2_with fail
    refine (turnspitref06_Unpack.calls a0 x1 x2 x3 x4 x5 0 w HL.out HX.out).mono ?_
    rintro e w1 ⟨rfl, hb1⟩
    have HB1 := Aside0.mk hb1
    clear hb1
    go_wp2_with fail
    refine (turnspitref06_Pack.calls a1 a2 false x4 x5 r1 r2 _ (Ld.below HL.out (by exact below_then HB1.out HB1.out.size (below_alloc (Below.refl _ _) _))) HP.out).mono ?_
    rintro e w2 ⟨rfl, hb2⟩
    have HB2 := Aside0.mk hb2
    clear hb2
    go_wp2_with fail
    go_ret2
    exact ⟨rfl, below_then (below_alloc HB1.out _) (by simp; exact Nat.le_succ_of_le HB1.out.size) HB2.out⟩
  · rw [if_neg h6] at h
    simp only [Option.some.injEq, Prod.mk.injEq] at h
    obtain ⟨rfl, rfl⟩ := h
    have hd : (x6 != 0) = true := bne_iff_ne.2 h6
    clear h6
    go_enter Tryd.func22, Tryd.ntmps22
    go_wp2_with fail
    refine (turnspitref06_Unpack.calls a0 x1 x2 x3 x4 x5 x6 w HL.out HX.out).mono ?_
    rintro e w1 ⟨rfl, hb1⟩
    have HB1 := Aside0.mk hb1
    clear hb1
    go_wp2_with fail
    go_ret2
    exact ⟨rfl, below_alloc HB1.out _⟩
end Go.Proofs.YtnojbmiodoefmaaDoor.Given

/- The function awake of the statements on package mask, and contracts in the form 'Below'. -/
import Derived.Test.YtdghjigeddphaaaPureBase
namespace Go.Proofs.Ytdghjigeddphaaa.Given
open Go.RowKit Go.Proofs.Ytdghjigeddphaaa.Given Go.Proofs.Ytdghjigeddphaaa.Print Go.Proofs.Ytdghjigeddphaaa.Pure Go.Proofs.YtdghjigeddphaaaW.PrintWords
set_option linter.unusedVariables false
set_option linter.unusedSimpArgs false
theorem c_lit (W : World) (l : List Int) (t : TypeId) (hl : l.length ≤ 9223372036854775807) : Kd.C (Kd.int .i64) (W.alloc (.cells (l.map (Value.int .i64)).toArray t)) (some ⟨W.heap.size, 0, none⟩) l.length l := by
  refine ⟨rfl, hl, fun _ => ⟨_, rfl, fun j p hp => ⟨[.int .i64 p], rfl, rfl, fun i u hu => ?_⟩⟩⟩
  obtain ⟨rfl, rfl⟩ : i = 0 ∧ u = .int .i64 p := by
    rcases i with _ | i
    · simp at hu; exact ⟨rfl, hu.symm⟩
    · simp at hu
  have h := blk_cell (blk_new W (.cells (l.map (Value.int .i64)).toArray t)) j
  have e : (l.map (Value.int .i64)).toArray[j]? = some (.int .i64 p) := by simp [hp]
  rw [e] at h
  have e2 : (⟨W.heap.size, 0, none⟩ : Addr).add (j * 1 + 0) = ⟨W.heap.size, j, none⟩ := by rw [Nat.mul_one, Nat.add_zero]; cases j <;> simp [Addr.add]
  exact (congrArg _ e2).trans h
theorem below_trans0 {A B C : World} (h : Below A.heap.size A B) (h2 : Below B.heap.size B C) : Below A.heap.size A C := below_step h h2
theorem below_of_eq {A B : World} (h : A = B) : Below A.heap.size A B := by rw [h]; exact Below.refl _ _
theorem has_c (m c : Int) (hv : Bool) (w : World) (h : u64 m ∧ hasB m c = hv) : Calls Try.prog 18 #[.int .u64 m, .int .i64 c] w fun e w' => e = .returned (.bool hv) ∧ Below w.heap.size w w' :=
  (has_calls m c w h.1).mono (by rintro e w' ⟨rfl, hw⟩; exact ⟨ret_bool h.2, below_of_eq hw⟩)
def turnspitlaw04_awake.f : Option Bool := some true
set_option maxHeartbeats 4000000 in
set_option maxRecDepth 100000 in
theorem turnspitlaw04_awake.calls (r : Bool) (w : World) (h : turnspitlaw04_awake.f = some r) :
    Calls Try.prog 17 #[] w fun e w' => e = .returned (.bool r) ∧ Below w.heap.size w w' := by
  obtain rfl := Option.some.inj h
  clear h
  go_enter Try.func17, Try.ntmps17
  have hcl := Aside0.mk (c_lit w [(0 : Int), (3 : Int)] 3 (by decide))
  go_wp2_with fail
  refine (mask_Of.calls (some ⟨w.heap.size, 0, none⟩) 2 [(0 : Int), (3 : Int)] 9 0 _ hcl.out (by decide) (by first | rfl | decide +kernel | kernel_rfl)).mono ?_
  rintro e w1 ⟨rfl, hw⟩
  have hb := below_of_eq hw
  clear hw
  have HB1 := Aside0.mk (below_step (below_alloc (Below.refl w.heap.size w) _) hb)
  have Kn_L : (w.alloc (.cells #[.int .i64 0, .int .i64 3] 3)).heap[w.heap.size]? = some (.cells #[.int .i64 0, .int .i64 3] 3 (0, 0)) := by have h_ := blk_new w (.cells #[.int .i64 0, .int .i64 3] 3); simpa only [World.size_alloc] using h_
  have KL_ := Aside0.mk (blk_below Kn_L hb)
  have KL := KL_
  clear KL_
  clear Kn_L
  clear hb
  clear hcl
  have hcl := Aside0.mk (c_lit w1 [(64 : Int)] 3 (by decide))
  go_wp2_with fail
  refine (mask_Of.calls (some ⟨w1.heap.size, 0, none⟩) 1 [(64 : Int)] 0 1 _ hcl.out (by decide) (by first | rfl | decide +kernel | kernel_rfl)).mono ?_
  rintro e w2 ⟨rfl, hw⟩
  have hb := below_of_eq hw
  clear hw
  have HB2 := Aside0.mk (below_step (below_alloc HB1.out _) hb)
  have Kn_L : (w1.alloc (.cells #[.int .i64 64] 3)).heap[w1.heap.size]? = some (.cells #[.int .i64 64] 3 (0, 0)) := by have h_ := blk_new w1 (.cells #[.int .i64 64] 3); simpa only [World.size_alloc] using h_
  have KL_ := Aside0.mk (blk_below Kn_L hb)
  have KL := KL_
  clear KL_
  clear Kn_L
  clear hb
  clear hcl
  go_wp2_with fail
  refine (mask_Next.calls 9 0 3 true _ (by decide +kernel)).mono ?_
  rintro e w3 ⟨rfl, hb⟩
  have HB3 := Aside0.mk (below_step HB2.out hb)
  clear hb
  go_wp2_with fail
  refine (mask_Round.calls 9 3 0 true _ (by decide +kernel)).mono ?_
  rintro e w4 ⟨rfl, hb⟩
  have HB4 := Aside0.mk (below_step HB3.out hb)
  clear hb
  go_wp2_with fail
  refine (has_c 9 3 true _ (by unfold u64; decide +kernel)).mono ?_
  rintro e w5 ⟨rfl, hb⟩
  have HB5 := Aside0.mk (below_step HB4.out hb)
  clear hb
  go_wp2_with fail
  refine (mask_Count.calls 9 2 _ (by decide +kernel)).mono ?_
  rintro e w6 ⟨rfl, hb⟩
  have HB6 := Aside0.mk (below_step HB5.out hb)
  clear hb
  go_wp2_with fail
  refine (mask_All.calls 3 7 _ (by decide +kernel)).mono ?_
  rintro e w7 ⟨rfl, hd⟩
  have hb := Drawn0.below hd
  clear hd
  have HB7 := Aside0.mk (below_step HB6.out hb)
  clear hb
  go_wp2_with fail
  refine (mask_With.calls 1 1 3 _ (by decide +kernel)).mono ?_
  rintro e w8 ⟨rfl, hd⟩
  have hb := Drawn0.below hd
  clear hd
  have HB8 := Aside0.mk (below_step HB7.out hb)
  clear hb
  go_wp2_with fail
  refine (mask_Without.calls 3 0 2 _ (by decide +kernel)).mono ?_
  rintro e w9 ⟨rfl, hd⟩
  have hb := Drawn0.below hd
  clear hd
  have HB9 := Aside0.mk (below_step HB8.out hb)
  clear hb
  go_wp2_with fail
  go_ret
  exact ⟨rfl, by repeat (first | exact HB9.out | apply below_alloc | apply pw_below_drewN)⟩
end Go.Proofs.Ytdghjigeddphaaa.Given

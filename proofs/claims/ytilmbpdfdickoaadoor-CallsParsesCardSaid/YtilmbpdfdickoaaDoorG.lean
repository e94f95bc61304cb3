/- Package mask: Has, above, Next, First, List, Of: their contracts. -/
import Derived.RangeFuncNested
import Derived.RangeFuncBound
import Derived.RangeFuncCalls
import Derived.RangeFuncLeaves
import Derived.RangeFuncBox
import Derived.Shelf.Abstract
import Derived.WalkKit
import Derived.OwnWalkIn
import Derived.TacticsInMore
import Derived.LoopNIn
import Derived.LoopIn
import Derived.Laws.BitsAllLaws
import Derived.Test.YtilmbpdfdickoaaDoorNs
import Derived.Test.YtilmbpdfdickoaaDoorV
namespace Go.Proofs.YtilmbpdfdickoaaDoor.Given
open Go.RowKit Go.Shelf Go.Proofs.YtilmbpdfdickoaaDoorW.PrintWords
set_option linter.unusedVariables false
set_option linter.unusedSimpArgs false
attribute [local go_sem] Oper.semAt_some

def bitB (m : Int) (k : Nat) : Bool := m / 2 ^ k % 2 == 1
def hasB (m c : Int) : Bool := decide (0 ≤ c ∧ c < 64) && bitB m c.toNat

theorem ret_bool {a b : Bool} (h : a = b) : Ending.returned (.bool a) = .returned (.bool b) := by rw [h]
theorem and_one (a : Int) (h0 : 0 ≤ a) (h1 : a < 18446744073709551616) : bits .and .u64 a 1 = a % 2 :=
  bits_mask .u64 64 (by decide) (fun n h0 h1 => by rw [IntKind.wrap_u64]; omega) 1 (by omega) a h0 (by simpa using h1)
theorem div_pow_range (m : Int) (k : Nat) (h0 : 0 ≤ m) (h1 : m < 18446744073709551616) : 0 ≤ m / 2 ^ k ∧ m / 2 ^ k < 18446744073709551616 := by
  have hp : (0 : Int) < 2 ^ k := Int.pow_pos (by decide)
  refine ⟨Int.ediv_nonneg h0 (Int.le_of_lt hp), ?_⟩
  have : m / 2 ^ k ≤ m := Int.ediv_le_self _ h0
  omega

set_option maxHeartbeats 1000000 in
theorem odd_in (F : Fence) (n : Nat) (h32 : F.fn 142) (hro : F.round = none) (c : Int) (w : World) :
    CallsIn F n Tryd.prog 142 #[.int .i64 c] w fun e w' => e = .returned (.bool (!decide (0 ≤ c ∧ c < 64))) ∧ w = w' := by
  by_cases h0 : c < 0
  · have hd : decide (c < 0) = true := decide_eq_true h0
    have e := ret_bool (show true = !decide (0 ≤ c ∧ c < 64) by rw [decide_eq_false (by omega)]; rfl)
    have E := Aside0.mk e
    clear e h0
    refine callsIn_of_wp Tryd.func142 rfl h32 ?_ hro
    simp only [Tryd.ntmps142, List.size_toArray, List.length_cons, List.length_nil, Nat.reduceAdd, Nat.reduceSub, Array.replicate_succ, Array.replicate_zero, List.push_toArray, List.append_toArray, List.nil_append, List.cons_append]
    gi_wp2
    go_ret
    exact ⟨E.out, rfl⟩
  · have hd : decide (c < 0) = false := decide_eq_false h0
    have e := ret_bool (show decide (64 ≤ c) = !decide (0 ≤ c ∧ c < 64) by rw [Bool.eq_iff_iff]; simp; omega)
    have E := Aside0.mk e
    clear e h0
    refine callsIn_of_wp Tryd.func142 rfl h32 ?_ hro
    simp only [Tryd.ntmps142, List.size_toArray, List.length_cons, List.length_nil, Nat.reduceAdd, Nat.reduceSub, Array.replicate_succ, Array.replicate_zero, List.push_toArray, List.append_toArray, List.nil_append, List.cons_append]
    gi_wp2
    go_ret
    exact ⟨E.out, rfl⟩

set_option maxHeartbeats 1000000 in
theorem has_in (F : Fence) (n : Nat) (h18 : F.fn 135) (h32 : F.fn 142) (hro : F.round = none) (hn : 1 ≤ n) (m c : Int) (w : World) (hm0 : 0 ≤ m) (hm1 : m < 18446744073709551616) :
    CallsIn F n Tryd.prog 135 #[.int .u64 m, .int .i64 c] w fun e w' => e = .returned (.bool (hasB m c)) ∧ w = w' := by
  by_cases hc : 0 ≤ c ∧ c < 64
  · obtain ⟨k, rfl⟩ := Int.eq_ofNat_of_zero_le hc.1
    have hk : k < 64 := by omega
    have hd : (!decide (0 ≤ (k : Int) ∧ (k : Int) < 64)) = false := by rw [decide_eq_true hc]; rfl
    have hr := div_pow_range m k hm0 hm1
    have e := ret_bool (show (bits .and .u64 (m / 2 ^ k) 1 == 1) = hasB m k by unfold hasB bitB; rw [decide_eq_true hc, and_one _ hr.1 hr.2]; simp)
    have E := Aside0.mk e
    have HO := Aside0.mk (odd_in F (n - 1) h32 hro k w)
    rw [hd] at HO
    clear e hc hd hr
    refine callsIn_of_wp Tryd.func135 rfl h18 ?_ hro
    simp only [Tryd.ntmps135, List.size_toArray, List.length_cons, List.length_nil, Nat.reduceAdd, Nat.reduceSub, Array.replicate_succ, Array.replicate_zero, List.push_toArray, List.append_toArray, List.nil_append, List.cons_append]
    gi_wp2_with (gi_at_call 142; refine HO.out.mono ?_; rintro e w' ⟨rfl, rfl⟩)
    go_ret
    exact ⟨E.out, rfl⟩
  · have hd : (!decide (0 ≤ c ∧ c < 64)) = true := by rw [decide_eq_false hc]; rfl
    have e := ret_bool (show false = hasB m c by unfold hasB; rw [decide_eq_false hc]; rfl)
    have E := Aside0.mk e
    have HO := Aside0.mk (odd_in F (n - 1) h32 hro c w)
    rw [hd] at HO
    clear e hc hd
    refine callsIn_of_wp Tryd.func135 rfl h18 ?_ hro
    simp only [Tryd.ntmps135, List.size_toArray, List.length_cons, List.length_nil, Nat.reduceAdd, Nat.reduceSub, Array.replicate_succ, Array.replicate_zero, List.push_toArray, List.append_toArray, List.nil_append, List.cons_append]
    gi_wp2_with (gi_at_call 142; refine HO.out.mono ?_; rintro e w' ⟨rfl, rfl⟩)
    go_ret
    exact ⟨E.out, rfl⟩

/-! ### The CPUs that a mask has, from behind c on, below i -/
def cpusBelow (m c : Int) (i : Nat) : List Int := ((List.range i).filter fun (k : Nat) => decide (c < (k : Int)) && bitB m k).map fun (k : Nat) => (k : Int)
theorem cpusBelow_none (m c : Int) (i : Nat) (h : (i : Int) ≤ c + 1) : cpusBelow m c i = [] := by
  unfold cpusBelow
  rw [List.filter_eq_nil_iff.2]
  · rfl
  · intro k hk
    have := List.mem_range.1 hk
    simp
    omega
theorem cpusBelow_succ (m c : Int) (i : Nat) (h : c < (i : Int)) : cpusBelow m c (i + 1) = if bitB m i then cpusBelow m c i ++ [(i : Int)] else cpusBelow m c i := by
  unfold cpusBelow
  rw [List.range_succ, List.filter_append, List.map_append]
  by_cases hb : bitB m i = true
  · rw [if_pos hb]; simp [List.filter_cons, h, hb]
  · rw [if_neg hb]; simp [List.filter_cons, hb]
theorem cpusBelow_prefix (m c : Int) {i j : Nat} (h : i ≤ j) : cpusBelow m c i <+: cpusBelow m c j := by
  induction j with
  | zero => obtain rfl : i = 0 := by omega
            exact List.prefix_refl _
  | succ j ih =>
    by_cases e : i = j + 1
    · subst e; exact List.prefix_refl _
    · refine (ih (by omega)).trans ?_
      by_cases hc : c < (j : Int)
      · rw [cpusBelow_succ m c j hc]
        split
        · exact List.prefix_append _ _
        · exact List.prefix_refl _
      · rw [cpusBelow_none m c j (by omega), cpusBelow_none m c (j + 1) (by omega)]; exact List.prefix_refl _
theorem cpusBelow_length (m c : Int) (i : Nat) : (cpusBelow m c i).length ≤ i := by
  unfold cpusBelow
  rw [List.length_map]
  exact Nat.le_trans (List.length_filter_le _ _) (by simp)
def aboveL (m c : Int) : List Int := cpusBelow m c 64

/-- A block of cells lies as it lay. -/
def KeepB (b : Nat) (A B : World) : Prop := ∀ c t f, A.heap[b]? = some (.cells c t f) → B.heap[b]? = some (.cells c t f)
theorem keepB_t {b : Nat} {A B C : World} (h : KeepB b A B) (k : KeepB b B C) : KeepB b A C := fun c t f e => k c t f (h c t f e)
theorem keepB_put {b : Nat} (W : World) (l : Nat) (o o' : Obj) (h : W.heap[l]? = some o) (ho : o.isCells = false) : KeepB b W (W.putObj l o') := fun c t f e => by
  by_cases hbl : b = l
  · subst hbl
    rw [h] at e
    injection e with e
    subst e
    cases ho
  · exact (World.putObj_heap_other hbl).trans e
theorem keepB_below {b n : Nat} {A B : World} (h : Below n A B) (hb : b < n) : KeepB b A B := fun c t f e => (h.block b hb).trans e

set_option maxRecDepth 100000 in
set_option maxHeartbeats 4000000 in
/-- above's closure, for every loop body that keeps the mask's box. -/
theorem above1_in (F : Fence) (n : Nat) (h36 : F.fn 144) (h18 : F.fn 135) (h32 : F.fn 142) (hro : F.round = none) (hn : 2 ≤ n) (l Bc Bm : Nat) (m c : Int) (hm0 : 0 ≤ m) (hm1 : m < 18446744073709551616) (hcl : -9223372036854775808 ≤ c) (hc : c < 64) (J Jx : List Int → World → Prop)
    (hY : ∀ pre x W, J pre W → pre.length < 64 → YieldAt F (n - 1) Tryd.prog l #[.int .i64 x] W fun e W' =>
      (e = .returned (.bool true) ∧ J (pre ++ [x]) W' ∧ KeepB Bm W W') ∨ (e = .returned (.bool false) ∧ Jx (pre ++ [x]) W'))
    (W : World) (hBc : W.cell? ⟨Bc, 0, none⟩ = some (.int .i64 c)) (hBm : W.heap[Bm]? = some (.cells #[.int .u64 m] 24 (0, 0))) (h0 : J [] W) :
    CallsIn F n Tryd.prog 144 #[.func (.yield l) #[] #[], .pointer (some ⟨Bc, 0, none⟩), .pointer (some ⟨Bm, 0, none⟩)] W fun e W' => (∃ v, e = .returned v) ∧
      ((∃ ys, ys = aboveL m c ∧ J ys W') ∨ (∃ pre, (∃ i, i ≤ 64 ∧ pre = cpusBelow m c i) ∧ Jx pre W')) := by
  obtain ⟨s, hs, hs2⟩ : ∃ s : Nat, (s : Int) = (if -1 ≤ c then c + 1 else 0) ∧ s ≤ 64 := by
    by_cases h : -1 ≤ c
    · obtain ⟨k, hk⟩ := Int.eq_ofNat_of_zero_le (show 0 ≤ c + 1 by omega)
      exact ⟨k, by rw [if_pos h]; omega, by omega⟩
    · exact ⟨0, by rw [if_neg h]; rfl, by omega⟩
  have hsc : c < (s : Int) ∧ (s : Int) ≤ c + 1 ∨ (s = 0 ∧ c < -1) := by
    by_cases h : -1 ≤ c
    · rw [if_pos h] at hs; omega
    · rw [if_neg h] at hs; omega
  have hstart : cpusBelow m c s = [] := by
    rcases hsc with h | ⟨rfl, _⟩
    · exact cpusBelow_none m c s h.2
    · rfl
  have hge : ∀ k : Nat, s ≤ k → c < (k : Int) := by intro k hk; omega
  have h1 : 1 ≤ n := by omega
  have HS := Aside0.mk hs
  have HST := Aside0.mk hstart
  have HGE := Aside0.mk hge
  have HBM := Aside0.mk hBm
  clear hs hstart hge hsc hBm
  refine callsIn_of_wp Tryd.func144 rfl h36 ?_ hro
  simp only [Tryd.ntmps144, List.size_toArray, List.length_cons, List.length_nil, Nat.reduceAdd, Nat.reduceSub, Array.replicate_succ, Array.replicate_zero, List.push_toArray, List.append_toArray, List.nil_append, List.cons_append]
  by_cases h : -1 ≤ c
  all_goals
    gi_wp2
    gi_loopw [4] (fun v wr => ∃ k : Nat, s ≤ k ∧ k ≤ 64 ∧ v = .int .i64 (k : Int) ∧ J (cpusBelow m c k) wr ∧ wr.heap[Bm]? = some (.cells #[.int .u64 m] 24 (0, 0))) (fun v _ => 64 - (intOf v).toNat)
    case atStart => exact ⟨s, Nat.le_refl _, hs2, by rw [HS.out]; first | rw [if_pos h] | rw [if_neg (by omega)], by rw [HST.out]; exact h0, HBM.out⟩
    case round =>
      obtain ⟨k, hk0, hk, rfl, hJs, hbm⟩ := hrel
      have hcm : wr.cell? ⟨Bm, 0, none⟩ = some (.int .u64 m) := (blk_cell hbm 0).trans rfl
      have HBW := Aside0.mk hbm
      clear hbm
      by_cases hlt : k < 64
      · have HO := has_in F (n - 1) h18 h32 hro (by omega) m k wr hm0 hm1
        have e : hasB m (k : Int) = bitB m k := by unfold hasB; rw [decide_eq_true (by omega)]; simp
        rw [e] at HO
        by_cases hb : bitB m k = true
        · rw [hb] at HO
          have HS2 := Aside0.mk ((cpusBelow_succ m c k (HGE.out k hk0)).trans (if_pos hb))
          obtain ⟨fn, tmps, assign, body, hy, hR⟩ := hY _ (k : Int) wr hJs (by have := cpusBelow_length m c k; omega)
          have HOA := Aside0.mk HO
          have HR := Aside0.mk hR
          clear HO hR hb e
          gi_wp2_with (gi_at_call 135; refine HOA.out.mono ?_; rintro e w' ⟨rfl, rfl⟩)
          refine HR.out.mono ?_
          rintro e W3 (⟨rfl, hJ3, hk3⟩ | ⟨rfl, hJx3⟩)
          · gi_wp2
            go_roundw
            case rel => exact ⟨k + 1, by omega, by omega, by simp, by rw [HS2.out]; exact hJ3, hk3 _ _ _ HBW.out⟩
            case measure => simp [intOf]; omega
          · gi_wp2
            refine bodyPost_ret (results_none rfl _ _ _) rfl ?_
            exact ⟨⟨_, rfl⟩, .inr ⟨_, ⟨k + 1, by omega, HS2.out.symm⟩, hJx3⟩⟩
        · have hb' : bitB m k = false := by simpa using hb
          rw [hb'] at HO
          have HS2 := Aside0.mk ((cpusBelow_succ m c k (HGE.out k hk0)).trans (if_neg hb))
          have HOA := Aside0.mk HO
          clear HO hb hb' e
          gi_wp2_with (gi_at_call 135; refine HOA.out.mono ?_; rintro e w' ⟨rfl, rfl⟩)
          refine ⟨fun _ h => (by cases h), ?_⟩
          gi_wp2
          go_roundw
          case rel => exact ⟨k + 1, by omega, by omega, by simp, by rw [HS2.out]; exact hJs, HBW.out⟩
          case measure => simp [intOf]; omega
      · obtain rfl : k = 64 := by omega
        gi_wp2
        go_end0
        exact ⟨⟨_, rfl⟩, .inl ⟨_, rfl, hJs⟩⟩

set_option maxHeartbeats 1000000 in
theorem above_in (F : Fence) (n : Nat) (h31 : F.fn 143) (hro : F.round = none) (m c : Int) (w : World) :
    CallsIn F n Tryd.prog 143 #[.int .u64 m, .int .i64 c] w fun e w' => e = .returned (.func (.func 144) #[] #[.pointer (some ⟨w.heap.size + 1, 0, none⟩), .pointer (some ⟨w.heap.size, 0, none⟩)]) ∧
      w' = (w.alloc (.cells #[.int .u64 m] 24)).alloc (.cells #[.int .i64 c] 3) := by
  refine callsIn_of_wp Tryd.func143 rfl h31 ?_ hro
  simp only [Tryd.ntmps143, List.size_toArray, List.length_cons, List.length_nil, Nat.reduceAdd, Nat.reduceSub, Array.replicate_succ, Array.replicate_zero, List.push_toArray, List.append_toArray, List.nil_append, List.cons_append]
  gi_wp2
  go_ret
  exact ⟨rfl, rfl⟩

/-- above's value stops, whatever body keeps the mask's box. -/
theorem above_stops (F : Fence) (n : Nat) (h36 : F.fn 144) (h18 : F.fn 135) (h32 : F.fn 142) (hro : F.round = none) (hn : 2 ≤ n) (Bc Bm : Nat) (m c : Int) (hm0 : 0 ≤ m) (hm1 : m < 18446744073709551616) (hcl : -9223372036854775808 ≤ c) (hc : c < 64) (w : World)
    (hBc : w.heap[Bc]? = some (.cells #[.int .i64 c] 3 (0, 0))) (hBm : w.heap[Bm]? = some (.cells #[.int .u64 m] 24 (0, 0))) :
    SeqStopsK F n Tryd.prog 144 #[.pointer (some ⟨Bc, 0, none⟩), .pointer (some ⟨Bm, 0, none⟩)] (fun x : Int => #[Value.int .i64 x]) (KeepB Bm) (fun ys => ys = aboveL m c) (fun pre => pre <+: aboveL m c) 64 w := fun l J Jx W hW _ _ hY h0 => by
  refine (above1_in F n h36 h18 h32 hro hn l Bc Bm m c hm0 hm1 hcl hc J Jx hY W ((blk_cell (blk_below hBc hW) 0).trans rfl) (blk_below hBm hW) h0).mono ?_
  rintro e W' ⟨he, ⟨ys, rfl, hj⟩ | ⟨pre, ⟨k, hk, rfl⟩, hj⟩⟩
  · exact ⟨he, .inl ⟨_, rfl, hj⟩⟩
  · exact ⟨he, .inr ⟨_, cpusBelow_prefix m c hk, hj⟩⟩

/-! ### Next -/
def nextOf (m c : Int) : Int × Bool := if c < 64 then (match aboveL m c with | [] => (0, false) | x :: _ => (x, true)) else (0, false)
set_option maxRecDepth 100000 in
set_option maxHeartbeats 4000000 in
theorem next_in (F : Fence) (n : Nat) (h12 : F.fn 138) (h31 : F.fn 143) (h36 : F.fn 144) (h18 : F.fn 135) (h32 : F.fn 142) (hro : F.round = none) (hn : 4 ≤ n) (m c : Int) (hm0 : 0 ≤ m) (hm1 : m < 18446744073709551616) (hcl : -9223372036854775808 ≤ c) (hc : c < 64) (w : World) :
    CallsIn F n Tryd.prog 138 #[.int .u64 m, .int .i64 c] w fun e w' => e = .returned (.tuple #[.int .i64 (nextOf m c).1, .bool (nextOf m c).2]) ∧ Below w.heap.size w w' := by
  have h1 : 1 ≤ n := by omega
  refine callsIn_of_wp_marks Tryd.func138 rfl h12 ?_ hro
  simp only [Tryd.ntmps138, List.size_toArray, List.length_cons, List.length_nil, Nat.reduceAdd, Nat.reduceSub, Array.replicate_succ, Array.replicate_zero, List.push_toArray, List.append_toArray, List.nil_append, List.cons_append]
  gi_wp2_with (gi_at_call 143; refine (above_in F (n - 1) h31 hro _ _ _).mono ?_; rintro e w' ⟨rfl, rfl⟩)
  obtain ⟨W4, hW4⟩ : ∃ W4, (((w.alloc (.cells #[.int .i64 0] 3)).alloc (.cells #[.bool false] 4)).alloc (.cells #[.int .u64 m] 24)).alloc (.cells #[.int .i64 c] 3) = W4 := ⟨_, rfl⟩
  have hB4 : Below w.heap.size w W4 := by rw [← hW4]; exact below_alloc (below_alloc (below_alloc (below_alloc (Below.refl _ _) _) _) _) _
  have hz : W4.heap.size = w.heap.size + 4 := by rw [← hW4]; simp
  have k0 : W4.heap[w.heap.size]? = some (.cells #[.int .i64 0] 3 (0, 0)) := by rw [← hW4]; exact blk_alloc (blk_alloc (blk_alloc (blk_new _ _) _) _) _
  have k1 : W4.heap[w.heap.size + 1]? = some (.cells #[.bool false] 4 (0, 0)) := by
    rw [← hW4]; have h_ := blk_new (w.alloc (.cells #[.int .i64 0] 3)) (.cells #[.bool false] 4); rw [World.size_alloc] at h_; exact blk_alloc (blk_alloc h_ _) _
  have k2 : W4.heap[w.heap.size + 1 + 1]? = some (.cells #[.int .u64 m] 24 (0, 0)) := by
    rw [← hW4]; have h_ := blk_new ((w.alloc (.cells #[.int .i64 0] 3)).alloc (.cells #[.bool false] 4)) (.cells #[.int .u64 m] 24); rw [World.size_alloc, World.size_alloc] at h_; exact blk_alloc h_ _
  have k3 : W4.heap[w.heap.size + 1 + 1 + 1]? = some (.cells #[.int .i64 c] 3 (0, 0)) := by
    rw [← hW4]; have h_ := blk_new (((w.alloc (.cells #[.int .i64 0] 3)).alloc (.cells #[.bool false] 4)).alloc (.cells #[.int .u64 m] 24)) (.cells #[.int .i64 c] 3); rw [World.size_alloc, World.size_alloc, World.size_alloc] at h_; exact h_
  rw [hW4]
  clear hW4
  refine wpIn_rangeFunc_ownG hro h1 (gf := 144) (lb := #[.pointer (some ⟨w.heap.size + 1 + 1 + 1, 0, none⟩), .pointer (some ⟨w.heap.size + 1 + 1, 0, none⟩)]) rfl h36 (enters_of Tryd.func144 (by kernel_rfl) rfl)
    (above_stops F (n - 1) h36 h18 h32 hro (by omega) _ _ m c hm0 hm1 hcl hc W4 k3 k2) (fun h k => keepB_t h k) (fun W l o o' _ hl ho _ => keepB_put W l o o' hl ho) (Below.refl _ _) (fun _ => rfl)
    (fun pre W => (pre = [] ∧ Boxed W w.heap.size 3 (.int .i64 0) ∧ Boxed W (w.heap.size + 1) 4 (.bool false)) ∧ Below w.heap.size w W)
    (fun d pre W => (d = .ret ∧ ∃ x, pre = [x] ∧ Boxed W w.heap.size 3 (.int .i64 x) ∧ Boxed W (w.heap.size + 1) 4 (.bool true)) ∧ Below w.heap.size w W)
    (OwnFrom.and (Own.from (fun s A B row hs hg hr => ⟨hs.1, boxed_own _ _ (fun _ => _) s A B row hs.2.1 hg hr, boxed_own _ _ (fun _ => _) s A B row hs.2.2 hg hr⟩) _) (ownFrom_below (Nat.le_refl _) (by omega)))
    (fun d => OwnFrom.and (Own.from (fun s A B row hs hg hr => ⟨hs.1, hs.2.imp fun x hx => ⟨hx.1, boxed_own _ _ (fun _ => _) s A B row hx.2.1 hg hr, boxed_own _ _ (fun _ => _) s A B row hx.2.2 hg hr⟩⟩) _) (ownFrom_below (Nat.le_refl _) (by omega)))
    ⟨⟨rfl, k0, k1⟩, hB4⟩
    (fun x => { tmps := #[.int .u64 m, .int .i64 c, undef, undef, .pointer (some ⟨w.heap.size, 0, none⟩), .pointer (some ⟨w.heap.size + 1, 0, none⟩), .int .i64 x, .int .i64 c, .bool (decide (64 ≤ c)), .int .u64 m, .int .i64 c, .func (.func 144) #[] #[.pointer (some ⟨w.heap.size + 1 + 1 + 1, 0, none⟩), .pointer (some ⟨w.heap.size + 1 + 1, 0, none⟩)], .int .i64 x, undef], defers := [] }) ?assign ?body ?done ?stop
  case assign =>
    intro l x W K hK
    gi_wp2
    exact hK
  case body =>
    rintro l pre x W ⟨⟨rfl, hb0, hb1⟩, hB⟩ _
    have hx0 := hb0.cell
    have hx1 := hb1.cell
    have hy0 := hb0.frozen
    have hy1 := hb1.frozen
    gi_wp2
    refine ⟨((KeepsOthers.setCell _ _ _).trans (KeepsOthers.setCell _ _ _)).from _, ⟨rfl, x, rfl, (hb0.set _).other (by omega) _, (hb1.other (by omega) _).set _⟩, ?_⟩
    exact (hB.setCell (p := ⟨w.heap.size, 0, none⟩) (Nat.le_refl _) _).setCell (p := ⟨w.heap.size + 1, 0, none⟩) (by simp) _
  case done =>
    rintro D ys W hD rfl ⟨⟨hnil, hb0, hb1⟩, hB⟩ hK
    have hx0 := hb0.cell
    have hx1 := hb1.cell
    have hy0 := hb0.frozen
    have hy1 := hb1.frozen
    have hN : nextOf m c = (0, false) := by unfold nextOf; rw [if_pos hc, hnil]
    have HN := Aside0.mk hN
    have HNIL := Aside0.mk hnil
    clear hN hnil
    gi_wp2
    have hK' := ((KeepsOthers.setCell W ⟨w.heap.size, 0, none⟩ (.int .i64 0)).trans (KeepsOthers.setCell _ ⟨w.heap.size + 1, 0, none⟩ (.bool false))).same D _ hK rfl
    have hB2 := (hB.setCell (p := ⟨w.heap.size, 0, none⟩) (Nat.le_refl _) (.int .i64 0)).setCell (p := ⟨w.heap.size + 1, 0, none⟩) (by simp) (.bool false)
    have g0 := ((hb0.set (.int .i64 0)).other (B' := w.heap.size + 1) (by omega) (.bool false)).kept (grownBy_putObj' _ D (.deferred none)) (by intro e; injection e; omega)
    have g1 := ((hb1.other (B' := w.heap.size) (by omega) (.int .i64 0)).set (.bool false)).kept (grownBy_putObj' _ D (.deferred none)) (by intro e; injection e; omega)
    refine ⟨by simp, .inl ⟨_, _, rfl, run_takeDeferred hK', ?_⟩⟩
    have c0 := g0.cell
    have c1 := g1.cell
    refine ⟨.tuple #[.int .i64 0, .bool false], ?_, by rw [HN.out], hB2.trans (belowK_b (w := w) (Nat.le_refl _) _ D _ _ (by omega) hK' rfl rfl)⟩
    simp [results, Tryd.f138, go_sem, c0, c1]
  case stop =>
    rintro D d pre W hD hpre ⟨⟨rfl, x, rfl, hb0, hb1⟩, hB⟩ hK
    have hN : nextOf m c = (x, true) := by
      unfold nextOf
      rw [if_pos hc]
      obtain ⟨r, hr⟩ := hpre
      rw [← hr]
      rfl
    have HN := Aside0.mk hN
    clear hN hpre
    gi_wp2
    have g0 := hb0.kept (grownBy_putObj' _ D (.deferred none)) (by intro e; injection e; omega)
    have g1 := hb1.kept (grownBy_putObj' _ D (.deferred none)) (by intro e; injection e; omega)
    refine ⟨by simp, .inl ⟨_, _, rfl, run_takeDeferred hK, ?_⟩⟩
    have c0 := g0.cell
    have c1 := g1.cell
    refine ⟨.tuple #[.int .i64 x, .bool true], ?_, by rw [HN.out], hB.trans (belowK_b (w := w) (Nat.le_refl _) W D _ _ (by omega) hK rfl rfl)⟩
    simp [results, Tryd.f138, go_sem, c0, c1]

set_option maxHeartbeats 1000000 in
theorem next_far (m c : Int) (hc : 64 ≤ c) (w : World) :
    Calls Tryd.prog 138 #[.int .u64 m, .int .i64 c] w fun e w' => e = .returned (.tuple #[.int .i64 (nextOf m c).1, .bool (nextOf m c).2]) ∧ Below w.heap.size w w' := by
  have hd : decide (64 ≤ c) = true := decide_eq_true hc
  have HN : Aside0 (nextOf m c = (0, false)) := Aside0.mk (by unfold nextOf; rw [if_neg (by omega)])
  clear hc
  go_enter Tryd.func138, Tryd.ntmps138
  go_wp2
  refine bodyPost_ret (v := .tuple #[.int .i64 0, .bool false]) (by simp [results, Tryd.f138, go_sem]) rfl ⟨by rw [HN.out], ?_⟩
  repeat (first | exact Below.refl _ _ | apply below_alloc | (refine Below.setCell ?_ (by simp) _))

def mask_Next.f (m c : Int) : Option (Int × Bool) := if 0 ≤ m ∧ m < 18446744073709551616 ∧ -9223372036854775808 ≤ c then some (nextOf m c) else none
theorem mask_Next.calls (a0 a1 r1 : Int) (r2 : Bool) (w : World) (h : mask_Next.f a0 a1 = some (r1, r2)) :
    Calls Tryd.prog 138 #[.int .u64 a0, .int .i64 a1] w fun e w' => e = .returned (.tuple #[.int .i64 r1, .bool r2]) ∧ Below w.heap.size w w' := by
  unfold mask_Next.f at h
  split at h
  · rename_i hr
    have e := Option.some.inj h
    by_cases hc : a1 < 64
    · have := callsIn_wide.1 (next_in Fence.wide 8 trivial trivial trivial trivial trivial rfl (by omega) a0 a1 hr.1 hr.2.1 hr.2.2 hc w)
      rw [e] at this
      exact this
    · have := next_far a0 a1 (by omega) w
      rw [e] at this
      exact this
  · cases h
end Go.Proofs.YtilmbpdfdickoaaDoor.Given

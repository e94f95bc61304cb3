/- List and Of of package mask: their contracts. -/
import Derived.Test.YtdghjigeddphaaaG
import Derived.Maps.AppendAt
namespace Go.Proofs.Ytdghjigeddphaaa.Given
open Go.RowKit Go.Shelf Go.Proofs.YtdghjigeddphaaaW.PrintWords
set_option linter.unusedVariables false
set_option linter.unusedSimpArgs false
attribute [local go_sem] Oper.semAt_some
theorem info3 : (Try.prog.info? 3).map (fun i => (i.zero, i.size, i.bytes)) = some (some (.int .i64 0), 1, 8) := by kernel_rfl

set_option maxRecDepth 100000 in
set_option maxHeartbeats 4000000 in
theorem appendSeq_in (F : Fence) (n : Nat) (h37 : F.fn 37) (h36 : F.fn 36) (hro : F.round = none) (hn : 3 ≤ n) (Bm : Nat) (lb : Array Value) (L : List Int) (hL : L.length ≤ 64) (w : World) (hBm : Bm < w.heap.size)
    (hseq : SeqStopsK F (n - 1) Try.prog 36 lb (fun x : Int => #[Value.int .i64 x]) (KeepB Bm) (fun ys => ys = L) (fun pre => pre <+: L) 64 w) :
    CallsIn F n Try.prog 37 #[.slice none 0 0, .func (.func 36) #[] lb] w fun e W' => ∃ v, e = .returned v ∧ W'.ownsRow w.heap.size 3 1 v L.length (L.map (Value.int .i64)) ∧ Below w.heap.size w W' := by
  have h1 : 1 ≤ n := by omega
  obtain ⟨i0, hi, hz0, hz1, hz2⟩ := info_parts info3
  refine callsIn_of_wp_marks Try.func37 rfl h37 ?_ hro
  simp only [Try.ntmps37, List.size_toArray, List.length_cons, List.length_nil, Nat.reduceAdd, Nat.reduceSub, Array.replicate_succ, Array.replicate_zero, List.push_toArray, List.append_toArray, List.nil_append, List.cons_append]
  gi_wp2
  have bO := Boxed.new w 26 (.slice none 0 0)
  have hB0 : Below w.heap.size w (w.alloc (.cells #[.slice none 0 0] 26)) := below_alloc (Below.refl _ _) _
  refine wpIn_rangeFunc_ownG hro h1 (gf := 36) (lb := lb) rfl h36 (enters_of Try.func36 (by kernel_rfl) rfl)
    hseq (fun h k => keepB_t h k) (fun W l o o' _ hl ho _ => keepB_put W l o o' hl ho) hB0 (fun _ => rfl)
    (fun pre W => (∃ v, Boxed W w.heap.size 26 v ∧ W.ownsRow w.heap.size 3 1 v pre.length (pre.map (Value.int .i64)) ∧ True) ∧ Below w.heap.size w W)
    (fun _ _ _ => False)
    (OwnFrom.and (Own.from (holdsRow_own w.heap.size w.heap.size 26 3 1 (fun pre : List Int => pre.length) (fun pre => pre.map (Value.int .i64)) (fun pre v => True)) _) (ownFrom_below (Nat.le_refl _) (by simp)))
    (fun _ _ _ _ _ hs _ _ => hs)
    ⟨⟨_, bO, World.ownsRow_nil _ _ _ _, trivial⟩, hB0⟩
    (fun x => { tmps := #[.slice none 0 0, .func (.func 36) #[] lb, .pointer (some ⟨w.heap.size, 0, none⟩), undef, .slice none 0 0, .int .i64 x, .func (.func 36) #[] lb, .int .i64 x, undef, undef, undef, undef, undef], defers := [] }) ?assign ?body ?done ?stop
  case assign =>
    intro l x W K hK
    gi_wp2
    exact hK
  case body =>
    rintro l pre x W ⟨⟨v, hv, hrow, _⟩, hB⟩ hlt
    have hc := hv.cell
    gi_wp2_with (gi_at_builtin; refine wpListIn_append_own _ rfl _ _ 26 rfl w.heap.size 3 i0 (.int .i64 0) 1 8 Try.underlying26 hi hz0 hz1 hz2 rfl (by decide) _ _ _ rfl (hrow.alloc _) ⟨W.heap.size, 0, none⟩ 1 1 [.int .i64 x] rfl rfl (cell_one_new _ _ _) (by simp [Value.oneCell']) (by unfold maxLen; omega) (by omega) (by have := hB.size; simp; omega) ?_; intro v' w1 hown' hgrow _; obtain ⟨g', cap', rfl⟩ := ownsRow_succ hown'; obtain ⟨hv1, hv2, hr2, hk2, hb2⟩ := hv.appended (by decide) hrow hB.size (Nat.le_refl _) hown' hgrow; have hc1 := hv1.cell; have hf1 := hv1.frozen)
    exact ⟨hk2.from _, keepB_below hb2 hBm, ⟨_, hv2, by simpa using hr2, trivial⟩, hB.trans hb2⟩
  case done =>
    rintro D ys W hD rfl ⟨⟨v, hv, hrow, _⟩, hB⟩ hK
    have hc := hv.cell
    gi_wp2
    refine ⟨by simp, .inl ⟨_, _, rfl, run_takeDeferred hK, ?_⟩⟩
    exact ⟨_, results_tmp rfl _ _ _, v, rfl, ownsRow_putObj hrow _ hK rfl, hB.trans (belowK_b (w := w) (Nat.le_refl _) W D _ _ (by simp at hD; omega) hK rfl rfl)⟩
  case stop =>
    rintro D c pre W _ _ h _
    exact h.elim

theorem aboveL_length (m c : Int) : (aboveL m c).length ≤ 64 := cpusBelow_length m c 64
set_option maxHeartbeats 1000000 in
theorem collect_in (F : Fence) (n : Nat) (h34 : F.fn 34) (h37 : F.fn 37) (h36 : F.fn 36) (hro : F.round = none) (hn : 4 ≤ n) (Bm : Nat) (lb : Array Value) (L : List Int) (hL : L.length ≤ 64) (w : World) (hBm : Bm < w.heap.size)
    (hseq : SeqStopsK F (n - 1 - 1) Try.prog 36 lb (fun x : Int => #[Value.int .i64 x]) (KeepB Bm) (fun ys => ys = L) (fun pre => pre <+: L) 64 w) :
    CallsIn F n Try.prog 34 #[.func (.func 36) #[] lb] w fun e W' => ∃ v, e = .returned v ∧ W'.ownsRow w.heap.size 3 1 v L.length (L.map (Value.int .i64)) ∧ Below w.heap.size w W' := by
  have h1 : 1 ≤ n := by omega
  have HA := Aside0.mk (appendSeq_in F (n - 1) h37 h36 hro (by omega) Bm lb L hL w hBm hseq)
  clear hseq
  refine callsIn_of_wp Try.func34 rfl h34 ?_ hro
  simp only [Try.ntmps34, List.size_toArray, List.length_cons, List.length_nil, Nat.reduceAdd, Nat.reduceSub, Array.replicate_succ, Array.replicate_zero, List.push_toArray, List.append_toArray, List.nil_append, List.cons_append]
  gi_wp2_with (gi_at_call 37; refine HA.out.mono ?_; rintro e w' ⟨v, rfl, ho, hb⟩; have HO := Aside0.mk ho; have HB := Aside0.mk hb; clear ho hb)
  go_ret
  exact ⟨v, rfl, HO.out, HB.out⟩
set_option maxHeartbeats 1000000 in
theorem list_in (F : Fence) (n : Nat) (h26 : F.fn 26) (h31 : F.fn 31) (h34 : F.fn 34) (h37 : F.fn 37) (h36 : F.fn 36) (h18 : F.fn 18) (h32 : F.fn 32) (hro : F.round = none) (hn : 6 ≤ n) (m : Int) (hm0 : 0 ≤ m) (hm1 : m < 18446744073709551616) (w : World) :
    CallsIn F n Try.prog 26 #[.int .u64 m] w fun e W' => ∃ v, e = .returned v ∧ W'.ownsRow w.heap.size 3 1 v (aboveL m (-1)).length ((aboveL m (-1)).map (Value.int .i64)) ∧ Below w.heap.size w W' := by
  have h1 : 1 ≤ n := by omega
  refine callsIn_of_wp Try.func26 rfl h26 ?_ hro
  simp only [Try.ntmps26, List.size_toArray, List.length_cons, List.length_nil, Nat.reduceAdd, Nat.reduceSub, Array.replicate_succ, Array.replicate_zero, List.push_toArray, List.append_toArray, List.nil_append, List.cons_append]
  gi_wp2_with (gi_at_call 31; refine (above_in F (n - 1) h31 hro _ _ _).mono ?_; rintro e w' ⟨rfl, rfl⟩)
  obtain ⟨W2, hW2⟩ : ∃ W2, (w.alloc (.cells #[.int .u64 m] 22)).alloc (.cells #[.int .i64 (-1)] 3) = W2 := ⟨_, rfl⟩
  have hB2 : Below w.heap.size w W2 := by rw [← hW2]; exact below_alloc (below_alloc (Below.refl _ _) _) _
  have hz : W2.heap.size = w.heap.size + 2 := by rw [← hW2]; simp
  have k0 : W2.heap[w.heap.size]? = some (.cells #[.int .u64 m] 22 (0, 0)) := by rw [← hW2]; exact blk_alloc (blk_new _ _) _
  have k1 : W2.heap[w.heap.size + 1]? = some (.cells #[.int .i64 (-1)] 3 (0, 0)) := by
    rw [← hW2]; have h_ := blk_new (w.alloc (.cells #[.int .u64 m] 22)) (.cells #[.int .i64 (-1)] 3); rw [World.size_alloc] at h_; exact h_
  rw [hW2]
  clear hW2
  refine (collect_in F (n - 1) h34 h37 h36 hro (by omega) w.heap.size _ (aboveL m (-1)) (aboveL_length _ _) W2 (by omega) (above_stops F _ h36 h18 h32 hro (by omega) _ _ m (-1) hm0 hm1 (by omega) (by omega) W2 k1 k0)).mono ?_
  rintro e w' ⟨v, rfl, ho, hb⟩
  have HO := Aside0.mk ho
  have HB := Aside0.mk (below_step hB2 hb)
  clear ho hb
  gi_wp2
  go_ret
  exact ⟨v, rfl, own_weaken HO.out (by omega), HB.out⟩
def mask_List.f (m : Int) : Option (List Int) := if 0 ≤ m ∧ m < 18446744073709551616 then some (aboveL m (-1)) else none
theorem mask_List.calls (a0 : Int) (r : List Int) (w : World) (h : mask_List.f a0 = some r) :
    Calls Try.prog 26 #[.int .u64 a0] w fun e w' => ∃ v0_ : Value, e = .returned (v0_) ∧ Kd.R (Kd.int .i64) 3 w' w.heap.size (fun _ => True) v0_ r ∧ Below w.heap.size w w' := by
  unfold mask_List.f at h
  split at h
  · rename_i hr
    obtain rfl := Option.some.inj h
    refine (callsIn_wide.1 (list_in Fence.wide 8 trivial trivial trivial trivial trivial trivial trivial rfl (by omega) a0 hr.1 hr.2 w)).mono ?_
    rintro e w' ⟨v, rfl, ho, hb⟩
    exact ⟨v, rfl, Kd.R_of_own ho (fun _ _ => trivial), hb⟩
  · cases h

/-! ### Of -/
def oddB (c : Int) : Bool := !decide (0 ≤ c ∧ c < 64)
def IdxPost (l : List Int) (w : World) (e : Ending) (w' : World) : Prop := (∃ r : Int, e = .returned (.int .i64 r) ∧ ((l.any oddB = true ∧ 0 ≤ r) ∨ (l.any oddB = false ∧ r = -1))) ∧ w = w'
theorem odd_any (c : Int) (w : World) : Calls Try.prog 32 #[.int .i64 c] w fun e w' => e = .returned (.bool (oddB c)) ∧ w = w' := callsIn_wide.1 (odd_in Fence.wide 3 trivial rfl c w)
theorem any_take_succ (l : List Int) (k : Nat) (h : k < l.length) : (l.take (k + 1)).any oddB = ((l.take k).any oddB || oddB (l.getD k 0)) := by
  rw [List.take_succ_eq_append_getElem h, List.any_append, List.getD_eq_getElem?_getD, List.getElem?_eq_getElem h]
  simp
set_option maxRecDepth 100000 in
set_option maxHeartbeats 2000000 in
theorem index_any (A : Option Addr) (c : Nat) (l : List Int) (w : World) (hr : Kd.C (Kd.int .i64) w A l.length l) (hm : l.length ≤ 9223372036854775806) :
    Calls Try.prog 38 #[.slice A l.length c, .func (.func 32) #[] #[]] w (IdxPost l w) := by
  cases l with
  | nil =>
    go_enter Try.func38, Try.ntmps38
    go_wp2
    go_loop [8] (fun i => i = .int .i64 0) (fun _ => 0)
    case atStart => rfl
    case round =>
      obtain rfl := hrel
      go_wp2
      go_ret
      exact ⟨⟨-1, rfl, .inr ⟨rfl, rfl⟩⟩, rfl⟩
  | cons x0 l0 =>
    obtain ⟨ad, hA, _⟩ := Kd.at_int hr 0 (by omega) (by simp)
    subst hA
    generalize hl : x0 :: l0 = l at hr hm ⊢
    clear hl
    have hcell : ∀ k : Nat, k < l.length → w.cell? (ad.add k) = some (.int .i64 (l.getD k 0)) := by
      intro k hk
      obtain ⟨ad', e, hc⟩ := Kd.at_int hr (k : Int) (by omega) (by omega)
      injection e with e
      subst e
      simpa [rd] using hc
    have HC := Aside0.mk hcell
    have HR := Aside0.mk hr
    clear hcell hr
    go_enter Try.func38, Try.ntmps38
    go_wp2
    go_loop [8] (fun i => ∃ k : Nat, k ≤ l.length ∧ i = .int .i64 (k : Int) ∧ (l.take k).any oddB = false) (fun i => l.length - (intOf i).toNat)
    case atStart => exact ⟨0, by omega, rfl, rfl⟩
    case round =>
      obtain ⟨k, hk, rfl, hno⟩ := hrel
      have HNO := Aside0.mk hno
      clear hno
      by_cases hlt : k < l.length
      · have hx := HC.out k hlt
        have HT := Aside0.mk (any_take_succ l k hlt)
        generalize hy : l.getD k 0 = y at hx
        have HY := Aside0.mk hy
        clear hy
        have HOd := odd_any y w
        by_cases ho : oddB y = true
        · rw [ho] at HOd
          have HO := Aside0.mk HOd
          have HOO := Aside0.mk ho
          clear HOd ho
          go_wp2_with (go_at_call 32; refine HO.out.mono ?_; rintro e w' ⟨rfl, rfl⟩)
          go_ret
          refine ⟨⟨k, rfl, .inl ⟨?_, by omega⟩⟩, rfl⟩
          have h2 := HT.out
          rw [HY.out, HOO.out, Bool.or_true] at h2
          rw [List.any_eq_true] at h2 ⊢
          obtain ⟨z, hz, hz2⟩ := h2
          exact ⟨z, List.mem_of_mem_take hz, hz2⟩
        · have ho' : oddB y = false := by simpa using ho
          rw [ho'] at HOd
          have HO := Aside0.mk HOd
          have HOO := Aside0.mk ho'
          clear HOd ho ho'
          go_wp2_with (go_at_call 32; refine HO.out.mono ?_; rintro e w' ⟨rfl, rfl⟩)
          go_round
          case rel => exact ⟨k + 1, by omega, by simp, by rw [HT.out, HNO.out, HY.out, HOO.out]; rfl⟩
          case measure => simp [intOf]; omega
      · obtain rfl : k = l.length := by omega
        go_wp2
        go_ret
        exact ⟨⟨-1, rfl, .inr ⟨by have := HNO.out; rwa [List.take_length] at this, rfl⟩⟩, rfl⟩

set_option maxHeartbeats 1000000 in
theorem contains_any (A : Option Addr) (c : Nat) (l : List Int) (w : World) (hr : Kd.C (Kd.int .i64) w A l.length l) (hm : l.length ≤ 9223372036854775806) :
    Calls Try.prog 35 #[.slice A l.length c, .func (.func 32) #[] #[]] w fun e w' => e = .returned (.bool (l.any oddB)) ∧ w = w' := by
  have HI := Aside0.mk (index_any A c l w hr hm)
  clear hr
  go_enter Try.func35, Try.ntmps35
  go_wp2_with fail
  refine HI.out.mono ?_
  rintro e w' ⟨⟨r, rfl, hr⟩, rfl⟩
  rcases hr with ⟨ha, h0⟩ | ⟨ha, rfl⟩
  · have HA := Aside0.mk ha
    have hd : decide (0 ≤ r) = true := decide_eq_true h0
    clear ha h0
    go_wp2
    go_ret
    exact ⟨ret_bool HA.out.symm, rfl⟩
  · have HA := Aside0.mk ha
    clear ha
    go_wp2
    go_ret
    exact ⟨ret_bool HA.out.symm, rfl⟩

/-- The mask of CPUs, as a natural number. -/
def ofN (l : List Int) : Nat := l.foldl (fun m c => m ||| 2 ^ c.toNat) 0
theorem ofN_take_succ (l : List Int) (k : Nat) (h : k < l.length) : ofN (l.take (k + 1)) = ofN (l.take k) ||| 2 ^ (l.getD k 0).toNat := by
  unfold ofN
  rw [List.take_succ_eq_append_getElem h, List.foldl_append, List.getD_eq_getElem?_getD, List.getElem?_eq_getElem h]
  simp
theorem or_lt (a b : Nat) (ha : a < 18446744073709551616) (hb : b < 18446744073709551616) : a ||| b < 18446744073709551616 := Nat.or_lt_two_pow (n := 64) ha hb
theorem pow_lt64 (k : Nat) (h : k < 64) : 2 ^ k < 18446744073709551616 := by
  have : 2 ^ k ≤ 2 ^ 63 := Nat.pow_le_pow_right (by decide) (by omega)
  omega
theorem fold_lt (l : List Int) (h : l.any oddB = false) : ∀ m, m < 18446744073709551616 → l.foldl (fun m c => m ||| 2 ^ c.toNat) m < 18446744073709551616 := by
  induction l with
  | nil => exact fun m hm => hm
  | cons x xs ih =>
    intro m hm
    rw [List.any_cons, Bool.or_eq_false_iff] at h
    have hx : 0 ≤ x ∧ x < 64 := by simpa [oddB] using h.1
    exact ih h.2 _ (or_lt _ _ hm (pow_lt64 _ (by omega)))
theorem ofN_lt (l : List Int) (h : l.any oddB = false) : ofN l < 18446744073709551616 := fold_lt l h 0 (by decide)
theorem any_take (l : List Int) (k : Nat) (h : l.any oddB = false) : (l.take k).any oddB = false := by
  rw [List.any_eq_false] at h ⊢
  exact fun x hx => h x (List.mem_of_mem_take hx)
theorem get_ok (l : List Int) (k : Nat) (h : l.any oddB = false) (hk : k < l.length) : 0 ≤ l.getD k 0 ∧ l.getD k 0 < 64 := by
  rw [List.any_eq_false] at h
  have := h (l.getD k 0) (by rw [List.getD_eq_getElem?_getD, List.getElem?_eq_getElem hk]; exact List.getElem_mem hk)
  simpa [oddB] using this
theorem ret_uv {a b : Int} (h : a = b) (c : Int) : Ending.returned (.tuple #[.int .u64 a, .int .i64 c]) = .returned (.tuple #[.int .u64 b, .int .i64 c]) := by rw [h]

def mask_Of.f (l : List Int) : Option (Int × Int) := if l.length ≤ 9223372036854775806 then (if l.any oddB then some (0, 1) else some ((ofN l : Int), 0)) else none
set_option maxRecDepth 100000 in
set_option maxHeartbeats 2000000 in
theorem of_ok (A : Option Addr) (c : Nat) (l : List Int) (w : World) (hr : Kd.C (Kd.int .i64) w A l.length l) (hm : l.length ≤ 9223372036854775806) (ha : l.any oddB = false) :
    Calls Try.prog 27 #[.slice A l.length c] w fun e w' => e = .returned (.tuple #[.int .u64 (ofN l : Int), .int .i64 0]) ∧ w = w' := by
  have HCO := Aside0.mk (ha ▸ contains_any A c l w hr hm)
  have HA := Aside0.mk ha
  clear ha
  cases l with
  | nil =>
    clear hr
    go_enter Try.func27, Try.ntmps27
    go_wp2_with (go_at_call 35; refine HCO.out.mono ?_; rintro e w' ⟨rfl, rfl⟩)
    go_loop [2, 10] (fun m i => i = .int .i64 0 ∧ m = .int .u64 0) (fun _ _ => 0)
    case atStart => exact ⟨rfl, rfl⟩
    case round =>
      obtain ⟨rfl, rfl⟩ := hrel
      go_wp2
      go_ret2
      exact ⟨rfl, rfl⟩
  | cons x0 l0 =>
    obtain ⟨ad, hAd, _⟩ := Kd.at_int hr 0 (by omega) (by simp)
    subst hAd
    generalize hl : x0 :: l0 = l at hr hm HCO HA ⊢
    clear hl
    have hcell : ∀ k : Nat, k < l.length → w.cell? (ad.add k) = some (.int .i64 (l.getD k 0)) := by
      intro k hk
      obtain ⟨ad', e, hc⟩ := Kd.at_int hr (k : Int) (by omega) (by omega)
      injection e with e
      subst e
      simpa [rd] using hc
    have HC := Aside0.mk hcell
    clear hcell hr
    go_enter Try.func27, Try.ntmps27
    go_wp2_with (go_at_call 35; refine HCO.out.mono ?_; rintro e w' ⟨rfl, rfl⟩)
    go_loop [2, 10] (fun m i => ∃ k : Nat, k ≤ l.length ∧ i = .int .i64 (k : Int) ∧ m = .int .u64 (ofN (l.take k) : Int)) (fun _ i => l.length - (intOf i).toNat)
    case atStart => exact ⟨0, by omega, rfl, rfl⟩
    case round =>
      obtain ⟨k, hk, rfl, rfl⟩ := hrel
      by_cases hlt : k < l.length
      · have hx := HC.out k hlt
        have HT := Aside0.mk (ofN_take_succ l k hlt)
        have hok := get_ok l k HA.out hlt
        have HLT := Aside0.mk (ofN_lt _ (any_take l k HA.out))
        generalize hy : l.getD k 0 = y at hx hok
        obtain ⟨j, rfl⟩ := Int.eq_ofNat_of_zero_le hok.1
        have hj : j < 64 := by omega
        have HY := Aside0.mk hy
        clear hy hok
        generalize hM : ofN (l.take k) = M
        have HM := Aside0.mk hM
        clear hM
        go_wp2
        go_round
        case rel =>
          refine ⟨k + 1, by omega, by simp, ?_⟩
          rw [HT.out, HM.out, HY.out, Int.toNat_natCast]
          have hM := HLT.out
          rw [HM.out] at hM
          have := u64_or_nat M (2 ^ j) hM (pow_lt64 j hj)
          have e1 : IntKind.u64.wrap (2 ^ j) = ((2 ^ j : Nat) : Int) := by
            have h2 := pow_lt64 j hj
            rw [show ((2 : Int) ^ j) = ((2 ^ j : Nat) : Int) from (Int.natCast_pow 2 j).symm]
            generalize 2 ^ j = p at h2
            rw [IntKind.wrap_u64]
            exact Int.emod_eq_of_lt (Int.natCast_nonneg _) (by omega)
          rw [e1]

          exact congrArg (Value.int .u64) this
        case measure => simp [intOf]; omega
      · obtain rfl : k = l.length := by omega
        go_wp2
        go_ret2
        exact ⟨ret_uv (by simp) 0, rfl⟩
set_option maxHeartbeats 1000000 in
theorem of_bad (A : Option Addr) (c : Nat) (l : List Int) (w : World) (hr : Kd.C (Kd.int .i64) w A l.length l) (hm : l.length ≤ 9223372036854775806) (ha : l.any oddB = true) :
    Calls Try.prog 27 #[.slice A l.length c] w fun e w' => e = .returned (.tuple #[.int .u64 0, .int .i64 1]) ∧ w = w' := by
  have HCO := Aside0.mk (ha ▸ contains_any A c l w hr hm)
  clear ha hr
  go_enter Try.func27, Try.ntmps27
  go_wp2_with (go_at_call 35; refine HCO.out.mono ?_; rintro e w' ⟨rfl, rfl⟩)
  go_ret2
  exact ⟨rfl, rfl⟩
theorem mask_Of.calls (A0 : Option Addr) (c0 : Nat) (l0 : List Int) (r1 r2 : Int) (w : World) (hr0 : Kd.C (Kd.int .i64) w A0 l0.length l0) (hc0 : l0.length ≤ c0) (h : mask_Of.f l0 = some (r1, r2)) :
    Calls Try.prog 27 #[.slice A0 l0.length c0] w fun e w' => e = .returned (.tuple #[.int .u64 r1, .int .i64 r2]) ∧ w = w' := by
  unfold mask_Of.f at h
  split at h
  · rename_i hm
    split at h
    · rename_i ha
      injection h with h
      injection h with h1 h2
      subst h1 h2
      exact of_bad A0 c0 l0 w hr0 hm ha
    · rename_i ha
      injection h with h
      injection h with h1 h2
      subst h1 h2
      exact of_ok A0 c0 l0 w hr0 hm (by simpa using ha)
  · cases h
end Go.Proofs.Ytdghjigeddphaaa.Given

/- Package spread: the iterator back. -/
import Derived.Test.YtkhdfbmkikiapaaG
import Derived.Test.YtkhdfbmkikiapaaGO
namespace Go.Proofs.Ytkhdfbmkikiapaa.Given
open Go.RowKit Go.Shelf Go.Proofs.YtkhdfbmkikiapaaW.PrintWords Go.Proofs.Ytkhdfbmkikiapaa.Print Go.Proofs.SeqO
set_option linter.unusedVariables false
set_option linter.unusedSimpArgs false
attribute [local go_sem] Oper.semAt_some

theorem bw_stops (F : Fence) (n : Nat) (h34 : F.fn 34) (hro : F.round = none) (hn : 1 ≤ n) (Bs : Nat) (A : Option Addr) (c : Nat) (xs : List S41) (hx : xs.length ≤ 4611686018427387904) (S : Nat → TypeId → Prop) (hS0 : S Bs 22) (hSA : 0 < xs.length → ∀ ad, A = some ad → ∀ t, S ad.block t) (w : World)
    (hBs : w.heap[Bs]? = some (.cells #[.slice A xs.length c] 22 (0, 0))) (hC : Kd.C k41 w A xs.length xs) :
    SeqStopsK F n Try.prog 34 #[.pointer (some ⟨Bs, 0, none⟩)] (fun i : Nat => #[Value.int .i64 (i : Int), candV (rd_T41 xs (i : Int))]) (KeepS S) (fun ys => ys = downs xs.length) (fun pre => ∃ k, k ≤ xs.length ∧ pre = (downs xs.length).take k) xs.length w := fun l J Jx W hW _ _ hY h0 => by
  refine (bw1_in F n h34 hro hn l Bs A c xs hx S hS0 hSA J Jx hY W (blk_below hBs hW) (Kd.C_below hC hW) h0).mono ?_
  rintro e W' ⟨he, h⟩
  exact ⟨he, h⟩
set_option maxHeartbeats 1000000 in
theorem bw_in (F : Fence) (n : Nat) (h30 : F.fn 30) (hro : F.round = none) (A : Option Addr) (m c : Nat) (w : World) :
    CallsIn F n Try.prog 30 #[.slice A m c] w fun e w' => e = .returned (.func (.func 34) #[] #[.pointer (some ⟨w.heap.size, 0, none⟩)]) ∧ w' = w.alloc (.cells #[.slice A m c] 22) := by
  refine callsIn_of_wp Try.func30 rfl h30 ?_ hro
  simp only [Try.ntmps30, List.size_toArray, List.length_cons, List.length_nil, Nat.reduceAdd, Nat.reduceSub, Array.replicate_succ, Array.replicate_zero, List.push_toArray, List.append_toArray, List.nil_append, List.cons_append]
  gi_wp2
  go_ret
  exact ⟨rfl, rfl⟩
set_option maxHeartbeats 1000000 in
theorem back_in (F : Fence) (n : Nat) (h24 : F.fn 24) (hro : F.round = none) (A : Option Addr) (m c : Nat) (tc : Int) (w : World) :
    CallsIn F n Try.prog 24 #[.slice A m c, .int .i64 tc] w fun e w' => e = .returned (.func (.func 29) #[] #[.pointer (some ⟨w.heap.size, 0, none⟩), .pointer (some ⟨w.heap.size + 1, 0, none⟩)]) ∧ w' = (w.alloc (.cells #[.slice A m c] 22)).alloc (.cells #[.int .i64 tc] 3) := by
  refine callsIn_of_wp Try.func24 rfl h24 ?_ hro
  simp only [Try.ntmps24, List.size_toArray, List.length_cons, List.length_nil, Nat.reduceAdd, Nat.reduceSub, Array.replicate_succ, Array.replicate_zero, List.push_toArray, List.append_toArray, List.nil_append, List.cons_append]
  gi_wp2
  go_ret
  exact ⟨rfl, rfl⟩
def candC (x : S41) : Array Value := #[.int .i64 x.f0, .int .i64 x.f1, .int .u64 x.f2]
/-- Those who may be on the CPU, of some places. -/
def sel (xs : List S41) (tc : Int) (is : List Nat) : List S41 := (is.filter fun (i : Nat) => hasB (rd_T41 xs (i : Int)).f2 tc).map fun (i : Nat) => rd_T41 xs (i : Int)
theorem sel_snoc (xs : List S41) (tc : Int) (pre : List Nat) (i : Nat) : sel xs tc (pre ++ [i]) = if hasB (rd_T41 xs (i : Int)).f2 tc then sel xs tc pre ++ [rd_T41 xs (i : Int)] else sel xs tc pre := by
  unfold sel
  rw [List.filter_append, List.map_append]
  cases h : hasB (rd_T41 xs (i : Int)).f2 tc <;> simp [List.filter_cons, h]
theorem sel_length (xs : List S41) (tc : Int) (is : List Nat) : (sel xs tc is).length ≤ is.length := by
  unfold sel
  rw [List.length_map]
  exact List.length_filter_le _ _
set_option maxRecDepth 100000 in
set_option maxHeartbeats 4000000 in
theorem back1_in (F : Fence) (n m : Nat) (h29 : F.fn 29) (h30 : F.fn 30) (h34 : F.fn 34) (h31 : F.fn 31) (h35 : F.fn 35) (hro : F.round = none) (hn : 6 ≤ n) (hm : m = n - 1 - 1 - 1) (Bs Bt : Nat) (A : Option Addr) (c : Nat) (tc : Int) (xs : List S41) (hx : xs.length ≤ 4611686018427387904)
    (hm2 : ∀ i : Int, 0 ≤ (rd_T41 xs i).f2 ∧ (rd_T41 xs i).f2 < 18446744073709551616)
    (S : Nat → TypeId → Prop) (hS22 : ∀ k, S k 22) (hS41 : ∀ k, S k 41) (hS45 : ∀ k, S k 45) (hSt : S Bt 3) (hSA : 0 < xs.length → ∀ ad, A = some ad → ∀ t, S ad.block t) (w : World)
    (hBs : w.heap[Bs]? = some (.cells #[.slice A xs.length c] 22 (0, 0))) (hBt : w.heap[Bt]? = some (.cells #[.int .i64 tc] 3 (0, 0))) (hC : Kd.C k41 w A xs.length xs) :
    SeqO F n m Try.prog 29 #[.pointer (some ⟨Bs, 0, none⟩), .pointer (some ⟨Bt, 0, none⟩)] (fun x : S41 => #[candV x]) (KeepS S) (fun ys => ys = sel xs tc (downs xs.length)) (fun pre => ∃ k, k ≤ xs.length ∧ pre = sel xs tc ((downs xs.length).take k)) xs.length w := fun l J Jx W hW hJo hJxo hY h0 => by
  have h1 : 1 ≤ n := by omega
  have kBs := blk_below hBs hW
  have kBt := blk_below hBt hW
  have HC := Aside0.mk (Kd.C_below hC hW)
  have x0 : W.cell? ⟨Bs, 0, none⟩ = some (.slice A xs.length c) := (blk_cell kBs 0).trans rfl
  have y0 : Bs < W.heap.size := blk_lt kBs
  have x0b : (Bs = W.heap.size) = False := eq_false (Nat.ne_of_lt y0)
  have x0c : (W.heap.size = Bs) = False := eq_false (Nat.ne_of_gt y0)
  have HBS := Aside0.mk kBs
  have HBT := Aside0.mk kBt
  clear hBs hBt hC kBs kBt
  refine callsIn_of_wp_marks Try.func29 rfl h29 ?_ hro
  simp only [Try.ntmps29, List.size_toArray, List.length_cons, List.length_nil, Nat.reduceAdd, Nat.reduceSub, Array.replicate_succ, Array.replicate_zero, List.push_toArray, List.append_toArray, List.nil_append, List.cons_append]
  gi_wp2_with (gi_at_call 30; refine (bw_in F (n - 1) h30 hro _ _ _ _).mono ?_; rintro e w' ⟨rfl, rfl⟩)
  obtain ⟨W2, hW2⟩ : ∃ W2, (W.alloc (.cells #[.func (.yield l) #[] #[]] 45)).alloc (.cells #[.slice A xs.length c] 22) = W2 := ⟨_, rfl⟩
  have hB2 : Below W.heap.size W W2 := by rw [← hW2]; exact below_alloc (below_alloc (Below.refl _ _) _) _
  have hz : W2.heap.size = W.heap.size + 2 := by rw [← hW2]; simp
  have kY : Boxed W2 W.heap.size 45 (.func (.yield l) #[] #[]) := by rw [← hW2]; exact blk_alloc (blk_new _ _) _
  have kQ : W2.heap[W.heap.size + 1]? = some (.cells #[.slice A xs.length c] 22 (0, 0)) := by
    rw [← hW2]; have h_ := blk_new (W.alloc (.cells #[.func (.yield l) #[] #[]] 45)) (.cells #[.slice A xs.length c] 22); rw [World.size_alloc] at h_; exact h_
  have kT : Boxed W2 Bt 3 (.int .i64 tc) := blk_below HBT.out hB2
  have hJ2 : J (sel xs tc []) W2 := by rw [← hW2]; exact hJo.alloc _ (hJo.alloc _ h0)
  have HC2 := Aside0.mk (Kd.C_below HC.out hB2)
  have HSZ := Aside0.mk hz
  rw [hW2]
  clear hW2 hB2
  subst hm
  refine wpIn_rangeFunc_ownH hro h1 (gf := 34) (lb := #[.pointer (some ⟨W.heap.size + 1, 0, none⟩)]) rfl h34 (enters_of Try.func34 (by kernel_rfl) rfl)
    (bw_stops F (n - 1) h34 hro (by omega) (W.heap.size + 1) A c xs hx S (hS22 _) hSA W2 kQ HC2.out) keepS_t (fun W l o o' _ hl ho _ => keepS_put W l o o' hl ho) (Below.refl _ _) (fun _ => rfl)
    (fun pre W' => (Boxed W' W.heap.size 45 (.func (.yield l) #[] #[]) ∧ Boxed W' Bt 3 (.int .i64 tc)) ∧ J (sel xs tc pre) W')
    (fun d pre W' => d = .ret ∧ Jx (sel xs tc pre) W')
    (OwnFrom.and (OwnFrom.and (Own.from (boxed_own _ _ (fun _ => _)) _) (Own.from (boxed_own _ _ (fun _ => _)) _)) (fun s X Y row hs hg hr => OwnFrom.mono hJo (by omega) _ X Y row hs hg hr))
    (fun d s X Y row hs hg hr => ⟨hs.1, OwnFrom.mono hJxo (by omega) _ X Y row hs.2 hg hr⟩)
    ⟨⟨kY, kT⟩, hJ2⟩
    (fun i a' W' => ∃ Bx, W'.heap[Bx]? = some (.cells (candC (rd_T41 xs (i : Int))) 41 (0, 0)) ∧ a' = { tmps := #[.func (.yield l) #[] #[], .pointer (some ⟨Bs, 0, none⟩), .pointer (some ⟨Bt, 0, none⟩), .pointer (some ⟨W.heap.size, 0, none⟩), undef, .pointer (some ⟨Bx, 0, none⟩), .slice A xs.length c, .func (.func 34) #[] #[.pointer (some ⟨W.heap.size + 1, 0, none⟩)], .int .i64 (i : Int), candV (rd_T41 xs (i : Int)), undef, undef, undef, undef, undef, undef, undef, undef, undef, undef], defers := [] })
    (fun i a' _ X Y row hs hg hr => by obtain ⟨Bx, h1, h2⟩ := hs; exact ⟨Bx, keepS_grown (S := fun _ _ => True) hg (fun r e => (hr r e).2) Bx 41 trivial _ _ h1, h2⟩)
    ?assign ?body ?done ?stop
  case assign =>
    rintro l1 pre i W1 K ⟨⟨kY1, kT1⟩, hJ1⟩ hK
    unfold candV at hK ⊢
    gi_wp2
    exact hK _ _ ((KeepsOthers.alloc _ _).from _) (keepS_row (World.grownBy_alloc _ _ none) (fun r e => by cases e)) ⟨⟨kY1.alloc _, kT1.alloc _⟩, hJo.alloc _ hJ1⟩ ⟨W1.heap.size, blk_new _ _, rfl⟩
  case body =>
    rintro l1 pre i a' W1 hl ⟨rr, hrr⟩ ⟨⟨kY1, kT1⟩, hJ1⟩ ⟨Bx, kX, rfl⟩ hlt
    clear hrr
    have h1' : 1 ≤ n - 1 - 1 := by omega
    have hS := sel_snoc xs tc pre i
    have hm3 := hm2 (i : Int)
    have hlen : (sel xs tc pre).length < xs.length := by have := sel_length xs tc pre; omega
    generalize rd_T41 xs (i : Int) = x at kX hS hm3 ⊢
    obtain ⟨f0, f1, f2⟩ := x
    have KX := Aside0.mk kX
    have KY := Aside0.mk kY1
    have KT := Aside0.mk kT1
    have cT := kT1.cell
    have cY := kY1.cell
    have c0 : W1.cell? ⟨Bx, 0, none⟩ = some (.int .i64 f0) := (blk_cell kX 0).trans rfl
    have c1 : W1.cell? ⟨Bx, 1, none⟩ = some (.int .i64 f1) := (blk_cell kX 1).trans rfl
    have c2 : W1.cell? ⟨Bx, 2, none⟩ = some (.int .u64 f2) := (blk_cell kX 2).trans rfl
    clear kX kY1 kT1
    unfold candV
    have HO := has_in F (n - 1 - 1 - 1) h31 h35 hro (by omega) f2 tc W1 hm3.1 hm3.2
    obtain ⟨fn, tmps, assign, body, hy, hR⟩ := hY _ ⟨f0, f1, f2⟩ W1 hJ1 hlen
    unfold candV at hy
    have HR : Aside0 (RoundIn (F.inRound l1) (n - 1 - 1 - 1) Try.prog l fn tmps assign body W1 _) := Aside0.mk hR
    clear hR
    simp only at hS
    have HSz := Aside0.mk (OwnFrom.mono hJo (Nat.le_refl _))
    cases hb : hasB f2 tc
    · rw [hb] at HO hS
      rw [if_neg (by decide)] at hS
      have HS := Aside0.mk hS
      have HOA := Aside0.mk HO
      clear HO hb hS hy
      gi_wp2_with (gi_at_call 31; refine (CallsIn.inRound l1 HOA.out).mono ?_; rintro e w' ⟨rfl, rfl⟩)
      refine ⟨fun _ h => (by cases h), ?_⟩
      gi_wp2
      exact ⟨KeepsFrom.refl _ _, keepS_refl _ _, ⟨KY.out, KT.out⟩, by rw [HS.out]; exact hJ1⟩
    · rw [hb] at HO hS
      rw [if_pos rfl] at hS
      have HS := Aside0.mk hS
      have HOA := Aside0.mk HO
      clear HO hb hS
      gi_wp2_with (gi_at_call 31; refine (CallsIn.inRound l1 HOA.out).mono ?_; rintro e w' ⟨rfl, rfl⟩)
      refine HR.out.mono ?_
      rintro e W3 ⟨(⟨rfl, hJ3, hk3⟩ | ⟨rfl, hJx3⟩), hkf⟩
      · have HK3 := Aside0.mk hk3
        have HKF := Aside0.mk hkf
        clear hk3 hkf
        gi_wp2
        exact ⟨KeepsFrom.mono HKF.out (by omega), HK3.out, ⟨HK3.out _ _ (hS45 _) _ _ KY.out, HK3.out _ _ hSt _ _ KT.out⟩, by rw [HS.out]; exact hJ3⟩
      · have HKF := Aside0.mk hkf
        clear hkf
        gi_wp2
        exact ⟨KeepsFrom.mono HKF.out (by omega), rfl, by rw [HS.out]; exact hJx3⟩
  case done =>
    rintro D ys Wd hD rfl ⟨⟨kY1, kT1⟩, hJ1⟩ hK
    have HJ := Aside0.mk (hJo.putObj (.deferred none) hJ1 (by omega) hK rfl)
    gi_wp2

    refine ⟨by simp, .inl ⟨_, _, rfl, run_takeDeferred hK, ?_⟩⟩
    exact ⟨_, results_none rfl _ _ _, ⟨_, rfl⟩, .inl ⟨_, rfl, HJ.out⟩⟩
  case stop =>
    rintro D d pre Wd hD ⟨k, hk, rfl⟩ ⟨rfl, hJx1⟩ hK
    have HJ := Aside0.mk (hJxo.putObj (.deferred none) hJx1 (by omega) hK rfl)
    gi_wp2
    refine ⟨by simp, .inl ⟨_, _, rfl, run_takeDeferred hK, ?_⟩⟩
    exact ⟨_, results_none rfl _ _ _, ⟨_, rfl⟩, .inr ⟨_, ⟨k, hk, rfl⟩, HJ.out⟩⟩
end Go.Proofs.Ytkhdfbmkikiapaa.Given

/- Package spread: the iterators back and slices.Backward. -/
import Derived.RangeFuncNested
import Derived.RangeFuncBound
import Derived.RangeFuncCalls
import Derived.RangeFuncLeaves
import Derived.RangeFuncBox
import Derived.Shelf.Abstract
import Derived.WalkKit
import Derived.OwnWalkIn
import Derived.TacticsInMore
import Derived.LoopNIn
import Derived.LoopIn
import Derived.Laws.BitsAllLaws
import Derived.Test.YtkhdfbmkikiapaaPrint0
import Derived.Test.YtkhdfbmkikiapaaWWords
namespace Go.Proofs.Ytkhdfbmkikiapaa.Given
open Go.RowKit Go.Shelf Go.Proofs.YtkhdfbmkikiapaaW.PrintWords Go.Proofs.Ytkhdfbmkikiapaa.Print
set_option linter.unusedVariables false
set_option linter.unusedSimpArgs false
attribute [local go_sem] Oper.semAt_some

def bitB (m : Int) (k : Nat) : Bool := m / 2 ^ k % 2 == 1
def hasB (m c : Int) : Bool := decide (0 ≤ c ∧ c < 64) && bitB m c.toNat

theorem ret_bool {a b : Bool} (h : a = b) : Ending.returned (.bool a) = .returned (.bool b) := by rw [h]
theorem and_one (a : Int) (h0 : 0 ≤ a) (h1 : a < 18446744073709551616) : bits .and .u64 a 1 = a % 2 :=
  bits_mask .u64 64 (by decide) (fun n h0 h1 => by rw [IntKind.wrap_u64]; omega) 1 (by omega) a h0 (by simpa using h1)
theorem div_pow_range (m : Int) (k : Nat) (h0 : 0 ≤ m) (h1 : m < 18446744073709551616) : 0 ≤ m / 2 ^ k ∧ m / 2 ^ k < 18446744073709551616 := by
  have hp : (0 : Int) < 2 ^ k := Int.pow_pos (by decide)
  refine ⟨Int.ediv_nonneg h0 (Int.le_of_lt hp), ?_⟩
  have : m / 2 ^ k ≤ m := Int.ediv_le_self _ h0
  omega

set_option maxHeartbeats 1000000 in
theorem odd_in (F : Fence) (n : Nat) (h35 : F.fn 35) (hro : F.round = none) (c : Int) (w : World) :
    CallsIn F n Try.prog 35 #[.int .i64 c] w fun e w' => e = .returned (.bool (!decide (0 ≤ c ∧ c < 64))) ∧ w = w' := by
  by_cases h0 : c < 0
  · have hd : decide (c < 0) = true := decide_eq_true h0
    have e := ret_bool (show true = !decide (0 ≤ c ∧ c < 64) by rw [decide_eq_false (by omega)]; rfl)
    have E := Aside0.mk e
    clear e h0
    refine callsIn_of_wp Try.func35 rfl h35 ?_ hro
    simp only [Try.ntmps35, List.size_toArray, List.length_cons, List.length_nil, Nat.reduceAdd, Nat.reduceSub, Array.replicate_succ, Array.replicate_zero, List.push_toArray, List.append_toArray, List.nil_append, List.cons_append]
    gi_wp2
    go_ret
    exact ⟨E.out, rfl⟩
  · have hd : decide (c < 0) = false := decide_eq_false h0
    have e := ret_bool (show decide (64 ≤ c) = !decide (0 ≤ c ∧ c < 64) by rw [Bool.eq_iff_iff]; simp; omega)
    have E := Aside0.mk e
    clear e h0
    refine callsIn_of_wp Try.func35 rfl h35 ?_ hro
    simp only [Try.ntmps35, List.size_toArray, List.length_cons, List.length_nil, Nat.reduceAdd, Nat.reduceSub, Array.replicate_succ, Array.replicate_zero, List.push_toArray, List.append_toArray, List.nil_append, List.cons_append]
    gi_wp2
    go_ret
    exact ⟨E.out, rfl⟩

set_option maxHeartbeats 1000000 in
theorem has_in (F : Fence) (n : Nat) (h31 : F.fn 31) (h35 : F.fn 35) (hro : F.round = none) (hn : 1 ≤ n) (m c : Int) (w : World) (hm0 : 0 ≤ m) (hm1 : m < 18446744073709551616) :
    CallsIn F n Try.prog 31 #[.int .u64 m, .int .i64 c] w fun e w' => e = .returned (.bool (hasB m c)) ∧ w = w' := by
  by_cases hc : 0 ≤ c ∧ c < 64
  · obtain ⟨k, rfl⟩ := Int.eq_ofNat_of_zero_le hc.1
    have hk : k < 64 := by omega
    have hd : (!decide (0 ≤ (k : Int) ∧ (k : Int) < 64)) = false := by rw [decide_eq_true hc]; rfl
    have hr := div_pow_range m k hm0 hm1
    have e := ret_bool (show (bits .and .u64 (m / 2 ^ k) 1 == 1) = hasB m k by unfold hasB bitB; rw [decide_eq_true hc, and_one _ hr.1 hr.2]; simp)
    have E := Aside0.mk e
    have HO := Aside0.mk (odd_in F (n - 1) h35 hro k w)
    rw [hd] at HO
    clear e hc hd hr
    refine callsIn_of_wp Try.func31 rfl h31 ?_ hro
    simp only [Try.ntmps31, List.size_toArray, List.length_cons, List.length_nil, Nat.reduceAdd, Nat.reduceSub, Array.replicate_succ, Array.replicate_zero, List.push_toArray, List.append_toArray, List.nil_append, List.cons_append]
    gi_wp2_with (gi_at_call 35; refine HO.out.mono ?_; rintro e w' ⟨rfl, rfl⟩)
    go_ret
    exact ⟨E.out, rfl⟩
  · have hd : (!decide (0 ≤ c ∧ c < 64)) = true := by rw [decide_eq_false hc]; rfl
    have e := ret_bool (show false = hasB m c by unfold hasB; rw [decide_eq_false hc]; rfl)
    have E := Aside0.mk e
    have HO := Aside0.mk (odd_in F (n - 1) h35 hro c w)
    rw [hd] at HO
    clear e hc hd
    refine callsIn_of_wp Try.func31 rfl h31 ?_ hro
    simp only [Try.ntmps31, List.size_toArray, List.length_cons, List.length_nil, Nat.reduceAdd, Nat.reduceSub, Array.replicate_succ, Array.replicate_zero, List.push_toArray, List.append_toArray, List.nil_append, List.cons_append]
    gi_wp2_with (gi_at_call 35; refine HO.out.mono ?_; rintro e w' ⟨rfl, rfl⟩)
    go_ret
    exact ⟨E.out, rfl⟩

/-! ### The CPUs that a mask has, from behind c on, below i -/

/-- The cells of the blocks of S lie as they lay. -/
def KeepS (S : Nat → TypeId → Prop) (X Y : World) : Prop := ∀ k t, S k t → ∀ c f, X.heap[k]? = some (.cells c t f) → Y.heap[k]? = some (.cells c t f)
theorem keepS_t {S : Nat → TypeId → Prop} {X Y Z : World} (h : KeepS S X Y) (k : KeepS S Y Z) : KeepS S X Z := fun b t hb c f e => k b t hb c f (h b t hb c f e)
theorem keepS_refl (S : Nat → TypeId → Prop) (X : World) : KeepS S X X := fun _ _ _ _ _ e => e
theorem keepS_put {S : Nat → TypeId → Prop} (W : World) (l : Nat) (o o' : Obj) (h : W.heap[l]? = some o) (ho : o.isCells = false) : KeepS S W (W.putObj l o') := fun b t hb c f e => by
  by_cases hbl : b = l
  · subst hbl
    rw [e] at h
    injection h with h
    subst h
    cases ho
  · exact (World.putObj_heap_other hbl).trans e
theorem keepS_below {S : Nat → TypeId → Prop} {n : Nat} {X Y : World} (h : Below n X Y) (hS : ∀ k t, S k t → k < n) : KeepS S X Y := fun b t hb c f e => (h.block b (hS b t hb)).trans e
theorem keepS_row {S : Nat → TypeId → Prop} {X Y : World} {row : Option Nat} (h : X.grownBy Y row) (hr : ∀ r, row = some r → ∀ t, ¬ S r t) : KeepS S X Y := fun b t hb c f e => (h.block b (Array.getElem?_eq_some_iff.1 e).1 (fun h2 => hr b h2.symm t hb)).trans e
theorem keepS_grown {S : Nat → TypeId → Prop} {X Y : World} {row : Option Nat} (h : X.grownBy Y row) (hr : ∀ r, row = some r → ∃ o : Obj, X.heap[r]? = some o ∧ o.isCells = false) : KeepS S X Y := fun b t hb c f e => by
  refine (h.block b (blk_lt e) (fun h2 => ?_)).trans e
  obtain ⟨o, ho, hc⟩ := hr b h2.symm
  rw [e] at ho
  injection ho with ho
  subst ho
  cases hc
theorem cell_keep {X Y : World} {a : Addr} {v : Value} (h : X.cell? a = some v) (hk : ∀ c t f, X.heap[a.block]? = some (.cells c t f) → Y.heap[a.block]? = some (.cells c t f)) : Y.cell? a = some v := by
  unfold World.cell? at h ⊢
  cases hx : X.heap[a.block]? with
  | none => rw [hx] at h; simp at h
  | some o =>
    rw [hx] at h
    cases o with
    | cells c t f => rw [hk c t f hx]; exact h
    | _ => simp at h
theorem c_keep {α : Type} {d : Kd α} (hd : ∀ {X Y : World} {x : α} {c : List Value}, d.K X x c → d.K Y x c) {S : Nat → TypeId → Prop} {X Y : World} {A : Option Addr} {n : Nat} {xs : List α} (h : d.C X A n xs) (hS : 0 < n → ∀ ad, A = some ad → ∀ t, S ad.block t) (hk : KeepS S X Y) : d.C Y A n xs := by
  refine ⟨h.1, h.2.1, fun hn => ?_⟩
  obtain ⟨ad, e, hc⟩ := h.2.2 hn
  refine ⟨ad, e, fun j p hp => ?_⟩
  obtain ⟨c, h1, h2, h3⟩ := hc j p hp
  refine ⟨c, h1, hd h2, fun i u hu => cell_keep (h3 i u hu) ?_⟩
  intro c t f hx
  exact hk _ t (by rw [show (ad.add (j * d.sz + i)).block = ad.block by unfold Addr.add; split <;> rfl]; exact hS hn ad e t) c f hx
theorem k41_any {X Y : World} {x : S41} {c : List Value} (h : k41.K X x c) : k41.K Y x c := by
  rw [k41_open h]; exact k41_mk _ _

/-- A candidate, as a value. -/
def candV (x : S41) : Value := .agg #[.int .i64 x.f0, .int .i64 x.f1, .int .u64 x.f2]
/-- The places of a row of so many, the last one first. -/
def downs (n : Nat) : List Nat := (List.range n).reverse
theorem downs_take (n k : Nat) (h : k < n) : (downs n).take (k + 1) = (downs n).take k ++ [n - 1 - k] := by
  unfold downs
  have hl : k < (List.range n).reverse.length := by simpa using h
  rw [List.take_succ_eq_append_getElem hl, List.getElem_reverse, List.getElem_range, List.length_range]
set_option maxRecDepth 100000 in
set_option maxHeartbeats 4000000 in
theorem bw1_in (F : Fence) (n : Nat) (h34 : F.fn 34) (hro : F.round = none) (hn : 1 ≤ n) (l Bs : Nat) (A : Option Addr) (c : Nat) (xs : List S41) (hx : xs.length ≤ 4611686018427387904) (S : Nat → TypeId → Prop) (hS0 : S Bs 22) (hSA : 0 < xs.length → ∀ ad, A = some ad → ∀ t, S ad.block t) (J Jx : List Nat → World → Prop)
    (hY : ∀ (pre : List Nat) (i : Nat) W, J pre W → pre.length < xs.length → YieldAt F (n - 1) Try.prog l #[.int .i64 (i : Int), candV (rd_T41 xs (i : Int))] W fun e W' =>
      (e = .returned (.bool true) ∧ J (pre ++ [i]) W' ∧ KeepS S W W') ∨ (e = .returned (.bool false) ∧ Jx (pre ++ [i]) W'))
    (W : World) (hBs : W.heap[Bs]? = some (.cells #[.slice A xs.length c] 22 (0, 0))) (hC : Kd.C k41 W A xs.length xs) (h0 : J [] W) :
    CallsIn F n Try.prog 34 #[.func (.yield l) #[] #[], .pointer (some ⟨Bs, 0, none⟩)] W fun e W' => (∃ v, e = .returned v) ∧
      ((∃ ys, ys = downs xs.length ∧ J ys W') ∨ (∃ pre, (∃ k, k ≤ xs.length ∧ pre = (downs xs.length).take k) ∧ Jx pre W')) := by
  have h1 : 1 ≤ n := hn
  have hcs : W.cell? ⟨Bs, 0, none⟩ = some (.slice A xs.length c) := (blk_cell hBs 0).trans rfl
  have HBS := Aside0.mk hBs
  have HC := Aside0.mk hC
  clear hBs hC
  refine callsIn_of_wp Try.func34 rfl h34 ?_ hro
  simp only [Try.ntmps34, List.size_toArray, List.length_cons, List.length_nil, Nat.reduceAdd, Nat.reduceSub, Array.replicate_succ, Array.replicate_zero, List.push_toArray, List.append_toArray, List.nil_append, List.cons_append]
  gi_wp2
  gi_loopw [3] (fun v wr => ∃ k : Nat, k ≤ xs.length ∧ v = .int .i64 ((xs.length : Int) - 1 - k) ∧ J ((downs xs.length).take k) wr ∧ wr.heap[Bs]? = some (.cells #[.slice A xs.length c] 22 (0, 0)) ∧ Kd.C k41 wr A xs.length xs) (fun v _ => (intOf v + 1).toNat)
  case atStart => exact ⟨0, Nat.zero_le _, by simp, h0, HBS.out, HC.out⟩
  case round =>
    obtain ⟨k, hk, rfl, hJs, hbs, hC⟩ := hrel
    have hcm : wr.cell? ⟨Bs, 0, none⟩ = some (.slice A xs.length c) := (blk_cell hbs 0).trans rfl
    have HBW := Aside0.mk hbs
    have HCW := Aside0.mk hC
    clear hbs hC
    by_cases hlt : k < xs.length
    · obtain ⟨i, hi⟩ : ∃ i : Nat, i + k + 1 = xs.length := ⟨xs.length - 1 - k, by omega⟩
      have ei : (xs.length : Int) - 1 - (k : Int) = (i : Int) := by omega
      rw [ei]
      have HT := Aside0.mk (downs_take xs.length k hlt)
      rw [show xs.length - 1 - k = i by omega] at HT
      obtain ⟨ad, rfl, x0, x1, x2⟩ := at_T41 HCW.out (i : Int) (by omega) (by omega)
      rw [Int.toNat_natCast] at x0 x1 x2
      have p1 := eq_true (show (0 : Int) ≤ (i : Int) from by omega)
      have p2 := eq_true (show (i : Int) < (xs.length : Int) from by omega)
      obtain ⟨fn, tmps, assign, body, hy, hR⟩ := hY _ i wr hJs (by rw [List.length_take]; unfold downs; simp; omega)
      unfold candV at hy
      have HR := Aside0.mk hR
      clear hR
      generalize rd_T41 xs (i : Int) = x at *
      gi_wp2
      refine HR.out.mono ?_
      rintro e W3 (⟨rfl, hJ3, hk3⟩ | ⟨rfl, hJx3⟩)
      · have HK3 := Aside0.mk hk3
        clear hk3
        gi_wp2
        go_roundw
        case rel => exact ⟨k + 1, by omega, by first | (simp; done) | (simp; omega), by rw [HT.out]; exact hJ3, HK3.out _ _ hS0 _ _ HBW.out, c_keep k41_any HCW.out hSA HK3.out⟩
        case measure => first | (simp [intOf]; done) | (simp [intOf]; omega)
      · gi_wp2
        refine bodyPost_ret (results_none rfl _ _ _) rfl ?_
        exact ⟨⟨_, rfl⟩, .inr ⟨_, ⟨k + 1, by omega, HT.out.symm⟩, hJx3⟩⟩
    · obtain rfl : k = xs.length := by omega
      have en : ¬ ((0 : Int) ≤ (xs.length : Int) - 1 - (xs.length : Int)) := by omega
      gi_wp2
      go_end0
      exact ⟨⟨_, rfl⟩, .inl (by rwa [List.take_of_length_le (by unfold downs; simp)] at hJs)⟩
end Go.Proofs.Ytkhdfbmkikiapaa.Given

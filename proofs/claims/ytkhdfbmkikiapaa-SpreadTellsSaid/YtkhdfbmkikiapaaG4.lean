/- Package spread: Plan. -/
import Derived.Test.YtkhdfbmkikiapaaG3
import Derived.Test.YtkhdfbmkikiapaaPrintF13
import Derived.Test.YtkhdfbmkikiapaaPrintF22
import Derived.Maps.AppendAt
import Derived.Test.YtkhdfbmkikiapaaGR
namespace Go.Proofs.Ytkhdfbmkikiapaa.Given
open Go.RowKit Go.Shelf Go.Proofs.YtkhdfbmkikiapaaW.PrintWords Go.Proofs.Ytkhdfbmkikiapaa.Print Go.Proofs.SeqO
set_option linter.unusedVariables false
set_option linter.unusedSimpArgs false
attribute [local go_sem] Oper.semAt_some
def loadB (n : Int) : Bool := decide (0 ≤ n) && decide (n ≤ 1099511627776)
theorem load_f (n : Int) : spread_load.f n = some (loadB n) := by
  unfold spread_load.f loadB
  split
  · rename_i h; rw [decide_eq_true h, Bool.true_and]
  · rename_i h; rw [decide_eq_false h]; rfl
def gainB (h t x : Int) : Bool := loadB h && (loadB t && (decide (1 ≤ x) && decide (x ≤ wrap64 ((wrap64 (t - h)).tdiv 2))))
theorem gain_f (h t x : Int) : spread_Gain.f h t x = some (gainB h t x) := by
  unfold spread_Gain.f gainB
  simp only [load_f, Option.bind_some]
  cases loadB h
  · rfl
  · cases loadB t
    · rfl
    · by_cases hx : 1 ≤ x
      · rw [if_pos rfl, if_pos rfl, if_pos hx, decide_eq_true hx]; rfl
      · rw [if_pos rfl, if_pos rfl, if_neg hx, decide_eq_false hx]; rfl
theorem cell_block {W : World} {a : Addr} {v : Value} (h : W.cell? a = some v) : a.block < W.heap.size := by
  unfold World.cell? at h
  cases hx : W.heap[a.block]? with
  | none => rw [hx] at h; simp at h
  | some o => exact (Array.getElem?_eq_some_iff.1 hx).1
/-- What has come of some candidates: the loads and who goes. -/
structure PS where
  h : Int
  t : Int
  out : List Int
def stepP (most : Int) (s : PS) (x : S41) : PS := if (s.out.length : Int) = most then s else if gainB s.h s.t x.f1 then ⟨s.h + x.f1, s.t - x.f1, s.out ++ [x.f0]⟩ else s
def runP (most h t : Int) (l : List S41) : PS := l.foldl (stepP most) ⟨h, t, []⟩
theorem runP_snoc (most h t : Int) (l : List S41) (x : S41) : runP most h t (l ++ [x]) = stepP most (runP most h t l) x := by unfold runP; rw [List.foldl_append]; rfl
theorem fold_full (most : Int) (s : PS) (h : (s.out.length : Int) = most) (l : List S41) : l.foldl (stepP most) s = s := by
  induction l with
  | nil => rfl
  | cons x xs ih => rw [List.foldl_cons, show stepP most s x = s by unfold stepP; rw [if_pos h]]; exact ih
theorem run_fix (most h t : Int) (l : List S41) (tc : Int) (is : List Nat) (k : Nat) (pre0 : List S41) (x : S41) (hp : sel l tc (is.take k) = pre0 ++ [x]) (hm : ((runP most h t pre0).out.length : Int) = most) :
    runP most h t (sel l tc is) = runP most h t (sel l tc (is.take k)) := by
  have e : sel l tc is = sel l tc (is.take k) ++ sel l tc (is.drop k) := by
    unfold sel
    rw [← List.map_append, ← List.filter_append, List.take_append_drop]
  have e2 : runP most h t (sel l tc (is.take k)) = runP most h t pre0 := by
    rw [hp, runP_snoc]
    unfold stepP
    rw [if_pos hm]
  rw [e, e2]
  unfold runP at e2 hm ⊢
  rw [List.foldl_append, e2]
  exact fold_full most _ hm _
theorem run_len (most h t : Int) (l : List S41) : (runP most h t l).out.length ≤ l.length := by
  have aux : ∀ (l : List S41) (s : PS), (l.foldl (stepP most) s).out.length ≤ s.out.length + l.length := by
    intro l
    induction l with
    | nil => intro s; exact Nat.le_refl _
    | cons x xs ih =>
      intro s
      rw [List.foldl_cons]
      have h1 := ih (stepP most s x)
      have h2 : (stepP most s x).out.length ≤ s.out.length + 1 := by unfold stepP; split; · omega
                                                                     split <;> simp
      simp only [List.length_cons]
      omega
  have := aux l ⟨h, t, []⟩
  simpa [runP] using this
theorem gain_range {h t x : Int} (hg : gainB h t x = true) : (0 ≤ h ∧ h ≤ 1099511627776) ∧ (0 ≤ t ∧ t ≤ 1099511627776) ∧ 1 ≤ x ∧ x ≤ 1099511627776 := by
  unfold gainB loadB at hg
  simp only [Bool.and_eq_true, decide_eq_true_eq] at hg
  obtain ⟨⟨h0, h1⟩, ⟨t0, t1⟩, x0, x1⟩ := hg
  have e1 : wrap64 (t - h) = t - h := by unfold wrap64; omega
  rw [e1] at x1
  have e2 : wrap64 ((t - h).tdiv 2) ≤ 1099511627776 := by
    have b1 : (t - h).tdiv 2 ≤ 1099511627776 ∧ -1099511627776 ≤ (t - h).tdiv 2 := by
      rcases Int.le_total 0 (t - h) with h2 | h2
      · rw [Int.tdiv_eq_ediv_of_nonneg h2]; omega
      · have h3 : (t - h) = -(h - t) := by omega
        rw [h3, Int.neg_tdiv, Int.tdiv_eq_ediv_of_nonneg (by omega)]; omega
    unfold wrap64; omega
  omega
theorem keepS_own {S : Nat → TypeId → Prop} {X Y : World} {b : Nat} {e : TypeId} {size k : Nat} {v : Value} {xs : List Value} (hr : X.ownsRow b e size v k xs) (hg : X.grownBy Y v.ownBlock) (hS : ∀ g, b ≤ g → ¬ S g e) : KeepS S X Y := by
  rcases hr.2 with ⟨rfl, _⟩ | ⟨g, cap, cur, rfl, hbg, hgb, _⟩
  · exact keepS_row hg (fun r er => by simp [Value.ownBlock] at er)
  · intro k t hkt c f ek
    refine (hg.block k (Array.getElem?_eq_some_iff.1 ek).1 (fun er => ?_)).trans ek
    simp only [Value.ownBlock, Option.some.injEq] at er
    subst er
    rw [hgb] at ek
    injection ek with ek
    injection ek with _ e2 _
    subst e2
    exact hS _ hbg hkt
theorem keepS_box {S : Nat → TypeId → Prop} {X : World} {B : Nat} {t : TypeId} {v : Value} (h : Boxed X B t v) (hS : ¬ S B t) (u : Value) : KeepS S X (X.setCell ⟨B, 0, none⟩ u) := by
  intro k t' hkt c f ek
  refine ((grownBy_setCell' X B u).block k (Array.getElem?_eq_some_iff.1 ek).1 (fun er => ?_)).trans ek
  injection er with er
  subst er
  rw [show X.heap[k]? = _ from h] at ek
  injection ek with ek
  injection ek with _ e2 _
  subst e2
  exact hS hkt
theorem ownsRow_lower {w : World} {b b' : Nat} {e : TypeId} {size : Nat} {v : Value} {n : Nat} {xs : List Value} (h : w.ownsRow b e size v n xs) (hb : b' ≤ b) : w.ownsRow b' e size v n xs := by
  refine ⟨h.1, ?_⟩
  rcases h.2 with h0 | ⟨g, cap, cur, h1, h2, h3⟩
  · exact .inl h0
  · exact .inr ⟨g, cap, cur, h1, Nat.le_trans hb h2, h3⟩
theorem kept_blk {X Y : World} {row : Option Nat} {B : Nat} {o : Obj} (h : X.heap[B]? = some o) (hg : X.grownBy Y row) (hne : some B ≠ row) : Y.heap[B]? = some o := (hg.block B (Array.getElem?_eq_some_iff.1 h).1 hne).trans h
theorem blk_row {W : World} {B : Nat} {cs : Array Value} {t e : TypeId} {f : Nat × Nat} {base size k : Nat} {v : Value} {xs : List Value} (h : W.heap[B]? = some (.cells cs t f)) (hte : t ≠ e) (hr : W.ownsRow base e size v k xs) : some B ≠ v.ownBlock := by
  rcases hr.2 with ⟨rfl, _⟩ | ⟨g, cap, cur, rfl, _, hgb, _⟩
  · simp [Value.ownBlock]
  · intro e'
    obtain rfl : B = g := by simpa [Value.ownBlock] using e'
    have := h.symm.trans hgb
    simp at this
    exact hte this.2.1
theorem box_row {W : World} {B : Nat} {e : TypeId} {base size k : Nat} {v : Value} {xs : List Value} (hb : B < base) (hr : W.ownsRow base e size v k xs) : some B ≠ v.ownBlock := by
  rcases hr.2 with ⟨rfl, _⟩ | ⟨g, cap, cur, rfl, hbg, hgb, _⟩
  · simp [Value.ownBlock]
  · intro e'
    obtain rfl : B = g := by simpa [Value.ownBlock] using e'
    omega
set_option maxRecDepth 100000 in
set_option maxHeartbeats 40000000 in
theorem plan_ok (tc here there most : Int) (A : Option Addr) (c : Nat) (l : List S41) (w : World) (hC : Kd.C k41 w A l.length l) (hl : l.length ≤ 64) (ht0 : 0 ≤ tc) (ht1 : tc < 64) (hh : loadB here = true) (ht : loadB there = true) (hm0 : 0 ≤ most) (hodd : l.any oddW = false)
    (hm2 : ∀ i : Int, 0 ≤ (rd_T41 l i).f2 ∧ (rd_T41 l i).f2 < 18446744073709551616) :
    CallsIn Fence.wide 8 Try.prog 10 #[.int .i64 tc, .int .i64 here, .int .i64 there, .slice A l.length c, .int .i64 most] w fun e w' => ∃ v, e = .returned (.tuple #[v, .int .i64 0]) ∧ w'.ownsRow w.heap.size 3 1 v (runP most here there (sel l tc (downs l.length))).out.length ((runP most here there (sel l tc (downs l.length))).out.map (Value.int .i64)) ∧ Below w.heap.size w w' := by
  have h1 : 1 ≤ 8 := by omega
  have HCON := Aside0.mk (fun W (hb : Below w.heap.size w W) => hodd ▸ contains_any A c l W (Kd.C_below hC hb) (by omega))
  have HLH := Aside0.mk ((load_f here).trans (congrArg some hh))
  have HLT := Aside0.mk ((load_f there).trans (congrArg some ht))
  have HC := Aside0.mk hC
  have HM2 := Aside0.mk hm2
  have HL := Aside0.mk hl
  have HM0 := Aside0.mk hm0
  have d1 : decide (64 < (l.length : Int)) = false := decide_eq_false (by omega)
  have d2 : decide (tc < 0) = false := decide_eq_false (by omega)
  have d3 : decide (64 ≤ tc) = false := decide_eq_false (by omega)
  have d4 : decide (most < 0) = false := decide_eq_false (by omega)
  clear hC hm2 hodd hh ht hl ht0 ht1 hm0
  refine callsIn_of_wp_marks Try.func10 rfl trivial ?_ rfl
  simp only [Try.ntmps10, List.size_toArray, List.length_cons, List.length_nil, Nat.reduceAdd, Nat.reduceSub, Array.replicate_succ, Array.replicate_zero, List.push_toArray, List.append_toArray, List.nil_append, List.cons_append]
  gi_wp2_with (first | (refine ⟨trivial, ?_⟩; gi_at_call 22; refine (callsIn_wide.2 (spread_load.calls here true _ HLH.out)).mono ?_; rintro e w' ⟨rfl, ⟨nd, rfl⟩⟩) | (refine ⟨trivial, ?_⟩; gi_at_call 22; refine (callsIn_wide.2 (spread_load.calls there true _ HLT.out)).mono ?_; rintro e w' ⟨rfl, ⟨nd2, rfl⟩⟩))
  refine ⟨trivial, ?_⟩
  refine (callsIn_wide.2 (HCON.out _ ?side)).mono ?_
  case side => repeat (first | exact Below.refl _ _ | apply below_alloc | apply pw_below_drewN)
  rintro e w5 ⟨rfl, hb⟩
  have HB5 : Aside0 (Below w.heap.size w w5) := Aside0.mk (below_step (by repeat (first | exact Below.refl _ _ | apply below_alloc | apply pw_below_drewN)) hb)
  have k0 : w5.heap[w.heap.size]? = some (.cells #[.int .i64 here] 3 (0, 0)) := blk_below (blk_drewN (blk_alloc (blk_alloc (blk_new _ _) _) _) _) hb
  have k1 : w5.heap[w.heap.size + 1]? = some (.cells #[.int .i64 there] 3 (0, 0)) := by
    have h_ := blk_new (w.alloc (.cells #[.int .i64 here] 3)) (.cells #[.int .i64 there] 3)
    rw [World.size_alloc] at h_
    exact blk_below (blk_drewN (blk_alloc h_ _) _) hb
  have k2 : w5.heap[w.heap.size + 1 + 1]? = some (.cells #[.int .i64 most] 3 (0, 0)) := by
    have h_ := blk_new ((w.alloc (.cells #[.int .i64 here] 3)).alloc (.cells #[.int .i64 there] 3)) (.cells #[.int .i64 most] 3)
    rw [World.size_alloc, World.size_alloc] at h_
    exact blk_below (blk_drewN h_ _) hb
  have hz5 : w.heap.size + 3 ≤ w5.heap.size := by have := hb.size; simp at this; omega
  have HZ5 := Aside0.mk hz5
  clear hb hz5
  have K0 := Aside0.mk k0
  have K1 := Aside0.mk k1
  have K2 := Aside0.mk k2
  clear k0 k1 k2
  gi_wp2
  refine ⟨trivial, ?_⟩
  refine (back_in Fence.wide 7 trivial rfl A l.length c tc _).mono ?_
  rintro e w' ⟨rfl, rfl⟩
  gi_wp2
  obtain ⟨W8, hW8⟩ : ∃ W8, ((w5.alloc (.cells #[.slice none 0 0] 26)).alloc (.cells #[.slice A l.length c] 22)).alloc (.cells #[.int .i64 tc] 3) = W8 := ⟨_, rfl⟩
  have hB8 : Below w5.heap.size w5 W8 := by rw [← hW8]; exact below_alloc (below_alloc (below_alloc (Below.refl _ _) _) _) _
  have hz8 : W8.heap.size = w5.heap.size + 3 := by rw [← hW8]; simp
  have kO : Boxed W8 w5.heap.size 26 (.slice none 0 0) := by rw [← hW8]; exact blk_alloc (blk_alloc (blk_new _ _) _) _
  have kS : W8.heap[w5.heap.size + 1]? = some (.cells #[.slice A l.length c] 22 (0, 0)) := by
    rw [← hW8]; have h_ := blk_new (w5.alloc (.cells #[.slice none 0 0] 26)) (.cells #[.slice A l.length c] 22); rw [World.size_alloc] at h_; exact blk_alloc h_ _
  have kT : W8.heap[w5.heap.size + 1 + 1]? = some (.cells #[.int .i64 tc] 3 (0, 0)) := by
    rw [← hW8]; have h_ := blk_new ((w5.alloc (.cells #[.slice none 0 0] 26)).alloc (.cells #[.slice A l.length c] 22)) (.cells #[.int .i64 tc] 3); rw [World.size_alloc, World.size_alloc] at h_; exact h_
  have kh : Boxed W8 w.heap.size 3 (.int .i64 here) := blk_below K0.out hB8
  have kt : Boxed W8 (w.heap.size + 1) 3 (.int .i64 there) := blk_below K1.out hB8
  have km : Boxed W8 (w.heap.size + 1 + 1) 3 (.int .i64 most) := blk_below K2.out hB8
  have HBW := Aside0.mk (below_step HB5.out hB8)
  have HC8 := Aside0.mk (Kd.C_below HC.out HBW.out)
  have HZ8 := Aside0.mk hz8
  have hz5 := HZ5.out
  rw [hW8]
  clear hW8 hB8
  refine wpIn_rangeFunc_ownO rfl h1 (gf := 29) (lb := #[.pointer (some ⟨w5.heap.size + 1, 0, none⟩), .pointer (some ⟨w5.heap.size + 1 + 1, 0, none⟩)]) rfl trivial (enters_of Try.func29 (by kernel_rfl) rfl)
    (back1_in Fence.wide 7 4 trivial trivial trivial trivial trivial rfl (by omega) rfl (w5.heap.size + 1) (w5.heap.size + 1 + 1) A c tc l (by have := HL.out; omega) HM2.out
      (fun k t => t = 22 ∨ t = 41 ∨ t = 45 ∨ k = w5.heap.size + 1 + 1 ∨ k < w.heap.size) (fun _ => .inl rfl) (fun _ => .inr (.inl rfl)) (fun _ => .inr (.inr (.inl rfl))) (.inr (.inr (.inr (.inl rfl)))) ?hSA W8 kS kT HC8.out)
    keepS_t (fun W l o o' _ hl ho _ => keepS_put W l o o' hl ho) (Below.refl _ _) (fun _ => rfl)
    (fun pre W => ((Boxed W w.heap.size 3 (.int .i64 (runP most here there pre).h) ∧ Boxed W (w.heap.size + 1) 3 (.int .i64 (runP most here there pre).t)) ∧ Boxed W (w.heap.size + 1 + 1) 3 (.int .i64 most)) ∧ (∃ v, Boxed W w5.heap.size 26 v ∧ W.ownsRow W8.heap.size 3 1 v (runP most here there pre).out.length ((runP most here there pre).out.map (Value.int .i64)) ∧ True) ∧ Below w.heap.size w W)
    (fun d pre W => (d = .exit 1 ∧ True) ∧ (∃ pre0 x, pre = pre0 ++ [x] ∧ (((runP most here there pre0).out.length : Int) = most)) ∧ (∃ v, Boxed W w5.heap.size 26 v ∧ W.ownsRow W8.heap.size 3 1 v (runP most here there pre).out.length ((runP most here there pre).out.map (Value.int .i64)) ∧ True) ∧ Below w.heap.size w W)
    ?hI ?hIx ?h0 (fun x a' W => ∃ Bx, w5.heap.size < Bx ∧ W.heap[Bx]? = some (.cells (candC x) 41 (0, 0)) ∧ a' = { tmps := #[.int .i64 tc, .int .i64 here, .int .i64 there, .slice A l.length c, .int .i64 most, undef, .pointer (some ⟨w.heap.size, 0, none⟩), .pointer (some ⟨w.heap.size + 1, 0, none⟩), undef, .pointer (some ⟨w.heap.size + 1 + 1, 0, none⟩), .slice none 0 0, .int .i64 0, .func (.func 21) #[] #[], .pointer (some ⟨w5.heap.size, 0, none⟩), .pointer (some ⟨Bx, 0, none⟩), .bool false, .slice A l.length c, .int .i64 l.length, .bool false, .bool false, .int .i64 tc, .bool false, .bool false, .int .i64 tc, .bool false, .bool false, .bool false, .int .i64 here, .bool true, .bool false, .bool false, .bool false, .int .i64 there, .bool true, .bool false, .bool false, .bool false, .int .i64 most, .bool false, .bool false, .bool false, .slice A l.length c, .func (.func 21) #[] #[], .bool false, .bool false, .slice A l.length c, .int .i64 tc, .func (.func 29) #[] #[.pointer (some ⟨w5.heap.size + 1, 0, none⟩), .pointer (some ⟨w5.heap.size + 1 + 1, 0, none⟩)], candV x, undef, undef, undef, undef, undef, undef, undef, undef, undef, undef, undef, undef, undef, undef, undef, undef, undef, undef, undef, undef, undef, undef, undef], defers := [] })
    ?hAx ?assign ?body ?done ?stop
  case hSA =>
    rintro hn ad rfl t
    obtain ⟨ad', e, x0, _⟩ := at_T41 HC.out 0 (by omega) (by omega)
    injection e with e
    subst e
    have := cell_block x0
    refine .inr (.inr (.inr (.inr ?_)))
    rwa [show (ad.add ((0 : Int).toNat * 3)).block = ad.block by unfold Addr.add; split <;> rfl] at this
  case hI => exact OwnFrom.and (OwnFrom.and (OwnFrom.and (Own.from (boxed_own _ _ _) _) (Own.from (boxed_own _ _ _) _)) (Own.from (boxed_own _ _ _) _)) (OwnFrom.and (Own.from (holdsRow_own W8.heap.size w5.heap.size 26 3 1 (fun pre => (runP most here there pre).out.length) (fun pre => (runP most here there pre).out.map (Value.int .i64)) (fun pre v => True)) _) (ownFrom_below (Nat.le_refl _) (by omega)))
  case hIx => exact fun d => OwnFrom.and (fun _ _ _ _ hs _ _ => hs) (OwnFrom.and (fun _ _ _ _ hs _ _ => hs) (OwnFrom.and (Own.from (holdsRow_own W8.heap.size w5.heap.size 26 3 1 (fun pre => (runP most here there pre).out.length) (fun pre => (runP most here there pre).out.map (Value.int .i64)) (fun pre v => True)) _) (ownFrom_below (Nat.le_refl _) (by omega))))
  case h0 => exact ⟨⟨⟨kh, kt⟩, km⟩, ⟨_, kO, World.ownsRow_nil _ _ _ _, trivial⟩, HBW.out⟩
  case hAx => exact fun x a' _ X Y row hs hg hr => by obtain ⟨Bx, h0, h1, h2⟩ := hs; exact ⟨Bx, h0, keepS_grown (S := fun _ _ => True) hg (fun r e => (hr r e).2) Bx 41 trivial _ _ h1, h2⟩
  case assign =>
    rintro l1 pre x W1 K ⟨⟨⟨bh, bt⟩, bm⟩, ⟨v, bo, hrow, _⟩, hB⟩ hK
    unfold candV at hK ⊢
    gi_wp2
    exact hK _ _ ((KeepsOthers.alloc _ _).from _) (keepS_row (World.grownBy_alloc _ _ none) (fun r e => by cases e)) ⟨⟨⟨bh.alloc _, bt.alloc _⟩, bm.alloc _⟩, ⟨v, bo.alloc _, hrow.alloc _, trivial⟩, hB.alloc hB.size _⟩ ⟨W1.heap.size, bo.lt, blk_new _ _, rfl⟩
  case done =>
    rintro D ys W hD rfl ⟨_, ⟨v, hv, hrow, _⟩, hB⟩ hK
    have hc := hv.cell
    gi_wp2
    refine ⟨by simp, .inl ⟨_, _, rfl, run_takeDeferred hK, ?_⟩⟩
    have h_ := ownsRow_putObj hrow (.deferred none) hK rfl
    refine ⟨.tuple #[v, .int .i64 0], ?_, v, rfl, ownsRow_lower h_ (by have := HBW.out.size; omega), hB.trans (belowK_b (w := w) (Nat.le_refl _) W D _ _ (by have := HBW.out.size; omega) hK rfl rfl)⟩
    simp [results, Try.f10, go_sem]
  case stop =>
    rintro D d pre W hD ⟨k, hk, rfl⟩ ⟨⟨rfl, _⟩, ⟨pre0, x, hpre, hmost⟩, ⟨v, hv, hrow, _⟩, hB⟩ hK
    have hc := hv.cell
    have hfix : (runP most here there (sel l tc (downs l.length))).out = (runP most here there (sel l tc ((downs l.length).take k))).out := by rw [run_fix most here there l tc (downs l.length) k pre0 x hpre hmost]
    have HF := Aside0.mk hfix
    clear hfix hpre hmost
    gi_wp2
    refine ⟨by simp, .inl ⟨_, _, rfl, run_takeDeferred hK, ?_⟩⟩
    have h_ := ownsRow_putObj hrow (.deferred none) hK rfl
    refine ⟨.tuple #[v, .int .i64 0], ?_, v, rfl, by rw [HF.out]; exact ownsRow_lower h_ (by have := HBW.out.size; omega), hB.trans (belowK_b (w := w) (Nat.le_refl _) W D _ _ (by have := HBW.out.size; omega) hK rfl rfl)⟩
    simp [results, Try.f10, go_sem]
  case body =>
    rintro l1 pre x a' W hl ⟨rr, hrr⟩ ⟨⟨⟨bh, bt⟩, bm⟩, ⟨v, bo, hrow, _⟩, hB⟩ ⟨Bx, hBx, kX, rfl⟩ hlt
    have hW8 : W8.heap.size ≤ W.heap.size := by have := (Array.getElem?_eq_some_iff.1 hrr).1; omega
    clear hrr
    have h1' : 1 ≤ 4 := by omega
    have hsn := runP_snoc most here there pre x
    obtain ⟨f0, f1, f2⟩ := x
    obtain ⟨s, hs⟩ : ∃ s, runP most here there pre = s := ⟨_, rfl⟩
    rw [hs] at bh bt hrow hsn
    obtain ⟨sh, st, so⟩ := s
    have HS := Aside0.mk hs
    have HSN := Aside0.mk hsn
    clear hs hsn
    simp only at bh bt hrow
    obtain ⟨A3, c3, rfl⟩ : ∃ A3 c3, v = .slice A3 so.length c3 := Kd.R_slice (Kd.R_of_own (h1 := fun _ => rfl) (ok := fun _ => True) hrow (fun _ _ => trivial))
    have ch := bh.cell
    have ct := bt.cell
    have cm := bm.cell
    have co := bo.cell
    have fh := bh.frozen
    have ft := bt.frozen
    have c0 : W.cell? ⟨Bx, 0, none⟩ = some (.int .i64 f0) := (blk_cell kX 0).trans rfl
    have c1 : W.cell? ⟨Bx, 1, none⟩ = some (.int .i64 f1) := (blk_cell kX 1).trans rfl
    have KX := Aside0.mk kX
    clear kX
    unfold candV
    by_cases hmo : (so.length : Int) = most
    · have hd : ((so.length : Int) == most) = true := by rw [hmo]; exact beq_self_eq_true _
      have HMO := Aside0.mk hmo
      gi_wp2
      have e : (runP most here there (pre ++ [⟨f0, f1, f2⟩])).out = so := by rw [HSN.out]; unfold stepP; rw [if_pos HMO.out]
      exact ⟨KeepsFrom.refl _ _, ⟨rfl, trivial⟩, ⟨pre, _, rfl, by rw [HS.out]; exact HMO.out⟩, ⟨_, bo, by rw [e]; exact hrow, trivial⟩, hB⟩
    · have hd : ((so.length : Int) == most) = false := beq_eq_false_iff_ne.mpr hmo
      have HMO := Aside0.mk hmo
      clear hmo
      cases hg : gainB sh st f1
      · have HG := Aside0.mk ((gain_f sh st f1).trans (congrArg some hg))
        have e : runP most here there (pre ++ [⟨f0, f1, f2⟩]) = ⟨sh, st, so⟩ := by
          rw [HSN.out]; unfold stepP; rw [if_neg HMO.out]; simp only [hg]; rw [if_neg (by decide)]
        have HE := Aside0.mk e
        clear hg e
        gi_wp2_with (refine ⟨trivial, ?_⟩; gi_at_call 13; refine (CallsIn.inRound l1 (callsIn_wide.2 (spread_Gain.calls sh st f1 false _ HG.out))).mono ?_; rintro e w' ⟨rfl, ⟨nd, rfl⟩⟩)
        have hg_ : W.grownBy (W.drewN nd) none := ⟨rfl, rfl, rfl, Nat.le_refl _, fun _ _ _ => rfl⟩
        exact ⟨KeepsFrom.of_grownBy hg_ (fun j e => by cases e), keepS_row hg_ (fun r e => by cases e), ⟨⟨by rw [HE.out]; exact bh.kept hg_ (by simp), by rw [HE.out]; exact bt.kept hg_ (by simp)⟩, bm.kept hg_ (by simp)⟩, ⟨_, bo.kept hg_ (by simp), by rw [HE.out]; exact hrow, trivial⟩, pw_below_drewN hB nd⟩
      · have HG := Aside0.mk ((gain_f sh st f1).trans (congrArg some hg))
        have e : runP most here there (pre ++ [⟨f0, f1, f2⟩]) = ⟨sh + f1, st - f1, so ++ [f0]⟩ := by
          rw [HSN.out]; unfold stepP; rw [if_neg HMO.out]; simp only [hg]; rw [if_pos trivial]
        have HE := Aside0.mk e
        obtain ⟨⟨rh0, rh1⟩, ⟨rt0, rt1⟩, rx0, rx1⟩ := gain_range hg
        have wr1 : IntKind.i64.wrap (sh + f1) = sh + f1 := by simp [IntKind.wrap, IntKind.bits, IntKind.signed]; omega
        have wr2 : IntKind.i64.wrap (st - f1) = st - f1 := by simp [IntKind.wrap, IntKind.bits, IntKind.signed]; omega
        have hlen : so.length + 1 ≤ 64 := by
          have := run_len most here there pre
          rw [HS.out] at this
          simp only at this
          have := HL.out
          omega
        clear hg e rh0 rh1 rt0 rt1 rx0 rx1
        obtain ⟨i0, hi, hz0, hz1, hz2⟩ := info_parts info3
        have h3u : Try.prog.underlying 26 = some (.slice 3) := Try.underlying26
        have hz8' := HZ8.out
        have ho1 : ∀ u ∈ [Value.int .i64 f0], u.oneCell' = true := by simp [Value.oneCell']
        have hlm : so.length + 1 ≤ maxLen := by unfold maxLen; omega
        have hlb : (so.length + 1) * 8 ≤ 140737488355328 := by omega
        have q0 : w.heap.size < W8.heap.size := by omega
        have q1 : w.heap.size + 1 < W8.heap.size := by omega
        have q2 : w.heap.size + 1 + 1 < W8.heap.size := by omega
        gi_wp2_with (first | (refine ⟨trivial, ?_⟩; gi_at_call 13; refine (CallsIn.inRound l1 (callsIn_wide.2 (spread_Gain.calls sh st f1 true _ HG.out))).mono ?_; rintro e Wg ⟨rfl, ⟨nd, rfl⟩⟩; have hg_ : W.grownBy (W.drewN nd) none := ⟨rfl, rfl, rfl, Nat.le_refl _, fun _ _ _ => rfl⟩; have bh2 := bh.kept hg_ (by simp); have bt2 := bt.kept hg_ (by simp); have bm2 := bm.kept hg_ (by simp); have bo2 := bo.kept hg_ (by simp); have kX2 : (W.drewN nd).heap[Bx]? = some (.cells (candC ⟨f0, f1, f2⟩) 41 (0, 0)) := KX.out; have hrow2 : (W.drewN nd).ownsRow W8.heap.size 3 1 (.slice A3 so.length c3) so.length (so.map (Value.int .i64)) := hrow) | (gi_at_builtin; refine wpListIn_append_own _ rfl _ _ 26 rfl W8.heap.size 3 i0 (.int .i64 0) 1 8 h3u hi hz0 hz1 hz2 rfl (by decide) (.slice A3 so.length c3) _ _ rfl (hrow2.alloc _) ⟨W.heap.size, 0, none⟩ 1 1 [.int .i64 f0] rfl rfl (cell_one_new (W.drewN nd) _ _) ho1 hlm hlb (by rw [World.size_alloc]; exact Nat.le_succ_of_le hW8) ?_; intro v' w1 hown' hgrow _; obtain ⟨g', cap', rfl⟩ := ownsRow_succ hown'; have bo3 := (bo2.alloc _).kept hgrow (bo2.not_row (by decide) hrow2); have bh3 := (bh2.alloc _).kept hgrow (box_row q0 hrow2); have bt3 := (bt2.alloc _).kept hgrow (box_row q1 hrow2); have bm3 := (bm2.alloc _).kept hgrow (box_row q2 hrow2); have kX3 := kept_blk (blk_alloc kX2 _) hgrow (blk_row kX2 (by decide) hrow2); have hc3 := bo3.cell; have hf3 := bo3.frozen))
        have hdr : Below w.heap.size w (W.drewN nd) := pw_below_drewN hB nd
        obtain ⟨w2, hw2⟩ : ∃ w2, w1.setCell ⟨w5.heap.size, 0, none⟩ (.slice (some ⟨g', 0, none⟩) (so.length + 1) cap') = w2 := ⟨_, rfl⟩
        have bo4 : Boxed w2 w5.heap.size 26 (.slice (some ⟨g', 0, none⟩) (so.length + 1) cap') := hw2 ▸ bo3.set _
        have n0 : w.heap.size ≠ w5.heap.size := by omega
        have n1 : w.heap.size + 1 ≠ w5.heap.size := by omega
        have n2 : w.heap.size + 1 + 1 ≠ w5.heap.size := by omega
        have n3 : Bx ≠ w5.heap.size := by omega
        have bh4 : Boxed w2 w.heap.size 3 (.int .i64 sh) := hw2 ▸ bh3.other n0 _
        have bt4 : Boxed w2 (w.heap.size + 1) 3 (.int .i64 st) := hw2 ▸ bt3.other n1 _
        have bm4 : Boxed w2 (w.heap.size + 1 + 1) 3 (.int .i64 most) := hw2 ▸ bm3.other n2 _
        have hr4 : w2.ownsRow W8.heap.size 3 1 (.slice (some ⟨g', 0, none⟩) (so.length + 1) cap') (so.length + 1) (so.map (Value.int .i64) ++ [.int .i64 f0]) := hw2 ▸ hown'.kept (grownBy_setCell' w1 w5.heap.size _) (.inr (bo3.not_row (by decide) hown').symm)
        have kX4 : w2.heap[Bx]? = some (.cells (candC ⟨f0, f1, f2⟩) 41 (0, 0)) := hw2 ▸ kept_blk kX3 (grownBy_setCell' w1 w5.heap.size _) (fun e => n3 (by injection e))
        have hkf : KeepsFrom W8.heap.size W w2 := by
          rw [← hw2]
          refine KeepsFrom.trans (KeepsFrom.of_grownBy (row := none) hg_ (fun j e => by cases e)) (KeepsOthers.from ?_ _)
          refine ((KeepsOthers.alloc _ _).trans (KeepsOthers.of_grownBy hgrow fun j o ej hj => ?_)).trans (KeepsOthers.setCell _ _ _)
          rcases (hrow2.alloc (.cells #[.int .i64 f0] 3)).2 with ⟨e0, _⟩ | ⟨g, cap, cur, e0, _, hgb, _⟩
          · rw [e0] at ej; simp [Value.ownBlock] at ej
          · rw [e0] at ej
            obtain rfl : g = j := by simpa [Value.ownBlock] using ej
            rw [hgb] at hj; cases hj; rfl
        have hks : KeepS (fun k t => t = 22 ∨ t = 41 ∨ t = 45 ∨ k = w5.heap.size + 1 + 1 ∨ k < w.heap.size) W w2 := by
          rw [← hw2]
          refine keepS_t (keepS_t (keepS_t (keepS_row (row := none) hg_ (fun r e => by cases e)) (keepS_row (World.grownBy_alloc _ (.cells #[.int .i64 f0] 3) none) (fun r e => by cases e))) (keepS_own (hrow2.alloc _) hgrow (fun g hb => by simp; omega))) (keepS_box bo3 (by simp; omega) _)
        have hbw : Below w.heap.size w w2 := by
          rw [← hw2]
          refine ((hdr.alloc hdr.size _).grown hgrow (by rw [World.size_alloc]; exact Nat.le_succ_of_le hdr.size) fun j ej => ?_).setCell (p := ⟨w5.heap.size, 0, none⟩) (by show w.heap.size ≤ w5.heap.size; omega) _
          rcases hrow2.2 with ⟨e0, _⟩ | ⟨g, cap, cur, e0, hb, _, _⟩
          · rw [e0] at ej; simp [Value.ownBlock] at ej
          · rw [e0] at ej
            obtain rfl : g = j := by simpa [Value.ownBlock] using ej
            omega
        have gh := bh4.cell
        have gt := bt4.cell
        have gfh := bh4.frozen
        have gft := bt4.frozen
        have gx : w2.cell? ⟨Bx, 1, none⟩ = some (.int .i64 f1) := (blk_cell kX4 1).trans rfl
        have hmix : Try.prog.follows .mixedOrders = true := by kernel_rfl
        rw [hw2]
        clear hw2 hown' hgrow bo3 bh3 bt3 bm3 kX3 hc3 hf3 hdr bh2 bt2 bm2 bo2 hrow2 kX2 hg_ ch ct cm co fh ft c0 c1 bh bt bo hrow bm
        have m01 : w.heap.size + 1 ≠ w.heap.size := by omega
        have m10 : w.heap.size ≠ w.heap.size + 1 := by omega
        have m21 : w.heap.size + 1 + 1 ≠ w.heap.size := by omega
        have m22 : w.heap.size + 1 + 1 ≠ w.heap.size + 1 := by omega
        have mx0 : Bx ≠ w.heap.size := by omega
        have mo0 : w5.heap.size ≠ w.heap.size := by omega
        have mo1 : w5.heap.size ≠ w.heap.size + 1 := by omega
        have eh : Boxed w2.drew w.heap.size 3 (.int .i64 sh) := bh4
        have et : Boxed w2.drew (w.heap.size + 1) 3 (.int .i64 st) := bt4
        have em : Boxed w2.drew (w.heap.size + 1 + 1) 3 (.int .i64 most) := bm4
        have eo : Boxed w2.drew w5.heap.size 26 (.slice (some ⟨g', 0, none⟩) (so.length + 1) cap') := bo4
        have er : w2.drew.ownsRow W8.heap.size 3 1 (.slice (some ⟨g', 0, none⟩) (so.length + 1) cap') (so.length + 1) (so.map (Value.int .i64) ++ [.int .i64 f0]) := hr4
        have ex : w2.drew.heap[Bx]? = some (.cells (candC ⟨f0, f1, f2⟩) 41 (0, 0)) := kX4
        obtain ⟨w3, hw3⟩ : ∃ w3, w2.drew.setCell ⟨w.heap.size, 0, none⟩ (.int .i64 (sh + f1)) = w3 := ⟨_, rfl⟩
        have g3 : w2.drew.grownBy w3 (some w.heap.size) := hw3 ▸ grownBy_setCell' _ _ _
        have fh3 : Boxed w3 w.heap.size 3 (.int .i64 (sh + f1)) := hw3 ▸ eh.set _
        have ft3 : Boxed w3 (w.heap.size + 1) 3 (.int .i64 st) := hw3 ▸ et.other m01 _
        have fm3 : Boxed w3 (w.heap.size + 1 + 1) 3 (.int .i64 most) := hw3 ▸ em.other m21 _
        have fo3 : Boxed w3 w5.heap.size 26 (.slice (some ⟨g', 0, none⟩) (so.length + 1) cap') := hw3 ▸ eo.other mo0 _
        have fr3 : w3.ownsRow W8.heap.size 3 1 (.slice (some ⟨g', 0, none⟩) (so.length + 1) cap') (so.length + 1) (so.map (Value.int .i64) ++ [.int .i64 f0]) := er.kept g3 (.inr (box_row q0 er).symm)
        have fx3 : w3.heap[Bx]? = some (.cells (candC ⟨f0, f1, f2⟩) 41 (0, 0)) := kept_blk ex g3 (fun e => mx0 (by injection e))
        obtain ⟨w4, hw4⟩ : ∃ w4, w3.setCell ⟨w.heap.size + 1, 0, none⟩ (.int .i64 (st - f1)) = w4 := ⟨_, rfl⟩
        have g4 : w3.grownBy w4 (some (w.heap.size + 1)) := hw4 ▸ grownBy_setCell' _ _ _
        have fh4 : Boxed w4 w.heap.size 3 (.int .i64 (sh + f1)) := hw4 ▸ fh3.other m10 _
        have ft4 : Boxed w4 (w.heap.size + 1) 3 (.int .i64 (st - f1)) := hw4 ▸ ft3.set _
        have fm4 : Boxed w4 (w.heap.size + 1 + 1) 3 (.int .i64 most) := hw4 ▸ fm3.other m22 _
        have fo4 : Boxed w4 w5.heap.size 26 (.slice (some ⟨g', 0, none⟩) (so.length + 1) cap') := hw4 ▸ fo3.other mo1 _
        have fr4 : w4.ownsRow W8.heap.size 3 1 (.slice (some ⟨g', 0, none⟩) (so.length + 1) cap') (so.length + 1) (so.map (Value.int .i64) ++ [.int .i64 f0]) := fr3.kept g4 (.inr (box_row q1 fr3).symm)
        have hkf4 : KeepsFrom W8.heap.size W w4 := (((hkf.trans ((KeepsOthers.drew w2).from _)).trans (KeepsFrom.of_grownBy g3 (fun j e => by injection e with e; omega)))).trans (KeepsFrom.of_grownBy g4 (fun j e => by injection e with e; omega))
        have hks4 : KeepS (fun k t => t = 22 ∨ t = 41 ∨ t = 45 ∨ k = w5.heap.size + 1 + 1 ∨ k < w.heap.size) W w4 := by
          refine keepS_t hks (keepS_t (keepS_row (row := none) (Y := w2.drew) ⟨rfl, rfl, rfl, Nat.le_refl _, fun _ _ _ => rfl⟩ (fun r e => by cases e)) (keepS_t (Y := w3) ?_ ?_))
          · rw [← hw3]; exact keepS_box eh (by simp; omega) _
          · rw [← hw4]; exact keepS_box ft3 (by simp; omega) _
        have hbw4 : Below w.heap.size w w4 := by
          rw [← hw4, ← hw3]
          exact (((hbw.trans ⟨rfl, rfl, rfl, Nat.le_refl _, fun _ _ => rfl⟩ : Below w.heap.size w w2.drew).setCell (p := ⟨w.heap.size, 0, none⟩) (Nat.le_refl _) _)).setCell (p := ⟨w.heap.size + 1, 0, none⟩) (Nat.le_succ _) _
        refine wpIn_region_any_round (F := Fence.wide) rfl l1 (noDefer_of (by kernel_rfl)) hmix ?_
        refine region_addsub (hb := w.heap.size) (tb := w.heap.size + 1) (xb := Bx) (h := sh) (t := st) (x := f1) (w2 := w2.drew) (w3 := w3) (w4 := w4) rfl rfl ⟨rfl, rfl, rfl, rfl⟩ ⟨rfl, rfl, rfl, rfl⟩ ⟨rfl, rfl, rfl, rfl⟩ ⟨rfl, rfl, rfl, rfl⟩ ⟨rfl, rfl, rfl, rfl⟩ ⟨rfl, rfl, rfl, rfl⟩ ⟨rfl, rfl, rfl, rfl⟩ ⟨rfl, rfl, rfl, rfl⟩ ⟨rfl, rfl, rfl, rfl⟩ ⟨rfl, rfl, rfl, rfl⟩
          (fun l hr => dep_of rfl ⟨1, .data⟩ (by simp) rfl hr) (fun l hr => dep_of rfl ⟨0, .data⟩ (by simp) rfl hr) (fun l hr => dep_of rfl ⟨2, .data⟩ (by simp) rfl hr) (fun l hr => dep_of rfl ⟨5, .data⟩ (by simp) rfl hr) (fun l hr => dep_of rfl ⟨4, .data⟩ (by simp) rfl hr) (fun l hr => dep_of rfl ⟨6, .data⟩ (by simp) rfl hr)
          (fun l hr => dep_of rfl ⟨3, .data⟩ (by simp) rfl hr) (fun l hr => dep_of rfl ⟨7, .data⟩ (by simp) rfl hr) (fun l hr => dep_of rfl ⟨8, .chain⟩ (by simp) rfl hr) (down_of (by kernel_rfl)) wr1 wr2 gh gfh gt ft3.cell ft3.frozen gx ((blk_cell fx3 1).trans rfl) hw3 hw4 (fun a => ?_) rfl rfl rfl rfl
        refine ⟨hkf4, hks4, ⟨⟨by rw [HE.out]; exact fh4, by rw [HE.out]; exact ft4⟩, fm4⟩, ⟨_, fo4, by rw [HE.out]; simpa using fr4, trivial⟩, hbw4⟩
end Go.Proofs.Ytkhdfbmkikiapaa.Given

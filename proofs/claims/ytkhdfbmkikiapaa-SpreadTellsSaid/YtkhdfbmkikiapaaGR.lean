/- A region of a round that draws its order and takes one from the other ('a, b = a + n, b - n'). -/
import Derived.Test.YtkhdfbmkikiapaaG3
import Derived.Shelf.RegionOpen
namespace Go.Proofs.Ytkhdfbmkikiapaa.Given
open Go.RowKit
theorem uponIn_round {F : Fence} (l : Nat) {n : Nat} {P : Program} {o : Oper} {a : Act} {K : Act → World → Prop} {Q : Exit → Act → World → Prop} {r : Result Next} (h : o.uponIn F n P a K Q r) : o.uponIn (F.inRound l) n P a K Q r := by
  cases r with
  | ok x w => cases x <;> exact h
  | halt x w => cases x <;> exact h
theorem opIn_round {F : Fence} (hro : F.round = none) (l : Nat) {n : Nat} {P : Program} {o : Oper} (hd : ∀ c, o.op ≠ .defer c) {a : Act} {w : World} {K : Act → World → Prop} {Q : Exit → Act → World → Prop} (h : o.wpIn F n P a w K Q) : o.wpIn (F.inRound l) n P a w K Q := by
  unfold Oper.wpIn at h ⊢
  refine ⟨h.1, ?_⟩
  have h2 := uponIn_round l h.2
  rw [hro] at h2
  rw [Fence.inRound_round, Oper.semAt_some l _ _ hd]
  exact h2
theorem opsIn_round {F : Fence} (hro : F.round = none) (k : Nat) {n : Nat} {P : Program} {ops : Array Oper} {Q : Exit → Act → World → Prop} (hd : ∀ (i : Nat) (o : Oper), ops[i]? = some o → ∀ c, o.op ≠ Op.defer c) : ∀ (l : List Nat) (a : Act) (w : World), wpOpsIn F n P ops Q l a w → wpOpsIn (F.inRound k) n P ops Q l a w := by
  intro l
  induction l with
  | nil => exact fun a w h => h
  | cons i rest ih =>
    intro a w h
    unfold wpOpsIn at h ⊢
    cases ho : ops[i]? with
    | none => rw [ho] at h; exact ih _ _ h
    | some o =>
      rw [ho] at h
      simp only at h ⊢
      split
      · rename_i hw
        rw [if_pos hw] at h
        exact opIn_round hro k (hd i o ho) (Oper.wpIn_mono ih h)
      · rename_i hw
        rw [if_neg hw] at h
        exact ⟨h.1, ih _ _ h.2⟩
theorem wpIn_region_any_round {F : Fence} (hro : F.round = none) (k : Nat) {n : Nat} {P : Program} {ops : Array Oper} {Q : Exit → Act → World → Prop} {id : Nat} {a : Act} {w : World}
    (hd : ∀ (i : Nat) (o : Oper), ops[i]? = some o → ∀ c, o.op ≠ Op.defer c) (hm : P.follows .mixedOrders = true)
    (h : wpAnyIn F n P .any ops Q ops.size (Array.replicate ops.size false) a w.drew) : (Code.region id ops true).wpIn (F.inRound k) n P Q a w :=
  wpIn_region_draw fun t => by
    simp only [Region.schedule, hm, Bool.true_or, if_true]
    exact opsIn_round hro k hd _ _ _ (wpAnyIn_sound ops.size t _ a _ h)
theorem count_set : ∀ (l : List Bool) (i : Nat), l[i]? = some false → (l.set i true).count false + 1 = l.count false := by
  intro l
  induction l with
  | nil => intro i h; simp at h
  | cons b l ih =>
    intro i h
    cases i with
    | zero =>
      simp only [List.getElem?_cons_zero, Option.some.injEq] at h
      subst h
      simp
    | succ i =>
      simp only [List.getElem?_cons_succ] at h
      have := ih i h
      simp only [List.set_cons_succ, List.count_cons]
      omega
theorem wpAnyIn_inv {F : Fence} {n : Nat} {P : Program} {md : Region.Mode} {ops : Array Oper} {Q : Exit → Act → World → Prop} (J : Array Bool → Act → World → Prop)
    (hstep : ∀ (l : Array Bool) (a : Act) (w : World) (i : Nat), J l a w → i < l.size → l.getD i false = false → i ∈ Region.ready md ops l → wpOpIn F n P ops Q i (fun a' w' => J (l.setIfInBounds i true) a' w') a w)
    (hend : ∀ (l : Array Bool) (a : Act) (w : World), J l a w → Region.ready md ops l = [] → Q .normal a w) :
    ∀ (fuel : Nat) (l : Array Bool) (a : Act) (w : World), J l a w → l.toList.count false ≤ fuel → wpAnyIn F n P md ops Q fuel l a w := by
  have hrd : ∀ (l : Array Bool) (i : Nat), i ∈ Region.ready md ops l → l.toList[i]? = some false := by
    intro l i hi
    unfold Region.ready at hi
    rw [List.mem_filter] at hi
    have h2 := hi.2
    rw [Bool.and_eq_true] at h2
    have h3 := h2.1
    rw [Array.getElem?_toList]
    cases hl : l[i]? with
    | none => simp [Array.getD_eq_getD_getElem?, hl] at h3
    | some b => simp [Array.getD_eq_getD_getElem?, hl] at h3; rw [h3]
  intro fuel
  induction fuel with
  | zero =>
    intro l a w hJ hc
    have hr : Region.ready md ops l = [] := by
      cases e : Region.ready md ops l with
      | nil => rfl
      | cons i t =>
        have h1 := hrd l i (by rw [e]; exact List.mem_cons_self)
        have h2 := List.mem_of_getElem? h1
        have h3 := List.count_pos_iff.2 h2
        omega
    exact ⟨hr, hend l a w hJ hr⟩
  | succ fuel ih =>
    intro l a w hJ hc
    refine ⟨fun hr => hend l a w hJ hr, fun i hi => ?_⟩
    have h1 := hrd l i hi
    have hb : i < l.size := by
      have := (List.getElem?_eq_some_iff.1 h1).1
      simpa using this
    refine wpOpIn_mono (K := fun a' w' => J (l.setIfInBounds i true) a' w') (fun a' w' hJ' => ih _ _ _ hJ' ?_) (hstep l a w i hJ hb ?_ hi)
    · rw [Array.toList_setIfInBounds]
      have := count_set _ _ h1
      omega
    · rw [Array.getElem?_toList] at h1
      simp [Array.getD_eq_getD_getElem?, h1]
theorem wpOpIn_of {F : Fence} (hro : F.round = none) {n : Nat} {P : Program} {ops : Array Oper} {Q : Exit → Act → World → Prop} {i : Nat} {o : Oper} {K : Act → World → Prop} {a : Act} {w w' : World} {v : Value} (ho : ops[i]? = some o) (hg : o.guard = none) (hab : o.about P w a.eval = none)
    (hrun : (execOp a.eval o).run P w = .ok (.value v) w') (hK : K (a.put o.dst v) w') : wpOpIn F n P ops Q i K a w := by
  unfold wpOpIn
  rw [ho]
  simp only
  rw [if_pos (by unfold Region.wanted; rw [hg])]
  unfold Oper.wpIn
  refine ⟨fun f hf => (by rw [hab] at hf; cases hf), ?_⟩
  rw [hro, Oper.semAt_none, hrun]
  exact hK
def T (a : Act) (k : Nat) (v : Value) : Prop := a.tmps[k]? = some v
theorem T.eval {a : Act} {k : Nat} {v : Value} (h : T a k v) : a.eval (.tmp k) = v := by
  show a.tmps.getD k undef = v
  rw [Array.getD_eq_getD_getElem?, show a.tmps[k]? = some v from h]; rfl
theorem T.put {a : Act} {k d : Nat} {v u : Value} (h : T a k v) (hne : d ≠ k) : T (a.put (some d) u) k v := by
  show (a.tmps.setIfInBounds d u)[k]? = some v
  rw [Array.getElem?_setIfInBounds_ne hne]; exact h
theorem T.self {a : Act} {d : Nat} (hd : d < a.tmps.size) (u : Value) : T (a.put (some d) u) d u := by
  show (a.tmps.setIfInBounds d u)[d]? = some u
  rw [Array.getElem?_setIfInBounds_self_of_lt hd]
theorem bit_set (l : Array Bool) (i k : Nat) (hi : i < l.size) : (l.setIfInBounds i true).getD k false = if i = k then true else l.getD k false := by
  simp only [Array.getD_eq_getD_getElem?]
  split
  · rename_i h; subst h; rw [Array.getElem?_setIfInBounds_self_of_lt hi]; rfl
  · rename_i h; rw [Array.getElem?_setIfInBounds_ne h]

theorem dep_of {md : Region.Mode} {ops : Array Oper} {i : Nat} {o : Oper} (ho : ops[i]? = some o) (e : Edge) (he : e ∈ o.after) (hb : Region.binds md e = true) {l : Array Bool} (hi : i ∈ Region.ready md ops l) : l.getD e.on false = true := by
  unfold Region.ready at hi
  rw [List.mem_filter, ho] at hi
  have h2 := hi.2
  simp only [Option.map_some, Option.getD_some, Bool.and_eq_true] at h2
  have h3 := Array.all_eq_true_iff_forall_mem.1 h2.2 e he
  rw [hb] at h3
  simpa using h3
theorem wpOpIn_skip {F : Fence} (hro : F.round = none) {n : Nat} {P : Program} {ops : Array Oper} {Q : Exit → Act → World → Prop} {i : Nat} {o : Oper} {K : Act → World → Prop} {a : Act} {w w' : World} (ho : ops[i]? = some o) (hg : o.guard = none) (hab : o.about P w a.eval = none)
    (hrun : (execOp a.eval o).run P w = .ok .skip w') (hK : K (a.put o.dst undef) w') : wpOpIn F n P ops Q i K a w := by
  unfold wpOpIn
  rw [ho]
  simp only
  rw [if_pos (by unfold Region.wanted; rw [hg])]
  unfold Oper.wpIn
  refine ⟨fun f hf => (by rw [hab] at hf; cases hf), ?_⟩
  rw [hro, Oper.semAt_none, hrun]
  exact hK
theorem load_run {w : World} {ρ : Operand → Value} {o : Oper} {x : Operand} {ad : Addr} {v : Value} (hp : o.op = .load 3 x) (hx : ρ x = .pointer (some ad)) (hc : w.cell? ad = some v) : (execOp ρ o).run Try.prog w = .ok (.value v) w := by
  unfold execOp
  rw [hp]
  simp [hx, hc, go_sem]
theorem store_run {w : World} {ρ : Operand → Value} {o : Oper} {x y : Operand} {ad : Addr} {k : Int} {u : Value} (hp : o.op = .store 3 x y) (hx : ρ x = .pointer (some ad)) (hy : ρ y = .int .i64 k) (hc : w.cell? ad = some u) (hf : w.frozen? ad = false) : (execOp ρ o).run Try.prog w = .ok .skip (w.setCell ad (.int .i64 k)) := by
  unfold execOp
  rw [hp]
  simp [hx, hy, hc, hf, go_sem]
theorem add_run {P : Program} {w : World} {ρ : Operand → Value} {o : Oper} {x y : Operand} {p q : Int} (hp : o.op = .binOp .add 3 x y 3) (hx : ρ x = .int .i64 p) (hy : ρ y = .int .i64 q) : (execOp ρ o).run P w = .ok (.value (.int .i64 (IntKind.i64.wrap (p + q)))) w := by
  unfold execOp
  rw [hp]
  simp [hx, hy, go_sem]
theorem sub_run {P : Program} {w : World} {ρ : Operand → Value} {o : Oper} {x y : Operand} {p q : Int} (hp : o.op = .binOp .sub 3 x y 3) (hx : ρ x = .int .i64 p) (hy : ρ y = .int .i64 q) : (execOp ρ o).run P w = .ok (.value (.int .i64 (IntKind.i64.wrap (p - q)))) w := by
  unfold execOp
  rw [hp]
  simp [hx, hy, go_sem]
theorem fieldAddr_run {w : World} {ρ : Operand → Value} {o : Oper} {x : Operand} {b : Nat} (hp : o.op = .fieldAddr 41 x 1) (hx : ρ x = .pointer (some ⟨b, 0, none⟩)) : (execOp ρ o).run Try.prog w = .ok (.value (.pointer (some ⟨b, 1, none⟩))) w := by
  unfold execOp
  rw [hp]
  simp [hx, go_sem]
/-- What an operation of 'here += n; there -= n' is. -/
structure IsOp (ops : Array Oper) (i : Nat) (op : Op) (dst : Option Tmp) (o : Oper) : Prop where
  at_ : ops[i]? = some o
  op_ : o.op = op
  dst_ : o.dst = dst
  gd_ : o.guard = none
def B (l : Array Bool) (k : Nat) : Prop := l.getD k false = true
theorem B_set {l : Array Bool} {i k : Nat} (hi : i < l.size) : B (l.setIfInBounds i true) k ↔ i = k ∨ B l k := by
  unfold B
  rw [bit_set l i k hi]
  split <;> simp_all
theorem ready_all {md : Region.Mode} {ops : Array Oper} (hd : ∀ (i : Nat) (o : Oper), ops[i]? = some o → ∀ e ∈ o.after, e.on < i) {l : Array Bool} (hl : l.size = ops.size) (hr : Region.ready md ops l = []) : ∀ i, i < ops.size → B l i := by
  intro i
  induction i using Nat.strongRecOn with
  | _ i ih =>
    intro hi
    by_cases hb : B l i
    · exact hb
    · exfalso
      obtain ⟨o, ho⟩ : ∃ o, ops[i]? = some o := ⟨ops[i], Array.getElem?_eq_getElem hi⟩
      have hm : i ∈ Region.ready md ops l := by
        unfold Region.ready
        rw [List.mem_filter, ho]
        refine ⟨List.mem_range.2 hi, ?_⟩
        simp only [Option.map_some, Option.getD_some, Bool.and_eq_true]
        refine ⟨?_, Array.all_eq_true_iff_forall_mem.2 fun e he => ?_⟩
        · unfold B at hb
          rw [Array.getD_eq_getD_getElem?, Array.getElem?_eq_getElem (by omega)] at hb ⊢
          simpa using hb
        · have := ih e.on (hd i o ho e he) (by have := hd i o ho e he; omega)
          unfold B at this
          rw [this, Bool.or_true]
      rw [hr] at hm
      cases hm
def isDefer : Op → Bool
  | .defer _ => true
  | _ => false
theorem noDefer_of {ops : Array Oper} (h : ops.all (fun o => !isDefer o.op) = true) : ∀ (i : Nat) (o : Oper), ops[i]? = some o → ∀ c, o.op ≠ Op.defer c := by
  intro i o ho c hc
  have := Array.all_eq_true_iff_forall_mem.1 h o (Array.mem_of_getElem? ho)
  rw [hc] at this
  cases this
theorem down_of {ops : Array Oper} (h : (List.range ops.size).all (fun i => ((ops[i]?).map fun o => o.after.all fun e => decide (e.on < i)).getD true) = true) : ∀ (i : Nat) (o : Oper), ops[i]? = some o → ∀ e ∈ o.after, e.on < i := by
  intro i o ho e he
  have h1 := List.all_eq_true.1 h i (List.mem_range.2 (Array.getElem?_eq_some_iff.1 ho).1)
  rw [ho] at h1
  simp only [Option.map_some, Option.getD_some] at h1
  have h2 := Array.all_eq_true_iff_forall_mem.1 h1 e he
  simpa using h2
structure J12 (hb tb xb : Nat) (h t x : Int) (w2 w3 w4 : World) (l : Array Bool) (a : Act) (w : World) : Prop where
  size : a.tmps.size = 72
  t6 : T a 6 (.pointer (some ⟨hb, 0, none⟩))
  t7 : T a 7 (.pointer (some ⟨tb, 0, none⟩))
  t14 : T a 14 (.pointer (some ⟨xb, 0, none⟩))
  s0 : B l 0 → T a 63 (.int .i64 h)
  s1 : B l 1 → T a 64 (.pointer (some ⟨xb, 1, none⟩))
  s2 : B l 2 → T a 65 (.int .i64 x)
  s3 : B l 3 → T a 66 (.int .i64 (h + x))
  s4 : B l 4 → T a 67 (.int .i64 t)
  s5 : B l 5 → T a 68 (.pointer (some ⟨xb, 1, none⟩))
  s6 : B l 6 → T a 69 (.int .i64 x)
  s7 : B l 7 → T a 70 (.int .i64 (t - x))
  c3 : B l 3 → B l 0 ∧ B l 2
  c2 : B l 2 → B l 1
  c6 : B l 6 → B l 5
  c7 : B l 7 → B l 4 ∧ B l 6
  c8 : B l 8 → B l 3
  c9 : B l 9 → B l 7 ∧ B l 8
  w9 : B l 9 → w = w4
  w8 : B l 8 → ¬ B l 9 → w = w3
  w0 : ¬ B l 8 → w = w2
theorem region_addsub {F : Fence} (hro : F.round = none) {n : Nat} {ops : Array Oper} {Q : Exit → Act → World → Prop} {hb tb xb : Nat} {h t x : Int} {w2 w3 w4 : World} (hsz : ops.size = 10)
    {o0 o1 o2 o3 o4 o5 o6 o7 o8 o9 : Oper}
    (i0 : IsOp ops 0 (.load 3 (.tmp 6)) (some 63) o0) (i1 : IsOp ops 1 (.fieldAddr 41 (.tmp 14) 1) (some 64) o1) (i2 : IsOp ops 2 (.load 3 (.tmp 64)) (some 65) o2) (i3 : IsOp ops 3 (.binOp .add 3 (.tmp 63) (.tmp 65) 3) (some 66) o3)
    (i4 : IsOp ops 4 (.load 3 (.tmp 7)) (some 67) o4) (i5 : IsOp ops 5 (.fieldAddr 41 (.tmp 14) 1) (some 68) o5) (i6 : IsOp ops 6 (.load 3 (.tmp 68)) (some 69) o6) (i7 : IsOp ops 7 (.binOp .sub 3 (.tmp 67) (.tmp 69) 3) (some 70) o7)
    (i8 : IsOp ops 8 (.store 3 (.tmp 6) (.tmp 66)) none o8) (i9 : IsOp ops 9 (.store 3 (.tmp 7) (.tmp 70)) none o9)
    (e2 : ∀ l, 2 ∈ Region.ready .any ops l → B l 1) (e30 : ∀ l, 3 ∈ Region.ready .any ops l → B l 0) (e32 : ∀ l, 3 ∈ Region.ready .any ops l → B l 2) (e6 : ∀ l, 6 ∈ Region.ready .any ops l → B l 5) (e74 : ∀ l, 7 ∈ Region.ready .any ops l → B l 4) (e76 : ∀ l, 7 ∈ Region.ready .any ops l → B l 6)
    (e8 : ∀ l, 8 ∈ Region.ready .any ops l → B l 3) (e97 : ∀ l, 9 ∈ Region.ready .any ops l → B l 7) (e98 : ∀ l, 9 ∈ Region.ready .any ops l → B l 8)
    (hdn : ∀ (i : Nat) (o : Oper), ops[i]? = some o → ∀ e ∈ o.after, e.on < i)
    (hx : IntKind.i64.wrap (h + x) = h + x) (tx : IntKind.i64.wrap (t - x) = t - x)
    (hc2 : w2.cell? ⟨hb, 0, none⟩ = some (.int .i64 h)) (hf2 : w2.frozen? ⟨hb, 0, none⟩ = false) (tc2 : w2.cell? ⟨tb, 0, none⟩ = some (.int .i64 t)) (tc3 : w3.cell? ⟨tb, 0, none⟩ = some (.int .i64 t)) (tf3 : w3.frozen? ⟨tb, 0, none⟩ = false)
    (xc2 : w2.cell? ⟨xb, 1, none⟩ = some (.int .i64 x)) (xc3 : w3.cell? ⟨xb, 1, none⟩ = some (.int .i64 x))
    (hw3 : w2.setCell ⟨hb, 0, none⟩ (.int .i64 (h + x)) = w3) (hw4 : w3.setCell ⟨tb, 0, none⟩ (.int .i64 (t - x)) = w4)
    (hQ : ∀ a, Q .normal a w4) {a : Act} (ha : a.tmps.size = 72) (a6 : T a 6 (.pointer (some ⟨hb, 0, none⟩))) (a7 : T a 7 (.pointer (some ⟨tb, 0, none⟩))) (a14 : T a 14 (.pointer (some ⟨xb, 0, none⟩))) :
    wpAnyIn F n Try.prog .any ops Q ops.size (Array.replicate ops.size false) a w2 := by
  refine wpAnyIn_inv (fun l a w => l.size = 10 ∧ J12 hb tb xb h t x w2 w3 w4 l a w) ?_ ?_ _ _ _ _ ?_ ?_
  case refine_2 =>
    rintro l a w ⟨hl, hJ⟩ hr
    rw [hJ.w9 (ready_all hdn (hl.trans hsz.symm) hr 9 (by omega))]
    exact hQ a
  case refine_3 =>
    refine ⟨by simp [hsz], ?_⟩
    have hB : ∀ k, ¬ B (Array.replicate ops.size false) k := by intro k; unfold B; simp [Array.getD_eq_getD_getElem?, Array.getElem?_replicate]; split <;> simp
    exact ⟨ha, a6, a7, a14, fun h => absurd h (hB _), fun h => absurd h (hB _), fun h => absurd h (hB _), fun h => absurd h (hB _), fun h => absurd h (hB _), fun h => absurd h (hB _), fun h => absurd h (hB _), fun h => absurd h (hB _), fun h => absurd h (hB _), fun h => absurd h (hB _), fun h => absurd h (hB _), fun h => absurd h (hB _), fun h => absurd h (hB _), fun h => absurd h (hB _), fun h => absurd h (hB _), fun h => absurd h (hB _), fun _ => rfl⟩
  case refine_4 => simp
  case refine_1 =>
    rintro l a w i ⟨hl, hJ⟩ hi hf hr
    have hnb : ¬ B l i := by unfold B; rw [hf]; decide
    have hi10 : i < 10 := by omega
    have hB : ∀ k, B (l.setIfInBounds i true) k ↔ i = k ∨ B l k := fun k => B_set hi
    have hl2 : (l.setIfInBounds i true).size = 10 := by simp [hl]
    have hres : ∀ k, i ≠ k → B (l.setIfInBounds i true) k → B l k := fun k hk h => ((hB k).1 h).resolve_left hk
    have hup : ∀ k, B l k → B (l.setIfInBounds i true) k := fun k h => (hB k).2 (.inr h)
    match i, hi10 with
    | 0, _ =>
      have hW : w = w2 := hJ.w0 (fun h8 => hnb (hJ.c3 (hJ.c8 h8)).1)
      refine wpOpIn_of hro i0.at_ i0.gd_ (by unfold Oper.about; rw [i0.op_]) (load_run i0.op_ hJ.t6.eval (by rw [hW]; exact hc2)) ?_
      rw [i0.dst_]
      exact ⟨hl2, ⟨by simp [Act.put, hJ.size], hJ.t6.put (by decide), hJ.t7.put (by decide), hJ.t14.put (by decide), fun _ => T.self (by rw [hJ.size]; decide) _, fun h => (hJ.s1 (hres 1 (by decide) h)).put (by decide), fun h => (hJ.s2 (hres 2 (by decide) h)).put (by decide), fun h => (hJ.s3 (hres 3 (by decide) h)).put (by decide), fun h => (hJ.s4 (hres 4 (by decide) h)).put (by decide), fun h => (hJ.s5 (hres 5 (by decide) h)).put (by decide), fun h => (hJ.s6 (hres 6 (by decide) h)).put (by decide), fun h => (hJ.s7 (hres 7 (by decide) h)).put (by decide), fun h => ⟨hup 0 (hJ.c3 (hres 3 (by decide) h)).1, hup 2 (hJ.c3 (hres 3 (by decide) h)).2⟩, fun h => hup 1 (hJ.c2 (hres 2 (by decide) h)), fun h => hup 5 (hJ.c6 (hres 6 (by decide) h)), fun h => ⟨hup 4 (hJ.c7 (hres 7 (by decide) h)).1, hup 6 (hJ.c7 (hres 7 (by decide) h)).2⟩, fun h => hup 3 (hJ.c8 (hres 8 (by decide) h)), fun h => ⟨hup 7 (hJ.c9 (hres 9 (by decide) h)).1, hup 8 (hJ.c9 (hres 9 (by decide) h)).2⟩, fun h => hJ.w9 (hres 9 (by decide) h), fun h h2 => hJ.w8 (hres 8 (by decide) h) (fun h9 => h2 (hup 9 h9)), fun h => hJ.w0 (fun h8 => h (hup 8 h8))⟩⟩
    | 1, _ =>
      refine wpOpIn_of hro i1.at_ i1.gd_ (by unfold Oper.about; rw [i1.op_]) (fieldAddr_run i1.op_ hJ.t14.eval) ?_
      rw [i1.dst_]
      exact ⟨hl2, ⟨by simp [Act.put, hJ.size], hJ.t6.put (by decide), hJ.t7.put (by decide), hJ.t14.put (by decide), fun h => (hJ.s0 (hres 0 (by decide) h)).put (by decide), fun _ => T.self (by rw [hJ.size]; decide) _, fun h => (hJ.s2 (hres 2 (by decide) h)).put (by decide), fun h => (hJ.s3 (hres 3 (by decide) h)).put (by decide), fun h => (hJ.s4 (hres 4 (by decide) h)).put (by decide), fun h => (hJ.s5 (hres 5 (by decide) h)).put (by decide), fun h => (hJ.s6 (hres 6 (by decide) h)).put (by decide), fun h => (hJ.s7 (hres 7 (by decide) h)).put (by decide), fun h => ⟨hup 0 (hJ.c3 (hres 3 (by decide) h)).1, hup 2 (hJ.c3 (hres 3 (by decide) h)).2⟩, fun h => hup 1 (hJ.c2 (hres 2 (by decide) h)), fun h => hup 5 (hJ.c6 (hres 6 (by decide) h)), fun h => ⟨hup 4 (hJ.c7 (hres 7 (by decide) h)).1, hup 6 (hJ.c7 (hres 7 (by decide) h)).2⟩, fun h => hup 3 (hJ.c8 (hres 8 (by decide) h)), fun h => ⟨hup 7 (hJ.c9 (hres 9 (by decide) h)).1, hup 8 (hJ.c9 (hres 9 (by decide) h)).2⟩, fun h => hJ.w9 (hres 9 (by decide) h), fun h h2 => hJ.w8 (hres 8 (by decide) h) (fun h9 => h2 (hup 9 h9)), fun h => hJ.w0 (fun h8 => h (hup 8 h8))⟩⟩
    | 2, _ =>
      have hW : w = w2 := hJ.w0 (fun h8 => hnb (hJ.c3 (hJ.c8 h8)).2)
      refine wpOpIn_of hro i2.at_ i2.gd_ (by unfold Oper.about; rw [i2.op_]) (load_run i2.op_ (hJ.s1 (e2 l hr)).eval (by rw [hW]; exact xc2)) ?_
      rw [i2.dst_]
      exact ⟨hl2, ⟨by simp [Act.put, hJ.size], hJ.t6.put (by decide), hJ.t7.put (by decide), hJ.t14.put (by decide), fun h => (hJ.s0 (hres 0 (by decide) h)).put (by decide), fun h => (hJ.s1 (hres 1 (by decide) h)).put (by decide), fun _ => T.self (by rw [hJ.size]; decide) _, fun h => (hJ.s3 (hres 3 (by decide) h)).put (by decide), fun h => (hJ.s4 (hres 4 (by decide) h)).put (by decide), fun h => (hJ.s5 (hres 5 (by decide) h)).put (by decide), fun h => (hJ.s6 (hres 6 (by decide) h)).put (by decide), fun h => (hJ.s7 (hres 7 (by decide) h)).put (by decide), fun h => ⟨hup 0 (hJ.c3 (hres 3 (by decide) h)).1, hup 2 (hJ.c3 (hres 3 (by decide) h)).2⟩, fun _ => hup 1 (e2 l hr), fun h => hup 5 (hJ.c6 (hres 6 (by decide) h)), fun h => ⟨hup 4 (hJ.c7 (hres 7 (by decide) h)).1, hup 6 (hJ.c7 (hres 7 (by decide) h)).2⟩, fun h => hup 3 (hJ.c8 (hres 8 (by decide) h)), fun h => ⟨hup 7 (hJ.c9 (hres 9 (by decide) h)).1, hup 8 (hJ.c9 (hres 9 (by decide) h)).2⟩, fun h => hJ.w9 (hres 9 (by decide) h), fun h h2 => hJ.w8 (hres 8 (by decide) h) (fun h9 => h2 (hup 9 h9)), fun h => hJ.w0 (fun h8 => h (hup 8 h8))⟩⟩
    | 3, _ =>
      refine wpOpIn_of hro i3.at_ i3.gd_ (by unfold Oper.about; rw [i3.op_]) (add_run i3.op_ (hJ.s0 (e30 l hr)).eval (hJ.s2 (e32 l hr)).eval) ?_
      rw [i3.dst_]
      rw [hx]
      exact ⟨hl2, ⟨by simp [Act.put, hJ.size], hJ.t6.put (by decide), hJ.t7.put (by decide), hJ.t14.put (by decide), fun h => (hJ.s0 (hres 0 (by decide) h)).put (by decide), fun h => (hJ.s1 (hres 1 (by decide) h)).put (by decide), fun h => (hJ.s2 (hres 2 (by decide) h)).put (by decide), fun _ => T.self (by rw [hJ.size]; decide) _, fun h => (hJ.s4 (hres 4 (by decide) h)).put (by decide), fun h => (hJ.s5 (hres 5 (by decide) h)).put (by decide), fun h => (hJ.s6 (hres 6 (by decide) h)).put (by decide), fun h => (hJ.s7 (hres 7 (by decide) h)).put (by decide), fun _ => ⟨hup 0 (e30 l hr), hup 2 (e32 l hr)⟩, fun h => hup 1 (hJ.c2 (hres 2 (by decide) h)), fun h => hup 5 (hJ.c6 (hres 6 (by decide) h)), fun h => ⟨hup 4 (hJ.c7 (hres 7 (by decide) h)).1, hup 6 (hJ.c7 (hres 7 (by decide) h)).2⟩, fun h => hup 3 (hJ.c8 (hres 8 (by decide) h)), fun h => ⟨hup 7 (hJ.c9 (hres 9 (by decide) h)).1, hup 8 (hJ.c9 (hres 9 (by decide) h)).2⟩, fun h => hJ.w9 (hres 9 (by decide) h), fun h h2 => hJ.w8 (hres 8 (by decide) h) (fun h9 => h2 (hup 9 h9)), fun h => hJ.w0 (fun h8 => h (hup 8 h8))⟩⟩
    | 4, _ =>
      have hW : w = w2 ∨ w = w3 := by
        by_cases h8 : B l 8
        · exact .inr (hJ.w8 h8 (fun h9 => hnb (hJ.c7 (hJ.c9 h9).1).1))
        · exact .inl (hJ.w0 h8)
      have hcl : w.cell? ⟨tb, 0, none⟩ = some (.int .i64 t) := by rcases hW with hW | hW <;> rw [hW] <;> assumption
      refine wpOpIn_of hro i4.at_ i4.gd_ (by unfold Oper.about; rw [i4.op_]) (load_run i4.op_ hJ.t7.eval hcl) ?_
      rw [i4.dst_]
      exact ⟨hl2, ⟨by simp [Act.put, hJ.size], hJ.t6.put (by decide), hJ.t7.put (by decide), hJ.t14.put (by decide), fun h => (hJ.s0 (hres 0 (by decide) h)).put (by decide), fun h => (hJ.s1 (hres 1 (by decide) h)).put (by decide), fun h => (hJ.s2 (hres 2 (by decide) h)).put (by decide), fun h => (hJ.s3 (hres 3 (by decide) h)).put (by decide), fun _ => T.self (by rw [hJ.size]; decide) _, fun h => (hJ.s5 (hres 5 (by decide) h)).put (by decide), fun h => (hJ.s6 (hres 6 (by decide) h)).put (by decide), fun h => (hJ.s7 (hres 7 (by decide) h)).put (by decide), fun h => ⟨hup 0 (hJ.c3 (hres 3 (by decide) h)).1, hup 2 (hJ.c3 (hres 3 (by decide) h)).2⟩, fun h => hup 1 (hJ.c2 (hres 2 (by decide) h)), fun h => hup 5 (hJ.c6 (hres 6 (by decide) h)), fun h => ⟨hup 4 (hJ.c7 (hres 7 (by decide) h)).1, hup 6 (hJ.c7 (hres 7 (by decide) h)).2⟩, fun h => hup 3 (hJ.c8 (hres 8 (by decide) h)), fun h => ⟨hup 7 (hJ.c9 (hres 9 (by decide) h)).1, hup 8 (hJ.c9 (hres 9 (by decide) h)).2⟩, fun h => hJ.w9 (hres 9 (by decide) h), fun h h2 => hJ.w8 (hres 8 (by decide) h) (fun h9 => h2 (hup 9 h9)), fun h => hJ.w0 (fun h8 => h (hup 8 h8))⟩⟩
    | 5, _ =>
      refine wpOpIn_of hro i5.at_ i5.gd_ (by unfold Oper.about; rw [i5.op_]) (fieldAddr_run i5.op_ hJ.t14.eval) ?_
      rw [i5.dst_]
      exact ⟨hl2, ⟨by simp [Act.put, hJ.size], hJ.t6.put (by decide), hJ.t7.put (by decide), hJ.t14.put (by decide), fun h => (hJ.s0 (hres 0 (by decide) h)).put (by decide), fun h => (hJ.s1 (hres 1 (by decide) h)).put (by decide), fun h => (hJ.s2 (hres 2 (by decide) h)).put (by decide), fun h => (hJ.s3 (hres 3 (by decide) h)).put (by decide), fun h => (hJ.s4 (hres 4 (by decide) h)).put (by decide), fun _ => T.self (by rw [hJ.size]; decide) _, fun h => (hJ.s6 (hres 6 (by decide) h)).put (by decide), fun h => (hJ.s7 (hres 7 (by decide) h)).put (by decide), fun h => ⟨hup 0 (hJ.c3 (hres 3 (by decide) h)).1, hup 2 (hJ.c3 (hres 3 (by decide) h)).2⟩, fun h => hup 1 (hJ.c2 (hres 2 (by decide) h)), fun h => hup 5 (hJ.c6 (hres 6 (by decide) h)), fun h => ⟨hup 4 (hJ.c7 (hres 7 (by decide) h)).1, hup 6 (hJ.c7 (hres 7 (by decide) h)).2⟩, fun h => hup 3 (hJ.c8 (hres 8 (by decide) h)), fun h => ⟨hup 7 (hJ.c9 (hres 9 (by decide) h)).1, hup 8 (hJ.c9 (hres 9 (by decide) h)).2⟩, fun h => hJ.w9 (hres 9 (by decide) h), fun h h2 => hJ.w8 (hres 8 (by decide) h) (fun h9 => h2 (hup 9 h9)), fun h => hJ.w0 (fun h8 => h (hup 8 h8))⟩⟩
    | 6, _ =>
      have hW : w = w2 ∨ w = w3 := by
        by_cases h8 : B l 8
        · exact .inr (hJ.w8 h8 (fun h9 => hnb (hJ.c7 (hJ.c9 h9).1).2))
        · exact .inl (hJ.w0 h8)
      have hcl : w.cell? ⟨xb, 1, none⟩ = some (.int .i64 x) := by rcases hW with hW | hW <;> rw [hW] <;> assumption
      refine wpOpIn_of hro i6.at_ i6.gd_ (by unfold Oper.about; rw [i6.op_]) (load_run i6.op_ (hJ.s5 (e6 l hr)).eval hcl) ?_
      rw [i6.dst_]
      exact ⟨hl2, ⟨by simp [Act.put, hJ.size], hJ.t6.put (by decide), hJ.t7.put (by decide), hJ.t14.put (by decide), fun h => (hJ.s0 (hres 0 (by decide) h)).put (by decide), fun h => (hJ.s1 (hres 1 (by decide) h)).put (by decide), fun h => (hJ.s2 (hres 2 (by decide) h)).put (by decide), fun h => (hJ.s3 (hres 3 (by decide) h)).put (by decide), fun h => (hJ.s4 (hres 4 (by decide) h)).put (by decide), fun h => (hJ.s5 (hres 5 (by decide) h)).put (by decide), fun _ => T.self (by rw [hJ.size]; decide) _, fun h => (hJ.s7 (hres 7 (by decide) h)).put (by decide), fun h => ⟨hup 0 (hJ.c3 (hres 3 (by decide) h)).1, hup 2 (hJ.c3 (hres 3 (by decide) h)).2⟩, fun h => hup 1 (hJ.c2 (hres 2 (by decide) h)), fun _ => hup 5 (e6 l hr), fun h => ⟨hup 4 (hJ.c7 (hres 7 (by decide) h)).1, hup 6 (hJ.c7 (hres 7 (by decide) h)).2⟩, fun h => hup 3 (hJ.c8 (hres 8 (by decide) h)), fun h => ⟨hup 7 (hJ.c9 (hres 9 (by decide) h)).1, hup 8 (hJ.c9 (hres 9 (by decide) h)).2⟩, fun h => hJ.w9 (hres 9 (by decide) h), fun h h2 => hJ.w8 (hres 8 (by decide) h) (fun h9 => h2 (hup 9 h9)), fun h => hJ.w0 (fun h8 => h (hup 8 h8))⟩⟩
    | 7, _ =>
      refine wpOpIn_of hro i7.at_ i7.gd_ (by unfold Oper.about; rw [i7.op_]) (sub_run i7.op_ (hJ.s4 (e74 l hr)).eval (hJ.s6 (e76 l hr)).eval) ?_
      rw [i7.dst_]
      rw [tx]
      exact ⟨hl2, ⟨by simp [Act.put, hJ.size], hJ.t6.put (by decide), hJ.t7.put (by decide), hJ.t14.put (by decide), fun h => (hJ.s0 (hres 0 (by decide) h)).put (by decide), fun h => (hJ.s1 (hres 1 (by decide) h)).put (by decide), fun h => (hJ.s2 (hres 2 (by decide) h)).put (by decide), fun h => (hJ.s3 (hres 3 (by decide) h)).put (by decide), fun h => (hJ.s4 (hres 4 (by decide) h)).put (by decide), fun h => (hJ.s5 (hres 5 (by decide) h)).put (by decide), fun h => (hJ.s6 (hres 6 (by decide) h)).put (by decide), fun _ => T.self (by rw [hJ.size]; decide) _, fun h => ⟨hup 0 (hJ.c3 (hres 3 (by decide) h)).1, hup 2 (hJ.c3 (hres 3 (by decide) h)).2⟩, fun h => hup 1 (hJ.c2 (hres 2 (by decide) h)), fun h => hup 5 (hJ.c6 (hres 6 (by decide) h)), fun _ => ⟨hup 4 (e74 l hr), hup 6 (e76 l hr)⟩, fun h => hup 3 (hJ.c8 (hres 8 (by decide) h)), fun h => ⟨hup 7 (hJ.c9 (hres 9 (by decide) h)).1, hup 8 (hJ.c9 (hres 9 (by decide) h)).2⟩, fun h => hJ.w9 (hres 9 (by decide) h), fun h h2 => hJ.w8 (hres 8 (by decide) h) (fun h9 => h2 (hup 9 h9)), fun h => hJ.w0 (fun h8 => h (hup 8 h8))⟩⟩
    | 8, _ =>
      have hW : w = w2 := hJ.w0 hnb
      refine wpOpIn_skip hro i8.at_ i8.gd_ (by unfold Oper.about; rw [i8.op_]) (store_run i8.op_ hJ.t6.eval (hJ.s3 (e8 l hr)).eval (by rw [hW]; exact hc2) (by rw [hW]; exact hf2)) ?_
      rw [i8.dst_]
      exact ⟨hl2, ⟨hJ.size, hJ.t6, hJ.t7, hJ.t14, fun h => (hJ.s0 (hres 0 (by decide) h)), fun h => (hJ.s1 (hres 1 (by decide) h)), fun h => (hJ.s2 (hres 2 (by decide) h)), fun h => (hJ.s3 (hres 3 (by decide) h)), fun h => (hJ.s4 (hres 4 (by decide) h)), fun h => (hJ.s5 (hres 5 (by decide) h)), fun h => (hJ.s6 (hres 6 (by decide) h)), fun h => (hJ.s7 (hres 7 (by decide) h)), fun h => ⟨hup 0 (hJ.c3 (hres 3 (by decide) h)).1, hup 2 (hJ.c3 (hres 3 (by decide) h)).2⟩, fun h => hup 1 (hJ.c2 (hres 2 (by decide) h)), fun h => hup 5 (hJ.c6 (hres 6 (by decide) h)), fun h => ⟨hup 4 (hJ.c7 (hres 7 (by decide) h)).1, hup 6 (hJ.c7 (hres 7 (by decide) h)).2⟩, fun _ => hup 3 (e8 l hr), fun h => ⟨hup 7 (hJ.c9 (hres 9 (by decide) h)).1, hup 8 (hJ.c9 (hres 9 (by decide) h)).2⟩, fun h => absurd (hJ.c9 (hres 9 (by decide) h)).2 hnb, fun _ _ => by rw [hW]; exact hw3, fun h => absurd ((hB 8).2 (.inl rfl)) h⟩⟩
    | 9, _ =>
      have hW : w = w3 := hJ.w8 (e98 l hr) hnb
      refine wpOpIn_skip hro i9.at_ i9.gd_ (by unfold Oper.about; rw [i9.op_]) (store_run i9.op_ hJ.t7.eval (hJ.s7 (e97 l hr)).eval (by rw [hW]; exact tc3) (by rw [hW]; exact tf3)) ?_
      rw [i9.dst_]
      exact ⟨hl2, ⟨hJ.size, hJ.t6, hJ.t7, hJ.t14, fun h => (hJ.s0 (hres 0 (by decide) h)), fun h => (hJ.s1 (hres 1 (by decide) h)), fun h => (hJ.s2 (hres 2 (by decide) h)), fun h => (hJ.s3 (hres 3 (by decide) h)), fun h => (hJ.s4 (hres 4 (by decide) h)), fun h => (hJ.s5 (hres 5 (by decide) h)), fun h => (hJ.s6 (hres 6 (by decide) h)), fun h => (hJ.s7 (hres 7 (by decide) h)), fun h => ⟨hup 0 (hJ.c3 (hres 3 (by decide) h)).1, hup 2 (hJ.c3 (hres 3 (by decide) h)).2⟩, fun h => hup 1 (hJ.c2 (hres 2 (by decide) h)), fun h => hup 5 (hJ.c6 (hres 6 (by decide) h)), fun h => ⟨hup 4 (hJ.c7 (hres 7 (by decide) h)).1, hup 6 (hJ.c7 (hres 7 (by decide) h)).2⟩, fun h => hup 3 (hJ.c8 (hres 8 (by decide) h)), fun _ => ⟨hup 7 (e97 l hr), hup 8 (e98 l hr)⟩, fun _ => by rw [hW]; exact hw4, fun _ h2 => absurd ((hB 9).2 (.inl rfl)) h2, fun h => absurd (hup 8 (e98 l hr)) h⟩⟩
end Go.Proofs.Ytkhdfbmkikiapaa.Given

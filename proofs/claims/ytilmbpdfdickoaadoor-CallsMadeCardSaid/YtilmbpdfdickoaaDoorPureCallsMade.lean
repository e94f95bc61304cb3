/- CallsMade, walked. -/
import Derived.Test.YtilmbpdfdickoaaDoorPureCallsBack
namespace Go.Proofs.YtilmbpdfdickoaaDoor
open Go.RowKit Go.Proofs.YtilmbpdfdickoaaDoor.Given Go.Proofs.YtilmbpdfdickoaaDoor.Print Go.Proofs.YtilmbpdfdickoaaDoor.Pure Go.Proofs.YtilmbpdfdickoaaDoorW.PrintWords Go.Proofs.YtilmbpdfdickoaaDoorW.PrintLast Go.Proofs.YtilmbpdfdickoaaDoorW.PrintMore
set_option linter.unusedVariables false
set_option linter.unusedSimpArgs false
theorem goRead_len : ∀ (ks : List UInt8) (ws : List (List UInt8)) (c c' : CallS), goRead ks ws c = some c' → ks.length = ws.length
  | [], [], _, _, _ => rfl
  | [], _ :: _, _, _, h => by cases h
  | _ :: _, [], _, _, h => by cases h
  | k :: ks, w :: ws, c, c', h => by
    rw [goRead] at h
    cases hr : readF k c w with
    | none => rw [hr] at h; cases h
    | some c2 => rw [hr] at h; rw [List.length_cons, List.length_cons, goRead_len ks ws c2 c' h]
theorem splitL_snoc' : ∀ (n : Nat) (s : List UInt8), s.length ≤ n → splitL 32 (s ++ [32]) = splitL 32 s ++ [[]] := by
  intro n
  induction n with
  | zero =>
    intro s hn
    obtain rfl := List.length_eq_zero_iff.1 (Nat.le_zero.1 hn)
    rfl
  | succ n ih =>
    intro s hn
    rcases first_piece 32 s with h | ⟨p, r, rfl, hp⟩
    · rw [splitL_none 32 s h, show s ++ [32] = s ++ 32 :: [] from rfl, splitL_app 32 [] s h]; rfl
    · rw [List.length_append, List.length_cons] at hn
      rw [List.append_assoc, List.cons_append, splitL_app 32 _ p hp, splitL_app 32 _ p hp, ih r (by omega)]; rfl
theorem splitL_snoc (s : List UInt8) : splitL 32 (s ++ [32]) = splitL 32 s ++ [[]] := splitL_snoc' s.length s (Nat.le_refl _)
def widen (s : List UInt8) : List UInt8 := s.flatMap fun x => if x = 32 then [32, 32] else [x]
theorem widen_app (a b : List UInt8) : widen (a ++ b) = widen a ++ widen b := List.flatMap_append
theorem widen_no : ∀ a : List UInt8, (32 : UInt8) ∉ a → widen a = a
  | [], _ => rfl
  | x :: a, h => by
    have h1 : ¬ x = 32 := fun e => h (List.mem_cons.2 (.inl e.symm))
    show (if x = 32 then [32, 32] else [x]) ++ widen a = x :: a
    rw [if_neg h1, widen_no a (fun hm => h (List.mem_cons.2 (.inr hm)))]; rfl
theorem widen_len : ∀ a : List UInt8, (widen a).length ≤ 2 * a.length
  | [] => Nat.le_refl _
  | x :: a => by
    have h := widen_len a
    show ((if x = 32 then [32, 32] else [x]) ++ widen a).length ≤ _
    rw [List.length_append, List.length_cons]
    split <;> simp <;> omega
theorem read_nil {k : UInt8} (hk : isLet k) (c : CallS) : readF k c [] = none := by
  have hn : numT [] = none := by kernel_rfl
  rcases hk with rfl | rfl | rfl | rfl | rfl
  · rfl
  · rfl
  · rfl
  · show (numT []).map _ = none
    rw [hn]; rfl
  · show (numT []).map _ = none
    rw [hn]; rfl
theorem op_nil : opOf [] = none := by kernel_rfl
theorem told_isLet : ∀ k : Fin 13, ∃ x xs, toldL (k.val + 1) = x :: xs ∧ isLet x := by
  intro k
  rcases told_ok k with ⟨a, e, ha⟩ | ⟨a, b, e, ha, _⟩
  · exact ⟨a, [], e, ha⟩
  · exact ⟨a, [b], e, ha⟩
theorem parse_parts {s : List UInt8} {c : CallS} (h : parseC s = some c) : ∃ w ws, splitL 32 s = w :: ws ∧ ∃ k : Fin 13, opOf w = some (k.val + 1) ∧ goRead (toldL (k.val + 1)) ws (callOf ((k.val + 1 : Nat) : Int)) = some c := by
  unfold parseC at h
  split at h
  · cases h
  · rename_i w ws hs
    split at h
    · cases h
    · rename_i op ho
      obtain ⟨_, k, rfl⟩ := opOf_some ho
      exact ⟨w, ws, hs, k, ho, h⟩
theorem more_none {s : List UInt8} {c : CallS} (h : parseC s = some c) : parseC (s ++ [32]) = none := by
  obtain ⟨w, ws, hs, k, ho, hg⟩ := parse_parts h
  unfold parseC
  rw [splitL_snoc, hs, List.cons_append]
  dsimp only
  rw [ho]
  dsimp only
  cases hr : goRead (toldL (k.val + 1)) (ws ++ [[]]) (callOf ((k.val + 1 : Nat) : Int)) with
  | none => rfl
  | some c2 =>
    have h1 := goRead_len _ _ _ _ hr
    have h2 := goRead_len _ _ _ _ hg
    rw [List.length_append, List.length_singleton] at h1
    omega
theorem lead_none (s : List UInt8) : parseC (32 :: s) = none := by
  unfold parseC
  rw [show (32 : UInt8) :: s = [] ++ 32 :: s from rfl, splitL_app 32 s [] List.not_mem_nil]
  dsimp only
  rw [op_nil]
theorem wide_none {s : List UInt8} {c : CallS} (h : parseC s = some c) : parseC (widen s) = none := by
  obtain ⟨w, ws, hs, k, ho, hg⟩ := parse_parts h
  obtain ⟨x, xs, hx, hl⟩ := told_isLet k
  rcases first_piece 32 s with h' | ⟨p, r, rfl, hp⟩
  · rw [splitL_none 32 s h'] at hs
    simp only [List.cons.injEq] at hs
    obtain ⟨rfl, rfl⟩ := hs
    have := goRead_len _ _ _ _ hg
    rw [hx] at this
    cases this
  · rw [splitL_app 32 r p hp] at hs
    simp only [List.cons.injEq] at hs
    obtain ⟨rfl, rfl⟩ := hs
    have e : widen (p ++ 32 :: r) = p ++ 32 :: ([] ++ 32 :: widen r) := by
      rw [widen_app, widen_no p hp]; rfl
    unfold parseC
    rw [e, splitL_app 32 _ p hp, splitL_app 32 _ [] List.not_mem_nil]
    dsimp only
    rw [ho]
    dsimp only
    rw [hx, goRead, read_nil hl]
theorem cs_none {l : List UInt8} (hl : l.length ≤ 1200) (h : parseC l = none) : parseCS l = (call0, 3) := by
  unfold parseCS
  rw [if_neg (by omega), h]
theorem idx_at (P : ByteArray) (k : Nat) (x : UInt8) (h : P.data.toList[k]? = some x) (W : World) : (Instr.index 9 (.string P) (.int .i64 (k : Int))).run Tryd.prog W = .ok (.int .u8 (x.toNat : Int)) W := by
  obtain ⟨h1, h2⟩ := List.getElem?_eq_some_iff.1 h
  have h3 : k < P.size := by rw [size_list']; exact h1
  have h4 : P[k] = x := h2
  unfold Instr.index
  have h5 : P[k]? = some x := by rw [getElem?_pos P k h3, h4]
  simp [asIntOf, go_sem, h5]
theorem bytes_of {A : ByteArray} {l : List UInt8} (h : A.data.toList = l) : A = ⟨l.toArray⟩ := by
  apply ByteArray.ext
  apply Array.toList_inj.1
  rw [h]
theorem meas_made {n k : Nat} (h : k < n) : n - (intOf (.int .i64 ((k : Int) + 1))).toNat < n - (intOf (.int .i64 (k : Int))).toNat := by
  show n - ((k : Int) + 1).toNat < n - (k : Int).toNat
  omega
theorem widen_next (s : List UInt8) (k : Nat) (x : UInt8) (h : s[k]? = some x) : widen (s.take (k + 1)) = widen (s.take k) ++ (if x = 32 then [32, 32] else [x]) := by
  rw [List.take_add_one, h, widen_app]
  show _ ++ ((if x = 32 then [32, 32] else [x]) ++ []) = _
  rw [List.append_nil]
attribute [local go_sem high] eqA26
set_option maxHeartbeats 8000000 in
set_option maxRecDepth 100000 in
theorem Walk.CallsMade (a0 : Int) (w0 : (Lit.int .u64 a0).wf = true) (a1 : Int) (w1 : (Lit.int .u64 a1).wf = true) (w : World) (HLd : Ld w) :
    Calls Tryd.prog 8 #[.int .u64 a0, .int .u64 a1] w fun e w' => e = .returned (.bool true) ∧ Below w.heap.size w w' := by
  obtain ⟨c, hf, oc, s, hs⟩ := made_ok a0 a1 (u64_of w0) (u64_of w1)
  obtain ⟨pc, ps⟩ := parse_of_print oc.mask hs
  have HF := Aside0.mk hf
  have OC := Aside0.mk oc
  have HS := Aside0.mk hs
  have e1 : (⟨s.toArray⟩ : ByteArray) ++ (⟨#[32]⟩ : ByteArray) = ⟨(s ++ [32]).toArray⟩ := cat_bytes s [32]
  have e2 : (⟨#[32]⟩ : ByteArray) ++ (⟨s.toArray⟩ : ByteArray) = ⟨(32 :: s).toArray⟩ := cat_bytes [32] s
  have P1 : Aside0 (parseCS (s ++ [32]) = (call0, 3)) := ⟨cs_none (by simp; omega) (more_none pc)⟩
  have P2 : Aside0 (parseCS (32 :: s) = (call0, 3)) := ⟨cs_none (by simp; omega) (lead_none s)⟩
  have P3 : Aside0 (parseCS (widen s) = (call0, 3)) := ⟨cs_none (by have h_ := widen_len s; omega) (wide_none pc)⟩
  have L1 : Aside0 (s.length ≤ 400) := ⟨ps⟩
  obtain ⟨P, hP⟩ : ∃ P : ByteArray, P = ⟨s.toArray⟩ := ⟨_, rfl⟩
  have HPP := Aside0.mk hP
  have hPs : P.size ≤ 400 := by rw [hP, size_bytes]; exact ps
  have E1 : Aside0 ((P ++ (⟨#[32]⟩ : ByteArray)).data.toList = s ++ [32] ∧ (P ++ (⟨#[32]⟩ : ByteArray)).size ≤ 4000000000) := ⟨by rw [hP, e1]; exact ⟨rfl, by rw [size_bytes, List.length_append]; simp; omega⟩⟩
  have E2 : Aside0 (((⟨#[32]⟩ : ByteArray) ++ P).data.toList = 32 :: s ∧ ((⟨#[32]⟩ : ByteArray) ++ P).size ≤ 4000000000) := ⟨by rw [hP, e2]; exact ⟨rfl, by rw [size_bytes, List.length_cons]; omega⟩⟩
  have z1 : (P.size + 1 ≤ 9223372036854775807) = True := eq_true (by omega)
  have z2 : (1 + P.size ≤ 9223372036854775807) = True := eq_true (by omega)
  have z3 : (9223372036854775807 < P.size + 1) = False := eq_false (by omega)
  have z4 : (9223372036854775807 < 1 + P.size) = False := eq_false (by omega)
  have HZ := Aside0.mk hPs
  clear hf oc hs pc ps e1 e2 hP hPs w0 w1
  have hu26 := Tryd.underlying26
  go_enter Tryd.func8, Tryd.ntmps8
  go_wp2_with fail
  refine (awake_c _ HLd).mono ?_
  rintro e v1 ⟨rfl, hb⟩
  have HB1 := Aside0.mk (hb)
  clear hb
  go_wp2_with fail
  refine (turnspitlaw15_Made.calls 2 _ _ _ _ _ _ _ _ _ _ (HLd.below HB1.out) HF.out).mono ?_
  rintro e v2 ⟨rfl, hb⟩
  have HB2 := Aside0.mk (below_step HB1.out hb)
  clear hb
  go_upto_region 5 with fail
  have K6_3 : Aside0 ((v2.alloc (.cells #[.int .i64 c.op, .int .i64 c.slot, .int .i64 c.gen, .int .i64 c.cpu, .int .i64 c.n, .int .i64 c.nice, .int .u64 c.mask] 26)).heap[v2.heap.size]? = some (.cells #[.int .i64 c.op, .int .i64 c.slot, .int .i64 c.gen, .int .i64 c.cpu, .int .i64 c.n, .int .i64 c.nice, .int .u64 c.mask] 26)) := ⟨(blk_new v2 (.cells #[.int .i64 c.op, .int .i64 c.slot, .int .i64 c.gen, .int .i64 c.cpu, .int .i64 c.n, .int .i64 c.nice, .int .u64 c.mask] 26))⟩
  have HB3 := Aside0.mk (below_alloc HB2.out (.cells #[.int .i64 c.op, .int .i64 c.slot, .int .i64 c.gen, .int .i64 c.cpu, .int .i64 c.n, .int .i64 c.nice, .int .u64 c.mask] 26))
  generalize (v2.alloc (.cells #[.int .i64 c.op, .int .i64 c.slot, .int .i64 c.gen, .int .i64 c.cpu, .int .i64 c.n, .int .i64 c.nice, .int .u64 c.mask] 26)) = v3 at K6_3 HB3 ⊢
  generalize v2.heap.size = g6 at K6_3 ⊢
  have c6_0 : v3.cell? ⟨g6, 0, none⟩ = some (.int .i64 c.op) := (blk_cell K6_3.out 0).trans rfl
  have c6_1 : v3.cell? ⟨g6, 1, none⟩ = some (.int .i64 c.slot) := (blk_cell K6_3.out 1).trans rfl
  have c6_2 : v3.cell? ⟨g6, 2, none⟩ = some (.int .i64 c.gen) := (blk_cell K6_3.out 2).trans rfl
  have c6_3 : v3.cell? ⟨g6, 3, none⟩ = some (.int .i64 c.cpu) := (blk_cell K6_3.out 3).trans rfl
  have c6_4 : v3.cell? ⟨g6, 4, none⟩ = some (.int .i64 c.n) := (blk_cell K6_3.out 4).trans rfl
  have c6_5 : v3.cell? ⟨g6, 5, none⟩ = some (.int .i64 c.nice) := (blk_cell K6_3.out 5).trans rfl
  have c6_6 : v3.cell? ⟨g6, 6, none⟩ = some (.int .u64 c.mask) := (blk_cell K6_3.out 6).trans rfl
  go_wp2_with fail
  refine (print_ok OC.out HS.out _ (HLd.below HB3.out)).mono ?_
  rintro e v4 ⟨rfl, hb⟩
  have HB4 := Aside0.mk (below_step HB3.out hb)
  have K6_4 := Aside0.mk (blk_below K6_3.out hb)
  clear hb
  clear c6_0 c6_1 c6_2 c6_3 c6_4 c6_5 c6_6
  rw [← HPP.out]
  go_wp2_with fail
  refine (parse_as (s := P) (c := c) (r := 0) (by have h_ := HZ.out; omega) (by rw [HPP.out]; exact parse_print_ok OC.out HS.out) _ (HLd.below HB4.out)).mono ?_
  rintro e v5 ⟨rfl, hb⟩
  have HB5 := Aside0.mk (below_step HB4.out hb)
  have K6_5 := Aside0.mk (blk_below K6_4.out hb)
  clear hb
  go_upto_region 7 with fail
  have K9_6 : Aside0 ((v5.alloc (.cells #[.int .i64 c.op, .int .i64 c.slot, .int .i64 c.gen, .int .i64 c.cpu, .int .i64 c.n, .int .i64 c.nice, .int .u64 c.mask] 26)).heap[v5.heap.size]? = some (.cells #[.int .i64 c.op, .int .i64 c.slot, .int .i64 c.gen, .int .i64 c.cpu, .int .i64 c.n, .int .i64 c.nice, .int .u64 c.mask] 26)) := ⟨(blk_new v5 (.cells #[.int .i64 c.op, .int .i64 c.slot, .int .i64 c.gen, .int .i64 c.cpu, .int .i64 c.n, .int .i64 c.nice, .int .u64 c.mask] 26))⟩
  have K6_6 := Aside0.mk (blk_alloc K6_5.out (.cells #[.int .i64 c.op, .int .i64 c.slot, .int .i64 c.gen, .int .i64 c.cpu, .int .i64 c.n, .int .i64 c.nice, .int .u64 c.mask] 26))
  have HB6 := Aside0.mk (below_alloc HB5.out (.cells #[.int .i64 c.op, .int .i64 c.slot, .int .i64 c.gen, .int .i64 c.cpu, .int .i64 c.n, .int .i64 c.nice, .int .u64 c.mask] 26))
  generalize (v5.alloc (.cells #[.int .i64 c.op, .int .i64 c.slot, .int .i64 c.gen, .int .i64 c.cpu, .int .i64 c.n, .int .i64 c.nice, .int .u64 c.mask] 26)) = v6 at K9_6 K6_6 HB6 ⊢
  generalize v5.heap.size = g9 at K9_6 ⊢
  go_wp2_with fail
  refine (parse_as (c := call0) (r := 3) E1.out.2 (by rw [E1.out.1]; exact P1.out) _ (HLd.below HB6.out)).mono ?_
  rintro e v7 ⟨rfl, hb⟩
  have HB7 := Aside0.mk (below_step HB6.out hb)
  have K6_7 := Aside0.mk (blk_below K6_6.out hb)
  have K9_7 := Aside0.mk (blk_below K9_6.out hb)
  clear hb
  go_upto_region 8 with fail
  have K11_8 : Aside0 ((v7.alloc (.cells #[.int .i64 call0.op, .int .i64 call0.slot, .int .i64 call0.gen, .int .i64 call0.cpu, .int .i64 call0.n, .int .i64 call0.nice, .int .u64 call0.mask] 26)).heap[v7.heap.size]? = some (.cells #[.int .i64 call0.op, .int .i64 call0.slot, .int .i64 call0.gen, .int .i64 call0.cpu, .int .i64 call0.n, .int .i64 call0.nice, .int .u64 call0.mask] 26)) := ⟨(blk_new v7 (.cells #[.int .i64 call0.op, .int .i64 call0.slot, .int .i64 call0.gen, .int .i64 call0.cpu, .int .i64 call0.n, .int .i64 call0.nice, .int .u64 call0.mask] 26))⟩
  have K6_8 := Aside0.mk (blk_alloc K6_7.out (.cells #[.int .i64 call0.op, .int .i64 call0.slot, .int .i64 call0.gen, .int .i64 call0.cpu, .int .i64 call0.n, .int .i64 call0.nice, .int .u64 call0.mask] 26))
  have K9_8 := Aside0.mk (blk_alloc K9_7.out (.cells #[.int .i64 call0.op, .int .i64 call0.slot, .int .i64 call0.gen, .int .i64 call0.cpu, .int .i64 call0.n, .int .i64 call0.nice, .int .u64 call0.mask] 26))
  have HB8 := Aside0.mk (below_alloc HB7.out (.cells #[.int .i64 call0.op, .int .i64 call0.slot, .int .i64 call0.gen, .int .i64 call0.cpu, .int .i64 call0.n, .int .i64 call0.nice, .int .u64 call0.mask] 26))
  generalize (v7.alloc (.cells #[.int .i64 call0.op, .int .i64 call0.slot, .int .i64 call0.gen, .int .i64 call0.cpu, .int .i64 call0.n, .int .i64 call0.nice, .int .u64 call0.mask] 26)) = v8 at K11_8 K6_8 K9_8 HB8 ⊢
  generalize v7.heap.size = g11 at K11_8 ⊢
  go_wp2_with fail
  refine (parse_as (c := call0) (r := 3) E2.out.2 (by rw [E2.out.1]; exact P2.out) _ (HLd.below HB8.out)).mono ?_
  rintro e v9 ⟨rfl, hb⟩
  have HB9 := Aside0.mk (below_step HB8.out hb)
  have K6_9 := Aside0.mk (blk_below K6_8.out hb)
  have K9_9 := Aside0.mk (blk_below K9_8.out hb)
  have K11_9 := Aside0.mk (blk_below K11_8.out hb)
  clear hb
  go_upto_region 9 with fail
  have K13_10 : Aside0 ((v9.alloc (.cells #[.int .i64 call0.op, .int .i64 call0.slot, .int .i64 call0.gen, .int .i64 call0.cpu, .int .i64 call0.n, .int .i64 call0.nice, .int .u64 call0.mask] 26)).heap[v9.heap.size]? = some (.cells #[.int .i64 call0.op, .int .i64 call0.slot, .int .i64 call0.gen, .int .i64 call0.cpu, .int .i64 call0.n, .int .i64 call0.nice, .int .u64 call0.mask] 26)) := ⟨(blk_new v9 (.cells #[.int .i64 call0.op, .int .i64 call0.slot, .int .i64 call0.gen, .int .i64 call0.cpu, .int .i64 call0.n, .int .i64 call0.nice, .int .u64 call0.mask] 26))⟩
  have K6_10 := Aside0.mk (blk_alloc K6_9.out (.cells #[.int .i64 call0.op, .int .i64 call0.slot, .int .i64 call0.gen, .int .i64 call0.cpu, .int .i64 call0.n, .int .i64 call0.nice, .int .u64 call0.mask] 26))
  have K9_10 := Aside0.mk (blk_alloc K9_9.out (.cells #[.int .i64 call0.op, .int .i64 call0.slot, .int .i64 call0.gen, .int .i64 call0.cpu, .int .i64 call0.n, .int .i64 call0.nice, .int .u64 call0.mask] 26))
  have K11_10 := Aside0.mk (blk_alloc K11_9.out (.cells #[.int .i64 call0.op, .int .i64 call0.slot, .int .i64 call0.gen, .int .i64 call0.cpu, .int .i64 call0.n, .int .i64 call0.nice, .int .u64 call0.mask] 26))
  have HB10 := Aside0.mk (below_alloc HB9.out (.cells #[.int .i64 call0.op, .int .i64 call0.slot, .int .i64 call0.gen, .int .i64 call0.cpu, .int .i64 call0.n, .int .i64 call0.nice, .int .u64 call0.mask] 26))
  generalize (v9.alloc (.cells #[.int .i64 call0.op, .int .i64 call0.slot, .int .i64 call0.gen, .int .i64 call0.cpu, .int .i64 call0.n, .int .i64 call0.nice, .int .u64 call0.mask] 26)) = v10 at K13_10 K6_10 K9_10 K11_10 HB10 ⊢
  generalize v9.heap.size = g13 at K13_10 ⊢
  go_wp2_with fail
  go_loopw [15, 16] (fun v15 v16 wr => ∃ k : Nat, Aside0 (k ≤ s.length) ∧ v15 = .string ⟨(widen (s.take k)).toArray⟩ ∧ v16 = .int .i64 (k : Int) ∧ wr = v10) (fun v15 v16 _ => s.length - (intOf v16).toNat)
  case atStart => exact ⟨0, ⟨Nat.zero_le _⟩, rfl, rfl, rfl⟩
  case round =>
    obtain ⟨k, KL, rfl, rfl, rfl⟩ := hrel
    by_cases hk : k < s.length
    · obtain ⟨x, hx⟩ : ∃ x, s[k]? = some x := ⟨s[k], List.getElem?_eq_some_iff.2 ⟨hk, rfl⟩⟩
      have hPl : P.data.toList = s := by rw [HPP.out]
      have hidx := idx_at P k x (by rw [hPl]; exact hx)
      obtain ⟨B, hB⟩ : ∃ B : ByteArray, B = ⟨([x] : List UInt8).toArray⟩ := ⟨_, rfl⟩
      have hex : P.extract k (k + 1) = B := by
        rw [hB]
        apply bytes_of
        rw [extract_list, hPl, List.take_add_one, hx]
        rw [List.drop_left' (by rw [List.length_take]; omega)]; rfl
      obtain ⟨A, hA⟩ : ∃ A : ByteArray, A = ⟨(widen (s.take k)).toArray⟩ := ⟨_, rfl⟩
      rw [← hA]
      have hPz : P.size = s.length := by rw [size_list', hPl]
      have hAs : A.size ≤ 800 := by rw [hA, size_bytes]; have h_ := widen_len (s.take k); rw [List.length_take] at h_; have h2_ := L1.out; omega
      have hBs : B.size = 1 := by rw [hB]; rfl
      have c1 : (A.size + B.size ≤ 9223372036854775807) = True := eq_true (by omega)
      have c2 : (9223372036854775807 < A.size + B.size) = False := eq_false (by omega)
      have c3 : (A.size + B.size + 1 ≤ 9223372036854775807) = True := eq_true (by omega)
      have c4 : (9223372036854775807 < A.size + B.size + 1) = False := eq_false (by omega)
      have l1 : k < P.size := by omega
      have l2 : k + 1 ≤ P.size := by omega
      have lw : wrap64 ((k : Int) + 1) = (k : Int) + 1 := by unfold wrap64; have := L1.out; omega
      have hn := widen_next s k x hx
      have HN := Aside0.mk hn
      have HA := Aside0.mk hA
      have HB_ := Aside0.mk hB
      have HK := Aside0.mk hk
      clear hx hPl hB hA hPz hAs hBs hn hk
      by_cases hsp : x = 32
      · subst hsp
        go_wp2_with fail
        go_roundw
        case rel => exact ⟨k + 1, ⟨HK.out⟩, by rw [HN.out, if_pos rfl, HA.out, HB_.out, show (⟨#[32]⟩ : ByteArray) = ⟨([32] : List UInt8).toArray⟩ from rfl, cat_bytes, cat_bytes]; simp, by simp [lw], trivial⟩
        case measure => rw [lw]; exact meas_made HK.out
      · have e0 : ((x.toNat : Int) == 32) = false := by rw [beq_eq_false_iff_ne]; intro h; exact hsp (UInt8.toNat_inj.1 (by show x.toNat = 32; omega))
        have e1 : ((x.toNat : Int) = 32) = False := eq_false (fun h => hsp (UInt8.toNat_inj.1 (by show x.toNat = 32; omega)))
        have e2 : (x.toNat = 32) = False := eq_false (fun h => hsp (UInt8.toNat_inj.1 h))
        have HSP := Aside0.mk hsp
        clear hsp
        go_wp2_with fail
        go_roundw
        case rel => exact ⟨k + 1, ⟨HK.out⟩, by rw [HN.out, if_neg HSP.out, HA.out, HB_.out, cat_bytes], by simp [lw], trivial⟩
        case measure => rw [lw]; exact meas_made HK.out
    · obtain rfl : k = s.length := by have := KL.out; omega
      rw [List.take_length]
      have l1 : (s.length : Int) = (P.size : Int) := by rw [HPP.out, size_bytes]
      have l2 : ¬ (P.size < P.size) := Nat.lt_irrefl _
      rw [l1]
      obtain ⟨A, hA⟩ : ∃ A : ByteArray, A = ⟨(widen s).toArray⟩ := ⟨_, rfl⟩
      rw [← hA]
      have HA := Aside0.mk hA
      clear hA hk l1
      go_wp2_with fail
      refine (parse_as (s := A) (c := call0) (r := 3) (by rw [HA.out, size_bytes]; have h_ := widen_len s; have h2_ := L1.out; omega) (by rw [HA.out]; exact P3.out) _ (HLd.below HB10.out)).mono ?_
      rintro e v11 ⟨rfl, hb⟩
      have HB11 := Aside0.mk (below_step HB10.out hb)
      have K6_11 := Aside0.mk (blk_below K6_10.out hb)
      have K9_11 := Aside0.mk (blk_below K9_10.out hb)
      have K11_11 := Aside0.mk (blk_below K11_10.out hb)
      have K13_11 := Aside0.mk (blk_below K13_10.out hb)
      clear hb
      go_upto_region 17 with fail
      have K17_12 : Aside0 ((v11.alloc (.cells #[.int .i64 call0.op, .int .i64 call0.slot, .int .i64 call0.gen, .int .i64 call0.cpu, .int .i64 call0.n, .int .i64 call0.nice, .int .u64 call0.mask] 26)).heap[v11.heap.size]? = some (.cells #[.int .i64 call0.op, .int .i64 call0.slot, .int .i64 call0.gen, .int .i64 call0.cpu, .int .i64 call0.n, .int .i64 call0.nice, .int .u64 call0.mask] 26)) := ⟨(blk_new v11 (.cells #[.int .i64 call0.op, .int .i64 call0.slot, .int .i64 call0.gen, .int .i64 call0.cpu, .int .i64 call0.n, .int .i64 call0.nice, .int .u64 call0.mask] 26))⟩
      have K6_12 := Aside0.mk (blk_alloc K6_11.out (.cells #[.int .i64 call0.op, .int .i64 call0.slot, .int .i64 call0.gen, .int .i64 call0.cpu, .int .i64 call0.n, .int .i64 call0.nice, .int .u64 call0.mask] 26))
      have K9_12 := Aside0.mk (blk_alloc K9_11.out (.cells #[.int .i64 call0.op, .int .i64 call0.slot, .int .i64 call0.gen, .int .i64 call0.cpu, .int .i64 call0.n, .int .i64 call0.nice, .int .u64 call0.mask] 26))
      have K11_12 := Aside0.mk (blk_alloc K11_11.out (.cells #[.int .i64 call0.op, .int .i64 call0.slot, .int .i64 call0.gen, .int .i64 call0.cpu, .int .i64 call0.n, .int .i64 call0.nice, .int .u64 call0.mask] 26))
      have K13_12 := Aside0.mk (blk_alloc K13_11.out (.cells #[.int .i64 call0.op, .int .i64 call0.slot, .int .i64 call0.gen, .int .i64 call0.cpu, .int .i64 call0.n, .int .i64 call0.nice, .int .u64 call0.mask] 26))
      have HB12 := Aside0.mk (below_alloc HB11.out (.cells #[.int .i64 call0.op, .int .i64 call0.slot, .int .i64 call0.gen, .int .i64 call0.cpu, .int .i64 call0.n, .int .i64 call0.nice, .int .u64 call0.mask] 26))
      generalize (v11.alloc (.cells #[.int .i64 call0.op, .int .i64 call0.slot, .int .i64 call0.gen, .int .i64 call0.cpu, .int .i64 call0.n, .int .i64 call0.nice, .int .u64 call0.mask] 26)) = v12 at K17_12 K6_12 K9_12 K11_12 K13_12 HB12 ⊢
      generalize v11.heap.size = g17 at K17_12 ⊢
      have c9_0 : v12.cell? ⟨g9, 0, none⟩ = some (.int .i64 c.op) := (blk_cell K9_12.out 0).trans rfl
      have c9_1 : v12.cell? ⟨g9, 1, none⟩ = some (.int .i64 c.slot) := (blk_cell K9_12.out 1).trans rfl
      have c9_2 : v12.cell? ⟨g9, 2, none⟩ = some (.int .i64 c.gen) := (blk_cell K9_12.out 2).trans rfl
      have c9_3 : v12.cell? ⟨g9, 3, none⟩ = some (.int .i64 c.cpu) := (blk_cell K9_12.out 3).trans rfl
      have c9_4 : v12.cell? ⟨g9, 4, none⟩ = some (.int .i64 c.n) := (blk_cell K9_12.out 4).trans rfl
      have c9_5 : v12.cell? ⟨g9, 5, none⟩ = some (.int .i64 c.nice) := (blk_cell K9_12.out 5).trans rfl
      have c9_6 : v12.cell? ⟨g9, 6, none⟩ = some (.int .u64 c.mask) := (blk_cell K9_12.out 6).trans rfl
      have c6_0 : v12.cell? ⟨g6, 0, none⟩ = some (.int .i64 c.op) := (blk_cell K6_12.out 0).trans rfl
      have c6_1 : v12.cell? ⟨g6, 1, none⟩ = some (.int .i64 c.slot) := (blk_cell K6_12.out 1).trans rfl
      have c6_2 : v12.cell? ⟨g6, 2, none⟩ = some (.int .i64 c.gen) := (blk_cell K6_12.out 2).trans rfl
      have c6_3 : v12.cell? ⟨g6, 3, none⟩ = some (.int .i64 c.cpu) := (blk_cell K6_12.out 3).trans rfl
      have c6_4 : v12.cell? ⟨g6, 4, none⟩ = some (.int .i64 c.n) := (blk_cell K6_12.out 4).trans rfl
      have c6_5 : v12.cell? ⟨g6, 5, none⟩ = some (.int .i64 c.nice) := (blk_cell K6_12.out 5).trans rfl
      have c6_6 : v12.cell? ⟨g6, 6, none⟩ = some (.int .u64 c.mask) := (blk_cell K6_12.out 6).trans rfl
      have hq := same_call c
      go_wp2_with fail
      go_ret
      exact ⟨rfl, HB12.out⟩
end Go.Proofs.YtilmbpdfdickoaaDoor

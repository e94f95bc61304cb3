/- CallsOnly, walked. -/
import Derived.Test.YtilmbpdfdickoaaDoorPureCallsBack
namespace Go.Proofs.YtilmbpdfdickoaaDoor
open Go.RowKit Go.Proofs.YtilmbpdfdickoaaDoor.Given Go.Proofs.YtilmbpdfdickoaaDoor.Print Go.Proofs.YtilmbpdfdickoaaDoor.Pure Go.Proofs.YtilmbpdfdickoaaDoorW.PrintWords Go.Proofs.YtilmbpdfdickoaaDoorW.PrintLast Go.Proofs.YtilmbpdfdickoaaDoorW.PrintMore
set_option linter.unusedVariables false
set_option linter.unusedSimpArgs false
theorem i64_0 : I64 0 := ⟨by decide, by decide⟩
theorem u64_0 : u64I 0 := ⟨by decide, by decide⟩
theorem num_i64 {n : Nat} {l : List UInt8} (h : numT l = some n) : I64 (n : Int) := by
  have h1 := (numT_may h).1
  exact ⟨by have := h1.1; omega, by have := h1.2; omega⟩
theorem handle_i64 {l : List UInt8} {v : Int × Int} (h : handleV l = some v) : I64 v.1 ∧ I64 v.2 := by
  unfold handleV at h
  split at h
  · split at h
    · cases h
    · rename_i x hx
      split at h
      · cases h
      · rename_i y hy
        obtain rfl := Option.some.inj h
        exact ⟨num_i64 hx, num_i64 hy⟩
  · cases h
theorem readF_okc {k : UInt8} {c c' : CallS} {w : List UInt8} (ho : OkC c) (h : readF k c w = some c') : OkC c' := by
  unfold readF at h
  split at h
  · obtain ⟨v, hv, rfl⟩ := Option.map_eq_some_iff.1 h
    have hn := niceV_ok hv
    exact ⟨ho.op, ho.slot, ho.gen, ho.cpu, ho.n, ⟨by dsimp only; omega, by dsimp only; omega⟩, ho.mask⟩
  · split at h
    · split at h
      · obtain rfl := Option.some.inj h
        exact ⟨ho.op, ho.slot, ho.gen, ho.cpu, ho.n, ho.nice, parseS_u64 w⟩
      · cases h
    · split at h
      · obtain ⟨v, hv, rfl⟩ := Option.map_eq_some_iff.1 h
        exact ⟨ho.op, (handle_i64 hv).1, (handle_i64 hv).2, ho.cpu, ho.n, ho.nice, ho.mask⟩
      · split at h
        · obtain ⟨v, hv, rfl⟩ := Option.map_eq_some_iff.1 h
          exact ⟨ho.op, ho.slot, ho.gen, num_i64 hv, ho.n, ho.nice, ho.mask⟩
        · obtain ⟨v, hv, rfl⟩ := Option.map_eq_some_iff.1 h
          exact ⟨ho.op, ho.slot, ho.gen, ho.cpu, num_i64 hv, ho.nice, ho.mask⟩
theorem goRead_okc : ∀ (ks : List UInt8) (ws : List (List UInt8)) (c c' : CallS), OkC c → goRead ks ws c = some c' → OkC c'
  | [], [], c, c', ho, h => by obtain rfl := Option.some.inj h; exact ho
  | [], _ :: _, c, c', ho, h => by cases h
  | _ :: _, [], c, c', ho, h => by cases h
  | k :: ks, w :: ws, c, c', ho, h => by
    rw [goRead] at h
    cases hr : readF k c w with
    | none => rw [hr] at h; cases h
    | some c2 => rw [hr] at h; exact goRead_okc ks ws c2 c' (readF_okc ho hr) h
theorem parse_okc {l : List UInt8} {c : CallS} (h : parseC l = some c) : OkC c := by
  unfold parseC at h
  split at h
  · cases h
  · split at h
    · cases h
    · rename_i op ho
      obtain ⟨_, k, rfl⟩ := opOf_some ho
      have hk := k.isLt
      exact goRead_okc _ _ _ _ ⟨⟨by show (-9223372036854775808 : Int) ≤ ((k.val + 1 : Nat) : Int); omega, by show ((k.val + 1 : Nat) : Int) ≤ 9223372036854775807; omega⟩, i64_0, i64_0, i64_0, i64_0, i64_0, u64_0⟩ h
theorem hear_oka {l : List UInt8} {a : AnsS} (h : hearA l = some a) : OkA a := by
  unfold hearA at h
  split at h
  · split at h
    · cases h
    · rename_i n hn
      split at h
      · rename_i hc
        obtain rfl := Option.some.inj h
        exact ⟨num_i64 hn, i64_0, i64_0, i64_0⟩
      · split at h
        · obtain rfl := Option.some.inj h
          exact ⟨i64_0, num_i64 hn, i64_0, i64_0⟩
        · cases h
  · split at h
    · cases h
    · rename_i n hn
      split at h
      · split at h
        · cases h
        · rename_i v hv
          split at h
          · cases h
          · obtain rfl := Option.some.inj h
            exact ⟨i64_0, num_i64 hn, (handle_i64 hv).1, (handle_i64 hv).2⟩
      · cases h
  · cases h
theorem parse_cases (l : List UInt8) : (∃ c s, parseCS l = (c, 0) ∧ OkC c ∧ printC c = some s) ∨ ∃ r, parseCS l = (call0, r) ∧ (r = 2 ∨ r = 3) := by
  unfold parseCS
  split
  · exact .inr ⟨2, rfl, .inl rfl⟩
  · cases h : parseC l with
    | none => exact .inr ⟨3, rfl, .inr rfl⟩
    | some c =>
      obtain ⟨_, s, hs⟩ := print_of_parse h
      exact .inl ⟨c, s, rfl, parse_okc h, hs⟩
theorem hear_cases (l : List UInt8) : (∃ a, hearS l = (a, 0) ∧ OkA a ∧ sayS a = (l, 0)) ∨ ∃ r, hearS l = (ans0, r) ∧ (r = 2 ∨ r = 3) := by
  unfold hearS
  split
  · exact .inr ⟨2, rfl, .inl rfl⟩
  · cases h : hearA l with
    | none => exact .inr ⟨3, rfl, .inr rfl⟩
    | some a => exact .inl ⟨a, rfl, hear_oka h, by unfold sayS; rw [say_hear h]⟩
theorem say_ans0 : sayS ans0 = ([111, 107, 32, 48], 0) := by kernel_rfl
theorem print_call0 : printC call0 = none := by kernel_rfl
theorem ok_ans0 : OkA ans0 := ⟨⟨by decide, by decide⟩, ⟨by decide, by decide⟩, ⟨by decide, by decide⟩, ⟨by decide, by decide⟩⟩
theorem bytes_back (t : ByteArray) : (⟨t.data.toList.toArray⟩ : ByteArray) = t := by
  apply ByteArray.ext
  exact Array.toArray_toList
attribute [local go_sem high] eqA26 eqB36
set_option maxHeartbeats 8000000 in
set_option maxRecDepth 100000 in
theorem Walk.CallsOnly (s : ByteArray) (ws : s.size ≤ 140737488351232) (t : ByteArray) (wt : t.size ≤ 140737488351232) (w : World) (HLd : Ld w) :
    Calls Tryd.prog 7 #[.string s, .string t] w fun e w' => e = .returned (.bool true) ∧ Below w.heap.size w w' := by
  have hu26 := Tryd.underlying26
  have hu36 := Tryd.underlying36
  by_cases h1 : 1300 < s.size
  · have x0 : decide ((s.size : Int) > 1300) = true := decide_eq_true (by omega)
    have x1 : decide ((1300 : Int) < (s.size : Int)) = true := decide_eq_true (by omega)
    have x2 : decide (1300 < s.size) = true := decide_eq_true (by omega)
    clear h1 ws wt
    go_enter Tryd.func7, Tryd.ntmps7
    go_wp2_with fail
    refine (awake_c _ HLd).mono ?_
    rintro e v1 ⟨rfl, hb⟩
    have HB1 := Aside0.mk (hb)
    clear hb
    go_wp2_with fail
    go_ret
    exact ⟨rfl, HB1.out⟩
  · by_cases h2 : 1300 < t.size
    · have y0 : decide ((t.size : Int) > 1300) = true := decide_eq_true (by omega)
      have y1 : decide ((1300 : Int) < (t.size : Int)) = true := decide_eq_true (by omega)
      have y2 : decide (1300 < t.size) = true := decide_eq_true (by omega)
      have x0 : decide ((s.size : Int) > 1300) = false := decide_eq_false (by omega)
      have x1 : decide ((1300 : Int) < (s.size : Int)) = false := decide_eq_false (by omega)
      have x2 : decide (1300 < s.size) = false := decide_eq_false (by omega)
      clear h1 h2 ws wt
      go_enter Tryd.func7, Tryd.ntmps7
      go_wp2_with fail
      refine (awake_c _ HLd).mono ?_
      rintro e v1 ⟨rfl, hb⟩
      have HB1 := Aside0.mk (hb)
      clear hb
      go_wp2_with fail
      go_ret
      exact ⟨rfl, HB1.out⟩
    have SZ : Aside0 (s.size ≤ 4000000000) := ⟨by omega⟩
    have TZ : Aside0 (t.size ≤ 4000000000) := ⟨by omega⟩
    have x0 : decide ((s.size : Int) > 1300) = false := decide_eq_false (by omega)
    have x1 : decide ((1300 : Int) < (s.size : Int)) = false := decide_eq_false (by omega)
    have x2 : decide (1300 < s.size) = false := decide_eq_false (by omega)
    have y0 : decide ((t.size : Int) > 1300) = false := decide_eq_false (by omega)
    have y1 : decide ((1300 : Int) < (t.size : Int)) = false := decide_eq_false (by omega)
    have y2 : decide (1300 < t.size) = false := decide_eq_false (by omega)
    clear h1 h2 ws wt
    rcases parse_cases s.data.toList with ⟨c, u, hp, oc, hs⟩ | ⟨r, hp, hr⟩ <;> rcases hear_cases t.data.toList with ⟨a, hh, oa, hT⟩ | ⟨k, hh, hk⟩
    · have OC := Aside0.mk oc
      have HS := Aside0.mk hs
      clear oc hs
      have OA := Aside0.mk oa
      have HT := Aside0.mk hT
      clear oa hT
      have HP := Aside0.mk hp
      have HH := Aside0.mk hh
      clear hp hh
      go_enter Tryd.func7, Tryd.ntmps7
      go_wp2_with fail
      refine (awake_c _ HLd).mono ?_
      rintro e v1 ⟨rfl, hb⟩
      have HB1 := Aside0.mk (hb)
      clear hb
      go_wp2_with fail
      refine (parse_as (s := s) (c := c) (r := 0) SZ.out HP.out _ (HLd.below HB1.out)).mono ?_
      rintro e v2 ⟨rfl, hb⟩
      have HB2 := Aside0.mk (below_step HB1.out hb)
      clear hb
      go_upto_region 7 with fail
      have K6_3 : Aside0 ((v2.alloc (.cells #[.int .i64 c.op, .int .i64 c.slot, .int .i64 c.gen, .int .i64 c.cpu, .int .i64 c.n, .int .i64 c.nice, .int .u64 c.mask] 26)).heap[v2.heap.size]? = some (.cells #[.int .i64 c.op, .int .i64 c.slot, .int .i64 c.gen, .int .i64 c.cpu, .int .i64 c.n, .int .i64 c.nice, .int .u64 c.mask] 26)) := ⟨(blk_new v2 (.cells #[.int .i64 c.op, .int .i64 c.slot, .int .i64 c.gen, .int .i64 c.cpu, .int .i64 c.n, .int .i64 c.nice, .int .u64 c.mask] 26))⟩
      have HB3 := Aside0.mk (below_alloc HB2.out (.cells #[.int .i64 c.op, .int .i64 c.slot, .int .i64 c.gen, .int .i64 c.cpu, .int .i64 c.n, .int .i64 c.nice, .int .u64 c.mask] 26))
      generalize (v2.alloc (.cells #[.int .i64 c.op, .int .i64 c.slot, .int .i64 c.gen, .int .i64 c.cpu, .int .i64 c.n, .int .i64 c.nice, .int .u64 c.mask] 26)) = v3 at K6_3 HB3 ⊢
      generalize v2.heap.size = g6 at K6_3 ⊢
      have c6_0 : v3.cell? ⟨g6, 0, none⟩ = some (.int .i64 c.op) := (blk_cell K6_3.out 0).trans rfl
      have c6_1 : v3.cell? ⟨g6, 1, none⟩ = some (.int .i64 c.slot) := (blk_cell K6_3.out 1).trans rfl
      have c6_2 : v3.cell? ⟨g6, 2, none⟩ = some (.int .i64 c.gen) := (blk_cell K6_3.out 2).trans rfl
      have c6_3 : v3.cell? ⟨g6, 3, none⟩ = some (.int .i64 c.cpu) := (blk_cell K6_3.out 3).trans rfl
      have c6_4 : v3.cell? ⟨g6, 4, none⟩ = some (.int .i64 c.n) := (blk_cell K6_3.out 4).trans rfl
      have c6_5 : v3.cell? ⟨g6, 5, none⟩ = some (.int .i64 c.nice) := (blk_cell K6_3.out 5).trans rfl
      have c6_6 : v3.cell? ⟨g6, 6, none⟩ = some (.int .u64 c.mask) := (blk_cell K6_3.out 6).trans rfl
      go_wp2_with fail
      refine (print_ok OC.out HS.out _ (HLd.below HB3.out)).mono ?_
      rintro e v4 ⟨rfl, hb⟩
      have HB4 := Aside0.mk (below_step HB3.out hb)
      have K6_4 := Aside0.mk (blk_below K6_3.out hb)
      clear hb
      clear c6_0 c6_1 c6_2 c6_3 c6_4 c6_5 c6_6
      go_wp2_with fail
      refine (parse_as (s := ⟨u.toArray⟩) (c := c) (r := 0) (print_len OC.out HS.out) (parse_print_ok OC.out HS.out) _ (HLd.below HB4.out)).mono ?_
      rintro e v5 ⟨rfl, hb⟩
      have HB5 := Aside0.mk (below_step HB4.out hb)
      have K6_5 := Aside0.mk (blk_below K6_4.out hb)
      clear hb
      go_upto_region 9 with fail
      have K10_6 : Aside0 ((v5.alloc (.cells #[.int .i64 c.op, .int .i64 c.slot, .int .i64 c.gen, .int .i64 c.cpu, .int .i64 c.n, .int .i64 c.nice, .int .u64 c.mask] 26)).heap[v5.heap.size]? = some (.cells #[.int .i64 c.op, .int .i64 c.slot, .int .i64 c.gen, .int .i64 c.cpu, .int .i64 c.n, .int .i64 c.nice, .int .u64 c.mask] 26)) := ⟨(blk_new v5 (.cells #[.int .i64 c.op, .int .i64 c.slot, .int .i64 c.gen, .int .i64 c.cpu, .int .i64 c.n, .int .i64 c.nice, .int .u64 c.mask] 26))⟩
      have K6_6 := Aside0.mk (blk_alloc K6_5.out (.cells #[.int .i64 c.op, .int .i64 c.slot, .int .i64 c.gen, .int .i64 c.cpu, .int .i64 c.n, .int .i64 c.nice, .int .u64 c.mask] 26))
      have HB6 := Aside0.mk (below_alloc HB5.out (.cells #[.int .i64 c.op, .int .i64 c.slot, .int .i64 c.gen, .int .i64 c.cpu, .int .i64 c.n, .int .i64 c.nice, .int .u64 c.mask] 26))
      generalize (v5.alloc (.cells #[.int .i64 c.op, .int .i64 c.slot, .int .i64 c.gen, .int .i64 c.cpu, .int .i64 c.n, .int .i64 c.nice, .int .u64 c.mask] 26)) = v6 at K10_6 K6_6 HB6 ⊢
      generalize v5.heap.size = g10 at K10_6 ⊢
      have c10_0 : v6.cell? ⟨g10, 0, none⟩ = some (.int .i64 c.op) := (blk_cell K10_6.out 0).trans rfl
      have c10_1 : v6.cell? ⟨g10, 1, none⟩ = some (.int .i64 c.slot) := (blk_cell K10_6.out 1).trans rfl
      have c10_2 : v6.cell? ⟨g10, 2, none⟩ = some (.int .i64 c.gen) := (blk_cell K10_6.out 2).trans rfl
      have c10_3 : v6.cell? ⟨g10, 3, none⟩ = some (.int .i64 c.cpu) := (blk_cell K10_6.out 3).trans rfl
      have c10_4 : v6.cell? ⟨g10, 4, none⟩ = some (.int .i64 c.n) := (blk_cell K10_6.out 4).trans rfl
      have c10_5 : v6.cell? ⟨g10, 5, none⟩ = some (.int .i64 c.nice) := (blk_cell K10_6.out 5).trans rfl
      have c10_6 : v6.cell? ⟨g10, 6, none⟩ = some (.int .u64 c.mask) := (blk_cell K10_6.out 6).trans rfl
      have c6_0 : v6.cell? ⟨g6, 0, none⟩ = some (.int .i64 c.op) := (blk_cell K6_6.out 0).trans rfl
      have c6_1 : v6.cell? ⟨g6, 1, none⟩ = some (.int .i64 c.slot) := (blk_cell K6_6.out 1).trans rfl
      have c6_2 : v6.cell? ⟨g6, 2, none⟩ = some (.int .i64 c.gen) := (blk_cell K6_6.out 2).trans rfl
      have c6_3 : v6.cell? ⟨g6, 3, none⟩ = some (.int .i64 c.cpu) := (blk_cell K6_6.out 3).trans rfl
      have c6_4 : v6.cell? ⟨g6, 4, none⟩ = some (.int .i64 c.n) := (blk_cell K6_6.out 4).trans rfl
      have c6_5 : v6.cell? ⟨g6, 5, none⟩ = some (.int .i64 c.nice) := (blk_cell K6_6.out 5).trans rfl
      have c6_6 : v6.cell? ⟨g6, 6, none⟩ = some (.int .u64 c.mask) := (blk_cell K6_6.out 6).trans rfl
      have hq := same_call c
      have hz : (call0.op == 0 && ((call0.slot == 0 && (call0.gen == 0)) && (call0.cpu == 0 && (call0.n == 0 && (call0.nice == 0 && (call0.mask == 0)))))) = true := rfl
      go_wp2_with fail
      refine (hear_as (s := t) (a := a) (r := 0) TZ.out HH.out _ (HLd.below HB6.out)).mono ?_
      rintro e v7 ⟨rfl, hb⟩
      have HB7 := Aside0.mk (below_step HB6.out hb)
      have K6_7 := Aside0.mk (blk_below K6_6.out hb)
      have K10_7 := Aside0.mk (blk_below K10_6.out hb)
      clear hb
      clear c6_0 c6_1 c6_2 c6_3 c6_4 c6_5 c6_6
      clear c10_0 c10_1 c10_2 c10_3 c10_4 c10_5 c10_6
      clear hq hz
      go_upto_region 12 with fail
      have K12_8 : Aside0 ((v7.alloc (.cells #[.int .i64 a.errno, .int .i64 a.n, .int .i64 a.slot, .int .i64 a.gen] 36)).heap[v7.heap.size]? = some (.cells #[.int .i64 a.errno, .int .i64 a.n, .int .i64 a.slot, .int .i64 a.gen] 36)) := ⟨(blk_new v7 (.cells #[.int .i64 a.errno, .int .i64 a.n, .int .i64 a.slot, .int .i64 a.gen] 36))⟩
      have K6_8 := Aside0.mk (blk_alloc K6_7.out (.cells #[.int .i64 a.errno, .int .i64 a.n, .int .i64 a.slot, .int .i64 a.gen] 36))
      have K10_8 := Aside0.mk (blk_alloc K10_7.out (.cells #[.int .i64 a.errno, .int .i64 a.n, .int .i64 a.slot, .int .i64 a.gen] 36))
      have HB8 := Aside0.mk (below_alloc HB7.out (.cells #[.int .i64 a.errno, .int .i64 a.n, .int .i64 a.slot, .int .i64 a.gen] 36))
      generalize (v7.alloc (.cells #[.int .i64 a.errno, .int .i64 a.n, .int .i64 a.slot, .int .i64 a.gen] 36)) = v8 at K12_8 K6_8 K10_8 HB8 ⊢
      generalize v7.heap.size = g12 at K12_8 ⊢
      have c12_0 : v8.cell? ⟨g12, 0, none⟩ = some (.int .i64 a.errno) := (blk_cell K12_8.out 0).trans rfl
      have c12_1 : v8.cell? ⟨g12, 1, none⟩ = some (.int .i64 a.n) := (blk_cell K12_8.out 1).trans rfl
      have c12_2 : v8.cell? ⟨g12, 2, none⟩ = some (.int .i64 a.slot) := (blk_cell K12_8.out 2).trans rfl
      have c12_3 : v8.cell? ⟨g12, 3, none⟩ = some (.int .i64 a.gen) := (blk_cell K12_8.out 3).trans rfl
      go_wp2_with fail
      refine (say_as (a := a) (s := t.data.toList) (r := 0) OA.out.errno OA.out.n OA.out.slot OA.out.gen HT.out _ (HLd.below HB8.out)).mono ?_
      rintro e v9 ⟨rfl, hb⟩
      have HB9 := Aside0.mk (below_step HB8.out hb)
      have K6_9 := Aside0.mk (blk_below K6_8.out hb)
      have K10_9 := Aside0.mk (blk_below K10_8.out hb)
      have K12_9 := Aside0.mk (blk_below K12_8.out hb)
      clear hb
      clear c12_0 c12_1 c12_2 c12_3
      have c12_0 : v9.cell? ⟨g12, 0, none⟩ = some (.int .i64 a.errno) := (blk_cell K12_9.out 0).trans rfl
      have c12_1 : v9.cell? ⟨g12, 1, none⟩ = some (.int .i64 a.n) := (blk_cell K12_9.out 1).trans rfl
      have c12_2 : v9.cell? ⟨g12, 2, none⟩ = some (.int .i64 a.slot) := (blk_cell K12_9.out 2).trans rfl
      have c12_3 : v9.cell? ⟨g12, 3, none⟩ = some (.int .i64 a.gen) := (blk_cell K12_9.out 3).trans rfl
      rw [bytes_back t]
      have hz : (ans0.errno == 0 && (ans0.n == 0 && (ans0.slot == 0 && (ans0.gen == 0)))) = true := rfl
      go_wp2_with fail
      go_ret
      exact ⟨rfl, HB9.out⟩
    · have OC := Aside0.mk oc
      have HS := Aside0.mk hs
      clear oc hs
      have k0 : (k == 0) = false := by rcases hk with rfl | rfl <;> rfl
      have k2 : (k != 0) = true := by rcases hk with rfl | rfl <;> rfl
      have k1 : (k = 0) = False := eq_false (by omega)
      clear hk
      have HP := Aside0.mk hp
      have HH := Aside0.mk hh
      clear hp hh
      go_enter Tryd.func7, Tryd.ntmps7
      go_wp2_with fail
      refine (awake_c _ HLd).mono ?_
      rintro e v1 ⟨rfl, hb⟩
      have HB1 := Aside0.mk (hb)
      clear hb
      go_wp2_with fail
      refine (parse_as (s := s) (c := c) (r := 0) SZ.out HP.out _ (HLd.below HB1.out)).mono ?_
      rintro e v2 ⟨rfl, hb⟩
      have HB2 := Aside0.mk (below_step HB1.out hb)
      clear hb
      go_upto_region 7 with fail
      have K6_3 : Aside0 ((v2.alloc (.cells #[.int .i64 c.op, .int .i64 c.slot, .int .i64 c.gen, .int .i64 c.cpu, .int .i64 c.n, .int .i64 c.nice, .int .u64 c.mask] 26)).heap[v2.heap.size]? = some (.cells #[.int .i64 c.op, .int .i64 c.slot, .int .i64 c.gen, .int .i64 c.cpu, .int .i64 c.n, .int .i64 c.nice, .int .u64 c.mask] 26)) := ⟨(blk_new v2 (.cells #[.int .i64 c.op, .int .i64 c.slot, .int .i64 c.gen, .int .i64 c.cpu, .int .i64 c.n, .int .i64 c.nice, .int .u64 c.mask] 26))⟩
      have HB3 := Aside0.mk (below_alloc HB2.out (.cells #[.int .i64 c.op, .int .i64 c.slot, .int .i64 c.gen, .int .i64 c.cpu, .int .i64 c.n, .int .i64 c.nice, .int .u64 c.mask] 26))
      generalize (v2.alloc (.cells #[.int .i64 c.op, .int .i64 c.slot, .int .i64 c.gen, .int .i64 c.cpu, .int .i64 c.n, .int .i64 c.nice, .int .u64 c.mask] 26)) = v3 at K6_3 HB3 ⊢
      generalize v2.heap.size = g6 at K6_3 ⊢
      have c6_0 : v3.cell? ⟨g6, 0, none⟩ = some (.int .i64 c.op) := (blk_cell K6_3.out 0).trans rfl
      have c6_1 : v3.cell? ⟨g6, 1, none⟩ = some (.int .i64 c.slot) := (blk_cell K6_3.out 1).trans rfl
      have c6_2 : v3.cell? ⟨g6, 2, none⟩ = some (.int .i64 c.gen) := (blk_cell K6_3.out 2).trans rfl
      have c6_3 : v3.cell? ⟨g6, 3, none⟩ = some (.int .i64 c.cpu) := (blk_cell K6_3.out 3).trans rfl
      have c6_4 : v3.cell? ⟨g6, 4, none⟩ = some (.int .i64 c.n) := (blk_cell K6_3.out 4).trans rfl
      have c6_5 : v3.cell? ⟨g6, 5, none⟩ = some (.int .i64 c.nice) := (blk_cell K6_3.out 5).trans rfl
      have c6_6 : v3.cell? ⟨g6, 6, none⟩ = some (.int .u64 c.mask) := (blk_cell K6_3.out 6).trans rfl
      go_wp2_with fail
      refine (print_ok OC.out HS.out _ (HLd.below HB3.out)).mono ?_
      rintro e v4 ⟨rfl, hb⟩
      have HB4 := Aside0.mk (below_step HB3.out hb)
      have K6_4 := Aside0.mk (blk_below K6_3.out hb)
      clear hb
      clear c6_0 c6_1 c6_2 c6_3 c6_4 c6_5 c6_6
      go_wp2_with fail
      refine (parse_as (s := ⟨u.toArray⟩) (c := c) (r := 0) (print_len OC.out HS.out) (parse_print_ok OC.out HS.out) _ (HLd.below HB4.out)).mono ?_
      rintro e v5 ⟨rfl, hb⟩
      have HB5 := Aside0.mk (below_step HB4.out hb)
      have K6_5 := Aside0.mk (blk_below K6_4.out hb)
      clear hb
      go_upto_region 9 with fail
      have K10_6 : Aside0 ((v5.alloc (.cells #[.int .i64 c.op, .int .i64 c.slot, .int .i64 c.gen, .int .i64 c.cpu, .int .i64 c.n, .int .i64 c.nice, .int .u64 c.mask] 26)).heap[v5.heap.size]? = some (.cells #[.int .i64 c.op, .int .i64 c.slot, .int .i64 c.gen, .int .i64 c.cpu, .int .i64 c.n, .int .i64 c.nice, .int .u64 c.mask] 26)) := ⟨(blk_new v5 (.cells #[.int .i64 c.op, .int .i64 c.slot, .int .i64 c.gen, .int .i64 c.cpu, .int .i64 c.n, .int .i64 c.nice, .int .u64 c.mask] 26))⟩
      have K6_6 := Aside0.mk (blk_alloc K6_5.out (.cells #[.int .i64 c.op, .int .i64 c.slot, .int .i64 c.gen, .int .i64 c.cpu, .int .i64 c.n, .int .i64 c.nice, .int .u64 c.mask] 26))
      have HB6 := Aside0.mk (below_alloc HB5.out (.cells #[.int .i64 c.op, .int .i64 c.slot, .int .i64 c.gen, .int .i64 c.cpu, .int .i64 c.n, .int .i64 c.nice, .int .u64 c.mask] 26))
      generalize (v5.alloc (.cells #[.int .i64 c.op, .int .i64 c.slot, .int .i64 c.gen, .int .i64 c.cpu, .int .i64 c.n, .int .i64 c.nice, .int .u64 c.mask] 26)) = v6 at K10_6 K6_6 HB6 ⊢
      generalize v5.heap.size = g10 at K10_6 ⊢
      have c10_0 : v6.cell? ⟨g10, 0, none⟩ = some (.int .i64 c.op) := (blk_cell K10_6.out 0).trans rfl
      have c10_1 : v6.cell? ⟨g10, 1, none⟩ = some (.int .i64 c.slot) := (blk_cell K10_6.out 1).trans rfl
      have c10_2 : v6.cell? ⟨g10, 2, none⟩ = some (.int .i64 c.gen) := (blk_cell K10_6.out 2).trans rfl
      have c10_3 : v6.cell? ⟨g10, 3, none⟩ = some (.int .i64 c.cpu) := (blk_cell K10_6.out 3).trans rfl
      have c10_4 : v6.cell? ⟨g10, 4, none⟩ = some (.int .i64 c.n) := (blk_cell K10_6.out 4).trans rfl
      have c10_5 : v6.cell? ⟨g10, 5, none⟩ = some (.int .i64 c.nice) := (blk_cell K10_6.out 5).trans rfl
      have c10_6 : v6.cell? ⟨g10, 6, none⟩ = some (.int .u64 c.mask) := (blk_cell K10_6.out 6).trans rfl
      have c6_0 : v6.cell? ⟨g6, 0, none⟩ = some (.int .i64 c.op) := (blk_cell K6_6.out 0).trans rfl
      have c6_1 : v6.cell? ⟨g6, 1, none⟩ = some (.int .i64 c.slot) := (blk_cell K6_6.out 1).trans rfl
      have c6_2 : v6.cell? ⟨g6, 2, none⟩ = some (.int .i64 c.gen) := (blk_cell K6_6.out 2).trans rfl
      have c6_3 : v6.cell? ⟨g6, 3, none⟩ = some (.int .i64 c.cpu) := (blk_cell K6_6.out 3).trans rfl
      have c6_4 : v6.cell? ⟨g6, 4, none⟩ = some (.int .i64 c.n) := (blk_cell K6_6.out 4).trans rfl
      have c6_5 : v6.cell? ⟨g6, 5, none⟩ = some (.int .i64 c.nice) := (blk_cell K6_6.out 5).trans rfl
      have c6_6 : v6.cell? ⟨g6, 6, none⟩ = some (.int .u64 c.mask) := (blk_cell K6_6.out 6).trans rfl
      have hq := same_call c
      have hz : (call0.op == 0 && ((call0.slot == 0 && (call0.gen == 0)) && (call0.cpu == 0 && (call0.n == 0 && (call0.nice == 0 && (call0.mask == 0)))))) = true := rfl
      go_wp2_with fail
      refine (hear_as (s := t) (a := ans0) (r := k) TZ.out HH.out _ (HLd.below HB6.out)).mono ?_
      rintro e v7 ⟨rfl, hb⟩
      have HB7 := Aside0.mk (below_step HB6.out hb)
      have K6_7 := Aside0.mk (blk_below K6_6.out hb)
      have K10_7 := Aside0.mk (blk_below K10_6.out hb)
      clear hb
      clear c6_0 c6_1 c6_2 c6_3 c6_4 c6_5 c6_6
      clear c10_0 c10_1 c10_2 c10_3 c10_4 c10_5 c10_6
      clear hq hz
      go_upto_region 12 with fail
      have K12_8 : Aside0 ((v7.alloc (.cells #[.int .i64 ans0.errno, .int .i64 ans0.n, .int .i64 ans0.slot, .int .i64 ans0.gen] 36)).heap[v7.heap.size]? = some (.cells #[.int .i64 ans0.errno, .int .i64 ans0.n, .int .i64 ans0.slot, .int .i64 ans0.gen] 36)) := ⟨(blk_new v7 (.cells #[.int .i64 ans0.errno, .int .i64 ans0.n, .int .i64 ans0.slot, .int .i64 ans0.gen] 36))⟩
      have K6_8 := Aside0.mk (blk_alloc K6_7.out (.cells #[.int .i64 ans0.errno, .int .i64 ans0.n, .int .i64 ans0.slot, .int .i64 ans0.gen] 36))
      have K10_8 := Aside0.mk (blk_alloc K10_7.out (.cells #[.int .i64 ans0.errno, .int .i64 ans0.n, .int .i64 ans0.slot, .int .i64 ans0.gen] 36))
      have HB8 := Aside0.mk (below_alloc HB7.out (.cells #[.int .i64 ans0.errno, .int .i64 ans0.n, .int .i64 ans0.slot, .int .i64 ans0.gen] 36))
      generalize (v7.alloc (.cells #[.int .i64 ans0.errno, .int .i64 ans0.n, .int .i64 ans0.slot, .int .i64 ans0.gen] 36)) = v8 at K12_8 K6_8 K10_8 HB8 ⊢
      generalize v7.heap.size = g12 at K12_8 ⊢
      have c12_0 : v8.cell? ⟨g12, 0, none⟩ = some (.int .i64 ans0.errno) := (blk_cell K12_8.out 0).trans rfl
      have c12_1 : v8.cell? ⟨g12, 1, none⟩ = some (.int .i64 ans0.n) := (blk_cell K12_8.out 1).trans rfl
      have c12_2 : v8.cell? ⟨g12, 2, none⟩ = some (.int .i64 ans0.slot) := (blk_cell K12_8.out 2).trans rfl
      have c12_3 : v8.cell? ⟨g12, 3, none⟩ = some (.int .i64 ans0.gen) := (blk_cell K12_8.out 3).trans rfl
      go_wp2_with fail
      refine (say_as (a := ans0) (s := [111, 107, 32, 48]) (r := 0) ok_ans0.errno ok_ans0.n ok_ans0.slot ok_ans0.gen say_ans0 _ (HLd.below HB8.out)).mono ?_
      rintro e v9 ⟨rfl, hb⟩
      have HB9 := Aside0.mk (below_step HB8.out hb)
      have K6_9 := Aside0.mk (blk_below K6_8.out hb)
      have K10_9 := Aside0.mk (blk_below K10_8.out hb)
      have K12_9 := Aside0.mk (blk_below K12_8.out hb)
      clear hb
      clear c12_0 c12_1 c12_2 c12_3
      have c12_0 : v9.cell? ⟨g12, 0, none⟩ = some (.int .i64 ans0.errno) := (blk_cell K12_9.out 0).trans rfl
      have c12_1 : v9.cell? ⟨g12, 1, none⟩ = some (.int .i64 ans0.n) := (blk_cell K12_9.out 1).trans rfl
      have c12_2 : v9.cell? ⟨g12, 2, none⟩ = some (.int .i64 ans0.slot) := (blk_cell K12_9.out 2).trans rfl
      have c12_3 : v9.cell? ⟨g12, 3, none⟩ = some (.int .i64 ans0.gen) := (blk_cell K12_9.out 3).trans rfl
      have hz : (ans0.errno == 0 && (ans0.n == 0 && (ans0.slot == 0 && (ans0.gen == 0)))) = true := rfl
      go_wp2_with fail
      go_ret
      exact ⟨rfl, HB9.out⟩
    · have r0 : (r == 0) = false := by rcases hr with rfl | rfl <;> rfl
      have r2 : (r != 0) = true := by rcases hr with rfl | rfl <;> rfl
      have r1 : (r = 0) = False := eq_false (by omega)
      clear hr
      have OA := Aside0.mk oa
      have HT := Aside0.mk hT
      clear oa hT
      have HP := Aside0.mk hp
      have HH := Aside0.mk hh
      clear hp hh
      go_enter Tryd.func7, Tryd.ntmps7
      go_wp2_with fail
      refine (awake_c _ HLd).mono ?_
      rintro e v1 ⟨rfl, hb⟩
      have HB1 := Aside0.mk (hb)
      clear hb
      go_wp2_with fail
      refine (parse_as (s := s) (c := call0) (r := r) SZ.out HP.out _ (HLd.below HB1.out)).mono ?_
      rintro e v2 ⟨rfl, hb⟩
      have HB2 := Aside0.mk (below_step HB1.out hb)
      clear hb
      go_upto_region 7 with fail
      have K6_3 : Aside0 ((v2.alloc (.cells #[.int .i64 call0.op, .int .i64 call0.slot, .int .i64 call0.gen, .int .i64 call0.cpu, .int .i64 call0.n, .int .i64 call0.nice, .int .u64 call0.mask] 26)).heap[v2.heap.size]? = some (.cells #[.int .i64 call0.op, .int .i64 call0.slot, .int .i64 call0.gen, .int .i64 call0.cpu, .int .i64 call0.n, .int .i64 call0.nice, .int .u64 call0.mask] 26)) := ⟨(blk_new v2 (.cells #[.int .i64 call0.op, .int .i64 call0.slot, .int .i64 call0.gen, .int .i64 call0.cpu, .int .i64 call0.n, .int .i64 call0.nice, .int .u64 call0.mask] 26))⟩
      have HB3 := Aside0.mk (below_alloc HB2.out (.cells #[.int .i64 call0.op, .int .i64 call0.slot, .int .i64 call0.gen, .int .i64 call0.cpu, .int .i64 call0.n, .int .i64 call0.nice, .int .u64 call0.mask] 26))
      generalize (v2.alloc (.cells #[.int .i64 call0.op, .int .i64 call0.slot, .int .i64 call0.gen, .int .i64 call0.cpu, .int .i64 call0.n, .int .i64 call0.nice, .int .u64 call0.mask] 26)) = v3 at K6_3 HB3 ⊢
      generalize v2.heap.size = g6 at K6_3 ⊢
      have c6_0 : v3.cell? ⟨g6, 0, none⟩ = some (.int .i64 call0.op) := (blk_cell K6_3.out 0).trans rfl
      have c6_1 : v3.cell? ⟨g6, 1, none⟩ = some (.int .i64 call0.slot) := (blk_cell K6_3.out 1).trans rfl
      have c6_2 : v3.cell? ⟨g6, 2, none⟩ = some (.int .i64 call0.gen) := (blk_cell K6_3.out 2).trans rfl
      have c6_3 : v3.cell? ⟨g6, 3, none⟩ = some (.int .i64 call0.cpu) := (blk_cell K6_3.out 3).trans rfl
      have c6_4 : v3.cell? ⟨g6, 4, none⟩ = some (.int .i64 call0.n) := (blk_cell K6_3.out 4).trans rfl
      have c6_5 : v3.cell? ⟨g6, 5, none⟩ = some (.int .i64 call0.nice) := (blk_cell K6_3.out 5).trans rfl
      have c6_6 : v3.cell? ⟨g6, 6, none⟩ = some (.int .u64 call0.mask) := (blk_cell K6_3.out 6).trans rfl
      go_wp2_with fail
      refine (print_no ok_call0 print_call0 _ (HLd.below HB3.out)).mono ?_
      rintro e v4 ⟨rfl, hb⟩
      have HB4 := Aside0.mk (below_step HB3.out hb)
      have K6_4 := Aside0.mk (blk_below K6_3.out hb)
      clear hb
      clear c6_0 c6_1 c6_2 c6_3 c6_4 c6_5 c6_6
      go_wp2_with fail
      refine (parse_as (s := ⟨#[]⟩) (c := call0) (r := 3) (by decide) parse_nil _ (HLd.below HB4.out)).mono ?_
      rintro e v5 ⟨rfl, hb⟩
      have HB5 := Aside0.mk (below_step HB4.out hb)
      have K6_5 := Aside0.mk (blk_below K6_4.out hb)
      clear hb
      go_upto_region 9 with fail
      have K10_6 : Aside0 ((v5.alloc (.cells #[.int .i64 call0.op, .int .i64 call0.slot, .int .i64 call0.gen, .int .i64 call0.cpu, .int .i64 call0.n, .int .i64 call0.nice, .int .u64 call0.mask] 26)).heap[v5.heap.size]? = some (.cells #[.int .i64 call0.op, .int .i64 call0.slot, .int .i64 call0.gen, .int .i64 call0.cpu, .int .i64 call0.n, .int .i64 call0.nice, .int .u64 call0.mask] 26)) := ⟨(blk_new v5 (.cells #[.int .i64 call0.op, .int .i64 call0.slot, .int .i64 call0.gen, .int .i64 call0.cpu, .int .i64 call0.n, .int .i64 call0.nice, .int .u64 call0.mask] 26))⟩
      have K6_6 := Aside0.mk (blk_alloc K6_5.out (.cells #[.int .i64 call0.op, .int .i64 call0.slot, .int .i64 call0.gen, .int .i64 call0.cpu, .int .i64 call0.n, .int .i64 call0.nice, .int .u64 call0.mask] 26))
      have HB6 := Aside0.mk (below_alloc HB5.out (.cells #[.int .i64 call0.op, .int .i64 call0.slot, .int .i64 call0.gen, .int .i64 call0.cpu, .int .i64 call0.n, .int .i64 call0.nice, .int .u64 call0.mask] 26))
      generalize (v5.alloc (.cells #[.int .i64 call0.op, .int .i64 call0.slot, .int .i64 call0.gen, .int .i64 call0.cpu, .int .i64 call0.n, .int .i64 call0.nice, .int .u64 call0.mask] 26)) = v6 at K10_6 K6_6 HB6 ⊢
      generalize v5.heap.size = g10 at K10_6 ⊢
      have c10_0 : v6.cell? ⟨g10, 0, none⟩ = some (.int .i64 call0.op) := (blk_cell K10_6.out 0).trans rfl
      have c10_1 : v6.cell? ⟨g10, 1, none⟩ = some (.int .i64 call0.slot) := (blk_cell K10_6.out 1).trans rfl
      have c10_2 : v6.cell? ⟨g10, 2, none⟩ = some (.int .i64 call0.gen) := (blk_cell K10_6.out 2).trans rfl
      have c10_3 : v6.cell? ⟨g10, 3, none⟩ = some (.int .i64 call0.cpu) := (blk_cell K10_6.out 3).trans rfl
      have c10_4 : v6.cell? ⟨g10, 4, none⟩ = some (.int .i64 call0.n) := (blk_cell K10_6.out 4).trans rfl
      have c10_5 : v6.cell? ⟨g10, 5, none⟩ = some (.int .i64 call0.nice) := (blk_cell K10_6.out 5).trans rfl
      have c10_6 : v6.cell? ⟨g10, 6, none⟩ = some (.int .u64 call0.mask) := (blk_cell K10_6.out 6).trans rfl
      have c6_0 : v6.cell? ⟨g6, 0, none⟩ = some (.int .i64 call0.op) := (blk_cell K6_6.out 0).trans rfl
      have c6_1 : v6.cell? ⟨g6, 1, none⟩ = some (.int .i64 call0.slot) := (blk_cell K6_6.out 1).trans rfl
      have c6_2 : v6.cell? ⟨g6, 2, none⟩ = some (.int .i64 call0.gen) := (blk_cell K6_6.out 2).trans rfl
      have c6_3 : v6.cell? ⟨g6, 3, none⟩ = some (.int .i64 call0.cpu) := (blk_cell K6_6.out 3).trans rfl
      have c6_4 : v6.cell? ⟨g6, 4, none⟩ = some (.int .i64 call0.n) := (blk_cell K6_6.out 4).trans rfl
      have c6_5 : v6.cell? ⟨g6, 5, none⟩ = some (.int .i64 call0.nice) := (blk_cell K6_6.out 5).trans rfl
      have c6_6 : v6.cell? ⟨g6, 6, none⟩ = some (.int .u64 call0.mask) := (blk_cell K6_6.out 6).trans rfl
      have hq := same_call call0
      have hz : (call0.op == 0 && ((call0.slot == 0 && (call0.gen == 0)) && (call0.cpu == 0 && (call0.n == 0 && (call0.nice == 0 && (call0.mask == 0)))))) = true := rfl
      go_wp2_with fail
      refine (hear_as (s := t) (a := a) (r := 0) TZ.out HH.out _ (HLd.below HB6.out)).mono ?_
      rintro e v7 ⟨rfl, hb⟩
      have HB7 := Aside0.mk (below_step HB6.out hb)
      have K6_7 := Aside0.mk (blk_below K6_6.out hb)
      have K10_7 := Aside0.mk (blk_below K10_6.out hb)
      clear hb
      clear c6_0 c6_1 c6_2 c6_3 c6_4 c6_5 c6_6
      clear c10_0 c10_1 c10_2 c10_3 c10_4 c10_5 c10_6
      clear hq hz
      go_upto_region 12 with fail
      have K12_8 : Aside0 ((v7.alloc (.cells #[.int .i64 a.errno, .int .i64 a.n, .int .i64 a.slot, .int .i64 a.gen] 36)).heap[v7.heap.size]? = some (.cells #[.int .i64 a.errno, .int .i64 a.n, .int .i64 a.slot, .int .i64 a.gen] 36)) := ⟨(blk_new v7 (.cells #[.int .i64 a.errno, .int .i64 a.n, .int .i64 a.slot, .int .i64 a.gen] 36))⟩
      have K6_8 := Aside0.mk (blk_alloc K6_7.out (.cells #[.int .i64 a.errno, .int .i64 a.n, .int .i64 a.slot, .int .i64 a.gen] 36))
      have K10_8 := Aside0.mk (blk_alloc K10_7.out (.cells #[.int .i64 a.errno, .int .i64 a.n, .int .i64 a.slot, .int .i64 a.gen] 36))
      have HB8 := Aside0.mk (below_alloc HB7.out (.cells #[.int .i64 a.errno, .int .i64 a.n, .int .i64 a.slot, .int .i64 a.gen] 36))
      generalize (v7.alloc (.cells #[.int .i64 a.errno, .int .i64 a.n, .int .i64 a.slot, .int .i64 a.gen] 36)) = v8 at K12_8 K6_8 K10_8 HB8 ⊢
      generalize v7.heap.size = g12 at K12_8 ⊢
      have c12_0 : v8.cell? ⟨g12, 0, none⟩ = some (.int .i64 a.errno) := (blk_cell K12_8.out 0).trans rfl
      have c12_1 : v8.cell? ⟨g12, 1, none⟩ = some (.int .i64 a.n) := (blk_cell K12_8.out 1).trans rfl
      have c12_2 : v8.cell? ⟨g12, 2, none⟩ = some (.int .i64 a.slot) := (blk_cell K12_8.out 2).trans rfl
      have c12_3 : v8.cell? ⟨g12, 3, none⟩ = some (.int .i64 a.gen) := (blk_cell K12_8.out 3).trans rfl
      go_wp2_with fail
      refine (say_as (a := a) (s := t.data.toList) (r := 0) OA.out.errno OA.out.n OA.out.slot OA.out.gen HT.out _ (HLd.below HB8.out)).mono ?_
      rintro e v9 ⟨rfl, hb⟩
      have HB9 := Aside0.mk (below_step HB8.out hb)
      have K6_9 := Aside0.mk (blk_below K6_8.out hb)
      have K10_9 := Aside0.mk (blk_below K10_8.out hb)
      have K12_9 := Aside0.mk (blk_below K12_8.out hb)
      clear hb
      clear c12_0 c12_1 c12_2 c12_3
      have c12_0 : v9.cell? ⟨g12, 0, none⟩ = some (.int .i64 a.errno) := (blk_cell K12_9.out 0).trans rfl
      have c12_1 : v9.cell? ⟨g12, 1, none⟩ = some (.int .i64 a.n) := (blk_cell K12_9.out 1).trans rfl
      have c12_2 : v9.cell? ⟨g12, 2, none⟩ = some (.int .i64 a.slot) := (blk_cell K12_9.out 2).trans rfl
      have c12_3 : v9.cell? ⟨g12, 3, none⟩ = some (.int .i64 a.gen) := (blk_cell K12_9.out 3).trans rfl
      rw [bytes_back t]
      have hz : (ans0.errno == 0 && (ans0.n == 0 && (ans0.slot == 0 && (ans0.gen == 0)))) = true := rfl
      go_wp2_with fail
      go_ret
      exact ⟨rfl, HB9.out⟩
    · have r0 : (r == 0) = false := by rcases hr with rfl | rfl <;> rfl
      have r2 : (r != 0) = true := by rcases hr with rfl | rfl <;> rfl
      have r1 : (r = 0) = False := eq_false (by omega)
      clear hr
      have k0 : (k == 0) = false := by rcases hk with rfl | rfl <;> rfl
      have k2 : (k != 0) = true := by rcases hk with rfl | rfl <;> rfl
      have k1 : (k = 0) = False := eq_false (by omega)
      clear hk
      have HP := Aside0.mk hp
      have HH := Aside0.mk hh
      clear hp hh
      go_enter Tryd.func7, Tryd.ntmps7
      go_wp2_with fail
      refine (awake_c _ HLd).mono ?_
      rintro e v1 ⟨rfl, hb⟩
      have HB1 := Aside0.mk (hb)
      clear hb
      go_wp2_with fail
      refine (parse_as (s := s) (c := call0) (r := r) SZ.out HP.out _ (HLd.below HB1.out)).mono ?_
      rintro e v2 ⟨rfl, hb⟩
      have HB2 := Aside0.mk (below_step HB1.out hb)
      clear hb
      go_upto_region 7 with fail
      have K6_3 : Aside0 ((v2.alloc (.cells #[.int .i64 call0.op, .int .i64 call0.slot, .int .i64 call0.gen, .int .i64 call0.cpu, .int .i64 call0.n, .int .i64 call0.nice, .int .u64 call0.mask] 26)).heap[v2.heap.size]? = some (.cells #[.int .i64 call0.op, .int .i64 call0.slot, .int .i64 call0.gen, .int .i64 call0.cpu, .int .i64 call0.n, .int .i64 call0.nice, .int .u64 call0.mask] 26)) := ⟨(blk_new v2 (.cells #[.int .i64 call0.op, .int .i64 call0.slot, .int .i64 call0.gen, .int .i64 call0.cpu, .int .i64 call0.n, .int .i64 call0.nice, .int .u64 call0.mask] 26))⟩
      have HB3 := Aside0.mk (below_alloc HB2.out (.cells #[.int .i64 call0.op, .int .i64 call0.slot, .int .i64 call0.gen, .int .i64 call0.cpu, .int .i64 call0.n, .int .i64 call0.nice, .int .u64 call0.mask] 26))
      generalize (v2.alloc (.cells #[.int .i64 call0.op, .int .i64 call0.slot, .int .i64 call0.gen, .int .i64 call0.cpu, .int .i64 call0.n, .int .i64 call0.nice, .int .u64 call0.mask] 26)) = v3 at K6_3 HB3 ⊢
      generalize v2.heap.size = g6 at K6_3 ⊢
      have c6_0 : v3.cell? ⟨g6, 0, none⟩ = some (.int .i64 call0.op) := (blk_cell K6_3.out 0).trans rfl
      have c6_1 : v3.cell? ⟨g6, 1, none⟩ = some (.int .i64 call0.slot) := (blk_cell K6_3.out 1).trans rfl
      have c6_2 : v3.cell? ⟨g6, 2, none⟩ = some (.int .i64 call0.gen) := (blk_cell K6_3.out 2).trans rfl
      have c6_3 : v3.cell? ⟨g6, 3, none⟩ = some (.int .i64 call0.cpu) := (blk_cell K6_3.out 3).trans rfl
      have c6_4 : v3.cell? ⟨g6, 4, none⟩ = some (.int .i64 call0.n) := (blk_cell K6_3.out 4).trans rfl
      have c6_5 : v3.cell? ⟨g6, 5, none⟩ = some (.int .i64 call0.nice) := (blk_cell K6_3.out 5).trans rfl
      have c6_6 : v3.cell? ⟨g6, 6, none⟩ = some (.int .u64 call0.mask) := (blk_cell K6_3.out 6).trans rfl
      go_wp2_with fail
      refine (print_no ok_call0 print_call0 _ (HLd.below HB3.out)).mono ?_
      rintro e v4 ⟨rfl, hb⟩
      have HB4 := Aside0.mk (below_step HB3.out hb)
      have K6_4 := Aside0.mk (blk_below K6_3.out hb)
      clear hb
      clear c6_0 c6_1 c6_2 c6_3 c6_4 c6_5 c6_6
      go_wp2_with fail
      refine (parse_as (s := ⟨#[]⟩) (c := call0) (r := 3) (by decide) parse_nil _ (HLd.below HB4.out)).mono ?_
      rintro e v5 ⟨rfl, hb⟩
      have HB5 := Aside0.mk (below_step HB4.out hb)
      have K6_5 := Aside0.mk (blk_below K6_4.out hb)
      clear hb
      go_upto_region 9 with fail
      have K10_6 : Aside0 ((v5.alloc (.cells #[.int .i64 call0.op, .int .i64 call0.slot, .int .i64 call0.gen, .int .i64 call0.cpu, .int .i64 call0.n, .int .i64 call0.nice, .int .u64 call0.mask] 26)).heap[v5.heap.size]? = some (.cells #[.int .i64 call0.op, .int .i64 call0.slot, .int .i64 call0.gen, .int .i64 call0.cpu, .int .i64 call0.n, .int .i64 call0.nice, .int .u64 call0.mask] 26)) := ⟨(blk_new v5 (.cells #[.int .i64 call0.op, .int .i64 call0.slot, .int .i64 call0.gen, .int .i64 call0.cpu, .int .i64 call0.n, .int .i64 call0.nice, .int .u64 call0.mask] 26))⟩
      have K6_6 := Aside0.mk (blk_alloc K6_5.out (.cells #[.int .i64 call0.op, .int .i64 call0.slot, .int .i64 call0.gen, .int .i64 call0.cpu, .int .i64 call0.n, .int .i64 call0.nice, .int .u64 call0.mask] 26))
      have HB6 := Aside0.mk (below_alloc HB5.out (.cells #[.int .i64 call0.op, .int .i64 call0.slot, .int .i64 call0.gen, .int .i64 call0.cpu, .int .i64 call0.n, .int .i64 call0.nice, .int .u64 call0.mask] 26))
      generalize (v5.alloc (.cells #[.int .i64 call0.op, .int .i64 call0.slot, .int .i64 call0.gen, .int .i64 call0.cpu, .int .i64 call0.n, .int .i64 call0.nice, .int .u64 call0.mask] 26)) = v6 at K10_6 K6_6 HB6 ⊢
      generalize v5.heap.size = g10 at K10_6 ⊢
      have c10_0 : v6.cell? ⟨g10, 0, none⟩ = some (.int .i64 call0.op) := (blk_cell K10_6.out 0).trans rfl
      have c10_1 : v6.cell? ⟨g10, 1, none⟩ = some (.int .i64 call0.slot) := (blk_cell K10_6.out 1).trans rfl
      have c10_2 : v6.cell? ⟨g10, 2, none⟩ = some (.int .i64 call0.gen) := (blk_cell K10_6.out 2).trans rfl
      have c10_3 : v6.cell? ⟨g10, 3, none⟩ = some (.int .i64 call0.cpu) := (blk_cell K10_6.out 3).trans rfl
      have c10_4 : v6.cell? ⟨g10, 4, none⟩ = some (.int .i64 call0.n) := (blk_cell K10_6.out 4).trans rfl
      have c10_5 : v6.cell? ⟨g10, 5, none⟩ = some (.int .i64 call0.nice) := (blk_cell K10_6.out 5).trans rfl
      have c10_6 : v6.cell? ⟨g10, 6, none⟩ = some (.int .u64 call0.mask) := (blk_cell K10_6.out 6).trans rfl
      have c6_0 : v6.cell? ⟨g6, 0, none⟩ = some (.int .i64 call0.op) := (blk_cell K6_6.out 0).trans rfl
      have c6_1 : v6.cell? ⟨g6, 1, none⟩ = some (.int .i64 call0.slot) := (blk_cell K6_6.out 1).trans rfl
      have c6_2 : v6.cell? ⟨g6, 2, none⟩ = some (.int .i64 call0.gen) := (blk_cell K6_6.out 2).trans rfl
      have c6_3 : v6.cell? ⟨g6, 3, none⟩ = some (.int .i64 call0.cpu) := (blk_cell K6_6.out 3).trans rfl
      have c6_4 : v6.cell? ⟨g6, 4, none⟩ = some (.int .i64 call0.n) := (blk_cell K6_6.out 4).trans rfl
      have c6_5 : v6.cell? ⟨g6, 5, none⟩ = some (.int .i64 call0.nice) := (blk_cell K6_6.out 5).trans rfl
      have c6_6 : v6.cell? ⟨g6, 6, none⟩ = some (.int .u64 call0.mask) := (blk_cell K6_6.out 6).trans rfl
      have hq := same_call call0
      have hz : (call0.op == 0 && ((call0.slot == 0 && (call0.gen == 0)) && (call0.cpu == 0 && (call0.n == 0 && (call0.nice == 0 && (call0.mask == 0)))))) = true := rfl
      go_wp2_with fail
      refine (hear_as (s := t) (a := ans0) (r := k) TZ.out HH.out _ (HLd.below HB6.out)).mono ?_
      rintro e v7 ⟨rfl, hb⟩
      have HB7 := Aside0.mk (below_step HB6.out hb)
      have K6_7 := Aside0.mk (blk_below K6_6.out hb)
      have K10_7 := Aside0.mk (blk_below K10_6.out hb)
      clear hb
      clear c6_0 c6_1 c6_2 c6_3 c6_4 c6_5 c6_6
      clear c10_0 c10_1 c10_2 c10_3 c10_4 c10_5 c10_6
      clear hq hz
      go_upto_region 12 with fail
      have K12_8 : Aside0 ((v7.alloc (.cells #[.int .i64 ans0.errno, .int .i64 ans0.n, .int .i64 ans0.slot, .int .i64 ans0.gen] 36)).heap[v7.heap.size]? = some (.cells #[.int .i64 ans0.errno, .int .i64 ans0.n, .int .i64 ans0.slot, .int .i64 ans0.gen] 36)) := ⟨(blk_new v7 (.cells #[.int .i64 ans0.errno, .int .i64 ans0.n, .int .i64 ans0.slot, .int .i64 ans0.gen] 36))⟩
      have K6_8 := Aside0.mk (blk_alloc K6_7.out (.cells #[.int .i64 ans0.errno, .int .i64 ans0.n, .int .i64 ans0.slot, .int .i64 ans0.gen] 36))
      have K10_8 := Aside0.mk (blk_alloc K10_7.out (.cells #[.int .i64 ans0.errno, .int .i64 ans0.n, .int .i64 ans0.slot, .int .i64 ans0.gen] 36))
      have HB8 := Aside0.mk (below_alloc HB7.out (.cells #[.int .i64 ans0.errno, .int .i64 ans0.n, .int .i64 ans0.slot, .int .i64 ans0.gen] 36))
      generalize (v7.alloc (.cells #[.int .i64 ans0.errno, .int .i64 ans0.n, .int .i64 ans0.slot, .int .i64 ans0.gen] 36)) = v8 at K12_8 K6_8 K10_8 HB8 ⊢
      generalize v7.heap.size = g12 at K12_8 ⊢
      have c12_0 : v8.cell? ⟨g12, 0, none⟩ = some (.int .i64 ans0.errno) := (blk_cell K12_8.out 0).trans rfl
      have c12_1 : v8.cell? ⟨g12, 1, none⟩ = some (.int .i64 ans0.n) := (blk_cell K12_8.out 1).trans rfl
      have c12_2 : v8.cell? ⟨g12, 2, none⟩ = some (.int .i64 ans0.slot) := (blk_cell K12_8.out 2).trans rfl
      have c12_3 : v8.cell? ⟨g12, 3, none⟩ = some (.int .i64 ans0.gen) := (blk_cell K12_8.out 3).trans rfl
      go_wp2_with fail
      refine (say_as (a := ans0) (s := [111, 107, 32, 48]) (r := 0) ok_ans0.errno ok_ans0.n ok_ans0.slot ok_ans0.gen say_ans0 _ (HLd.below HB8.out)).mono ?_
      rintro e v9 ⟨rfl, hb⟩
      have HB9 := Aside0.mk (below_step HB8.out hb)
      have K6_9 := Aside0.mk (blk_below K6_8.out hb)
      have K10_9 := Aside0.mk (blk_below K10_8.out hb)
      have K12_9 := Aside0.mk (blk_below K12_8.out hb)
      clear hb
      clear c12_0 c12_1 c12_2 c12_3
      have c12_0 : v9.cell? ⟨g12, 0, none⟩ = some (.int .i64 ans0.errno) := (blk_cell K12_9.out 0).trans rfl
      have c12_1 : v9.cell? ⟨g12, 1, none⟩ = some (.int .i64 ans0.n) := (blk_cell K12_9.out 1).trans rfl
      have c12_2 : v9.cell? ⟨g12, 2, none⟩ = some (.int .i64 ans0.slot) := (blk_cell K12_9.out 2).trans rfl
      have c12_3 : v9.cell? ⟨g12, 3, none⟩ = some (.int .i64 ans0.gen) := (blk_cell K12_9.out 3).trans rfl
      have hz : (ans0.errno == 0 && (ans0.n == 0 && (ans0.slot == 0 && (ans0.gen == 0)))) = true := rfl
      go_wp2_with fail
      go_ret
      exact ⟨rfl, HB9.out⟩
end Go.Proofs.YtilmbpdfdickoaaDoor

/- Package life: Next, by what a rule does. -/
import Derived.Laws.EntriesVeiled
import Derived.Test.YtdchbcpfciljoaaDoorG1
import Derived.Test.YtdchbcpfciljoaaDoorPrintF57
namespace Go.Proofs.YtdchbcpfciljoaaDoor.Given
open Go.RowKit Go.Proofs.YtdchbcpfciljoaaDoor Go.Proofs.YtdchbcpfciljoaaDoor.Print Go.Proofs.YtdchbcpfciljoaaDoorW.PrintWords
set_option linter.unusedVariables false
set_option linter.unusedSimpArgs false
/-- What the walk of Next is told: the table's cell, and what it holds of the event. -/
structure NextAt (w : World) (bm : Nat) (ev : Int) (v : Value) (is : Bool) : Prop where
  ld : Ld w
  cell : w.cell? ⟨0, 0, none⟩ = some (.map (some bm))
  look : ∀ W, Below w.heap.size w W → lookR bm ev W v is
set_option maxRecDepth 100000 in
set_option maxHeartbeats 8000000 in
theorem next_nil (x ev cpu k c s g : Int) (b : Bool) (w : World) (bm : Nat) (ao : Option Addr) (m cap : Nat) (tt : Int)
    (hN : NextAt w bm ev (.agg #[.slice ao m cap, .int .i64 tt, .nilFunc, .nilFunc]) true) (hu : packed_Unpack.f x = some (k, c, b, s, g, 0)) (h0 : 0 ≤ cpu) (h1 : cpu < 64)
    (hh : ∀ W, Below w.heap.size w W → Calls Tryd.prog 63 #[.agg #[.slice ao m cap, .int .i64 tt, .nilFunc, .nilFunc], stV k c b s g] W fun e w' => e = .returned (.bool true) ∧ Below W.heap.size W w')
    (hf : ev ≠ 0) (r1 r2 : Int) (hp : packed_Pack.f tt c false s g = some (r1, r2)) :
    Calls Tryd.prog 53 #[.int .u64 x, .int .i64 ev, .int .i64 cpu] w fun e w' => e = .returned (.tuple #[.int .u64 r1, .int .i64 r2]) ∧ Below w.heap.size w w' := by
  have HU := Aside0.mk hu
  have HN := Aside0.mk hN
  clear hu hN
  have d1 : decide (cpu < 0) = false := decide_eq_false (by omega)
  have d2 : decide (64 ≤ cpu) = false := decide_eq_false (by omega)
  have hnf := nef
  have hnf2 := nef2
  have HH := Aside0.mk hh
  unfold stV at HH
  clear hh h0 h1
  have HP := Aside0.mk hp
  clear hp
  have d3 : (ev == 0) = false := beq_eq_false_iff_ne.mpr hf
  clear hf
  go_enter Tryd.func53, Tryd.ntmps53
  go_wp2_with (first | (go_at_call 57; refine (packed_Unpack.calls x k c b s g 0 _ HN.out.ld HU.out).mono ?_; rintro e w1 ⟨rfl, hb⟩; have hm0 := pw_cell_below hb HN.out.cell; have hlk : (Instr.lookup 101 (.map (some bm)) (.int .i64 ev) true).run Tryd.prog (w1.alloc (.cells #[.int .i64 k, .int .i64 c, .bool b, .int .i64 s, .int .i64 g] 77)) = _ := HN.out.look _ (below_alloc hb _); have zl : 0 < w1.heap.size := cell_block_ hm0; have z1 : ((0 : Nat) = w1.heap.size) = False := eq_false (Nat.ne_of_lt zl); have z2 : (w1.heap.size = (0 : Nat)) = False := eq_false (Nat.ne_of_gt zl); have HGE := Aside0.mk hb.size; have HB := Aside0.mk hb; clear hb) | (go_at_call 63; refine (HH.out _ (below_alloc (below_alloc HB.out _) _)).mono ?_; rintro e w3 ⟨rfl, hb⟩; have K8 : w3.heap[w1.heap.size]? = some (.cells #[.int .i64 k, .int .i64 c, .bool b, .int .i64 s, .int .i64 g] 77 (0, 0)) := blk_below (blk_alloc (blk_new w1 _) _) hb; have K10 : w3.heap[w1.heap.size + 1]? = some (.cells #[.slice ao m cap, .int .i64 tt, .nilFunc, .nilFunc] 99 (0, 0)) := blk_below (by have h_ := blk_new (w1.alloc (.cells #[.int .i64 k, .int .i64 c, .bool b, .int .i64 s, .int .i64 g] 77)) (.cells #[.slice ao m cap, .int .i64 tt, .nilFunc, .nilFunc] 99); rw [World.size_alloc] at h_; exact h_) hb; have HB3 := Aside0.mk (below_step (below_alloc (below_alloc HB.out _) _) hb); clear hb; have x0 := (blk_cell K8 0).trans rfl; have x1 := (blk_cell K8 1).trans rfl; have x2 := (blk_cell K8 2).trans rfl; have x3 := (blk_cell K8 3).trans rfl; have x4 := (blk_cell K8 4).trans rfl; have y1 := (blk_cell K10 1).trans rfl; have y3 := (blk_cell K10 3).trans rfl; have q0 := blk_frozen K8 0; have q1 := blk_frozen K8 1; have q2 := blk_frozen K8 2; have q3 := blk_frozen K8 3; have q4 := blk_frozen K8 4; have KK8 := Aside0.mk K8; clear K8 K10))
  refine (packed_Pack.calls tt c false s g r1 r2 _ (Ld.below HN.out.ld (by repeat (first | exact HB3.out | refine below_set ?_ HGE.out))) HP.out).mono ?_
  rintro e w4 ⟨rfl, hb⟩
  have HB4 := Aside0.mk (below_step (w := w) (by repeat (first | exact HB3.out | refine below_set ?_ HGE.out)) hb)
  clear hb
  go_wp2
  go_ret2
  exact ⟨by first | rfl | (simp; rfl), HB4.out⟩
set_option maxRecDepth 100000 in
set_option maxHeartbeats 8000000 in
theorem next_fnil (x ev cpu k c s g : Int) (b : Bool) (w : World) (bm : Nat) (ao : Option Addr) (m cap : Nat) (tt : Int) (q : Nat)
    (hN : NextAt w bm ev (.agg #[.slice ao m cap, .int .i64 tt, .func (.func q) #[] #[], .nilFunc]) true) (hu : packed_Unpack.f x = some (k, c, b, s, g, 0)) (h0 : 0 ≤ cpu) (h1 : cpu < 64)
    (hh : ∀ W, Below w.heap.size w W → Calls Tryd.prog 63 #[.agg #[.slice ao m cap, .int .i64 tt, .func (.func q) #[] #[], .nilFunc], stV k c b s g] W fun e w' => e = .returned (.bool true) ∧ Below W.heap.size W w')
    (hf : ev ≠ 0) (r1 r2 : Int) (hp : packed_Pack.f tt c false s g = some (r1, r2)) :
    Calls Tryd.prog 53 #[.int .u64 x, .int .i64 ev, .int .i64 cpu] w fun e w' => e = .returned (.tuple #[.int .u64 r1, .int .i64 r2]) ∧ Below w.heap.size w w' := by
  have HU := Aside0.mk hu
  have HN := Aside0.mk hN
  clear hu hN
  have d1 : decide (cpu < 0) = false := decide_eq_false (by omega)
  have d2 : decide (64 ≤ cpu) = false := decide_eq_false (by omega)
  have hnf := nef
  have hnf2 := nef2
  have HH := Aside0.mk hh
  unfold stV at HH
  clear hh h0 h1
  have HP := Aside0.mk hp
  clear hp
  have d3 : (ev == 0) = false := beq_eq_false_iff_ne.mpr hf
  clear hf
  go_enter Tryd.func53, Tryd.ntmps53
  go_wp2_with (first | (go_at_call 57; refine (packed_Unpack.calls x k c b s g 0 _ HN.out.ld HU.out).mono ?_; rintro e w1 ⟨rfl, hb⟩; have hm0 := pw_cell_below hb HN.out.cell; have hlk : (Instr.lookup 101 (.map (some bm)) (.int .i64 ev) true).run Tryd.prog (w1.alloc (.cells #[.int .i64 k, .int .i64 c, .bool b, .int .i64 s, .int .i64 g] 77)) = _ := HN.out.look _ (below_alloc hb _); have zl : 0 < w1.heap.size := cell_block_ hm0; have z1 : ((0 : Nat) = w1.heap.size) = False := eq_false (Nat.ne_of_lt zl); have z2 : (w1.heap.size = (0 : Nat)) = False := eq_false (Nat.ne_of_gt zl); have HGE := Aside0.mk hb.size; have HB := Aside0.mk hb; clear hb) | (go_at_call 63; refine (HH.out _ (below_alloc (below_alloc HB.out _) _)).mono ?_; rintro e w3 ⟨rfl, hb⟩; have K8 : w3.heap[w1.heap.size]? = some (.cells #[.int .i64 k, .int .i64 c, .bool b, .int .i64 s, .int .i64 g] 77 (0, 0)) := blk_below (blk_alloc (blk_new w1 _) _) hb; have K10 : w3.heap[w1.heap.size + 1]? = some (.cells #[.slice ao m cap, .int .i64 tt, .func (.func q) #[] #[], .nilFunc] 99 (0, 0)) := blk_below (by have h_ := blk_new (w1.alloc (.cells #[.int .i64 k, .int .i64 c, .bool b, .int .i64 s, .int .i64 g] 77)) (.cells #[.slice ao m cap, .int .i64 tt, .func (.func q) #[] #[], .nilFunc] 99); rw [World.size_alloc] at h_; exact h_) hb; have HB3 := Aside0.mk (below_step (below_alloc (below_alloc HB.out _) _) hb); clear hb; have x0 := (blk_cell K8 0).trans rfl; have x1 := (blk_cell K8 1).trans rfl; have x2 := (blk_cell K8 2).trans rfl; have x3 := (blk_cell K8 3).trans rfl; have x4 := (blk_cell K8 4).trans rfl; have y1 := (blk_cell K10 1).trans rfl; have y3 := (blk_cell K10 3).trans rfl; have q0 := blk_frozen K8 0; have q1 := blk_frozen K8 1; have q2 := blk_frozen K8 2; have q3 := blk_frozen K8 3; have q4 := blk_frozen K8 4; have KK8 := Aside0.mk K8; clear K8 K10))
  refine (packed_Pack.calls tt c false s g r1 r2 _ (Ld.below HN.out.ld (by repeat (first | exact HB3.out | refine below_set ?_ HGE.out))) HP.out).mono ?_
  rintro e w4 ⟨rfl, hb⟩
  have HB4 := Aside0.mk (below_step (w := w) (by repeat (first | exact HB3.out | refine below_set ?_ HGE.out)) hb)
  clear hb
  go_wp2
  go_ret2
  exact ⟨by first | rfl | (simp; rfl), HB4.out⟩
set_option maxRecDepth 100000 in
set_option maxHeartbeats 8000000 in
theorem next_d56 (x ev cpu k c s g : Int) (b : Bool) (w : World) (bm : Nat) (ao : Option Addr) (m cap : Nat) (tt : Int)
    (hN : NextAt w bm ev (.agg #[.slice ao m cap, .int .i64 tt, .nilFunc, .func (.func 91) #[] #[]]) true) (hu : packed_Unpack.f x = some (k, c, b, s, g, 0)) (h0 : 0 ≤ cpu) (h1 : cpu < 64)
    (hh : ∀ W, Below w.heap.size w W → Calls Tryd.prog 63 #[.agg #[.slice ao m cap, .int .i64 tt, .nilFunc, .func (.func 91) #[] #[]], stV k c b s g] W fun e w' => e = .returned (.bool true) ∧ Below W.heap.size W w')
    (he : ev = 0) (hg : ¬ g = 4294967295) (r1 r2 : Int) (hp : packed_Pack.f tt cpu false 0 (wrap64 (g + 1)) = some (r1, r2)) :
    Calls Tryd.prog 53 #[.int .u64 x, .int .i64 ev, .int .i64 cpu] w fun e w' => e = .returned (.tuple #[.int .u64 r1, .int .i64 r2]) ∧ Below w.heap.size w w' := by
  have HU := Aside0.mk hu
  have HN := Aside0.mk hN
  clear hu hN
  have d1 : decide (cpu < 0) = false := decide_eq_false (by omega)
  have d2 : decide (64 ≤ cpu) = false := decide_eq_false (by omega)
  have hnf := nef
  have hnf2 := nef2
  have HH := Aside0.mk hh
  unfold stV at HH
  clear hh h0 h1
  have HP := Aside0.mk hp
  clear hp
  have d3 : (ev == 0) = true := by rw [he]; rfl
  have d4 : (g == 4294967295) = false := beq_eq_false_iff_ne.mpr hg
  clear he hg
  go_enter Tryd.func53, Tryd.ntmps53
  go_wp2_with (first | (go_at_call 57; refine (packed_Unpack.calls x k c b s g 0 _ HN.out.ld HU.out).mono ?_; rintro e w1 ⟨rfl, hb⟩; have hm0 := pw_cell_below hb HN.out.cell; have hlk : (Instr.lookup 101 (.map (some bm)) (.int .i64 ev) true).run Tryd.prog (w1.alloc (.cells #[.int .i64 k, .int .i64 c, .bool b, .int .i64 s, .int .i64 g] 77)) = _ := HN.out.look _ (below_alloc hb _); have zl : 0 < w1.heap.size := cell_block_ hm0; have z1 : ((0 : Nat) = w1.heap.size) = False := eq_false (Nat.ne_of_lt zl); have z2 : (w1.heap.size = (0 : Nat)) = False := eq_false (Nat.ne_of_gt zl); have HGE := Aside0.mk hb.size; have HB := Aside0.mk hb; clear hb) | (go_at_call 63; refine (HH.out _ (below_alloc (below_alloc HB.out _) _)).mono ?_; rintro e w3 ⟨rfl, hb⟩; have K8 : w3.heap[w1.heap.size]? = some (.cells #[.int .i64 k, .int .i64 c, .bool b, .int .i64 s, .int .i64 g] 77 (0, 0)) := blk_below (blk_alloc (blk_new w1 _) _) hb; have K10 : w3.heap[w1.heap.size + 1]? = some (.cells #[.slice ao m cap, .int .i64 tt, .nilFunc, .func (.func 91) #[] #[]] 99 (0, 0)) := blk_below (by have h_ := blk_new (w1.alloc (.cells #[.int .i64 k, .int .i64 c, .bool b, .int .i64 s, .int .i64 g] 77)) (.cells #[.slice ao m cap, .int .i64 tt, .nilFunc, .func (.func 91) #[] #[]] 99); rw [World.size_alloc] at h_; exact h_) hb; have HB3 := Aside0.mk (below_step (below_alloc (below_alloc HB.out _) _) hb); clear hb; have x0 := (blk_cell K8 0).trans rfl; have x1 := (blk_cell K8 1).trans rfl; have x2 := (blk_cell K8 2).trans rfl; have x3 := (blk_cell K8 3).trans rfl; have x4 := (blk_cell K8 4).trans rfl; have y1 := (blk_cell K10 1).trans rfl; have y3 := (blk_cell K10 3).trans rfl; have q0 := blk_frozen K8 0; have q1 := blk_frozen K8 1; have q2 := blk_frozen K8 2; have q3 := blk_frozen K8 3; have q4 := blk_frozen K8 4; have KK8 := Aside0.mk K8; clear K8 K10))
  refine (do56 w1.heap.size tt c false s g cpu _ (blk_put (blk_put KK8.out 0 _ rfl) 2 _ rfl)).mono ?_
  rintro e w5 ⟨rfl, k5, b5⟩
  have HB5 := Aside0.mk ((show Below w.heap.size w _ by repeat (first | exact HB3.out | refine below_set ?_ HGE.out)).trans (Below.less b5 HGE.out))
  clear b5
  have e0 := (blk_cell k5 0).trans rfl
  have e1 := (blk_cell k5 1).trans rfl
  have e2 := (blk_cell k5 2).trans rfl
  have e3 := (blk_cell k5 3).trans rfl
  have e4 := (blk_cell k5 4).trans rfl
  clear k5
  go_wp2_with fail
  refine (packed_Pack.calls tt cpu false 0 (wrap64 (g + 1)) r1 r2 _ (Ld.below HN.out.ld HB5.out) HP.out).mono ?_
  rintro e w4 ⟨rfl, hb⟩
  have HB4 := Aside0.mk (below_step (w := w) HB5.out hb)
  clear hb
  go_wp2
  go_ret2
  exact ⟨by first | rfl | (simp; rfl), HB4.out⟩
set_option maxRecDepth 100000 in
set_option maxHeartbeats 8000000 in
theorem next_d57 (x ev cpu k c s g : Int) (b : Bool) (w : World) (bm : Nat) (ao : Option Addr) (m cap : Nat) (tt : Int)
    (hN : NextAt w bm ev (.agg #[.slice ao m cap, .int .i64 tt, .nilFunc, .func (.func 92) #[] #[]]) true) (hu : packed_Unpack.f x = some (k, c, b, s, g, 0)) (h0 : 0 ≤ cpu) (h1 : cpu < 64)
    (hh : ∀ W, Below w.heap.size w W → Calls Tryd.prog 63 #[.agg #[.slice ao m cap, .int .i64 tt, .nilFunc, .func (.func 92) #[] #[]], stV k c b s g] W fun e w' => e = .returned (.bool true) ∧ Below W.heap.size W w')
    (hf : ev ≠ 0) (r1 r2 : Int) (hp : packed_Pack.f tt 0 false 0 g = some (r1, r2)) :
    Calls Tryd.prog 53 #[.int .u64 x, .int .i64 ev, .int .i64 cpu] w fun e w' => e = .returned (.tuple #[.int .u64 r1, .int .i64 r2]) ∧ Below w.heap.size w w' := by
  have HU := Aside0.mk hu
  have HN := Aside0.mk hN
  clear hu hN
  have d1 : decide (cpu < 0) = false := decide_eq_false (by omega)
  have d2 : decide (64 ≤ cpu) = false := decide_eq_false (by omega)
  have hnf := nef
  have hnf2 := nef2
  have HH := Aside0.mk hh
  unfold stV at HH
  clear hh h0 h1
  have HP := Aside0.mk hp
  clear hp
  have d3 : (ev == 0) = false := beq_eq_false_iff_ne.mpr hf
  clear hf
  go_enter Tryd.func53, Tryd.ntmps53
  go_wp2_with (first | (go_at_call 57; refine (packed_Unpack.calls x k c b s g 0 _ HN.out.ld HU.out).mono ?_; rintro e w1 ⟨rfl, hb⟩; have hm0 := pw_cell_below hb HN.out.cell; have hlk : (Instr.lookup 101 (.map (some bm)) (.int .i64 ev) true).run Tryd.prog (w1.alloc (.cells #[.int .i64 k, .int .i64 c, .bool b, .int .i64 s, .int .i64 g] 77)) = _ := HN.out.look _ (below_alloc hb _); have zl : 0 < w1.heap.size := cell_block_ hm0; have z1 : ((0 : Nat) = w1.heap.size) = False := eq_false (Nat.ne_of_lt zl); have z2 : (w1.heap.size = (0 : Nat)) = False := eq_false (Nat.ne_of_gt zl); have HGE := Aside0.mk hb.size; have HB := Aside0.mk hb; clear hb) | (go_at_call 63; refine (HH.out _ (below_alloc (below_alloc HB.out _) _)).mono ?_; rintro e w3 ⟨rfl, hb⟩; have K8 : w3.heap[w1.heap.size]? = some (.cells #[.int .i64 k, .int .i64 c, .bool b, .int .i64 s, .int .i64 g] 77 (0, 0)) := blk_below (blk_alloc (blk_new w1 _) _) hb; have K10 : w3.heap[w1.heap.size + 1]? = some (.cells #[.slice ao m cap, .int .i64 tt, .nilFunc, .func (.func 92) #[] #[]] 99 (0, 0)) := blk_below (by have h_ := blk_new (w1.alloc (.cells #[.int .i64 k, .int .i64 c, .bool b, .int .i64 s, .int .i64 g] 77)) (.cells #[.slice ao m cap, .int .i64 tt, .nilFunc, .func (.func 92) #[] #[]] 99); rw [World.size_alloc] at h_; exact h_) hb; have HB3 := Aside0.mk (below_step (below_alloc (below_alloc HB.out _) _) hb); clear hb; have x0 := (blk_cell K8 0).trans rfl; have x1 := (blk_cell K8 1).trans rfl; have x2 := (blk_cell K8 2).trans rfl; have x3 := (blk_cell K8 3).trans rfl; have x4 := (blk_cell K8 4).trans rfl; have y1 := (blk_cell K10 1).trans rfl; have y3 := (blk_cell K10 3).trans rfl; have q0 := blk_frozen K8 0; have q1 := blk_frozen K8 1; have q2 := blk_frozen K8 2; have q3 := blk_frozen K8 3; have q4 := blk_frozen K8 4; have KK8 := Aside0.mk K8; clear K8 K10))
  refine (do57 w1.heap.size tt c false s g cpu _ (blk_put (blk_put KK8.out 0 _ rfl) 2 _ rfl)).mono ?_
  rintro e w5 ⟨rfl, k5, b5⟩
  have HB5 := Aside0.mk ((show Below w.heap.size w _ by repeat (first | exact HB3.out | refine below_set ?_ HGE.out)).trans (Below.less b5 HGE.out))
  clear b5
  have e0 := (blk_cell k5 0).trans rfl
  have e1 := (blk_cell k5 1).trans rfl
  have e2 := (blk_cell k5 2).trans rfl
  have e3 := (blk_cell k5 3).trans rfl
  have e4 := (blk_cell k5 4).trans rfl
  clear k5
  go_wp2_with fail
  refine (packed_Pack.calls tt 0 false 0 g r1 r2 _ (Ld.below HN.out.ld HB5.out) HP.out).mono ?_
  rintro e w4 ⟨rfl, hb⟩
  have HB4 := Aside0.mk (below_step (w := w) HB5.out hb)
  clear hb
  go_wp2
  go_ret2
  exact ⟨by first | rfl | (simp; rfl), HB4.out⟩
set_option maxRecDepth 100000 in
set_option maxHeartbeats 8000000 in
theorem next_d58 (x ev cpu k c s g : Int) (b : Bool) (w : World) (bm : Nat) (ao : Option Addr) (m cap : Nat) (tt : Int)
    (hN : NextAt w bm ev (.agg #[.slice ao m cap, .int .i64 tt, .nilFunc, .func (.func 93) #[] #[]]) true) (hu : packed_Unpack.f x = some (k, c, b, s, g, 0)) (h0 : 0 ≤ cpu) (h1 : cpu < 64)
    (hh : ∀ W, Below w.heap.size w W → Calls Tryd.prog 63 #[.agg #[.slice ao m cap, .int .i64 tt, .nilFunc, .func (.func 93) #[] #[]], stV k c b s g] W fun e w' => e = .returned (.bool true) ∧ Below W.heap.size W w')
    (hf : ev ≠ 0) (r1 r2 : Int) (hp : packed_Pack.f tt c false (bits .and .i64 (wrap64 (s + 1)) 65535) g = some (r1, r2)) :
    Calls Tryd.prog 53 #[.int .u64 x, .int .i64 ev, .int .i64 cpu] w fun e w' => e = .returned (.tuple #[.int .u64 r1, .int .i64 r2]) ∧ Below w.heap.size w w' := by
  have HU := Aside0.mk hu
  have HN := Aside0.mk hN
  clear hu hN
  have d1 : decide (cpu < 0) = false := decide_eq_false (by omega)
  have d2 : decide (64 ≤ cpu) = false := decide_eq_false (by omega)
  have hnf := nef
  have hnf2 := nef2
  have HH := Aside0.mk hh
  unfold stV at HH
  clear hh h0 h1
  have HP := Aside0.mk hp
  clear hp
  have d3 : (ev == 0) = false := beq_eq_false_iff_ne.mpr hf
  clear hf
  go_enter Tryd.func53, Tryd.ntmps53
  go_wp2_with (first | (go_at_call 57; refine (packed_Unpack.calls x k c b s g 0 _ HN.out.ld HU.out).mono ?_; rintro e w1 ⟨rfl, hb⟩; have hm0 := pw_cell_below hb HN.out.cell; have hlk : (Instr.lookup 101 (.map (some bm)) (.int .i64 ev) true).run Tryd.prog (w1.alloc (.cells #[.int .i64 k, .int .i64 c, .bool b, .int .i64 s, .int .i64 g] 77)) = _ := HN.out.look _ (below_alloc hb _); have zl : 0 < w1.heap.size := cell_block_ hm0; have z1 : ((0 : Nat) = w1.heap.size) = False := eq_false (Nat.ne_of_lt zl); have z2 : (w1.heap.size = (0 : Nat)) = False := eq_false (Nat.ne_of_gt zl); have HGE := Aside0.mk hb.size; have HB := Aside0.mk hb; clear hb) | (go_at_call 63; refine (HH.out _ (below_alloc (below_alloc HB.out _) _)).mono ?_; rintro e w3 ⟨rfl, hb⟩; have K8 : w3.heap[w1.heap.size]? = some (.cells #[.int .i64 k, .int .i64 c, .bool b, .int .i64 s, .int .i64 g] 77 (0, 0)) := blk_below (blk_alloc (blk_new w1 _) _) hb; have K10 : w3.heap[w1.heap.size + 1]? = some (.cells #[.slice ao m cap, .int .i64 tt, .nilFunc, .func (.func 93) #[] #[]] 99 (0, 0)) := blk_below (by have h_ := blk_new (w1.alloc (.cells #[.int .i64 k, .int .i64 c, .bool b, .int .i64 s, .int .i64 g] 77)) (.cells #[.slice ao m cap, .int .i64 tt, .nilFunc, .func (.func 93) #[] #[]] 99); rw [World.size_alloc] at h_; exact h_) hb; have HB3 := Aside0.mk (below_step (below_alloc (below_alloc HB.out _) _) hb); clear hb; have x0 := (blk_cell K8 0).trans rfl; have x1 := (blk_cell K8 1).trans rfl; have x2 := (blk_cell K8 2).trans rfl; have x3 := (blk_cell K8 3).trans rfl; have x4 := (blk_cell K8 4).trans rfl; have y1 := (blk_cell K10 1).trans rfl; have y3 := (blk_cell K10 3).trans rfl; have q0 := blk_frozen K8 0; have q1 := blk_frozen K8 1; have q2 := blk_frozen K8 2; have q3 := blk_frozen K8 3; have q4 := blk_frozen K8 4; have KK8 := Aside0.mk K8; clear K8 K10))
  refine (do58 w1.heap.size tt c false s g cpu _ (blk_put (blk_put KK8.out 0 _ rfl) 2 _ rfl)).mono ?_
  rintro e w5 ⟨rfl, k5, b5⟩
  have HB5 := Aside0.mk ((show Below w.heap.size w _ by repeat (first | exact HB3.out | refine below_set ?_ HGE.out)).trans (Below.less b5 HGE.out))
  clear b5
  have e0 := (blk_cell k5 0).trans rfl
  have e1 := (blk_cell k5 1).trans rfl
  have e2 := (blk_cell k5 2).trans rfl
  have e3 := (blk_cell k5 3).trans rfl
  have e4 := (blk_cell k5 4).trans rfl
  clear k5
  go_wp2_with fail
  refine (packed_Pack.calls tt c false (bits .and .i64 (wrap64 (s + 1)) 65535) g r1 r2 _ (Ld.below HN.out.ld HB5.out) HP.out).mono ?_
  rintro e w4 ⟨rfl, hb⟩
  have HB4 := Aside0.mk (below_step (w := w) HB5.out hb)
  clear hb
  go_wp2
  go_ret2
  exact ⟨by first | rfl | (simp; rfl), HB4.out⟩
set_option maxRecDepth 100000 in
set_option maxHeartbeats 8000000 in
theorem next_d60 (x ev cpu k c s g : Int) (b : Bool) (w : World) (bm : Nat) (ao : Option Addr) (m cap : Nat) (tt : Int) (q : Nat)
    (hN : NextAt w bm ev (.agg #[.slice ao m cap, .int .i64 tt, .func (.func q) #[] #[], .func (.func 95) #[] #[]]) true) (hu : packed_Unpack.f x = some (k, c, b, s, g, 0)) (h0 : 0 ≤ cpu) (h1 : cpu < 64)
    (hh : ∀ W, Below w.heap.size w W → Calls Tryd.prog 63 #[.agg #[.slice ao m cap, .int .i64 tt, .func (.func q) #[] #[], .func (.func 95) #[] #[]], stV k c b s g] W fun e w' => e = .returned (.bool true) ∧ Below W.heap.size W w')
    (hf : ev ≠ 0) (r1 r2 : Int) (hp : packed_Pack.f tt c true s g = some (r1, r2)) :
    Calls Tryd.prog 53 #[.int .u64 x, .int .i64 ev, .int .i64 cpu] w fun e w' => e = .returned (.tuple #[.int .u64 r1, .int .i64 r2]) ∧ Below w.heap.size w w' := by
  have HU := Aside0.mk hu
  have HN := Aside0.mk hN
  clear hu hN
  have d1 : decide (cpu < 0) = false := decide_eq_false (by omega)
  have d2 : decide (64 ≤ cpu) = false := decide_eq_false (by omega)
  have hnf := nef
  have hnf2 := nef2
  have HH := Aside0.mk hh
  unfold stV at HH
  clear hh h0 h1
  have HP := Aside0.mk hp
  clear hp
  have d3 : (ev == 0) = false := beq_eq_false_iff_ne.mpr hf
  clear hf
  go_enter Tryd.func53, Tryd.ntmps53
  go_wp2_with (first | (go_at_call 57; refine (packed_Unpack.calls x k c b s g 0 _ HN.out.ld HU.out).mono ?_; rintro e w1 ⟨rfl, hb⟩; have hm0 := pw_cell_below hb HN.out.cell; have hlk : (Instr.lookup 101 (.map (some bm)) (.int .i64 ev) true).run Tryd.prog (w1.alloc (.cells #[.int .i64 k, .int .i64 c, .bool b, .int .i64 s, .int .i64 g] 77)) = _ := HN.out.look _ (below_alloc hb _); have zl : 0 < w1.heap.size := cell_block_ hm0; have z1 : ((0 : Nat) = w1.heap.size) = False := eq_false (Nat.ne_of_lt zl); have z2 : (w1.heap.size = (0 : Nat)) = False := eq_false (Nat.ne_of_gt zl); have HGE := Aside0.mk hb.size; have HB := Aside0.mk hb; clear hb) | (go_at_call 63; refine (HH.out _ (below_alloc (below_alloc HB.out _) _)).mono ?_; rintro e w3 ⟨rfl, hb⟩; have K8 : w3.heap[w1.heap.size]? = some (.cells #[.int .i64 k, .int .i64 c, .bool b, .int .i64 s, .int .i64 g] 77 (0, 0)) := blk_below (blk_alloc (blk_new w1 _) _) hb; have K10 : w3.heap[w1.heap.size + 1]? = some (.cells #[.slice ao m cap, .int .i64 tt, .func (.func q) #[] #[], .func (.func 95) #[] #[]] 99 (0, 0)) := blk_below (by have h_ := blk_new (w1.alloc (.cells #[.int .i64 k, .int .i64 c, .bool b, .int .i64 s, .int .i64 g] 77)) (.cells #[.slice ao m cap, .int .i64 tt, .func (.func q) #[] #[], .func (.func 95) #[] #[]] 99); rw [World.size_alloc] at h_; exact h_) hb; have HB3 := Aside0.mk (below_step (below_alloc (below_alloc HB.out _) _) hb); clear hb; have x0 := (blk_cell K8 0).trans rfl; have x1 := (blk_cell K8 1).trans rfl; have x2 := (blk_cell K8 2).trans rfl; have x3 := (blk_cell K8 3).trans rfl; have x4 := (blk_cell K8 4).trans rfl; have y1 := (blk_cell K10 1).trans rfl; have y3 := (blk_cell K10 3).trans rfl; have q0 := blk_frozen K8 0; have q1 := blk_frozen K8 1; have q2 := blk_frozen K8 2; have q3 := blk_frozen K8 3; have q4 := blk_frozen K8 4; have KK8 := Aside0.mk K8; clear K8 K10))
  refine (do60 w1.heap.size tt c false s g cpu _ (blk_put (blk_put KK8.out 0 _ rfl) 2 _ rfl)).mono ?_
  rintro e w5 ⟨rfl, k5, b5⟩
  have HB5 := Aside0.mk ((show Below w.heap.size w _ by repeat (first | exact HB3.out | refine below_set ?_ HGE.out)).trans (Below.less b5 HGE.out))
  clear b5
  have e0 := (blk_cell k5 0).trans rfl
  have e1 := (blk_cell k5 1).trans rfl
  have e2 := (blk_cell k5 2).trans rfl
  have e3 := (blk_cell k5 3).trans rfl
  have e4 := (blk_cell k5 4).trans rfl
  clear k5
  go_wp2_with fail
  refine (packed_Pack.calls tt c true s g r1 r2 _ (Ld.below HN.out.ld HB5.out) HP.out).mono ?_
  rintro e w4 ⟨rfl, hb⟩
  have HB4 := Aside0.mk (below_step (w := w) HB5.out hb)
  clear hb
  go_wp2
  go_ret2
  exact ⟨by first | rfl | (simp; rfl), HB4.out⟩
set_option maxRecDepth 100000 in
set_option maxHeartbeats 8000000 in
theorem next_d62 (x ev cpu k c s g : Int) (b : Bool) (w : World) (bm : Nat) (ao : Option Addr) (m cap : Nat) (tt : Int)
    (hN : NextAt w bm ev (.agg #[.slice ao m cap, .int .i64 tt, .nilFunc, .func (.func 97) #[] #[]]) true) (hu : packed_Unpack.f x = some (k, c, b, s, g, 0)) (h0 : 0 ≤ cpu) (h1 : cpu < 64)
    (hh : ∀ W, Below w.heap.size w W → Calls Tryd.prog 63 #[.agg #[.slice ao m cap, .int .i64 tt, .nilFunc, .func (.func 97) #[] #[]], stV k c b s g] W fun e w' => e = .returned (.bool true) ∧ Below W.heap.size W w')
    (hf : ev ≠ 0) (r1 r2 : Int) (hp : packed_Pack.f tt cpu false s g = some (r1, r2)) :
    Calls Tryd.prog 53 #[.int .u64 x, .int .i64 ev, .int .i64 cpu] w fun e w' => e = .returned (.tuple #[.int .u64 r1, .int .i64 r2]) ∧ Below w.heap.size w w' := by
  have HU := Aside0.mk hu
  have HN := Aside0.mk hN
  clear hu hN
  have d1 : decide (cpu < 0) = false := decide_eq_false (by omega)
  have d2 : decide (64 ≤ cpu) = false := decide_eq_false (by omega)
  have hnf := nef
  have hnf2 := nef2
  have HH := Aside0.mk hh
  unfold stV at HH
  clear hh h0 h1
  have HP := Aside0.mk hp
  clear hp
  have d3 : (ev == 0) = false := beq_eq_false_iff_ne.mpr hf
  clear hf
  go_enter Tryd.func53, Tryd.ntmps53
  go_wp2_with (first | (go_at_call 57; refine (packed_Unpack.calls x k c b s g 0 _ HN.out.ld HU.out).mono ?_; rintro e w1 ⟨rfl, hb⟩; have hm0 := pw_cell_below hb HN.out.cell; have hlk : (Instr.lookup 101 (.map (some bm)) (.int .i64 ev) true).run Tryd.prog (w1.alloc (.cells #[.int .i64 k, .int .i64 c, .bool b, .int .i64 s, .int .i64 g] 77)) = _ := HN.out.look _ (below_alloc hb _); have zl : 0 < w1.heap.size := cell_block_ hm0; have z1 : ((0 : Nat) = w1.heap.size) = False := eq_false (Nat.ne_of_lt zl); have z2 : (w1.heap.size = (0 : Nat)) = False := eq_false (Nat.ne_of_gt zl); have HGE := Aside0.mk hb.size; have HB := Aside0.mk hb; clear hb) | (go_at_call 63; refine (HH.out _ (below_alloc (below_alloc HB.out _) _)).mono ?_; rintro e w3 ⟨rfl, hb⟩; have K8 : w3.heap[w1.heap.size]? = some (.cells #[.int .i64 k, .int .i64 c, .bool b, .int .i64 s, .int .i64 g] 77 (0, 0)) := blk_below (blk_alloc (blk_new w1 _) _) hb; have K10 : w3.heap[w1.heap.size + 1]? = some (.cells #[.slice ao m cap, .int .i64 tt, .nilFunc, .func (.func 97) #[] #[]] 99 (0, 0)) := blk_below (by have h_ := blk_new (w1.alloc (.cells #[.int .i64 k, .int .i64 c, .bool b, .int .i64 s, .int .i64 g] 77)) (.cells #[.slice ao m cap, .int .i64 tt, .nilFunc, .func (.func 97) #[] #[]] 99); rw [World.size_alloc] at h_; exact h_) hb; have HB3 := Aside0.mk (below_step (below_alloc (below_alloc HB.out _) _) hb); clear hb; have x0 := (blk_cell K8 0).trans rfl; have x1 := (blk_cell K8 1).trans rfl; have x2 := (blk_cell K8 2).trans rfl; have x3 := (blk_cell K8 3).trans rfl; have x4 := (blk_cell K8 4).trans rfl; have y1 := (blk_cell K10 1).trans rfl; have y3 := (blk_cell K10 3).trans rfl; have q0 := blk_frozen K8 0; have q1 := blk_frozen K8 1; have q2 := blk_frozen K8 2; have q3 := blk_frozen K8 3; have q4 := blk_frozen K8 4; have KK8 := Aside0.mk K8; clear K8 K10))
  refine (do62 w1.heap.size tt c false s g cpu _ (blk_put (blk_put KK8.out 0 _ rfl) 2 _ rfl)).mono ?_
  rintro e w5 ⟨rfl, k5, b5⟩
  have HB5 := Aside0.mk ((show Below w.heap.size w _ by repeat (first | exact HB3.out | refine below_set ?_ HGE.out)).trans (Below.less b5 HGE.out))
  clear b5
  have e0 := (blk_cell k5 0).trans rfl
  have e1 := (blk_cell k5 1).trans rfl
  have e2 := (blk_cell k5 2).trans rfl
  have e3 := (blk_cell k5 3).trans rfl
  have e4 := (blk_cell k5 4).trans rfl
  clear k5
  go_wp2_with fail
  refine (packed_Pack.calls tt cpu false s g r1 r2 _ (Ld.below HN.out.ld HB5.out) HP.out).mono ?_
  rintro e w4 ⟨rfl, hb⟩
  have HB4 := Aside0.mk (below_step (w := w) HB5.out hb)
  clear hb
  go_wp2
  go_ret2
  exact ⟨by first | rfl | (simp; rfl), HB4.out⟩
set_option maxRecDepth 100000 in
set_option maxHeartbeats 8000000 in
theorem next_er_nn (x ev cpu k c s g : Int) (b : Bool) (w : World) (bm : Nat) (ao : Option Addr) (m cap : Nat) (tt : Int)
    (hN : NextAt w bm ev (.agg #[.slice ao m cap, .int .i64 tt, .nilFunc, .nilFunc]) true) (hu : packed_Unpack.f x = some (k, c, b, s, g, 1)) :
    Calls Tryd.prog 53 #[.int .u64 x, .int .i64 ev, .int .i64 cpu] w fun e w' => e = .returned (.tuple #[.int .u64 0, .int .i64 1]) ∧ Below w.heap.size w w' := by
  have HU := Aside0.mk hu
  have HN := Aside0.mk hN
  clear hu hN
  go_enter Tryd.func53, Tryd.ntmps53
  go_wp2_with (go_at_call 57; refine (packed_Unpack.calls x k c b s g 1 _ HN.out.ld HU.out).mono ?_; rintro e w1 ⟨rfl, hb⟩; have hm0 := pw_cell_below hb HN.out.cell; have hlk : (Instr.lookup 101 (.map (some bm)) (.int .i64 ev) true).run Tryd.prog (w1.alloc (.cells #[.int .i64 k, .int .i64 c, .bool b, .int .i64 s, .int .i64 g] 77)) = _ := HN.out.look _ (below_alloc hb _); have zl : 0 < w1.heap.size := cell_block_ hm0; have z1 : ((0 : Nat) = w1.heap.size) = False := eq_false (Nat.ne_of_lt zl); have z2 : (w1.heap.size = (0 : Nat)) = False := eq_false (Nat.ne_of_gt zl); have HGE := Aside0.mk hb.size; have HB := Aside0.mk hb; clear hb)
  go_ret2
  exact ⟨by first | rfl | (simp; rfl), below_alloc (below_alloc HB.out _) _⟩
set_option maxRecDepth 100000 in
set_option maxHeartbeats 8000000 in
theorem next_neg_nn (x ev cpu k c s g : Int) (b : Bool) (w : World) (bm : Nat) (ao : Option Addr) (m cap : Nat) (tt : Int)
    (hN : NextAt w bm ev (.agg #[.slice ao m cap, .int .i64 tt, .nilFunc, .nilFunc]) true) (hu : packed_Unpack.f x = some (k, c, b, s, g, 0)) (h : cpu < 0) :
    Calls Tryd.prog 53 #[.int .u64 x, .int .i64 ev, .int .i64 cpu] w fun e w' => e = .returned (.tuple #[.int .u64 0, .int .i64 1]) ∧ Below w.heap.size w w' := by
  have HU := Aside0.mk hu
  have HN := Aside0.mk hN
  clear hu hN
  have d1 : decide (cpu < 0) = true := decide_eq_true h
  clear h
  go_enter Tryd.func53, Tryd.ntmps53
  go_wp2_with (go_at_call 57; refine (packed_Unpack.calls x k c b s g 0 _ HN.out.ld HU.out).mono ?_; rintro e w1 ⟨rfl, hb⟩; have hm0 := pw_cell_below hb HN.out.cell; have hlk : (Instr.lookup 101 (.map (some bm)) (.int .i64 ev) true).run Tryd.prog (w1.alloc (.cells #[.int .i64 k, .int .i64 c, .bool b, .int .i64 s, .int .i64 g] 77)) = _ := HN.out.look _ (below_alloc hb _); have zl : 0 < w1.heap.size := cell_block_ hm0; have z1 : ((0 : Nat) = w1.heap.size) = False := eq_false (Nat.ne_of_lt zl); have z2 : (w1.heap.size = (0 : Nat)) = False := eq_false (Nat.ne_of_gt zl); have HGE := Aside0.mk hb.size; have HB := Aside0.mk hb; clear hb)
  go_ret2
  exact ⟨by first | rfl | (simp; rfl), below_alloc (below_alloc HB.out _) _⟩
set_option maxRecDepth 100000 in
set_option maxHeartbeats 8000000 in
theorem next_big_nn (x ev cpu k c s g : Int) (b : Bool) (w : World) (bm : Nat) (ao : Option Addr) (m cap : Nat) (tt : Int)
    (hN : NextAt w bm ev (.agg #[.slice ao m cap, .int .i64 tt, .nilFunc, .nilFunc]) true) (hu : packed_Unpack.f x = some (k, c, b, s, g, 0)) (h : 64 ≤ cpu) :
    Calls Tryd.prog 53 #[.int .u64 x, .int .i64 ev, .int .i64 cpu] w fun e w' => e = .returned (.tuple #[.int .u64 0, .int .i64 1]) ∧ Below w.heap.size w w' := by
  have HU := Aside0.mk hu
  have HN := Aside0.mk hN
  clear hu hN
  have d1 : decide (cpu < 0) = false := decide_eq_false (by omega)
  have d2 : decide (64 ≤ cpu) = true := decide_eq_true h
  clear h
  go_enter Tryd.func53, Tryd.ntmps53
  go_wp2_with (go_at_call 57; refine (packed_Unpack.calls x k c b s g 0 _ HN.out.ld HU.out).mono ?_; rintro e w1 ⟨rfl, hb⟩; have hm0 := pw_cell_below hb HN.out.cell; have hlk : (Instr.lookup 101 (.map (some bm)) (.int .i64 ev) true).run Tryd.prog (w1.alloc (.cells #[.int .i64 k, .int .i64 c, .bool b, .int .i64 s, .int .i64 g] 77)) = _ := HN.out.look _ (below_alloc hb _); have zl : 0 < w1.heap.size := cell_block_ hm0; have z1 : ((0 : Nat) = w1.heap.size) = False := eq_false (Nat.ne_of_lt zl); have z2 : (w1.heap.size = (0 : Nat)) = False := eq_false (Nat.ne_of_gt zl); have HGE := Aside0.mk hb.size; have HB := Aside0.mk hb; clear hb)
  go_ret2
  exact ⟨by first | rfl | (simp; rfl), below_alloc (below_alloc HB.out _) _⟩
set_option maxRecDepth 100000 in
set_option maxHeartbeats 8000000 in
theorem next_not_nn (x ev cpu k c s g : Int) (b : Bool) (w : World) (bm : Nat) (ao : Option Addr) (m cap : Nat) (tt : Int)
    (hN : NextAt w bm ev (.agg #[.slice ao m cap, .int .i64 tt, .nilFunc, .nilFunc]) true) (hu : packed_Unpack.f x = some (k, c, b, s, g, 0)) (h0 : 0 ≤ cpu) (h1 : cpu < 64)
    (hh : ∀ W, Below w.heap.size w W → Calls Tryd.prog 63 #[.agg #[.slice ao m cap, .int .i64 tt, .nilFunc, .nilFunc], stV k c b s g] W fun e w' => e = .returned (.bool false) ∧ Below W.heap.size W w') :
    Calls Tryd.prog 53 #[.int .u64 x, .int .i64 ev, .int .i64 cpu] w fun e w' => e = .returned (.tuple #[.int .u64 0, .int .i64 4]) ∧ Below w.heap.size w w' := by
  have HU := Aside0.mk hu
  have HN := Aside0.mk hN
  clear hu hN
  have d1 : decide (cpu < 0) = false := decide_eq_false (by omega)
  have d2 : decide (64 ≤ cpu) = false := decide_eq_false (by omega)
  have hnf := nef
  have hnf2 := nef2
  have HH := Aside0.mk hh
  unfold stV at HH
  clear hh h0 h1
  go_enter Tryd.func53, Tryd.ntmps53
  go_wp2_with (first | (go_at_call 57; refine (packed_Unpack.calls x k c b s g 0 _ HN.out.ld HU.out).mono ?_; rintro e w1 ⟨rfl, hb⟩; have hm0 := pw_cell_below hb HN.out.cell; have hlk : (Instr.lookup 101 (.map (some bm)) (.int .i64 ev) true).run Tryd.prog (w1.alloc (.cells #[.int .i64 k, .int .i64 c, .bool b, .int .i64 s, .int .i64 g] 77)) = _ := HN.out.look _ (below_alloc hb _); have zl : 0 < w1.heap.size := cell_block_ hm0; have z1 : ((0 : Nat) = w1.heap.size) = False := eq_false (Nat.ne_of_lt zl); have z2 : (w1.heap.size = (0 : Nat)) = False := eq_false (Nat.ne_of_gt zl); have HGE := Aside0.mk hb.size; have HB := Aside0.mk hb; clear hb) | (go_at_call 63; refine (HH.out _ (below_alloc (below_alloc HB.out _) _)).mono ?_; rintro e w3 ⟨rfl, hb⟩; have K8 : w3.heap[w1.heap.size]? = some (.cells #[.int .i64 k, .int .i64 c, .bool b, .int .i64 s, .int .i64 g] 77 (0, 0)) := blk_below (blk_alloc (blk_new w1 _) _) hb; have K10 : w3.heap[w1.heap.size + 1]? = some (.cells #[.slice ao m cap, .int .i64 tt, .nilFunc, .nilFunc] 99 (0, 0)) := blk_below (by have h_ := blk_new (w1.alloc (.cells #[.int .i64 k, .int .i64 c, .bool b, .int .i64 s, .int .i64 g] 77)) (.cells #[.slice ao m cap, .int .i64 tt, .nilFunc, .nilFunc] 99); rw [World.size_alloc] at h_; exact h_) hb; have HB3 := Aside0.mk (below_step (below_alloc (below_alloc HB.out _) _) hb); clear hb; have x0 := (blk_cell K8 0).trans rfl; have x1 := (blk_cell K8 1).trans rfl; have x2 := (blk_cell K8 2).trans rfl; have x3 := (blk_cell K8 3).trans rfl; have x4 := (blk_cell K8 4).trans rfl; have y1 := (blk_cell K10 1).trans rfl; have y3 := (blk_cell K10 3).trans rfl; have q0 := blk_frozen K8 0; have q1 := blk_frozen K8 1; have q2 := blk_frozen K8 2; have q3 := blk_frozen K8 3; have q4 := blk_frozen K8 4; have KK8 := Aside0.mk K8; clear K8 K10))
  go_ret2
  exact ⟨by first | rfl | (simp; rfl), HB3.out⟩
set_option maxRecDepth 100000 in
set_option maxHeartbeats 8000000 in
theorem next_er_fn (x ev cpu k c s g : Int) (b : Bool) (w : World) (bm : Nat) (ao : Option Addr) (m cap : Nat) (tt : Int) (q : Nat)
    (hN : NextAt w bm ev (.agg #[.slice ao m cap, .int .i64 tt, .func (.func q) #[] #[], .nilFunc]) true) (hu : packed_Unpack.f x = some (k, c, b, s, g, 1)) :
    Calls Tryd.prog 53 #[.int .u64 x, .int .i64 ev, .int .i64 cpu] w fun e w' => e = .returned (.tuple #[.int .u64 0, .int .i64 1]) ∧ Below w.heap.size w w' := by
  have HU := Aside0.mk hu
  have HN := Aside0.mk hN
  clear hu hN
  go_enter Tryd.func53, Tryd.ntmps53
  go_wp2_with (go_at_call 57; refine (packed_Unpack.calls x k c b s g 1 _ HN.out.ld HU.out).mono ?_; rintro e w1 ⟨rfl, hb⟩; have hm0 := pw_cell_below hb HN.out.cell; have hlk : (Instr.lookup 101 (.map (some bm)) (.int .i64 ev) true).run Tryd.prog (w1.alloc (.cells #[.int .i64 k, .int .i64 c, .bool b, .int .i64 s, .int .i64 g] 77)) = _ := HN.out.look _ (below_alloc hb _); have zl : 0 < w1.heap.size := cell_block_ hm0; have z1 : ((0 : Nat) = w1.heap.size) = False := eq_false (Nat.ne_of_lt zl); have z2 : (w1.heap.size = (0 : Nat)) = False := eq_false (Nat.ne_of_gt zl); have HGE := Aside0.mk hb.size; have HB := Aside0.mk hb; clear hb)
  go_ret2
  exact ⟨by first | rfl | (simp; rfl), below_alloc (below_alloc HB.out _) _⟩
set_option maxRecDepth 100000 in
set_option maxHeartbeats 8000000 in
theorem next_neg_fn (x ev cpu k c s g : Int) (b : Bool) (w : World) (bm : Nat) (ao : Option Addr) (m cap : Nat) (tt : Int) (q : Nat)
    (hN : NextAt w bm ev (.agg #[.slice ao m cap, .int .i64 tt, .func (.func q) #[] #[], .nilFunc]) true) (hu : packed_Unpack.f x = some (k, c, b, s, g, 0)) (h : cpu < 0) :
    Calls Tryd.prog 53 #[.int .u64 x, .int .i64 ev, .int .i64 cpu] w fun e w' => e = .returned (.tuple #[.int .u64 0, .int .i64 1]) ∧ Below w.heap.size w w' := by
  have HU := Aside0.mk hu
  have HN := Aside0.mk hN
  clear hu hN
  have d1 : decide (cpu < 0) = true := decide_eq_true h
  clear h
  go_enter Tryd.func53, Tryd.ntmps53
  go_wp2_with (go_at_call 57; refine (packed_Unpack.calls x k c b s g 0 _ HN.out.ld HU.out).mono ?_; rintro e w1 ⟨rfl, hb⟩; have hm0 := pw_cell_below hb HN.out.cell; have hlk : (Instr.lookup 101 (.map (some bm)) (.int .i64 ev) true).run Tryd.prog (w1.alloc (.cells #[.int .i64 k, .int .i64 c, .bool b, .int .i64 s, .int .i64 g] 77)) = _ := HN.out.look _ (below_alloc hb _); have zl : 0 < w1.heap.size := cell_block_ hm0; have z1 : ((0 : Nat) = w1.heap.size) = False := eq_false (Nat.ne_of_lt zl); have z2 : (w1.heap.size = (0 : Nat)) = False := eq_false (Nat.ne_of_gt zl); have HGE := Aside0.mk hb.size; have HB := Aside0.mk hb; clear hb)
  go_ret2
  exact ⟨by first | rfl | (simp; rfl), below_alloc (below_alloc HB.out _) _⟩
set_option maxRecDepth 100000 in
set_option maxHeartbeats 8000000 in
theorem next_big_fn (x ev cpu k c s g : Int) (b : Bool) (w : World) (bm : Nat) (ao : Option Addr) (m cap : Nat) (tt : Int) (q : Nat)
    (hN : NextAt w bm ev (.agg #[.slice ao m cap, .int .i64 tt, .func (.func q) #[] #[], .nilFunc]) true) (hu : packed_Unpack.f x = some (k, c, b, s, g, 0)) (h : 64 ≤ cpu) :
    Calls Tryd.prog 53 #[.int .u64 x, .int .i64 ev, .int .i64 cpu] w fun e w' => e = .returned (.tuple #[.int .u64 0, .int .i64 1]) ∧ Below w.heap.size w w' := by
  have HU := Aside0.mk hu
  have HN := Aside0.mk hN
  clear hu hN
  have d1 : decide (cpu < 0) = false := decide_eq_false (by omega)
  have d2 : decide (64 ≤ cpu) = true := decide_eq_true h
  clear h
  go_enter Tryd.func53, Tryd.ntmps53
  go_wp2_with (go_at_call 57; refine (packed_Unpack.calls x k c b s g 0 _ HN.out.ld HU.out).mono ?_; rintro e w1 ⟨rfl, hb⟩; have hm0 := pw_cell_below hb HN.out.cell; have hlk : (Instr.lookup 101 (.map (some bm)) (.int .i64 ev) true).run Tryd.prog (w1.alloc (.cells #[.int .i64 k, .int .i64 c, .bool b, .int .i64 s, .int .i64 g] 77)) = _ := HN.out.look _ (below_alloc hb _); have zl : 0 < w1.heap.size := cell_block_ hm0; have z1 : ((0 : Nat) = w1.heap.size) = False := eq_false (Nat.ne_of_lt zl); have z2 : (w1.heap.size = (0 : Nat)) = False := eq_false (Nat.ne_of_gt zl); have HGE := Aside0.mk hb.size; have HB := Aside0.mk hb; clear hb)
  go_ret2
  exact ⟨by first | rfl | (simp; rfl), below_alloc (below_alloc HB.out _) _⟩
set_option maxRecDepth 100000 in
set_option maxHeartbeats 8000000 in
theorem next_not_fn (x ev cpu k c s g : Int) (b : Bool) (w : World) (bm : Nat) (ao : Option Addr) (m cap : Nat) (tt : Int) (q : Nat)
    (hN : NextAt w bm ev (.agg #[.slice ao m cap, .int .i64 tt, .func (.func q) #[] #[], .nilFunc]) true) (hu : packed_Unpack.f x = some (k, c, b, s, g, 0)) (h0 : 0 ≤ cpu) (h1 : cpu < 64)
    (hh : ∀ W, Below w.heap.size w W → Calls Tryd.prog 63 #[.agg #[.slice ao m cap, .int .i64 tt, .func (.func q) #[] #[], .nilFunc], stV k c b s g] W fun e w' => e = .returned (.bool false) ∧ Below W.heap.size W w') :
    Calls Tryd.prog 53 #[.int .u64 x, .int .i64 ev, .int .i64 cpu] w fun e w' => e = .returned (.tuple #[.int .u64 0, .int .i64 4]) ∧ Below w.heap.size w w' := by
  have HU := Aside0.mk hu
  have HN := Aside0.mk hN
  clear hu hN
  have d1 : decide (cpu < 0) = false := decide_eq_false (by omega)
  have d2 : decide (64 ≤ cpu) = false := decide_eq_false (by omega)
  have hnf := nef
  have hnf2 := nef2
  have HH := Aside0.mk hh
  unfold stV at HH
  clear hh h0 h1
  go_enter Tryd.func53, Tryd.ntmps53
  go_wp2_with (first | (go_at_call 57; refine (packed_Unpack.calls x k c b s g 0 _ HN.out.ld HU.out).mono ?_; rintro e w1 ⟨rfl, hb⟩; have hm0 := pw_cell_below hb HN.out.cell; have hlk : (Instr.lookup 101 (.map (some bm)) (.int .i64 ev) true).run Tryd.prog (w1.alloc (.cells #[.int .i64 k, .int .i64 c, .bool b, .int .i64 s, .int .i64 g] 77)) = _ := HN.out.look _ (below_alloc hb _); have zl : 0 < w1.heap.size := cell_block_ hm0; have z1 : ((0 : Nat) = w1.heap.size) = False := eq_false (Nat.ne_of_lt zl); have z2 : (w1.heap.size = (0 : Nat)) = False := eq_false (Nat.ne_of_gt zl); have HGE := Aside0.mk hb.size; have HB := Aside0.mk hb; clear hb) | (go_at_call 63; refine (HH.out _ (below_alloc (below_alloc HB.out _) _)).mono ?_; rintro e w3 ⟨rfl, hb⟩; have K8 : w3.heap[w1.heap.size]? = some (.cells #[.int .i64 k, .int .i64 c, .bool b, .int .i64 s, .int .i64 g] 77 (0, 0)) := blk_below (blk_alloc (blk_new w1 _) _) hb; have K10 : w3.heap[w1.heap.size + 1]? = some (.cells #[.slice ao m cap, .int .i64 tt, .func (.func q) #[] #[], .nilFunc] 99 (0, 0)) := blk_below (by have h_ := blk_new (w1.alloc (.cells #[.int .i64 k, .int .i64 c, .bool b, .int .i64 s, .int .i64 g] 77)) (.cells #[.slice ao m cap, .int .i64 tt, .func (.func q) #[] #[], .nilFunc] 99); rw [World.size_alloc] at h_; exact h_) hb; have HB3 := Aside0.mk (below_step (below_alloc (below_alloc HB.out _) _) hb); clear hb; have x0 := (blk_cell K8 0).trans rfl; have x1 := (blk_cell K8 1).trans rfl; have x2 := (blk_cell K8 2).trans rfl; have x3 := (blk_cell K8 3).trans rfl; have x4 := (blk_cell K8 4).trans rfl; have y1 := (blk_cell K10 1).trans rfl; have y3 := (blk_cell K10 3).trans rfl; have q0 := blk_frozen K8 0; have q1 := blk_frozen K8 1; have q2 := blk_frozen K8 2; have q3 := blk_frozen K8 3; have q4 := blk_frozen K8 4; have KK8 := Aside0.mk K8; clear K8 K10))
  go_ret2
  exact ⟨by first | rfl | (simp; rfl), HB3.out⟩
set_option maxRecDepth 100000 in
set_option maxHeartbeats 8000000 in
theorem next_er_nf (x ev cpu k c s g : Int) (b : Bool) (w : World) (bm : Nat) (ao : Option Addr) (m cap : Nat) (tt : Int) (p : Nat)
    (hN : NextAt w bm ev (.agg #[.slice ao m cap, .int .i64 tt, .nilFunc, .func (.func p) #[] #[]]) true) (hu : packed_Unpack.f x = some (k, c, b, s, g, 1)) :
    Calls Tryd.prog 53 #[.int .u64 x, .int .i64 ev, .int .i64 cpu] w fun e w' => e = .returned (.tuple #[.int .u64 0, .int .i64 1]) ∧ Below w.heap.size w w' := by
  have HU := Aside0.mk hu
  have HN := Aside0.mk hN
  clear hu hN
  go_enter Tryd.func53, Tryd.ntmps53
  go_wp2_with (go_at_call 57; refine (packed_Unpack.calls x k c b s g 1 _ HN.out.ld HU.out).mono ?_; rintro e w1 ⟨rfl, hb⟩; have hm0 := pw_cell_below hb HN.out.cell; have hlk : (Instr.lookup 101 (.map (some bm)) (.int .i64 ev) true).run Tryd.prog (w1.alloc (.cells #[.int .i64 k, .int .i64 c, .bool b, .int .i64 s, .int .i64 g] 77)) = _ := HN.out.look _ (below_alloc hb _); have zl : 0 < w1.heap.size := cell_block_ hm0; have z1 : ((0 : Nat) = w1.heap.size) = False := eq_false (Nat.ne_of_lt zl); have z2 : (w1.heap.size = (0 : Nat)) = False := eq_false (Nat.ne_of_gt zl); have HGE := Aside0.mk hb.size; have HB := Aside0.mk hb; clear hb)
  go_ret2
  exact ⟨by first | rfl | (simp; rfl), below_alloc (below_alloc HB.out _) _⟩
set_option maxRecDepth 100000 in
set_option maxHeartbeats 8000000 in
theorem next_neg_nf (x ev cpu k c s g : Int) (b : Bool) (w : World) (bm : Nat) (ao : Option Addr) (m cap : Nat) (tt : Int) (p : Nat)
    (hN : NextAt w bm ev (.agg #[.slice ao m cap, .int .i64 tt, .nilFunc, .func (.func p) #[] #[]]) true) (hu : packed_Unpack.f x = some (k, c, b, s, g, 0)) (h : cpu < 0) :
    Calls Tryd.prog 53 #[.int .u64 x, .int .i64 ev, .int .i64 cpu] w fun e w' => e = .returned (.tuple #[.int .u64 0, .int .i64 1]) ∧ Below w.heap.size w w' := by
  have HU := Aside0.mk hu
  have HN := Aside0.mk hN
  clear hu hN
  have d1 : decide (cpu < 0) = true := decide_eq_true h
  clear h
  go_enter Tryd.func53, Tryd.ntmps53
  go_wp2_with (go_at_call 57; refine (packed_Unpack.calls x k c b s g 0 _ HN.out.ld HU.out).mono ?_; rintro e w1 ⟨rfl, hb⟩; have hm0 := pw_cell_below hb HN.out.cell; have hlk : (Instr.lookup 101 (.map (some bm)) (.int .i64 ev) true).run Tryd.prog (w1.alloc (.cells #[.int .i64 k, .int .i64 c, .bool b, .int .i64 s, .int .i64 g] 77)) = _ := HN.out.look _ (below_alloc hb _); have zl : 0 < w1.heap.size := cell_block_ hm0; have z1 : ((0 : Nat) = w1.heap.size) = False := eq_false (Nat.ne_of_lt zl); have z2 : (w1.heap.size = (0 : Nat)) = False := eq_false (Nat.ne_of_gt zl); have HGE := Aside0.mk hb.size; have HB := Aside0.mk hb; clear hb)
  go_ret2
  exact ⟨by first | rfl | (simp; rfl), below_alloc (below_alloc HB.out _) _⟩
set_option maxRecDepth 100000 in
set_option maxHeartbeats 8000000 in
theorem next_big_nf (x ev cpu k c s g : Int) (b : Bool) (w : World) (bm : Nat) (ao : Option Addr) (m cap : Nat) (tt : Int) (p : Nat)
    (hN : NextAt w bm ev (.agg #[.slice ao m cap, .int .i64 tt, .nilFunc, .func (.func p) #[] #[]]) true) (hu : packed_Unpack.f x = some (k, c, b, s, g, 0)) (h : 64 ≤ cpu) :
    Calls Tryd.prog 53 #[.int .u64 x, .int .i64 ev, .int .i64 cpu] w fun e w' => e = .returned (.tuple #[.int .u64 0, .int .i64 1]) ∧ Below w.heap.size w w' := by
  have HU := Aside0.mk hu
  have HN := Aside0.mk hN
  clear hu hN
  have d1 : decide (cpu < 0) = false := decide_eq_false (by omega)
  have d2 : decide (64 ≤ cpu) = true := decide_eq_true h
  clear h
  go_enter Tryd.func53, Tryd.ntmps53
  go_wp2_with (go_at_call 57; refine (packed_Unpack.calls x k c b s g 0 _ HN.out.ld HU.out).mono ?_; rintro e w1 ⟨rfl, hb⟩; have hm0 := pw_cell_below hb HN.out.cell; have hlk : (Instr.lookup 101 (.map (some bm)) (.int .i64 ev) true).run Tryd.prog (w1.alloc (.cells #[.int .i64 k, .int .i64 c, .bool b, .int .i64 s, .int .i64 g] 77)) = _ := HN.out.look _ (below_alloc hb _); have zl : 0 < w1.heap.size := cell_block_ hm0; have z1 : ((0 : Nat) = w1.heap.size) = False := eq_false (Nat.ne_of_lt zl); have z2 : (w1.heap.size = (0 : Nat)) = False := eq_false (Nat.ne_of_gt zl); have HGE := Aside0.mk hb.size; have HB := Aside0.mk hb; clear hb)
  go_ret2
  exact ⟨by first | rfl | (simp; rfl), below_alloc (below_alloc HB.out _) _⟩
set_option maxRecDepth 100000 in
set_option maxHeartbeats 8000000 in
theorem next_not_nf (x ev cpu k c s g : Int) (b : Bool) (w : World) (bm : Nat) (ao : Option Addr) (m cap : Nat) (tt : Int) (p : Nat)
    (hN : NextAt w bm ev (.agg #[.slice ao m cap, .int .i64 tt, .nilFunc, .func (.func p) #[] #[]]) true) (hu : packed_Unpack.f x = some (k, c, b, s, g, 0)) (h0 : 0 ≤ cpu) (h1 : cpu < 64)
    (hh : ∀ W, Below w.heap.size w W → Calls Tryd.prog 63 #[.agg #[.slice ao m cap, .int .i64 tt, .nilFunc, .func (.func p) #[] #[]], stV k c b s g] W fun e w' => e = .returned (.bool false) ∧ Below W.heap.size W w') :
    Calls Tryd.prog 53 #[.int .u64 x, .int .i64 ev, .int .i64 cpu] w fun e w' => e = .returned (.tuple #[.int .u64 0, .int .i64 4]) ∧ Below w.heap.size w w' := by
  have HU := Aside0.mk hu
  have HN := Aside0.mk hN
  clear hu hN
  have d1 : decide (cpu < 0) = false := decide_eq_false (by omega)
  have d2 : decide (64 ≤ cpu) = false := decide_eq_false (by omega)
  have hnf := nef
  have hnf2 := nef2
  have HH := Aside0.mk hh
  unfold stV at HH
  clear hh h0 h1
  go_enter Tryd.func53, Tryd.ntmps53
  go_wp2_with (first | (go_at_call 57; refine (packed_Unpack.calls x k c b s g 0 _ HN.out.ld HU.out).mono ?_; rintro e w1 ⟨rfl, hb⟩; have hm0 := pw_cell_below hb HN.out.cell; have hlk : (Instr.lookup 101 (.map (some bm)) (.int .i64 ev) true).run Tryd.prog (w1.alloc (.cells #[.int .i64 k, .int .i64 c, .bool b, .int .i64 s, .int .i64 g] 77)) = _ := HN.out.look _ (below_alloc hb _); have zl : 0 < w1.heap.size := cell_block_ hm0; have z1 : ((0 : Nat) = w1.heap.size) = False := eq_false (Nat.ne_of_lt zl); have z2 : (w1.heap.size = (0 : Nat)) = False := eq_false (Nat.ne_of_gt zl); have HGE := Aside0.mk hb.size; have HB := Aside0.mk hb; clear hb) | (go_at_call 63; refine (HH.out _ (below_alloc (below_alloc HB.out _) _)).mono ?_; rintro e w3 ⟨rfl, hb⟩; have K8 : w3.heap[w1.heap.size]? = some (.cells #[.int .i64 k, .int .i64 c, .bool b, .int .i64 s, .int .i64 g] 77 (0, 0)) := blk_below (blk_alloc (blk_new w1 _) _) hb; have K10 : w3.heap[w1.heap.size + 1]? = some (.cells #[.slice ao m cap, .int .i64 tt, .nilFunc, .func (.func p) #[] #[]] 99 (0, 0)) := blk_below (by have h_ := blk_new (w1.alloc (.cells #[.int .i64 k, .int .i64 c, .bool b, .int .i64 s, .int .i64 g] 77)) (.cells #[.slice ao m cap, .int .i64 tt, .nilFunc, .func (.func p) #[] #[]] 99); rw [World.size_alloc] at h_; exact h_) hb; have HB3 := Aside0.mk (below_step (below_alloc (below_alloc HB.out _) _) hb); clear hb; have x0 := (blk_cell K8 0).trans rfl; have x1 := (blk_cell K8 1).trans rfl; have x2 := (blk_cell K8 2).trans rfl; have x3 := (blk_cell K8 3).trans rfl; have x4 := (blk_cell K8 4).trans rfl; have y1 := (blk_cell K10 1).trans rfl; have y3 := (blk_cell K10 3).trans rfl; have q0 := blk_frozen K8 0; have q1 := blk_frozen K8 1; have q2 := blk_frozen K8 2; have q3 := blk_frozen K8 3; have q4 := blk_frozen K8 4; have KK8 := Aside0.mk K8; clear K8 K10))
  go_ret2
  exact ⟨by first | rfl | (simp; rfl), HB3.out⟩
set_option maxRecDepth 100000 in
set_option maxHeartbeats 8000000 in
theorem next_er_ff (x ev cpu k c s g : Int) (b : Bool) (w : World) (bm : Nat) (ao : Option Addr) (m cap : Nat) (tt : Int) (p : Nat) (q : Nat)
    (hN : NextAt w bm ev (.agg #[.slice ao m cap, .int .i64 tt, .func (.func q) #[] #[], .func (.func p) #[] #[]]) true) (hu : packed_Unpack.f x = some (k, c, b, s, g, 1)) :
    Calls Tryd.prog 53 #[.int .u64 x, .int .i64 ev, .int .i64 cpu] w fun e w' => e = .returned (.tuple #[.int .u64 0, .int .i64 1]) ∧ Below w.heap.size w w' := by
  have HU := Aside0.mk hu
  have HN := Aside0.mk hN
  clear hu hN
  go_enter Tryd.func53, Tryd.ntmps53
  go_wp2_with (go_at_call 57; refine (packed_Unpack.calls x k c b s g 1 _ HN.out.ld HU.out).mono ?_; rintro e w1 ⟨rfl, hb⟩; have hm0 := pw_cell_below hb HN.out.cell; have hlk : (Instr.lookup 101 (.map (some bm)) (.int .i64 ev) true).run Tryd.prog (w1.alloc (.cells #[.int .i64 k, .int .i64 c, .bool b, .int .i64 s, .int .i64 g] 77)) = _ := HN.out.look _ (below_alloc hb _); have zl : 0 < w1.heap.size := cell_block_ hm0; have z1 : ((0 : Nat) = w1.heap.size) = False := eq_false (Nat.ne_of_lt zl); have z2 : (w1.heap.size = (0 : Nat)) = False := eq_false (Nat.ne_of_gt zl); have HGE := Aside0.mk hb.size; have HB := Aside0.mk hb; clear hb)
  go_ret2
  exact ⟨by first | rfl | (simp; rfl), below_alloc (below_alloc HB.out _) _⟩
set_option maxRecDepth 100000 in
set_option maxHeartbeats 8000000 in
theorem next_neg_ff (x ev cpu k c s g : Int) (b : Bool) (w : World) (bm : Nat) (ao : Option Addr) (m cap : Nat) (tt : Int) (p : Nat) (q : Nat)
    (hN : NextAt w bm ev (.agg #[.slice ao m cap, .int .i64 tt, .func (.func q) #[] #[], .func (.func p) #[] #[]]) true) (hu : packed_Unpack.f x = some (k, c, b, s, g, 0)) (h : cpu < 0) :
    Calls Tryd.prog 53 #[.int .u64 x, .int .i64 ev, .int .i64 cpu] w fun e w' => e = .returned (.tuple #[.int .u64 0, .int .i64 1]) ∧ Below w.heap.size w w' := by
  have HU := Aside0.mk hu
  have HN := Aside0.mk hN
  clear hu hN
  have d1 : decide (cpu < 0) = true := decide_eq_true h
  clear h
  go_enter Tryd.func53, Tryd.ntmps53
  go_wp2_with (go_at_call 57; refine (packed_Unpack.calls x k c b s g 0 _ HN.out.ld HU.out).mono ?_; rintro e w1 ⟨rfl, hb⟩; have hm0 := pw_cell_below hb HN.out.cell; have hlk : (Instr.lookup 101 (.map (some bm)) (.int .i64 ev) true).run Tryd.prog (w1.alloc (.cells #[.int .i64 k, .int .i64 c, .bool b, .int .i64 s, .int .i64 g] 77)) = _ := HN.out.look _ (below_alloc hb _); have zl : 0 < w1.heap.size := cell_block_ hm0; have z1 : ((0 : Nat) = w1.heap.size) = False := eq_false (Nat.ne_of_lt zl); have z2 : (w1.heap.size = (0 : Nat)) = False := eq_false (Nat.ne_of_gt zl); have HGE := Aside0.mk hb.size; have HB := Aside0.mk hb; clear hb)
  go_ret2
  exact ⟨by first | rfl | (simp; rfl), below_alloc (below_alloc HB.out _) _⟩
set_option maxRecDepth 100000 in
set_option maxHeartbeats 8000000 in
theorem next_big_ff (x ev cpu k c s g : Int) (b : Bool) (w : World) (bm : Nat) (ao : Option Addr) (m cap : Nat) (tt : Int) (p : Nat) (q : Nat)
    (hN : NextAt w bm ev (.agg #[.slice ao m cap, .int .i64 tt, .func (.func q) #[] #[], .func (.func p) #[] #[]]) true) (hu : packed_Unpack.f x = some (k, c, b, s, g, 0)) (h : 64 ≤ cpu) :
    Calls Tryd.prog 53 #[.int .u64 x, .int .i64 ev, .int .i64 cpu] w fun e w' => e = .returned (.tuple #[.int .u64 0, .int .i64 1]) ∧ Below w.heap.size w w' := by
  have HU := Aside0.mk hu
  have HN := Aside0.mk hN
  clear hu hN
  have d1 : decide (cpu < 0) = false := decide_eq_false (by omega)
  have d2 : decide (64 ≤ cpu) = true := decide_eq_true h
  clear h
  go_enter Tryd.func53, Tryd.ntmps53
  go_wp2_with (go_at_call 57; refine (packed_Unpack.calls x k c b s g 0 _ HN.out.ld HU.out).mono ?_; rintro e w1 ⟨rfl, hb⟩; have hm0 := pw_cell_below hb HN.out.cell; have hlk : (Instr.lookup 101 (.map (some bm)) (.int .i64 ev) true).run Tryd.prog (w1.alloc (.cells #[.int .i64 k, .int .i64 c, .bool b, .int .i64 s, .int .i64 g] 77)) = _ := HN.out.look _ (below_alloc hb _); have zl : 0 < w1.heap.size := cell_block_ hm0; have z1 : ((0 : Nat) = w1.heap.size) = False := eq_false (Nat.ne_of_lt zl); have z2 : (w1.heap.size = (0 : Nat)) = False := eq_false (Nat.ne_of_gt zl); have HGE := Aside0.mk hb.size; have HB := Aside0.mk hb; clear hb)
  go_ret2
  exact ⟨by first | rfl | (simp; rfl), below_alloc (below_alloc HB.out _) _⟩
set_option maxRecDepth 100000 in
set_option maxHeartbeats 8000000 in
theorem next_not_ff (x ev cpu k c s g : Int) (b : Bool) (w : World) (bm : Nat) (ao : Option Addr) (m cap : Nat) (tt : Int) (p : Nat) (q : Nat)
    (hN : NextAt w bm ev (.agg #[.slice ao m cap, .int .i64 tt, .func (.func q) #[] #[], .func (.func p) #[] #[]]) true) (hu : packed_Unpack.f x = some (k, c, b, s, g, 0)) (h0 : 0 ≤ cpu) (h1 : cpu < 64)
    (hh : ∀ W, Below w.heap.size w W → Calls Tryd.prog 63 #[.agg #[.slice ao m cap, .int .i64 tt, .func (.func q) #[] #[], .func (.func p) #[] #[]], stV k c b s g] W fun e w' => e = .returned (.bool false) ∧ Below W.heap.size W w') :
    Calls Tryd.prog 53 #[.int .u64 x, .int .i64 ev, .int .i64 cpu] w fun e w' => e = .returned (.tuple #[.int .u64 0, .int .i64 4]) ∧ Below w.heap.size w w' := by
  have HU := Aside0.mk hu
  have HN := Aside0.mk hN
  clear hu hN
  have d1 : decide (cpu < 0) = false := decide_eq_false (by omega)
  have d2 : decide (64 ≤ cpu) = false := decide_eq_false (by omega)
  have hnf := nef
  have hnf2 := nef2
  have HH := Aside0.mk hh
  unfold stV at HH
  clear hh h0 h1
  go_enter Tryd.func53, Tryd.ntmps53
  go_wp2_with (first | (go_at_call 57; refine (packed_Unpack.calls x k c b s g 0 _ HN.out.ld HU.out).mono ?_; rintro e w1 ⟨rfl, hb⟩; have hm0 := pw_cell_below hb HN.out.cell; have hlk : (Instr.lookup 101 (.map (some bm)) (.int .i64 ev) true).run Tryd.prog (w1.alloc (.cells #[.int .i64 k, .int .i64 c, .bool b, .int .i64 s, .int .i64 g] 77)) = _ := HN.out.look _ (below_alloc hb _); have zl : 0 < w1.heap.size := cell_block_ hm0; have z1 : ((0 : Nat) = w1.heap.size) = False := eq_false (Nat.ne_of_lt zl); have z2 : (w1.heap.size = (0 : Nat)) = False := eq_false (Nat.ne_of_gt zl); have HGE := Aside0.mk hb.size; have HB := Aside0.mk hb; clear hb) | (go_at_call 63; refine (HH.out _ (below_alloc (below_alloc HB.out _) _)).mono ?_; rintro e w3 ⟨rfl, hb⟩; have K8 : w3.heap[w1.heap.size]? = some (.cells #[.int .i64 k, .int .i64 c, .bool b, .int .i64 s, .int .i64 g] 77 (0, 0)) := blk_below (blk_alloc (blk_new w1 _) _) hb; have K10 : w3.heap[w1.heap.size + 1]? = some (.cells #[.slice ao m cap, .int .i64 tt, .func (.func q) #[] #[], .func (.func p) #[] #[]] 99 (0, 0)) := blk_below (by have h_ := blk_new (w1.alloc (.cells #[.int .i64 k, .int .i64 c, .bool b, .int .i64 s, .int .i64 g] 77)) (.cells #[.slice ao m cap, .int .i64 tt, .func (.func q) #[] #[], .func (.func p) #[] #[]] 99); rw [World.size_alloc] at h_; exact h_) hb; have HB3 := Aside0.mk (below_step (below_alloc (below_alloc HB.out _) _) hb); clear hb; have x0 := (blk_cell K8 0).trans rfl; have x1 := (blk_cell K8 1).trans rfl; have x2 := (blk_cell K8 2).trans rfl; have x3 := (blk_cell K8 3).trans rfl; have x4 := (blk_cell K8 4).trans rfl; have y1 := (blk_cell K10 1).trans rfl; have y3 := (blk_cell K10 3).trans rfl; have q0 := blk_frozen K8 0; have q1 := blk_frozen K8 1; have q2 := blk_frozen K8 2; have q3 := blk_frozen K8 3; have q4 := blk_frozen K8 4; have KK8 := Aside0.mk K8; clear K8 K10))
  go_ret2
  exact ⟨by first | rfl | (simp; rfl), HB3.out⟩
set_option maxRecDepth 100000 in
set_option maxHeartbeats 8000000 in
theorem next_full (x ev cpu k c s g : Int) (b : Bool) (w : World) (bm : Nat) (ao : Option Addr) (m cap : Nat) (tt : Int)
    (hN : NextAt w bm ev (.agg #[.slice ao m cap, .int .i64 tt, .nilFunc, .func (.func 91) #[] #[]]) true) (hu : packed_Unpack.f x = some (k, c, b, s, g, 0)) (h0 : 0 ≤ cpu) (h1 : cpu < 64)
    (hh : ∀ W, Below w.heap.size w W → Calls Tryd.prog 63 #[.agg #[.slice ao m cap, .int .i64 tt, .nilFunc, .func (.func 91) #[] #[]], stV k c b s g] W fun e w' => e = .returned (.bool true) ∧ Below W.heap.size W w') (he : ev = 0) (hg : g = 4294967295) :
    Calls Tryd.prog 53 #[.int .u64 x, .int .i64 ev, .int .i64 cpu] w fun e w' => e = .returned (.tuple #[.int .u64 0, .int .i64 5]) ∧ Below w.heap.size w w' := by
  have HU := Aside0.mk hu
  have HN := Aside0.mk hN
  clear hu hN
  have d1 : decide (cpu < 0) = false := decide_eq_false (by omega)
  have d2 : decide (64 ≤ cpu) = false := decide_eq_false (by omega)
  have hnf := nef
  have hnf2 := nef2
  have HH := Aside0.mk hh
  unfold stV at HH
  clear hh h0 h1
  have d3 : (ev == 0) = true := by rw [he]; rfl
  have d4 : (g == 4294967295) = true := by rw [hg]; rfl
  clear he hg
  go_enter Tryd.func53, Tryd.ntmps53
  go_wp2_with (first | (go_at_call 57; refine (packed_Unpack.calls x k c b s g 0 _ HN.out.ld HU.out).mono ?_; rintro e w1 ⟨rfl, hb⟩; have hm0 := pw_cell_below hb HN.out.cell; have hlk : (Instr.lookup 101 (.map (some bm)) (.int .i64 ev) true).run Tryd.prog (w1.alloc (.cells #[.int .i64 k, .int .i64 c, .bool b, .int .i64 s, .int .i64 g] 77)) = _ := HN.out.look _ (below_alloc hb _); have zl : 0 < w1.heap.size := cell_block_ hm0; have z1 : ((0 : Nat) = w1.heap.size) = False := eq_false (Nat.ne_of_lt zl); have z2 : (w1.heap.size = (0 : Nat)) = False := eq_false (Nat.ne_of_gt zl); have HGE := Aside0.mk hb.size; have HB := Aside0.mk hb; clear hb) | (go_at_call 63; refine (HH.out _ (below_alloc (below_alloc HB.out _) _)).mono ?_; rintro e w3 ⟨rfl, hb⟩; have K8 : w3.heap[w1.heap.size]? = some (.cells #[.int .i64 k, .int .i64 c, .bool b, .int .i64 s, .int .i64 g] 77 (0, 0)) := blk_below (blk_alloc (blk_new w1 _) _) hb; have K10 : w3.heap[w1.heap.size + 1]? = some (.cells #[.slice ao m cap, .int .i64 tt, .nilFunc, .func (.func 91) #[] #[]] 99 (0, 0)) := blk_below (by have h_ := blk_new (w1.alloc (.cells #[.int .i64 k, .int .i64 c, .bool b, .int .i64 s, .int .i64 g] 77)) (.cells #[.slice ao m cap, .int .i64 tt, .nilFunc, .func (.func 91) #[] #[]] 99); rw [World.size_alloc] at h_; exact h_) hb; have HB3 := Aside0.mk (below_step (below_alloc (below_alloc HB.out _) _) hb); clear hb; have x0 := (blk_cell K8 0).trans rfl; have x1 := (blk_cell K8 1).trans rfl; have x2 := (blk_cell K8 2).trans rfl; have x3 := (blk_cell K8 3).trans rfl; have x4 := (blk_cell K8 4).trans rfl; have y1 := (blk_cell K10 1).trans rfl; have y3 := (blk_cell K10 3).trans rfl; have q0 := blk_frozen K8 0; have q1 := blk_frozen K8 1; have q2 := blk_frozen K8 2; have q3 := blk_frozen K8 3; have q4 := blk_frozen K8 4; have KK8 := Aside0.mk K8; clear K8 K10))
  go_ret2
  exact ⟨by first | rfl | (simp; rfl), HB3.out⟩
set_option maxRecDepth 100000 in
set_option maxHeartbeats 8000000 in
theorem next_none_0 (x ev cpu k c s g : Int) (b : Bool) (w : World) (bm : Nat) 
    (hN : NextAt w bm ev (.agg #[.slice none 0 0, .int .i64 0, .nilFunc, .nilFunc]) false) (hu : packed_Unpack.f x = some (k, c, b, s, g, 0)) :
    Calls Tryd.prog 53 #[.int .u64 x, .int .i64 ev, .int .i64 cpu] w fun e w' => e = .returned (.tuple #[.int .u64 0, .int .i64 1]) ∧ Below w.heap.size w w' := by
  have HU := Aside0.mk hu
  have HN := Aside0.mk hN
  clear hu hN
  go_enter Tryd.func53, Tryd.ntmps53
  go_wp2_with (go_at_call 57; refine (packed_Unpack.calls x k c b s g 0 _ HN.out.ld HU.out).mono ?_; rintro e w1 ⟨rfl, hb⟩; have hm0 := pw_cell_below hb HN.out.cell; have hlk : (Instr.lookup 101 (.map (some bm)) (.int .i64 ev) true).run Tryd.prog (w1.alloc (.cells #[.int .i64 k, .int .i64 c, .bool b, .int .i64 s, .int .i64 g] 77)) = _ := HN.out.look _ (below_alloc hb _); have zl : 0 < w1.heap.size := cell_block_ hm0; have z1 : ((0 : Nat) = w1.heap.size) = False := eq_false (Nat.ne_of_lt zl); have z2 : (w1.heap.size = (0 : Nat)) = False := eq_false (Nat.ne_of_gt zl); have HGE := Aside0.mk hb.size; have HB := Aside0.mk hb; clear hb)
  go_ret2
  exact ⟨by first | rfl | (simp; rfl), below_alloc (below_alloc HB.out _) _⟩
set_option maxRecDepth 100000 in
set_option maxHeartbeats 8000000 in
theorem next_none_1 (x ev cpu k c s g : Int) (b : Bool) (w : World) (bm : Nat) 
    (hN : NextAt w bm ev (.agg #[.slice none 0 0, .int .i64 0, .nilFunc, .nilFunc]) false) (hu : packed_Unpack.f x = some (k, c, b, s, g, 1)) :
    Calls Tryd.prog 53 #[.int .u64 x, .int .i64 ev, .int .i64 cpu] w fun e w' => e = .returned (.tuple #[.int .u64 0, .int .i64 1]) ∧ Below w.heap.size w w' := by
  have HU := Aside0.mk hu
  have HN := Aside0.mk hN
  clear hu hN
  go_enter Tryd.func53, Tryd.ntmps53
  go_wp2_with (go_at_call 57; refine (packed_Unpack.calls x k c b s g 1 _ HN.out.ld HU.out).mono ?_; rintro e w1 ⟨rfl, hb⟩; have hm0 := pw_cell_below hb HN.out.cell; have hlk : (Instr.lookup 101 (.map (some bm)) (.int .i64 ev) true).run Tryd.prog (w1.alloc (.cells #[.int .i64 k, .int .i64 c, .bool b, .int .i64 s, .int .i64 g] 77)) = _ := HN.out.look _ (below_alloc hb _); have zl : 0 < w1.heap.size := cell_block_ hm0; have z1 : ((0 : Nat) = w1.heap.size) = False := eq_false (Nat.ne_of_lt zl); have z2 : (w1.heap.size = (0 : Nat)) = False := eq_false (Nat.ne_of_gt zl); have HGE := Aside0.mk hb.size; have HB := Aside0.mk hb; clear hb)
  go_ret2
  exact ⟨by first | rfl | (simp; rfl), below_alloc (below_alloc HB.out _) _⟩
end Go.Proofs.YtdchbcpfciljoaaDoor.Given

/- Package life: (rule).holds, and what a rule does. -/
import Derived.Test.YtdchbcpfciljoaaDoorLd
import Derived.WalkKit
import Derived.Deep.QuietTactic
import Derived.BigQuiet
import Derived.Laws.BitsAllLaws
namespace Go.Proofs.YtdchbcpfciljoaaDoor.Given
open Go.RowKit Go.Proofs.YtdchbcpfciljoaaDoor Go.Proofs.YtdchbcpfciljoaaDoorW.PrintWords
set_option linter.unusedVariables false
set_option linter.unusedSimpArgs false
theorem eqf (w : World) : Sem.run Tryd.prog (binOp BinOp.eql 96 Value.nilFunc Value.nilFunc) w = .ok (.bool true) w := by kernel_rfl
theorem eqf2 (f : Nat) (w : World) : Sem.run Tryd.prog (binOp BinOp.eql 96 (.func (.func f) #[] #[]) Value.nilFunc) w = .ok (.bool false) w := by kernel_rfl
theorem nef (w : World) : Sem.run Tryd.prog (binOp BinOp.neq 97 Value.nilFunc Value.nilFunc) w = .ok (.bool false) w := by kernel_rfl
theorem nef2 (f : Nat) (w : World) : Sem.run Tryd.prog (binOp BinOp.neq 97 (.func (.func f) #[] #[]) Value.nilFunc) w = .ok (.bool true) w := by kernel_rfl
def stV (k c : Int) (b : Bool) (s g : Int) : Value := .agg #[.int .i64 k, .int .i64 c, .bool b, .int .i64 s, .int .i64 g]
set_option maxHeartbeats 1000000 in
theorem plain_calls (k c : Int) (b : Bool) (s g : Int) (w : World) : Calls Tryd.prog 94 #[stV k c b s g] w fun e w' => e = .returned (.bool (!b)) ∧ Below w.heap.size w w' := by
  unfold stV
  go_enter Tryd.func94, Tryd.ntmps94
  go_wp2
  go_ret
  exact ⟨rfl, below_alloc (Below.refl _ _) _⟩
set_option maxHeartbeats 1000000 in
theorem noted_calls (k c : Int) (b : Bool) (s g : Int) (w : World) : Calls Tryd.prog 96 #[stV k c b s g] w fun e w' => e = .returned (.bool b) ∧ Below w.heap.size w w' := by
  unfold stV
  go_enter Tryd.func96, Tryd.ntmps96
  go_wp2
  go_ret
  exact ⟨rfl, below_alloc (Below.refl _ _) _⟩
theorem con_take_succ (l : List Int) (q : Int) (k : Nat) (h : k < l.length) : (l.take (k + 1)).any (fun y => y == q) = ((l.take k).any (fun y => y == q) || (l[k] == q)) := by
  rw [List.take_succ_eq_append_getElem h, List.any_append]
  simp
def ifB : Nat → Bool → Bool
  | 8, b => !b
  | 9, b => !b
  | 10, b => b
  | _, _ => true
theorem cell_block_ {W : World} {a : Addr} {v : Value} (h : W.cell? a = some v) : a.block < W.heap.size := by
  unfold World.cell? at h
  cases hx : W.heap[a.block]? with
  | none => rw [hx] at h; simp at h
  | some o => exact (Array.getElem?_eq_some_iff.1 hx).1
set_option maxRecDepth 100000 in
set_option maxHeartbeats 2000000 in
theorem holds_nil (ad : Addr) (cap : Nat) (l : List Int) (tt : Int) (f : Value) (k c : Int) (b : Bool) (s g : Int) (w : World) (hm : l.length ≤ 100) (hcap : l.length ≤ cap) (hc : ∀ j q, l[j]? = some q → w.cell? (ad.add j) = some (.int .i64 q)) :
    Calls Tryd.prog 63 #[.agg #[.slice (some ad) l.length cap, .int .i64 tt, .nilFunc, f], stV k c b s g] w fun e w' => e = .returned (.bool (l.any fun y => y == k)) ∧ Below w.heap.size w w' := by
  unfold stV
  have HC := Aside0.mk hc
  clear hc
  go_enter Tryd.func63, Tryd.ntmps63
  go_wp2
  go_loopg [10] l.length (fun kq i w' => ∃ q : Nat, kq + q = l.length ∧ i = .int .i64 (q : Int) ∧ (l.take q).any (fun y => y == k) = false ∧ w' = ((w.alloc (.cells #[.slice (some ad) l.length cap, .int .i64 tt, .nilFunc, f] 99)).alloc (.cells #[.int .i64 k, .int .i64 c, .bool b, .int .i64 s, .int .i64 g] 77)))
  case atStart => exact ⟨0, by omega, rfl, rfl, rfl⟩
  case round =>
    obtain ⟨q, hq, rfl, hno, rfl⟩ := hrel
    have HNO := Aside0.mk hno
    clear hno
    by_cases hlt : q < l.length
    · have hx := HC.out q l[q] (List.getElem?_eq_getElem hlt)
      have hxb := cell_block_ hx
      have hx1 := pw_cell_below (w1 := ((w.alloc (.cells #[.slice (some ad) l.length cap, .int .i64 tt, .nilFunc, f] 99)).alloc (.cells #[.int .i64 k, .int .i64 c, .bool b, .int .i64 s, .int .i64 g] 77))) (below_alloc (below_alloc (Below.refl _ _) _) _) hx
      have HT := Aside0.mk (con_take_succ l k q hlt)
      clear hx hxb
      generalize l[q] = y at hx1 HT
      have p1 := eq_true (show (0 : Int) ≤ (q : Int) from by omega)
      have p2 := eq_true (show (q : Int) < (l.length : Int) from by omega)
      cases hy : (y == k)
      · have HY := Aside0.mk hy
        go_wp2
        go_roundg (gk - 1)
        case measure => omega
        case rel => exact ⟨q + 1, by omega, by simp, by rw [HT.out, HNO.out, HY.out]; rfl, rfl⟩
      · have HY := Aside0.mk hy
        have hall : l.any (fun y => y == k) = true := by
          have h2 := HT.out
          rw [HY.out, Bool.or_true, List.any_eq_true] at h2
          obtain ⟨z, hz, hz2⟩ := h2
          exact List.any_eq_true.2 ⟨z, List.mem_of_mem_take hz, hz2⟩
        have HALL := Aside0.mk hall
        clear hall
        have hqf := eqf
        have hqf2 := eqf2
        go_wp2
        go_ret
        refine ⟨?_, ?_⟩
        · rw [HALL.out]; rfl
        · repeat (first | exact Below.refl _ _ | exact HBX.out | apply below_alloc | apply pw_below_drewN)
    · obtain rfl : q = l.length := by omega
      go_wp2
      go_ret
      refine ⟨?_, ?_⟩
      · have := HNO.out
        rw [List.take_length] at this
        rw [this]; rfl
      · repeat (first | exact Below.refl _ _ | apply below_alloc | apply pw_below_drewN)
set_option maxRecDepth 100000 in
set_option maxHeartbeats 2000000 in
theorem holds_plain (ad : Addr) (cap : Nat) (l : List Int) (tt : Int) (f : Value) (k c : Int) (b : Bool) (s g : Int) (w : World) (hm : l.length ≤ 100) (hcap : l.length ≤ cap) (hc : ∀ j q, l[j]? = some q → w.cell? (ad.add j) = some (.int .i64 q)) :
    Calls Tryd.prog 63 #[.agg #[.slice (some ad) l.length cap, .int .i64 tt, .func (.func 94) #[] #[], f], stV k c b s g] w fun e w' => e = .returned (.bool ((l.any fun y => y == k) && !b)) ∧ Below w.heap.size w w' := by
  unfold stV
  have HC := Aside0.mk hc
  clear hc
  go_enter Tryd.func63, Tryd.ntmps63
  go_wp2
  go_loopg [10] l.length (fun kq i w' => ∃ q : Nat, kq + q = l.length ∧ i = .int .i64 (q : Int) ∧ (l.take q).any (fun y => y == k) = false ∧ w' = ((w.alloc (.cells #[.slice (some ad) l.length cap, .int .i64 tt, .func (.func 94) #[] #[], f] 99)).alloc (.cells #[.int .i64 k, .int .i64 c, .bool b, .int .i64 s, .int .i64 g] 77)))
  case atStart => exact ⟨0, by omega, rfl, rfl, rfl⟩
  case round =>
    obtain ⟨q, hq, rfl, hno, rfl⟩ := hrel
    have HNO := Aside0.mk hno
    clear hno
    by_cases hlt : q < l.length
    · have hx := HC.out q l[q] (List.getElem?_eq_getElem hlt)
      have hxb := cell_block_ hx
      have hx1 := pw_cell_below (w1 := ((w.alloc (.cells #[.slice (some ad) l.length cap, .int .i64 tt, .func (.func 94) #[] #[], f] 99)).alloc (.cells #[.int .i64 k, .int .i64 c, .bool b, .int .i64 s, .int .i64 g] 77))) (below_alloc (below_alloc (Below.refl _ _) _) _) hx
      have HT := Aside0.mk (con_take_succ l k q hlt)
      clear hx hxb
      generalize l[q] = y at hx1 HT
      have p1 := eq_true (show (0 : Int) ≤ (q : Int) from by omega)
      have p2 := eq_true (show (q : Int) < (l.length : Int) from by omega)
      cases hy : (y == k)
      · have HY := Aside0.mk hy
        go_wp2
        go_roundg (gk - 1)
        case measure => omega
        case rel => exact ⟨q + 1, by omega, by simp, by rw [HT.out, HNO.out, HY.out]; rfl, rfl⟩
      · have HY := Aside0.mk hy
        have hall : l.any (fun y => y == k) = true := by
          have h2 := HT.out
          rw [HY.out, Bool.or_true, List.any_eq_true] at h2
          obtain ⟨z, hz, hz2⟩ := h2
          exact List.any_eq_true.2 ⟨z, List.mem_of_mem_take hz, hz2⟩
        have HALL := Aside0.mk hall
        clear hall
        have hqf := eqf
        have hqf2 := eqf2
        go_wp2_with (go_at_call 94; refine (plain_calls k c b s g _).mono ?_; rintro e w' ⟨rfl, hb⟩; have HBX := Aside0.mk (below_step (below_alloc (below_alloc (Below.refl w.heap.size w) _) _) hb); clear hb)
        go_ret
        refine ⟨?_, ?_⟩
        · rw [HALL.out]; rfl
        · repeat (first | exact Below.refl _ _ | exact HBX.out | apply below_alloc | apply pw_below_drewN)
    · obtain rfl : q = l.length := by omega
      go_wp2
      go_ret
      refine ⟨?_, ?_⟩
      · have := HNO.out
        rw [List.take_length] at this
        rw [this]; rfl
      · repeat (first | exact Below.refl _ _ | apply below_alloc | apply pw_below_drewN)
set_option maxRecDepth 100000 in
set_option maxHeartbeats 2000000 in
theorem holds_noted (ad : Addr) (cap : Nat) (l : List Int) (tt : Int) (f : Value) (k c : Int) (b : Bool) (s g : Int) (w : World) (hm : l.length ≤ 100) (hcap : l.length ≤ cap) (hc : ∀ j q, l[j]? = some q → w.cell? (ad.add j) = some (.int .i64 q)) :
    Calls Tryd.prog 63 #[.agg #[.slice (some ad) l.length cap, .int .i64 tt, .func (.func 96) #[] #[], f], stV k c b s g] w fun e w' => e = .returned (.bool ((l.any fun y => y == k) && b)) ∧ Below w.heap.size w w' := by
  unfold stV
  have HC := Aside0.mk hc
  clear hc
  go_enter Tryd.func63, Tryd.ntmps63
  go_wp2
  go_loopg [10] l.length (fun kq i w' => ∃ q : Nat, kq + q = l.length ∧ i = .int .i64 (q : Int) ∧ (l.take q).any (fun y => y == k) = false ∧ w' = ((w.alloc (.cells #[.slice (some ad) l.length cap, .int .i64 tt, .func (.func 96) #[] #[], f] 99)).alloc (.cells #[.int .i64 k, .int .i64 c, .bool b, .int .i64 s, .int .i64 g] 77)))
  case atStart => exact ⟨0, by omega, rfl, rfl, rfl⟩
  case round =>
    obtain ⟨q, hq, rfl, hno, rfl⟩ := hrel
    have HNO := Aside0.mk hno
    clear hno
    by_cases hlt : q < l.length
    · have hx := HC.out q l[q] (List.getElem?_eq_getElem hlt)
      have hxb := cell_block_ hx
      have hx1 := pw_cell_below (w1 := ((w.alloc (.cells #[.slice (some ad) l.length cap, .int .i64 tt, .func (.func 96) #[] #[], f] 99)).alloc (.cells #[.int .i64 k, .int .i64 c, .bool b, .int .i64 s, .int .i64 g] 77))) (below_alloc (below_alloc (Below.refl _ _) _) _) hx
      have HT := Aside0.mk (con_take_succ l k q hlt)
      clear hx hxb
      generalize l[q] = y at hx1 HT
      have p1 := eq_true (show (0 : Int) ≤ (q : Int) from by omega)
      have p2 := eq_true (show (q : Int) < (l.length : Int) from by omega)
      cases hy : (y == k)
      · have HY := Aside0.mk hy
        go_wp2
        go_roundg (gk - 1)
        case measure => omega
        case rel => exact ⟨q + 1, by omega, by simp, by rw [HT.out, HNO.out, HY.out]; rfl, rfl⟩
      · have HY := Aside0.mk hy
        have hall : l.any (fun y => y == k) = true := by
          have h2 := HT.out
          rw [HY.out, Bool.or_true, List.any_eq_true] at h2
          obtain ⟨z, hz, hz2⟩ := h2
          exact List.any_eq_true.2 ⟨z, List.mem_of_mem_take hz, hz2⟩
        have HALL := Aside0.mk hall
        clear hall
        have hqf := eqf
        have hqf2 := eqf2
        go_wp2_with (go_at_call 96; refine (noted_calls k c b s g _).mono ?_; rintro e w' ⟨rfl, hb⟩; have HBX := Aside0.mk (below_step (below_alloc (below_alloc (Below.refl w.heap.size w) _) _) hb); clear hb)
        go_ret
        refine ⟨?_, ?_⟩
        · rw [HALL.out]; rfl
        · repeat (first | exact Below.refl _ _ | exact HBX.out | apply below_alloc | apply pw_below_drewN)
    · obtain rfl : q = l.length := by omega
      go_wp2
      go_ret
      refine ⟨?_, ?_⟩
      · have := HNO.out
        rw [List.take_length] at this
        rw [this]; rfl
      · repeat (first | exact Below.refl _ _ | apply below_alloc | apply pw_below_drewN)
theorem Below.less {n m : Nat} {X Y : World} (h : Below n X Y) (hm : m ≤ n) : Below m X Y := ⟨h.os, h.tape, h.output, h.size, fun k hk => h.block k (Nat.lt_of_lt_of_le hk hm)⟩
def DoPost (B : Nat) (cs : Array Value) (W : World) (e : Ending) (w' : World) : Prop := e = .returned (.tuple #[]) ∧ w'.heap[B]? = some (.cells cs 77 (0, 0)) ∧ Below B W w'
set_option maxRecDepth 100000 in
set_option maxHeartbeats 2000000 in
theorem do56 (B : Nat) (k c : Int) (b : Bool) (s g cpu : Int) (W : World) (K : W.heap[B]? = some (.cells #[.int .i64 k, .int .i64 c, .bool b, .int .i64 s, .int .i64 g] 77 (0, 0))) :
    Calls Tryd.prog 91 #[.pointer (some ⟨B, 0, none⟩), .int .i64 cpu] W (DoPost B #[.int .i64 k, .int .i64 cpu, .bool b, .int .i64 0, .int .i64 (wrap64 (g + 1))] W) := by
  have x0 := (blk_cell K 0).trans rfl
  have x1 := (blk_cell K 1).trans rfl
  have x2 := (blk_cell K 2).trans rfl
  have x3 := (blk_cell K 3).trans rfl
  have x4 := (blk_cell K 4).trans rfl
  have q1 := blk_frozen K 1
  have q2 := blk_frozen K 2
  have q3 := blk_frozen K 3
  have q4 := blk_frozen K 4
  have KK := Aside0.mk K
  clear K
  go_enter Tryd.func91, Tryd.ntmps91
  go_wp2
  go_end0
  refine ⟨rfl, ?_, ?_⟩
  · exact (blk_put (blk_put (blk_put KK.out 4 _ rfl) 3 _ rfl) 1 _ rfl)
  · repeat (first | exact Below.refl _ _ | refine Below.setCell (p := ⟨B, _, none⟩) ?_ (Nat.le_refl B) _)
set_option maxRecDepth 100000 in
set_option maxHeartbeats 2000000 in
theorem do57 (B : Nat) (k c : Int) (b : Bool) (s g cpu : Int) (W : World) (K : W.heap[B]? = some (.cells #[.int .i64 k, .int .i64 c, .bool b, .int .i64 s, .int .i64 g] 77 (0, 0))) :
    Calls Tryd.prog 92 #[.pointer (some ⟨B, 0, none⟩), .int .i64 cpu] W (DoPost B #[.int .i64 k, .int .i64 0, .bool b, .int .i64 0, .int .i64 g] W) := by
  have x0 := (blk_cell K 0).trans rfl
  have x1 := (blk_cell K 1).trans rfl
  have x2 := (blk_cell K 2).trans rfl
  have x3 := (blk_cell K 3).trans rfl
  have x4 := (blk_cell K 4).trans rfl
  have q1 := blk_frozen K 1
  have q2 := blk_frozen K 2
  have q3 := blk_frozen K 3
  have q4 := blk_frozen K 4
  have KK := Aside0.mk K
  clear K
  go_enter Tryd.func92, Tryd.ntmps92
  go_wp2
  go_end0
  refine ⟨rfl, ?_, ?_⟩
  · exact (blk_put (blk_put KK.out 3 _ rfl) 1 _ rfl)
  · repeat (first | exact Below.refl _ _ | refine Below.setCell (p := ⟨B, _, none⟩) ?_ (Nat.le_refl B) _)
set_option maxRecDepth 100000 in
set_option maxHeartbeats 2000000 in
theorem do58 (B : Nat) (k c : Int) (b : Bool) (s g cpu : Int) (W : World) (K : W.heap[B]? = some (.cells #[.int .i64 k, .int .i64 c, .bool b, .int .i64 s, .int .i64 g] 77 (0, 0))) :
    Calls Tryd.prog 93 #[.pointer (some ⟨B, 0, none⟩), .int .i64 cpu] W (DoPost B #[.int .i64 k, .int .i64 c, .bool b, .int .i64 (bits .and .i64 (wrap64 (s + 1)) 65535), .int .i64 g] W) := by
  have x0 := (blk_cell K 0).trans rfl
  have x1 := (blk_cell K 1).trans rfl
  have x2 := (blk_cell K 2).trans rfl
  have x3 := (blk_cell K 3).trans rfl
  have x4 := (blk_cell K 4).trans rfl
  have q1 := blk_frozen K 1
  have q2 := blk_frozen K 2
  have q3 := blk_frozen K 3
  have q4 := blk_frozen K 4
  have KK := Aside0.mk K
  clear K
  go_enter Tryd.func93, Tryd.ntmps93
  go_wp2
  go_end0
  refine ⟨rfl, ?_, ?_⟩
  · exact (blk_put KK.out 3 _ rfl)
  · repeat (first | exact Below.refl _ _ | refine Below.setCell (p := ⟨B, _, none⟩) ?_ (Nat.le_refl B) _)
set_option maxRecDepth 100000 in
set_option maxHeartbeats 2000000 in
theorem do60 (B : Nat) (k c : Int) (b : Bool) (s g cpu : Int) (W : World) (K : W.heap[B]? = some (.cells #[.int .i64 k, .int .i64 c, .bool b, .int .i64 s, .int .i64 g] 77 (0, 0))) :
    Calls Tryd.prog 95 #[.pointer (some ⟨B, 0, none⟩), .int .i64 cpu] W (DoPost B #[.int .i64 k, .int .i64 c, .bool true, .int .i64 s, .int .i64 g] W) := by
  have x0 := (blk_cell K 0).trans rfl
  have x1 := (blk_cell K 1).trans rfl
  have x2 := (blk_cell K 2).trans rfl
  have x3 := (blk_cell K 3).trans rfl
  have x4 := (blk_cell K 4).trans rfl
  have q1 := blk_frozen K 1
  have q2 := blk_frozen K 2
  have q3 := blk_frozen K 3
  have q4 := blk_frozen K 4
  have KK := Aside0.mk K
  clear K
  go_enter Tryd.func95, Tryd.ntmps95
  go_wp2
  go_end0
  refine ⟨rfl, ?_, ?_⟩
  · exact (blk_put KK.out 2 _ rfl)
  · repeat (first | exact Below.refl _ _ | refine Below.setCell (p := ⟨B, _, none⟩) ?_ (Nat.le_refl B) _)
set_option maxRecDepth 100000 in
set_option maxHeartbeats 2000000 in
theorem do62 (B : Nat) (k c : Int) (b : Bool) (s g cpu : Int) (W : World) (K : W.heap[B]? = some (.cells #[.int .i64 k, .int .i64 c, .bool b, .int .i64 s, .int .i64 g] 77 (0, 0))) :
    Calls Tryd.prog 97 #[.pointer (some ⟨B, 0, none⟩), .int .i64 cpu] W (DoPost B #[.int .i64 k, .int .i64 cpu, .bool b, .int .i64 s, .int .i64 g] W) := by
  have x0 := (blk_cell K 0).trans rfl
  have x1 := (blk_cell K 1).trans rfl
  have x2 := (blk_cell K 2).trans rfl
  have x3 := (blk_cell K 3).trans rfl
  have x4 := (blk_cell K 4).trans rfl
  have q1 := blk_frozen K 1
  have q2 := blk_frozen K 2
  have q3 := blk_frozen K 3
  have q4 := blk_frozen K 4
  have KK := Aside0.mk K
  clear K
  go_enter Tryd.func97, Tryd.ntmps97
  go_wp2
  go_end0
  refine ⟨rfl, ?_, ?_⟩
  · exact (blk_put KK.out 1 _ rfl)
  · repeat (first | exact Below.refl _ _ | refine Below.setCell (p := ⟨B, _, none⟩) ?_ (Nat.le_refl B) _)
end Go.Proofs.YtdchbcpfciljoaaDoor.Given

/- What a call at work tells: the methods tell.. walked. -/
import Derived.Test.YtilmbpdfdickoaaDoorMC
import Derived.Test.YtilmbpdfdickoaaDoorMS
import Derived.StillTailTactics
import Derived.Deep.RegionHeld3
import Derived.Test.YtilmbpdfdickoaaDoorMA
import Derived.Lib.OthersKept
import Derived.Lib.Join
namespace Go.Proofs.YtilmbpdfdickoaaDoor.Given
open Go.RowKit Go.Proofs.YtilmbpdfdickoaaDoor Go.Proofs.YtilmbpdfdickoaaDoor.Print Go.Proofs.YtilmbpdfdickoaaDoor.Pure Go.Proofs.YtilmbpdfdickoaaDoorW.PrintWords Go.Proofs.YtilmbpdfdickoaaDoorW.PrintLast Go.Proofs.YtilmbpdfdickoaaDoorW.PrintMore
set_option linter.unusedVariables false
set_option linter.unusedSimpArgs false
def callC (c : CallS) : Array Value := #[.int .i64 c.op, .int .i64 c.slot, .int .i64 c.gen, .int .i64 c.cpu, .int .i64 c.n, .int .i64 c.nice, .int .u64 c.mask]
def CallAt (b : Nat) (c : CallS) (w : World) : Prop := w.heap[b]? = some (.cells (callC c) 47 (0, 0))
theorem CallAt.below {b : Nat} {c : CallS} {w w' : World} (h : CallAt b c w) (hb : Below w.heap.size w w') : CallAt b c w' := blk_below h hb
theorem CallAt.drew {b : Nat} {c : CallS} {w : World} (h : CallAt b c w) (n : Nat) : CallAt b c (w.drewN n) := h
set_option maxHeartbeats 8000000 in
set_option maxRecDepth 100000 in
theorem tellMask_walk (b : Nat) (c : CallS) (w : World) (hc : CallAt b c w) (h0 : 0 ≤ c.mask) (h1 : c.mask < 18446744073709551616) :
    Calls Tryd.prog 123 #[.pointer (some ⟨b, 0, none⟩)] w fun e w' => e = .returned (.tuple #[.string ⟨(printL c.mask.toNat).toArray⟩, .bool true]) ∧ Below w.heap.size w w' := by
  have y6 : w.cell? ⟨b, 6, none⟩ = some (.int .u64 c.mask) := (blk_cell hc 6).trans rfl
  have H := Aside0.mk (show cpus_Print.f c.mask = some ⟨(printL c.mask.toNat).toArray⟩ from if_pos ⟨h0, h1⟩)
  clear hc h0 h1
  go_enter Tryd.func123, Tryd.ntmps123
  go_wp2_with fail
  refine (cpus_Print.calls c.mask _ _ H.out).mono ?_
  rintro e w1 ⟨rfl, hb⟩
  have HB := Aside0.mk hb
  clear hb
  go_wp2_with fail
  go_ret2
  exact ⟨rfl, HB.out⟩
set_option maxHeartbeats 8000000 in
set_option maxRecDepth 100000 in
theorem tellCpu_walk (b : Nat) (c : CallS) (w : World) (HLd : Ld w) (hc : CallAt b c w) (t : ByteArray) (ok : Bool) (h : calls_digits.f c.cpu = some (t, ok)) :
    Calls Tryd.prog 127 #[.pointer (some ⟨b, 0, none⟩)] w fun e w' => e = .returned (.tuple #[.string t, .bool ok]) ∧ Below w.heap.size w w' := by
  have y6 : w.cell? ⟨b, 3, none⟩ = some (.int .i64 c.cpu) := (blk_cell hc 3).trans rfl
  have H := Aside0.mk h
  clear hc h
  go_enter Tryd.func127, Tryd.ntmps127
  go_wp2_with fail
  refine (calls_digits.calls c.cpu _ _ _ HLd H.out).mono ?_
  rintro e w1 ⟨rfl, hb⟩
  have HB := Aside0.mk hb
  clear hb
  go_wp2_with fail
  go_ret2
  exact ⟨rfl, HB.out⟩
set_option maxHeartbeats 8000000 in
set_option maxRecDepth 100000 in
theorem tellN_walk (b : Nat) (c : CallS) (w : World) (HLd : Ld w) (hc : CallAt b c w) (t : ByteArray) (ok : Bool) (h : calls_digits.f c.n = some (t, ok)) :
    Calls Tryd.prog 128 #[.pointer (some ⟨b, 0, none⟩)] w fun e w' => e = .returned (.tuple #[.string t, .bool ok]) ∧ Below w.heap.size w w' := by
  have y6 : w.cell? ⟨b, 4, none⟩ = some (.int .i64 c.n) := (blk_cell hc 4).trans rfl
  have H := Aside0.mk h
  clear hc h
  go_enter Tryd.func128, Tryd.ntmps128
  go_wp2_with fail
  refine (calls_digits.calls c.n _ _ _ HLd H.out).mono ?_
  rintro e w1 ⟨rfl, hb⟩
  have HB := Aside0.mk hb
  clear hb
  go_wp2_with fail
  go_ret2
  exact ⟨rfl, HB.out⟩
set_option maxHeartbeats 8000000 in
set_option maxRecDepth 100000 in
theorem tellTask_walk (b : Nat) (c : CallS) (w : World) (HLd : Ld w) (hc : CallAt b c w) (t : ByteArray) (ok : Bool) (h : calls_task.f c.slot c.gen = some (t, ok)) :
    Calls Tryd.prog 125 #[.pointer (some ⟨b, 0, none⟩)] w fun e w' => e = .returned (.tuple #[.string t, .bool ok]) ∧ Below w.heap.size w w' := by
  have hu23 := Tryd.underlying23
  have y1 : w.cell? ⟨b, 1, none⟩ = some (.int .i64 c.slot) := (blk_cell hc 1).trans rfl
  have y2 : w.cell? ⟨b, 2, none⟩ = some (.int .i64 c.gen) := (blk_cell hc 2).trans rfl
  have H := Aside0.mk h
  clear hc h
  go_enter Tryd.func125, Tryd.ntmps125
  go_wp2_with fail
  refine (calls_task.calls c.slot c.gen _ _ _ HLd H.out).mono ?_
  rintro e w1 ⟨rfl, hb⟩
  have HB := Aside0.mk hb
  clear hb
  go_wp2_with fail
  go_ret2
  exact ⟨rfl, HB.out⟩
set_option maxHeartbeats 8000000 in
set_option maxRecDepth 100000 in
theorem tellNice_walk (b : Nat) (c : CallS) (w : World) (HLd : Ld w) (hc : CallAt b c w) (t : ByteArray) (h : strconv_Itoa.f c.nice = some t) :
    Calls Tryd.prog 121 #[.pointer (some ⟨b, 0, none⟩)] w fun e w' => e = .returned (.tuple #[.string t, .bool (decide (-1000 ≤ c.nice) && decide (c.nice ≤ 1000))]) ∧ Below w.heap.size w w' := by
  have y5 : w.cell? ⟨b, 5, none⟩ = some (.int .i64 c.nice) := (blk_cell hc 5).trans rfl
  have H := Aside0.mk h
  have KC : Aside0 (w.heap[b]? = some (.cells (callC c) 47 (0, 0))) := ⟨hc⟩
  clear hc h
  have HB := Aside0.mk (Below.refl w.heap.size w)
  by_cases g0 : -1000 ≤ c.nice
  · by_cases g1 : c.nice ≤ 1000
    · rw [decide_eq_true g0, decide_eq_true g1]
      have t0 : decide (c.nice ≥ (-1000 : Int)) = true := decide_eq_true g0
      have t1 : decide (c.nice ≤ (1000 : Int)) = true := decide_eq_true g1
      clear g0 g1
      have HC := HB
      go_enter Tryd.func121, Tryd.ntmps121
      go_wp2_with fail
      go_region_held3 (fun w' => w'.cell? ⟨b, 5, none⟩ = some (.int .i64 c.nice)) (exact pw_cell_below (by repeat (with_reducible first | exact HC.out | apply below_drew1 | apply pw_below_drewN)) y5) (first | (go_at_call 28; refine (strconv_Itoa.calls c.nice t _ (Ld.below HLd (by repeat (with_reducible first | exact HC.out | apply below_drew1 | apply pw_below_drewN))) H.out).mono ?_; rintro e w1 ⟨rfl, hb⟩; have HC : Aside0 (Below w.heap.size w w1) := ⟨below_step (by repeat (with_reducible first | exact HC.out | apply below_drew1 | apply pw_below_drewN)) hb⟩; clear hb))
      all_goals
        go_wp2_with fail
        go_ret2
        exact ⟨rfl, HC.out⟩
    · rw [decide_eq_true g0, decide_eq_false g1]
      have t0 : decide (c.nice ≥ (-1000 : Int)) = true := decide_eq_true g0
      have t1 : decide (c.nice ≤ (1000 : Int)) = false := decide_eq_false g1
      clear g0 g1
      have HC := HB
      go_enter Tryd.func121, Tryd.ntmps121
      go_wp2_with fail
      go_region_held3 (fun w' => w'.cell? ⟨b, 5, none⟩ = some (.int .i64 c.nice)) (exact pw_cell_below (by repeat (with_reducible first | exact HC.out | apply below_drew1 | apply pw_below_drewN)) y5) (first | (go_at_call 28; refine (strconv_Itoa.calls c.nice t _ (Ld.below HLd (by repeat (with_reducible first | exact HC.out | apply below_drew1 | apply pw_below_drewN))) H.out).mono ?_; rintro e w1 ⟨rfl, hb⟩; have HC : Aside0 (Below w.heap.size w w1) := ⟨below_step (by repeat (with_reducible first | exact HC.out | apply below_drew1 | apply pw_below_drewN)) hb⟩; clear hb))
      all_goals
        go_wp2_with fail
        go_ret2
        exact ⟨rfl, HC.out⟩
  · rw [decide_eq_false g0]
    have t0 : decide (c.nice ≥ (-1000 : Int)) = false := decide_eq_false g0
    clear g0
    have HC := HB
    go_enter Tryd.func121, Tryd.ntmps121
    go_wp2_with fail
    refine wp_region_held_drew (S := (fun w' => w'.cell? ⟨b, 5, none⟩ = some (.int .i64 c.nice))) (by kernel_rfl) ?_ (fun hHeld => ?_)
    · exact pw_cell_below (by repeat (with_reducible first | exact HC.out | apply below_drew1 | apply pw_below_drewN)) y5
    refine wpAnyH_take (i := 0) (oi := { dst := some 4, op := Go.Op.move (Go.Operand.tmp 0), type := 57, pos := "calls.go:40", after := #[], guard := none }) (v := ?_) rfl (by kernel_rfl) (by kernel_rfl) (by kernel_rfl) (fun _ _ _ h => h) (Or.inl ⟨by rfl, ?_⟩) (by assumption) ?_
    rotate_left
    · intro w_ hSw; (try dsimp only at hSw); go_simp; (try with_reducible rfl)
    try simp only [Act.put, List.setIfInBounds_toArray, List.set_cons_zero, List.set_cons_succ]
    refine wpAnyH_take (i := 1) (oi := { dst := some 5, op := Go.Op.nilCheck (Go.Operand.tmp 4), type := 0, pos := "calls.go:40", after := #[{ on := 0, ground := Go.Ground.data }], guard := none }) (v := ?_) rfl (by kernel_rfl) (by kernel_rfl) (by kernel_rfl) (fun _ _ _ h => h) (Or.inl ⟨by rfl, ?_⟩) (by assumption) ?_
    rotate_left
    · intro w_ hSw; (try dsimp only at hSw); go_simp; (try with_reducible rfl)
    try simp only [Act.put, List.setIfInBounds_toArray, List.set_cons_zero, List.set_cons_succ]
    refine wpAnyH_take (i := 2) (oi := { dst := some 6, op := Go.Op.fieldAddr 47 (Go.Operand.tmp 5) 0, type := 0, pos := "calls.go:40", after := #[{ on := 1, ground := Go.Ground.data }], guard := none }) (v := ?_) rfl (by kernel_rfl) (by kernel_rfl) (by kernel_rfl) (fun _ _ _ h => h) (Or.inl ⟨by rfl, ?_⟩) (by assumption) ?_
    rotate_left
    · intro w_ hSw; (try dsimp only at hSw); go_simp; (try with_reducible rfl)
    try simp only [Act.put, List.setIfInBounds_toArray, List.set_cons_zero, List.set_cons_succ]
    refine wpAnyH_take (i := 3) (oi := { dst := some 7, op := Go.Op.fieldAddr 26 (Go.Operand.tmp 6) 4, type := 0, pos := "calls.go:40", after := #[{ on := 2, ground := Go.Ground.data }], guard := none }) (v := ?_) rfl (by kernel_rfl) (by kernel_rfl) (by kernel_rfl) (fun _ _ _ h => h) (Or.inl ⟨by rfl, ?_⟩) (by assumption) ?_
    rotate_left
    · intro w_ hSw; (try dsimp only at hSw); go_simp; (try with_reducible rfl)
    try simp only [Act.put, List.setIfInBounds_toArray, List.set_cons_zero, List.set_cons_succ]
    refine wpAnyH_take (i := 4) (oi := { dst := some 8, op := Go.Op.load 3 (Go.Operand.tmp 7), type := 3, pos := "calls.go:40", after := #[{ on := 3, ground := Go.Ground.data }], guard := none }) (v := ?_) rfl (by kernel_rfl) (by kernel_rfl) (by kernel_rfl) (fun _ _ _ h => h) (Or.inl ⟨by rfl, ?_⟩) (by assumption) ?_
    rotate_left
    · intro w_ hSw; (try dsimp only at hSw); go_simp; (try with_reducible rfl)
    try simp only [Act.put, List.setIfInBounds_toArray, List.set_cons_zero, List.set_cons_succ]
    refine wpAnyH_take (i := 6) (oi := { dst := some 10, op := Go.Op.move (Go.Operand.tmp 0), type := 57, pos := "calls.go:40", after := #[], guard := none }) (v := ?_) rfl (by kernel_rfl) (by kernel_rfl) (by kernel_rfl) (fun _ _ _ h => h) (Or.inl ⟨by rfl, ?_⟩) (by assumption) ?_
    rotate_left
    · intro w_ hSw; (try dsimp only at hSw); go_simp; (try with_reducible rfl)
    try simp only [Act.put, List.setIfInBounds_toArray, List.set_cons_zero, List.set_cons_succ]
    refine wpAnyH_take (i := 7) (oi := { dst := some 11, op := Go.Op.nilCheck (Go.Operand.tmp 10), type := 0, pos := "calls.go:40", after := #[{ on := 6, ground := Go.Ground.data }], guard := none }) (v := ?_) rfl (by kernel_rfl) (by kernel_rfl) (by kernel_rfl) (fun _ _ _ h => h) (Or.inl ⟨by rfl, ?_⟩) (by assumption) ?_
    rotate_left
    · intro w_ hSw; (try dsimp only at hSw); go_simp; (try with_reducible rfl)
    try simp only [Act.put, List.setIfInBounds_toArray, List.set_cons_zero, List.set_cons_succ]
    refine wpAnyH_take (i := 8) (oi := { dst := some 12, op := Go.Op.fieldAddr 47 (Go.Operand.tmp 11) 0, type := 0, pos := "calls.go:40", after := #[{ on := 7, ground := Go.Ground.data }], guard := none }) (v := ?_) rfl (by kernel_rfl) (by kernel_rfl) (by kernel_rfl) (fun _ _ _ h => h) (Or.inl ⟨by rfl, ?_⟩) (by assumption) ?_
    rotate_left
    · intro w_ hSw; (try dsimp only at hSw); go_simp; (try with_reducible rfl)
    try simp only [Act.put, List.setIfInBounds_toArray, List.set_cons_zero, List.set_cons_succ]
    refine wpAnyH_take (i := 9) (oi := { dst := some 13, op := Go.Op.fieldAddr 26 (Go.Operand.tmp 12) 4, type := 0, pos := "calls.go:40", after := #[{ on := 8, ground := Go.Ground.data }], guard := none }) (v := ?_) rfl (by kernel_rfl) (by kernel_rfl) (by kernel_rfl) (fun _ _ _ h => h) (Or.inl ⟨by rfl, ?_⟩) (by assumption) ?_
    rotate_left
    · intro w_ hSw; (try dsimp only at hSw); go_simp; (try with_reducible rfl)
    try simp only [Act.put, List.setIfInBounds_toArray, List.set_cons_zero, List.set_cons_succ]
    refine wpAnyH_take (i := 10) (oi := { dst := some 14, op := Go.Op.load 3 (Go.Operand.tmp 13), type := 3, pos := "calls.go:40", after := #[{ on := 9, ground := Go.Ground.data }], guard := none }) (v := ?_) rfl (by kernel_rfl) (by kernel_rfl) (by kernel_rfl) (fun _ _ _ h => h) (Or.inl ⟨by rfl, ?_⟩) (by assumption) ?_
    rotate_left
    · intro w_ hSw; (try dsimp only at hSw); go_simp; (try with_reducible rfl)
    try simp only [Act.put, List.setIfInBounds_toArray, List.set_cons_zero, List.set_cons_succ]
    refine wpAnyH_take (i := 11) (oi := { dst := some 15, op := Go.Op.binOp Go.BinOp.geq 3 (Go.Operand.tmp 14) (Go.Operand.const (Go.Value.int Go.IntKind.i64 (-1000))) 3, type := 4, pos := "calls.go:40", after := #[{ on := 10, ground := Go.Ground.data }], guard := none }) (v := ?_) rfl (by kernel_rfl) (by kernel_rfl) (by kernel_rfl) (fun _ _ _ h => h) (Or.inl ⟨by rfl, ?_⟩) (by assumption) ?_
    rotate_left
    · intro w_ hSw; (try dsimp only at hSw); go_simp; (try with_reducible rfl)
    try simp only [Act.put, List.setIfInBounds_toArray, List.set_cons_zero, List.set_cons_succ]
    refine wpAnyH_ready (rs := [5]) (by kernel_rfl) (by simp) ?_
    refine AllReadyH.cons rfl (fun K hK => ?_) AllReadyH.nil
    go_simp
    go_at_call 28; refine (strconv_Itoa.calls c.nice t _ (Ld.below HLd (by repeat (with_reducible first | exact HC.out | apply below_drew1 | apply pw_below_drewN))) H.out).mono ?_; rintro e w1 ⟨rfl, hb⟩; have HC : Aside0 (Below w.heap.size w w1) := ⟨below_step (by repeat (with_reducible first | exact HC.out | apply below_drew1 | apply pw_below_drewN)) hb⟩; clear hb
    go_wp2_with fail
    refine hK.out _ _ ?_ (fun hHeld => ?_)
    · exact pw_cell_below (by repeat (with_reducible first | exact HC.out | apply below_drew1 | apply pw_below_drewN)) y5
    clear hK K
    try simp only [Act.put, List.setIfInBounds_toArray, List.set_cons_zero, List.set_cons_succ]
    refine wpAnyH_take (i := 12) (oi := { dst := some 16, op := Go.Op.move (Go.Operand.tmp 15), type := 4, pos := "calls.go:40", after := #[{ on := 11, ground := Go.Ground.data }, { on := 5, ground := Go.Ground.chain }], guard := none }) (v := ?_) rfl (by kernel_rfl) (by kernel_rfl) (by kernel_rfl) (fun _ _ _ h => h) (Or.inl ⟨by rfl, ?_⟩) (by assumption) ?_
    rotate_left
    · intro w_ hSw; (try dsimp only at hSw); go_simp; (try with_reducible rfl)
    try simp only [Act.put, List.setIfInBounds_toArray, List.set_cons_zero, List.set_cons_succ]
    refine wpAnyH_take (i := 13) (oi := { dst := some 17, op := Go.Op.move (Go.Operand.tmp 0), type := 57, pos := "calls.go:40", after := #[{ on := 12, ground := Go.Ground.guard }, { on := 20, ground := Go.Ground.gcOnly Go.Departure.lateStores }], guard := some (12, true) }) (v := undef) rfl (by kernel_rfl) (by kernel_rfl) (by kernel_rfl) (fun _ _ _ h => h) (Or.inr ⟨by rfl, rfl⟩) (by assumption) ?_
    try simp only [Act.put, List.setIfInBounds_toArray, List.set_cons_zero, List.set_cons_succ]
    refine wpAnyH_take (i := 14) (oi := { dst := some 18, op := Go.Op.nilCheck (Go.Operand.tmp 17), type := 0, pos := "calls.go:40", after := #[{ on := 13, ground := Go.Ground.data }, { on := 12, ground := Go.Ground.guard }, { on := 20, ground := Go.Ground.gcOnly Go.Departure.lateStores }], guard := some (12, true) }) (v := undef) rfl (by kernel_rfl) (by kernel_rfl) (by kernel_rfl) (fun _ _ _ h => h) (Or.inr ⟨by rfl, rfl⟩) (by assumption) ?_
    try simp only [Act.put, List.setIfInBounds_toArray, List.set_cons_zero, List.set_cons_succ]
    refine wpAnyH_take (i := 15) (oi := { dst := some 19, op := Go.Op.fieldAddr 47 (Go.Operand.tmp 18) 0, type := 0, pos := "calls.go:40", after := #[{ on := 14, ground := Go.Ground.data }, { on := 12, ground := Go.Ground.guard }, { on := 20, ground := Go.Ground.gcOnly Go.Departure.lateStores }], guard := some (12, true) }) (v := undef) rfl (by kernel_rfl) (by kernel_rfl) (by kernel_rfl) (fun _ _ _ h => h) (Or.inr ⟨by rfl, rfl⟩) (by assumption) ?_
    try simp only [Act.put, List.setIfInBounds_toArray, List.set_cons_zero, List.set_cons_succ]
    refine wpAnyH_take (i := 16) (oi := { dst := some 20, op := Go.Op.fieldAddr 26 (Go.Operand.tmp 19) 4, type := 0, pos := "calls.go:40", after := #[{ on := 15, ground := Go.Ground.data }, { on := 12, ground := Go.Ground.guard }, { on := 20, ground := Go.Ground.gcOnly Go.Departure.lateStores }], guard := some (12, true) }) (v := undef) rfl (by kernel_rfl) (by kernel_rfl) (by kernel_rfl) (fun _ _ _ h => h) (Or.inr ⟨by rfl, rfl⟩) (by assumption) ?_
    try simp only [Act.put, List.setIfInBounds_toArray, List.set_cons_zero, List.set_cons_succ]
    refine wpAnyH_take (i := 17) (oi := { dst := some 21, op := Go.Op.load 3 (Go.Operand.tmp 20), type := 3, pos := "calls.go:40", after := #[{ on := 16, ground := Go.Ground.data }, { on := 12, ground := Go.Ground.guard }, { on := 20, ground := Go.Ground.gcOnly Go.Departure.lateStores }], guard := some (12, true) }) (v := undef) rfl (by kernel_rfl) (by kernel_rfl) (by kernel_rfl) (fun _ _ _ h => h) (Or.inr ⟨by rfl, rfl⟩) (by assumption) ?_
    try simp only [Act.put, List.setIfInBounds_toArray, List.set_cons_zero, List.set_cons_succ]
    refine wpAnyH_take (i := 18) (oi := { dst := some 22, op := Go.Op.binOp Go.BinOp.leq 3 (Go.Operand.tmp 21) (Go.Operand.const (Go.Value.int Go.IntKind.i64 1000)) 3, type := 4, pos := "calls.go:40", after := #[{ on := 17, ground := Go.Ground.data }, { on := 12, ground := Go.Ground.guard }, { on := 20, ground := Go.Ground.gcOnly Go.Departure.lateStores }], guard := some (12, true) }) (v := undef) rfl (by kernel_rfl) (by kernel_rfl) (by kernel_rfl) (fun _ _ _ h => h) (Or.inr ⟨by rfl, rfl⟩) (by assumption) ?_
    try simp only [Act.put, List.setIfInBounds_toArray, List.set_cons_zero, List.set_cons_succ]
    refine wpAnyH_take (i := 19) (oi := { dst := some 23, op := Go.Op.pick (Go.Operand.tmp 16) (Go.Operand.tmp 22) (Go.Operand.const (Go.Value.bool false)), type := 4, pos := "calls.go:40", after := #[{ on := 12, ground := Go.Ground.data }, { on := 18, ground := Go.Ground.data }, { on := 20, ground := Go.Ground.gcOnly Go.Departure.lateStores }], guard := none }) (v := ?_) rfl (by kernel_rfl) (by kernel_rfl) (by kernel_rfl) (fun _ _ _ h => h) (Or.inl ⟨by rfl, ?_⟩) (by assumption) ?_
    rotate_left
    · intro w_ hSw; (try dsimp only at hSw); go_simp; (try with_reducible rfl)
    try simp only [Act.put, List.setIfInBounds_toArray, List.set_cons_zero, List.set_cons_succ]
    refine wpAnyH_take (i := 20) (oi := { dst := some 2, op := Go.Op.assign (Go.Operand.tmp 9), type := 9, pos := "calls.go:40", after := #[{ on := 5, ground := Go.Ground.data }, { on := 12, ground := Go.Ground.chain }, { on := 0, ground := Go.Ground.phase }, { on := 1, ground := Go.Ground.phase }, { on := 2, ground := Go.Ground.phase }, { on := 3, ground := Go.Ground.phase }, { on := 4, ground := Go.Ground.phase }, { on := 5, ground := Go.Ground.phase }, { on := 6, ground := Go.Ground.textOnly Go.Departure.lateStores }, { on := 7, ground := Go.Ground.textOnly Go.Departure.lateStores }, { on := 8, ground := Go.Ground.textOnly Go.Departure.lateStores }, { on := 9, ground := Go.Ground.textOnly Go.Departure.lateStores }, { on := 10, ground := Go.Ground.textOnly Go.Departure.lateStores }, { on := 11, ground := Go.Ground.textOnly Go.Departure.lateStores }, { on := 12, ground := Go.Ground.textOnly Go.Departure.lateStores }, { on := 13, ground := Go.Ground.textOnly Go.Departure.lateStores }, { on := 14, ground := Go.Ground.textOnly Go.Departure.lateStores }, { on := 15, ground := Go.Ground.textOnly Go.Departure.lateStores }, { on := 16, ground := Go.Ground.textOnly Go.Departure.lateStores }, { on := 17, ground := Go.Ground.textOnly Go.Departure.lateStores }, { on := 18, ground := Go.Ground.textOnly Go.Departure.lateStores }, { on := 19, ground := Go.Ground.textOnly Go.Departure.lateStores }], guard := none }) (v := ?_) rfl (by kernel_rfl) (by kernel_rfl) (by kernel_rfl) (fun _ _ _ h => h) (Or.inl ⟨by rfl, ?_⟩) (by assumption) ?_
    rotate_left
    · intro w_ hSw; (try dsimp only at hSw); go_simp; (try with_reducible rfl)
    try simp only [Act.put, List.setIfInBounds_toArray, List.set_cons_zero, List.set_cons_succ]
    refine wpAnyH_take (i := 21) (oi := { dst := some 3, op := Go.Op.assign (Go.Operand.tmp 23), type := 4, pos := "calls.go:40", after := #[{ on := 19, ground := Go.Ground.data }, { on := 20, ground := Go.Ground.chain }, { on := 0, ground := Go.Ground.phase }, { on := 1, ground := Go.Ground.phase }, { on := 2, ground := Go.Ground.phase }, { on := 3, ground := Go.Ground.phase }, { on := 4, ground := Go.Ground.phase }, { on := 5, ground := Go.Ground.phase }, { on := 6, ground := Go.Ground.phase }, { on := 7, ground := Go.Ground.phase }, { on := 8, ground := Go.Ground.phase }, { on := 9, ground := Go.Ground.phase }, { on := 10, ground := Go.Ground.phase }, { on := 11, ground := Go.Ground.phase }, { on := 12, ground := Go.Ground.phase }, { on := 13, ground := Go.Ground.phase }, { on := 14, ground := Go.Ground.phase }, { on := 15, ground := Go.Ground.phase }, { on := 16, ground := Go.Ground.phase }, { on := 17, ground := Go.Ground.phase }, { on := 18, ground := Go.Ground.phase }, { on := 19, ground := Go.Ground.phase }, { on := 20, ground := Go.Ground.phase }], guard := none }) (v := ?_) rfl (by kernel_rfl) (by kernel_rfl) (by kernel_rfl) (fun _ _ _ h => h) (Or.inl ⟨by rfl, ?_⟩) (by assumption) ?_
    rotate_left
    · intro w_ hSw; (try dsimp only at hSw); go_simp; (try with_reducible rfl)
    try simp only [Act.put, List.setIfInBounds_toArray, List.set_cons_zero, List.set_cons_succ]
    refine wpAnyH_done (by kernel_rfl) ?_ _
    all_goals
      go_wp2_with fail
      go_ret2
      exact ⟨rfl, HC.out⟩
end Go.Proofs.YtilmbpdfdickoaaDoor.Given
/- What a call at work reads: the methods read.. walked. -/
namespace Go.Proofs.YtilmbpdfdickoaaDoor.Given
open Go.RowKit Go.Proofs.YtilmbpdfdickoaaDoor Go.Proofs.YtilmbpdfdickoaaDoor.Print Go.Proofs.YtilmbpdfdickoaaDoor.Pure Go.Proofs.YtilmbpdfdickoaaDoorW.PrintWords Go.Proofs.YtilmbpdfdickoaaDoorW.PrintLast Go.Proofs.YtilmbpdfdickoaaDoorW.PrintMore
set_option linter.unusedVariables false
set_option linter.unusedSimpArgs false
theorem grown_setCell (w : World) (a : Addr) (u : Value) : w.grownBy (w.setCell a u) (some a.block) :=
  ⟨rfl, rfl, rfl, by simp, fun k _ hk => heap_setCell_other w a k u (fun e => hk (by rw [e]))⟩
theorem grown_set {w w1 : World} {b : Nat} (h : w.grownBy w1 (some b)) (j : Nat) (v : Value) : w.grownBy (w1.setCell ⟨b, j, none⟩ v) (some b) := h.trans (grown_setCell w1 ⟨b, j, none⟩ v)
theorem numP_of {s : ByteArray} {n : Nat} (h : numT s.data.toList = some n) : numP s = (n : Int) := by
  obtain ⟨hl, hm⟩ := numT_some.1 h
  unfold numP
  rw [hl, parse_dec n hm]
def ReadPost (b : Nat) (c : CallS) (k : UInt8) (l : List UInt8) (w : World) (e : Ending) (w' : World) : Prop :=
  ∃ c', e = .returned (.bool (readF k c l).isSome) ∧ CallAt b c' w' ∧ (∀ c1, readF k c l = some c1 → c' = c1) ∧ w.grownBy w' (some b)
theorem readF_99 (c : CallS) (l : List UInt8) : readF 99 c l = (numT l).map fun (v : Nat) => { c with cpu := (v : Int) } := rfl
theorem readF_107 (c : CallS) (l : List UInt8) : readF 107 c l = (numT l).map fun (v : Nat) => { c with n := (v : Int) } := rfl
theorem readF_116 (c : CallS) (l : List UInt8) : readF 116 c l = (handleV l).map fun v => { c with slot := v.1, gen := v.2 } := rfl
theorem readF_109 (c : CallS) (l : List UInt8) : readF 109 c l = if (parseS l).2 = 0 then some { c with mask := (parseS l).1 } else none := rfl
theorem readF_110 (c : CallS) (l : List UInt8) : readF 110 c l = (niceV l).map fun v => { c with nice := v } := rfl
set_option maxHeartbeats 8000000 in
set_option maxRecDepth 100000 in
theorem readCpu_walk (b : Nat) (c : CallS) (s : ByteArray) (hs : s.size ≤ 281474976710656) (w : World) (HLd : Ld w) (hc : CallAt b c w) :
    Calls Tryd.prog 115 #[.pointer (some ⟨b, 0, none⟩), .string s] w (ReadPost b c 99 s.data.toList w) := by
  have HC := Aside0.mk hc
  have H := Aside0.mk (show calls_number.f s = some (numP s, (numT s.data.toList).isSome) from if_pos hs)
  clear hc hs
  go_enter Tryd.func115, Tryd.ntmps115
  go_wp2_with fail
  refine (calls_number.calls s _ _ _ HLd H.out).mono ?_
  rintro e w1 ⟨rfl, hb⟩
  have KC := Aside0.mk (HC.out.below hb)
  have HB := Aside0.mk hb
  have y3 : w1.cell? ⟨b, 3, none⟩ = some (.int .i64 c.cpu) := (blk_cell KC.out 3).trans rfl
  have f3 := blk_frozen KC.out 3
  clear hb
  go_wp2_with fail
  go_ret
  refine ⟨{ c with cpu := numP s }, by rw [readF_99, Option.isSome_map]; rfl, blk_put KC.out 3 _ rfl, ?_, grown_set (grown_of_below HB.out _) 3 _⟩
  intro c1 h1
  rw [readF_99] at h1
  obtain ⟨n, hn, rfl⟩ := Option.map_eq_some_iff.1 h1
  rw [numP_of hn]
set_option maxHeartbeats 8000000 in
set_option maxRecDepth 100000 in
theorem readN_walk (b : Nat) (c : CallS) (s : ByteArray) (hs : s.size ≤ 281474976710656) (w : World) (HLd : Ld w) (hc : CallAt b c w) :
    Calls Tryd.prog 129 #[.pointer (some ⟨b, 0, none⟩), .string s] w (ReadPost b c 107 s.data.toList w) := by
  have HC := Aside0.mk hc
  have H := Aside0.mk (show calls_number.f s = some (numP s, (numT s.data.toList).isSome) from if_pos hs)
  clear hc hs
  go_enter Tryd.func129, Tryd.ntmps129
  go_wp2_with fail
  refine (calls_number.calls s _ _ _ HLd H.out).mono ?_
  rintro e w1 ⟨rfl, hb⟩
  have KC := Aside0.mk (HC.out.below hb)
  have HB := Aside0.mk hb
  have y3 : w1.cell? ⟨b, 4, none⟩ = some (.int .i64 c.n) := (blk_cell KC.out 4).trans rfl
  have f3 := blk_frozen KC.out 4
  clear hb
  go_wp2_with fail
  go_ret
  refine ⟨{ c with n := numP s }, by rw [readF_107, Option.isSome_map]; rfl, blk_put KC.out 4 _ rfl, ?_, grown_set (grown_of_below HB.out _) 4 _⟩
  intro c1 h1
  rw [readF_107] at h1
  obtain ⟨n, hn, rfl⟩ := Option.map_eq_some_iff.1 h1
  rw [numP_of hn]
set_option maxHeartbeats 8000000 in
set_option maxRecDepth 100000 in
theorem readMask_walk (b : Nat) (c : CallS) (s : ByteArray) (hs : s.size ≤ 140737488351232) (w : World) (HLd : Ld w) (hc : CallAt b c w) :
    Calls Tryd.prog 124 #[.pointer (some ⟨b, 0, none⟩), .string s] w (ReadPost b c 109 s.data.toList w) := by
  have HC := Aside0.mk hc
  have H := Aside0.mk (show cpus_Parse.f s = some ((parseS s.data.toList).1, (parseS s.data.toList).2) from if_pos hs)
  clear hc hs
  go_enter Tryd.func124, Tryd.ntmps124
  go_wp2_with fail
  refine (cpus_Parse.calls s _ _ _ H.out).mono ?_
  rintro e w1 ⟨rfl, hb⟩
  have KC := Aside0.mk (HC.out.below hb)
  have HB := Aside0.mk hb
  have y3 : w1.cell? ⟨b, 6, none⟩ = some (.int .u64 c.mask) := (blk_cell KC.out 6).trans rfl
  have f3 := blk_frozen KC.out 6
  clear hb
  go_wp2_with fail
  go_ret
  refine ⟨{ c with mask := (parseS s.data.toList).1 }, ?_, blk_put KC.out 6 _ rfl, ?_, grown_set (grown_of_below HB.out _) 6 _⟩
  · rw [readF_109]
    by_cases h0 : (parseS s.data.toList).2 = 0
    · rw [if_pos h0, beq_iff_eq.2 h0]; rfl
    · rw [if_neg h0, beq_eq_false_iff_ne.2 h0]; rfl
  · intro c1 h1
    rw [readF_109] at h1
    split at h1
    · exact Option.some.inj h1
    · cases h1
theorem handle_is (s : ByteArray) (hs : s.size ≤ 4000000000) : ∃ x y, calls_handle.f s = some (x, y, (handleV s.data.toList).isSome) ∧ ∀ v, handleV s.data.toList = some v → x = v.1 ∧ y = v.2 := by
  have hl : (Lib.cut s.data.toList [46]).1.length ≤ 4000000000 ∧ (Lib.cut s.data.toList [46]).2.1.length ≤ 4000000000 := by
    have hz : s.data.toList.length ≤ 4000000000 := by rw [size_list]; exact hs
    rcases part_at 46 s.data.toList with h | ⟨a, b, ha, he⟩
    · rw [cut_no 46 _ h]; exact ⟨hz, Nat.zero_le _⟩
    · rw [he] at hz ⊢
      rw [cut_at 46 a b ha]
      rw [List.length_append, List.length_cons] at hz
      exact ⟨by dsimp only; omega, by dsimp only; omega⟩
  have hc : strings_Cut.f s (⟨#[46]⟩ : ByteArray) = some (⟨(Lib.cut s.data.toList [46]).1.toArray⟩, ⟨(Lib.cut s.data.toList [46]).2.1.toArray⟩, (Lib.cut s.data.toList [46]).2.2) := if_pos (by omega)
  have hv := handle_cut s.data.toList
  unfold calls_handle.f
  rw [hc, Option.bind_some]
  dsimp only
  generalize Lib.cut s.data.toList [46] = r at hl hv
  obtain ⟨a, b, is⟩ := r
  dsimp only at hl hv ⊢
  have n1 : calls_number.f ⟨a.toArray⟩ = some (numP ⟨a.toArray⟩, (numT a).isSome) := if_pos (by show a.toArray.size ≤ _; rw [List.size_toArray]; omega)
  have n2 : calls_number.f ⟨b.toArray⟩ = some (numP ⟨b.toArray⟩, (numT b).isSome) := if_pos (by show b.toArray.size ≤ _; rw [List.size_toArray]; omega)
  rw [n1, Option.bind_some, n2, Option.bind_some]
  dsimp only
  have p1 : ∀ n, numT a = some n → numP ⟨a.toArray⟩ = (n : Int) := fun n h => numP_of h
  have p2 : ∀ n, numT b = some n → numP ⟨b.toArray⟩ = (n : Int) := fun n h => numP_of h
  refine ⟨numP ⟨a.toArray⟩, numP ⟨b.toArray⟩, ?_, ?_⟩
  · rw [hv]
    cases is
    · rfl
    · rw [if_pos rfl, if_pos rfl]
      cases numT a with
      | none => rfl
      | some m => cases numT b <;> rfl
  · intro v h
    rw [hv] at h
    cases is
    · cases h
    · rw [if_pos rfl] at h
      cases h1 : numT a with
      | none => rw [h1] at h; cases h
      | some m =>
        cases h2 : numT b with
        | none => rw [h1, h2] at h; cases h
        | some n =>
          rw [h1, h2] at h
          obtain rfl := Option.some.inj h
          exact ⟨p1 m h1, p2 n h2⟩
set_option maxHeartbeats 8000000 in
set_option maxRecDepth 100000 in
theorem readTask_walk (b : Nat) (c : CallS) (s : ByteArray) (hs : s.size ≤ 4000000000) (w : World) (HLd : Ld w) (hc : CallAt b c w) :
    Calls Tryd.prog 126 #[.pointer (some ⟨b, 0, none⟩), .string s] w (ReadPost b c 116 s.data.toList w) := by
  have hu23 := Tryd.underlying23
  obtain ⟨x, y, hf, hv⟩ := handle_is s hs
  have HC := Aside0.mk hc
  have H := Aside0.mk hf
  have HV := Aside0.mk hv
  clear hc hs hf hv
  go_enter Tryd.func126, Tryd.ntmps126
  go_wp2_with fail
  refine (calls_handle.calls s _ _ _ _ HLd H.out).mono ?_
  rintro e w1 ⟨rfl, hb⟩
  have KC := Aside0.mk (HC.out.below hb)
  have HB := Aside0.mk hb
  have y1 : w1.cell? ⟨b, 1, none⟩ = some (.int .i64 c.slot) := (blk_cell KC.out 1).trans rfl
  have y2 : w1.cell? ⟨b, 2, none⟩ = some (.int .i64 c.gen) := (blk_cell KC.out 2).trans rfl
  have f1 := blk_frozen KC.out 1
  have f2 := blk_frozen KC.out 2
  clear hb
  go_wp2_with fail
  go_ret
  refine ⟨{ c with slot := x, gen := y }, by rw [readF_116, Option.isSome_map]; rfl, blk_put (blk_put KC.out 1 _ rfl) 2 _ rfl, ?_, grown_set (grown_set (grown_of_below HB.out _) 1 _) 2 _⟩
  intro c1 h1
  rw [readF_116] at h1
  obtain ⟨n, hn, rfl⟩ := Option.map_eq_some_iff.1 h1
  obtain ⟨rfl, rfl⟩ := HV.out n hn
  rfl
set_option maxHeartbeats 8000000 in
set_option maxRecDepth 100000 in
theorem readNice_walk (b : Nat) (c : CallS) (s : ByteArray) (hs : s.size ≤ 4000000000) (w : World) (HLd : Ld w) (hc : CallAt b c w) :
    Calls Tryd.prog 122 #[.pointer (some ⟨b, 0, none⟩), .string s] w (ReadPost b c 110 s.data.toList w) := by
  have hv := nice_cut s.data.toList
  have hl : (Lib.trimPrefix s.data.toList [45]).length ≤ 4000000000 := by
    have hz : s.data.toList.length ≤ 4000000000 := by rw [size_list]; exact hs
    unfold Lib.trimPrefix
    split
    · rw [List.length_drop]; omega
    · exact hz
  have hcp : strings_CutPrefix.f s (⟨#[45]⟩ : ByteArray) = some (⟨(Lib.trimPrefix s.data.toList [45]).toArray⟩, Lib.hasPrefix s.data.toList [45]) := rfl
  generalize Lib.trimPrefix s.data.toList [45] = t at hv hl hcp
  generalize Lib.hasPrefix s.data.toList [45] = p at hv hcp
  have hn : calls_number.f ⟨t.toArray⟩ = some (numP ⟨t.toArray⟩, (numT t).isSome) := if_pos (by show t.toArray.size ≤ _; rw [List.size_toArray]; omega)
  have hp := fun n (h : numT t = some n) => numP_of (s := ⟨t.toArray⟩) h
  have hR : ∀ c', (∀ v, niceV s.data.toList = some v → c' = { c with nice := v }) → ∀ c1, readF 110 c s.data.toList = some c1 → c' = c1 := by
    intro c' h c1 h1
    rw [readF_110] at h1
    obtain ⟨v, hv, rfl⟩ := Option.map_eq_some_iff.1 h1
    exact h v hv
  have hI : (readF 110 c s.data.toList).isSome = (niceV s.data.toList).isSome := by rw [readF_110, Option.isSome_map]
  have HC := Aside0.mk hc
  have HCP := Aside0.mk hcp
  have HN := Aside0.mk hn
  have HR := Aside0.mk hR
  have HI := Aside0.mk hI
  clear hc hs hl hcp hR hI
  have h12 : most = 1000000000000 := rfl
  cases ht : numT t with
  | none =>
    rw [ht] at hv hn
    have HN := Aside0.mk hn
    have HV := Aside0.mk hv
    clear hv hp ht hn
    cases p
    · go_enter Tryd.func122, Tryd.ntmps122
      go_wp2_with fail
      refine (strings_CutPrefix.calls s _ _ _ _ HCP.out).mono ?_
      rintro e w0 ⟨rfl, rfl⟩
      go_wp2_with fail
      refine (calls_number.calls _ _ _ _ HLd HN.out).mono ?_
      rintro e w1 ⟨rfl, hb⟩
      have KC := Aside0.mk (HC.out.below hb)
      have HB := Aside0.mk hb
      have y5 : w1.cell? ⟨b, 5, none⟩ = some (.int .i64 c.nice) := (blk_cell KC.out 5).trans rfl
      have f5 := blk_frozen KC.out 5
      clear hb
      go_wp2_with fail
      go_ret
      refine ⟨{ c with nice := numP ⟨t.toArray⟩ }, by rw [HI.out, HV.out]; rfl, blk_put KC.out 5 _ rfl, HR.out _ ?_, grown_set (grown_of_below HB.out _) 5 _⟩
      intro v hv; rw [HV.out] at hv; cases hv
    · go_enter Tryd.func122, Tryd.ntmps122
      go_wp2_with fail
      refine (strings_CutPrefix.calls s _ _ _ _ HCP.out).mono ?_
      rintro e w0 ⟨rfl, rfl⟩
      go_wp2_with fail
      refine (calls_number.calls _ _ _ _ HLd HN.out).mono ?_
      rintro e w1 ⟨rfl, hb⟩
      have KC := Aside0.mk (HC.out.below hb)
      have HB := Aside0.mk hb
      have y5 : w1.cell? ⟨b, 5, none⟩ = some (.int .i64 c.nice) := (blk_cell KC.out 5).trans rfl
      have f5 := blk_frozen KC.out 5
      clear hb
      go_wp2_with fail
      skip
      go_ret
      refine ⟨{ c with nice := wrap64 (-(numP ⟨t.toArray⟩)) }, by rw [HI.out, HV.out]; rfl, blk_put (blk_put KC.out 5 _ rfl) 5 _ rfl, HR.out _ ?_, grown_set (grown_set (grown_of_below HB.out _) 5 _) 5 _⟩
      intro v hv; rw [HV.out] at hv; cases hv
  | some n =>
    rw [ht] at hv hn
    rw [hp n ht] at hn
    have hm := (numT_some.1 ht).2
    have HN := Aside0.mk hn
    clear hp ht hn
    dsimp only at hv
    cases p
    · by_cases g : 1000 < n
      · rw [if_neg (by decide), if_pos g] at hv
        have HV := Aside0.mk hv
        have t0 : decide ((n : Int) ≥ -1000) = true := decide_eq_true (by omega)
        have t1 : decide ((n : Int) ≤ 1000) = false := decide_eq_false (by omega)
        clear hv g hm
        go_enter Tryd.func122, Tryd.ntmps122
        go_wp2_with fail
        refine (strings_CutPrefix.calls s _ _ _ _ HCP.out).mono ?_
        rintro e w0 ⟨rfl, rfl⟩
        go_wp2_with fail
        refine (calls_number.calls _ _ _ _ HLd HN.out).mono ?_
        rintro e w1 ⟨rfl, hb⟩
        have KC := Aside0.mk (HC.out.below hb)
        have HB := Aside0.mk hb
        have y5 : w1.cell? ⟨b, 5, none⟩ = some (.int .i64 c.nice) := (blk_cell KC.out 5).trans rfl
        have f5 := blk_frozen KC.out 5
        clear hb
        go_wp2_with fail
        go_ret
        refine ⟨{ c with nice := (n : Int) }, by rw [HI.out, HV.out]; rfl, blk_put KC.out 5 _ rfl, HR.out _ ?_, grown_set (grown_of_below HB.out _) 5 _⟩
        intro v hv; rw [HV.out] at hv; cases hv
      · rw [if_neg (by decide), if_neg g] at hv
        have HV := Aside0.mk hv
        have t0 : decide ((n : Int) ≥ -1000) = true := decide_eq_true (by omega)
        have t1 : decide ((n : Int) ≤ 1000) = true := decide_eq_true (by omega)
        clear hv g hm
        go_enter Tryd.func122, Tryd.ntmps122
        go_wp2_with fail
        refine (strings_CutPrefix.calls s _ _ _ _ HCP.out).mono ?_
        rintro e w0 ⟨rfl, rfl⟩
        go_wp2_with fail
        refine (calls_number.calls _ _ _ _ HLd HN.out).mono ?_
        rintro e w1 ⟨rfl, hb⟩
        have KC := Aside0.mk (HC.out.below hb)
        have HB := Aside0.mk hb
        have y5 : w1.cell? ⟨b, 5, none⟩ = some (.int .i64 c.nice) := (blk_cell KC.out 5).trans rfl
        have f5 := blk_frozen KC.out 5
        clear hb
        go_wp2_with fail
        go_ret
        refine ⟨{ c with nice := (n : Int) }, by rw [HI.out, HV.out]; rfl, blk_put KC.out 5 _ rfl, HR.out _ ?_, grown_set (grown_of_below HB.out _) 5 _⟩
        intro v hv; rw [HV.out] at hv; rw [Option.some.inj hv]
    · rw [if_pos rfl] at hv
      have hwr : wrap64 (-(n : Int)) = -(n : Int) := by unfold wrap64; omega
      by_cases g0 : n = 0
      · rw [if_pos (.inl g0)] at hv
        have HV := Aside0.mk hv
        have t0 : decide ((n : Int) > 0) = false := decide_eq_false (by omega)
        clear hv g0 hm
        generalize (n : Int) = z at HN t0 hwr
        go_enter Tryd.func122, Tryd.ntmps122
        go_wp2_with fail
        refine (strings_CutPrefix.calls s _ _ _ _ HCP.out).mono ?_
        rintro e w0 ⟨rfl, rfl⟩
        go_wp2_with fail
        refine (calls_number.calls _ _ _ _ HLd HN.out).mono ?_
        rintro e w1 ⟨rfl, hb⟩
        have KC := Aside0.mk (HC.out.below hb)
        have HB := Aside0.mk hb
        have y5 : w1.cell? ⟨b, 5, none⟩ = some (.int .i64 c.nice) := (blk_cell KC.out 5).trans rfl
        have f5 := blk_frozen KC.out 5
        clear hb
        go_wp2_with fail
        skip
        go_ret
        refine ⟨{ c with nice := -z }, by rw [HI.out, HV.out]; rfl, blk_put (blk_put KC.out 5 _ rfl) 5 _ rfl, HR.out _ ?_, grown_set (grown_set (grown_of_below HB.out _) 5 _) 5 _⟩
        intro v hv; rw [HV.out] at hv; cases hv
      · by_cases g : 1000 < n
        · rw [if_pos (.inr g)] at hv
          have HV := Aside0.mk hv
          have t0 : decide ((n : Int) > 0) = true := decide_eq_true (by omega)
          have t1 : decide (-(n : Int) ≥ -1000) = false := decide_eq_false (by omega)
          have t3 : decide ((n : Int) ≤ 1000) = false := decide_eq_false (by omega)
          clear hv g g0 hm
          generalize (n : Int) = z at HN t0 t1 t3 hwr
          go_enter Tryd.func122, Tryd.ntmps122
          go_wp2_with fail
          refine (strings_CutPrefix.calls s _ _ _ _ HCP.out).mono ?_
          rintro e w0 ⟨rfl, rfl⟩
          go_wp2_with fail
          refine (calls_number.calls _ _ _ _ HLd HN.out).mono ?_
          rintro e w1 ⟨rfl, hb⟩
          have KC := Aside0.mk (HC.out.below hb)
          have HB := Aside0.mk hb
          have y5 : w1.cell? ⟨b, 5, none⟩ = some (.int .i64 c.nice) := (blk_cell KC.out 5).trans rfl
          have f5 := blk_frozen KC.out 5
          clear hb
          go_wp2_with fail
          skip
          go_ret
          refine ⟨{ c with nice := -z }, by rw [HI.out, HV.out]; rfl, blk_put (blk_put KC.out 5 _ rfl) 5 _ rfl, HR.out _ ?_, grown_set (grown_set (grown_of_below HB.out _) 5 _) 5 _⟩
          intro v hv; rw [HV.out] at hv; cases hv
        · rw [if_neg (by omega)] at hv
          have HV := Aside0.mk hv
          have t0 : decide ((n : Int) > 0) = true := decide_eq_true (by omega)
          have t1 : decide (-(n : Int) ≥ -1000) = true := decide_eq_true (by omega)
          have t2 : decide (-(n : Int) ≤ 1000) = true := decide_eq_true (by omega)
          have t3 : decide ((n : Int) ≤ 1000) = true := decide_eq_true (by omega)
          clear hv g g0 hm
          generalize (n : Int) = z at HN HV t0 t1 t2 t3 hwr
          go_enter Tryd.func122, Tryd.ntmps122
          go_wp2_with fail
          refine (strings_CutPrefix.calls s _ _ _ _ HCP.out).mono ?_
          rintro e w0 ⟨rfl, rfl⟩
          go_wp2_with fail
          refine (calls_number.calls _ _ _ _ HLd HN.out).mono ?_
          rintro e w1 ⟨rfl, hb⟩
          have KC := Aside0.mk (HC.out.below hb)
          have HB := Aside0.mk hb
          have y5 : w1.cell? ⟨b, 5, none⟩ = some (.int .i64 c.nice) := (blk_cell KC.out 5).trans rfl
          have f5 := blk_frozen KC.out 5
          clear hb
          go_wp2_with fail
          skip
          go_ret
          refine ⟨{ c with nice := -z }, by rw [HI.out, HV.out]; rfl, blk_put (blk_put KC.out 5 _ rfl) 5 _ rfl, HR.out _ ?_, grown_set (grown_set (grown_of_below HB.out _) 5 _) 5 _⟩
          intro v hv; rw [HV.out] at hv; rw [Option.some.inj hv]
end Go.Proofs.YtilmbpdfdickoaaDoor.Given
/- The letters' methods, told together: what is told, what is read. -/
namespace Go.Proofs.YtilmbpdfdickoaaDoor.Given
open Go.RowKit Go.Proofs.YtilmbpdfdickoaaDoor Go.Proofs.YtilmbpdfdickoaaDoor.Print Go.Proofs.YtilmbpdfdickoaaDoor.Pure Go.Proofs.YtilmbpdfdickoaaDoorW.PrintWords Go.Proofs.YtilmbpdfdickoaaDoorW.PrintLast Go.Proofs.YtilmbpdfdickoaaDoorW.PrintMore
set_option linter.unusedVariables false
set_option linter.unusedSimpArgs false
def I64 (x : Int) : Prop := -9223372036854775808 ≤ x ∧ x ≤ 9223372036854775807
structure OkC (c : CallS) : Prop where
  op : I64 c.op
  slot : I64 c.slot
  gen : I64 c.gen
  cpu : I64 c.cpu
  n : I64 c.n
  nice : I64 c.nice
  mask : u64I c.mask
theorem itoa_len (a : Int) (h : I64 a) : (Lib.itoa a).length ≤ 20 := by
  rcases itoa_cases a with ⟨h0, e⟩ | ⟨h0, e⟩
  · rw [e]; have := dec_len 18 a.toNat (by have := h.2; omega); omega
  · rw [e, List.length_cons]; have := dec_len 18 (-a).toNat (by have := h.1; omega); omega
theorem digits_is (a : Int) (h : I64 a) : calls_digits.f a = some (⟨(Lib.itoa a).toArray⟩, decide (mayI a)) := by
  unfold calls_digits.f
  rw [show strconv_Itoa.f a = some ⟨(Lib.itoa a).toArray⟩ from if_pos h, Option.bind_some]
  split
  · rename_i h0
    have : decide (a ≤ 1000000000000) = decide (mayI a) := decide_eq_decide.2 ⟨fun h1 => ⟨h0, h1⟩, fun h1 => h1.2⟩
    rw [this]
  · rename_i h0
    rw [decide_eq_false (fun h1 : mayI a => h0 h1.1)]
theorem itoa_dec {a : Int} (h : mayI a) : Lib.itoa a = decI a := by
  rcases itoa_cases a with ⟨h0, e⟩ | ⟨h0, e⟩
  · exact e
  · exact absurd h.1 (by omega)
theorem cat_bytes (a b : List UInt8) : (⟨a.toArray⟩ : ByteArray) ++ (⟨b.toArray⟩ : ByteArray) = ⟨(a ++ b).toArray⟩ := by
  apply ByteArray.ext
  show (⟨a.toArray⟩ ++ ⟨b.toArray⟩ : ByteArray).data = (a ++ b).toArray
  rw [ByteArray.data_append]
  simp
theorem size_bytes (a : List UInt8) : (⟨a.toArray⟩ : ByteArray).size = a.length := by
  show a.toArray.size = _
  rw [List.size_toArray]
theorem task_is (a b : Int) (ha : I64 a) (hb : I64 b) : ∃ t ok, calls_task.f a b = some (t, ok) ∧ (match taskT a b with
    | some l => ok = true ∧ t = ⟨l.toArray⟩
    | none => ok = false) := by
  have la := itoa_len a ha
  have lb := itoa_len b hb
  have e : calls_task.f a b = some (⟨(Lib.itoa a ++ 46 :: Lib.itoa b).toArray⟩, decide (mayI a) && decide (mayI b)) := by
    unfold calls_task.f
    rw [digits_is a ha, Option.bind_some, digits_is b hb, Option.bind_some]
    dsimp only
    have e46 : (⟨#[46]⟩ : ByteArray) = ⟨([46] : List UInt8).toArray⟩ := rfl
    rw [e46, cat_bytes, cat_bytes, size_bytes, size_bytes, size_bytes, List.length_append, List.length_singleton, if_pos (by omega), if_pos (by omega)]
    rw [List.append_assoc, List.singleton_append]
    by_cases h : mayI a
    · rw [decide_eq_true h, if_pos rfl]; rfl
    · rw [decide_eq_false h, if_neg (by decide)]; rfl
  refine ⟨_, _, e, ?_⟩
  unfold taskT
  by_cases h : mayI a ∧ mayI b
  · rw [if_pos h]
    exact ⟨by rw [decide_eq_true h.1, decide_eq_true h.2]; rfl, by rw [itoa_dec h.1, itoa_dec h.2]⟩
  · rw [if_neg h]
    show (decide (mayI a) && decide (mayI b)) = false
    rw [Bool.and_eq_false_iff, decide_eq_false_iff_not, decide_eq_false_iff_not]
    by_cases h1 : mayI a
    · exact .inr (fun h2 => h ⟨h1, h2⟩)
    · exact .inl h1
def TellPost (c : CallS) (k : UInt8) (w : World) (e : Ending) (w' : World) : Prop :=
  ∃ t ok, e = .returned (.tuple #[.string t, .bool ok]) ∧ (match tellF k c with
    | some l => ok = true ∧ t = ⟨l.toArray⟩
    | none => ok = false) ∧ Below w.heap.size w w'
theorem digit_tell (a : Int) : (match (if mayI a then some (decI a) else none : Option (List UInt8)) with
    | some l => decide (mayI a) = true ∧ (⟨(Lib.itoa a).toArray⟩ : ByteArray) = ⟨l.toArray⟩
    | none => decide (mayI a) = false) := by
  by_cases h : mayI a
  · rw [if_pos h]; exact ⟨decide_eq_true h, by rw [itoa_dec h]⟩
  · rw [if_neg h]; exact decide_eq_false h
theorem tell_c (k : UInt8) (hk : isLet k) (b : Nat) (c : CallS) (ho : OkC c) (w : World) (HLd : Ld w) (hc : CallAt b c w) :
    Calls Tryd.prog (tellN k) #[.pointer (some ⟨b, 0, none⟩)] w (TellPost c k w) := by
  rcases hk with rfl | rfl | rfl | rfl | rfl
  · refine (tellNice_walk b c w HLd hc _ (show strconv_Itoa.f c.nice = some ⟨(Lib.itoa c.nice).toArray⟩ from if_pos ho.nice)).mono ?_
    rintro e w' ⟨rfl, hb⟩
    refine ⟨_, _, rfl, ?_, hb⟩
    show (match (if -1000 ≤ c.nice ∧ c.nice ≤ 1000 then some (Lib.itoa c.nice) else none : Option (List UInt8)) with
      | some l => (decide (-1000 ≤ c.nice) && decide (c.nice ≤ 1000)) = true ∧ (⟨(Lib.itoa c.nice).toArray⟩ : ByteArray) = ⟨l.toArray⟩
      | none => (decide (-1000 ≤ c.nice) && decide (c.nice ≤ 1000)) = false)
    by_cases h : -1000 ≤ c.nice ∧ c.nice ≤ 1000
    · rw [if_pos h]; exact ⟨by rw [decide_eq_true h.1, decide_eq_true h.2]; rfl, rfl⟩
    · rw [if_neg h]
      show (decide (-1000 ≤ c.nice) && decide (c.nice ≤ 1000)) = false
      rw [Bool.and_eq_false_iff, decide_eq_false_iff_not, decide_eq_false_iff_not]
      omega
  · refine (tellMask_walk b c w hc ho.mask.1 ho.mask.2).mono ?_
    rintro e w' ⟨rfl, hb⟩
    exact ⟨_, _, rfl, ⟨rfl, rfl⟩, hb⟩
  · obtain ⟨t, ok, hf, ht⟩ := task_is c.slot c.gen ho.slot ho.gen
    refine (tellTask_walk b c w HLd hc t ok hf).mono ?_
    rintro e w' ⟨rfl, hb⟩
    exact ⟨_, _, rfl, ht, hb⟩
  · refine (tellCpu_walk b c w HLd hc _ _ (digits_is c.cpu ho.cpu)).mono ?_
    rintro e w' ⟨rfl, hb⟩
    exact ⟨_, _, rfl, digit_tell c.cpu, hb⟩
  · refine (tellN_walk b c w HLd hc _ _ (digits_is c.n ho.n)).mono ?_
    rintro e w' ⟨rfl, hb⟩
    exact ⟨_, _, rfl, digit_tell c.n, hb⟩
theorem read_c (k : UInt8) (hk : isLet k) (b : Nat) (c : CallS) (s : ByteArray) (hs : s.size ≤ 4000000000) (w : World) (HLd : Ld w) (hc : CallAt b c w) :
    Calls Tryd.prog (readN k) #[.pointer (some ⟨b, 0, none⟩), .string s] w (ReadPost b c k s.data.toList w) := by
  rcases hk with rfl | rfl | rfl | rfl | rfl
  · exact readNice_walk b c s hs w HLd hc
  · exact readMask_walk b c s (by omega) w HLd hc
  · exact readTask_walk b c s hs w HLd hc
  · exact readCpu_walk b c s (by omega) w HLd hc
  · exact readN_walk b c s (by omega) w HLd hc
end Go.Proofs.YtilmbpdfdickoaaDoor.Given
/- Of calls.Print: what its walk asks. -/
namespace Go.Proofs.YtilmbpdfdickoaaDoor.Given
open Go.RowKit Go.Proofs.YtilmbpdfdickoaaDoor Go.Proofs.YtilmbpdfdickoaaDoor.Print Go.Proofs.YtilmbpdfdickoaaDoor.Pure Go.Proofs.YtilmbpdfdickoaaDoorW.PrintWords Go.Proofs.YtilmbpdfdickoaaDoorW.PrintLast Go.Proofs.YtilmbpdfdickoaaDoorW.PrintMore
set_option linter.unusedVariables false
set_option linter.unusedSimpArgs false
theorem new2 (w : World) (a b : Obj) : ((w.alloc a).alloc b).drew.heap[w.heap.size + 1]? = some b := by
  refine blk_drew ?_
  have h := blk_new (w.alloc a) b
  rw [World.size_alloc] at h
  exact h
theorem R_one (w : World) (base : Nat) (s : ByteArray) (hb : base ≤ w.heap.size) : Kd.string.R 9 (w.alloc (.cells #[.string s] 9)) base (fun _ => True) (.slice (some ⟨w.heap.size, 0, none⟩) 1 1) [s] :=
  Kd.R_of_own ⟨rfl, .inr ⟨w.heap.size, 1, #[.string s], rfl, hb, blk_new _ _, Nat.le_refl _, by decide, rfl, rfl⟩⟩ (fun _ _ => trivial)
theorem goTell_app (c : CallS) (rest : List UInt8) : ∀ done : List UInt8, goTell c (done ++ rest) = (match goTell c done with
    | none => none
    | some r => (goTell c rest).map (r ++ ·))
  | [] => by
    show goTell c rest = (goTell c rest).map ([] ++ ·)
    cases goTell c rest <;> rfl
  | k :: done => by
    have ih := goTell_app c rest done
    rw [List.cons_append]
    show (match tellF k c with
      | none => none
      | some s => match goTell c (done ++ rest) with
        | none => none
        | some r => some (32 :: s ++ r)) = _
    show _ = (match (match tellF k c with
      | none => none
      | some s => match goTell c done with
        | none => none
        | some r => some (32 :: s ++ r)) with
      | none => none
      | some r => (goTell c rest).map (r ++ ·))
    rw [ih]
    cases tellF k c with
    | none => rfl
    | some s =>
      cases goTell c done with
      | none => rfl
      | some r =>
        cases goTell c rest with
        | none => rfl
        | some q => simp
theorem goPut_app (c : CallS) (rest : List UInt8) : ∀ (done : List UInt8) (a : CallS), goPut c (done ++ rest) a = goPut c rest (goPut c done a)
  | [], a => rfl
  | k :: done, a => goPut_app c rest done (putF k a c)
theorem join_snoc (x : List UInt8) (xs : List (List UInt8)) (y sep : List UInt8) : Lib.join (x :: xs ++ [y]) sep = Lib.join (x :: xs) sep ++ (sep ++ y) := by
  rw [List.cons_append, Lib.join_cons, Lib.join_cons]
  unfold Lib.joinTail
  rw [List.map_append, List.flatten_append, List.append_assoc]
  simp
structure PW (c : CallS) (w : World) (gi g4 g5 gb : Nat) (s : ByteArray) (pos : Nat) (a : CallS) (ws : List ByteArray) (v : Value) (W : World) : Prop where
  it : W.heap[gi]? = some (.stringIter s pos)
  k4 : CallAt g4 c W
  k5 : CallAt g5 a W
  kb : W.heap[gb]? = some (.cells (callC c) 26 (0, 0))
  rw : Kd.string.R 9 W w.heap.size (fun _ => True) v ws
  hb : Below w.heap.size w W
theorem iter_ne {W : World} {gi g : Nat} {s : ByteArray} {pos : Nat} {cs : Array Value} {t : TypeId} (h : W.heap[gi]? = some (.stringIter s pos)) (hg : W.heap[g]? = some (.cells cs t (0, 0))) : g ≠ gi := by
  rintro rfl
  rw [h] at hg
  cases hg
theorem PW.next {c : CallS} {w : World} {gi g4 g5 gb : Nat} {s : ByteArray} {pos : Nat} {a : CallS} {ws : List ByteArray} {v : Value} {W : World} (h : PW c w gi g4 g5 gb s pos a ws v W) (hgi : w.heap.size ≤ gi) : PW c w gi g4 g5 gb s (pos + 1) a ws v (W.iterAt gi s (pos + 1)) := by
  refine ⟨Lib.iterAt_heap W gi s pos (pos + 1) h.it, (Lib.iterAt_other W gi g4 s _ (iter_ne h.it h.k4)).trans h.k4, (Lib.iterAt_other W gi g5 s _ (iter_ne h.it h.k5)).trans h.k5, (Lib.iterAt_other W gi gb s _ (iter_ne h.it h.kb)).trans h.kb, ?_, Lib.below_iterAt h.hb hgi s _⟩
  refine Kd.R_mono (Kd.R_step (Kd.R_bound h.rw) (fun k hk _ => ?_)) (fun _ _ => trivial)
  obtain ⟨_, _, _, q, _, cells, hc⟩ := hk
  exact Lib.iterAt_other W gi k s _ (iter_ne h.it hc)
theorem PW.below {c : CallS} {w : World} {gi g4 g5 gb : Nat} {s : ByteArray} {pos : Nat} {a : CallS} {ws : List ByteArray} {v : Value} {W W' : World} (h : PW c w gi g4 g5 gb s pos a ws v W) (hb : Below W.heap.size W W') : PW c w gi g4 g5 gb s pos a ws v W' :=
  ⟨blk_below h.it hb, h.k4.below hb, h.k5.below hb, blk_below h.kb hb, Kd.R_below h.rw hb, below_step h.hb hb⟩
theorem PW.read {c : CallS} {w : World} {gi g4 g5 gb : Nat} {s : ByteArray} {pos : Nat} {a a' : CallS} {ws : List ByteArray} {v : Value} {W W' : World} (h : PW c w gi g4 g5 gb s pos a ws v W) (hn : g4 ≠ g5) (hg5 : w.heap.size ≤ g5) (hk : CallAt g5 a' W') (hg : W.grownBy W' (some g5)) : PW c w gi g4 g5 gb s pos a' ws v W' := by
  have far : ∀ {g : Nat} {o : Obj}, W.heap[g]? = some o → g ≠ g5 → W'.heap[g]? = some o := fun ho hne => (hg.block _ (blk_lt ho) (fun e => hne (Option.some.inj e))).trans ho
  refine ⟨far h.it (fun e => iter_ne h.it h.k5 e.symm), far h.k4 hn, hk, far h.kb (fun e => ?_), ?_, pw_below_grown h.hb (some g5) h.hb.size hg (fun k e => by cases e; exact hg5)⟩
  · have h5 := h.k5
    unfold CallAt at h5
    rw [← e, h.kb] at h5
    injection h5 with h5
    injection h5 with _ h5
    cases h5
  · exact Kd.R_mono (Kd.R_grown (Kd.R_types h.rw h.k5 (fun q hq => by rcases List.mem_cons.1 hq with rfl | hq; decide; cases hq)) hg (fun k hk e => hk.2 (Option.some.inj e))) (fun _ _ => trivial)
theorem PW.app {c : CallS} {w : World} {gi g4 g5 gb : Nat} {s : ByteArray} {pos : Nat} {a : CallS} {ws ws' : List ByteArray} {v v' : Value} {W W' : World} (h : PW c w gi g4 g5 gb s pos a ws v W) (hr : Kd.string.R 9 W' w.heap.size (fun _ => True) v' ws') (hb : Below w.heap.size w W') (hg : W.grownBy W' v.ownBlock) : PW c w gi g4 g5 gb s pos a ws' v' W' := by
  have far : ∀ {g : Nat} {o : Obj}, W.heap[g]? = some o → some g ≠ v.ownBlock → W'.heap[g]? = some o := fun ho hne => (hg.block _ (blk_lt ho) hne).trans ho
  refine ⟨far h.it (fun e => ?_), far h.k4 (Kd.R_ne h.rw h.k4 (by decide)), far h.k5 (Kd.R_ne h.rw h.k5 (by decide)), far h.kb (Kd.R_ne h.rw h.kb (by decide)), hr, hb⟩
  obtain ⟨inner, ho⟩ := Kd.R_own h.rw
  obtain ⟨cells, hc⟩ := own_typed ho gi e.symm
  exact iter_ne h.it hc rfl
theorem tell_at {k : UInt8} {f : Nat} (hf : tellN k = f) (hk : isLet k) (b : Nat) (c : CallS) (ho : OkC c) (w : World) (HLd : Ld w) (hc : CallAt b c w) : Calls Tryd.prog f #[.pointer (some ⟨b, 0, none⟩)] w (TellPost c k w) := hf ▸ tell_c k hk b c ho w HLd hc
theorem read_at {k : UInt8} {f : Nat} (hf : readN k = f) (hk : isLet k) (b : Nat) (c : CallS) (s : ByteArray) (hs : s.size ≤ 4000000000) (w : World) (HLd : Ld w) (hc : CallAt b c w) : Calls Tryd.prog f #[.pointer (some ⟨b, 0, none⟩), .string s] w (ReadPost b c k s.data.toList w) := hf ▸ read_c k hk b c s hs w HLd hc
theorem told_all (kn : Nat) (h : 1 ≤ kn ∧ kn ≤ 13) : (toldL kn).length ≤ 2 ∧ ∀ x ∈ toldL kn, x = 110 ∨ x = 109 ∨ x = 116 ∨ x = 99 ∨ x = 107 := by
  have hk : kn = 1 ∨ kn = 2 ∨ kn = 3 ∨ kn = 4 ∨ kn = 5 ∨ kn = 6 ∨ kn = 7 ∨ kn = 8 ∨ kn = 9 ∨ kn = 10 ∨ kn = 11 ∨ kn = 12 ∨ kn = 13 := by omega
  rcases hk with rfl | rfl | rfl | rfl | rfl | rfl | rfl | rfl | rfl | rfl | rfl | rfl | rfl <;> exact ⟨by decide, by decide⟩
theorem told_let {kn : Nat} {dn rest : List UInt8} {x : UInt8} (h : 1 ≤ kn ∧ kn ≤ 13) (hs : toldL kn = dn ++ x :: rest) : isLet x := (told_all kn h).2 x (by rw [hs]; simp)
theorem told_le {kn : Nat} {dn rest : List UInt8} (h : 1 ≤ kn ∧ kn ≤ 13) (hs : toldL kn = dn ++ rest) : dn.length ≤ 13 := by
  have h1 := (told_all kn h).1
  rw [hs, List.length_append] at h1
  omega
theorem next_let (wl : World) (gi : Nat) {kn : Nat} (dn rest' : List UInt8) (x : UInt8) (ty : TypeId) (hit : wl.heap[gi]? = some (.stringIter ⟨(toldL kn).toArray⟩ dn.length)) (hs : toldL kn = dn ++ x :: rest') (hx : isLet x) :
    (Instr.next (.pointer (some ⟨gi, 0, none⟩)) true ty).run Tryd.prog wl = .ok (.tuple #[.bool true, .int .i64 (dn.length : Nat), .int .i32 (x.toNat : Nat)]) (wl.iterAt gi ⟨(toldL kn).toArray⟩ (dn.length + 1)) := by
  have hpos : dn.length < (⟨(toldL kn).toArray⟩ : ByteArray).size := by rw [size_bytes, hs]; simp
  have e : (⟨(toldL kn).toArray⟩ : ByteArray)[dn.length]'hpos = x := by
    show (toldL kn).toArray[dn.length]'_ = x
    rw [List.getElem_toArray]
    have : (toldL kn)[dn.length]? = some x := by rw [hs]; simp
    exact (List.getElem?_eq_some_iff.1 this).2
  have h128 : ((⟨(toldL kn).toArray⟩ : ByteArray)[dn.length]'hpos).toNat < 128 := by rw [e]; rcases hx with rfl | rfl | rfl | rfl | rfl <;> decide
  rw [Lib.run_next_ascii_at wl gi _ _ ty hit hpos h128, e]
theorem tell_size {k : UInt8} {c : CallS} {l : List UInt8} (ho : OkC c) (h : tellF k c = some l) : (⟨l.toArray⟩ : ByteArray).size ≤ 4000000000 := by
  rw [size_bytes]; have := (tell_text ho.mask h).2; omega
theorem print_none {c : CallS} {kn : Nat} {dn rest r : List UInt8} {x : UInt8} (hk : c.op = (kn : Int)) (h : 1 ≤ kn ∧ kn ≤ 13) (hs : toldL kn = dn ++ x :: rest) (hr : goTell c dn = some r) (ht : tellF x c = none) : printCS c = ([], 1) := by
  have e : goTell c (toldL kn) = none := by
    rw [hs, goTell_app, hr]
    show (goTell c (x :: rest)).map (r ++ ·) = none
    have : goTell c (x :: rest) = none := by unfold goTell; rw [ht]
    rw [this]; rfl
  unfold printCS printC
  rw [if_pos (by omega), show c.op.toNat = kn by omega, e]
theorem tell_snoc {c : CallS} {dn r l : List UInt8} {x : UInt8} (hr : goTell c dn = some r) (ht : tellF x c = some l) : goTell c (dn ++ [x]) = some (r ++ (32 :: l)) := by
  rw [goTell_app, hr]
  show (goTell c [x]).map (r ++ ·) = _
  have : goTell c [x] = some (32 :: l) := by unfold goTell; rw [ht]; simp [goTell]
  rw [this]; rfl
theorem join_words {ws : List ByteArray} {n r l : List UInt8} (h : Lib.join (ws.map (·.data.toList)) [32] = n ++ r) (hne : ws ≠ []) : Lib.join ((ws ++ [(⟨l.toArray⟩ : ByteArray)]).map (·.data.toList)) [32] = n ++ (r ++ (32 :: l)) := by
  cases ws with
  | nil => exact absurd rfl hne
  | cons y ys =>
    rw [List.map_cons] at h
    rw [List.map_append, List.map_cons, List.map_singleton, join_snoc, h]
    simp
theorem call_ne {a c : CallS} (h : ¬ a = c) : (a.op == c.op && ((a.slot == c.slot && (a.gen == c.gen)) && (a.cpu == c.cpu && (a.n == c.n && (a.nice == c.nice && (a.mask == c.mask)))))) = false := by
  rw [Bool.eq_false_iff]
  intro hq
  simp only [Bool.and_eq_true, beq_iff_eq] at hq
  apply h
  obtain ⟨a0, a1, a2, a3, a4, a5, a6⟩ := a
  obtain ⟨c0, c1, c2, c3, c4, c5, c6⟩ := c
  simp only at hq
  obtain ⟨rfl, ⟨rfl, rfl⟩, rfl, rfl, rfl, rfl⟩ := hq
  rfl
theorem print_eq {c a : CallS} {kn : Nat} {dn r : List UInt8} (hk : c.op = (kn : Int)) (h : 1 ≤ kn ∧ kn ≤ 13) (hs : toldL kn = dn ++ []) (hr : goTell c dn = some r) (ha : a = goPut c dn (callOf c.op)) (hac : a = c) : printC c = some (nameL kn ++ r) := by
  rw [List.append_nil] at hs
  unfold printC
  rw [if_pos (by omega), show c.op.toNat = kn by omega, hs, hr]
  show (if goPut c dn (callOf c.op) = c then some (nameL kn ++ r) else none) = _
  rw [if_pos (by rw [← ha, hac])]
theorem print_uneq {c a : CallS} {kn : Nat} {dn r : List UInt8} (hk : c.op = (kn : Int)) (h : 1 ≤ kn ∧ kn ≤ 13) (hs : toldL kn = dn ++ []) (hr : goTell c dn = some r) (ha : a = goPut c dn (callOf c.op)) (hac : ¬ a = c) : printCS c = ([], 1) := by
  rw [List.append_nil] at hs
  unfold printCS printC
  rw [if_pos (by omega), show c.op.toNat = kn by omega, hs, hr]
  dsimp only
  rw [if_neg (by rw [← ha]; exact hac)]
theorem join_c (ws : List ByteArray) (v : Value) (W : World) (base : Nat) (ok : Nat → Prop) (h : Kd.string.R 9 W base ok v ws) (hne : ws ≠ []) (h1 : ws.length ≤ 1000) (h2 : (Lib.join (ws.map (·.data.toList)) [32]).length ≤ 1000) :
    Calls Tryd.prog 20 #[v, .string ⟨#[32]⟩] W fun e w' => e = .returned (.string ⟨(Lib.join (ws.map (·.data.toList)) [32]).toArray⟩) ∧ Below W.heap.size W w' := by
  rcases (Kd.own_of_R h).2 with ⟨_, h0⟩ | ⟨g, cap, cur, rfl, _, hg, hcap, _⟩
  · exact absurd (List.length_eq_zero_iff.1 h0) hne
  · refine Tryd.strings_Join g 0 cap ws ⟨#[32]⟩ W ?_ (blk_lt hg) (by omega) hcap (by show (Lib.join (ws.map (·.data.toList)) [32]).length ≤ _; omega)
    intro j x hx
    have hj : j < ws.length := (List.getElem?_eq_some_iff.1 hx).1
    have hc := (Kd.R_cell ByteArray.empty h (j : Int) (by omega) (by omega)).1
    rw [Int.toNat_natCast] at hc
    rw [Nat.zero_add, hc]
    congr 2
    unfold rdOf
    simp [hx]
end Go.Proofs.YtilmbpdfdickoaaDoor.Given
/- calls.Print, walked. -/
namespace Go.Proofs.YtilmbpdfdickoaaDoor.Given
open Go.RowKit Go.Proofs.YtilmbpdfdickoaaDoor Go.Proofs.YtilmbpdfdickoaaDoor.Print Go.Proofs.YtilmbpdfdickoaaDoor.Pure Go.Proofs.YtilmbpdfdickoaaDoorW.PrintWords Go.Proofs.YtilmbpdfdickoaaDoorW.PrintLast Go.Proofs.YtilmbpdfdickoaaDoorW.PrintMore
set_option linter.unusedVariables false
set_option linter.unusedSimpArgs false
attribute [local go_sem high] eqA26 eqA23
set_option maxHeartbeats 8000000 in
set_option maxRecDepth 100000 in
theorem print_c (c : CallS) (ho : OkC c) (w : World) (HLd : Ld w) :
    Calls Tryd.prog 10 #[(.agg #[.int .i64 c.op, .int .i64 c.slot, .int .i64 c.gen, .int .i64 c.cpu, .int .i64 c.n, .int .i64 c.nice, .int .u64 c.mask])] w fun e w' => e = .returned (.tuple #[.string ⟨(printCS c).1.toArray⟩, .int .i64 (printCS c).2]) ∧ Below w.heap.size w w' := by
  have hu26 := Tryd.underlying26
  have hu23 := Tryd.underlying23
  have hu47 := Tryd.underlying47
  have hu55 := Tryd.underlying55
  have HB := Aside0.mk (Below.refl w.heap.size w)
  have HO := Aside0.mk ho
  clear ho
  by_cases h1 : c.op < 1
  · have HP : Aside0 (printCS c = ([], 1)) := ⟨by unfold printCS printC; rw [if_neg (by omega)]⟩
    have t0 : decide (c.op < 1) = true := decide_eq_true h1
    clear h1
    go_enter Tryd.func10, Tryd.ntmps10
    go_wp2_with (first | ((with_reducible refine gate_dst (N := 1) rfl ?_); refine box_event ?hg (N := 1) ?hd (cs := #[.int .i64 c.op, .int .i64 c.slot, .int .i64 c.gen, .int .i64 c.cpu, .int .i64 c.n, .int .i64 c.nice, .int .u64 c.mask]) (t := 26) ?hr ?_; (case hd => rfl); (case hg => rfl); (case hr => first | (go_simp; done) | (go_simp; rfl)); intro gb hg w6 hbox hb; have KB := Aside0.mk hbox; have z0 : w6.cell? ⟨gb, 0, none⟩ = some (.int .i64 c.op) := (blk_cell KB.out 0).trans rfl; have HB1 := Aside0.mk (below_step (by repeat (first | (with_reducible first | exact HB.out | apply below_alloc | apply pw_below_drewN | apply below_drew1) | exact HB.out)) hb); clear hb hbox hg))
    go_ret2
    rw [HP.out]
    exact ⟨rfl, HB1.out⟩
  · have t0 : decide (c.op < 1) = false := decide_eq_false h1
    by_cases h2 : 13 < c.op
    · have HP : Aside0 (printCS c = ([], 1)) := ⟨by unfold printCS printC; rw [if_neg (by omega)]⟩
      have t1 : decide (c.op > 13) = true := decide_eq_true h2
      clear h1 h2
      go_enter Tryd.func10, Tryd.ntmps10
      go_wp2_with (first | ((with_reducible refine gate_dst (N := 1) rfl ?_); refine box_event ?hg (N := 1) ?hd (cs := #[.int .i64 c.op, .int .i64 c.slot, .int .i64 c.gen, .int .i64 c.cpu, .int .i64 c.n, .int .i64 c.nice, .int .u64 c.mask]) (t := 26) ?hr ?_; (case hd => rfl); (case hg => rfl); (case hr => first | (go_simp; done) | (go_simp; rfl)); intro gb hg w6 hbox hb; have KB := Aside0.mk hbox; have hgb : Aside0 (w.heap.size ≤ gb) := ⟨by rw [hg]; exact (below_size (by repeat (first | (with_reducible first | exact HB.out | apply below_alloc | apply pw_below_drewN | apply below_drew1) | exact HB.out)))⟩; have z0 : w6.cell? ⟨gb, 0, none⟩ = some (.int .i64 c.op) := (blk_cell KB.out 0).trans rfl; have z1 : w6.cell? ⟨gb, 1, none⟩ = some (.int .i64 c.slot) := (blk_cell KB.out 1).trans rfl; have z2 : w6.cell? ⟨gb, 2, none⟩ = some (.int .i64 c.gen) := (blk_cell KB.out 2).trans rfl; have z3 : w6.cell? ⟨gb, 3, none⟩ = some (.int .i64 c.cpu) := (blk_cell KB.out 3).trans rfl; have z4 : w6.cell? ⟨gb, 4, none⟩ = some (.int .i64 c.n) := (blk_cell KB.out 4).trans rfl; have z5 : w6.cell? ⟨gb, 5, none⟩ = some (.int .i64 c.nice) := (blk_cell KB.out 5).trans rfl; have z6 : w6.cell? ⟨gb, 6, none⟩ = some (.int .u64 c.mask) := (blk_cell KB.out 6).trans rfl; have HB1 := Aside0.mk (below_step (by repeat (first | (with_reducible first | exact HB.out | apply below_alloc | apply pw_below_drewN | apply below_drew1) | exact HB.out)) hb); clear hb hbox hg))
      go_ret2
      rw [HP.out]
      exact ⟨rfl, HB1.out⟩
    · have t1 : decide (c.op > 13) = false := decide_eq_false h2
      obtain ⟨kn, hkn⟩ : ∃ kn : Nat, c.op = (kn : Int) := ⟨c.op.toNat, by omega⟩
      have HK := Aside0.mk hkn
      have HR := Aside0.mk (show 1 ≤ kn ∧ kn ≤ 13 by omega)
      clear h1 h2 hkn
      go_enter Tryd.func10, Tryd.ntmps10
      go_upto_region 3 with (first | ((with_reducible refine gate_dst (N := 1) rfl ?_); refine box_event ?hg (N := 1) ?hd (cs := #[.int .i64 c.op, .int .i64 c.slot, .int .i64 c.gen, .int .i64 c.cpu, .int .i64 c.n, .int .i64 c.nice, .int .u64 c.mask]) (t := 26) ?hr ?_; (case hd => rfl); (case hg => rfl); (case hr => first | (go_simp; done) | (go_simp; rfl)); intro gb hg w6 hbox hb; have KB := Aside0.mk hbox; have hgb : Aside0 (w.heap.size ≤ gb) := ⟨by rw [hg]; exact (below_size (by repeat (first | (with_reducible first | exact HB.out | apply below_alloc | apply pw_below_drewN | apply below_drew1) | exact HB.out)))⟩; have z0 : w6.cell? ⟨gb, 0, none⟩ = some (.int .i64 c.op) := (blk_cell KB.out 0).trans rfl; have z1 : w6.cell? ⟨gb, 1, none⟩ = some (.int .i64 c.slot) := (blk_cell KB.out 1).trans rfl; have z2 : w6.cell? ⟨gb, 2, none⟩ = some (.int .i64 c.gen) := (blk_cell KB.out 2).trans rfl; have z3 : w6.cell? ⟨gb, 3, none⟩ = some (.int .i64 c.cpu) := (blk_cell KB.out 3).trans rfl; have z4 : w6.cell? ⟨gb, 4, none⟩ = some (.int .i64 c.n) := (blk_cell KB.out 4).trans rfl; have z5 : w6.cell? ⟨gb, 5, none⟩ = some (.int .i64 c.nice) := (blk_cell KB.out 5).trans rfl; have z6 : w6.cell? ⟨gb, 6, none⟩ = some (.int .u64 c.mask) := (blk_cell KB.out 6).trans rfl; have HB1 := Aside0.mk (below_step (by repeat (first | (with_reducible first | exact HB.out | apply below_alloc | apply pw_below_drewN | apply below_drew1) | exact HB.out)) hb); clear hb hbox hg))
      (try simp only [Act.put, List.setIfInBounds_toArray, List.set_cons_zero, List.set_cons_succ])
      go_cut [4, 5] (fun v4 v5 wc => ∃ g4 g5 : Nat, v4 = .pointer (some ⟨g4, 0, none⟩) ∧ v5 = .pointer (some ⟨g5, 0, none⟩) ∧ Aside0 (CallAt g4 c wc) ∧ Aside0 (CallAt g5 (callOf c.op) wc) ∧ Aside0 (g4 ≠ g5) ∧ Aside0 (w.heap.size ≤ g4 ∧ w.heap.size ≤ g5) ∧ Aside0 (wc.heap[gb]? = some (.cells (callC c) 26 (0, 0))) ∧ Aside0 (Below w.heap.size w wc))
      case first =>
        have l9 : gb < w6.heap.size := blk_lt KB.out
        have n9 : gb ≠ w6.heap.size := Nat.ne_of_lt l9
        have n9b : gb ≠ w6.heap.size + 1 := by omega
        have e9 : (gb = w6.heap.size) = False := eq_false n9
        have e9b : (gb = w6.heap.size + 1) = False := eq_false n9b
        have e9c : (w6.heap.size = gb) = False := eq_false (Ne.symm n9)
        have e9d : (w6.heap.size + 1 = gb) = False := eq_false (Ne.symm n9b)
        go_region
        all_goals
          go_wp2_with fail
          go_meet
        case rel => exact ⟨_, _, rfl, rfl, ⟨blk_drew (blk_alloc (blk_new _ _) _)⟩, ⟨new2 w6 _ _⟩, ⟨by omega⟩, ⟨by have h_ := HB1.out.size; omega⟩, ⟨blk_drew (blk_alloc (blk_alloc KB.out _) _)⟩, ⟨below_drew1 (below_alloc (below_alloc HB1.out _) _)⟩⟩
        case rel => exact ⟨_, _, rfl, rfl, ⟨new2 w6 _ _⟩, ⟨blk_drew (blk_alloc (blk_new _ _) _)⟩, ⟨by omega⟩, ⟨by have h_ := HB1.out.size; omega⟩, ⟨blk_drew (blk_alloc (blk_alloc KB.out _) _)⟩, ⟨below_drew1 (below_alloc (below_alloc HB1.out _) _)⟩⟩
      case rest =>
        obtain ⟨g4, g5, rfl, rfl, K4, K5, N45, G45, KB2, HB2⟩ := hcut
        clear z0 z1 z2 z3 z4 z5 z6 t0 t1
        have HL2 := Aside0.mk (HLd.below HB2.out)
        have q0 : (0 : Int) ≤ (kn : Int) := by omega
        have q1 : (kn : Int) < 14 := by have := HR.out; omega
        have z0 : wc.cell? ⟨gb, 0, none⟩ = some (.int .i64 (kn : Int)) := (blk_cell KB2.out 0).trans (by show some (Value.int .i64 c.op) = _; rw [HK.out])
        have hop := Ld.op HL2.out kn (by have := HR.out; omega)
        rw [Nat.mul_comm 2 kn] at hop
        have p0 := hop.1
        have p1 := hop.2
        clear hop
        go_upto_region 5 with fail
        have RX : Aside0 (Kd.string.R 9 (wc.alloc (.cells #[.string ⟨(nameL kn).toArray⟩] 9)) w.heap.size (fun _ => True) (.slice (some ⟨wc.heap.size, 0, none⟩) 1 1) [⟨(nameL kn).toArray⟩]) := ⟨R_one wc _ _ HB2.out.size⟩
        have K4d : Aside0 (CallAt g4 c (wc.alloc (.cells #[.string ⟨(nameL kn).toArray⟩] 9))) := ⟨blk_alloc K4.out _⟩
        have K5d : Aside0 (CallAt g5 (callOf c.op) (wc.alloc (.cells #[.string ⟨(nameL kn).toArray⟩] 9))) := ⟨blk_alloc K5.out _⟩
        have KBd : Aside0 ((wc.alloc (.cells #[.string ⟨(nameL kn).toArray⟩] 9)).heap[gb]? = some (.cells (callC c) 26 (0, 0))) := ⟨blk_alloc KB2.out _⟩
        have HB3 : Aside0 (Below w.heap.size w (wc.alloc (.cells #[.string ⟨(nameL kn).toArray⟩] 9))) := ⟨below_alloc HB2.out _⟩
        have HL3 := Aside0.mk (HLd.below HB3.out)
        clear z0 p0 p1 HL2
        generalize (Value.slice (some ⟨wc.heap.size, 0, none⟩) 1 1) = vw at RX ⊢
        generalize wc.alloc (.cells #[.string ⟨(nameL kn).toArray⟩] 9) = wd at RX K4d K5d KBd HB3 HL3 ⊢
        clear K4 K5 KB2 HB2
        have z0 : wd.cell? ⟨gb, 0, none⟩ = some (.int .i64 (kn : Int)) := (blk_cell KBd.out 0).trans (by show some (Value.int .i64 c.op) = _; rw [HK.out])
        have hop := Ld.op HL3.out kn (by have := HR.out; omega)
        rw [Nat.mul_comm 2 kn] at hop
        have p1 := hop.2
        clear hop
        go_upto_region 6 with fail
        have hit : (wd.iter ⟨(toldL kn).toArray⟩ 0).heap[wd.heap.size]? = some (.stringIter ⟨(toldL kn).toArray⟩ 0) := World.iter_heap wd _ 0
        have hbi : Below wd.heap.size wd (wd.iter ⟨(toldL kn).toArray⟩ 0) := below_alloc (Below.refl _ _) _
        have P0 : Aside0 (PW c w wd.heap.size g4 g5 gb ⟨(toldL kn).toArray⟩ 0 (callOf c.op) [⟨(nameL kn).toArray⟩] vw (wd.iter ⟨(toldL kn).toArray⟩ 0)) := ⟨⟨hit, K4d.out.below hbi, K5d.out.below hbi, blk_below KBd.out hbi, Kd.R_below RX.out hbi, below_step HB3.out hbi⟩⟩
        have GI : Aside0 (w.heap.size ≤ wd.heap.size) := ⟨HB3.out.size⟩
        clear hit hbi K4d K5d KBd RX HB3 HL3 z0 p1
        generalize wd.heap.size = gi at P0 GI ⊢
        generalize wd.iter ⟨(toldL kn).toArray⟩ 0 = we at P0 ⊢
        go_loopg [6, 8, 9, 10] ((toldL kn).length + 1) (fun kq v6 v8 v9 v10 w' => ∃ (dn rest : List UInt8) (a : CallS) (r : List UInt8) (ws : List ByteArray) (wl : World), wl = w' ∧ Aside0 (toldL kn = dn ++ rest ∧ kq = rest.length + 1) ∧ Aside0 (PW c w gi g4 g5 gb ⟨(toldL kn).toArray⟩ dn.length a ws v6 w') ∧ Aside0 (goTell c dn = some r ∧ a = goPut c dn (callOf c.op)) ∧ Aside0 (Lib.join (ws.map (·.data.toList)) [32] = nameL kn ++ r ∧ ws ≠ [] ∧ ws.length = dn.length + 1))
        case atStart => exact ⟨[], toldL kn, callOf c.op, [], _, _, rfl, ⟨rfl, rfl⟩, P0, ⟨rfl, rfl⟩, ⟨by simp [Lib.join_one], by simp, rfl⟩⟩
        case round =>
          clear P0
          obtain ⟨dn, rest, a, r, ws, wl, rfl, SP, PL, TL, JN⟩ := hrel
          cases rest with
          | nil =>
            have hpos : ¬ dn.length < (⟨(toldL kn).toArray⟩ : ByteArray).size := by rw [size_bytes, SP.out.1]; simp
            have hnext : ∀ ty, (Instr.next (.pointer (some ⟨gi, 0, none⟩)) true ty).run Tryd.prog wl = .ok (.tuple #[.bool false]) wl := fun ty => Lib.run_next_end_at wl gi _ _ ty PL.out.it hpos
            clear hpos
            have ya0 : wl.cell? ⟨g5, 0, none⟩ = some (.int .i64 a.op) := (blk_cell PL.out.k5 0).trans rfl
            have ya1 : wl.cell? ⟨g5, 1, none⟩ = some (.int .i64 a.slot) := (blk_cell PL.out.k5 1).trans rfl
            have ya2 : wl.cell? ⟨g5, 2, none⟩ = some (.int .i64 a.gen) := (blk_cell PL.out.k5 2).trans rfl
            have ya3 : wl.cell? ⟨g5, 3, none⟩ = some (.int .i64 a.cpu) := (blk_cell PL.out.k5 3).trans rfl
            have ya4 : wl.cell? ⟨g5, 4, none⟩ = some (.int .i64 a.n) := (blk_cell PL.out.k5 4).trans rfl
            have ya5 : wl.cell? ⟨g5, 5, none⟩ = some (.int .i64 a.nice) := (blk_cell PL.out.k5 5).trans rfl
            have ya6 : wl.cell? ⟨g5, 6, none⟩ = some (.int .u64 a.mask) := (blk_cell PL.out.k5 6).trans rfl
            have yc0 : wl.cell? ⟨gb, 0, none⟩ = some (.int .i64 c.op) := (blk_cell PL.out.kb 0).trans rfl
            have yc1 : wl.cell? ⟨gb, 1, none⟩ = some (.int .i64 c.slot) := (blk_cell PL.out.kb 1).trans rfl
            have yc2 : wl.cell? ⟨gb, 2, none⟩ = some (.int .i64 c.gen) := (blk_cell PL.out.kb 2).trans rfl
            have yc3 : wl.cell? ⟨gb, 3, none⟩ = some (.int .i64 c.cpu) := (blk_cell PL.out.kb 3).trans rfl
            have yc4 : wl.cell? ⟨gb, 4, none⟩ = some (.int .i64 c.n) := (blk_cell PL.out.kb 4).trans rfl
            have yc5 : wl.cell? ⟨gb, 5, none⟩ = some (.int .i64 c.nice) := (blk_cell PL.out.kb 5).trans rfl
            have yc6 : wl.cell? ⟨gb, 6, none⟩ = some (.int .u64 c.mask) := (blk_cell PL.out.kb 6).trans rfl
            by_cases he : a = c
            · have hq : (a.op == c.op && ((a.slot == c.slot && (a.gen == c.gen)) && (a.cpu == c.cpu && (a.n == c.n && (a.nice == c.nice && (a.mask == c.mask)))))) = true := by rw [he]; simp
              have HE := Aside0.mk he
              clear he
              go_wp2_with fail
              have HP := Aside0.mk (print_eq HK.out HR.out SP.out.1 TL.out.1 TL.out.2 HE.out)
              have HPL := Aside0.mk (parse_of_print HO.out.mask HP.out).2
              refine (join_c ws u6 wl w.heap.size _ PL.out.rw JN.out.2.1 (by have h_ := JN.out.2.2; have h2_ := told_le HR.out SP.out.1; omega) (by rw [JN.out.1]; have h_ := HPL.out; omega)).mono ?_
              rintro e w5 ⟨rfl, hb⟩
              have HB5 := Aside0.mk (below_step PL.out.hb hb)
              have HPS : Aside0 (printCS c = (nameL kn ++ r, 0)) := ⟨by unfold printCS; rw [HP.out]⟩
              clear hb
              rw [JN.out.1]
              go_wp2_with fail
              go_ret2
              rw [HPS.out]
              exact ⟨rfl, HB5.out⟩
            · have hq : (a.op == c.op && ((a.slot == c.slot && (a.gen == c.gen)) && (a.cpu == c.cpu && (a.n == c.n && (a.nice == c.nice && (a.mask == c.mask)))))) = false := call_ne he
              have HE := Aside0.mk he
              clear he
              go_wp2_with fail
              go_ret2
              rw [print_uneq HK.out HR.out SP.out.1 TL.out.1 TL.out.2 HE.out]
              exact ⟨rfl, PL.out.hb⟩
          | cons x rest' =>
            cases gk with
            | zero => exact absurd SP.out.2 (by simp)
            | succ k1 =>
              have hpos : dn.length < (⟨(toldL kn).toArray⟩ : ByteArray).size := by rw [size_bytes, SP.out.1]; simp
              have hx : isLet x := told_let HR.out SP.out.1
              have hnext := fun ty => next_let wl gi dn rest' x ty PL.out.it SP.out.1 hx
              have P1 := Aside0.mk (PL.out.next GI.out)
              generalize wl.iterAt gi ⟨(toldL kn).toArray⟩ (dn.length + 1) = W1 at hnext P1
              have HL1 := Aside0.mk (HLd.below P1.out.hb)
              obtain ⟨bm, o, hc1, hbo, hF⟩ := HL1.out.fld
              clear hpos PL
              rcases hx with rfl | rfl | rfl | rfl | rfl
              · have hlet : isLet (110 : UInt8) := .inl rfl
                have hlk : (Instr.lookup 56 (.map (some bm)) (.int .i32 110) false).run Tryd.prog W1 = .ok (.agg #[.func (.func 121) #[] #[], .func (.func 122) #[] #[]]) W1 := hF 110 hlet W1 hbo
                have hf0 : ∀ W : World, (Instr.field 55 (Value.agg #[.func (.func 121) #[] #[], .func (.func 122) #[] #[]]) 0).run Tryd.prog W = .ok (.func (.func 121) #[] #[]) W := fun W => by kernel_rfl
                have hf1 : ∀ W : World, (Instr.field 55 (Value.agg #[.func (.func 121) #[] #[], .func (.func 122) #[] #[]]) 1).run Tryd.prog W = .ok (.func (.func 122) #[] #[]) W := fun W => by kernel_rfl
                clear hF hbo
                go_wp2_with fail
                refine (tell_at (k := 110) (f := 121) rfl hlet g4 c HO.out W1 HL1.out P1.out.k4).mono ?_
                rintro e w2 ⟨t, ok, rfl, ht, hb⟩
                have P2 := Aside0.mk (P1.out.below hb)
                clear hb
                have HL2 := Aside0.mk (HLd.below P2.out.hb)
                cases htl : tellF 110 c with
                | none =>
                  rw [htl] at ht
                  have ht2 : ok = false := ht
                  subst ht2
                  have HP : Aside0 (printCS c = ([], 1)) := ⟨print_none HK.out HR.out SP.out.1 TL.out.1 htl⟩
                  clear ht htl hnext hlk
                  go_wp2_with fail
                  go_ret2
                  rw [HP.out]
                  exact ⟨rfl, P2.out.hb⟩
                | some l =>
                  rw [htl] at ht
                  obtain ⟨rfl, rfl⟩ := (ht : ok = true ∧ t = ⟨l.toArray⟩)
                  have HT := Aside0.mk htl
                  clear htl hnext hlk hc1
                  obtain ⟨bm2, o2, hc2, hbo2, hF2⟩ := HL2.out.fld
                  have hlk2 : (Instr.lookup 56 (.map (some bm2)) (.int .i32 110) false).run Tryd.prog w2 = .ok (.agg #[.func (.func 121) #[] #[], .func (.func 122) #[] #[]]) w2 := hF2 110 hlet w2 hbo2
                  clear hF2 hbo2
                  go_wp2_with fail
                  refine (read_at (k := 110) (f := 122) rfl hlet g5 a ⟨l.toArray⟩ (tell_size HO.out HT.out) w2 HL2.out P2.out.k5).mono ?_
                  rintro e w3 ⟨c', rfl, hk, hv, hg⟩
                  have hrd := read_tell 110 c a l HO.out.mask HT.out
                  have hrd2 : readF 110 a (⟨l.toArray⟩ : ByteArray).data.toList = some (putF 110 a c) := hrd
                  have e2 := hv _ hrd2
                  subst e2
                  rw [hrd2]
                  have P3 := Aside0.mk (P2.out.read N45.out G45.out.2 hk hg)
                  have SPl : Aside0 (dn.length ≤ 13) := ⟨told_le HR.out SP.out.1⟩
                  clear hk hv hg hrd hrd2 hlk2 hc2 P2 HL2
                  go_wp2_with (first | ((with_reducible refine gate_builtin (b := .append) (xs := #[.tmp 59, .tmp 61]) rfl ?_); at_builtin; refine Kd.R_append Kd.string (w0 := w) w.heap.size rfl (.tmp 59) (.tmp 61) 50 9 (.string ⟨#[]⟩) 16 rfl Tryd.underlying50 info9 rfl (by decide) (by omega) u6 ws ⟨l.toArray⟩ [.string ⟨l.toArray⟩] (fun _ => True) (fun _ => False) rfl rfl ?aP (fun _ hk => hk.elim) ?aF ?aO ?aB ?aS ?aL ?_; (case aP => exact rfl); (case aB => exact P3.out.hb); (case aF => exact (fun _ _ => trivial)); (case aO => exact P3.out.rw); (case aS => exact P3.out.hb.size); (case aL => have h_ := JN.out.2.2; have h2_ := SPl.out; omega); intro v6n w4 hr hb hg hat; have P4 := Aside0.mk (P3.out.app hr hb hg); clear hr hb hg hat))
                  go_roundg k1
                  case measure => exact Nat.lt_succ_self _
                  case rel => exact ⟨dn ++ [110], rest', putF 110 a c, r ++ (32 :: l), ws ++ [⟨l.toArray⟩], _, rfl, ⟨by rw [List.append_assoc]; exact SP.out.1, by have h_ := SP.out.2; rw [List.length_cons] at h_; omega⟩, ⟨by rw [List.length_append]; exact P4.out⟩, ⟨tell_snoc TL.out.1 HT.out, by rw [goPut_app, ← TL.out.2]; rfl⟩, ⟨join_words JN.out.1 JN.out.2.1, by simp, by rw [List.length_append, List.length_append, JN.out.2.2]; rfl⟩⟩
              · have hlet : isLet (109 : UInt8) := .inr (.inl rfl)
                have hlk : (Instr.lookup 56 (.map (some bm)) (.int .i32 109) false).run Tryd.prog W1 = .ok (.agg #[.func (.func 123) #[] #[], .func (.func 124) #[] #[]]) W1 := hF 109 hlet W1 hbo
                have hf0 : ∀ W : World, (Instr.field 55 (Value.agg #[.func (.func 123) #[] #[], .func (.func 124) #[] #[]]) 0).run Tryd.prog W = .ok (.func (.func 123) #[] #[]) W := fun W => by kernel_rfl
                have hf1 : ∀ W : World, (Instr.field 55 (Value.agg #[.func (.func 123) #[] #[], .func (.func 124) #[] #[]]) 1).run Tryd.prog W = .ok (.func (.func 124) #[] #[]) W := fun W => by kernel_rfl
                clear hF hbo
                go_wp2_with fail
                refine (tell_at (k := 109) (f := 123) rfl hlet g4 c HO.out W1 HL1.out P1.out.k4).mono ?_
                rintro e w2 ⟨t, ok, rfl, ht, hb⟩
                have P2 := Aside0.mk (P1.out.below hb)
                clear hb
                have HL2 := Aside0.mk (HLd.below P2.out.hb)
                cases htl : tellF 109 c with
                | none =>
                  rw [htl] at ht
                  have ht2 : ok = false := ht
                  subst ht2
                  have HP : Aside0 (printCS c = ([], 1)) := ⟨print_none HK.out HR.out SP.out.1 TL.out.1 htl⟩
                  clear ht htl hnext hlk
                  go_wp2_with fail
                  go_ret2
                  rw [HP.out]
                  exact ⟨rfl, P2.out.hb⟩
                | some l =>
                  rw [htl] at ht
                  obtain ⟨rfl, rfl⟩ := (ht : ok = true ∧ t = ⟨l.toArray⟩)
                  have HT := Aside0.mk htl
                  clear htl hnext hlk hc1
                  obtain ⟨bm2, o2, hc2, hbo2, hF2⟩ := HL2.out.fld
                  have hlk2 : (Instr.lookup 56 (.map (some bm2)) (.int .i32 109) false).run Tryd.prog w2 = .ok (.agg #[.func (.func 123) #[] #[], .func (.func 124) #[] #[]]) w2 := hF2 109 hlet w2 hbo2
                  clear hF2 hbo2
                  go_wp2_with fail
                  refine (read_at (k := 109) (f := 124) rfl hlet g5 a ⟨l.toArray⟩ (tell_size HO.out HT.out) w2 HL2.out P2.out.k5).mono ?_
                  rintro e w3 ⟨c', rfl, hk, hv, hg⟩
                  have hrd := read_tell 109 c a l HO.out.mask HT.out
                  have hrd2 : readF 109 a (⟨l.toArray⟩ : ByteArray).data.toList = some (putF 109 a c) := hrd
                  have e2 := hv _ hrd2
                  subst e2
                  rw [hrd2]
                  have P3 := Aside0.mk (P2.out.read N45.out G45.out.2 hk hg)
                  have SPl : Aside0 (dn.length ≤ 13) := ⟨told_le HR.out SP.out.1⟩
                  clear hk hv hg hrd hrd2 hlk2 hc2 P2 HL2
                  go_wp2_with (first | ((with_reducible refine gate_builtin (b := .append) (xs := #[.tmp 59, .tmp 61]) rfl ?_); at_builtin; refine Kd.R_append Kd.string (w0 := w) w.heap.size rfl (.tmp 59) (.tmp 61) 50 9 (.string ⟨#[]⟩) 16 rfl Tryd.underlying50 info9 rfl (by decide) (by omega) u6 ws ⟨l.toArray⟩ [.string ⟨l.toArray⟩] (fun _ => True) (fun _ => False) rfl rfl ?aP (fun _ hk => hk.elim) ?aF ?aO ?aB ?aS ?aL ?_; (case aP => exact rfl); (case aB => exact P3.out.hb); (case aF => exact (fun _ _ => trivial)); (case aO => exact P3.out.rw); (case aS => exact P3.out.hb.size); (case aL => have h_ := JN.out.2.2; have h2_ := SPl.out; omega); intro v6n w4 hr hb hg hat; have P4 := Aside0.mk (P3.out.app hr hb hg); clear hr hb hg hat))
                  go_roundg k1
                  case measure => exact Nat.lt_succ_self _
                  case rel => exact ⟨dn ++ [109], rest', putF 109 a c, r ++ (32 :: l), ws ++ [⟨l.toArray⟩], _, rfl, ⟨by rw [List.append_assoc]; exact SP.out.1, by have h_ := SP.out.2; rw [List.length_cons] at h_; omega⟩, ⟨by rw [List.length_append]; exact P4.out⟩, ⟨tell_snoc TL.out.1 HT.out, by rw [goPut_app, ← TL.out.2]; rfl⟩, ⟨join_words JN.out.1 JN.out.2.1, by simp, by rw [List.length_append, List.length_append, JN.out.2.2]; rfl⟩⟩
              · have hlet : isLet (116 : UInt8) := .inr (.inr (.inl rfl))
                have hlk : (Instr.lookup 56 (.map (some bm)) (.int .i32 116) false).run Tryd.prog W1 = .ok (.agg #[.func (.func 125) #[] #[], .func (.func 126) #[] #[]]) W1 := hF 116 hlet W1 hbo
                have hf0 : ∀ W : World, (Instr.field 55 (Value.agg #[.func (.func 125) #[] #[], .func (.func 126) #[] #[]]) 0).run Tryd.prog W = .ok (.func (.func 125) #[] #[]) W := fun W => by kernel_rfl
                have hf1 : ∀ W : World, (Instr.field 55 (Value.agg #[.func (.func 125) #[] #[], .func (.func 126) #[] #[]]) 1).run Tryd.prog W = .ok (.func (.func 126) #[] #[]) W := fun W => by kernel_rfl
                clear hF hbo
                go_wp2_with fail
                refine (tell_at (k := 116) (f := 125) rfl hlet g4 c HO.out W1 HL1.out P1.out.k4).mono ?_
                rintro e w2 ⟨t, ok, rfl, ht, hb⟩
                have P2 := Aside0.mk (P1.out.below hb)
                clear hb
                have HL2 := Aside0.mk (HLd.below P2.out.hb)
                cases htl : tellF 116 c with
                | none =>
                  rw [htl] at ht
                  have ht2 : ok = false := ht
                  subst ht2
                  have HP : Aside0 (printCS c = ([], 1)) := ⟨print_none HK.out HR.out SP.out.1 TL.out.1 htl⟩
                  clear ht htl hnext hlk
                  go_wp2_with fail
                  go_ret2
                  rw [HP.out]
                  exact ⟨rfl, P2.out.hb⟩
                | some l =>
                  rw [htl] at ht
                  obtain ⟨rfl, rfl⟩ := (ht : ok = true ∧ t = ⟨l.toArray⟩)
                  have HT := Aside0.mk htl
                  clear htl hnext hlk hc1
                  obtain ⟨bm2, o2, hc2, hbo2, hF2⟩ := HL2.out.fld
                  have hlk2 : (Instr.lookup 56 (.map (some bm2)) (.int .i32 116) false).run Tryd.prog w2 = .ok (.agg #[.func (.func 125) #[] #[], .func (.func 126) #[] #[]]) w2 := hF2 116 hlet w2 hbo2
                  clear hF2 hbo2
                  go_wp2_with fail
                  refine (read_at (k := 116) (f := 126) rfl hlet g5 a ⟨l.toArray⟩ (tell_size HO.out HT.out) w2 HL2.out P2.out.k5).mono ?_
                  rintro e w3 ⟨c', rfl, hk, hv, hg⟩
                  have hrd := read_tell 116 c a l HO.out.mask HT.out
                  have hrd2 : readF 116 a (⟨l.toArray⟩ : ByteArray).data.toList = some (putF 116 a c) := hrd
                  have e2 := hv _ hrd2
                  subst e2
                  rw [hrd2]
                  have P3 := Aside0.mk (P2.out.read N45.out G45.out.2 hk hg)
                  have SPl : Aside0 (dn.length ≤ 13) := ⟨told_le HR.out SP.out.1⟩
                  clear hk hv hg hrd hrd2 hlk2 hc2 P2 HL2
                  go_wp2_with (first | ((with_reducible refine gate_builtin (b := .append) (xs := #[.tmp 59, .tmp 61]) rfl ?_); at_builtin; refine Kd.R_append Kd.string (w0 := w) w.heap.size rfl (.tmp 59) (.tmp 61) 50 9 (.string ⟨#[]⟩) 16 rfl Tryd.underlying50 info9 rfl (by decide) (by omega) u6 ws ⟨l.toArray⟩ [.string ⟨l.toArray⟩] (fun _ => True) (fun _ => False) rfl rfl ?aP (fun _ hk => hk.elim) ?aF ?aO ?aB ?aS ?aL ?_; (case aP => exact rfl); (case aB => exact P3.out.hb); (case aF => exact (fun _ _ => trivial)); (case aO => exact P3.out.rw); (case aS => exact P3.out.hb.size); (case aL => have h_ := JN.out.2.2; have h2_ := SPl.out; omega); intro v6n w4 hr hb hg hat; have P4 := Aside0.mk (P3.out.app hr hb hg); clear hr hb hg hat))
                  go_roundg k1
                  case measure => exact Nat.lt_succ_self _
                  case rel => exact ⟨dn ++ [116], rest', putF 116 a c, r ++ (32 :: l), ws ++ [⟨l.toArray⟩], _, rfl, ⟨by rw [List.append_assoc]; exact SP.out.1, by have h_ := SP.out.2; rw [List.length_cons] at h_; omega⟩, ⟨by rw [List.length_append]; exact P4.out⟩, ⟨tell_snoc TL.out.1 HT.out, by rw [goPut_app, ← TL.out.2]; rfl⟩, ⟨join_words JN.out.1 JN.out.2.1, by simp, by rw [List.length_append, List.length_append, JN.out.2.2]; rfl⟩⟩
              · have hlet : isLet (99 : UInt8) := .inr (.inr (.inr (.inl rfl)))
                have hlk : (Instr.lookup 56 (.map (some bm)) (.int .i32 99) false).run Tryd.prog W1 = .ok (.agg #[.func (.func 127) #[] #[], .func (.func 115) #[] #[]]) W1 := hF 99 hlet W1 hbo
                have hf0 : ∀ W : World, (Instr.field 55 (Value.agg #[.func (.func 127) #[] #[], .func (.func 115) #[] #[]]) 0).run Tryd.prog W = .ok (.func (.func 127) #[] #[]) W := fun W => by kernel_rfl
                have hf1 : ∀ W : World, (Instr.field 55 (Value.agg #[.func (.func 127) #[] #[], .func (.func 115) #[] #[]]) 1).run Tryd.prog W = .ok (.func (.func 115) #[] #[]) W := fun W => by kernel_rfl
                clear hF hbo
                go_wp2_with fail
                refine (tell_at (k := 99) (f := 127) rfl hlet g4 c HO.out W1 HL1.out P1.out.k4).mono ?_
                rintro e w2 ⟨t, ok, rfl, ht, hb⟩
                have P2 := Aside0.mk (P1.out.below hb)
                clear hb
                have HL2 := Aside0.mk (HLd.below P2.out.hb)
                cases htl : tellF 99 c with
                | none =>
                  rw [htl] at ht
                  have ht2 : ok = false := ht
                  subst ht2
                  have HP : Aside0 (printCS c = ([], 1)) := ⟨print_none HK.out HR.out SP.out.1 TL.out.1 htl⟩
                  clear ht htl hnext hlk
                  go_wp2_with fail
                  go_ret2
                  rw [HP.out]
                  exact ⟨rfl, P2.out.hb⟩
                | some l =>
                  rw [htl] at ht
                  obtain ⟨rfl, rfl⟩ := (ht : ok = true ∧ t = ⟨l.toArray⟩)
                  have HT := Aside0.mk htl
                  clear htl hnext hlk hc1
                  obtain ⟨bm2, o2, hc2, hbo2, hF2⟩ := HL2.out.fld
                  have hlk2 : (Instr.lookup 56 (.map (some bm2)) (.int .i32 99) false).run Tryd.prog w2 = .ok (.agg #[.func (.func 127) #[] #[], .func (.func 115) #[] #[]]) w2 := hF2 99 hlet w2 hbo2
                  clear hF2 hbo2
                  go_wp2_with fail
                  refine (read_at (k := 99) (f := 115) rfl hlet g5 a ⟨l.toArray⟩ (tell_size HO.out HT.out) w2 HL2.out P2.out.k5).mono ?_
                  rintro e w3 ⟨c', rfl, hk, hv, hg⟩
                  have hrd := read_tell 99 c a l HO.out.mask HT.out
                  have hrd2 : readF 99 a (⟨l.toArray⟩ : ByteArray).data.toList = some (putF 99 a c) := hrd
                  have e2 := hv _ hrd2
                  subst e2
                  rw [hrd2]
                  have P3 := Aside0.mk (P2.out.read N45.out G45.out.2 hk hg)
                  have SPl : Aside0 (dn.length ≤ 13) := ⟨told_le HR.out SP.out.1⟩
                  clear hk hv hg hrd hrd2 hlk2 hc2 P2 HL2
                  go_wp2_with (first | ((with_reducible refine gate_builtin (b := .append) (xs := #[.tmp 59, .tmp 61]) rfl ?_); at_builtin; refine Kd.R_append Kd.string (w0 := w) w.heap.size rfl (.tmp 59) (.tmp 61) 50 9 (.string ⟨#[]⟩) 16 rfl Tryd.underlying50 info9 rfl (by decide) (by omega) u6 ws ⟨l.toArray⟩ [.string ⟨l.toArray⟩] (fun _ => True) (fun _ => False) rfl rfl ?aP (fun _ hk => hk.elim) ?aF ?aO ?aB ?aS ?aL ?_; (case aP => exact rfl); (case aB => exact P3.out.hb); (case aF => exact (fun _ _ => trivial)); (case aO => exact P3.out.rw); (case aS => exact P3.out.hb.size); (case aL => have h_ := JN.out.2.2; have h2_ := SPl.out; omega); intro v6n w4 hr hb hg hat; have P4 := Aside0.mk (P3.out.app hr hb hg); clear hr hb hg hat))
                  go_roundg k1
                  case measure => exact Nat.lt_succ_self _
                  case rel => exact ⟨dn ++ [99], rest', putF 99 a c, r ++ (32 :: l), ws ++ [⟨l.toArray⟩], _, rfl, ⟨by rw [List.append_assoc]; exact SP.out.1, by have h_ := SP.out.2; rw [List.length_cons] at h_; omega⟩, ⟨by rw [List.length_append]; exact P4.out⟩, ⟨tell_snoc TL.out.1 HT.out, by rw [goPut_app, ← TL.out.2]; rfl⟩, ⟨join_words JN.out.1 JN.out.2.1, by simp, by rw [List.length_append, List.length_append, JN.out.2.2]; rfl⟩⟩
              · have hlet : isLet (107 : UInt8) := .inr (.inr (.inr (.inr rfl)))
                have hlk : (Instr.lookup 56 (.map (some bm)) (.int .i32 107) false).run Tryd.prog W1 = .ok (.agg #[.func (.func 128) #[] #[], .func (.func 129) #[] #[]]) W1 := hF 107 hlet W1 hbo
                have hf0 : ∀ W : World, (Instr.field 55 (Value.agg #[.func (.func 128) #[] #[], .func (.func 129) #[] #[]]) 0).run Tryd.prog W = .ok (.func (.func 128) #[] #[]) W := fun W => by kernel_rfl
                have hf1 : ∀ W : World, (Instr.field 55 (Value.agg #[.func (.func 128) #[] #[], .func (.func 129) #[] #[]]) 1).run Tryd.prog W = .ok (.func (.func 129) #[] #[]) W := fun W => by kernel_rfl
                clear hF hbo
                go_wp2_with fail
                refine (tell_at (k := 107) (f := 128) rfl hlet g4 c HO.out W1 HL1.out P1.out.k4).mono ?_
                rintro e w2 ⟨t, ok, rfl, ht, hb⟩
                have P2 := Aside0.mk (P1.out.below hb)
                clear hb
                have HL2 := Aside0.mk (HLd.below P2.out.hb)
                cases htl : tellF 107 c with
                | none =>
                  rw [htl] at ht
                  have ht2 : ok = false := ht
                  subst ht2
                  have HP : Aside0 (printCS c = ([], 1)) := ⟨print_none HK.out HR.out SP.out.1 TL.out.1 htl⟩
                  clear ht htl hnext hlk
                  go_wp2_with fail
                  go_ret2
                  rw [HP.out]
                  exact ⟨rfl, P2.out.hb⟩
                | some l =>
                  rw [htl] at ht
                  obtain ⟨rfl, rfl⟩ := (ht : ok = true ∧ t = ⟨l.toArray⟩)
                  have HT := Aside0.mk htl
                  clear htl hnext hlk hc1
                  obtain ⟨bm2, o2, hc2, hbo2, hF2⟩ := HL2.out.fld
                  have hlk2 : (Instr.lookup 56 (.map (some bm2)) (.int .i32 107) false).run Tryd.prog w2 = .ok (.agg #[.func (.func 128) #[] #[], .func (.func 129) #[] #[]]) w2 := hF2 107 hlet w2 hbo2
                  clear hF2 hbo2
                  go_wp2_with fail
                  refine (read_at (k := 107) (f := 129) rfl hlet g5 a ⟨l.toArray⟩ (tell_size HO.out HT.out) w2 HL2.out P2.out.k5).mono ?_
                  rintro e w3 ⟨c', rfl, hk, hv, hg⟩
                  have hrd := read_tell 107 c a l HO.out.mask HT.out
                  have hrd2 : readF 107 a (⟨l.toArray⟩ : ByteArray).data.toList = some (putF 107 a c) := hrd
                  have e2 := hv _ hrd2
                  subst e2
                  rw [hrd2]
                  have P3 := Aside0.mk (P2.out.read N45.out G45.out.2 hk hg)
                  have SPl : Aside0 (dn.length ≤ 13) := ⟨told_le HR.out SP.out.1⟩
                  clear hk hv hg hrd hrd2 hlk2 hc2 P2 HL2
                  go_wp2_with (first | ((with_reducible refine gate_builtin (b := .append) (xs := #[.tmp 59, .tmp 61]) rfl ?_); at_builtin; refine Kd.R_append Kd.string (w0 := w) w.heap.size rfl (.tmp 59) (.tmp 61) 50 9 (.string ⟨#[]⟩) 16 rfl Tryd.underlying50 info9 rfl (by decide) (by omega) u6 ws ⟨l.toArray⟩ [.string ⟨l.toArray⟩] (fun _ => True) (fun _ => False) rfl rfl ?aP (fun _ hk => hk.elim) ?aF ?aO ?aB ?aS ?aL ?_; (case aP => exact rfl); (case aB => exact P3.out.hb); (case aF => exact (fun _ _ => trivial)); (case aO => exact P3.out.rw); (case aS => exact P3.out.hb.size); (case aL => have h_ := JN.out.2.2; have h2_ := SPl.out; omega); intro v6n w4 hr hb hg hat; have P4 := Aside0.mk (P3.out.app hr hb hg); clear hr hb hg hat))
                  go_roundg k1
                  case measure => exact Nat.lt_succ_self _
                  case rel => exact ⟨dn ++ [107], rest', putF 107 a c, r ++ (32 :: l), ws ++ [⟨l.toArray⟩], _, rfl, ⟨by rw [List.append_assoc]; exact SP.out.1, by have h_ := SP.out.2; rw [List.length_cons] at h_; omega⟩, ⟨by rw [List.length_append]; exact P4.out⟩, ⟨tell_snoc TL.out.1 HT.out, by rw [goPut_app, ← TL.out.2]; rfl⟩, ⟨join_words JN.out.1 JN.out.2.1, by simp, by rw [List.length_append, List.length_append, JN.out.2.2]; rfl⟩⟩
end Go.Proofs.YtilmbpdfdickoaaDoor.Given
/- calls.Hear, walked. -/
namespace Go.Proofs.YtilmbpdfdickoaaDoor.Given
open Go.RowKit Go.Proofs.YtilmbpdfdickoaaDoor Go.Proofs.YtilmbpdfdickoaaDoor.Print Go.Proofs.YtilmbpdfdickoaaDoor.Pure Go.Proofs.YtilmbpdfdickoaaDoorW.PrintWords Go.Proofs.YtilmbpdfdickoaaDoorW.PrintLast Go.Proofs.YtilmbpdfdickoaaDoorW.PrintMore
set_option linter.unusedVariables false
set_option linter.unusedSimpArgs false
theorem split_c (s : ByteArray) (hs : s.size ≤ 4000000000) (w : World) (HLd : Ld w) :
    Calls Tryd.prog 34 #[.string s, .string ⟨#[32]⟩] w fun e w' => ∃ ws : List ByteArray, e = .returned (.slice (some ⟨w.heap.size, 0, none⟩) ws.length ws.length) ∧ w' = w.alloc (.cells (ws.map Value.string).toArray 9) ∧ ws.map (·.data.toList) = splitL 32 s.data.toList := by
  obtain ⟨m, hm⟩ := HLd.top
  refine (Tryd.strings_Split s ⟨#[32]⟩ m w (by omega) hm (Nat.le_refl 1)).mono ?_
  rintro e w' ⟨rfl, rfl⟩
  have h := splitB_is 32 s
  exact ⟨_, by rw [h.2], rfl, h.1⟩
theorem put4 {w : World} {g : Nat} (h : w.heap[g]? = some (.cells #[.int .i64 0, .int .i64 0, .int .i64 0, .int .i64 0] 36 (0, 0))) (a b c d : Value) : ((((w.setCell ⟨g, 0, none⟩ a).setCell ⟨g, 1, none⟩ b).setCell ⟨g, 2, none⟩ c).setCell ⟨g, 3, none⟩ d).heap[g]? = some (.cells #[a, b, c, d] 36 (0, 0)) :=
  blk_put (blk_put (blk_put (blk_put h 0 a rfl) 1 b rfl) 2 c rfl) 3 d rfl
def hearW (ws : List (List UInt8)) : Option AnsS := match ws with
  | [w, x] => match numT x with
    | none => none
    | some n => if w = errT ∧ 1 ≤ n ∧ n ≤ 11 then some ⟨(n : Int), 0, 0, 0⟩ else if w = okT then some ⟨0, (n : Int), 0, 0⟩ else none
  | [w, x, t] => match numT x with
    | none => none
    | some n => if w = okT then (match handleV t with
      | none => none
      | some v => if v.1 = 0 ∧ v.2 = 0 then none else some ⟨0, (n : Int), v.1, v.2⟩) else none
  | _ => none
theorem hear_words (l : List UInt8) : hearA l = hearW (splitL 32 l) := by
  unfold hearA
  generalize splitL 32 l = q
  rcases q with _ | ⟨a, _ | ⟨b, _ | ⟨c, _ | ⟨d, e⟩⟩⟩⟩
  · rfl
  · rfl
  · dsimp only [hearW]
    cases numT b <;> rfl
  · dsimp only [hearW]
    cases numT b <;> rfl
  · rfl
theorem hear_one (a : ByteArray) : hearW ([a].map (·.data.toList)) = none := rfl
theorem hear_many (a b x d : ByteArray) (q : List ByteArray) : hearW ((a :: b :: x :: d :: q).map (·.data.toList)) = none := rfl
theorem hear2_none (a b : ByteArray) (hn : numT b.data.toList = none) : hearW ([a, b].map (·.data.toList)) = none := by simp [hearW, hn]
theorem hear3_none (a b x : ByteArray) (hn : numT b.data.toList = none) : hearW ([a, b, x].map (·.data.toList)) = none := by simp [hearW, hn]
theorem hear2_is (a b : ByteArray) (n : Nat) (v : Int) (hv : (n : Int) = v) (hn : numT b.data.toList = some n) : hearW ([a, b].map (·.data.toList)) = if a.data.toList = errT ∧ 1 ≤ v ∧ v ≤ 11 then some (⟨v, 0, 0, 0⟩ : AnsS) else if a.data.toList = okT then some (⟨0, v, 0, 0⟩ : AnsS) else none := by
  show (match numT b.data.toList with
    | none => none
    | some n => if a.data.toList = errT ∧ 1 ≤ n ∧ n ≤ 11 then some (⟨(n : Int), 0, 0, 0⟩ : AnsS) else if a.data.toList = okT then some (⟨0, (n : Int), 0, 0⟩ : AnsS) else none) = _
  rw [hn, ← hv]
  dsimp only
  by_cases h : a.data.toList = errT ∧ 1 ≤ n ∧ n ≤ 11
  · rw [if_pos h, if_pos ⟨h.1, by omega, by omega⟩]
  · rw [if_neg h]
    by_cases h5 : a.data.toList = okT
    · rw [if_pos h5, if_neg (fun h2 => h ⟨h2.1, by omega, by omega⟩)]
    · rw [if_neg h5, if_neg (fun h2 => h ⟨h2.1, by omega, by omega⟩)]
theorem hear3_is (a b x : ByteArray) (n : Nat) (v : Int) (hv : (n : Int) = v) (hn : numT b.data.toList = some n) : hearW ([a, b, x].map (·.data.toList)) = if a.data.toList = okT then (match handleV x.data.toList with
      | none => none
      | some u => if u.1 = 0 ∧ u.2 = 0 then none else some (⟨0, v, u.1, u.2⟩ : AnsS)) else none := by
  show (match numT b.data.toList with
    | none => none
    | some n => if a.data.toList = okT then (match handleV x.data.toList with
      | none => none
      | some u => if u.1 = 0 ∧ u.2 = 0 then none else some (⟨0, (n : Int), u.1, u.2⟩ : AnsS)) else none) = _
  rw [hn, ← hv]
theorem word_eq (a : ByteArray) (l : List UInt8) : (a.toList == l) = decide (a.data.toList = l) := by
  rw [ByteArray.toList_eq, Bool.eq_iff_iff, beq_iff_eq, decide_eq_true_iff]
theorem splitL_le (c : UInt8) : ∀ (l : List UInt8), ∀ x ∈ splitL c l, x.length ≤ l.length
  | [], x, hx => by
    rw [List.mem_singleton.1 (show x ∈ [[]] from hx)]; exact Nat.le_refl _
  | y :: l, x, hx => by
    have ih := splitL_le c l
    unfold splitL at hx
    split at hx
    · rcases List.mem_cons.1 hx with rfl | h
      · exact Nat.zero_le _
      · exact Nat.le_succ_of_le (ih x h)
    · split at hx
      · rw [List.mem_singleton.1 hx]; simp
      · rename_i h t he
        rcases List.mem_cons.1 hx with rfl | h2
        · have := ih h (by rw [he]; simp)
          simp; omega
        · exact Nat.le_succ_of_le (ih x (by rw [he]; exact List.mem_cons.2 (.inr h2)))
def ansV (a : AnsS) : Value := .agg #[.int .i64 a.errno, .int .i64 a.n, .int .i64 a.slot, .int .i64 a.gen]
attribute [local go_sem high] eqA23
set_option maxHeartbeats 8000000 in
set_option maxRecDepth 100000 in
theorem hear_c (s : ByteArray) (hs : s.size ≤ 4000000000) (w : World) (HLd : Ld w) :
    Calls Tryd.prog 17 #[.string s] w fun e w' => e = .returned (.tuple #[ansV (hearS s.data.toList).1, .int .i64 (hearS s.data.toList).2]) ∧ Below w.heap.size w w' := by
  have hu36 := Tryd.underlying36
  have hu23 := Tryd.underlying23
  have HB := Aside0.mk (Below.refl w.heap.size w)
  by_cases h1 : 100 < s.size
  · have HP : Aside0 (hearS s.data.toList = (ans0, 2)) := ⟨by unfold hearS; rw [if_pos (by rw [size_list]; exact h1)]⟩
    have t0 : decide ((s.size : Int) > 100) = true := decide_eq_true (by omega)
    have t1 : decide ((100 : Int) < (s.size : Int)) = true := decide_eq_true (by omega)
    have t2 : decide (100 < s.size) = true := decide_eq_true h1
    clear h1 hs
    go_enter Tryd.func17, Tryd.ntmps17
    go_wp2_with (first | ((with_reducible refine gate_dst (N := 2) rfl ?_); refine box_event ?hg (N := 2) ?hd (cs := #[.int .i64 0, .int .i64 0, .int .i64 0, .int .i64 0]) (t := 36) ?hr ?_; (case hd => rfl); (case hg => rfl); (case hr => first | (go_simp; done) | (go_simp; rfl)); intro gb hg w6 hbox hb; have KB := Aside0.mk hbox; have GE : Aside0 (w.heap.size ≤ gb) := ⟨by rw [hg]; exact (below_size (by repeat (first | (with_reducible first | exact HB.out | apply below_alloc | apply pw_below_drewN | apply below_drew1) | exact HB.out)))⟩; have z0 : w6.cell? ⟨gb, 0, none⟩ = some (.int .i64 0) := (blk_cell KB.out 0).trans rfl; have f0 := blk_frozen KB.out 0; have z1 : w6.cell? ⟨gb, 1, none⟩ = some (.int .i64 0) := (blk_cell KB.out 1).trans rfl; have f1 := blk_frozen KB.out 1; have z2 : w6.cell? ⟨gb, 2, none⟩ = some (.int .i64 0) := (blk_cell KB.out 2).trans rfl; have f2 := blk_frozen KB.out 2; have z3 : w6.cell? ⟨gb, 3, none⟩ = some (.int .i64 0) := (blk_cell KB.out 3).trans rfl; have f3 := blk_frozen KB.out 3; have HB1 := Aside0.mk (below_step (by repeat (first | (with_reducible first | exact HB.out | apply below_alloc | apply pw_below_drewN | apply below_drew1) | exact HB.out)) hb); clear hb hbox hg))
    refine bodyPost_ret (results_ct rfl _ _ gb 36 #[.int .i64 (0), .int .i64 (0), .int .i64 (0), .int .i64 (0)] (0, 0) _ rfl (put4 KB.out _ _ _ _) Tryd.underlying36 rfl (by kernel_rfl)) rfl ?_
    rw [HP.out]
    exact ⟨rfl, below_set (below_set (below_set (below_set HB1.out GE.out) GE.out) GE.out) GE.out⟩
  · have t0 : decide ((s.size : Int) > 100) = false := decide_eq_false (by omega)
    have t1 : decide ((100 : Int) < (s.size : Int)) = false := decide_eq_false (by omega)
    have t2 : decide (100 < s.size) = false := decide_eq_false h1
    have HS := Aside0.mk hs
    have HP : Aside0 (hearS s.data.toList = (match hearA s.data.toList with
      | some a => (a, 0)
      | none => (ans0, 3))) := ⟨by unfold hearS; rw [if_neg (by rw [size_list]; exact h1)]; cases hearA s.data.toList <;> rfl⟩
    clear h1 hs
    go_enter Tryd.func17, Tryd.ntmps17
    go_wp2_with (first | ((with_reducible refine gate_dst (N := 2) rfl ?_); refine box_event ?hg (N := 2) ?hd (cs := #[.int .i64 0, .int .i64 0, .int .i64 0, .int .i64 0]) (t := 36) ?hr ?_; (case hd => rfl); (case hg => rfl); (case hr => first | (go_simp; done) | (go_simp; rfl)); intro gb hg w6 hbox hb; have KB := Aside0.mk hbox; have GE : Aside0 (w.heap.size ≤ gb) := ⟨by rw [hg]; exact (below_size (by repeat (first | (with_reducible first | exact HB.out | apply below_alloc | apply pw_below_drewN | apply below_drew1) | exact HB.out)))⟩; have z0 : w6.cell? ⟨gb, 0, none⟩ = some (.int .i64 0) := (blk_cell KB.out 0).trans rfl; have f0 := blk_frozen KB.out 0; have z1 : w6.cell? ⟨gb, 1, none⟩ = some (.int .i64 0) := (blk_cell KB.out 1).trans rfl; have f1 := blk_frozen KB.out 1; have z2 : w6.cell? ⟨gb, 2, none⟩ = some (.int .i64 0) := (blk_cell KB.out 2).trans rfl; have f2 := blk_frozen KB.out 2; have z3 : w6.cell? ⟨gb, 3, none⟩ = some (.int .i64 0) := (blk_cell KB.out 3).trans rfl; have f3 := blk_frozen KB.out 3; have HB1 := Aside0.mk (below_step (by repeat (first | (with_reducible first | exact HB.out | apply below_alloc | apply pw_below_drewN | apply below_drew1) | exact HB.out)) hb); clear hb hbox hg))
    refine (split_c s HS.out _ (HLd.below HB1.out)).mono ?_
    rintro e w1 ⟨ws, rfl, rfl, hw⟩
    have HA : Aside0 (hearA s.data.toList = hearW (ws.map (·.data.toList))) := ⟨by rw [hw]; exact hear_words _⟩
    have KB7 : Aside0 ((w6.alloc (.cells (ws.map Value.string).toArray 9)).heap[gb]? = some (.cells #[.int .i64 0, .int .i64 0, .int .i64 0, .int .i64 0] 36 (0, 0))) := ⟨blk_alloc KB.out _⟩
    have HB7 : Aside0 (Below w.heap.size w (w6.alloc (.cells (ws.map Value.string).toArray 9))) := ⟨below_alloc HB1.out _⟩
    have KR : Aside0 ((w6.alloc (.cells (ws.map Value.string).toArray 9)).heap[w6.heap.size]? = some (.cells (ws.map Value.string).toArray 9 (0, 0))) := ⟨blk_new _ _⟩
    clear z0 z1 z2 z3 f0 f1 f2 f3
    generalize w6.alloc (.cells (ws.map Value.string).toArray 9) = w7 at KB7 HB7 KR ⊢
    generalize w6.heap.size = rb at KR ⊢
    clear KB HB1
    have z0 : w7.cell? ⟨gb, 0, none⟩ = some (.int .i64 0) := (blk_cell KB7.out 0).trans rfl
    have z1 : w7.cell? ⟨gb, 1, none⟩ = some (.int .i64 0) := (blk_cell KB7.out 1).trans rfl
    have z2 : w7.cell? ⟨gb, 2, none⟩ = some (.int .i64 0) := (blk_cell KB7.out 2).trans rfl
    have z3 : w7.cell? ⟨gb, 3, none⟩ = some (.int .i64 0) := (blk_cell KB7.out 3).trans rfl
    have f0 := blk_frozen KB7.out 0
    have f1 := blk_frozen KB7.out 1
    have f2 := blk_frozen KB7.out 2
    have f3 := blk_frozen KB7.out 3
    rcases ws with _ | ⟨a, _ | ⟨b, _ | ⟨x, _ | ⟨d, q⟩⟩⟩⟩
    · exact absurd hw.symm (splitL_ne 32 _)
    · have HN : Aside0 (hearS s.data.toList = (ans0, 3)) := ⟨by rw [HP.out, HA.out, hear_one]⟩
      clear HA HP hw KR
      simp only [List.length_cons, List.length_nil, Nat.zero_add]
      go_wp2_with fail
      refine bodyPost_ret (results_ct rfl _ _ gb 36 #[.int .i64 0, .int .i64 0, .int .i64 0, .int .i64 0] (0, 0) _ rfl (put4 KB7.out _ _ _ _) Tryd.underlying36 rfl (by kernel_rfl)) rfl ?_
      rw [HN.out]
      exact ⟨rfl, below_set (below_set (below_set (below_set HB7.out GE.out) GE.out) GE.out) GE.out⟩
    · have hbl : b.size ≤ 281474976710656 := by
        have h_ := splitL_le 32 s.data.toList b.data.toList (by rw [← hw]; simp)
        rw [size_list, size_list] at h_
        have := HS.out
        omega
      have y0 : w7.cell? ⟨rb, 0, none⟩ = some (.string a) := (blk_cell KR.out 0).trans rfl
      have y1 : w7.cell? ⟨rb, 1, none⟩ = some (.string b) := (blk_cell KR.out 1).trans rfl
      have HBL := Aside0.mk hbl
      clear hbl hw
      simp only [List.length_cons, List.length_nil, Nat.zero_add]
      go_wp2_with fail
      refine (number_walk b HBL.out _ (HLd.below HB7.out)).mono ?_
      rintro e w8 ⟨rfl, hb⟩
      have KB8 := Aside0.mk (blk_below KB7.out hb)
      have KR8 := Aside0.mk (blk_below KR.out hb)
      have HB8 := Aside0.mk (below_step HB7.out hb)
      clear y0 y1 z0 z1 z2 z3 f0 f1 f2 f3 hb KB7 HB7 KR
      have HV : Aside0 (∀ n, numT b.data.toList = some n → (n : Int) = numP b) := ⟨fun n h => (numP_of h).symm⟩
      generalize numP b = v at HV ⊢
      generalize hok : (numT b.data.toList).isSome = ok
      go_upto_region 8 with (first | ((with_reducible refine gate_dst (N := 7) rfl ?_); refine box_event ?hg (N := 7) ?hd (cs := #[.int .i64 0, .int .i64 0, .int .i64 0, .int .i64 0]) (t := 36) ?hr ?_; (case hd => rfl); (case hg => rfl); (case hr => first | (go_simp; done) | (go_simp; rfl)); intro g7 hg w9 hbox hb; have KN := Aside0.mk hbox; have N7 := Aside0.mk (show gb ≠ g7 from fun e => by have h_ := blk_lt KB8.out; rw [e, hg] at h_; exact Nat.lt_irrefl _ h_); have GE7 : Aside0 (w.heap.size ≤ g7) := ⟨by rw [hg]; exact below_size HB8.out⟩; have KB9 := Aside0.mk (blk_below KB8.out hb); have KR9 := Aside0.mk (blk_below KR8.out hb); have HB9 := Aside0.mk (below_step HB8.out hb); have q0 : w9.cell? ⟨g7, 0, none⟩ = some (.int .i64 0) := (blk_cell KN.out 0).trans rfl; have g0 := blk_frozen KN.out 0; have q1 : w9.cell? ⟨g7, 1, none⟩ = some (.int .i64 0) := (blk_cell KN.out 1).trans rfl; have g1 := blk_frozen KN.out 1; have q2 : w9.cell? ⟨g7, 2, none⟩ = some (.int .i64 0) := (blk_cell KN.out 2).trans rfl; have g2 := blk_frozen KN.out 2; have q3 : w9.cell? ⟨g7, 3, none⟩ = some (.int .i64 0) := (blk_cell KN.out 3).trans rfl; have g3 := blk_frozen KN.out 3; clear hb hbox hg))
      have K7 := Aside0.mk (put4 KN.out (.int .i64 0) (.int .i64 v) (.int .i64 0) (.int .i64 0))
      have KB10 : Aside0 (((((w9.setCell ⟨g7, 0, none⟩ (.int .i64 0)).setCell ⟨g7, 1, none⟩ (.int .i64 v)).setCell ⟨g7, 2, none⟩ (.int .i64 0)).setCell ⟨g7, 3, none⟩ (.int .i64 0)).heap[gb]? = some (.cells #[.int .i64 0, .int .i64 0, .int .i64 0, .int .i64 0] 36 (0, 0))) := ⟨blk_far (blk_far (blk_far (blk_far KB9.out N7.out _) N7.out _) N7.out _) N7.out _⟩
      have NR : Aside0 (rb ≠ g7) := ⟨blk_ne KR9.out KN.out (by decide)⟩
      have KR10 : Aside0 (((((w9.setCell ⟨g7, 0, none⟩ (.int .i64 0)).setCell ⟨g7, 1, none⟩ (.int .i64 v)).setCell ⟨g7, 2, none⟩ (.int .i64 0)).setCell ⟨g7, 3, none⟩ (.int .i64 0)).heap[rb]? = some (.cells (([a, b] : List ByteArray).map Value.string).toArray 9 (0, 0))) := ⟨blk_far (blk_far (blk_far (blk_far KR9.out NR.out _) NR.out _) NR.out _) NR.out _⟩
      have HB10 : Aside0 (Below w.heap.size w ((((w9.setCell ⟨g7, 0, none⟩ (.int .i64 0)).setCell ⟨g7, 1, none⟩ (.int .i64 v)).setCell ⟨g7, 2, none⟩ (.int .i64 0)).setCell ⟨g7, 3, none⟩ (.int .i64 0))) := ⟨below_set (below_set (below_set (below_set HB9.out GE7.out) GE7.out) GE7.out) GE7.out⟩
      clear KB9 KR9 HB9 KN g0 g1 g2 g3 q0 q1 q2 q3 KB8 KR8 HB8
      generalize ((((w9.setCell ⟨g7, 0, none⟩ (.int .i64 0)).setCell ⟨g7, 1, none⟩ (.int .i64 v)).setCell ⟨g7, 2, none⟩ (.int .i64 0)).setCell ⟨g7, 3, none⟩ (.int .i64 0)) = w10 at K7 KB10 KR10 HB10 ⊢
      have z0 : w10.cell? ⟨gb, 0, none⟩ = some (.int .i64 0) := (blk_cell KB10.out 0).trans rfl
      have f0 := blk_frozen KB10.out 0
      have z1 : w10.cell? ⟨gb, 1, none⟩ = some (.int .i64 0) := (blk_cell KB10.out 1).trans rfl
      have f1 := blk_frozen KB10.out 1
      have z2 : w10.cell? ⟨gb, 2, none⟩ = some (.int .i64 0) := (blk_cell KB10.out 2).trans rfl
      have f2 := blk_frozen KB10.out 2
      have z3 : w10.cell? ⟨gb, 3, none⟩ = some (.int .i64 0) := (blk_cell KB10.out 3).trans rfl
      have f3 := blk_frozen KB10.out 3
      have x0 : w10.cell? ⟨g7, 0, none⟩ = some (.int .i64 (0)) := (blk_cell K7.out 0).trans rfl
      have g0 := blk_frozen K7.out 0
      have x1 : w10.cell? ⟨g7, 1, none⟩ = some (.int .i64 (v)) := (blk_cell K7.out 1).trans rfl
      have g1 := blk_frozen K7.out 1
      have x2 : w10.cell? ⟨g7, 2, none⟩ = some (.int .i64 (0)) := (blk_cell K7.out 2).trans rfl
      have g2 := blk_frozen K7.out 2
      have x3 : w10.cell? ⟨g7, 3, none⟩ = some (.int .i64 (0)) := (blk_cell K7.out 3).trans rfl
      have g3 := blk_frozen K7.out 3
      have y0 : w10.cell? ⟨rb, 0, none⟩ = some (.string a) := (blk_cell KR10.out 0).trans rfl
      have y1 : w10.cell? ⟨rb, 1, none⟩ = some (.string b) := (blk_cell KR10.out 1).trans rfl
      have e7 : (gb = g7) = False := eq_false N7.out
      have e7c : (g7 = gb) = False := eq_false (Ne.symm N7.out)
      cases hn : numT b.data.toList with
      | none =>
        have HN : Aside0 (hearS s.data.toList = (ans0, 3)) := ⟨by rw [HP.out, HA.out, hear2_none _ _ hn]⟩
        obtain rfl : ok = false := by rw [← hok, hn]; rfl
        clear HA HP hn hok HV
        go_wp2_with fail
        refine bodyPost_ret (results_ct rfl _ _ gb 36 #[.int .i64 (0), .int .i64 (0), .int .i64 (0), .int .i64 (0)] (0, 0) _ rfl (put4 KB10.out _ _ _ _) Tryd.underlying36 rfl (by kernel_rfl)) rfl ?_
        rw [HN.out]
        exact ⟨rfl, below_set (below_set (below_set (below_set HB10.out GE.out) GE.out) GE.out) GE.out⟩
      | some n =>
        obtain rfl : ok = true := by rw [← hok, hn]; rfl
        have hI := hear2_is a b n v (HV.out n hn) hn
        clear hn hok HV
        by_cases h1 : a.data.toList = okT
        · have ne : ¬ a.data.toList = errT := fun e => absurd (h1.symm.trans e) (by decide)
          have c1 : (a.toList == [101, 114, 114, 111, 114]) = false := (word_eq a _).trans (decide_eq_false ne)
          have c2 : (a.toList == [111, 107]) = true := (word_eq a _).trans (decide_eq_true h1)
          rw [if_neg (fun h => ne h.1), if_pos h1] at hI
          have HN : Aside0 (hearS s.data.toList = (⟨0, v, 0, 0⟩, 0)) := ⟨by rw [HP.out, HA.out, hI]⟩
          clear HA HP hI h1 ne
          go_wp2_with fail
          refine bodyPost_ret (results_ct rfl _ _ gb 36 #[.int .i64 (0), .int .i64 (v), .int .i64 (0), .int .i64 (0)] (0, 0) _ rfl (put4 KB10.out _ _ _ _) Tryd.underlying36 rfl (by kernel_rfl)) rfl ?_
          rw [HN.out]
          exact ⟨rfl, below_set (below_set (below_set (below_set HB10.out GE.out) GE.out) GE.out) GE.out⟩
        · have c2 : (a.toList == [111, 107]) = false := (word_eq a _).trans (decide_eq_false h1)
          by_cases h2 : a.data.toList = errT
          · have c1 : (a.toList == [101, 114, 114, 111, 114]) = true := (word_eq a _).trans (decide_eq_true h2)
            by_cases h3 : 1 ≤ v
            · have d0 : decide (v ≥ (1 : Int)) = true := decide_eq_true h3
              by_cases h4 : v ≤ 11
              · have d1 : decide (v ≤ (11 : Int)) = true := decide_eq_true h4
                rw [if_pos ⟨h2, h3, h4⟩] at hI
                have HN : Aside0 (hearS s.data.toList = (⟨v, 0, 0, 0⟩, 0)) := ⟨by rw [HP.out, HA.out, hI]⟩
                clear HA HP hI h1 h2 h3 h4
                go_wp2_with fail
                refine bodyPost_ret (results_ct rfl _ _ gb 36 #[.int .i64 (v), .int .i64 (0), .int .i64 (0), .int .i64 (0)] (0, 0) _ rfl (put4 KB10.out _ _ _ _) Tryd.underlying36 rfl (by kernel_rfl)) rfl ?_
                rw [HN.out]
                exact ⟨rfl, below_set (below_set (below_set (below_set HB10.out GE.out) GE.out) GE.out) GE.out⟩
              · have d1 : decide (v ≤ (11 : Int)) = false := decide_eq_false h4
                rw [if_neg (fun h => h4 h.2.2), if_neg h1] at hI
                have HN : Aside0 (hearS s.data.toList = (ans0, 3)) := ⟨by rw [HP.out, HA.out, hI]⟩
                clear HA HP hI h1 h2 h3 h4
                go_wp2_with fail
                refine bodyPost_ret (results_ct rfl _ _ gb 36 #[.int .i64 (0), .int .i64 (0), .int .i64 (0), .int .i64 (0)] (0, 0) _ rfl (put4 KB10.out _ _ _ _) Tryd.underlying36 rfl (by kernel_rfl)) rfl ?_
                rw [HN.out]
                exact ⟨rfl, below_set (below_set (below_set (below_set HB10.out GE.out) GE.out) GE.out) GE.out⟩
            · have d0 : decide (v ≥ (1 : Int)) = false := decide_eq_false h3
              rw [if_neg (fun h => h3 h.2.1), if_neg h1] at hI
              have HN : Aside0 (hearS s.data.toList = (ans0, 3)) := ⟨by rw [HP.out, HA.out, hI]⟩
              clear HA HP hI h1 h2 h3
              go_wp2_with fail
              refine bodyPost_ret (results_ct rfl _ _ gb 36 #[.int .i64 (0), .int .i64 (0), .int .i64 (0), .int .i64 (0)] (0, 0) _ rfl (put4 KB10.out _ _ _ _) Tryd.underlying36 rfl (by kernel_rfl)) rfl ?_
              rw [HN.out]
              exact ⟨rfl, below_set (below_set (below_set (below_set HB10.out GE.out) GE.out) GE.out) GE.out⟩
          · have c1 : (a.toList == [101, 114, 114, 111, 114]) = false := (word_eq a _).trans (decide_eq_false h2)
            rw [if_neg (fun h => h2 h.1), if_neg h1] at hI
            have HN : Aside0 (hearS s.data.toList = (ans0, 3)) := ⟨by rw [HP.out, HA.out, hI]⟩
            clear HA HP hI h1 h2
            go_wp2_with fail
            refine bodyPost_ret (results_ct rfl _ _ gb 36 #[.int .i64 (0), .int .i64 (0), .int .i64 (0), .int .i64 (0)] (0, 0) _ rfl (put4 KB10.out _ _ _ _) Tryd.underlying36 rfl (by kernel_rfl)) rfl ?_
            rw [HN.out]
            exact ⟨rfl, below_set (below_set (below_set (below_set HB10.out GE.out) GE.out) GE.out) GE.out⟩
    · have hbl : x.size ≤ 4000000000 ∧ b.size ≤ 281474976710656 := by
        have h_ := splitL_le 32 s.data.toList b.data.toList (by rw [← hw]; simp)
        have h2_ := splitL_le 32 s.data.toList x.data.toList (by rw [← hw]; simp)
        rw [size_list, size_list] at h_ h2_
        have := HS.out
        omega
      have y0 : w7.cell? ⟨rb, 0, none⟩ = some (.string a) := (blk_cell KR.out 0).trans rfl
      have y1 : w7.cell? ⟨rb, 1, none⟩ = some (.string b) := (blk_cell KR.out 1).trans rfl
      have HBL := Aside0.mk hbl
      clear hbl hw
      simp only [List.length_cons, List.length_nil, Nat.zero_add]
      go_wp2_with fail
      refine (number_walk b HBL.out.2 _ (HLd.below HB7.out)).mono ?_
      rintro e w8 ⟨rfl, hb⟩
      have KB8 := Aside0.mk (blk_below KB7.out hb)
      have KR8 := Aside0.mk (blk_below KR.out hb)
      have HB8 := Aside0.mk (below_step HB7.out hb)
      clear y0 y1 z0 z1 z2 z3 f0 f1 f2 f3 hb KB7 HB7 KR
      have HV : Aside0 (∀ n, numT b.data.toList = some n → (n : Int) = numP b) := ⟨fun n h => (numP_of h).symm⟩
      generalize numP b = v at HV ⊢
      generalize hok : (numT b.data.toList).isSome = ok
      go_upto_region 8 with (first | ((with_reducible refine gate_dst (N := 7) rfl ?_); refine box_event ?hg (N := 7) ?hd (cs := #[.int .i64 0, .int .i64 0, .int .i64 0, .int .i64 0]) (t := 36) ?hr ?_; (case hd => rfl); (case hg => rfl); (case hr => first | (go_simp; done) | (go_simp; rfl)); intro g7 hg w9 hbox hb; have KN := Aside0.mk hbox; have N7 := Aside0.mk (show gb ≠ g7 from fun e => by have h_ := blk_lt KB8.out; rw [e, hg] at h_; exact Nat.lt_irrefl _ h_); have GE7 : Aside0 (w.heap.size ≤ g7) := ⟨by rw [hg]; exact below_size HB8.out⟩; have KB9 := Aside0.mk (blk_below KB8.out hb); have KR9 := Aside0.mk (blk_below KR8.out hb); have HB9 := Aside0.mk (below_step HB8.out hb); have q0 : w9.cell? ⟨g7, 0, none⟩ = some (.int .i64 0) := (blk_cell KN.out 0).trans rfl; have g0 := blk_frozen KN.out 0; have q1 : w9.cell? ⟨g7, 1, none⟩ = some (.int .i64 0) := (blk_cell KN.out 1).trans rfl; have g1 := blk_frozen KN.out 1; have q2 : w9.cell? ⟨g7, 2, none⟩ = some (.int .i64 0) := (blk_cell KN.out 2).trans rfl; have g2 := blk_frozen KN.out 2; have q3 : w9.cell? ⟨g7, 3, none⟩ = some (.int .i64 0) := (blk_cell KN.out 3).trans rfl; have g3 := blk_frozen KN.out 3; clear hb hbox hg))
      have K7 := Aside0.mk (put4 KN.out (.int .i64 0) (.int .i64 v) (.int .i64 0) (.int .i64 0))
      have KB10 : Aside0 (((((w9.setCell ⟨g7, 0, none⟩ (.int .i64 0)).setCell ⟨g7, 1, none⟩ (.int .i64 v)).setCell ⟨g7, 2, none⟩ (.int .i64 0)).setCell ⟨g7, 3, none⟩ (.int .i64 0)).heap[gb]? = some (.cells #[.int .i64 0, .int .i64 0, .int .i64 0, .int .i64 0] 36 (0, 0))) := ⟨blk_far (blk_far (blk_far (blk_far KB9.out N7.out _) N7.out _) N7.out _) N7.out _⟩
      have NR : Aside0 (rb ≠ g7) := ⟨blk_ne KR9.out KN.out (by decide)⟩
      have KR10 : Aside0 (((((w9.setCell ⟨g7, 0, none⟩ (.int .i64 0)).setCell ⟨g7, 1, none⟩ (.int .i64 v)).setCell ⟨g7, 2, none⟩ (.int .i64 0)).setCell ⟨g7, 3, none⟩ (.int .i64 0)).heap[rb]? = some (.cells (([a, b, x] : List ByteArray).map Value.string).toArray 9 (0, 0))) := ⟨blk_far (blk_far (blk_far (blk_far KR9.out NR.out _) NR.out _) NR.out _) NR.out _⟩
      have HB10 : Aside0 (Below w.heap.size w ((((w9.setCell ⟨g7, 0, none⟩ (.int .i64 0)).setCell ⟨g7, 1, none⟩ (.int .i64 v)).setCell ⟨g7, 2, none⟩ (.int .i64 0)).setCell ⟨g7, 3, none⟩ (.int .i64 0))) := ⟨below_set (below_set (below_set (below_set HB9.out GE7.out) GE7.out) GE7.out) GE7.out⟩
      clear KB9 KR9 HB9 KN g0 g1 g2 g3 q0 q1 q2 q3 KB8 KR8 HB8
      generalize ((((w9.setCell ⟨g7, 0, none⟩ (.int .i64 0)).setCell ⟨g7, 1, none⟩ (.int .i64 v)).setCell ⟨g7, 2, none⟩ (.int .i64 0)).setCell ⟨g7, 3, none⟩ (.int .i64 0)) = w10 at K7 KB10 KR10 HB10 ⊢
      have z0 : w10.cell? ⟨gb, 0, none⟩ = some (.int .i64 0) := (blk_cell KB10.out 0).trans rfl
      have f0 := blk_frozen KB10.out 0
      have z1 : w10.cell? ⟨gb, 1, none⟩ = some (.int .i64 0) := (blk_cell KB10.out 1).trans rfl
      have f1 := blk_frozen KB10.out 1
      have z2 : w10.cell? ⟨gb, 2, none⟩ = some (.int .i64 0) := (blk_cell KB10.out 2).trans rfl
      have f2 := blk_frozen KB10.out 2
      have z3 : w10.cell? ⟨gb, 3, none⟩ = some (.int .i64 0) := (blk_cell KB10.out 3).trans rfl
      have f3 := blk_frozen KB10.out 3
      have x0 : w10.cell? ⟨g7, 0, none⟩ = some (.int .i64 (0)) := (blk_cell K7.out 0).trans rfl
      have g0 := blk_frozen K7.out 0
      have x1 : w10.cell? ⟨g7, 1, none⟩ = some (.int .i64 (v)) := (blk_cell K7.out 1).trans rfl
      have g1 := blk_frozen K7.out 1
      have x2 : w10.cell? ⟨g7, 2, none⟩ = some (.int .i64 (0)) := (blk_cell K7.out 2).trans rfl
      have g2 := blk_frozen K7.out 2
      have x3 : w10.cell? ⟨g7, 3, none⟩ = some (.int .i64 (0)) := (blk_cell K7.out 3).trans rfl
      have g3 := blk_frozen K7.out 3
      have y0 : w10.cell? ⟨rb, 0, none⟩ = some (.string a) := (blk_cell KR10.out 0).trans rfl
      have y1 : w10.cell? ⟨rb, 1, none⟩ = some (.string b) := (blk_cell KR10.out 1).trans rfl
      have y2 : w10.cell? ⟨rb, 2, none⟩ = some (.string x) := (blk_cell KR10.out 2).trans rfl
      have e7 : (gb = g7) = False := eq_false N7.out
      have e7c : (g7 = gb) = False := eq_false (Ne.symm N7.out)
      cases hn : numT b.data.toList with
      | none =>
        have HN : Aside0 (hearS s.data.toList = (ans0, 3)) := ⟨by rw [HP.out, HA.out, hear3_none _ _ _ hn]⟩
        obtain rfl : ok = false := by rw [← hok, hn]; rfl
        clear HA HP hn hok HV
        go_wp2_with fail
        refine bodyPost_ret (results_ct rfl _ _ gb 36 #[.int .i64 (0), .int .i64 (0), .int .i64 (0), .int .i64 (0)] (0, 0) _ rfl (put4 KB10.out _ _ _ _) Tryd.underlying36 rfl (by kernel_rfl)) rfl ?_
        rw [HN.out]
        exact ⟨rfl, below_set (below_set (below_set (below_set HB10.out GE.out) GE.out) GE.out) GE.out⟩
      | some n =>
        obtain rfl : ok = true := by rw [← hok, hn]; rfl
        have hI := hear3_is a b x n v (HV.out n hn) hn
        clear hn hok HV
        by_cases h1 : a.data.toList = okT
        · have ne : ¬ a.data.toList = errT := fun e => absurd (h1.symm.trans e) (by decide)
          have c1 : (a.toList == [101, 114, 114, 111, 114]) = false := (word_eq a _).trans (decide_eq_false ne)
          have c2 : (a.toList == [111, 107]) = true := (word_eq a _).trans (decide_eq_true h1)
          rw [if_pos h1] at hI
          obtain ⟨p, q, hf, hh⟩ := handle_is x HBL.out.1
          have HF := Aside0.mk hf
          have HH := Aside0.mk hh
          clear hf hh h1 ne
          go_wp2_with fail
          refine (calls_handle.calls x _ _ _ _ (HLd.below HB10.out) HF.out).mono ?_
          rintro e w11 ⟨rfl, hb⟩
          have K11 := Aside0.mk (blk_below K7.out hb)
          have KB11 := Aside0.mk (blk_below KB10.out hb)
          have HB11 := Aside0.mk (below_step HB10.out hb)
          clear y0 y1 y2 z0 z1 z2 z3 f0 f1 f2 f3 x0 x1 x2 x3 g0 g1 g2 g3 hb K7 KB10 HB10 KR10
          have x2 : w11.cell? ⟨g7, 2, none⟩ = some (.int .i64 0) := (blk_cell K11.out 2).trans rfl
          have x3 : w11.cell? ⟨g7, 3, none⟩ = some (.int .i64 0) := (blk_cell K11.out 3).trans rfl
          have g2 := blk_frozen K11.out 2
          have g3 := blk_frozen K11.out 3
          generalize hok : (handleV x.data.toList).isSome = ok
          go_upto_region 16 with fail
          have K12 : Aside0 (((w11.setCell ⟨g7, 2, none⟩ (.int .i64 p)).setCell ⟨g7, 3, none⟩ (.int .i64 q)).heap[g7]? = some (.cells #[.int .i64 0, .int .i64 v, .int .i64 p, .int .i64 q] 36 (0, 0))) := ⟨blk_put (blk_put K11.out 2 _ rfl) 3 _ rfl⟩
          have KB12 : Aside0 (((w11.setCell ⟨g7, 2, none⟩ (.int .i64 p)).setCell ⟨g7, 3, none⟩ (.int .i64 q)).heap[gb]? = some (.cells #[.int .i64 0, .int .i64 0, .int .i64 0, .int .i64 0] 36 (0, 0))) := ⟨blk_far (blk_far KB11.out N7.out _) N7.out _⟩
          have HB12 : Aside0 (Below w.heap.size w ((w11.setCell ⟨g7, 2, none⟩ (.int .i64 p)).setCell ⟨g7, 3, none⟩ (.int .i64 q))) := ⟨below_set (below_set HB11.out GE7.out) GE7.out⟩
          clear x2 x3 g2 g3 K11 KB11 HB11
          generalize ((w11.setCell ⟨g7, 2, none⟩ (.int .i64 p)).setCell ⟨g7, 3, none⟩ (.int .i64 q)) = w12 at K12 KB12 HB12 ⊢
          have z0 : w12.cell? ⟨gb, 0, none⟩ = some (.int .i64 0) := (blk_cell KB12.out 0).trans rfl
          have f0 := blk_frozen KB12.out 0
          have z1 : w12.cell? ⟨gb, 1, none⟩ = some (.int .i64 0) := (blk_cell KB12.out 1).trans rfl
          have f1 := blk_frozen KB12.out 1
          have z2 : w12.cell? ⟨gb, 2, none⟩ = some (.int .i64 0) := (blk_cell KB12.out 2).trans rfl
          have f2 := blk_frozen KB12.out 2
          have z3 : w12.cell? ⟨gb, 3, none⟩ = some (.int .i64 0) := (blk_cell KB12.out 3).trans rfl
          have f3 := blk_frozen KB12.out 3
          have x0 : w12.cell? ⟨g7, 0, none⟩ = some (.int .i64 (0)) := (blk_cell K12.out 0).trans rfl
          have g0 := blk_frozen K12.out 0
          have x1 : w12.cell? ⟨g7, 1, none⟩ = some (.int .i64 (v)) := (blk_cell K12.out 1).trans rfl
          have g1 := blk_frozen K12.out 1
          have x2 : w12.cell? ⟨g7, 2, none⟩ = some (.int .i64 (p)) := (blk_cell K12.out 2).trans rfl
          have g2 := blk_frozen K12.out 2
          have x3 : w12.cell? ⟨g7, 3, none⟩ = some (.int .i64 (q)) := (blk_cell K12.out 3).trans rfl
          have g3 := blk_frozen K12.out 3
          cases hv : handleV x.data.toList with
          | none =>
            obtain rfl : ok = false := by rw [← hok, hv]; rfl
            rw [hv] at hI
            have HN : Aside0 (hearS s.data.toList = (ans0, 3)) := ⟨by rw [HP.out, HA.out, hI]⟩
            clear HA HP hI hv hok HH HF
            go_wp2_with fail
            refine bodyPost_ret (results_ct rfl _ _ gb 36 #[.int .i64 (0), .int .i64 (0), .int .i64 (0), .int .i64 (0)] (0, 0) _ rfl (put4 KB12.out _ _ _ _) Tryd.underlying36 rfl (by kernel_rfl)) rfl ?_
            rw [HN.out]
            exact ⟨rfl, below_set (below_set (below_set (below_set HB12.out GE.out) GE.out) GE.out) GE.out⟩
          | some u =>
            obtain rfl : ok = true := by rw [← hok, hv]; rfl
            rw [hv] at hI
            obtain ⟨r1, r2⟩ := HH.out u hv
            dsimp only at hI
            rw [← r1, ← r2] at hI
            clear hv hok HH HF r1 r2
            by_cases h0 : p = 0 ∧ q = 0
            · have hq : (p == 0 && (q == 0)) = true := by rw [h0.1, h0.2]; rfl
              rw [if_pos h0] at hI
              have HN : Aside0 (hearS s.data.toList = (ans0, 3)) := ⟨by rw [HP.out, HA.out, hI]⟩
              clear HA HP hI h0
              go_wp2_with fail
              refine bodyPost_ret (results_ct rfl _ _ gb 36 #[.int .i64 (0), .int .i64 (0), .int .i64 (0), .int .i64 (0)] (0, 0) _ rfl (put4 KB12.out _ _ _ _) Tryd.underlying36 rfl (by kernel_rfl)) rfl ?_
              rw [HN.out]
              exact ⟨rfl, below_set (below_set (below_set (below_set HB12.out GE.out) GE.out) GE.out) GE.out⟩
            · have hq : (p == 0 && (q == 0)) = false := by rw [Bool.eq_false_iff]; intro h; rw [Bool.and_eq_true, beq_iff_eq, beq_iff_eq] at h; exact h0 h
              rw [if_neg h0] at hI
              have HN : Aside0 (hearS s.data.toList = (⟨0, v, p, q⟩, 0)) := ⟨by rw [HP.out, HA.out, hI]⟩
              clear HA HP hI h0
              go_wp2_with fail
              refine bodyPost_ret (results_ct rfl _ _ gb 36 #[.int .i64 (0), .int .i64 (v), .int .i64 (p), .int .i64 (q)] (0, 0) _ rfl (put4 KB12.out _ _ _ _) Tryd.underlying36 rfl (by kernel_rfl)) rfl ?_
              rw [HN.out]
              exact ⟨rfl, below_set (below_set (below_set (below_set HB12.out GE.out) GE.out) GE.out) GE.out⟩
        · have c2 : (a.toList == [111, 107]) = false := (word_eq a _).trans (decide_eq_false h1)
          rw [if_neg h1] at hI
          have HN : Aside0 (hearS s.data.toList = (ans0, 3)) := ⟨by rw [HP.out, HA.out, hI]⟩
          clear HA HP hI h1
          cases c1 : (a.toList == [101, 114, 114, 111, 114])
          · go_wp2_with fail
            refine bodyPost_ret (results_ct rfl _ _ gb 36 #[.int .i64 (0), .int .i64 (0), .int .i64 (0), .int .i64 (0)] (0, 0) _ rfl (put4 KB10.out _ _ _ _) Tryd.underlying36 rfl (by kernel_rfl)) rfl ?_
            rw [HN.out]
            exact ⟨rfl, below_set (below_set (below_set (below_set HB10.out GE.out) GE.out) GE.out) GE.out⟩
          · go_wp2_with fail
            refine bodyPost_ret (results_ct rfl _ _ gb 36 #[.int .i64 (0), .int .i64 (0), .int .i64 (0), .int .i64 (0)] (0, 0) _ rfl (put4 KB10.out _ _ _ _) Tryd.underlying36 rfl (by kernel_rfl)) rfl ?_
            rw [HN.out]
            exact ⟨rfl, below_set (below_set (below_set (below_set HB10.out GE.out) GE.out) GE.out) GE.out⟩
    · have HN : Aside0 (hearS s.data.toList = (ans0, 3)) := ⟨by rw [HP.out, HA.out, hear_many]⟩
      clear HA HP hw KR
      have hm : 4 ≤ (a :: b :: x :: d :: q).length := by simp
      generalize (a :: b :: x :: d :: q).length = m at hm ⊢
      have u0 : decide ((m : Int) < 2) = false := decide_eq_false (by omega)
      have u1 : decide ((m : Int) > 3) = true := decide_eq_true (by omega)
      have u2 : decide ((3 : Int) < (m : Int)) = true := decide_eq_true (by omega)
      have u3 : decide (m < 2) = false := decide_eq_false (by omega)
      have u4 : decide (3 < m) = true := decide_eq_true (by omega)
      clear hm
      go_wp2_with fail
      refine bodyPost_ret (results_ct rfl _ _ gb 36 #[.int .i64 0, .int .i64 0, .int .i64 0, .int .i64 0] (0, 0) _ rfl (put4 KB7.out _ _ _ _) Tryd.underlying36 rfl (by kernel_rfl)) rfl ?_
      rw [HN.out]
      exact ⟨rfl, below_set (below_set (below_set (below_set HB7.out GE.out) GE.out) GE.out) GE.out⟩
end Go.Proofs.YtilmbpdfdickoaaDoor.Given

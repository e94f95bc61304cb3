/- Package table: must, goes. -/
import Derived.Laws.EntriesVeiled
import Derived.Test.YtdchbcpfciljoaaDoorPrint0
import Derived.Test.YtdchbcpfciljoaaDoorG5
import Derived.Defers
import Derived.Recover
import Derived.Test.YtdchbcpfciljoaaDoorGF
import Derived.Test.YtdchbcpfciljoaaDoorPrintF21
namespace Go.Proofs.YtdchbcpfciljoaaDoor.Given
open Go.RowKit Go.Proofs.YtdchbcpfciljoaaDoor Go.Proofs.YtdchbcpfciljoaaDoor.Print Go.Proofs.YtdchbcpfciljoaaDoorW.PrintWords
set_option linter.unusedVariables false
set_option linter.unusedSimpArgs false
/-- The panic by which must ends what can't go on. -/
def faultE (er : Int) : PanicEntry := { v := .iface 85 (.agg #[.int .i64 er]), recovered := false }
theorem must_ok (w : World) : Calls Tryd.prog 37 #[.int .i64 0] w fun e w' => e = .returned (.tuple #[]) ∧ w' = w := by
  have hd : ((0 : Int) != 0) = false := rfl
  go_enter Tryd.func37, Tryd.ntmps37
  go_wp2
  go_end0
  exact ⟨rfl, rfl⟩
theorem must_er (er : Int) (he : er ≠ 0) (w : World) : Calls Tryd.prog 37 #[.int .i64 er] w fun e w' => e = .panicked [faultE er] ∧ w' = w := by
  have hd : (er != 0) = true := bne_iff_ne.mpr he
  go_enter Tryd.func37, Tryd.ntmps37
  go_wp2
  exact ⟨rfl, rfl, rfl⟩
theorem Below.lower {B C : Nat} {w W : World} (h : Below C w W) (hB : B ≤ C) : Below B w W := ⟨h.os, h.tape, h.output, h.size, fun k hk => h.block k (by omega)⟩
theorem grown_of_below {w W : World} {row : Option Nat} (h : Below w.heap.size w W) : w.grownBy W row := ⟨h.os, h.tape, h.output, h.size, fun k hk _ => h.block k hk⟩
theorem _root_.Go.World.grownBy.trans_ {w W V : World} {row : Option Nat} (h : w.grownBy W row) (k : W.grownBy V row) : w.grownBy V row :=
  ⟨k.os.trans h.os, k.tape.trans h.tape, k.output.trans h.output, Nat.le_trans h.size k.size, fun q hq hr => (k.block q (Nat.lt_of_lt_of_le hq h.size) hr).trans (h.block q hq hr)⟩
set_option maxRecDepth 100000 in
set_option maxHeartbeats 4000000 in
theorem goes_ok (w0 w : World) (P : Nat) (i ev cpu : Int) (v0 v1 : Value) (l : List Int) (ok : Nat → Prop) (HB : Below w0.heap.size w0 w) (HL : Ld w0) (hP : w.heap[P]? = some (.cells #[v0, v1] 73 (0, 0)))
    (HR : Kd.R (Kd.int .u64) 28 w w0.heap.size ok v0 l) (hi0 : 0 ≤ i) (hi1 : i < l.length) (x : Int) (hn : life_Next.f (rdOf 0 l i) ev cpu = some (x, 0)) :
    Calls Tryd.prog 39 #[.pointer (some ⟨P, 0, none⟩), .int .i64 i, .int .i64 ev, .int .i64 cpu] w fun e w' => e = .returned (.tuple #[]) ∧ Below w0.heap.size w0 w' ∧ Kd.R (Kd.int .u64) 28 w' w0.heap.size ok v0 (l.set i.toNat x) ∧ w.grownBy w' v0.ownBlock := by
  obtain ⟨g, cap, rfl, hg0, hg1, cells, hgc⟩ := Kd.R_form HR (by omega)
  have hc := Kd.R_celln (n := l.length) 0 HR i hi0 hi1
  have hc0 : w.cell? ⟨g, i.toNat, none⟩ = some (.int .u64 (rdOf 0 l i)) := hc.1
  have hz0 : w.cell? ⟨P, 0, none⟩ = some (.slice (some ⟨g, 0, none⟩) l.length cap) := (blk_cell hP 0).trans rfl
  have p1 := eq_true hi0
  have p2 := eq_true hi1
  have HN := Aside0.mk hn
  have HBB := Aside0.mk HB
  have HRR := Aside0.mk HR
  have HPP := Aside0.mk hP
  have HLL := Aside0.mk HL
  clear HB HR hP HL hn hc
  go_enter Tryd.func39, Tryd.ntmps39
  go_wp2_with (first | (go_at_call 53; refine (life_Next.calls _ _ _ x 0 _ (HLL.out.below HBB.out) HN.out).mono ?_; rintro e w1 ⟨rfl, hb⟩; have HB1 := Aside0.mk (HBB.out.trans (Below.lower hb HBB.out.size)); have HR1 := Aside0.mk (Kd.R_below HRR.out hb); have HG1 := Aside0.mk (grown_of_below (row := some g) hb); have hz1 : w1.cell? ⟨P, 0, none⟩ = some (.slice (some ⟨g, 0, none⟩) l.length cap) := (blk_cell (blk_below HPP.out hb) 0).trans rfl; have hc1 : w1.cell? ⟨g, i.toNat, none⟩ = some (.int .u64 (rdOf 0 l i)) := (Kd.R_celln (n := l.length) 0 HR1.out i hi0 hi1).1; have hf1 : w1.frozen? ⟨g, i.toNat, none⟩ = false := (Kd.R_celln (n := l.length) 0 HR1.out i hi0 hi1).2; clear hb) | (go_at_call 37; refine (must_ok _).mono ?_; rintro e w2 ⟨rfl, rfl⟩))
  go_end0
  obtain ⟨k1, k2⟩ := Kd.R_putg (n := l.length) HR1.out i x
  exact ⟨rfl, below_set HB1.out hg0, k1, HG1.out.trans_ k2⟩
set_option maxRecDepth 100000 in
set_option maxHeartbeats 4000000 in
theorem goes_er (w0 w : World) (P : Nat) (i ev cpu : Int) (v0 v1 : Value) (l : List Int) (ok : Nat → Prop) (HB : Below w0.heap.size w0 w) (HL : Ld w0) (hP : w.heap[P]? = some (.cells #[v0, v1] 73 (0, 0)))
    (HR : Kd.R (Kd.int .u64) 28 w w0.heap.size ok v0 l) (hi0 : 0 ≤ i) (hi1 : i < l.length) (x er : Int) (he : er ≠ 0) (hn : life_Next.f (rdOf 0 l i) ev cpu = some (x, er)) :
    Calls Tryd.prog 39 #[.pointer (some ⟨P, 0, none⟩), .int .i64 i, .int .i64 ev, .int .i64 cpu] w fun e w' => e = .panicked [faultE er] ∧ Below w.heap.size w w' := by
  obtain ⟨g, cap, rfl, hg0, hg1, cells, hgc⟩ := Kd.R_form HR (by omega)
  have hc := Kd.R_celln (n := l.length) 0 HR i hi0 hi1
  have hc0 : w.cell? ⟨g, i.toNat, none⟩ = some (.int .u64 (rdOf 0 l i)) := hc.1
  have hz0 : w.cell? ⟨P, 0, none⟩ = some (.slice (some ⟨g, 0, none⟩) l.length cap) := (blk_cell hP 0).trans rfl
  have p1 := eq_true hi0
  have p2 := eq_true hi1
  have HN := Aside0.mk hn
  have HBB := Aside0.mk HB
  have HLL := Aside0.mk HL
  clear HB HR hP HL hn hc
  go_enter Tryd.func39, Tryd.ntmps39
  go_wp2_with (first | (go_at_call 53; refine (life_Next.calls _ _ _ x er _ (HLL.out.below HBB.out) HN.out).mono ?_; rintro e w1 ⟨rfl, hb⟩; have HB1 := Aside0.mk hb; clear hb) | (go_at_call 37; refine (must_er er he _).mono ?_; rintro e w2 ⟨rfl, rfl⟩))
  exact ⟨rfl, rfl, HB1.out⟩
end Go.Proofs.YtdchbcpfciljoaaDoor.Given
/- Package table: done: a closure that recovers. -/
namespace Go.Proofs.YtdchbcpfciljoaaDoor.Given
open Go.RowKit Go.Proofs.YtdchbcpfciljoaaDoor Go.Proofs.YtdchbcpfciljoaaDoor.Print Go.Proofs.YtdchbcpfciljoaaDoorW.PrintWords
set_option linter.unusedVariables false
set_option linter.unusedSimpArgs false
theorem catch_idle (p q : Addr) (w : World) :
    CallsD Tryd.prog 50 #[.pointer (some p), .pointer (some q)] .returning w fun e u' w' => e = .returned (.tuple #[]) ∧ u' = .returning ∧ w' = w := by
  refine callsD_of_wpS Tryd.func50 rfl fun c₀ cs hu => ?_
  apply wpS_seq
  apply wpS_region
  simp [wpOpsS, go_sem, recoverD, hu, Tryd.ntmps50, Exit.thenS]
  apply wpS_seq
  apply wpS_region
  simp [wpOpsS, go_sem, Exit.thenS]
  refine wpS_cond (t := false) (by simp [Act.eval, Array.replicate]) ?_
  simp only [Bool.false_eq_true, if_false]
  refine wpS_of_wp (wp_skip ?_)
  cases c₀
  simp_all [bodyPostS, results, Tryd.results50]
set_option maxRecDepth 100000 in
set_option maxHeartbeats 4000000 in
theorem catch_panicking (B4 B5 : Nat) (er r : Int) (v0 v1 : Value) (w : World) (h4 : w.heap[B4]? = some (.cells #[v0, v1] 25 (0, 0))) (h5 : w.heap[B5]? = some (.cells #[.int .i64 r] 33 (0, 0))) :
    CallsD Tryd.prog 50 #[.pointer (some ⟨B4, 0, none⟩), .pointer (some ⟨B5, 0, none⟩)] (.panicking [faultE er]) w fun e u' w' =>
      e = .returned (.tuple #[]) ∧ u' = .panicking [{ v := .iface 85 (.agg #[.int .i64 er]), recovered := true }] ∧ w' = (((w.setCell ⟨B4, 0, none⟩ (.slice none 0 0)).setCell ⟨B4, 1, none⟩ (.slice none 0 0)).setCell ⟨B5, 0, none⟩ (.int .i64 er)).drew := by
  refine callsD_of_wpS Tryd.func50 rfl fun c₀ cs hu => ?_
  apply wpS_seq
  apply wpS_region
  simp [wpOpsS, go_sem, recoverD, hu, Tryd.ntmps50, Exit.thenS, faultE]
  apply wpS_seq
  apply wpS_region
  simp [wpOpsS, go_sem, Exit.thenS]
  refine wpS_cond (t := true) (by simp [Act.eval, Array.replicate]) ?_
  simp only [if_true]
  have hn1 : B4 ≠ B5 := blk_ne h4 h5 (by decide)
  have hn2 : B5 ≠ B4 := Ne.symm hn1
  have hc0 := blk_cell h4 0
  have hc1 := blk_cell h4 1
  have hc5 := blk_cell h5 0
  have hf0 := blk_frozen h4 0
  have hf1 := blk_frozen h4 1
  have hf5 := blk_frozen h5 0
  simp at hc0 hc1 hc5
  refine wpS_of_wp ?_
  simp only [Array.replicate, List.replicate, List.setIfInBounds_toArray, List.set_cons_zero, List.set_cons_succ, List.append_toArray, List.cons_append, List.nil_append]
  have hta : ∀ W : World, (Instr.typeAssert (Value.iface 85 (Value.agg #[Value.int IntKind.i64 er])) 20 85 false).run Tryd.prog W = .ok (Value.agg #[Value.int IntKind.i64 er]) W := fun W => by kernel_rfl
  have hfi : ∀ W : World, (Instr.field 85 (Value.agg #[Value.int IntKind.i64 er]) 0).run Tryd.prog W = .ok (Value.int IntKind.i64 er) W := fun W => by kernel_rfl
  go_region
  exact ⟨rfl, _, rfl, .tuple #[], results_none rfl _ _ _, rfl, rfl, rfl⟩
theorem R_ne_n {α : Type} {d : Kd α} {e : Nat} {w w1 : World} {ok : Nat → Prop} {v : Value} {xs : List α} (h : d.R e w w1.heap.size ok v xs) {k : Nat} (hk : k < w1.heap.size) : some k ≠ v.ownBlock := fun he => by
  have := Kd.R_base h k he.symm
  omega
theorem R_ne_new0 {α : Type} {d : Kd α} {e : Nat} {w w1 : World} {ok : Nat → Prop} {v : Value} {xs : List α} (h : d.R e w w1.heap.size ok v xs) : some w.heap.size ≠ v.ownBlock := fun he => by
  have := Kd.R_lt h _ he.symm
  omega
theorem res33 (tmps : Array Value) (w : World) (B4 B5 : Nat) (a b : Value) (r : Int) (h4 : tmps.getD 4 undef = .pointer (some ⟨B4, 0, none⟩)) (h5 : tmps.getD 5 undef = .pointer (some ⟨B5, 0, none⟩))
    (k4 : w.heap[B4]? = some (.cells #[a, b] 25 (0, 0))) (k5 : w.heap[B5]? = some (.cells #[.int .i64 r] 33 (0, 0))) : (results Tryd.f33 tmps).run Tryd.prog w = .ok (.tuple #[.agg #[a, b], .int .i64 r]) w := by
  have h1 : tmps[4]?.getD undef = .pointer (some ⟨B4, 0, none⟩) := by simpa using h4
  have h2 : tmps[5]?.getD undef = .pointer (some ⟨B5, 0, none⟩) := by simpa using h5
  have c5 : w.cell? ⟨B5, 0, none⟩ = some (.int .i64 r) := (blk_cell k5 0).trans rfl
  have hr : Tryd.f33.results = #[.cell 4 25, .cell 5 33] := rfl
  have hl : (loadVar 33 ⟨B5, 0, none⟩).run Tryd.prog w = .ok (.int .i64 r) w := by
    go_simp
  simp [results, hr, h1, h2, asAddr, run_loadVar_row w B4 25 25 _ (0, 0) _ k4 Tryd.underlying25 rfl (by kernel_rfl), hl]
/-- What a closure has turned: new blocks, the two rows, and what lay ahead of done's own call. -/
structure Turned (w0 w W w' : World) (v0 v1 : Value) : Prop where
  below : Below w0.heap.size w0 w'
  size : W.heap.size ≤ w'.heap.size
  keep : ∀ k, w.heap.size ≤ k → k < W.heap.size → some k ≠ v0.ownBlock → some k ≠ v1.ownBlock → w'.heap[k]? = W.heap[k]?
set_option maxRecDepth 100000 in
set_option maxHeartbeats 8000000 in
theorem done_ok (kf : Nat) (w0 w : World) (A0 A1 : Option Addr) (c0 c1 : Nat) (l0 : List Int) (l1 : List S52) (HB : Below w0.heap.size w0 w) (HL : Ld w0) (hr0 : Kd.C (Kd.int .u64) w A0 l0.length l0) (hc0 : l0.length ≤ c0) (hr1 : Kd.C k52 w A1 l1.length l1) (hc1 : l1.length ≤ c1)
    (hR : table_Right.f kf l0 l1 = some true) (hm0 : l0.length ≤ 64) (hm1 : l1.length ≤ 64) (q : Nat) (hq : ∀ (args : Array Value) (W : World), (callFunc q args).run Tryd.prog W = .ok (.enter q args) W) (caps : Array Value) (r1 : List Int) (r2 : List S52) (X : World → Prop)
    (hX : ∀ W W' : World, (∀ k, k < w.heap.size → W'.heap[k]? = W.heap[k]?) → X W → X W')
    (hdo : ∀ (P : Nat) (v0 v1 : Value) (W : World), Below w.heap.size w W → w.heap.size ≤ P → W.heap[P]? = some (.cells #[v0, v1] 73 (0, 0)) → Kd.R (Kd.int .u64) 28 W w.heap.size (fun _ => True) v0 l0 → Kd.R k52 52 W w.heap.size (fun _ => True) v1 l1 →
      Calls Tryd.prog q (#[.pointer (some ⟨P, 0, none⟩)] ++ caps) W fun e w' => e = .returned (.tuple #[]) ∧ Kd.R (Kd.int .u64) 28 w' w.heap.size (fun _ => True) v0 r1 ∧ Kd.R k52 52 w' w.heap.size (fun _ => True) v1 r2 ∧ Turned w0 w W w' v0 v1 ∧ X w') :
    Calls Tryd.prog 33 #[.agg #[.slice A0 l0.length c0, .slice A1 l1.length c1], .func (.func q) #[] caps] w fun e w' => ∃ v0_ v1_ : Value, e = .returned (.tuple #[.agg #[v0_, v1_], .int .i64 0]) ∧ Kd.R (Kd.int .u64) 28 w' w0.heap.size (fun _ => True) v0_ r1 ∧ Kd.R k52 52 w' w0.heap.size (fun _ => True) v1_ r2 ∧ Below w0.heap.size w0 w' ∧ X w' := by
  have hmf : ∀ (fn : Fn) (first cap : Array Value) (w : World), (Instr.makeFunc fn first cap).run Tryd.prog w = .ok (.func fn first cap) w := fun _ _ _ _ => rfl
  have hu25 := Tryd.underlying25
  have HBB := Aside0.mk HB
  have HLL := Aside0.mk HL
  have HC0 := Aside0.mk hr0
  have HC1 := Aside0.mk hr1
  have HRR := Aside0.mk hR
  have HX := Aside0.mk hX
  have HDO := Aside0.mk hdo
  clear HB HL hr0 hr1 hR hX hdo
  go_enter_defers Tryd.func33, Tryd.ntmps33
  go_wp2_with (first | (go_at_call 21; refine (table_Right.calls kf A0 c0 l0 A1 c1 l1 true _ (Kd.C_below HC0.out (by repeat (first | exact Below.refl _ _ | apply below_alloc))) hc0 (Kd.C_below HC1.out (by repeat (first | exact Below.refl _ _ | apply below_alloc))) hc1 ((HLL.out.below HBB.out).below (by repeat (first | exact Below.refl _ _ | apply below_alloc))) HRR.out).mono ?_; rintro e w1 ⟨rfl, hb⟩; have hb1 := below_step (below_alloc (below_alloc (below_alloc (Below.refl w.heap.size w) _) _) _) hb; have HB1 := Aside0.mk hb1; have hk1 := blk_below (blk_alloc (blk_alloc (blk_new w _) _) _) hb; have hk4 := blk_below (blk_alloc (blk_new (w.alloc _) _) _) hb; have hk5 := blk_below (blk_new ((w.alloc _).alloc _) _) hb; simp only [World.size_alloc] at hk4 hk5; have hz1 := blk_cell hk1 0; have hz2 := blk_cell hk1 1; simp at hz1 hz2; have K1 := Aside0.mk hk1; have K4 := Aside0.mk hk4; have K5 := Aside0.mk hk5; clear hb hb1 hk1 hk4 hk5) | (go_at_call 51; refine (table_copied.calls A0 c0 l0 A1 c1 l1 _ (Kd.C_below HC0.out HB1.out) hc0 (Kd.C_below HC1.out HB1.out) hc1 ((HLL.out.below HBB.out).below HB1.out) hm0 hm1).mono ?_; rintro e w2 ⟨v0, v1, rfl, h0, h1, hb⟩; obtain ⟨Ao0, co0, rfl⟩ := Kd.R_slice h0; obtain ⟨Ao1, co1, rfl⟩ := Kd.R_slice h1; have HB2 := Aside0.mk (below_step HB1.out hb); have K4b := Aside0.mk (blk_below K4.out hb); have K5b := Aside0.mk (blk_below K5.out hb); have R0 := Aside0.mk (Kd.R_bound h0); have R1 := Aside0.mk (Kd.R_bound h1); clear hb h0 h1) | (refine (HDO.out w2.heap.size _ _ _ (below_alloc HB2.out _) HB2.out.size (blk_new w2 _) (Kd.R_mono (Kd.R_alloc (Kd.R_lower R0.out HB1.out.size) _) (fun _ _ => trivial)) (Kd.R_mono (Kd.R_alloc (Kd.R_lower R1.out HB1.out.size) _) (fun _ _ => trivial))).mono ?_; rintro e w3 ⟨rfl, g0, g1, ht, hx⟩; have G0 := Aside0.mk g0; have G1 := Aside0.mk g1; have GT := Aside0.mk ht; have GX := Aside0.mk hx; have hk4 := ht.keep _ (by omega) (by have := blk_lt K4b.out; simp only [World.size_alloc]; omega) (R_ne_n R0.out (blk_lt K4.out)) (R_ne_n R1.out (blk_lt K4.out)); have hk5 := ht.keep _ (by omega) (by have := blk_lt K5b.out; simp only [World.size_alloc]; omega) (R_ne_n R0.out (blk_lt K5.out)) (R_ne_n R1.out (blk_lt K5.out)); have hkP := ht.keep _ HB2.out.size (by simp only [World.size_alloc]; omega) (R_ne_new0 R0.out) (R_ne_new0 R1.out); have L4 := Aside0.mk (hk4.trans (blk_alloc K4b.out _)); have L5 := Aside0.mk (hk5.trans (blk_alloc K5b.out _)); have LP := Aside0.mk (hkP.trans (blk_new w2 _)); clear g0 g1 ht hx hk4 hk5 hkP))
  have hlt : w.heap.size + 1 + 1 < w2.heap.size := blk_lt K5b.out
  have q1 : w2.heap.size ≠ w.heap.size + 1 := by omega
  have q2 : w2.heap.size ≠ w.heap.size + 1 + 1 := by omega
  have q3 : w.heap.size + 1 ≠ w2.heap.size := by omega
  have q4 : w.heap.size + 1 + 1 ≠ w2.heap.size := by omega
  have z0 : w3.cell? ⟨w2.heap.size, 0, none⟩ = some (.slice Ao0 l0.length co0) := (blk_cell LP.out 0).trans rfl
  have z1 : w3.cell? ⟨w2.heap.size, 1, none⟩ = some (.slice Ao1 l1.length co1) := (blk_cell LP.out 1).trans rfl
  have z2 : w3.cell? ⟨w.heap.size + 1, 0, none⟩ = some (.slice none 0 0) := (blk_cell L4.out 0).trans rfl
  have z3 : w3.cell? ⟨w.heap.size + 1, 1, none⟩ = some (.slice none 0 0) := (blk_cell L4.out 1).trans rfl
  have z4 : w3.cell? ⟨w.heap.size + 1 + 1, 0, none⟩ = some (.int .i64 0) := (blk_cell L5.out 0).trans rfl
  have f2 := blk_frozen L4.out 0
  have f3 := blk_frozen L4.out 1
  have f4 := blk_frozen L5.out 0
  go_region
  go_wp2
  refine leaves_cons (f := 50) (args := #[.pointer (some ⟨w.heap.size + 1, 0, none⟩), .pointer (some ⟨w.heap.size + 1 + 1, 0, none⟩)]) (by simp) (by simp [go_sem]) ?_
  refine (catch_idle ⟨w.heap.size + 1, 0, none⟩ ⟨w.heap.size + 1 + 1, 0, none⟩ _).mono ?_
  rintro e u' w'' ⟨rfl, rfl, rfl⟩
  have M4 := blk_far (p := ⟨w.heap.size + 1 + 1, 0, none⟩) (blk_put (blk_put L4.out 0 (Value.slice Ao0 l0.length co0) rfl) 1 (Value.slice Ao1 l1.length co1) rfl) (by simp) (.int .i64 0)
  have M5 := blk_put (blk_far (p := ⟨w.heap.size + 1, 1, none⟩) (blk_far (p := ⟨w.heap.size + 1, 0, none⟩) L5.out (by simp) (Value.slice Ao0 l0.length co0)) (by simp) (Value.slice Ao1 l1.length co1)) 0 (.int .i64 0) rfl
  refine ⟨_, res33 _ _ _ _ _ _ _ rfl rfl (blk_drew M4) (blk_drew M5), _, _, rfl, ?_, ?_, ?_, ?_⟩
  · exact Kd.R_lower (Kd.R_drew (Kd.R_set (Kd.R_set (Kd.R_set G0.out L4.out (by decide) 0 _) (blk_put L4.out 0 _ rfl) (by decide) 1 _) (blk_far (p := ⟨w.heap.size + 1, 1, none⟩) (blk_far (p := ⟨w.heap.size + 1, 0, none⟩) L5.out (by simp) _) (by simp) _) (by decide) 0 _)) HBB.out.size
  · exact Kd.R_lower (Kd.R_drew (Kd.R_set (Kd.R_set (Kd.R_set G1.out L4.out (by decide) 0 _) (blk_put L4.out 0 _ rfl) (by decide) 1 _) (blk_far (p := ⟨w.heap.size + 1, 1, none⟩) (blk_far (p := ⟨w.heap.size + 1, 0, none⟩) L5.out (by simp) _) (by simp) _) (by decide) 0 _)) HBB.out.size
  · have := HBB.out.size
    exact below_drew (below_set (below_set (below_set GT.out.below (by omega)) (by omega)) (by omega))
  · refine HX.out _ _ (fun k hk => ?_) GX.out
    show (((w3.setCell ⟨w.heap.size + 1, 0, none⟩ _).setCell ⟨w.heap.size + 1, 1, none⟩ _).setCell ⟨w.heap.size + 1 + 1, 0, none⟩ _).heap[k]? = _
    rw [Below.heap_setCell _ _ _ _ (by simp; omega), Below.heap_setCell _ _ _ _ (by simp; omega), Below.heap_setCell _ _ _ _ (by simp; omega)]
set_option maxRecDepth 100000 in
set_option maxHeartbeats 8000000 in
theorem done_er (kf : Nat) (w0 w : World) (A0 A1 : Option Addr) (c0 c1 : Nat) (l0 : List Int) (l1 : List S52) (HB : Below w0.heap.size w0 w) (HL : Ld w0) (hr0 : Kd.C (Kd.int .u64) w A0 l0.length l0) (hc0 : l0.length ≤ c0) (hr1 : Kd.C k52 w A1 l1.length l1) (hc1 : l1.length ≤ c1)
    (hR : table_Right.f kf l0 l1 = some true) (hm0 : l0.length ≤ 64) (hm1 : l1.length ≤ 64) (q : Nat) (hq : ∀ (args : Array Value) (W : World), (callFunc q args).run Tryd.prog W = .ok (.enter q args) W) (caps : Array Value) (er : Int) (X : World → Prop)
    (hX : ∀ W W' : World, (∀ k, k < w.heap.size → W'.heap[k]? = W.heap[k]?) → X W → X W')
    (hdo : ∀ (P : Nat) (v0 v1 : Value) (W : World), Below w.heap.size w W → w.heap.size ≤ P → W.heap[P]? = some (.cells #[v0, v1] 73 (0, 0)) → Kd.R (Kd.int .u64) 28 W w.heap.size (fun _ => True) v0 l0 → Kd.R k52 52 W w.heap.size (fun _ => True) v1 l1 →
      Calls Tryd.prog q (#[.pointer (some ⟨P, 0, none⟩)] ++ caps) W fun e w' => e = .panicked [faultE er] ∧ Turned w0 w W w' v0 v1 ∧ X w') :
    Calls Tryd.prog 33 #[.agg #[.slice A0 l0.length c0, .slice A1 l1.length c1], .func (.func q) #[] caps] w fun e w' => e = .returned (.tuple #[.agg #[.slice none 0 0, .slice none 0 0], .int .i64 er]) ∧ Below w0.heap.size w0 w' ∧ X w' := by
  have hmf : ∀ (fn : Fn) (first cap : Array Value) (w : World), (Instr.makeFunc fn first cap).run Tryd.prog w = .ok (.func fn first cap) w := fun _ _ _ _ => rfl
  have hu25 := Tryd.underlying25
  have HBB := Aside0.mk HB
  have HLL := Aside0.mk HL
  have HC0 := Aside0.mk hr0
  have HC1 := Aside0.mk hr1
  have HRR := Aside0.mk hR
  have HX := Aside0.mk hX
  have HDO := Aside0.mk hdo
  clear HB HL hr0 hr1 hR hX hdo
  go_enter_defers Tryd.func33, Tryd.ntmps33
  go_wp2_with (first | (go_at_call 21; refine (table_Right.calls kf A0 c0 l0 A1 c1 l1 true _ (Kd.C_below HC0.out (by repeat (first | exact Below.refl _ _ | apply below_alloc))) hc0 (Kd.C_below HC1.out (by repeat (first | exact Below.refl _ _ | apply below_alloc))) hc1 ((HLL.out.below HBB.out).below (by repeat (first | exact Below.refl _ _ | apply below_alloc))) HRR.out).mono ?_; rintro e w1 ⟨rfl, hb⟩; have hb1 := below_step (below_alloc (below_alloc (below_alloc (Below.refl w.heap.size w) _) _) _) hb; have HB1 := Aside0.mk hb1; have hk1 := blk_below (blk_alloc (blk_alloc (blk_new w _) _) _) hb; have hk4 := blk_below (blk_alloc (blk_new (w.alloc _) _) _) hb; have hk5 := blk_below (blk_new ((w.alloc _).alloc _) _) hb; simp only [World.size_alloc] at hk4 hk5; have hz1 := blk_cell hk1 0; have hz2 := blk_cell hk1 1; simp at hz1 hz2; have K1 := Aside0.mk hk1; have K4 := Aside0.mk hk4; have K5 := Aside0.mk hk5; clear hb hb1 hk1 hk4 hk5) | (go_at_call 51; refine (table_copied.calls A0 c0 l0 A1 c1 l1 _ (Kd.C_below HC0.out HB1.out) hc0 (Kd.C_below HC1.out HB1.out) hc1 ((HLL.out.below HBB.out).below HB1.out) hm0 hm1).mono ?_; rintro e w2 ⟨v0, v1, rfl, h0, h1, hb⟩; obtain ⟨Ao0, co0, rfl⟩ := Kd.R_slice h0; obtain ⟨Ao1, co1, rfl⟩ := Kd.R_slice h1; have HB2 := Aside0.mk (below_step HB1.out hb); have K4b := Aside0.mk (blk_below K4.out hb); have K5b := Aside0.mk (blk_below K5.out hb); have R0 := Aside0.mk (Kd.R_bound h0); have R1 := Aside0.mk (Kd.R_bound h1); clear hb h0 h1) | (refine (HDO.out w2.heap.size _ _ _ (below_alloc HB2.out _) HB2.out.size (blk_new w2 _) (Kd.R_mono (Kd.R_alloc (Kd.R_lower R0.out HB1.out.size) _) (fun _ _ => trivial)) (Kd.R_mono (Kd.R_alloc (Kd.R_lower R1.out HB1.out.size) _) (fun _ _ => trivial))).mono ?_; rintro e w3 ⟨rfl, ht, hx⟩; have GT := Aside0.mk ht; have GX := Aside0.mk hx; have hk4 := ht.keep _ (by omega) (by have := blk_lt K4b.out; simp only [World.size_alloc]; omega) (R_ne_n R0.out (blk_lt K4.out)) (R_ne_n R1.out (blk_lt K4.out)); have hk5 := ht.keep _ (by omega) (by have := blk_lt K5b.out; simp only [World.size_alloc]; omega) (R_ne_n R0.out (blk_lt K5.out)) (R_ne_n R1.out (blk_lt K5.out)); have hkP := ht.keep _ HB2.out.size (by simp only [World.size_alloc]; omega) (R_ne_new0 R0.out) (R_ne_new0 R1.out); have L4 := Aside0.mk (hk4.trans (blk_alloc K4b.out _)); have L5 := Aside0.mk (hk5.trans (blk_alloc K5b.out _)); have LP := Aside0.mk (hkP.trans (blk_new w2 _)); clear ht hx hk4 hk5 hkP))
  refine leaves_cons (f := 50) (args := #[.pointer (some ⟨w.heap.size + 1, 0, none⟩), .pointer (some ⟨w.heap.size + 1 + 1, 0, none⟩)]) (by simp) (by simp [go_sem]) ?_
  refine (catch_panicking (w.heap.size + 1) (w.heap.size + 1 + 1) er 0 _ _ _ L4.out L5.out).mono ?_
  rintro e u' w'' ⟨rfl, rfl, rfl⟩
  have M4 := blk_far (p := ⟨w.heap.size + 1 + 1, 0, none⟩) (blk_put (blk_put L4.out 0 (Value.slice none 0 0) rfl) 1 (Value.slice none 0 0) rfl) (by simp) (.int .i64 er)
  have M5 := blk_put (blk_far (p := ⟨w.heap.size + 1, 1, none⟩) (blk_far (p := ⟨w.heap.size + 1, 0, none⟩) L5.out (by simp) (Value.slice none 0 0)) (by simp) (Value.slice none 0 0)) 0 (.int .i64 er) rfl
  refine ⟨_, res33 _ _ _ _ _ _ _ rfl rfl (blk_drew M4) (blk_drew M5), rfl, ?_, ?_⟩
  · have := HBB.out.size
    exact below_drew (below_set (below_set (below_set GT.out.below (by omega)) (by omega)) (by omega))
  · refine HX.out _ _ (fun k hk => ?_) GX.out
    show (((w3.setCell ⟨w.heap.size + 1, 0, none⟩ _).setCell ⟨w.heap.size + 1, 1, none⟩ _).setCell ⟨w.heap.size + 1 + 1, 0, none⟩ _).heap[k]? = _
    rw [Below.heap_setCell _ _ _ _ (by simp; omega), Below.heap_setCell _ _ _ _ (by simp; omega), Below.heap_setCell _ _ _ _ (by simp; omega)]
set_option maxRecDepth 100000 in
set_option maxHeartbeats 8000000 in
theorem done_no (kf : Nat) (w0 w : World) (A0 A1 : Option Addr) (c0 c1 : Nat) (l0 : List Int) (l1 : List S52) (HB : Below w0.heap.size w0 w) (HL : Ld w0) (hr0 : Kd.C (Kd.int .u64) w A0 l0.length l0) (hc0 : l0.length ≤ c0) (hr1 : Kd.C k52 w A1 l1.length l1) (hc1 : l1.length ≤ c1)
    (hR : table_Right.f kf l0 l1 = some false) (q : Nat) (caps : Array Value) :
    Calls Tryd.prog 33 #[.agg #[.slice A0 l0.length c0, .slice A1 l1.length c1], .func (.func q) #[] caps] w fun e w' => e = .returned (.tuple #[.agg #[.slice none 0 0, .slice none 0 0], .int .i64 4]) ∧ Below w0.heap.size w0 w' ∧ Below w.heap.size w w' := by
  have hmf : ∀ (fn : Fn) (first cap : Array Value) (w : World), (Instr.makeFunc fn first cap).run Tryd.prog w = .ok (.func fn first cap) w := fun _ _ _ _ => rfl
  have hu25 := Tryd.underlying25
  have HBB := Aside0.mk HB
  have HLL := Aside0.mk HL
  have HC0 := Aside0.mk hr0
  have HC1 := Aside0.mk hr1
  have HRR := Aside0.mk hR
  clear HB HL hr0 hr1 hR
  go_enter_defers Tryd.func33, Tryd.ntmps33
  go_wp2_with (first | (go_at_call 21; refine (table_Right.calls kf A0 c0 l0 A1 c1 l1 false _ (Kd.C_below HC0.out (by repeat (first | exact Below.refl _ _ | apply below_alloc))) hc0 (Kd.C_below HC1.out (by repeat (first | exact Below.refl _ _ | apply below_alloc))) hc1 ((HLL.out.below HBB.out).below (by repeat (first | exact Below.refl _ _ | apply below_alloc))) HRR.out).mono ?_; rintro e w1 ⟨rfl, hb⟩; have hb1 := below_step (below_alloc (below_alloc (below_alloc (Below.refl w.heap.size w) _) _) _) hb; have HB1 := Aside0.mk hb1; have hk1 := blk_below (blk_alloc (blk_alloc (blk_new w _) _) _) hb; have hk4 := blk_below (blk_alloc (blk_new (w.alloc _) _) _) hb; have hk5 := blk_below (blk_new ((w.alloc _).alloc _) _) hb; simp only [World.size_alloc] at hk4 hk5; have hz1 := blk_cell hk1 0; have hz2 := blk_cell hk1 1; simp at hz1 hz2; have K1 := Aside0.mk hk1; have K4 := Aside0.mk hk4; have K5 := Aside0.mk hk5; clear hb hb1 hk1 hk4 hk5) | (go_at_call 37; refine (must_er 4 (by decide) _).mono ?_; rintro e w2 ⟨rfl, rfl⟩))
  refine leaves_cons (f := 50) (args := #[.pointer (some ⟨w.heap.size + 1, 0, none⟩), .pointer (some ⟨w.heap.size + 1 + 1, 0, none⟩)]) (by simp) (by simp [go_sem]) ?_
  refine (catch_panicking (w.heap.size + 1) (w.heap.size + 1 + 1) 4 0 _ _ _ K4.out K5.out).mono ?_
  rintro e u' w'' ⟨rfl, rfl, rfl⟩
  have M4 := blk_far (p := ⟨w.heap.size + 1 + 1, 0, none⟩) (blk_put (blk_put K4.out 0 (Value.slice none 0 0) rfl) 1 (Value.slice none 0 0) rfl) (by simp) (.int .i64 4)
  have M5 := blk_put (blk_far (p := ⟨w.heap.size + 1, 1, none⟩) (blk_far (p := ⟨w.heap.size + 1, 0, none⟩) K5.out (by simp) (Value.slice none 0 0)) (by simp) (Value.slice none 0 0)) 0 (.int .i64 4) rfl
  refine ⟨_, res33 _ _ _ _ _ _ _ rfl rfl (blk_drew M4) (blk_drew M5), rfl, ?_, below_drew (below_set (below_set (below_set HB1.out (by omega)) (by omega)) (by omega))⟩
  have := HBB.out.size
  exact below_drew (below_set (below_set (below_set (HBB.out.trans (Below.lower HB1.out HBB.out.size)) (by omega)) (by omega)) (by omega))
end Go.Proofs.YtdchbcpfciljoaaDoor.Given
/- Package table: Step. -/
namespace Go.Proofs.YtdchbcpfciljoaaDoor.Given
open Go.RowKit Go.Proofs.YtdchbcpfciljoaaDoor Go.Proofs.YtdchbcpfciljoaaDoor.Print Go.Proofs.YtdchbcpfciljoaaDoorW.PrintWords
set_option linter.unusedVariables false
set_option linter.unusedSimpArgs false
theorem right_len {k : Nat} {l0 : List Int} {l1 : List S52} (h : table_Right.f k l0 l1 = some true) : l0.length ≤ 64 ∧ l1.length = l0.length := by
  unfold table_Right.f at h
  by_cases h1 : (l0.length : Int) > 64
  · rw [if_pos h1] at h
    cases k with
    | zero => simp [table_Right.j0] at h
    | succ k => simp [table_Right.j0] at h
  · rw [if_neg h1] at h
    cases k with
    | zero => simp [table_Right.j0] at h
    | succ k =>
      by_cases h2 : (l0.length : Int) = (l1.length : Int)
      · omega
      · rw [bne_iff_ne.mpr h2] at h
        simp [table_Right.j0] at h
set_option maxRecDepth 100000 in
set_option maxHeartbeats 8000000 in
theorem step1_ok (w W : World) (P bs be bc : Nat) (slot ev cpu : Int) (v0 v1 : Value) (l0 : List Int) (HL : Ld w) (HB : Below w.heap.size w W) (hP : W.heap[P]? = some (.cells #[v0, v1] 73 (0, 0)))
    (h0 : Kd.R (Kd.int .u64) 28 W w.heap.size (fun _ => True) v0 l0) (hs : W.cell? ⟨bs, 0, none⟩ = some (.int .i64 slot)) (he : W.cell? ⟨be, 0, none⟩ = some (.int .i64 ev)) (hc : W.cell? ⟨bc, 0, none⟩ = some (.int .i64 cpu))
    (hi0 : 0 ≤ slot) (hi1 : slot < l0.length) (he0 : ev ≠ 0) (he1 : ev ≠ 1) (x : Int) (hn : life_Next.f (rdOf 0 l0 slot) ev cpu = some (x, 0)) :
    Calls Tryd.prog 42 #[.pointer (some ⟨P, 0, none⟩), .pointer (some ⟨bs, 0, none⟩), .pointer (some ⟨be, 0, none⟩), .pointer (some ⟨bc, 0, none⟩)] W fun e w' =>
      e = .returned (.tuple #[]) ∧ Below w.heap.size w w' ∧ Kd.R (Kd.int .u64) 28 w' w.heap.size (fun _ => True) v0 (l0.set slot.toNat x) ∧ W.grownBy w' v0.ownBlock := by
  obtain ⟨A0, a0, rfl⟩ := Kd.R_slice h0
  have z0 : W.cell? ⟨P, 0, none⟩ = some (.slice A0 l0.length a0) := (blk_cell hP 0).trans rfl
  have d1 : decide (slot < 0) = false := decide_eq_false (by omega)
  have d2 : decide ((l0.length : Int) ≤ slot) = false := decide_eq_false (by omega)
  have d3 : (ev == 0) = false := beq_eq_false_iff_ne.mpr he0
  have d4 : (ev == 1) = false := beq_eq_false_iff_ne.mpr he1
  have HBB := Aside0.mk HB
  have HLL := Aside0.mk HL
  have HPP := Aside0.mk hP
  have H0 := Aside0.mk h0
  have HN := Aside0.mk hn
  clear HB HL hP h0 hn
  go_enter Tryd.func42, Tryd.ntmps42
  go_wp2
  go_region
  go_wp2_with (first | (go_at_call 39; refine (goes_ok w W.drew P slot ev cpu _ v1 l0 (fun _ => True) (below_drew HBB.out) HLL.out (blk_drew HPP.out) (Kd.R_drew H0.out) hi0 hi1 x HN.out).mono ?_; rintro e w2 ⟨rfl, k1, k2, k3⟩; have K1 := Aside0.mk k1; have K2 := Aside0.mk k2; have K3 := Aside0.mk k3; clear k1 k2 k3))
  go_end0
  exact ⟨rfl, K1.out, K2.out, World.grownBy.trans_ (grown_of_below (below_drew (Below.refl _ _))) K3.out⟩
set_option maxRecDepth 100000 in
set_option maxHeartbeats 8000000 in
theorem step1_er (w W : World) (P bs be bc : Nat) (slot ev cpu : Int) (v0 v1 : Value) (l0 : List Int) (HL : Ld w) (HB : Below w.heap.size w W) (hP : W.heap[P]? = some (.cells #[v0, v1] 73 (0, 0)))
    (h0 : Kd.R (Kd.int .u64) 28 W w.heap.size (fun _ => True) v0 l0) (hs : W.cell? ⟨bs, 0, none⟩ = some (.int .i64 slot)) (he : W.cell? ⟨be, 0, none⟩ = some (.int .i64 ev)) (hc : W.cell? ⟨bc, 0, none⟩ = some (.int .i64 cpu))
    (hi0 : 0 ≤ slot) (hi1 : slot < l0.length) (he0 : ev ≠ 0) (he1 : ev ≠ 1) (x er : Int) (her : er ≠ 0) (hn : life_Next.f (rdOf 0 l0 slot) ev cpu = some (x, er)) :
    Calls Tryd.prog 42 #[.pointer (some ⟨P, 0, none⟩), .pointer (some ⟨bs, 0, none⟩), .pointer (some ⟨be, 0, none⟩), .pointer (some ⟨bc, 0, none⟩)] W fun e w' =>
      e = .panicked [faultE er] ∧ Below W.heap.size W w' := by
  obtain ⟨A0, a0, rfl⟩ := Kd.R_slice h0
  have z0 : W.cell? ⟨P, 0, none⟩ = some (.slice A0 l0.length a0) := (blk_cell hP 0).trans rfl
  have d1 : decide (slot < 0) = false := decide_eq_false (by omega)
  have d2 : decide ((l0.length : Int) ≤ slot) = false := decide_eq_false (by omega)
  have d3 : (ev == 0) = false := beq_eq_false_iff_ne.mpr he0
  have d4 : (ev == 1) = false := beq_eq_false_iff_ne.mpr he1
  have HBB := Aside0.mk HB
  have HLL := Aside0.mk HL
  have HPP := Aside0.mk hP
  have H0 := Aside0.mk h0
  have HN := Aside0.mk hn
  clear HB HL hP h0 hn
  go_enter Tryd.func42, Tryd.ntmps42
  go_wp2
  go_region
  go_wp2_with (first | (go_at_call 39; refine (goes_er w W.drew P slot ev cpu _ v1 l0 (fun _ => True) (below_drew HBB.out) HLL.out (blk_drew HPP.out) (Kd.R_drew H0.out) hi0 hi1 x er her HN.out).mono ?_; rintro e w2 ⟨rfl, k1⟩; have K1 := Aside0.mk k1; clear k1))
  exact ⟨rfl, rfl, below_step (below_drew (Below.refl _ _)) K1.out⟩
set_option maxRecDepth 100000 in
set_option maxHeartbeats 8000000 in
theorem step1_n1 (w W : World) (P bs be bc : Nat) (slot ev cpu : Int) (v0 v1 : Value) (l0 : List Int) (HL : Ld w) (HB : Below w.heap.size w W) (hP : W.heap[P]? = some (.cells #[v0, v1] 73 (0, 0)))
    (h0 : Kd.R (Kd.int .u64) 28 W w.heap.size (fun _ => True) v0 l0) (hs : W.cell? ⟨bs, 0, none⟩ = some (.int .i64 slot)) (he : W.cell? ⟨be, 0, none⟩ = some (.int .i64 ev)) (hc : W.cell? ⟨bc, 0, none⟩ = some (.int .i64 cpu))
    (hi0 : slot < 0) :
    Calls Tryd.prog 42 #[.pointer (some ⟨P, 0, none⟩), .pointer (some ⟨bs, 0, none⟩), .pointer (some ⟨be, 0, none⟩), .pointer (some ⟨bc, 0, none⟩)] W fun e w' =>
      e = .panicked [faultE 1] ∧ Below W.heap.size W w' := by
  obtain ⟨A0, a0, rfl⟩ := Kd.R_slice h0
  have z0 : W.cell? ⟨P, 0, none⟩ = some (.slice A0 l0.length a0) := (blk_cell hP 0).trans rfl
  have d1 : decide (slot < 0) = true := decide_eq_true hi0
  have HBB := Aside0.mk HB
  have HLL := Aside0.mk HL
  have HPP := Aside0.mk hP
  have H0 := Aside0.mk h0
  clear HB HL hP h0
  go_enter Tryd.func42, Tryd.ntmps42
  go_wp2
  go_region
  go_wp2_with (first | (go_at_call 37; refine (must_er 1 (by decide) _).mono ?_; rintro e w2 ⟨rfl, rfl⟩))
  exact ⟨rfl, rfl, below_drew (Below.refl _ _)⟩
set_option maxRecDepth 100000 in
set_option maxHeartbeats 8000000 in
theorem step1_n2 (w W : World) (P bs be bc : Nat) (slot ev cpu : Int) (v0 v1 : Value) (l0 : List Int) (HL : Ld w) (HB : Below w.heap.size w W) (hP : W.heap[P]? = some (.cells #[v0, v1] 73 (0, 0)))
    (h0 : Kd.R (Kd.int .u64) 28 W w.heap.size (fun _ => True) v0 l0) (hs : W.cell? ⟨bs, 0, none⟩ = some (.int .i64 slot)) (he : W.cell? ⟨be, 0, none⟩ = some (.int .i64 ev)) (hc : W.cell? ⟨bc, 0, none⟩ = some (.int .i64 cpu))
    (hi0 : 0 ≤ slot) (hi1 : l0.length ≤ slot) :
    Calls Tryd.prog 42 #[.pointer (some ⟨P, 0, none⟩), .pointer (some ⟨bs, 0, none⟩), .pointer (some ⟨be, 0, none⟩), .pointer (some ⟨bc, 0, none⟩)] W fun e w' =>
      e = .panicked [faultE 1] ∧ Below W.heap.size W w' := by
  obtain ⟨A0, a0, rfl⟩ := Kd.R_slice h0
  have z0 : W.cell? ⟨P, 0, none⟩ = some (.slice A0 l0.length a0) := (blk_cell hP 0).trans rfl
  have d1 : decide (slot < 0) = false := decide_eq_false (by omega)
  have d2 : decide ((l0.length : Int) ≤ slot) = true := decide_eq_true (by omega)
  have HBB := Aside0.mk HB
  have HLL := Aside0.mk HL
  have HPP := Aside0.mk hP
  have H0 := Aside0.mk h0
  clear HB HL hP h0
  go_enter Tryd.func42, Tryd.ntmps42
  go_wp2
  go_region
  go_wp2_with (first | (go_at_call 37; refine (must_er 1 (by decide) _).mono ?_; rintro e w2 ⟨rfl, rfl⟩))
  exact ⟨rfl, rfl, below_drew (Below.refl _ _)⟩
set_option maxRecDepth 100000 in
set_option maxHeartbeats 8000000 in
theorem step1_n3 (w W : World) (P bs be bc : Nat) (slot ev cpu : Int) (v0 v1 : Value) (l0 : List Int) (HL : Ld w) (HB : Below w.heap.size w W) (hP : W.heap[P]? = some (.cells #[v0, v1] 73 (0, 0)))
    (h0 : Kd.R (Kd.int .u64) 28 W w.heap.size (fun _ => True) v0 l0) (hs : W.cell? ⟨bs, 0, none⟩ = some (.int .i64 slot)) (he : W.cell? ⟨be, 0, none⟩ = some (.int .i64 ev)) (hc : W.cell? ⟨bc, 0, none⟩ = some (.int .i64 cpu))
    (hi0 : 0 ≤ slot) (hi1 : slot < l0.length) (he0 : ev = 0) :
    Calls Tryd.prog 42 #[.pointer (some ⟨P, 0, none⟩), .pointer (some ⟨bs, 0, none⟩), .pointer (some ⟨be, 0, none⟩), .pointer (some ⟨bc, 0, none⟩)] W fun e w' =>
      e = .panicked [faultE 1] ∧ Below W.heap.size W w' := by
  obtain ⟨A0, a0, rfl⟩ := Kd.R_slice h0
  have z0 : W.cell? ⟨P, 0, none⟩ = some (.slice A0 l0.length a0) := (blk_cell hP 0).trans rfl
  have d1 : decide (slot < 0) = false := decide_eq_false (by omega)
  have d2 : decide ((l0.length : Int) ≤ slot) = false := decide_eq_false (by omega)
  have d3 : (ev == 0) = true := beq_iff_eq.mpr he0
  have HBB := Aside0.mk HB
  have HLL := Aside0.mk HL
  have HPP := Aside0.mk hP
  have H0 := Aside0.mk h0
  clear HB HL hP h0
  go_enter Tryd.func42, Tryd.ntmps42
  go_wp2
  go_region
  go_wp2_with (first | (go_at_call 37; refine (must_er 1 (by decide) _).mono ?_; rintro e w2 ⟨rfl, rfl⟩))
  exact ⟨rfl, rfl, below_drew (Below.refl _ _)⟩
set_option maxRecDepth 100000 in
set_option maxHeartbeats 8000000 in
theorem step1_n4 (w W : World) (P bs be bc : Nat) (slot ev cpu : Int) (v0 v1 : Value) (l0 : List Int) (HL : Ld w) (HB : Below w.heap.size w W) (hP : W.heap[P]? = some (.cells #[v0, v1] 73 (0, 0)))
    (h0 : Kd.R (Kd.int .u64) 28 W w.heap.size (fun _ => True) v0 l0) (hs : W.cell? ⟨bs, 0, none⟩ = some (.int .i64 slot)) (he : W.cell? ⟨be, 0, none⟩ = some (.int .i64 ev)) (hc : W.cell? ⟨bc, 0, none⟩ = some (.int .i64 cpu))
    (hi0 : 0 ≤ slot) (hi1 : slot < l0.length) (he1 : ev = 1) :
    Calls Tryd.prog 42 #[.pointer (some ⟨P, 0, none⟩), .pointer (some ⟨bs, 0, none⟩), .pointer (some ⟨be, 0, none⟩), .pointer (some ⟨bc, 0, none⟩)] W fun e w' =>
      e = .panicked [faultE 1] ∧ Below W.heap.size W w' := by
  obtain ⟨A0, a0, rfl⟩ := Kd.R_slice h0
  have z0 : W.cell? ⟨P, 0, none⟩ = some (.slice A0 l0.length a0) := (blk_cell hP 0).trans rfl
  have d1 : decide (slot < 0) = false := decide_eq_false (by omega)
  have d2 : decide ((l0.length : Int) ≤ slot) = false := decide_eq_false (by omega)
  have d3 : (ev == 0) = false := beq_eq_false_iff_ne.mpr (by omega)
  have d4 : (ev == 1) = true := beq_iff_eq.mpr he1
  have HBB := Aside0.mk HB
  have HLL := Aside0.mk HL
  have HPP := Aside0.mk hP
  have H0 := Aside0.mk h0
  clear HB HL hP h0
  go_enter Tryd.func42, Tryd.ntmps42
  go_wp2
  go_region
  go_wp2_with (first | (go_at_call 37; refine (must_er 1 (by decide) _).mono ?_; rintro e w2 ⟨rfl, rfl⟩))
  exact ⟨rfl, rfl, below_drew (Below.refl _ _)⟩
theorem turned_of_grown {w0 w W w' : World} {v0 v1 : Value} (h0 : Below w0.heap.size w0 w) (hb : Below w.heap.size w w') (hg : W.grownBy w' v0.ownBlock) : Turned w0 w W w' v0 v1 :=
  ⟨h0.trans (Below.lower hb h0.size), hg.size, fun k _ hk2 hk3 _ => hg.block k hk2 hk3⟩
theorem turned_of_below {w0 w W w' : World} {v0 v1 : Value} (h0 : Below w0.heap.size w0 w) (hw : Below w.heap.size w W) (hb : Below W.heap.size W w') : Turned w0 w W w' v0 v1 :=
  ⟨h0.trans (Below.lower (below_step hw hb) h0.size), hb.size, fun k _ hk2 _ _ => hb.block k hk2⟩
def table_Step.f (l0 : List Int) (l1 : List S52) (slot ev cpu : Int) : Option (List Int × List S52 × Int) :=
  (table_Right.f 100 l0 l1).bind fun t => if t = true then
    (if slot < 0 then some ([], [], 1) else if (l0.length : Int) ≤ slot then some ([], [], 1) else if ev = 0 then some ([], [], 1) else if ev = 1 then some ([], [], 1) else
      (life_Next.f (rdOf 0 l0 slot) ev cpu).bind fun x => if x.2 = 0 then some (l0.set slot.toNat x.1, l1, 0) else some ([], [], x.2))
    else some ([], [], 4)
set_option maxRecDepth 100000 in
set_option maxHeartbeats 4000000 in
theorem done_step (w0 w : World) (A0 A1 : Option Addr) (c0 c1 : Nat) (l0 : List Int) (l1 : List S52) (HB : Below w0.heap.size w0 w) (HL : Ld w0) (hr0 : Kd.C (Kd.int .u64) w A0 l0.length l0) (hc0 : l0.length ≤ c0) (hr1 : Kd.C k52 w A1 l1.length l1) (hc1 : l1.length ≤ c1)
    (bs be bc : Nat) (slot ev cpu : Int) (hs : w.cell? ⟨bs, 0, none⟩ = some (.int .i64 slot)) (he : w.cell? ⟨be, 0, none⟩ = some (.int .i64 ev)) (hc : w.cell? ⟨bc, 0, none⟩ = some (.int .i64 cpu))
    (r1 : List Int) (r2 : List S52) (r3 : Int) (h : table_Step.f l0 l1 slot ev cpu = some (r1, r2, r3)) :
    Calls Tryd.prog 33 #[.agg #[.slice A0 l0.length c0, .slice A1 l1.length c1], .func (.func 42) #[] #[.pointer (some ⟨bs, 0, none⟩), .pointer (some ⟨be, 0, none⟩), .pointer (some ⟨bc, 0, none⟩)]] w fun e w' =>
      ∃ v0_ v1_ : Value, e = .returned (.tuple #[.agg #[v0_, v1_], .int .i64 r3]) ∧ Kd.R (Kd.int .u64) 28 w' w0.heap.size (fun _ => True) v0_ r1 ∧ Kd.R k52 52 w' w0.heap.size (fun _ => True) v1_ r2 ∧ Below w0.heap.size w0 w' ∧ ∀ k, k < w.heap.size → w'.heap[k]? = w.heap[k]? := by
  have hq : ∀ (args : Array Value) (W : World), (callFunc 42 args).run Tryd.prog W = .ok (.enter 42 args) W := fun args W => by kernel_rfl
  have HLw := HL.below HB
  unfold table_Step.f at h
  obtain ⟨t, ht, h⟩ := Option.bind_eq_some_iff.1 h
  have erf : ∀ er : Int, er ≠ 0 → t = true → (([] : List Int), ([] : List S52), er) = (r1, r2, r3) →
      (∀ (P : Nat) (v0 v1 : Value) (W : World), Below w.heap.size w W → w.heap.size ≤ P → W.heap[P]? = some (.cells #[v0, v1] 73 (0, 0)) → Kd.R (Kd.int .u64) 28 W w.heap.size (fun _ => True) v0 l0 → Kd.R k52 52 W w.heap.size (fun _ => True) v1 l1 →
        Calls Tryd.prog 42 (#[.pointer (some ⟨P, 0, none⟩)] ++ #[.pointer (some ⟨bs, 0, none⟩), .pointer (some ⟨be, 0, none⟩), .pointer (some ⟨bc, 0, none⟩)]) W fun e w' => e = .panicked [faultE er] ∧ Below W.heap.size W w') →
      Calls Tryd.prog 33 #[.agg #[.slice A0 l0.length c0, .slice A1 l1.length c1], .func (.func 42) #[] #[.pointer (some ⟨bs, 0, none⟩), .pointer (some ⟨be, 0, none⟩), .pointer (some ⟨bc, 0, none⟩)]] w fun e w' =>
        ∃ v0_ v1_ : Value, e = .returned (.tuple #[.agg #[v0_, v1_], .int .i64 r3]) ∧ Kd.R (Kd.int .u64) 28 w' w0.heap.size (fun _ => True) v0_ r1 ∧ Kd.R k52 52 w' w0.heap.size (fun _ => True) v1_ r2 ∧ Below w0.heap.size w0 w' ∧ ∀ k, k < w.heap.size → w'.heap[k]? = w.heap[k]? := by
    intro er hne htr hrr hdo
    subst htr
    simp only [Prod.mk.injEq] at hrr
    obtain ⟨rfl, rfl, rfl⟩ := hrr
    obtain ⟨hl0, hl1⟩ := right_len ht
    refine (done_er 100 w0 w A0 A1 c0 c1 l0 l1 HB HL hr0 hc0 hr1 hc1 ht hl0 (by omega) 42 hq _ er (fun W' => ∀ k, k < w.heap.size → W'.heap[k]? = w.heap[k]?) (fun W W' h1 h2 k hk => (h1 k hk).trans (h2 k hk)) ?_).mono ?_
    · intro P v0 v1 W hW hP hPc h0 h1
      refine (hdo P v0 v1 W hW hP hPc h0 h1).mono ?_
      rintro e w' ⟨he, hb⟩
      exact ⟨he, turned_of_below HB hW hb, (below_step hW hb).block⟩
    · rintro e w' ⟨rfl, hb, hx⟩
      exact ⟨_, _, rfl, Kd.R_nil _ _ _ _ _, Kd.R_nil _ _ _ _ _, hb, hx⟩
  split at h
  · rename_i htr
    by_cases c1' : slot < 0
    · rw [if_pos c1'] at h
      exact erf 1 (by decide) htr (Option.some.inj h) (fun P v0 v1 W hW hP hPc h0 h1 => step1_n1 w W P bs be bc slot ev cpu v0 v1 l0 HLw hW hPc h0 (pw_cell_below hW hs) (pw_cell_below hW he) (pw_cell_below hW hc) c1')
    rw [if_neg c1'] at h
    by_cases c2' : (l0.length : Int) ≤ slot
    · rw [if_pos c2'] at h
      exact erf 1 (by decide) htr (Option.some.inj h) (fun P v0 v1 W hW hP hPc h0 h1 => step1_n2 w W P bs be bc slot ev cpu v0 v1 l0 HLw hW hPc h0 (pw_cell_below hW hs) (pw_cell_below hW he) (pw_cell_below hW hc) (by omega) c2')
    rw [if_neg c2'] at h
    by_cases c3' : ev = 0
    · rw [if_pos c3'] at h
      exact erf 1 (by decide) htr (Option.some.inj h) (fun P v0 v1 W hW hP hPc h0 h1 => step1_n3 w W P bs be bc slot ev cpu v0 v1 l0 HLw hW hPc h0 (pw_cell_below hW hs) (pw_cell_below hW he) (pw_cell_below hW hc) (by omega) (by omega) c3')
    rw [if_neg c3'] at h
    by_cases c4' : ev = 1
    · rw [if_pos c4'] at h
      exact erf 1 (by decide) htr (Option.some.inj h) (fun P v0 v1 W hW hP hPc h0 h1 => step1_n4 w W P bs be bc slot ev cpu v0 v1 l0 HLw hW hPc h0 (pw_cell_below hW hs) (pw_cell_below hW he) (pw_cell_below hW hc) (by omega) (by omega) c4')
    rw [if_neg c4'] at h
    obtain ⟨⟨x, er⟩, hn, h⟩ := Option.bind_eq_some_iff.1 h
    by_cases c5' : er = 0
    · subst c5'
      subst htr
      rw [if_pos rfl] at h
      simp only [Option.some.injEq, Prod.mk.injEq] at h
      obtain ⟨rfl, rfl, rfl⟩ := h
      obtain ⟨hl0, hl1⟩ := right_len ht
      refine (done_ok 100 w0 w A0 A1 c0 c1 l0 l1 HB HL hr0 hc0 hr1 hc1 ht hl0 (by omega) 42 hq _ (l0.set slot.toNat x) l1 (fun W' => ∀ k, k < w.heap.size → W'.heap[k]? = w.heap[k]?) (fun W W' h1 h2 k hk => (h1 k hk).trans (h2 k hk)) ?_).mono ?_
      · intro P v0 v1 W hW hP hPc h0 h1
        refine (step1_ok w W P bs be bc slot ev cpu v0 v1 l0 HLw hW hPc h0 (pw_cell_below hW hs) (pw_cell_below hW he) (pw_cell_below hW hc) (by omega) (by omega) c3' c4' x hn).mono ?_
        rintro e w' ⟨he, hb, h0', hg⟩
        exact ⟨he, h0', Kd.R_over h1 h0 (by decide) hg, turned_of_grown HB hb hg, hb.block⟩
      · rintro e w' ⟨v0_, v1_, rfl, g0, g1, hb, hx⟩
        exact ⟨_, _, rfl, g0, g1, hb, hx⟩
    · have c6 : ¬ (x, er).2 = 0 := c5'
      rw [if_neg c6] at h
      exact erf er c5' htr (Option.some.inj h) (fun P v0 v1 W hW hP hPc h0 h1 => step1_er w W P bs be bc slot ev cpu v0 v1 l0 HLw hW hPc h0 (pw_cell_below hW hs) (pw_cell_below hW he) (pw_cell_below hW hc) (by omega) (by omega) c3' c4' x er c5' hn)
  · rename_i htr
    obtain rfl : t = false := by simpa using htr
    simp only [Option.some.injEq, Prod.mk.injEq] at h
    obtain ⟨rfl, rfl, rfl⟩ := h
    refine (done_no 100 w0 w A0 A1 c0 c1 l0 l1 HB HL hr0 hc0 hr1 hc1 ht 42 _).mono ?_
    rintro e w' ⟨rfl, hb, hx⟩
    exact ⟨_, _, rfl, Kd.R_nil _ _ _ _ _, Kd.R_nil _ _ _ _ _, hb, hx.block⟩
end Go.Proofs.YtdchbcpfciljoaaDoor.Given
/- Package table: Step in the printed form. -/
namespace Go.Proofs.YtdchbcpfciljoaaDoor.Given
open Go.RowKit Go.Proofs.YtdchbcpfciljoaaDoor Go.Proofs.YtdchbcpfciljoaaDoor.Print Go.Proofs.YtdchbcpfciljoaaDoorW.PrintWords
set_option linter.unusedVariables false
set_option linter.unusedSimpArgs false
theorem res25t (fn : Func) (p u : Tmp) (hf : fn.results = #[.cell p 25, .tmp u]) (tmps : Array Value) (w : World) (B : Nat) (a b : Value) (h4 : tmps.getD p undef = .pointer (some ⟨B, 0, none⟩))
    (k4 : w.heap[B]? = some (.cells #[a, b] 25 (0, 0))) : (results fn tmps).run Tryd.prog w = .ok (.tuple #[.agg #[a, b], tmps.getD u undef]) w :=
  results_ct hf _ _ B 25 #[a, b] (0, 0) _ h4 k4 Tryd.underlying25 rfl (by kernel_rfl)
set_option maxRecDepth 100000 in
set_option maxHeartbeats 8000000 in
theorem table_Step.calls (A0 : Option Addr) (c0 : Nat) (l0 : List Int) (A1 : Option Addr) (c1 : Nat) (l1 : List S52) (a1 a2 a3 : Int) (r1 : List Int) (r2 : List S52) (r3 : Int) (w : World) (hr0 : Kd.C (Kd.int .u64) w A0 l0.length l0) (hc0 : l0.length ≤ c0) (hr1 : Kd.C k52 w A1 l1.length l1) (hc1 : l1.length ≤ c1) (HLd : Ld w)
    (h : table_Step.f l0 l1 a1 a2 a3 = some (r1, r2, r3)) :
    Calls Tryd.prog 19 #[.agg #[.slice A0 l0.length c0, .slice A1 l1.length c1], .int .i64 a1, .int .i64 a2, .int .i64 a3] w fun e w' => ∃ v0_ v1_ : Value, e = .returned (.tuple #[.agg #[v0_, v1_], .int .i64 r3]) ∧ Kd.R (Kd.int .u64) 28 w' w.heap.size (fun _ => True) v0_ r1 ∧ Kd.R k52 52 w' w.heap.size (fun _ => True) v1_ r2 ∧ Below w.heap.size w w' := by
  have hmf : ∀ (fn : Fn) (first cap : Array Value) (w : World), (Instr.makeFunc fn first cap).run Tryd.prog w = .ok (.func fn first cap) w := fun _ _ _ _ => rfl
  have hu25 := Tryd.underlying25
  have HC0 := Aside0.mk hr0
  have HC1 := Aside0.mk hr1
  have HLL := Aside0.mk HLd
  have HF := Aside0.mk h
  clear hr0 hr1 HLd h
  go_enter Tryd.func19, Tryd.ntmps19
  go_wp2_with (first | (go_at_call 33; refine (done_step w _ A0 A1 c0 c1 l0 l1 (by repeat (first | exact Below.refl _ _ | apply below_alloc)) HLL.out (Kd.C_below HC0.out (by repeat (first | exact Below.refl _ _ | apply below_alloc))) hc0 (Kd.C_below HC1.out (by repeat (first | exact Below.refl _ _ | apply below_alloc))) hc1 _ _ _ a1 a2 a3 (by go_simp) (by go_simp) (by go_simp) r1 r2 r3 HF.out).mono ?_; rintro e w1 ⟨v0_, v1_, rfl, g0, g1, hb, hx⟩; have hk := (hx _ (by simp only [World.size_alloc]; omega)).trans (blk_new ((((w.alloc _).alloc _).alloc _).alloc _) _); simp only [World.size_alloc] at hk; obtain ⟨Ao0, co0, rfl⟩ := Kd.R_slice g0; obtain ⟨Ao1, co1, rfl⟩ := Kd.R_slice g1; have z0 := blk_cell hk 0; have z1 := blk_cell hk 1; simp at z0 z1; have f0 := blk_frozen hk 0; have f1 := blk_frozen hk 1; have GK := Aside0.mk hk; have G0 := Aside0.mk g0; have G1 := Aside0.mk g1; have GB := Aside0.mk hb; clear g0 g1 hb hx hk))
  refine bodyPost_ret (res25t _ _ _ rfl _ _ _ _ _ rfl (blk_put (blk_put GK.out 0 _ rfl) 1 _ rfl)) rfl ?_
  exact ⟨_, _, rfl, Kd.R_set (Kd.R_set G0.out GK.out (by decide) 0 _) (blk_put GK.out 0 _ rfl) (by decide) 1 _, Kd.R_set (Kd.R_set G1.out GK.out (by decide) 0 _) (blk_put GK.out 0 _ rfl) (by decide) 1 _, below_set (below_set GB.out (by omega)) (by omega)⟩
end Go.Proofs.YtdchbcpfciljoaaDoor.Given

/- Package table: Exit. -/
import Derived.Test.YtdchbcpfciljoaaDoorGD
import Derived.Test.YtdchbcpfciljoaaDoorPrintF22
import Derived.Test.YtdchbcpfciljoaaDoorPrintS
import Derived.Test.YtdchbcpfciljoaaDoorPrintM
namespace Go.Proofs.YtdchbcpfciljoaaDoor.Given
open Go.RowKit Go.Proofs.YtdchbcpfciljoaaDoor Go.Proofs.YtdchbcpfciljoaaDoor.Print Go.Proofs.YtdchbcpfciljoaaDoorW.PrintWords
set_option linter.unusedVariables false
set_option linter.unusedSimpArgs false
theorem k52_at {e : Nat} {W : World} {base g n cap : Nat} {ok : Nat → Prop} {xs : List S52} (h : k52.R e W base ok (.slice (some ⟨g, 0, none⟩) n cap) xs) (i : Int) (h0 : 0 ≤ i) (h1 : i < n) :
    (∃ y : S52, W.cell? ⟨g, i.toNat * 3, none⟩ = some (.int .i64 y.f0) ∧ W.cell? ⟨g, i.toNat * 3 + 1, none⟩ = some (.int .u64 y.f1) ∧ W.cell? ⟨g, i.toNat * 3 + 2, none⟩ = some (.int .i64 y.f2)) ∧
    (W.frozen? ⟨g, i.toNat * 3, none⟩ = false ∧ W.frozen? ⟨g, i.toNat * 3 + 1, none⟩ = false ∧ W.frozen? ⟨g, i.toNat * 3 + 2, none⟩ = false) ∧
    ∀ x : S52, k52.R e (((W.setCell ⟨g, i.toNat * 3, none⟩ (.int .i64 x.f0)).setCell ⟨g, i.toNat * 3 + 1, none⟩ (.int .u64 x.f1)).setCell ⟨g, i.toNat * 3 + 2, none⟩ (.int .i64 x.f2)) base ok (.slice (some ⟨g, 0, none⟩) n cap) (xs.set i.toNat x) ∧
      W.grownBy (((W.setCell ⟨g, i.toNat * 3, none⟩ (.int .i64 x.f0)).setCell ⟨g, i.toNat * 3 + 1, none⟩ (.int .u64 x.f1)).setCell ⟨g, i.toNat * 3 + 2, none⟩ (.int .i64 x.f2)) (some g) := by
  obtain ⟨c, hcl, hM, hcc, hfr⟩ := Kd.R_elem h z52 i h0 h1
  obtain rfl := k52_openM hM
  refine ⟨⟨_, hcc 0 _ rfl, hcc 1 _ rfl, hcc 2 _ rfl⟩, ⟨hfr 0, hfr 1, hfr 2⟩, fun x => ?_⟩
  exact Kd.R_seg h i h0 h1 (seg := [.int .i64 x.f0, .int .u64 x.f1, .int .i64 x.f2]) (j := 0) hcl hcc (show 3 ≤ 3 by decide) (x' := x) (k52_mkM _ _ _ x) (fun _ hk => hk)
set_option maxRecDepth 100000 in
set_option maxHeartbeats 8000000 in
theorem exit1_ok (w0 w W : World) (P bt bh : Nat) (slot gen : Int) (v0 v1 : Value) (A0 A1 : Option Addr) (c0 c1 : Nat) (l0 : List Int) (l1 : List S52) (HB0 : Below w0.heap.size w0 w) (HL : Ld w) (HB : Below w.heap.size w W) (hP : W.heap[P]? = some (.cells #[v0, v1] 73 (0, 0)))
    (h0 : Kd.R (Kd.int .u64) 28 W w.heap.size (fun _ => True) v0 l0) (h1 : Kd.R k52 52 W w.heap.size (fun _ => True) v1 l1) (ht : W.heap[bt]? = some (.cells #[.slice A0 l0.length c0, .slice A1 l1.length c1] 25 (0, 0))) (hh : W.heap[bh]? = some (.cells #[.int .i64 slot, .int .i64 gen] 27 (0, 0)))
    (hr0 : Kd.C (Kd.int .u64) W A0 l0.length l0) (hc0 : l0.length ≤ c0) (hr1 : Kd.C k52 W A1 l1.length l1) (hc1 : l1.length ≤ c1)
    (hk : table_Check.f 100 l0 l1 slot gen = some 0) (hi0 : 0 ≤ slot) (hi1 : slot < l0.length) (hl : l1.length = l0.length) (x : Int) (hn : life_Next.f (rdOf 0 l0 slot) 1 0 = some (x, 0)) :
    Calls Tryd.prog 41 #[.pointer (some ⟨P, 0, none⟩), .pointer (some ⟨bt, 0, none⟩), .pointer (some ⟨bh, 0, none⟩)] W fun e w' =>
      e = .returned (.tuple #[]) ∧ Kd.R (Kd.int .u64) 28 w' w.heap.size (fun _ => True) v0 (l0.set slot.toNat x) ∧ Kd.R k52 52 w' w.heap.size (fun _ => True) v1 (l1.set slot.toNat z52) ∧ Turned w0 w W w' v0 v1 ∧ ∀ k, k < w.heap.size → w'.heap[k]? = w.heap[k]? := by
  obtain ⟨A0', a0, rfl⟩ := Kd.R_slice h0
  obtain ⟨g1, a1, rfl, hg1, hg1', cells1, hgc1⟩ := Kd.R_form h1 (by omega)
  have q1 := eq_true hi0
  have q2 := eq_true (show slot < (l1.length : Int) by omega)
  have HN := Aside0.mk hn
  have HG1 := Aside0.mk hg1
  clear hn hgc1 hg1 hg1'
  have HLE := Aside0.mk hl
  clear hl
  have t0 : W.cell? ⟨bt, 0, none⟩ = some (.slice A0 l0.length c0) := (blk_cell ht 0).trans rfl
  have t1 : W.cell? ⟨bt, 1, none⟩ = some (.slice A1 l1.length c1) := (blk_cell ht 1).trans rfl
  have s0 : W.cell? ⟨bh, 0, none⟩ = some (.int .i64 slot) := (blk_cell hh 0).trans rfl
  have s1 : W.cell? ⟨bh, 1, none⟩ = some (.int .i64 gen) := (blk_cell hh 1).trans rfl
  have HBB := Aside0.mk HB
  have HLL := Aside0.mk HL
  have HPP := Aside0.mk hP
  have HT := Aside0.mk ht
  have HH := Aside0.mk hh
  have H0 := Aside0.mk h0
  have H1 := Aside0.mk h1
  have HK := Aside0.mk hk
  have HR0 := Aside0.mk hr0
  have HR1 := Aside0.mk hr1
  have HB0_ := Aside0.mk HB0
  clear HB HL hP h0 h1 ht hh hk hr0 hr1 HB0
  have hu52 := Tryd.underlying52
  go_enter Tryd.func41, Tryd.ntmps41
  go_wp2_with (first | (go_at_call 22; refine (table_Check.calls 100 A0 c0 l0 A1 c1 l1 slot gen 0 _ HR0.out hc0 HR1.out hc1 (HLL.out.below HBB.out) HK.out).mono ?_; rintro e w1 ⟨rfl, hb⟩; have HB1 := Aside0.mk hb; have e0 : w1.cell? ⟨bh, 0, none⟩ = some (.int .i64 slot) := (blk_cell (blk_below HH.out hb) 0).trans rfl; clear hb) | (go_at_call 37; refine (must_ok _).mono ?_; rintro e w2 ⟨rfl, rfl⟩) | (go_at_call 39; fail))
  refine (goes_ok w w2 P slot 1 0 _ _ l0 (fun _ => True) (below_step HBB.out HB1.out) HLL.out (blk_below HPP.out HB1.out) (Kd.R_below H0.out HB1.out) (of_eq_true q1) hi1 x HN.out).mono ?_
  rintro e w3 ⟨rfl, k1, k2, k3⟩
  have HT3 := blk_grown (blk_below HH.out HB1.out) k3 (Kd.R_ne (Kd.R_below H0.out HB1.out) (blk_below HH.out HB1.out) (by decide))
  have HP3 := blk_grown (blk_below HPP.out HB1.out) k3 (Kd.R_ne (Kd.R_below H0.out HB1.out) (blk_below HPP.out HB1.out) (by decide))
  have H13 := Kd.R_over (Kd.R_below H1.out HB1.out) (Kd.R_below H0.out HB1.out) (by decide) k3
  have f0 : w3.cell? ⟨bh, 0, none⟩ = some (.int .i64 slot) := (blk_cell HT3 0).trans rfl
  have f1 : w3.cell? ⟨P, 1, none⟩ = some (.slice (some ⟨g1, 0, none⟩) l1.length a1) := (blk_cell HP3 1).trans rfl
  obtain ⟨⟨y, m0, m1, m2⟩, ⟨n0, n1, n2⟩, hput⟩ := k52_at H13 slot (of_eq_true q1) (of_eq_true q2)
  have PUT := Aside0.mk (hput z52)
  have R13 := Aside0.mk (Kd.R_over k2 H13 (by decide) (hput z52).2)
  have K1 := Aside0.mk k1; have K3 := Aside0.mk k3
  have G3 := Aside0.mk (Kd.R_ne (Kd.R_below H0.out HB1.out) (blk_below HPP.out HB1.out) (by decide))
  clear k1 k2 k3 HT3 HP3 H13 hput
  go_wp2
  go_region
  go_end0
  have hb := below_drew (below_set (j := slot.toNat * 3 + 2) (v := .int .i64 0) (below_set (j := slot.toNat * 3 + 1) (v := .int .u64 0) (below_set (j := slot.toNat * 3) (v := .int .i64 0) K1.out HG1.out) HG1.out) HG1.out)
  refine ⟨rfl, Kd.R_drew R13.out, Kd.R_drew PUT.out.1, ⟨HB0_.out.trans (Below.lower hb HB0_.out.size), Nat.le_trans HB1.out.size (Nat.le_trans K3.out.size PUT.out.2.size), fun k _ hk2 hk3 hk4 => ?_⟩, hb.block⟩
  have l1_ := Nat.lt_of_lt_of_le hk2 HB1.out.size
  exact (PUT.out.2.block k (Nat.lt_of_lt_of_le l1_ K3.out.size) hk4).trans ((K3.out.block k l1_ hk3).trans (HB1.out.block k hk2))
set_option maxRecDepth 100000 in
set_option maxHeartbeats 8000000 in
theorem exit1_ck (w0 w W : World) (P bt bh : Nat) (slot gen : Int) (v0 v1 : Value) (A0 A1 : Option Addr) (c0 c1 : Nat) (l0 : List Int) (l1 : List S52) (HB0 : Below w0.heap.size w0 w) (HL : Ld w) (HB : Below w.heap.size w W) (hP : W.heap[P]? = some (.cells #[v0, v1] 73 (0, 0)))
    (h0 : Kd.R (Kd.int .u64) 28 W w.heap.size (fun _ => True) v0 l0) (h1 : Kd.R k52 52 W w.heap.size (fun _ => True) v1 l1) (ht : W.heap[bt]? = some (.cells #[.slice A0 l0.length c0, .slice A1 l1.length c1] 25 (0, 0))) (hh : W.heap[bh]? = some (.cells #[.int .i64 slot, .int .i64 gen] 27 (0, 0)))
    (hr0 : Kd.C (Kd.int .u64) W A0 l0.length l0) (hc0 : l0.length ≤ c0) (hr1 : Kd.C k52 W A1 l1.length l1) (hc1 : l1.length ≤ c1)
    (er : Int) (her : er ≠ 0) (hk : table_Check.f 100 l0 l1 slot gen = some er) :
    Calls Tryd.prog 41 #[.pointer (some ⟨P, 0, none⟩), .pointer (some ⟨bt, 0, none⟩), .pointer (some ⟨bh, 0, none⟩)] W fun e w' => e = .panicked [faultE er] ∧ Below W.heap.size W w' := by
  have t0 : W.cell? ⟨bt, 0, none⟩ = some (.slice A0 l0.length c0) := (blk_cell ht 0).trans rfl
  have t1 : W.cell? ⟨bt, 1, none⟩ = some (.slice A1 l1.length c1) := (blk_cell ht 1).trans rfl
  have s0 : W.cell? ⟨bh, 0, none⟩ = some (.int .i64 slot) := (blk_cell hh 0).trans rfl
  have s1 : W.cell? ⟨bh, 1, none⟩ = some (.int .i64 gen) := (blk_cell hh 1).trans rfl
  have HBB := Aside0.mk HB
  have HLL := Aside0.mk HL
  have HPP := Aside0.mk hP
  have HT := Aside0.mk ht
  have HH := Aside0.mk hh
  have H0 := Aside0.mk h0
  have H1 := Aside0.mk h1
  have HK := Aside0.mk hk
  have HR0 := Aside0.mk hr0
  have HR1 := Aside0.mk hr1
  have HB0_ := Aside0.mk HB0
  clear HB HL hP h0 h1 ht hh hk hr0 hr1 HB0
  go_enter Tryd.func41, Tryd.ntmps41
  go_wp2_with (first | (go_at_call 22; refine (table_Check.calls 100 A0 c0 l0 A1 c1 l1 slot gen er _ HR0.out hc0 HR1.out hc1 (HLL.out.below HBB.out) HK.out).mono ?_; rintro e w1 ⟨rfl, hb⟩; have HB1 := Aside0.mk hb; have e0 : w1.cell? ⟨bh, 0, none⟩ = some (.int .i64 slot) := (blk_cell (blk_below HH.out hb) 0).trans rfl; clear hb) | (go_at_call 37; refine (must_er er her _).mono ?_; rintro e w2 ⟨rfl, rfl⟩))
  exact ⟨rfl, rfl, HB1.out⟩
set_option maxRecDepth 100000 in
set_option maxHeartbeats 8000000 in
theorem exit1_er (w0 w W : World) (P bt bh : Nat) (slot gen : Int) (v0 v1 : Value) (A0 A1 : Option Addr) (c0 c1 : Nat) (l0 : List Int) (l1 : List S52) (HB0 : Below w0.heap.size w0 w) (HL : Ld w) (HB : Below w.heap.size w W) (hP : W.heap[P]? = some (.cells #[v0, v1] 73 (0, 0)))
    (h0 : Kd.R (Kd.int .u64) 28 W w.heap.size (fun _ => True) v0 l0) (h1 : Kd.R k52 52 W w.heap.size (fun _ => True) v1 l1) (ht : W.heap[bt]? = some (.cells #[.slice A0 l0.length c0, .slice A1 l1.length c1] 25 (0, 0))) (hh : W.heap[bh]? = some (.cells #[.int .i64 slot, .int .i64 gen] 27 (0, 0)))
    (hr0 : Kd.C (Kd.int .u64) W A0 l0.length l0) (hc0 : l0.length ≤ c0) (hr1 : Kd.C k52 W A1 l1.length l1) (hc1 : l1.length ≤ c1)
    (hk : table_Check.f 100 l0 l1 slot gen = some 0) (hi0 : 0 ≤ slot) (hi1 : slot < l0.length) (x er : Int) (her : er ≠ 0) (hn : life_Next.f (rdOf 0 l0 slot) 1 0 = some (x, er)) :
    Calls Tryd.prog 41 #[.pointer (some ⟨P, 0, none⟩), .pointer (some ⟨bt, 0, none⟩), .pointer (some ⟨bh, 0, none⟩)] W fun e w' => e = .panicked [faultE er] ∧ Below W.heap.size W w' := by
  have HN := Aside0.mk hn
  clear hn
  have t0 : W.cell? ⟨bt, 0, none⟩ = some (.slice A0 l0.length c0) := (blk_cell ht 0).trans rfl
  have t1 : W.cell? ⟨bt, 1, none⟩ = some (.slice A1 l1.length c1) := (blk_cell ht 1).trans rfl
  have s0 : W.cell? ⟨bh, 0, none⟩ = some (.int .i64 slot) := (blk_cell hh 0).trans rfl
  have s1 : W.cell? ⟨bh, 1, none⟩ = some (.int .i64 gen) := (blk_cell hh 1).trans rfl
  have HBB := Aside0.mk HB
  have HLL := Aside0.mk HL
  have HPP := Aside0.mk hP
  have HT := Aside0.mk ht
  have HH := Aside0.mk hh
  have H0 := Aside0.mk h0
  have H1 := Aside0.mk h1
  have HK := Aside0.mk hk
  have HR0 := Aside0.mk hr0
  have HR1 := Aside0.mk hr1
  have HB0_ := Aside0.mk HB0
  clear HB HL hP h0 h1 ht hh hk hr0 hr1 HB0
  go_enter Tryd.func41, Tryd.ntmps41
  go_wp2_with (first | (go_at_call 22; refine (table_Check.calls 100 A0 c0 l0 A1 c1 l1 slot gen 0 _ HR0.out hc0 HR1.out hc1 (HLL.out.below HBB.out) HK.out).mono ?_; rintro e w1 ⟨rfl, hb⟩; have HB1 := Aside0.mk hb; have e0 : w1.cell? ⟨bh, 0, none⟩ = some (.int .i64 slot) := (blk_cell (blk_below HH.out hb) 0).trans rfl; clear hb) | (go_at_call 37; refine (must_ok _).mono ?_; rintro e w2 ⟨rfl, rfl⟩) | (go_at_call 39; refine (goes_er w w2 P slot 1 0 _ _ l0 (fun _ => True) (below_step HBB.out HB1.out) HLL.out (blk_below HPP.out HB1.out) (Kd.R_below H0.out HB1.out) hi0 hi1 x er her HN.out).mono ?_; rintro e w3 ⟨rfl, k1⟩; have K1 := Aside0.mk k1; clear k1))
  exact ⟨rfl, rfl, below_step HB1.out K1.out⟩
theorem check_range {k : Nat} {l0 : List Int} {l1 : List S52} {slot gen : Int} (h : table_Check.f k l0 l1 slot gen = some 0) : 0 ≤ slot ∧ slot < l0.length := by
  unfold table_Check.f at h
  cases k with
  | zero => split at h <;> simp [table_Check.j0] at h
  | succ k =>
    by_cases h1 : slot < 0
    · rw [if_pos h1] at h
      simp [table_Check.j0] at h
    · rw [if_neg h1] at h
      by_cases h2 : slot ≥ (l0.length : Int)
      · rw [decide_eq_true h2] at h
        simp [table_Check.j0] at h
      · omega
def table_Exit.f (l0 : List Int) (l1 : List S52) (slot gen : Int) : Option (List Int × List S52 × Int) :=
  (table_Right.f 100 l0 l1).bind fun t => if t = true then
    (table_Check.f 100 l0 l1 slot gen).bind fun e => if e = 0 then
      (life_Next.f (rdOf 0 l0 slot) 1 0).bind fun x => if x.2 = 0 then some (l0.set slot.toNat x.1, l1.set slot.toNat z52, 0) else some ([], [], x.2)
    else some ([], [], e)
  else some ([], [], 4)
set_option maxRecDepth 100000 in
set_option maxHeartbeats 4000000 in
theorem done_exit (w0 w : World) (A0 A1 : Option Addr) (c0 c1 : Nat) (l0 : List Int) (l1 : List S52) (HB : Below w0.heap.size w0 w) (HL : Ld w0) (hr0 : Kd.C (Kd.int .u64) w A0 l0.length l0) (hc0 : l0.length ≤ c0) (hr1 : Kd.C k52 w A1 l1.length l1) (hc1 : l1.length ≤ c1)
    (bt bh : Nat) (slot gen : Int) (ht : w.heap[bt]? = some (.cells #[.slice A0 l0.length c0, .slice A1 l1.length c1] 25 (0, 0))) (hh : w.heap[bh]? = some (.cells #[.int .i64 slot, .int .i64 gen] 27 (0, 0)))
    (r1 : List Int) (r2 : List S52) (r3 : Int) (h : table_Exit.f l0 l1 slot gen = some (r1, r2, r3)) :
    Calls Tryd.prog 33 #[.agg #[.slice A0 l0.length c0, .slice A1 l1.length c1], .func (.func 41) #[] #[.pointer (some ⟨bt, 0, none⟩), .pointer (some ⟨bh, 0, none⟩)]] w fun e w' =>
      ∃ v0_ v1_ : Value, e = .returned (.tuple #[.agg #[v0_, v1_], .int .i64 r3]) ∧ Kd.R (Kd.int .u64) 28 w' w0.heap.size (fun _ => True) v0_ r1 ∧ Kd.R k52 52 w' w0.heap.size (fun _ => True) v1_ r2 ∧ Below w0.heap.size w0 w' ∧ ∀ k, k < w.heap.size → w'.heap[k]? = w.heap[k]? := by
  have hq : ∀ (args : Array Value) (W : World), (callFunc 41 args).run Tryd.prog W = .ok (.enter 41 args) W := fun args W => by kernel_rfl
  have HLw := HL.below HB
  unfold table_Exit.f at h
  obtain ⟨t, htr, h⟩ := Option.bind_eq_some_iff.1 h
  have erf : ∀ er : Int, er ≠ 0 → t = true → (([] : List Int), ([] : List S52), er) = (r1, r2, r3) →
      (∀ (P : Nat) (v0 v1 : Value) (W : World), Below w.heap.size w W → w.heap.size ≤ P → W.heap[P]? = some (.cells #[v0, v1] 73 (0, 0)) → Kd.R (Kd.int .u64) 28 W w.heap.size (fun _ => True) v0 l0 → Kd.R k52 52 W w.heap.size (fun _ => True) v1 l1 →
        Calls Tryd.prog 41 (#[.pointer (some ⟨P, 0, none⟩)] ++ #[.pointer (some ⟨bt, 0, none⟩), .pointer (some ⟨bh, 0, none⟩)]) W fun e w' => e = .panicked [faultE er] ∧ Below W.heap.size W w') →
      Calls Tryd.prog 33 #[.agg #[.slice A0 l0.length c0, .slice A1 l1.length c1], .func (.func 41) #[] #[.pointer (some ⟨bt, 0, none⟩), .pointer (some ⟨bh, 0, none⟩)]] w fun e w' =>
        ∃ v0_ v1_ : Value, e = .returned (.tuple #[.agg #[v0_, v1_], .int .i64 r3]) ∧ Kd.R (Kd.int .u64) 28 w' w0.heap.size (fun _ => True) v0_ r1 ∧ Kd.R k52 52 w' w0.heap.size (fun _ => True) v1_ r2 ∧ Below w0.heap.size w0 w' ∧ ∀ k, k < w.heap.size → w'.heap[k]? = w.heap[k]? := by
    intro er hne htr' hrr hdo
    subst htr'
    simp only [Prod.mk.injEq] at hrr
    obtain ⟨rfl, rfl, rfl⟩ := hrr
    obtain ⟨hl0, hl1⟩ := right_len htr
    refine (done_er 100 w0 w A0 A1 c0 c1 l0 l1 HB HL hr0 hc0 hr1 hc1 htr hl0 (by omega) 41 hq _ er (fun W' => ∀ k, k < w.heap.size → W'.heap[k]? = w.heap[k]?) (fun W W' h1 h2 k hk => (h1 k hk).trans (h2 k hk)) ?_).mono ?_
    · intro P v0 v1 W hW hP hPc h0 h1
      refine (hdo P v0 v1 W hW hP hPc h0 h1).mono ?_
      rintro e w' ⟨he, hb⟩
      exact ⟨he, turned_of_below HB hW hb, (below_step hW hb).block⟩
    · rintro e w' ⟨rfl, hb, hx⟩
      exact ⟨_, _, rfl, Kd.R_nil _ _ _ _ _, Kd.R_nil _ _ _ _ _, hb, hx⟩
  split at h
  · rename_i htt
    obtain ⟨e, hk, h⟩ := Option.bind_eq_some_iff.1 h
    by_cases he : e = 0
    · subst he
      rw [if_pos rfl] at h
      obtain ⟨hi0, hi1⟩ := check_range hk
      obtain ⟨⟨x, er⟩, hn, h⟩ := Option.bind_eq_some_iff.1 h
      by_cases c5' : er = 0
      · subst c5'
        subst htt
        rw [if_pos rfl] at h
        simp only [Option.some.injEq, Prod.mk.injEq] at h
        obtain ⟨rfl, rfl, rfl⟩ := h
        obtain ⟨hl0, hl1⟩ := right_len htr
        refine (done_ok 100 w0 w A0 A1 c0 c1 l0 l1 HB HL hr0 hc0 hr1 hc1 htr hl0 (by omega) 41 hq _ (l0.set slot.toNat x) (l1.set slot.toNat z52) (fun W' => ∀ k, k < w.heap.size → W'.heap[k]? = w.heap[k]?) (fun W W' h1 h2 k hk => (h1 k hk).trans (h2 k hk)) ?_).mono ?_
        · intro P v0 v1 W hW hP hPc h0 h1
          refine (exit1_ok w0 w W P bt bh slot gen v0 v1 A0 A1 c0 c1 l0 l1 HB HLw hW hPc h0 h1 (blk_below ht hW) (blk_below hh hW) (Kd.C_below hr0 hW) hc0 (Kd.C_below hr1 hW) hc1 hk hi0 hi1 hl1 x hn).mono ?_
          rintro e w' ⟨he, h0', h1', hT, hX⟩
          exact ⟨he, h0', h1', hT, hX⟩
        · rintro e w' ⟨v0_, v1_, rfl, g0, g1, hb, hx⟩
          exact ⟨_, _, rfl, g0, g1, hb, hx⟩
      · have c6 : ¬ (x, er).2 = 0 := c5'
        rw [if_neg c6] at h
        exact erf er c5' htt (Option.some.inj h) (fun P v0 v1 W hW hP hPc h0 h1 => exit1_er w0 w W P bt bh slot gen v0 v1 A0 A1 c0 c1 l0 l1 HB HLw hW hPc h0 h1 (blk_below ht hW) (blk_below hh hW) (Kd.C_below hr0 hW) hc0 (Kd.C_below hr1 hW) hc1 hk hi0 hi1 x er c5' hn)
    · rw [if_neg he] at h
      exact erf e he htt (Option.some.inj h) (fun P v0 v1 W hW hP hPc h0 h1 => exit1_ck w0 w W P bt bh slot gen v0 v1 A0 A1 c0 c1 l0 l1 HB HLw hW hPc h0 h1 (blk_below ht hW) (blk_below hh hW) (Kd.C_below hr0 hW) hc0 (Kd.C_below hr1 hW) hc1 e he hk)
  · rename_i htt
    obtain rfl : t = false := by simpa using htt
    simp only [Option.some.injEq, Prod.mk.injEq] at h
    obtain ⟨rfl, rfl, rfl⟩ := h
    refine (done_no 100 w0 w A0 A1 c0 c1 l0 l1 HB HL hr0 hc0 hr1 hc1 htr 41 _).mono ?_
    rintro e w' ⟨rfl, hb, hx⟩
    exact ⟨_, _, rfl, Kd.R_nil _ _ _ _ _, Kd.R_nil _ _ _ _ _, hb, hx.block⟩
theorem bk1 (A0 A1 : Option Addr) (c0 c1 : Nat) (l0 : List Int) (l1 : List S52) (a1 a2 : Int) (w : World) : (((w.alloc (.cells #[.slice A0 l0.length c0, .slice A1 l1.length c1] 25)).alloc (.cells #[.int .i64 a1, .int .i64 a2] 27)).alloc (.cells #[.slice none 0 0, .slice none 0 0] 25)).heap[w.heap.size]? = some (.cells #[.slice A0 l0.length c0, .slice A1 l1.length c1] 25 (0, 0)) := blk_alloc (blk_alloc (blk_new w _) _) _
theorem bk2 (A0 A1 : Option Addr) (c0 c1 : Nat) (l0 : List Int) (l1 : List S52) (a1 a2 : Int) (w : World) : (((w.alloc (.cells #[.slice A0 l0.length c0, .slice A1 l1.length c1] 25)).alloc (.cells #[.int .i64 a1, .int .i64 a2] 27)).alloc (.cells #[.slice none 0 0, .slice none 0 0] 25)).heap[w.heap.size + 1]? = some (.cells #[.int .i64 a1, .int .i64 a2] 27 (0, 0)) := by
  have h := blk_alloc (blk_new (w.alloc (.cells #[.slice A0 l0.length c0, .slice A1 l1.length c1] 25)) (.cells #[.int .i64 a1, .int .i64 a2] 27)) (.cells #[.slice none 0 0, .slice none 0 0] 25)
  simpa only [World.size_alloc] using h
set_option maxRecDepth 100000 in
set_option maxHeartbeats 8000000 in
theorem table_Exit.calls (A0 : Option Addr) (c0 : Nat) (l0 : List Int) (A1 : Option Addr) (c1 : Nat) (l1 : List S52) (a1 a2 : Int) (r1 : List Int) (r2 : List S52) (r3 : Int) (w : World) (hr0 : Kd.C (Kd.int .u64) w A0 l0.length l0) (hc0 : l0.length ≤ c0) (hr1 : Kd.C k52 w A1 l1.length l1) (hc1 : l1.length ≤ c1) (HLd : Ld w)
    (h : table_Exit.f l0 l1 a1 a2 = some (r1, r2, r3)) :
    Calls Tryd.prog 18 #[.agg #[.slice A0 l0.length c0, .slice A1 l1.length c1], .agg #[.int .i64 a1, .int .i64 a2]] w fun e w' => ∃ v0_ v1_ : Value, e = .returned (.tuple #[.agg #[v0_, v1_], .int .i64 r3]) ∧ Kd.R (Kd.int .u64) 28 w' w.heap.size (fun _ => True) v0_ r1 ∧ Kd.R k52 52 w' w.heap.size (fun _ => True) v1_ r2 ∧ Below w.heap.size w w' := by
  have hmf : ∀ (fn : Fn) (first cap : Array Value) (w : World), (Instr.makeFunc fn first cap).run Tryd.prog w = .ok (.func fn first cap) w := fun _ _ _ _ => rfl
  have hu25 := Tryd.underlying25
  have hu27 := Tryd.underlying27
  have HC0 := Aside0.mk hr0
  have HC1 := Aside0.mk hr1
  have HLL := Aside0.mk HLd
  have HF := Aside0.mk h
  clear hr0 hr1 HLd h
  go_enter Tryd.func18, Tryd.ntmps18
  go_wp2_with (first | (go_at_call 33; refine (done_exit w _ A0 A1 c0 c1 l0 l1 (by repeat (first | exact Below.refl _ _ | apply below_alloc)) HLL.out (Kd.C_below HC0.out (by repeat (first | exact Below.refl _ _ | apply below_alloc))) hc0 (Kd.C_below HC1.out (by repeat (first | exact Below.refl _ _ | apply below_alloc))) hc1 _ _ a1 a2 (bk1 A0 A1 c0 c1 l0 l1 a1 a2 w) (bk2 A0 A1 c0 c1 l0 l1 a1 a2 w) r1 r2 r3 HF.out).mono ?_; rintro e w1 ⟨v0_, v1_, rfl, g0, g1, hb, hx⟩; have hk := (hx _ (by simp only [World.size_alloc]; omega)).trans (blk_new ((w.alloc _).alloc _) _); simp only [World.size_alloc] at hk; obtain ⟨Ao0, co0, rfl⟩ := Kd.R_slice g0; obtain ⟨Ao1, co1, rfl⟩ := Kd.R_slice g1; have z0 := blk_cell hk 0; have z1 := blk_cell hk 1; simp at z0 z1; have f0 := blk_frozen hk 0; have f1 := blk_frozen hk 1; have GK := Aside0.mk hk; have G0 := Aside0.mk g0; have G1 := Aside0.mk g1; have GB := Aside0.mk hb; clear g0 g1 hb hx hk))
  refine bodyPost_ret (res25t _ _ _ rfl _ _ _ _ _ rfl (blk_put (blk_put GK.out 0 _ rfl) 1 _ rfl)) rfl ?_
  exact ⟨_, _, rfl, Kd.R_set (Kd.R_set G0.out GK.out (by decide) 0 _) (blk_put GK.out 0 _ rfl) (by decide) 1 _, Kd.R_set (Kd.R_set G1.out GK.out (by decide) 0 _) (blk_put GK.out 0 _ rfl) (by decide) 1 _, below_set (below_set GB.out (by omega)) (by omega)⟩
end Go.Proofs.YtdchbcpfciljoaaDoor.Given
/- Package table: Create. -/
namespace Go.Proofs.YtdchbcpfciljoaaDoor.Given
open Go.RowKit Go.Proofs.YtdchbcpfciljoaaDoor Go.Proofs.YtdchbcpfciljoaaDoor.Print Go.Proofs.YtdchbcpfciljoaaDoorW.PrintWords Go.Proofs.YtdchbcpfciljoaaDoorW.PrintMore
set_option linter.unusedVariables false
set_option linter.unusedSimpArgs false
/-- The world in which the mask was written. -/
structure Put (w0 w W W1 : World) (P bm bc bn bh : Nat) (cpus nice m : Int) (v0 v1 : Value) (l0 : List Int) (l1 : List S52) : Prop where
  below : Below w0.heap.size w0 W1
  size : W.heap.size ≤ W1.heap.size
  keep : ∀ k, k < W.heap.size → k ≠ bm → W1.heap[k]? = W.heap[k]?
  r0 : Kd.R (Kd.int .u64) 28 W1 w.heap.size (fun _ => True) v0 l0
  r1 : Kd.R k52 52 W1 w.heap.size (fun _ => True) v1 l1
  P : W1.heap[P]? = some (.cells #[v0, v1] 73 (0, 0))
  m : W1.heap[bm]? = some (.cells #[.int .u64 m] 28 (0, 0))
  c : W1.heap[bc]? = some (.cells #[.int .i64 cpus] 3 (0, 0))
  n : W1.heap[bn]? = some (.cells #[.int .i64 nice] 3 (0, 0))
  h : W1.heap[bh]? = some (.cells #[.int .i64 0, .int .i64 0] 27 (0, 0))
theorem Put.step {w0 w W W1 W2 : World} {P bm bc bn bh : Nat} {cpus nice m : Int} {v0 v1 : Value} {l0 : List Int} {l1 : List S52} (p : Put w0 w W W1 P bm bc bn bh cpus nice m v0 v1 l0 l1) (hb : Below W1.heap.size W1 W2) : Put w0 w W W2 P bm bc bn bh cpus nice m v0 v1 l0 l1 :=
  ⟨p.below.trans (Below.lower hb p.below.size), Nat.le_trans p.size hb.size, fun k hk hne => (hb.block k (Nat.lt_of_lt_of_le hk p.size)).trans (p.keep k hk hne), Kd.R_below p.r0 hb, Kd.R_below p.r1 hb, blk_below p.P hb, blk_below p.m hb, blk_below p.c hb, blk_below p.n hb, blk_below p.h hb⟩
theorem put_made (w0 w W : World) (n P bm bc bn bh : Nat) (cpus nice m m1 : Int) (v0 v1 : Value) (l0 : List Int) (l1 : List S52) (HB0 : Below w0.heap.size w0 w) (HB : Below w.heap.size w W) (hP : W.heap[P]? = some (.cells #[v0, v1] 73 (0, 0))) (hPw : w.heap.size ≤ P)
    (h0 : Kd.R (Kd.int .u64) 28 W w.heap.size (fun _ => True) v0 l0) (h1 : Kd.R k52 52 W w.heap.size (fun _ => True) v1 l1) (gm : w0.heap.size ≤ bm) (wm : bm < w.heap.size)
    (hm : W.heap[bm]? = some (.cells #[.int .u64 m] 28 (0, 0))) (hc : W.heap[bc]? = some (.cells #[.int .i64 cpus] 3 (0, 0))) (hn : W.heap[bn]? = some (.cells #[.int .i64 nice] 3 (0, 0))) (hh : W.heap[bh]? = some (.cells #[.int .i64 0, .int .i64 0] 27 (0, 0))) :
    Put w0 w W ((W.drewN n).setCell ⟨bm, 0, none⟩ (.int .u64 m1)) P bm bc bn bh cpus nice m1 v0 v1 l0 l1 := by
  have hne : ∀ {k : Nat}, k ≠ bm → ((W.drewN n).setCell ⟨bm, 0, none⟩ (.int .u64 m1)).heap[k]? = W.heap[k]? := fun {k} hk => Below.heap_setCell (W.drewN n) ⟨bm, 0, none⟩ _ k hk
  refine ⟨?_, ?_, fun k _ hk => hne hk, ?_, ?_, (hne (by omega)).trans hP, blk_put (blk_drewN hm n) 0 _ rfl, (hne (blk_ne hc hm (by decide))).trans hc, (hne (blk_ne hn hm (by decide))).trans hn, (hne (blk_ne hh hm (by decide))).trans hh⟩
  · exact below_set (pw_below_drewN (HB0.trans (Below.lower HB HB0.size)) n) gm
  · simp
  · exact Kd.R_mono (Kd.R_step (Kd.R_bound h0) (fun k hk _ => hne (by have := hk.2.1; omega))) (fun _ _ => trivial)
  · exact Kd.R_mono (Kd.R_step (Kd.R_bound h1) (fun k hk _ => hne (by have := hk.2.1; omega))) (fun _ _ => trivial)
theorem put_turned {w0 w W W1 : World} {P bm bc bn bh : Nat} {cpus nice m : Int} {v0 v1 : Value} {l0 : List Int} {l1 : List S52} (p : Put w0 w W W1 P bm bc bn bh cpus nice m v0 v1 l0 l1) (wm : bm < w.heap.size) : Turned w0 w W W1 v0 v1 :=
  ⟨p.below, p.size, fun k hk1 hk2 _ _ => p.keep k hk2 (by omega)⟩
theorem put_kept {w0 w W W1 : World} {P bm bc bn bh : Nat} {cpus nice m : Int} {v0 v1 : Value} {l0 : List Int} {l1 : List S52} (p : Put w0 w W W1 P bm bc bn bh cpus nice m v0 v1 l0 l1) (hb : Below w.heap.size w W) : ∀ k, k < w.heap.size → k ≠ bm → k ≠ bh → W1.heap[k]? = w.heap[k]? :=
  fun k hk hm _ => (p.keep k (Nat.lt_of_lt_of_le hk hb.size) hm).trans (hb.block k hk)
def findMay : List Int → Nat → Option (Option Nat)
  | [], _ => some none
  | x :: l, i => (life_May.f x 0).bind fun b => if b = true then some (some i) else findMay l (i + 1)
set_option maxRecDepth 100000 in
set_option maxHeartbeats 8000000 in
theorem create1_n1 (w0 w W : World) (P bm bc bn bh : Nat) (cpus nice m : Int) (v0 v1 : Value) (l0 : List Int) (l1 : List S52) (HB0 : Below w0.heap.size w0 w) (HL : Ld w0) (HB : Below w.heap.size w W) (hP : W.heap[P]? = some (.cells #[v0, v1] 73 (0, 0))) (hPw : w.heap.size ≤ P)
    (h0 : Kd.R (Kd.int .u64) 28 W w.heap.size (fun _ => True) v0 l0) (h1 : Kd.R k52 52 W w.heap.size (fun _ => True) v1 l1)
    (gm : w0.heap.size ≤ bm) (gh : w0.heap.size ≤ bh) (wm : bm < w.heap.size) (wh : bh < w.heap.size)
    (hm : W.heap[bm]? = some (.cells #[.int .u64 m] 28 (0, 0))) (hc : W.heap[bc]? = some (.cells #[.int .i64 cpus] 3 (0, 0))) (hn : W.heap[bn]? = some (.cells #[.int .i64 nice] 3 (0, 0))) (hh : W.heap[bh]? = some (.cells #[.int .i64 0, .int .i64 0] 27 (0, 0)))
    (al : Int) (hal : mask_All.f cpus = some al) (c : Int) (is : Bool) (hfi : mask_First.f (bits .and .u64 m al) = some (c, is))
    (c1 : cpus < 1) :
    Calls Tryd.prog 34 #[.pointer (some ⟨P, 0, none⟩), .pointer (some ⟨bm, 0, none⟩), .pointer (some ⟨bc, 0, none⟩), .pointer (some ⟨bn, 0, none⟩), .pointer (some ⟨bh, 0, none⟩)] W fun e w' => e = .panicked [faultE 1] ∧ Turned w0 w W w' v0 v1 ∧ w'.heap[bh]? = some (.cells #[.int .i64 0, .int .i64 0] 27 (0, 0)) ∧ ∀ k, k < w.heap.size → k ≠ bm → k ≠ bh → w'.heap[k]? = w.heap[k]? := by
  have d0 : decide (cpus < 1) = true := decide_eq_true c1
  clear c1
  have XHB := Aside0.mk HB
  have XHL := Aside0.mk HL
  have XhP := Aside0.mk hP
  have Xh0 := Aside0.mk h0
  have Xh1 := Aside0.mk h1
  have Xhm := Aside0.mk hm
  have Xhc := Aside0.mk hc
  have Xhn := Aside0.mk hn
  have Xhh := Aside0.mk hh
  have Xhal := Aside0.mk hal
  have Xhfi := Aside0.mk hfi
  have XHB0 := Aside0.mk HB0
  have Xgm := Aside0.mk gm
  have Xgh := Aside0.mk gh
  have Xwm := Aside0.mk wm
  have Xwh := Aside0.mk wh
  have XhPw := Aside0.mk hPw
  have ym : W.cell? ⟨bm, 0, none⟩ = some (.int .u64 m) := (blk_cell hm 0).trans rfl
  have yc : W.cell? ⟨bc, 0, none⟩ = some (.int .i64 cpus) := (blk_cell hc 0).trans rfl
  have fm := blk_frozen hm 0
  clear HB HL hP h0 h1 hm hc hn hh hal hfi HB0 gm gh wm wh hPw
  go_enter Tryd.func34, Tryd.ntmps34
  go_wp2
  go_region_with (go_at_call 35; refine (mask_All.calls cpus al _ Xhal.out).mono ?_; rintro e w' ⟨rfl, nd, rfl⟩)
  all_goals
    have p1 := put_made w0 w W (1 + nd) P bm bc bn bh cpus nice m (bits .and .u64 m al) _ _ l0 l1 XHB0.out XHB.out XhP.out XhPw.out Xh0.out Xh1.out Xgm.out Xwm.out Xhm.out Xhc.out Xhn.out Xhh.out
    generalize (W.drewN (1 + nd)).setCell ⟨bm, 0, none⟩ (.int .u64 (bits .and .u64 m al)) = W1 at p1 ⊢
    have z1 : W1.cell? ⟨bm, 0, none⟩ = some (.int .u64 (bits .and .u64 m al)) := (blk_cell p1.m 0).trans rfl
    have P1 := Aside0.mk p1
    clear p1 ym yc fm
    clear Xhm Xhc Xhn Xhh XhP Xh0 Xh1
    go_wp2_with (first | (go_at_call 36; fail))
    refine (mask_First.calls (bits .and .u64 m al) c _ _ (Ld.below XHL.out P1.out.below) Xhfi.out).mono ?_
    rintro e w2 ⟨rfl, hb⟩
    have P2 := Aside0.mk (P1.out.step hb)
    clear hb P1 z1
    have zc : w2.cell? ⟨bc, 0, none⟩ = some (.int .i64 cpus) := (blk_cell P2.out.c 0).trans rfl
    have zn : w2.cell? ⟨bn, 0, none⟩ = some (.int .i64 nice) := (blk_cell P2.out.n 0).trans rfl
    go_wp2_with (first | (go_at_call 37; refine (must_er 1 (by decide) _).mono ?_; rintro e w3 ⟨rfl, rfl⟩))
    exact ⟨rfl, rfl, put_turned P2.out Xwm.out, P2.out.h, put_kept P2.out XHB.out⟩
set_option maxRecDepth 100000 in
set_option maxHeartbeats 8000000 in
theorem create1_n2 (w0 w W : World) (P bm bc bn bh : Nat) (cpus nice m : Int) (v0 v1 : Value) (l0 : List Int) (l1 : List S52) (HB0 : Below w0.heap.size w0 w) (HL : Ld w0) (HB : Below w.heap.size w W) (hP : W.heap[P]? = some (.cells #[v0, v1] 73 (0, 0))) (hPw : w.heap.size ≤ P)
    (h0 : Kd.R (Kd.int .u64) 28 W w.heap.size (fun _ => True) v0 l0) (h1 : Kd.R k52 52 W w.heap.size (fun _ => True) v1 l1)
    (gm : w0.heap.size ≤ bm) (gh : w0.heap.size ≤ bh) (wm : bm < w.heap.size) (wh : bh < w.heap.size)
    (hm : W.heap[bm]? = some (.cells #[.int .u64 m] 28 (0, 0))) (hc : W.heap[bc]? = some (.cells #[.int .i64 cpus] 3 (0, 0))) (hn : W.heap[bn]? = some (.cells #[.int .i64 nice] 3 (0, 0))) (hh : W.heap[bh]? = some (.cells #[.int .i64 0, .int .i64 0] 27 (0, 0)))
    (al : Int) (hal : mask_All.f cpus = some al) (c : Int) (is : Bool) (hfi : mask_First.f (bits .and .u64 m al) = some (c, is))
    (c1 : ¬ cpus < 1) (c2 : 64 < cpus) :
    Calls Tryd.prog 34 #[.pointer (some ⟨P, 0, none⟩), .pointer (some ⟨bm, 0, none⟩), .pointer (some ⟨bc, 0, none⟩), .pointer (some ⟨bn, 0, none⟩), .pointer (some ⟨bh, 0, none⟩)] W fun e w' => e = .panicked [faultE 1] ∧ Turned w0 w W w' v0 v1 ∧ w'.heap[bh]? = some (.cells #[.int .i64 0, .int .i64 0] 27 (0, 0)) ∧ ∀ k, k < w.heap.size → k ≠ bm → k ≠ bh → w'.heap[k]? = w.heap[k]? := by
  have d0 : decide (cpus < 1) = false := decide_eq_false c1
  have d1 : decide (64 < cpus) = true := decide_eq_true c2
  clear c1 c2
  have XHB := Aside0.mk HB
  have XHL := Aside0.mk HL
  have XhP := Aside0.mk hP
  have Xh0 := Aside0.mk h0
  have Xh1 := Aside0.mk h1
  have Xhm := Aside0.mk hm
  have Xhc := Aside0.mk hc
  have Xhn := Aside0.mk hn
  have Xhh := Aside0.mk hh
  have Xhal := Aside0.mk hal
  have Xhfi := Aside0.mk hfi
  have XHB0 := Aside0.mk HB0
  have Xgm := Aside0.mk gm
  have Xgh := Aside0.mk gh
  have Xwm := Aside0.mk wm
  have Xwh := Aside0.mk wh
  have XhPw := Aside0.mk hPw
  have ym : W.cell? ⟨bm, 0, none⟩ = some (.int .u64 m) := (blk_cell hm 0).trans rfl
  have yc : W.cell? ⟨bc, 0, none⟩ = some (.int .i64 cpus) := (blk_cell hc 0).trans rfl
  have fm := blk_frozen hm 0
  clear HB HL hP h0 h1 hm hc hn hh hal hfi HB0 gm gh wm wh hPw
  go_enter Tryd.func34, Tryd.ntmps34
  go_wp2
  go_region_with (go_at_call 35; refine (mask_All.calls cpus al _ Xhal.out).mono ?_; rintro e w' ⟨rfl, nd, rfl⟩)
  all_goals
    have p1 := put_made w0 w W (1 + nd) P bm bc bn bh cpus nice m (bits .and .u64 m al) _ _ l0 l1 XHB0.out XHB.out XhP.out XhPw.out Xh0.out Xh1.out Xgm.out Xwm.out Xhm.out Xhc.out Xhn.out Xhh.out
    generalize (W.drewN (1 + nd)).setCell ⟨bm, 0, none⟩ (.int .u64 (bits .and .u64 m al)) = W1 at p1 ⊢
    have z1 : W1.cell? ⟨bm, 0, none⟩ = some (.int .u64 (bits .and .u64 m al)) := (blk_cell p1.m 0).trans rfl
    have P1 := Aside0.mk p1
    clear p1 ym yc fm
    clear Xhm Xhc Xhn Xhh XhP Xh0 Xh1
    go_wp2_with (first | (go_at_call 36; fail))
    refine (mask_First.calls (bits .and .u64 m al) c _ _ (Ld.below XHL.out P1.out.below) Xhfi.out).mono ?_
    rintro e w2 ⟨rfl, hb⟩
    have P2 := Aside0.mk (P1.out.step hb)
    clear hb P1 z1
    have zc : w2.cell? ⟨bc, 0, none⟩ = some (.int .i64 cpus) := (blk_cell P2.out.c 0).trans rfl
    have zn : w2.cell? ⟨bn, 0, none⟩ = some (.int .i64 nice) := (blk_cell P2.out.n 0).trans rfl
    go_wp2_with (first | (go_at_call 37; refine (must_er 1 (by decide) _).mono ?_; rintro e w3 ⟨rfl, rfl⟩))
    exact ⟨rfl, rfl, put_turned P2.out Xwm.out, P2.out.h, put_kept P2.out XHB.out⟩
set_option maxRecDepth 100000 in
set_option maxHeartbeats 8000000 in
theorem create1_n3 (w0 w W : World) (P bm bc bn bh : Nat) (cpus nice m : Int) (v0 v1 : Value) (l0 : List Int) (l1 : List S52) (HB0 : Below w0.heap.size w0 w) (HL : Ld w0) (HB : Below w.heap.size w W) (hP : W.heap[P]? = some (.cells #[v0, v1] 73 (0, 0))) (hPw : w.heap.size ≤ P)
    (h0 : Kd.R (Kd.int .u64) 28 W w.heap.size (fun _ => True) v0 l0) (h1 : Kd.R k52 52 W w.heap.size (fun _ => True) v1 l1)
    (gm : w0.heap.size ≤ bm) (gh : w0.heap.size ≤ bh) (wm : bm < w.heap.size) (wh : bh < w.heap.size)
    (hm : W.heap[bm]? = some (.cells #[.int .u64 m] 28 (0, 0))) (hc : W.heap[bc]? = some (.cells #[.int .i64 cpus] 3 (0, 0))) (hn : W.heap[bn]? = some (.cells #[.int .i64 nice] 3 (0, 0))) (hh : W.heap[bh]? = some (.cells #[.int .i64 0, .int .i64 0] 27 (0, 0)))
    (al : Int) (hal : mask_All.f cpus = some al) (c : Int) (is : Bool) (hfi : mask_First.f (bits .and .u64 m al) = some (c, is))
    (c1 : ¬ cpus < 1) (c2 : ¬ 64 < cpus) (c3 : nice < -20) :
    Calls Tryd.prog 34 #[.pointer (some ⟨P, 0, none⟩), .pointer (some ⟨bm, 0, none⟩), .pointer (some ⟨bc, 0, none⟩), .pointer (some ⟨bn, 0, none⟩), .pointer (some ⟨bh, 0, none⟩)] W fun e w' => e = .panicked [faultE 1] ∧ Turned w0 w W w' v0 v1 ∧ w'.heap[bh]? = some (.cells #[.int .i64 0, .int .i64 0] 27 (0, 0)) ∧ ∀ k, k < w.heap.size → k ≠ bm → k ≠ bh → w'.heap[k]? = w.heap[k]? := by
  have d0 : decide (cpus < 1) = false := decide_eq_false c1
  have d1 : decide (64 < cpus) = false := decide_eq_false c2
  have d2 : decide (nice < -20) = true := decide_eq_true c3
  clear c1 c2 c3
  have XHB := Aside0.mk HB
  have XHL := Aside0.mk HL
  have XhP := Aside0.mk hP
  have Xh0 := Aside0.mk h0
  have Xh1 := Aside0.mk h1
  have Xhm := Aside0.mk hm
  have Xhc := Aside0.mk hc
  have Xhn := Aside0.mk hn
  have Xhh := Aside0.mk hh
  have Xhal := Aside0.mk hal
  have Xhfi := Aside0.mk hfi
  have XHB0 := Aside0.mk HB0
  have Xgm := Aside0.mk gm
  have Xgh := Aside0.mk gh
  have Xwm := Aside0.mk wm
  have Xwh := Aside0.mk wh
  have XhPw := Aside0.mk hPw
  have ym : W.cell? ⟨bm, 0, none⟩ = some (.int .u64 m) := (blk_cell hm 0).trans rfl
  have yc : W.cell? ⟨bc, 0, none⟩ = some (.int .i64 cpus) := (blk_cell hc 0).trans rfl
  have fm := blk_frozen hm 0
  clear HB HL hP h0 h1 hm hc hn hh hal hfi HB0 gm gh wm wh hPw
  go_enter Tryd.func34, Tryd.ntmps34
  go_wp2
  go_region_with (go_at_call 35; refine (mask_All.calls cpus al _ Xhal.out).mono ?_; rintro e w' ⟨rfl, nd, rfl⟩)
  all_goals
    have p1 := put_made w0 w W (1 + nd) P bm bc bn bh cpus nice m (bits .and .u64 m al) _ _ l0 l1 XHB0.out XHB.out XhP.out XhPw.out Xh0.out Xh1.out Xgm.out Xwm.out Xhm.out Xhc.out Xhn.out Xhh.out
    generalize (W.drewN (1 + nd)).setCell ⟨bm, 0, none⟩ (.int .u64 (bits .and .u64 m al)) = W1 at p1 ⊢
    have z1 : W1.cell? ⟨bm, 0, none⟩ = some (.int .u64 (bits .and .u64 m al)) := (blk_cell p1.m 0).trans rfl
    have P1 := Aside0.mk p1
    clear p1 ym yc fm
    clear Xhm Xhc Xhn Xhh XhP Xh0 Xh1
    go_wp2_with (first | (go_at_call 36; fail))
    refine (mask_First.calls (bits .and .u64 m al) c _ _ (Ld.below XHL.out P1.out.below) Xhfi.out).mono ?_
    rintro e w2 ⟨rfl, hb⟩
    have P2 := Aside0.mk (P1.out.step hb)
    clear hb P1 z1
    have zc : w2.cell? ⟨bc, 0, none⟩ = some (.int .i64 cpus) := (blk_cell P2.out.c 0).trans rfl
    have zn : w2.cell? ⟨bn, 0, none⟩ = some (.int .i64 nice) := (blk_cell P2.out.n 0).trans rfl
    go_wp2_with (first | (go_at_call 37; refine (must_er 1 (by decide) _).mono ?_; rintro e w3 ⟨rfl, rfl⟩))
    exact ⟨rfl, rfl, put_turned P2.out Xwm.out, P2.out.h, put_kept P2.out XHB.out⟩
set_option maxRecDepth 100000 in
set_option maxHeartbeats 8000000 in
theorem create1_n4 (w0 w W : World) (P bm bc bn bh : Nat) (cpus nice m : Int) (v0 v1 : Value) (l0 : List Int) (l1 : List S52) (HB0 : Below w0.heap.size w0 w) (HL : Ld w0) (HB : Below w.heap.size w W) (hP : W.heap[P]? = some (.cells #[v0, v1] 73 (0, 0))) (hPw : w.heap.size ≤ P)
    (h0 : Kd.R (Kd.int .u64) 28 W w.heap.size (fun _ => True) v0 l0) (h1 : Kd.R k52 52 W w.heap.size (fun _ => True) v1 l1)
    (gm : w0.heap.size ≤ bm) (gh : w0.heap.size ≤ bh) (wm : bm < w.heap.size) (wh : bh < w.heap.size)
    (hm : W.heap[bm]? = some (.cells #[.int .u64 m] 28 (0, 0))) (hc : W.heap[bc]? = some (.cells #[.int .i64 cpus] 3 (0, 0))) (hn : W.heap[bn]? = some (.cells #[.int .i64 nice] 3 (0, 0))) (hh : W.heap[bh]? = some (.cells #[.int .i64 0, .int .i64 0] 27 (0, 0)))
    (al : Int) (hal : mask_All.f cpus = some al) (c : Int) (is : Bool) (hfi : mask_First.f (bits .and .u64 m al) = some (c, is))
    (c1 : ¬ cpus < 1) (c2 : ¬ 64 < cpus) (c3 : ¬ nice < -20) (c4 : 19 < nice) :
    Calls Tryd.prog 34 #[.pointer (some ⟨P, 0, none⟩), .pointer (some ⟨bm, 0, none⟩), .pointer (some ⟨bc, 0, none⟩), .pointer (some ⟨bn, 0, none⟩), .pointer (some ⟨bh, 0, none⟩)] W fun e w' => e = .panicked [faultE 1] ∧ Turned w0 w W w' v0 v1 ∧ w'.heap[bh]? = some (.cells #[.int .i64 0, .int .i64 0] 27 (0, 0)) ∧ ∀ k, k < w.heap.size → k ≠ bm → k ≠ bh → w'.heap[k]? = w.heap[k]? := by
  have d0 : decide (cpus < 1) = false := decide_eq_false c1
  have d1 : decide (64 < cpus) = false := decide_eq_false c2
  have d2 : decide (nice < -20) = false := decide_eq_false c3
  have d3 : decide (19 < nice) = true := decide_eq_true c4
  clear c1 c2 c3 c4
  have XHB := Aside0.mk HB
  have XHL := Aside0.mk HL
  have XhP := Aside0.mk hP
  have Xh0 := Aside0.mk h0
  have Xh1 := Aside0.mk h1
  have Xhm := Aside0.mk hm
  have Xhc := Aside0.mk hc
  have Xhn := Aside0.mk hn
  have Xhh := Aside0.mk hh
  have Xhal := Aside0.mk hal
  have Xhfi := Aside0.mk hfi
  have XHB0 := Aside0.mk HB0
  have Xgm := Aside0.mk gm
  have Xgh := Aside0.mk gh
  have Xwm := Aside0.mk wm
  have Xwh := Aside0.mk wh
  have XhPw := Aside0.mk hPw
  have ym : W.cell? ⟨bm, 0, none⟩ = some (.int .u64 m) := (blk_cell hm 0).trans rfl
  have yc : W.cell? ⟨bc, 0, none⟩ = some (.int .i64 cpus) := (blk_cell hc 0).trans rfl
  have fm := blk_frozen hm 0
  clear HB HL hP h0 h1 hm hc hn hh hal hfi HB0 gm gh wm wh hPw
  go_enter Tryd.func34, Tryd.ntmps34
  go_wp2
  go_region_with (go_at_call 35; refine (mask_All.calls cpus al _ Xhal.out).mono ?_; rintro e w' ⟨rfl, nd, rfl⟩)
  all_goals
    have p1 := put_made w0 w W (1 + nd) P bm bc bn bh cpus nice m (bits .and .u64 m al) _ _ l0 l1 XHB0.out XHB.out XhP.out XhPw.out Xh0.out Xh1.out Xgm.out Xwm.out Xhm.out Xhc.out Xhn.out Xhh.out
    generalize (W.drewN (1 + nd)).setCell ⟨bm, 0, none⟩ (.int .u64 (bits .and .u64 m al)) = W1 at p1 ⊢
    have z1 : W1.cell? ⟨bm, 0, none⟩ = some (.int .u64 (bits .and .u64 m al)) := (blk_cell p1.m 0).trans rfl
    have P1 := Aside0.mk p1
    clear p1 ym yc fm
    clear Xhm Xhc Xhn Xhh XhP Xh0 Xh1
    go_wp2_with (first | (go_at_call 36; fail))
    refine (mask_First.calls (bits .and .u64 m al) c _ _ (Ld.below XHL.out P1.out.below) Xhfi.out).mono ?_
    rintro e w2 ⟨rfl, hb⟩
    have P2 := Aside0.mk (P1.out.step hb)
    clear hb P1 z1
    have zc : w2.cell? ⟨bc, 0, none⟩ = some (.int .i64 cpus) := (blk_cell P2.out.c 0).trans rfl
    have zn : w2.cell? ⟨bn, 0, none⟩ = some (.int .i64 nice) := (blk_cell P2.out.n 0).trans rfl
    go_wp2_with (first | (go_at_call 37; refine (must_er 1 (by decide) _).mono ?_; rintro e w3 ⟨rfl, rfl⟩))
    exact ⟨rfl, rfl, put_turned P2.out Xwm.out, P2.out.h, put_kept P2.out XHB.out⟩
set_option maxRecDepth 100000 in
set_option maxHeartbeats 8000000 in
theorem create1_n5 (w0 w W : World) (P bm bc bn bh : Nat) (cpus nice m : Int) (v0 v1 : Value) (l0 : List Int) (l1 : List S52) (HB0 : Below w0.heap.size w0 w) (HL : Ld w0) (HB : Below w.heap.size w W) (hP : W.heap[P]? = some (.cells #[v0, v1] 73 (0, 0))) (hPw : w.heap.size ≤ P)
    (h0 : Kd.R (Kd.int .u64) 28 W w.heap.size (fun _ => True) v0 l0) (h1 : Kd.R k52 52 W w.heap.size (fun _ => True) v1 l1)
    (gm : w0.heap.size ≤ bm) (gh : w0.heap.size ≤ bh) (wm : bm < w.heap.size) (wh : bh < w.heap.size)
    (hm : W.heap[bm]? = some (.cells #[.int .u64 m] 28 (0, 0))) (hc : W.heap[bc]? = some (.cells #[.int .i64 cpus] 3 (0, 0))) (hn : W.heap[bn]? = some (.cells #[.int .i64 nice] 3 (0, 0))) (hh : W.heap[bh]? = some (.cells #[.int .i64 0, .int .i64 0] 27 (0, 0)))
    (al : Int) (hal : mask_All.f cpus = some al) (c : Int) (is : Bool) (hfi : mask_First.f (bits .and .u64 m al) = some (c, is))
    (c1 : ¬ cpus < 1) (c2 : ¬ 64 < cpus) (c3 : ¬ nice < -20) (c4 : ¬ 19 < nice) (c5 : is = false) :
    Calls Tryd.prog 34 #[.pointer (some ⟨P, 0, none⟩), .pointer (some ⟨bm, 0, none⟩), .pointer (some ⟨bc, 0, none⟩), .pointer (some ⟨bn, 0, none⟩), .pointer (some ⟨bh, 0, none⟩)] W fun e w' => e = .panicked [faultE 1] ∧ Turned w0 w W w' v0 v1 ∧ w'.heap[bh]? = some (.cells #[.int .i64 0, .int .i64 0] 27 (0, 0)) ∧ ∀ k, k < w.heap.size → k ≠ bm → k ≠ bh → w'.heap[k]? = w.heap[k]? := by
  subst c5
  have d0 : decide (cpus < 1) = false := decide_eq_false c1
  have d1 : decide (64 < cpus) = false := decide_eq_false c2
  have d2 : decide (nice < -20) = false := decide_eq_false c3
  have d3 : decide (19 < nice) = false := decide_eq_false c4
  clear c1 c2 c3 c4
  have XHB := Aside0.mk HB
  have XHL := Aside0.mk HL
  have XhP := Aside0.mk hP
  have Xh0 := Aside0.mk h0
  have Xh1 := Aside0.mk h1
  have Xhm := Aside0.mk hm
  have Xhc := Aside0.mk hc
  have Xhn := Aside0.mk hn
  have Xhh := Aside0.mk hh
  have Xhal := Aside0.mk hal
  have Xhfi := Aside0.mk hfi
  have XHB0 := Aside0.mk HB0
  have Xgm := Aside0.mk gm
  have Xgh := Aside0.mk gh
  have Xwm := Aside0.mk wm
  have Xwh := Aside0.mk wh
  have XhPw := Aside0.mk hPw
  have ym : W.cell? ⟨bm, 0, none⟩ = some (.int .u64 m) := (blk_cell hm 0).trans rfl
  have yc : W.cell? ⟨bc, 0, none⟩ = some (.int .i64 cpus) := (blk_cell hc 0).trans rfl
  have fm := blk_frozen hm 0
  clear HB HL hP h0 h1 hm hc hn hh hal hfi HB0 gm gh wm wh hPw
  go_enter Tryd.func34, Tryd.ntmps34
  go_wp2
  go_region_with (go_at_call 35; refine (mask_All.calls cpus al _ Xhal.out).mono ?_; rintro e w' ⟨rfl, nd, rfl⟩)
  all_goals
    have p1 := put_made w0 w W (1 + nd) P bm bc bn bh cpus nice m (bits .and .u64 m al) _ _ l0 l1 XHB0.out XHB.out XhP.out XhPw.out Xh0.out Xh1.out Xgm.out Xwm.out Xhm.out Xhc.out Xhn.out Xhh.out
    generalize (W.drewN (1 + nd)).setCell ⟨bm, 0, none⟩ (.int .u64 (bits .and .u64 m al)) = W1 at p1 ⊢
    have z1 : W1.cell? ⟨bm, 0, none⟩ = some (.int .u64 (bits .and .u64 m al)) := (blk_cell p1.m 0).trans rfl
    have P1 := Aside0.mk p1
    clear p1 ym yc fm
    clear Xhm Xhc Xhn Xhh XhP Xh0 Xh1
    go_wp2_with (first | (go_at_call 36; fail))
    refine (mask_First.calls (bits .and .u64 m al) c _ _ (Ld.below XHL.out P1.out.below) Xhfi.out).mono ?_
    rintro e w2 ⟨rfl, hb⟩
    have P2 := Aside0.mk (P1.out.step hb)
    clear hb P1 z1
    have zc : w2.cell? ⟨bc, 0, none⟩ = some (.int .i64 cpus) := (blk_cell P2.out.c 0).trans rfl
    have zn : w2.cell? ⟨bn, 0, none⟩ = some (.int .i64 nice) := (blk_cell P2.out.n 0).trans rfl
    go_wp2_with (first | (go_at_call 37; refine (must_er 1 (by decide) _).mono ?_; rintro e w3 ⟨rfl, rfl⟩))
    exact ⟨rfl, rfl, put_turned P2.out Xwm.out, P2.out.h, put_kept P2.out XHB.out⟩
set_option maxRecDepth 100000 in
set_option maxHeartbeats 8000000 in
theorem create1_full (w0 w W : World) (P bm bc bn bh : Nat) (cpus nice m : Int) (v0 v1 : Value) (l0 : List Int) (l1 : List S52) (HB0 : Below w0.heap.size w0 w) (HL : Ld w0) (HB : Below w.heap.size w W) (hP : W.heap[P]? = some (.cells #[v0, v1] 73 (0, 0))) (hPw : w.heap.size ≤ P)
    (h0 : Kd.R (Kd.int .u64) 28 W w.heap.size (fun _ => True) v0 l0) (h1 : Kd.R k52 52 W w.heap.size (fun _ => True) v1 l1)
    (gm : w0.heap.size ≤ bm) (gh : w0.heap.size ≤ bh) (wm : bm < w.heap.size) (wh : bh < w.heap.size)
    (hm : W.heap[bm]? = some (.cells #[.int .u64 m] 28 (0, 0))) (hc : W.heap[bc]? = some (.cells #[.int .i64 cpus] 3 (0, 0))) (hn : W.heap[bn]? = some (.cells #[.int .i64 nice] 3 (0, 0))) (hh : W.heap[bh]? = some (.cells #[.int .i64 0, .int .i64 0] 27 (0, 0)))
    (al : Int) (hal : mask_All.f cpus = some al) (c : Int) (is : Bool) (hfi : mask_First.f (bits .and .u64 m al) = some (c, is))
    (c1 : ¬ cpus < 1) (c2 : ¬ 64 < cpus) (c3 : ¬ nice < -20) (c4 : ¬ 19 < nice) (c5 : is = true) (hlm : l0.length ≤ 64) (hf : findMay l0 0 = some none) :
    Calls Tryd.prog 34 #[.pointer (some ⟨P, 0, none⟩), .pointer (some ⟨bm, 0, none⟩), .pointer (some ⟨bc, 0, none⟩), .pointer (some ⟨bn, 0, none⟩), .pointer (some ⟨bh, 0, none⟩)] W fun e w' => e = .panicked [faultE 5] ∧ Turned w0 w W w' v0 v1 ∧ w'.heap[bh]? = some (.cells #[.int .i64 0, .int .i64 0] 27 (0, 0)) ∧ ∀ k, k < w.heap.size → k ≠ bm → k ≠ bh → w'.heap[k]? = w.heap[k]? := by
  subst c5
  have d0 : decide (cpus < 1) = false := decide_eq_false c1
  have d1 : decide (64 < cpus) = false := decide_eq_false c2
  have d2 : decide (nice < -20) = false := decide_eq_false c3
  have d3 : decide (19 < nice) = false := decide_eq_false c4
  clear c1 c2 c3 c4
  have XLM := Aside0.mk hlm
  have Xf := Aside0.mk hf
  clear hlm hf
  have XHB := Aside0.mk HB
  have XHL := Aside0.mk HL
  have XhP := Aside0.mk hP
  have Xh0 := Aside0.mk h0
  have Xh1 := Aside0.mk h1
  have Xhm := Aside0.mk hm
  have Xhc := Aside0.mk hc
  have Xhn := Aside0.mk hn
  have Xhh := Aside0.mk hh
  have Xhal := Aside0.mk hal
  have Xhfi := Aside0.mk hfi
  have XHB0 := Aside0.mk HB0
  have Xgm := Aside0.mk gm
  have Xgh := Aside0.mk gh
  have Xwm := Aside0.mk wm
  have Xwh := Aside0.mk wh
  have XhPw := Aside0.mk hPw
  have ym : W.cell? ⟨bm, 0, none⟩ = some (.int .u64 m) := (blk_cell hm 0).trans rfl
  have yc : W.cell? ⟨bc, 0, none⟩ = some (.int .i64 cpus) := (blk_cell hc 0).trans rfl
  have fm := blk_frozen hm 0
  clear HB HL hP h0 h1 hm hc hn hh hal hfi HB0 gm gh wm wh hPw
  go_enter Tryd.func34, Tryd.ntmps34
  go_wp2
  go_region_with (go_at_call 35; refine (mask_All.calls cpus al _ Xhal.out).mono ?_; rintro e w' ⟨rfl, nd, rfl⟩)
  all_goals
    have p1 := put_made w0 w W (1 + nd) P bm bc bn bh cpus nice m (bits .and .u64 m al) _ _ l0 l1 XHB0.out XHB.out XhP.out XhPw.out Xh0.out Xh1.out Xgm.out Xwm.out Xhm.out Xhc.out Xhn.out Xhh.out
    generalize (W.drewN (1 + nd)).setCell ⟨bm, 0, none⟩ (.int .u64 (bits .and .u64 m al)) = W1 at p1 ⊢
    have z1 : W1.cell? ⟨bm, 0, none⟩ = some (.int .u64 (bits .and .u64 m al)) := (blk_cell p1.m 0).trans rfl
    have P1 := Aside0.mk p1
    clear p1 ym yc fm
    clear Xhm Xhc Xhn Xhh XhP Xh0 Xh1
    go_wp2_with (first | (go_at_call 36; fail))
    refine (mask_First.calls (bits .and .u64 m al) c _ _ (Ld.below XHL.out P1.out.below) Xhfi.out).mono ?_
    rintro e w2 ⟨rfl, hb⟩
    have P2 := Aside0.mk (P1.out.step hb)
    clear hb P1 z1
    have zc : w2.cell? ⟨bc, 0, none⟩ = some (.int .i64 cpus) := (blk_cell P2.out.c 0).trans rfl
    have zn : w2.cell? ⟨bn, 0, none⟩ = some (.int .i64 nice) := (blk_cell P2.out.n 0).trans rfl
    obtain ⟨A0', a0, rfl⟩ := Kd.R_slice P2.out.r0
    have z0 : w2.cell? ⟨P, 0, none⟩ = some (.slice A0' l0.length a0) := (blk_cell P2.out.P 0).trans rfl
    go_wp2
    go_loopg [44] (l0.length + 1) (fun kq v44 w' => ∃ i : Int, v44 = .int .i64 i ∧ Aside0 (0 ≤ i ∧ i ≤ l0.length ∧ kq + i.toNat = l0.length + 1 ∧ findMay (l0.drop i.toNat) i.toNat = some none) ∧ Aside0 (Put w0 w W w' P bm bc bn bh cpus nice (bits .and .u64 m al) (.slice A0' l0.length a0) v1 l0 l1))
    case atStart => exact ⟨0, rfl, ⟨Int.le_refl 0, by omega, by simp, by simpa using Xf.out⟩, P2⟩
    case round =>
      obtain ⟨i, rfl, HA, P3⟩ := hrel
      clear zc zn z0 P2
      by_cases c3 : i < (l0.length : Int)
      · have c3b0 : decide (i < (l0.length : Int)) = true := decide_eq_true c3
        obtain ⟨g, cap, e, hg0, hg1, cells, hgc⟩ := Kd.R_form P3.out.r0 (by have := HA.out; omega)
        injection e with e1 e2 e3
        subst e1 e3
        clear e2 hg0 hg1 hgc
        have hcc := (Kd.R_celln (n := l0.length) 0 P3.out.r0 i HA.out.1 c3).1
        have p194 := eq_true HA.out.1
        have q194 := eq_true c3
        have hnl : i.toNat < l0.length := by have := HA.out; omega
        have hfm : (life_May.f (rdOf 0 l0 i) 0).bind (fun b => if b = true then some (some i.toNat) else findMay (l0.drop (i.toNat + 1)) (i.toNat + 1)) = some none := by
          have h_ := HA.out.2.2.2
          rw [List.drop_eq_getElem_cons hnl] at h_
          have e_ : rdOf 0 l0 i = l0[i.toNat] := by simp [rdOf, hnl]
          rw [e_]
          exact h_
        obtain ⟨b, hb, hfm⟩ := Option.bind_eq_some_iff.1 hfm
        have HMAY := Aside0.mk hb
        have HFM := Aside0.mk hfm
        have C3 := Aside0.mk c3
        have HNL := Aside0.mk hnl
        clear hb hfm c3 hnl
        cases b with
        | false =>
          go_wp2_with (first | (go_at_call 38; refine (life_May.calls _ 0 false _ (Ld.below XHL.out P3.out.below) HMAY.out).mono ?_; rintro e w5 ⟨rfl, hb⟩; have P5 := Aside0.mk (P3.out.step hb); clear hb))
          go_roundg (gk - 1)
          case measure => have := HA.out; have := C3.out; omega
          case rel =>
            have h1_ := HA.out
            have h2_ := C3.out
            have h3_ := XLM.out
            have e_ : wrap64 (i + 1) = i + 1 := by unfold wrap64; omega
            have e2_ : (i + 1).toNat = i.toNat + 1 := by omega
            refine ⟨wrap64 (i + 1), rfl, ⟨by omega, by omega, by rw [e_, e2_]; omega, ?_⟩, P5⟩
            rw [e_, e2_]
            have h4_ := HFM.out
            rwa [if_neg (by decide)] at h4_
        | true =>
          exact absurd HFM.out (by simp)
      · have c3b0 : decide (i < (l0.length : Int)) = false := decide_eq_false c3
        go_wp2_with (first | (go_at_call 37; refine (must_er 5 (by decide) _).mono ?_; rintro e w3 ⟨rfl, rfl⟩))
        exact ⟨rfl, rfl, put_turned P3.out Xwm.out, P3.out.h, put_kept P3.out XHB.out⟩
set_option maxRecDepth 100000 in
set_option maxHeartbeats 8000000 in
theorem create1_ok (w0 w W : World) (P bm bc bn bh : Nat) (cpus nice m : Int) (v0 v1 : Value) (l0 : List Int) (l1 : List S52) (HB0 : Below w0.heap.size w0 w) (HL : Ld w0) (HB : Below w.heap.size w W) (hP : W.heap[P]? = some (.cells #[v0, v1] 73 (0, 0))) (hPw : w.heap.size ≤ P)
    (h0 : Kd.R (Kd.int .u64) 28 W w.heap.size (fun _ => True) v0 l0) (h1 : Kd.R k52 52 W w.heap.size (fun _ => True) v1 l1)
    (gm : w0.heap.size ≤ bm) (gh : w0.heap.size ≤ bh) (wm : bm < w.heap.size) (wh : bh < w.heap.size)
    (hm : W.heap[bm]? = some (.cells #[.int .u64 m] 28 (0, 0))) (hc : W.heap[bc]? = some (.cells #[.int .i64 cpus] 3 (0, 0))) (hn : W.heap[bn]? = some (.cells #[.int .i64 nice] 3 (0, 0))) (hh : W.heap[bh]? = some (.cells #[.int .i64 0, .int .i64 0] 27 (0, 0)))
    (al : Int) (hal : mask_All.f cpus = some al) (c : Int) (is : Bool) (hfi : mask_First.f (bits .and .u64 m al) = some (c, is))
    (c1 : ¬ cpus < 1) (c2 : ¬ 64 < cpus) (c3 : ¬ nice < -20) (c4 : ¬ 19 < nice) (c5 : is = true) (hlm : l0.length ≤ 64) (hl1 : l1.length = l0.length) (n : Nat) (hnl : n < l0.length) (hf : findMay l0 0 = some (some n)) (x gn : Int) (hx : life_Next.f (rdOf 0 l0 (n : Int)) 0 c = some (x, 0)) (hgn : packed_Gen.f x = some gn) :
    Calls Tryd.prog 34 #[.pointer (some ⟨P, 0, none⟩), .pointer (some ⟨bm, 0, none⟩), .pointer (some ⟨bc, 0, none⟩), .pointer (some ⟨bn, 0, none⟩), .pointer (some ⟨bh, 0, none⟩)] W fun e w' => e = .returned (.tuple #[]) ∧ Kd.R (Kd.int .u64) 28 w' w.heap.size (fun _ => True) v0 (l0.set n x) ∧ Kd.R k52 52 w' w.heap.size (fun _ => True) v1 (l1.set n ⟨nice, bits .and .u64 m al, 0⟩) ∧ Turned w0 w W w' v0 v1 ∧ w'.heap[bh]? = some (.cells #[.int .i64 (n : Int), .int .i64 gn] 27 (0, 0)) ∧ ∀ k, k < w.heap.size → k ≠ bm → k ≠ bh → w'.heap[k]? = w.heap[k]? := by
  obtain ⟨g, a0, rfl, _, _, _, _⟩ := Kd.R_form h0 (by omega)
  obtain ⟨g1, a1, rfl, _, _, _, _⟩ := Kd.R_form h1 (by omega)
  subst c5
  have d0 : decide (cpus < 1) = false := decide_eq_false c1
  have d1 : decide (64 < cpus) = false := decide_eq_false c2
  have d2 : decide (nice < -20) = false := decide_eq_false c3
  have d3 : decide (19 < nice) = false := decide_eq_false c4
  clear c1 c2 c3 c4
  have XLM := Aside0.mk hlm
  have Xf := Aside0.mk hf
  have XHL1 := Aside0.mk hl1
  have XN := Aside0.mk hx
  have XG := Aside0.mk hgn
  have XNL := Aside0.mk hnl
  clear hlm hf hl1 hx hgn hnl
  have XHB := Aside0.mk HB
  have XHL := Aside0.mk HL
  have XhP := Aside0.mk hP
  have Xh0 := Aside0.mk h0
  have Xh1 := Aside0.mk h1
  have Xhm := Aside0.mk hm
  have Xhc := Aside0.mk hc
  have Xhn := Aside0.mk hn
  have Xhh := Aside0.mk hh
  have Xhal := Aside0.mk hal
  have Xhfi := Aside0.mk hfi
  have XHB0 := Aside0.mk HB0
  have Xgm := Aside0.mk gm
  have Xgh := Aside0.mk gh
  have Xwm := Aside0.mk wm
  have Xwh := Aside0.mk wh
  have XhPw := Aside0.mk hPw
  have ym : W.cell? ⟨bm, 0, none⟩ = some (.int .u64 m) := (blk_cell hm 0).trans rfl
  have yc : W.cell? ⟨bc, 0, none⟩ = some (.int .i64 cpus) := (blk_cell hc 0).trans rfl
  have fm := blk_frozen hm 0
  clear HB HL hP h0 h1 hm hc hn hh hal hfi HB0 gm gh wm wh hPw
  go_enter Tryd.func34, Tryd.ntmps34
  go_wp2
  go_region_with (go_at_call 35; refine (mask_All.calls cpus al _ Xhal.out).mono ?_; rintro e w' ⟨rfl, nd, rfl⟩)
  all_goals
    have p1 := put_made w0 w W (1 + nd) P bm bc bn bh cpus nice m (bits .and .u64 m al) _ _ l0 l1 XHB0.out XHB.out XhP.out XhPw.out Xh0.out Xh1.out Xgm.out Xwm.out Xhm.out Xhc.out Xhn.out Xhh.out
    generalize (W.drewN (1 + nd)).setCell ⟨bm, 0, none⟩ (.int .u64 (bits .and .u64 m al)) = W1 at p1 ⊢
    have z1 : W1.cell? ⟨bm, 0, none⟩ = some (.int .u64 (bits .and .u64 m al)) := (blk_cell p1.m 0).trans rfl
    have P1 := Aside0.mk p1
    clear p1 ym yc fm
    clear Xhm Xhc Xhn Xhh XhP Xh0 Xh1
    go_wp2_with (first | (go_at_call 36; fail))
    refine (mask_First.calls (bits .and .u64 m al) c _ _ (Ld.below XHL.out P1.out.below) Xhfi.out).mono ?_
    rintro e w2 ⟨rfl, hb⟩
    have P2 := Aside0.mk (P1.out.step hb)
    clear hb P1 z1
    have zc : w2.cell? ⟨bc, 0, none⟩ = some (.int .i64 cpus) := (blk_cell P2.out.c 0).trans rfl
    have zn : w2.cell? ⟨bn, 0, none⟩ = some (.int .i64 nice) := (blk_cell P2.out.n 0).trans rfl
    have z0 : w2.cell? ⟨P, 0, none⟩ = some (.slice (some ⟨g, 0, none⟩) l0.length a0) := (blk_cell P2.out.P 0).trans rfl
    go_wp2
    go_loopg [44] (l0.length + 1) (fun kq v44 w' => ∃ i : Int, v44 = .int .i64 i ∧ Aside0 (0 ≤ i ∧ i ≤ l0.length ∧ kq + i.toNat = l0.length + 1 ∧ findMay (l0.drop i.toNat) i.toNat = some (some n)) ∧ Aside0 (Put w0 w W w' P bm bc bn bh cpus nice (bits .and .u64 m al) (.slice (some ⟨g, 0, none⟩) l0.length a0) (.slice (some ⟨g1, 0, none⟩) l1.length a1) l0 l1))
    case atStart => exact ⟨0, rfl, ⟨Int.le_refl 0, by omega, by simp, by simpa using Xf.out⟩, P2⟩
    case round =>
      obtain ⟨i, rfl, HA, P3⟩ := hrel
      clear zc zn z0 P2
      by_cases c3 : i < (l0.length : Int)
      · have c3b0 : decide (i < (l0.length : Int)) = true := decide_eq_true c3
        have hcc := (Kd.R_celln (n := l0.length) 0 P3.out.r0 i HA.out.1 c3).1
        have p194 := eq_true HA.out.1
        have q194 := eq_true c3
        have hnl : i.toNat < l0.length := by have := HA.out; omega
        have hfm : (life_May.f (rdOf 0 l0 i) 0).bind (fun b => if b = true then some (some i.toNat) else findMay (l0.drop (i.toNat + 1)) (i.toNat + 1)) = some (some n) := by
          have h_ := HA.out.2.2.2
          rw [List.drop_eq_getElem_cons hnl] at h_
          have e_ : rdOf 0 l0 i = l0[i.toNat] := by simp [rdOf, hnl]
          rw [e_]
          exact h_
        obtain ⟨b, hb, hfm⟩ := Option.bind_eq_some_iff.1 hfm
        have HMAY := Aside0.mk hb
        have HFM := Aside0.mk hfm
        have C3 := Aside0.mk c3
        have HNL := Aside0.mk hnl
        clear hb hfm c3 hnl
        cases b with
        | false =>
          go_wp2_with (first | (go_at_call 38; refine (life_May.calls _ 0 false _ (Ld.below XHL.out P3.out.below) HMAY.out).mono ?_; rintro e w5 ⟨rfl, hb⟩; have P5 := Aside0.mk (P3.out.step hb); clear hb))
          go_roundg (gk - 1)
          case measure => have := HA.out; have := C3.out; omega
          case rel =>
            have h1_ := HA.out
            have h2_ := C3.out
            have h3_ := XLM.out
            have e_ : wrap64 (i + 1) = i + 1 := by unfold wrap64; omega
            have e2_ : (i + 1).toNat = i.toNat + 1 := by omega
            refine ⟨wrap64 (i + 1), rfl, ⟨by omega, by omega, by rw [e_, e2_]; omega, ?_⟩, P5⟩
            rw [e_, e2_]
            have h4_ := HFM.out
            rwa [if_neg (by decide)] at h4_
        | true =>
          have hin : i.toNat = n := by
            have h_ := HFM.out
            rw [if_pos rfl] at h_
            exact Option.some.inj (Option.some.inj h_)
          have hnx : life_Next.f (rdOf 0 l0 i) 0 c = some (x, 0) := by
            have e_ : rdOf 0 l0 i = rdOf 0 l0 (n : Int) := by simp only [rdOf]; rw [hin]; simp
            rw [e_]; exact XN.out
          have HNX := Aside0.mk hnx
          have HIN := Aside0.mk hin
          clear hin hnx
          go_wp2_with (first | (go_at_call 38; refine (life_May.calls _ 0 true _ (Ld.below XHL.out P3.out.below) HMAY.out).mono ?_; rintro e w5 ⟨rfl, hb⟩; have P5 := Aside0.mk (P3.out.step hb); clear hb) | (go_at_call 39; fail))
          refine (goes_ok w0 w5 P i 0 c _ _ l0 (fun _ => True) P5.out.below XHL.out P5.out.P (Kd.R_lower P5.out.r0 XHB0.out.size) (of_eq_true p194) C3.out x HNX.out).mono ?_
          rintro e w6 ⟨rfl, k1, k2, k3⟩
          have k2' : Kd.R (Kd.int .u64) 28 w6 w.heap.size (fun _ => True) (.slice (some ⟨g, 0, none⟩) l0.length a0) (l0.set i.toNat x) := Kd.R_raise (b := w0.heap.size) (fun _ _ _ _ h => h) k2 (fun k hk => Kd.R_base P5.out.r0 k hk)
          have hP6 := blk_grown P5.out.P k3 (Kd.R_ne P5.out.r0 P5.out.P (by decide))
          have hn6 := blk_grown P5.out.n k3 (Kd.R_ne P5.out.r0 P5.out.n (by decide))
          have hh6 := blk_grown P5.out.h k3 (Kd.R_ne P5.out.r0 P5.out.h (by decide))
          have hm6 := blk_grown P5.out.m k3 (fun he => by have := Kd.R_base P5.out.r0 _ he.symm; have := Xwm.out; omega)
          have r16 := Kd.R_over P5.out.r1 P5.out.r0 (by decide) k3
          have f1 : w6.cell? ⟨P, 1, none⟩ = some (.slice (some ⟨g1, 0, none⟩) l1.length a1) := (blk_cell hP6 1).trans rfl
          have fn : w6.cell? ⟨bn, 0, none⟩ = some (.int .i64 nice) := (blk_cell hn6 0).trans rfl
          have fm : w6.cell? ⟨bm, 0, none⟩ = some (.int .u64 (bits .and .u64 m al)) := (blk_cell hm6 0).trans rfl
          have q294 : (i < (l1.length : Int)) = True := eq_true (by have := XHL1.out; have := C3.out; omega)
          obtain ⟨⟨y, m0, m1, m2⟩, ⟨n0, n1, n2⟩, hput⟩ := k52_at r16 i (of_eq_true p194) (of_eq_true q294)
          replace hput := hput ⟨nice, bits .and .u64 m al, 0⟩
          have hg1 : w.heap.size ≤ g1 := Kd.R_base P5.out.r1 g1 rfl
          have b7 := below_drew (below_set (j := i.toNat * 3 + 2) (v := .int .i64 0) (below_set (j := i.toNat * 3 + 1) (v := .int .u64 (bits .and .u64 m al)) (below_set (j := i.toNat * 3) (v := .int .i64 nice) k1 (Nat.le_trans XHB0.out.size hg1)) (Nat.le_trans XHB0.out.size hg1)) (Nat.le_trans XHB0.out.size hg1))
          have r07 := Kd.R_drew (Kd.R_over k2' r16 (by decide) hput.2)
          have r17 := Kd.R_drew hput.1
          have hP7 := blk_drew (blk_grown hP6 hput.2 (Kd.R_ne r16 hP6 (by decide)))
          have hh7 := blk_drew (blk_grown hh6 hput.2 (Kd.R_ne r16 hh6 (by decide)))
          have sz7 : W.heap.size ≤ ((((w6.setCell ⟨g1, i.toNat * 3, none⟩ (.int .i64 nice)).setCell ⟨g1, i.toNat * 3 + 1, none⟩ (.int .u64 (bits .and .u64 m al))).setCell ⟨g1, i.toNat * 3 + 2, none⟩ (.int .i64 0)).drew).heap.size := Nat.le_trans P5.out.size (Nat.le_trans k3.size hput.2.size)
          have kp7 : ∀ k, k < W.heap.size → k ≠ bm → some k ≠ some g → some k ≠ some g1 → ((((w6.setCell ⟨g1, i.toNat * 3, none⟩ (.int .i64 nice)).setCell ⟨g1, i.toNat * 3 + 1, none⟩ (.int .u64 (bits .and .u64 m al))).setCell ⟨g1, i.toNat * 3 + 2, none⟩ (.int .i64 0)).drew).heap[k]? = W.heap[k]? := fun k hk2 hkm hk3 hk4 => by
            have l1_ := Nat.lt_of_lt_of_le hk2 P5.out.size
            exact (hput.2.block k (Nat.lt_of_lt_of_le l1_ k3.size) hk4).trans ((k3.block k l1_ hk3).trans (P5.out.keep k hk2 hkm))
          have B7 := Aside0.mk b7
          have R07 := Aside0.mk r07
          have R17 := Aside0.mk r17
          have HP7 := Aside0.mk hP7
          have HH7 := Aside0.mk hh7
          have SZ7 := Aside0.mk sz7
          have KP7 := Aside0.mk kp7
          clear b7 r07 r17 hP7 hh7 sz7 kp7 k1 k2 k3 k2' hP6 hn6 hh6 hm6 r16 hput hg1 P5
          go_wp2
          go_region
          generalize ((((w6.setCell ⟨g1, i.toNat * 3, none⟩ (.int .i64 nice)).setCell ⟨g1, i.toNat * 3 + 1, none⟩ (.int .u64 (bits .and .u64 m al))).setCell ⟨g1, i.toNat * 3 + 2, none⟩ (.int .i64 0)).drew) = w7 at B7 R07 R17 HP7 HH7 SZ7 KP7 ⊢
          clear f1 fn fm m0 m1 m2 n0 n1 n2
          have z7 : w7.cell? ⟨P, 0, none⟩ = some (.slice (some ⟨g, 0, none⟩) l0.length a0) := (blk_cell HP7.out 0).trans rfl
          have x7 : w7.cell? ⟨g, i.toNat, none⟩ = some (.int .u64 x) := by
            have h_ := (Kd.R_celln (n := l0.length) 0 R07.out i (of_eq_true p194) C3.out).1
            have e_ : rdOf 0 (l0.set i.toNat x) i = x := by
              have := HNL.out
              simp [rdOf, this]
            rw [e_] at h_
            exact h_
          go_wp2_with (first | (go_at_call 40; fail))
          refine (packed_Gen.calls x gn _ (Ld.below XHL.out B7.out) XG.out).mono ?_
          rintro e w8 ⟨rfl, hb⟩
          have HH8 := Aside0.mk (blk_below HH7.out hb)
          have y0 : w8.cell? ⟨bh, 0, none⟩ = some (.int .i64 0) := (blk_cell HH8.out 0).trans rfl
          have y1 : w8.cell? ⟨bh, 1, none⟩ = some (.int .i64 0) := (blk_cell HH8.out 1).trans rfl
          have u0 := blk_frozen HH8.out 0
          have u1 := blk_frozen HH8.out 1
          have HB8 := Aside0.mk hb
          clear hb
          go_wp2
          refine bodyPost_ret (results_none rfl _ _ _) rfl ?_
          have ein : i = (n : Int) := by have := HIN.out; have := of_eq_true p194; omega
          have e0 := HIN.out
          refine ⟨rfl, ?_, ?_, ⟨?_, ?_, fun k hk1 hk2 hk3 hk4 => ?_⟩, ?_, fun k hk hkm hkh => ?_⟩
          · rw [← e0]
            exact Kd.R_set (Kd.R_set (Kd.R_below R07.out HB8.out) HH8.out (by decide) 0 _) (blk_put HH8.out 0 _ rfl) (by decide) 1 _
          · rw [← e0]
            exact Kd.R_set (Kd.R_set (Kd.R_below R17.out HB8.out) HH8.out (by decide) 0 _) (blk_put HH8.out 0 _ rfl) (by decide) 1 _
          · exact below_set (below_set (B7.out.trans (Below.lower HB8.out B7.out.size)) Xgh.out) Xgh.out
          · exact Nat.le_trans SZ7.out (Nat.le_trans HB8.out.size (by simp))
          · have hw := Xwh.out
            rw [Below.heap_setCell _ _ _ _ (by simp; omega), Below.heap_setCell _ _ _ _ (by simp; omega)]
            exact (HB8.out.block k (Nat.lt_of_lt_of_le hk2 SZ7.out)).trans (KP7.out k hk2 (by have := Xwm.out; omega) hk3 hk4)
          · rw [← ein]
            exact blk_put (blk_put HH8.out 0 _ rfl) 1 _ rfl
          · have hg_ := Kd.R_base R07.out g rfl
            have hg1_ := Kd.R_base R17.out g1 rfl
            have hkW := Nat.lt_of_lt_of_le hk XHB.out.size
            rw [Below.heap_setCell _ _ _ _ (by simp; omega), Below.heap_setCell _ _ _ _ (by simp; omega)]
            exact (HB8.out.block k (Nat.lt_of_lt_of_le hkW SZ7.out)).trans ((KP7.out k hkW hkm (by intro h_; injection h_; omega) (by intro h_; injection h_; omega)).trans (XHB.out.block k hk))
      · have c3b0 : decide (i < (l0.length : Int)) = false := decide_eq_false c3
        have h_ := HA.out.2.2.2
        rw [List.drop_eq_nil_of_le (by have := HA.out; omega)] at h_
        exact absurd h_ (by simp [findMay])
def createAt (l0 : List Int) (l1 : List S52) (nice m c : Int) : Option Nat → Option (List Int × List S52 × Int × Int × Int)
  | none => some ([], [], 0, 0, 5)
  | some i => (life_Next.f (rdOf 0 l0 (i : Int)) 0 c).bind fun x => if x.2 = 0 then (packed_Gen.f x.1).bind fun g => some (l0.set i x.1, l1.set i ⟨nice, m, 0⟩, (i : Int), g, 0) else none
def table_Create.f (l0 : List Int) (l1 : List S52) (cpus nice m : Int) : Option (List Int × List S52 × Int × Int × Int) :=
  (table_Right.f 100 l0 l1).bind fun t => if t = true then
    (mask_All.f cpus).bind fun al => (mask_First.f (bits .and .u64 m al)).bind fun c =>
      (if cpus < 1 then some ([], [], 0, 0, 1) else if 64 < cpus then some ([], [], 0, 0, 1) else if nice < -20 then some ([], [], 0, 0, 1) else if 19 < nice then some ([], [], 0, 0, 1) else if c.2 = false then some ([], [], 0, 0, 1) else
        (findMay l0 0).bind fun o => createAt l0 l1 nice (bits .and .u64 m al) c.1 o)
    else some ([], [], 0, 0, 4)
theorem find_lt : ∀ (l : List Int) (i n : Nat), findMay l i = some (some n) → i ≤ n ∧ n < i + l.length := by
  intro l
  induction l with
  | nil => intro i n h; simp [findMay] at h
  | cons x l ih =>
    intro i n h
    unfold findMay at h
    obtain ⟨b, hb, h⟩ := Option.bind_eq_some_iff.1 h
    cases b with
    | true =>
      rw [if_pos rfl] at h
      obtain rfl : i = n := Option.some.inj (Option.some.inj h)
      simp
    | false =>
      rw [if_neg Bool.false_ne_true] at h
      have := ih (i + 1) n h
      simp only [List.length_cons]
      omega
set_option maxRecDepth 100000 in
set_option maxHeartbeats 4000000 in
theorem done_create (w0 w : World) (A0 A1 : Option Addr) (c0 c1 : Nat) (l0 : List Int) (l1 : List S52) (HB : Below w0.heap.size w0 w) (HL : Ld w0) (hr0 : Kd.C (Kd.int .u64) w A0 l0.length l0) (hc0 : l0.length ≤ c0) (hr1 : Kd.C k52 w A1 l1.length l1) (hc1 : l1.length ≤ c1)
    (bm bc bn bh : Nat) (cpus nice m : Int) (gm : w0.heap.size ≤ bm) (gh : w0.heap.size ≤ bh) (wm : bm < w.heap.size) (wh : bh < w.heap.size)
    (hm : w.heap[bm]? = some (.cells #[.int .u64 m] 28 (0, 0))) (hc : w.heap[bc]? = some (.cells #[.int .i64 cpus] 3 (0, 0))) (hn : w.heap[bn]? = some (.cells #[.int .i64 nice] 3 (0, 0))) (hh : w.heap[bh]? = some (.cells #[.int .i64 0, .int .i64 0] 27 (0, 0)))
    (r1 : List Int) (r2 : List S52) (r3 r4 r5 : Int) (h : table_Create.f l0 l1 cpus nice m = some (r1, r2, r3, r4, r5)) :
    Calls Tryd.prog 33 #[.agg #[.slice A0 l0.length c0, .slice A1 l1.length c1], .func (.func 34) #[] #[.pointer (some ⟨bm, 0, none⟩), .pointer (some ⟨bc, 0, none⟩), .pointer (some ⟨bn, 0, none⟩), .pointer (some ⟨bh, 0, none⟩)]] w fun e w' =>
      ∃ v0_ v1_ : Value, e = .returned (.tuple #[.agg #[v0_, v1_], .int .i64 r5]) ∧ Kd.R (Kd.int .u64) 28 w' w0.heap.size (fun _ => True) v0_ r1 ∧ Kd.R k52 52 w' w0.heap.size (fun _ => True) v1_ r2 ∧ Below w0.heap.size w0 w' ∧ w'.heap[bh]? = some (.cells #[.int .i64 r3, .int .i64 r4] 27 (0, 0)) ∧ ∀ k, k < w.heap.size → k ≠ bm → k ≠ bh → w'.heap[k]? = w.heap[k]? := by
  have hq : ∀ (args : Array Value) (W : World), (callFunc 34 args).run Tryd.prog W = .ok (.enter 34 args) W := fun args W => by kernel_rfl
  unfold table_Create.f at h
  obtain ⟨t, htr, h⟩ := Option.bind_eq_some_iff.1 h
  have erf : ∀ er : Int, er ≠ 0 → t = true → (([] : List Int), ([] : List S52), (0 : Int), (0 : Int), er) = (r1, r2, r3, r4, r5) →
      (∀ (P : Nat) (v0 v1 : Value) (W : World), Below w.heap.size w W → w.heap.size ≤ P → W.heap[P]? = some (.cells #[v0, v1] 73 (0, 0)) → Kd.R (Kd.int .u64) 28 W w.heap.size (fun _ => True) v0 l0 → Kd.R k52 52 W w.heap.size (fun _ => True) v1 l1 →
        Calls Tryd.prog 34 (#[.pointer (some ⟨P, 0, none⟩)] ++ #[.pointer (some ⟨bm, 0, none⟩), .pointer (some ⟨bc, 0, none⟩), .pointer (some ⟨bn, 0, none⟩), .pointer (some ⟨bh, 0, none⟩)]) W fun e w' => e = .panicked [faultE er] ∧ Turned w0 w W w' v0 v1 ∧ w'.heap[bh]? = some (.cells #[.int .i64 0, .int .i64 0] 27 (0, 0)) ∧ ∀ k, k < w.heap.size → k ≠ bm → k ≠ bh → w'.heap[k]? = w.heap[k]?) →
      Calls Tryd.prog 33 #[.agg #[.slice A0 l0.length c0, .slice A1 l1.length c1], .func (.func 34) #[] #[.pointer (some ⟨bm, 0, none⟩), .pointer (some ⟨bc, 0, none⟩), .pointer (some ⟨bn, 0, none⟩), .pointer (some ⟨bh, 0, none⟩)]] w fun e w' =>
        ∃ v0_ v1_ : Value, e = .returned (.tuple #[.agg #[v0_, v1_], .int .i64 r5]) ∧ Kd.R (Kd.int .u64) 28 w' w0.heap.size (fun _ => True) v0_ r1 ∧ Kd.R k52 52 w' w0.heap.size (fun _ => True) v1_ r2 ∧ Below w0.heap.size w0 w' ∧ w'.heap[bh]? = some (.cells #[.int .i64 r3, .int .i64 r4] 27 (0, 0)) ∧ ∀ k, k < w.heap.size → k ≠ bm → k ≠ bh → w'.heap[k]? = w.heap[k]? := by
    intro er hne htr' hrr hdo
    subst htr'
    simp only [Prod.mk.injEq] at hrr
    obtain ⟨rfl, rfl, rfl, rfl, rfl⟩ := hrr
    obtain ⟨hl0, hl1⟩ := right_len htr
    refine (done_er 100 w0 w A0 A1 c0 c1 l0 l1 HB HL hr0 hc0 hr1 hc1 htr hl0 (by omega) 34 hq _ er (fun W' => W'.heap[bh]? = some (.cells #[.int .i64 0, .int .i64 0] 27 (0, 0)) ∧ ∀ k, k < w.heap.size → k ≠ bm → k ≠ bh → W'.heap[k]? = w.heap[k]?) (fun W W' h1 h2 => ⟨(h1 bh wh).trans h2.1, fun k hk a b => (h1 k hk).trans (h2.2 k hk a b)⟩) ?_).mono ?_
    · intro P v0 v1 W hW hP hPc h0 h1
      refine (hdo P v0 v1 W hW hP hPc h0 h1).mono ?_
      rintro e w' ⟨he, hT, hx⟩
      exact ⟨he, hT, hx⟩
    · rintro e w' ⟨rfl, hb, hx, hy⟩
      exact ⟨_, _, rfl, Kd.R_nil _ _ _ _ _, Kd.R_nil _ _ _ _ _, hb, hx, hy⟩
  split at h
  · rename_i htt
    obtain ⟨al, hal, h⟩ := Option.bind_eq_some_iff.1 h
    obtain ⟨⟨c, is⟩, hfi, h⟩ := Option.bind_eq_some_iff.1 h
    by_cases c1' : cpus < 1
    · rw [if_pos c1'] at h
      exact erf 1 (by decide) htt (Option.some.inj h) (fun P v0 v1 W hW hP hPc h0 h1 => create1_n1 w0 w W P bm bc bn bh cpus nice m v0 v1 l0 l1 HB HL hW hPc hP h0 h1 gm gh wm wh (blk_below hm hW) (blk_below hc hW) (blk_below hn hW) (blk_below hh hW) al hal c is hfi c1')
    rw [if_neg c1'] at h
    by_cases c2' : 64 < cpus
    · rw [if_pos c2'] at h
      exact erf 1 (by decide) htt (Option.some.inj h) (fun P v0 v1 W hW hP hPc h0 h1 => create1_n2 w0 w W P bm bc bn bh cpus nice m v0 v1 l0 l1 HB HL hW hPc hP h0 h1 gm gh wm wh (blk_below hm hW) (blk_below hc hW) (blk_below hn hW) (blk_below hh hW) al hal c is hfi c1' c2')
    rw [if_neg c2'] at h
    by_cases c3' : nice < -20
    · rw [if_pos c3'] at h
      exact erf 1 (by decide) htt (Option.some.inj h) (fun P v0 v1 W hW hP hPc h0 h1 => create1_n3 w0 w W P bm bc bn bh cpus nice m v0 v1 l0 l1 HB HL hW hPc hP h0 h1 gm gh wm wh (blk_below hm hW) (blk_below hc hW) (blk_below hn hW) (blk_below hh hW) al hal c is hfi c1' c2' c3')
    rw [if_neg c3'] at h
    by_cases c4' : 19 < nice
    · rw [if_pos c4'] at h
      exact erf 1 (by decide) htt (Option.some.inj h) (fun P v0 v1 W hW hP hPc h0 h1 => create1_n4 w0 w W P bm bc bn bh cpus nice m v0 v1 l0 l1 HB HL hW hPc hP h0 h1 gm gh wm wh (blk_below hm hW) (blk_below hc hW) (blk_below hn hW) (blk_below hh hW) al hal c is hfi c1' c2' c3' c4')
    rw [if_neg c4'] at h
    cases is with
    | false =>
      rw [if_pos rfl] at h
      exact erf 1 (by decide) htt (Option.some.inj h) (fun P v0 v1 W hW hP hPc h0 h1 => create1_n5 w0 w W P bm bc bn bh cpus nice m v0 v1 l0 l1 HB HL hW hPc hP h0 h1 gm gh wm wh (blk_below hm hW) (blk_below hc hW) (blk_below hn hW) (blk_below hh hW) al hal c false hfi c1' c2' c3' c4' rfl)
    | true =>
      rw [if_neg (by simp)] at h
      obtain ⟨o, hf, h⟩ := Option.bind_eq_some_iff.1 h
      subst htt
      obtain ⟨hl0, hl1⟩ := right_len htr
      cases o with
      | none =>
        exact erf 5 (by decide) rfl (Option.some.inj h) (fun P v0 v1 W hW hP hPc h0 h1 => create1_full w0 w W P bm bc bn bh cpus nice m v0 v1 l0 l1 HB HL hW hPc hP h0 h1 gm gh wm wh (blk_below hm hW) (blk_below hc hW) (blk_below hn hW) (blk_below hh hW) al hal c true hfi c1' c2' c3' c4' rfl hl0 hf)
      | some n =>
        obtain ⟨⟨x, er⟩, hx, h⟩ := Option.bind_eq_some_iff.1 h
        by_cases c5' : er = 0
        · subst c5'
          rw [if_pos rfl] at h
          obtain ⟨gn, hgn, h⟩ := Option.bind_eq_some_iff.1 h
          simp only [Option.some.injEq, Prod.mk.injEq] at h
          obtain ⟨rfl, rfl, rfl, rfl, rfl⟩ := h
          have hnl := (find_lt l0 0 n hf).2
          refine (done_ok 100 w0 w A0 A1 c0 c1 l0 l1 HB HL hr0 hc0 hr1 hc1 htr hl0 (by omega) 34 hq _ (l0.set n x) (l1.set n ⟨nice, bits .and .u64 m al, 0⟩) (fun W' => W'.heap[bh]? = some (.cells #[.int .i64 (n : Int), .int .i64 gn] 27 (0, 0)) ∧ ∀ k, k < w.heap.size → k ≠ bm → k ≠ bh → W'.heap[k]? = w.heap[k]?) (fun W W' h1 h2 => ⟨(h1 bh wh).trans h2.1, fun k hk a b => (h1 k hk).trans (h2.2 k hk a b)⟩) ?_).mono ?_
          · intro P v0 v1 W hW hP hPc h0 h1
            refine (create1_ok w0 w W P bm bc bn bh cpus nice m v0 v1 l0 l1 HB HL hW hPc hP h0 h1 gm gh wm wh (blk_below hm hW) (blk_below hc hW) (blk_below hn hW) (blk_below hh hW) al hal c true hfi c1' c2' c3' c4' rfl hl0 hl1 n (by omega) hf x gn hx hgn).mono ?_
            rintro e w' ⟨he, h0', h1', hT, hX⟩
            exact ⟨he, h0', h1', hT, hX⟩
          · rintro e w' ⟨v0_, v1_, rfl, g0, g1, hb, hx, hy⟩
            exact ⟨_, _, rfl, g0, g1, hb, hx, hy⟩
        · have c6 : ¬ (x, er).2 = 0 := c5'
          rw [if_neg c6] at h
          exact absurd h (by simp)
  · rename_i htt
    obtain rfl : t = false := by simpa using htt
    simp only [Option.some.injEq, Prod.mk.injEq] at h
    obtain ⟨rfl, rfl, rfl, rfl, rfl⟩ := h
    refine (done_no 100 w0 w A0 A1 c0 c1 l0 l1 HB HL hr0 hc0 hr1 hc1 htr 34 _).mono ?_
    rintro e w' ⟨rfl, hb, hx⟩
    exact ⟨_, _, rfl, Kd.R_nil _ _ _ _ _, Kd.R_nil _ _ _ _ _, hb, (hx.block bh wh).trans hh, fun k hk _ _ => hx.block k hk⟩
theorem res17 (tmps : Array Value) (w : World) (B8 B9 : Nat) (a b : Value) (r3 r4 r5 : Int) (h8 : tmps.getD 8 undef = .pointer (some ⟨B8, 0, none⟩)) (h9 : tmps.getD 9 undef = .pointer (some ⟨B9, 0, none⟩)) (h10 : tmps.getD 10 undef = .int .i64 r5)
    (k8 : w.heap[B8]? = some (.cells #[a, b] 25 (0, 0))) (k9 : w.heap[B9]? = some (.cells #[.int .i64 r3, .int .i64 r4] 27 (0, 0))) : (results Tryd.f17 tmps).run Tryd.prog w = .ok (.tuple #[.agg #[a, b], .agg #[.int .i64 r3, .int .i64 r4], .int .i64 r5]) w := by
  have h1 : tmps[8]?.getD undef = .pointer (some ⟨B8, 0, none⟩) := by simpa using h8
  have h2 : tmps[9]?.getD undef = .pointer (some ⟨B9, 0, none⟩) := by simpa using h9
  have h3 : tmps[10]?.getD undef = .int .i64 r5 := by simpa using h10
  have hr : Tryd.f17.results = #[.cell 8 25, .cell 9 27, .tmp 10] := rfl
  simp [results, hr, h1, h2, h3, asAddr, run_loadVar_row w B8 25 25 _ (0, 0) _ k8 Tryd.underlying25 rfl (by kernel_rfl), run_loadVar_row w B9 27 27 _ (0, 0) _ k9 Tryd.underlying27 rfl (by kernel_rfl)]
/-- The boxes of Create. -/
def boxes (A0 A1 : Option Addr) (c0 c1 : Nat) (l0 : List Int) (l1 : List S52) (a1 a2 a3 : Int) (w : World) : World :=
  (((((w.alloc (.cells #[.slice A0 l0.length c0, .slice A1 l1.length c1] 25)).alloc (.cells #[.int .i64 a1] 3)).alloc (.cells #[.int .i64 a2] 3)).alloc (.cells #[.int .u64 a3] 28)).alloc (.cells #[.slice none 0 0, .slice none 0 0] 25)).alloc (.cells #[.int .i64 0, .int .i64 0] 27)
theorem boxes_at (A0 A1 : Option Addr) (c0 c1 : Nat) (l0 : List Int) (l1 : List S52) (a1 a2 a3 : Int) (w : World) :
    (boxes A0 A1 c0 c1 l0 l1 a1 a2 a3 w).heap.size = w.heap.size + 6 ∧ Below w.heap.size w (boxes A0 A1 c0 c1 l0 l1 a1 a2 a3 w) ∧ (boxes A0 A1 c0 c1 l0 l1 a1 a2 a3 w).heap[w.heap.size + 1]? = some (.cells #[.int .i64 a1] 3 (0, 0)) ∧ (boxes A0 A1 c0 c1 l0 l1 a1 a2 a3 w).heap[w.heap.size + 1 + 1]? = some (.cells #[.int .i64 a2] 3 (0, 0)) ∧ (boxes A0 A1 c0 c1 l0 l1 a1 a2 a3 w).heap[w.heap.size + 1 + 1 + 1]? = some (.cells #[.int .u64 a3] 28 (0, 0)) ∧ (boxes A0 A1 c0 c1 l0 l1 a1 a2 a3 w).heap[w.heap.size + 1 + 1 + 1 + 1]? = some (.cells #[.slice none 0 0, .slice none 0 0] 25 (0, 0)) ∧ (boxes A0 A1 c0 c1 l0 l1 a1 a2 a3 w).heap[w.heap.size + 1 + 1 + 1 + 1 + 1]? = some (.cells #[.int .i64 0, .int .i64 0] 27 (0, 0)) := by
  unfold boxes
  refine ⟨by simp only [World.size_alloc], by repeat (first | exact Below.refl _ _ | apply below_alloc), ?_, ?_, ?_, ?_, ?_⟩
  · have h := blk_alloc (blk_alloc (blk_alloc (blk_alloc (blk_new (w.alloc (.cells #[.slice A0 l0.length c0, .slice A1 l1.length c1] 25)) (.cells #[.int .i64 a1] 3)) (.cells #[.int .i64 a2] 3)) (.cells #[.int .u64 a3] 28)) (.cells #[.slice none 0 0, .slice none 0 0] 25)) (.cells #[.int .i64 0, .int .i64 0] 27)
    simpa only [World.size_alloc] using h
  · have h := blk_alloc (blk_alloc (blk_alloc (blk_new ((w.alloc (.cells #[.slice A0 l0.length c0, .slice A1 l1.length c1] 25)).alloc (.cells #[.int .i64 a1] 3)) (.cells #[.int .i64 a2] 3)) (.cells #[.int .u64 a3] 28)) (.cells #[.slice none 0 0, .slice none 0 0] 25)) (.cells #[.int .i64 0, .int .i64 0] 27)
    simpa only [World.size_alloc] using h
  · have h := blk_alloc (blk_alloc (blk_new (((w.alloc (.cells #[.slice A0 l0.length c0, .slice A1 l1.length c1] 25)).alloc (.cells #[.int .i64 a1] 3)).alloc (.cells #[.int .i64 a2] 3)) (.cells #[.int .u64 a3] 28)) (.cells #[.slice none 0 0, .slice none 0 0] 25)) (.cells #[.int .i64 0, .int .i64 0] 27)
    simpa only [World.size_alloc] using h
  · have h := blk_alloc (blk_new ((((w.alloc (.cells #[.slice A0 l0.length c0, .slice A1 l1.length c1] 25)).alloc (.cells #[.int .i64 a1] 3)).alloc (.cells #[.int .i64 a2] 3)).alloc (.cells #[.int .u64 a3] 28)) (.cells #[.slice none 0 0, .slice none 0 0] 25)) (.cells #[.int .i64 0, .int .i64 0] 27)
    simpa only [World.size_alloc] using h
  · have h := blk_new (((((w.alloc (.cells #[.slice A0 l0.length c0, .slice A1 l1.length c1] 25)).alloc (.cells #[.int .i64 a1] 3)).alloc (.cells #[.int .i64 a2] 3)).alloc (.cells #[.int .u64 a3] 28)).alloc (.cells #[.slice none 0 0, .slice none 0 0] 25)) (.cells #[.int .i64 0, .int .i64 0] 27)
    simpa only [World.size_alloc] using h
set_option maxRecDepth 100000 in
set_option maxHeartbeats 8000000 in
theorem table_Create.calls (A0 : Option Addr) (c0 : Nat) (l0 : List Int) (A1 : Option Addr) (c1 : Nat) (l1 : List S52) (a1 a2 a3 : Int) (r1 : List Int) (r2 : List S52) (r3 r4 r5 : Int) (w : World) (hr0 : Kd.C (Kd.int .u64) w A0 l0.length l0) (hc0 : l0.length ≤ c0) (hr1 : Kd.C k52 w A1 l1.length l1) (hc1 : l1.length ≤ c1) (HLd : Ld w)
    (h : table_Create.f l0 l1 a1 a2 a3 = some (r1, r2, r3, r4, r5)) :
    Calls Tryd.prog 17 #[.agg #[.slice A0 l0.length c0, .slice A1 l1.length c1], .int .i64 a1, .int .i64 a2, .int .u64 a3] w fun e w' => ∃ v0_ v1_ : Value, e = .returned (.tuple #[.agg #[v0_, v1_], .agg #[.int .i64 r3, .int .i64 r4], .int .i64 r5]) ∧ Kd.R (Kd.int .u64) 28 w' w.heap.size (fun _ => True) v0_ r1 ∧ Kd.R k52 52 w' w.heap.size (fun _ => True) v1_ r2 ∧ Below w.heap.size w w' := by
  have hmf : ∀ (fn : Fn) (first cap : Array Value) (w : World), (Instr.makeFunc fn first cap).run Tryd.prog w = .ok (.func fn first cap) w := fun _ _ _ _ => rfl
  have hu25 := Tryd.underlying25
  have hu27 := Tryd.underlying27
  have BX := Aside0.mk (boxes_at A0 A1 c0 c1 l0 l1 a1 a2 a3 w)
  have HC0 := Aside0.mk (Kd.C_below hr0 BX.out.2.1)
  have HC1 := Aside0.mk (Kd.C_below hr1 BX.out.2.1)
  have DC := Aside0.mk (done_create w _ A0 A1 c0 c1 l0 l1 BX.out.2.1 HLd HC0.out hc0 HC1.out hc1 (w.heap.size + 1 + 1 + 1) (w.heap.size + 1) (w.heap.size + 1 + 1) (w.heap.size + 1 + 1 + 1 + 1 + 1) a1 a2 a3 (by omega) (by omega) (by rw [BX.out.1]; omega) (by rw [BX.out.1]; omega) BX.out.2.2.2.2.1 BX.out.2.2.1 BX.out.2.2.2.1 BX.out.2.2.2.2.2.2 r1 r2 r3 r4 r5 h)
  unfold boxes at DC BX
  clear hr0 hr1 HLd h HC0 HC1
  go_enter Tryd.func17, Tryd.ntmps17
  go_wp2_with (first | (go_at_call 33; fail))
  refine DC.out.mono ?_
  rintro e w1 ⟨v0_, v1_, rfl, g0, g1, hb, hh, hx⟩
  have hk := (hx (w.heap.size + 1 + 1 + 1 + 1) (by rw [BX.out.1]; omega) (by omega) (by omega)).trans BX.out.2.2.2.2.2.1
  obtain ⟨Ao0, co0, rfl⟩ := Kd.R_slice g0
  obtain ⟨Ao1, co1, rfl⟩ := Kd.R_slice g1
  have z0 : w1.cell? ⟨w.heap.size + 1 + 1 + 1 + 1, 0, none⟩ = some (.slice none 0 0) := (blk_cell hk 0).trans rfl
  have z1 : w1.cell? ⟨w.heap.size + 1 + 1 + 1 + 1, 1, none⟩ = some (.slice none 0 0) := (blk_cell hk 1).trans rfl
  have z2 : w1.cell? ⟨w.heap.size + 1 + 1 + 1 + 1 + 1, 0, none⟩ = some (.int .i64 r3) := (blk_cell hh 0).trans rfl
  have z3 : w1.cell? ⟨w.heap.size + 1 + 1 + 1 + 1 + 1, 1, none⟩ = some (.int .i64 r4) := (blk_cell hh 1).trans rfl
  have f0 := blk_frozen hk 0
  have f1 := blk_frozen hk 1
  have f2 := blk_frozen hh 0
  have f3 := blk_frozen hh 1
  have GK := Aside0.mk hk
  have GH := Aside0.mk hh
  have G0 := Aside0.mk g0
  have G1 := Aside0.mk g1
  have GB := Aside0.mk hb
  clear g0 g1 hb hx hk hh DC BX
  go_wp2
  have kB := below_set (j := 1) (v := .slice Ao1 r2.length co1) (below_set (j := 0) (v := .slice Ao0 r1.length co0) GB.out (show w.heap.size ≤ w.heap.size + 1 + 1 + 1 + 1 by omega)) (show w.heap.size ≤ w.heap.size + 1 + 1 + 1 + 1 by omega)
  have k4 := blk_put (blk_put GK.out 0 (.slice Ao0 r1.length co0) rfl) 1 (.slice Ao1 r2.length co1) rfl
  have k5 := blk_far (p := ⟨w.heap.size + 1 + 1 + 1 + 1, 1, none⟩) (blk_far (p := ⟨w.heap.size + 1 + 1 + 1 + 1, 0, none⟩) GH.out (by simp) (.slice Ao0 r1.length co0)) (by simp) (.slice Ao1 r2.length co1)
  have kr0 := Kd.R_set (Kd.R_set G0.out GK.out (by decide) 0 (.slice Ao0 r1.length co0)) (blk_put GK.out 0 (.slice Ao0 r1.length co0) rfl) (by decide) 1 (.slice Ao1 r2.length co1)
  have kr1 := Kd.R_set (Kd.R_set G1.out GK.out (by decide) 0 (.slice Ao0 r1.length co0)) (blk_put GK.out 0 (.slice Ao0 r1.length co0) rfl) (by decide) 1 (.slice Ao1 r2.length co1)
  have b4 : w.heap.size ≤ w.heap.size + 1 + 1 + 1 + 1 := by omega
  have b5 : w.heap.size ≤ w.heap.size + 1 + 1 + 1 + 1 + 1 := by omega
  have n45 : w.heap.size + 1 + 1 + 1 + 1 ≠ w.heap.size + 1 + 1 + 1 + 1 + 1 := by omega
  clear z0 z1 z2 z3 f0 f1 f2 f3
  generalize (w1.setCell ⟨w.heap.size + 1 + 1 + 1 + 1, 0, none⟩ (Value.slice Ao0 r1.length co0)).setCell ⟨w.heap.size + 1 + 1 + 1 + 1, 1, none⟩ (Value.slice Ao1 r2.length co1) = W2 at kB k4 k5 kr0 kr1 ⊢
  clear GK GH G0 G1 GB
  generalize w.heap.size + 1 + 1 + 1 + 1 + 1 = B5 at *
  generalize w.heap.size + 1 + 1 + 1 + 1 = B4 at *
  have n54 := n45.symm
  have z0 : W2.cell? ⟨B4, 0, none⟩ = some (.slice Ao0 r1.length co0) := (blk_cell k4 0).trans rfl
  have z1 : W2.cell? ⟨B4, 1, none⟩ = some (.slice Ao1 r2.length co1) := (blk_cell k4 1).trans rfl
  have z2 : W2.cell? ⟨B5, 0, none⟩ = some (.int .i64 r3) := (blk_cell k5 0).trans rfl
  have z3 : W2.cell? ⟨B5, 1, none⟩ = some (.int .i64 r4) := (blk_cell k5 1).trans rfl
  have f0 := blk_frozen k4 0
  have f1 := blk_frozen k4 1
  have f2 := blk_frozen k5 0
  have f3 := blk_frozen k5 1
  have GK := Aside0.mk k4
  have GH := Aside0.mk k5
  have G0 := Aside0.mk kr0
  have G1 := Aside0.mk kr1
  have GB := Aside0.mk kB
  have X4 := Aside0.mk b4
  have X5 := Aside0.mk b5
  clear k4 k5 kr0 kr1 kB b4 b5
  go_region
  go_wp2
  have k4 := blk_far (p := ⟨B5, 1, none⟩) (blk_far (p := ⟨B5, 0, none⟩) (blk_put (blk_put GK.out 0 (.slice Ao0 r1.length co0) rfl) 1 (.slice Ao1 r2.length co1) rfl) n45 (.int .i64 r3)) n45 (.int .i64 r4)
  have j5 := blk_far (p := ⟨B4, 1, none⟩) (blk_far (p := ⟨B4, 0, none⟩) GH.out n54 (.slice Ao0 r1.length co0)) n54 (.slice Ao1 r2.length co1)
  have k5 := blk_put (blk_put j5 0 (.int .i64 r3) rfl) 1 (.int .i64 r4) rfl
  refine bodyPost_ret (res17 _ _ _ _ _ _ _ _ _ rfl rfl rfl (blk_drew k4) (blk_drew k5)) rfl ?_
  exact ⟨_, _, rfl, Kd.R_drew (Kd.R_set (Kd.R_set (Kd.R_set (Kd.R_set G0.out GK.out (by decide) 0 _) (blk_put GK.out 0 _ rfl) (by decide) 1 _) j5 (by decide) 0 _) (blk_put j5 0 _ rfl) (by decide) 1 _), Kd.R_drew (Kd.R_set (Kd.R_set (Kd.R_set (Kd.R_set G1.out GK.out (by decide) 0 _) (blk_put GK.out 0 _ rfl) (by decide) 1 _) j5 (by decide) 0 _) (blk_put j5 0 _ rfl) (by decide) 1 _), below_drew (below_set (below_set (below_set (below_set GB.out X4.out) X4.out) X5.out) X5.out)⟩
end Go.Proofs.YtdchbcpfciljoaaDoor.Given

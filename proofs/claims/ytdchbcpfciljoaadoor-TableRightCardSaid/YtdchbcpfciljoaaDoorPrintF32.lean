-- Written for this claim by a program out of the translation. Lean checks it.
import Derived.Test.YtdchbcpfciljoaaDoorPrint0
import Derived.StillTailTactics
import Derived.Deep.RegionHeld3
import Derived.Test.YtdchbcpfciljoaaDoorPrintE
import Derived.Test.YtdchbcpfciljoaaDoorPrintF27
import Derived.Test.YtdchbcpfciljoaaDoorPrintF28
import Derived.Test.YtdchbcpfciljoaaDoorPrintF29
namespace Go.Proofs.YtdchbcpfciljoaaDoor.Print
open Go.RowKit Go.Proofs.YtdchbcpfciljoaaDoor Go.Proofs.YtdchbcpfciljoaaDoor.Given Go.Proofs.YtdchbcpfciljoaaDoorW.PrintWords Go.Proofs.YtdchbcpfciljoaaDoorW.PrintLast Go.Proofs.YtdchbcpfciljoaaDoorW.PrintMore
attribute [local go_sem] max2_int min2_int max_two min_two max_three min_three max_four min_four   -- for this text's walks alone
set_option linter.unusedVariables false
set_option linter.unusedSimpArgs false

/-! ### turnspitlaw14_do: function 32 -/
def turnspitlaw14_do.f (k : Nat) (l0_0 : List Int) (l0_1 : List (S52)) (a1 : Int) : Option (List Int × (List (S52))) := if (Int.tmod a1 4) = 0 then ((turnspitref14_Create.f k l0_0 l0_1 8 (wrap64 ((Int.tmod (wrap64 (IntKind.u16.wrap (Int.tdiv a1 4))) 40) - 20)) (Int.tmod (IntKind.u64.wrap (IntKind.u16.wrap (Int.tdiv a1 64))) 256)).bind fun bt272 => (if bt272.2.2.2.2 = 0 then (some (bt272.1, bt272.2.1)) else (some (l0_0, l0_1)))) else (if (Int.tmod a1 32) = 1 then (if 0 ≤ (Int.tmod (wrap64 (Int.tdiv (wrap64 (a1)) 32)) 5) then (if (Int.tmod (wrap64 (Int.tdiv (wrap64 (a1)) 32)) 5) < (l0_0.length : Int) then ((turnspitref06_Gen.f (rd l0_0 (Int.tmod (wrap64 (Int.tdiv (wrap64 (a1)) 32)) 5))).bind fun t284 => ((turnspitref14_Exit.f k l0_0 l0_1 (Int.tmod (wrap64 (Int.tdiv (wrap64 (a1)) 32)) 5) t284).bind fun bt285 => (if bt285.2.2 = 0 then (some (bt285.1, bt285.2.1)) else (some (l0_0, l0_1))))) else (none)) else (none)) else ((turnspitref14_Step.f k l0_0 l0_1 (Int.tmod (wrap64 (Int.tdiv (wrap64 (a1)) 32)) 5) (Int.tmod (wrap64 (IntKind.u16.wrap (Int.tdiv a1 256))) 16) (Int.tmod (wrap64 (IntKind.u16.wrap (Int.tdiv a1 64))) 8)).bind fun bt293 => (if bt293.2.2 = 0 then (some (bt293.1, bt293.2.1)) else (some (l0_0, l0_1)))))
theorem turnspitlaw14_do.mono : ∀ a0 a1 a2 k, LeO (turnspitlaw14_do.f k a0 a1 a2) (turnspitlaw14_do.f (k + 1) a0 a1 a2) := by
  intro a0 a1 a2 k
  unfold turnspitlaw14_do.f
  repeat' first
      | (with_reducible exact turnspitref14_Create.mono _ _ _ _ _ _)
      | (with_reducible exact turnspitref14_Exit.mono _ _ _ _ _)
      | (with_reducible exact turnspitref14_Step.mono _ _ _ _ _ _)
      | (with_reducible exact LeO.refl _)
      | (with_reducible exact LeO.none _)
      | (with_reducible refine LeO.ite ?_ ?_)
      | (with_reducible refine LeO.bind ?_ (fun _ => ?_))
      | exact turnspitref14_Create.mono _ _ _ _ _ _
      | exact turnspitref14_Exit.mono _ _ _ _ _
      | exact turnspitref14_Step.mono _ _ _ _ _ _
      | exact LeO.none _
      | refine LeO.ite ?_ ?_
      | refine LeO.bind ?_ (fun _ => ?_)
theorem end32_ {w W : World} {gX gO : Nat} {v0 v1 u0 u1 : Value} (KX : W.heap[gX]? = some (.cells #[.slice none 0 0, .slice none 0 0] 25 (0, 0))) (KO : W.heap[gO]? = some (.cells #[.slice none 0 0, .slice none 0 0] 25 (0, 0))) (hne : gO ≠ gX) (HB : Below w.heap.size w W) (bX : w.heap.size ≤ gX) (bO : w.heap.size ≤ gO) :
    let W4 := (((W.setCell ⟨gX, 0, none⟩ v0).setCell ⟨gX, 1, none⟩ v1).setCell ⟨gO, 0, none⟩ u0).setCell ⟨gO, 1, none⟩ u1
    W4.heap[gO]? = some (.cells #[u0, u1] 25 (0, 0)) ∧ Below w.heap.size w W4 ∧ (∀ {base : Nat} {v : Value} {l : List Int}, Kd.R (Kd.int .u64) 28 W base (fun _ => True) v l → Kd.R (Kd.int .u64) 28 W4 base (fun _ => True) v l) ∧ (∀ {base : Nat} {v : Value} {l : List S52}, Kd.R k52 52 W base (fun _ => True) v l → Kd.R k52 52 W4 base (fun _ => True) v l) := by
  have x1 := blk_put KX 0 v0 rfl
  have o2 := blk_far (p := ⟨gX, 1, none⟩) (blk_far (p := ⟨gX, 0, none⟩) KO hne v0) hne v1
  have o3 := blk_put o2 0 u0 rfl
  exact ⟨blk_put o3 1 u1 rfl, below_set (below_set (below_set (below_set HB bX) bX) bO) bO, fun h => Kd.R_set (Kd.R_set (Kd.R_set (Kd.R_set h KX (by decide) 0 _) x1 (by decide) 1 _) o2 (by decide) 0 _) o3 (by decide) 1 _, fun h => Kd.R_set (Kd.R_set (Kd.R_set (Kd.R_set h KX (by decide) 0 _) x1 (by decide) 1 _) o2 (by decide) 0 _) o3 (by decide) 1 _⟩
set_option maxHeartbeats 8000000 in
set_option maxRecDepth 100000 in
theorem turnspitlaw14_do.calls (k : Nat) (A0_0 : Option Addr) (c0_0 : Nat) (l0_0 : List Int) (A0_1 : Option Addr) (c0_1 : Nat) (l0_1 : List (S52)) (a1 : Int) (r1 : List Int) (r2 : List (S52)) (w : World) (hr0_0 : Kd.C (Kd.int .u64) w A0_0 l0_0.length l0_0) (hc0_0 : l0_0.length ≤ c0_0) (hr0_1 : Kd.C k52 w A0_1 l0_1.length l0_1) (hc0_1 : l0_1.length ≤ c0_1) (HLd : Ld w) (h : turnspitlaw14_do.f k l0_0 l0_1 a1 = some (r1, r2)) :
    Calls Tryd.prog 32 #[.agg #[.slice A0_0 l0_0.length c0_0, .slice A0_1 l0_1.length c0_1], .int .u16 a1] w fun e w' => ∃ v0_ v1_ : Value, e = .returned (.agg #[v0_, v1_]) ∧ ((v0_ = .slice A0_0 l0_0.length c0_0 ∧ v1_ = .slice A0_1 l0_1.length c0_1 ∧ r1 = l0_0 ∧ r2 = l0_1) ∨ (Kd.R (Kd.int .u64) 28 w' w.heap.size (fun _ => True) v0_ r1 ∧ Kd.R k52 52 w' w.heap.size (fun _ => True) v1_ r2)) ∧ Below w.heap.size w w' := by
  have hu25 := Tryd.underlying25
  have hu27 := Tryd.underlying27
  have hu52 := Tryd.underlying52
  have HR0 := Aside0.mk hr0_0
  have HC0 := Aside0.mk hc0_0
  have HR1 := Aside0.mk hr0_1
  have HC1 := Aside0.mk hc0_1
  have HL := Aside0.mk HLd
  clear hr0_0 hc0_0 hr0_1 hc0_1 HLd
  unfold turnspitlaw14_do.f at h
  have H := h
  clear h
  by_cases c0 : (Int.tmod a1 4) = 0
  · rw [if_pos c0] at H
    have c0b : ((Int.tmod a1 4) == 0) = true := beq_iff_eq.mpr c0
    have c0d : ((Int.tmod a1 4) != 0) = false := bne_eq_false_iff_eq.mpr c0
    clear c0
    obtain ⟨⟨t1, t2, t3, t4, t5⟩, A5_, H⟩ := Option.bind_eq_some_iff.1 H
    have A5 := Aside0.mk A5_
    clear A5_
    go_enter Tryd.func32, Tryd.ntmps32
    go_wp2_with fail
    refine (turnspitref14_Create.calls k A0_0 c0_0 l0_0 A0_1 c0_1 l0_1 8 (wrap64 ((Int.tmod (wrap64 (IntKind.u16.wrap (Int.tdiv a1 4))) 40) - 20)) (Int.tmod (IntKind.u64.wrap (IntKind.u16.wrap (Int.tdiv a1 64))) 256) t1 t2 t3 t4 t5 _ (Kd.C_below HR0.out (below_alloc (below_alloc (below_alloc (Below.refl w.heap.size w) _) _) _)) HC0.out (Kd.C_below HR1.out (below_alloc (below_alloc (below_alloc (Below.refl w.heap.size w) _) _) _)) HC1.out (Ld.below HL.out (by exact (below_alloc (below_alloc (below_alloc (Below.refl w.heap.size w) _) _) _))) A5.out).mono ?_
    rintro e w1 ⟨vn0, vn1, rfl, ho0, ho1, hb⟩
    obtain ⟨An0, cn0, rfl⟩ := Kd.R_slice ho0
    obtain ⟨An1, cn1, rfl⟩ := Kd.R_slice ho1
    have Hn0 := Aside0.mk ho0
    have Hn1 := Aside0.mk ho1
    clear ho0 ho1
    have HB1 := Aside0.mk (below_step (below_alloc (below_alloc (below_alloc (Below.refl w.heap.size w) _) _) _) hb)
    have Kn_T : (w.alloc (.cells #[.slice A0_0 l0_0.length c0_0, .slice A0_1 l0_1.length c0_1] 25)).heap[w.heap.size]? = some (.cells #[.slice A0_0 l0_0.length c0_0, .slice A0_1 l0_1.length c0_1] 25 (0, 0)) := by have h_ := blk_new w (.cells #[.slice A0_0 l0_0.length c0_0, .slice A0_1 l0_1.length c0_1] 25); simpa only [World.size_alloc] using h_
    have Kn_O : ((w.alloc (.cells #[.slice A0_0 l0_0.length c0_0, .slice A0_1 l0_1.length c0_1] 25)).alloc (.cells #[.slice none 0 0, .slice none 0 0] 25)).heap[w.heap.size + 1]? = some (.cells #[.slice none 0 0, .slice none 0 0] 25 (0, 0)) := by have h_ := blk_new (w.alloc (.cells #[.slice A0_0 l0_0.length c0_0, .slice A0_1 l0_1.length c0_1] 25)) (.cells #[.slice none 0 0, .slice none 0 0] 25); simpa only [World.size_alloc] using h_
    have Kn_X : (((w.alloc (.cells #[.slice A0_0 l0_0.length c0_0, .slice A0_1 l0_1.length c0_1] 25)).alloc (.cells #[.slice none 0 0, .slice none 0 0] 25)).alloc (.cells #[.slice none 0 0, .slice none 0 0] 25)).heap[w.heap.size + 2]? = some (.cells #[.slice none 0 0, .slice none 0 0] 25 (0, 0)) := by have h_ := blk_new ((w.alloc (.cells #[.slice A0_0 l0_0.length c0_0, .slice A0_1 l0_1.length c0_1] 25)).alloc (.cells #[.slice none 0 0, .slice none 0 0] 25)) (.cells #[.slice none 0 0, .slice none 0 0] 25); simpa only [World.size_alloc] using h_
    have KT_ := Aside0.mk (blk_below (blk_alloc (blk_alloc Kn_T _) _) hb)
    have KO_ := Aside0.mk (blk_below (blk_alloc Kn_O _) hb)
    have KX_ := Aside0.mk (blk_below Kn_X hb)
    have KT := KT_
    clear KT_
    have KO := KO_
    clear KO_
    have KX := KX_
    clear KX_
    clear Kn_T
    clear Kn_O
    clear Kn_X
    clear hb
    generalize hgX : w.heap.size + 2 = gX at KX ⊢
    have bX : Aside0 (w.heap.size ≤ gX) := ⟨by have h_ := ((Below.refl w.heap.size w) : Below w.heap.size w w).size; omega⟩
    generalize hgO : w.heap.size + 1 = gO at KO ⊢
    have bO : Aside0 (w.heap.size ≤ gO) := ⟨by have h_ := ((Below.refl w.heap.size w) : Below w.heap.size w w).size; omega⟩
    generalize hgT : w.heap.size = gT at KT ⊢
    have bT : Aside0 (w.heap.size ≤ gT) := ⟨by have h_ := ((Below.refl w.heap.size w) : Below w.heap.size w w).size; omega⟩
    have dTO : (gT = gO) = False := eq_false (by omega)
    have dOT : (gO = gT) = False := eq_false (by omega)
    have dTX : (gT = gX) = False := eq_false (by omega)
    have dXT : (gX = gT) = False := eq_false (by omega)
    have dOX : (gO = gX) = False := eq_false (by omega)
    have dXO : (gX = gO) = False := eq_false (by omega)
    clear hgT hgO hgX
    have yT_1 : gT < w1.heap.size := blk_lt KT.out
    have yT_1z0 : (gT = w1.heap.size) = False := eq_false (by omega)
    have yT_1z1 : (w1.heap.size = gT) = False := eq_false (by omega)
    have yT_1z2 : (gT = w1.heap.size + 1) = False := eq_false (by omega)
    have yT_1z3 : (w1.heap.size + 1 = gT) = False := eq_false (by omega)
    have xT_1_0 : w1.cell? ⟨gT, 0, none⟩ = some (.slice A0_0 l0_0.length c0_0) := (blk_cell KT.out 0).trans rfl
    have xT_1_1 : w1.cell? ⟨gT, 1, none⟩ = some (.slice A0_1 l0_1.length c0_1) := (blk_cell KT.out 1).trans rfl
    have yO_1 : gO < w1.heap.size := blk_lt KO.out
    have yO_1z0 : (gO = w1.heap.size) = False := eq_false (by omega)
    have yO_1z1 : (w1.heap.size = gO) = False := eq_false (by omega)
    have yO_1z2 : (gO = w1.heap.size + 1) = False := eq_false (by omega)
    have yO_1z3 : (w1.heap.size + 1 = gO) = False := eq_false (by omega)
    have xO_1_0 : w1.cell? ⟨gO, 0, none⟩ = some (.slice none 0 0) := (blk_cell KO.out 0).trans rfl
    have xO_1_0f := blk_frozen KO.out 0
    have xO_1_1 : w1.cell? ⟨gO, 1, none⟩ = some (.slice none 0 0) := (blk_cell KO.out 1).trans rfl
    have xO_1_1f := blk_frozen KO.out 1
    have yX_1 : gX < w1.heap.size := blk_lt KX.out
    have yX_1z0 : (gX = w1.heap.size) = False := eq_false (by omega)
    have yX_1z1 : (w1.heap.size = gX) = False := eq_false (by omega)
    have yX_1z2 : (gX = w1.heap.size + 1) = False := eq_false (by omega)
    have yX_1z3 : (w1.heap.size + 1 = gX) = False := eq_false (by omega)
    have xX_1_0 : w1.cell? ⟨gX, 0, none⟩ = some (.slice none 0 0) := (blk_cell KX.out 0).trans rfl
    have xX_1_0f := blk_frozen KX.out 0
    have xX_1_1 : w1.cell? ⟨gX, 1, none⟩ = some (.slice none 0 0) := (blk_cell KX.out 1).trans rfl
    have xX_1_1f := blk_frozen KX.out 1
    by_cases e0 : t5 = 0
    · rw [if_pos e0] at H
      have e0b : (t5 == 0) = true := beq_iff_eq.mpr e0
      have e0d : (t5 != 0) = false := bne_eq_false_iff_eq.mpr e0
      clear e0
      simp only [Option.some.injEq, Prod.mk.injEq] at H
      obtain ⟨rfl, rfl⟩ := H
      go_wp2_with fail
      obtain ⟨k8_, fb_, f0_, f1_⟩ := end32_ (v0 := .slice An0 t1.length cn0) (v1 := .slice An1 t2.length cn1) (u0 := .slice An0 t1.length cn0) (u1 := .slice An1 t2.length cn1) KX.out KO.out (of_eq_false dOX) HB1.out bX.out bO.out
      refine bodyPost_ret (results_cell_row rfl _ _ gO 25 #[.slice An0 t1.length cn0, .slice An1 t2.length cn1] (0, 0) _ rfl (by (with_reducible repeat (refine blk_alloc ?_ _)); exact k8_) Tryd.underlying25 rfl (by kernel_rfl)) rfl ?_
      exact ⟨_, _, rfl, .inr ⟨(by (with_reducible repeat (apply Kd.R_alloc)); exact f0_ (Kd.R_lower Hn0.out (below_alloc (below_alloc (below_alloc (Below.refl w.heap.size w) _) _) _).size)), (by (with_reducible repeat (apply Kd.R_alloc)); exact f1_ (Kd.R_lower Hn1.out (below_alloc (below_alloc (below_alloc (Below.refl w.heap.size w) _) _) _).size))⟩, by (with_reducible repeat (refine below_alloc ?_ _)); exact fb_⟩
    · rw [if_neg e0] at H
      have e0b : (t5 == 0) = false := beq_eq_false_iff_ne.mpr e0
      have e0d : (t5 != 0) = true := bne_iff_ne.mpr e0
      clear e0
      simp only [Option.some.injEq, Prod.mk.injEq] at H
      obtain ⟨rfl, rfl⟩ := H
      go_wp2_with fail
      obtain ⟨k8_, fb_, f0_, f1_⟩ := end32_ (v0 := .slice An0 t1.length cn0) (v1 := .slice An1 t2.length cn1) (u0 := .slice A0_0 l0_0.length c0_0) (u1 := .slice A0_1 l0_1.length c0_1) KX.out KO.out (of_eq_false dOX) HB1.out bX.out bO.out
      refine bodyPost_ret (results_cell_row rfl _ _ gO 25 #[.slice A0_0 l0_0.length c0_0, .slice A0_1 l0_1.length c0_1] (0, 0) _ rfl (by (with_reducible repeat (refine blk_alloc ?_ _)); exact k8_) Tryd.underlying25 rfl (by kernel_rfl)) rfl ?_
      exact ⟨_, _, rfl, .inl (by first | exact ⟨rfl, rfl, rfl, rfl⟩ | exact ⟨rfl, rfl⟩), by (with_reducible repeat (refine below_alloc ?_ _)); exact fb_⟩
  · rw [if_neg c0] at H
    have c0b : ((Int.tmod a1 4) == 0) = false := beq_eq_false_iff_ne.mpr c0
    have c0d : ((Int.tmod a1 4) != 0) = true := bne_iff_ne.mpr c0
    clear c0
    by_cases c1 : Int.tmod a1 32 = 1
    · rw [if_pos c1] at H
      have c1b : (Int.tmod a1 32 == 1) = true := beq_iff_eq.mpr c1
      clear c1
      by_cases s0 : 0 ≤ (Int.tmod (wrap64 (Int.tdiv (wrap64 (a1)) 32)) 5)
      · rw [if_pos s0] at H
        have s0b : decide (0 ≤ (Int.tmod (wrap64 (Int.tdiv (wrap64 (a1)) 32)) 5)) = true := decide_eq_true s0
        clear s0
        by_cases s1 : (Int.tmod (wrap64 (Int.tdiv (wrap64 (a1)) 32)) 5) < (l0_0.length : Int)
        · rw [if_pos s1] at H
          have s1b : decide ((Int.tmod (wrap64 (Int.tdiv (wrap64 (a1)) 32)) 5) < (l0_0.length : Int)) = true := decide_eq_true s1
          clear s1
          obtain ⟨t6, A4_, H⟩ := Option.bind_eq_some_iff.1 H
          have A4 := Aside0.mk A4_
          clear A4_
          obtain ⟨⟨t1, t2, t5⟩, A5_, H⟩ := Option.bind_eq_some_iff.1 H
          have A5 := Aside0.mk A5_
          clear A5_
          go_enter Tryd.func32, Tryd.ntmps32
          go_wp2_with fail
          have Kn_T : (w.alloc (.cells #[.slice A0_0 l0_0.length c0_0, .slice A0_1 l0_1.length c0_1] 25)).heap[w.heap.size]? = some (.cells #[.slice A0_0 l0_0.length c0_0, .slice A0_1 l0_1.length c0_1] 25 (0, 0)) := by have h_ := blk_new w (.cells #[.slice A0_0 l0_0.length c0_0, .slice A0_1 l0_1.length c0_1] 25); simpa only [World.size_alloc] using h_
          have Kn_O : ((w.alloc (.cells #[.slice A0_0 l0_0.length c0_0, .slice A0_1 l0_1.length c0_1] 25)).alloc (.cells #[.slice none 0 0, .slice none 0 0] 25)).heap[w.heap.size + 1]? = some (.cells #[.slice none 0 0, .slice none 0 0] 25 (0, 0)) := by have h_ := blk_new (w.alloc (.cells #[.slice A0_0 l0_0.length c0_0, .slice A0_1 l0_1.length c0_1] 25)) (.cells #[.slice none 0 0, .slice none 0 0] 25); simpa only [World.size_alloc] using h_
          have Kn_X : (((w.alloc (.cells #[.slice A0_0 l0_0.length c0_0, .slice A0_1 l0_1.length c0_1] 25)).alloc (.cells #[.slice none 0 0, .slice none 0 0] 25)).alloc (.cells #[.slice none 0 0, .slice none 0 0] 25)).heap[w.heap.size + 2]? = some (.cells #[.slice none 0 0, .slice none 0 0] 25 (0, 0)) := by have h_ := blk_new ((w.alloc (.cells #[.slice A0_0 l0_0.length c0_0, .slice A0_1 l0_1.length c0_1] 25)).alloc (.cells #[.slice none 0 0, .slice none 0 0] 25)) (.cells #[.slice none 0 0, .slice none 0 0] 25); simpa only [World.size_alloc] using h_
          have KT : Aside0 ((((w.alloc (.cells #[.slice A0_0 l0_0.length c0_0, .slice A0_1 l0_1.length c0_1] 25)).alloc (.cells #[.slice none 0 0, .slice none 0 0] 25)).alloc (.cells #[.slice none 0 0, .slice none 0 0] 25)).heap[w.heap.size]? = some (.cells #[.slice A0_0 l0_0.length c0_0, .slice A0_1 l0_1.length c0_1] 25 (0, 0))) := ⟨(blk_alloc (blk_alloc Kn_T _) _)⟩
          have KO : Aside0 ((((w.alloc (.cells #[.slice A0_0 l0_0.length c0_0, .slice A0_1 l0_1.length c0_1] 25)).alloc (.cells #[.slice none 0 0, .slice none 0 0] 25)).alloc (.cells #[.slice none 0 0, .slice none 0 0] 25)).heap[w.heap.size + 1]? = some (.cells #[.slice none 0 0, .slice none 0 0] 25 (0, 0))) := ⟨(blk_alloc Kn_O _)⟩
          have KX : Aside0 ((((w.alloc (.cells #[.slice A0_0 l0_0.length c0_0, .slice A0_1 l0_1.length c0_1] 25)).alloc (.cells #[.slice none 0 0, .slice none 0 0] 25)).alloc (.cells #[.slice none 0 0, .slice none 0 0] 25)).heap[w.heap.size + 2]? = some (.cells #[.slice none 0 0, .slice none 0 0] 25 (0, 0))) := ⟨Kn_X⟩
          clear Kn_T Kn_O Kn_X
          have HB1 : Aside0 (Below w.heap.size w (((w.alloc (.cells #[.slice A0_0 l0_0.length c0_0, .slice A0_1 l0_1.length c0_1] 25)).alloc (.cells #[.slice none 0 0, .slice none 0 0] 25)).alloc (.cells #[.slice none 0 0, .slice none 0 0] 25))) := ⟨(below_alloc (below_alloc (below_alloc (Below.refl w.heap.size w) _) _) _)⟩
          generalize (((w.alloc (.cells #[.slice A0_0 l0_0.length c0_0, .slice A0_1 l0_1.length c0_1] 25)).alloc (.cells #[.slice none 0 0, .slice none 0 0] 25)).alloc (.cells #[.slice none 0 0, .slice none 0 0] 25)) = w1 at KT KO KX HB1 ⊢
          generalize hgX : w.heap.size + 2 = gX at KX ⊢
          have bX : Aside0 (w.heap.size ≤ gX) := ⟨by omega⟩
          generalize hgO : w.heap.size + 1 = gO at KO ⊢
          have bO : Aside0 (w.heap.size ≤ gO) := ⟨by omega⟩
          generalize hgT : w.heap.size = gT at KT ⊢
          have bT : Aside0 (w.heap.size ≤ gT) := ⟨by omega⟩
          have dTO : (gT = gO) = False := eq_false (by omega)
          have dOT : (gO = gT) = False := eq_false (by omega)
          have dTX : (gT = gX) = False := eq_false (by omega)
          have dXT : (gX = gT) = False := eq_false (by omega)
          have dOX : (gO = gX) = False := eq_false (by omega)
          have dXO : (gX = gO) = False := eq_false (by omega)
          clear hgT hgO hgX
          have yT_1 : gT < w1.heap.size := blk_lt KT.out
          have yT_1z0 : (gT = w1.heap.size) = False := eq_false (by omega)
          have yT_1z1 : (w1.heap.size = gT) = False := eq_false (by omega)
          have yT_1z2 : (gT = w1.heap.size + 1) = False := eq_false (by omega)
          have yT_1z3 : (w1.heap.size + 1 = gT) = False := eq_false (by omega)
          have xT_1_0 : w1.cell? ⟨gT, 0, none⟩ = some (.slice A0_0 l0_0.length c0_0) := (blk_cell KT.out 0).trans rfl
          have xT_1_1 : w1.cell? ⟨gT, 1, none⟩ = some (.slice A0_1 l0_1.length c0_1) := (blk_cell KT.out 1).trans rfl
          have yO_1 : gO < w1.heap.size := blk_lt KO.out
          have yO_1z0 : (gO = w1.heap.size) = False := eq_false (by omega)
          have yO_1z1 : (w1.heap.size = gO) = False := eq_false (by omega)
          have yO_1z2 : (gO = w1.heap.size + 1) = False := eq_false (by omega)
          have yO_1z3 : (w1.heap.size + 1 = gO) = False := eq_false (by omega)
          have xO_1_0 : w1.cell? ⟨gO, 0, none⟩ = some (.slice none 0 0) := (blk_cell KO.out 0).trans rfl
          have xO_1_0f := blk_frozen KO.out 0
          have xO_1_1 : w1.cell? ⟨gO, 1, none⟩ = some (.slice none 0 0) := (blk_cell KO.out 1).trans rfl
          have xO_1_1f := blk_frozen KO.out 1
          have yX_1 : gX < w1.heap.size := blk_lt KX.out
          have yX_1z0 : (gX = w1.heap.size) = False := eq_false (by omega)
          have yX_1z1 : (w1.heap.size = gX) = False := eq_false (by omega)
          have yX_1z2 : (gX = w1.heap.size + 1) = False := eq_false (by omega)
          have yX_1z3 : (w1.heap.size + 1 = gX) = False := eq_false (by omega)
          have xX_1_0 : w1.cell? ⟨gX, 0, none⟩ = some (.slice none 0 0) := (blk_cell KX.out 0).trans rfl
          have xX_1_0f := blk_frozen KX.out 0
          have xX_1_1 : w1.cell? ⟨gX, 1, none⟩ = some (.slice none 0 0) := (blk_cell KX.out 1).trans rfl
          have xX_1_1f := blk_frozen KX.out 1
          obtain ⟨ad, ead, hx⟩ := Kd.at_int HR0.out (Int.tmod (wrap64 (Int.tdiv (wrap64 (a1)) 32)) 5) (of_decide_eq_true s0b) (of_decide_eq_true s1b)
          subst ead
          have hx_ : w1.cell? (ad.add ((Int.tmod (wrap64 (Int.tdiv (wrap64 (a1)) 32)) 5)).toNat) = some (.int .u64 (rd l0_0 (Int.tmod (wrap64 (Int.tdiv (wrap64 (a1)) 32)) 5))) := pw_cell_below HB1.out hx
          have HX := Aside0.mk hx
          clear hx
          have p7 := eq_true (of_decide_eq_true s0b)
          have p8 := eq_true (of_decide_eq_true s1b)
          go_wp2_with fail
          have n11X : gX ≠ w1.heap.size := Nat.ne_of_lt (blk_lt KX.out)
          have n11O : gO ≠ w1.heap.size := Nat.ne_of_lt (blk_lt KO.out)
          have n11T : gT ≠ w1.heap.size := Nat.ne_of_lt (blk_lt KT.out)
          have HC := HB1
          have hx1_ := fun o => pw_cell_below (below_alloc HB1.out o) HX.out
          have hx2_ := fun o n => pw_cell_below (below_alloc (pw_below_drewN HB1.out n) o) HX.out
          have hx3_ := fun o => pw_cell_below (below_alloc (below_drew1 HB1.out) o) HX.out
          have ht01_ : ∀ (o : Obj) (n : Nat), ((w1.drewN n).alloc o).cell? ⟨gT, 0, none⟩ = some (.slice (some ad) l0_0.length c0_0) := fun o n => (blk_cell (blk_alloc (blk_drewN KT.out n) o) 0).trans rfl
          have ht11_ : ∀ (o : Obj) (n : Nat), ((w1.drewN n).alloc o).cell? ⟨gT, 1, none⟩ = some (.slice A0_1 l0_1.length c0_1) := fun o n => (blk_cell (blk_alloc (blk_drewN KT.out n) o) 1).trans rfl
          go_region_held3 (fun w' => w'.cell? ⟨gT, 0, none⟩ = some (.slice (some ad) l0_0.length c0_0) ∧ w'.cell? ⟨gT, 1, none⟩ = some (.slice A0_1 l0_1.length c0_1) ∧ w'.cell? (ad.add ((Int.tmod (wrap64 (Int.tdiv (wrap64 (a1)) 32)) 5)).toNat) = some (.int .u64 (rd l0_0 (Int.tmod (wrap64 (Int.tdiv (wrap64 (a1)) 32)) 5)))) (exact ⟨(blk_cell (g := gT) (cs := #[.slice (some ad) l0_0.length c0_0, .slice A0_1 l0_1.length c0_1]) (t := 25) (by repeat (with_reducible first | exact KT.out | refine blk_drewN ?_ _ | refine blk_drew ?_ | refine blk_alloc ?_ _ | refine blk_far ?_ n11T _)) 0).trans rfl, (blk_cell (g := gT) (cs := #[.slice (some ad) l0_0.length c0_0, .slice A0_1 l0_1.length c0_1]) (t := 25) (by repeat (with_reducible first | exact KT.out | refine blk_drewN ?_ _ | refine blk_drew ?_ | refine blk_alloc ?_ _ | refine blk_far ?_ n11T _)) 1).trans rfl, pw_cell_below (by repeat (with_reducible first | exact HC.out | apply below_drew1 | apply pw_below_drewN | apply below_alloc | refine below_set ?_ HB1.out.size)) HX.out⟩) (first | (go_at_call 16; (with_reducible refine (turnspitref06_Gen.calls (rd l0_0 (Int.tmod (wrap64 (Int.tdiv (wrap64 (a1)) 32)) 5)) t6 _ A4.out).mono ?_); rintro e w' ⟨rfl, hd⟩; obtain ⟨⟨nd, rfl⟩⟩ := hd) | (go_at_call 28; (with_reducible refine (turnspitref14_Exit.calls k (some ad) c0_0 l0_0 A0_1 c0_1 l0_1 (Int.tmod (wrap64 (Int.tdiv (wrap64 (a1)) 32)) 5) t6 t1 t2 t5 _ (Kd.C_below HR0.out (by repeat (with_reducible first | exact HC.out | apply below_drew1 | apply pw_below_drewN | apply below_alloc))) HC0.out (Kd.C_below HR1.out (by repeat (with_reducible first | exact HC.out | apply below_drew1 | apply pw_below_drewN | apply below_alloc))) HC1.out (Ld.below HL.out (by repeat (with_reducible first | exact HC.out | apply below_drew1 | apply pw_below_drewN | apply below_alloc))) A5.out).mono ?_); rintro e w2 ⟨vn0, vn1, rfl, ho0, ho1, hb⟩; obtain ⟨An0, cn0, rfl⟩ := Kd.R_slice ho0; obtain ⟨An1, cn1, rfl⟩ := Kd.R_slice ho1; have Hn0 := Aside0.mk (Kd.R_lower ho0 (Below.size (by repeat (with_reducible first | exact HC.out | apply below_drew1 | apply pw_below_drewN | apply below_alloc)))); have Hn1 := Aside0.mk (Kd.R_lower ho1 (Below.size (by repeat (with_reducible first | exact HC.out | apply below_drew1 | apply pw_below_drewN | apply below_alloc)))); have KO : Aside0 (w2.heap[gO]? = some (.cells #[.slice none 0 0, .slice none 0 0] 25 (0, 0))) := ⟨blk_below (by repeat (with_reducible first | exact KO.out | refine blk_drewN ?_ _ | refine blk_drew ?_ | refine blk_alloc ?_ _)) hb⟩; have KX : Aside0 (w2.heap[gX]? = some (.cells #[.slice none 0 0, .slice none 0 0] 25 (0, 0))) := ⟨blk_below (by repeat (with_reducible first | exact KX.out | refine blk_drewN ?_ _ | refine blk_drew ?_ | refine blk_alloc ?_ _)) hb⟩; have KT : Aside0 (w2.heap[gT]? = some (.cells #[.slice (some ad) l0_0.length c0_0, .slice A0_1 l0_1.length c0_1] 25 (0, 0))) := ⟨blk_below (by repeat (with_reducible first | exact KT.out | refine blk_drewN ?_ _ | refine blk_drew ?_ | refine blk_alloc ?_ _)) hb⟩; (try (have K11 : Aside0 (w2.heap[w1.heap.size]? = some (.cells #[.slice none 0 0, .slice none 0 0] 25 (0, 0))) := ⟨blk_below (by (with_reducible repeat (first | refine blk_drewN ?_ _ | refine blk_drew ?_)); first | exact blk_new _ _ | exact blk_new (w1.drewN (1 + nd)) _ | exact blk_new w1.drew _ | exact blk_new (w1.drewN 1) _ | exact blk_new (w1.drewN _) _) hb⟩; have zmc0 : w2.cell? ⟨w1.heap.size, 0, none⟩ = some (.slice none 0 0) := (blk_cell K11.out 0).trans rfl; have zmf0 := blk_frozen K11.out 0; have zmc1 : w2.cell? ⟨w1.heap.size, 1, none⟩ = some (.slice none 0 0) := (blk_cell K11.out 1).trans rfl; have zmf1 := blk_frozen K11.out 1; have l11_ : w1.heap.size < w2.heap.size := blk_lt K11.out; have l11a : (w1.heap.size = w2.heap.size) = False := eq_false (Nat.ne_of_lt l11_); have l11b : (w2.heap.size = w1.heap.size) = False := eq_false (Nat.ne_of_gt l11_))); have HC : Aside0 (Below w.heap.size w w2) := ⟨below_step (by repeat (with_reducible first | exact HC.out | apply below_drew1 | apply pw_below_drewN | apply below_alloc)) hb⟩; have yoc0 : w2.cell? ⟨gO, 0, none⟩ = some (.slice none 0 0) := (blk_cell KO.out 0).trans rfl; have yof0 := blk_frozen KO.out 0; have yoc1 : w2.cell? ⟨gO, 1, none⟩ = some (.slice none 0 0) := (blk_cell KO.out 1).trans rfl; have yof1 := blk_frozen KO.out 1; have yxc0 : w2.cell? ⟨gX, 0, none⟩ = some (.slice none 0 0) := (blk_cell KX.out 0).trans rfl; have yxf0 := blk_frozen KX.out 0; have yxc1 : w2.cell? ⟨gX, 1, none⟩ = some (.slice none 0 0) := (blk_cell KX.out 1).trans rfl; have yxf1 := blk_frozen KX.out 1; have ytc0 : w2.cell? ⟨gT, 0, none⟩ = some (.slice (some ad) l0_0.length c0_0) := (blk_cell KT.out 0).trans rfl; have ytf0 := blk_frozen KT.out 0; have ytc1 : w2.cell? ⟨gT, 1, none⟩ = some (.slice A0_1 l0_1.length c0_1) := (blk_cell KT.out 1).trans rfl; have ytf1 := blk_frozen KT.out 1; have lO_ : gO < w2.heap.size := blk_lt KO.out; have lOa_ : (gO = w2.heap.size) = False := eq_false (Nat.ne_of_lt lO_); have lOb_ : (w2.heap.size = gO) = False := eq_false (Nat.ne_of_gt lO_); have lX_ : gX < w2.heap.size := blk_lt KX.out; have lXa_ : (gX = w2.heap.size) = False := eq_false (Nat.ne_of_lt lX_); have lXb_ : (w2.heap.size = gX) = False := eq_false (Nat.ne_of_gt lX_); have lT_ : gT < w2.heap.size := blk_lt KT.out; have lTa_ : (gT = w2.heap.size) = False := eq_false (Nat.ne_of_lt lT_); have lTb_ : (w2.heap.size = gT) = False := eq_false (Nat.ne_of_gt lT_); have hx2_ := pw_cell_below HC.out HX.out; clear ho0 ho1 hb))
          all_goals
            by_cases e0 : t5 = 0
            · rw [if_pos e0] at H
              have e0b : (t5 == 0) = true := beq_iff_eq.mpr e0
              have e0d : (t5 != 0) = false := bne_eq_false_iff_eq.mpr e0
              clear e0
              simp only [Option.some.injEq, Prod.mk.injEq] at H
              obtain ⟨rfl, rfl⟩ := H
              go_wp2_with fail
              first
                | (have k1_ := blk_put K11.out 0 (.slice An0 t1.length cn0) rfl; have X1_ := blk_far (p := ⟨w1.heap.size, 1, none⟩) (blk_far (p := ⟨w1.heap.size, 0, none⟩) KX.out n11X (.slice An0 t1.length cn0)) n11X (.slice An1 t2.length cn1); have O1_ := blk_far (p := ⟨w1.heap.size, 1, none⟩) (blk_far (p := ⟨w1.heap.size, 0, none⟩) KO.out n11O (.slice An0 t1.length cn0)) n11O (.slice An1 t2.length cn1); have B1_ := below_set (j := 1) (v := .slice An1 t2.length cn1) (below_set (j := 0) (v := .slice An0 t1.length cn0) HC.out HB1.out.size) HB1.out.size; have r0_ := Kd.R_set (Kd.R_set Hn0.out K11.out (by decide) 0 (.slice An0 t1.length cn0)) k1_ (by decide) 1 (.slice An1 t2.length cn1); have r1_ := Kd.R_set (Kd.R_set Hn1.out K11.out (by decide) 0 (.slice An0 t1.length cn0)) k1_ (by decide) 1 (.slice An1 t2.length cn1); obtain ⟨k8_, fb_, f0_, f1_⟩ := end32_ (v0 := .slice An0 t1.length cn0) (v1 := .slice An1 t2.length cn1) (u0 := .slice An0 t1.length cn0) (u1 := .slice An1 t2.length cn1) X1_ O1_ (of_eq_false dOX) B1_ bX.out bO.out; refine bodyPost_ret (results_cell_row rfl _ _ gO 25 #[.slice An0 t1.length cn0, .slice An1 t2.length cn1] (0, 0) _ rfl (by (with_reducible repeat (refine blk_alloc ?_ _)); exact k8_) Tryd.underlying25 rfl (by kernel_rfl)) rfl ?_; exact ⟨_, _, rfl, .inr ⟨f0_ r0_, f1_ r1_⟩, by (with_reducible repeat (refine below_alloc ?_ _)); exact fb_⟩)
                | (obtain ⟨k8_, fb_, f0_, f1_⟩ := end32_ (v0 := .slice An0 t1.length cn0) (v1 := .slice An1 t2.length cn1) (u0 := .slice An0 t1.length cn0) (u1 := .slice An1 t2.length cn1) KX.out KO.out (of_eq_false dOX) HC.out bX.out bO.out; refine bodyPost_ret (results_cell_row rfl _ _ gO 25 #[.slice An0 t1.length cn0, .slice An1 t2.length cn1] (0, 0) _ rfl (by (with_reducible repeat (refine blk_alloc ?_ _)); exact k8_) Tryd.underlying25 rfl (by kernel_rfl)) rfl ?_; exact ⟨_, _, rfl, .inr ⟨(by (with_reducible repeat (apply Kd.R_alloc)); exact f0_ Hn0.out), (by (with_reducible repeat (apply Kd.R_alloc)); exact f1_ Hn1.out)⟩, by (with_reducible repeat (refine below_alloc ?_ _)); exact fb_⟩)
            · rw [if_neg e0] at H
              have e0b : (t5 == 0) = false := beq_eq_false_iff_ne.mpr e0
              have e0d : (t5 != 0) = true := bne_iff_ne.mpr e0
              clear e0
              simp only [Option.some.injEq, Prod.mk.injEq] at H
              obtain ⟨rfl, rfl⟩ := H
              go_wp2_with fail
              first
                | (have k1_ := blk_put K11.out 0 (.slice An0 t1.length cn0) rfl; have X1_ := blk_far (p := ⟨w1.heap.size, 1, none⟩) (blk_far (p := ⟨w1.heap.size, 0, none⟩) KX.out n11X (.slice An0 t1.length cn0)) n11X (.slice An1 t2.length cn1); have O1_ := blk_far (p := ⟨w1.heap.size, 1, none⟩) (blk_far (p := ⟨w1.heap.size, 0, none⟩) KO.out n11O (.slice An0 t1.length cn0)) n11O (.slice An1 t2.length cn1); have B1_ := below_set (j := 1) (v := .slice An1 t2.length cn1) (below_set (j := 0) (v := .slice An0 t1.length cn0) HC.out HB1.out.size) HB1.out.size; have r0_ := Kd.R_set (Kd.R_set Hn0.out K11.out (by decide) 0 (.slice An0 t1.length cn0)) k1_ (by decide) 1 (.slice An1 t2.length cn1); have r1_ := Kd.R_set (Kd.R_set Hn1.out K11.out (by decide) 0 (.slice An0 t1.length cn0)) k1_ (by decide) 1 (.slice An1 t2.length cn1); obtain ⟨k8_, fb_, f0_, f1_⟩ := end32_ (v0 := .slice An0 t1.length cn0) (v1 := .slice An1 t2.length cn1) (u0 := .slice (some ad) l0_0.length c0_0) (u1 := .slice A0_1 l0_1.length c0_1) X1_ O1_ (of_eq_false dOX) B1_ bX.out bO.out; refine bodyPost_ret (results_cell_row rfl _ _ gO 25 #[.slice (some ad) l0_0.length c0_0, .slice A0_1 l0_1.length c0_1] (0, 0) _ rfl (by (with_reducible repeat (refine blk_alloc ?_ _)); exact k8_) Tryd.underlying25 rfl (by kernel_rfl)) rfl ?_; exact ⟨_, _, rfl, .inl (by first | exact ⟨rfl, rfl, rfl, rfl⟩ | exact ⟨rfl, rfl⟩), by (with_reducible repeat (refine below_alloc ?_ _)); exact fb_⟩)
                | (obtain ⟨k8_, fb_, f0_, f1_⟩ := end32_ (v0 := .slice An0 t1.length cn0) (v1 := .slice An1 t2.length cn1) (u0 := .slice (some ad) l0_0.length c0_0) (u1 := .slice A0_1 l0_1.length c0_1) KX.out KO.out (of_eq_false dOX) HC.out bX.out bO.out; refine bodyPost_ret (results_cell_row rfl _ _ gO 25 #[.slice (some ad) l0_0.length c0_0, .slice A0_1 l0_1.length c0_1] (0, 0) _ rfl (by (with_reducible repeat (refine blk_alloc ?_ _)); exact k8_) Tryd.underlying25 rfl (by kernel_rfl)) rfl ?_; exact ⟨_, _, rfl, .inl (by first | exact ⟨rfl, rfl, rfl, rfl⟩ | exact ⟨rfl, rfl⟩), by (with_reducible repeat (refine below_alloc ?_ _)); exact fb_⟩)
        · rw [if_neg s1] at H
          have s1b : decide ((Int.tmod (wrap64 (Int.tdiv (wrap64 (a1)) 32)) 5) < (l0_0.length : Int)) = false := decide_eq_false s1
          clear s1
          exact absurd H (by simp)
      · rw [if_neg s0] at H
        have s0b : decide (0 ≤ (Int.tmod (wrap64 (Int.tdiv (wrap64 (a1)) 32)) 5)) = false := decide_eq_false s0
        clear s0
        exact absurd H (by simp)
    · rw [if_neg c1] at H
      have c1b : (Int.tmod a1 32 == 1) = false := beq_eq_false_iff_ne.mpr c1
      clear c1
      obtain ⟨⟨t1, t2, t5⟩, A5_, H⟩ := Option.bind_eq_some_iff.1 H
      have A5 := Aside0.mk A5_
      clear A5_
      go_enter Tryd.func32, Tryd.ntmps32
      go_wp2_with fail
      refine (turnspitref14_Step.calls k A0_0 c0_0 l0_0 A0_1 c0_1 l0_1 (Int.tmod (wrap64 (Int.tdiv (wrap64 (a1)) 32)) 5) (Int.tmod (wrap64 (IntKind.u16.wrap (Int.tdiv a1 256))) 16) (Int.tmod (wrap64 (IntKind.u16.wrap (Int.tdiv a1 64))) 8) t1 t2 t5 _ (Kd.C_below HR0.out (below_alloc (below_alloc (below_alloc (Below.refl w.heap.size w) _) _) _)) HC0.out (Kd.C_below HR1.out (below_alloc (below_alloc (below_alloc (Below.refl w.heap.size w) _) _) _)) HC1.out (Ld.below HL.out (by exact (below_alloc (below_alloc (below_alloc (Below.refl w.heap.size w) _) _) _))) A5.out).mono ?_
      rintro e w1 ⟨vn0, vn1, rfl, ho0, ho1, hb⟩
      obtain ⟨An0, cn0, rfl⟩ := Kd.R_slice ho0
      obtain ⟨An1, cn1, rfl⟩ := Kd.R_slice ho1
      have Hn0 := Aside0.mk ho0
      have Hn1 := Aside0.mk ho1
      clear ho0 ho1
      have HB1 := Aside0.mk (below_step (below_alloc (below_alloc (below_alloc (Below.refl w.heap.size w) _) _) _) hb)
      have Kn_T : (w.alloc (.cells #[.slice A0_0 l0_0.length c0_0, .slice A0_1 l0_1.length c0_1] 25)).heap[w.heap.size]? = some (.cells #[.slice A0_0 l0_0.length c0_0, .slice A0_1 l0_1.length c0_1] 25 (0, 0)) := by have h_ := blk_new w (.cells #[.slice A0_0 l0_0.length c0_0, .slice A0_1 l0_1.length c0_1] 25); simpa only [World.size_alloc] using h_
      have Kn_O : ((w.alloc (.cells #[.slice A0_0 l0_0.length c0_0, .slice A0_1 l0_1.length c0_1] 25)).alloc (.cells #[.slice none 0 0, .slice none 0 0] 25)).heap[w.heap.size + 1]? = some (.cells #[.slice none 0 0, .slice none 0 0] 25 (0, 0)) := by have h_ := blk_new (w.alloc (.cells #[.slice A0_0 l0_0.length c0_0, .slice A0_1 l0_1.length c0_1] 25)) (.cells #[.slice none 0 0, .slice none 0 0] 25); simpa only [World.size_alloc] using h_
      have Kn_X : (((w.alloc (.cells #[.slice A0_0 l0_0.length c0_0, .slice A0_1 l0_1.length c0_1] 25)).alloc (.cells #[.slice none 0 0, .slice none 0 0] 25)).alloc (.cells #[.slice none 0 0, .slice none 0 0] 25)).heap[w.heap.size + 2]? = some (.cells #[.slice none 0 0, .slice none 0 0] 25 (0, 0)) := by have h_ := blk_new ((w.alloc (.cells #[.slice A0_0 l0_0.length c0_0, .slice A0_1 l0_1.length c0_1] 25)).alloc (.cells #[.slice none 0 0, .slice none 0 0] 25)) (.cells #[.slice none 0 0, .slice none 0 0] 25); simpa only [World.size_alloc] using h_
      have KT_ := Aside0.mk (blk_below (blk_alloc (blk_alloc Kn_T _) _) hb)
      have KO_ := Aside0.mk (blk_below (blk_alloc Kn_O _) hb)
      have KX_ := Aside0.mk (blk_below Kn_X hb)
      have KT := KT_
      clear KT_
      have KO := KO_
      clear KO_
      have KX := KX_
      clear KX_
      clear Kn_T
      clear Kn_O
      clear Kn_X
      clear hb
      generalize hgX : w.heap.size + 2 = gX at KX ⊢
      have bX : Aside0 (w.heap.size ≤ gX) := ⟨by have h_ := ((Below.refl w.heap.size w) : Below w.heap.size w w).size; omega⟩
      generalize hgO : w.heap.size + 1 = gO at KO ⊢
      have bO : Aside0 (w.heap.size ≤ gO) := ⟨by have h_ := ((Below.refl w.heap.size w) : Below w.heap.size w w).size; omega⟩
      generalize hgT : w.heap.size = gT at KT ⊢
      have bT : Aside0 (w.heap.size ≤ gT) := ⟨by have h_ := ((Below.refl w.heap.size w) : Below w.heap.size w w).size; omega⟩
      have dTO : (gT = gO) = False := eq_false (by omega)
      have dOT : (gO = gT) = False := eq_false (by omega)
      have dTX : (gT = gX) = False := eq_false (by omega)
      have dXT : (gX = gT) = False := eq_false (by omega)
      have dOX : (gO = gX) = False := eq_false (by omega)
      have dXO : (gX = gO) = False := eq_false (by omega)
      clear hgT hgO hgX
      have yT_1 : gT < w1.heap.size := blk_lt KT.out
      have yT_1z0 : (gT = w1.heap.size) = False := eq_false (by omega)
      have yT_1z1 : (w1.heap.size = gT) = False := eq_false (by omega)
      have yT_1z2 : (gT = w1.heap.size + 1) = False := eq_false (by omega)
      have yT_1z3 : (w1.heap.size + 1 = gT) = False := eq_false (by omega)
      have xT_1_0 : w1.cell? ⟨gT, 0, none⟩ = some (.slice A0_0 l0_0.length c0_0) := (blk_cell KT.out 0).trans rfl
      have xT_1_1 : w1.cell? ⟨gT, 1, none⟩ = some (.slice A0_1 l0_1.length c0_1) := (blk_cell KT.out 1).trans rfl
      have yO_1 : gO < w1.heap.size := blk_lt KO.out
      have yO_1z0 : (gO = w1.heap.size) = False := eq_false (by omega)
      have yO_1z1 : (w1.heap.size = gO) = False := eq_false (by omega)
      have yO_1z2 : (gO = w1.heap.size + 1) = False := eq_false (by omega)
      have yO_1z3 : (w1.heap.size + 1 = gO) = False := eq_false (by omega)
      have xO_1_0 : w1.cell? ⟨gO, 0, none⟩ = some (.slice none 0 0) := (blk_cell KO.out 0).trans rfl
      have xO_1_0f := blk_frozen KO.out 0
      have xO_1_1 : w1.cell? ⟨gO, 1, none⟩ = some (.slice none 0 0) := (blk_cell KO.out 1).trans rfl
      have xO_1_1f := blk_frozen KO.out 1
      have yX_1 : gX < w1.heap.size := blk_lt KX.out
      have yX_1z0 : (gX = w1.heap.size) = False := eq_false (by omega)
      have yX_1z1 : (w1.heap.size = gX) = False := eq_false (by omega)
      have yX_1z2 : (gX = w1.heap.size + 1) = False := eq_false (by omega)
      have yX_1z3 : (w1.heap.size + 1 = gX) = False := eq_false (by omega)
      have xX_1_0 : w1.cell? ⟨gX, 0, none⟩ = some (.slice none 0 0) := (blk_cell KX.out 0).trans rfl
      have xX_1_0f := blk_frozen KX.out 0
      have xX_1_1 : w1.cell? ⟨gX, 1, none⟩ = some (.slice none 0 0) := (blk_cell KX.out 1).trans rfl
      have xX_1_1f := blk_frozen KX.out 1
      by_cases e0 : t5 = 0
      · rw [if_pos e0] at H
        have e0b : (t5 == 0) = true := beq_iff_eq.mpr e0
        have e0d : (t5 != 0) = false := bne_eq_false_iff_eq.mpr e0
        clear e0
        simp only [Option.some.injEq, Prod.mk.injEq] at H
        obtain ⟨rfl, rfl⟩ := H
        go_wp2_with fail
        obtain ⟨k8_, fb_, f0_, f1_⟩ := end32_ (v0 := .slice An0 t1.length cn0) (v1 := .slice An1 t2.length cn1) (u0 := .slice An0 t1.length cn0) (u1 := .slice An1 t2.length cn1) KX.out KO.out (of_eq_false dOX) HB1.out bX.out bO.out
        refine bodyPost_ret (results_cell_row rfl _ _ gO 25 #[.slice An0 t1.length cn0, .slice An1 t2.length cn1] (0, 0) _ rfl (by (with_reducible repeat (refine blk_alloc ?_ _)); exact k8_) Tryd.underlying25 rfl (by kernel_rfl)) rfl ?_
        exact ⟨_, _, rfl, .inr ⟨(by (with_reducible repeat (apply Kd.R_alloc)); exact f0_ (Kd.R_lower Hn0.out (below_alloc (below_alloc (below_alloc (Below.refl w.heap.size w) _) _) _).size)), (by (with_reducible repeat (apply Kd.R_alloc)); exact f1_ (Kd.R_lower Hn1.out (below_alloc (below_alloc (below_alloc (Below.refl w.heap.size w) _) _) _).size))⟩, by (with_reducible repeat (refine below_alloc ?_ _)); exact fb_⟩
      · rw [if_neg e0] at H
        have e0b : (t5 == 0) = false := beq_eq_false_iff_ne.mpr e0
        have e0d : (t5 != 0) = true := bne_iff_ne.mpr e0
        clear e0
        simp only [Option.some.injEq, Prod.mk.injEq] at H
        obtain ⟨rfl, rfl⟩ := H
        go_wp2_with fail
        obtain ⟨k8_, fb_, f0_, f1_⟩ := end32_ (v0 := .slice An0 t1.length cn0) (v1 := .slice An1 t2.length cn1) (u0 := .slice A0_0 l0_0.length c0_0) (u1 := .slice A0_1 l0_1.length c0_1) KX.out KO.out (of_eq_false dOX) HB1.out bX.out bO.out
        refine bodyPost_ret (results_cell_row rfl _ _ gO 25 #[.slice A0_0 l0_0.length c0_0, .slice A0_1 l0_1.length c0_1] (0, 0) _ rfl (by (with_reducible repeat (refine blk_alloc ?_ _)); exact k8_) Tryd.underlying25 rfl (by kernel_rfl)) rfl ?_
        exact ⟨_, _, rfl, .inl (by first | exact ⟨rfl, rfl, rfl, rfl⟩ | exact ⟨rfl, rfl⟩), by (with_reducible repeat (refine below_alloc ?_ _)); exact fb_⟩

end Go.Proofs.YtdchbcpfciljoaaDoor.Print

-- Written for this claim by a program out of the translation. Lean checks it.
import Derived.Test.YtdchbcpfciljoaaDoorPrint0
import Derived.Test.YtdchbcpfciljoaaDoorPrintE
import Derived.Test.YtdchbcpfciljoaaDoorPrintF20
import Derived.Test.YtdchbcpfciljoaaDoorPrintF46
import Derived.Test.YtdchbcpfciljoaaDoorPrintT
import Derived.Test.YtdchbcpfciljoaaDoorPrintF49
namespace Go.Proofs.YtdchbcpfciljoaaDoor.Print
open Go.RowKit Go.Proofs.YtdchbcpfciljoaaDoor Go.Proofs.YtdchbcpfciljoaaDoor.Given Go.Proofs.YtdchbcpfciljoaaDoorW.PrintWords Go.Proofs.YtdchbcpfciljoaaDoorW.PrintLast Go.Proofs.YtdchbcpfciljoaaDoorW.PrintMore
attribute [local go_sem] max2_int min2_int max_two min_two max_three min_three max_four min_four   -- for this text's walks alone
set_option linter.unusedVariables false
set_option linter.unusedSimpArgs false

/-! ### turnspitref14_Create: function 27 -/
mutual
def turnspitref14_Create.j0 : Nat → Int → Int → Bool → List Int → List (S52) → Option (List Int × (List (S52)) × Int × Int × Int)
  | 0, _, _, _, _, _ => none
  | k + 1, x2, x11, x44, x221000, x221001 => if x44 = true then (some (([] : List Int), ([] : List (S52)), 0, 0, 1)) else ((turnspitref04_First.f k x11).bind fun bt225 => (turnspitref14_Create.l0 k x2 x11 bt225.1 0 x221000 x221001))
def turnspitref14_Create.l0 : Nat → Int → Int → Int → Int → List Int → List (S52) → Option (List Int × (List (S52)) × Int × Int × Int)
  | 0, _, _, _, _, _, _ => none
  | k + 1, x2, x11, x12, x14, x221000, x221001 => if x14 < (x221000.length : Int) then (if 0 ≤ x14 then ((turnspitref07_Next.f k (rd x221000 x14) 0 x12).bind fun bt228 => (if bt228.2 = 0 then ((turnspitref06_Gen.f bt228.1).bind fun t230 => ((turnspitref14_With.f x221000 x221001 x14 bt228.1 x2 x11 0).bind fun bt231 => (some (bt231.1, bt231.2, x14, t230, 0)))) else (turnspitref14_Create.l0 k x2 x11 x12 (wrap64 (x14 + 1)) x221000 x221001))) else (none)) else (some (([] : List Int), ([] : List (S52)), 0, 0, 5))
end
def turnspitref14_Create.f (k : Nat) (l0_0 : List Int) (l0_1 : List (S52)) (a1 : Int) (a2 : Int) (a3 : Int) : Option (List Int × (List (S52)) × Int × Int × Int) := (turnspitref14_Right.f k l0_0 l0_1).bind fun t223 => (if t223 = true then ((turnspitref04_All.f k a1).bind fun t224 => (if a1 < 1 then (turnspitref14_Create.j0 k a2 (Go.bits .and .u64 a3 t224) true l0_0 l0_1) else (if a1 > 64 then (turnspitref14_Create.j0 k a2 (Go.bits .and .u64 a3 t224) true l0_0 l0_1) else (if a2 < (-20) then (turnspitref14_Create.j0 k a2 (Go.bits .and .u64 a3 t224) true l0_0 l0_1) else (if a2 > 19 then (turnspitref14_Create.j0 k a2 (Go.bits .and .u64 a3 t224) true l0_0 l0_1) else (turnspitref14_Create.j0 k a2 (Go.bits .and .u64 a3 t224) ((Go.bits .and .u64 a3 t224) == 0) l0_0 l0_1)))))) else (some (([] : List Int), ([] : List (S52)), 0, 0, 4)))
theorem turnspitref14_Create.mono_l : ∀ k, (∀ y0 y1 y2 y3 y4, LeO (turnspitref14_Create.j0 k y0 y1 y2 y3 y4) (turnspitref14_Create.j0 (k + 1) y0 y1 y2 y3 y4)) ∧ (∀ y0 y1 y2 y3 y4 y5, LeO (turnspitref14_Create.l0 k y0 y1 y2 y3 y4 y5) (turnspitref14_Create.l0 (k + 1) y0 y1 y2 y3 y4 y5))
  | 0 => ⟨fun _ _ _ _ _ r h => by simp [turnspitref14_Create.j0] at h, fun _ _ _ _ _ _ r h => by simp [turnspitref14_Create.l0] at h⟩
  | k + 1 => by
    obtain ⟨ih0, ih1⟩ := turnspitref14_Create.mono_l k
    refine ⟨?_, ?_⟩
    · intro y0 y1 y2 y3 y4
      unfold turnspitref14_Create.j0
      repeat' first
      | (with_reducible exact ih0 _ _ _ _ _)
      | (with_reducible exact ih1 _ _ _ _ _ _)
      | (with_reducible exact turnspitref04_All.mono _ _)
      | (with_reducible exact turnspitref04_First.mono _ _)
      | (with_reducible exact turnspitref07_Next.mono _ _ _ _)
      | (with_reducible exact turnspitref14_Right.mono _ _ _)
      | (with_reducible exact LeO.refl _)
      | (with_reducible exact LeO.none _)
      | (with_reducible refine LeO.ite ?_ ?_)
      | (with_reducible refine LeO.bind ?_ (fun _ => ?_))
      | exact ih0 _ _ _ _ _
      | exact ih1 _ _ _ _ _ _
      | exact turnspitref04_All.mono _ _
      | exact turnspitref04_First.mono _ _
      | exact turnspitref07_Next.mono _ _ _ _
      | exact turnspitref14_Right.mono _ _ _
      | exact LeO.none _
      | refine LeO.ite ?_ ?_
      | refine LeO.bind ?_ (fun _ => ?_)
    · intro y0 y1 y2 y3 y4 y5
      unfold turnspitref14_Create.l0
      repeat' first
      | (with_reducible exact ih0 _ _ _ _ _)
      | (with_reducible exact ih1 _ _ _ _ _ _)
      | (with_reducible exact turnspitref04_All.mono _ _)
      | (with_reducible exact turnspitref04_First.mono _ _)
      | (with_reducible exact turnspitref07_Next.mono _ _ _ _)
      | (with_reducible exact turnspitref14_Right.mono _ _ _)
      | (with_reducible exact LeO.refl _)
      | (with_reducible exact LeO.none _)
      | (with_reducible refine LeO.ite ?_ ?_)
      | (with_reducible refine LeO.bind ?_ (fun _ => ?_))
      | exact ih0 _ _ _ _ _
      | exact ih1 _ _ _ _ _ _
      | exact turnspitref04_All.mono _ _
      | exact turnspitref04_First.mono _ _
      | exact turnspitref07_Next.mono _ _ _ _
      | exact turnspitref14_Right.mono _ _ _
      | exact LeO.none _
      | refine LeO.ite ?_ ?_
      | refine LeO.bind ?_ (fun _ => ?_)
theorem turnspitref14_Create.mono : ∀ a0 a1 a2 a3 a4 k, LeO (turnspitref14_Create.f k a0 a1 a2 a3 a4) (turnspitref14_Create.f (k + 1) a0 a1 a2 a3 a4) := by
  intro a0 a1 a2 a3 a4 k
  obtain ⟨ih0, ih1⟩ := turnspitref14_Create.mono_l k
  unfold turnspitref14_Create.f
  repeat' first
      | (with_reducible exact ih0 _ _ _ _ _)
      | (with_reducible exact ih1 _ _ _ _ _ _)
      | (with_reducible exact turnspitref04_All.mono _ _)
      | (with_reducible exact turnspitref04_First.mono _ _)
      | (with_reducible exact turnspitref07_Next.mono _ _ _ _)
      | (with_reducible exact turnspitref14_Right.mono _ _ _)
      | (with_reducible exact LeO.refl _)
      | (with_reducible exact LeO.none _)
      | (with_reducible refine LeO.ite ?_ ?_)
      | (with_reducible refine LeO.bind ?_ (fun _ => ?_))
      | exact ih0 _ _ _ _ _
      | exact ih1 _ _ _ _ _ _
      | exact turnspitref04_All.mono _ _
      | exact turnspitref04_First.mono _ _
      | exact turnspitref07_Next.mono _ _ _ _
      | exact turnspitref14_Right.mono _ _ _
      | exact LeO.none _
      | refine LeO.ite ?_ ?_
      | refine LeO.bind ?_ (fun _ => ?_)
theorem res27_ (tmps : Array Value) (w : World) (B8 B9 : Nat) (a b : Value) (r3 r4 r5 : Int) (h8 : tmps.getD 8 undef = .pointer (some ⟨B8, 0, none⟩)) (h9 : tmps.getD 9 undef = .pointer (some ⟨B9, 0, none⟩)) (h10 : tmps.getD 10 undef = .int .i64 r5)
    (k8 : w.heap[B8]? = some (.cells #[a, b] 25 (0, 0))) (k9 : w.heap[B9]? = some (.cells #[.int .i64 r3, .int .i64 r4] 27 (0, 0))) : (results Tryd.f27 tmps).run Tryd.prog w = .ok (.tuple #[.agg #[a, b], .agg #[.int .i64 r3, .int .i64 r4], .int .i64 r5]) w := by
  have h1 : tmps[8]?.getD undef = .pointer (some ⟨B8, 0, none⟩) := by simpa using h8
  have h2 : tmps[9]?.getD undef = .pointer (some ⟨B9, 0, none⟩) := by simpa using h9
  have h3 : tmps[10]?.getD undef = .int .i64 r5 := by simpa using h10
  have hr : Tryd.f27.results = #[.cell 8 25, .cell 9 27, .tmp 10] := rfl
  simp [results, hr, h1, h2, h3, asAddr, run_loadVar_row w B8 25 25 _ (0, 0) _ k8 Tryd.underlying25 rfl (by kernel_rfl), run_loadVar_row w B9 27 27 _ (0, 0) _ k9 Tryd.underlying27 rfl (by kernel_rfl)]
theorem put27_ {w W : World} {gO gOh : Nat} {v0 v1 : Value} {x y : Int} {r1 : List Int} {r2 : List S52} (KO : W.heap[gO]? = some (.cells #[.slice none 0 0, .slice none 0 0] 25 (0, 0))) (KOh : W.heap[gOh]? = some (.cells #[.int .i64 0, .int .i64 0] 27 (0, 0))) (HB : Below w.heap.size w W) (bO : w.heap.size ≤ gO) (bOh : w.heap.size ≤ gOh)
    (h0 : Kd.R (Kd.int .u64) 28 W w.heap.size (fun _ => True) v0 r1) (h1 : Kd.R k52 52 W w.heap.size (fun _ => True) v1 r2) :
    let W' := (((W.setCell ⟨gO, 0, none⟩ v0).setCell ⟨gO, 1, none⟩ v1).setCell ⟨gOh, 0, none⟩ (.int .i64 x)).setCell ⟨gOh, 1, none⟩ (.int .i64 y)
    W'.heap[gO]? = some (.cells #[v0, v1] 25 (0, 0)) ∧ W'.heap[gOh]? = some (.cells #[.int .i64 x, .int .i64 y] 27 (0, 0)) ∧ Kd.R (Kd.int .u64) 28 W' w.heap.size (fun _ => True) v0 r1 ∧ Kd.R k52 52 W' w.heap.size (fun _ => True) v1 r2 ∧ Below w.heap.size w W' := by
  have ne_ : gO ≠ gOh := blk_ne KO KOh (by decide)
  have k8 := blk_far (p := ⟨gOh, 1, none⟩) (blk_far (p := ⟨gOh, 0, none⟩) (blk_put (blk_put KO 0 v0 rfl) 1 v1 rfl) ne_ (.int .i64 x)) ne_ (.int .i64 y)
  have j9 := blk_far (p := ⟨gO, 1, none⟩) (blk_far (p := ⟨gO, 0, none⟩) KOh ne_.symm v0) ne_.symm v1
  exact ⟨k8, blk_put (blk_put j9 0 _ rfl) 1 _ rfl, Kd.R_set (Kd.R_set (Kd.R_set (Kd.R_set h0 KO (by decide) 0 _) (blk_put KO 0 _ rfl) (by decide) 1 _) j9 (by decide) 0 _) (blk_put j9 0 _ rfl) (by decide) 1 _, Kd.R_set (Kd.R_set (Kd.R_set (Kd.R_set h1 KO (by decide) 0 _) (blk_put KO 0 _ rfl) (by decide) 1 _) j9 (by decide) 0 _) (blk_put j9 0 _ rfl) (by decide) 1 _, below_set (below_set (below_set (below_set HB bO) bO) bOh) bOh⟩
set_option maxHeartbeats 8000000 in
set_option maxRecDepth 100000 in
theorem turnspitref14_Create.calls (k : Nat) (A0_0 : Option Addr) (c0_0 : Nat) (l0_0 : List Int) (A0_1 : Option Addr) (c0_1 : Nat) (l0_1 : List (S52)) (a1 : Int) (a2 : Int) (a3 : Int) (r1 : List Int) (r2 : List (S52)) (r3 : Int) (r4 : Int) (r5 : Int) (w : World) (hr0_0 : Kd.C (Kd.int .u64) w A0_0 l0_0.length l0_0) (hc0_0 : l0_0.length ≤ c0_0) (hr0_1 : Kd.C k52 w A0_1 l0_1.length l0_1) (hc0_1 : l0_1.length ≤ c0_1) (HLd : Ld w) (h : turnspitref14_Create.f k l0_0 l0_1 a1 a2 a3 = some (r1, r2, r3, r4, r5)) :
    Calls Tryd.prog 27 #[.agg #[.slice A0_0 l0_0.length c0_0, .slice A0_1 l0_1.length c0_1], .int .i64 a1, .int .i64 a2, .int .u64 a3] w fun e w' => ∃ v0_ v1_ : Value, e = .returned (.tuple #[.agg #[v0_, v1_], .agg #[.int .i64 r3, .int .i64 r4], .int .i64 r5]) ∧ Kd.R (Kd.int .u64) 28 w' w.heap.size (fun _ => True) v0_ r1 ∧ Kd.R k52 52 w' w.heap.size (fun _ => True) v1_ r2 ∧ Below w.heap.size w w' := by
  have hu25 := Tryd.underlying25
  have hu27 := Tryd.underlying27
  have hu52 := Tryd.underlying52
  have HR0 := Aside0.mk hr0_0
  have HC0 := Aside0.mk hc0_0
  have HR1 := Aside0.mk hr0_1
  have HC1 := Aside0.mk hc0_1
  have HL := Aside0.mk HLd
  clear hr0_0 hc0_0 hr0_1 hc0_1 HLd
  unfold turnspitref14_Create.f at h
  have H := h
  clear h
  obtain ⟨t223, A3_, H⟩ := Option.bind_eq_some_iff.1 H
  have A3 := Aside0.mk A3_
  clear A3_
  go_enter Tryd.func27, Tryd.ntmps27
  go_wp2_with fail
  refine (turnspitref14_Right.calls k A0_0 c0_0 l0_0 A0_1 c0_1 l0_1 t223 _ (Kd.C_below HR0.out (below_alloc (below_alloc (below_alloc (Below.refl w.heap.size w) _) _) _)) HC0.out (Kd.C_below HR1.out (below_alloc (below_alloc (below_alloc (Below.refl w.heap.size w) _) _) _)) HC1.out (Ld.below HL.out (by exact (below_alloc (below_alloc (below_alloc (Below.refl w.heap.size w) _) _) _))) A3.out).mono ?_
  rintro e w1 ⟨rfl, hb⟩
  have HB1 := Aside0.mk (below_step (below_alloc (below_alloc (below_alloc (Below.refl w.heap.size w) _) _) _) hb)
  have Kn_T : (w.alloc (.cells #[.slice A0_0 l0_0.length c0_0, .slice A0_1 l0_1.length c0_1] 25)).heap[w.heap.size]? = some (.cells #[.slice A0_0 l0_0.length c0_0, .slice A0_1 l0_1.length c0_1] 25 (0, 0)) := by have h_ := blk_new w (.cells #[.slice A0_0 l0_0.length c0_0, .slice A0_1 l0_1.length c0_1] 25); simpa only [World.size_alloc] using h_
  have Kn_O : ((w.alloc (.cells #[.slice A0_0 l0_0.length c0_0, .slice A0_1 l0_1.length c0_1] 25)).alloc (.cells #[.slice none 0 0, .slice none 0 0] 25)).heap[w.heap.size + 1]? = some (.cells #[.slice none 0 0, .slice none 0 0] 25 (0, 0)) := by have h_ := blk_new (w.alloc (.cells #[.slice A0_0 l0_0.length c0_0, .slice A0_1 l0_1.length c0_1] 25)) (.cells #[.slice none 0 0, .slice none 0 0] 25); simpa only [World.size_alloc] using h_
  have Kn_Oh : (((w.alloc (.cells #[.slice A0_0 l0_0.length c0_0, .slice A0_1 l0_1.length c0_1] 25)).alloc (.cells #[.slice none 0 0, .slice none 0 0] 25)).alloc (.cells #[.int .i64 0, .int .i64 0] 27)).heap[w.heap.size + 2]? = some (.cells #[.int .i64 0, .int .i64 0] 27 (0, 0)) := by have h_ := blk_new ((w.alloc (.cells #[.slice A0_0 l0_0.length c0_0, .slice A0_1 l0_1.length c0_1] 25)).alloc (.cells #[.slice none 0 0, .slice none 0 0] 25)) (.cells #[.int .i64 0, .int .i64 0] 27); simpa only [World.size_alloc] using h_
  have KT_ := Aside0.mk (blk_below (blk_alloc (blk_alloc Kn_T _) _) hb)
  have KO_ := Aside0.mk (blk_below (blk_alloc Kn_O _) hb)
  have KOh_ := Aside0.mk (blk_below Kn_Oh hb)
  have KT := KT_
  clear KT_
  have KO := KO_
  clear KO_
  have KOh := KOh_
  clear KOh_
  clear Kn_T
  clear Kn_O
  clear Kn_Oh
  clear hb
  generalize hgOh : w.heap.size + 2 = gOh at KOh ⊢
  have bOh : Aside0 (w.heap.size ≤ gOh) := ⟨by have h_ := ((Below.refl w.heap.size w) : Below w.heap.size w w).size; omega⟩
  clear hgOh
  generalize hgO : w.heap.size + 1 = gO at KO ⊢
  have bO : Aside0 (w.heap.size ≤ gO) := ⟨by have h_ := ((Below.refl w.heap.size w) : Below w.heap.size w w).size; omega⟩
  clear hgO
  generalize hgT : w.heap.size = gT at KT ⊢
  have bT : Aside0 (w.heap.size ≤ gT) := ⟨by have h_ := ((Below.refl w.heap.size w) : Below w.heap.size w w).size; omega⟩
  clear hgT
  have xT_1_0 : w1.cell? ⟨gT, 0, none⟩ = some (.slice A0_0 l0_0.length c0_0) := (blk_cell KT.out 0).trans rfl
  have xT_1_1 : w1.cell? ⟨gT, 1, none⟩ = some (.slice A0_1 l0_1.length c0_1) := (blk_cell KT.out 1).trans rfl
  have xO_1_0 : w1.cell? ⟨gO, 0, none⟩ = some (.slice none 0 0) := (blk_cell KO.out 0).trans rfl
  have xO_1_0f := blk_frozen KO.out 0
  have xO_1_1 : w1.cell? ⟨gO, 1, none⟩ = some (.slice none 0 0) := (blk_cell KO.out 1).trans rfl
  have xO_1_1f := blk_frozen KO.out 1
  have xOh_1_0 : w1.cell? ⟨gOh, 0, none⟩ = some (.int .i64 0) := (blk_cell KOh.out 0).trans rfl
  have xOh_1_0f := blk_frozen KOh.out 0
  have xOh_1_1 : w1.cell? ⟨gOh, 1, none⟩ = some (.int .i64 0) := (blk_cell KOh.out 1).trans rfl
  have xOh_1_1f := blk_frozen KOh.out 1
  cases t223
  · rw [if_neg Bool.false_ne_true] at H
    simp only [Option.some.injEq, Prod.mk.injEq] at H
    obtain ⟨rfl, rfl, rfl, rfl, rfl⟩ := H
    have q1_ := eq_false (blk_ne KO.out KOh.out (by decide))
    have q2_ := eq_false (blk_ne KOh.out KO.out (by decide))
    go_wp2_with fail
    obtain ⟨k8, k9, f0_, f1_, fb_⟩ := put27_ KO.out KOh.out HB1.out bO.out bOh.out (Kd.R_nil _ _ _ _ _) (Kd.R_nil _ _ _ _ _)
    exact bodyPost_ret (res27_ _ _ _ _ _ _ _ _ _ rfl rfl rfl k8 k9) rfl ⟨_, _, rfl, f0_, f1_, fb_⟩
  · rw [if_pos rfl] at H
    obtain ⟨t224, A4_, H⟩ := Option.bind_eq_some_iff.1 H
    have A4 := Aside0.mk A4_
    clear A4_
    go_wp2_with fail
    refine (turnspitref04_All.calls k a1 t224 _ A4.out).mono ?_
    rintro e w2 ⟨rfl, hd⟩
    have hb := Drawn0.below hd
    clear hd
    have HB2 := Aside0.mk (below_step HB1.out hb)
    have KT_ := Aside0.mk (blk_below KT.out hb)
    have KO_ := Aside0.mk (blk_below KO.out hb)
    have KOh_ := Aside0.mk (blk_below KOh.out hb)
    clear KT
    have KT := KT_
    clear KT_
    clear KO
    have KO := KO_
    clear KO_
    clear KOh
    have KOh := KOh_
    clear KOh_
    clear hb
    try clear xT_1_0 xT_1_1 xO_1_0 xO_1_0f xO_1_1 xO_1_1f xOh_1_0 xOh_1_0f xOh_1_1 xOh_1_1f
    have xT_2_0 : w2.cell? ⟨gT, 0, none⟩ = some (.slice A0_0 l0_0.length c0_0) := (blk_cell KT.out 0).trans rfl
    have xT_2_1 : w2.cell? ⟨gT, 1, none⟩ = some (.slice A0_1 l0_1.length c0_1) := (blk_cell KT.out 1).trans rfl
    have xO_2_0 : w2.cell? ⟨gO, 0, none⟩ = some (.slice none 0 0) := (blk_cell KO.out 0).trans rfl
    have xO_2_0f := blk_frozen KO.out 0
    have xO_2_1 : w2.cell? ⟨gO, 1, none⟩ = some (.slice none 0 0) := (blk_cell KO.out 1).trans rfl
    have xO_2_1f := blk_frozen KO.out 1
    have xOh_2_0 : w2.cell? ⟨gOh, 0, none⟩ = some (.int .i64 0) := (blk_cell KOh.out 0).trans rfl
    have xOh_2_0f := blk_frozen KOh.out 0
    have xOh_2_1 : w2.cell? ⟨gOh, 1, none⟩ = some (.int .i64 0) := (blk_cell KOh.out 1).trans rfl
    have xOh_2_1f := blk_frozen KOh.out 1
    by_cases c1 : a1 < 1
    · rw [if_pos c1] at H
      have c1b : decide (a1 < 1) = true := decide_eq_true c1
      clear c1
      cases k with
      | zero => simp [turnspitref14_Create.j0] at H
      | succ k =>
        rw [turnspitref14_Create.j0, if_pos rfl] at H
        simp only [Option.some.injEq, Prod.mk.injEq] at H
        obtain ⟨rfl, rfl, rfl, rfl, rfl⟩ := H
        have q1_ := eq_false (blk_ne KO.out KOh.out (by decide))
        have q2_ := eq_false (blk_ne KOh.out KO.out (by decide))
        go_wp2_with fail
        obtain ⟨k8, k9, f0_, f1_, fb_⟩ := put27_ KO.out KOh.out HB2.out bO.out bOh.out (Kd.R_nil _ _ _ _ _) (Kd.R_nil _ _ _ _ _)
        exact bodyPost_ret (res27_ _ _ _ _ _ _ _ _ _ rfl rfl rfl k8 k9) rfl ⟨_, _, rfl, f0_, f1_, fb_⟩
    · rw [if_neg c1] at H
      have c1b : decide (a1 < 1) = false := decide_eq_false c1
      clear c1
      by_cases c2 : 64 < a1
      · rw [if_pos c2] at H
        have c2b : decide (64 < a1) = true := decide_eq_true c2
        clear c2
        cases k with
        | zero => simp [turnspitref14_Create.j0] at H
        | succ k =>
          rw [turnspitref14_Create.j0, if_pos rfl] at H
          simp only [Option.some.injEq, Prod.mk.injEq] at H
          obtain ⟨rfl, rfl, rfl, rfl, rfl⟩ := H
          have q1_ := eq_false (blk_ne KO.out KOh.out (by decide))
          have q2_ := eq_false (blk_ne KOh.out KO.out (by decide))
          go_wp2_with fail
          obtain ⟨k8, k9, f0_, f1_, fb_⟩ := put27_ KO.out KOh.out HB2.out bO.out bOh.out (Kd.R_nil _ _ _ _ _) (Kd.R_nil _ _ _ _ _)
          exact bodyPost_ret (res27_ _ _ _ _ _ _ _ _ _ rfl rfl rfl k8 k9) rfl ⟨_, _, rfl, f0_, f1_, fb_⟩
      · rw [if_neg c2] at H
        have c2b : decide (64 < a1) = false := decide_eq_false c2
        clear c2
        by_cases c3 : a2 < (-20)
        · rw [if_pos c3] at H
          have c3b : decide (a2 < (-20)) = true := decide_eq_true c3
          clear c3
          cases k with
          | zero => simp [turnspitref14_Create.j0] at H
          | succ k =>
            rw [turnspitref14_Create.j0, if_pos rfl] at H
            simp only [Option.some.injEq, Prod.mk.injEq] at H
            obtain ⟨rfl, rfl, rfl, rfl, rfl⟩ := H
            have q1_ := eq_false (blk_ne KO.out KOh.out (by decide))
            have q2_ := eq_false (blk_ne KOh.out KO.out (by decide))
            go_wp2_with fail
            obtain ⟨k8, k9, f0_, f1_, fb_⟩ := put27_ KO.out KOh.out HB2.out bO.out bOh.out (Kd.R_nil _ _ _ _ _) (Kd.R_nil _ _ _ _ _)
            exact bodyPost_ret (res27_ _ _ _ _ _ _ _ _ _ rfl rfl rfl k8 k9) rfl ⟨_, _, rfl, f0_, f1_, fb_⟩
        · rw [if_neg c3] at H
          have c3b : decide (a2 < (-20)) = false := decide_eq_false c3
          clear c3
          by_cases c4 : 19 < a2
          · rw [if_pos c4] at H
            have c4b : decide (19 < a2) = true := decide_eq_true c4
            clear c4
            cases k with
            | zero => simp [turnspitref14_Create.j0] at H
            | succ k =>
              rw [turnspitref14_Create.j0, if_pos rfl] at H
              simp only [Option.some.injEq, Prod.mk.injEq] at H
              obtain ⟨rfl, rfl, rfl, rfl, rfl⟩ := H
              have q1_ := eq_false (blk_ne KO.out KOh.out (by decide))
              have q2_ := eq_false (blk_ne KOh.out KO.out (by decide))
              go_wp2_with fail
              obtain ⟨k8, k9, f0_, f1_, fb_⟩ := put27_ KO.out KOh.out HB2.out bO.out bOh.out (Kd.R_nil _ _ _ _ _) (Kd.R_nil _ _ _ _ _)
              exact bodyPost_ret (res27_ _ _ _ _ _ _ _ _ _ rfl rfl rfl k8 k9) rfl ⟨_, _, rfl, f0_, f1_, fb_⟩
          · rw [if_neg c4] at H
            have c4b : decide (19 < a2) = false := decide_eq_false c4
            clear c4
            cases c5b : (Go.bits .and .u64 a3 t224) == 0
            · rw [c5b] at H
              cases k with
              | zero => simp [turnspitref14_Create.j0] at H
              | succ k =>
                rw [turnspitref14_Create.j0, if_neg Bool.false_ne_true] at H
                obtain ⟨⟨t225, t226⟩, A5_, H⟩ := Option.bind_eq_some_iff.1 H
                have A5 := Aside0.mk A5_
                clear A5_
                replace H : turnspitref14_Create.l0 k a2 (Go.bits .and .u64 a3 t224) t225 0 l0_0 l0_1 = some (r1, r2, r3, r4, r5) := H
                go_wp2_with fail
                refine (turnspitref04_First.calls k (Go.bits .and .u64 a3 t224) t225 t226 _ (Ld.below HL.out (by exact HB2.out)) A5.out).mono ?_
                rintro e w3 ⟨rfl, hb⟩
                have HB3 := Aside0.mk (below_step HB2.out hb)
                have KT_ := Aside0.mk (blk_below KT.out hb)
                have KO_ := Aside0.mk (blk_below KO.out hb)
                have KOh_ := Aside0.mk (blk_below KOh.out hb)
                clear KT
                have KT := KT_
                clear KT_
                clear KO
                have KO := KO_
                clear KO_
                clear KOh
                have KOh := KOh_
                clear KOh_
                clear hb
                try clear xT_2_0 xT_2_1 xO_2_0 xO_2_0f xO_2_1 xO_2_1f xOh_2_0 xOh_2_0f xOh_2_1 xOh_2_1f
                have xT_3_0 : w3.cell? ⟨gT, 0, none⟩ = some (.slice A0_0 l0_0.length c0_0) := (blk_cell KT.out 0).trans rfl
                have xT_3_1 : w3.cell? ⟨gT, 1, none⟩ = some (.slice A0_1 l0_1.length c0_1) := (blk_cell KT.out 1).trans rfl
                have xO_3_0 : w3.cell? ⟨gO, 0, none⟩ = some (.slice none 0 0) := (blk_cell KO.out 0).trans rfl
                have xO_3_0f := blk_frozen KO.out 0
                have xO_3_1 : w3.cell? ⟨gO, 1, none⟩ = some (.slice none 0 0) := (blk_cell KO.out 1).trans rfl
                have xO_3_1f := blk_frozen KO.out 1
                have xOh_3_0 : w3.cell? ⟨gOh, 0, none⟩ = some (.int .i64 0) := (blk_cell KOh.out 0).trans rfl
                have xOh_3_0f := blk_frozen KOh.out 0
                have xOh_3_1 : w3.cell? ⟨gOh, 1, none⟩ = some (.int .i64 0) := (blk_cell KOh.out 1).trans rfl
                have xOh_3_1f := blk_frozen KOh.out 1
                go_wp2_with fail
                have HX := Aside0.mk H
                clear H
                clear xT_3_0 xT_3_1 xO_3_0 xO_3_0f xO_3_1 xO_3_1f xOh_3_0 xOh_3_0f xOh_3_1 xOh_3_1f
                go_loopg [14] k (fun kq v14 w' => ∃ (i : Int) (wl : World), v14 = .int .i64 i ∧ wl = w' ∧ Aside0 (turnspitref14_Create.l0 kq a2 (Go.bits .and .u64 a3 t224) t225 i l0_0 l0_1 = some (r1, r2, r3, r4, r5)) ∧ Aside0 (kq ≤ k) ∧ Aside0 (Below w.heap.size w w') ∧ Aside0 (w'.heap[gT]? = some (.cells #[.slice A0_0 l0_0.length c0_0, .slice A0_1 l0_1.length c0_1] 25 (0, 0))) ∧ Aside0 (w'.heap[gO]? = some (.cells #[.slice none 0 0, .slice none 0 0] 25 (0, 0))) ∧ Aside0 (w'.heap[gOh]? = some (.cells #[.int .i64 0, .int .i64 0] 27 (0, 0))))
                case atStart => exact ⟨0, _, rfl, rfl, HX, ⟨Nat.le_refl _⟩, HB3, KT, KO, KOh⟩
                case round =>
                  clear HX KT KO KOh
                  obtain ⟨i, wl, rfl, rfl, HA, HK1, HBl, KT, KO, KOh⟩ := hrel
                  cases gk with
                  | zero => exact absurd HA.out (by simp [turnspitref14_Create.l0])
                  | succ k1 =>
                    have H := HA.out
                    clear HA
                    simp only [turnspitref14_Create.l0] at H
                    have xT_20_0 : wl.cell? ⟨gT, 0, none⟩ = some (.slice A0_0 l0_0.length c0_0) := (blk_cell KT.out 0).trans rfl
                    have xT_20_1 : wl.cell? ⟨gT, 1, none⟩ = some (.slice A0_1 l0_1.length c0_1) := (blk_cell KT.out 1).trans rfl
                    have xO_20_0 : wl.cell? ⟨gO, 0, none⟩ = some (.slice none 0 0) := (blk_cell KO.out 0).trans rfl
                    have xO_20_0f := blk_frozen KO.out 0
                    have xO_20_1 : wl.cell? ⟨gO, 1, none⟩ = some (.slice none 0 0) := (blk_cell KO.out 1).trans rfl
                    have xO_20_1f := blk_frozen KO.out 1
                    have xOh_20_0 : wl.cell? ⟨gOh, 0, none⟩ = some (.int .i64 0) := (blk_cell KOh.out 0).trans rfl
                    have xOh_20_0f := blk_frozen KOh.out 0
                    have xOh_20_1 : wl.cell? ⟨gOh, 1, none⟩ = some (.int .i64 0) := (blk_cell KOh.out 1).trans rfl
                    have xOh_20_1f := blk_frozen KOh.out 1
                    by_cases il : i < (l0_0.length : Int)
                    · rw [if_pos il] at H
                      have ilb : decide (i < (l0_0.length : Int)) = true := decide_eq_true il
                      clear il
                      by_cases i0 : 0 ≤ i
                      · rw [if_pos i0] at H
                        have i0b : decide (0 ≤ i) = true := decide_eq_true i0
                        clear i0
                        obtain ⟨⟨t228, t229⟩, A6_, H⟩ := Option.bind_eq_some_iff.1 H
                        have A6 := Aside0.mk A6_
                        clear A6_
                        obtain ⟨ad, ead, hx⟩ := Kd.at_int HR0.out i (of_decide_eq_true i0b) (of_decide_eq_true ilb)
                        subst ead
                        have hx_ : wl.cell? (ad.add (i).toNat) = some (.int .u64 (rd l0_0 i)) := pw_cell_below HBl.out hx
                        clear hx
                        have p7 := eq_true (of_decide_eq_true i0b)
                        have p8 := eq_true (of_decide_eq_true ilb)
                        go_wp2_with fail
                        refine (turnspitref07_Next.calls k1 (rd l0_0 i) 0 t225 t228 t229 _ (Ld.below HL.out (by exact HBl.out)) A6.out).mono ?_
                        rintro e w21 ⟨rfl, hb⟩
                        have HB21 := Aside0.mk (below_step HBl.out hb)
                        have KT_ := Aside0.mk (blk_below KT.out hb)
                        have KO_ := Aside0.mk (blk_below KO.out hb)
                        have KOh_ := Aside0.mk (blk_below KOh.out hb)
                        clear KT
                        have KT := KT_
                        clear KT_
                        clear KO
                        have KO := KO_
                        clear KO_
                        clear KOh
                        have KOh := KOh_
                        clear KOh_
                        clear hb
                        try clear xT_20_0 xT_20_1 xO_20_0 xO_20_0f xO_20_1 xO_20_1f xOh_20_0 xOh_20_0f xOh_20_1 xOh_20_1f
                        have xT_21_0 : w21.cell? ⟨gT, 0, none⟩ = some (.slice (some ad) l0_0.length c0_0) := (blk_cell KT.out 0).trans rfl
                        have xT_21_1 : w21.cell? ⟨gT, 1, none⟩ = some (.slice A0_1 l0_1.length c0_1) := (blk_cell KT.out 1).trans rfl
                        have xO_21_0 : w21.cell? ⟨gO, 0, none⟩ = some (.slice none 0 0) := (blk_cell KO.out 0).trans rfl
                        have xO_21_0f := blk_frozen KO.out 0
                        have xO_21_1 : w21.cell? ⟨gO, 1, none⟩ = some (.slice none 0 0) := (blk_cell KO.out 1).trans rfl
                        have xO_21_1f := blk_frozen KO.out 1
                        have xOh_21_0 : w21.cell? ⟨gOh, 0, none⟩ = some (.int .i64 0) := (blk_cell KOh.out 0).trans rfl
                        have xOh_21_0f := blk_frozen KOh.out 0
                        have xOh_21_1 : w21.cell? ⟨gOh, 1, none⟩ = some (.int .i64 0) := (blk_cell KOh.out 1).trans rfl
                        have xOh_21_1f := blk_frozen KOh.out 1
                        by_cases c9 : t229 = 0
                        · rw [if_pos c9] at H
                          have c9b : (t229 == 0) = true := beq_iff_eq.mpr c9
                          have c9d : (t229 != 0) = false := bne_eq_false_iff_eq.mpr c9
                          clear c9
                          obtain ⟨t230, A7_, H⟩ := Option.bind_eq_some_iff.1 H
                          have A7 := Aside0.mk A7_
                          clear A7_
                          obtain ⟨⟨t231, t233⟩, A8_, H⟩ := Option.bind_eq_some_iff.1 H
                          have A8 := Aside0.mk A8_
                          clear A8_
                          simp only [Option.some.injEq, Prod.mk.injEq] at H
                          obtain ⟨rfl, rfl, rfl, rfl, rfl⟩ := H
                          go_wp2_with fail
                          refine (turnspitref06_Gen.calls t228 t230 _ A7.out).mono ?_
                          rintro e w22 ⟨rfl, hd⟩
                          have hb := Drawn0.below hd
                          clear hd
                          have HB22 := Aside0.mk (below_step HB21.out hb)
                          have KT_ := Aside0.mk (blk_below KT.out hb)
                          have KO_ := Aside0.mk (blk_below KO.out hb)
                          have KOh_ := Aside0.mk (blk_below KOh.out hb)
                          clear KT
                          have KT := KT_
                          clear KT_
                          clear KO
                          have KO := KO_
                          clear KO_
                          clear KOh
                          have KOh := KOh_
                          clear KOh_
                          clear hb
                          try clear xT_21_0 xT_21_1 xO_21_0 xO_21_0f xO_21_1 xO_21_1f xOh_21_0 xOh_21_0f xOh_21_1 xOh_21_1f
                          have xT_22_0 : w22.cell? ⟨gT, 0, none⟩ = some (.slice (some ad) l0_0.length c0_0) := (blk_cell KT.out 0).trans rfl
                          have xT_22_1 : w22.cell? ⟨gT, 1, none⟩ = some (.slice A0_1 l0_1.length c0_1) := (blk_cell KT.out 1).trans rfl
                          have xO_22_0 : w22.cell? ⟨gO, 0, none⟩ = some (.slice none 0 0) := (blk_cell KO.out 0).trans rfl
                          have xO_22_0f := blk_frozen KO.out 0
                          have xO_22_1 : w22.cell? ⟨gO, 1, none⟩ = some (.slice none 0 0) := (blk_cell KO.out 1).trans rfl
                          have xO_22_1f := blk_frozen KO.out 1
                          have xOh_22_0 : w22.cell? ⟨gOh, 0, none⟩ = some (.int .i64 0) := (blk_cell KOh.out 0).trans rfl
                          have xOh_22_0f := blk_frozen KOh.out 0
                          have xOh_22_1 : w22.cell? ⟨gOh, 1, none⟩ = some (.int .i64 0) := (blk_cell KOh.out 1).trans rfl
                          have xOh_22_1f := blk_frozen KOh.out 1
                          go_wp2_with fail
                          refine (turnspitref14_With.calls (some ad) c0_0 l0_0 A0_1 c0_1 l0_1 i t228 a2 (Go.bits .and .u64 a3 t224) 0 t231 t233 _ (Kd.C_below HR0.out HB22.out) HC0.out (Kd.C_below HR1.out HB22.out) HC1.out (Ld.below HL.out (by exact HB22.out)) A8.out).mono ?_
                          rintro e w23 ⟨vn0, vn1, rfl, ho0, ho1, hb⟩
                          obtain ⟨An0, cn0, rfl⟩ := Kd.R_slice ho0
                          obtain ⟨An1, cn1, rfl⟩ := Kd.R_slice ho1
                          have Hn0 := Aside0.mk ho0
                          have Hn1 := Aside0.mk ho1
                          clear ho0 ho1
                          have HB23 := Aside0.mk (below_step HB22.out hb)
                          have KT_ := Aside0.mk (blk_below KT.out hb)
                          have KO_ := Aside0.mk (blk_below KO.out hb)
                          have KOh_ := Aside0.mk (blk_below KOh.out hb)
                          clear KT
                          have KT := KT_
                          clear KT_
                          clear KO
                          have KO := KO_
                          clear KO_
                          clear KOh
                          have KOh := KOh_
                          clear KOh_
                          clear hb
                          try clear xT_22_0 xT_22_1 xO_22_0 xO_22_0f xO_22_1 xO_22_1f xOh_22_0 xOh_22_0f xOh_22_1 xOh_22_1f
                          have xO_23_0 : w23.cell? ⟨gO, 0, none⟩ = some (.slice none 0 0) := (blk_cell KO.out 0).trans rfl
                          have xO_23_0f := blk_frozen KO.out 0
                          have xO_23_1 : w23.cell? ⟨gO, 1, none⟩ = some (.slice none 0 0) := (blk_cell KO.out 1).trans rfl
                          have xO_23_1f := blk_frozen KO.out 1
                          have xOh_23_0 : w23.cell? ⟨gOh, 0, none⟩ = some (.int .i64 0) := (blk_cell KOh.out 0).trans rfl
                          have xOh_23_0f := blk_frozen KOh.out 0
                          have xOh_23_1 : w23.cell? ⟨gOh, 1, none⟩ = some (.int .i64 0) := (blk_cell KOh.out 1).trans rfl
                          have xOh_23_1f := blk_frozen KOh.out 1
                          have q1_ := eq_false (blk_ne KO.out KOh.out (by decide))
                          have q2_ := eq_false (blk_ne KOh.out KO.out (by decide))
                          go_wp2_with fail
                          obtain ⟨k8, k9, f0_, f1_, fb_⟩ := put27_ KO.out KOh.out HB23.out bO.out bOh.out (Kd.R_lower Hn0.out HB22.out.size) (Kd.R_lower Hn1.out HB22.out.size)
                          exact bodyPost_ret (res27_ _ _ _ _ _ _ _ _ _ rfl rfl rfl k8 k9) rfl ⟨_, _, rfl, f0_, f1_, fb_⟩
                        · rw [if_neg c9] at H
                          have c9b : (t229 == 0) = false := beq_eq_false_iff_ne.mpr c9
                          have c9d : (t229 != 0) = true := bne_iff_ne.mpr c9
                          clear c9
                          go_wp2_with fail
                          go_roundg k1
                          case measure => have := HK1.out; omega
                          case rel => exact ⟨wrap64 (i + 1), _, rfl, rfl, ⟨H⟩, ⟨by have := HK1.out; omega⟩, HB21, KT, KO, KOh⟩
                      · rw [if_neg i0] at H
                        have i0b : decide (0 ≤ i) = false := decide_eq_false i0
                        clear i0
                        exact absurd H (by simp)
                    · rw [if_neg il] at H
                      have ilb : decide (i < (l0_0.length : Int)) = false := decide_eq_false il
                      clear il
                      simp only [Option.some.injEq, Prod.mk.injEq] at H
                      obtain ⟨rfl, rfl, rfl, rfl, rfl⟩ := H
                      have q1_ := eq_false (blk_ne KO.out KOh.out (by decide))
                      have q2_ := eq_false (blk_ne KOh.out KO.out (by decide))
                      go_wp2_with fail
                      obtain ⟨k8, k9, f0_, f1_, fb_⟩ := put27_ KO.out KOh.out HBl.out bO.out bOh.out (Kd.R_nil _ _ _ _ _) (Kd.R_nil _ _ _ _ _)
                      exact bodyPost_ret (res27_ _ _ _ _ _ _ _ _ _ rfl rfl rfl k8 k9) rfl ⟨_, _, rfl, f0_, f1_, fb_⟩
            · rw [c5b] at H
              cases k with
              | zero => simp [turnspitref14_Create.j0] at H
              | succ k =>
                rw [turnspitref14_Create.j0, if_pos rfl] at H
                simp only [Option.some.injEq, Prod.mk.injEq] at H
                obtain ⟨rfl, rfl, rfl, rfl, rfl⟩ := H
                have q1_ := eq_false (blk_ne KO.out KOh.out (by decide))
                have q2_ := eq_false (blk_ne KOh.out KO.out (by decide))
                go_wp2_with fail
                obtain ⟨k8, k9, f0_, f1_, fb_⟩ := put27_ KO.out KOh.out HB2.out bO.out bOh.out (Kd.R_nil _ _ _ _ _) (Kd.R_nil _ _ _ _ _)
                exact bodyPost_ret (res27_ _ _ _ _ _ _ _ _ _ rfl rfl rfl k8 k9) rfl ⟨_, _, rfl, f0_, f1_, fb_⟩

end Go.Proofs.YtdchbcpfciljoaaDoor.Print

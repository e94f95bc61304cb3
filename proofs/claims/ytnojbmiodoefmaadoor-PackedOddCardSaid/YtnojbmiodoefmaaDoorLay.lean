/- What the row lists of the package-level table is what the walks ask. -/
import Derived.Test.YtnojbmiodoefmaaDoorRows
import Derived.Test.YtnojbmiodoefmaaDoorLd
import Derived.ProofKit
import Derived.LaidMore
import Derived.OpenShut
import Derived.MakeChecks
import Derived.Lib.LaidTab
import Derived.Lib.SmallJoins
import Derived.Deep.Slices
import Derived.Deep.Fields
namespace Go.Proofs.YtnojbmiodoefmaaDoor
open Go.ChangeShapes Go.WideShapes Go.ChangeAt Go.RowKit
section
open Go.Joins Go.ChangeShapes Go.WideShapes Go.RowKit Go.Deep
variable {H : Type} {enc : TypeId × Value → H} {P : Program} {w : World} {base : Nat} {spare : Nat → Bool} {held : Bool}
theorem open_agg5 {r : Reach} {b0 : Nat} {t : TypeId} {f0 f1 f2 f3 f4 : Field} {v : Value} {d : DataW H} {p : List MemPlace} (hs : P.underlying t = some (.struct #[f0, f1, f2, f3, f4])) (hone : oneCellFields P #[f0, f1, f2, f3, f4] = true) (hC : P.cellsOf t = 5)
    (hv : Value.okWide P w r b0 t v) (h : DataW.Trod enc P w base spare held t v d p) :
    ∃ (v0 v1 v2 v3 v4 : Value) (y0 y1 y2 y3 y4 : DataW H × List MemPlace) (n : Nat), v = .agg #[v0, v1, v2, v3, v4] ∧ d = .agg [y0.1, y1.1, y2.1, y3.1, y4.1] ∧ p = y0.2 ++ (y1.2 ++ (y2.2 ++ (y3.2 ++ y4.2))) ∧
      DataW.trod enc P w base spare held n f0.type [v0] = some y0 ∧ DataW.trod enc P w base spare held n f1.type [v1] = some y1 ∧ DataW.trod enc P w base spare held n f2.type [v2] = some y2 ∧ DataW.trod enc P w base spare held n f3.type [v3] = some y3 ∧ DataW.trod enc P w base spare held n f4.type [v4] = some y4 := by
  obtain ⟨cs, rfl, hsz⟩ := okWide_struct hs hv
  obtain ⟨l⟩ := cs
  match l, hsz.trans hC with
  | [c0, c1, c2, c3, c4], _ =>
    obtain ⟨fuel, hf⟩ := h
    obtain ⟨xs, n, _, hx, _, hlen, hg⟩ := DataW.trod_struct hs hf
    obtain ⟨o0, k0⟩ := hone_of hone 0 f0 rfl
    obtain ⟨o1, k1⟩ := hone_of hone 1 f1 rfl
    obtain ⟨o2, k2⟩ := hone_of hone 2 f2 rfl
    obtain ⟨o3, k3⟩ := hone_of hone 3 f3 rfl
    obtain ⟨o4, k4⟩ := hone_of hone 4 f4 rfl
    match xs, hlen with
    | [y0, y1, y2, y3, y4], _ =>
      simp only [Prod.mk.injEq] at hx
      exact ⟨c0, c1, c2, c3, c4, y0, y1, y2, y3, y4, n, rfl, by simpa using hx.1, by simpa using hx.2, by simpa [Value.cells, o0, k0] using hg 0 f0 rfl, by simpa [Value.cells, o1, k1] using hg 1 f1 rfl, by simpa [Value.cells, o2, k2] using hg 2 f2 rfl, by simpa [Value.cells, o3, k3] using hg 3 f3 rfl, by simpa [Value.cells, o4, k4] using hg 4 f4 rfl⟩
end
theorem gSpans : Tryd.prog.globalNamed "turnspit/packed.spans" = some 0 := by kernel_rfl
theorem tSpans : (Tryd.prog.globals[0]?).map (·.type) = some 46 := by kernel_rfl
theorem c3 : Tryd.prog.cellsOf 3 = 1 := by kernel_rfl
theorem c45 : Tryd.prog.cellsOf 45 = 2 := by kernel_rfl
theorem c46 : Tryd.prog.cellsOf 46 = 10 := by kernel_rfl
def laid1 : List (String × DataW Unit) := [("turnspit/packed.spans", Rows.laid_turnspit_packed_spans)]
theorem two_of {l : List Value} {a b : Value} {i : Nat} (h : (l.drop i).take 2 = [a, b]) : l[i]? = some a ∧ l[i + 1]? = some b := by
  have e0 : ((l.drop i).take 2)[0]? = some a := by rw [h]; rfl
  have e1 : ((l.drop i).take 2)[1]? = some b := by rw [h]; rfl
  rw [List.getElem?_take_of_lt (by decide), List.getElem?_drop] at e0 e1
  exact ⟨e0, e1⟩
theorem row_of {H : Type} {enc : TypeId × Value → H} {w : World} {base : Nat} {sp : Nat → Bool} {held : Bool} {m : Nat} {cs : List Value} {x : DataW H × List MemPlace} {a b : Int}
    (h : DataW.trod enc Tryd.prog w base sp held m 45 cs = some x) (hx : x.1 = .agg [.lit (.int .i64 a), .lit (.int .i64 b)]) : cs = [.int .i64 a, .int .i64 b] := by
  obtain ⟨x1, x2⟩ := x
  simp only at hx
  subst hx
  have := Lib.cells_of_tab (zs := [a, b]) Tryd.underlying45 Tryd.underlying3 c3 c45 h
  simpa using this
theorem ld_of_laid {W : World} (h : laidMetH Tryd.prog laid1 W) : Ld W := by
  rw [MakeChecks.laidMetH_plain _ _ _ (by kernel_rfl)] at h
  obtain ⟨ps, ⟨g0, t0, cs0, f0, p0, q0, hg0, ht0, hv0, hd0, _, _⟩, _, _⟩ := h
  obtain rfl := Option.some.inj (gSpans.symm.trans hg0)
  obtain rfl := Option.some.inj (tSpans.symm.trans ht0)
  obtain ⟨xs, m1, rfl, hx1, hlen, hn5, hel⟩ := DataW.trod_array Tryd.underlying46 hd0
  simp only [Prod.mk.injEq, Rows.laid_turnspit_packed_spans, DataW.agg.injEq] at hx1
  have hm := hx1.1
  have hi : ∀ (i : Nat) (a b : Int), i < 5 → (xs.map (·.1))[i]? = some (.agg [.lit (.int .i64 a), .lit (.int .i64 b)]) → cs0.toList[i * 2]? = some (.int .i64 a) ∧ cs0.toList[i * 2 + 1]? = some (.int .i64 b) := by
    intro i a b hi hx
    have h := hel i hi
    rw [c45] at h
    rw [List.getElem?_map] at hx
    obtain ⟨x, hx0, hx2⟩ := Option.map_eq_some_iff.1 hx
    rw [hx0] at h
    exact two_of (row_of h hx2)
  rw [← hm] at hi
  have h0 := hi 0 0 3 (by decide) rfl
  have h1 := hi 1 3 9 (by decide) rfl
  have h2 := hi 2 9 10 (by decide) rfl
  have h3 := hi 3 10 26 (by decide) rfl
  have h4 := hi 4 26 58 (by decide) rfl
  refine ⟨fun j hj => ?_⟩
  rw [World.var?_cell gSpans hv0 j, ← Array.getElem?_toList]
  match j, hj with
  | 0, _ => exact h0.1
  | 1, _ => exact h0.2
  | 2, _ => exact h1.1
  | 3, _ => exact h1.2
  | 4, _ => exact h2.1
  | 5, _ => exact h2.2
  | 6, _ => exact h3.1
  | 7, _ => exact h3.2
  | 8, _ => exact h4.1
  | 9, _ => exact h4.2
theorem door_met (os : Os) (args : Array Value) : laidMetH Tryd.prog laid1 ((World.doorLaid Tryd.prog 400 os).forCall (fun _ _ => 0) ⟨#[], args, []⟩).memory :=
  laidMetH_of_parts3 (fuel := 8) (laidMet_of_run' 8 (by kernel_rfl) (by kernel_rfl)) (by kernel_rfl) (by kernel_rfl)
end Go.Proofs.YtnojbmiodoefmaaDoor

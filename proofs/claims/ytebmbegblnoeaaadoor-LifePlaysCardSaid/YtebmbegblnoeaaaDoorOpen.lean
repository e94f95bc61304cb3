/- How a slice of events is opened: its elements are arrays of two numbers. -/
import Derived.Test.YtebmbegblnoeaaaDoorPureLifePlays
import Derived.Deep.Slices
import Derived.Test.YtebmbegblnoeaaaDoorLay
namespace Go.Proofs.YtebmbegblnoeaaaDoor
open Go.ChangeShapes Go.WideShapes Go.ChangeAt Go.RowKit Go.Proofs.YtebmbegblnoeaaaDoor.Given Go.Proofs.YtebmbegblnoeaaaDoor.Print Go.Proofs.YtebmbegblnoeaaaDoorW.PrintWords
set_option linter.unusedVariables false
set_option linter.unusedSimpArgs false
section
open Go.ChangeShapes Go.WideShapes Go.RowKit Go.Deep
variable {H : Type} {enc : TypeId × Value → H} {w : World} {base : Nat} {spare : Nat → Bool} {held : Bool}
theorem c40_ : Tryd.prog.cellsOf 40 = 2 := by kernel_rfl
theorem c3_ : Tryd.prog.cellsOf 3 = 1 := by kernel_rfl
theorem open_ev {n : Nat} {cs : List Value} {y : DataW H × List MemPlace} (hl : cs.length = 2) (h : DataW.trod enc Tryd.prog w base spare held n 40 cs = some y) : ∃ x : S40, cs = [.int .i64 x.f0, .int .i64 x.f1] ∧ (Lit.int .i64 x.f0).wf = true := by
  obtain ⟨xs, m1, _, hx1, hlen, hn5, hel⟩ := DataW.trod_array Tryd.underlying40 h
  match cs, hl with
  | [v0, v1], _ =>
    have g0 := hel 0 (by decide)
    have g1 := hel 1 (by decide)
    simp [c3_] at g0 g1
    have l2 : xs.length = 2 := by first | exact hn5 | exact hlen | omega
    match xs, l2 with
    | [y0, y1], _ =>
      obtain ⟨a0, q0, _, w0⟩ := DataW.trod_int Tryd.underlying3 g0
      obtain ⟨a1, q1, _, _⟩ := DataW.trod_int Tryd.underlying3 g1
      obtain rfl := List.cons.inj q0 |>.1
      obtain rfl := List.cons.inj q1 |>.1
      exact ⟨⟨a0, a1⟩, rfl, w0⟩
theorem open_evs {n : Nat} {v : Value} {cs : List Value} {y : DataW H × List MemPlace} (hv : cs = [v]) (h : DataW.trod enc Tryd.prog w base spare held n 30 cs = some y) : ∃ (A : Option Addr) (c : Nat) (l : List S40), v = .slice A l.length c ∧ Kd.C k40 w A l.length l ∧ l.length ≤ c ∧ Wf40 l := by
  subst hv
  rcases open_slice Tryd.underlying30 h with ⟨hcs, _⟩ | ⟨a, len, cap, m, n, D, Pl, hcs, hb, hl, hm, hmm, _, hx⟩
  · obtain rfl := List.cons.inj hcs |>.1
    exact ⟨none, 0, [], rfl, ⟨rfl, by decide, fun h => absurd h (by decide)⟩, Nat.le_refl _, fun y hy => by cases hy⟩
  · obtain rfl := List.cons.inj hcs |>.1
    have hlm : len ≤ m := by rw [hmm]; split <;> omega
    have each : ∀ i, i < len → ∃ x : S40, w.cells? base (a.add (i * 2)) 2 = some [.int .i64 x.f0, .int .i64 x.f1] ∧ (Lit.int .i64 x.f0).wf = true := by
      intro i hi
      obtain ⟨cs', h1, h2⟩ := hx i (by omega)
      rw [c40_] at h1
      obtain ⟨_, hl2, _⟩ := World.cells?_some h1
      obtain ⟨x, rfl, hx0⟩ := open_ev hl2 h2
      exact ⟨x, h1, hx0⟩
    have : Inhabited S40 := ⟨z40⟩
    obtain ⟨q, hq⟩ := choose_lt (α := S40) each
    have hlen : ((List.range len).map q).length = len := by simp
    refine ⟨some a, cap, (List.range len).map q, by rw [hlen], ⟨rfl, by rw [hlen]; unfold maxLen at hm; omega, fun hn => ⟨a, rfl, fun j p hp => ?_⟩⟩, by rw [hlen]; exact hl, ?_⟩
    · rw [List.getElem?_map, Option.map_eq_some_iff] at hp
      obtain ⟨i, hi, rfl⟩ := hp
      have hjl : j < len := by
        have := (List.getElem?_eq_some_iff.1 hi).1
        simpa using this
      rw [List.getElem?_range hjl] at hi
      injection hi with hi
      subst hi
      refine ⟨_, rfl, k40_mk w (q j), fun i u hu => ?_⟩
      obtain ⟨_, _, hc⟩ := World.cells?_some (hq j hjl).1
      have hil : i < 2 := by have := (List.getElem?_eq_some_iff.1 hu).1; simpa using this
      have := hc i hil
      rw [Go.Deep.add_add] at this
      rw [← hu]
      exact this
    · intro x hx
      rw [List.mem_map] at hx
      obtain ⟨i, hi, rfl⟩ := hx
      exact (hq i (List.mem_range.1 hi)).2
end
end Go.Proofs.YtebmbegblnoeaaaDoor

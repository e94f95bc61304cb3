/- How the argument of TableTells is opened: a table, a handle, four numbers. -/
import Derived.Test.YtdchbcpfciljoaaDoorPrint0
import Derived.Lib.SmallJoins
import Derived.Deep.Slices
import Derived.Deep.Fields
namespace Go.Proofs.YtdchbcpfciljoaaDoor
open Go.ChangeShapes Go.WideShapes Go.ChangeAt Go.RowKit Go.Proofs.YtdchbcpfciljoaaDoor.Given Go.Proofs.YtdchbcpfciljoaaDoor.Print Go.Proofs.YtdchbcpfciljoaaDoorW.PrintWords
set_option linter.unusedVariables false
set_option linter.unusedSimpArgs false
set_option maxRecDepth 100000
section
open Go.Joins Go.ChangeShapes Go.WideShapes Go.RowKit Go.Deep
variable {H : Type} {enc : TypeId × Value → H} {w : World} {base : Nat} {spare : Nat → Bool} {held : Bool}
theorem c52_ : Tryd.prog.cellsOf 52 = 3 := by kernel_rfl
theorem c28_ : Tryd.prog.cellsOf 28 = 1 := by kernel_rfl
theorem c3_ : Tryd.prog.cellsOf 3 = 1 := by kernel_rfl
theorem c25_ : Tryd.prog.cellsOf 25 = 2 := by kernel_rfl
theorem c27_ : Tryd.prog.cellsOf 27 = 2 := by kernel_rfl
theorem c22_ : Tryd.prog.cellsOf 22 = 1 := by kernel_rfl
theorem c23_ : Tryd.prog.cellsOf 23 = 1 := by kernel_rfl
theorem c30_ : Tryd.prog.cellsOf 30 = 8 := by kernel_rfl
theorem open_task {n : Nat} {cs : List Value} {y : DataW H × List MemPlace} (h : DataW.trod enc Tryd.prog w base spare held n 52 cs = some y) : ∃ x : S52, cs = [.int .i64 x.f0, .int .u64 x.f1, .int .i64 x.f2] := by
  obtain ⟨xs, k, hk, hxy, hcl, hxl, hf⟩ := DataW.trod_struct Tryd.underlying52 h
  rw [c52_] at hcl
  match xs, hxl, cs, hcl with
  | [y0, y1, y2], _, [v0, v1, v2], _ =>
    have g0 := hf 0 _ rfl
    have g1 := hf 1 _ rfl
    have g2 := hf 2 _ rfl
    simp [c3_, c28_] at g0 g1 g2
    obtain ⟨a0, q0, _, _⟩ := DataW.trod_int Tryd.underlying3 g0
    obtain ⟨a1, q1, _, _⟩ := DataW.trod_int Tryd.underlying28 g1
    obtain ⟨a2, q2, _, _⟩ := DataW.trod_int Tryd.underlying3 g2
    obtain rfl := List.cons.inj q0 |>.1
    obtain rfl := List.cons.inj q1 |>.1
    obtain rfl := List.cons.inj q2 |>.1
    exact ⟨⟨a0, a1, a2⟩, rfl⟩
theorem open_tasks {n : Nat} {v : Value} {y : DataW H × List MemPlace} (h : DataW.trod enc Tryd.prog w base spare held n 23 [v] = some y) : ∃ (A : Option Addr) (c : Nat) (l : List S52), v = .slice A l.length c ∧ Kd.C k52 w A l.length l ∧ l.length ≤ c := by
  rcases open_slice Tryd.underlying23 h with ⟨hcs, _⟩ | ⟨a, len, cap, m, n, D, Pl, hcs, hb, hl, hm, hmm, _, hx⟩
  · obtain rfl := List.cons.inj hcs |>.1
    exact ⟨none, 0, [], rfl, ⟨rfl, by decide, fun h => absurd h (by decide)⟩, Nat.le_refl _⟩
  · obtain rfl := List.cons.inj hcs |>.1
    have hlm : len ≤ m := by rw [hmm]; split <;> omega
    have each : ∀ i, i < len → ∃ x : S52, w.cells? base (a.add (i * 3)) 3 = some [.int .i64 x.f0, .int .u64 x.f1, .int .i64 x.f2] := by
      intro i hi
      obtain ⟨cs', h1, h2⟩ := hx i (by omega)
      obtain ⟨x, rfl⟩ := open_task h2
      rw [c52_] at h1
      exact ⟨x, h1⟩
    have : Inhabited S52 := ⟨z52⟩
    obtain ⟨q, hq⟩ := choose_lt (α := S52) each
    have hlen : ((List.range len).map q).length = len := by simp
    refine ⟨some a, cap, (List.range len).map q, by rw [hlen], ⟨rfl, by rw [hlen]; unfold maxLen at hm; omega, fun hn => ⟨a, rfl, fun j p hp => ?_⟩⟩, by rw [hlen]; exact hl⟩
    rw [List.getElem?_map, Option.map_eq_some_iff] at hp
    obtain ⟨i, hi, rfl⟩ := hp
    have hjl : j < len := by
      have := (List.getElem?_eq_some_iff.1 hi).1
      simpa using this
    rw [List.getElem?_range hjl] at hi
    injection hi with hi
    subst hi
    refine ⟨_, rfl, k52_mk w (q j), fun i u hu => ?_⟩
    obtain ⟨_, _, hc⟩ := World.cells?_some (hq j hjl)
    have hil : i < 3 := by have := (List.getElem?_eq_some_iff.1 hu).1; simpa using this
    have := hc i hil
    rw [Go.Deep.add_add] at this
    rw [← hu]
    exact this
theorem open_words {n : Nat} {v : Value} {y : DataW H × List MemPlace} (h : DataW.trod enc Tryd.prog w base spare held n 22 [v] = some y) : ∃ (A : Option Addr) (c : Nat) (l : List Int), v = .slice A l.length c ∧ Kd.C (Kd.int .u64) w A l.length l ∧ l.length ≤ c ∧ ∀ x ∈ l, 0 ≤ x ∧ x < 18446744073709551616 := by
  rcases open_slice Tryd.underlying22 h with ⟨hcs, _⟩ | ⟨a, len, cap, m, n, D, Pl, hcs, hb, hl, hm, hmm, _, hx⟩
  · obtain rfl := List.cons.inj hcs |>.1
    exact ⟨none, 0, [], rfl, ⟨rfl, by decide, fun h => absurd h (by decide)⟩, Nat.le_refl _, fun x hx => by cases hx⟩
  · obtain rfl := List.cons.inj hcs |>.1
    have hlm : len ≤ m := by rw [hmm]; split <;> omega
    have each : ∀ i, i < len → ∃ x : Int, w.cells? base (a.add (i * 1)) 1 = some [.int .u64 x] ∧ 0 ≤ x ∧ x < 18446744073709551616 := by
      intro i hi
      obtain ⟨cs', h1, h2⟩ := hx i (by omega)
      obtain ⟨x, rfl, _, wx⟩ := DataW.trod_int Tryd.underlying28 h2
      rw [c28_] at h1
      refine ⟨x, h1, ?_⟩
      simp [Lit.wf, IntKind.min, IntKind.max, IntKind.signed, IntKind.bits] at wx
      omega
    obtain ⟨q, hq⟩ := choose_lt (α := Int) each
    have hlen : ((List.range len).map q).length = len := by simp
    refine ⟨some a, cap, (List.range len).map q, by rw [hlen], ⟨rfl, by rw [hlen]; unfold maxLen at hm; omega, fun hn => ⟨a, rfl, fun j p hp => ?_⟩⟩, by rw [hlen]; exact hl, ?_⟩
    · rw [List.getElem?_map, Option.map_eq_some_iff] at hp
      obtain ⟨i, hi, rfl⟩ := hp
      have hjl : j < len := by
        have := (List.getElem?_eq_some_iff.1 hi).1
        simpa using this
      rw [List.getElem?_range hjl] at hi
      injection hi with hi
      subst hi
      refine ⟨[.int .u64 (q j)], rfl, rfl, fun i u hu => ?_⟩
      obtain ⟨_, _, hc⟩ := World.cells?_some (hq j hjl).1
      have hil : i < 1 := by have := (List.getElem?_eq_some_iff.1 hu).1; simpa using this
      have := hc i hil
      rw [Go.Deep.add_add] at this
      rw [← hu]
      exact this
    · intro x hx
      rw [List.mem_map] at hx
      obtain ⟨i, hi, rfl⟩ := hx
      exact (hq i (List.mem_range.1 hi)).2
theorem open_tin {r : Reach} {b0 : Nat} {v : Value} {d : DataW H} {p : List MemPlace} (hv : Value.okWide Tryd.prog w r b0 30 v) (h : DataW.Trod enc Tryd.prog w base spare held 30 v d p) :
    ∃ (A0 : Option Addr) (c0 : Nat) (l0 : List Int) (A1 : Option Addr) (c1 : Nat) (l1 : List S52) (a2 a3 a4 a5 a6 a7 : Int), v = .agg #[.slice A0 l0.length c0, .slice A1 l1.length c1, .int .i64 a2, .int .i64 a3, .int .i64 a4, .int .i64 a5, .int .u64 a6, .int .i64 a7] ∧
      Kd.C (Kd.int .u64) w A0 l0.length l0 ∧ l0.length ≤ c0 ∧ (∀ x ∈ l0, 0 ≤ x ∧ x < 18446744073709551616) ∧ Kd.C k52 w A1 l1.length l1 ∧ l1.length ≤ c1 ∧ (Lit.int .u64 a6).wf = true ∧ (Lit.int .i64 a7).wf = true := by
  obtain ⟨cs, rfl, hsz⟩ := okWide_struct Tryd.underlying30 hv
  obtain ⟨l⟩ := cs
  match l, hsz.trans c30_ with
  | [v0, v1, v2, v3, v4, v5, v6, v7], _ =>
    obtain ⟨fuel, hf⟩ := h
    obtain ⟨xs, n, _, hx, _, hlen, hg⟩ := DataW.trod_struct Tryd.underlying30 hf
    match xs, hlen with
    | [y0, y1, y2, y3, y4, y5], _ =>
      have g0 := hg 0 _ rfl
      have g1 := hg 1 _ rfl
      have g2 := hg 2 _ rfl
      have g3 := hg 3 _ rfl
      have g4 := hg 4 _ rfl
      have g5 := hg 5 _ rfl
      simp [Value.cells, c25_, c27_, c3_, c28_] at g0 g1 g2 g3 g4 g5
      obtain ⟨xs0, n0, _, _, _, hl0, hf0⟩ := DataW.trod_struct Tryd.underlying25 g0
      obtain ⟨xs1, n1, _, _, _, hl1, hf1⟩ := DataW.trod_struct Tryd.underlying27 g1
      match xs0, hl0, xs1, hl1 with
      | [z0, z1], _, [z2, z3], _ =>
        have k0 := hf0 0 _ rfl
        have k1 := hf0 1 _ rfl
        have k2 := hf1 0 _ rfl
        have k3 := hf1 1 _ rfl
        simp [c22_, c23_, c3_] at k0 k1 k2 k3
        obtain ⟨A0, c0, l0, rfl, p1, p2, p3⟩ := open_words k0
        obtain ⟨A1, c1, l1, rfl, q1, q2⟩ := open_tasks k1
        obtain ⟨a2, e2, _, _⟩ := DataW.trod_int Tryd.underlying3 k2
        obtain ⟨a3, e3, _, _⟩ := DataW.trod_int Tryd.underlying3 k3
        obtain ⟨a4, e4, _, _⟩ := DataW.trod_int Tryd.underlying3 g2
        obtain ⟨a5, e5, _, _⟩ := DataW.trod_int Tryd.underlying3 g3
        obtain ⟨a6, e6, _, w6⟩ := DataW.trod_int Tryd.underlying28 g4
        obtain ⟨a7, e7, _, w7⟩ := DataW.trod_int Tryd.underlying3 g5
        obtain rfl := List.cons.inj e2 |>.1
        obtain rfl := List.cons.inj e3 |>.1
        obtain rfl := List.cons.inj e4 |>.1
        obtain rfl := List.cons.inj e5 |>.1
        obtain rfl := List.cons.inj e6 |>.1
        obtain rfl := List.cons.inj e7 |>.1
        exact ⟨A0, c0, l0, A1, c1, l1, a2, a3, a4, a5, a6, a7, rfl, p1, p2, p3, q1, q2, w6, w7⟩
end
end Go.Proofs.YtdchbcpfciljoaaDoor

/- How a call and an answer, handed in, are opened. -/
import Derived.Test.YtilmbpdfdickoaaDoorML
import Derived.Lib.SmallJoins
import Derived.Deep.Slices
import Derived.Deep.Fields
namespace Go.Proofs.YtilmbpdfdickoaaDoor
open Go.ChangeShapes Go.WideShapes Go.ChangeAt Go.RowKit Go.Proofs.YtilmbpdfdickoaaDoor.Given Go.Proofs.YtilmbpdfdickoaaDoor.Pure Go.Proofs.YtilmbpdfdickoaaDoorW.PrintWords
set_option linter.unusedVariables false
set_option linter.unusedSimpArgs false
set_option maxRecDepth 100000
section
open Go.Joins Go.ChangeShapes Go.WideShapes Go.RowKit Go.Deep
variable {H : Type} {enc : TypeId × Value → H} {w : World} {base : Nat} {spare : Nat → Bool} {held : Bool}
theorem c3_ : Tryd.prog.cellsOf 3 = 1 := by kernel_rfl
theorem c23_ : Tryd.prog.cellsOf 23 = 2 := by kernel_rfl
theorem c24_ : Tryd.prog.cellsOf 24 = 1 := by kernel_rfl
theorem c26_ : Tryd.prog.cellsOf 26 = 7 := by kernel_rfl
theorem c27_ : Tryd.prog.cellsOf 27 = 1 := by kernel_rfl
theorem c36_ : Tryd.prog.cellsOf 36 = 4 := by kernel_rfl
theorem lit_i64 {a : Int} (h : (Lit.int .i64 a).wf = true) : I64 a := by
  have h_ := h
  simp [Lit.wf, IntKind.min, IntKind.max, IntKind.signed, IntKind.bits] at h_
  exact ⟨by omega, by omega⟩
theorem lit_u64 {a : Int} (h : (Lit.int .u64 a).wf = true) : u64I a := by
  have h_ := h
  simp [Lit.wf, IntKind.min, IntKind.max, IntKind.signed, IntKind.bits] at h_
  exact ⟨by omega, by omega⟩
structure OkA (a : AnsS) : Prop where
  errno : I64 a.errno
  n : I64 a.n
  slot : I64 a.slot
  gen : I64 a.gen
theorem open_call {r : Reach} {b0 : Nat} {v : Value} {d : DataW H} {p : List MemPlace} (hv : Value.okWide Tryd.prog w r b0 26 v) (h : DataW.Trod enc Tryd.prog w base spare held 26 v d p) :
    ∃ c : CallS, v = .agg #[.int .i64 c.op, .int .i64 c.slot, .int .i64 c.gen, .int .i64 c.cpu, .int .i64 c.n, .int .i64 c.nice, .int .u64 c.mask] ∧ OkC c := by
  obtain ⟨cs, rfl, hsz⟩ := okWide_struct Tryd.underlying26 hv
  obtain ⟨l⟩ := cs
  match l, hsz.trans c26_ with
  | [v0, v1, v2, v3, v4, v5, v6], _ =>
    obtain ⟨fuel, hf⟩ := h
    obtain ⟨xs, n, _, hx, _, hlen, hg⟩ := DataW.trod_struct Tryd.underlying26 hf
    match xs, hlen with
    | [y0, y1, y2, y3, y4, y5], _ =>
      have g0 := hg 0 _ rfl
      have g1 := hg 1 _ rfl
      have g2 := hg 2 _ rfl
      have g3 := hg 3 _ rfl
      have g4 := hg 4 _ rfl
      have g5 := hg 5 _ rfl
      simp [Value.cells, c3_, c23_, c24_] at g0 g1 g2 g3 g4 g5
      obtain ⟨xs0, n0, _, _, _, hl0, hf0⟩ := DataW.trod_struct Tryd.underlying23 g1
      match xs0, hl0 with
      | [z0, z1], _ =>
        have k0 := hf0 0 _ rfl
        have k1 := hf0 1 _ rfl
        simp [c3_] at k0 k1
        obtain ⟨a0, e0, _, wa0⟩ := DataW.trod_int Tryd.underlying3 g0
        obtain ⟨a1, e1, _, wa1⟩ := DataW.trod_int Tryd.underlying3 k0
        obtain ⟨a2, e2, _, wa2⟩ := DataW.trod_int Tryd.underlying3 k1
        obtain ⟨a3, e3, _, wa3⟩ := DataW.trod_int Tryd.underlying3 g2
        obtain ⟨a4, e4, _, wa4⟩ := DataW.trod_int Tryd.underlying3 g3
        obtain ⟨a5, e5, _, wa5⟩ := DataW.trod_int Tryd.underlying3 g4
        obtain ⟨a6, e6, _, wa6⟩ := DataW.trod_int Tryd.underlying24 g5
        obtain rfl := List.cons.inj e0 |>.1
        obtain rfl := List.cons.inj e1 |>.1
        obtain rfl := List.cons.inj e2 |>.1
        obtain rfl := List.cons.inj e3 |>.1
        obtain rfl := List.cons.inj e4 |>.1
        obtain rfl := List.cons.inj e5 |>.1
        obtain rfl := List.cons.inj e6 |>.1
        exact ⟨⟨a0, a1, a2, a3, a4, a5, a6⟩, rfl, ⟨lit_i64 wa0, lit_i64 wa1, lit_i64 wa2, lit_i64 wa3, lit_i64 wa4, lit_i64 wa5, lit_u64 wa6⟩⟩
theorem open_ans {r : Reach} {b0 : Nat} {v : Value} {d : DataW H} {p : List MemPlace} (hv : Value.okWide Tryd.prog w r b0 36 v) (h : DataW.Trod enc Tryd.prog w base spare held 36 v d p) :
    ∃ c : AnsS, v = .agg #[.int .i64 c.errno, .int .i64 c.n, .int .i64 c.slot, .int .i64 c.gen] ∧ OkA c := by
  obtain ⟨cs, rfl, hsz⟩ := okWide_struct Tryd.underlying36 hv
  obtain ⟨l⟩ := cs
  match l, hsz.trans c36_ with
  | [v0, v1, v2, v3], _ =>
    obtain ⟨fuel, hf⟩ := h
    obtain ⟨xs, n, _, hx, _, hlen, hg⟩ := DataW.trod_struct Tryd.underlying36 hf
    match xs, hlen with
    | [y0, y1, y2], _ =>
      have g0 := hg 0 _ rfl
      have g1 := hg 1 _ rfl
      have g2 := hg 2 _ rfl
      simp [Value.cells, c3_, c23_, c27_] at g0 g1 g2
      obtain ⟨xs0, n0, _, _, _, hl0, hf0⟩ := DataW.trod_struct Tryd.underlying23 g2
      match xs0, hl0 with
      | [z0, z1], _ =>
        have k0 := hf0 0 _ rfl
        have k1 := hf0 1 _ rfl
        simp [c3_] at k0 k1
        obtain ⟨a0, e0, _, wa0⟩ := DataW.trod_int Tryd.underlying27 g0
        obtain ⟨a1, e1, _, wa1⟩ := DataW.trod_int Tryd.underlying3 g1
        obtain ⟨a2, e2, _, wa2⟩ := DataW.trod_int Tryd.underlying3 k0
        obtain ⟨a3, e3, _, wa3⟩ := DataW.trod_int Tryd.underlying3 k1
        obtain rfl := List.cons.inj e0 |>.1
        obtain rfl := List.cons.inj e1 |>.1
        obtain rfl := List.cons.inj e2 |>.1
        obtain rfl := List.cons.inj e3 |>.1
        exact ⟨⟨a0, a1, a2, a3⟩, rfl, ⟨lit_i64 wa0, lit_i64 wa1, lit_i64 wa2, lit_i64 wa3⟩⟩
end
end Go.Proofs.YtilmbpdfdickoaaDoor

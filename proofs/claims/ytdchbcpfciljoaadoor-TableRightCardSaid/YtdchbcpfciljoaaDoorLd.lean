/- What the package-level tables hold, as a fact on a world, and that it stays. -/
import Derived.Test.YtdchbcpfciljoaaDoorProg
import Derived.Test.YtdchbcpfciljoaaDoorV
import Derived.Maps.Keyed
namespace Go.Proofs.YtdchbcpfciljoaaDoor
open Go.RowKit Go.Proofs.YtdchbcpfciljoaaDoorW.PrintWords

def spanL : List Int := [0, 3, 3, 9, 9, 10, 10, 26, 26, 58]
/-- The rule of an event: of which kinds, to which kind, what must hold of Bit, what else is done. -/
def kindsOf : Nat → List Int
  | 0 => [0]
  | 1 => [1, 3, 4, 5]
  | 2 => [1]
  | 3 => [2]
  | 4 => [2, 3]
  | 5 => [4]
  | 6 => [5]
  | 7 => [5]
  | 8 => [7]
  | 9 => [7]
  | 10 => [7]
  | 11 => [5]
  | 12 => [1]
  | 13 => [4, 5]
  | 14 => [6]
  | _ => [4]
def toOf : Nat → Int
  | 0 => 1
  | 1 => 0
  | 2 => 2
  | 3 => 3
  | 4 => 4
  | 5 => 5
  | 6 => 4
  | 7 => 7
  | 8 => 7
  | 9 => 1
  | 10 => 3
  | 11 => 1
  | 12 => 1
  | 13 => 6
  | 14 => 4
  | _ => 4
def fnV (f : Nat) : Value := .func (.func f) #[] #[]
def ifOf : Nat → Value
  | 8 => fnV 94
  | 9 => fnV 94
  | 10 => fnV 96
  | _ => .nilFunc
def doOf : Nat → Value
  | 0 => fnV 91
  | 1 => fnV 92
  | 2 => fnV 93
  | 8 => fnV 95
  | 11 => fnV 97
  | 12 => fnV 97
  | 13 => fnV 97
  | 15 => fnV 97
  | _ => .nilFunc
def ruleV (n : Nat) (ad : Addr) (cap : Nat) : Value := .agg #[.slice (some ad) (kindsOf n).length cap, .int .i64 (toOf n), ifOf n, doOf n]
def noRule : Value := .agg #[.slice none 0 0, .int .i64 0, .nilFunc, .nilFunc]
def lookR (bm : Nat) (ev : Int) (W : World) (v : Value) (b : Bool) : Prop := (Instr.lookup 101 (.map (some bm)) (.int .i64 ev) true).run Tryd.prog W = .ok (.tuple #[v, .bool b]) W
/-- The rules of an object that is the map. -/
structure Rules (bm : Nat) (o : Obj) (w : World) : Prop where
  none_ : ∀ W : World, W.heap[bm]? = some o → ∀ ev : Int, (Lit.int .i64 ev).wf = true → ¬ (0 ≤ ev ∧ ev < 16) → lookR bm ev W noRule false
  some_ : ∀ n : Nat, n < 16 → ∃ ad cap, (∀ W : World, W.heap[bm]? = some o → lookR bm (n : Int) W (ruleV n ad cap) true) ∧ (kindsOf n).length ≤ cap ∧ ∀ j k, (kindsOf n)[j]? = some k → w.cell? (ad.add j) = some (.int .i64 k)
/-- The variable spans holds its table, the variable rules its map. -/
structure Ld (w : World) : Prop where
  c : ∀ j, j < 10 → w.cell? ⟨1, j, none⟩ = some (.int .i64 (spanL.getD j 0))
  r : ∃ bm o, w.cell? ⟨0, 0, none⟩ = some (.map (some bm)) ∧ w.heap[bm]? = some o ∧ Rules bm o w
theorem Ld.below {w W : World} (h : Ld w) (hb : Below w.heap.size w W) : Ld W := by
  refine ⟨fun j hj => pw_cell_below hb (h.c j hj), ?_⟩
  obtain ⟨bm, o, h1, h2, h3⟩ := h.r
  refine ⟨bm, o, pw_cell_below hb h1, blk_below h2 hb, h3.none_, fun n hn => ?_⟩
  obtain ⟨ad, cap, g1, g2, g3⟩ := h3.some_ n hn
  exact ⟨ad, cap, g1, g2, fun j k hk => pw_cell_below hb (g3 j k hk)⟩
namespace Given
end Given
end Go.Proofs.YtdchbcpfciljoaaDoor

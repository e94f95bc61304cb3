/- What the package-level variables hold, as a fact on a world, and that it stays. -/
import Derived.Test.YtilmbpdfdickoaaDoorGS
import Derived.Test.YtilmbpdfdickoaaDoorMA
import Derived.Test.YtilmbpdfdickoaaDoorV
import Derived.Maps.Keyed
namespace Go.Proofs.YtilmbpdfdickoaaDoor
open Go.RowKit Go.Shelf Go.Proofs.YtilmbpdfdickoaaDoor.Pure Go.Proofs.YtilmbpdfdickoaaDoorW.PrintWords

def fnV (f : Nat) : Value := .func (.func f) #[] #[]
def tellN (k : UInt8) : Nat := if k = 110 then 121 else if k = 109 then 123 else if k = 116 then 125 else if k = 99 then 127 else 128
def readN (k : UInt8) : Nat := if k = 110 then 122 else if k = 109 then 124 else if k = 116 then 126 else if k = 99 then 115 else 129
def fieldV (k : UInt8) : Value := .agg #[fnV (tellN k), fnV (readN k)]
def isLet (k : UInt8) : Prop := k = 110 ∨ k = 109 ∨ k = 116 ∨ k = 99 ∨ k = 107
def opsC : Array Value := ((List.range 14).flatMap fun k => [Value.string ⟨(nameL k).toArray⟩, Value.string ⟨(toldL k).toArray⟩]).toArray
def lookF (bm : Nat) (k : UInt8) (W : World) : Prop := (Instr.lookup 56 (.map (some bm)) (.int .i32 (k.toNat : Int)) false).run Tryd.prog W = .ok (fieldV k) W
/-- The tables that the library reads, the calls' names, the map of the letters. -/
structure Ld (w : World) : Prop where
  tab : Lib.TabIs Tryd.prog w "internal/strconv.uint64pow10" .u64 Lib.pow10Tab
  syn : ∃ te pe, w.cell? ⟨6, 0, none⟩ = some (.iface te pe)
  rng : ∃ te pe, w.cell? ⟨7, 0, none⟩ = some (.iface te pe)
  top : ∃ m, w.cell? ⟨2, 0, none⟩ = some (.int .i64 m)
  ops : ∃ t r, w.heap[0]? = some (.cells opsC t r)
  fld : ∃ bm o, w.cell? ⟨1, 0, none⟩ = some (.map (some bm)) ∧ w.heap[bm]? = some o ∧ ∀ k : UInt8, isLet k → ∀ W : World, W.heap[bm]? = some o → lookF bm k W
theorem gPow : Tryd.prog.globalNamed "internal/strconv.uint64pow10" = some 5 := by kernel_rfl
theorem tab_below {n : String} {g : Nat} {k : IntKind} {zs : List Int} {w w' : World} (hg : Tryd.prog.globalNamed n = some g) (h : Lib.TabIs Tryd.prog w n k zs) (hb : Below w.heap.size w w') : Lib.TabIs Tryd.prog w' n k zs := by
  unfold Lib.TabIs World.var? at h ⊢
  rw [hg] at h ⊢
  simp only [Option.bind_some] at h ⊢
  have hlt : g < w.heap.size := by
    rcases Nat.lt_or_ge g w.heap.size with h' | h'
    · exact h'
    · rw [Array.getElem?_eq_none h'] at h; cases h
  rw [hb.block g hlt]
  exact h
theorem Ld.below {w W : World} (h : Ld w) (hb : Below w.heap.size w W) : Ld W := by
  obtain ⟨t1, p1, hs⟩ := h.syn
  obtain ⟨t2, p2, hr⟩ := h.rng
  obtain ⟨m, hm⟩ := h.top
  obtain ⟨t3, r3, ho⟩ := h.ops
  obtain ⟨bm, o, h1, h2, h3⟩ := h.fld
  exact ⟨tab_below gPow h.tab hb, ⟨t1, p1, pw_cell_below hb hs⟩, ⟨t2, p2, pw_cell_below hb hr⟩, ⟨m, pw_cell_below hb hm⟩, ⟨t3, r3, blk_below ho hb⟩, ⟨bm, o, pw_cell_below hb h1, blk_below h2 hb, h3⟩⟩
theorem opsC_at (k : Nat) (hk : k < 14) : opsC[2 * k]? = some (.string ⟨(nameL k).toArray⟩) ∧ opsC[2 * k + 1]? = some (.string ⟨(toldL k).toArray⟩) := by
  have h : k = 0 ∨ k = 1 ∨ k = 2 ∨ k = 3 ∨ k = 4 ∨ k = 5 ∨ k = 6 ∨ k = 7 ∨ k = 8 ∨ k = 9 ∨ k = 10 ∨ k = 11 ∨ k = 12 ∨ k = 13 := by omega
  rcases h with rfl | rfl | rfl | rfl | rfl | rfl | rfl | rfl | rfl | rfl | rfl | rfl | rfl | rfl <;> exact ⟨rfl, rfl⟩
theorem Ld.op {w : World} (h : Ld w) (k : Nat) (hk : k < 14) : w.cell? ⟨0, 2 * k, none⟩ = some (.string ⟨(nameL k).toArray⟩) ∧ w.cell? ⟨0, 2 * k + 1, none⟩ = some (.string ⟨(toldL k).toArray⟩) := by
  obtain ⟨t, r, ho⟩ := h.ops
  have := opsC_at k hk
  constructor
  · simp [World.cell?, ho, this.1]
  · simp [World.cell?, ho, this.2]
namespace Given
end Given
end Go.Proofs.YtilmbpdfdickoaaDoor

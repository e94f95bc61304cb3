/- LifeTells: plain. -/
import Derived.Test.YtebmbegblnoeaaaDoorPureBase
import Derived.Test.YtebmbegblnoeaaaDoorPrintF3
namespace Go.Proofs.YtebmbegblnoeaaaDoor
open Go.RowKit Go.Proofs.YtebmbegblnoeaaaDoor.Given Go.Proofs.YtebmbegblnoeaaaDoor.Print Go.Proofs.YtebmbegblnoeaaaDoorW.PrintWords
set_option linter.unusedVariables false
set_option linter.unusedSimpArgs false
set_option maxRecDepth 100000
theorem wf0 : (Lit.int .i64 0).wf = true := by decide
theorem life_may_eq (x ev : Int) (hx : Pure.u64 x) (hw : (Lit.int .i64 ev).wf = true) : turnspitref07_May.f 100 x ev = life_May.f x ev := by
  unfold turnspitref07_May.f life_May.f
  rw [next_ref x ev 0 hx hw]
theorem life_settled_eq (x : Int) (hx : Pure.u64 x) : turnspitref07_Settled.f x = life_Settled.f x := by
  unfold turnspitref07_Settled.f life_Settled.f
  rw [Pure.refUnpack_eq hx, Pure.unpack_eq hx]
theorem life_awake_eq (x : Int) (hx : Pure.u64 x) : turnspitref07_Awake.f x = life_Awake.f x := by
  unfold turnspitref07_Awake.f life_Awake.f
  rw [Pure.refUnpack_eq hx, Pure.unpack_eq hx, Option.bind_some, Option.bind_some]
  obtain ⟨⟨k0, k1⟩, _⟩ := opened_bounds x
  generalize Pure.opened x = u at k0 k1
  obtain ⟨k, c, b, s, g, er⟩ := u
  simp only at k0 k1 ⊢
  by_cases he : er = 0
  · rw [if_pos he, if_pos he]
    have hk : k = 0 ∨ k = 1 ∨ k = 2 ∨ k = 3 ∨ k = 4 ∨ k = 5 ∨ k = 6 ∨ k = 7 := by omega
    rcases hk with rfl | rfl | rfl | rfl | rfl | rfl | rfl | rfl <;> rfl
  · rw [if_neg he, if_neg he]
theorem life_may_some (x ev : Int) (hx : Pure.u64 x) (hw : (Lit.int .i64 ev).wf = true) : ∃ r, life_May.f x ev = some r := by
  unfold life_May.f
  rw [next_some x ev 0 hx hw]
  exact ⟨_, rfl⟩
theorem life_settled_some (x : Int) (hx : Pure.u64 x) : ∃ r, life_Settled.f x = some r := by
  unfold life_Settled.f
  rw [Pure.unpack_eq hx, Option.bind_some]
  split
  · split
    · exact ⟨_, rfl⟩
    · split <;> exact ⟨_, rfl⟩
  · exact ⟨_, rfl⟩
theorem life_awake_some (x : Int) (hx : Pure.u64 x) : ∃ r, life_Awake.f x = some r := by
  unfold life_Awake.f
  rw [Pure.unpack_eq hx, Option.bind_some]
  repeat' split
  all_goals exact ⟨_, rfl⟩
theorem Pure.LifeTells (x ev cpu : Int) (hx : Pure.u64 x) (hw : (Lit.int .i64 ev).wf = true) : turnspitlaw07_LifeTells.f 100 x ev cpu = some true := by
  unfold turnspitlaw07_LifeTells.f
  obtain ⟨m, hm⟩ := life_may_some x ev hx hw
  obtain ⟨t, ht⟩ := life_settled_some x hx
  obtain ⟨a, ha⟩ := life_awake_some x hx
  rw [next_ref x ev cpu hx hw, next_some x ev cpu hx hw, Option.bind_some, Option.bind_some, Pure.awake_true, Option.bind_some, if_pos rfl, if_pos rfl, if_pos rfl, life_may_eq x ev hx hw, life_settled_eq x hx, life_awake_eq x hx, hm, ht, ha]
  simp
theorem Walk.LifeTells (x : Int) (hx : (Lit.int .u64 x).wf = true) (ev : Int) (he : (Lit.int .i64 ev).wf = true) (cpu : Int) (hc : (Lit.int .i64 cpu).wf = true) (w : World) (HLd : Ld w) :
    Calls Tryd.prog 3 #[.int .u64 x, .int .i64 ev, .int .i64 cpu] w fun e w' => e = .returned (.bool true) ∧ Below w.heap.size w w' :=
  turnspitlaw07_LifeTells.calls 100 x ev cpu true w HLd (Pure.LifeTells x ev cpu (Pure.u64_of hx) he)
end Go.Proofs.YtebmbegblnoeaaaDoor

/- LifeRight: plain. -/
import Derived.Test.YtebmbegblnoeaaaDoorPureBase
import Derived.Test.YtebmbegblnoeaaaDoorPrintF5
namespace Go.Proofs.YtebmbegblnoeaaaDoor
open Go.RowKit Go.Proofs.YtebmbegblnoeaaaDoor.Given Go.Proofs.YtebmbegblnoeaaaDoor.Print Go.Proofs.YtebmbegblnoeaaaDoorW.PrintWords
set_option linter.unusedVariables false
set_option linter.unusedSimpArgs false
set_option maxRecDepth 100000
/-- What comes of a word's parts, in short: if an event may be, its state is packed; Gen is one more behind EvCreate alone; Bit is set behind EvNote alone. -/
theorem nextR_ok (n : Nat) (hn : n < 16) (cpu k c : Int) (b : Bool) (s g er : Int) (hg0 : 0 ≤ g) (hg1 : g < 4294967296) (r1 r2 : Int) (h : nextR n cpu k c b s g er = some (r1, r2)) :
    (r2 = 0 ∧ er = 0 ∧ ∃ k' c' b' s' g', packOk k' c' b' s' g' ∧ r1 = wordOf k' c' b' s' g' ∧ g' = g + (if n = 0 then 1 else 0) ∧ b' = decide (n = 8)) ∨ (r1 = 0 ∧ (r2 = 1 ∨ r2 = 4 ∨ (r2 = 5 ∧ n = 0))) := by
  unfold nextR at h
  by_cases he : er = 0
  · rw [if_pos he] at h
    split at h
    · split at h
      · split at h
        · rename_i hf
          simp only [Option.some.injEq, Prod.mk.injEq] at h
          exact .inr ⟨h.1.symm, .inr (.inr ⟨h.2.symm, hf.1⟩)⟩
        · rename_i hf
          unfold packed_Pack.f at h
          split at h
          · rename_i hp
            simp only [Option.some.injEq, Prod.mk.injEq] at h
            refine .inl ⟨h.2.symm, he, _, _, _, _, _, hp, h.1.symm, ?_, ?_⟩
            · have hc16 : n = 0 ∨ n = 1 ∨ n = 2 ∨ n = 3 ∨ n = 4 ∨ n = 5 ∨ n = 6 ∨ n = 7 ∨ n = 8 ∨ n = 9 ∨ n = 10 ∨ n = 11 ∨ n = 12 ∨ n = 13 ∨ n = 14 ∨ n = 15 := by omega
              rcases hc16 with rfl | rfl | rfl | rfl | rfl | rfl | rfl | rfl | rfl | rfl | rfl | rfl | rfl | rfl | rfl | rfl <;> first | (show g = g + 0; omega) | (show wrap64 (g + 1) = g + 1; unfold wrap64; omega)
            · have hc16 : n = 0 ∨ n = 1 ∨ n = 2 ∨ n = 3 ∨ n = 4 ∨ n = 5 ∨ n = 6 ∨ n = 7 ∨ n = 8 ∨ n = 9 ∨ n = 10 ∨ n = 11 ∨ n = 12 ∨ n = 13 ∨ n = 14 ∨ n = 15 := by omega
              rcases hc16 with rfl | rfl | rfl | rfl | rfl | rfl | rfl | rfl | rfl | rfl | rfl | rfl | rfl | rfl | rfl | rfl <;> rfl
          · simp only [Option.some.injEq, Prod.mk.injEq] at h
            exact .inr ⟨h.1.symm, .inl h.2.symm⟩
      · simp only [Option.some.injEq, Prod.mk.injEq] at h
        exact .inr ⟨h.1.symm, .inr (.inl h.2.symm)⟩
    · simp only [Option.some.injEq, Prod.mk.injEq] at h
      exact .inr ⟨h.1.symm, .inl h.2.symm⟩
  · rw [if_neg he] at h
    simp only [Option.some.injEq, Prod.mk.injEq] at h
    exact .inr ⟨h.1.symm, .inl h.2.symm⟩
theorem opened_gen (a : Int) : 0 ≤ (Pure.opened a).2.2.2.2.1 ∧ (Pure.opened a).2.2.2.2.1 < 4294967296 := by
  unfold Pure.opened
  split
  · show 0 ≤ a / 67108864 % 4294967296 ∧ a / 67108864 % 4294967296 < 4294967296
    omega
  · exact ⟨by decide, by decide⟩
theorem Pure.LifeRight (x ev cpu : Int) (hx : Pure.u64 x) (hw : (Lit.int .i64 ev).wf = true) : turnspitlaw07_LifeRight.f x ev cpu = some true := by
  unfold turnspitlaw07_LifeRight.f
  rw [Pure.awake_true, Option.bind_some, if_pos rfl]
  have hs := next_some x ev cpu hx hw
  obtain ⟨⟨r1, r2⟩, hr⟩ : ∃ r, nextU x ev cpu = r := ⟨_, rfl⟩
  rw [hr] at hs
  rw [hs, Option.bind_some]
  have hs0 := hs
  unfold life_Next.f at hs
  rw [if_pos hw, Pure.unpack_eq hx, Option.bind_some] at hs
  obtain ⟨g0, g1⟩ := opened_gen x
  rw [Pure.unpack_eq hx, Option.bind_some]
  generalize Pure.opened x = u at hs g0 g1
  obtain ⟨k, c, b, s, g, er⟩ := u
  simp only at hs g0 g1 ⊢
  by_cases hv : 0 ≤ ev ∧ ev < 16
  · rw [if_pos hv] at hs
    rcases nextR_ok ev.toNat (by omega) cpu k c b s g er g0 g1 r1 r2 hs with ⟨rfl, rfl, k', c', b', s', g', hp, rfl, hg', hb'⟩ | ⟨rfl, h2⟩
    · rw [if_pos rfl, Pure.unpack_eq (Pure.word_u64 hp).1, Option.bind_some, Pure.opened_word hp]
      simp only
      by_cases h0 : ev = 0
      · have e1 : wrap64 (g + 1) = g + 1 := by unfold wrap64; omega
        rw [if_pos h0, if_pos trivial, if_pos trivial, e1, if_pos (by rw [hg', if_pos (by omega)])]
        have : b' = (ev == 8) := by rw [hb', h0]; rfl
        rw [this, beq_self_eq_true]
      · have e1 : wrap64 (g + 0) = g := by unfold wrap64; omega
        rw [if_neg h0, if_pos trivial, if_pos trivial, e1, if_pos (by rw [hg', if_neg (by omega)]; omega)]
        have : b' = (ev == 8) := by
          rw [hb']
          by_cases h8 : ev = 8
          · rw [h8]; rfl
          · rw [decide_eq_false (by omega), show (ev == 8) = false from beq_eq_false_iff_ne.2 h8]
        rw [this, beq_self_eq_true]
    · rcases h2 with rfl | rfl | ⟨rfl, hn⟩
      · rfl
      · rfl
      · rw [if_neg (by decide), if_pos rfl, if_neg (by decide), if_neg (by decide), if_pos rfl]
        have : ev = 0 := by omega
        rw [this]; rfl
  · rw [if_neg hv] at hs
    simp only [Option.some.injEq, Prod.mk.injEq] at hs
    obtain ⟨rfl, rfl⟩ := hs
    rfl
theorem Walk.LifeRight (x : Int) (hx : (Lit.int .u64 x).wf = true) (ev : Int) (he : (Lit.int .i64 ev).wf = true) (cpu : Int) (hc : (Lit.int .i64 cpu).wf = true) (w : World) (HLd : Ld w) :
    Calls Tryd.prog 5 #[.int .u64 x, .int .i64 ev, .int .i64 cpu] w fun e w' => e = .returned (.bool true) ∧ Below w.heap.size w w' :=
  turnspitlaw07_LifeRight.calls x ev cpu true w HLd (Pure.LifeRight x ev cpu (Pure.u64_of hx) he)
end Go.Proofs.YtebmbegblnoeaaaDoor

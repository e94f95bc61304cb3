/- LifeClaims: plain. -/
import Derived.Test.YtebmbegblnoeaaaDoorPurePlay
import Derived.Test.YtebmbegblnoeaaaDoorPrintF6
namespace Go.Proofs.YtebmbegblnoeaaaDoor
open Go.RowKit Go.Proofs.YtebmbegblnoeaaaDoor.Given Go.Proofs.YtebmbegblnoeaaaDoor.Print Go.Proofs.YtebmbegblnoeaaaDoorW.PrintWords
set_option linter.unusedVariables false
set_option linter.unusedSimpArgs false
set_option maxRecDepth 100000
/-- A word that sleeps, or is free. -/
def Sleepy (x : Int) : Prop := Pure.u64 x ∧ ∃ k c s g, Pure.opened x = (k, c, false, s, g, 0) ∧ (k = 0 ∨ k = 1)
theorem Sleepy.awake {x : Int} (h : Sleepy x) : life_Awake.f x = some false := by
  obtain ⟨hx, k, c, s, g, ho, hk⟩ := h
  unfold life_Awake.f
  rw [Pure.unpack_eq hx, Option.bind_some, ho]
  rcases hk with rfl | rfl <;> rfl
theorem Sleepy.step {x ev cpu v : Int} (h : Sleepy x) (hw : (Lit.int .i64 ev).wf = true) (hn : life_Next.f x ev cpu = some (v, 0)) (h2 : ev ≠ 2) : Sleepy v := by
  obtain ⟨hx, k, c, s, g, ho, hk⟩ := h
  obtain ⟨hr, _, hs⟩ := next_step hx hw hn ho
  obtain ⟨n, rfl⟩ := Int.eq_ofNat_of_zero_le hr.1
  rw [Int.toNat_natCast] at hs
  obtain ⟨hu, hop⟩ := hs.opened
  have hh := hs.holds
  have hn2 : n ≠ 2 := by omega
  refine ⟨hu, toOf n, (nextS n cpu c s g).1, (nextS n cpu c s g).2.2.1, (nextS n cpu c s g).2.2.2, hop.trans ?_, ?_⟩
  · have : (nextS n cpu c s g).2.1 = false := by
      rcases cases16 (show n < 16 by omega) with rfl | rfl | rfl | rfl | rfl | rfl | rfl | rfl | rfl | rfl | rfl | rfl | rfl | rfl | rfl | rfl <;> first | rfl | (rcases hk with rfl | rfl <;> exact absurd hh (by decide))
    rw [this]
  · rcases cases16 (show n < 16 by omega) with rfl | rfl | rfl | rfl | rfl | rfl | rfl | rfl | rfl | rfl | rfl | rfl | rfl | rfl | rfl | rfl <;> first | exact .inl rfl | exact .inr rfl | exact absurd rfl hn2 | (rcases hk with rfl | rfl <;> exact absurd hh (by decide))
theorem claims_l0 (E : List S40) (hE : ∀ x ∈ E, Ev x) (hl : E.length ≤ 60) : ∀ m n k x, n + m = E.length → 2 * m + 3 ≤ k → Sleepy x → turnspitlaw07_LifeClaims.l0 k true x E (n : Int) = some true := by
  intro m
  induction m with
  | zero =>
    intro n k x hn hk hs
    obtain ⟨k, rfl⟩ : ∃ j, k = j + 1 := ⟨k - 1, by omega⟩
    rw [turnspitlaw07_LifeClaims.l0, if_neg (by omega), if_pos rfl, hs.awake]; rfl
  | succ m ih =>
    intro n k x hn hk hs
    obtain ⟨k, rfl⟩ : ∃ j, k = j + 2 := ⟨k - 2, by omega⟩
    have hnl : n < E.length := by omega
    have hev := hE E[n] (List.getElem_mem hnl)
    rw [turnspitlaw07_LifeClaims.l0, if_pos (by omega), if_pos (by omega), rd40_get E n hnl]
    obtain ⟨⟨v, e⟩, hr⟩ : ∃ r, nextU x E[n].f0 E[n].f1 = r := ⟨_, rfl⟩
    have hnx := next_some x E[n].f0 E[n].f1 hs.1 hev.wf
    rw [hr] at hnx
    rw [hnx, Option.bind_some]
    simp only
    have hskip := ih (n + 1) k x (by omega) (by omega) hs
    by_cases he : e = 0
    · rw [if_pos he]
      subst he
      by_cases h2 : E[n].f0 = 2
      · rw [show (E[n].f0 == 2) = true by rw [h2]; rfl, turnspitlaw07_LifeClaims.j1, if_pos rfl, wrap_succ n E.length hnl (by omega)]
        exact hskip
      · have hv := hs.step hev.wf hnx h2
        rw [show (E[n].f0 == 2) = false from beq_eq_false_iff_ne.2 h2, turnspitlaw07_LifeClaims.j1, if_neg Bool.false_ne_true, hv.awake, Option.bind_some, if_neg Bool.false_ne_true, wrap_succ n E.length hnl (by omega)]
        exact ih (n + 1) k v (by omega) (by omega) hv
    · rw [if_neg he, turnspitlaw07_LifeClaims.j1, if_pos rfl, wrap_succ n E.length hnl (by omega)]
      exact hskip
theorem Pure.LifeClaims (a : Int) (l : List Int) (ha : (Lit.int .u8 a).wf = true) (hu : U16 l) (hl : l.length ≤ 9223372036854775806) : turnspitlaw07_LifeClaims.f 1000 a l = some true := by
  obtain ⟨a0, a1⟩ := u16_of_u8 ha
  unfold turnspitlaw07_LifeClaims.f
  rw [Pure.awake_true, Option.bind_some, if_pos rfl, steps_f l hu hl 1000 (by omega), Option.bind_some]
  have hp : packOk 1 (a % 64) false 0 0 := ⟨fun h => (by cases h), by decide, by omega, by decide, by decide⟩
  have e : IntKind.u64.wrap (1 + (IntKind.u64.wrap (8 * (IntKind.u64.wrap (Int.tmod a 64))))) = wordOf 1 (a % 64) false 0 0 := by
    rw [Int.tmod_eq_emod_of_nonneg a0, Pure.u64wrap, Pure.u64wrap, Pure.u64wrap]
    unfold wordOf b2i
    simp
    omega
  rw [e]
  exact claims_l0 (evs l) (evs_ev l) (by rw [evs_length]; omega) (evs l).length 0 1000 _ (by omega) (by rw [evs_length]; omega) ⟨(Pure.word_u64 hp).1, _, _, _, _, Pure.opened_word hp, .inr rfl⟩
theorem Walk.LifeClaims (a : Int) (ha : (Lit.int .u8 a).wf = true) (A0 : Option Addr) (c0 : Nat) (l0 : List Int) (w : World) (HLd : Ld w) (hr : Kd.C (Kd.int .u16) w A0 l0.length l0) (hc : l0.length ≤ c0) (hl : l0.length ≤ 9223372036854775806) (hw : ∀ n ∈ l0, (Lit.int .u16 n).wf = true) :
    Calls Tryd.prog 6 #[.int .u8 a, .slice A0 l0.length c0] w fun e w' => e = .returned (.bool true) ∧ Below w.heap.size w w' :=
  turnspitlaw07_LifeClaims.calls 1000 a A0 c0 l0 true w hr hc HLd (Pure.LifeClaims a l0 ha hw hl)
end Go.Proofs.YtebmbegblnoeaaaDoor

/- LifePlays: plain. -/
import Derived.Test.YtebmbegblnoeaaaDoorPurePlay
import Derived.Test.YtebmbegblnoeaaaDoorPrintF4
namespace Go.Proofs.YtebmbegblnoeaaaDoor
open Go.RowKit Go.Proofs.YtebmbegblnoeaaaDoor.Given Go.Proofs.YtebmbegblnoeaaaDoor.Print Go.Proofs.YtebmbegblnoeaaaDoorW.PrintWords
set_option linter.unusedVariables false
set_option linter.unusedSimpArgs false
set_option maxRecDepth 100000
def Wf40 (l : List S40) : Prop := ∀ y ∈ l, (Lit.int .i64 y.f0).wf = true
theorem next_more (x ev cpu : Int) (hx : Pure.u64 x) (hw : (Lit.int .i64 ev).wf = true) (j : Nat) : turnspitref07_Next.f (100 + j) x ev cpu = some (nextU x ev cpu) := by
  induction j with
  | zero => exact (next_ref x ev cpu hx hw).trans (next_some x ev cpu hx hw)
  | succ j ih => exact turnspitref07_Next.mono x ev cpu (100 + j) _ ih
theorem plays (l : List S40) (hw : Wf40 l) (hl : l.length ≤ 200) : ∀ m n k x, n + m = l.length → m + 101 ≤ k → Pure.u64 x →
    ∃ r, life_Play.l0 k x l l (l.length : Int) (n : Int) = some r ∧ turnspitref07_Play.l0 k x l (n : Int) = some r := by
  intro m
  induction m with
  | zero =>
    intro n k x hn hk hx
    obtain ⟨k, rfl⟩ : ∃ j, k = j + 1 := ⟨k - 1, by omega⟩
    exact ⟨(x, (l.length : Int)), by rw [life_Play.l0, if_neg (by omega)], by rw [turnspitref07_Play.l0, if_neg (by omega)]⟩
  | succ m ih =>
    intro n k x hn hk hx
    obtain ⟨k, rfl⟩ : ∃ j, k = (100 + j) + 1 := ⟨k - 101, by omega⟩
    have hnl : n < l.length := by omega
    have hwf := hw l[n] (List.getElem_mem hnl)
    rw [life_Play.l0, if_pos (by omega), if_pos (by omega), if_pos (by omega), turnspitref07_Play.l0, if_pos (by omega), if_pos (by omega), rd40_get l n hnl, next_more x _ _ hx hwf k, Option.bind_some, next_some x _ _ hx hwf, Option.bind_some, wrap_succ n l.length hnl (by omega)]
    by_cases he : (nextU x l[n].f0 l[n].f1).2 = 0
    · rw [if_pos he, if_pos he]
      obtain ⟨v, hv⟩ : ∃ v, nextU x l[n].f0 l[n].f1 = (v, 0) := ⟨(nextU x l[n].f0 l[n].f1).1, by rw [← he]⟩
      have hs := next_some x l[n].f0 l[n].f1 hx hwf
      rw [hv] at hs ⊢
      obtain ⟨⟨k', c, b, s, g, er⟩, ho⟩ : ∃ u, Pure.opened x = u := ⟨_, rfl⟩
      obtain ⟨_, _, hst⟩ := next_step hx hwf hs ho
      exact ih (n + 1) _ v (by omega) (by omega) hst.opened.1
    · rw [if_neg he, if_neg he]
      exact ⟨_, rfl, rfl⟩
theorem Pure.LifePlays (x : Int) (l : List S40) (hx : Pure.u64 x) (hw : Wf40 l) : turnspitlaw07_LifePlays.f 1000 x l = some true := by
  unfold turnspitlaw07_LifePlays.f
  by_cases h : (l.length : Int) > 200
  · rw [if_pos h]; rfl
  · obtain ⟨r, h1, h2⟩ := plays l hw (by omega) l.length 0 1000 x (by omega) (by omega) hx
    have e1 : life_Play.f 1000 x l = some r := h1
    have e2 : turnspitref07_Play.f 1000 x l = some r := h2
    rw [if_neg h, e1, e2, Option.bind_some, Option.bind_some, Pure.awake_true, Option.bind_some, if_pos rfl, if_pos rfl, beq_self_eq_true]
theorem Walk.LifePlays (x : Int) (hx : (Lit.int .u64 x).wf = true) (A0 : Option Addr) (c0 : Nat) (l0 : List S40) (w : World) (HLd : Ld w) (hr : Kd.C k40 w A0 l0.length l0) (hc : l0.length ≤ c0) (hw : Wf40 l0) :
    Calls Tryd.prog 4 #[.int .u64 x, .slice A0 l0.length c0] w fun e w' => e = .returned (.bool true) ∧ Below w.heap.size w w' :=
  turnspitlaw07_LifePlays.calls 1000 x A0 c0 l0 true w hr hc HLd (Pure.LifePlays x l0 (Pure.u64_of hx) hw)
end Go.Proofs.YtebmbegblnoeaaaDoor

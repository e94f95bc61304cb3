/- SpreadEnds: plain. -/
import Derived.Test.YtkhdfbmkikiapaaPureBase
import Derived.Test.YtkhdfbmkikiapaaPrintF8
namespace Go.Proofs.Ytkhdfbmkikiapaa
set_option linter.unusedVariables false
set_option linter.unusedSimpArgs false
open Go.RowKit Go.Proofs.Ytkhdfbmkikiapaa.Given Go.Proofs.Ytkhdfbmkikiapaa.Print Go.Proofs.YtkhdfbmkikiapaaW.PrintWords Go.Proofs.Ytkhdfbmkikiapaa.Pure
theorem Pure.best_spec (h : Int → Int) (l : List Int) (but : Int) : ∀ n, (bestN h l but n = none → ∀ i, i < n → (i : Int) = but) ∧
    ∀ b, bestN h l but n = some b → b < n ∧ (b : Int) ≠ but ∧ ∀ i, i < n → (i : Int) ≠ but → h (rd l (i : Int)) ≤ h (rd l (b : Int)) ∧ (i < b → h (rd l (i : Int)) < h (rd l (b : Int))) := by
  intro n
  induction n with
  | zero => exact ⟨fun _ i hi => absurd hi (by omega), fun b hb => by cases hb⟩
  | succ n ih =>
    obtain ⟨ih1, ih2⟩ := ih
    by_cases hb : (n : Int) = but
    · have e : bestN h l but (n + 1) = bestN h l but n := by rw [bestN, if_pos hb]
      rw [e]
      refine ⟨fun hn i hi => ?_, fun b hs => ?_⟩
      · by_cases hin : i = n
        · rw [hin]; exact hb
        · exact ih1 hn i (by omega)
      · obtain ⟨h1, h2, h3⟩ := ih2 b hs
        refine ⟨by omega, h2, fun i hi hne => h3 i ?_ hne⟩
        have : i ≠ n := fun e => hne (by rw [e]; exact hb)
        omega
    · cases hc : bestN h l but n with
      | none =>
        have e : bestN h l but (n + 1) = some n := by rw [bestN, if_neg hb, hc]
        rw [e]
        refine ⟨fun hn => (by cases hn), fun b hs => ?_⟩
        injection hs with hs
        subst hs
        refine ⟨by omega, hb, fun i hi hne => ?_⟩
        by_cases hin : i = n
        · subst hin; exact ⟨Int.le_refl _, fun h => absurd h (by omega)⟩
        · exact absurd (ih1 hc i (by omega)) hne
      | some c =>
        obtain ⟨h1, h2, h3⟩ := ih2 c hc
        by_cases hg : h (rd l (c : Int)) < h (rd l (n : Int))
        · have e : bestN h l but (n + 1) = some n := by rw [bestN, if_neg hb, hc]; simp only; rw [if_pos hg]
          rw [e]
          refine ⟨fun hn => (by cases hn), fun b hs => ?_⟩
          injection hs with hs
          subst hs
          refine ⟨by omega, hb, fun i hi hne => ?_⟩
          by_cases hin : i = n
          · subst hin; exact ⟨Int.le_refl _, fun h => absurd h (by omega)⟩
          · have := (h3 i (by omega) hne).1
            exact ⟨by omega, fun _ => by omega⟩
        · have e : bestN h l but (n + 1) = some c := by rw [bestN, if_neg hb, hc]; simp only; rw [if_neg hg]
          rw [e]
          refine ⟨fun hn => (by cases hn), fun b hs => ?_⟩
          injection hs with hs
          subst hs
          refine ⟨by omega, h2, fun i hi hne => ?_⟩
          by_cases hin : i = n
          · subst hin; exact ⟨by omega, fun h => absurd h (by omega)⟩
          · exact h3 i (by omega) hne
theorem Pure.best_none_none (h g : Int → Int) (l : List Int) (but : Int) (n : Nat) : (bestN h l but n).isSome = (bestN g l but n).isSome := by
  cases e1 : bestN h l but n with
  | none =>
    cases e2 : bestN g l but n with
    | none => rfl
    | some b =>
      have h1 := (Pure.best_spec h l but n).1 e1
      obtain ⟨b1, b2, _⟩ := (Pure.best_spec g l but n).2 b e2
      exact absurd (h1 b b1) b2
  | some b =>
    cases e2 : bestN g l but n with
    | some _ => rfl
    | none =>
      have h1 := (Pure.best_spec g l but n).1 e2
      obtain ⟨b1, b2, _⟩ := (Pure.best_spec h l but n).2 b e1
      exact absurd (h1 b b1) b2
theorem Pure.some_iff (h : Int → Int) (l : List Int) (but : Int) (hlen : l.length ≤ 100) : (bestN h l but l.length).isSome = decide ((if 0 ≤ but ∧ but < (l.length : Int) then (l.length : Int) - 1 else (l.length : Int)) > 0) := by
  cases e1 : bestN h l but l.length with
  | none =>
    have h1 := (Pure.best_spec h l but l.length).1 e1
    refine (decide_eq_false ?_).symm
    have h0 := h1 0
    have h2 := h1 1
    split <;> omega
  | some b =>
    obtain ⟨b1, b2, _⟩ := (Pure.best_spec h l but l.length).2 b e1
    refine (decide_eq_true ?_).symm
    split <;> omega
theorem Pure.ends_loop (l : List Int) (but : Int) (hlen : l.length ≤ 100) (a b : Nat) (ha : bestN hi l but l.length = some a) (hb : bestN lo l but l.length = some b) :
    ∀ m n k, n + m = l.length → 2 * m + 2 ≤ k → turnspitlaw13_SpreadEnds.l0 k l but true (a : Int) true (b : Int) (n : Int) = some true := by
  obtain ⟨a1, a2, a3⟩ := (Pure.best_spec hi l but l.length).2 a ha
  obtain ⟨b1, b2, b3⟩ := (Pure.best_spec lo l but l.length).2 b hb
  intro m
  induction m with
  | zero =>
    intro n k hn hk
    obtain ⟨k, rfl⟩ : ∃ j, k = j + 2 := ⟨k - 2, by omega⟩
    unfold turnspitlaw13_SpreadEnds.l0
    rw [if_neg (by omega)]
    unfold turnspitlaw13_SpreadEnds.j4
    rw [if_neg (by decide), if_pos rfl, if_pos rfl, if_neg a2]
    simpa using b2
  | succ m ih =>
    intro n k hn hk
    obtain ⟨k, rfl⟩ : ∃ j, k = j + 2 := ⟨k - 2, by omega⟩
    have hnx := ih (n + 1) k (by omega) (by omega)
    unfold turnspitlaw13_SpreadEnds.l0
    rw [if_pos (by omega)]
    unfold turnspitlaw13_SpreadEnds.j4
    rw [if_pos rfl, wrap_succ n l.length (by omega) (by omega), hnx]
    by_cases hbt : (n : Int) = but
    · rw [if_pos hbt]
    · have ga := a3 n (by omega) hbt
      have gb := b3 n (by omega) hbt
      unfold hi at ga
      unfold lo at gb
      rw [if_neg hbt, if_pos (by omega), if_pos (by omega), if_pos (by omega), if_pos (by omega), if_neg (by omega)]
      have hB : (if 0 ≤ (b : Int) then (if (b : Int) < (l.length : Int) then (if (rd l (n : Int)) < (rd l (b : Int)) then (some false) else (if (rd l (n : Int)) = (rd l (b : Int)) then (if (n : Int) < (b : Int) then (some false) else some true) else some true)) else none) else none) = some true := by
        rw [if_pos (by omega), if_pos (by omega), if_neg (by omega)]
        split
        · rw [if_neg (by omega)]
        · rfl
      split
      · rw [if_neg (by omega)]; exact hB
      · exact hB
theorem Pure.SpreadEnds (l : List Int) (but : Int) (hl : l.length ≤ 9223372036854775806) : turnspitlaw13_SpreadEnds.f 1000 l but = some true := by
  unfold turnspitlaw13_SpreadEnds.f
  rw [awake_true, Option.bind_some, if_pos rfl]
  by_cases h : (l.length : Int) > 100
  · rw [if_pos h]
  · have hlen : l.length ≤ 100 := by omega
    rw [if_neg h, busiest_f l but 1000 hl (by omega), Option.bind_some, idlest_f l but 1000 hl (by omega), Option.bind_some]
    simp only
    have hsome := Pure.some_iff hi l but hlen
    have hsame := Pure.best_none_none lo hi l but l.length
    rw [hsame]
    generalize hK : (1000 : Nat) = K
    obtain ⟨k, rfl⟩ : ∃ k, K = k + 5 := ⟨995, by omega⟩
    have key : ∀ n : Int, n = (if 0 ≤ but ∧ but < (l.length : Int) then (l.length : Int) - 1 else (l.length : Int)) → turnspitlaw13_SpreadEnds.j1 (k + 4) l but true (bAt (bestN hi l but l.length)) (bestN hi l but l.length).isSome (bAt (bestN lo l but l.length)) (bestN hi l but l.length).isSome n = some true := by
      intro n hn
      rw [turnspitlaw13_SpreadEnds.j1]
      rw [← hn] at hsome
      rw [← hsome, bne_self_eq_false, if_neg (by decide)]
      rw [turnspitlaw13_SpreadEnds.j2]
      rw [if_neg (by decide)]
      cases ha : bestN hi l but l.length with
      | none =>
        rw [turnspitlaw13_SpreadEnds.l0]
        have e : (none : Option Nat).isSome = false := rfl
        rw [e]
        split <;> (rw [turnspitlaw13_SpreadEnds.j4, if_neg (by decide), if_pos rfl, if_neg (by decide)])
      | some a =>
        cases hb : bestN lo l but l.length with
        | none => rw [ha, hb] at hsame; cases hsame
        | some b => exact Pure.ends_loop l but hlen a b ha hb l.length 0 (k + 2) (by omega) (by omega)
    by_cases h0 : but ≥ 0
    · rw [if_pos h0]
      rw [turnspitlaw13_SpreadEnds.j0]
      by_cases h1 : but < (l.length : Int)
      · rw [decide_eq_true h1, if_pos rfl]
        refine key _ ?_
        rw [if_pos ⟨h0, h1⟩, wrap64_small (by omega) (by omega)]
      · rw [decide_eq_false h1, if_neg (by decide)]
        refine key _ ?_
        rw [if_neg (by omega)]
    · rw [if_neg h0]
      rw [turnspitlaw13_SpreadEnds.j0]
      rw [if_neg (by decide)]
      refine key _ ?_
      rw [if_neg (by omega)]
theorem Walk.SpreadEnds (A0 : Option Addr) (c0 : Nat) (l0 : List Int) (but : Int) (hb : (Lit.int .i64 but).wf = true) (w : World) (hr : Kd.C (Kd.int .i64) w A0 l0.length l0) (hc : l0.length ≤ c0) (hl : l0.length ≤ 9223372036854775806) :
    Calls Try.prog 8 #[.slice A0 l0.length c0, .int .i64 but] w fun e w' => e = .returned (.bool true) ∧ Below w.heap.size w w' :=
  turnspitlaw13_SpreadEnds.calls 1000 A0 c0 l0 but true w hr hc (Pure.SpreadEnds l0 but hl)
end Go.Proofs.Ytkhdfbmkikiapaa

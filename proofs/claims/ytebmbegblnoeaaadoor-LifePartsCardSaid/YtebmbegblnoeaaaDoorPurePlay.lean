/- Plain facts on a word's steps. -/
import Derived.Test.YtebmbegblnoeaaaDoorPureBase
import Derived.Test.YtebmbegblnoeaaaDoorPrintF17
import Derived.Test.YtebmbegblnoeaaaDoorPrintF22
namespace Go.Proofs.YtebmbegblnoeaaaDoor
open Go.RowKit Go.Proofs.YtebmbegblnoeaaaDoor.Given Go.Proofs.YtebmbegblnoeaaaDoor.Print Go.Proofs.YtebmbegblnoeaaaDoorW.PrintWords
set_option linter.unusedVariables false
set_option linter.unusedSimpArgs false
set_option maxRecDepth 100000
theorem cases16 {n : Nat} (hn : n < 16) : n = 0 ∨ n = 1 ∨ n = 2 ∨ n = 3 ∨ n = 4 ∨ n = 5 ∨ n = 6 ∨ n = 7 ∨ n = 8 ∨ n = 9 ∨ n = 10 ∨ n = 11 ∨ n = 12 ∨ n = 13 ∨ n = 14 ∨ n = 15 := by omega
/-- A step that has no error: what stands ahead of it, and behind it. -/
structure Step (n : Nat) (cpu k c : Int) (b : Bool) (s g : Int) (v : Int) : Prop where
  cpu0 : 0 ≤ cpu
  cpu1 : cpu < 64
  holds : holdsB n k b = true
  free : ¬ (n = 0 ∧ g = 4294967295)
  ok : packOk (toOf n) (nextS n cpu c s g).1 (nextS n cpu c s g).2.1 (nextS n cpu c s g).2.2.1 (nextS n cpu c s g).2.2.2
  word : v = wordOf (toOf n) (nextS n cpu c s g).1 (nextS n cpu c s g).2.1 (nextS n cpu c s g).2.2.1 (nextS n cpu c s g).2.2.2
theorem nextR_step {n : Nat} {cpu k c : Int} {b : Bool} {s g er v : Int} (h : nextR n cpu k c b s g er = some (v, 0)) : er = 0 ∧ Step n cpu k c b s g v := by
  unfold nextR at h
  by_cases he : er = 0
  · rw [if_pos he] at h
    by_cases hc : 0 ≤ cpu ∧ cpu < 64
    · rw [if_pos hc] at h
      by_cases hh : holdsB n k b = true
      · rw [if_pos hh] at h
        by_cases hf : n = 0 ∧ g = 4294967295
        · rw [if_pos hf] at h; simp at h
        · rw [if_neg hf] at h
          unfold packed_Pack.f at h
          split at h
          · rename_i hp
            simp only [Option.some.injEq, Prod.mk.injEq] at h
            exact ⟨he, hc.1, hc.2, hh, hf, hp, h.1.symm⟩
          · simp at h
      · rw [if_neg hh] at h; simp at h
    · rw [if_neg hc] at h; simp at h
  · rw [if_neg he] at h; simp at h
theorem next_step {x ev cpu v : Int} (hx : Pure.u64 x) (hw : (Lit.int .i64 ev).wf = true) (h : life_Next.f x ev cpu = some (v, 0)) {k c : Int} {b : Bool} {s g er : Int} (ho : Pure.opened x = (k, c, b, s, g, er)) :
    (0 ≤ ev ∧ ev < 16) ∧ er = 0 ∧ Step ev.toNat cpu k c b s g v := by
  unfold life_Next.f at h
  rw [if_pos hw, Pure.unpack_eq hx, Option.bind_some, ho] at h
  simp only at h
  by_cases hr : 0 ≤ ev ∧ ev < 16
  · rw [if_pos hr] at h
    exact ⟨hr, nextR_step h⟩
  · rw [if_neg hr] at h; simp at h
theorem Step.opened {n : Nat} {cpu k c : Int} {b : Bool} {s g v : Int} (h : Step n cpu k c b s g v) : Pure.u64 v ∧ Pure.opened v = (toOf n, (nextS n cpu c s g).1, (nextS n cpu c s g).2.1, (nextS n cpu c s g).2.2.1, (nextS n cpu c s g).2.2.2, 0) := by
  rw [h.word]
  exact ⟨(Pure.word_u64 h.ok).1, Pure.opened_word h.ok⟩
/-- A step that may be. -/
theorem next_go {k c : Int} {b : Bool} {s g : Int} (hp : packOk k c b s g) (n : Nat) (hn : n < 16) (cpu : Int) (c0 : 0 ≤ cpu) (c1 : cpu < 64) (hh : holdsB n k b = true) (hf : ¬ (n = 0 ∧ g = 4294967295))
    (ho : packOk (toOf n) (nextS n cpu c s g).1 (nextS n cpu c s g).2.1 (nextS n cpu c s g).2.2.1 (nextS n cpu c s g).2.2.2) :
    life_Next.f (wordOf k c b s g) (n : Int) cpu = some (wordOf (toOf n) (nextS n cpu c s g).1 (nextS n cpu c s g).2.1 (nextS n cpu c s g).2.2.1 (nextS n cpu c s g).2.2.2, 0) := by
  unfold life_Next.f
  have hw : (Lit.int .i64 (n : Int)).wf = true := by simp [Lit.wf, IntKind.min, IntKind.max, IntKind.signed, IntKind.bits]; omega
  rw [if_pos hw, Pure.unpack_eq (Pure.word_u64 hp).1, Option.bind_some, Pure.opened_word hp]
  simp only
  rw [if_pos ⟨by omega, by omega⟩, Int.toNat_natCast]
  unfold nextR
  rw [if_pos rfl, if_pos ⟨c0, c1⟩, if_pos hh, if_neg hf, Pure.pack_ok ho]

/-! ### steps -/
def evAt (l : List Int) (i : Nat) : S40 := ⟨(rd l (i : Int)).toNat % 16, (rd l (i : Int)).toNat / 16 % 64⟩
def evs (l : List Int) : List S40 := (List.range (min l.length 60)).map (evAt l)
def U16 (l : List Int) : Prop := ∀ n ∈ l, (Lit.int .u16 n).wf = true
theorem wrap64_small {n : Int} (h0 : -9223372036854775808 ≤ n) (h1 : n ≤ 9223372036854775807) : wrap64 n = n := by
  unfold wrap64
  omega
theorem wrap_succ (n N : Nat) (h : n < N) (hN : N ≤ 9223372036854775806) : wrap64 ((n : Int) + 1) = ((n + 1 : Nat) : Int) := by
  rw [wrap64_small (by omega) (by omega)]; omega
theorem rd_u16 {l : List Int} (h : U16 l) (i : Nat) (hi : i < l.length) : 0 ≤ rd l (i : Int) ∧ rd l (i : Int) ≤ 65535 := by
  have e : rd l (i : Int) = l[i] := by unfold rd; rw [Int.toNat_natCast, List.getD_eq_getElem?_getD, List.getElem?_eq_getElem hi]; rfl
  rw [e]
  have := h l[i] (List.getElem_mem hi)
  simp [Lit.wf, IntKind.min, IntKind.max, IntKind.signed, IntKind.bits] at this
  omega
theorem steps_l0 (l : List Int) (h : U16 l) (hl : l.length ≤ 9223372036854775806) :
    ∀ m n k, n + m = min l.length 60 → m < k → turnspitlaw07_steps.l0 k l ((List.range n).map (evAt l)) (n : Int) = some (evs l) := by
  intro m
  induction m with
  | zero =>
    intro n k hn hk
    obtain ⟨k, rfl⟩ : ∃ j, k = j + 1 := ⟨k - 1, by omega⟩
    have e : n = min l.length 60 := by omega
    subst e
    rw [turnspitlaw07_steps.l0]
    by_cases h1 : ((min l.length 60 : Nat) : Int) < (l.length : Int)
    · rw [if_pos h1, if_neg (by omega)]; rfl
    · rw [if_neg h1]; rfl
  | succ m ih =>
    intro n k hn hk
    obtain ⟨k, rfl⟩ : ∃ j, k = j + 1 := ⟨k - 1, by omega⟩
    obtain ⟨r0, r1⟩ := rd_u16 h n (by omega)
    have e1 : wrap64 (rd l (n : Int)) = rd l (n : Int) := wrap64_small (by omega) (by omega)
    have e2 : (rd l (n : Int)).tmod 16 = (((rd l (n : Int)).toNat % 16 : Nat) : Int) := by
      rw [Int.tmod_eq_emod_of_nonneg r0]; omega
    have e3 : (wrap64 ((rd l (n : Int)).tdiv 16)).tmod 64 = (((rd l (n : Int)).toNat / 16 % 64 : Nat) : Int) := by
      rw [Int.tdiv_eq_ediv_of_nonneg r0, wrap64_small (by omega) (by omega), Int.tmod_eq_emod_of_nonneg (by omega)]; omega
    have := ih (n + 1) k (by omega) (by omega)
    rw [List.range_succ, List.map_append, List.map_singleton] at this
    rw [turnspitlaw07_steps.l0, if_pos (by omega), if_pos (by omega), if_pos (by omega), if_pos (by simp; omega), e1, e2, e3, wrap_succ n l.length (by omega) hl]
    exact this
theorem steps_f (l : List Int) (h : U16 l) (hl : l.length ≤ 9223372036854775806) (k : Nat) (hk : 60 < k) : turnspitlaw07_steps.f k l = some (evs l) :=
  steps_l0 l h hl (min l.length 60) 0 k (by omega) (by omega)
theorem evs_length (l : List Int) : (evs l).length = min l.length 60 := by simp [evs]
def Ev (x : S40) : Prop := (0 ≤ x.f0 ∧ x.f0 < 16) ∧ 0 ≤ x.f1 ∧ x.f1 < 64
theorem evs_ev (l : List Int) : ∀ x ∈ evs l, Ev x := by
  intro x hx
  unfold evs at hx
  rw [List.mem_map] at hx
  obtain ⟨i, _, rfl⟩ := hx
  show (0 ≤ (((rd l (i : Int)).toNat % 16 : Nat) : Int) ∧ (((rd l (i : Int)).toNat % 16 : Nat) : Int) < 16) ∧ 0 ≤ (((rd l (i : Int)).toNat / 16 % 64 : Nat) : Int) ∧ (((rd l (i : Int)).toNat / 16 % 64 : Nat) : Int) < 64
  omega
theorem Ev.wf {x : S40} (h : Ev x) : (Lit.int .i64 x.f0).wf = true := by
  obtain ⟨⟨h0, h1⟩, _⟩ := h
  simp [Lit.wf, IntKind.min, IntKind.max, IntKind.signed, IntKind.bits]; omega
theorem rd40_get (l : List S40) (q : Nat) (h : q < l.length) : rd_T40 l (q : Int) = l[q] := by
  unfold rd_T40
  rw [Int.toNat_natCast, List.getD_eq_getElem?_getD, List.getElem?_eq_getElem h]; rfl
theorem u16_of_u8 {a : Int} (h : (Lit.int .u8 a).wf = true) : 0 ≤ a ∧ a ≤ 255 := by
  simp [Lit.wf, IntKind.min, IntKind.max, IntKind.signed, IntKind.bits] at h
  omega
end Go.Proofs.YtebmbegblnoeaaaDoor

/- LifeWays: plain. -/
import Derived.Test.YtebmbegblnoeaaaDoorPurePlay
import Derived.Test.YtebmbegblnoeaaaDoorPrintF8
namespace Go.Proofs.YtebmbegblnoeaaaDoor
open Go.RowKit Go.Proofs.YtebmbegblnoeaaaDoor.Given Go.Proofs.YtebmbegblnoeaaaDoor.Print Go.Proofs.YtebmbegblnoeaaaDoorW.PrintWords
set_option linter.unusedVariables false
set_option linter.unusedSimpArgs false
set_option maxRecDepth 100000
/-- Events that may all be, from a word to a word. -/
def Chain : Int → List S40 → Int → Prop
  | x, [], r => x = r
  | x, e :: l, r => ∃ v, life_Next.f x e.f0 e.f1 = some (v, 0) ∧ Chain v l r
theorem play_chain (l : List S40) (hl : l.length ≤ 60) : ∀ m n k x r, n + m = l.length → m < k → Chain x (l.drop n) r → life_Play.l0 k x l l (l.length : Int) (n : Int) = some (r, (l.length : Int)) := by
  intro m
  induction m with
  | zero =>
    intro n k x r hn hk hc
    obtain ⟨k, rfl⟩ : ∃ j, k = j + 1 := ⟨k - 1, by omega⟩
    rw [List.drop_eq_nil_of_le (by omega)] at hc
    rw [life_Play.l0, if_neg (by omega), show x = r from hc]
  | succ m ih =>
    intro n k x r hn hk hc
    obtain ⟨k, rfl⟩ : ∃ j, k = j + 1 := ⟨k - 1, by omega⟩
    have hnl : n < l.length := by omega
    rw [List.drop_eq_getElem_cons hnl] at hc
    obtain ⟨v, hv, hc⟩ := hc
    rw [life_Play.l0, if_pos (by omega), if_pos (by omega), if_pos (by omega), rd40_get l n hnl, hv, Option.bind_some, if_pos rfl, wrap_succ n l.length hnl (by omega)]
    exact ih (n + 1) k v r (by omega) (by omega) hc
theorem play_f (x r : Int) (l : List S40) (k : Nat) (hl : l.length ≤ 60) (hk : l.length < k) (hc : Chain x l r) : life_Play.f k x l = some (r, (l.length : Int)) :=
  play_chain l hl l.length 0 k x r (by omega) hk hc
theorem pk {k c : Int} {b : Bool} {s g : Int} (hb : b = true → k = 7) (k0 : 0 ≤ k) (k1 : k < 8) (c0 : 0 ≤ c) (c1 : c < 64) (s0 : 0 ≤ s) (s1 : s < 65536) (g0 : 0 ≤ g) (g1 : g < 4294967296) : packOk k c b s g := ⟨hb, ⟨k0, k1⟩, ⟨c0, c1⟩, ⟨s0, s1⟩, g0, g1⟩
theorem kind_word {k c : Int} {b : Bool} {s g : Int} (h : packOk k c b s g) : packed_Kind.f (wordOf k c b s g) = some k := by
  rw [Pure.kind_eq (Pure.word_u64 h).1]
  obtain ⟨_, ⟨k0, k1⟩, _⟩ := h
  have := b2i_01 b
  unfold wordOf
  congr 1
  omega
theorem gen_word {k c : Int} {b : Bool} {s g : Int} (h : packOk k c b s g) : packed_Gen.f (wordOf k c b s g) = some g := by
  rw [Pure.gen_eq (Pure.word_u64 h).1]
  obtain ⟨_, ⟨k0, k1⟩, ⟨c0, c1⟩, ⟨s0, s1⟩, g0, g1⟩ := h
  have := b2i_01 b
  unfold wordOf
  congr 1
  omega
theorem next_go2 {k c : Int} {b : Bool} {s g : Int} (hp : packOk k c b s g) (n : Nat) (hn : n < 16) (cpu : Int) (c0 : 0 ≤ cpu) (c1 : cpu < 64) (hh : holdsB n k b = true) (hf : ¬ (n = 0 ∧ g = 4294967295)) {c' : Int} {b' : Bool} {s' g' : Int}
    (e : nextS n cpu c s g = (c', b', s', g')) (ho : packOk (toOf n) c' b' s' g') : life_Next.f (wordOf k c b s g) (n : Int) cpu = some (wordOf (toOf n) c' b' s' g', 0) := by
  have := next_go hp n hn cpu c0 c1 hh hf (by rw [e]; exact ho)
  rw [e] at this
  exact this
def back6 : List S40 := [⟨0, 1⟩, ⟨2, 0⟩, ⟨3, 0⟩, ⟨4, 0⟩, ⟨5, 0⟩, ⟨7, 0⟩]
theorem again (c : Int) (c0 : 0 ≤ c) (c1 : c < 64) : Chain (wordOf 0 c false 0 3) back6 (wordOf 7 1 false 1 4) := by
  have p0 : packOk 0 c false 0 3 := pk (fun h => (by cases h)) (by decide) (by decide) c0 c1 (by decide) (by decide) (by decide) (by decide)
  have p1 : packOk 1 1 false 0 4 := by decide
  have p2 : packOk 2 1 false 1 4 := by decide
  have p3 : packOk 3 1 false 1 4 := by decide
  have p4 : packOk 4 1 false 1 4 := by decide
  have p5 : packOk 5 1 false 1 4 := by decide
  have p7 : packOk 7 1 false 1 4 := by decide
  have e0 : nextS 0 1 c 0 3 = (1, false, 0, 4) := by kernel_rfl
  have e2 : nextS 2 0 1 0 4 = (1, false, 1, 4) := by kernel_rfl
  exact ⟨_, next_go2 p0 0 (by decide) 1 (by decide) (by decide) rfl (by decide) e0 p1,
    _, next_go2 p1 2 (by decide) 0 (by decide) (by decide) rfl (by decide) e2 p2,
    _, next_go2 p2 3 (by decide) 0 (by decide) (by decide) rfl (by decide) rfl p3,
    _, next_go2 p3 4 (by decide) 0 (by decide) (by decide) rfl (by decide) rfl p4,
    _, next_go2 p4 5 (by decide) 0 (by decide) (by decide) rfl (by decide) rfl p5,
    _, next_go2 p5 7 (by decide) 0 (by decide) (by decide) rfl (by decide) rfl p7, rfl⟩
/-- The way to Free. -/
def wayOf (k : Int) (b : Bool) : List S40 := if k = 2 then [⟨3, 0⟩, ⟨1, 0⟩] else if k = 6 then [⟨14, 0⟩, ⟨1, 0⟩] else if k = 7 then (if b = true then [⟨10, 0⟩, ⟨1, 0⟩] else [⟨9, 0⟩, ⟨1, 0⟩]) else if k = 0 then [] else [⟨1, 0⟩]
theorem way (k c : Int) (b : Bool) (k0 : 0 ≤ k) (k1 : k < 8) (c0 : 0 ≤ c) (c1 : c < 64) (hb : b = true → k = 7) : ∃ c', 0 ≤ c' ∧ c' < 64 ∧ Chain (wordOf k c b 0 3) (wayOf k b) (wordOf 0 c' false 0 3) := by
  have q : ∀ k', 0 ≤ k' → k' < 8 → packOk k' c false 0 3 := fun k' h0 h1 => pk (fun h => (by cases h)) h0 h1 c0 c1 (by decide) (by decide) (by decide) (by decide)
  have z : packOk 0 0 false 0 3 := by decide
  have hk : k = 0 ∨ k = 1 ∨ k = 2 ∨ k = 3 ∨ k = 4 ∨ k = 5 ∨ k = 6 ∨ k = 7 := by omega
  rcases hk with rfl | rfl | rfl | rfl | rfl | rfl | rfl | rfl
  · cases b
    · exact ⟨c, c0, c1, rfl⟩
    · exact absurd (hb rfl) (by decide)
  · cases b
    · exact ⟨0, by decide, by decide, _, next_go (q 1 (by decide) (by decide)) 1 (by decide) 0 (by decide) (by decide) rfl (by decide) z, rfl⟩
    · exact absurd (hb rfl) (by decide)
  · cases b
    · exact ⟨0, by decide, by decide, _, next_go (q 2 (by decide) (by decide)) 3 (by decide) 0 (by decide) (by decide) rfl (by decide) (q 3 (by decide) (by decide)), _, next_go (q 3 (by decide) (by decide)) 1 (by decide) 0 (by decide) (by decide) rfl (by decide) z, rfl⟩
    · exact absurd (hb rfl) (by decide)
  · cases b
    · exact ⟨0, by decide, by decide, _, next_go (q 3 (by decide) (by decide)) 1 (by decide) 0 (by decide) (by decide) rfl (by decide) z, rfl⟩
    · exact absurd (hb rfl) (by decide)
  · cases b
    · exact ⟨0, by decide, by decide, _, next_go (q 4 (by decide) (by decide)) 1 (by decide) 0 (by decide) (by decide) rfl (by decide) z, rfl⟩
    · exact absurd (hb rfl) (by decide)
  · cases b
    · exact ⟨0, by decide, by decide, _, next_go (q 5 (by decide) (by decide)) 1 (by decide) 0 (by decide) (by decide) rfl (by decide) z, rfl⟩
    · exact absurd (hb rfl) (by decide)
  · cases b
    · exact ⟨0, by decide, by decide, _, next_go (q 6 (by decide) (by decide)) 14 (by decide) 0 (by decide) (by decide) rfl (by decide) (q 4 (by decide) (by decide)), _, next_go (q 4 (by decide) (by decide)) 1 (by decide) 0 (by decide) (by decide) rfl (by decide) z, rfl⟩
    · exact absurd (hb rfl) (by decide)
  · have p7 : packOk 7 c b 0 3 := pk (fun _ => rfl) (by decide) (by decide) c0 c1 (by decide) (by decide) (by decide) (by decide)
    cases b
    · exact ⟨0, by decide, by decide, _, next_go p7 9 (by decide) 0 (by decide) (by decide) rfl (by decide) (q 1 (by decide) (by decide)), _, next_go (q 1 (by decide) (by decide)) 1 (by decide) 0 (by decide) (by decide) rfl (by decide) z, rfl⟩
    · exact ⟨0, by decide, by decide, _, next_go p7 10 (by decide) 0 (by decide) (by decide) rfl (by decide) (q 3 (by decide) (by decide)), _, next_go (q 3 (by decide) (by decide)) 1 (by decide) 0 (by decide) (by decide) rfl (by decide) z, rfl⟩
theorem ways_j1 (K : Nat) (hK : 60 < K) (k c : Int) (b : Bool) (k0 : 0 ≤ k) (k1 : k < 8) (c0 : 0 ≤ c) (c1 : c < 64) (hb : b = true → k = 7) : turnspitlaw07_LifeWays.j1 (K + 1) true (wordOf k c b 0 3) 0 (wayOf k b) = some true := by
  obtain ⟨c', d0, d1, hc⟩ := way k c b k0 k1 c0 c1 hb
  have hlen : (wayOf k b).length ≤ 2 := by
    unfold wayOf
    repeat' split
    all_goals decide
  have p0 : packOk 0 c' false 0 3 := pk (fun h => (by cases h)) (by decide) (by decide) d0 d1 (by decide) (by decide) (by decide) (by decide)
  have p7 : packOk 7 1 false 1 4 := by decide
  have e6 := play_f _ _ back6 K (by decide) (by show 6 < K; omega) (again c' d0 d1)
  unfold back6 at e6
  rw [turnspitlaw07_LifeWays.j1, play_f _ _ (wayOf k b) K (by omega) (by omega) hc, Option.bind_some, Option.bind_some]
  simp only
  rw [e6, Option.bind_some, if_pos trivial, if_pos trivial, if_pos trivial]
  rw [kind_word p0, Option.bind_some, if_pos rfl, gen_word p0, Option.bind_some, if_pos rfl]
  simp only [List.length_cons, List.length_nil]
  rw [kind_word p7, Option.bind_some, if_pos rfl, gen_word p7]
  rfl
theorem ways_j0 (K : Nat) (hK : 60 < K) (k c : Int) (b : Bool) (k0 : 0 ≤ k) (k1 : k < 8) (c0 : 0 ≤ c) (c1 : c < 64) (hb : b = true → k = 7) : turnspitlaw07_LifeWays.j0 (K + 2) true k c b 0 3 = some true := by
  have hp : packOk k c b 0 3 := pk hb k0 k1 c0 c1 (by decide) (by decide) (by decide) (by decide)
  have h := ways_j1 K hK k c b k0 k1 c0 c1 hb
  unfold wayOf at h
  rw [turnspitlaw07_LifeWays.j0, Pure.pack_ok hp, Option.bind_some]
  simp only
  by_cases h2 : k = 2
  · rw [if_pos h2] at h ⊢; exact h
  · rw [if_neg h2] at h ⊢
    by_cases h6 : k = 6
    · rw [if_pos h6] at h ⊢; exact h
    · rw [if_neg h6] at h ⊢
      by_cases h7 : k = 7
      · rw [if_pos h7] at h ⊢
        cases b
        · rw [if_neg Bool.false_ne_true] at h ⊢; exact h
        · rw [if_pos rfl] at h ⊢; exact h
      · rw [if_neg h7] at h ⊢
        by_cases h0 : k = 0
        · rw [if_pos h0] at h ⊢; exact h
        · rw [if_neg h0] at h ⊢; exact h
theorem Pure.LifeWays (a : Int) (b : Bool) (c : Int) (ha : (Lit.int .u8 a).wf = true) (hc : (Lit.int .u8 c).wf = true) : turnspitlaw07_LifeWays.f 102 a b c = some true := by
  obtain ⟨a0, a1⟩ := u16_of_u8 ha
  obtain ⟨c0, c1⟩ := u16_of_u8 hc
  unfold turnspitlaw07_LifeWays.f
  have ea : (wrap64 a).tmod 8 = a % 8 := by rw [wrap64_small (by omega) (by omega), Int.tmod_eq_emod_of_nonneg a0]
  have ec : (wrap64 c).tmod 64 = c % 64 := by rw [wrap64_small (by omega) (by omega), Int.tmod_eq_emod_of_nonneg c0]
  rw [Pure.awake_true, Option.bind_some, if_pos rfl, ea, ec]
  cases b
  · rw [if_neg Bool.false_ne_true]
    exact ways_j0 100 (by decide) _ _ _ (by omega) (by omega) (by omega) (by omega) (fun h => (by cases h))
  · rw [if_pos rfl]
    exact ways_j0 100 (by decide) _ _ _ (by omega) (by omega) (by omega) (by omega) (fun h => (by simpa using h))
theorem Walk.LifeWays (a : Int) (ha : (Lit.int .u8 a).wf = true) (b : Bool) (c : Int) (hc : (Lit.int .u8 c).wf = true) (w : World) (HLd : Ld w) :
    Calls Tryd.prog 8 #[.int .u8 a, .bool b, .int .u8 c] w fun e w' => e = .returned (.bool true) ∧ Below w.heap.size w w' :=
  turnspitlaw07_LifeWays.calls 102 a b c true w HLd (Pure.LifeWays a b c ha hc)
end Go.Proofs.YtebmbegblnoeaaaDoor

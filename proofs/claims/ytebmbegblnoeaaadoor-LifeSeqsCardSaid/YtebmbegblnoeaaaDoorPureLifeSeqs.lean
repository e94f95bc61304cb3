/- LifeSeqs: plain. -/
import Derived.Test.YtebmbegblnoeaaaDoorPurePlay
import Derived.Test.YtebmbegblnoeaaaDoorPrintF7
namespace Go.Proofs.YtebmbegblnoeaaaDoor
open Go.RowKit Go.Proofs.YtebmbegblnoeaaaDoor.Given Go.Proofs.YtebmbegblnoeaaaDoor.Print Go.Proofs.YtebmbegblnoeaaaDoorW.PrintWords
set_option linter.unusedVariables false
set_option linter.unusedSimpArgs false
set_option maxRecDepth 100000
/-- A word that a run of so many steps may come to; its key: where in all runs it stands. -/
def Reach (i : Nat) (x : Int) : Prop := Pure.u64 x ∧ ∃ k c b s g, Pure.opened x = (k, c, b, s, g, 0) ∧ 0 ≤ s ∧ s ≤ i ∧ 0 ≤ g ∧ g ≤ i
def keyOf (x : Int) : Int := (Pure.opened x).2.2.2.2.1 * 65536 + (if (Pure.opened x).1 = 0 then 65535 else (Pure.opened x).2.2.2.1)
def kindOf (x : Int) : Int := (Pure.opened x).1
theorem kind_f {x : Int} (hx : Pure.u64 x) (i : Nat) (hr : Reach i x) : packed_Kind.f x = some (kindOf x) := by
  rw [Pure.kind_eq hx]
  obtain ⟨_, k, c, b, s, g, ho, _⟩ := hr
  unfold kindOf
  unfold Pure.opened at ho ⊢
  by_cases h : x < 288230376151711744 ∧ (x / 512 % 2 = 1 → x % 8 = 7)
  · rw [if_pos h]
  · rw [if_neg h] at ho
    simp at ho
theorem reach_step {i : Nat} (hi : i ≤ 100) {x ev cpu v : Int} (h : Reach i x) (hw : (Lit.int .i64 ev).wf = true) (hn : life_Next.f x ev cpu = some (v, 0)) :
    Reach (i + 1) v ∧ keyOf x ≤ keyOf v ∧ (kindOf v = 2 → keyOf x < keyOf v) := by
  obtain ⟨hx, k, c, b, s, g, ho, s0, s1, g0, g1⟩ := h
  obtain ⟨hr, _, hs⟩ := next_step hx hw hn ho
  obtain ⟨n, rfl⟩ := Int.eq_ofNat_of_zero_le hr.1
  rw [Int.toNat_natCast] at hs
  obtain ⟨hu, hop⟩ := hs.opened
  have hh := hs.holds
  have eS : bits .and .i64 (wrap64 (s + 1)) 65535 = s + 1 := by
    rw [wrap64_small (by omega) (by omega), and_seq (s + 1) (by omega) (by omega), Int.tmod_eq_emod_of_nonneg (by omega)]
    omega
  have eG : wrap64 (g + 1) = g + 1 := wrap64_small (by omega) (by omega)
  have hk0 : n = 0 → k = 0 := by
    rintro rfl
    have h2 := hh
    unfold holdsB kindsOf at h2
    simp at h2
    exact h2.1.symm
  have hk2 : n ≠ 0 → k ≠ 0 := by
    intro h0 hk
    subst hk
    rcases cases16 (show n < 16 by omega) with rfl | rfl | rfl | rfl | rfl | rfl | rfl | rfl | rfl | rfl | rfl | rfl | rfl | rfl | rfl | rfl <;> first | exact h0 rfl | (cases b <;> exact absurd hh (by decide))
  have main : ∀ s' g', (nextS n cpu c s g).2.2.1 = s' → (nextS n cpu c s g).2.2.2 = g' → (0 ≤ s' ∧ s' ≤ i + 1 ∧ 0 ≤ g' ∧ g' ≤ i + 1) ∧ (g * 65536 + (if k = 0 then 65535 else s) ≤ g' * 65536 + (if toOf n = 0 then 65535 else s')) ∧ (toOf n = 2 → g * 65536 + (if k = 0 then 65535 else s) < g' * 65536 + (if toOf n = 0 then 65535 else s')) := by
    intro s' g' es eg
    rcases cases16 (show n < 16 by omega) with rfl | rfl | rfl | rfl | rfl | rfl | rfl | rfl | rfl | rfl | rfl | rfl | rfl | rfl | rfl | rfl
    · have q1 : s' = 0 := es.symm
      have q2 : g' = g + 1 := eg.symm.trans eG
      rw [q1, q2, if_pos (hk0 rfl), if_neg (by decide)]
      refine ⟨by omega, by omega, fun h => absurd h (by decide)⟩
    · have q1 : s' = 0 := es.symm
      have q2 : g' = g := eg.symm
      rw [q1, q2, if_neg (hk2 (by decide)), if_pos (by decide)]
      refine ⟨by omega, by omega, fun h => absurd h (by decide)⟩
    · have q1 : s' = s + 1 := es.symm.trans eS
      have q2 : g' = g := eg.symm
      rw [q1, q2, if_neg (hk2 (by decide)), if_neg (by decide)]
      refine ⟨by omega, by omega, fun _ => by omega⟩
    all_goals
      have q1 : s' = s := es.symm
      have q2 : g' = g := eg.symm
      rw [q1, q2, if_neg (hk2 (by decide)), if_neg (by decide)]
      refine ⟨by omega, by omega, fun h => absurd h (by decide)⟩
  obtain ⟨m1, m2, m3⟩ := main _ _ rfl rfl
  refine ⟨⟨hu, _, _, _, _, _, hop, by omega, by omega, by omega, by omega⟩, ?_, ?_⟩
  · unfold keyOf
    rw [ho, hop]
    exact m2
  · intro hk
    unfold kindOf at hk
    rw [hop] at hk
    unfold keyOf
    rw [ho, hop]
    exact m3 hk
/-- Words of a run, one after the other. -/
def RunI (o : List Int) : Prop := ∀ i : Nat, i + 1 < o.length → keyOf (rd o (i : Int)) ≤ keyOf (rd o ((i + 1 : Nat) : Int)) ∧ (kindOf (rd o ((i + 1 : Nat) : Int)) = 2 → keyOf (rd o (i : Int)) < keyOf (rd o ((i + 1 : Nat) : Int)))
theorem rd_app (o : List Int) (v : Int) (i : Nat) (h : i < o.length) : rd (o ++ [v]) (i : Int) = rd o (i : Int) := by
  unfold rd
  rw [Int.toNat_natCast, List.getD_eq_getElem?_getD, List.getD_eq_getElem?_getD, List.getElem?_append_left h]
theorem rd_last (o : List Int) (v : Int) : rd (o ++ [v]) (o.length : Int) = v := by
  unfold rd
  rw [Int.toNat_natCast, List.getD_eq_getElem?_getD, List.getElem?_append_right (Nat.le_refl _), Nat.sub_self]
  rfl
theorem rd_getI (o : List Int) (i : Nat) (h : i < o.length) : rd o (i : Int) = o[i] := by
  unfold rd
  rw [Int.toNat_natCast, List.getD_eq_getElem?_getD, List.getElem?_eq_getElem h]; rfl
structure Good (n : Nat) (x : Int) (o : List Int) : Prop where
  reach : Reach n x
  pos : 0 < o.length
  last : rd o ((o.length - 1 : Nat) : Int) = x
  run : RunI o
  all : ∀ y ∈ o, Reach 100 y
  len : o.length ≤ n + 1
theorem Reach.more {i j : Nat} {x : Int} (h : Reach i x) (hij : i ≤ j) : Reach j x := by
  obtain ⟨hx, k, c, b, s, g, ho, s0, s1, g0, g1⟩ := h
  exact ⟨hx, k, c, b, s, g, ho, s0, by omega, g0, by omega⟩
theorem Good.skip {n : Nat} {x : Int} {o : List Int} (h : Good n x o) : Good (n + 1) x o := ⟨h.reach.more (by omega), h.pos, h.last, h.run, h.all, by have := h.len; omega⟩
theorem Good.step {n : Nat} (hn : n ≤ 90) {x v : Int} {o : List Int} (h : Good n x o) (hv : Reach (n + 1) v) (h1 : keyOf x ≤ keyOf v) (h2 : kindOf v = 2 → keyOf x < keyOf v) : Good (n + 1) v (o ++ [v]) := by
  have hl : (o ++ [v]).length = o.length + 1 := by simp
  refine ⟨hv, by omega, by rw [hl]; exact rd_last o v, fun i hi => ?_, fun y hy => ?_, by rw [hl]; have := h.len; omega⟩
  · rw [hl] at hi
    by_cases hlt : i + 1 < o.length
    · rw [rd_app o v i (by omega), rd_app o v (i + 1) hlt]
      exact h.run i hlt
    · have e : i + 1 = o.length := by omega
      rw [rd_app o v i (by omega), e, rd_last]
      have hx : rd o (i : Int) = x := by rw [← h.last, show o.length - 1 = i by omega]
      rw [hx]
      exact ⟨h1, h2⟩
  · rcases List.mem_append.1 hy with hy | hy
    · exact h.all y hy
    · rw [List.mem_singleton.1 hy]; exact hv.more (by omega)
theorem run_l0 (E : List S40) (hE : ∀ x ∈ E, Ev x) (hl : E.length ≤ 61) : ∀ m n k x o, n + m = E.length → m < k → Good n x o →
    ∃ o', turnspitlaw07_run.l0 k x E o (n : Int) = some o' ∧ RunI o' ∧ (∀ y ∈ o', Reach 100 y) ∧ o.length ≤ o'.length ∧ o'.length ≤ 62 := by
  intro m
  induction m with
  | zero =>
    intro n k x o hn hk hg
    obtain ⟨k, rfl⟩ : ∃ j, k = j + 1 := ⟨k - 1, by omega⟩
    exact ⟨o, by rw [turnspitlaw07_run.l0, if_neg (by omega)], hg.run, hg.all, Nat.le_refl _, by have := hg.len; omega⟩
  | succ m ih =>
    intro n k x o hn hk hg
    obtain ⟨k, rfl⟩ : ∃ j, k = j + 1 := ⟨k - 1, by omega⟩
    have hnl : n < E.length := by omega
    have hev := hE E[n] (List.getElem_mem hnl)
    obtain ⟨⟨v, e⟩, hr⟩ : ∃ r, nextU x E[n].f0 E[n].f1 = r := ⟨_, rfl⟩
    have hnx := next_some x E[n].f0 E[n].f1 hg.reach.1 hev.wf
    rw [hr] at hnx
    have hlen := hg.len
    rw [turnspitlaw07_run.l0, if_pos (by omega), if_pos (by omega), rd40_get E n hnl, hnx, Option.bind_some, wrap_succ n E.length hnl (by omega)]
    simp only
    by_cases he : e = 0
    · subst he
      rw [if_pos rfl, if_pos (by omega)]
      obtain ⟨hv, h1, h2⟩ := reach_step (by omega) hg.reach hev.wf hnx
      obtain ⟨o', g1, g2, g3, g4, g5⟩ := ih (n + 1) k v (o ++ [v]) (by omega) (by omega) (hg.step (by omega) hv h1 h2)
      exact ⟨o', g1, g2, g3, by simp at g4; omega, g5⟩
    · rw [if_neg he]
      exact ih (n + 1) k x o (by omega) (by omega) hg.skip
theorem key_mono {o : List Int} (h : RunI o) (p : Nat) : ∀ d, p + d < o.length → keyOf (rd o (p : Int)) ≤ keyOf (rd o ((p + d : Nat) : Int)) := by
  intro d
  induction d with
  | zero => intro _; exact Int.le_refl _
  | succ d ih =>
    intro hd
    have h1 := ih (by omega)
    have h2 := (h (p + d) (by omega)).1
    exact Int.le_trans h1 h2
theorem apart {o : List Int} (h : RunI o) {i p : Nat} (hi : i < o.length) (hp : p < i) (he : rd o (i : Int) = rd o (p : Int)) : kindOf (rd o (i : Int)) ≠ 2 := by
  intro hk
  obtain ⟨j, rfl⟩ : ∃ j, i = j + 1 := ⟨i - 1, by omega⟩
  have h1 := key_mono h p (j - p) (by omega)
  rw [show p + (j - p) = j by omega] at h1
  have h2 := (h j hi).2 hk
  rw [he] at h2
  omega
theorem seqs_l1 (o : List Int) (h : RunI o) (ha : ∀ y ∈ o, Reach 100 y) (hl : o.length ≤ 62) (i : Nat) (hi : i < o.length) (k' : Nat) : ∀ m p, p + m = i → turnspitlaw07_LifeSeqs.l1 (k' + m + 1) true o (i : Int) (p : Int) = turnspitlaw07_LifeSeqs.l0 k' true o ((i + 1 : Nat) : Int) := by
  intro m
  induction m with
  | zero =>
    intro p hp
    rw [Nat.add_zero, turnspitlaw07_LifeSeqs.l1, if_neg (by omega), wrap_succ i o.length hi (by omega)]
  | succ m ih =>
    intro p hp
    rw [show k' + (m + 1) + 1 = (k' + m + 1) + 1 by omega, turnspitlaw07_LifeSeqs.l1, if_pos (by omega), if_pos (by omega), if_pos (by omega), if_pos (by omega), if_pos (by omega), wrap_succ p o.length (by omega) (by omega), ih (p + 1) (by omega)]
    by_cases he : rd o (i : Int) = rd o (p : Int)
    · have hr := ha (rd o (i : Int)) (by rw [rd_getI o i hi]; exact List.getElem_mem hi)
      rw [if_pos he, kind_f hr.1 100 hr, Option.bind_some, if_neg (apart h hi (by omega) he)]
    · rw [if_neg he]
theorem seqs_l0 (o : List Int) (h : RunI o) (ha : ∀ y ∈ o, Reach 100 y) (hl : o.length ≤ 62) (h2 : 2 ≤ o.length) : ∀ m i k, i + m = o.length → 70 * m + 10 ≤ k → turnspitlaw07_LifeSeqs.l0 k true o (i : Int) = some true := by
  intro m
  induction m with
  | zero =>
    intro i k hi hk
    obtain ⟨k, rfl⟩ : ∃ j, k = j + 1 := ⟨k - 1, by omega⟩
    rw [turnspitlaw07_LifeSeqs.l0, if_neg (by omega), if_pos rfl, decide_eq_true (by omega)]
  | succ m ih =>
    intro i k hi hk
    obtain ⟨k, rfl⟩ : ∃ j, k = (j + i + 1) + 1 := ⟨k - i - 2, by omega⟩
    rw [turnspitlaw07_LifeSeqs.l0, if_pos (by omega), show (0 : Int) = ((0 : Nat) : Int) from rfl, seqs_l1 o h ha hl i (by omega) k i 0 (by omega)]
    exact ih (i + 1) k (by omega) (by omega)
theorem Pure.LifeSeqs (a : Int) (l : List Int) (ha : (Lit.int .u8 a).wf = true) (hu : U16 l) (hl : l.length ≤ 9223372036854775806) : turnspitlaw07_LifeSeqs.f 5000 a l = some true := by
  obtain ⟨a0, a1⟩ := u16_of_u8 ha
  have ec : (wrap64 a).tmod 64 = a % 64 := by rw [wrap64_small (by omega) (by omega), Int.tmod_eq_emod_of_nonneg a0]
  unfold turnspitlaw07_LifeSeqs.f
  rw [Pure.awake_true, Option.bind_some, if_pos rfl, steps_f l hu hl 5000 (by omega), ec, Option.bind_some, Option.bind_some]
  have hel := evs_length l
  rw [if_pos (by simp; omega)]
  have hE : ∀ x ∈ [(⟨0, a % 64⟩ : S40)] ++ evs l, Ev x := by
    intro x hx
    rcases List.mem_append.1 hx with hx | hx
    · rw [List.mem_singleton.1 hx]
      show (0 ≤ (0 : Int) ∧ (0 : Int) < 16) ∧ 0 ≤ a % 64 ∧ a % 64 < 64
      omega
    · exact evs_ev l x hx
  have hlen : ([(⟨0, a % 64⟩ : S40)] ++ evs l).length ≤ 61 := by simp; omega
  have hpos : 0 < ([(⟨0, a % 64⟩ : S40)] ++ evs l).length := by simp
  have h0 : ([(⟨0, a % 64⟩ : S40)] ++ evs l)[0]'hpos = ⟨0, a % 64⟩ := rfl
  have p0 : packOk 0 0 false 0 0 := by decide
  have p1 : packOk 1 (a % 64) false 0 1 := ⟨fun h => (by cases h), by decide, by omega, by decide, by decide⟩
  have z0 : wordOf 0 0 false 0 0 = 0 := by decide
  have r0 : Reach 0 0 := ⟨by constructor <;> decide, 0, 0, false, 0, 0, by rw [← z0]; exact Pure.opened_word p0, by decide, by decide, by decide, by decide⟩
  have e0 : nextS 0 (a % 64) 0 0 0 = (a % 64, false, 0, 1) := by
    show (a % 64, false, (0 : Int), wrap64 (0 + 1)) = _
    rw [wrap64_small (by decide) (by decide)]; rfl
  have hn : life_Next.f 0 0 (a % 64) = some (wordOf 1 (a % 64) false 0 1, 0) := by
    have := next_go p0 0 (by decide) (a % 64) (by omega) (by omega) rfl (by decide) (by rw [e0]; exact p1)
    rw [e0, z0] at this
    exact this
  have g0 : Good 0 0 [0] := ⟨r0, by decide, rfl, fun i hi => absurd hi (by simp), fun y hy => by rw [List.mem_singleton.1 hy]; exact r0.more (by decide), by decide⟩
  have hwf : (Lit.int .i64 0).wf = true := by decide
  obtain ⟨hv, h1, h2⟩ := reach_step (by decide) r0 hwf hn
  have g1 := g0.step (by decide) hv h1 h2
  generalize [(⟨0, a % 64⟩ : S40)] ++ evs l = E at hE hlen hpos h0
  obtain ⟨o', q1, q2, q3, q4, q5⟩ := run_l0 E hE hlen (E.length - 1) 1 4999 _ _ (by omega) (by omega) g1
  have hrun : turnspitlaw07_run.f 5000 0 E = some o' := by
    have hrd : rd_T40 E 0 = ⟨0, a % 64⟩ := (rd40_get E 0 hpos).trans h0
    show turnspitlaw07_run.l0 (4999 + 1) 0 E [0] 0 = some o'
    rw [turnspitlaw07_run.l0, if_pos (by omega), if_pos (by decide), hrd, hn, Option.bind_some, if_pos rfl, if_pos (by decide), show wrap64 (0 + 1) = ((1 : Nat) : Int) from by rw [wrap64_small (by decide) (by decide)]; rfl]
    exact q1
  rw [hrun, Option.bind_some]
  exact seqs_l0 o' q2 q3 q5 (by simp at q4; omega) o'.length 0 5000 (by omega) (by omega)
theorem Walk.LifeSeqs (a : Int) (ha : (Lit.int .u8 a).wf = true) (A0 : Option Addr) (c0 : Nat) (l0 : List Int) (w : World) (HLd : Ld w) (hr : Kd.C (Kd.int .u16) w A0 l0.length l0) (hc : l0.length ≤ c0) (hl : l0.length ≤ 9223372036854775806) (hw : ∀ n ∈ l0, (Lit.int .u16 n).wf = true) :
    Calls Tryd.prog 7 #[.int .u8 a, .slice A0 l0.length c0] w fun e w' => e = .returned (.bool true) ∧ Below w.heap.size w w' :=
  turnspitlaw07_LifeSeqs.calls 5000 a A0 c0 l0 true w hr hc HLd (Pure.LifeSeqs a l0 ha hw hl)
end Go.Proofs.YtebmbegblnoeaaaDoor

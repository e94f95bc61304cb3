/- SpreadGains: plain. -/
import Derived.Test.YtkhdfbmkikiapaaPureSpreadMost
import Derived.Test.YtkhdfbmkikiapaaPrintF5
namespace Go.Proofs.Ytkhdfbmkikiapaa
set_option linter.unusedVariables false
set_option linter.unusedSimpArgs false
open Go.RowKit Go.Proofs.Ytkhdfbmkikiapaa.Given Go.Proofs.Ytkhdfbmkikiapaa.Print Go.Proofs.YtkhdfbmkikiapaaW.PrintWords Go.Proofs.Ytkhdfbmkikiapaa.Pure
/-- Candidates of a list, by places that come down; each may be on CPU 3. -/
def Pure.Good (c : List S41) : Int → List S41 → Prop
  | _, [] => True
  | last, x :: L => (x.f0 < last ∧ 0 ≤ x.f0 ∧ x.f0 < (c.length : Int)) ∧ rd_T41 c x.f0 = x ∧ hasB x.f2 3 = true ∧ (1 ≤ x.f1 ∧ x.f1 ≤ 88761) ∧ (0 ≤ x.f2 ∧ x.f2 ≤ 8191) ∧ Pure.Good c x.f0 L
theorem Pure.Good.mono {c : List S41} {a b : Int} {L : List S41} (h : Pure.Good c a L) (hab : a ≤ b) : Pure.Good c b L := by
  cases L with
  | nil => trivial
  | cons x L =>
    unfold Pure.Good at h ⊢
    obtain ⟨⟨h1, h2⟩, h3⟩ := h
    exact ⟨⟨by omega, h2⟩, h3⟩
theorem Pure.downs_succ (n : Nat) : downs (n + 1) = n :: downs n := by
  unfold downs
  rw [List.range_succ, List.reverse_append]; rfl
theorem Pure.sel_cons (c : List S41) (tc : Int) (i : Nat) (is : List Nat) : sel c tc (i :: is) = if hasB (rd_T41 c (i : Int)).f2 tc then rd_T41 c (i : Int) :: sel c tc is else sel c tc is := by
  unfold sel
  rw [List.filter_cons]
  split <;> rfl
theorem Pure.made_good {l : List Int} (hu : U16 l) : ∀ n, n ≤ (madeL l).length → Pure.Good (madeL l) (n : Int) (sel (madeL l) 3 (downs n)) := by
  intro n
  induction n with
  | zero => intro _; trivial
  | succ n ih =>
    intro hn
    rw [Pure.downs_succ, Pure.sel_cons, made_rd l n (by omega)]
    have hnl : n < l.length := by rw [made_length] at hn; omega
    split
    · rename_i hb
      refine ⟨⟨?_, ?_, ?_⟩, made_rd l n (by omega), hb, made_w l n, made_m hu n hnl, ih (by omega)⟩
      · show (n : Int) < ((n + 1 : Nat) : Int); omega
      · show 0 ≤ (n : Int); omega
      · show (n : Int) < _; omega
    · exact (ih (by omega)).mono (by omega)
theorem Pure.bit3 {f : Int} (h : hasB f 3 = true) (h0 : 0 ≤ f) (h1 : f ≤ 8191) : (Int.tmod (IntKind.u64.wrap (Int.tdiv f 8)) 2) = 1 := by
  unfold hasB bitB at h
  have h2 : (decide (0 ≤ (3 : Int) ∧ (3 : Int) < 64)) = true := rfl
  rw [h2, Bool.true_and, beq_iff_eq] at h
  have h3 : f / 2 ^ (3 : Int).toNat = f / 8 := rfl
  rw [h3] at h
  rw [Int.tdiv_eq_ediv_of_nonneg h0, show IntKind.u64.wrap (f / 8) = f / 8 by simp [IntKind.wrap, IntKind.bits, IntKind.signed]; omega, Int.tmod_eq_emod_of_nonneg (by omega)]
  exact h
theorem Pure.gain_half {h t x : Int} (hg : gainB h t x = true) : 2 * x ≤ t - h := by
  obtain ⟨⟨h0, h1⟩, ⟨t0, t1⟩, x0, x1⟩ := gain_range hg
  unfold gainB at hg
  simp only [Bool.and_eq_true, decide_eq_true_eq] at hg
  obtain ⟨_, _, _, h5⟩ := hg
  have e1 : wrap64 (t - h) = t - h := wrap64_small (by omega) (by omega)
  rw [e1] at h5
  rcases Int.le_total 0 (t - h) with h2 | h2
  · rw [Int.tdiv_eq_ediv_of_nonneg h2, wrap64_small (by omega) (by omega)] at h5
    omega
  · have h3 : (t - h) = -(h - t) := by omega
    rw [h3, Int.neg_tdiv, Int.tdiv_eq_ediv_of_nonneg (by omega), wrap64_small (by omega) (by omega)] at h5
    omega
theorem Pure.gain_of {h t x : Int} (hh : loadB h = true) (ht : loadB t = true) (hx : 1 ≤ x) (h2 : 2 * x ≤ t - h) : gainB h t x = true := by
  have a := hh
  have b := ht
  unfold loadB at a b
  simp only [Bool.and_eq_true, decide_eq_true_eq] at a b
  unfold gainB
  rw [hh, ht, decide_eq_true hx, Bool.true_and, Bool.true_and, Bool.true_and, decide_eq_true_eq, wrap64_small (n := t - h) (by omega) (by omega), Int.tdiv_eq_ediv_of_nonneg (by omega), wrap64_small (by omega) (by omega)]
  omega
theorem Pure.load_next {h t x : Int} (hg : gainB h t x = true) : loadB (h + x) = true ∧ loadB (t - x) = true := by
  obtain ⟨⟨h0, h1⟩, ⟨t0, t1⟩, x0, x1⟩ := gain_range hg
  have := Pure.gain_half hg
  exact ⟨Pure.load_of (by omega) (by omega), Pure.load_of (by omega) (by omega)⟩
theorem Pure.gains_loop (c : List S41) (O : List Int) (hc : c.length ≤ 40) (hO : O.length ≤ 40) : ∀ (L : List S41) (p : Nat) (last h t : Int) (k : Nat), O.drop p = (takeU h t L).map (·.f0) → Pure.Good c last L → 2 * (O.length - p) + 2 ≤ k →
    turnspitlaw13_SpreadGains.l0 k true c h t O last (p : Int) = some true := by
  intro L
  induction L with
  | nil =>
    intro p last h t k hd hg hk
    obtain ⟨k, rfl⟩ : ∃ j, k = j + 1 := ⟨k - 1, by omega⟩
    have := List.drop_eq_nil_iff.1 (hd.trans (by rfl))
    rw [turnspitlaw13_SpreadGains.l0, if_neg (by omega)]
  | cons x L ih =>
    intro p last h t k hd hG hk
    obtain ⟨⟨g1, g2, g3⟩, g4, g5, ⟨g6, g7⟩, ⟨g8, g9⟩, g10⟩ := hG
    unfold takeU at hd
    cases hg : gainB h t x.f1 with
    | false =>
      rw [hg, if_neg (by decide)] at hd
      exact ih p last h t k hd (g10.mono (by omega)) hk
    | true =>
      rw [hg, if_pos rfl, List.map_cons] at hd
      have hp : p < O.length := by
        apply Nat.lt_of_not_le
        intro hle
        rw [List.drop_eq_nil_of_le hle] at hd
        cases hd
      obtain ⟨k, rfl⟩ : ∃ j, k = j + 2 := ⟨k - 2, by omega⟩
      rw [List.drop_eq_getElem_cons hp] at hd
      injection hd with hd1 hd2
      have hrd : rd O (p : Int) = x.f0 := (rd_get O p hp).trans hd1
      have hnx := ih (p + 1) x.f0 (h + x.f1) (t - x.f1) k hd2 g10 (by omega)
      obtain ⟨⟨h0, h1⟩, ⟨t0, t1⟩, x0, x1⟩ := gain_range hg
      have hhalf := Pure.gain_half hg
      rw [turnspitlaw13_SpreadGains.l0, hrd, if_pos (by omega), if_pos (by omega), if_neg (by omega), if_neg (by omega), if_pos (by omega), if_pos (by omega), g4, Pure.bit3 g5 g8 g9, turnspitlaw13_SpreadGains.j1, if_neg (by decide), if_pos (by omega), if_pos (by omega), g4,
        wrap64_small (n := t - x.f1) (by omega) (by omega), wrap64_small (n := h + x.f1) (by omega) (by omega), wrap64_small (n := t - x.f1 - (h + x.f1)) (by omega) (by omega), wrap64_small (n := t - h) (by omega) (by omega),
        if_neg (by omega), if_neg (by omega), wrap_succ p O.length (by omega) (by omega)]
      exact hnx
theorem Pure.SpreadGains (l : List Int) (a m : Int) (hu : U16 l) (hl : l.length ≤ 9223372036854775806) (ha : (Lit.int .u32 a).wf = true) (hm : (Lit.int .u32 m).wf = true) : turnspitlaw13_SpreadGains.f 1000 l a m = some true := by
  obtain ⟨m0, m1⟩ := Pure.u32_of hm
  obtain ⟨a0, a1⟩ := Pure.u32_of ha
  unfold turnspitlaw13_SpreadGains.f
  rw [awake_true, Option.bind_some, if_pos rfl, made_f l hu hl, Option.bind_some]
  have ea : wrap64 a = a := wrap64_small (by omega) (by omega)
  have em : (wrap64 m).tmod 200000 = m % 200000 := by rw [wrap64_small (by omega) (by omega), Int.tmod_eq_emod_of_nonneg m0]
  have eb : wrap64 (a + m % 200000) = a + m % 200000 := wrap64_small (by omega) (by omega)
  have hf := made_fair hu
  have h1 := plan_fair hf 3 a (a + m % 200000) 40 (by decide) (by decide) (Pure.load_of (by omega) (by omega)) (Pure.load_of (by omega) (by omega))
  rw [ea, em, eb, show (40 : Int) = ((40 : Nat) : Int) from rfl, h1, Option.bind_some]
  simp only
  have hlen : ((takeU a (a + m % 200000) (sel (madeL l) 3 (downs (madeL l).length))).map (·.f0)).length ≤ 40 := by
    have h3 := takeU_length (sel (madeL l) 3 (downs (madeL l).length)) a (a + m % 200000)
    have h4 := Pure.sel_len (madeL l) 3
    have h5 := hf.1
    rw [List.length_map]
    omega
  rw [List.take_of_length_le hlen, if_pos trivial]
  exact Pure.gains_loop (madeL l) _ hf.1 hlen _ 0 _ _ _ 1000 rfl (Pure.made_good hu _ (Nat.le_refl _)) (by omega)
theorem Walk.SpreadGains (A0 : Option Addr) (c0 : Nat) (l0 : List Int) (a : Int) (ha : (Lit.int .u32 a).wf = true) (m : Int) (hm : (Lit.int .u32 m).wf = true) (w : World) (hr : Kd.C (Kd.int .u16) w A0 l0.length l0) (hc : l0.length ≤ c0) (hl : l0.length ≤ 9223372036854775806) (hw : ∀ n ∈ l0, (Lit.int .u16 n).wf = true) :
    Calls Try.prog 5 #[.slice A0 l0.length c0, .int .u32 a, .int .u32 m] w fun e w' => e = .returned (.bool true) ∧ Below w.heap.size w w' :=
  turnspitlaw13_SpreadGains.calls 1000 A0 c0 l0 a m true w hr hc (Pure.SpreadGains l0 a m hw hl ha hm)
end Go.Proofs.Ytkhdfbmkikiapaa

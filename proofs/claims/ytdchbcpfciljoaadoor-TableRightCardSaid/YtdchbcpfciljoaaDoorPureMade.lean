/- What comes of a right table is right. Plain. -/
import Derived.Test.YtdchbcpfciljoaaDoorPureTold
import Derived.Test.YtdchbcpfciljoaaDoorPrintF15
namespace Go.Proofs.YtdchbcpfciljoaaDoor.Pure
open Go.RowKit Go.Proofs.YtdchbcpfciljoaaDoor Go.Proofs.YtdchbcpfciljoaaDoor.Given Go.Proofs.YtdchbcpfciljoaaDoor.Print Go.Proofs.YtdchbcpfciljoaaDoorW.PrintWords
set_option linter.unusedVariables false
set_option linter.unusedSimpArgs false
set_option maxRecDepth 100000
/-- An event that a word went through. -/
theorem next_ok (x ev cpu : Int) (hx : u64 x) (hw : (Lit.int .i64 ev).wf = true) (h : (nextU x ev cpu).2 = 0) :
    (0 ≤ ev ∧ ev < 16) ∧ (opened x).2.2.2.2.2 = 0 ∧ holdsB ev.toNat (opened x).1 (opened x).2.2.1 = true ∧
    (∃ (c : Int) (b : Bool) (s g : Int), packOk (toOf ev.toNat) c b s g ∧ (nextU x ev cpu).1 = wordOf (toOf ev.toNat) c b s g ∧ (ev ≠ 0 → g = (opened x).2.2.2.2.1)) := by
  have e := next_some x ev cpu hx hw
  unfold life_Next.f at e
  rw [if_pos hw, unpack_eq hx, Option.bind_some] at e
  generalize opened x = u at e ⊢
  obtain ⟨k, c, b, s, g, er⟩ := u
  simp only at e ⊢
  have no : ∀ n : Int, n ≠ 0 → some ((0 : Int), n) = some (nextU x ev cpu) → False := fun n hn he => by
    rw [← Option.some.inj he] at h; exact hn h
  by_cases h1 : 0 ≤ ev ∧ ev < 16
  · rw [if_pos h1] at e
    unfold nextR at e
    by_cases h2 : er = 0
    · rw [if_pos h2] at e
      by_cases h3 : 0 ≤ cpu ∧ cpu < 64
      · rw [if_pos h3] at e
        by_cases h4 : holdsB ev.toNat k b = true
        · rw [if_pos h4] at e
          by_cases h5 : ev.toNat = 0 ∧ g = 4294967295
          · rw [if_pos h5] at e; exact (no 5 (by decide) e).elim
          · rw [if_neg h5] at e
            refine ⟨h1, h2, h4, (nextS ev.toNat cpu c s g).1, (nextS ev.toNat cpu c s g).2.1, (nextS ev.toNat cpu c s g).2.2.1, (nextS ev.toNat cpu c s g).2.2.2, ?_⟩
            by_cases h6 : packOk (toOf ev.toNat) (nextS ev.toNat cpu c s g).1 (nextS ev.toNat cpu c s g).2.1 (nextS ev.toNat cpu c s g).2.2.1 (nextS ev.toNat cpu c s g).2.2.2
            · rw [pack_ok h6] at e
              refine ⟨h6, by rw [← Option.some.inj e], fun he => ?_⟩
              have : ev.toNat ≠ 0 := by omega
              generalize ev.toNat = n at this
              unfold nextS
              split <;> first | rfl | exact absurd rfl this
            · rw [pack_no h6] at e; exact (no 1 (by decide) e).elim
        · rw [if_neg h4] at e; exact (no 4 (by decide) e).elim
      · rw [if_neg h3] at e; exact (no 1 (by decide) e).elim
    · rw [if_neg h2] at e; exact (no 1 (by decide) e).elim
  · rw [if_neg h1] at e; exact (no 1 (by decide) e).elim
theorem opened_fields {a : Int} (h : (opened a).2.2.2.2.2 = 0) : (opened a).1 = a % 8 ∧ (opened a).2.2.2.2.1 = a / 67108864 % 4294967296 := by
  unfold opened at h ⊢
  split at h
  · rename_i hh; rw [if_pos hh]; exact ⟨rfl, rfl⟩
  · exact absurd h (by decide)
theorem word_fields {k c : Int} {b : Bool} {s g : Int} (h : packOk k c b s g) : (wordOf k c b s g) % 8 = k ∧ (wordOf k c b s g) / 67108864 % 4294967296 = g := by
  have e := opened_word h
  have f := opened_fields (a := wordOf k c b s g) (by rw [e])
  rw [e] at f
  exact ⟨f.1.symm, f.2.symm⟩
theorem to_zero : ∀ n : Fin 16, n.val ≠ 1 → toOf n.val ≠ 0 := by decide
theorem from_zero : ∀ n : Fin 16, n.val ≠ 0 → ((kindsOf n.val).any fun y => y == 0) = false := by decide
theorem holds_zero {n : Nat} (hn : n < 16) (h0 : n ≠ 0) {k : Int} {b : Bool} (h : holdsB n k b = true) : k ≠ 0 := by
  intro hk
  subst hk
  unfold holdsB at h
  rw [from_zero ⟨n, hn⟩ h0, Bool.false_and] at h
  cases h
theorem allOk_at : ∀ (l0 : List Int) (l1 : List S52), allOk l0 l1 = true → ∀ i (h0 : i < l0.length) (h1 : i < l1.length), okW l0[i] l1[i] = true := by
  intro l0
  induction l0 with
  | nil => intro l1 _ i h0; exact absurd h0 (by simp)
  | cons x l ih =>
    intro l1 h i h0 h1
    cases l1 with
    | nil => exact absurd h1 (by simp)
    | cons t r =>
      rw [allOk, Bool.and_eq_true] at h
      cases i with
      | zero => exact h.1
      | succ i => exact ih r h.2 i (by simpa using h0) (by simpa using h1)
theorem allOk_set : ∀ (l0 : List Int) (l1 : List S52), allOk l0 l1 = true → ∀ i x t, okW x t = true → allOk (l0.set i x) (l1.set i t) = true := by
  intro l0
  induction l0 with
  | nil => intro l1 _ i x t _; cases i <;> simp [allOk]
  | cons y l ih =>
    intro l1 h i x t hx
    cases l1 with
    | nil => cases i <;> simp [allOk]
    | cons u r =>
      rw [allOk, Bool.and_eq_true] at h
      cases i with
      | zero => rw [List.set_cons_zero, List.set_cons_zero, allOk, Bool.and_eq_true]; exact ⟨hx, h.2⟩
      | succ i => rw [List.set_cons_succ, List.set_cons_succ, allOk, Bool.and_eq_true]; exact ⟨h.1, ih r h.2 i x t hx⟩
theorem U_set {l : List Int} (h : U l) (i : Nat) {x : Int} (hx : u64 x) : U (l.set i x) := by
  intro y hy
  rcases List.mem_or_eq_of_mem_set hy with h1 | h1
  · exact h y h1
  · rw [h1]; exact hx
theorem right_set {l0 : List Int} {l1 : List S52} (h : rightS l0 l1 = true) (i : Nat) {x : Int} {t : S52} (hx : okW x t = true) : rightS (l0.set i x) (l1.set i t) = true := by
  obtain ⟨h1, h2, h3⟩ := right_len' h
  unfold rightS
  rw [allOk_set l0 l1 h3 i x t hx, List.length_set, List.length_set, decide_eq_true h1, decide_eq_true h2.symm]
  rfl
/-- What Step makes of a right table. -/
theorem step_ok (l0 : List Int) (l1 : List S52) (hU : U l0) (slot ev cpu : Int) (hw : (Lit.int .i64 ev).wf = true) (h : (stepS l0 l1 slot ev cpu).2.2 = 0) :
    ∃ (i : Nat) (q : Int), slot = (i : Int) ∧ ∃ hi : i < l0.length, (stepS l0 l1 slot ev cpu) = (l0.set i q, l1, 0) ∧ rightS l0 l1 = true ∧ rightS (l0.set i q) l1 = true ∧ u64 q ∧ q % 8 ≠ 0 ∧ l0[i] % 8 ≠ 0 ∧ q / 67108864 % 4294967296 = l0[i] / 67108864 % 4294967296 := by
  by_cases hr : rightS l0 l1 = true
  · unfold stepS at h ⊢
    rw [if_pos hr] at h ⊢
    by_cases h1 : slot < 0 ∨ slot ≥ (l0.length : Int) ∨ ev = 0 ∨ ev = 1
    · rw [if_pos h1] at h; exact absurd h (by decide)
    · rw [if_neg h1] at h ⊢
      obtain ⟨i, rfl⟩ := Int.eq_ofNat_of_zero_le (show 0 ≤ slot by omega)
      have hi : i < l0.length := by omega
      have hxU : u64 l0[i] := hU _ (List.getElem_mem hi)
      rw [rd_nat l0 i hi] at h ⊢
      by_cases h2 : (nextU l0[i] ev cpu).2 = 0
      · rw [if_pos h2] at h ⊢
        obtain ⟨e1, e2, e3, c, b, s, g, e4, e5, e6⟩ := next_ok l0[i] ev cpu hxU hw h2
        obtain ⟨hl, hl1, ha⟩ := right_len' hr
        have hf := opened_fields e2
        have hk0 := holds_zero (by omega) (by omega : ev.toNat ≠ 0) e3
        have hw := word_fields e4
        have hz := to_zero ⟨ev.toNat, by omega⟩ (by simp; omega)
        have hok := allOk_at l0 l1 ha i hi (by omega)
        refine ⟨i, (nextU l0[i] ev cpu).1, rfl, hi, by simp, hr, ?_, ?_, ?_, ?_, ?_⟩
        · have hs := right_set hr i (x := (nextU l0[i] ev cpu).1) (t := l1[i]'(by omega)) (by
            unfold okW at hok ⊢
            rw [e5, opened_word e4]
            rw [Bool.and_eq_true, if_neg hk0] at hok
            simp only at hz ⊢
            rw [if_neg hz, hok.2]
            rfl)
          rwa [List.set_getElem_self] at hs
        · rw [e5]; exact (word_u64 e4).1
        · rw [e5, hw.1]; exact hz
        · rw [← hf.1]; exact hk0
        · rw [e5, hw.2, e6 (by omega), hf.2]
      · rw [if_neg h2] at h; exact absurd h h2
  · unfold stepS at h
    rw [if_neg hr] at h
    exact absurd h (by decide)
/-- What Exit makes of a right table. -/
theorem exit_ok (l0 : List Int) (l1 : List S52) (hU : U l0) (slot gen : Int) (h : (exitS l0 l1 slot gen).2.2 = 0) :
    ∃ (i : Nat) (q : Int), slot = (i : Int) ∧ ∃ hi : i < l0.length, (exitS l0 l1 slot gen) = (l0.set i q, l1.set i z52, 0) ∧ rightS l0 l1 = true ∧ rightS (l0.set i q) (l1.set i z52) = true ∧ u64 q ∧ q % 8 = 0 ∧ l0[i] % 8 ≠ 0 ∧ l0[i] / 67108864 % 4294967296 = gen ∧ q / 67108864 % 4294967296 = l0[i] / 67108864 % 4294967296 := by
  by_cases hr : rightS l0 l1 = true
  · unfold exitS at h ⊢
    rw [if_pos hr] at h ⊢
    by_cases h1 : checkS l0 slot gen = 0
    · rw [if_pos h1] at h ⊢
      obtain ⟨h0, hl⟩ := check_range' h1
      obtain ⟨i, rfl⟩ := Int.eq_ofNat_of_zero_le h0
      have hi : i < l0.length := by omega
      have hxU : u64 l0[i] := hU _ (List.getElem_mem hi)
      unfold checkS at h1
      rw [if_neg (by omega)] at h1
      rw [rd_nat l0 i hi] at h h1 ⊢
      by_cases h2 : (nextU l0[i] 1 0).2 = 0
      · rw [if_pos h2] at h ⊢
        obtain ⟨e1, e2, e3, c, b, s, g, e4, e5, e6⟩ := next_ok l0[i] 1 0 hxU (by decide) h2
        have hf := opened_fields e2
        have hw := word_fields e4
        have ht : toOf (1 : Int).toNat = 0 := by decide
        by_cases h3 : l0[i] % 8 = 0 ∨ l0[i] / 67108864 % 4294967296 ≠ gen
        · rw [if_pos h3] at h1; exact absurd h1 (by decide)
        · refine ⟨i, (nextU l0[i] 1 0).1, rfl, hi, by simp, hr, right_set hr i ?_, ?_, ?_, ?_, ?_, ?_⟩
          · unfold okW
            rw [e5, opened_word e4]
            simp only [ht]
            decide
          · rw [e5]; exact (word_u64 e4).1
          · rw [e5, hw.1, ht]
          · exact fun hh => h3 (.inl hh)
          · exact Decidable.byContradiction fun hh => h3 (.inr hh)
          · rw [e5, hw.2, e6 (by decide), hf.2]
      · rw [if_neg h2] at h; exact absurd h h2
    · rw [if_neg h1] at h; exact absurd h h1
  · unfold exitS at h
    rw [if_neg hr] at h
    exact absurd h (by decide)
/-- What Create makes of a right table. -/
theorem create_ok (l0 : List Int) (l1 : List S52) (hU : U l0) (cpus nice m : Int) (hm : u64 m) (h : (createS l0 l1 cpus nice m).2.2.2.2 = 0) :
    ∃ (i : Nat) (q : Int) (t : S52), firstFree l0 0 = some i ∧ ∃ hi : i < l0.length, (createS l0 l1 cpus nice m) = (l0.set i q, l1.set i t, (i : Int), q / 67108864 % 4294967296, 0) ∧ rightS l0 l1 = true ∧ rightS (l0.set i q) (l1.set i t) = true ∧ u64 q ∧ q % 8 = 1 ∧ l0[i] % 8 = 0 ∧ q / 67108864 % 4294967296 = l0[i] / 67108864 % 4294967296 + 1 := by
  by_cases hr : rightS l0 l1 = true
  · unfold createS at h ⊢
    rw [if_pos hr] at h ⊢
    by_cases h1 : cpus < 1 ∨ 64 < cpus ∨ nice < -20 ∨ 19 < nice ∨ maskS cpus m = 0
    · rw [if_pos h1] at h; exact absurd h (by decide)
    · rw [if_neg h1] at h ⊢
      cases hf : firstFree l0 0 with
      | none => rw [hf] at h; simp at h
      | some n =>
        simp only
        obtain ⟨_, hi, hfr⟩ := firstFree_spec l0 0 n hf
        simp only [Nat.sub_zero] at hi hfr
        obtain ⟨M, hM, hM1, _⟩ := mask_u64 cpus m hm
        have hc := first_any M hM1
        rw [rd_nat l0 n hi]
        unfold freeB at hfr
        have hfr := of_decide_eq_true hfr
        have hg := opened_gen l0[n]
        have hfl := opened_fields hfr.1
        have ok : packOk 1 (nextOf (maskS cpus m) (-1)).1 false 0 ((opened l0[n]).2.2.2.2.1 + 1) := ⟨fun h => Bool.noConfusion h, by omega, by rw [hM]; omega, by omega, by omega⟩
        have hw := word_fields ok
        refine ⟨n, _, _, rfl, hi, by rw [hw.2], hr, right_set hr n ?_, (word_u64 ok).1, hw.1, ?_, ?_⟩
        · unfold okW
          rw [opened_word ok]
          simp only
          rw [if_neg (by decide), decide_eq_true (show (-20 ≤ nice ∧ nice ≤ 19 ∧ maskS cpus m ≠ 0 ∧ (-1125899906842624 : Int) ≤ 0 ∧ (0 : Int) ≤ 1125899906842624) from ⟨by omega, by omega, by omega, by decide, by decide⟩)]
          rfl
        · rw [← hfl.1]; exact hfr.2.1
        · rw [hw.2, hfl.2]
  · unfold createS at h
    rw [if_neg hr] at h
    exact absurd h (by decide)
end Go.Proofs.YtdchbcpfciljoaaDoor.Pure
namespace Go.Proofs.YtdchbcpfciljoaaDoor.Pure
open Go.RowKit Go.Proofs.YtdchbcpfciljoaaDoor Go.Proofs.YtdchbcpfciljoaaDoor.Given Go.Proofs.YtdchbcpfciljoaaDoor.Print Go.Proofs.YtdchbcpfciljoaaDoorW.PrintWords
set_option linter.unusedVariables false
set_option linter.unusedSimpArgs false
set_option maxRecDepth 100000
/-- A right table of five slots. -/
def Five (l0 : List Int) (l1 : List S52) : Prop := l0.length = 5 ∧ l1.length = 5 ∧ U l0 ∧ rightS l0 l1 = true
theorem tmod_in (x : Int) (n : Int) (hn : 0 < n) : -n < Int.tmod x n ∧ Int.tmod x n < n := ⟨Int.lt_tmod_of_pos x hn, Int.tmod_lt_of_pos x hn⟩
theorem tmod_nn {x : Int} (hx : 0 ≤ x) (n : Int) (hn : 0 < n) : 0 ≤ Int.tmod x n ∧ Int.tmod x n < n := ⟨Int.tmod_nonneg n hx, Int.tmod_lt_of_pos x hn⟩
theorem u64_tmod (x : Int) (n : Int) (hn : 0 < n) (hn1 : n ≤ 18446744073709551616) : u64 (Int.tmod (IntKind.u64.wrap x) n) := by
  have h : 0 ≤ IntKind.u64.wrap x := by rw [u64wrap]; omega
  have := tmod_nn h n hn
  exact ⟨this.1, by omega⟩
theorem slot_in {n : Int} (h0 : 0 ≤ n) (h1 : n < 65536) : 0 ≤ Int.tmod (wrap64 (Int.tdiv (wrap64 n) 32)) 5 ∧ Int.tmod (wrap64 (Int.tdiv (wrap64 n) 32)) 5 < 5 := by
  rw [wrap64_small (n := n) (by omega) (by omega), Int.tdiv_eq_ediv_of_nonneg h0, wrap64_small (by omega) (by omega)]
  exact tmod_nn (by omega) 5 (by decide)
theorem slot5_in {n : Int} (h0 : 0 ≤ n) (h1 : n < 65536) : 0 ≤ Int.tmod (wrap64 n) 5 ∧ Int.tmod (wrap64 n) 5 < 5 := by
  rw [wrap64_small (n := n) (by omega) (by omega)]
  exact tmod_nn h0 5 (by decide)
theorem do_ok (l0 : List Int) (l1 : List S52) (n : Int) (k : Nat) (hI : Five l0 l1) (h0 : 0 ≤ n) (h1 : n < 65536) (hk : 300 ≤ k) : ∃ r0 r1, turnspitlaw14_do.f k l0 l1 n = some (r0, r1) ∧ Five r0 r1 := by
  obtain ⟨e0, e1, hU, hr⟩ := hI
  have hs := slot_in h0 h1
  unfold turnspitlaw14_do.f
  by_cases c0 : Int.tmod n 4 = 0
  · have hm := u64_tmod (IntKind.u16.wrap (Int.tdiv n 64)) 256 (by decide) (by decide)
    rw [if_pos c0, rCreate_f l0 l1 hU 8 _ _ hm k hk, Option.bind_some]
    split
    · rename_i e
      obtain ⟨i, q, t, _, hi, es, _, hr', hq, _⟩ := create_ok l0 l1 hU 8 _ _ hm e
      rw [es]
      exact ⟨_, _, rfl, by simpa using e0, by simpa using e1, U_set hU i hq, hr'⟩
    · exact ⟨_, _, rfl, e0, e1, hU, hr⟩
  · rw [if_neg c0]
    by_cases c1 : Int.tmod n 32 = 1
    · rw [if_pos c1, if_pos hs.1, if_pos (by rw [e0]; exact hs.2), refGen_eq (rd_u64 hU hs.1 (by rw [e0]; exact hs.2)), Option.bind_some, rExit_f l0 l1 hU _ _ k (by omega), Option.bind_some]
      split
      · rename_i e
        obtain ⟨i, q, _, hi, es, _, hr', hq, _⟩ := exit_ok l0 l1 hU _ _ e
        rw [es]
        exact ⟨_, _, rfl, by simpa using e0, by simpa using e1, U_set hU i hq, hr'⟩
      · exact ⟨_, _, rfl, e0, e1, hU, hr⟩
    · have hw : (Lit.int .i64 (Int.tmod (wrap64 (IntKind.u16.wrap (Int.tdiv n 256))) 16)).wf = true := by
        have := tmod_in (wrap64 (IntKind.u16.wrap (Int.tdiv n 256))) 16 (by decide)
        exact wf_small (by omega) (by omega)
      rw [if_neg c1, rStep_f l0 l1 hU _ _ _ hw k (by omega), Option.bind_some]
      split
      · rename_i e
        obtain ⟨i, q, _, hi, es, _, hr', hq, _⟩ := step_ok l0 l1 hU _ _ _ hw e
        rw [es]
        exact ⟨_, _, rfl, by simpa using e0, e1, U_set hU i hq, hr'⟩
      · exact ⟨_, _, rfl, e0, e1, hU, hr⟩
theorem made_l (l : List Int) (hl : ∀ x ∈ l, 0 ≤ x ∧ x < 65536) : ∀ (d i k : Nat) (l0 : List Int) (l1 : List S52), i + d = min l.length 60 → 300 + d < k → Five l0 l1 → ∃ r0 r1, turnspitlaw14_Made.l0 k l (i : Int) l0 l1 = some (r0, r1) ∧ Five r0 r1 := by
  intro d
  induction d with
  | zero =>
    intro i k l0 l1 hi hk hI
    obtain ⟨k, rfl⟩ : ∃ m, k = m + 1 := ⟨k - 1, by omega⟩
    rw [turnspitlaw14_Made.l0]
    by_cases h : (i : Int) < (l.length : Int)
    · rw [if_pos h, if_neg (by omega)]
      exact ⟨_, _, rfl, hI⟩
    · rw [if_neg h]
      exact ⟨_, _, rfl, hI⟩
  | succ d ih =>
    intro i k l0 l1 hi hk hI
    obtain ⟨k, rfl⟩ : ∃ m, k = m + 1 := ⟨k - 1, by omega⟩
    have hil : i < l.length := by omega
    have hx := hl _ (List.getElem_mem hil)
    obtain ⟨r0, r1, e, hR⟩ := do_ok l0 l1 l[i] k hI hx.1 hx.2 (by omega)
    rw [turnspitlaw14_Made.l0, if_pos (by omega), if_pos (by omega), if_pos (by omega), rd_nat l i hil, e, Option.bind_some, wrap64_small (by omega) (by omega)]
    exact ih (i + 1) k r0 r1 (by omega) (by omega) hR
theorem made_ok (l : List Int) (hl : ∀ x ∈ l, 0 ≤ x ∧ x < 65536) (k : Nat) (hk : 400 ≤ k) : ∃ r0 r1, turnspitlaw14_Made.f k l = some (r0, r1) ∧ Five r0 r1 := by
  unfold turnspitlaw14_Made.f
  have e : turnspitref14_New.f 5 = some ([0, 0, 0, 0, 0], [z52, z52, z52, z52, z52], 0) := rfl
  rw [e, Option.bind_some]
  refine made_l l hl (min l.length 60) 0 k _ _ (by omega) (by omega) ⟨rfl, rfl, ?_, by decide⟩
  intro x hx
  simp at hx
  subst hx
  exact ⟨by decide, by decide⟩
end Go.Proofs.YtdchbcpfciljoaaDoor.Pure

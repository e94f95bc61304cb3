/- A mask's text: its runs; what is parsed of it is the mask again: plain. -/
import Derived.Test.YthnbmepdolfbnaaDoorPureText
namespace Go.Proofs.YthnbmepdolfbnaaDoor.Pure
set_option linter.unusedVariables false
set_option linter.unusedSimpArgs false
def lastR (M : Nat) : Nat → Nat → Nat
  | c, 0 => c
  | c, d + 1 => if M.testBit (c + 1) then lastR M (c + 1) d else c
def isStart (M c : Nat) : Bool := M.testBit c && (c == 0 || !M.testBit (c - 1))
def runs (M : Nat) : Nat → List (Nat × Nat)
  | 0 => []
  | c + 1 => if isStart M c then runs M c ++ [(c, lastR M c 64)] else runs M c
def itemT (r : Nat × Nat) : List UInt8 := if r.1 < r.2 then dg r.1 ++ 45 :: dg r.2 else dg r.1
def joinT : List (List UInt8) → List UInt8
  | [] => []
  | [x] => x
  | x :: y :: r => x ++ 44 :: joinT (y :: r)
def txt (M i : Nat) : List UInt8 := joinT ((runs M i).map itemT)
def printL (M : Nat) : List UInt8 := if M = 0 then [45] else txt M 64
theorem joinT_snoc : ∀ (l : List (List UInt8)) (y : List UInt8), joinT (l ++ [y]) = if l = [] then y else joinT l ++ 44 :: y := by
  intro l
  induction l with
  | nil => intro y; rfl
  | cons x l ih =>
    intro y
    rw [if_neg (by simp)]
    cases l with
    | nil => rfl
    | cons z l =>
      have h := ih y
      rw [if_neg (by simp)] at h
      show x ++ 44 :: joinT ((z :: l) ++ [y]) = (x ++ 44 :: joinT (z :: l)) ++ 44 :: y
      rw [h, List.append_assoc]
      rfl
theorem itemT_ne (r : Nat × Nat) : itemT r ≠ [] := by
  unfold itemT dg
  split <;> split <;> simp
theorem joinT_nil (l : List (Nat × Nat)) : joinT (l.map itemT) = [] ↔ l = [] := by
  cases l with
  | nil => simp [joinT]
  | cons x l =>
    cases l with
    | nil => simp [joinT, itemT_ne]
    | cons y l => simp [joinT]
theorem txt_succ (M i : Nat) : txt M (i + 1) = if isStart M i then (if txt M i = [] then itemT (i, lastR M i 64) else txt M i ++ 44 :: itemT (i, lastR M i 64)) else txt M i := by
  unfold txt
  rw [runs]
  by_cases h : isStart M i = true
  · rw [if_pos h, if_pos h, List.map_append, List.map_cons, List.map_nil, joinT_snoc]
    by_cases hr : runs M i = []
    · rw [if_pos (by rw [hr]; rfl), if_pos ((joinT_nil _).2 hr)]
    · rw [if_neg (by simpa using hr), if_neg (fun h => hr ((joinT_nil _).1 h))]
  · rw [if_neg h, if_neg h]
/-! ### The last one of a run -/
theorem lastR_ge (M : Nat) : ∀ d c, c ≤ lastR M c d := by
  intro d
  induction d with
  | zero => intro c; exact Nat.le_refl _
  | succ d ih =>
    intro c
    rw [lastR]
    split
    · have := ih (c + 1); omega
    · exact Nat.le_refl _
theorem lastR_in (M : Nat) : ∀ d c, M.testBit c = true → ∀ i, c ≤ i → i ≤ lastR M c d → M.testBit i = true := by
  intro d
  induction d with
  | zero => intro c hc i h1 h2; rw [lastR] at h2; obtain rfl : i = c := by omega
            exact hc
  | succ d ih =>
    intro c hc i h1 h2
    rw [lastR] at h2
    split at h2
    · by_cases e : i = c
      · rw [e]; exact hc
      · exact ih (c + 1) (by assumption) i (by omega) h2
    · obtain rfl : i = c := by omega
      exact hc
theorem bit_lt {M i : Nat} (hM : M < 2 ^ 64) (h : M.testBit i = true) : i < 64 := by
  by_cases hi : i < 64
  · exact hi
  · rw [Nat.testBit_lt_two_pow (Nat.lt_of_lt_of_le hM (Nat.pow_le_pow_right (by decide) (by omega)))] at h
    cases h
theorem lastR_stop (M : Nat) (hM : M < 2 ^ 64) : ∀ d c, 64 ≤ c + d → M.testBit c = true → M.testBit (lastR M c d + 1) = false := by
  intro d
  induction d with
  | zero =>
    intro c hd hc
    have := bit_lt hM hc
    omega
  | succ d ih =>
    intro c hd hc
    rw [lastR]
    split
    · exact ih (c + 1) (by omega) (by assumption)
    · rename_i h
      cases hb : M.testBit (c + 1) with
      | true => exact absurd hb h
      | false => rfl
/-- What is not less and is joined with c by bits that are set is not behind the run's last one. -/
theorem lastR_max (M : Nat) (hM : M < 2 ^ 64) (c : Nat) (hc : M.testBit c = true) (i : Nat) (h : ∀ j, c ≤ j → j ≤ i → M.testBit j = true) : i ≤ lastR M c 64 := by
  by_cases hi : i ≤ lastR M c 64
  · exact hi
  · have h1 := lastR_stop M hM 64 c (by omega) hc
    have h2 := lastR_ge M 64 c
    rw [h (lastR M c 64 + 1) (by omega) (by omega)] at h1
    cases h1
/-! ### Each bit lies in a run -/
theorem start_of (M : Nat) : ∀ k, M.testBit k = true → ∃ a, a ≤ k ∧ isStart M a = true ∧ ∀ j, a ≤ j → j ≤ k → M.testBit j = true := by
  intro k
  induction k with
  | zero =>
    intro h
    refine ⟨0, Nat.le_refl _, by simp [isStart, h], fun j h1 h2 => ?_⟩
    obtain rfl : j = 0 := by omega
    exact h
  | succ k ih =>
    intro h
    cases hk : M.testBit k with
    | true =>
      obtain ⟨a, h1, h2, h3⟩ := ih hk
      refine ⟨a, by omega, h2, fun j g1 g2 => ?_⟩
      by_cases e : j = k + 1
      · rw [e]; exact h
      · exact h3 j g1 (by omega)
    | false =>
      refine ⟨k + 1, Nat.le_refl _, by simp [isStart, h, hk], fun j h1 h2 => ?_⟩
      obtain rfl : j = k + 1 := by omega
      exact h
theorem runs_mem (M : Nat) (r : Nat × Nat) : ∀ i, r ∈ runs M i ↔ r.1 < i ∧ isStart M r.1 = true ∧ r.2 = lastR M r.1 64 := by
  intro i
  induction i with
  | zero => simp [runs]
  | succ i ih =>
    rw [runs]
    split
    · rename_i hs
      rw [List.mem_append, ih, List.mem_singleton]
      constructor
      · rintro (⟨h1, h2, h3⟩ | rfl)
        · exact ⟨by omega, h2, h3⟩
        · exact ⟨Nat.lt_succ_self _, hs, rfl⟩
      · rintro ⟨h1, h2, h3⟩
        by_cases e : r.1 = i
        · refine .inr ?_
          obtain ⟨a, b⟩ := r
          simp only at e h3
          rw [h3, e]
        · exact .inl ⟨by omega, h2, h3⟩
    · rename_i hs
      rw [ih]
      constructor
      · rintro ⟨h1, h2, h3⟩; exact ⟨by omega, h2, h3⟩
      · rintro ⟨h1, h2, h3⟩
        refine ⟨?_, h2, h3⟩
        by_cases e : r.1 = i
        · rw [e] at h2; exact absurd h2 hs
        · omega
def orAll : List (Nat × Nat) → Nat → Nat
  | [], m => m
  | r :: l, m => orAll l (m ||| span r.1 r.2)
theorem orAll_bit (i : Nat) : ∀ (l : List (Nat × Nat)) (m : Nat), (∀ r ∈ l, r.1 ≤ r.2 + 1) → ((orAll l m).testBit i = true ↔ m.testBit i = true ∨ ∃ r ∈ l, r.1 ≤ i ∧ i ≤ r.2) := by
  intro l
  induction l with
  | nil => intro m _; simp [orAll]
  | cons r l ih =>
    intro m h
    rw [orAll, ih _ (fun x hx => h x (List.mem_cons_of_mem _ hx)), Nat.testBit_or, span_bit r.1 r.2 i (h r List.mem_cons_self)]
    simp only [Bool.or_eq_true, Bool.and_eq_true, decide_eq_true_eq, List.mem_cons, exists_eq_or_imp]
    constructor
    · rintro ((h1 | h1) | h1)
      · exact .inl h1
      · exact .inr (.inl h1)
      · exact .inr (.inr h1)
    · rintro (h1 | h1 | h1)
      · exact .inl (.inl h1)
      · exact .inl (.inr h1)
      · exact .inr h1
theorem runs_ok (M : Nat) (hM : M < 2 ^ 64) (i : Nat) : ∀ r ∈ runs M i, r.1 ≤ r.2 ∧ r.2 < 64 ∧ r.1 < 64 := by
  intro r hr
  obtain ⟨h1, h2, h3⟩ := (runs_mem M r i).1 hr
  have hb : M.testBit r.1 = true := by simp [isStart] at h2; exact h2.1
  have h4 := lastR_ge M 64 r.1
  have h5 := bit_lt hM (lastR_in M 64 r.1 hb (lastR M r.1 64) h4 (Nat.le_refl _))
  omega
theorem runs_or (M : Nat) (hM : M < 2 ^ 64) (m : Nat) : orAll (runs M 64) m = m ||| M := by
  apply Nat.eq_of_testBit_eq
  intro i
  rw [Bool.eq_iff_iff, orAll_bit i (runs M 64) m (fun r hr => by have := runs_ok M hM 64 r hr; omega), Nat.testBit_or, Bool.or_eq_true]
  constructor
  · rintro (h | ⟨r, hr, h1, h2⟩)
    · exact .inl h
    · obtain ⟨_, g2, g3⟩ := (runs_mem M r 64).1 hr
      have hb : M.testBit r.1 = true := by simp [isStart] at g2; exact g2.1
      exact .inr (lastR_in M 64 r.1 hb i h1 (by omega))
  · rintro (h | h)
    · exact .inl h
    · obtain ⟨a, h1, h2, h3⟩ := start_of M i h
      have hb := h3 a (Nat.le_refl _) h1
      exact .inr ⟨(a, lastR M a 64), (runs_mem M _ 64).2 ⟨bit_lt hM hb, h2, rfl⟩, h1, lastR_max M hM a hb i h3⟩
/-! ### What is parsed of runs -/
theorem no44 (n : Nat) (h : n < 64) : (44 : UInt8) ∉ dg n := fun hm => by have := dg_dig' n h 44 hm; rw [d44] at this; cases this
theorem no45 (n : Nat) (h : n < 64) : (45 : UInt8) ∉ dg n := fun hm => by have := dg_dig' n h 45 hm; rw [d45] at this; cases this
theorem item_no44 (r : Nat × Nat) (h1 : r.1 < 64) (h2 : r.2 < 64) : (44 : UInt8) ∉ itemT r := by
  unfold itemT
  split
  · intro h
    rcases List.mem_append.1 h with h | h
    · exact no44 _ h1 h
    · rcases List.mem_cons.1 h with h | h
      · cases h
      · exact no44 _ h2 h
  · exact no44 _ h1
theorem itemV_item (r : Nat × Nat) (h1 : r.1 < 64) (h2 : r.2 < 64) (h : r.1 ≤ r.2) : itemV (itemT r) = some r := by
  unfold itemT itemV
  by_cases hlt : r.1 < r.2
  · rw [if_pos hlt, splitL_app 45 _ _ (no45 _ h1), splitL_none 45 _ (no45 _ h2)]
    simp only [numV_dg' _ h1, numV_dg' _ h2, if_neg (Nat.not_lt.2 h)]
  · rw [if_neg hlt, splitL_none 45 _ (no45 _ h1)]
    simp only [numV_dg' _ h1]
    obtain ⟨a, b⟩ := r
    simp only at hlt h ⊢
    rw [show a = b by omega]
theorem split_join : ∀ l : List (List UInt8), l ≠ [] → (∀ x ∈ l, (44 : UInt8) ∉ x) → splitL 44 (joinT l) = l := by
  intro l
  induction l with
  | nil => intro h; exact absurd rfl h
  | cons x l ih =>
    intro _ h
    cases l with
    | nil => exact splitL_none 44 x (h x List.mem_cons_self)
    | cons y l =>
      rw [joinT, splitL_app 44 _ x (h x List.mem_cons_self), ih (by simp) (fun z hz => h z (List.mem_cons_of_mem _ hz))]
theorem parse_items : ∀ (l : List (Nat × Nat)) (m : Nat), (∀ r ∈ l, r.1 ≤ r.2 ∧ r.2 < 64 ∧ r.1 < 64) → ∀ its, parseL (l.map itemT ++ its) m = parseL its (orAll l m) := by
  intro l
  induction l with
  | nil => intro m _ its; rfl
  | cons r l ih =>
    intro m h its
    have hr := h r List.mem_cons_self
    rw [List.map_cons, List.cons_append, parseL, itemV_item r hr.2.2 hr.2.1 hr.1, orAll]
    exact ih _ (fun x hx => h x (List.mem_cons_of_mem _ hx)) its
theorem runs_ne (M : Nat) (hM : M < 2 ^ 64) (h : M ≠ 0) : runs M 64 ≠ [] := by
  intro hr
  have := runs_or M hM 0
  rw [hr] at this
  simp [orAll] at this
  exact h this.symm
theorem split_txt (M : Nat) (hM : M < 2 ^ 64) (h : M ≠ 0) : splitL 44 (txt M 64) = (runs M 64).map itemT := by
  unfold txt
  refine split_join _ (by simpa using runs_ne M hM h) (fun x hx => ?_)
  obtain ⟨r, hr, rfl⟩ := List.mem_map.1 hx
  have := runs_ok M hM 64 r hr
  exact item_no44 r this.2.2 this.2.1
theorem split_two (c : UInt8) : ∀ (a b : List UInt8), splitL c (a ++ c :: b) = splitL c a ++ splitL c b := by
  intro a
  induction a with
  | nil =>
    intro b
    show splitL c (c :: b) = [[]] ++ splitL c b
    rw [show splitL c (c :: b) = [] :: splitL c b from by rw [splitL]; exact if_pos rfl]
    rfl
  | cons x a ih =>
    intro b
    rw [List.cons_append, splitL, splitL]
    by_cases hx : x = c
    · rw [if_pos hx, if_pos hx, ih]; rfl
    · rw [if_neg hx, if_neg hx, ih]
      cases hs : splitL c a with
      | nil => exact absurd hs (splitL_ne c a)
      | cons u v => rfl
theorem parse_txt (M : Nat) (hM : M < 2 ^ 64) (h : M ≠ 0) : parseT (txt M 64) = some M := by
  unfold parseT
  rw [split_txt M hM h]
  have := parse_items (runs M 64) 0 (runs_ok M hM 64) []
  rw [List.append_nil] at this
  rw [this, parseL, runs_or M hM 0, Nat.zero_or]
theorem parse_both (A B : Nat) (hA : A < 2 ^ 64) (hB : B < 2 ^ 64) (h0 : A ≠ 0) (h1 : B ≠ 0) : parseT (txt A 64 ++ 44 :: txt B 64) = some (A ||| B) := by
  unfold parseT
  rw [split_two, split_txt A hA h0, split_txt B hB h1, parse_items _ 0 (runs_ok A hA 64)]
  have := parse_items (runs B 64) (orAll (runs A 64) 0) (runs_ok B hB 64) []
  rw [List.append_nil] at this
  rw [this, parseL, runs_or B hB, runs_or A hA, Nat.zero_or]
/-! ### Lengths -/
theorem txt_len (M : Nat) (hM : M < 2 ^ 64) : ∀ i, i ≤ 64 → (txt M i).length ≤ 3 * i + (if 0 < i ∧ M.testBit (i - 1) = true then 3 else 0) := by
  intro i
  induction i with
  | zero => intro _; simp [txt, runs, joinT]
  | succ i ih =>
    intro hi
    have h := ih (by omega)
    rw [txt_succ]
    have hl : (itemT (i, lastR M i 64)).length ≤ 5 := by
      have h1 := dg_len i
      have h2 := dg_len (lastR M i 64)
      show (if i < lastR M i 64 then dg i ++ 45 :: dg (lastR M i 64) else dg i).length ≤ 5
      split
      · simp only [List.length_append, List.length_cons]; omega
      · omega
    by_cases hs : isStart M i = true
    · rw [if_pos hs]
      simp only [isStart, Bool.and_eq_true, Bool.or_eq_true, beq_iff_eq, Bool.not_eq_true'] at hs
      have hp : (if 0 < i + 1 ∧ M.testBit (i + 1 - 1) = true then 3 else 0) = 3 := if_pos ⟨by omega, by rw [Nat.add_sub_cancel]; exact hs.1⟩
      rw [hp]
      have hn : ¬ (0 < i ∧ M.testBit (i - 1) = true) := by
        intro g
        rcases hs.2 with e | e
        · have := g.1; omega
        · rw [g.2] at e; cases e
      rw [if_neg hn] at h
      split
      · omega
      · rw [List.length_append, List.length_cons]; omega
    · rw [if_neg hs]
      split at h
      · omega
      · omega
theorem printL_len (M : Nat) (hM : M < 2 ^ 64) : (printL M).length ≤ 195 := by
  unfold printL
  split
  · decide
  · have := txt_len M hM 64 (Nat.le_refl _)
    split at this <;> omega
theorem txt_ne (M : Nat) (hM : M < 2 ^ 64) (h : M ≠ 0) : txt M 64 ≠ [] := fun e => runs_ne M hM h ((joinT_nil _).1 e)
theorem printL_inj (A B : Nat) (hA : A < 2 ^ 64) (hB : B < 2 ^ 64) (h : printL A = printL B) : A = B := by
  have bad : parseT [45] = none := by decide
  unfold printL at h
  by_cases h0 : A = 0 <;> by_cases h1 : B = 0
  · rw [h0, h1]
  · rw [if_pos h0, if_neg h1] at h
    have := parse_txt B hB h1
    rw [← h, bad] at this; cases this
  · rw [if_neg h0, if_pos h1] at h
    have := parse_txt A hA h0
    rw [h, bad] at this; cases this
  · rw [if_neg h0, if_neg h1] at h
    have e1 := parse_txt A hA h0
    rw [h, parse_txt B hB h1] at e1
    exact (Option.some.inj e1).symm
end Go.Proofs.YthnbmepdolfbnaaDoor.Pure

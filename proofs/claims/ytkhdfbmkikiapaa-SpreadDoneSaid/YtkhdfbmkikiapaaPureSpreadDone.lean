/- SpreadDone: plain. -/
import Derived.Test.YtkhdfbmkikiapaaPureMade
import Derived.Test.YtkhdfbmkikiapaaPrintF6
namespace Go.Proofs.Ytkhdfbmkikiapaa
set_option linter.unusedVariables false
set_option linter.unusedSimpArgs false
open Go.RowKit Go.Proofs.Ytkhdfbmkikiapaa.Given Go.Proofs.Ytkhdfbmkikiapaa.Print Go.Proofs.YtkhdfbmkikiapaaW.PrintWords Go.Proofs.Ytkhdfbmkikiapaa.Pure
theorem Pure.u32_of {a : Int} (h : (Lit.int .u32 a).wf = true) : 0 ≤ a ∧ a ≤ 4294967295 := by
  simp [Lit.wf, IntKind.min, IntKind.max, IntKind.signed, IntKind.bits] at h
  omega
theorem Pure.u8_of {a : Int} (h : (Lit.int .u8 a).wf = true) : 0 ≤ a ∧ a ≤ 255 := by
  simp [Lit.wf, IntKind.min, IntKind.max, IntKind.signed, IntKind.bits] at h
  omega
theorem Pure.load_of {n : Int} (h0 : 0 ≤ n) (h1 : n ≤ 1099511627776) : loadB n = true := by
  unfold loadB
  rw [decide_eq_true h0, decide_eq_true h1]; rfl
theorem Pure.sel_len (l : List S41) (tc : Int) : (sel l tc (downs l.length)).length ≤ l.length := by
  have h1 := sel_length l tc (downs l.length)
  have h2 : (downs l.length).length = l.length := by simp [downs]
  omega
/-- Candidates of a list, by places that come down; each may be on CPU 3. -/
def Pure.Good (c : List S41) : Int → List S41 → Prop
  | _, [] => True
  | last, x :: L => (x.f0 < last ∧ 0 ≤ x.f0 ∧ x.f0 < (c.length : Int)) ∧ rd_T41 c x.f0 = x ∧ hasB x.f2 3 = true ∧ (1 ≤ x.f1 ∧ x.f1 ≤ 88761) ∧ (0 ≤ x.f2 ∧ x.f2 ≤ 8191) ∧ Pure.Good c x.f0 L
theorem Pure.Good.mono {c : List S41} {a b : Int} {L : List S41} (h : Pure.Good c a L) (hab : a ≤ b) : Pure.Good c b L := by
  cases L with
  | nil => trivial
  | cons x L =>
    unfold Pure.Good at h ⊢
    obtain ⟨⟨h1, h2⟩, h3⟩ := h
    exact ⟨⟨by omega, h2⟩, h3⟩
theorem Pure.downs_succ (n : Nat) : downs (n + 1) = n :: downs n := by
  unfold downs
  rw [List.range_succ, List.reverse_append]; rfl
theorem Pure.sel_cons (c : List S41) (tc : Int) (i : Nat) (is : List Nat) : sel c tc (i :: is) = if hasB (rd_T41 c (i : Int)).f2 tc then rd_T41 c (i : Int) :: sel c tc is else sel c tc is := by
  unfold sel
  rw [List.filter_cons]
  split <;> rfl
theorem Pure.made_good {l : List Int} (hu : U16 l) : ∀ n, n ≤ (madeL l).length → Pure.Good (madeL l) (n : Int) (sel (madeL l) 3 (downs n)) := by
  intro n
  induction n with
  | zero => intro _; trivial
  | succ n ih =>
    intro hn
    rw [Pure.downs_succ, Pure.sel_cons, made_rd l n (by omega)]
    have hnl : n < l.length := by rw [made_length] at hn; omega
    split
    · rename_i hb
      refine ⟨⟨?_, ?_, ?_⟩, made_rd l n (by omega), hb, made_w l n, made_m hu n hnl, ih (by omega)⟩
      · show (n : Int) < ((n + 1 : Nat) : Int); omega
      · show 0 ≤ (n : Int); omega
      · show (n : Int) < _; omega
    · exact (ih (by omega)).mono (by omega)
theorem Pure.bit3 {f : Int} (h : hasB f 3 = true) (h0 : 0 ≤ f) (h1 : f ≤ 8191) : (Int.tmod (IntKind.u64.wrap (Int.tdiv f 8)) 2) = 1 := by
  unfold hasB bitB at h
  have h2 : (decide (0 ≤ (3 : Int) ∧ (3 : Int) < 64)) = true := rfl
  rw [h2, Bool.true_and, beq_iff_eq] at h
  have h3 : f / 2 ^ (3 : Int).toNat = f / 8 := rfl
  rw [h3] at h
  rw [Int.tdiv_eq_ediv_of_nonneg h0, show IntKind.u64.wrap (f / 8) = f / 8 by simp [IntKind.wrap, IntKind.bits, IntKind.signed]; omega, Int.tmod_eq_emod_of_nonneg (by omega)]
  exact h
theorem Pure.gain_half {h t x : Int} (hg : gainB h t x = true) : 2 * x ≤ t - h := by
  obtain ⟨⟨h0, h1⟩, ⟨t0, t1⟩, x0, x1⟩ := gain_range hg
  unfold gainB at hg
  simp only [Bool.and_eq_true, decide_eq_true_eq] at hg
  obtain ⟨_, _, _, h5⟩ := hg
  have e1 : wrap64 (t - h) = t - h := wrap64_small (by omega) (by omega)
  rw [e1] at h5
  rcases Int.le_total 0 (t - h) with h2 | h2
  · rw [Int.tdiv_eq_ediv_of_nonneg h2, wrap64_small (by omega) (by omega)] at h5
    omega
  · have h3 : (t - h) = -(h - t) := by omega
    rw [h3, Int.neg_tdiv, Int.tdiv_eq_ediv_of_nonneg (by omega), wrap64_small (by omega) (by omega)] at h5
    omega
theorem Pure.gain_of {h t x : Int} (hh : loadB h = true) (ht : loadB t = true) (hx : 1 ≤ x) (h2 : 2 * x ≤ t - h) : gainB h t x = true := by
  have a := hh
  have b := ht
  unfold loadB at a b
  simp only [Bool.and_eq_true, decide_eq_true_eq] at a b
  unfold gainB
  rw [hh, ht, decide_eq_true hx, Bool.true_and, Bool.true_and, Bool.true_and, decide_eq_true_eq, wrap64_small (n := t - h) (by omega) (by omega), Int.tdiv_eq_ediv_of_nonneg (by omega), wrap64_small (by omega) (by omega)]
  omega
theorem Pure.load_next {h t x : Int} (hg : gainB h t x = true) : loadB (h + x) = true ∧ loadB (t - x) = true := by
  obtain ⟨⟨h0, h1⟩, ⟨t0, t1⟩, x0, x1⟩ := gain_range hg
  have := Pure.gain_half hg
  exact ⟨Pure.load_of (by omega) (by omega), Pure.load_of (by omega) (by omega)⟩
namespace Pure
theorem bit3_iff {f : Int} (h0 : 0 ≤ f) (h1 : f ≤ 8191) : (Int.tmod (IntKind.u64.wrap (Int.tdiv f 8)) 2) = 1 ↔ hasB f 3 = true := by
  refine ⟨fun h => ?_, fun h => bit3 h h0 h1⟩
  rw [Int.tdiv_eq_ediv_of_nonneg h0, show IntKind.u64.wrap (f / 8) = f / 8 by simp [IntKind.wrap, IntKind.bits, IntKind.signed]; omega, Int.tmod_eq_emod_of_nonneg (by omega)] at h
  unfold hasB bitB
  have h2 : (decide (0 ≤ (3 : Int) ∧ (3 : Int) < 64)) = true := rfl
  rw [h2, Bool.true_and, beq_iff_eq]
  exact h
/-! What of the taken lies below a place: its weight, and how many there are. -/
def sumB : List S41 → Int → Int
  | [], _ => 0
  | x :: L, i => (if x.f0 < i then x.f1 else 0) + sumB L i
def cntB : List S41 → Int → Nat
  | [], _ => 0
  | x :: L, i => (if x.f0 < i then 1 else 0) + cntB L i
def sumA : List S41 → Int
  | [] => 0
  | x :: L => x.f1 + sumA L
theorem good_lt {c : List S41} : ∀ (L : List S41) (last : Int), Good c last L → ∀ x ∈ L, x.f0 < last ∧ 0 ≤ x.f0 ∧ x.f0 < (c.length : Int) ∧ rd_T41 c x.f0 = x ∧ hasB x.f2 3 = true ∧ (1 ≤ x.f1 ∧ x.f1 ≤ 88761) ∧ (0 ≤ x.f2 ∧ x.f2 ≤ 8191) := by
  intro L
  induction L with
  | nil => intro last h x hx; cases hx
  | cons y L ih =>
    intro last h x hx
    obtain ⟨⟨g1, g2, g3⟩, g4, g5, g6, g7, g8⟩ := h
    rcases List.mem_cons.1 hx with rfl | hx
    · exact ⟨g1, g2, g3, g4, g5, g6, g7⟩
    · have := ih _ g8 x hx
      exact ⟨by omega, this.2⟩
theorem take_good {c : List S41} : ∀ (L : List S41) (last h t : Int), Good c last L → Good c last (takeU h t L) := by
  intro L
  induction L with
  | nil => intro last h t hg; exact hg
  | cons x L ih =>
    intro last h t hg
    obtain ⟨g1, g4, g5, g6, g7, g8⟩ := hg
    unfold takeU
    split
    · exact ⟨g1, g4, g5, g6, g7, ih _ _ _ g8⟩
    · exact ih _ _ _ (g8.mono (by omega))
theorem sum_step {c : List S41} : ∀ (L : List S41) (last : Int), Good c last L → ∀ i : Int, sumB L (i + 1) = sumB L i + (if L.any (fun x => x.f0 == i) then (rd_T41 c i).f1 else 0) ∧ cntB L (i + 1) = cntB L i + (if L.any (fun x => x.f0 == i) then 1 else 0) := by
  intro L
  induction L with
  | nil => intro last h i; exact ⟨rfl, rfl⟩
  | cons x L ih =>
    intro last h i
    obtain ⟨⟨g1, g2, g3⟩, g4, g5, g6, g7, g8⟩ := h
    obtain ⟨i1, i2⟩ := ih _ g8 i
    unfold sumB cntB
    rw [i1, i2, List.any_cons]
    by_cases hx : x.f0 = i
    · have hn : L.any (fun x => x.f0 == i) = false := by
        rw [List.any_eq_false]
        intro y hy
        have := (good_lt L _ g8 y hy).1
        simp; omega
      have c1 : x.f0 < i + 1 := by omega
      have c2 : ¬ x.f0 < i := by omega
      have c3 : (x.f0 == i) = true := by rw [hx]; exact beq_self_eq_true _
      have c4 : (rd_T41 c i).f1 = x.f1 := by rw [← hx, g4]
      simp only [hn, c3, c4, if_pos c1, if_neg c2, Bool.true_or, if_true, Bool.false_eq_true, if_false]
      constructor <;> omega
    · have c3 : (x.f0 == i) = false := beq_eq_false_iff_ne.2 hx
      by_cases hlt : x.f0 < i
      · have c1 : x.f0 < i + 1 := by omega
        simp only [c3, if_pos c1, if_pos hlt, Bool.false_or]
        constructor <;> omega
      · have c1 : ¬ x.f0 < i + 1 := by omega
        simp only [c3, if_neg c1, if_neg hlt, Bool.false_or]
        constructor <;> omega
theorem sum_zero {c : List S41} : ∀ (L : List S41) (last : Int), Good c last L → sumB L 0 = 0 ∧ cntB L 0 = 0 := by
  intro L
  induction L with
  | nil => intro last h; exact ⟨rfl, rfl⟩
  | cons x L ih =>
    intro last h
    obtain ⟨⟨g1, g2, g3⟩, g4, g5, g6, g7, g8⟩ := h
    obtain ⟨i1, i2⟩ := ih _ g8
    unfold sumB cntB
    rw [if_neg (by omega), if_neg (by omega), i1, i2]
    exact ⟨rfl, rfl⟩
theorem sum_all {c : List S41} : ∀ (L : List S41) (last : Int), Good c last L → ∀ i, last ≤ i → sumB L i = sumA L ∧ cntB L i = L.length := by
  intro L
  induction L with
  | nil => intro last h i hi; exact ⟨rfl, rfl⟩
  | cons x L ih =>
    intro last h i hi
    obtain ⟨⟨g1, g2, g3⟩, g4, g5, g6, g7, g8⟩ := h
    obtain ⟨i1, i2⟩ := ih _ g8 i (by omega)
    unfold sumB cntB sumA
    rw [if_pos (by omega), if_pos (by omega), i1, i2, List.length_cons]
    exact ⟨rfl, by omega⟩
theorem sum_bound {c : List S41} : ∀ (L : List S41) (last : Int), Good c last L → ∀ i, 0 ≤ sumB L i ∧ sumB L i ≤ 88761 * (L.length : Int) := by
  intro L
  induction L with
  | nil => intro last h i; exact ⟨Int.le_refl 0, Int.le_refl 0⟩
  | cons x L ih =>
    intro last h i
    obtain ⟨⟨g1, g2, g3⟩, g4, g5, g6, g7, g8⟩ := h
    obtain ⟨i1, i2⟩ := ih _ g8 i
    unfold sumB
    rw [List.length_cons]
    split
    · constructor <;> omega
    · constructor <;> omega
theorem end_sum : ∀ (L : List S41) (h t : Int), endU h t L = (h + sumA (takeU h t L), t - sumA (takeU h t L)) := by
  intro L
  induction L with
  | nil => intro h t; unfold endU takeU sumA; simp
  | cons x L ih =>
    intro h t
    unfold endU takeU
    split
    · rw [ih, sumA]; congr 1 <;> omega
    · rw [ih]
theorem end_diff : ∀ (L : List S41) (h t : Int), loadB h = true → loadB t = true → (endU h t L).2 - (endU h t L).1 ≤ t - h ∧ loadB (endU h t L).1 = true ∧ loadB (endU h t L).2 = true := by
  intro L
  induction L with
  | nil => intro h t hh ht; exact ⟨Int.le_refl _, hh, ht⟩
  | cons x L ih =>
    intro h t hh ht
    unfold endU
    split
    · rename_i hg
      obtain ⟨l1, l2⟩ := load_next hg
      obtain ⟨i1, i2⟩ := ih _ _ l1 l2
      have := (gain_range hg).2.2.1
      exact ⟨by omega, i2⟩
    · exact ih h t hh ht
theorem end_none : ∀ (L : List S41) (h t : Int), loadB h = true → loadB t = true → ∀ x ∈ L, 1 ≤ x.f1 → x ∉ takeU h t L → gainB (endU h t L).1 (endU h t L).2 x.f1 = false := by
  intro L
  induction L with
  | nil => intro h t _ _ x hx; cases hx
  | cons y L ih =>
    intro h t hh ht x hx h1 hn
    unfold endU
    unfold takeU at hn
    cases hg : gainB h t y.f1 with
    | true =>
      rw [hg, if_pos rfl] at hn
      rw [if_pos rfl]
      obtain ⟨l1, l2⟩ := load_next hg
      rcases List.mem_cons.1 hx with rfl | hx
      · exact absurd List.mem_cons_self hn
      · exact ih _ _ l1 l2 x hx h1 (fun hm => hn (List.mem_cons_of_mem _ hm))
    | false =>
      rw [hg, if_neg (by decide)] at hn
      rw [if_neg (by decide)]
      rcases List.mem_cons.1 hx with rfl | hx
      · obtain ⟨d1, _, _⟩ := end_diff L h t hh ht
        cases hge : gainB (endU h t L).1 (endU h t L).2 x.f1 with
        | false => rfl
        | true =>
          have := gain_half hge
          rw [gain_of hh ht h1 (by omega)] at hg
          cases hg
      · exact ih h t hh ht x hx h1 hn
theorem take_none : ∀ (L : List S41) (h t : Int), (∀ x ∈ L, gainB h t x.f1 = false) → takeU h t L = [] := by
  intro L
  induction L with
  | nil => intro h t _; rfl
  | cons x L ih =>
    intro h t hn
    unfold takeU
    rw [hn x List.mem_cons_self, if_neg (by decide)]
    exact ih h t (fun y hy => hn y (List.mem_cons_of_mem _ hy))
theorem take_sub : ∀ (L : List S41) (h t : Int), ∀ x ∈ takeU h t L, x ∈ L := by
  intro L
  induction L with
  | nil => intro h t x hx; exact hx
  | cons y L ih =>
    intro h t x hx
    unfold takeU at hx
    split at hx
    · rcases List.mem_cons.1 hx with rfl | hx
      · exact List.mem_cons_self
      · exact List.mem_cons_of_mem _ (ih _ _ x hx)
    · exact List.mem_cons_of_mem _ (ih _ _ x hx)

/-! The loops. -/
theorem done_l1 (c : List S41) (O : List Int) (hO : O.length ≤ 40) (h t e : Int) (rest : List S41) (hr : rest.length ≤ 40) (i : Int) (i0 : 0 ≤ i) (i1 : i < (c.length : Int)) (k' : Nat) :
    ∀ m p g, p + m = O.length → turnspitlaw13_SpreadDone.l1 (k' + m + 1) true c h t O e rest i g (p : Int) =
      (if (g || (O.drop p).any (fun q => q == i)) = true then turnspitlaw13_SpreadDone.l0 k' true c (wrap64 (h + (rd_T41 c i).f1)) (wrap64 (t - (rd_T41 c i).f1)) O e rest (wrap64 (i + 1)) else turnspitlaw13_SpreadDone.l0 k' true c h t O e (rest ++ [rd_T41 c i]) (wrap64 (i + 1))) := by
  intro m
  induction m with
  | zero =>
    intro p g hp
    rw [Nat.add_zero, turnspitlaw13_SpreadDone.l1, if_neg (by omega), List.drop_eq_nil_of_le (by omega), List.any_nil, Bool.or_false]
    cases g
    · rw [if_neg Bool.false_ne_true, if_pos i0, if_pos i1, if_pos (by omega), if_neg Bool.false_ne_true]
    · rw [if_pos rfl, if_pos rfl, if_pos i0, if_pos i1]
  | succ m ih =>
    intro p g hp
    have hpl : p < O.length := by omega
    rw [show k' + (m + 1) + 1 = (k' + m + 1) + 1 by omega, turnspitlaw13_SpreadDone.l1, if_pos (by omega), wrap_succ p O.length hpl (by omega), List.drop_eq_getElem_cons hpl, List.any_cons, rd_get O p hpl]
    cases g
    · rw [if_neg (by decide), if_pos (by omega), ih (p + 1) _ (by omega), Bool.false_or]
    · rw [if_pos rfl, ih (p + 1) _ (by omega), Bool.true_or, Bool.true_or]
def restN (l : List Int) (T : List S41) (i : Nat) : List S41 := ((List.range i).filter fun (j : Nat) => !T.any (fun x => x.f0 == (j : Int))).map (madeAt l)
theorem rest_succ (l : List Int) (T : List S41) (i : Nat) : restN l T (i + 1) = if T.any (fun x => x.f0 == (i : Int)) then restN l T i else restN l T i ++ [madeAt l i] := by
  unfold restN
  rw [List.range_succ, List.filter_append, List.map_append, List.filter_cons, List.filter_nil]
  cases h : T.any (fun x => x.f0 == (i : Int)) <;> simp
theorem done_l2 (c : List S41) (O : List Int) (h t : Int) (rest : List S41) (hr : rest.length ≤ 40) (hf : ∀ x ∈ rest, (0 ≤ x.f2 ∧ x.f2 ≤ 8191) ∧ (hasB x.f2 3 = true → gainB h t x.f1 = false))
    (hfin : spread_Plan.f 3 h t rest (c.length : Int) = some ([], 0)) (hsum : rest.length + O.length = c.length) (hc : c.length ≤ 40) :
    ∀ m p k, p + m = rest.length → m < k → turnspitlaw13_SpreadDone.l2 k true c h t O 0 rest (p : Int) = some true := by
  intro m
  induction m with
  | zero =>
    intro p k hp hk
    obtain ⟨k, rfl⟩ : ∃ j, k = j + 1 := ⟨k - 1, by omega⟩
    rw [turnspitlaw13_SpreadDone.l2, if_neg (by omega), hfin, Option.bind_some, if_pos rfl, if_pos rfl, if_pos rfl, if_pos (show ((([] : List Int), (0 : Int)).fst.length : Int) = 0 from rfl), wrap64_small (by omega) (by omega)]
    congr 1
    rw [beq_iff_eq]
    omega
  | succ m ih =>
    intro p k hp hk
    obtain ⟨k, rfl⟩ : ∃ j, k = j + 1 := ⟨k - 1, by omega⟩
    have hpl : p < rest.length := by omega
    have hx : rd_T41 rest (p : Int) ∈ rest := by
      rw [rd_nat, List.getD_eq_getElem?_getD, List.getElem?_eq_getElem hpl]
      exact List.getElem_mem hpl
    obtain ⟨⟨f0, f1⟩, f2⟩ := hf _ hx
    rw [turnspitlaw13_SpreadDone.l2, if_pos (by omega), if_pos (by omega), wrap_succ p rest.length hpl (by omega), ih (p + 1) k (by omega) (by omega)]
    by_cases hb : hasB (rd_T41 rest (p : Int)).f2 3 = true
    · rw [if_pos ((bit3_iff f0 f1).2 hb), gain_f, f2 hb, Option.bind_some, if_neg (by decide)]
    · rw [if_neg (fun h => hb ((bit3_iff f0 f1).1 h))]
theorem any_map (T : List S41) (i : Int) : (T.map (·.f0)).any (fun q => q == i) = T.any (fun x => x.f0 == i) := by rw [List.any_map]; rfl
theorem done_l0 (l : List Int) (T : List S41) (hu : U16 l) (last : Int) (hT : Good (madeL l) last T) (hTl : T.length ≤ 40) (a b : Int) (a0 : 0 ≤ a) (a1 : a ≤ 4294967295) (b0 : 0 ≤ b) (b1 : b ≤ 8589934592)
    (hend : ∀ k, 100 ≤ k → turnspitlaw13_SpreadDone.l2 k true (madeL l) (a + sumB T (madeL l).length) (b - sumB T (madeL l).length) (T.map (·.f0)) 0 (restN l T (madeL l).length) 0 = some true) :
    ∀ m i k, i + m = (madeL l).length → 50 * m + 200 ≤ k → (restN l T i).length ≤ i → turnspitlaw13_SpreadDone.l0 k true (madeL l) (a + sumB T i) (b - sumB T i) (T.map (·.f0)) 0 (restN l T i) (i : Int) = some true := by
  have hml := made_length l
  intro m
  induction m with
  | zero =>
    intro i k hi hk hr
    obtain ⟨k, rfl⟩ : ∃ j, k = j + 1 := ⟨k - 1, by omega⟩
    have e : i = (madeL l).length := by omega
    rw [turnspitlaw13_SpreadDone.l0, if_neg (by omega), e]
    exact hend k (by omega)
  | succ m ih =>
    intro i k hi hk hr
    have hil : i < (madeL l).length := by omega
    obtain ⟨k', rfl⟩ : ∃ j, k = (j + (T.map (·.f0)).length + 1) + 1 := ⟨k - (T.map (·.f0)).length - 2, by rw [List.length_map]; omega⟩
    have hnx := ih (i + 1) k' (by omega) (by rw [List.length_map] at hk; omega)
    obtain ⟨s1, s2⟩ := sum_step T last hT (i : Int)
    obtain ⟨u0, u1⟩ := sum_bound T last hT (i : Int)
    have hw := made_w l i
    rw [turnspitlaw13_SpreadDone.l0, if_pos (by omega), show (0 : Int) = ((0 : Nat) : Int) from rfl, done_l1 (madeL l) (T.map (·.f0)) (by rw [List.length_map]; exact hTl) _ _ _ _ (by omega) (i : Int) (by omega) (by omega) k' (T.map (·.f0)).length 0 false (by omega), List.drop_zero, any_map, Bool.false_or, wrap_succ i (madeL l).length hil (by omega), made_rd l i hil]
    rw [made_rd l i hil] at s1
    have ei : ((i + 1 : Nat) : Int) = (i : Int) + 1 := by omega
    rw [rest_succ, ei, s1] at hnx
    cases hany : T.any (fun x => x.f0 == (i : Int)) with
    | true =>
      rw [hany, if_pos rfl, if_pos rfl] at hnx
      rw [if_pos rfl, wrap64_small (n := a + sumB T (i : Int) + (madeAt l i).f1) (by omega) (by omega), wrap64_small (n := b - sumB T (i : Int) - (madeAt l i).f1) (by omega) (by omega)]
      have := hnx (by omega)
      rw [show a + (sumB T (i : Int) + (madeAt l i).f1) = a + sumB T (i : Int) + (madeAt l i).f1 by omega, show b - (sumB T (i : Int) + (madeAt l i).f1) = b - sumB T (i : Int) - (madeAt l i).f1 by omega] at this
      rw [ei]
      exact this
    | false =>
      rw [hany, if_neg (by decide), if_neg (by decide), Int.add_zero] at hnx
      rw [if_neg (by decide), ei]
      exact hnx (by simp; omega)
theorem rest_cnt {c : List S41} (l : List Int) (T : List S41) (last : Int) (hT : Good c last T) : ∀ i : Nat, (restN l T i).length + cntB T i = i := by
  intro i
  induction i with
  | zero => have := (sum_zero T last hT).2; show ([] : List S41).length + cntB T 0 = 0; rw [this]; rfl
  | succ i ih =>
    obtain ⟨_, s2⟩ := sum_step T last hT (i : Int)
    rw [rest_succ, show ((i + 1 : Nat) : Int) = (i : Int) + 1 by omega, s2]
    cases T.any (fun x => x.f0 == (i : Int)) with
    | true => simp; omega
    | false => simp; omega
theorem awake_more : turnspitlaw13_awake.f 5000 = some true := by kernel_rfl
theorem SpreadDone (l : List Int) (a m : Int) (hu : U16 l) (hl : l.length ≤ 9223372036854775806) (ha : (Lit.int .u32 a).wf = true) (hm : (Lit.int .u32 m).wf = true) : turnspitlaw13_SpreadDone.f 5000 l a m = some true := by
  obtain ⟨m0, m1⟩ := Pure.u32_of hm
  obtain ⟨a0, a1⟩ := Pure.u32_of ha
  unfold turnspitlaw13_SpreadDone.f
  have hmade : turnspitlaw13_Made.f 5000 l = some (madeL l) := made_l0 l hu hl (min l.length 40) 0 5000 (by omega) (by omega)
  rw [awake_more, Option.bind_some, if_pos rfl, hmade, Option.bind_some]
  have ea : wrap64 a = a := wrap64_small (by omega) (by omega)
  have em : (wrap64 m).tmod 200000 = m % 200000 := by rw [wrap64_small (by omega) (by omega), Int.tmod_eq_emod_of_nonneg m0]
  have eb : wrap64 (a + m % 200000) = a + m % 200000 := wrap64_small (by omega) (by omega)
  have hf := made_fair hu
  have hla : loadB a = true := load_of (by omega) (by omega)
  have hlb : loadB (a + m % 200000) = true := load_of (by omega) (by omega)
  have h1 := plan_fair hf 3 a (a + m % 200000) (madeL l).length (by decide) (by decide) hla hlb
  have hS := made_good hu (madeL l).length (Nat.le_refl _)
  have hT := take_good _ _ a (a + m % 200000) hS
  have hb0 : 0 ≤ a + m % 200000 := by omega
  have hb1 : a + m % 200000 ≤ 8589934592 := by omega
  have hd := end_sum (sel (madeL l) 3 (downs (madeL l).length)) a (a + m % 200000)
  have hdiff := end_diff (sel (madeL l) 3 (downs (madeL l).length)) a (a + m % 200000) hla hlb
  have hnone := end_none (sel (madeL l) 3 (downs (madeL l).length)) a (a + m % 200000) hla hlb
  have hmem : ∀ i, i < (madeL l).length → hasB (madeAt l i).f2 3 = true → madeAt l i ∈ sel (madeL l) 3 (downs (madeL l).length) := by
    intro i hi hb
    unfold sel
    rw [List.mem_map]
    refine ⟨i, ?_, made_rd l i hi⟩
    rw [List.mem_filter]
    refine ⟨by simp [downs]; exact hi, ?_⟩
    rw [made_rd l i hi]; exact hb
  have hlen : (takeU a (a + m % 200000) (sel (madeL l) 3 (downs (madeL l).length))).length ≤ (madeL l).length := by
    have h3 := takeU_length (sel (madeL l) 3 (downs (madeL l).length)) a (a + m % 200000)
    have h4 := sel_len (madeL l) 3
    omega
  rw [ea, em, eb, h1, Option.bind_some]
  simp only
  rw [List.take_of_length_le (by rw [List.length_map]; exact hlen)]
  generalize takeU a (a + m % 200000) (sel (madeL l) 3 (downs (madeL l).length)) = T at hT hd hnone hlen
  rw [hd] at hdiff hnone
  simp only at hdiff hnone
  generalize a + m % 200000 = b at hb0 hb1 hd hdiff hnone hlb
  have hf40 := hf.1
  obtain ⟨z1, z2⟩ := sum_zero T _ hT
  obtain ⟨q1, q2⟩ := sum_all T _ hT ((madeL l).length : Int) (Int.le_refl _)
  have hcnt := rest_cnt l T _ hT (madeL l).length
  have hstart := done_l0 l T hu _ hT (by omega) a b a0 a1 hb0 hb1 ?_ (madeL l).length 0 5000 (by omega) (by omega) (Nat.le_refl _)
  · rw [show ((0 : Nat) : Int) = 0 from rfl, z1, Int.add_zero, Int.sub_zero] at hstart
    exact hstart
  · intro k hk
    rw [q1]
    have hrl : (restN l T (madeL l).length).length ≤ 40 := by omega
    have hrest : ∀ x ∈ restN l T (madeL l).length, ((1 ≤ x.f1 ∧ x.f1 ≤ 88761) ∧ 0 ≤ x.f2 ∧ x.f2 ≤ 8191) ∧ (hasB x.f2 3 = true → gainB (a + sumA T) (b - sumA T) x.f1 = false) := by
      intro x hx
      unfold restN at hx
      rw [List.mem_map] at hx
      obtain ⟨i, hi, rfl⟩ := hx
      rw [List.mem_filter, List.mem_range] at hi
      obtain ⟨hi1, hi2⟩ := hi
      have hil : i < l.length := by rw [made_length] at hi1; omega
      refine ⟨⟨made_w l i, made_m hu i hil⟩, fun hb => ?_⟩
      refine hnone _ (hmem i hi1 hb) (made_w l i).1 (fun hin => ?_)
      have : T.any (fun x => x.f0 == (i : Int)) = true := List.any_eq_true.2 ⟨_, hin, beq_self_eq_true _⟩
      rw [this] at hi2
      cases hi2
    have hfair : Fair (restN l T (madeL l).length) := ⟨hrl, fun x hx => (hrest x hx).1⟩
    have hp := plan_fair hfair 3 (a + sumA T) (b - sumA T) (madeL l).length (by decide) (by decide) hdiff.2.1 hdiff.2.2
    rw [take_none _ _ _ ?_] at hp
    · exact done_l2 (madeL l) _ _ _ _ hrl (fun x hx => ⟨(hrest x hx).1.2, (hrest x hx).2⟩) (by rw [hp]; simp) (by rw [List.length_map]; omega) hf40 (restN l T (madeL l).length).length 0 k (by omega) (by omega)
    · intro x hx
      unfold sel at hx
      rw [List.mem_map] at hx
      obtain ⟨i, hi, rfl⟩ := hx
      rw [List.mem_filter] at hi
      obtain ⟨hi1, hi2⟩ := hi
      have hi3 : i < (restN l T (madeL l).length).length := by simpa [downs] using hi1
      refine (hrest _ ?_).2 hi2
      rw [rd_nat, List.getD_eq_getElem?_getD, List.getElem?_eq_getElem hi3]
      exact List.getElem_mem hi3
end Pure
theorem Walk.SpreadDone (A0 : Option Addr) (c0 : Nat) (l0 : List Int) (a : Int) (ha : (Lit.int .u32 a).wf = true) (m : Int) (hm : (Lit.int .u32 m).wf = true) (w : World) (hr : Kd.C (Kd.int .u16) w A0 l0.length l0) (hc : l0.length ≤ c0) (hl : l0.length ≤ 9223372036854775806) (hw : ∀ n ∈ l0, (Lit.int .u16 n).wf = true) :
    Calls Try.prog 6 #[.slice A0 l0.length c0, .int .u32 a, .int .u32 m] w fun e w' => e = .returned (.bool true) ∧ Below w.heap.size w w' :=
  turnspitlaw13_SpreadDone.calls 5000 A0 c0 l0 a m true w hr hc (Pure.SpreadDone l0 a m hw hl ha hm)
end Go.Proofs.Ytkhdfbmkikiapaa

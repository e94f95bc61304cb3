/- Plain facts on who goes. -/
import Derived.Test.YtkhdfbmkikiapaaPureBase
import Derived.Test.YtkhdfbmkikiapaaPrintF19
namespace Go.Proofs.Ytkhdfbmkikiapaa.Pure
open Go.RowKit Go.Proofs.Ytkhdfbmkikiapaa Go.Proofs.Ytkhdfbmkikiapaa.Given Go.Proofs.Ytkhdfbmkikiapaa.Print Go.Proofs.YtkhdfbmkikiapaaW.PrintWords Go.Proofs.YtkhdfbmkikiapaaW.PrintLast Go.Proofs.YtkhdfbmkikiapaaW.PrintMore
set_option linter.unusedVariables false
set_option linter.unusedSimpArgs false
set_option maxRecDepth 100000

/-! ### Who goes, with no bound -/
/-- Who goes of a list, and the loads behind it. -/
def takeU : Int → Int → List S41 → List S41
  | _, _, [] => []
  | h, t, x :: L => if gainB h t x.f1 then x :: takeU (h + x.f1) (t - x.f1) L else takeU h t L
def endU : Int → Int → List S41 → Int × Int
  | h, t, [] => (h, t)
  | h, t, x :: L => if gainB h t x.f1 then endU (h + x.f1) (t - x.f1) L else endU h t L
theorem takeU_length : ∀ (L : List S41) (h t : Int), (takeU h t L).length ≤ L.length := by
  intro L
  induction L with
  | nil => intro h t; exact Nat.le_refl _
  | cons x L ih =>
    intro h t
    unfold takeU
    split
    · have := ih (h + x.f1) (t - x.f1); simp only [List.length_cons]; omega
    · have := ih h t; simp only [List.length_cons]; omega
theorem run_full (k : Nat) : ∀ (L : List S41) (s : PS), (s.out.length : Int) = k → L.foldl (stepP k) s = s := fun L s h => fold_full (k : Int) s h L
/-- With a bound k: the first k of them. -/
theorem fold_take (k : Nat) : ∀ (L : List S41) (h t : Int) (o : List Int), o.length ≤ k → (L.foldl (stepP (k : Int)) ⟨h, t, o⟩).out = o ++ ((takeU h t L).map (·.f0)).take (k - o.length) := by
  intro L
  induction L with
  | nil => intro h t o ho; simp [takeU]
  | cons x L ih =>
    intro h t o ho
    rw [List.foldl_cons]
    by_cases hk : o.length = k
    · have e : stepP (k : Int) ⟨h, t, o⟩ x = ⟨h, t, o⟩ := by unfold stepP; rw [if_pos (by simp only; omega)]
      rw [e, run_full k L _ (by simp only; omega)]
      rw [hk, Nat.sub_self, List.take_zero, List.append_nil]
    · unfold takeU
      cases hg : gainB h t x.f1 with
      | false =>
        have e : stepP (k : Int) ⟨h, t, o⟩ x = ⟨h, t, o⟩ := by unfold stepP; rw [if_neg (by simp only; omega)]; simp only [hg]; rw [if_neg (by decide)]
        rw [e, ih h t o ho, if_neg (by decide)]
      | true =>
        have e : stepP (k : Int) ⟨h, t, o⟩ x = ⟨h + x.f1, t - x.f1, o ++ [x.f0]⟩ := by unfold stepP; rw [if_neg (by simp only; omega)]; simp only [hg]; rw [if_pos trivial]
        rw [e, ih _ _ _ (by simp; omega), if_pos rfl, List.map_cons]
        have e2 : k - o.length = (k - (o ++ [x.f0]).length) + 1 := by simp; omega
        rw [e2, List.take_succ_cons, List.append_assoc, List.singleton_append]
theorem runP_take (k : Nat) (h t : Int) (L : List S41) : (runP (k : Int) h t L).out = ((takeU h t L).map (·.f0)).take k := by
  have := fold_take k L h t [] (by simp)
  unfold runP
  rw [this]
  simp

/-! ### Made -/
def wt (r : Nat) : Int := rd [1024, 15, 820, 335, 88761, 36, 110, 3121] (r : Int)
theorem wt_range (r : Nat) (h : r < 8) : 1 ≤ wt r ∧ wt r ≤ 88761 := by
  have : r = 0 ∨ r = 1 ∨ r = 2 ∨ r = 3 ∨ r = 4 ∨ r = 5 ∨ r = 6 ∨ r = 7 := by omega
  rcases this with rfl | rfl | rfl | rfl | rfl | rfl | rfl | rfl <;> decide
/-- The candidate at a place. -/
def madeAt (l : List Int) (i : Nat) : S41 := ⟨(i : Int), wt ((rd l (i : Int)).toNat % 8), rd l (i : Int) / 8⟩
def madeL (l : List Int) : List S41 := (List.range (min l.length 40)).map (madeAt l)
def U16 (l : List Int) : Prop := ∀ n ∈ l, (Lit.int .u16 n).wf = true
theorem rd_u16 {l : List Int} (h : U16 l) (i : Nat) (hi : i < l.length) : 0 ≤ rd l (i : Int) ∧ rd l (i : Int) ≤ 65535 := by
  rw [rd_get l i hi]
  have := h l[i] (List.getElem_mem hi)
  simp [Lit.wf, IntKind.min, IntKind.max, IntKind.signed, IntKind.bits] at this
  omega
theorem made_l0 (l : List Int) (h : U16 l) (hl : l.length ≤ 9223372036854775806) :
    ∀ m n k, n + m = min l.length 40 → m < k → turnspitlaw13_Made.l0 k l ((List.range n).map (madeAt l)) [1024, 15, 820, 335, 88761, 36, 110, 3121] (n : Int) = some (madeL l) := by
  intro m
  induction m with
  | zero =>
    intro n k hn hk
    obtain ⟨k, rfl⟩ : ∃ j, k = j + 1 := ⟨k - 1, by omega⟩
    unfold turnspitlaw13_Made.l0
    have e : n = min l.length 40 := by omega
    subst e
    by_cases h1 : ((min l.length 40 : Nat) : Int) < (l.length : Int)
    · rw [if_pos h1, if_neg (by omega)]; rfl
    · rw [if_neg h1]; rfl
  | succ m ih =>
    intro n k hn hk
    obtain ⟨k, rfl⟩ : ∃ j, k = j + 1 := ⟨k - 1, by omega⟩
    unfold turnspitlaw13_Made.l0
    obtain ⟨r0, r1⟩ := rd_u16 h n (by omega)
    have e1 : wrap64 (rd l (n : Int)) = rd l (n : Int) := wrap64_small (by omega) (by omega)
    have e2 : (rd l (n : Int)).tmod 8 = (((rd l (n : Int)).toNat % 8 : Nat) : Int) := by
      rw [Int.tmod_eq_emod_of_nonneg r0]
      omega
    have e3 : IntKind.u64.wrap (IntKind.u16.wrap ((rd l (n : Int)).tdiv 8)) = rd l (n : Int) / 8 := by
      rw [Int.tdiv_eq_ediv_of_nonneg r0]
      simp [IntKind.wrap, IntKind.bits, IntKind.signed]
      omega
    rw [if_pos (by omega), if_pos (by omega), if_pos (by omega), e1, e2, if_pos (by omega), if_pos (by simp; omega), if_pos (by simp; omega), e3, wrap_succ n l.length (by omega) hl]
    have := ih (n + 1) k (by omega) (by omega)
    rw [List.range_succ, List.map_append, List.map_singleton] at this
    exact this
theorem made_f (l : List Int) (h : U16 l) (hl : l.length ≤ 9223372036854775806) : turnspitlaw13_Made.f 1000 l = some (madeL l) :=
  made_l0 l h hl (min l.length 40) 0 1000 (by omega) (by omega)
theorem made_length (l : List Int) : (madeL l).length = min l.length 40 := by simp [madeL]
theorem made_rd (l : List Int) (i : Nat) (hi : i < (madeL l).length) : rd_T41 (madeL l) (i : Int) = madeAt l i := by
  rw [rd_nat, List.getD_eq_getElem?_getD, List.getElem?_eq_getElem hi]
  simp [madeL]
theorem made_w (l : List Int) (i : Nat) : 1 ≤ (madeAt l i).f1 ∧ (madeAt l i).f1 ≤ 88761 := wt_range _ (by omega)
theorem made_m {l : List Int} (h : U16 l) (i : Nat) (hi : i < l.length) : 0 ≤ (madeAt l i).f2 ∧ (madeAt l i).f2 ≤ 8191 := by
  obtain ⟨r0, r1⟩ := rd_u16 h i hi
  show 0 ≤ rd l (i : Int) / 8 ∧ rd l (i : Int) / 8 ≤ 8191
  omega
/-- Candidates that are made, whatever is left of them: none is odd, and each Mask is one. -/
def Fair (l : List S41) : Prop := l.length ≤ 40 ∧ ∀ x ∈ l, (1 ≤ x.f1 ∧ x.f1 ≤ 88761) ∧ 0 ≤ x.f2 ∧ x.f2 ≤ 8191
theorem made_fair {l : List Int} (h : U16 l) : Fair (madeL l) := by
  refine ⟨by rw [made_length]; omega, fun x hx => ?_⟩
  unfold madeL at hx
  rw [List.mem_map] at hx
  obtain ⟨i, hi, rfl⟩ := hx
  rw [List.mem_range] at hi
  exact ⟨made_w l i, made_m h i (by omega)⟩
theorem plan_fair {l : List S41} (hf : Fair l) (tc a b : Int) (k : Nat) (h0 : 0 ≤ tc) (h1 : tc < 64) (ha : loadB a = true) (hb : loadB b = true) :
    spread_Plan.f tc a b l (k : Int) = some (((takeU a b (sel l tc (downs l.length))).map (·.f0)).take k, 0) := by
  have hodd : l.any oddW = false := by
    rw [List.any_eq_false]
    intro x hx
    have := (hf.2 x hx).1
    unfold oddW
    rw [decide_eq_false (by omega), decide_eq_false (by omega)]
    decide
  have hm : maskOk l = true := by
    unfold maskOk
    rw [List.all_eq_true]
    intro x hx
    have := (hf.2 x hx).2
    rw [decide_eq_true (by omega), decide_eq_true (by omega)]
    rfl
  have hl := hf.1
  unfold spread_Plan.f
  rw [if_neg (by omega), if_neg, if_pos hm, runP_take]
  unfold oddP
  rw [decide_eq_false (by omega), decide_eq_false (by omega), ha, hb, decide_eq_false (by omega), hodd]
  decide
end Go.Proofs.Ytkhdfbmkikiapaa.Pure

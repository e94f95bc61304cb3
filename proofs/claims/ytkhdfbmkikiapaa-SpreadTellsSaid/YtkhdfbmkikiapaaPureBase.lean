/- Plain facts on what the functions of package spread and of its reference compute. -/
import Derived.Test.YtkhdfbmkikiapaaPrintF9
import Derived.Test.YtkhdfbmkikiapaaPrintF11
import Derived.Test.YtkhdfbmkikiapaaPrintF16
import Derived.Test.YtkhdfbmkikiapaaPrintF18
namespace Go.Proofs.Ytkhdfbmkikiapaa.Pure
open Go.RowKit Go.Proofs.Ytkhdfbmkikiapaa Go.Proofs.Ytkhdfbmkikiapaa.Given Go.Proofs.Ytkhdfbmkikiapaa.Print Go.Proofs.YtkhdfbmkikiapaaW.PrintWords Go.Proofs.YtkhdfbmkikiapaaW.PrintLast Go.Proofs.YtkhdfbmkikiapaaW.PrintMore
set_option linter.unusedVariables false
set_option linter.unusedSimpArgs false
set_option maxRecDepth 100000

theorem awake_true : turnspitlaw13_awake.f 1000 = some true := by kernel_rfl
theorem wrap64_small {n : Int} (h0 : -9223372036854775808 ≤ n) (h1 : n ≤ 9223372036854775807) : wrap64 n = n := by
  unfold wrap64
  omega
theorem wrap_succ (n N : Nat) (h : n < N) (hN : N ≤ 9223372036854775806) : wrap64 ((n : Int) + 1) = ((n + 1 : Nat) : Int) := by
  rw [wrap64_small (by omega) (by omega)]; omega
theorem rd_get (l : List Int) (n : Nat) (h : n < l.length) : rd l (n : Int) = l[n] := by
  unfold rd
  rw [Int.toNat_natCast, List.getD_eq_getElem?_getD, List.getElem?_eq_getElem h]; rfl

/-! ### The best of some loads -/
/-- The place of the one that is ahead of all, but one, of the first n: the first of such. -/
def bestN (h : Int → Int) (l : List Int) (but : Int) : Nat → Option Nat
  | 0 => none
  | n + 1 => if (n : Int) = but then bestN h l but n else match bestN h l but n with
    | none => some n
    | some b => if h (rd l (b : Int)) < h (rd l (n : Int)) then some n else some b
theorem bestN_lt (h : Int → Int) (l : List Int) (but : Int) : ∀ n b, bestN h l but n = some b → b < n := by
  intro n
  induction n with
  | zero => intro b hb; cases hb
  | succ n ih =>
    intro b hb
    unfold bestN at hb
    split at hb
    · exact Nat.lt_succ_of_lt (ih b hb)
    · split at hb
      · injection hb with hb; omega
      · rename_i c hc
        split at hb
        · injection hb with hb; omega
        · injection hb with hb; have := ih c hc; omega
def bAt (o : Option Nat) : Int := ((o.getD 0 : Nat) : Int)
theorem cmp_f (a b : Int) : cmp_Compare_int.f a b = some (if a < b then -1 else if a > b then 1 else 0) := by
  unfold cmp_Compare_int.f cmp_isNaN_int.f
  simp
  split
  · rfl
  · split <;> rfl
theorem best_l0 (l : List Int) (but sign : Int) (h : Int → Int) (hl : l.length ≤ 9223372036854775806) (hs : ∀ a b : Int, wrap64 (sign * (if a < b then -1 else if a > b then 1 else 0)) > 0 ↔ h b < h a) :
    ∀ m n k, n + m = l.length → m < k → spread_best_int.l0 k l but sign (bAt (bestN h l but n)) (bestN h l but n).isSome l (l.length : Int) (n : Int) = some (bAt (bestN h l but l.length), (bestN h l but l.length).isSome) := by
  intro m
  induction m with
  | zero =>
    intro n k hn hk
    obtain ⟨k, rfl⟩ : ∃ j, k = j + 1 := ⟨k - 1, by omega⟩
    unfold spread_best_int.l0
    rw [if_neg (by omega)]
    have : n = l.length := by omega
    rw [this]
  | succ m ih =>
    intro n k hn hk
    obtain ⟨k, rfl⟩ : ∃ j, k = j + 1 := ⟨k - 1, by omega⟩
    have hnx := ih (n + 1) k (by omega) (by omega)
    unfold spread_best_int.l0
    rw [if_pos (by omega), if_pos (by omega), if_pos (by omega), wrap_succ n l.length (by omega) hl]
    by_cases hb : (n : Int) = but
    · rw [if_pos hb]
      have e : bestN h l but (n + 1) = bestN h l but n := by rw [bestN, if_pos hb]
      rw [e] at hnx
      exact hnx
    · rw [if_neg hb]
      cases hc : bestN h l but n with
      | none =>
        have e : bestN h l but (n + 1) = some n := by rw [bestN, if_neg hb, hc]
        rw [e] at hnx
        rw [if_neg (by simp)]
        exact hnx
      | some b =>
        have hlt := bestN_lt h l but n b hc
        rw [if_pos (by simp), if_pos (by unfold bAt; exact Int.natCast_nonneg _), if_pos (by unfold bAt; simp; omega), cmp_f, Option.bind_some]
        have hs' := hs (rd l (n : Int)) (rd l (bAt (some b)))
        have eb : bAt (some b) = (b : Int) := rfl
        by_cases hg : h (rd l (b : Int)) < h (rd l (n : Int))
        · have e : bestN h l but (n + 1) = some n := by rw [bestN, if_neg hb, hc]; simp only; rw [if_pos hg]
          rw [e] at hnx
          rw [if_pos (hs'.2 hg)]
          exact hnx
        · have e : bestN h l but (n + 1) = some b := by rw [bestN, if_neg hb, hc]; simp only; rw [if_neg hg]
          rw [e] at hnx
          rw [if_neg (fun x => hg (hs'.1 x))]
          exact hnx
def hi (x : Int) : Int := x
def lo (x : Int) : Int := -x
theorem sign_hi (a b : Int) : wrap64 (1 * (if a < b then -1 else if a > b then 1 else 0)) > 0 ↔ hi b < hi a := by
  unfold hi wrap64
  split
  · omega
  · split <;> omega
theorem sign_lo (a b : Int) : wrap64 ((-1) * (if a < b then -1 else if a > b then 1 else 0)) > 0 ↔ lo b < lo a := by
  unfold lo wrap64
  split
  · omega
  · split <;> omega
theorem busiest_f (l : List Int) (but : Int) (k : Nat) (hl : l.length ≤ 9223372036854775806) (hk : l.length < k) : spread_Busiest.f k l but = some (bAt (bestN hi l but l.length), (bestN hi l but l.length).isSome) := by
  have := best_l0 l but 1 hi hl sign_hi l.length 0 k (by omega) hk
  unfold spread_Busiest.f spread_best_int.f
  rw [show spread_best_int.l0 k l but 1 0 false l (l.length : Int) 0 = _ from this]
  rfl
theorem idlest_f (l : List Int) (but : Int) (k : Nat) (hl : l.length ≤ 9223372036854775806) (hk : l.length < k) : spread_Idlest.f k l but = some (bAt (bestN lo l but l.length), (bestN lo l but l.length).isSome) := by
  have := best_l0 l but (-1) lo hl sign_lo l.length 0 k (by omega) hk
  unfold spread_Idlest.f spread_best_int.f
  rw [show spread_best_int.l0 k l but (-1) 0 false l (l.length : Int) 0 = _ from this]
  rfl
def rAt (o : Option Nat) : Int := match o with
  | none => -1
  | some b => (b : Int)
theorem rAt_end (o : Option Nat) : (mx (rAt o) 0, decide (rAt o ≥ 0)) = (bAt o, o.isSome) := by
  cases o with
  | none => rfl
  | some b =>
    unfold rAt bAt mx
    simp
    omega
theorem refB_l0 (l : List Int) (but : Int) (hl : l.length ≤ 9223372036854775806) :
    ∀ m n k, n + m = l.length → m < k → turnspitref13_Busiest.l0 k l but (rAt (bestN hi l but n)) (n : Int) = some (bAt (bestN hi l but l.length), (bestN hi l but l.length).isSome) := by
  intro m
  induction m with
  | zero =>
    intro n k hn hk
    obtain ⟨k, rfl⟩ : ∃ j, k = j + 1 := ⟨k - 1, by omega⟩
    unfold turnspitref13_Busiest.l0
    rw [if_neg (by omega), rAt_end]
    have : n = l.length := by omega
    rw [this]
  | succ m ih =>
    intro n k hn hk
    obtain ⟨k, rfl⟩ : ∃ j, k = j + 1 := ⟨k - 1, by omega⟩
    have hnx := ih (n + 1) k (by omega) (by omega)
    unfold turnspitref13_Busiest.l0
    rw [if_pos (by omega), wrap_succ n l.length (by omega) hl]
    by_cases hb : (n : Int) = but
    · rw [if_pos hb]
      have e : bestN hi l but (n + 1) = bestN hi l but n := by rw [bestN, if_pos hb]
      rw [e] at hnx
      exact hnx
    · rw [if_neg hb]
      cases hc : bestN hi l but n with
      | none =>
        have e : bestN hi l but (n + 1) = some n := by rw [bestN, if_neg hb, hc]
        rw [e] at hnx
        rw [if_pos (by decide)]
        exact hnx
      | some b =>
        have hlt := bestN_lt hi l but n b hc
        have eb : rAt (some b) = (b : Int) := rfl
        rw [if_neg (by rw [eb]; omega), if_pos (by omega), if_pos (by rw [eb]; omega), if_pos (by rw [eb]; omega)]
        by_cases hg : hi (rd l (b : Int)) < hi (rd l (n : Int))
        · have e : bestN hi l but (n + 1) = some n := by rw [bestN, if_neg hb, hc]; simp only; rw [if_pos hg]
          rw [e] at hnx
          rw [if_pos (show rd l (n : Int) > rd l (rAt (some b)) by rw [eb]; unfold hi at hg; omega)]
          exact hnx
        · have e : bestN hi l but (n + 1) = some b := by rw [bestN, if_neg hb, hc]; simp only; rw [if_neg hg]
          rw [e] at hnx
          rw [if_neg (show ¬ (rd l (n : Int) > rd l (rAt (some b))) by rw [eb]; unfold hi at hg; omega)]
          exact hnx
theorem refI_l0 (l : List Int) (but : Int) (hl : l.length ≤ 9223372036854775806) :
    ∀ m n k, n + m = l.length → m < k → turnspitref13_Idlest.l0 k l but (rAt (bestN lo l but n)) (n : Int) = some (bAt (bestN lo l but l.length), (bestN lo l but l.length).isSome) := by
  intro m
  induction m with
  | zero =>
    intro n k hn hk
    obtain ⟨k, rfl⟩ : ∃ j, k = j + 1 := ⟨k - 1, by omega⟩
    unfold turnspitref13_Idlest.l0
    rw [if_neg (by omega), rAt_end]
    have : n = l.length := by omega
    rw [this]
  | succ m ih =>
    intro n k hn hk
    obtain ⟨k, rfl⟩ : ∃ j, k = j + 1 := ⟨k - 1, by omega⟩
    have hnx := ih (n + 1) k (by omega) (by omega)
    unfold turnspitref13_Idlest.l0
    rw [if_pos (by omega), wrap_succ n l.length (by omega) hl]
    by_cases hb : (n : Int) = but
    · rw [if_pos hb]
      have e : bestN lo l but (n + 1) = bestN lo l but n := by rw [bestN, if_pos hb]
      rw [e] at hnx
      exact hnx
    · rw [if_neg hb]
      cases hc : bestN lo l but n with
      | none =>
        have e : bestN lo l but (n + 1) = some n := by rw [bestN, if_neg hb, hc]
        rw [e] at hnx
        rw [if_pos (by decide)]
        exact hnx
      | some b =>
        have hlt := bestN_lt lo l but n b hc
        have eb : rAt (some b) = (b : Int) := rfl
        rw [if_neg (by rw [eb]; omega), if_pos (by omega), if_pos (by rw [eb]; omega), if_pos (by rw [eb]; omega)]
        by_cases hg : lo (rd l (b : Int)) < lo (rd l (n : Int))
        · have e : bestN lo l but (n + 1) = some n := by rw [bestN, if_neg hb, hc]; simp only; rw [if_pos hg]
          rw [e] at hnx
          rw [if_pos (show rd l (n : Int) < rd l (rAt (some b)) by rw [eb]; unfold lo at hg; omega)]
          exact hnx
        · have e : bestN lo l but (n + 1) = some b := by rw [bestN, if_neg hb, hc]; simp only; rw [if_neg hg]
          rw [e] at hnx
          rw [if_neg (show ¬ (rd l (n : Int) < rd l (rAt (some b))) by rw [eb]; unfold lo at hg; omega)]
          exact hnx
theorem refBusiest_f (l : List Int) (but : Int) (k : Nat) (hl : l.length ≤ 9223372036854775806) (hk : l.length < k) : turnspitref13_Busiest.f k l but = some (bAt (bestN hi l but l.length), (bestN hi l but l.length).isSome) :=
  refB_l0 l but hl l.length 0 k (by omega) hk
theorem refIdlest_f (l : List Int) (but : Int) (k : Nat) (hl : l.length ≤ 9223372036854775806) (hk : l.length < k) : turnspitref13_Idlest.f k l but = some (bAt (bestN lo l but l.length), (bestN lo l but l.length).isSome) :=
  refI_l0 l but hl l.length 0 k (by omega) hk
theorem ints_l0 (a b : List Int) (hl : a.length ≤ 9223372036854775806) (hab : a = b) : ∀ m n k, n + m = a.length → m < k → turnspitref04_Ints.l0 k a b (n : Int) = some true := by
  subst hab
  intro m
  induction m with
  | zero =>
    intro n k hn hk
    obtain ⟨k, rfl⟩ : ∃ j, k = j + 1 := ⟨k - 1, by omega⟩
    unfold turnspitref04_Ints.l0
    rw [if_neg (by omega)]
  | succ m ih =>
    intro n k hn hk
    obtain ⟨k, rfl⟩ : ∃ j, k = j + 1 := ⟨k - 1, by omega⟩
    unfold turnspitref04_Ints.l0
    rw [if_pos (by omega), if_pos (by omega), if_pos (by omega), if_pos rfl, wrap_succ n a.length (by omega) hl]
    exact ih (n + 1) k (by omega) (by omega)
theorem ints_f (a : List Int) (k : Nat) (hl : a.length ≤ 9223372036854775806) (hk : a.length < k) : turnspitref04_Ints.f k a a = some true := by
  unfold turnspitref04_Ints.f
  rw [if_pos rfl]
  exact ints_l0 a a hl rfl a.length 0 k (by omega) hk
end Go.Proofs.Ytkhdfbmkikiapaa.Pure

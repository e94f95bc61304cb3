/- cpus.Parse's own function 'number': its contract. -/
import Derived.Test.YthnbmepdolfbnaaDoorPureText
import Derived.Test.YthnbmepdolfbnaaDoorG
import Derived.WalkSpells
import Derived.Deep.QuietTactic
import Derived.BigQuiet
import Derived.Outline
namespace Go.Proofs.YthnbmepdolfbnaaDoor.Pure
set_option linter.unusedVariables false
set_option linter.unusedSimpArgs false
def valL (l : List UInt8) : Nat := l.foldl (fun n b => n * 10 + (b.toNat - 48)) 0
theorem valL_snoc (l : List UInt8) (b : UInt8) : valL (l ++ [b]) = valL l * 10 + (b.toNat - 48) := by unfold valL; rw [List.foldl_append]; rfl
theorem isD_iff (b : UInt8) : isD b = true ↔ 48 ≤ b.toNat ∧ b.toNat ≤ 57 := by simp [isD]
theorem numV1 (a : UInt8) : numV [a] = if isD a then some (a.toNat - 48) else none := rfl
theorem numV2 (a b : UInt8) : numV [a, b] = if isD a = true ∧ isD b = true ∧ a.toNat ≠ 48 ∧ 10 * (a.toNat - 48) + (b.toNat - 48) < 64 then some (10 * (a.toNat - 48) + (b.toNat - 48)) else none := rfl
/-- What 'number' tells of the digits that it has read, at most three. -/
def tells (t : List UInt8) : Option Nat := if t = [] ∨ (1 < t.length ∧ t.head? = some 48) ∨ 64 ≤ valL t then none else some (valL t)
theorem tells_num (t d : List UInt8) (ht : ∀ x ∈ t, isD x = true) (h3 : t.length ≤ 3) (h1 : t.length < 3 → d = t) (h2 : t.length = 3 → 3 ≤ d.length) : tells t = numV d ∧ (numV d ≠ none → d = t) := by
  match t, h3 with
  | [], _ => rw [h1 (by simp)]; exact ⟨rfl, fun _ => rfl⟩
  | [a], _ =>
    rw [h1 (by simp)]
    have ha := (isD_iff a).1 (ht a (by simp))
    refine ⟨?_, fun _ => rfl⟩
    rw [numV1, if_pos (ht a (by simp))]
    unfold tells
    rw [if_neg]
    · simp [valL]
    · simp [valL]; omega
  | [a, b], _ =>
    rw [h1 (by simp)]
    have ha := (isD_iff a).1 (ht a (by simp))
    have hb := (isD_iff b).1 (ht b (by simp))
    refine ⟨?_, fun _ => rfl⟩
    rw [numV2]
    unfold tells
    have e : valL [a, b] = 10 * (a.toNat - 48) + (b.toNat - 48) := by simp [valL]; omega
    rw [e]
    have h48 : (a = 48) ↔ a.toNat = 48 := ⟨fun h => by rw [h]; rfl, fun h => UInt8.toNat_inj.1 h⟩
    by_cases hc : isD a = true ∧ isD b = true ∧ a.toNat ≠ 48 ∧ 10 * (a.toNat - 48) + (b.toNat - 48) < 64
    · rw [if_pos hc, if_neg]
      simp only [List.head?_cons, Option.some.injEq, h48, List.length_cons, List.length_nil]
      rintro (h | ⟨_, h⟩ | h)
      · cases h
      · exact hc.2.2.1 h
      · omega
    · rw [if_neg hc, if_pos]
      simp only [List.head?_cons, Option.some.injEq, h48, List.length_cons, List.length_nil]
      by_cases h4 : a.toNat = 48
      · exact .inr (.inl ⟨by omega, h4⟩)
      · refine .inr (.inr ?_)
        by_cases h5 : 10 * (a.toNat - 48) + (b.toNat - 48) < 64
        · exact absurd ⟨ht a (by simp), ht b (by simp), h4, h5⟩ hc
        · omega
  | [a, b, c], _ =>
    have hd := h2 rfl
    have hn : numV d = none := by
      match d, hd with
      | _ :: _ :: _ :: _, _ => rfl
    have ha := (isD_iff a).1 (ht a (by simp))
    have hb := (isD_iff b).1 (ht b (by simp))
    have hc := (isD_iff c).1 (ht c (by simp))
    refine ⟨?_, fun h => absurd hn h⟩
    rw [hn]
    unfold tells
    have h48 : (a = 48) ↔ a.toNat = 48 := ⟨fun h => by rw [h]; rfl, fun h => UInt8.toNat_inj.1 h⟩
    have e : valL [a, b, c] = 100 * (a.toNat - 48) + 10 * (b.toNat - 48) + (c.toNat - 48) := by simp [valL]; omega
    rw [if_pos]
    simp only [List.head?_cons, Option.some.injEq, h48, List.length_cons, List.length_nil, e]
    by_cases h4 : a.toNat = 48
    · exact .inr (.inl ⟨by omega, h4⟩)
    · exact .inr (.inr (by omega))
  | _ :: _ :: _ :: _ :: _, h => simp at h
/-- The digits read from p on, up to i. -/
def sub (l : List UInt8) (p i : Nat) : List UInt8 := (l.drop p).take (i - p)
theorem sub_snoc (l : List UInt8) (p i : Nat) (h : p ≤ i) (hi : i < l.length) : sub l p (i + 1) = sub l p i ++ [l[i]] := by
  unfold sub
  rw [show i + 1 - p = (i - p) + 1 by omega, List.take_succ_eq_append_getElem (by simp; omega)]
  congr 2
  rw [List.getElem_drop]
  congr 1
  omega
theorem sub_len (l : List UInt8) (p i : Nat) (h : p ≤ i) (hi : i ≤ l.length) : (sub l p i).length = i - p := by
  unfold sub; simp; omega
theorem sub_self (l : List UInt8) (p : Nat) : sub l p p = [] := by unfold sub; simp
theorem sub_head (l : List UInt8) (p i : Nat) (h : p < i) (hi : i ≤ l.length) : (sub l p i).head? = some (l[p]'(by omega)) := by
  unfold sub
  rw [List.drop_eq_getElem_cons (by omega), show i - p = (i - p - 1) + 1 by omega]
  rfl
/-- Where reading ends: nothing is left, or what stands there is no digit, or three have been read. -/
theorem sub_end (l : List UInt8) (p i : Nat) (h : p ≤ i) (hi : i ≤ l.length) (hd : ∀ x ∈ sub l p i, isD x = true) (h3 : i ≤ p + 3) (he : i = l.length ∨ i = p + 3 ∨ ∃ hl : i < l.length, isD l[i] = false) :
    tells (sub l p i) = numV ((l.drop p).takeWhile isD) ∧ (numV ((l.drop p).takeWhile isD) ≠ none → (l.drop p).takeWhile isD = sub l p i) := by
  have hlen := sub_len l p i h hi
  have hcut : l.drop p = sub l p i ++ l.drop i := by
    unfold sub
    have := (List.take_append_drop (i - p) (l.drop p)).symm
    rw [List.drop_drop, show p + (i - p) = i by omega] at this
    exact this
  have happ : ∀ (a b : List UInt8), (∀ x ∈ a, isD x = true) → (a ++ b).takeWhile isD = a ++ b.takeWhile isD := by
    intro a b
    induction a with
    | nil => intro _; rfl
    | cons x a ih => intro h; rw [List.cons_append, List.takeWhile_cons, h x List.mem_cons_self, if_pos rfl, ih (fun y hy => h y (List.mem_cons_of_mem _ hy))]; rfl
  have htw : (l.drop p).takeWhile isD = sub l p i ++ (l.drop i).takeWhile isD := by rw [hcut]; exact happ _ _ hd
  refine tells_num (sub l p i) _ hd (by omega) (fun h3' => ?_) (fun h3' => ?_)
  · rw [htw]
    rcases he with he | he | ⟨hl, he⟩
    · rw [he, List.drop_length]; simp
    · omega
    · rw [List.drop_eq_getElem_cons hl, List.takeWhile_cons, he, if_neg Bool.false_ne_true, List.append_nil]
  · rw [htw, List.length_append]; omega
theorem valL_lt : ∀ (t : List UInt8), (∀ x ∈ t, isD x = true) → t.length ≤ 3 → valL t ≤ 999 := by
  intro t ht h3
  match t, h3 with
  | [], _ => decide
  | [a], _ => have ha := (isD_iff a).1 (ht a (by simp)); simp [valL]; omega
  | [a, b], _ => have ha := (isD_iff a).1 (ht a (by simp)); have hb := (isD_iff b).1 (ht b (by simp)); simp [valL]; omega
  | [a, b, c], _ => have ha := (isD_iff a).1 (ht a (by simp)); have hb := (isD_iff b).1 (ht b (by simp)); have hc := (isD_iff c).1 (ht c (by simp)); simp [valL]; omega
  | _ :: _ :: _ :: _ :: _, h => simp at h
end Go.Proofs.YthnbmepdolfbnaaDoor.Pure

/- Texts of masks: runs, items, what is parsed: plain lists of bytes. -/
import Derived.Lib.ParseIntB
import Derived.Lib.ItoaMem
import Derived.Lib.IndexMore
import Derived.Lib.SplitLaws
import Derived.Lib.Split
namespace Go.Proofs.YtilmbpdfdickoaaDoor.Pure
set_option linter.unusedVariables false
set_option linter.unusedSimpArgs false
/-- A CPU's text. -/
def dg (n : Nat) : List UInt8 := if n < 10 then [UInt8.ofNat (48 + n)] else [UInt8.ofNat (48 + n / 10), UInt8.ofNat (48 + n % 10)]
def isD (b : UInt8) : Bool := decide (48 ≤ b.toNat) && decide (b.toNat ≤ 57)
/-- A number's value, if it is a CPU's. -/
def numV : List UInt8 → Option Nat
  | [a] => if isD a then some (a.toNat - 48) else none
  | [a, b] => if isD a = true ∧ isD b = true ∧ a.toNat ≠ 48 ∧ 10 * (a.toNat - 48) + (b.toNat - 48) < 64 then some (10 * (a.toNat - 48) + (b.toNat - 48)) else none
  | _ => none
theorem numV_lt {p : List UInt8} {n : Nat} (h : numV p = some n) : n < 64 := by
  unfold numV at h
  split at h
  · split at h
    · rename_i a ha
      simp [isD] at ha
      simp at h
      omega
    · cases h
  · split at h
    · rename_i hc
      simp at h
      omega
    · cases h
  · cases h
theorem numV_dig {p : List UInt8} {n : Nat} (h : numV p = some n) : ∀ x ∈ p, isD x = true := by
  unfold numV at h
  split at h
  · split at h
    · rename_i ha; intro x hx; simp at hx; rw [hx]; exact ha
    · cases h
  · split at h
    · rename_i hc; intro x hx; simp at hx; rcases hx with rfl | rfl; exact hc.1; exact hc.2.1
    · cases h
  · cases h
theorem numV_bad {p : List UInt8} {x : UInt8} (hx : x ∈ p) (hd : isD x = false) : numV p = none := by
  cases h : numV p with
  | none => rfl
  | some n => exact absurd (numV_dig h x hx) (by rw [hd]; decide)
theorem numV_dg : ∀ n : Fin 64, numV (dg n.val) = some n.val := by decide
theorem numV_dg' (n : Nat) (h : n < 64) : numV (dg n) = some n := numV_dg ⟨n, h⟩
theorem dg_dig : ∀ n : Fin 64, (dg n.val).all isD = true := by decide
theorem dg_dig' (n : Nat) (h : n < 64) : ∀ x ∈ dg n, isD x = true := List.all_eq_true.1 (dg_dig ⟨n, h⟩)
theorem dg_len (n : Nat) : 1 ≤ (dg n).length ∧ (dg n).length ≤ 2 := by unfold dg; split <;> simp
/-! ### Parted at a sign -/
def splitL (c : UInt8) : List UInt8 → List (List UInt8)
  | [] => [[]]
  | x :: l => if x = c then [] :: splitL c l else match splitL c l with
    | [] => [[x]]
    | h :: t => (x :: h) :: t
theorem splitL_ne (c : UInt8) (l : List UInt8) : splitL c l ≠ [] := by
  cases l with
  | nil => simp [splitL]
  | cons x l =>
    rw [splitL]
    split
    · simp
    · split <;> simp
theorem splitL_none (c : UInt8) : ∀ l : List UInt8, c ∉ l → splitL c l = [l] := by
  intro l
  induction l with
  | nil => intro _; rfl
  | cons x l ih =>
    intro h
    rw [splitL, if_neg (fun e => h (by rw [e]; exact List.mem_cons_self)), ih (fun hm => h (List.mem_cons_of_mem _ hm))]
theorem splitL_app (c : UInt8) (r : List UInt8) : ∀ l : List UInt8, c ∉ l → splitL c (l ++ c :: r) = l :: splitL c r := by
  intro l
  induction l with
  | nil => intro _; rw [List.nil_append, splitL, if_pos rfl]
  | cons x l ih =>
    intro h
    rw [List.cons_append, splitL, if_neg (fun e => h (by rw [e]; exact List.mem_cons_self)), ih (fun hm => h (List.mem_cons_of_mem _ hm))]
/-- A text is its first piece, or its first piece and what stands behind the sign. -/
theorem first_piece (c : UInt8) : ∀ l : List UInt8, c ∉ l ∨ ∃ a r, l = a ++ c :: r ∧ c ∉ a := by
  intro l
  induction l with
  | nil => exact .inl (by simp)
  | cons x l ih =>
    by_cases hx : x = c
    · exact .inr ⟨[], l, by rw [hx]; rfl, by simp⟩
    · rcases ih with h | ⟨a, r, rfl, h⟩
      · exact .inl (by simp only [List.mem_cons, not_or]; exact ⟨fun e => hx e.symm, h⟩)
      · exact .inr ⟨x :: a, r, rfl, by simp only [List.mem_cons, not_or]; exact ⟨fun e => hx e.symm, h⟩⟩
/-! ### Items -/
def span (a b : Nat) : Nat := 2 ^ (b + 1) - 2 ^ a
def itemV (it : List UInt8) : Option (Nat × Nat) := match splitL 45 it with
  | [p] => match numV p with
    | none => none
    | some n => some (n, n)
  | [p, q] => match numV p with
    | none => none
    | some a => match numV q with
      | none => none
      | some b => if b < a then none else some (a, b)
  | _ => none
def parseL : List (List UInt8) → Nat → Option Nat
  | [], m => some m
  | it :: its, m => match itemV it with
    | none => none
    | some (a, b) => parseL its (m ||| span a b)
def parseT (l : List UInt8) : Option Nat := parseL (splitL 44 l) 0
theorem span_bit (a b i : Nat) (h : a ≤ b + 1) : (span a b).testBit i = (decide (a ≤ i) && decide (i ≤ b)) := by
  have hp : 2 ^ a ≤ 2 ^ (b + 1) := Nat.pow_le_pow_right (by decide) h
  have e : span a b = 2 ^ (b + 1) - 1 - (2 ^ a - 1) := by unfold span; have : 0 < 2 ^ a := Nat.two_pow_pos a; omega
  have e2 : 2 ^ (b + 1) - 1 - (2 ^ a - 1) = 2 ^ (b + 1) - ((2 ^ a - 1) + 1) := by omega
  have h1 : 2 ^ a - 1 < 2 ^ (b + 1) := by have : 0 < 2 ^ a := Nat.two_pow_pos a; omega
  rw [e, e2, Nat.testBit_two_pow_sub_succ h1, Nat.testBit_two_pow_sub_one]
  rw [Bool.eq_iff_iff]
  simp
  omega
theorem span_or (m a b : Nat) (h : a ≤ b) : (m ||| span a a) ||| span a b = m ||| span a b := by
  apply Nat.eq_of_testBit_eq
  intro i
  rw [Nat.testBit_or, Nat.testBit_or, Nat.testBit_or, span_bit a a i (by omega), span_bit a b i (by omega)]
  by_cases h1 : a ≤ i <;> by_cases h2 : i ≤ a <;> by_cases h3 : i ≤ b <;> simp [h1, h2, h3] <;> omega
/-! ### What the program does -/
def progP : Nat → Bool → Nat → Nat → List UInt8 → Option Nat
  | 0, _, _, _, _ => none
  | f + 1, dash, frm, m, l => match numV (l.takeWhile isD) with
    | none => none
    | some n => if n < (if dash then frm else n) then none else match l.dropWhile isD with
      | [] => some (m ||| span (if dash then frm else n) n)
      | x :: r => if x = 44 ∨ (x = 45 ∧ dash = false) then progP f (x == 45) (if dash then frm else n) (m ||| span (if dash then frm else n) n) r else none
theorem parts (l : List UInt8) : l = l.takeWhile isD ++ l.dropWhile isD := List.takeWhile_append_dropWhile.symm
theorem take_dig (d : List UInt8) (hd : ∀ x ∈ d, isD x = true) (t : List UInt8) (ht : ∀ x r, t = x :: r → isD x = false) : (d ++ t).takeWhile isD = d ∧ (d ++ t).dropWhile isD = t := by
  induction d with
  | nil =>
    cases t with
    | nil => exact ⟨rfl, rfl⟩
    | cons x r => rw [List.nil_append, List.takeWhile_cons, List.dropWhile_cons, ht x r rfl]; exact ⟨rfl, rfl⟩
  | cons y d ih =>
    obtain ⟨h1, h2⟩ := ih (fun x hx => hd x (List.mem_cons_of_mem _ hx))
    have hy := hd y List.mem_cons_self
    rw [List.cons_append, List.takeWhile_cons, List.dropWhile_cons, hy, if_pos rfl, if_pos rfl, h1, h2]
    exact ⟨rfl, rfl⟩
/-- A text's digits ahead, and what stands behind. -/
theorem digits_of (l : List UInt8) : ∃ d e, l = d ++ e ∧ (∀ x ∈ d, isD x = true) ∧ (∀ x r, e = x :: r → isD x = false) := by
  induction l with
  | nil => exact ⟨[], [], rfl, by simp, by simp⟩
  | cons x l ih =>
    by_cases hx : isD x = true
    · obtain ⟨d, e, rfl, h1, h2⟩ := ih
      exact ⟨x :: d, e, rfl, fun y hy => (List.mem_cons.1 hy).elim (fun e => e ▸ hx) (fun hy => h1 y hy), h2⟩
    · exact ⟨[], x :: l, rfl, by simp, fun y r e => by cases e; simpa using hx⟩
theorem d44 : isD 44 = false := by decide
theorem d45 : isD 45 = false := by decide
theorem e_notD {e t : List UInt8} (h1 : ∀ x r, e = x :: r → isD x = false) (h2 : ∀ x r, t = x :: r → isD x = false) : ∀ x r, e ++ t = x :: r → isD x = false := by
  intro x r h
  cases e with
  | nil => exact h2 x r h
  | cons y e =>
    rw [List.cons_append] at h
    injection h with e1 e2
    exact e1 ▸ h1 y e rfl
/-- What stands behind an item: nothing, or a comma and more. -/
def Tail (t : List UInt8) (its : List (List UInt8)) : Prop := (t = [] ∧ its = []) ∨ ∃ r, t = 44 :: r ∧ its = splitL 44 r
theorem Tail.notD {t : List UInt8} {its} (h : Tail t its) : ∀ x r, t = x :: r → isD x = false := by
  rintro x r rfl
  rcases h with ⟨h, _⟩ | ⟨r', h, _⟩
  · cases h
  · cases h; exact d44
theorem prog_is : ∀ (f : Nat) (it t : List UInt8) (its : List (List UInt8)) (m frm : Nat), it.length + t.length < f → 44 ∉ it → Tail t its →
    progP f false frm m (it ++ t) = parseL (it :: its) m ∧ (∀ a, progP f true a m (it ++ t) = match numV it with
      | none => none
      | some n => if n < a then none else parseL its (m ||| span a n)) := by
  intro f
  induction f with
  | zero => intro it t its m frm h; omega
  | succ f ih =>
    intro it t its m frm hf h44 hT
    obtain ⟨d, e, rfl, hd, he⟩ := digits_of it
    have hcut := take_dig d hd (e ++ t) (e_notD he hT.notD)
    rw [← List.append_assoc] at hcut
    -- behind the item: the comma
    have next : ∀ q : Nat, (match t with
        | [] => some q
        | x :: r => if x = 44 ∨ (x = 45 ∧ true = false) then progP f (x == 45) 0 q r else none) = parseL its q := by
      intro q
      rcases hT with ⟨rfl, rfl⟩ | ⟨r, rfl, rfl⟩
      · rfl
      · show (if (44 : UInt8) = 44 ∨ _ then progP f ((44 : UInt8) == 45) 0 q r else none) = _
        rw [if_pos (.inl rfl), show ((44 : UInt8) == 45) = false from by decide]
        rcases first_piece 44 r with h | ⟨a, r', rfl, h⟩
        · rw [splitL_none 44 r h]
          have := (ih r [] [] q 0 (by simp only [List.length_append, List.length_cons, List.length_nil] at hf ⊢; omega) h (.inl ⟨rfl, rfl⟩)).1
          rw [List.append_nil] at this
          exact this
        · rw [splitL_app 44 r' a h]
          exact (ih a (44 :: r') (splitL 44 r') q 0 (by simp only [List.length_append, List.length_cons] at hf ⊢; omega) h (.inr ⟨r', rfl, rfl⟩)).1
    have frmfree : ∀ (g : Nat) (q x y : Nat) (l : List UInt8), progP g false x q l = progP g false y q l := by
      intro g q x y l
      cases g with
      | zero => rfl
      | succ g => rw [progP, progP]; rfl
    have next' : ∀ (q a : Nat) (b : Bool), e = [] → (match e ++ t with
        | [] => some q
        | x :: r => if x = 44 ∨ (x = 45 ∧ b = false) then progP f (x == 45) a q r else none) = parseL its q := by
      intro q a b h0
      rw [h0, List.nil_append, ← next q]
      rcases hT with ⟨rfl, rfl⟩ | ⟨r, rfl, rfl⟩
      · rfl
      · show (if (44 : UInt8) = 44 ∨ _ then progP f ((44 : UInt8) == 45) a q r else none) = (if (44 : UInt8) = 44 ∨ _ then progP f ((44 : UInt8) == 45) 0 q r else none)
        rw [if_pos (.inl rfl), if_pos (.inl rfl), show ((44 : UInt8) == 45) = false from by decide]
        exact frmfree f q a 0 r
    refine ⟨?_, fun a => ?_⟩
    · -- ahead: a comma, or nothing
      rw [progP, hcut.1, hcut.2, parseL]
      cases hn : numV d with
      | none =>
        have : itemV (d ++ e) = none := by
          unfold itemV
          cases e with
          | nil =>
            rw [List.append_nil, splitL_none 45 d (fun h => by have := hd _ h; rw [d45] at this; cases this)]
            simp only [hn]
          | cons x e =>
            by_cases hx : x = 45
            · subst hx
              rw [splitL_app 45 e d (fun h => by have := hd _ h; rw [d45] at this; cases this)]
              cases hs : splitL 45 e with
              | nil => exact absurd hs (splitL_ne 45 e)
              | cons u v => cases v with
                | nil => simp only [hn]
                | cons _ _ => rfl
            · have hxd := he x e rfl
              rcases first_piece 45 (d ++ x :: e) with h | ⟨p, r, hp, h⟩
              · have hb := numV_bad (p := d ++ x :: e) (x := x) (by simp) hxd
                rw [splitL_none 45 _ h]
                simp only [hb]
              · rw [hp, splitL_app 45 r p h]
                have hxp : x ∈ p := by
                  have hlen : d.length < p.length := by
                    by_cases hl : d.length < p.length
                    · exact hl
                    · exfalso
                      have h1 := congrArg (fun l => l[p.length]?) hp
                      rw [List.getElem?_append_right (Nat.le_refl _), Nat.sub_self, List.getElem?_cons_zero] at h1
                      by_cases hl2 : p.length < d.length
                      · rw [List.getElem?_append_left hl2] at h1
                        have := hd 45 (List.mem_of_getElem? h1)
                        rw [d45] at this; cases this
                      · have : p.length = d.length := by omega
                        rw [this, List.getElem?_append_right (Nat.le_refl _), Nat.sub_self, List.getElem?_cons_zero] at h1
                        exact hx (Option.some.inj h1)
                  have h1 := congrArg (fun l => l[d.length]?) hp
                  rw [List.getElem?_append_right (Nat.le_refl _), Nat.sub_self, List.getElem?_cons_zero, List.getElem?_append_left hlen] at h1
                  exact List.mem_of_getElem? h1.symm
                have hb := numV_bad hxp hxd
                cases hs : splitL 45 r with
                | nil => exact absurd hs (splitL_ne 45 r)
                | cons u v => cases v with
                  | nil => simp only [hb]
                  | cons _ _ => rfl
        rw [this]
      | some n =>
        show (if n < n then none else match e ++ t with
          | [] => some (m ||| span n n)
          | x :: r => if x = 44 ∨ (x = 45 ∧ false = false) then progP f (x == 45) n (m ||| span n n) r else none) = _
        rw [if_neg (Nat.lt_irrefl n)]
        cases e with
        | nil =>
          have hi : itemV (d ++ []) = some (n, n) := by
            unfold itemV
            rw [List.append_nil, splitL_none 45 d (fun h => by have := hd _ h; rw [d45] at this; cases this)]
            simp only [hn]
          rw [hi]
          exact next' (m ||| span n n) n false rfl
        | cons x e =>
          have hxd := he x e rfl
          have hx44 : x ≠ 44 := fun h => h44 (by rw [h]; simp)
          show (if x = 44 ∨ (x = 45 ∧ false = false) then progP f (x == 45) n (m ||| span n n) (e ++ t) else none) = _
          by_cases hx : x = 45
          · subst hx
            rw [if_pos (.inr ⟨rfl, rfl⟩), show ((45 : UInt8) == 45) = true from by decide]
            have hI := (ih e t its (m ||| span n n) 0 (by simp only [List.length_append, List.length_cons] at hf ⊢; omega) (fun h => h44 (by simp [h])) hT).2 n
            rw [hI]
            have hs := splitL_app 45 e d (fun h => by have := hd _ h; rw [d45] at this; cases this)
            rcases first_piece 45 e with h | ⟨p, r, hp, h⟩
            · have hi : itemV (d ++ 45 :: e) = match numV e with
                  | none => none
                  | some b => if b < n then none else some (n, b) := by
                unfold itemV
                rw [hs, splitL_none 45 e h]
                simp only [hn]
              rw [hi]
              cases hq : numV e with
              | none => rfl
              | some b =>
                by_cases hb : b < n
                · simp only [if_pos hb]
                · simp only [if_neg hb]
                  rw [span_or m n b (by omega)]
            · have hi : itemV (d ++ 45 :: e) = none := by
                unfold itemV
                rw [hs, hp, splitL_app 45 r p h]
                cases hs2 : splitL 45 r with
                | nil => exact absurd hs2 (splitL_ne 45 r)
                | cons u v => rfl
              rw [hi, numV_bad (x := 45) (by rw [hp]; simp) d45]
          · rw [if_neg (fun h => h.elim hx44 (fun h => hx h.1))]
            have hi : itemV (d ++ x :: e) = none := by
              unfold itemV
              rcases first_piece 45 (d ++ x :: e) with h | ⟨p, r, hp, h⟩
              · have hb := numV_bad (p := d ++ x :: e) (x := x) (by simp) hxd
                rw [splitL_none 45 _ h]
                simp only [hb]
              · rw [hp, splitL_app 45 r p h]
                have hxp : x ∈ p := by
                  have hlen : d.length < p.length := by
                    by_cases hl : d.length < p.length
                    · exact hl
                    · exfalso
                      have h1 := congrArg (fun l => l[p.length]?) hp
                      rw [List.getElem?_append_right (Nat.le_refl _), Nat.sub_self, List.getElem?_cons_zero] at h1
                      by_cases hl2 : p.length < d.length
                      · rw [List.getElem?_append_left hl2] at h1
                        have := hd 45 (List.mem_of_getElem? h1)
                        rw [d45] at this; cases this
                      · have : p.length = d.length := by omega
                        rw [this, List.getElem?_append_right (Nat.le_refl _), Nat.sub_self, List.getElem?_cons_zero] at h1
                        exact hx (Option.some.inj h1)
                  have h1 := congrArg (fun l => l[d.length]?) hp
                  rw [List.getElem?_append_right (Nat.le_refl _), Nat.sub_self, List.getElem?_cons_zero, List.getElem?_append_left hlen] at h1
                  exact List.mem_of_getElem? h1.symm
                have hb := numV_bad hxp hxd
                cases hs : splitL 45 r with
                | nil => exact absurd hs (splitL_ne 45 r)
                | cons u v => cases v with
                  | nil => simp only [hb]
                  | cons _ _ => rfl
            rw [hi]
    · -- ahead: a dash
      rw [progP, hcut.1, hcut.2]
      simp only [if_true]
      cases e with
      | nil =>
        rw [List.append_nil]
        cases hn : numV d with
        | none => rfl
        | some n =>
          by_cases hna : n < a
          · simp only [if_pos hna]
          · simp only [if_neg hna]
            exact next' (m ||| span a n) a true rfl
      | cons x e =>
        have hxd := he x e rfl
        have hx44 : x ≠ 44 := fun h => h44 (by rw [h]; simp)
        rw [numV_bad (p := d ++ x :: e) (x := x) (by simp) hxd]
        cases hn : numV d with
        | none => rfl
        | some n =>
          by_cases hna : n < a
          · simp only [if_pos hna]
          · simp only [if_neg hna]
            show (if x = 44 ∨ (x = 45 ∧ true = false) then progP f (x == 45) a (m ||| span a n) (e ++ t) else none) = none
            rw [if_neg (fun h => h.elim hx44 (fun h => by cases h.2))]
theorem prog_parse (l : List UInt8) (f : Nat) (hf : l.length < f) (frm : Nat) : progP f false frm 0 l = parseT l := by
  unfold parseT
  rcases first_piece 44 l with h | ⟨a, r, rfl, h⟩
  · have := (prog_is f l [] [] 0 frm (by simpa using hf) h (.inl ⟨rfl, rfl⟩)).1
    rw [List.append_nil] at this
    rw [splitL_none 44 l h]
    exact this
  · rw [splitL_app 44 r a h]
    exact (prog_is f a (44 :: r) (splitL 44 r) 0 frm (by simpa using hf) h (.inr ⟨r, rfl, rfl⟩)).1
end Go.Proofs.YtilmbpdfdickoaaDoor.Pure
/- A mask's text: its runs; what is parsed of it is the mask again: plain. -/
namespace Go.Proofs.YtilmbpdfdickoaaDoor.Pure
set_option linter.unusedVariables false
set_option linter.unusedSimpArgs false
def lastR (M : Nat) : Nat → Nat → Nat
  | c, 0 => c
  | c, d + 1 => if M.testBit (c + 1) then lastR M (c + 1) d else c
def isStart (M c : Nat) : Bool := M.testBit c && (c == 0 || !M.testBit (c - 1))
def runs (M : Nat) : Nat → List (Nat × Nat)
  | 0 => []
  | c + 1 => if isStart M c then runs M c ++ [(c, lastR M c 64)] else runs M c
def itemT (r : Nat × Nat) : List UInt8 := if r.1 < r.2 then dg r.1 ++ 45 :: dg r.2 else dg r.1
def joinT : List (List UInt8) → List UInt8
  | [] => []
  | [x] => x
  | x :: y :: r => x ++ 44 :: joinT (y :: r)
def txt (M i : Nat) : List UInt8 := joinT ((runs M i).map itemT)
def printL (M : Nat) : List UInt8 := if M = 0 then [45] else txt M 64
theorem joinT_snoc : ∀ (l : List (List UInt8)) (y : List UInt8), joinT (l ++ [y]) = if l = [] then y else joinT l ++ 44 :: y := by
  intro l
  induction l with
  | nil => intro y; rfl
  | cons x l ih =>
    intro y
    rw [if_neg (by simp)]
    cases l with
    | nil => rfl
    | cons z l =>
      have h := ih y
      rw [if_neg (by simp)] at h
      show x ++ 44 :: joinT ((z :: l) ++ [y]) = (x ++ 44 :: joinT (z :: l)) ++ 44 :: y
      rw [h, List.append_assoc]
      rfl
theorem itemT_ne (r : Nat × Nat) : itemT r ≠ [] := by
  unfold itemT dg
  split <;> split <;> simp
theorem joinT_nil (l : List (Nat × Nat)) : joinT (l.map itemT) = [] ↔ l = [] := by
  cases l with
  | nil => simp [joinT]
  | cons x l =>
    cases l with
    | nil => simp [joinT, itemT_ne]
    | cons y l => simp [joinT]
theorem txt_succ (M i : Nat) : txt M (i + 1) = if isStart M i then (if txt M i = [] then itemT (i, lastR M i 64) else txt M i ++ 44 :: itemT (i, lastR M i 64)) else txt M i := by
  unfold txt
  rw [runs]
  by_cases h : isStart M i = true
  · rw [if_pos h, if_pos h, List.map_append, List.map_cons, List.map_nil, joinT_snoc]
    by_cases hr : runs M i = []
    · rw [if_pos (by rw [hr]; rfl), if_pos ((joinT_nil _).2 hr)]
    · rw [if_neg (by simpa using hr), if_neg (fun h => hr ((joinT_nil _).1 h))]
  · rw [if_neg h, if_neg h]
/-! ### The last one of a run -/
theorem lastR_ge (M : Nat) : ∀ d c, c ≤ lastR M c d := by
  intro d
  induction d with
  | zero => intro c; exact Nat.le_refl _
  | succ d ih =>
    intro c
    rw [lastR]
    split
    · have := ih (c + 1); omega
    · exact Nat.le_refl _
theorem lastR_in (M : Nat) : ∀ d c, M.testBit c = true → ∀ i, c ≤ i → i ≤ lastR M c d → M.testBit i = true := by
  intro d
  induction d with
  | zero => intro c hc i h1 h2; rw [lastR] at h2; obtain rfl : i = c := by omega
            exact hc
  | succ d ih =>
    intro c hc i h1 h2
    rw [lastR] at h2
    split at h2
    · by_cases e : i = c
      · rw [e]; exact hc
      · exact ih (c + 1) (by assumption) i (by omega) h2
    · obtain rfl : i = c := by omega
      exact hc
theorem bit_lt {M i : Nat} (hM : M < 2 ^ 64) (h : M.testBit i = true) : i < 64 := by
  by_cases hi : i < 64
  · exact hi
  · rw [Nat.testBit_lt_two_pow (Nat.lt_of_lt_of_le hM (Nat.pow_le_pow_right (by decide) (by omega)))] at h
    cases h
theorem lastR_stop (M : Nat) (hM : M < 2 ^ 64) : ∀ d c, 64 ≤ c + d → M.testBit c = true → M.testBit (lastR M c d + 1) = false := by
  intro d
  induction d with
  | zero =>
    intro c hd hc
    have := bit_lt hM hc
    omega
  | succ d ih =>
    intro c hd hc
    rw [lastR]
    split
    · exact ih (c + 1) (by omega) (by assumption)
    · rename_i h
      cases hb : M.testBit (c + 1) with
      | true => exact absurd hb h
      | false => rfl
/-- What is not less and is joined with c by bits that are set is not behind the run's last one. -/
theorem lastR_max (M : Nat) (hM : M < 2 ^ 64) (c : Nat) (hc : M.testBit c = true) (i : Nat) (h : ∀ j, c ≤ j → j ≤ i → M.testBit j = true) : i ≤ lastR M c 64 := by
  by_cases hi : i ≤ lastR M c 64
  · exact hi
  · have h1 := lastR_stop M hM 64 c (by omega) hc
    have h2 := lastR_ge M 64 c
    rw [h (lastR M c 64 + 1) (by omega) (by omega)] at h1
    cases h1
/-! ### Each bit lies in a run -/
theorem start_of (M : Nat) : ∀ k, M.testBit k = true → ∃ a, a ≤ k ∧ isStart M a = true ∧ ∀ j, a ≤ j → j ≤ k → M.testBit j = true := by
  intro k
  induction k with
  | zero =>
    intro h
    refine ⟨0, Nat.le_refl _, by simp [isStart, h], fun j h1 h2 => ?_⟩
    obtain rfl : j = 0 := by omega
    exact h
  | succ k ih =>
    intro h
    cases hk : M.testBit k with
    | true =>
      obtain ⟨a, h1, h2, h3⟩ := ih hk
      refine ⟨a, by omega, h2, fun j g1 g2 => ?_⟩
      by_cases e : j = k + 1
      · rw [e]; exact h
      · exact h3 j g1 (by omega)
    | false =>
      refine ⟨k + 1, Nat.le_refl _, by simp [isStart, h, hk], fun j h1 h2 => ?_⟩
      obtain rfl : j = k + 1 := by omega
      exact h
theorem runs_mem (M : Nat) (r : Nat × Nat) : ∀ i, r ∈ runs M i ↔ r.1 < i ∧ isStart M r.1 = true ∧ r.2 = lastR M r.1 64 := by
  intro i
  induction i with
  | zero => simp [runs]
  | succ i ih =>
    rw [runs]
    split
    · rename_i hs
      rw [List.mem_append, ih, List.mem_singleton]
      constructor
      · rintro (⟨h1, h2, h3⟩ | rfl)
        · exact ⟨by omega, h2, h3⟩
        · exact ⟨Nat.lt_succ_self _, hs, rfl⟩
      · rintro ⟨h1, h2, h3⟩
        by_cases e : r.1 = i
        · refine .inr ?_
          obtain ⟨a, b⟩ := r
          simp only at e h3
          rw [h3, e]
        · exact .inl ⟨by omega, h2, h3⟩
    · rename_i hs
      rw [ih]
      constructor
      · rintro ⟨h1, h2, h3⟩; exact ⟨by omega, h2, h3⟩
      · rintro ⟨h1, h2, h3⟩
        refine ⟨?_, h2, h3⟩
        by_cases e : r.1 = i
        · rw [e] at h2; exact absurd h2 hs
        · omega
def orAll : List (Nat × Nat) → Nat → Nat
  | [], m => m
  | r :: l, m => orAll l (m ||| span r.1 r.2)
theorem orAll_bit (i : Nat) : ∀ (l : List (Nat × Nat)) (m : Nat), (∀ r ∈ l, r.1 ≤ r.2 + 1) → ((orAll l m).testBit i = true ↔ m.testBit i = true ∨ ∃ r ∈ l, r.1 ≤ i ∧ i ≤ r.2) := by
  intro l
  induction l with
  | nil => intro m _; simp [orAll]
  | cons r l ih =>
    intro m h
    rw [orAll, ih _ (fun x hx => h x (List.mem_cons_of_mem _ hx)), Nat.testBit_or, span_bit r.1 r.2 i (h r List.mem_cons_self)]
    simp only [Bool.or_eq_true, Bool.and_eq_true, decide_eq_true_eq, List.mem_cons, exists_eq_or_imp]
    constructor
    · rintro ((h1 | h1) | h1)
      · exact .inl h1
      · exact .inr (.inl h1)
      · exact .inr (.inr h1)
    · rintro (h1 | h1 | h1)
      · exact .inl (.inl h1)
      · exact .inl (.inr h1)
      · exact .inr h1
theorem runs_ok (M : Nat) (hM : M < 2 ^ 64) (i : Nat) : ∀ r ∈ runs M i, r.1 ≤ r.2 ∧ r.2 < 64 ∧ r.1 < 64 := by
  intro r hr
  obtain ⟨h1, h2, h3⟩ := (runs_mem M r i).1 hr
  have hb : M.testBit r.1 = true := by simp [isStart] at h2; exact h2.1
  have h4 := lastR_ge M 64 r.1
  have h5 := bit_lt hM (lastR_in M 64 r.1 hb (lastR M r.1 64) h4 (Nat.le_refl _))
  omega
theorem runs_or (M : Nat) (hM : M < 2 ^ 64) (m : Nat) : orAll (runs M 64) m = m ||| M := by
  apply Nat.eq_of_testBit_eq
  intro i
  rw [Bool.eq_iff_iff, orAll_bit i (runs M 64) m (fun r hr => by have := runs_ok M hM 64 r hr; omega), Nat.testBit_or, Bool.or_eq_true]
  constructor
  · rintro (h | ⟨r, hr, h1, h2⟩)
    · exact .inl h
    · obtain ⟨_, g2, g3⟩ := (runs_mem M r 64).1 hr
      have hb : M.testBit r.1 = true := by simp [isStart] at g2; exact g2.1
      exact .inr (lastR_in M 64 r.1 hb i h1 (by omega))
  · rintro (h | h)
    · exact .inl h
    · obtain ⟨a, h1, h2, h3⟩ := start_of M i h
      have hb := h3 a (Nat.le_refl _) h1
      exact .inr ⟨(a, lastR M a 64), (runs_mem M _ 64).2 ⟨bit_lt hM hb, h2, rfl⟩, h1, lastR_max M hM a hb i h3⟩
/-! ### What is parsed of runs -/
theorem no44 (n : Nat) (h : n < 64) : (44 : UInt8) ∉ dg n := fun hm => by have := dg_dig' n h 44 hm; rw [d44] at this; cases this
theorem no45 (n : Nat) (h : n < 64) : (45 : UInt8) ∉ dg n := fun hm => by have := dg_dig' n h 45 hm; rw [d45] at this; cases this
theorem item_no44 (r : Nat × Nat) (h1 : r.1 < 64) (h2 : r.2 < 64) : (44 : UInt8) ∉ itemT r := by
  unfold itemT
  split
  · intro h
    rcases List.mem_append.1 h with h | h
    · exact no44 _ h1 h
    · rcases List.mem_cons.1 h with h | h
      · cases h
      · exact no44 _ h2 h
  · exact no44 _ h1
theorem itemV_item (r : Nat × Nat) (h1 : r.1 < 64) (h2 : r.2 < 64) (h : r.1 ≤ r.2) : itemV (itemT r) = some r := by
  unfold itemT itemV
  by_cases hlt : r.1 < r.2
  · rw [if_pos hlt, splitL_app 45 _ _ (no45 _ h1), splitL_none 45 _ (no45 _ h2)]
    simp only [numV_dg' _ h1, numV_dg' _ h2, if_neg (Nat.not_lt.2 h)]
  · rw [if_neg hlt, splitL_none 45 _ (no45 _ h1)]
    simp only [numV_dg' _ h1]
    obtain ⟨a, b⟩ := r
    simp only at hlt h ⊢
    rw [show a = b by omega]
theorem split_join : ∀ l : List (List UInt8), l ≠ [] → (∀ x ∈ l, (44 : UInt8) ∉ x) → splitL 44 (joinT l) = l := by
  intro l
  induction l with
  | nil => intro h; exact absurd rfl h
  | cons x l ih =>
    intro _ h
    cases l with
    | nil => exact splitL_none 44 x (h x List.mem_cons_self)
    | cons y l =>
      rw [joinT, splitL_app 44 _ x (h x List.mem_cons_self), ih (by simp) (fun z hz => h z (List.mem_cons_of_mem _ hz))]
theorem parse_items : ∀ (l : List (Nat × Nat)) (m : Nat), (∀ r ∈ l, r.1 ≤ r.2 ∧ r.2 < 64 ∧ r.1 < 64) → ∀ its, parseL (l.map itemT ++ its) m = parseL its (orAll l m) := by
  intro l
  induction l with
  | nil => intro m _ its; rfl
  | cons r l ih =>
    intro m h its
    have hr := h r List.mem_cons_self
    rw [List.map_cons, List.cons_append, parseL, itemV_item r hr.2.2 hr.2.1 hr.1, orAll]
    exact ih _ (fun x hx => h x (List.mem_cons_of_mem _ hx)) its
theorem runs_ne (M : Nat) (hM : M < 2 ^ 64) (h : M ≠ 0) : runs M 64 ≠ [] := by
  intro hr
  have := runs_or M hM 0
  rw [hr] at this
  simp [orAll] at this
  exact h this.symm
theorem split_txt (M : Nat) (hM : M < 2 ^ 64) (h : M ≠ 0) : splitL 44 (txt M 64) = (runs M 64).map itemT := by
  unfold txt
  refine split_join _ (by simpa using runs_ne M hM h) (fun x hx => ?_)
  obtain ⟨r, hr, rfl⟩ := List.mem_map.1 hx
  have := runs_ok M hM 64 r hr
  exact item_no44 r this.2.2 this.2.1
theorem split_two (c : UInt8) : ∀ (a b : List UInt8), splitL c (a ++ c :: b) = splitL c a ++ splitL c b := by
  intro a
  induction a with
  | nil =>
    intro b
    show splitL c (c :: b) = [[]] ++ splitL c b
    rw [show splitL c (c :: b) = [] :: splitL c b from by rw [splitL]; exact if_pos rfl]
    rfl
  | cons x a ih =>
    intro b
    rw [List.cons_append, splitL, splitL]
    by_cases hx : x = c
    · rw [if_pos hx, if_pos hx, ih]; rfl
    · rw [if_neg hx, if_neg hx, ih]
      cases hs : splitL c a with
      | nil => exact absurd hs (splitL_ne c a)
      | cons u v => rfl
theorem parse_txt (M : Nat) (hM : M < 2 ^ 64) (h : M ≠ 0) : parseT (txt M 64) = some M := by
  unfold parseT
  rw [split_txt M hM h]
  have := parse_items (runs M 64) 0 (runs_ok M hM 64) []
  rw [List.append_nil] at this
  rw [this, parseL, runs_or M hM 0, Nat.zero_or]
theorem parse_both (A B : Nat) (hA : A < 2 ^ 64) (hB : B < 2 ^ 64) (h0 : A ≠ 0) (h1 : B ≠ 0) : parseT (txt A 64 ++ 44 :: txt B 64) = some (A ||| B) := by
  unfold parseT
  rw [split_two, split_txt A hA h0, split_txt B hB h1, parse_items _ 0 (runs_ok A hA 64)]
  have := parse_items (runs B 64) (orAll (runs A 64) 0) (runs_ok B hB 64) []
  rw [List.append_nil] at this
  rw [this, parseL, runs_or B hB, runs_or A hA, Nat.zero_or]
/-! ### Lengths -/
theorem txt_len (M : Nat) (hM : M < 2 ^ 64) : ∀ i, i ≤ 64 → (txt M i).length ≤ 3 * i + (if 0 < i ∧ M.testBit (i - 1) = true then 3 else 0) := by
  intro i
  induction i with
  | zero => intro _; simp [txt, runs, joinT]
  | succ i ih =>
    intro hi
    have h := ih (by omega)
    rw [txt_succ]
    have hl : (itemT (i, lastR M i 64)).length ≤ 5 := by
      have h1 := dg_len i
      have h2 := dg_len (lastR M i 64)
      show (if i < lastR M i 64 then dg i ++ 45 :: dg (lastR M i 64) else dg i).length ≤ 5
      split
      · simp only [List.length_append, List.length_cons]; omega
      · omega
    by_cases hs : isStart M i = true
    · rw [if_pos hs]
      simp only [isStart, Bool.and_eq_true, Bool.or_eq_true, beq_iff_eq, Bool.not_eq_true'] at hs
      have hp : (if 0 < i + 1 ∧ M.testBit (i + 1 - 1) = true then 3 else 0) = 3 := if_pos ⟨by omega, by rw [Nat.add_sub_cancel]; exact hs.1⟩
      rw [hp]
      have hn : ¬ (0 < i ∧ M.testBit (i - 1) = true) := by
        intro g
        rcases hs.2 with e | e
        · have := g.1; omega
        · rw [g.2] at e; cases e
      rw [if_neg hn] at h
      split
      · omega
      · rw [List.length_append, List.length_cons]; omega
    · rw [if_neg hs]
      split at h
      · omega
      · omega
theorem printL_len (M : Nat) (hM : M < 2 ^ 64) : (printL M).length ≤ 195 := by
  unfold printL
  split
  · decide
  · have := txt_len M hM 64 (Nat.le_refl _)
    split at this <;> omega
theorem txt_ne (M : Nat) (hM : M < 2 ^ 64) (h : M ≠ 0) : txt M 64 ≠ [] := fun e => runs_ne M hM h ((joinT_nil _).1 e)
theorem printL_inj (A B : Nat) (hA : A < 2 ^ 64) (hB : B < 2 ^ 64) (h : printL A = printL B) : A = B := by
  have bad : parseT [45] = none := by decide
  unfold printL at h
  by_cases h0 : A = 0 <;> by_cases h1 : B = 0
  · rw [h0, h1]
  · rw [if_pos h0, if_neg h1] at h
    have := parse_txt B hB h1
    rw [← h, bad] at this; cases this
  · rw [if_neg h0, if_pos h1] at h
    have := parse_txt A hA h0
    rw [h, bad] at this; cases this
  · rw [if_neg h0, if_neg h1] at h
    have e1 := parse_txt A hA h0
    rw [h, parse_txt B hB h1] at e1
    exact (Option.some.inj e1).symm
theorem span_lt (a b : Nat) (hb : b < 64) : span a b < 2 ^ 64 := by
  unfold span
  have : 2 ^ (b + 1) ≤ 2 ^ 64 := Nat.pow_le_pow_right (by decide) (by omega)
  have : 0 < 2 ^ a := Nat.two_pow_pos a
  omega
theorem or64 (a b : Nat) (ha : a < 2 ^ 64) (hb : b < 2 ^ 64) : a ||| b < 2 ^ 64 := Nat.or_lt_two_pow ha hb
def parseS (l : List UInt8) : Int × Int := if 1000 < l.length then (0, 2) else if l = [45] then (0, 0) else match parseT l with
  | some m => ((m : Int), 0)
  | none => (0, 3)
theorem parseL_lt : ∀ (its : List (List UInt8)) (m q : Nat), m < 2 ^ 64 → parseL its m = some q → q < 2 ^ 64 := by
  intro its
  induction its with
  | nil => intro m q hm h; rw [parseL] at h; rw [← Option.some.inj h]; exact hm
  | cons it its ih =>
    intro m q hm h
    rw [parseL] at h
    cases hi : itemV it with
    | none => rw [hi] at h; cases h
    | some r =>
      rw [hi] at h
      obtain ⟨a, b⟩ := r
      refine ih _ q (or64 m _ hm (span_lt a b ?_)) h
      unfold itemV at hi
      split at hi
      · split at hi
        · cases hi
        · rename_i n hn
          simp at hi
          have := numV_lt hn
          omega
      · split at hi
        · cases hi
        · split at hi
          · cases hi
          · rename_i n hn
            split at hi
            · cases hi
            · simp at hi
              have := numV_lt hn
              omega
      · cases hi
/-- What is parsed: a mask, or an error and no mask. -/
theorem parseS_cases (l : List UInt8) : (∃ m : Nat, m < 2 ^ 64 ∧ parseS l = ((m : Int), 0)) ∨ ∃ e : Int, e ≠ 0 ∧ parseS l = (0, e) := by
  unfold parseS
  split
  · exact .inr ⟨2, by decide, rfl⟩
  · split
    · exact .inl ⟨0, by decide, rfl⟩
    · cases h : parseT l with
      | none => exact .inr ⟨3, by decide, rfl⟩
      | some m => exact .inl ⟨m, parseL_lt _ 0 m (by decide) h, rfl⟩
theorem not_dash (M : Nat) (hM : M < 2 ^ 64) (h : M ≠ 0) : txt M 64 ≠ [45] := by
  intro e
  have bad : parseT [45] = none := by decide
  have := parse_txt M hM h
  rw [e, bad] at this
  cases this
theorem parse_print (M : Nat) (hM : M < 2 ^ 64) : parseS (printL M) = ((M : Int), 0) := by
  have hl := printL_len M hM
  unfold parseS
  rw [if_neg (by omega)]
  by_cases h0 : M = 0
  · subst h0
    rw [if_pos (by rfl)]
    rfl
  · have e : printL M = txt M 64 := if_neg h0
    rw [e, if_neg (not_dash M hM h0), parse_txt M hM h0]
end Go.Proofs.YtilmbpdfdickoaaDoor.Pure
/- Decimal numbers up to 10^12: what the program reads and tells: plain. -/
namespace Go.Proofs.YtilmbpdfdickoaaDoor.Pure
open Go
set_option linter.unusedVariables false
set_option linter.unusedSimpArgs false
def dD (b : UInt8) : Bool := decide (48 ≤ b.toNat) && decide (b.toNat ≤ 57)
theorem dD_iff (b : UInt8) : dD b = true ↔ 48 ≤ b.toNat ∧ b.toNat ≤ 57 := by simp [dD]
def vD (l : List UInt8) : Nat := l.foldl (fun n b => n * 10 + (b.toNat - 48)) 0
theorem vD_snoc (l : List UInt8) (b : UInt8) : vD (l ++ [b]) = vD l * 10 + (b.toNat - 48) := by unfold vD; rw [List.foldl_append]; rfl
theorem ofNat_dig (n : Nat) (h : n < 10) : (UInt8.ofNat (48 + n)).toNat = 48 + n := by rw [UInt8.toNat_ofNat']; omega
theorem vD_dec (n : Nat) : vD (Lib.decDigits n) = n := by
  induction n using Nat.strongRecOn with
  | _ n ih =>
    rw [Lib.decDigits]
    by_cases h : n < 10
    · rw [dif_pos h]
      show 0 * 10 + ((UInt8.ofNat (48 + n)).toNat - 48) = n
      rw [ofNat_dig n h]
      omega
    · rw [dif_neg h, vD_snoc, ih (n / 10) (by omega), ofNat_dig _ (by omega)]
      omega
theorem dec_dig (n : Nat) : ∀ x ∈ Lib.decDigits n, dD x = true := by
  induction n using Nat.strongRecOn with
  | _ n ih =>
    rw [Lib.decDigits]
    by_cases h : n < 10
    · rw [dif_pos h]
      intro x hx
      rw [List.mem_singleton.1 hx, dD_iff, ofNat_dig n h]
      omega
    · rw [dif_neg h]
      intro x hx
      rcases List.mem_append.1 hx with hx | hx
      · exact ih _ (by omega) x hx
      · rw [List.mem_singleton.1 hx, dD_iff, ofNat_dig _ (by omega)]
        omega
theorem dec_ne (n : Nat) : Lib.decDigits n ≠ [] := by
  rw [Lib.decDigits]
  split <;> simp
theorem dec_len : ∀ (k n : Nat), n < 10 ^ (k + 1) → (Lib.decDigits n).length ≤ k + 1 := by
  intro k
  induction k with
  | zero => intro n h; rw [Lib.decDigits, dif_pos (by simpa using h)]; simp
  | succ k ih =>
    intro n h
    rw [Lib.decDigits]
    split
    · simp
    · have := ih (n / 10) (by rw [Nat.pow_succ] at h; omega)
      rw [List.length_append, List.length_singleton]
      omega
def most : Nat := 1000000000000
theorem dec_len13 (n : Nat) (h : n ≤ most) : (Lib.decDigits n).length ≤ 13 := dec_len 12 n (by unfold most at h; omega)
theorem dec_inj {a b : Nat} (h : Lib.decDigits a = Lib.decDigits b) : a = b := by rw [← vD_dec a, ← vD_dec b, h]
/-- A text's number, if it is one's text. -/
def numT (l : List UInt8) : Option Nat := if Lib.decDigits (vD l) = l ∧ vD l ≤ most then some (vD l) else none
theorem numT_some {l : List UInt8} {n : Nat} : numT l = some n ↔ l = Lib.decDigits n ∧ n ≤ most := by
  unfold numT
  constructor
  · intro h
    split at h
    · rename_i hc
      have e := Option.some.inj h
      rw [← e]
      exact ⟨hc.1.symm, hc.2⟩
    · cases h
  · rintro ⟨rfl, h⟩
    rw [vD_dec, if_pos ⟨rfl, h⟩]
theorem numT_dec {n : Nat} (h : n ≤ most) : numT (Lib.decDigits n) = some n := numT_some.2 ⟨rfl, h⟩
/-! ### The library reads it so -/
theorem parse_acc : ∀ (l : List UInt8) (acc : Nat), (∀ x ∈ l, dD x = true) → l.foldl (fun n b => n * 10 + (b.toNat - 48)) acc ≤ 1000000000000000000 → Lib.parseUintM (2 ^ 64 - 1) acc l = .ok (l.foldl (fun n b => n * 10 + (b.toNat - 48)) acc) := by
  intro l
  induction l with
  | nil => intro acc _ _; rfl
  | cons c r ih =>
    intro acc hd hb
    have hc := (dD_iff c).1 (hd c List.mem_cons_self)
    have grow : ∀ (r : List UInt8) (a : Nat), a ≤ r.foldl (fun n b => n * 10 + (b.toNat - 48)) a := by
      intro r
      induction r with
      | nil => intro a; exact Nat.le_refl _
      | cons x r ih => intro a; exact Nat.le_trans (by show a ≤ a * 10 + (x.toNat - 48); omega) (ih (a * 10 + (x.toNat - 48)))
    rw [List.foldl_cons] at hb ⊢
    have hg := grow r (acc * 10 + (c.toNat - 48))
    rw [Lib.parseUintM, if_pos hc, if_neg (by omega), if_neg (by omega)]
    exact ih _ (fun x hx => hd x (List.mem_cons_of_mem _ hx)) hb
theorem parse_dec (n : Nat) (h : n ≤ most) : Lib.parseIntB 64 (Lib.decDigits n) = .ok (n : Int) := by
  have hne := dec_ne n
  have hv := vD_dec n
  have hd := dec_dig n
  have hp := parse_acc (Lib.decDigits n) 0 hd (by show vD _ ≤ _; rw [hv]; unfold most at h; omega)
  have hp' : Lib.parseUintM (2 ^ 64 - 1) 0 (Lib.decDigits n) = .ok n := by rw [hp]; show Lib.NumEnd.ok (vD _) = _; rw [hv]
  cases hl : Lib.decDigits n with
  | nil => exact absurd hl hne
  | cons c r =>
    have hc := (dD_iff c).1 (hd c (by rw [hl]; exact List.mem_cons_self))
    unfold Lib.parseIntB Lib.parseUintB
    simp only [show ¬ (c.toNat = 43) by omega, show ¬ (c.toNat = 45) by omega, or_self, if_false, not_false_eq_true, true_and, false_and]
    rw [if_neg (by simp), ← hl, hp']
    have : ¬ (2 ^ (64 - 1) ≤ n) := by unfold most at h; omega
    simp only [this, if_false]
/-- What is read, and told again as it is, is a number's text. -/
theorem read_is (l : List UInt8) (v : Int) (h0 : 0 ≤ v) (h1 : v ≤ (most : Nat)) : Lib.itoa v = l ↔ numT l = some v.toNat := by
  obtain ⟨n, rfl⟩ := Int.eq_ofNat_of_zero_le h0
  rw [Lib.itoa_nonneg, Int.toNat_natCast, numT_some]
  exact ⟨fun h => ⟨h.symm, by omega⟩, fun h => h.1.symm⟩
end Go.Proofs.YtilmbpdfdickoaaDoor.Pure
/- Calls and answers as texts: what is told, and what is read: plain. -/
namespace Go.Proofs.YtilmbpdfdickoaaDoor.Pure
open Go
set_option linter.unusedVariables false
set_option linter.unusedSimpArgs false
structure CallS where
  op : Int
  slot : Int
  gen : Int
  cpu : Int
  n : Int
  nice : Int
  mask : Int
deriving DecidableEq
def call0 : CallS := ⟨0, 0, 0, 0, 0, 0, 0⟩
def nameL : Nat → List UInt8
  | 1 => [99, 114, 101, 97, 116, 101]
  | 2 => [101, 120, 105, 116]
  | 3 => [119, 97, 107, 101]
  | 4 => [98, 108, 111, 99, 107]
  | 5 => [121, 105, 101, 108, 100]
  | 6 => [116, 105, 99, 107]
  | 7 => [112, 105, 99, 107]
  | 8 => [109, 105, 103, 114, 97, 116, 101]
  | 9 => [109, 97, 115, 107]
  | 10 => [110, 105, 99, 101]
  | 11 => [98, 97, 108, 97, 110, 99, 101]
  | 12 => [115, 116, 111, 112]
  | 13 => [108, 111, 111, 107]
  | _ => []
def toldL : Nat → List UInt8
  | 1 => [110, 109]
  | 2 => [116]
  | 3 => [116]
  | 4 => [99]
  | 5 => [99]
  | 6 => [99, 107]
  | 7 => [99]
  | 8 => [116, 99]
  | 9 => [116, 109]
  | 10 => [116, 110]
  | 11 => [99, 107]
  | 12 => [99]
  | 13 => [116]
  | _ => []
/-- May a number be told? -/
def mayI (n : Int) : Prop := 0 ≤ n ∧ n ≤ 1000000000000
instance (n : Int) : Decidable (mayI n) := inferInstanceAs (Decidable (_ ∧ _))
def decI (n : Int) : List UInt8 := Lib.decDigits n.toNat
def taskT (a b : Int) : Option (List UInt8) := if mayI a ∧ mayI b then some (decI a ++ 46 :: decI b) else none
def tellF (k : UInt8) (c : CallS) : Option (List UInt8) :=
  if k = 110 then (if -1000 ≤ c.nice ∧ c.nice ≤ 1000 then some (Lib.itoa c.nice) else none)
  else if k = 109 then some (printL c.mask.toNat)
  else if k = 116 then taskT c.slot c.gen
  else if k = 99 then (if mayI c.cpu then some (decI c.cpu) else none)
  else (if mayI c.n then some (decI c.n) else none)
def niceV (s : List UInt8) : Option Int := match s with
  | [] => none
  | x :: t => if x = 45 then (match numT t with
      | some n => if n = 0 ∨ 1000 < n then none else some (-(n : Int))
      | none => none)
    else (match numT (x :: t) with
      | some n => if 1000 < n then none else some (n : Int)
      | none => none)
def handleV (s : List UInt8) : Option (Int × Int) := match splitL 46 s with
  | [a, b] => match numT a with
    | none => none
    | some x => match numT b with
      | none => none
      | some y => some ((x : Int), (y : Int))
  | _ => none
def readF (k : UInt8) (c : CallS) (s : List UInt8) : Option CallS :=
  if k = 110 then (niceV s).map fun v => { c with nice := v }
  else if k = 109 then (if (parseS s).2 = 0 then some { c with mask := (parseS s).1 } else none)
  else if k = 116 then (handleV s).map fun v => { c with slot := v.1, gen := v.2 }
  else if k = 99 then (numT s).map fun (v : Nat) => { c with cpu := (v : Int) }
  else (numT s).map fun (v : Nat) => { c with n := (v : Int) }
/-- Of one call what a letter tells, put into another one. -/
def putF (k : UInt8) (a c : CallS) : CallS :=
  if k = 110 then { a with nice := c.nice }
  else if k = 109 then { a with mask := c.mask }
  else if k = 116 then { a with slot := c.slot, gen := c.gen }
  else if k = 99 then { a with cpu := c.cpu }
  else { a with n := c.n }
def u64I (m : Int) : Prop := 0 ≤ m ∧ m < 18446744073709551616
/-! ### What is told is read as it is -/
theorem dec_no (n : Nat) (x : UInt8) (h : dD x = false) : x ∉ Lib.decDigits n := fun hm => by rw [dec_dig n x hm] at h; cases h
theorem itoa_cases (v : Int) : (0 ≤ v ∧ Lib.itoa v = Lib.decDigits v.toNat) ∨ (v < 0 ∧ Lib.itoa v = 45 :: Lib.decDigits (-v).toNat) := by
  unfold Lib.itoa
  by_cases h : v < 0
  · rw [if_pos h]
    refine .inr ⟨h, ?_⟩
    rw [show v.natAbs = (-v).toNat by omega]
  · rw [if_neg h]
    exact .inl ⟨by omega, rfl⟩
theorem dec_head (n : Nat) (x : UInt8) (t : List UInt8) (h : Lib.decDigits n = x :: t) : x ≠ 45 := fun e => by
  have := dec_dig n x (by rw [h]; exact List.mem_cons_self)
  rw [e] at this
  exact absurd this (by decide)
theorem nice_itoa (v : Int) (h0 : -1000 ≤ v) (h1 : v ≤ 1000) : niceV (Lib.itoa v) = some v := by
  rcases itoa_cases v with ⟨h, e⟩ | ⟨h, e⟩
  · rw [e]
    have hn := numT_dec (n := v.toNat) (by unfold most; omega)
    cases hl : Lib.decDigits v.toNat with
    | nil => exact absurd hl (dec_ne _)
    | cons x t =>
      rw [hl] at hn
      rw [niceV, if_neg (dec_head _ x t hl), hn]
      simp only
      rw [if_neg (by omega)]
      congr 1
      omega
  · have hn := numT_dec (n := (-v).toNat) (by unfold most; omega)
    rw [e, niceV, if_pos rfl, hn]
    simp only
    rw [if_neg (by omega)]
    congr 1
    omega
theorem task_back {a b : Int} {s : List UInt8} (h : taskT a b = some s) : handleV s = some (a, b) := by
  unfold taskT at h
  split at h
  · rename_i hm
    obtain ⟨⟨a0, a1⟩, b0, b1⟩ := hm
    obtain rfl := Option.some.inj h
    unfold handleV decI
    rw [splitL_app 46 _ _ (dec_no _ 46 (by decide)), splitL_none 46 _ (dec_no _ 46 (by decide))]
    simp only
    rw [numT_dec (by unfold most; omega)]
    simp only
    rw [numT_dec (by unfold most; omega)]
    simp only
    rw [show ((a.toNat : Nat) : Int) = a by omega, show ((b.toNat : Nat) : Int) = b by omega]
  · cases h
theorem num_dec {n : Int} (h : mayI n) : numT (decI n) = some n.toNat := numT_dec (by unfold most; have := h.2; omega)
theorem read_tell (k : UInt8) (c a : CallS) (s : List UInt8) (hm : u64I c.mask) (h : tellF k c = some s) : readF k a s = some (putF k a c) := by
  unfold tellF at h
  unfold readF putF
  split
  · rename_i hk
    rw [if_pos hk] at h
    split at h
    · rename_i hn
      rw [← Option.some.inj h, nice_itoa _ hn.1 hn.2]; rfl
    · cases h
  · rename_i hk
    rw [if_neg hk] at h
    split
    · rename_i hk2
      rw [if_pos hk2] at h
      rw [← Option.some.inj h, parse_print c.mask.toNat (by have := hm.2; have := hm.1; omega), if_pos rfl]
      rw [show ((c.mask.toNat : Nat) : Int) = c.mask by have := hm.1; omega]
    · rename_i hk2
      rw [if_neg hk2] at h
      split
      · rename_i hk3
        rw [if_pos hk3] at h
        rw [task_back h]; rfl
      · rename_i hk3
        rw [if_neg hk3] at h
        split
        · rename_i hk4
          rw [if_pos hk4] at h
          split at h
          · rename_i hmm
            rw [← Option.some.inj h, num_dec hmm]
            show some { a with cpu := ((c.cpu.toNat : Nat) : Int) } = some _
            rw [show ((c.cpu.toNat : Nat) : Int) = c.cpu by have := hmm.1; omega]
          · cases h
        · rename_i hk4
          rw [if_neg hk4] at h
          split at h
          · rename_i hmm
            rw [← Option.some.inj h, num_dec hmm]
            show some { a with n := ((c.n.toNat : Nat) : Int) } = some _
            rw [show ((c.n.toNat : Nat) : Int) = c.n by have := hmm.1; omega]
          · cases h
/-! ### Print and Parse -/
def goTell (c : CallS) : List UInt8 → Option (List UInt8)
  | [] => some []
  | k :: ks => match tellF k c with
    | none => none
    | some s => match goTell c ks with
      | none => none
      | some r => some (32 :: s ++ r)
def goPut (c : CallS) : List UInt8 → CallS → CallS
  | [], a => a
  | k :: ks, a => goPut c ks (putF k a c)
def callOf (op : Int) : CallS := { call0 with op := op }
def printC (c : CallS) : Option (List UInt8) :=
  if 1 ≤ c.op ∧ c.op ≤ 13 then (match goTell c (toldL c.op.toNat) with
    | none => none
    | some r => if goPut c (toldL c.op.toNat) (callOf c.op) = c then some (nameL c.op.toNat ++ r) else none)
  else none
def goRead : List UInt8 → List (List UInt8) → CallS → Option CallS
  | [], [], c => some c
  | k :: ks, w :: ws, c => match readF k c w with
    | none => none
    | some c' => goRead ks ws c'
  | _, _, _ => none
def opOf (w : List UInt8) : Option Nat := (List.range 14).find? fun k => decide (0 < k) && (nameL k == w)
def parseC (l : List UInt8) : Option CallS := match splitL 32 l with
  | [] => none
  | w :: ws => match opOf w with
    | none => none
    | some op => goRead (toldL op) ws (callOf (op : Int))
def printCS (c : CallS) : List UInt8 × Int := match printC c with
  | some s => (s, 0)
  | none => ([], 1)
def parseCS (l : List UInt8) : CallS × Int := if 1200 < l.length then (call0, 2) else match parseC l with
  | some c => (c, 0)
  | none => (call0, 3)
/-! ### Parse undoes Print -/
theorem no32_dec (n : Nat) : (32 : UInt8) ∉ Lib.decDigits n := dec_no n 32 (by decide)
theorem no32_itoa (v : Int) : (32 : UInt8) ∉ Lib.itoa v := by
  rcases itoa_cases v with ⟨_, e⟩ | ⟨_, e⟩
  · rw [e]; exact no32_dec _
  · rw [e]
    intro h
    rcases List.mem_cons.1 h with h | h
    · exact absurd h (by decide)
    · exact no32_dec _ h
theorem no32_dg (n : Nat) (h : n < 64) : (32 : UInt8) ∉ dg n := fun hm => by have := dg_dig' n h 32 hm; exact absurd this (by decide)
theorem no32_item (r : Nat × Nat) (h1 : r.1 < 64) (h2 : r.2 < 64) : (32 : UInt8) ∉ itemT r := by
  unfold itemT
  split
  · intro h
    rcases List.mem_append.1 h with h | h
    · exact no32_dg _ h1 h
    · rcases List.mem_cons.1 h with h | h
      · exact absurd h (by decide)
      · exact no32_dg _ h2 h
  · exact no32_dg _ h1
theorem no32_join : ∀ l : List (List UInt8), (∀ x ∈ l, (32 : UInt8) ∉ x) → (32 : UInt8) ∉ joinT l := by
  intro l
  induction l with
  | nil => intro _; simp [joinT]
  | cons x l ih =>
    intro h
    cases l with
    | nil => exact h x List.mem_cons_self
    | cons y l =>
      rw [joinT]
      intro hm
      rcases List.mem_append.1 hm with hm | hm
      · exact h x List.mem_cons_self hm
      · rcases List.mem_cons.1 hm with hm | hm
        · exact absurd hm (by decide)
        · exact ih (fun z hz => h z (List.mem_cons_of_mem _ hz)) hm
theorem no32_print (M : Nat) (hM : M < 2 ^ 64) : (32 : UInt8) ∉ printL M := by
  unfold printL
  split
  · decide
  · refine no32_join _ (fun x hx => ?_)
    obtain ⟨r, hr, rfl⟩ := List.mem_map.1 hx
    have := runs_ok M hM 64 r hr
    exact no32_item r this.2.2 this.2.1
theorem no32_task {a b : Int} {s : List UInt8} (h : taskT a b = some s) : (32 : UInt8) ∉ s := by
  unfold taskT at h
  split at h
  · rw [← Option.some.inj h]
    intro hm
    rcases List.mem_append.1 hm with hm | hm
    · exact no32_dec _ hm
    · rcases List.mem_cons.1 hm with hm | hm
      · exact absurd hm (by decide)
      · exact no32_dec _ hm
  · cases h
theorem len_dec {n : Int} (h : mayI n) : (decI n).length ≤ 13 := dec_len13 n.toNat (by unfold most; have := h.2; omega)
theorem len_task {a b : Int} {s : List UInt8} (h : taskT a b = some s) : s.length ≤ 27 := by
  unfold taskT at h
  split at h
  · rename_i hm
    rw [← Option.some.inj h, List.length_append, List.length_cons]
    have := len_dec hm.1
    have := len_dec hm.2
    omega
  · cases h
theorem len_nice (v : Int) (h0 : -1000 ≤ v) (h1 : v ≤ 1000) : (Lib.itoa v).length ≤ 14 := by
  rcases itoa_cases v with ⟨_, e⟩ | ⟨_, e⟩
  · rw [e]; have := dec_len13 v.toNat (by unfold most; omega); omega
  · rw [e, List.length_cons]; have := dec_len13 (-v).toNat (by unfold most; omega); omega
theorem tell_text {k : UInt8} {c : CallS} {s : List UInt8} (hm : u64I c.mask) (h : tellF k c = some s) : (32 : UInt8) ∉ s ∧ s.length ≤ 195 := by
  have hM : c.mask.toNat < 2 ^ 64 := by have := hm.1; have := hm.2; omega
  unfold tellF at h
  split at h
  · split at h
    · rename_i hn
      rw [← Option.some.inj h]
      have := len_nice _ hn.1 hn.2
      exact ⟨no32_itoa _, by omega⟩
    · cases h
  · split at h
    · rw [← Option.some.inj h]; exact ⟨no32_print _ hM, printL_len _ hM⟩
    · split at h
      · have := len_task h
        exact ⟨no32_task h, by omega⟩
      · split at h
        · split at h
          · rename_i hc
            rw [← Option.some.inj h]; have := len_dec hc; exact ⟨no32_dec _, by omega⟩
          · cases h
        · split at h
          · rename_i hc
            rw [← Option.some.inj h]; have := len_dec hc; exact ⟨no32_dec _, by omega⟩
          · cases h
theorem tell_split (c : CallS) (hm : u64I c.mask) : ∀ (ks : List UInt8) (r x : List UInt8), goTell c ks = some r → (32 : UInt8) ∉ x → ∃ ws, splitL 32 (x ++ r) = x :: ws ∧ (∀ a, goRead ks ws a = some (goPut c ks a)) ∧ r.length ≤ 196 * ks.length := by
  intro ks
  induction ks with
  | nil =>
    intro r x h hx
    obtain rfl := Option.some.inj h
    exact ⟨[], by rw [List.append_nil, splitL_none 32 x hx], fun a => rfl, by simp⟩
  | cons k ks ih =>
    intro r x h hx
    rw [goTell] at h
    cases ht : tellF k c with
    | none => rw [ht] at h; cases h
    | some s =>
      rw [ht] at h
      cases hg : goTell c ks with
      | none => rw [hg] at h; cases h
      | some r' =>
        rw [hg] at h
        obtain rfl := Option.some.inj h
        obtain ⟨hs, hl⟩ := tell_text hm ht
        obtain ⟨ws, h1, h2, h3⟩ := ih r' s hg hs
        refine ⟨s :: ws, ?_, fun a => ?_, ?_⟩
        · show splitL 32 (x ++ (32 :: (s ++ r'))) = x :: s :: ws
          rw [splitL_app 32 _ x hx, h1]
        · rw [goRead, read_tell k c a s hm ht]
          exact h2 _
        · simp only [List.length_append, List.length_cons]; omega
theorem op_cases {op : Int} (h0 : 1 ≤ op) (h1 : op ≤ 13) : ∃ k : Fin 13, op = ((k.val + 1 : Nat) : Int) := ⟨⟨(op - 1).toNat, by omega⟩, by simp; omega⟩
theorem name_op : ∀ k : Fin 13, opOf (nameL (k.val + 1)) = some (k.val + 1) := by decide
theorem name_no32 : ∀ k : Fin 13, ((nameL (k.val + 1)).all fun x => x != 32) = true := by decide
theorem name_len : ∀ k : Fin 13, (nameL (k.val + 1)).length ≤ 7 ∧ (toldL (k.val + 1)).length ≤ 2 := by decide
theorem parse_of_print {c : CallS} {s : List UInt8} (hm : u64I c.mask) (h : printC c = some s) : parseC s = some c ∧ s.length ≤ 400 := by
  unfold printC at h
  split at h
  · rename_i ho
    obtain ⟨k, hk⟩ := op_cases ho.1 ho.2
    have hkn : c.op.toNat = k.val + 1 := by omega
    rw [hkn] at h
    cases hg : goTell c (toldL (k.val + 1)) with
    | none => rw [hg] at h; cases h
    | some r =>
      rw [hg] at h
      simp only at h
      split at h
      · rename_i hp
        obtain rfl := Option.some.inj h
        have hn : (32 : UInt8) ∉ nameL (k.val + 1) := fun hmem => by
          have := List.all_eq_true.1 (name_no32 k) 32 hmem
          exact absurd this (by decide)
        obtain ⟨ws, h1, h2, h3⟩ := tell_split c hm _ r (nameL (k.val + 1)) hg hn
        have hl := name_len k
        refine ⟨?_, ?_⟩
        · unfold parseC
          rw [h1]
          simp only [name_op k]
          rw [h2, ← hk, hp]
        · have : 196 * (toldL (k.val + 1)).length ≤ 392 := by omega
          rw [List.length_append]; omega
      · cases h
  · cases h
end Go.Proofs.YtilmbpdfdickoaaDoor.Pure
/- What is parsed can be told again; what stands too many is not parsed; answers: plain. -/
namespace Go.Proofs.YtilmbpdfdickoaaDoor.Pure
open Go
set_option linter.unusedVariables false
set_option linter.unusedSimpArgs false
def isK (k : UInt8) : Prop := k = 110 ∨ k = 109 ∨ k = 116 ∨ k = 99 ∨ k = 107
theorem niceV_ok {s : List UInt8} {v : Int} (h : niceV s = some v) : -1000 ≤ v ∧ v ≤ 1000 := by
  unfold niceV at h
  split at h
  · cases h
  · split at h
    · split at h
      · split at h
        · cases h
        · rename_i n _ hn
          have := Option.some.inj h
          omega
      · cases h
    · split at h
      · split at h
        · cases h
        · rename_i n _ hn
          have := Option.some.inj h
          omega
      · cases h
theorem numT_may {s : List UInt8} {n : Nat} (h : numT s = some n) : mayI (n : Int) ∧ decI (n : Int) = s := by
  obtain ⟨e, hn⟩ := numT_some.1 h
  unfold most at hn
  exact ⟨⟨by omega, by omega⟩, by unfold decI; rw [Int.toNat_natCast, e]⟩
theorem handleV_ok {s : List UInt8} {v : Int × Int} (h : handleV s = some v) : taskT v.1 v.2 = some s := by
  unfold handleV at h
  split at h
  · rename_i a b hs
    split at h
    · cases h
    · rename_i x hx
      split at h
      · cases h
      · rename_i y hy
        obtain rfl := Option.some.inj h
        obtain ⟨h1, e1⟩ := numT_may hx
        obtain ⟨h2, e2⟩ := numT_may hy
        unfold taskT
        rw [if_pos ⟨h1, h2⟩, e1, e2]
        rcases first_piece 46 s with h' | ⟨p, r, rfl, hp⟩
        · rw [splitL_none 46 s h'] at hs
          cases hs
        · rw [splitL_app 46 r p hp] at hs
          simp only [List.cons.injEq] at hs
          obtain ⟨rfl, hr⟩ := hs
          rcases first_piece 46 r with h'' | ⟨q, r', rfl, hq⟩
          · rw [splitL_none 46 r h''] at hr
            simp only [List.cons.injEq, and_true] at hr
            rw [hr]
          · rw [splitL_app 46 r' q hq] at hr
            have := splitL_ne 46 r'
            simp only [List.cons.injEq] at hr
            exact absurd hr.2 this
  · cases h
theorem parseS_u64 (l : List UInt8) : u64I (parseS l).1 := by
  rcases parseS_cases l with ⟨m, hm, e⟩ | ⟨e, he, h⟩
  · rw [e]; exact ⟨by show 0 ≤ (m : Int); omega, by show (m : Int) < _; omega⟩
  · rw [h]; exact ⟨Int.le_refl 0, by show (0 : Int) < 18446744073709551616; decide⟩
theorem read_put {k : UInt8} {a a' : CallS} {w : List UInt8} (h : readF k a w = some a') : a' = putF k a a' ∧ (∃ s, tellF k a' = some s) ∧ (u64I a.mask → u64I a'.mask) := by
  unfold readF at h
  unfold putF tellF
  split at h
  · rename_i hk
    obtain ⟨v, hv, rfl⟩ := Option.map_eq_some_iff.1 h
    rw [if_pos hk, if_pos hk, if_pos (niceV_ok hv)]
    exact ⟨rfl, ⟨_, rfl⟩, fun h => h⟩
  · rename_i hk
    rw [if_neg hk, if_neg hk]
    split at h
    · rename_i hk2
      rw [if_pos hk2, if_pos hk2]
      split at h
      · obtain rfl := Option.some.inj h
        exact ⟨rfl, ⟨_, rfl⟩, fun _ => parseS_u64 w⟩
      · cases h
    · rename_i hk2
      rw [if_neg hk2, if_neg hk2]
      split at h
      · rename_i hk3
        obtain ⟨v, hv, rfl⟩ := Option.map_eq_some_iff.1 h
        rw [if_pos hk3, if_pos hk3]
        exact ⟨rfl, ⟨_, handleV_ok hv⟩, fun h => h⟩
      · rename_i hk3
        rw [if_neg hk3, if_neg hk3]
        split at h
        · rename_i hk4
          obtain ⟨v, hv, rfl⟩ := Option.map_eq_some_iff.1 h
          rw [if_pos hk4, if_pos hk4, if_pos (numT_may hv).1]
          exact ⟨rfl, ⟨_, rfl⟩, fun h => h⟩
        · rename_i hk4
          obtain ⟨v, hv, rfl⟩ := Option.map_eq_some_iff.1 h
          rw [if_neg hk4, if_neg hk4, if_pos (numT_may hv).1]
          exact ⟨rfl, ⟨_, rfl⟩, fun h => h⟩
theorem put_other {k1 k2 : UInt8} (hne : k1 ≠ k2) (h1 : isK k1) (h2 : isK k2) {a a' : CallS} (e : a' = putF k2 a a') (b : CallS) : putF k1 b a' = putF k1 b a ∧ tellF k1 a' = tellF k1 a := by
  rw [e]
  rcases h1 with rfl | rfl | rfl | rfl | rfl <;> rcases h2 with rfl | rfl | rfl | rfl | rfl <;> first | exact absurd rfl hne | exact ⟨rfl, rfl⟩
theorem told_ok : ∀ k : Fin 13, (∃ a, toldL (k.val + 1) = [a] ∧ isK a) ∨ ∃ a b, toldL (k.val + 1) = [a, b] ∧ isK a ∧ isK b ∧ a ≠ b := by
  intro k
  match k with
  | ⟨0, _⟩ => exact .inr ⟨110, 109, rfl, by simp [isK], by simp [isK], by decide⟩
  | ⟨1, _⟩ => exact .inl ⟨116, rfl, by simp [isK]⟩
  | ⟨2, _⟩ => exact .inl ⟨116, rfl, by simp [isK]⟩
  | ⟨3, _⟩ => exact .inl ⟨99, rfl, by simp [isK]⟩
  | ⟨4, _⟩ => exact .inl ⟨99, rfl, by simp [isK]⟩
  | ⟨5, _⟩ => exact .inr ⟨99, 107, rfl, by simp [isK], by simp [isK], by decide⟩
  | ⟨6, _⟩ => exact .inl ⟨99, rfl, by simp [isK]⟩
  | ⟨7, _⟩ => exact .inr ⟨116, 99, rfl, by simp [isK], by simp [isK], by decide⟩
  | ⟨8, _⟩ => exact .inr ⟨116, 109, rfl, by simp [isK], by simp [isK], by decide⟩
  | ⟨9, _⟩ => exact .inr ⟨116, 110, rfl, by simp [isK], by simp [isK], by decide⟩
  | ⟨10, _⟩ => exact .inr ⟨99, 107, rfl, by simp [isK], by simp [isK], by decide⟩
  | ⟨11, _⟩ => exact .inl ⟨99, rfl, by simp [isK]⟩
  | ⟨12, _⟩ => exact .inl ⟨116, rfl, by simp [isK]⟩
theorem opOf_some {w : List UInt8} {op : Nat} (h : opOf w = some op) : nameL op = w ∧ ∃ k : Fin 13, op = k.val + 1 := by
  unfold opOf at h
  have h1 := List.find?_some h
  have h2 := List.mem_range.1 (List.mem_of_find?_eq_some h)
  simp only [Bool.and_eq_true, decide_eq_true_eq, beq_iff_eq] at h1
  exact ⟨h1.2, ⟨⟨op - 1, by omega⟩, by simp; omega⟩⟩
theorem putF_op (k : UInt8) (a c : CallS) : (putF k a c).op = a.op := by
  unfold putF
  split
  · rfl
  · split
    · rfl
    · split
      · rfl
      · split <;> rfl
theorem print_of_parse {l : List UInt8} {c : CallS} (h : parseC l = some c) : u64I c.mask ∧ ∃ p, printC c = some p := by
  unfold parseC at h
  split at h
  · cases h
  · rename_i w ws hs
    split at h
    · cases h
    · rename_i op ho
      obtain ⟨hn, k, rfl⟩ := opOf_some ho
      have hu0 : u64I (callOf ((k.val + 1 : Nat) : Int)).mask := ⟨Int.le_refl 0, by show (0 : Int) < 18446744073709551616; decide⟩
      have key : u64I c.mask ∧ c.op = ((k.val + 1 : Nat) : Int) ∧ (∃ r, goTell c (toldL (k.val + 1)) = some r) ∧ goPut c (toldL (k.val + 1)) (callOf ((k.val + 1 : Nat) : Int)) = c := by
        rcases told_ok k with ⟨a, e, ha⟩ | ⟨a, b, e, ha, hb, hab⟩
        · rw [e] at h ⊢
          match ws, h with
          | [], h => cases h
          | [x], h =>
            rw [goRead] at h
            cases hr : readF a (callOf ((k.val + 1 : Nat) : Int)) x with
            | none => rw [hr] at h; cases h
            | some c1 =>
              rw [hr] at h
              obtain rfl := Option.some.inj (show some c1 = some c from h)
              obtain ⟨h1, ⟨s, h2⟩, h3⟩ := read_put hr
              refine ⟨h3 hu0, by rw [h1, putF_op]; rfl, ⟨_, by rw [goTell, h2]; rfl⟩, h1.symm⟩
          | x :: y :: z, h =>
            rw [goRead] at h
            cases hr : readF a (callOf ((k.val + 1 : Nat) : Int)) x with
            | none => rw [hr] at h; cases h
            | some c1 => rw [hr] at h; cases h
        · rw [e] at h ⊢
          match ws, h with
          | [], h => cases h
          | [x], h =>
            rw [goRead] at h
            cases hr : readF a (callOf ((k.val + 1 : Nat) : Int)) x with
            | none => rw [hr] at h; cases h
            | some c1 => rw [hr] at h; cases h
          | [x, y], h =>
            rw [goRead] at h
            cases hr : readF a (callOf ((k.val + 1 : Nat) : Int)) x with
            | none => rw [hr] at h; cases h
            | some c1 =>
              rw [hr] at h
              simp only [goRead] at h
              cases hr2 : readF b c1 y with
              | none => rw [hr2] at h; cases h
              | some c2 =>
                rw [hr2] at h
                obtain rfl := Option.some.inj (show some c2 = some c from h)
                obtain ⟨h1, ⟨s, h2⟩, h3⟩ := read_put hr
                obtain ⟨g1, ⟨t, g2⟩, g3⟩ := read_put hr2
                obtain ⟨o1, o2⟩ := put_other hab ha hb g1 (callOf ((k.val + 1 : Nat) : Int))
                refine ⟨g3 (h3 hu0), by rw [g1, putF_op, h1, putF_op]; rfl, ⟨_, by rw [goTell, o2, h2]; simp only [goTell, g2]; rfl⟩, ?_⟩
                show putF b (putF a (callOf _) c2) c2 = c2
                rw [o1, ← h1]
                exact g1.symm
          | x :: y :: z :: v, h =>
            rw [goRead] at h
            cases hr : readF a (callOf ((k.val + 1 : Nat) : Int)) x with
            | none => rw [hr] at h; cases h
            | some c1 =>
              rw [hr] at h
              simp only [goRead] at h
              cases hr2 : readF b c1 y with
              | none => rw [hr2] at h; cases h
              | some c2 => rw [hr2] at h; cases h
      obtain ⟨k1, k2, ⟨r, k3⟩, k4⟩ := key
      refine ⟨k1, nameL (k.val + 1) ++ r, ?_⟩
      have hk := k.isLt
      unfold printC
      rw [if_pos (by omega), k2, Int.toNat_natCast, k3]
      simp only
      rw [if_pos k4]
/-! ### Answers -/
structure AnsS where
  errno : Int
  n : Int
  slot : Int
  gen : Int
deriving DecidableEq
def ans0 : AnsS := ⟨0, 0, 0, 0⟩
def errT : List UInt8 := [101, 114, 114, 111, 114]
def okT : List UInt8 := [111, 107]
def sayA (a : AnsS) : Option (List UInt8) :=
  if a.errno ≠ 0 then (if 0 ≤ a.errno ∧ a.errno ≤ 11 ∧ a.n = 0 ∧ a.slot = 0 ∧ a.gen = 0 then some (errT ++ 32 :: decI a.errno) else none)
  else match taskT a.slot a.gen with
    | none => none
    | some t => if mayI a.n then (if a.slot = 0 ∧ a.gen = 0 then some (okT ++ 32 :: decI a.n) else some (okT ++ 32 :: (decI a.n ++ 32 :: t))) else none
def sayS (a : AnsS) : List UInt8 × Int := match sayA a with
  | some s => (s, 0)
  | none => ([], 1)
def hearA (l : List UInt8) : Option AnsS := match splitL 32 l with
  | [w, x] => match numT x with
    | none => none
    | some n => if w = errT ∧ 1 ≤ n ∧ n ≤ 11 then some ⟨(n : Int), 0, 0, 0⟩ else if w = okT then some ⟨0, (n : Int), 0, 0⟩ else none
  | [w, x, t] => match numT x with
    | none => none
    | some n => if w = okT then (match handleV t with
      | none => none
      | some v => if v.1 = 0 ∧ v.2 = 0 then none else some ⟨0, (n : Int), v.1, v.2⟩) else none
  | _ => none
def hearS (l : List UInt8) : AnsS × Int := if 100 < l.length then (ans0, 2) else match hearA l with
  | some a => (a, 0)
  | none => (ans0, 3)
theorem two_words {a b : List UInt8} (ha : (32 : UInt8) ∉ a) (hb : (32 : UInt8) ∉ b) : splitL 32 (a ++ 32 :: b) = [a, b] := by
  rw [splitL_app 32 b a ha, splitL_none 32 b hb]
theorem three_words {a b c : List UInt8} (ha : (32 : UInt8) ∉ a) (hb : (32 : UInt8) ∉ b) (hc : (32 : UInt8) ∉ c) : splitL 32 (a ++ 32 :: (b ++ 32 :: c)) = [a, b, c] := by
  rw [splitL_app 32 _ a ha, two_words hb hc]
theorem hear_say {a : AnsS} {s : List UInt8} (h : sayA a = some s) : hearA s = some a ∧ s.length ≤ 100 := by
  have e0 : (32 : UInt8) ∉ errT := by decide
  have k0 : (32 : UInt8) ∉ okT := by decide
  unfold sayA at h
  split at h
  · rename_i hne
    split at h
    · rename_i hc
      obtain ⟨c0, c1, c2, c3, c4⟩ := hc
      obtain rfl := Option.some.inj h
      have hmay : mayI a.errno := ⟨c0, by omega⟩
      refine ⟨?_, by rw [List.length_append, List.length_cons]; have := len_dec hmay; simp [errT]; omega⟩
      unfold hearA
      rw [two_words e0 (show (32 : UInt8) ∉ decI a.errno from no32_dec _)]
      simp only [num_dec hmay]
      rw [if_pos ⟨trivial, by omega, by omega⟩]
      obtain ⟨x, y, z, u⟩ := a
      simp only at *
      rw [c2, c3, c4, show ((x.toNat : Nat) : Int) = x by omega]
    · cases h
  · rename_i hne
    have hz : a.errno = 0 := by
      by_cases hq : a.errno = 0
      · exact hq
      · exact absurd hq hne
    split at h
    · cases h
    · rename_i t ht
      split at h
      · rename_i hmay
        have hn : ((a.n.toNat : Nat) : Int) = a.n := by have := hmay.1; omega
        have ld := len_dec hmay
        split at h
        · rename_i h00
          obtain rfl := Option.some.inj h
          refine ⟨?_, by rw [List.length_append, List.length_cons]; simp [okT]; omega⟩
          unfold hearA
          rw [two_words k0 (show (32 : UInt8) ∉ decI a.n from no32_dec _)]
          simp only [num_dec hmay]
          rw [if_neg (fun h => absurd h.1 (by decide)), if_pos trivial, hn]
          obtain ⟨x, y, z, u⟩ := a
          simp only at *
          rw [h00.1, h00.2, hz]
        · rename_i h00
          obtain rfl := Option.some.inj h
          have lt := len_task ht
          refine ⟨?_, by rw [List.length_append, List.length_cons, List.length_append, List.length_cons]; simp [okT]; omega⟩
          unfold hearA
          rw [three_words k0 (show (32 : UInt8) ∉ decI a.n from no32_dec _) (no32_task ht)]
          simp only [num_dec hmay]
          rw [if_pos trivial]
          simp only [task_back ht]
          rw [if_neg h00, hn]
          obtain ⟨x, y, z, u⟩ := a
          simp only at *
          rw [hz]
      · cases h
theorem words_two {s a b : List UInt8} (h : splitL 32 s = [a, b]) : s = a ++ 32 :: b := by
  rcases first_piece 32 s with h' | ⟨p, r, rfl, hp⟩
  · rw [splitL_none 32 s h'] at h; cases h
  · rw [splitL_app 32 r p hp] at h
    simp only [List.cons.injEq] at h
    rcases first_piece 32 r with h'' | ⟨q, r', rfl, hq⟩
    · rw [splitL_none 32 r h''] at h
      simp only [List.cons.injEq, and_true] at h
      rw [h.1, h.2]
    · rw [splitL_app 32 r' q hq] at h
      simp only [List.cons.injEq] at h
      exact absurd h.2.2 (splitL_ne 32 r')
theorem words_three {s a b c : List UInt8} (h : splitL 32 s = [a, b, c]) : s = a ++ 32 :: (b ++ 32 :: c) := by
  rcases first_piece 32 s with h' | ⟨p, r, rfl, hp⟩
  · rw [splitL_none 32 s h'] at h; cases h
  · rw [splitL_app 32 r p hp] at h
    simp only [List.cons.injEq] at h
    rw [h.1, words_two h.2]
theorem say_hear {l : List UInt8} {a : AnsS} (h : hearA l = some a) : sayA a = some l := by
  unfold hearA at h
  split at h
  · rename_i w x hs
    split at h
    · cases h
    · rename_i n hn
      obtain ⟨hm, hd⟩ := numT_may hn
      split at h
      · rename_i hc
        obtain rfl := Option.some.inj h
        unfold sayA
        simp only
        rw [if_pos (by omega), if_pos ⟨by omega, by omega, (by first | rfl | trivial), (by first | rfl | trivial), (by first | rfl | trivial)⟩, hd, words_two hs, hc.1]
      · split at h
        · rename_i hc
          obtain rfl := Option.some.inj h
          have ht : taskT 0 0 = some (decI 0 ++ 46 :: decI 0) := if_pos ⟨⟨by decide, by decide⟩, ⟨by decide, by decide⟩⟩
          unfold sayA
          simp only
          rw [if_neg (fun h => h rfl), ht]
          simp only
          rw [if_pos hm, if_pos ⟨(by first | rfl | trivial), (by first | rfl | trivial)⟩, hd, words_two hs, hc]
        · cases h
  · rename_i w x t hs
    split at h
    · cases h
    · rename_i n hn
      obtain ⟨hm, hd⟩ := numT_may hn
      split at h
      · rename_i hc
        split at h
        · cases h
        · rename_i v hv
          split at h
          · cases h
          · rename_i h00
            obtain rfl := Option.some.inj h
            unfold sayA
            simp only
            rw [if_neg (fun h => h rfl), handleV_ok hv]
            simp only
            rw [if_pos hm, if_neg h00, hd, words_three hs, hc]
      · cases h
  · cases h
end Go.Proofs.YtilmbpdfdickoaaDoor.Pure
/- Parse word by word: what is kept from word to word: plain. -/
namespace Go.Proofs.YtilmbpdfdickoaaDoor.Pure
open Go
set_option linter.unusedVariables false
set_option linter.unusedSimpArgs false
def nameAt (k : Nat) (w : List UInt8) : Option Nat := (List.range k).find? fun k => decide (0 < k) && (nameL k == w)
theorem nameAt_all (w : List UInt8) : nameAt 14 w = opOf w := rfl
theorem nameAt_succ (k : Nat) (w : List UInt8) : nameAt (k + 1) w = (nameAt k w).or (if 0 < k ∧ nameL k = w then some k else none) := by
  unfold nameAt
  rw [List.range_succ, List.find?_append]
  congr 1
  rw [List.find?_singleton]
  by_cases h : 0 < k ∧ nameL k = w
  · rw [if_pos h, decide_eq_true h.1, h.2, beq_self_eq_true]; rfl
  · rw [if_neg h]
    by_cases h0 : 0 < k
    · have h1 : ¬ nameL k = w := fun e => h ⟨h0, e⟩
      rw [beq_eq_false_iff_ne.2 h1, Bool.and_false]; rfl
    · rw [decide_eq_false h0, Bool.false_and]; rfl
theorem nameAt_some {k j : Nat} {w : List UInt8} (h : nameAt k w = some j) : 0 < j ∧ j < k ∧ nameL j = w := by
  unfold nameAt at h
  have h1 := List.find?_some h
  have h2 := List.mem_range.1 (List.mem_of_find?_eq_some h)
  simp only [Bool.and_eq_true, decide_eq_true_eq, beq_iff_eq] at h1
  exact ⟨h1.1, h2, h1.2⟩
theorem name_apart : ∀ a b : Fin 14, 0 < a.val → a.val < b.val → nameL a.val ≠ nameL b.val := by decide
theorem name_ne {j k : Nat} (h0 : 0 < j) (h1 : j < k) (hk : k < 14) : nameL j ≠ nameL k := name_apart ⟨j, by omega⟩ ⟨k, hk⟩ h0 h1
theorem nameAt_before {k : Nat} (hk : k < 14) {w : List UInt8} (hn : nameL k = w) : nameAt k w = none := by
  cases ho : nameAt k w with
  | none => rfl
  | some j =>
    obtain ⟨h1, h2, h3⟩ := nameAt_some ho
    exact absurd (h3.trans hn.symm) (name_ne h1 h2 hk)
theorem nameAt_hit (k : Nat) (hk : k < 14) (w : List UInt8) (h0 : 0 < k) (hn : nameL k = w) : nameAt (k + 1) w = some k := by
  rw [nameAt_succ, if_pos ⟨h0, hn⟩]
  cases h : nameAt k w with
  | none => rfl
  | some j =>
    obtain ⟨h1, h2, h3⟩ := nameAt_some h
    exact absurd (h3.trans hn.symm) (name_apart ⟨j, by omega⟩ ⟨k, hk⟩ h1 h2)
theorem nameAt_miss (k : Nat) (w : List UInt8) (h : ¬ (0 < k ∧ nameL k = w)) : nameAt (k + 1) w = nameAt k w := by
  rw [nameAt_succ, if_neg h]
  cases nameAt k w <;> rfl
/-- What the loop over the names has made of the call, of what is left to be read. -/
def opSt (o : Option Nat) : CallS × List UInt8 := match o with
  | none => (call0, [])
  | some j => (callOf (j : Int), toldL j)
def stepP (st : CallS × List UInt8) (w : List UInt8) : Option (CallS × List UInt8) :=
  if st.1.op = 0 then (match opOf w with
    | none => none
    | some j => some (callOf (j : Int), toldL j))
  else match st.2 with
    | [] => none
    | k :: ks => (readF k st.1 w).map fun c => (c, ks)
def foldP : CallS × List UInt8 → List (List UInt8) → Option (CallS × List UInt8)
  | st, [] => some st
  | st, w :: ws => match stepP st w with
    | none => none
    | some st' => foldP st' ws
theorem foldP_app (a b : List (List UInt8)) : ∀ st, foldP st (a ++ b) = (foldP st a).bind (foldP · b) := by
  induction a with
  | nil => intro st; rfl
  | cons w a ih =>
    intro st
    rw [List.cons_append, foldP, foldP]
    cases stepP st w with
    | none => rfl
    | some st' => exact ih st'
theorem foldP_snoc {st st' : CallS × List UInt8} {a : List (List UInt8)} (w : List UInt8) (h : foldP st a = some st') : foldP st (a ++ [w]) = stepP st' w := by
  rw [foldP_app, h]
  show foldP st' [w] = _
  rw [foldP]
  cases stepP st' w <;> rfl
theorem foldP_none {st : CallS × List UInt8} {a l : List (List UInt8)} (h : foldP st a = none) (hp : a <+: l) : foldP st l = none := by
  obtain ⟨b, rfl⟩ := hp
  rw [foldP_app, h]; rfl
theorem readF_op {k : UInt8} {a c : CallS} {w : List UInt8} (h : readF k a w = some c) : c.op = a.op := by
  rw [(read_put h).1, putF_op]
theorem foldP_read : ∀ (ws : List (List UInt8)) (c : CallS) (l : List UInt8), c.op ≠ 0 → ((foldP (c, l) ws).bind fun st => if st.2 = [] then some st.1 else none) = goRead l ws c
  | [], c, l, h => by
    cases l with
    | nil => rfl
    | cons k ks => rfl
  | w :: ws, c, l, h => by
    rw [foldP]
    unfold stepP
    rw [if_neg h]
    cases l with
    | nil => rfl
    | cons k ks =>
      rw [goRead]
      dsimp only
      cases hr : readF k c w with
      | none => rfl
      | some c' => exact foldP_read ws c' ks (by rw [readF_op hr]; exact h)
theorem parse_fold (l : List UInt8) : parseC l = (foldP (call0, []) (splitL 32 l)).bind fun st => if st.2 = [] then some st.1 else none := by
  unfold parseC
  cases hs : splitL 32 l with
  | nil => exact absurd hs (splitL_ne 32 l)
  | cons w ws =>
    dsimp only
    rw [foldP]
    unfold stepP
    rw [if_pos (show (call0, ([] : List UInt8)).1.op = 0 from rfl)]
    cases ho : opOf w with
    | none => rfl
    | some op =>
      obtain ⟨_, k, rfl⟩ := opOf_some ho
      exact (foldP_read ws _ _ (by show ((k.val + 1 : Nat) : Int) ≠ 0; omega)).symm
/-- What holds from word to word. -/
def GoodP (st : CallS × List UInt8) (n : Nat) : Prop := (n = 0 ∧ st = (call0, [])) ∨ (0 < n ∧ st.1.op ≠ 0 ∧ ∃ k : Fin 13, ∃ dn, toldL (k.val + 1) = dn ++ st.2)
theorem stepP_good {st st' : CallS × List UInt8} {n : Nat} {w : List UInt8} (h : GoodP st n) (hs : stepP st w = some st') : GoodP st' (n + 1) := by
  rcases h with ⟨rfl, rfl⟩ | ⟨h0, h1, k, dn, h2⟩
  · unfold stepP at hs
    rw [if_pos (show (call0, ([] : List UInt8)).1.op = 0 from rfl)] at hs
    cases ho : opOf w with
    | none => rw [ho] at hs; cases hs
    | some j =>
      rw [ho] at hs
      obtain rfl := Option.some.inj hs
      obtain ⟨_, k, rfl⟩ := opOf_some ho
      exact .inr ⟨by omega, by show ((k.val + 1 : Nat) : Int) ≠ 0; omega, k, [], rfl⟩
  · unfold stepP at hs
    rw [if_neg h1] at hs
    obtain ⟨c, l⟩ := st
    cases l with
    | nil => cases hs
    | cons x ks =>
      dsimp only at hs h2 h1
      obtain ⟨c', hr, rfl⟩ := Option.map_eq_some_iff.1 hs
      exact .inr ⟨by omega, by dsimp only; rw [readF_op hr]; exact h1, k, dn ++ [x], by rw [h2]; simp⟩
theorem foldP_good : ∀ (ws : List (List UInt8)) (st st' : CallS × List UInt8) (n : Nat), GoodP st n → foldP st ws = some st' → GoodP st' (n + ws.length)
  | [], st, st', n, h, hf => by
    obtain rfl := Option.some.inj hf
    exact h
  | w :: ws, st, st', n, h, hf => by
    rw [foldP] at hf
    cases hs : stepP st w with
    | none => rw [hs] at hf; cases hf
    | some st2 =>
      rw [hs] at hf
      have := foldP_good ws st2 st' (n + 1) (stepP_good h hs) hf
      rw [List.length_cons]
      rw [show n + (ws.length + 1) = n + 1 + ws.length by omega]
      exact this
theorem fold_good {ws : List (List UInt8)} {st : CallS × List UInt8} (hf : foldP (call0, []) ws = some st) : GoodP st ws.length := by
  have := foldP_good ws _ _ 0 (.inl ⟨rfl, rfl⟩) hf
  rwa [Nat.zero_add] at this
theorem fold_zero {ws : List (List UInt8)} {st : CallS × List UInt8} (hf : foldP (call0, []) ws = some st) (h0 : st.1.op = 0) : st = (call0, []) := by
  rcases fold_good hf with ⟨_, h⟩ | ⟨_, h, _⟩
  · exact h
  · exact absurd h0 h
theorem stepP_zero {st : CallS × List UInt8} {w : List UInt8} (h : st = (call0, [])) : stepP st w = (opOf w).map fun j => opSt (some j) := by
  subst h
  unfold stepP
  rw [if_pos (show (call0, ([] : List UInt8)).1.op = 0 from rfl)]
  cases opOf w <;> rfl
theorem stepP_nil {c : CallS} {w : List UInt8} (h : c.op ≠ 0) : stepP (c, []) w = none := by
  unfold stepP
  rw [if_neg h]
theorem stepP_cons {c : CallS} {k : UInt8} {ks w : List UInt8} (h : c.op ≠ 0) : stepP (c, k :: ks) w = (readF k c w).map fun c' => (c', ks) := by
  unfold stepP
  rw [if_neg h]
theorem parse_done {l : List UInt8} {st : CallS × List UInt8} (hl : l.length ≤ 1200) (hf : foldP (call0, []) (splitL 32 l) = some st) : parseCS l = if st.2 = [] then (st.1, 0) else (call0, 3) := by
  unfold parseCS
  rw [if_neg (by omega), parse_fold, hf]
  show (match (if st.2 = [] then some st.1 else none) with
    | some c => (c, (0 : Int))
    | none => (call0, 3)) = _
  by_cases h : st.2 = []
  · rw [if_pos h, if_pos h]
  · rw [if_neg h, if_neg h]
theorem parse_stop {l : List UInt8} {pre : List (List UInt8)} (hl : l.length ≤ 1200) (hp : pre <+: splitL 32 l) (hf : foldP (call0, []) pre = none) : parseCS l = (call0, 3) := by
  unfold parseCS
  rw [if_neg (by omega), parse_fold, foldP_none hf hp]; rfl
end Go.Proofs.YtilmbpdfdickoaaDoor.Pure
/- Of the library's words (cut, a prefix, an index) at texts: plain. -/
namespace Go.Proofs.YtilmbpdfdickoaaDoor.Pure
open Go
set_option linter.unusedVariables false
set_option linter.unusedSimpArgs false
theorem part_at (c : UInt8) : ∀ l : List UInt8, c ∉ l ∨ ∃ a b, c ∉ a ∧ l = a ++ c :: b
  | [] => .inl (List.not_mem_nil)
  | x :: l => by
    by_cases h : x = c
    · exact .inr ⟨[], l, List.not_mem_nil, by rw [h]; rfl⟩
    · rcases part_at c l with hn | ⟨a, b, ha, rfl⟩
      · exact .inl (fun hm => by rcases List.mem_cons.1 hm with e | e; exact h e.symm; exact hn e)
      · exact .inr ⟨x :: a, b, fun hm => by (rcases List.mem_cons.1 hm with e | e; exact h e.symm; exact ha e), rfl⟩
theorem ib_no (c : UInt8) : ∀ l : List UInt8, c ∉ l → Lib.indexByte l c = -1
  | [], _ => rfl
  | x :: l, h => by
    have h1 : x ≠ c := fun e => h (List.mem_cons.2 (.inl e.symm))
    have h2 := ib_no c l (fun hm => h (List.mem_cons.2 (.inr hm)))
    unfold Lib.indexByte
    rw [beq_eq_false_iff_ne.2 h1, h2]; rfl
theorem ib_at (c : UInt8) (b : List UInt8) : ∀ a : List UInt8, c ∉ a → Lib.indexByte (a ++ c :: b) c = a.length
  | [], _ => by rw [List.nil_append]; unfold Lib.indexByte; rw [beq_self_eq_true]; rfl
  | x :: a, h => by
    have h1 : x ≠ c := fun e => h (List.mem_cons.2 (.inl e.symm))
    have h2 := ib_at c b a (fun hm => h (List.mem_cons.2 (.inr hm)))
    rw [List.cons_append]
    unfold Lib.indexByte
    rw [beq_eq_false_iff_ne.2 h1, h2]
    have : (((a.length : Nat) : Int) == -1) = false := by rw [beq_eq_false_iff_ne]; omega
    rw [this]
    simp
theorem index_one (c : UInt8) : ∀ l : List UInt8, Lib.index l [c] = Lib.indexByte l c
  | [] => rfl
  | x :: l => by
    unfold Lib.index Lib.indexByte
    have e : List.isPrefixOf [c] (x :: l) = (x == c) := by
      show (c == x && List.isPrefixOf [] l) = (x == c)
      rw [show List.isPrefixOf [] l = true from by cases l <;> rfl, Bool.and_true, Bool.eq_iff_iff, beq_iff_eq, beq_iff_eq]
      exact ⟨Eq.symm, Eq.symm⟩
    rw [e, index_one c l]
theorem cut_no (c : UInt8) (l : List UInt8) (h : c ∉ l) : Lib.cut l [c] = (l, [], false) := by
  unfold Lib.cut
  rw [index_one, ib_no c l h]; rfl
theorem cut_at (c : UInt8) (a b : List UInt8) (h : c ∉ a) : Lib.cut (a ++ c :: b) [c] = (a, b, true) := by
  unfold Lib.cut
  rw [index_one, ib_at c b a h, if_pos (by omega)]
  simp only [Int.toNat_natCast, List.length_singleton]
  rw [List.take_left, show a ++ c :: b = (a ++ [c]) ++ b by simp, List.drop_left' (by simp)]
theorem numT_in {l : List UInt8} {n : Nat} {x : UInt8} (h : numT l = some n) (hx : dD x = false) : x ∉ l := by
  obtain ⟨rfl, _⟩ := numT_some.1 h
  exact dec_no n x hx
/-- A handle's text, by the first dot. -/
theorem handle_cut (s : List UInt8) : handleV s = if (Lib.cut s [46]).2.2 = true then (match numT (Lib.cut s [46]).1 with
    | none => none
    | some x => match numT (Lib.cut s [46]).2.1 with
      | none => none
      | some y => some ((x : Int), (y : Int))) else none := by
  unfold handleV
  rcases part_at 46 s with h | ⟨a, b, ha, rfl⟩
  · rw [splitL_none 46 s h, cut_no 46 s h]; rfl
  · rw [splitL_app 46 b a ha, cut_at 46 a b ha]
    simp only [if_true]
    rcases part_at 46 b with hb | ⟨a2, b2, ha2, rfl⟩
    · rw [splitL_none 46 b hb]
      all_goals (dsimp only; cases numT a <;> first | rfl | (cases numT b <;> rfl))
    · rw [splitL_app 46 b2 a2 ha2]
      have hn : numT (a2 ++ 46 :: b2) = none := by
        cases hh : numT (a2 ++ 46 :: b2) with
        | none => rfl
        | some n => exact absurd (List.mem_append.2 (.inr (List.mem_cons.2 (.inl rfl)))) (numT_in (x := 46) hh (by decide))
      rw [hn]
      cases h3 : splitL 46 b2 with
      | nil => exact absurd h3 (splitL_ne 46 b2)
      | cons u v => cases numT a <;> rfl
/-- A nice value's text, by its sign. -/
theorem nice_cut (s : List UInt8) : niceV s = (match numT (Lib.trimPrefix s [45]) with
    | none => none
    | some n => if Lib.hasPrefix s [45] = true then (if n = 0 ∨ 1000 < n then none else some (-(n : Int))) else (if 1000 < n then none else some (n : Int))) := by
  cases s with
  | nil =>
    have h : numT [] = none := by
      cases h : numT [] with
      | none => rfl
      | some n => exact absurd (numT_some.1 h).1.symm (dec_ne n)
    rw [show Lib.trimPrefix [] [45] = [] from rfl, h]; rfl
  | cons x t =>
    unfold niceV Lib.trimPrefix
    dsimp only
    have e : Lib.hasPrefix (x :: t) [45] = decide (x = 45) := by
      show ((45 : UInt8) == x && List.isPrefixOf [] t) = decide (x = 45)
      rw [show List.isPrefixOf [] t = true from by cases t <;> rfl, Bool.and_true, Bool.eq_iff_iff, beq_iff_eq, decide_eq_true_iff]
      exact ⟨Eq.symm, Eq.symm⟩
    rw [e]
    by_cases h : x = 45
    · rw [decide_eq_true h, if_pos h, if_pos rfl]
      simp only [List.length_singleton, List.drop_succ_cons, List.drop_zero, if_true]
      cases numT t <;> rfl
    · rw [decide_eq_false h, if_neg h, if_neg (by decide)]
      simp only [Bool.false_eq_true, if_false]
      cases numT (x :: t) <;> rfl
end Go.Proofs.YtilmbpdfdickoaaDoor.Pure
/- strings.Split at a separator of one byte: plain. -/
namespace Go.Proofs.YtilmbpdfdickoaaDoor.Pure
open Go
set_option linter.unusedVariables false
set_option linter.unusedSimpArgs false
theorem splitK_is (c : UInt8) : ∀ (k : Nat) (l : List UInt8), l.count c = k → Lib.splitK [c] 0 k l = splitL c l
  | 0, l, h => by
    have hn : c ∉ l := List.count_eq_zero.1 h
    rw [splitL_none c l hn]; rfl
  | k + 1, l, h => by
    rcases part_at c l with hn | ⟨a, b, ha, rfl⟩
    · rw [List.count_eq_zero.2 hn] at h; omega
    · rw [List.count_append, List.count_eq_zero.2 ha, List.count_cons_self] at h
      rw [splitL_app c b a ha]
      unfold Lib.splitK
      rw [index_one, ib_at c b a ha]
      have e : (((a.length : Nat) : Int) == -1) = false := by rw [beq_eq_false_iff_ne]; omega
      rw [e]
      simp only [Bool.false_eq_true, if_false, Int.toNat_natCast, Nat.add_zero, List.length_singleton]
      rw [List.take_left, show a ++ c :: b = (a ++ [c]) ++ b by simp, List.drop_left' (by simp), splitK_is c k b (by omega)]
theorem splitB_is (c : UInt8) (s : ByteArray) : (Lib.splitB ⟨#[c]⟩ 0 (Lib.countB s ⟨#[c]⟩) s).map (·.data.toList) = splitL c s.data.toList ∧ (Lib.splitB ⟨#[c]⟩ 0 (Lib.countB s ⟨#[c]⟩) s).length = Lib.countB s ⟨#[c]⟩ + 1 := by
  refine ⟨?_, Lib.splitB_all ⟨#[c]⟩ (Nat.le_refl 1) 0 _ s rfl⟩
  rw [Lib.splitB_data]
  exact splitK_is c _ _ (Lib.count_one c s.data.toList).symm
end Go.Proofs.YtilmbpdfdickoaaDoor.Pure

/- Texts of masks: runs, items, what is parsed: plain lists of bytes. -/
namespace Go.Proofs.YthnbmepdolfbnaaDoor.Pure
set_option linter.unusedVariables false
set_option linter.unusedSimpArgs false
/-- A CPU's text. -/
def dg (n : Nat) : List UInt8 := if n < 10 then [UInt8.ofNat (48 + n)] else [UInt8.ofNat (48 + n / 10), UInt8.ofNat (48 + n % 10)]
def isD (b : UInt8) : Bool := decide (48 ≤ b.toNat) && decide (b.toNat ≤ 57)
/-- A number's value, if it is a CPU's. -/
def numV : List UInt8 → Option Nat
  | [a] => if isD a then some (a.toNat - 48) else none
  | [a, b] => if isD a = true ∧ isD b = true ∧ a.toNat ≠ 48 ∧ 10 * (a.toNat - 48) + (b.toNat - 48) < 64 then some (10 * (a.toNat - 48) + (b.toNat - 48)) else none
  | _ => none
theorem numV_lt {p : List UInt8} {n : Nat} (h : numV p = some n) : n < 64 := by
  unfold numV at h
  split at h
  · split at h
    · rename_i a ha
      simp [isD] at ha
      simp at h
      omega
    · cases h
  · split at h
    · rename_i hc
      simp at h
      omega
    · cases h
  · cases h
theorem numV_dig {p : List UInt8} {n : Nat} (h : numV p = some n) : ∀ x ∈ p, isD x = true := by
  unfold numV at h
  split at h
  · split at h
    · rename_i ha; intro x hx; simp at hx; rw [hx]; exact ha
    · cases h
  · split at h
    · rename_i hc; intro x hx; simp at hx; rcases hx with rfl | rfl; exact hc.1; exact hc.2.1
    · cases h
  · cases h
theorem numV_bad {p : List UInt8} {x : UInt8} (hx : x ∈ p) (hd : isD x = false) : numV p = none := by
  cases h : numV p with
  | none => rfl
  | some n => exact absurd (numV_dig h x hx) (by rw [hd]; decide)
theorem numV_dg : ∀ n : Fin 64, numV (dg n.val) = some n.val := by decide
theorem numV_dg' (n : Nat) (h : n < 64) : numV (dg n) = some n := numV_dg ⟨n, h⟩
theorem dg_dig : ∀ n : Fin 64, (dg n.val).all isD = true := by decide
theorem dg_dig' (n : Nat) (h : n < 64) : ∀ x ∈ dg n, isD x = true := List.all_eq_true.1 (dg_dig ⟨n, h⟩)
theorem dg_len (n : Nat) : 1 ≤ (dg n).length ∧ (dg n).length ≤ 2 := by unfold dg; split <;> simp
/-! ### Parted at a sign -/
def splitL (c : UInt8) : List UInt8 → List (List UInt8)
  | [] => [[]]
  | x :: l => if x = c then [] :: splitL c l else match splitL c l with
    | [] => [[x]]
    | h :: t => (x :: h) :: t
theorem splitL_ne (c : UInt8) (l : List UInt8) : splitL c l ≠ [] := by
  cases l with
  | nil => simp [splitL]
  | cons x l =>
    rw [splitL]
    split
    · simp
    · split <;> simp
theorem splitL_none (c : UInt8) : ∀ l : List UInt8, c ∉ l → splitL c l = [l] := by
  intro l
  induction l with
  | nil => intro _; rfl
  | cons x l ih =>
    intro h
    rw [splitL, if_neg (fun e => h (by rw [e]; exact List.mem_cons_self)), ih (fun hm => h (List.mem_cons_of_mem _ hm))]
theorem splitL_app (c : UInt8) (r : List UInt8) : ∀ l : List UInt8, c ∉ l → splitL c (l ++ c :: r) = l :: splitL c r := by
  intro l
  induction l with
  | nil => intro _; rw [List.nil_append, splitL, if_pos rfl]
  | cons x l ih =>
    intro h
    rw [List.cons_append, splitL, if_neg (fun e => h (by rw [e]; exact List.mem_cons_self)), ih (fun hm => h (List.mem_cons_of_mem _ hm))]
/-- A text is its first piece, or its first piece and what stands behind the sign. -/
theorem first_piece (c : UInt8) : ∀ l : List UInt8, c ∉ l ∨ ∃ a r, l = a ++ c :: r ∧ c ∉ a := by
  intro l
  induction l with
  | nil => exact .inl (by simp)
  | cons x l ih =>
    by_cases hx : x = c
    · exact .inr ⟨[], l, by rw [hx]; rfl, by simp⟩
    · rcases ih with h | ⟨a, r, rfl, h⟩
      · exact .inl (by simp only [List.mem_cons, not_or]; exact ⟨fun e => hx e.symm, h⟩)
      · exact .inr ⟨x :: a, r, rfl, by simp only [List.mem_cons, not_or]; exact ⟨fun e => hx e.symm, h⟩⟩
/-! ### Items -/
def span (a b : Nat) : Nat := 2 ^ (b + 1) - 2 ^ a
def itemV (it : List UInt8) : Option (Nat × Nat) := match splitL 45 it with
  | [p] => match numV p with
    | none => none
    | some n => some (n, n)
  | [p, q] => match numV p with
    | none => none
    | some a => match numV q with
      | none => none
      | some b => if b < a then none else some (a, b)
  | _ => none
def parseL : List (List UInt8) → Nat → Option Nat
  | [], m => some m
  | it :: its, m => match itemV it with
    | none => none
    | some (a, b) => parseL its (m ||| span a b)
def parseT (l : List UInt8) : Option Nat := parseL (splitL 44 l) 0
theorem span_bit (a b i : Nat) (h : a ≤ b + 1) : (span a b).testBit i = (decide (a ≤ i) && decide (i ≤ b)) := by
  have hp : 2 ^ a ≤ 2 ^ (b + 1) := Nat.pow_le_pow_right (by decide) h
  have e : span a b = 2 ^ (b + 1) - 1 - (2 ^ a - 1) := by unfold span; have : 0 < 2 ^ a := Nat.two_pow_pos a; omega
  have e2 : 2 ^ (b + 1) - 1 - (2 ^ a - 1) = 2 ^ (b + 1) - ((2 ^ a - 1) + 1) := by omega
  have h1 : 2 ^ a - 1 < 2 ^ (b + 1) := by have : 0 < 2 ^ a := Nat.two_pow_pos a; omega
  rw [e, e2, Nat.testBit_two_pow_sub_succ h1, Nat.testBit_two_pow_sub_one]
  rw [Bool.eq_iff_iff]
  simp
  omega
theorem span_or (m a b : Nat) (h : a ≤ b) : (m ||| span a a) ||| span a b = m ||| span a b := by
  apply Nat.eq_of_testBit_eq
  intro i
  rw [Nat.testBit_or, Nat.testBit_or, Nat.testBit_or, span_bit a a i (by omega), span_bit a b i (by omega)]
  by_cases h1 : a ≤ i <;> by_cases h2 : i ≤ a <;> by_cases h3 : i ≤ b <;> simp [h1, h2, h3] <;> omega
/-! ### What the program does -/
def progP : Nat → Bool → Nat → Nat → List UInt8 → Option Nat
  | 0, _, _, _, _ => none
  | f + 1, dash, frm, m, l => match numV (l.takeWhile isD) with
    | none => none
    | some n => if n < (if dash then frm else n) then none else match l.dropWhile isD with
      | [] => some (m ||| span (if dash then frm else n) n)
      | x :: r => if x = 44 ∨ (x = 45 ∧ dash = false) then progP f (x == 45) (if dash then frm else n) (m ||| span (if dash then frm else n) n) r else none
theorem parts (l : List UInt8) : l = l.takeWhile isD ++ l.dropWhile isD := List.takeWhile_append_dropWhile.symm
theorem take_dig (d : List UInt8) (hd : ∀ x ∈ d, isD x = true) (t : List UInt8) (ht : ∀ x r, t = x :: r → isD x = false) : (d ++ t).takeWhile isD = d ∧ (d ++ t).dropWhile isD = t := by
  induction d with
  | nil =>
    cases t with
    | nil => exact ⟨rfl, rfl⟩
    | cons x r => rw [List.nil_append, List.takeWhile_cons, List.dropWhile_cons, ht x r rfl]; exact ⟨rfl, rfl⟩
  | cons y d ih =>
    obtain ⟨h1, h2⟩ := ih (fun x hx => hd x (List.mem_cons_of_mem _ hx))
    have hy := hd y List.mem_cons_self
    rw [List.cons_append, List.takeWhile_cons, List.dropWhile_cons, hy, if_pos rfl, if_pos rfl, h1, h2]
    exact ⟨rfl, rfl⟩
/-- A text's digits ahead, and what stands behind. -/
theorem digits_of (l : List UInt8) : ∃ d e, l = d ++ e ∧ (∀ x ∈ d, isD x = true) ∧ (∀ x r, e = x :: r → isD x = false) := by
  induction l with
  | nil => exact ⟨[], [], rfl, by simp, by simp⟩
  | cons x l ih =>
    by_cases hx : isD x = true
    · obtain ⟨d, e, rfl, h1, h2⟩ := ih
      exact ⟨x :: d, e, rfl, fun y hy => (List.mem_cons.1 hy).elim (fun e => e ▸ hx) (fun hy => h1 y hy), h2⟩
    · exact ⟨[], x :: l, rfl, by simp, fun y r e => by cases e; simpa using hx⟩
theorem d44 : isD 44 = false := by decide
theorem d45 : isD 45 = false := by decide
theorem e_notD {e t : List UInt8} (h1 : ∀ x r, e = x :: r → isD x = false) (h2 : ∀ x r, t = x :: r → isD x = false) : ∀ x r, e ++ t = x :: r → isD x = false := by
  intro x r h
  cases e with
  | nil => exact h2 x r h
  | cons y e =>
    rw [List.cons_append] at h
    injection h with e1 e2
    exact e1 ▸ h1 y e rfl
/-- What stands behind an item: nothing, or a comma and more. -/
def Tail (t : List UInt8) (its : List (List UInt8)) : Prop := (t = [] ∧ its = []) ∨ ∃ r, t = 44 :: r ∧ its = splitL 44 r
theorem Tail.notD {t : List UInt8} {its} (h : Tail t its) : ∀ x r, t = x :: r → isD x = false := by
  rintro x r rfl
  rcases h with ⟨h, _⟩ | ⟨r', h, _⟩
  · cases h
  · cases h; exact d44
theorem prog_is : ∀ (f : Nat) (it t : List UInt8) (its : List (List UInt8)) (m frm : Nat), it.length + t.length < f → 44 ∉ it → Tail t its →
    progP f false frm m (it ++ t) = parseL (it :: its) m ∧ (∀ a, progP f true a m (it ++ t) = match numV it with
      | none => none
      | some n => if n < a then none else parseL its (m ||| span a n)) := by
  intro f
  induction f with
  | zero => intro it t its m frm h; omega
  | succ f ih =>
    intro it t its m frm hf h44 hT
    obtain ⟨d, e, rfl, hd, he⟩ := digits_of it
    have hcut := take_dig d hd (e ++ t) (e_notD he hT.notD)
    rw [← List.append_assoc] at hcut
    -- behind the item: the comma
    have next : ∀ q : Nat, (match t with
        | [] => some q
        | x :: r => if x = 44 ∨ (x = 45 ∧ true = false) then progP f (x == 45) 0 q r else none) = parseL its q := by
      intro q
      rcases hT with ⟨rfl, rfl⟩ | ⟨r, rfl, rfl⟩
      · rfl
      · show (if (44 : UInt8) = 44 ∨ _ then progP f ((44 : UInt8) == 45) 0 q r else none) = _
        rw [if_pos (.inl rfl), show ((44 : UInt8) == 45) = false from by decide]
        rcases first_piece 44 r with h | ⟨a, r', rfl, h⟩
        · rw [splitL_none 44 r h]
          have := (ih r [] [] q 0 (by simp only [List.length_append, List.length_cons, List.length_nil] at hf ⊢; omega) h (.inl ⟨rfl, rfl⟩)).1
          rw [List.append_nil] at this
          exact this
        · rw [splitL_app 44 r' a h]
          exact (ih a (44 :: r') (splitL 44 r') q 0 (by simp only [List.length_append, List.length_cons] at hf ⊢; omega) h (.inr ⟨r', rfl, rfl⟩)).1
    have frmfree : ∀ (g : Nat) (q x y : Nat) (l : List UInt8), progP g false x q l = progP g false y q l := by
      intro g q x y l
      cases g with
      | zero => rfl
      | succ g => rw [progP, progP]; rfl
    have next' : ∀ (q a : Nat) (b : Bool), e = [] → (match e ++ t with
        | [] => some q
        | x :: r => if x = 44 ∨ (x = 45 ∧ b = false) then progP f (x == 45) a q r else none) = parseL its q := by
      intro q a b h0
      rw [h0, List.nil_append, ← next q]
      rcases hT with ⟨rfl, rfl⟩ | ⟨r, rfl, rfl⟩
      · rfl
      · show (if (44 : UInt8) = 44 ∨ _ then progP f ((44 : UInt8) == 45) a q r else none) = (if (44 : UInt8) = 44 ∨ _ then progP f ((44 : UInt8) == 45) 0 q r else none)
        rw [if_pos (.inl rfl), if_pos (.inl rfl), show ((44 : UInt8) == 45) = false from by decide]
        exact frmfree f q a 0 r
    refine ⟨?_, fun a => ?_⟩
    · -- ahead: a comma, or nothing
      rw [progP, hcut.1, hcut.2, parseL]
      cases hn : numV d with
      | none =>
        have : itemV (d ++ e) = none := by
          unfold itemV
          cases e with
          | nil =>
            rw [List.append_nil, splitL_none 45 d (fun h => by have := hd _ h; rw [d45] at this; cases this)]
            simp only [hn]
          | cons x e =>
            by_cases hx : x = 45
            · subst hx
              rw [splitL_app 45 e d (fun h => by have := hd _ h; rw [d45] at this; cases this)]
              cases hs : splitL 45 e with
              | nil => exact absurd hs (splitL_ne 45 e)
              | cons u v => cases v with
                | nil => simp only [hn]
                | cons _ _ => rfl
            · have hxd := he x e rfl
              rcases first_piece 45 (d ++ x :: e) with h | ⟨p, r, hp, h⟩
              · have hb := numV_bad (p := d ++ x :: e) (x := x) (by simp) hxd
                rw [splitL_none 45 _ h]
                simp only [hb]
              · rw [hp, splitL_app 45 r p h]
                have hxp : x ∈ p := by
                  have hlen : d.length < p.length := by
                    by_cases hl : d.length < p.length
                    · exact hl
                    · exfalso
                      have h1 := congrArg (fun l => l[p.length]?) hp
                      rw [List.getElem?_append_right (Nat.le_refl _), Nat.sub_self, List.getElem?_cons_zero] at h1
                      by_cases hl2 : p.length < d.length
                      · rw [List.getElem?_append_left hl2] at h1
                        have := hd 45 (List.mem_of_getElem? h1)
                        rw [d45] at this; cases this
                      · have : p.length = d.length := by omega
                        rw [this, List.getElem?_append_right (Nat.le_refl _), Nat.sub_self, List.getElem?_cons_zero] at h1
                        exact hx (Option.some.inj h1)
                  have h1 := congrArg (fun l => l[d.length]?) hp
                  rw [List.getElem?_append_right (Nat.le_refl _), Nat.sub_self, List.getElem?_cons_zero, List.getElem?_append_left hlen] at h1
                  exact List.mem_of_getElem? h1.symm
                have hb := numV_bad hxp hxd
                cases hs : splitL 45 r with
                | nil => exact absurd hs (splitL_ne 45 r)
                | cons u v => cases v with
                  | nil => simp only [hb]
                  | cons _ _ => rfl
        rw [this]
      | some n =>
        show (if n < n then none else match e ++ t with
          | [] => some (m ||| span n n)
          | x :: r => if x = 44 ∨ (x = 45 ∧ false = false) then progP f (x == 45) n (m ||| span n n) r else none) = _
        rw [if_neg (Nat.lt_irrefl n)]
        cases e with
        | nil =>
          have hi : itemV (d ++ []) = some (n, n) := by
            unfold itemV
            rw [List.append_nil, splitL_none 45 d (fun h => by have := hd _ h; rw [d45] at this; cases this)]
            simp only [hn]
          rw [hi]
          exact next' (m ||| span n n) n false rfl
        | cons x e =>
          have hxd := he x e rfl
          have hx44 : x ≠ 44 := fun h => h44 (by rw [h]; simp)
          show (if x = 44 ∨ (x = 45 ∧ false = false) then progP f (x == 45) n (m ||| span n n) (e ++ t) else none) = _
          by_cases hx : x = 45
          · subst hx
            rw [if_pos (.inr ⟨rfl, rfl⟩), show ((45 : UInt8) == 45) = true from by decide]
            have hI := (ih e t its (m ||| span n n) 0 (by simp only [List.length_append, List.length_cons] at hf ⊢; omega) (fun h => h44 (by simp [h])) hT).2 n
            rw [hI]
            have hs := splitL_app 45 e d (fun h => by have := hd _ h; rw [d45] at this; cases this)
            rcases first_piece 45 e with h | ⟨p, r, hp, h⟩
            · have hi : itemV (d ++ 45 :: e) = match numV e with
                  | none => none
                  | some b => if b < n then none else some (n, b) := by
                unfold itemV
                rw [hs, splitL_none 45 e h]
                simp only [hn]
              rw [hi]
              cases hq : numV e with
              | none => rfl
              | some b =>
                by_cases hb : b < n
                · simp only [if_pos hb]
                · simp only [if_neg hb]
                  rw [span_or m n b (by omega)]
            · have hi : itemV (d ++ 45 :: e) = none := by
                unfold itemV
                rw [hs, hp, splitL_app 45 r p h]
                cases hs2 : splitL 45 r with
                | nil => exact absurd hs2 (splitL_ne 45 r)
                | cons u v => rfl
              rw [hi, numV_bad (x := 45) (by rw [hp]; simp) d45]
          · rw [if_neg (fun h => h.elim hx44 (fun h => hx h.1))]
            have hi : itemV (d ++ x :: e) = none := by
              unfold itemV
              rcases first_piece 45 (d ++ x :: e) with h | ⟨p, r, hp, h⟩
              · have hb := numV_bad (p := d ++ x :: e) (x := x) (by simp) hxd
                rw [splitL_none 45 _ h]
                simp only [hb]
              · rw [hp, splitL_app 45 r p h]
                have hxp : x ∈ p := by
                  have hlen : d.length < p.length := by
                    by_cases hl : d.length < p.length
                    · exact hl
                    · exfalso
                      have h1 := congrArg (fun l => l[p.length]?) hp
                      rw [List.getElem?_append_right (Nat.le_refl _), Nat.sub_self, List.getElem?_cons_zero] at h1
                      by_cases hl2 : p.length < d.length
                      · rw [List.getElem?_append_left hl2] at h1
                        have := hd 45 (List.mem_of_getElem? h1)
                        rw [d45] at this; cases this
                      · have : p.length = d.length := by omega
                        rw [this, List.getElem?_append_right (Nat.le_refl _), Nat.sub_self, List.getElem?_cons_zero] at h1
                        exact hx (Option.some.inj h1)
                  have h1 := congrArg (fun l => l[d.length]?) hp
                  rw [List.getElem?_append_right (Nat.le_refl _), Nat.sub_self, List.getElem?_cons_zero, List.getElem?_append_left hlen] at h1
                  exact List.mem_of_getElem? h1.symm
                have hb := numV_bad hxp hxd
                cases hs : splitL 45 r with
                | nil => exact absurd hs (splitL_ne 45 r)
                | cons u v => cases v with
                  | nil => simp only [hb]
                  | cons _ _ => rfl
            rw [hi]
    · -- ahead: a dash
      rw [progP, hcut.1, hcut.2]
      simp only [if_true]
      cases e with
      | nil =>
        rw [List.append_nil]
        cases hn : numV d with
        | none => rfl
        | some n =>
          by_cases hna : n < a
          · simp only [if_pos hna]
          · simp only [if_neg hna]
            exact next' (m ||| span a n) a true rfl
      | cons x e =>
        have hxd := he x e rfl
        have hx44 : x ≠ 44 := fun h => h44 (by rw [h]; simp)
        rw [numV_bad (p := d ++ x :: e) (x := x) (by simp) hxd]
        cases hn : numV d with
        | none => rfl
        | some n =>
          by_cases hna : n < a
          · simp only [if_pos hna]
          · simp only [if_neg hna]
            show (if x = 44 ∨ (x = 45 ∧ true = false) then progP f (x == 45) a (m ||| span a n) (e ++ t) else none) = none
            rw [if_neg (fun h => h.elim hx44 (fun h => by cases h.2))]
theorem prog_parse (l : List UInt8) (f : Nat) (hf : l.length < f) (frm : Nat) : progP f false frm 0 l = parseT l := by
  unfold parseT
  rcases first_piece 44 l with h | ⟨a, r, rfl, h⟩
  · have := (prog_is f l [] [] 0 frm (by simpa using hf) h (.inl ⟨rfl, rfl⟩)).1
    rw [List.append_nil] at this
    rw [splitL_none 44 l h]
    exact this
  · rw [splitL_app 44 r a h]
    exact (prog_is f a (44 :: r) (splitL 44 r) 0 frm (by simpa using hf) h (.inr ⟨r, rfl, rfl⟩)).1
end Go.Proofs.YthnbmepdolfbnaaDoor.Pure

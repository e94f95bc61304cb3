/- CpusSpoilt: plain. -/
import Derived.Test.YthnbmepdolfbnaaDoorPureCpus
import Derived.Test.YthnbmepdolfbnaaDoorPrintF9
namespace Go.Proofs.YthnbmepdolfbnaaDoor
set_option linter.unusedVariables false
set_option linter.unusedSimpArgs false
set_option maxRecDepth 100000
open Go.RowKit Go.Proofs.YthnbmepdolfbnaaDoor.Given Go.Proofs.YthnbmepdolfbnaaDoor.Print Go.Proofs.YthnbmepdolfbnaaDoor.Pure Go.Proofs.YthnbmepdolfbnaaDoorW.PrintWords Go.Proofs.YthnbmepdolfbnaaDoorW.PrintLast Go.Proofs.YthnbmepdolfbnaaDoorW.PrintMore
theorem split_snoc (s c : UInt8) (h : c ≠ s) : ∀ l : List UInt8, ∃ init last, splitL s l = init ++ [last] ∧ splitL s (l ++ [c]) = init ++ [last ++ [c]] := by
  intro l
  induction l with
  | nil => exact ⟨[], [], rfl, by rw [List.nil_append, splitL, if_neg h]; rfl⟩
  | cons x l ih =>
    obtain ⟨init, last, h1, h2⟩ := ih
    by_cases hx : x = s
    · refine ⟨[] :: init, last, by rw [splitL, if_pos hx, h1]; rfl, ?_⟩
      rw [List.cons_append, splitL, if_pos hx, h2]; rfl
    · cases init with
      | nil =>
        refine ⟨[], x :: last, by rw [splitL, if_neg hx, h1]; rfl, ?_⟩
        rw [List.cons_append, splitL, if_neg hx, h2]; rfl
      | cons u v =>
        refine ⟨(x :: u) :: v, last, by rw [splitL, if_neg hx, h1]; rfl, ?_⟩
        rw [List.cons_append, splitL, if_neg hx, h2]; rfl
theorem parse_bad (bad : List UInt8) (hb : itemV bad = none) : ∀ (its : List (List UInt8)) (m : Nat), parseL (its ++ [bad]) m = none := by
  intro its
  induction its with
  | nil => intro m; rw [List.nil_append, parseL, hb]
  | cons it its ih =>
    intro m
    rw [List.cons_append, parseL]
    cases itemV it with
    | none => rfl
    | some r => exact ih _
theorem itemV_last (init : List (List UInt8)) (last : List UInt8) (it : List UInt8) (h : splitL 45 it = init ++ [last]) (hn : numV last = none) : itemV it = none := by
  unfold itemV
  rw [h]
  match init with
  | [] => simp only [List.nil_append, hn]
  | [p] =>
    simp only [List.cons_append, List.nil_append, hn]
    cases numV p <;> rfl
  | p :: q :: r => cases r <;> rfl
theorem spoilt_end (l : List UInt8) (c : UInt8) (hc : isD c = false) : parseT (l ++ [c]) = none := by
  unfold parseT
  by_cases h44 : c = 44
  · subst h44
    rw [split_two]
    exact parse_bad [] (by decide) _ 0
  · obtain ⟨init, last, h1, h2⟩ := split_snoc 44 c h44 l
    rw [h2]
    refine parse_bad _ ?_ _ 0
    by_cases h45 : c = 45
    · subst h45
      exact itemV_last (splitL 45 last) [] _ (split_two 45 last []) rfl
    · obtain ⟨i2, l2, g1, g2⟩ := split_snoc 45 c h45 last
      exact itemV_last i2 (l2 ++ [c]) _ g2 (numV_bad (x := c) (by simp) hc)
theorem zero_dg (n : Nat) (h : n < 64) : numV (48 :: dg n) = none := by
  have key : ∀ m : Fin 64, numV (48 :: dg m.val) = none := by decide
  exact key ⟨n, h⟩
theorem itemV_zero (r : Nat × Nat) (h1 : r.1 < 64) (h2 : r.2 < 64) : itemV (48 :: itemT r) = none := by
  unfold itemT itemV
  have hn : (45 : UInt8) ∉ (48 :: dg r.1) := by
    simp only [List.mem_cons, not_or]
    exact ⟨by decide, no45 _ h1⟩
  by_cases hlt : r.1 < r.2
  · rw [if_pos hlt, ← List.cons_append, splitL_app 45 _ _ hn, splitL_none 45 _ (no45 _ h2)]
    simp only [zero_dg _ h1]
  · rw [if_neg hlt, splitL_none 45 _ hn]
    simp only [zero_dg _ h1]
theorem spoilt_zero (M : Nat) (hM : M < 2 ^ 64) (h : M ≠ 0) : parseT (48 :: txt M 64) = none := by
  unfold parseT
  rw [splitL, if_neg (by decide), split_txt M hM h]
  cases hr : runs M 64 with
  | nil => exact absurd hr (runs_ne M hM h)
  | cons r rs =>
    have := runs_ok M hM 64 r (by rw [hr]; exact List.mem_cons_self)
    show parseL ((48 :: itemT r) :: rs.map itemT) 0 = none
    rw [parseL, itemV_zero r this.2.2 this.2.1]
theorem spoilt_j (M : Nat) (hM : M < 2 ^ 64) (h0 : M ≠ 0) (a1 : Int) (h1 : 0 ≤ a1) (h2 : a1 < 256) (hd : a1 < 48 ∨ 57 < a1) (k : Nat) : turnspitlaw05_CpusSpoilt.j0 (k + 1) a1 true (ba (printL M)) false = some true := by
  have l0 := printL_len M hM
  have e0 : printL M = txt M 64 := if_neg h0
  have hn := txt_ne M hM h0
  have hp : 1 ≤ (txt M 64).length := List.length_pos_iff.2 hn
  rw [e0] at l0
  have hc : isD (UInt8.ofNat a1.toNat) = false := by
    cases hh : isD (UInt8.ofNat a1.toNat) with
    | false => rfl
    | true =>
      have := (isD_iff _).1 hh
      rw [UInt8.toNat_ofNat'] at this
      omega
  have hstr : strOfNums [a1] = ba [UInt8.ofNat a1.toNat] := rfl
  have p1 : parseS (txt M 64 ++ [UInt8.ofNat a1.toNat]) = (0, 3) := by
    unfold parseS
    rw [if_neg (by rw [List.length_append, List.length_singleton]; omega), if_neg, spoilt_end _ _ hc]
    intro e
    have := congrArg List.length e
    rw [List.length_append, List.length_singleton, List.length_singleton] at this
    omega
  have p2 : parseS (48 :: txt M 64) = (0, 3) := by
    unfold parseS
    rw [if_neg (by rw [List.length_cons]; omega), if_neg (fun e => by cases e), spoilt_zero M hM h0]
  rw [turnspitlaw05_CpusSpoilt.j0, if_neg Bool.false_ne_true, Option.bind_some, hstr, e0, ba_size, ba_size, if_pos (by rw [List.length_singleton]; omega), ba_app, pa_f _ (by rw [List.length_append, List.length_singleton]; omega), p1, Option.bind_some, if_pos (by omega), show (⟨#[48]⟩ : ByteArray) = ba [48] from rfl, ba_app, pa_f _ (by rw [List.length_append, List.length_singleton]; omega), show [48] ++ txt M 64 = 48 :: txt M 64 from rfl, p2, Option.bind_some, if_pos rfl, if_pos rfl, if_pos rfl, if_pos (by omega)]
  have hz : (if (((0 : Int), (3 : Int)) : Int × Int).2 = 3 then some ((((0 : Int), (3 : Int)) : Int × Int).1 == 0) else some false) = some true := rfl
  rw [hz]
  split <;> (try split) <;> (try split) <;> rfl
theorem Walk.CpusSpoilt (a0 : Int) (w0 : (Lit.int .u64 a0).wf = true) (a1 : Int) (w1 : (Lit.int .u8 a1).wf = true) (w : World) (HLd : True) :
    Calls Tryd.prog 9 #[.int .u64 a0, .int .u8 a1] w fun e w' => e = .returned (.bool true) ∧ Below w.heap.size w w' := by
  obtain ⟨M, rfl, hM⟩ := of_u64 w0
  have h1 := of_u8 w1
  refine turnspitlaw05_CpusSpoilt.calls 10 _ _ true w ?_
  unfold turnspitlaw05_CpusSpoilt.f
  rw [awake_f, Option.bind_some, if_pos rfl, pr_f M hM, Option.bind_some]
  split
  · rw [turnspitlaw05_CpusSpoilt.j0, if_pos rfl]
  · rename_i h0
    split
    · rename_i h48
      by_cases h57 : a1 ≤ 57
      · rw [decide_eq_true h57, turnspitlaw05_CpusSpoilt.j0, if_pos rfl]
      · rw [decide_eq_false h57]
        exact spoilt_j M hM (by omega) a1 h1.1 h1.2 (by omega) 9
    · exact spoilt_j M hM (by omega) a1 h1.1 h1.2 (by omega) 9
end Go.Proofs.YthnbmepdolfbnaaDoor

/- What comes of a right table is right; of other slots nothing changes: plain. -/
import Derived.Test.YtdchbcpfciljoaaDoorPureFirst
namespace Go.Proofs.YtdchbcpfciljoaaDoor.Pure
open Go.RowKit Go.Proofs.YtdchbcpfciljoaaDoor Go.Proofs.YtdchbcpfciljoaaDoor.Given Go.Proofs.YtdchbcpfciljoaaDoor.Print Go.Proofs.YtdchbcpfciljoaaDoorW.PrintWords
set_option linter.unusedVariables false
set_option linter.unusedSimpArgs false
set_option maxRecDepth 100000
/-- What a table that was told must be, beside the table that was. -/
def Told4 (r0 : List Int) (r1 : List S52) (s : List Int) (t : List S52) (e p : Int) : Prop :=
  (e ≠ 0 → s.length = 0) ∧ (e = 0 → s.length = 5 ∧ t.length = 5 ∧ turnspitref14_Right.f 1000 s t = some true ∧ ∀ i : Int, 0 ≤ i → i < 5 → i ≠ p → rd s i = rd r0 i ∧ rd_T52 t i = rd_T52 r1 i)
theorem rd_set (l : List Int) (n : Nat) (q : Int) (i : Int) (h0 : 0 ≤ i) (h1 : i < l.length) (hne : i ≠ (n : Int)) : rd (l.set n q) i = rd l i := by
  obtain ⟨i, rfl⟩ := Int.eq_ofNat_of_zero_le h0
  rw [rd_nat (l.set n q) i (by simpa using h1), rd_nat l i (by omega), List.getElem_set_ne (by omega)]
theorem rdT_set (l : List S52) (n : Nat) (q : S52) (i : Int) (h0 : 0 ≤ i) (h1 : i < l.length) (hne : i ≠ (n : Int)) : rd_T52 (l.set n q) i = rd_T52 l i := by
  obtain ⟨i, rfl⟩ := Int.eq_ofNat_of_zero_le h0
  rw [rdT_nat (l.set n q) i (by simpa using h1), rdT_nat l i (by omega), List.getElem_set_ne (by omega)]
theorem told_set {r0 : List Int} {r1 : List S52} (hF : Five r0 r1) (n : Nat) (q : Int) (t : S52) (hq : u64 q) (hr : rightS (r0.set n q) (r1.set n t) = true) : Told4 r0 r1 (r0.set n q) (r1.set n t) 0 (n : Int) := by
  refine ⟨fun h => absurd rfl h, fun _ => ⟨by rw [List.length_set]; exact hF.1, by rw [List.length_set]; exact hF.2.1, ?_, fun i h0 h1 hne => ⟨rd_set r0 n q i h0 (by rw [hF.1]; exact h1) hne, rdT_set r1 n t i h0 (by rw [hF.2.1]; exact h1) hne⟩⟩⟩
  rw [rRight_f _ _ (U_set hF.2.2.1 n hq) 1000 (by decide), hr]
theorem told_create {r0 : List Int} {r1 : List S52} (hF : Five r0 r1) (cpus nice m : Int) (hm : u64 m) : Told4 r0 r1 (createS r0 r1 cpus nice m).1 (createS r0 r1 cpus nice m).2.1 (createS r0 r1 cpus nice m).2.2.2.2 (createS r0 r1 cpus nice m).2.2.1 := by
  by_cases h : (createS r0 r1 cpus nice m).2.2.2.2 = 0
  · obtain ⟨i, q, t, _, hi, es, _, hr', hq, _, _, _⟩ := create_ok r0 r1 hF.2.2.1 cpus nice m hm h
    rw [es]
    exact told_set hF i q t hq hr'
  · refine ⟨fun _ => ?_, fun h0 => absurd h0 h⟩
    unfold createS at h ⊢
    split at h
    · split at h
      · rw [if_pos (by assumption), if_pos (by assumption)]; rfl
      · rw [if_pos (by assumption), if_neg (by assumption)]
        cases hf : firstFree r0 0 with
        | none => rfl
        | some n => rw [hf] at h; exact absurd rfl h
    · rw [if_neg (by assumption)]; rfl
theorem told_exit {r0 : List Int} {r1 : List S52} (hF : Five r0 r1) (slot gen : Int) : Told4 r0 r1 (exitS r0 r1 slot gen).1 (exitS r0 r1 slot gen).2.1 (exitS r0 r1 slot gen).2.2 slot := by
  by_cases h : (exitS r0 r1 slot gen).2.2 = 0
  · obtain ⟨i, q, rfl, hi, es, _, hr', hq, _, _, _, _⟩ := exit_ok r0 r1 hF.2.2.1 slot gen h
    rw [es]
    exact told_set hF i q z52 hq hr'
  · refine ⟨fun _ => ?_, fun h0 => absurd h0 h⟩
    unfold exitS at h ⊢
    split at h
    · split at h
      · split at h
        · exact absurd rfl h
        · rw [if_pos (by assumption), if_pos (by assumption), if_neg (by assumption)]; rfl
      · rw [if_pos (by assumption), if_neg (by assumption)]; rfl
    · rw [if_neg (by assumption)]; rfl
theorem told_step {r0 : List Int} {r1 : List S52} (hF : Five r0 r1) (slot ev cpu : Int) (hw : (Lit.int .i64 ev).wf = true) : Told4 r0 r1 (stepS r0 r1 slot ev cpu).1 (stepS r0 r1 slot ev cpu).2.1 (stepS r0 r1 slot ev cpu).2.2 slot := by
  by_cases h : (stepS r0 r1 slot ev cpu).2.2 = 0
  · obtain ⟨i, q, rfl, hi, es, _, hr', hq, _⟩ := step_ok r0 r1 hF.2.2.1 slot ev cpu hw h
    rw [es]
    refine ⟨fun h => absurd rfl h, fun _ => ⟨by rw [List.length_set]; exact hF.1, hF.2.1, ?_, fun i h0 h1 hne => ⟨rd_set r0 _ q i h0 (by rw [hF.1]; exact h1) hne, rfl⟩⟩⟩
    rw [rRight_f _ _ (U_set hF.2.2.1 i hq) 1000 (by decide), hr']
  · refine ⟨fun _ => ?_, fun h0 => absurd h0 h⟩
    unfold stepS at h ⊢
    split at h
    · split at h
      · rw [if_pos (by assumption), if_pos (by assumption)]; rfl
      · split at h
        · exact absurd rfl h
        · rw [if_pos (by assumption), if_neg (by assumption), if_neg (by assumption)]; rfl
    · rw [if_neg (by assumption)]; rfl
theorem right_all {r0 : List Int} {r1 : List S52} (hF : Five r0 r1) (n slot : Int) (h0 : 0 ≤ slot) (h5 : slot < 5) :
    ∃ (g : Int) (a0 : List Int) (a1 : List S52) (xs xg e : Int) (b0 : List Int) (b1 : List S52) (f : Int) (c0 : List Int) (c1 : List S52) (gg : Int),
      turnspitref06_Gen.f (rd r0 slot) = some g ∧ table_Create.f r0 r1 8 (wrap64 ((Int.tmod (wrap64 n) 40) - 20)) (IntKind.u64.wrap n) = some (a0, a1, xs, xg, e) ∧ Told4 r0 r1 a0 a1 e xs ∧
      table_Exit.f r0 r1 slot g = some (b0, b1, f) ∧ Told4 r0 r1 b0 b1 f slot ∧
      table_Step.f r0 r1 slot (Int.tmod (wrap64 (IntKind.u16.wrap (Int.tdiv n 32))) 16) (Int.tmod (wrap64 (IntKind.u16.wrap (Int.tdiv n 64))) 8) = some (c0, c1, gg) ∧ Told4 r0 r1 c0 c1 gg slot ∧
      table_Right.f 1000 r0 r1 = some true := by
  have hu : u64 (IntKind.u64.wrap n) := by show 0 ≤ IntKind.u64.wrap n ∧ IntKind.u64.wrap n < 18446744073709551616; rw [u64wrap]; omega
  have h16 := tmod_in (wrap64 (IntKind.u16.wrap (Int.tdiv n 32))) 16 (by decide)
  have hw := wf_small (n := Int.tmod (wrap64 (IntKind.u16.wrap (Int.tdiv n 32))) 16) (by omega) (by omega)
  refine ⟨_, _, _, _, _, _, _, _, _, _, _, _, refGen_eq (rd_u64 hF.2.2.1 h0 (by rw [hF.1]; exact h5)), Create_f r0 r1 hF.2.2.1 8 _ _ hu, told_create hF 8 _ _ hu, Exit_f r0 r1 hF.2.2.1 slot _, told_exit hF slot _, Step_f r0 r1 hF.2.2.1 slot _ _ hw, told_step hF slot _ _ hw, ?_⟩
  rw [Right_f r0 r1 hF.2.2.1 1000 (by decide), hF.2.2.2]
end Go.Proofs.YtdchbcpfciljoaaDoor.Pure

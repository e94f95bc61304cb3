/- What the laws of chapter 05 share: plain. -/
import Derived.Test.YthnbmepdolfbnaaDoorPureRef
import Derived.Test.YthnbmepdolfbnaaDoorPrintF12
namespace Go.Proofs.YthnbmepdolfbnaaDoor.Pure
open Go.RowKit Go.Proofs.YthnbmepdolfbnaaDoor Go.Proofs.YthnbmepdolfbnaaDoor.Given Go.Proofs.YthnbmepdolfbnaaDoor.Print Go.Proofs.YthnbmepdolfbnaaDoorW.PrintWords Go.Proofs.YthnbmepdolfbnaaDoorW.PrintLast Go.Proofs.YthnbmepdolfbnaaDoorW.PrintMore
set_option linter.unusedVariables false
set_option linter.unusedSimpArgs false
set_option maxRecDepth 100000
theorem of_u64 {a : Int} (h : (Lit.int .u64 a).wf = true) : ∃ M : Nat, a = (M : Int) ∧ M < 2 ^ 64 := by
  simp [Lit.wf, IntKind.min, IntKind.max, IntKind.signed, IntKind.bits] at h
  exact ⟨a.toNat, by omega, by omega⟩
theorem of_u8 {a : Int} (h : (Lit.int .u8 a).wf = true) : 0 ≤ a ∧ a < 256 := by
  simp [Lit.wf, IntKind.min, IntKind.max, IntKind.signed, IntKind.bits] at h
  omega
theorem pr_f (M : Nat) (hM : M < 2 ^ 64) : cpus_Print.f (M : Int) = some (ba (printL M)) := by
  unfold cpus_Print.f
  rw [if_pos ⟨by omega, by omega⟩, Int.toNat_natCast]
  rfl
theorem pa_f (l : List UInt8) (h : l.length ≤ 140737488351232) : cpus_Parse.f (ba l) = some (parseS l) := by
  unfold cpus_Parse.f
  rw [if_pos (by rw [ba_size]; exact h), ba_data]
theorem parseL_lt : ∀ (its : List (List UInt8)) (m q : Nat), m < 2 ^ 64 → parseL its m = some q → q < 2 ^ 64 := by
  intro its
  induction its with
  | nil => intro m q hm h; rw [parseL] at h; rw [← Option.some.inj h]; exact hm
  | cons it its ih =>
    intro m q hm h
    rw [parseL] at h
    cases hi : itemV it with
    | none => rw [hi] at h; cases h
    | some r =>
      rw [hi] at h
      obtain ⟨a, b⟩ := r
      refine ih _ q (or64 m _ hm (span_lt a b ?_)) h
      unfold itemV at hi
      split at hi
      · split at hi
        · cases hi
        · rename_i n hn
          simp at hi
          have := numV_lt hn
          omega
      · split at hi
        · cases hi
        · split at hi
          · cases hi
          · rename_i n hn
            split at hi
            · cases hi
            · simp at hi
              have := numV_lt hn
              omega
      · cases hi
/-- What is parsed: a mask, or an error and no mask. -/
theorem parseS_cases (l : List UInt8) : (∃ m : Nat, m < 2 ^ 64 ∧ parseS l = ((m : Int), 0)) ∨ ∃ e : Int, e ≠ 0 ∧ parseS l = (0, e) := by
  unfold parseS
  split
  · exact .inr ⟨2, by decide, rfl⟩
  · split
    · exact .inl ⟨0, by decide, rfl⟩
    · cases h : parseT l with
      | none => exact .inr ⟨3, by decide, rfl⟩
      | some m => exact .inl ⟨m, parseL_lt _ 0 m (by decide) h, rfl⟩
theorem not_dash (M : Nat) (hM : M < 2 ^ 64) (h : M ≠ 0) : txt M 64 ≠ [45] := by
  intro e
  have bad : parseT [45] = none := by decide
  have := parse_txt M hM h
  rw [e, bad] at this
  cases this
theorem parse_print (M : Nat) (hM : M < 2 ^ 64) : parseS (printL M) = ((M : Int), 0) := by
  have hl := printL_len M hM
  unfold parseS
  rw [if_neg (by omega)]
  by_cases h0 : M = 0
  · subst h0
    rw [if_pos (by rfl)]
    rfl
  · have e : printL M = txt M 64 := if_neg h0
    rw [e, if_neg (not_dash M hM h0), parse_txt M hM h0]
def canonS (l : List UInt8) : ByteArray × Int := if (parseS l).2 = 0 then (ba (printL (parseS l).1.toNat), 0) else (ba [], (parseS l).2)
theorem cn_f (l : List UInt8) (h : l.length ≤ 140737488351232) : cpus_Canon.f (ba l) = some (canonS l) := by
  unfold cpus_Canon.f canonS
  rw [pa_f l h, Option.bind_some]
  rcases parseS_cases l with ⟨m, hm, e⟩ | ⟨e, he, h'⟩
  · rw [e, if_pos rfl, if_pos rfl, pr_f m hm, Option.bind_some]
    rfl
  · rw [h', if_neg he, if_neg he]
    rfl
theorem rcanon_r (l : List UInt8) (k : Nat) (hk : 100000 ≤ k) : turnspitref05_Canon.f k (ba l) = some (canonS l) := by
  unfold turnspitref05_Canon.f canonS
  rw [parse_r l k hk, Option.bind_some]
  rcases parseS_cases l with ⟨m, hm, e⟩ | ⟨e, he, h'⟩
  · rw [e, if_pos rfl, if_pos rfl, print_r m hm k (by omega), Option.bind_some]
    rfl
  · rw [h', if_neg he, if_neg he]
    rfl
theorem awake_f : turnspitlaw05_awake.f = some true := by
  have p1 : parseS [51, 44, 48, 45, 49, 44, 49] = (11, 0) := by decide
  have p2 : parseS [48, 49] = (0, 3) := by decide
  have p3 : parseS [45] = (0, 0) := by decide
  have p4 : parseS [53, 44, 52, 44, 51] = (56, 0) := by decide
  have q1 : printL 11 = [48, 45, 49, 44, 51] := by decide
  have q2 : printL 56 = [51, 45, 53] := by decide
  have q3 : printL 0 = [45] := by decide
  have c4 : canonS [53, 44, 52, 44, 51] = (ba [51, 45, 53], 0) := by
    unfold canonS
    rw [p4, if_pos rfl]
    show (ba (printL 56), (0 : Int)) = _
    rw [q2]
  have f1 := pa_f [51, 44, 48, 45, 49, 44, 49] (by decide)
  have f2 := pa_f [48, 49] (by decide)
  have f3 := pa_f [45] (by decide)
  have f4 := cn_f [53, 44, 52, 44, 51] (by decide)
  have g1 := pr_f 11 (by decide)
  have g2 := pr_f 0 (by decide)
  rw [p1] at f1
  rw [p2] at f2
  rw [p3] at f3
  rw [c4] at f4
  rw [q1] at g1
  rw [q3] at g2
  unfold turnspitlaw05_awake.f
  rw [show (⟨#[51, 44, 48, 45, 49, 44, 49]⟩ : ByteArray) = ba [51, 44, 48, 45, 49, 44, 49] from rfl, f1, Option.bind_some, show (⟨#[48, 49]⟩ : ByteArray) = ba [48, 49] from rfl, f2, Option.bind_some, show (⟨#[45]⟩ : ByteArray) = ba [45] from rfl, f3, Option.bind_some, show (⟨#[53, 44, 52, 44, 51]⟩ : ByteArray) = ba [53, 44, 52, 44, 51] from rfl, f4, Option.bind_some]
  rw [show cpus_Print.f 11 = some (ba [48, 45, 49, 44, 51]) from g1, Option.bind_some, ba_list, if_pos rfl, if_pos rfl, if_pos rfl, if_pos rfl, if_pos rfl, if_pos rfl, ba_list, if_pos rfl, if_pos rfl, show cpus_Print.f 0 = some (ba [45]) from g2, Option.bind_some, ba_list]
  rfl
end Go.Proofs.YthnbmepdolfbnaaDoor.Pure

/- Plain facts on what the functions of package packed and of its reference compute. -/
import Derived.Test.YtnojbmiodoefmaaDoorPrintF11
import Derived.Test.YtnojbmiodoefmaaDoorPrintF13
import Derived.Test.YtnojbmiodoefmaaDoorPrintF14
import Derived.Test.YtnojbmiodoefmaaDoorPrintF16
import Derived.Test.YtnojbmiodoefmaaDoorPrintF18
import Derived.Test.YtnojbmiodoefmaaDoorPrintF20
import Derived.Test.YtnojbmiodoefmaaDoorGA
namespace Go.Proofs.YtnojbmiodoefmaaDoor.Pure
open Go.RowKit Go.Proofs.YtnojbmiodoefmaaDoor Go.Proofs.YtnojbmiodoefmaaDoor.Given Go.Proofs.YtnojbmiodoefmaaDoor.Print

theorem awake_true : turnspitlaw06_awake.f = some true := rfl

def u64 (a : Int) : Prop := 0 ≤ a ∧ a < 18446744073709551616
theorem u64_of {a : Int} (h : (Lit.int .u64 a).wf = true) : u64 a := by
  simp [Lit.wf, IntKind.min, IntKind.max, IntKind.signed, IntKind.bits] at h
  unfold u64
  omega
theorem i64_of {a : Int} (h : (Lit.int .i64 a).wf = true) : -9223372036854775808 ≤ a ∧ a ≤ 9223372036854775807 := by
  simp [Lit.wf, IntKind.min, IntKind.max, IntKind.signed, IntKind.bits] at h
  omega

/-- A word's state, or that there is none. -/
def opened (a : Int) : Int × Int × Bool × Int × Int × Int :=
  if a < 288230376151711744 ∧ (a / 512 % 2 = 1 → a % 8 = 7) then (a % 8, a / 8 % 64, a / 512 % 2 == 1, a / 1024 % 65536, a / 67108864 % 4294967296, 0) else (0, 0, false, 0, 0, 1)

theorem pack_ok {k c : Int} {b : Bool} {s g : Int} (h : packOk k c b s g) : packed_Pack.f k c b s g = some (wordOf k c b s g, 0) := by
  unfold packed_Pack.f; rw [if_pos h]
theorem pack_no {k c : Int} {b : Bool} {s g : Int} (h : ¬ packOk k c b s g) : packed_Pack.f k c b s g = some (0, 1) := by
  unfold packed_Pack.f; rw [if_neg h]

theorem some_dec {x : Bool} {p : Prop} [Decidable p] (h : x = true ↔ p) : some x = some (decide p) := by
  congr 1
  rw [Bool.eq_iff_iff, decide_eq_true_iff]
  exact h
theorem may_eq (k c : Int) (b : Bool) (s g : Int) : turnspitref06_May.f k c b s g = some (decide (packOk k c b s g)) := by
  unfold turnspitref06_May.f
  repeat' split
  all_goals
    refine some_dec ?_
    unfold packOk
    first
    | (refine ⟨fun h => by cases h, fun h => ?_⟩; omega)
    | (subst_vars; simp; omega)
    | (refine ⟨fun _ => ⟨fun h => absurd h ‹_›, ?_⟩, fun _ => rfl⟩; omega)

theorem u64wrap (x : Int) : IntKind.u64.wrap x = x % 18446744073709551616 := IntKind.wrap_u64 x
theorem refPack_eq (k c : Int) (b : Bool) (s g : Int) : turnspitref06_Pack.f k c b s g = packed_Pack.f k c b s g := by
  unfold turnspitref06_Pack.f
  rw [may_eq]
  simp only [Option.bind_some]
  by_cases h : packOk k c b s g
  · rw [pack_ok h, if_pos (decide_eq_true h)]
    obtain ⟨_, h0, h1, h3, h4⟩ := h
    cases b
    · rw [if_neg (by decide)]
      simp only [u64wrap, wordOf, b2i]
      congr 2
      simp
      omega
    · rw [if_pos rfl]
      simp only [u64wrap, wordOf, b2i]
      congr 2
      simp
      omega
  · rw [pack_no h, if_neg (by simp [h])]

theorem part_eq {a : Int} (ha : u64 a) : packed_part.f a 0 = some (a % 8) ∧ packed_part.f a 1 = some (a / 8 % 64) ∧ packed_part.f a 2 = some (a / 512 % 2) ∧ packed_part.f a 3 = some (a / 1024 % 65536) ∧ packed_part.f a 4 = some (a / 67108864 % 4294967296) := by
  unfold u64 at ha
  refine ⟨?_, ?_, ?_, ?_, ?_⟩ <;> (unfold packed_part.f; rw [if_pos ha]; simp)
theorem kind_eq {a : Int} (ha : u64 a) : packed_Kind.f a = some (a % 8) := by unfold packed_Kind.f; rw [(part_eq ha).1]; rfl
theorem cpu_eq {a : Int} (ha : u64 a) : packed_Cpu.f a = some (a / 8 % 64) := by unfold packed_Cpu.f; rw [(part_eq ha).2.1]; rfl
theorem gen_eq {a : Int} (ha : u64 a) : packed_Gen.f a = some (a / 67108864 % 4294967296) := by unfold packed_Gen.f; rw [(part_eq ha).2.2.2.2]; rfl
theorem unpack_eq {a : Int} (ha : u64 a) : packed_Unpack.f a = some (opened a) := by
  unfold packed_Unpack.f
  rw [kind_eq ha, cpu_eq ha, (part_eq ha).2.2.1, (part_eq ha).2.2.2.1, gen_eq ha]
  simp only [Option.bind_some]
  unfold u64 at ha
  unfold opened
  by_cases h1 : a / 288230376151711744 = 0
  · rw [if_pos h1]
    by_cases h2 : a / 512 % 2 = 1
    · rw [if_pos h2]
      by_cases h3 : a % 8 = 7
      · rw [if_pos h3, if_pos ⟨by omega, fun _ => h3⟩]
      · rw [if_neg h3, if_neg (fun h => h3 (h.2 h2))]
    · rw [if_neg h2, if_pos ⟨by omega, fun h => absurd h h2⟩]
  · rw [if_neg h1, if_neg (fun h => h1 (by omega))]
theorem refKind_eq {a : Int} (ha : u64 a) : turnspitref06_Kind.f a = some (a % 8) := by
  unfold u64 at ha
  unfold turnspitref06_Kind.f
  rw [Int.tmod_eq_emod_of_nonneg ha.1]
  congr 1
  unfold wrap64; omega
theorem refCpu_eq {a : Int} (ha : u64 a) : turnspitref06_Cpu.f a = some (a / 8 % 64) := by
  unfold u64 at ha
  unfold turnspitref06_Cpu.f
  rw [Int.tdiv_eq_ediv_of_nonneg ha.1, u64wrap, Int.emod_eq_of_lt (by omega) (by omega), Int.tmod_eq_emod_of_nonneg (by omega)]
  congr 1
  unfold wrap64; omega
theorem refGen_eq {a : Int} (ha : u64 a) : turnspitref06_Gen.f a = some (a / 67108864 % 4294967296) := by
  unfold u64 at ha
  unfold turnspitref06_Gen.f
  rw [Int.tdiv_eq_ediv_of_nonneg ha.1, u64wrap, Int.emod_eq_of_lt (by omega) (by omega), Int.tmod_eq_emod_of_nonneg (by omega)]
  congr 1
  unfold wrap64; omega
theorem ref_bit {a : Int} (ha : u64 a) : Int.tmod (IntKind.u64.wrap (Int.tdiv a 512)) 2 = a / 512 % 2 := by
  unfold u64 at ha
  rw [Int.tdiv_eq_ediv_of_nonneg ha.1, u64wrap, Int.emod_eq_of_lt (by omega) (by omega), Int.tmod_eq_emod_of_nonneg (by omega)]
theorem ref_seq {a : Int} (ha : u64 a) : wrap64 (Int.tmod (IntKind.u64.wrap (Int.tdiv a 1024)) 65536) = a / 1024 % 65536 := by
  unfold u64 at ha
  rw [Int.tdiv_eq_ediv_of_nonneg ha.1, u64wrap, Int.emod_eq_of_lt (by omega) (by omega), Int.tmod_eq_emod_of_nonneg (by omega)]
  unfold wrap64; omega
theorem b2i_of (x : Int) (h : 0 ≤ x ∧ x < 2) : b2i (x == 1) = x := by
  unfold b2i
  by_cases e : x = 1
  · subst e; rfl
  · have : x = 0 := by omega
    subst this; rfl
theorem refUnpack_eq {a : Int} (ha : u64 a) : turnspitref06_Unpack.f a = some (opened a) := by
  unfold turnspitref06_Unpack.f
  rw [refKind_eq ha, refCpu_eq ha, refGen_eq ha, ref_bit ha, ref_seq ha]
  simp only [Option.bind_some, refPack_eq]
  unfold u64 at ha
  unfold opened
  by_cases h2 : a / 512 % 2 = 1 → a % 8 = 7
  · rw [pack_ok (by refine ⟨by simpa using h2, ?_, ?_, ?_, ?_⟩ <;> omega)]
    simp only [Option.bind_some]
    rw [if_pos trivial]
    have hb := b2i_of (a / 512 % 2) (by omega)
    by_cases h1 : a < 288230376151711744
    · rw [if_pos (by unfold wordOf; rw [hb]; omega), if_pos ⟨h1, h2⟩]
    · rw [if_neg (by unfold wordOf; rw [hb]; omega), if_neg (fun h => h1 h.1)]
  · rw [pack_no (fun h => h2 (by simpa using h.1))]
    simp only [Option.bind_some]
    rw [if_neg (by decide), if_neg (fun h => h2 h.2)]
/-- A word that was packed is opened as it was. -/
theorem opened_word {k c : Int} {b : Bool} {s g : Int} (h : packOk k c b s g) : opened (wordOf k c b s g) = (k, c, b, s, g, 0) := by
  obtain ⟨h5, h0, h1, h3, h4⟩ := h
  have hb := b2i_01 b
  have e0 : wordOf k c b s g % 8 = k := by unfold wordOf; omega
  have e1 : wordOf k c b s g / 8 % 64 = c := by unfold wordOf; omega
  have e2 : wordOf k c b s g / 512 % 2 = b2i b := by unfold wordOf; omega
  have e3 : wordOf k c b s g / 1024 % 65536 = s := by unfold wordOf; omega
  have e4 : wordOf k c b s g / 67108864 % 4294967296 = g := by unfold wordOf; omega
  have e5 : wordOf k c b s g < 288230376151711744 := by unfold wordOf; omega
  unfold opened
  rw [e0, e1, e2, e3, e4]
  cases b
  · rw [if_pos ⟨e5, fun h => by simp [b2i] at h⟩]; rfl
  · rw [if_pos ⟨e5, fun _ => h5 rfl⟩]; rfl
theorem word_u64 {k c : Int} {b : Bool} {s g : Int} (h : packOk k c b s g) : u64 (wordOf k c b s g) ∧ wordOf k c b s g < 288230376151711744 := by
  obtain ⟨_, h0, h1, h3, h4⟩ := h
  have hb := b2i_01 b
  unfold u64 wordOf
  omega
/-- What opens is the word of what it opens to. -/
theorem word_opened {a : Int} (ha : u64 a) (h1 : a < 288230376151711744) (h2 : a / 512 % 2 = 1 → a % 8 = 7) :
    packOk (a % 8) (a / 8 % 64) (a / 512 % 2 == 1) (a / 1024 % 65536) (a / 67108864 % 4294967296) ∧ wordOf (a % 8) (a / 8 % 64) (a / 512 % 2 == 1) (a / 1024 % 65536) (a / 67108864 % 4294967296) = a := by
  unfold u64 at ha
  have hb := b2i_of (a / 512 % 2) (by omega)
  refine ⟨⟨by simpa using h2, ?_, ?_, ?_, ?_⟩, ?_⟩
  iterate 4 omega
  unfold wordOf
  rw [hb]
  omega
end Go.Proofs.YtnojbmiodoefmaaDoor.Pure

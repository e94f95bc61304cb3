/- Plain facts on what the functions of package packed and of its reference compute. -/
import Derived.Test.YtebmbegblnoeaaaDoorG5
import Derived.Test.YtebmbegblnoeaaaDoorGA
import Derived.Test.YtebmbegblnoeaaaDoorPrintF11
import Derived.Test.YtebmbegblnoeaaaDoorPrintF21
import Derived.Test.YtebmbegblnoeaaaDoorPrintF24
import Derived.Test.YtebmbegblnoeaaaDoorPrintF26
import Derived.Test.YtebmbegblnoeaaaDoorPrintF28
import Derived.Test.YtebmbegblnoeaaaDoorPrintF31
import Derived.Test.YtebmbegblnoeaaaDoorPrintF32
import Derived.Test.YtebmbegblnoeaaaDoorPrintF36
import Derived.Test.YtebmbegblnoeaaaDoorPrintF37
import Derived.Test.YtebmbegblnoeaaaDoorPrintF38
import Derived.Test.YtebmbegblnoeaaaDoorPrintF39
namespace Go.Proofs.YtebmbegblnoeaaaDoor.Pure
open Go.RowKit Go.Proofs.YtebmbegblnoeaaaDoor Go.Proofs.YtebmbegblnoeaaaDoor.Given Go.Proofs.YtebmbegblnoeaaaDoor.Print

theorem awake_true : turnspitlaw07_awake.f = some true := rfl

def u64 (a : Int) : Prop := 0 ≤ a ∧ a < 18446744073709551616
theorem u64_of {a : Int} (h : (Lit.int .u64 a).wf = true) : u64 a := by
  simp [Lit.wf, IntKind.min, IntKind.max, IntKind.signed, IntKind.bits] at h
  unfold u64
  omega
theorem i64_of {a : Int} (h : (Lit.int .i64 a).wf = true) : -9223372036854775808 ≤ a ∧ a ≤ 9223372036854775807 := by
  simp [Lit.wf, IntKind.min, IntKind.max, IntKind.signed, IntKind.bits] at h
  omega

/-- A word's state, or that there is none. -/
def opened (a : Int) : Int × Int × Bool × Int × Int × Int :=
  if a < 288230376151711744 ∧ (a / 512 % 2 = 1 → a % 8 = 7) then (a % 8, a / 8 % 64, a / 512 % 2 == 1, a / 1024 % 65536, a / 67108864 % 4294967296, 0) else (0, 0, false, 0, 0, 1)

theorem pack_ok {k c : Int} {b : Bool} {s g : Int} (h : packOk k c b s g) : packed_Pack.f k c b s g = some (wordOf k c b s g, 0) := by
  unfold packed_Pack.f; rw [if_pos h]
theorem pack_no {k c : Int} {b : Bool} {s g : Int} (h : ¬ packOk k c b s g) : packed_Pack.f k c b s g = some (0, 1) := by
  unfold packed_Pack.f; rw [if_neg h]

theorem some_dec {x : Bool} {p : Prop} [Decidable p] (h : x = true ↔ p) : some x = some (decide p) := by
  congr 1
  rw [Bool.eq_iff_iff, decide_eq_true_iff]
  exact h
theorem may_eq (k c : Int) (b : Bool) (s g : Int) : turnspitref06_May.f k c b s g = some (decide (packOk k c b s g)) := by
  unfold turnspitref06_May.f
  repeat' split
  all_goals
    refine some_dec ?_
    unfold packOk
    first
    | (refine ⟨fun h => by cases h, fun h => ?_⟩; omega)
    | (subst_vars; simp; omega)
    | (refine ⟨fun _ => ⟨fun h => absurd h ‹_›, ?_⟩, fun _ => rfl⟩; omega)

theorem u64wrap (x : Int) : IntKind.u64.wrap x = x % 18446744073709551616 := IntKind.wrap_u64 x
theorem refPack_eq (k c : Int) (b : Bool) (s g : Int) : turnspitref06_Pack.f k c b s g = packed_Pack.f k c b s g := by
  unfold turnspitref06_Pack.f
  rw [may_eq]
  simp only [Option.bind_some]
  by_cases h : packOk k c b s g
  · rw [pack_ok h, if_pos (decide_eq_true h)]
    obtain ⟨_, h0, h1, h3, h4⟩ := h
    cases b
    · rw [if_neg (by decide)]
      simp only [u64wrap, wordOf, b2i]
      congr 2
      simp
      omega
    · rw [if_pos rfl]
      simp only [u64wrap, wordOf, b2i]
      congr 2
      simp
      omega
  · rw [pack_no h, if_neg (by simp [h])]

theorem part_eq {a : Int} (ha : u64 a) : packed_part.f a 0 = some (a % 8) ∧ packed_part.f a 1 = some (a / 8 % 64) ∧ packed_part.f a 2 = some (a / 512 % 2) ∧ packed_part.f a 3 = some (a / 1024 % 65536) ∧ packed_part.f a 4 = some (a / 67108864 % 4294967296) := by
  unfold u64 at ha
  refine ⟨?_, ?_, ?_, ?_, ?_⟩ <;> (unfold packed_part.f; rw [if_pos ha]; simp)
theorem kind_eq {a : Int} (ha : u64 a) : packed_Kind.f a = some (a % 8) := by unfold packed_Kind.f; rw [(part_eq ha).1]; rfl
theorem cpu_eq {a : Int} (ha : u64 a) : packed_Cpu.f a = some (a / 8 % 64) := by unfold packed_Cpu.f; rw [(part_eq ha).2.1]; rfl
theorem gen_eq {a : Int} (ha : u64 a) : packed_Gen.f a = some (a / 67108864 % 4294967296) := by unfold packed_Gen.f; rw [(part_eq ha).2.2.2.2]; rfl
theorem unpack_eq {a : Int} (ha : u64 a) : packed_Unpack.f a = some (opened a) := by
  unfold packed_Unpack.f
  rw [kind_eq ha, cpu_eq ha, (part_eq ha).2.2.1, (part_eq ha).2.2.2.1, gen_eq ha]
  simp only [Option.bind_some]
  unfold u64 at ha
  unfold opened
  by_cases h1 : a / 288230376151711744 = 0
  · rw [if_pos h1]
    by_cases h2 : a / 512 % 2 = 1
    · rw [if_pos h2]
      by_cases h3 : a % 8 = 7
      · rw [if_pos h3, if_pos ⟨by omega, fun _ => h3⟩]
      · rw [if_neg h3, if_neg (fun h => h3 (h.2 h2))]
    · rw [if_neg h2, if_pos ⟨by omega, fun h => absurd h h2⟩]
  · rw [if_neg h1, if_neg (fun h => h1 (by omega))]
theorem refKind_eq {a : Int} (ha : u64 a) : turnspitref06_Kind.f a = some (a % 8) := by
  unfold u64 at ha
  unfold turnspitref06_Kind.f
  rw [Int.tmod_eq_emod_of_nonneg ha.1]
  congr 1
  unfold wrap64; omega
theorem refCpu_eq {a : Int} (ha : u64 a) : turnspitref06_Cpu.f a = some (a / 8 % 64) := by
  unfold u64 at ha
  unfold turnspitref06_Cpu.f
  rw [Int.tdiv_eq_ediv_of_nonneg ha.1, u64wrap, Int.emod_eq_of_lt (by omega) (by omega), Int.tmod_eq_emod_of_nonneg (by omega)]
  congr 1
  unfold wrap64; omega
theorem refGen_eq {a : Int} (ha : u64 a) : turnspitref06_Gen.f a = some (a / 67108864 % 4294967296) := by
  unfold u64 at ha
  unfold turnspitref06_Gen.f
  rw [Int.tdiv_eq_ediv_of_nonneg ha.1, u64wrap, Int.emod_eq_of_lt (by omega) (by omega), Int.tmod_eq_emod_of_nonneg (by omega)]
  congr 1
  unfold wrap64; omega
theorem ref_bit {a : Int} (ha : u64 a) : Int.tmod (IntKind.u64.wrap (Int.tdiv a 512)) 2 = a / 512 % 2 := by
  unfold u64 at ha
  rw [Int.tdiv_eq_ediv_of_nonneg ha.1, u64wrap, Int.emod_eq_of_lt (by omega) (by omega), Int.tmod_eq_emod_of_nonneg (by omega)]
theorem ref_seq {a : Int} (ha : u64 a) : wrap64 (Int.tmod (IntKind.u64.wrap (Int.tdiv a 1024)) 65536) = a / 1024 % 65536 := by
  unfold u64 at ha
  rw [Int.tdiv_eq_ediv_of_nonneg ha.1, u64wrap, Int.emod_eq_of_lt (by omega) (by omega), Int.tmod_eq_emod_of_nonneg (by omega)]
  unfold wrap64; omega
theorem b2i_of (x : Int) (h : 0 ≤ x ∧ x < 2) : b2i (x == 1) = x := by
  unfold b2i
  by_cases e : x = 1
  · subst e; rfl
  · have : x = 0 := by omega
    subst this; rfl
theorem refUnpack_eq {a : Int} (ha : u64 a) : turnspitref06_Unpack.f a = some (opened a) := by
  unfold turnspitref06_Unpack.f
  rw [refKind_eq ha, refCpu_eq ha, refGen_eq ha, ref_bit ha, ref_seq ha]
  simp only [Option.bind_some, refPack_eq]
  unfold u64 at ha
  unfold opened
  by_cases h2 : a / 512 % 2 = 1 → a % 8 = 7
  · rw [pack_ok (by refine ⟨by simpa using h2, ?_, ?_, ?_, ?_⟩ <;> omega)]
    simp only [Option.bind_some]
    rw [if_pos trivial]
    have hb := b2i_of (a / 512 % 2) (by omega)
    by_cases h1 : a < 288230376151711744
    · rw [if_pos (by unfold wordOf; rw [hb]; omega), if_pos ⟨h1, h2⟩]
    · rw [if_neg (by unfold wordOf; rw [hb]; omega), if_neg (fun h => h1 h.1)]
  · rw [pack_no (fun h => h2 (by simpa using h.1))]
    simp only [Option.bind_some]
    rw [if_neg (by decide), if_neg (fun h => h2 h.2)]
/-- A word that was packed is opened as it was. -/
theorem opened_word {k c : Int} {b : Bool} {s g : Int} (h : packOk k c b s g) : opened (wordOf k c b s g) = (k, c, b, s, g, 0) := by
  obtain ⟨h5, h0, h1, h3, h4⟩ := h
  have hb := b2i_01 b
  have e0 : wordOf k c b s g % 8 = k := by unfold wordOf; omega
  have e1 : wordOf k c b s g / 8 % 64 = c := by unfold wordOf; omega
  have e2 : wordOf k c b s g / 512 % 2 = b2i b := by unfold wordOf; omega
  have e3 : wordOf k c b s g / 1024 % 65536 = s := by unfold wordOf; omega
  have e4 : wordOf k c b s g / 67108864 % 4294967296 = g := by unfold wordOf; omega
  have e5 : wordOf k c b s g < 288230376151711744 := by unfold wordOf; omega
  unfold opened
  rw [e0, e1, e2, e3, e4]
  cases b
  · rw [if_pos ⟨e5, fun h => by simp [b2i] at h⟩]; rfl
  · rw [if_pos ⟨e5, fun _ => h5 rfl⟩]; rfl
theorem word_u64 {k c : Int} {b : Bool} {s g : Int} (h : packOk k c b s g) : u64 (wordOf k c b s g) ∧ wordOf k c b s g < 288230376151711744 := by
  obtain ⟨_, h0, h1, h3, h4⟩ := h
  have hb := b2i_01 b
  unfold u64 wordOf
  omega
/-- What opens is the word of what it opens to. -/
theorem word_opened {a : Int} (ha : u64 a) (h1 : a < 288230376151711744) (h2 : a / 512 % 2 = 1 → a % 8 = 7) :
    packOk (a % 8) (a / 8 % 64) (a / 512 % 2 == 1) (a / 1024 % 65536) (a / 67108864 % 4294967296) ∧ wordOf (a % 8) (a / 8 % 64) (a / 512 % 2 == 1) (a / 1024 % 65536) (a / 67108864 % 4294967296) = a := by
  unfold u64 at ha
  have hb := b2i_of (a / 512 % 2) (by omega)
  refine ⟨⟨by simpa using h2, ?_, ?_, ?_, ?_⟩, ?_⟩
  iterate 4 omega
  unfold wordOf
  rw [hb]
  omega
end Go.Proofs.YtebmbegblnoeaaaDoor.Pure
namespace Go.Proofs.YtebmbegblnoeaaaDoor
open Go.RowKit Go.Proofs.YtebmbegblnoeaaaDoor.Given Go.Proofs.YtebmbegblnoeaaaDoor.Print Go.Proofs.YtebmbegblnoeaaaDoorW.PrintWords
set_option linter.unusedVariables false
set_option linter.unusedSimpArgs false
set_option maxRecDepth 100000
theorem bind_pair (o : Option (Int × Int)) : (o.bind fun b => some (b.1, b.2)) = o := by cases o <;> rfl
theorem of_eq (n : Nat) (hn : n < 16) (k : Int) (h0 : 0 ≤ k) (h1 : k < 8) (c : Int) (b : Bool) (s g : Int) : turnspitref07_of.f 99 k c b s g (n : Int) = some (holdsB n k b) := by
  have hk : k = 0 ∨ k = 1 ∨ k = 2 ∨ k = 3 ∨ k = 4 ∨ k = 5 ∨ k = 6 ∨ k = 7 := by omega
  have hc16 : n = 0 ∨ n = 1 ∨ n = 2 ∨ n = 3 ∨ n = 4 ∨ n = 5 ∨ n = 6 ∨ n = 7 ∨ n = 8 ∨ n = 9 ∨ n = 10 ∨ n = 11 ∨ n = 12 ∨ n = 13 ∨ n = 14 ∨ n = 15 := by omega
  rcases hc16 with rfl | rfl | rfl | rfl | rfl | rfl | rfl | rfl | rfl | rfl | rfl | rfl | rfl | rfl | rfl | rfl <;> rcases hk with rfl | rfl | rfl | rfl | rfl | rfl | rfl | rfl <;> cases b <;> rfl
theorem and_seq (a : Int) (h0 : 0 ≤ a) (h1 : a ≤ 65536) : bits .and .i64 a 65535 = Int.tmod a 65536 := by
  rw [Int.tmod_eq_emod_of_nonneg h0]
  have h := bits_mask .i64 17 (by decide) (fun n h0 h1 => by simp [IntKind.wrap, IntKind.bits, IntKind.signed]; omega) 16 (by decide) a h0 (by omega)
  exact h
def refTail (ev cpu k c : Int) (b : Bool) (s g er : Int) : Option (Int × Int) :=
  if er = 0 then (if ev < 0 then (turnspitref07_Next.j0 100 ev cpu true k c b s g) else (if ev > 15 then (turnspitref07_Next.j0 100 ev cpu true k c b s g) else (if cpu < 0 then (turnspitref07_Next.j0 100 ev cpu true k c b s g) else (turnspitref07_Next.j0 100 ev cpu (decide (cpu > 63)) k c b s g)))) else (turnspitref07_Next.j0 100 ev cpu true k c b s g)
theorem j0_true (ev cpu k c : Int) (b : Bool) (s g : Int) : turnspitref07_Next.j0 100 ev cpu true k c b s g = some (0, 1) := rfl
theorem j0_false (ev cpu k c : Int) (b : Bool) (s g : Int) : turnspitref07_Next.j0 100 ev cpu false k c b s g = (turnspitref07_of.f 99 k c b s g ev).bind fun t140 => (if t140 = true then (if ev = 0 then (turnspitref07_Next.j1 99 ev cpu (g == 4294967295) k c b s g) else (turnspitref07_Next.j1 99 ev cpu false k c b s g)) else (some (0, 4))) := rfl
theorem j1_0 (cpu k c : Int) (b : Bool) (s g : Int) : turnspitref07_Next.j1 99 0 cpu false k c b s g = packed_Pack.f 1 cpu false 0 (wrap64 (g + 1)) := by
  have h : turnspitref07_Next.j1 99 0 cpu false k c b s g = (turnspitref06_Pack.f 1 cpu false 0 (wrap64 (g + 1))).bind fun x => some (x.1, x.2) := rfl
  rw [h, bind_pair, Pure.refPack_eq]
theorem tail_0 (cpu k c : Int) (b : Bool) (s g er : Int) (hk0 : 0 ≤ k) (hk1 : k < 8) (hs0 : 0 ≤ s) (hs1 : s < 65536) : refTail 0 cpu k c b s g er = nextR 0 cpu k c b s g er := by
  unfold refTail nextR
  by_cases he : er = 0
  · rw [if_pos he, if_pos he, if_neg (by decide), if_neg (by decide)]
    by_cases h0 : cpu < 0
    · rw [if_pos h0, j0_true, if_neg (by omega)]
    · rw [if_neg h0]
      by_cases h1 : cpu > 63
      · rw [decide_eq_true h1, j0_true, if_neg (by omega)]
      · rw [decide_eq_false h1, if_pos ⟨by omega, by omega⟩, j0_false, show (0 : Int) = ((0 : Nat) : Int) from rfl, of_eq 0 (by decide) k hk0 hk1, Option.bind_some]
        cases hb : holdsB 0 k b with
        | false => rw [if_neg Bool.false_ne_true, if_neg Bool.false_ne_true]
        | true =>
          rw [if_pos rfl, if_pos rfl]
          try rw [if_pos rfl]
          by_cases hg : g = 4294967295
          · rw [if_pos ⟨rfl, hg⟩, hg]; rfl
          · rw [if_neg (fun h => hg h.2), show (g == 4294967295) = false from beq_eq_false_iff_ne.2 hg]
            exact j1_0 cpu k c b s g
  · rw [if_neg he, if_neg he, j0_true]
theorem j1_1 (cpu k c : Int) (b : Bool) (s g : Int) : turnspitref07_Next.j1 99 1 cpu false k c b s g = packed_Pack.f 0 0 false 0 g := by
  have h : turnspitref07_Next.j1 99 1 cpu false k c b s g = (turnspitref06_Pack.f 0 0 false 0 g).bind fun x => some (x.1, x.2) := rfl
  rw [h, bind_pair, Pure.refPack_eq]
theorem tail_1 (cpu k c : Int) (b : Bool) (s g er : Int) (hk0 : 0 ≤ k) (hk1 : k < 8) (hs0 : 0 ≤ s) (hs1 : s < 65536) : refTail 1 cpu k c b s g er = nextR 1 cpu k c b s g er := by
  unfold refTail nextR
  by_cases he : er = 0
  · rw [if_pos he, if_pos he, if_neg (by decide), if_neg (by decide)]
    by_cases h0 : cpu < 0
    · rw [if_pos h0, j0_true, if_neg (by omega)]
    · rw [if_neg h0]
      by_cases h1 : cpu > 63
      · rw [decide_eq_true h1, j0_true, if_neg (by omega)]
      · rw [decide_eq_false h1, if_pos ⟨by omega, by omega⟩, j0_false, show (1 : Int) = ((1 : Nat) : Int) from rfl, of_eq 1 (by decide) k hk0 hk1, Option.bind_some]
        cases hb : holdsB 1 k b with
        | false => rw [if_neg Bool.false_ne_true, if_neg Bool.false_ne_true]
        | true =>
          rw [if_pos rfl, if_pos rfl]
          rw [if_neg (by decide), if_neg (fun h => absurd h.1 (by decide))]
          exact j1_1 cpu k c b s g
  · rw [if_neg he, if_neg he, j0_true]
theorem j1_2 (cpu k c : Int) (b : Bool) (s g : Int) : turnspitref07_Next.j1 99 2 cpu false k c b s g = packed_Pack.f 2 c false (Int.tmod (wrap64 (s + 1)) 65536) g := by
  have h : turnspitref07_Next.j1 99 2 cpu false k c b s g = (turnspitref06_Pack.f 2 c false (Int.tmod (wrap64 (s + 1)) 65536) g).bind fun x => some (x.1, x.2) := rfl
  rw [h, bind_pair, Pure.refPack_eq]
theorem tail_2 (cpu k c : Int) (b : Bool) (s g er : Int) (hk0 : 0 ≤ k) (hk1 : k < 8) (hs0 : 0 ≤ s) (hs1 : s < 65536) : refTail 2 cpu k c b s g er = nextR 2 cpu k c b s g er := by
  unfold refTail nextR
  by_cases he : er = 0
  · rw [if_pos he, if_pos he, if_neg (by decide), if_neg (by decide)]
    by_cases h0 : cpu < 0
    · rw [if_pos h0, j0_true, if_neg (by omega)]
    · rw [if_neg h0]
      by_cases h1 : cpu > 63
      · rw [decide_eq_true h1, j0_true, if_neg (by omega)]
      · rw [decide_eq_false h1, if_pos ⟨by omega, by omega⟩, j0_false, show (2 : Int) = ((2 : Nat) : Int) from rfl, of_eq 2 (by decide) k hk0 hk1, Option.bind_some]
        cases hb : holdsB 2 k b with
        | false => rw [if_neg Bool.false_ne_true, if_neg Bool.false_ne_true]
        | true =>
          rw [if_pos rfl, if_pos rfl]
          rw [if_neg (by decide), if_neg (fun h => absurd h.1 (by decide))]
          refine (j1_2 cpu k c b s g).trans ?_
          have e : wrap64 (s + 1) = s + 1 := by unfold wrap64; omega
          rw [e, ← and_seq (s + 1) (by omega) (by omega), ← e]
          rfl
  · rw [if_neg he, if_neg he, j0_true]
theorem j1_3 (cpu k c : Int) (b : Bool) (s g : Int) : turnspitref07_Next.j1 99 3 cpu false k c b s g = packed_Pack.f 3 c false s g := by
  have h : turnspitref07_Next.j1 99 3 cpu false k c b s g = (turnspitref06_Pack.f 3 c false s g).bind fun x => some (x.1, x.2) := rfl
  rw [h, bind_pair, Pure.refPack_eq]
theorem tail_3 (cpu k c : Int) (b : Bool) (s g er : Int) (hk0 : 0 ≤ k) (hk1 : k < 8) (hs0 : 0 ≤ s) (hs1 : s < 65536) : refTail 3 cpu k c b s g er = nextR 3 cpu k c b s g er := by
  unfold refTail nextR
  by_cases he : er = 0
  · rw [if_pos he, if_pos he, if_neg (by decide), if_neg (by decide)]
    by_cases h0 : cpu < 0
    · rw [if_pos h0, j0_true, if_neg (by omega)]
    · rw [if_neg h0]
      by_cases h1 : cpu > 63
      · rw [decide_eq_true h1, j0_true, if_neg (by omega)]
      · rw [decide_eq_false h1, if_pos ⟨by omega, by omega⟩, j0_false, show (3 : Int) = ((3 : Nat) : Int) from rfl, of_eq 3 (by decide) k hk0 hk1, Option.bind_some]
        cases hb : holdsB 3 k b with
        | false => rw [if_neg Bool.false_ne_true, if_neg Bool.false_ne_true]
        | true =>
          rw [if_pos rfl, if_pos rfl]
          rw [if_neg (by decide), if_neg (fun h => absurd h.1 (by decide))]
          exact j1_3 cpu k c b s g
  · rw [if_neg he, if_neg he, j0_true]
theorem j1_4 (cpu k c : Int) (b : Bool) (s g : Int) : turnspitref07_Next.j1 99 4 cpu false k c b s g = packed_Pack.f 4 c false s g := by
  have h : turnspitref07_Next.j1 99 4 cpu false k c b s g = (turnspitref06_Pack.f 4 c false s g).bind fun x => some (x.1, x.2) := rfl
  rw [h, bind_pair, Pure.refPack_eq]
theorem tail_4 (cpu k c : Int) (b : Bool) (s g er : Int) (hk0 : 0 ≤ k) (hk1 : k < 8) (hs0 : 0 ≤ s) (hs1 : s < 65536) : refTail 4 cpu k c b s g er = nextR 4 cpu k c b s g er := by
  unfold refTail nextR
  by_cases he : er = 0
  · rw [if_pos he, if_pos he, if_neg (by decide), if_neg (by decide)]
    by_cases h0 : cpu < 0
    · rw [if_pos h0, j0_true, if_neg (by omega)]
    · rw [if_neg h0]
      by_cases h1 : cpu > 63
      · rw [decide_eq_true h1, j0_true, if_neg (by omega)]
      · rw [decide_eq_false h1, if_pos ⟨by omega, by omega⟩, j0_false, show (4 : Int) = ((4 : Nat) : Int) from rfl, of_eq 4 (by decide) k hk0 hk1, Option.bind_some]
        cases hb : holdsB 4 k b with
        | false => rw [if_neg Bool.false_ne_true, if_neg Bool.false_ne_true]
        | true =>
          rw [if_pos rfl, if_pos rfl]
          rw [if_neg (by decide), if_neg (fun h => absurd h.1 (by decide))]
          exact j1_4 cpu k c b s g
  · rw [if_neg he, if_neg he, j0_true]
theorem j1_5 (cpu k c : Int) (b : Bool) (s g : Int) : turnspitref07_Next.j1 99 5 cpu false k c b s g = packed_Pack.f 5 c false s g := by
  have h : turnspitref07_Next.j1 99 5 cpu false k c b s g = (turnspitref06_Pack.f 5 c false s g).bind fun x => some (x.1, x.2) := rfl
  rw [h, bind_pair, Pure.refPack_eq]
theorem tail_5 (cpu k c : Int) (b : Bool) (s g er : Int) (hk0 : 0 ≤ k) (hk1 : k < 8) (hs0 : 0 ≤ s) (hs1 : s < 65536) : refTail 5 cpu k c b s g er = nextR 5 cpu k c b s g er := by
  unfold refTail nextR
  by_cases he : er = 0
  · rw [if_pos he, if_pos he, if_neg (by decide), if_neg (by decide)]
    by_cases h0 : cpu < 0
    · rw [if_pos h0, j0_true, if_neg (by omega)]
    · rw [if_neg h0]
      by_cases h1 : cpu > 63
      · rw [decide_eq_true h1, j0_true, if_neg (by omega)]
      · rw [decide_eq_false h1, if_pos ⟨by omega, by omega⟩, j0_false, show (5 : Int) = ((5 : Nat) : Int) from rfl, of_eq 5 (by decide) k hk0 hk1, Option.bind_some]
        cases hb : holdsB 5 k b with
        | false => rw [if_neg Bool.false_ne_true, if_neg Bool.false_ne_true]
        | true =>
          rw [if_pos rfl, if_pos rfl]
          rw [if_neg (by decide), if_neg (fun h => absurd h.1 (by decide))]
          exact j1_5 cpu k c b s g
  · rw [if_neg he, if_neg he, j0_true]
theorem j1_6 (cpu k c : Int) (b : Bool) (s g : Int) : turnspitref07_Next.j1 99 6 cpu false k c b s g = packed_Pack.f 4 c false s g := by
  have h : turnspitref07_Next.j1 99 6 cpu false k c b s g = (turnspitref06_Pack.f 4 c false s g).bind fun x => some (x.1, x.2) := rfl
  rw [h, bind_pair, Pure.refPack_eq]
theorem tail_6 (cpu k c : Int) (b : Bool) (s g er : Int) (hk0 : 0 ≤ k) (hk1 : k < 8) (hs0 : 0 ≤ s) (hs1 : s < 65536) : refTail 6 cpu k c b s g er = nextR 6 cpu k c b s g er := by
  unfold refTail nextR
  by_cases he : er = 0
  · rw [if_pos he, if_pos he, if_neg (by decide), if_neg (by decide)]
    by_cases h0 : cpu < 0
    · rw [if_pos h0, j0_true, if_neg (by omega)]
    · rw [if_neg h0]
      by_cases h1 : cpu > 63
      · rw [decide_eq_true h1, j0_true, if_neg (by omega)]
      · rw [decide_eq_false h1, if_pos ⟨by omega, by omega⟩, j0_false, show (6 : Int) = ((6 : Nat) : Int) from rfl, of_eq 6 (by decide) k hk0 hk1, Option.bind_some]
        cases hb : holdsB 6 k b with
        | false => rw [if_neg Bool.false_ne_true, if_neg Bool.false_ne_true]
        | true =>
          rw [if_pos rfl, if_pos rfl]
          rw [if_neg (by decide), if_neg (fun h => absurd h.1 (by decide))]
          exact j1_6 cpu k c b s g
  · rw [if_neg he, if_neg he, j0_true]
theorem j1_7 (cpu k c : Int) (b : Bool) (s g : Int) : turnspitref07_Next.j1 99 7 cpu false k c b s g = packed_Pack.f 7 c false s g := by
  have h : turnspitref07_Next.j1 99 7 cpu false k c b s g = (turnspitref06_Pack.f 7 c false s g).bind fun x => some (x.1, x.2) := rfl
  rw [h, bind_pair, Pure.refPack_eq]
theorem tail_7 (cpu k c : Int) (b : Bool) (s g er : Int) (hk0 : 0 ≤ k) (hk1 : k < 8) (hs0 : 0 ≤ s) (hs1 : s < 65536) : refTail 7 cpu k c b s g er = nextR 7 cpu k c b s g er := by
  unfold refTail nextR
  by_cases he : er = 0
  · rw [if_pos he, if_pos he, if_neg (by decide), if_neg (by decide)]
    by_cases h0 : cpu < 0
    · rw [if_pos h0, j0_true, if_neg (by omega)]
    · rw [if_neg h0]
      by_cases h1 : cpu > 63
      · rw [decide_eq_true h1, j0_true, if_neg (by omega)]
      · rw [decide_eq_false h1, if_pos ⟨by omega, by omega⟩, j0_false, show (7 : Int) = ((7 : Nat) : Int) from rfl, of_eq 7 (by decide) k hk0 hk1, Option.bind_some]
        cases hb : holdsB 7 k b with
        | false => rw [if_neg Bool.false_ne_true, if_neg Bool.false_ne_true]
        | true =>
          rw [if_pos rfl, if_pos rfl]
          rw [if_neg (by decide), if_neg (fun h => absurd h.1 (by decide))]
          exact j1_7 cpu k c b s g
  · rw [if_neg he, if_neg he, j0_true]
theorem j1_8 (cpu k c : Int) (b : Bool) (s g : Int) : turnspitref07_Next.j1 99 8 cpu false k c b s g = packed_Pack.f 7 c true s g := by
  have h : turnspitref07_Next.j1 99 8 cpu false k c b s g = (turnspitref06_Pack.f 7 c true s g).bind fun x => some (x.1, x.2) := rfl
  rw [h, bind_pair, Pure.refPack_eq]
theorem tail_8 (cpu k c : Int) (b : Bool) (s g er : Int) (hk0 : 0 ≤ k) (hk1 : k < 8) (hs0 : 0 ≤ s) (hs1 : s < 65536) : refTail 8 cpu k c b s g er = nextR 8 cpu k c b s g er := by
  unfold refTail nextR
  by_cases he : er = 0
  · rw [if_pos he, if_pos he, if_neg (by decide), if_neg (by decide)]
    by_cases h0 : cpu < 0
    · rw [if_pos h0, j0_true, if_neg (by omega)]
    · rw [if_neg h0]
      by_cases h1 : cpu > 63
      · rw [decide_eq_true h1, j0_true, if_neg (by omega)]
      · rw [decide_eq_false h1, if_pos ⟨by omega, by omega⟩, j0_false, show (8 : Int) = ((8 : Nat) : Int) from rfl, of_eq 8 (by decide) k hk0 hk1, Option.bind_some]
        cases hb : holdsB 8 k b with
        | false => rw [if_neg Bool.false_ne_true, if_neg Bool.false_ne_true]
        | true =>
          rw [if_pos rfl, if_pos rfl]
          rw [if_neg (by decide), if_neg (fun h => absurd h.1 (by decide))]
          exact j1_8 cpu k c b s g
  · rw [if_neg he, if_neg he, j0_true]
theorem j1_9 (cpu k c : Int) (b : Bool) (s g : Int) : turnspitref07_Next.j1 99 9 cpu false k c b s g = packed_Pack.f 1 c false s g := by
  have h : turnspitref07_Next.j1 99 9 cpu false k c b s g = (turnspitref06_Pack.f 1 c false s g).bind fun x => some (x.1, x.2) := rfl
  rw [h, bind_pair, Pure.refPack_eq]
theorem tail_9 (cpu k c : Int) (b : Bool) (s g er : Int) (hk0 : 0 ≤ k) (hk1 : k < 8) (hs0 : 0 ≤ s) (hs1 : s < 65536) : refTail 9 cpu k c b s g er = nextR 9 cpu k c b s g er := by
  unfold refTail nextR
  by_cases he : er = 0
  · rw [if_pos he, if_pos he, if_neg (by decide), if_neg (by decide)]
    by_cases h0 : cpu < 0
    · rw [if_pos h0, j0_true, if_neg (by omega)]
    · rw [if_neg h0]
      by_cases h1 : cpu > 63
      · rw [decide_eq_true h1, j0_true, if_neg (by omega)]
      · rw [decide_eq_false h1, if_pos ⟨by omega, by omega⟩, j0_false, show (9 : Int) = ((9 : Nat) : Int) from rfl, of_eq 9 (by decide) k hk0 hk1, Option.bind_some]
        cases hb : holdsB 9 k b with
        | false => rw [if_neg Bool.false_ne_true, if_neg Bool.false_ne_true]
        | true =>
          rw [if_pos rfl, if_pos rfl]
          rw [if_neg (by decide), if_neg (fun h => absurd h.1 (by decide))]
          exact j1_9 cpu k c b s g
  · rw [if_neg he, if_neg he, j0_true]
theorem j1_10 (cpu k c : Int) (b : Bool) (s g : Int) : turnspitref07_Next.j1 99 10 cpu false k c b s g = packed_Pack.f 3 c false s g := by
  have h : turnspitref07_Next.j1 99 10 cpu false k c b s g = (turnspitref06_Pack.f 3 c false s g).bind fun x => some (x.1, x.2) := rfl
  rw [h, bind_pair, Pure.refPack_eq]
theorem tail_10 (cpu k c : Int) (b : Bool) (s g er : Int) (hk0 : 0 ≤ k) (hk1 : k < 8) (hs0 : 0 ≤ s) (hs1 : s < 65536) : refTail 10 cpu k c b s g er = nextR 10 cpu k c b s g er := by
  unfold refTail nextR
  by_cases he : er = 0
  · rw [if_pos he, if_pos he, if_neg (by decide), if_neg (by decide)]
    by_cases h0 : cpu < 0
    · rw [if_pos h0, j0_true, if_neg (by omega)]
    · rw [if_neg h0]
      by_cases h1 : cpu > 63
      · rw [decide_eq_true h1, j0_true, if_neg (by omega)]
      · rw [decide_eq_false h1, if_pos ⟨by omega, by omega⟩, j0_false, show (10 : Int) = ((10 : Nat) : Int) from rfl, of_eq 10 (by decide) k hk0 hk1, Option.bind_some]
        cases hb : holdsB 10 k b with
        | false => rw [if_neg Bool.false_ne_true, if_neg Bool.false_ne_true]
        | true =>
          rw [if_pos rfl, if_pos rfl]
          rw [if_neg (by decide), if_neg (fun h => absurd h.1 (by decide))]
          exact j1_10 cpu k c b s g
  · rw [if_neg he, if_neg he, j0_true]
theorem j1_11 (cpu k c : Int) (b : Bool) (s g : Int) : turnspitref07_Next.j1 99 11 cpu false k c b s g = packed_Pack.f 1 cpu false s g := by
  have h : turnspitref07_Next.j1 99 11 cpu false k c b s g = (turnspitref06_Pack.f 1 cpu false s g).bind fun x => some (x.1, x.2) := rfl
  rw [h, bind_pair, Pure.refPack_eq]
theorem tail_11 (cpu k c : Int) (b : Bool) (s g er : Int) (hk0 : 0 ≤ k) (hk1 : k < 8) (hs0 : 0 ≤ s) (hs1 : s < 65536) : refTail 11 cpu k c b s g er = nextR 11 cpu k c b s g er := by
  unfold refTail nextR
  by_cases he : er = 0
  · rw [if_pos he, if_pos he, if_neg (by decide), if_neg (by decide)]
    by_cases h0 : cpu < 0
    · rw [if_pos h0, j0_true, if_neg (by omega)]
    · rw [if_neg h0]
      by_cases h1 : cpu > 63
      · rw [decide_eq_true h1, j0_true, if_neg (by omega)]
      · rw [decide_eq_false h1, if_pos ⟨by omega, by omega⟩, j0_false, show (11 : Int) = ((11 : Nat) : Int) from rfl, of_eq 11 (by decide) k hk0 hk1, Option.bind_some]
        cases hb : holdsB 11 k b with
        | false => rw [if_neg Bool.false_ne_true, if_neg Bool.false_ne_true]
        | true =>
          rw [if_pos rfl, if_pos rfl]
          rw [if_neg (by decide), if_neg (fun h => absurd h.1 (by decide))]
          exact j1_11 cpu k c b s g
  · rw [if_neg he, if_neg he, j0_true]
theorem j1_12 (cpu k c : Int) (b : Bool) (s g : Int) : turnspitref07_Next.j1 99 12 cpu false k c b s g = packed_Pack.f 1 cpu false s g := by
  have h : turnspitref07_Next.j1 99 12 cpu false k c b s g = (turnspitref06_Pack.f 1 cpu false s g).bind fun x => some (x.1, x.2) := rfl
  rw [h, bind_pair, Pure.refPack_eq]
theorem tail_12 (cpu k c : Int) (b : Bool) (s g er : Int) (hk0 : 0 ≤ k) (hk1 : k < 8) (hs0 : 0 ≤ s) (hs1 : s < 65536) : refTail 12 cpu k c b s g er = nextR 12 cpu k c b s g er := by
  unfold refTail nextR
  by_cases he : er = 0
  · rw [if_pos he, if_pos he, if_neg (by decide), if_neg (by decide)]
    by_cases h0 : cpu < 0
    · rw [if_pos h0, j0_true, if_neg (by omega)]
    · rw [if_neg h0]
      by_cases h1 : cpu > 63
      · rw [decide_eq_true h1, j0_true, if_neg (by omega)]
      · rw [decide_eq_false h1, if_pos ⟨by omega, by omega⟩, j0_false, show (12 : Int) = ((12 : Nat) : Int) from rfl, of_eq 12 (by decide) k hk0 hk1, Option.bind_some]
        cases hb : holdsB 12 k b with
        | false => rw [if_neg Bool.false_ne_true, if_neg Bool.false_ne_true]
        | true =>
          rw [if_pos rfl, if_pos rfl]
          rw [if_neg (by decide), if_neg (fun h => absurd h.1 (by decide))]
          exact j1_12 cpu k c b s g
  · rw [if_neg he, if_neg he, j0_true]
theorem j1_13 (cpu k c : Int) (b : Bool) (s g : Int) : turnspitref07_Next.j1 99 13 cpu false k c b s g = packed_Pack.f 6 cpu false s g := by
  have h : turnspitref07_Next.j1 99 13 cpu false k c b s g = (turnspitref06_Pack.f 6 cpu false s g).bind fun x => some (x.1, x.2) := rfl
  rw [h, bind_pair, Pure.refPack_eq]
theorem tail_13 (cpu k c : Int) (b : Bool) (s g er : Int) (hk0 : 0 ≤ k) (hk1 : k < 8) (hs0 : 0 ≤ s) (hs1 : s < 65536) : refTail 13 cpu k c b s g er = nextR 13 cpu k c b s g er := by
  unfold refTail nextR
  by_cases he : er = 0
  · rw [if_pos he, if_pos he, if_neg (by decide), if_neg (by decide)]
    by_cases h0 : cpu < 0
    · rw [if_pos h0, j0_true, if_neg (by omega)]
    · rw [if_neg h0]
      by_cases h1 : cpu > 63
      · rw [decide_eq_true h1, j0_true, if_neg (by omega)]
      · rw [decide_eq_false h1, if_pos ⟨by omega, by omega⟩, j0_false, show (13 : Int) = ((13 : Nat) : Int) from rfl, of_eq 13 (by decide) k hk0 hk1, Option.bind_some]
        cases hb : holdsB 13 k b with
        | false => rw [if_neg Bool.false_ne_true, if_neg Bool.false_ne_true]
        | true =>
          rw [if_pos rfl, if_pos rfl]
          rw [if_neg (by decide), if_neg (fun h => absurd h.1 (by decide))]
          exact j1_13 cpu k c b s g
  · rw [if_neg he, if_neg he, j0_true]
theorem j1_14 (cpu k c : Int) (b : Bool) (s g : Int) : turnspitref07_Next.j1 99 14 cpu false k c b s g = packed_Pack.f 4 c false s g := by
  have h : turnspitref07_Next.j1 99 14 cpu false k c b s g = (turnspitref06_Pack.f 4 c false s g).bind fun x => some (x.1, x.2) := rfl
  rw [h, bind_pair, Pure.refPack_eq]
theorem tail_14 (cpu k c : Int) (b : Bool) (s g er : Int) (hk0 : 0 ≤ k) (hk1 : k < 8) (hs0 : 0 ≤ s) (hs1 : s < 65536) : refTail 14 cpu k c b s g er = nextR 14 cpu k c b s g er := by
  unfold refTail nextR
  by_cases he : er = 0
  · rw [if_pos he, if_pos he, if_neg (by decide), if_neg (by decide)]
    by_cases h0 : cpu < 0
    · rw [if_pos h0, j0_true, if_neg (by omega)]
    · rw [if_neg h0]
      by_cases h1 : cpu > 63
      · rw [decide_eq_true h1, j0_true, if_neg (by omega)]
      · rw [decide_eq_false h1, if_pos ⟨by omega, by omega⟩, j0_false, show (14 : Int) = ((14 : Nat) : Int) from rfl, of_eq 14 (by decide) k hk0 hk1, Option.bind_some]
        cases hb : holdsB 14 k b with
        | false => rw [if_neg Bool.false_ne_true, if_neg Bool.false_ne_true]
        | true =>
          rw [if_pos rfl, if_pos rfl]
          rw [if_neg (by decide), if_neg (fun h => absurd h.1 (by decide))]
          exact j1_14 cpu k c b s g
  · rw [if_neg he, if_neg he, j0_true]
theorem j1_15 (cpu k c : Int) (b : Bool) (s g : Int) : turnspitref07_Next.j1 99 15 cpu false k c b s g = packed_Pack.f 4 cpu false s g := by
  have h : turnspitref07_Next.j1 99 15 cpu false k c b s g = (turnspitref06_Pack.f 4 cpu false s g).bind fun x => some (x.1, x.2) := rfl
  rw [h, bind_pair, Pure.refPack_eq]
theorem tail_15 (cpu k c : Int) (b : Bool) (s g er : Int) (hk0 : 0 ≤ k) (hk1 : k < 8) (hs0 : 0 ≤ s) (hs1 : s < 65536) : refTail 15 cpu k c b s g er = nextR 15 cpu k c b s g er := by
  unfold refTail nextR
  by_cases he : er = 0
  · rw [if_pos he, if_pos he, if_neg (by decide), if_neg (by decide)]
    by_cases h0 : cpu < 0
    · rw [if_pos h0, j0_true, if_neg (by omega)]
    · rw [if_neg h0]
      by_cases h1 : cpu > 63
      · rw [decide_eq_true h1, j0_true, if_neg (by omega)]
      · rw [decide_eq_false h1, if_pos ⟨by omega, by omega⟩, j0_false, show (15 : Int) = ((15 : Nat) : Int) from rfl, of_eq 15 (by decide) k hk0 hk1, Option.bind_some]
        cases hb : holdsB 15 k b with
        | false => rw [if_neg Bool.false_ne_true, if_neg Bool.false_ne_true]
        | true =>
          rw [if_pos rfl, if_pos rfl]
          rw [if_neg (by decide), if_neg (fun h => absurd h.1 (by decide))]
          exact j1_15 cpu k c b s g
  · rw [if_neg he, if_neg he, j0_true]
theorem opened_bounds (a : Int) : (0 ≤ (Pure.opened a).1 ∧ (Pure.opened a).1 < 8) ∧ (0 ≤ (Pure.opened a).2.2.2.1 ∧ (Pure.opened a).2.2.2.1 < 65536) := by
  unfold Pure.opened
  split
  · show (0 ≤ a % 8 ∧ a % 8 < 8) ∧ (0 ≤ a / 1024 % 65536 ∧ a / 1024 % 65536 < 65536)
    omega
  · exact ⟨by decide, by decide⟩
theorem next_ref (x ev cpu : Int) (hx : Pure.u64 x) (hw : (Lit.int .i64 ev).wf = true) : turnspitref07_Next.f 100 x ev cpu = life_Next.f x ev cpu := by
  have h1 : turnspitref07_Next.f 100 x ev cpu = (turnspitref06_Unpack.f x).bind fun u => refTail ev cpu u.1 u.2.1 u.2.2.1 u.2.2.2.1 u.2.2.2.2.1 u.2.2.2.2.2 := rfl
  rw [h1, Pure.refUnpack_eq hx, Option.bind_some]
  unfold life_Next.f
  rw [if_pos hw, Pure.unpack_eq hx, Option.bind_some]
  obtain ⟨⟨k0, k1⟩, s0, s1⟩ := opened_bounds x
  generalize Pure.opened x = u at k0 k1 s0 s1
  obtain ⟨k, c, b, s, g, er⟩ := u
  simp only at k0 k1 s0 s1 ⊢
  by_cases hr : 0 ≤ ev ∧ ev < 16
  · rw [if_pos hr]
    obtain ⟨n, rfl⟩ := Int.eq_ofNat_of_zero_le hr.1
    rw [Int.toNat_natCast]
    have hc16 : n = 0 ∨ n = 1 ∨ n = 2 ∨ n = 3 ∨ n = 4 ∨ n = 5 ∨ n = 6 ∨ n = 7 ∨ n = 8 ∨ n = 9 ∨ n = 10 ∨ n = 11 ∨ n = 12 ∨ n = 13 ∨ n = 14 ∨ n = 15 := by omega
    rcases hc16 with rfl | rfl | rfl | rfl | rfl | rfl | rfl | rfl | rfl | rfl | rfl | rfl | rfl | rfl | rfl | rfl
    · exact tail_0 cpu k c b s g er k0 k1 s0 s1
    · exact tail_1 cpu k c b s g er k0 k1 s0 s1
    · exact tail_2 cpu k c b s g er k0 k1 s0 s1
    · exact tail_3 cpu k c b s g er k0 k1 s0 s1
    · exact tail_4 cpu k c b s g er k0 k1 s0 s1
    · exact tail_5 cpu k c b s g er k0 k1 s0 s1
    · exact tail_6 cpu k c b s g er k0 k1 s0 s1
    · exact tail_7 cpu k c b s g er k0 k1 s0 s1
    · exact tail_8 cpu k c b s g er k0 k1 s0 s1
    · exact tail_9 cpu k c b s g er k0 k1 s0 s1
    · exact tail_10 cpu k c b s g er k0 k1 s0 s1
    · exact tail_11 cpu k c b s g er k0 k1 s0 s1
    · exact tail_12 cpu k c b s g er k0 k1 s0 s1
    · exact tail_13 cpu k c b s g er k0 k1 s0 s1
    · exact tail_14 cpu k c b s g er k0 k1 s0 s1
    · exact tail_15 cpu k c b s g er k0 k1 s0 s1
  · rw [if_neg hr]
    unfold refTail
    by_cases he : er = 0
    · rw [if_pos he]
      by_cases h0 : ev < 0
      · rw [if_pos h0, j0_true]
      · rw [if_neg h0, if_pos (by omega), j0_true]
    · rw [if_neg he, j0_true]
/-- What Next tells, in short. -/
def nextU (x ev cpu : Int) : Int × Int := (life_Next.f x ev cpu).getD (0, 1)
theorem next_some (x ev cpu : Int) (hx : Pure.u64 x) (hw : (Lit.int .i64 ev).wf = true) : life_Next.f x ev cpu = some (nextU x ev cpu) := by
  unfold nextU
  have : (life_Next.f x ev cpu).isSome = true := by
    unfold life_Next.f
    rw [if_pos hw, Pure.unpack_eq hx, Option.bind_some]
    split
    · unfold nextR
      split
      · split
        · split
          · split
            · rfl
            · unfold packed_Pack.f; split <;> rfl
          · rfl
        · rfl
      · rfl
    · rfl
  cases h : life_Next.f x ev cpu with
  | none => rw [h] at this; cases this
  | some r => rfl
end Go.Proofs.YtebmbegblnoeaaaDoor

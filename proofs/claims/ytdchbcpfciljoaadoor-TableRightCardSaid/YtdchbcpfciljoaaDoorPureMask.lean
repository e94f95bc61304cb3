/- Plain facts on packed words and on what an event does (chapters 06, 07). -/
import Derived.Test.YtdchbcpfciljoaaDoorG5
import Derived.Test.YtdchbcpfciljoaaDoorGM
import Derived.Test.YtdchbcpfciljoaaDoorPrintF43
import Derived.Test.YtdchbcpfciljoaaDoorPrintS
import Derived.Test.YtdchbcpfciljoaaDoorPrintE
import Derived.Test.YtdchbcpfciljoaaDoorPrintF56
import Derived.Test.YtdchbcpfciljoaaDoorPrintF57
import Derived.Test.YtdchbcpfciljoaaDoorPrintF46
import Derived.Test.YtdchbcpfciljoaaDoorPrintF65
import Derived.Test.YtdchbcpfciljoaaDoorPrintM
import Derived.Test.YtdchbcpfciljoaaDoorPrintT
namespace Go.Proofs.YtdchbcpfciljoaaDoor.Pure
open Go.RowKit Go.Proofs.YtdchbcpfciljoaaDoor Go.Proofs.YtdchbcpfciljoaaDoor.Given Go.Proofs.YtdchbcpfciljoaaDoor.Print


def u64 (a : Int) : Prop := 0 ≤ a ∧ a < 18446744073709551616
theorem u64_of {a : Int} (h : (Lit.int .u64 a).wf = true) : u64 a := by
  simp [Lit.wf, IntKind.min, IntKind.max, IntKind.signed, IntKind.bits] at h
  unfold u64
  omega
theorem i64_of {a : Int} (h : (Lit.int .i64 a).wf = true) : -9223372036854775808 ≤ a ∧ a ≤ 9223372036854775807 := by
  simp [Lit.wf, IntKind.min, IntKind.max, IntKind.signed, IntKind.bits] at h
  omega

/-- A word's state, or that there is none. -/
def opened (a : Int) : Int × Int × Bool × Int × Int × Int :=
  if a < 288230376151711744 ∧ (a / 512 % 2 = 1 → a % 8 = 7) then (a % 8, a / 8 % 64, a / 512 % 2 == 1, a / 1024 % 65536, a / 67108864 % 4294967296, 0) else (0, 0, false, 0, 0, 1)

theorem pack_ok {k c : Int} {b : Bool} {s g : Int} (h : packOk k c b s g) : packed_Pack.f k c b s g = some (wordOf k c b s g, 0) := by
  unfold packed_Pack.f; rw [if_pos h]
theorem pack_no {k c : Int} {b : Bool} {s g : Int} (h : ¬ packOk k c b s g) : packed_Pack.f k c b s g = some (0, 1) := by
  unfold packed_Pack.f; rw [if_neg h]

theorem some_dec {x : Bool} {p : Prop} [Decidable p] (h : x = true ↔ p) : some x = some (decide p) := by
  congr 1
  rw [Bool.eq_iff_iff, decide_eq_true_iff]
  exact h
theorem may_eq (k c : Int) (b : Bool) (s g : Int) : turnspitref06_May.f k c b s g = some (decide (packOk k c b s g)) := by
  unfold turnspitref06_May.f
  repeat' split
  all_goals
    refine some_dec ?_
    unfold packOk
    first
    | (refine ⟨fun h => by cases h, fun h => ?_⟩; omega)
    | (subst_vars; simp; omega)
    | (refine ⟨fun _ => ⟨fun h => absurd h ‹_›, ?_⟩, fun _ => rfl⟩; omega)

theorem u64wrap (x : Int) : IntKind.u64.wrap x = x % 18446744073709551616 := IntKind.wrap_u64 x
theorem refPack_eq (k c : Int) (b : Bool) (s g : Int) : turnspitref06_Pack.f k c b s g = packed_Pack.f k c b s g := by
  unfold turnspitref06_Pack.f
  rw [may_eq]
  simp only [Option.bind_some]
  by_cases h : packOk k c b s g
  · rw [pack_ok h, if_pos (decide_eq_true h)]
    obtain ⟨_, h0, h1, h3, h4⟩ := h
    cases b
    · rw [if_neg (by decide)]
      simp only [u64wrap, wordOf, b2i]
      congr 2
      simp
      omega
    · rw [if_pos rfl]
      simp only [u64wrap, wordOf, b2i]
      congr 2
      simp
      omega
  · rw [pack_no h, if_neg (by simp [h])]

theorem part_eq {a : Int} (ha : u64 a) : packed_part.f a 0 = some (a % 8) ∧ packed_part.f a 1 = some (a / 8 % 64) ∧ packed_part.f a 2 = some (a / 512 % 2) ∧ packed_part.f a 3 = some (a / 1024 % 65536) ∧ packed_part.f a 4 = some (a / 67108864 % 4294967296) := by
  unfold u64 at ha
  refine ⟨?_, ?_, ?_, ?_, ?_⟩ <;> (unfold packed_part.f; rw [if_pos ha]; simp)
theorem kind_eq {a : Int} (ha : u64 a) : packed_Kind.f a = some (a % 8) := by unfold packed_Kind.f; rw [(part_eq ha).1]; rfl
theorem cpu_eq {a : Int} (ha : u64 a) : packed_Cpu.f a = some (a / 8 % 64) := by unfold packed_Cpu.f; rw [(part_eq ha).2.1]; rfl
theorem gen_eq {a : Int} (ha : u64 a) : packed_Gen.f a = some (a / 67108864 % 4294967296) := by unfold packed_Gen.f; rw [(part_eq ha).2.2.2.2]; rfl
theorem unpack_eq {a : Int} (ha : u64 a) : packed_Unpack.f a = some (opened a) := by
  unfold packed_Unpack.f
  rw [kind_eq ha, cpu_eq ha, (part_eq ha).2.2.1, (part_eq ha).2.2.2.1, gen_eq ha]
  simp only [Option.bind_some]
  unfold u64 at ha
  unfold opened
  by_cases h1 : a / 288230376151711744 = 0
  · rw [if_pos h1]
    by_cases h2 : a / 512 % 2 = 1
    · rw [if_pos h2]
      by_cases h3 : a % 8 = 7
      · rw [if_pos h3, if_pos ⟨by omega, fun _ => h3⟩]
      · rw [if_neg h3, if_neg (fun h => h3 (h.2 h2))]
    · rw [if_neg h2, if_pos ⟨by omega, fun h => absurd h h2⟩]
  · rw [if_neg h1, if_neg (fun h => h1 (by omega))]
theorem refKind_eq {a : Int} (ha : u64 a) : turnspitref06_Kind.f a = some (a % 8) := by
  unfold u64 at ha
  unfold turnspitref06_Kind.f
  rw [Int.tmod_eq_emod_of_nonneg ha.1]
  congr 1
  unfold wrap64; omega
theorem refCpu_eq {a : Int} (ha : u64 a) : turnspitref06_Cpu.f a = some (a / 8 % 64) := by
  unfold u64 at ha
  unfold turnspitref06_Cpu.f
  rw [Int.tdiv_eq_ediv_of_nonneg ha.1, u64wrap, Int.emod_eq_of_lt (by omega) (by omega), Int.tmod_eq_emod_of_nonneg (by omega)]
  congr 1
  unfold wrap64; omega
theorem refGen_eq {a : Int} (ha : u64 a) : turnspitref06_Gen.f a = some (a / 67108864 % 4294967296) := by
  unfold u64 at ha
  unfold turnspitref06_Gen.f
  rw [Int.tdiv_eq_ediv_of_nonneg ha.1, u64wrap, Int.emod_eq_of_lt (by omega) (by omega), Int.tmod_eq_emod_of_nonneg (by omega)]
  congr 1
  unfold wrap64; omega
theorem ref_bit {a : Int} (ha : u64 a) : Int.tmod (IntKind.u64.wrap (Int.tdiv a 512)) 2 = a / 512 % 2 := by
  unfold u64 at ha
  rw [Int.tdiv_eq_ediv_of_nonneg ha.1, u64wrap, Int.emod_eq_of_lt (by omega) (by omega), Int.tmod_eq_emod_of_nonneg (by omega)]
theorem ref_seq {a : Int} (ha : u64 a) : wrap64 (Int.tmod (IntKind.u64.wrap (Int.tdiv a 1024)) 65536) = a / 1024 % 65536 := by
  unfold u64 at ha
  rw [Int.tdiv_eq_ediv_of_nonneg ha.1, u64wrap, Int.emod_eq_of_lt (by omega) (by omega), Int.tmod_eq_emod_of_nonneg (by omega)]
  unfold wrap64; omega
theorem b2i_of (x : Int) (h : 0 ≤ x ∧ x < 2) : b2i (x == 1) = x := by
  unfold b2i
  by_cases e : x = 1
  · subst e; rfl
  · have : x = 0 := by omega
    subst this; rfl
theorem refUnpack_eq {a : Int} (ha : u64 a) : turnspitref06_Unpack.f a = some (opened a) := by
  unfold turnspitref06_Unpack.f
  rw [refKind_eq ha, refCpu_eq ha, refGen_eq ha, ref_bit ha, ref_seq ha]
  simp only [Option.bind_some, refPack_eq]
  unfold u64 at ha
  unfold opened
  by_cases h2 : a / 512 % 2 = 1 → a % 8 = 7
  · rw [pack_ok (by refine ⟨by simpa using h2, ?_, ?_, ?_, ?_⟩ <;> omega)]
    simp only [Option.bind_some]
    rw [if_pos trivial]
    have hb := b2i_of (a / 512 % 2) (by omega)
    by_cases h1 : a < 288230376151711744
    · rw [if_pos (by unfold wordOf; rw [hb]; omega), if_pos ⟨h1, h2⟩]
    · rw [if_neg (by unfold wordOf; rw [hb]; omega), if_neg (fun h => h1 h.1)]
  · rw [pack_no (fun h => h2 (by simpa using h.1))]
    simp only [Option.bind_some]
    rw [if_neg (by decide), if_neg (fun h => h2 h.2)]
/-- A word that was packed is opened as it was. -/
theorem opened_word {k c : Int} {b : Bool} {s g : Int} (h : packOk k c b s g) : opened (wordOf k c b s g) = (k, c, b, s, g, 0) := by
  obtain ⟨h5, h0, h1, h3, h4⟩ := h
  have hb := b2i_01 b
  have e0 : wordOf k c b s g % 8 = k := by unfold wordOf; omega
  have e1 : wordOf k c b s g / 8 % 64 = c := by unfold wordOf; omega
  have e2 : wordOf k c b s g / 512 % 2 = b2i b := by unfold wordOf; omega
  have e3 : wordOf k c b s g / 1024 % 65536 = s := by unfold wordOf; omega
  have e4 : wordOf k c b s g / 67108864 % 4294967296 = g := by unfold wordOf; omega
  have e5 : wordOf k c b s g < 288230376151711744 := by unfold wordOf; omega
  unfold opened
  rw [e0, e1, e2, e3, e4]
  cases b
  · rw [if_pos ⟨e5, fun h => by simp [b2i] at h⟩]; rfl
  · rw [if_pos ⟨e5, fun _ => h5 rfl⟩]; rfl
theorem word_u64 {k c : Int} {b : Bool} {s g : Int} (h : packOk k c b s g) : u64 (wordOf k c b s g) ∧ wordOf k c b s g < 288230376151711744 := by
  obtain ⟨_, h0, h1, h3, h4⟩ := h
  have hb := b2i_01 b
  unfold u64 wordOf
  omega
/-- What opens is the word of what it opens to. -/
theorem word_opened {a : Int} (ha : u64 a) (h1 : a < 288230376151711744) (h2 : a / 512 % 2 = 1 → a % 8 = 7) :
    packOk (a % 8) (a / 8 % 64) (a / 512 % 2 == 1) (a / 1024 % 65536) (a / 67108864 % 4294967296) ∧ wordOf (a % 8) (a / 8 % 64) (a / 512 % 2 == 1) (a / 1024 % 65536) (a / 67108864 % 4294967296) = a := by
  unfold u64 at ha
  have hb := b2i_of (a / 512 % 2) (by omega)
  refine ⟨⟨by simpa using h2, ?_, ?_, ?_, ?_⟩, ?_⟩
  iterate 4 omega
  unfold wordOf
  rw [hb]
  omega
end Go.Proofs.YtdchbcpfciljoaaDoor.Pure
namespace Go.Proofs.YtdchbcpfciljoaaDoor
open Go.RowKit Go.Proofs.YtdchbcpfciljoaaDoor.Given Go.Proofs.YtdchbcpfciljoaaDoor.Print Go.Proofs.YtdchbcpfciljoaaDoorW.PrintWords
set_option linter.unusedVariables false
set_option linter.unusedSimpArgs false
set_option maxRecDepth 100000
theorem bind_pair (o : Option (Int × Int)) : (o.bind fun b => some (b.1, b.2)) = o := by cases o <;> rfl
theorem of_eq (n : Nat) (hn : n < 16) (k : Int) (h0 : 0 ≤ k) (h1 : k < 8) (c : Int) (b : Bool) (s g : Int) : turnspitref07_of.f 99 k c b s g (n : Int) = some (holdsB n k b) := by
  have hk : k = 0 ∨ k = 1 ∨ k = 2 ∨ k = 3 ∨ k = 4 ∨ k = 5 ∨ k = 6 ∨ k = 7 := by omega
  have hc16 : n = 0 ∨ n = 1 ∨ n = 2 ∨ n = 3 ∨ n = 4 ∨ n = 5 ∨ n = 6 ∨ n = 7 ∨ n = 8 ∨ n = 9 ∨ n = 10 ∨ n = 11 ∨ n = 12 ∨ n = 13 ∨ n = 14 ∨ n = 15 := by omega
  rcases hc16 with rfl | rfl | rfl | rfl | rfl | rfl | rfl | rfl | rfl | rfl | rfl | rfl | rfl | rfl | rfl | rfl <;> rcases hk with rfl | rfl | rfl | rfl | rfl | rfl | rfl | rfl <;> cases b <;> rfl
theorem and_seq (a : Int) (h0 : 0 ≤ a) (h1 : a ≤ 65536) : bits .and .i64 a 65535 = Int.tmod a 65536 := by
  rw [Int.tmod_eq_emod_of_nonneg h0]
  have h := bits_mask .i64 17 (by decide) (fun n h0 h1 => by simp [IntKind.wrap, IntKind.bits, IntKind.signed]; omega) 16 (by decide) a h0 (by omega)
  exact h
def refTail (ev cpu k c : Int) (b : Bool) (s g er : Int) : Option (Int × Int) :=
  if er = 0 then (if ev < 0 then (turnspitref07_Next.j0 100 ev cpu true k c b s g) else (if ev > 15 then (turnspitref07_Next.j0 100 ev cpu true k c b s g) else (if cpu < 0 then (turnspitref07_Next.j0 100 ev cpu true k c b s g) else (turnspitref07_Next.j0 100 ev cpu (decide (cpu > 63)) k c b s g)))) else (turnspitref07_Next.j0 100 ev cpu true k c b s g)
theorem j0_true (ev cpu k c : Int) (b : Bool) (s g : Int) : turnspitref07_Next.j0 100 ev cpu true k c b s g = some (0, 1) := rfl
theorem j0_false (ev cpu k c : Int) (b : Bool) (s g : Int) : turnspitref07_Next.j0 100 ev cpu false k c b s g = (turnspitref07_of.f 99 k c b s g ev).bind fun t140 => (if t140 = true then (if ev = 0 then (turnspitref07_Next.j1 99 ev cpu (g == 4294967295) k c b s g) else (turnspitref07_Next.j1 99 ev cpu false k c b s g)) else (some (0, 4))) := rfl
theorem j1_0 (cpu k c : Int) (b : Bool) (s g : Int) : turnspitref07_Next.j1 99 0 cpu false k c b s g = packed_Pack.f 1 cpu false 0 (wrap64 (g + 1)) := by
  have h : turnspitref07_Next.j1 99 0 cpu false k c b s g = (turnspitref06_Pack.f 1 cpu false 0 (wrap64 (g + 1))).bind fun x => some (x.1, x.2) := rfl
  rw [h, bind_pair, Pure.refPack_eq]
theorem tail_0 (cpu k c : Int) (b : Bool) (s g er : Int) (hk0 : 0 ≤ k) (hk1 : k < 8) (hs0 : 0 ≤ s) (hs1 : s < 65536) : refTail 0 cpu k c b s g er = nextR 0 cpu k c b s g er := by
  unfold refTail nextR
  by_cases he : er = 0
  · rw [if_pos he, if_pos he, if_neg (by decide), if_neg (by decide)]
    by_cases h0 : cpu < 0
    · rw [if_pos h0, j0_true, if_neg (by omega)]
    · rw [if_neg h0]
      by_cases h1 : cpu > 63
      · rw [decide_eq_true h1, j0_true, if_neg (by omega)]
      · rw [decide_eq_false h1, if_pos ⟨by omega, by omega⟩, j0_false, show (0 : Int) = ((0 : Nat) : Int) from rfl, of_eq 0 (by decide) k hk0 hk1, Option.bind_some]
        cases hb : holdsB 0 k b with
        | false => rw [if_neg Bool.false_ne_true, if_neg Bool.false_ne_true]
        | true =>
          rw [if_pos rfl, if_pos rfl]
          try rw [if_pos rfl]
          by_cases hg : g = 4294967295
          · rw [if_pos ⟨rfl, hg⟩, hg]; rfl
          · rw [if_neg (fun h => hg h.2), show (g == 4294967295) = false from beq_eq_false_iff_ne.2 hg]
            exact j1_0 cpu k c b s g
  · rw [if_neg he, if_neg he, j0_true]
theorem j1_1 (cpu k c : Int) (b : Bool) (s g : Int) : turnspitref07_Next.j1 99 1 cpu false k c b s g = packed_Pack.f 0 0 false 0 g := by
  have h : turnspitref07_Next.j1 99 1 cpu false k c b s g = (turnspitref06_Pack.f 0 0 false 0 g).bind fun x => some (x.1, x.2) := rfl
  rw [h, bind_pair, Pure.refPack_eq]
theorem tail_1 (cpu k c : Int) (b : Bool) (s g er : Int) (hk0 : 0 ≤ k) (hk1 : k < 8) (hs0 : 0 ≤ s) (hs1 : s < 65536) : refTail 1 cpu k c b s g er = nextR 1 cpu k c b s g er := by
  unfold refTail nextR
  by_cases he : er = 0
  · rw [if_pos he, if_pos he, if_neg (by decide), if_neg (by decide)]
    by_cases h0 : cpu < 0
    · rw [if_pos h0, j0_true, if_neg (by omega)]
    · rw [if_neg h0]
      by_cases h1 : cpu > 63
      · rw [decide_eq_true h1, j0_true, if_neg (by omega)]
      · rw [decide_eq_false h1, if_pos ⟨by omega, by omega⟩, j0_false, show (1 : Int) = ((1 : Nat) : Int) from rfl, of_eq 1 (by decide) k hk0 hk1, Option.bind_some]
        cases hb : holdsB 1 k b with
        | false => rw [if_neg Bool.false_ne_true, if_neg Bool.false_ne_true]
        | true =>
          rw [if_pos rfl, if_pos rfl]
          rw [if_neg (by decide), if_neg (fun h => absurd h.1 (by decide))]
          exact j1_1 cpu k c b s g
  · rw [if_neg he, if_neg he, j0_true]
theorem j1_2 (cpu k c : Int) (b : Bool) (s g : Int) : turnspitref07_Next.j1 99 2 cpu false k c b s g = packed_Pack.f 2 c false (Int.tmod (wrap64 (s + 1)) 65536) g := by
  have h : turnspitref07_Next.j1 99 2 cpu false k c b s g = (turnspitref06_Pack.f 2 c false (Int.tmod (wrap64 (s + 1)) 65536) g).bind fun x => some (x.1, x.2) := rfl
  rw [h, bind_pair, Pure.refPack_eq]
theorem tail_2 (cpu k c : Int) (b : Bool) (s g er : Int) (hk0 : 0 ≤ k) (hk1 : k < 8) (hs0 : 0 ≤ s) (hs1 : s < 65536) : refTail 2 cpu k c b s g er = nextR 2 cpu k c b s g er := by
  unfold refTail nextR
  by_cases he : er = 0
  · rw [if_pos he, if_pos he, if_neg (by decide), if_neg (by decide)]
    by_cases h0 : cpu < 0
    · rw [if_pos h0, j0_true, if_neg (by omega)]
    · rw [if_neg h0]
      by_cases h1 : cpu > 63
      · rw [decide_eq_true h1, j0_true, if_neg (by omega)]
      · rw [decide_eq_false h1, if_pos ⟨by omega, by omega⟩, j0_false, show (2 : Int) = ((2 : Nat) : Int) from rfl, of_eq 2 (by decide) k hk0 hk1, Option.bind_some]
        cases hb : holdsB 2 k b with
        | false => rw [if_neg Bool.false_ne_true, if_neg Bool.false_ne_true]
        | true =>
          rw [if_pos rfl, if_pos rfl]
          rw [if_neg (by decide), if_neg (fun h => absurd h.1 (by decide))]
          refine (j1_2 cpu k c b s g).trans ?_
          have e : wrap64 (s + 1) = s + 1 := by unfold wrap64; omega
          rw [e, ← and_seq (s + 1) (by omega) (by omega), ← e]
          rfl
  · rw [if_neg he, if_neg he, j0_true]
theorem j1_3 (cpu k c : Int) (b : Bool) (s g : Int) : turnspitref07_Next.j1 99 3 cpu false k c b s g = packed_Pack.f 3 c false s g := by
  have h : turnspitref07_Next.j1 99 3 cpu false k c b s g = (turnspitref06_Pack.f 3 c false s g).bind fun x => some (x.1, x.2) := rfl
  rw [h, bind_pair, Pure.refPack_eq]
theorem tail_3 (cpu k c : Int) (b : Bool) (s g er : Int) (hk0 : 0 ≤ k) (hk1 : k < 8) (hs0 : 0 ≤ s) (hs1 : s < 65536) : refTail 3 cpu k c b s g er = nextR 3 cpu k c b s g er := by
  unfold refTail nextR
  by_cases he : er = 0
  · rw [if_pos he, if_pos he, if_neg (by decide), if_neg (by decide)]
    by_cases h0 : cpu < 0
    · rw [if_pos h0, j0_true, if_neg (by omega)]
    · rw [if_neg h0]
      by_cases h1 : cpu > 63
      · rw [decide_eq_true h1, j0_true, if_neg (by omega)]
      · rw [decide_eq_false h1, if_pos ⟨by omega, by omega⟩, j0_false, show (3 : Int) = ((3 : Nat) : Int) from rfl, of_eq 3 (by decide) k hk0 hk1, Option.bind_some]
        cases hb : holdsB 3 k b with
        | false => rw [if_neg Bool.false_ne_true, if_neg Bool.false_ne_true]
        | true =>
          rw [if_pos rfl, if_pos rfl]
          rw [if_neg (by decide), if_neg (fun h => absurd h.1 (by decide))]
          exact j1_3 cpu k c b s g
  · rw [if_neg he, if_neg he, j0_true]
theorem j1_4 (cpu k c : Int) (b : Bool) (s g : Int) : turnspitref07_Next.j1 99 4 cpu false k c b s g = packed_Pack.f 4 c false s g := by
  have h : turnspitref07_Next.j1 99 4 cpu false k c b s g = (turnspitref06_Pack.f 4 c false s g).bind fun x => some (x.1, x.2) := rfl
  rw [h, bind_pair, Pure.refPack_eq]
theorem tail_4 (cpu k c : Int) (b : Bool) (s g er : Int) (hk0 : 0 ≤ k) (hk1 : k < 8) (hs0 : 0 ≤ s) (hs1 : s < 65536) : refTail 4 cpu k c b s g er = nextR 4 cpu k c b s g er := by
  unfold refTail nextR
  by_cases he : er = 0
  · rw [if_pos he, if_pos he, if_neg (by decide), if_neg (by decide)]
    by_cases h0 : cpu < 0
    · rw [if_pos h0, j0_true, if_neg (by omega)]
    · rw [if_neg h0]
      by_cases h1 : cpu > 63
      · rw [decide_eq_true h1, j0_true, if_neg (by omega)]
      · rw [decide_eq_false h1, if_pos ⟨by omega, by omega⟩, j0_false, show (4 : Int) = ((4 : Nat) : Int) from rfl, of_eq 4 (by decide) k hk0 hk1, Option.bind_some]
        cases hb : holdsB 4 k b with
        | false => rw [if_neg Bool.false_ne_true, if_neg Bool.false_ne_true]
        | true =>
          rw [if_pos rfl, if_pos rfl]
          rw [if_neg (by decide), if_neg (fun h => absurd h.1 (by decide))]
          exact j1_4 cpu k c b s g
  · rw [if_neg he, if_neg he, j0_true]
theorem j1_5 (cpu k c : Int) (b : Bool) (s g : Int) : turnspitref07_Next.j1 99 5 cpu false k c b s g = packed_Pack.f 5 c false s g := by
  have h : turnspitref07_Next.j1 99 5 cpu false k c b s g = (turnspitref06_Pack.f 5 c false s g).bind fun x => some (x.1, x.2) := rfl
  rw [h, bind_pair, Pure.refPack_eq]
theorem tail_5 (cpu k c : Int) (b : Bool) (s g er : Int) (hk0 : 0 ≤ k) (hk1 : k < 8) (hs0 : 0 ≤ s) (hs1 : s < 65536) : refTail 5 cpu k c b s g er = nextR 5 cpu k c b s g er := by
  unfold refTail nextR
  by_cases he : er = 0
  · rw [if_pos he, if_pos he, if_neg (by decide), if_neg (by decide)]
    by_cases h0 : cpu < 0
    · rw [if_pos h0, j0_true, if_neg (by omega)]
    · rw [if_neg h0]
      by_cases h1 : cpu > 63
      · rw [decide_eq_true h1, j0_true, if_neg (by omega)]
      · rw [decide_eq_false h1, if_pos ⟨by omega, by omega⟩, j0_false, show (5 : Int) = ((5 : Nat) : Int) from rfl, of_eq 5 (by decide) k hk0 hk1, Option.bind_some]
        cases hb : holdsB 5 k b with
        | false => rw [if_neg Bool.false_ne_true, if_neg Bool.false_ne_true]
        | true =>
          rw [if_pos rfl, if_pos rfl]
          rw [if_neg (by decide), if_neg (fun h => absurd h.1 (by decide))]
          exact j1_5 cpu k c b s g
  · rw [if_neg he, if_neg he, j0_true]
theorem j1_6 (cpu k c : Int) (b : Bool) (s g : Int) : turnspitref07_Next.j1 99 6 cpu false k c b s g = packed_Pack.f 4 c false s g := by
  have h : turnspitref07_Next.j1 99 6 cpu false k c b s g = (turnspitref06_Pack.f 4 c false s g).bind fun x => some (x.1, x.2) := rfl
  rw [h, bind_pair, Pure.refPack_eq]
theorem tail_6 (cpu k c : Int) (b : Bool) (s g er : Int) (hk0 : 0 ≤ k) (hk1 : k < 8) (hs0 : 0 ≤ s) (hs1 : s < 65536) : refTail 6 cpu k c b s g er = nextR 6 cpu k c b s g er := by
  unfold refTail nextR
  by_cases he : er = 0
  · rw [if_pos he, if_pos he, if_neg (by decide), if_neg (by decide)]
    by_cases h0 : cpu < 0
    · rw [if_pos h0, j0_true, if_neg (by omega)]
    · rw [if_neg h0]
      by_cases h1 : cpu > 63
      · rw [decide_eq_true h1, j0_true, if_neg (by omega)]
      · rw [decide_eq_false h1, if_pos ⟨by omega, by omega⟩, j0_false, show (6 : Int) = ((6 : Nat) : Int) from rfl, of_eq 6 (by decide) k hk0 hk1, Option.bind_some]
        cases hb : holdsB 6 k b with
        | false => rw [if_neg Bool.false_ne_true, if_neg Bool.false_ne_true]
        | true =>
          rw [if_pos rfl, if_pos rfl]
          rw [if_neg (by decide), if_neg (fun h => absurd h.1 (by decide))]
          exact j1_6 cpu k c b s g
  · rw [if_neg he, if_neg he, j0_true]
theorem j1_7 (cpu k c : Int) (b : Bool) (s g : Int) : turnspitref07_Next.j1 99 7 cpu false k c b s g = packed_Pack.f 7 c false s g := by
  have h : turnspitref07_Next.j1 99 7 cpu false k c b s g = (turnspitref06_Pack.f 7 c false s g).bind fun x => some (x.1, x.2) := rfl
  rw [h, bind_pair, Pure.refPack_eq]
theorem tail_7 (cpu k c : Int) (b : Bool) (s g er : Int) (hk0 : 0 ≤ k) (hk1 : k < 8) (hs0 : 0 ≤ s) (hs1 : s < 65536) : refTail 7 cpu k c b s g er = nextR 7 cpu k c b s g er := by
  unfold refTail nextR
  by_cases he : er = 0
  · rw [if_pos he, if_pos he, if_neg (by decide), if_neg (by decide)]
    by_cases h0 : cpu < 0
    · rw [if_pos h0, j0_true, if_neg (by omega)]
    · rw [if_neg h0]
      by_cases h1 : cpu > 63
      · rw [decide_eq_true h1, j0_true, if_neg (by omega)]
      · rw [decide_eq_false h1, if_pos ⟨by omega, by omega⟩, j0_false, show (7 : Int) = ((7 : Nat) : Int) from rfl, of_eq 7 (by decide) k hk0 hk1, Option.bind_some]
        cases hb : holdsB 7 k b with
        | false => rw [if_neg Bool.false_ne_true, if_neg Bool.false_ne_true]
        | true =>
          rw [if_pos rfl, if_pos rfl]
          rw [if_neg (by decide), if_neg (fun h => absurd h.1 (by decide))]
          exact j1_7 cpu k c b s g
  · rw [if_neg he, if_neg he, j0_true]
theorem j1_8 (cpu k c : Int) (b : Bool) (s g : Int) : turnspitref07_Next.j1 99 8 cpu false k c b s g = packed_Pack.f 7 c true s g := by
  have h : turnspitref07_Next.j1 99 8 cpu false k c b s g = (turnspitref06_Pack.f 7 c true s g).bind fun x => some (x.1, x.2) := rfl
  rw [h, bind_pair, Pure.refPack_eq]
theorem tail_8 (cpu k c : Int) (b : Bool) (s g er : Int) (hk0 : 0 ≤ k) (hk1 : k < 8) (hs0 : 0 ≤ s) (hs1 : s < 65536) : refTail 8 cpu k c b s g er = nextR 8 cpu k c b s g er := by
  unfold refTail nextR
  by_cases he : er = 0
  · rw [if_pos he, if_pos he, if_neg (by decide), if_neg (by decide)]
    by_cases h0 : cpu < 0
    · rw [if_pos h0, j0_true, if_neg (by omega)]
    · rw [if_neg h0]
      by_cases h1 : cpu > 63
      · rw [decide_eq_true h1, j0_true, if_neg (by omega)]
      · rw [decide_eq_false h1, if_pos ⟨by omega, by omega⟩, j0_false, show (8 : Int) = ((8 : Nat) : Int) from rfl, of_eq 8 (by decide) k hk0 hk1, Option.bind_some]
        cases hb : holdsB 8 k b with
        | false => rw [if_neg Bool.false_ne_true, if_neg Bool.false_ne_true]
        | true =>
          rw [if_pos rfl, if_pos rfl]
          rw [if_neg (by decide), if_neg (fun h => absurd h.1 (by decide))]
          exact j1_8 cpu k c b s g
  · rw [if_neg he, if_neg he, j0_true]
theorem j1_9 (cpu k c : Int) (b : Bool) (s g : Int) : turnspitref07_Next.j1 99 9 cpu false k c b s g = packed_Pack.f 1 c false s g := by
  have h : turnspitref07_Next.j1 99 9 cpu false k c b s g = (turnspitref06_Pack.f 1 c false s g).bind fun x => some (x.1, x.2) := rfl
  rw [h, bind_pair, Pure.refPack_eq]
theorem tail_9 (cpu k c : Int) (b : Bool) (s g er : Int) (hk0 : 0 ≤ k) (hk1 : k < 8) (hs0 : 0 ≤ s) (hs1 : s < 65536) : refTail 9 cpu k c b s g er = nextR 9 cpu k c b s g er := by
  unfold refTail nextR
  by_cases he : er = 0
  · rw [if_pos he, if_pos he, if_neg (by decide), if_neg (by decide)]
    by_cases h0 : cpu < 0
    · rw [if_pos h0, j0_true, if_neg (by omega)]
    · rw [if_neg h0]
      by_cases h1 : cpu > 63
      · rw [decide_eq_true h1, j0_true, if_neg (by omega)]
      · rw [decide_eq_false h1, if_pos ⟨by omega, by omega⟩, j0_false, show (9 : Int) = ((9 : Nat) : Int) from rfl, of_eq 9 (by decide) k hk0 hk1, Option.bind_some]
        cases hb : holdsB 9 k b with
        | false => rw [if_neg Bool.false_ne_true, if_neg Bool.false_ne_true]
        | true =>
          rw [if_pos rfl, if_pos rfl]
          rw [if_neg (by decide), if_neg (fun h => absurd h.1 (by decide))]
          exact j1_9 cpu k c b s g
  · rw [if_neg he, if_neg he, j0_true]
theorem j1_10 (cpu k c : Int) (b : Bool) (s g : Int) : turnspitref07_Next.j1 99 10 cpu false k c b s g = packed_Pack.f 3 c false s g := by
  have h : turnspitref07_Next.j1 99 10 cpu false k c b s g = (turnspitref06_Pack.f 3 c false s g).bind fun x => some (x.1, x.2) := rfl
  rw [h, bind_pair, Pure.refPack_eq]
theorem tail_10 (cpu k c : Int) (b : Bool) (s g er : Int) (hk0 : 0 ≤ k) (hk1 : k < 8) (hs0 : 0 ≤ s) (hs1 : s < 65536) : refTail 10 cpu k c b s g er = nextR 10 cpu k c b s g er := by
  unfold refTail nextR
  by_cases he : er = 0
  · rw [if_pos he, if_pos he, if_neg (by decide), if_neg (by decide)]
    by_cases h0 : cpu < 0
    · rw [if_pos h0, j0_true, if_neg (by omega)]
    · rw [if_neg h0]
      by_cases h1 : cpu > 63
      · rw [decide_eq_true h1, j0_true, if_neg (by omega)]
      · rw [decide_eq_false h1, if_pos ⟨by omega, by omega⟩, j0_false, show (10 : Int) = ((10 : Nat) : Int) from rfl, of_eq 10 (by decide) k hk0 hk1, Option.bind_some]
        cases hb : holdsB 10 k b with
        | false => rw [if_neg Bool.false_ne_true, if_neg Bool.false_ne_true]
        | true =>
          rw [if_pos rfl, if_pos rfl]
          rw [if_neg (by decide), if_neg (fun h => absurd h.1 (by decide))]
          exact j1_10 cpu k c b s g
  · rw [if_neg he, if_neg he, j0_true]
theorem j1_11 (cpu k c : Int) (b : Bool) (s g : Int) : turnspitref07_Next.j1 99 11 cpu false k c b s g = packed_Pack.f 1 cpu false s g := by
  have h : turnspitref07_Next.j1 99 11 cpu false k c b s g = (turnspitref06_Pack.f 1 cpu false s g).bind fun x => some (x.1, x.2) := rfl
  rw [h, bind_pair, Pure.refPack_eq]
theorem tail_11 (cpu k c : Int) (b : Bool) (s g er : Int) (hk0 : 0 ≤ k) (hk1 : k < 8) (hs0 : 0 ≤ s) (hs1 : s < 65536) : refTail 11 cpu k c b s g er = nextR 11 cpu k c b s g er := by
  unfold refTail nextR
  by_cases he : er = 0
  · rw [if_pos he, if_pos he, if_neg (by decide), if_neg (by decide)]
    by_cases h0 : cpu < 0
    · rw [if_pos h0, j0_true, if_neg (by omega)]
    · rw [if_neg h0]
      by_cases h1 : cpu > 63
      · rw [decide_eq_true h1, j0_true, if_neg (by omega)]
      · rw [decide_eq_false h1, if_pos ⟨by omega, by omega⟩, j0_false, show (11 : Int) = ((11 : Nat) : Int) from rfl, of_eq 11 (by decide) k hk0 hk1, Option.bind_some]
        cases hb : holdsB 11 k b with
        | false => rw [if_neg Bool.false_ne_true, if_neg Bool.false_ne_true]
        | true =>
          rw [if_pos rfl, if_pos rfl]
          rw [if_neg (by decide), if_neg (fun h => absurd h.1 (by decide))]
          exact j1_11 cpu k c b s g
  · rw [if_neg he, if_neg he, j0_true]
theorem j1_12 (cpu k c : Int) (b : Bool) (s g : Int) : turnspitref07_Next.j1 99 12 cpu false k c b s g = packed_Pack.f 1 cpu false s g := by
  have h : turnspitref07_Next.j1 99 12 cpu false k c b s g = (turnspitref06_Pack.f 1 cpu false s g).bind fun x => some (x.1, x.2) := rfl
  rw [h, bind_pair, Pure.refPack_eq]
theorem tail_12 (cpu k c : Int) (b : Bool) (s g er : Int) (hk0 : 0 ≤ k) (hk1 : k < 8) (hs0 : 0 ≤ s) (hs1 : s < 65536) : refTail 12 cpu k c b s g er = nextR 12 cpu k c b s g er := by
  unfold refTail nextR
  by_cases he : er = 0
  · rw [if_pos he, if_pos he, if_neg (by decide), if_neg (by decide)]
    by_cases h0 : cpu < 0
    · rw [if_pos h0, j0_true, if_neg (by omega)]
    · rw [if_neg h0]
      by_cases h1 : cpu > 63
      · rw [decide_eq_true h1, j0_true, if_neg (by omega)]
      · rw [decide_eq_false h1, if_pos ⟨by omega, by omega⟩, j0_false, show (12 : Int) = ((12 : Nat) : Int) from rfl, of_eq 12 (by decide) k hk0 hk1, Option.bind_some]
        cases hb : holdsB 12 k b with
        | false => rw [if_neg Bool.false_ne_true, if_neg Bool.false_ne_true]
        | true =>
          rw [if_pos rfl, if_pos rfl]
          rw [if_neg (by decide), if_neg (fun h => absurd h.1 (by decide))]
          exact j1_12 cpu k c b s g
  · rw [if_neg he, if_neg he, j0_true]
theorem j1_13 (cpu k c : Int) (b : Bool) (s g : Int) : turnspitref07_Next.j1 99 13 cpu false k c b s g = packed_Pack.f 6 cpu false s g := by
  have h : turnspitref07_Next.j1 99 13 cpu false k c b s g = (turnspitref06_Pack.f 6 cpu false s g).bind fun x => some (x.1, x.2) := rfl
  rw [h, bind_pair, Pure.refPack_eq]
theorem tail_13 (cpu k c : Int) (b : Bool) (s g er : Int) (hk0 : 0 ≤ k) (hk1 : k < 8) (hs0 : 0 ≤ s) (hs1 : s < 65536) : refTail 13 cpu k c b s g er = nextR 13 cpu k c b s g er := by
  unfold refTail nextR
  by_cases he : er = 0
  · rw [if_pos he, if_pos he, if_neg (by decide), if_neg (by decide)]
    by_cases h0 : cpu < 0
    · rw [if_pos h0, j0_true, if_neg (by omega)]
    · rw [if_neg h0]
      by_cases h1 : cpu > 63
      · rw [decide_eq_true h1, j0_true, if_neg (by omega)]
      · rw [decide_eq_false h1, if_pos ⟨by omega, by omega⟩, j0_false, show (13 : Int) = ((13 : Nat) : Int) from rfl, of_eq 13 (by decide) k hk0 hk1, Option.bind_some]
        cases hb : holdsB 13 k b with
        | false => rw [if_neg Bool.false_ne_true, if_neg Bool.false_ne_true]
        | true =>
          rw [if_pos rfl, if_pos rfl]
          rw [if_neg (by decide), if_neg (fun h => absurd h.1 (by decide))]
          exact j1_13 cpu k c b s g
  · rw [if_neg he, if_neg he, j0_true]
theorem j1_14 (cpu k c : Int) (b : Bool) (s g : Int) : turnspitref07_Next.j1 99 14 cpu false k c b s g = packed_Pack.f 4 c false s g := by
  have h : turnspitref07_Next.j1 99 14 cpu false k c b s g = (turnspitref06_Pack.f 4 c false s g).bind fun x => some (x.1, x.2) := rfl
  rw [h, bind_pair, Pure.refPack_eq]
theorem tail_14 (cpu k c : Int) (b : Bool) (s g er : Int) (hk0 : 0 ≤ k) (hk1 : k < 8) (hs0 : 0 ≤ s) (hs1 : s < 65536) : refTail 14 cpu k c b s g er = nextR 14 cpu k c b s g er := by
  unfold refTail nextR
  by_cases he : er = 0
  · rw [if_pos he, if_pos he, if_neg (by decide), if_neg (by decide)]
    by_cases h0 : cpu < 0
    · rw [if_pos h0, j0_true, if_neg (by omega)]
    · rw [if_neg h0]
      by_cases h1 : cpu > 63
      · rw [decide_eq_true h1, j0_true, if_neg (by omega)]
      · rw [decide_eq_false h1, if_pos ⟨by omega, by omega⟩, j0_false, show (14 : Int) = ((14 : Nat) : Int) from rfl, of_eq 14 (by decide) k hk0 hk1, Option.bind_some]
        cases hb : holdsB 14 k b with
        | false => rw [if_neg Bool.false_ne_true, if_neg Bool.false_ne_true]
        | true =>
          rw [if_pos rfl, if_pos rfl]
          rw [if_neg (by decide), if_neg (fun h => absurd h.1 (by decide))]
          exact j1_14 cpu k c b s g
  · rw [if_neg he, if_neg he, j0_true]
theorem j1_15 (cpu k c : Int) (b : Bool) (s g : Int) : turnspitref07_Next.j1 99 15 cpu false k c b s g = packed_Pack.f 4 cpu false s g := by
  have h : turnspitref07_Next.j1 99 15 cpu false k c b s g = (turnspitref06_Pack.f 4 cpu false s g).bind fun x => some (x.1, x.2) := rfl
  rw [h, bind_pair, Pure.refPack_eq]
theorem tail_15 (cpu k c : Int) (b : Bool) (s g er : Int) (hk0 : 0 ≤ k) (hk1 : k < 8) (hs0 : 0 ≤ s) (hs1 : s < 65536) : refTail 15 cpu k c b s g er = nextR 15 cpu k c b s g er := by
  unfold refTail nextR
  by_cases he : er = 0
  · rw [if_pos he, if_pos he, if_neg (by decide), if_neg (by decide)]
    by_cases h0 : cpu < 0
    · rw [if_pos h0, j0_true, if_neg (by omega)]
    · rw [if_neg h0]
      by_cases h1 : cpu > 63
      · rw [decide_eq_true h1, j0_true, if_neg (by omega)]
      · rw [decide_eq_false h1, if_pos ⟨by omega, by omega⟩, j0_false, show (15 : Int) = ((15 : Nat) : Int) from rfl, of_eq 15 (by decide) k hk0 hk1, Option.bind_some]
        cases hb : holdsB 15 k b with
        | false => rw [if_neg Bool.false_ne_true, if_neg Bool.false_ne_true]
        | true =>
          rw [if_pos rfl, if_pos rfl]
          rw [if_neg (by decide), if_neg (fun h => absurd h.1 (by decide))]
          exact j1_15 cpu k c b s g
  · rw [if_neg he, if_neg he, j0_true]
theorem opened_bounds (a : Int) : (0 ≤ (Pure.opened a).1 ∧ (Pure.opened a).1 < 8) ∧ (0 ≤ (Pure.opened a).2.2.2.1 ∧ (Pure.opened a).2.2.2.1 < 65536) := by
  unfold Pure.opened
  split
  · show (0 ≤ a % 8 ∧ a % 8 < 8) ∧ (0 ≤ a / 1024 % 65536 ∧ a / 1024 % 65536 < 65536)
    omega
  · exact ⟨by decide, by decide⟩
theorem next_ref (x ev cpu : Int) (hx : Pure.u64 x) (hw : (Lit.int .i64 ev).wf = true) : turnspitref07_Next.f 100 x ev cpu = life_Next.f x ev cpu := by
  have h1 : turnspitref07_Next.f 100 x ev cpu = (turnspitref06_Unpack.f x).bind fun u => refTail ev cpu u.1 u.2.1 u.2.2.1 u.2.2.2.1 u.2.2.2.2.1 u.2.2.2.2.2 := rfl
  rw [h1, Pure.refUnpack_eq hx, Option.bind_some]
  unfold life_Next.f
  rw [if_pos hw, Pure.unpack_eq hx, Option.bind_some]
  obtain ⟨⟨k0, k1⟩, s0, s1⟩ := opened_bounds x
  generalize Pure.opened x = u at k0 k1 s0 s1
  obtain ⟨k, c, b, s, g, er⟩ := u
  simp only at k0 k1 s0 s1 ⊢
  by_cases hr : 0 ≤ ev ∧ ev < 16
  · rw [if_pos hr]
    obtain ⟨n, rfl⟩ := Int.eq_ofNat_of_zero_le hr.1
    rw [Int.toNat_natCast]
    have hc16 : n = 0 ∨ n = 1 ∨ n = 2 ∨ n = 3 ∨ n = 4 ∨ n = 5 ∨ n = 6 ∨ n = 7 ∨ n = 8 ∨ n = 9 ∨ n = 10 ∨ n = 11 ∨ n = 12 ∨ n = 13 ∨ n = 14 ∨ n = 15 := by omega
    rcases hc16 with rfl | rfl | rfl | rfl | rfl | rfl | rfl | rfl | rfl | rfl | rfl | rfl | rfl | rfl | rfl | rfl
    · exact tail_0 cpu k c b s g er k0 k1 s0 s1
    · exact tail_1 cpu k c b s g er k0 k1 s0 s1
    · exact tail_2 cpu k c b s g er k0 k1 s0 s1
    · exact tail_3 cpu k c b s g er k0 k1 s0 s1
    · exact tail_4 cpu k c b s g er k0 k1 s0 s1
    · exact tail_5 cpu k c b s g er k0 k1 s0 s1
    · exact tail_6 cpu k c b s g er k0 k1 s0 s1
    · exact tail_7 cpu k c b s g er k0 k1 s0 s1
    · exact tail_8 cpu k c b s g er k0 k1 s0 s1
    · exact tail_9 cpu k c b s g er k0 k1 s0 s1
    · exact tail_10 cpu k c b s g er k0 k1 s0 s1
    · exact tail_11 cpu k c b s g er k0 k1 s0 s1
    · exact tail_12 cpu k c b s g er k0 k1 s0 s1
    · exact tail_13 cpu k c b s g er k0 k1 s0 s1
    · exact tail_14 cpu k c b s g er k0 k1 s0 s1
    · exact tail_15 cpu k c b s g er k0 k1 s0 s1
  · rw [if_neg hr]
    unfold refTail
    by_cases he : er = 0
    · rw [if_pos he]
      by_cases h0 : ev < 0
      · rw [if_pos h0, j0_true]
      · rw [if_neg h0, if_pos (by omega), j0_true]
    · rw [if_neg he, j0_true]
/-- What Next tells, in short. -/
def nextU (x ev cpu : Int) : Int × Int := (life_Next.f x ev cpu).getD (0, 1)
theorem next_some (x ev cpu : Int) (hx : Pure.u64 x) (hw : (Lit.int .i64 ev).wf = true) : life_Next.f x ev cpu = some (nextU x ev cpu) := by
  unfold nextU
  have : (life_Next.f x ev cpu).isSome = true := by
    unfold life_Next.f
    rw [if_pos hw, Pure.unpack_eq hx, Option.bind_some]
    split
    · unfold nextR
      split
      · split
        · split
          · split
            · rfl
            · unfold packed_Pack.f; split <;> rfl
          · rfl
        · rfl
      · rfl
    · rfl
  cases h : life_Next.f x ev cpu with
  | none => rw [h] at this; cases this
  | some r => rfl
end Go.Proofs.YtdchbcpfciljoaaDoor
/- Plain facts on masks (chapter 04). -/
namespace Go.Proofs.YtdchbcpfciljoaaDoor.Pure
open Go.RowKit Go.Proofs.YtdchbcpfciljoaaDoor Go.Proofs.YtdchbcpfciljoaaDoor.Given Go.Proofs.YtdchbcpfciljoaaDoor.Print Go.Proofs.YtdchbcpfciljoaaDoorW.PrintWords
set_option linter.unusedVariables false
set_option linter.unusedSimpArgs false
def oddB (c : Int) : Bool := !decide (0 ≤ c ∧ c < 64)
theorem pow_lt64 (k : Nat) (h : k < 64) : 2 ^ k < 18446744073709551616 := by
  have : 2 ^ k ≤ 2 ^ 63 := Nat.pow_le_pow_right (by decide) (by omega)
  omega
theorem or_lt (a b : Nat) (ha : a < 18446744073709551616) (hb : b < 18446744073709551616) : a ||| b < 18446744073709551616 := Nat.or_lt_two_pow (n := 64) ha hb
theorem cpusBelow_length (m c : Int) (i : Nat) : (cpusBelow m c i).length ≤ i := by
  unfold cpusBelow
  rw [List.length_map]
  exact Nat.le_trans (List.length_filter_le _ _) (by simp)
theorem aboveL_length (m c : Int) : (aboveL m c).length ≤ 64 := cpusBelow_length m c 64
theorem wrap64_small {n : Int} (h0 : -9223372036854775808 ≤ n) (h1 : n ≤ 9223372036854775807) : wrap64 n = n := by
  unfold wrap64
  omega
theorem pow_succ_nat (k : Nat) : 2 ^ (k + 1) = 2 ^ k * 2 := Nat.pow_succ ..
theorem u64_wrap_nat (p : Nat) (h : p < 18446744073709551616) : IntKind.u64.wrap (p : Int) = (p : Int) := by
  rw [IntKind.wrap_u64]; omega
theorem shl1 (k : Nat) (h : k < 64) : shl .u64 1 (k : Int) = ((2 ^ k : Nat) : Int) := by
  unfold shl
  have h2 := pow_lt64 k h
  have e : min (k : Int).toNat IntKind.u64.bits = k := by
    show min k 64 = k
    omega
  rw [e, Int.one_mul, show ((2 : Int) ^ k) = ((2 ^ k : Nat) : Int) from (Int.natCast_pow 2 k).symm]
  exact u64_wrap_nat _ h2
theorem bitB_nat (M k : Nat) : bitB (M : Int) k = M.testBit k := by
  unfold bitB
  rw [show ((2 : Int) ^ k) = ((2 ^ k : Nat) : Int) from (Int.natCast_pow 2 k).symm, Nat.testBit_eq_decide_div_mod_eq, ← Int.natCast_ediv, Bool.eq_iff_iff, decide_eq_true_eq, beq_iff_eq]
  omega

/-! The bits of a natural number, with one put in and one taken out. -/
theorem add_or (M k : Nat) (h : M.testBit k = false) : M + 2 ^ k = M ||| 2 ^ k := by
  rw [Nat.testBit_eq_decide_div_mod_eq, decide_eq_false_iff_not] at h
  have hp := pow_succ_nat k
  have hpos : 0 < 2 ^ k := Nat.two_pow_pos k
  obtain ⟨q, r, hr, hM⟩ : ∃ q r, r < 2 ^ k ∧ M = 2 ^ (k + 1) * q + r := by
    refine ⟨M / 2 ^ k / 2, M % 2 ^ k, Nat.mod_lt _ hpos, ?_⟩
    have e1 := Nat.div_add_mod M (2 ^ k)
    have e2 : M / 2 ^ k = 2 * (M / 2 ^ k / 2) := by omega
    calc M = 2 ^ k * (M / 2 ^ k) + M % 2 ^ k := e1.symm
      _ = 2 ^ k * (2 * (M / 2 ^ k / 2)) + M % 2 ^ k := by rw [← e2]
      _ = 2 ^ (k + 1) * (M / 2 ^ k / 2) + M % 2 ^ k := by rw [hp, Nat.mul_assoc]
  have h1 : 2 ^ (k + 1) * q + r = 2 ^ (k + 1) * q ||| r := Nat.two_pow_add_eq_or_of_lt (by omega) q
  have h2 : 2 ^ (k + 1) * q + (2 ^ k * 1 + r) = 2 ^ (k + 1) * q ||| (2 ^ k * 1 + r) := Nat.two_pow_add_eq_or_of_lt (by omega) q
  have h3 : 2 ^ k * 1 + r = 2 ^ k * 1 ||| r := Nat.two_pow_add_eq_or_of_lt hr 1
  rw [Nat.mul_one] at h2 h3
  rw [hM]
  have e : 2 ^ (k + 1) * q + r + 2 ^ k = 2 ^ (k + 1) * q + (2 ^ k + r) := by omega
  rw [e, h2, h3, h1, Nat.or_assoc, Nat.or_comm r]
theorem or_same (M k : Nat) (h : M.testBit k = true) : M ||| 2 ^ k = M := by
  apply Nat.eq_of_testBit_eq
  intro i
  rw [Nat.testBit_or, Nat.testBit_two_pow]
  by_cases hi : k = i
  · subst hi; simp [h]
  · simp [hi]
theorem testBit_not (k i : Nat) (hk : k < 64) : (18446744073709551615 - 2 ^ k).testBit i = (decide (i < 64) && !decide (k = i)) := by
  have := Nat.testBit_two_pow_sub_succ (x := 2 ^ k) (n := 64) (pow_lt64 k hk) i
  rw [Nat.testBit_two_pow] at this
  rw [← this]
  congr 1
  omega
theorem testBit_big (M i : Nat) (hM : M < 18446744073709551616) (hi : 64 ≤ i) : M.testBit i = false :=
  Nat.testBit_lt_two_pow (Nat.lt_of_lt_of_le hM (Nat.pow_le_pow_right (n := 2) (by decide) hi))
theorem testBit_wio (M k i : Nat) (hM : M < 18446744073709551616) (hk : k < 64) : (M &&& (18446744073709551615 - 2 ^ k)).testBit i = (M.testBit i && !decide (k = i)) := by
  rw [Nat.testBit_and, testBit_not k i hk]
  by_cases hi : i < 64
  · simp [hi]
  · rw [testBit_big M i hM (by omega)]; rfl
theorem sub_wio (M k : Nat) (hM : M < 18446744073709551616) (hk : k < 64) (h : M.testBit k = true) : M - 2 ^ k = M &&& (18446744073709551615 - 2 ^ k) := by
  have h2 : (M &&& (18446744073709551615 - 2 ^ k)).testBit k = false := by rw [testBit_wio _ _ _ hM hk]; simp
  have h3 := add_or _ k h2
  have h4 : M = M &&& (18446744073709551615 - 2 ^ k) ||| 2 ^ k := by
    apply Nat.eq_of_testBit_eq
    intro i
    rw [Nat.testBit_or, testBit_wio _ _ _ hM hk, Nat.testBit_two_pow]
    by_cases hi : k = i
    · subst hi; simp [h]
    · simp [hi]
  omega

def withN (M : Nat) (c : Int) : Nat := if oddB c then M else M ||| 2 ^ c.toNat
def wioN (M : Nat) (c : Int) : Nat := if oddB c then M else M &&& (18446744073709551615 - 2 ^ c.toNat)
theorem odd_false {c : Int} : oddB c = false ↔ 0 ≤ c ∧ c < 64 := by simp [oddB]
theorem odd_true {c : Int} : oddB c = true ↔ ¬ (0 ≤ c ∧ c < 64) := by
  unfold oddB
  rw [Bool.not_eq_true', decide_eq_false_iff_not]
theorem withN_lt (M : Nat) (c : Int) (hM : M < 18446744073709551616) : withN M c < 18446744073709551616 := by
  unfold withN
  split
  · exact hM
  · rename_i h
    have := odd_false.1 (by simpa using h)
    exact or_lt _ _ hM (pow_lt64 _ (by omega))
theorem wioN_lt (M : Nat) (c : Int) (hM : M < 18446744073709551616) : wioN M c < 18446744073709551616 := by
  unfold wioN
  split
  · exact hM
  · exact Nat.lt_of_le_of_lt Nat.and_le_left hM
theorem hasB_nat (M : Nat) (c : Int) : hasB (M : Int) c = (!oddB c && M.testBit c.toNat) := by
  unfold hasB oddB
  rw [bitB_nat, Bool.not_not]

/-! ### Package mask -/
theorem next_f (m c : Int) (hm : u64 m) (hc : -9223372036854775808 ≤ c) : mask_Next.f m c = some (nextOf m c) := by
  unfold mask_Next.f
  rw [if_pos ⟨hm.1, hm.2, hc⟩]
theorem first_f (m : Int) (hm : u64 m) : mask_First.f m = some (nextOf m (-1)) := by
  unfold mask_First.f
  rw [next_f m _ hm (by decide)]
  rfl
def allN (n : Int) : Nat := if n ≤ 0 then 0 else if n ≥ 64 then 18446744073709551615 else 2 ^ n.toNat - 1
theorem all_f (n : Int) : mask_All.f n = some (allN n : Int) := by
  unfold mask_All.f allN
  split
  · rfl
  · split
    · rfl
    · rename_i h0 h1
      obtain ⟨k, rfl⟩ := Int.eq_ofNat_of_zero_le (by omega : 0 ≤ n)
      have hp : 1 ≤ 2 ^ k := Nat.two_pow_pos k
      have hl := pow_lt64 k (by omega)
      rw [if_pos (by omega), shl1 k (by omega), Int.toNat_natCast, show (((2 ^ k : Nat) : Int) - 1) = ((2 ^ k - 1 : Nat) : Int) by omega, u64_wrap_nat _ (by omega)]

/-! ### The reference -/
def bitv (c : Int) : Nat := if oddB c then 0 else 2 ^ c.toNat
theorem bit_l (d : Nat) : ∀ i c fuel : Nat, i + d = c → c < 64 → d < fuel → turnspitref04_bit.l0 fuel (c : Int) ((2 ^ i : Nat) : Int) (i : Int) = some ((2 ^ c : Nat) : Int) := by
  induction d with
  | zero =>
    rintro i c (_ | fuel) h hc hf
    · omega
    · obtain rfl : i = c := by omega
      unfold turnspitref04_bit.l0
      rw [if_neg (by omega)]
  | succ d ih =>
    rintro i c (_ | fuel) h hc hf
    · omega
    · unfold turnspitref04_bit.l0
      have hp := pow_succ_nat i
      have hl := pow_lt64 (i + 1) (by omega)
      rw [if_pos (by omega), wrap64_small (by omega) (by omega), show (((2 ^ i : Nat) : Int) * 2) = ((2 ^ (i + 1) : Nat) : Int) by omega, u64_wrap_nat _ hl]
      exact ih (i + 1) c fuel (by omega) hc (by omega)
theorem bit_f (c : Int) (fuel : Nat) (hf : 65 < fuel) : turnspitref04_bit.f fuel c = some (bitv c : Int) := by
  obtain ⟨k, rfl⟩ : ∃ k, fuel = k + 1 := ⟨fuel - 1, by omega⟩
  have hj : ∀ b : Bool, turnspitref04_bit.j0 (k + 1) c b = if b = true then (some 0) else (turnspitref04_bit.l0 k c 1 0) := fun b => rfl
  unfold turnspitref04_bit.f bitv
  cases ho : oddB c
  · have hc := odd_false.1 ho
    obtain ⟨i, rfl⟩ := Int.eq_ofNat_of_zero_le hc.1
    rw [if_neg (by omega), hj, if_neg (by simp; omega)]
    exact bit_l i 0 i k (by omega) (by omega) (by omega)
  · have hc := odd_true.1 ho
    split
    · rw [hj]; rfl
    · rw [hj, if_pos (by simp; omega)]; rfl
theorem has_r (M : Nat) (c : Int) (fuel : Nat) (hf : 65 < fuel) (hM : M < 18446744073709551616) : turnspitref04_Has.f fuel (M : Int) c = some (hasB (M : Int) c) := by
  unfold turnspitref04_Has.f
  rw [bit_f c fuel hf, Option.bind_some, Option.bind_some, hasB_nat]
  unfold bitv
  cases ho : oddB c
  · have hp : 0 < 2 ^ c.toNat := Nat.two_pow_pos _
    simp only [Bool.false_eq_true, if_false, Bool.not_false, Bool.true_and]
    generalize hq : 2 ^ c.toNat = q at hp
    rw [if_neg (by omega), if_neg (by omega), Nat.testBit_eq_decide_div_mod_eq, hq, Int.tdiv_eq_ediv_of_nonneg (by omega), ← Int.natCast_ediv, u64_wrap_nat _ (Nat.lt_of_le_of_lt (Nat.div_le_self _ _) hM), Int.tmod_eq_emod_of_nonneg (Int.natCast_nonneg _)]
    rw [Option.some_inj, Bool.eq_iff_iff]
    simp
    omega
  · rfl
theorem with_r (M : Nat) (c : Int) (fuel : Nat) (hf : 65 < fuel) (hM : M < 18446744073709551616) : turnspitref04_With.f fuel (M : Int) c = some (withN M c : Int) := by
  unfold turnspitref04_With.f withN
  rw [has_r M c fuel hf hM, Option.bind_some, hasB_nat, bit_f c fuel hf, Option.bind_some]
  unfold bitv
  cases ho : oddB c
  · have hc := odd_false.1 ho
    cases ht : M.testBit c.toNat
    · rw [if_neg (by decide), if_neg (by decide), if_neg (by decide), ← Int.natCast_add, add_or _ _ ht, u64_wrap_nat _ (or_lt _ _ hM (pow_lt64 _ (by omega)))]
    · rw [if_pos (by decide), if_neg (by decide), or_same _ _ ht]
  · simp
    exact u64_wrap_nat _ hM
theorem cpusBelow_zero (m : Int) : cpusBelow m (-1) 0 = [] := rfl
theorem hasB_lo (m : Int) (i : Nat) (hi : i < 64) : hasB m (i : Int) = bitB m i := by
  unfold hasB
  rw [decide_eq_true (⟨by omega, by omega⟩ : (0 : Int) ≤ (i : Int) ∧ (i : Int) < 64)]
  rfl
theorem list_l (M : Nat) (hM : M < 18446744073709551616) (d : Nat) : ∀ i fuel : Nat, i + d = 64 → 65 + d < fuel → turnspitref04_List.l0 fuel (M : Int) (cpusBelow M (-1) i) (i : Int) = some (aboveL M (-1)) := by
  induction d with
  | zero =>
    rintro i (_ | fuel) h hf
    · omega
    · obtain rfl : i = 64 := by omega
      unfold turnspitref04_List.l0
      rw [if_neg (by omega)]
      rfl
  | succ d ih =>
    rintro i (_ | fuel) h hf
    · omega
    · unfold turnspitref04_List.l0
      have hl := cpusBelow_length M (-1) i
      have hs := cpusBelow_succ M (-1) i (by omega)
      rw [if_pos (by omega), has_r M _ fuel (by omega) hM, Option.bind_some, hasB_lo _ _ (by omega), wrap64_small (by omega) (by omega)]
      have ih' := ih (i + 1) fuel (by omega) (by omega)
      rw [hs] at ih'
      cases hb : bitB M i
      · rw [hb, if_neg (by decide)] at ih'
        rw [if_neg (by decide)]
        exact ih'
      · rw [hb, if_pos rfl] at ih'
        rw [if_pos rfl, if_pos (by omega)]
        exact ih'
theorem list_r (M fuel : Nat) (hf : 129 < fuel) (hM : M < 18446744073709551616) : turnspitref04_List.f fuel (M : Int) = some (aboveL M (-1)) := by
  unfold turnspitref04_List.f
  exact list_l M hM 64 0 fuel (by omega) (by omega)

theorem filter_map (P Q : Nat → Bool) (l : List Nat) : ((l.filter P).map fun (k : Nat) => (k : Int)).filter (fun x => Q x.toNat) = (l.filter fun k => P k && Q k).map fun (k : Nat) => (k : Int) := by
  induction l with
  | nil => rfl
  | cons x xs ih =>
    by_cases h : P x = true
    · by_cases h2 : Q x = true
      · simp [List.filter_cons, h, h2] at ih ⊢
        exact ih
      · simp [List.filter_cons, h, h2] at ih ⊢
        exact ih
    · simp [List.filter_cons, h] at ih ⊢
      exact ih
theorem above_filter (m c : Int) : (aboveL m (-1)).filter (fun x => decide (c < x)) = aboveL m c := by
  have h := filter_map (fun k => decide (-1 < (k : Int)) && bitB m k) (fun k => decide (c < (k : Int))) (List.range 64)
  have e : (aboveL m (-1)).filter (fun x => decide (c < x)) = (aboveL m (-1)).filter (fun x => decide (c < ((x.toNat : Nat) : Int))) := by
    apply List.filter_congr
    intro x hx
    unfold aboveL cpusBelow at hx
    rw [List.mem_map] at hx
    obtain ⟨k, _, rfl⟩ := hx
    rfl
  rw [e]
  refine Eq.trans h ?_
  unfold aboveL cpusBelow
  congr 1
  apply List.filter_congr
  intro k _
  have : decide (-1 < (k : Int)) = true := decide_eq_true (by omega)
  rw [this, Bool.true_and, Bool.and_comm]
theorem next_l (c : Int) (L : List Int) (hL : L.length ≤ 64) (d : Nat) : ∀ i fuel : Nat, i + d = L.length → d < fuel → turnspitref04_Next.l0 fuel c L (i : Int) = some (match (L.drop i).filter (fun x => decide (c < x)) with | [] => (0, false) | x :: _ => (x, true)) := by
  induction d with
  | zero =>
    rintro i (_ | fuel) h hf
    · omega
    · unfold turnspitref04_Next.l0
      rw [if_neg (by omega), List.drop_of_length_le (by omega)]
      rfl
  | succ d ih =>
    rintro i (_ | fuel) h hf
    · omega
    · unfold turnspitref04_Next.l0
      have hi : i < L.length := by omega
      have hr : rd L (i : Int) = L[i] := by simp [rd, hi]
      rw [if_pos (by omega), if_pos (by omega), hr, List.drop_eq_getElem_cons hi, wrap64_small (by omega) (by omega), List.filter_cons]
      by_cases hg : L[i] > c
      · rw [if_pos hg, if_pos (by simpa using hg)]
      · rw [if_neg hg, if_neg (by simpa using hg)]
        exact ih (i + 1) fuel (by omega) (by omega)
theorem next_far_none (m c : Int) (hc : 64 ≤ c) : aboveL m c = [] := cpusBelow_none m c 64 (by omega)
theorem next_r (M : Nat) (c : Int) (fuel : Nat) (hf : 129 < fuel) (hM : M < 18446744073709551616) : turnspitref04_Next.f fuel (M : Int) c = some (nextOf M c) := by
  unfold turnspitref04_Next.f
  rw [list_r M fuel hf hM, Option.bind_some]
  have h := next_l c (aboveL M (-1)) (aboveL_length _ _) (aboveL M (-1)).length 0 fuel (by omega) (by have := aboveL_length M (-1); omega)
  rw [List.drop_zero, above_filter] at h
  refine h.trans ?_
  unfold nextOf
  by_cases hc : c < 64
  · rw [if_pos hc]
    cases aboveL (M : Int) c <;> rfl
  · rw [if_neg hc, next_far_none _ _ (by omega)]
theorem first_r (M fuel : Nat) (hf : 129 < fuel) (hM : M < 18446744073709551616) : turnspitref04_First.f fuel (M : Int) = some (nextOf M (-1)) := by
  unfold turnspitref04_First.f
  rw [next_r M _ fuel hf hM]
  rfl
theorem all_l (n : Int) (d : Nat) : ∀ i fuel : Nat, i + d = 64 → 65 + d < fuel → (i : Int) ≤ max n 0 → turnspitref04_All.l0 fuel n ((2 ^ i - 1 : Nat) : Int) (i : Int) = some (allN n : Int) := by
  induction d with
  | zero =>
    rintro i (_ | fuel) h hf hi
    · omega
    · obtain rfl : i = 64 := by omega
      unfold turnspitref04_All.l0 allN
      rw [if_neg (by omega : ¬ n ≤ 0), if_pos (by omega : n ≥ 64)]
      split
      · rw [if_neg (by omega)]
      · rfl
  | succ d ih =>
    rintro i (_ | fuel) h hf hi
    · omega
    · unfold turnspitref04_All.l0
      by_cases hin : (i : Int) < n
      · have hp := pow_succ_nat i
        have hpos := Nat.two_pow_pos i
        have hl := pow_lt64 i (by omega)
        rw [if_pos hin, if_pos (by omega), with_r _ _ fuel (by omega) (by omega), Option.bind_some, wrap64_small (by omega) (by omega)]
        have ho : oddB (i : Int) = false := odd_false.2 ⟨by omega, by omega⟩
        have ht : (2 ^ i - 1).testBit i = false := by rw [Nat.testBit_two_pow_sub_one]; simp
        have e : withN (2 ^ i - 1) (i : Int) = 2 ^ (i + 1) - 1 := by
          unfold withN
          rw [ho, if_neg (by decide), Int.toNat_natCast, ← add_or _ _ ht]
          omega
        rw [e]
        exact ih (i + 1) fuel (by omega) (by omega) (by omega)
      · rw [if_neg hin]
        unfold allN
        split
        · obtain rfl : i = 0 := by omega
          rfl
        · rw [if_neg (by omega)]
          obtain rfl : n = (i : Int) := by omega
          rfl
theorem all_r (n : Int) (fuel : Nat) (hf : 129 < fuel) : turnspitref04_All.f fuel n = some (allN n : Int) := by
  unfold turnspitref04_All.f
  exact all_l n 64 0 fuel (by omega) (by omega) (by omega)
end Go.Proofs.YtdchbcpfciljoaaDoor.Pure

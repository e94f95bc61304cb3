/- Package life: Next, in the printed form. -/
import Derived.Test.YtdchbcpfciljoaaDoorG3
namespace Go.Proofs.YtdchbcpfciljoaaDoor.Given
open Go.RowKit Go.Proofs.YtdchbcpfciljoaaDoor Go.Proofs.YtdchbcpfciljoaaDoor.Print Go.Proofs.YtdchbcpfciljoaaDoorW.PrintWords
set_option linter.unusedVariables false
set_option linter.unusedSimpArgs false
def holdsB (n : Nat) (k : Int) (b : Bool) : Bool := ((kindsOf n).any fun y => y == k) && ifB n b
/-- What is packed behind an event: CPU, Bit, Seq, Gen. -/
def nextS : Nat → Int → Int → Int → Int → Int × Bool × Int × Int
  | 0, cpu, c, s, g => (cpu, false, 0, wrap64 (g + 1))
  | 1, cpu, c, s, g => (0, false, 0, g)
  | 2, cpu, c, s, g => (c, false, bits .and .i64 (wrap64 (s + 1)) 65535, g)
  | 8, cpu, c, s, g => (c, true, s, g)
  | 11, cpu, c, s, g => (cpu, false, s, g)
  | 12, cpu, c, s, g => (cpu, false, s, g)
  | 13, cpu, c, s, g => (cpu, false, s, g)
  | 15, cpu, c, s, g => (cpu, false, s, g)
  | _, cpu, c, s, g => (c, false, s, g)
def nextR (n : Nat) (cpu k c : Int) (b : Bool) (s g er : Int) : Option (Int × Int) :=
  if er = 0 then (if 0 ≤ cpu ∧ cpu < 64 then (if holdsB n k b = true then (if n = 0 ∧ g = 4294967295 then some (0, 5) else packed_Pack.f (toOf n) (nextS n cpu c s g).1 (nextS n cpu c s g).2.1 (nextS n cpu c s g).2.2.1 (nextS n cpu c s g).2.2.2) else some (0, 4)) else some (0, 1)) else some (0, 1)
def life_Next.f (x ev cpu : Int) : Option (Int × Int) :=
  if (Lit.int .i64 ev).wf = true then (packed_Unpack.f x).bind fun u => (if 0 ≤ ev ∧ ev < 16 then nextR ev.toNat cpu u.1 u.2.1 u.2.2.1 u.2.2.2.1 u.2.2.2.2.1 u.2.2.2.2.2 else some (0, 1)) else none
theorem nextAt_0 (x cpu k c s g er : Int) (b : Bool) (w : World) (bm : Nat) (ad : Addr) (cap : Nat) (hN : NextAt w bm 0 (ruleV 0 ad cap) true) (hcap : (kindsOf 0).length ≤ cap) (hc : ∀ j q, (kindsOf 0)[j]? = some q → w.cell? (ad.add j) = some (.int .i64 q))
    (hu : packed_Unpack.f x = some (k, c, b, s, g, er)) (her : er = 0 ∨ er = 1) (r1 r2 : Int) (h : nextR 0 cpu k c b s g er = some (r1, r2)) :
    Calls Tryd.prog 53 #[.int .u64 x, .int .i64 0, .int .i64 cpu] w fun e w' => e = .returned (.tuple #[.int .u64 r1, .int .i64 r2]) ∧ Below w.heap.size w w' := by
  have hN' : NextAt w bm 0 (.agg #[.slice (some ad) (kindsOf 0).length cap, .int .i64 (toOf 0), .nilFunc, .func (.func 91) #[] #[]]) true := hN
  unfold nextR at h
  rcases her with rfl | rfl
  · rw [if_pos rfl] at h
    by_cases h0 : 0 ≤ cpu
    · by_cases h1 : cpu < 64
      · rw [if_pos ⟨h0, h1⟩] at h
        have hh : ∀ W, Below w.heap.size w W → Calls Tryd.prog 63 #[.agg #[.slice (some ad) (kindsOf 0).length cap, .int .i64 (toOf 0), .nilFunc, .func (.func 91) #[] #[]], stV k c b s g] W fun e w' => e = .returned (.bool (holdsB 0 k b)) ∧ Below W.heap.size W w' := fun W hW => by
          have := holds_nil ad cap (kindsOf 0) (toOf 0) (.func (.func 91) #[] #[]) k c b s g W (by decide) hcap (fun j q hq => pw_cell_below hW (hc j q hq))
          have e : ((kindsOf 0).any fun y => y == k) = holdsB 0 k b := by unfold holdsB ifB; simp
          rw [e] at this
          exact this
        cases hb : holdsB 0 k b with
        | false =>
          rw [hb] at h hh
          rw [if_neg Bool.false_ne_true] at h
          simp only [Option.some.injEq, Prod.mk.injEq] at h
          obtain ⟨rfl, rfl⟩ := h
          exact next_not_nf x 0 cpu k c s g b w bm (some ad) (kindsOf 0).length cap (toOf 0) 91 hN' hu h0 h1 hh
        | true =>
          rw [hb] at h hh
          rw [if_pos rfl] at h
          by_cases hg : g = 4294967295
          · rw [if_pos ⟨rfl, hg⟩] at h
            simp only [Option.some.injEq, Prod.mk.injEq] at h
            obtain ⟨rfl, rfl⟩ := h
            exact next_full x 0 cpu k c s g b w bm (some ad) (kindsOf 0).length cap (toOf 0) hN' hu h0 h1 hh rfl hg
          · rw [if_neg (fun h => hg h.2)] at h
            exact next_d56 x 0 cpu k c s g b w bm (some ad) (kindsOf 0).length cap (toOf 0) hN' hu h0 h1 hh rfl hg r1 r2 h
      · rw [if_neg (fun h => h1 h.2)] at h
        simp only [Option.some.injEq, Prod.mk.injEq] at h
        obtain ⟨rfl, rfl⟩ := h
        exact next_big_nf x 0 cpu k c s g b w bm (some ad) (kindsOf 0).length cap (toOf 0) 91 hN' hu (by omega)
    · rw [if_neg (fun h => h0 h.1)] at h
      simp only [Option.some.injEq, Prod.mk.injEq] at h
      obtain ⟨rfl, rfl⟩ := h
      exact next_neg_nf x 0 cpu k c s g b w bm (some ad) (kindsOf 0).length cap (toOf 0) 91 hN' hu (by omega)
  · rw [if_neg (by decide)] at h
    simp only [Option.some.injEq, Prod.mk.injEq] at h
    obtain ⟨rfl, rfl⟩ := h
    exact next_er_nf x 0 cpu k c s g b w bm (some ad) (kindsOf 0).length cap (toOf 0) 91 hN' hu
theorem nextAt_1 (x cpu k c s g er : Int) (b : Bool) (w : World) (bm : Nat) (ad : Addr) (cap : Nat) (hN : NextAt w bm 1 (ruleV 1 ad cap) true) (hcap : (kindsOf 1).length ≤ cap) (hc : ∀ j q, (kindsOf 1)[j]? = some q → w.cell? (ad.add j) = some (.int .i64 q))
    (hu : packed_Unpack.f x = some (k, c, b, s, g, er)) (her : er = 0 ∨ er = 1) (r1 r2 : Int) (h : nextR 1 cpu k c b s g er = some (r1, r2)) :
    Calls Tryd.prog 53 #[.int .u64 x, .int .i64 1, .int .i64 cpu] w fun e w' => e = .returned (.tuple #[.int .u64 r1, .int .i64 r2]) ∧ Below w.heap.size w w' := by
  have hN' : NextAt w bm 1 (.agg #[.slice (some ad) (kindsOf 1).length cap, .int .i64 (toOf 1), .nilFunc, .func (.func 92) #[] #[]]) true := hN
  unfold nextR at h
  rcases her with rfl | rfl
  · rw [if_pos rfl] at h
    by_cases h0 : 0 ≤ cpu
    · by_cases h1 : cpu < 64
      · rw [if_pos ⟨h0, h1⟩] at h
        have hh : ∀ W, Below w.heap.size w W → Calls Tryd.prog 63 #[.agg #[.slice (some ad) (kindsOf 1).length cap, .int .i64 (toOf 1), .nilFunc, .func (.func 92) #[] #[]], stV k c b s g] W fun e w' => e = .returned (.bool (holdsB 1 k b)) ∧ Below W.heap.size W w' := fun W hW => by
          have := holds_nil ad cap (kindsOf 1) (toOf 1) (.func (.func 92) #[] #[]) k c b s g W (by decide) hcap (fun j q hq => pw_cell_below hW (hc j q hq))
          have e : ((kindsOf 1).any fun y => y == k) = holdsB 1 k b := by unfold holdsB ifB; simp
          rw [e] at this
          exact this
        cases hb : holdsB 1 k b with
        | false =>
          rw [hb] at h hh
          rw [if_neg Bool.false_ne_true] at h
          simp only [Option.some.injEq, Prod.mk.injEq] at h
          obtain ⟨rfl, rfl⟩ := h
          exact next_not_nf x 1 cpu k c s g b w bm (some ad) (kindsOf 1).length cap (toOf 1) 92 hN' hu h0 h1 hh
        | true =>
          rw [hb] at h hh
          rw [if_pos rfl] at h
          rw [if_neg (fun h => absurd h.1 (by decide))] at h
          exact next_d57 x 1 cpu k c s g b w bm (some ad) (kindsOf 1).length cap (toOf 1) hN' hu h0 h1 hh (by decide) r1 r2 h
      · rw [if_neg (fun h => h1 h.2)] at h
        simp only [Option.some.injEq, Prod.mk.injEq] at h
        obtain ⟨rfl, rfl⟩ := h
        exact next_big_nf x 1 cpu k c s g b w bm (some ad) (kindsOf 1).length cap (toOf 1) 92 hN' hu (by omega)
    · rw [if_neg (fun h => h0 h.1)] at h
      simp only [Option.some.injEq, Prod.mk.injEq] at h
      obtain ⟨rfl, rfl⟩ := h
      exact next_neg_nf x 1 cpu k c s g b w bm (some ad) (kindsOf 1).length cap (toOf 1) 92 hN' hu (by omega)
  · rw [if_neg (by decide)] at h
    simp only [Option.some.injEq, Prod.mk.injEq] at h
    obtain ⟨rfl, rfl⟩ := h
    exact next_er_nf x 1 cpu k c s g b w bm (some ad) (kindsOf 1).length cap (toOf 1) 92 hN' hu
theorem nextAt_2 (x cpu k c s g er : Int) (b : Bool) (w : World) (bm : Nat) (ad : Addr) (cap : Nat) (hN : NextAt w bm 2 (ruleV 2 ad cap) true) (hcap : (kindsOf 2).length ≤ cap) (hc : ∀ j q, (kindsOf 2)[j]? = some q → w.cell? (ad.add j) = some (.int .i64 q))
    (hu : packed_Unpack.f x = some (k, c, b, s, g, er)) (her : er = 0 ∨ er = 1) (r1 r2 : Int) (h : nextR 2 cpu k c b s g er = some (r1, r2)) :
    Calls Tryd.prog 53 #[.int .u64 x, .int .i64 2, .int .i64 cpu] w fun e w' => e = .returned (.tuple #[.int .u64 r1, .int .i64 r2]) ∧ Below w.heap.size w w' := by
  have hN' : NextAt w bm 2 (.agg #[.slice (some ad) (kindsOf 2).length cap, .int .i64 (toOf 2), .nilFunc, .func (.func 93) #[] #[]]) true := hN
  unfold nextR at h
  rcases her with rfl | rfl
  · rw [if_pos rfl] at h
    by_cases h0 : 0 ≤ cpu
    · by_cases h1 : cpu < 64
      · rw [if_pos ⟨h0, h1⟩] at h
        have hh : ∀ W, Below w.heap.size w W → Calls Tryd.prog 63 #[.agg #[.slice (some ad) (kindsOf 2).length cap, .int .i64 (toOf 2), .nilFunc, .func (.func 93) #[] #[]], stV k c b s g] W fun e w' => e = .returned (.bool (holdsB 2 k b)) ∧ Below W.heap.size W w' := fun W hW => by
          have := holds_nil ad cap (kindsOf 2) (toOf 2) (.func (.func 93) #[] #[]) k c b s g W (by decide) hcap (fun j q hq => pw_cell_below hW (hc j q hq))
          have e : ((kindsOf 2).any fun y => y == k) = holdsB 2 k b := by unfold holdsB ifB; simp
          rw [e] at this
          exact this
        cases hb : holdsB 2 k b with
        | false =>
          rw [hb] at h hh
          rw [if_neg Bool.false_ne_true] at h
          simp only [Option.some.injEq, Prod.mk.injEq] at h
          obtain ⟨rfl, rfl⟩ := h
          exact next_not_nf x 2 cpu k c s g b w bm (some ad) (kindsOf 2).length cap (toOf 2) 93 hN' hu h0 h1 hh
        | true =>
          rw [hb] at h hh
          rw [if_pos rfl] at h
          rw [if_neg (fun h => absurd h.1 (by decide))] at h
          exact next_d58 x 2 cpu k c s g b w bm (some ad) (kindsOf 2).length cap (toOf 2) hN' hu h0 h1 hh (by decide) r1 r2 h
      · rw [if_neg (fun h => h1 h.2)] at h
        simp only [Option.some.injEq, Prod.mk.injEq] at h
        obtain ⟨rfl, rfl⟩ := h
        exact next_big_nf x 2 cpu k c s g b w bm (some ad) (kindsOf 2).length cap (toOf 2) 93 hN' hu (by omega)
    · rw [if_neg (fun h => h0 h.1)] at h
      simp only [Option.some.injEq, Prod.mk.injEq] at h
      obtain ⟨rfl, rfl⟩ := h
      exact next_neg_nf x 2 cpu k c s g b w bm (some ad) (kindsOf 2).length cap (toOf 2) 93 hN' hu (by omega)
  · rw [if_neg (by decide)] at h
    simp only [Option.some.injEq, Prod.mk.injEq] at h
    obtain ⟨rfl, rfl⟩ := h
    exact next_er_nf x 2 cpu k c s g b w bm (some ad) (kindsOf 2).length cap (toOf 2) 93 hN' hu
theorem nextAt_3 (x cpu k c s g er : Int) (b : Bool) (w : World) (bm : Nat) (ad : Addr) (cap : Nat) (hN : NextAt w bm 3 (ruleV 3 ad cap) true) (hcap : (kindsOf 3).length ≤ cap) (hc : ∀ j q, (kindsOf 3)[j]? = some q → w.cell? (ad.add j) = some (.int .i64 q))
    (hu : packed_Unpack.f x = some (k, c, b, s, g, er)) (her : er = 0 ∨ er = 1) (r1 r2 : Int) (h : nextR 3 cpu k c b s g er = some (r1, r2)) :
    Calls Tryd.prog 53 #[.int .u64 x, .int .i64 3, .int .i64 cpu] w fun e w' => e = .returned (.tuple #[.int .u64 r1, .int .i64 r2]) ∧ Below w.heap.size w w' := by
  have hN' : NextAt w bm 3 (.agg #[.slice (some ad) (kindsOf 3).length cap, .int .i64 (toOf 3), .nilFunc, .nilFunc]) true := hN
  unfold nextR at h
  rcases her with rfl | rfl
  · rw [if_pos rfl] at h
    by_cases h0 : 0 ≤ cpu
    · by_cases h1 : cpu < 64
      · rw [if_pos ⟨h0, h1⟩] at h
        have hh : ∀ W, Below w.heap.size w W → Calls Tryd.prog 63 #[.agg #[.slice (some ad) (kindsOf 3).length cap, .int .i64 (toOf 3), .nilFunc, .nilFunc], stV k c b s g] W fun e w' => e = .returned (.bool (holdsB 3 k b)) ∧ Below W.heap.size W w' := fun W hW => by
          have := holds_nil ad cap (kindsOf 3) (toOf 3) (.nilFunc) k c b s g W (by decide) hcap (fun j q hq => pw_cell_below hW (hc j q hq))
          have e : ((kindsOf 3).any fun y => y == k) = holdsB 3 k b := by unfold holdsB ifB; simp
          rw [e] at this
          exact this
        cases hb : holdsB 3 k b with
        | false =>
          rw [hb] at h hh
          rw [if_neg Bool.false_ne_true] at h
          simp only [Option.some.injEq, Prod.mk.injEq] at h
          obtain ⟨rfl, rfl⟩ := h
          exact next_not_nn x 3 cpu k c s g b w bm (some ad) (kindsOf 3).length cap (toOf 3) hN' hu h0 h1 hh
        | true =>
          rw [hb] at h hh
          rw [if_pos rfl] at h
          rw [if_neg (fun h => absurd h.1 (by decide))] at h
          exact next_nil x 3 cpu k c s g b w bm (some ad) (kindsOf 3).length cap (toOf 3) hN' hu h0 h1 hh (by decide) r1 r2 h
      · rw [if_neg (fun h => h1 h.2)] at h
        simp only [Option.some.injEq, Prod.mk.injEq] at h
        obtain ⟨rfl, rfl⟩ := h
        exact next_big_nn x 3 cpu k c s g b w bm (some ad) (kindsOf 3).length cap (toOf 3) hN' hu (by omega)
    · rw [if_neg (fun h => h0 h.1)] at h
      simp only [Option.some.injEq, Prod.mk.injEq] at h
      obtain ⟨rfl, rfl⟩ := h
      exact next_neg_nn x 3 cpu k c s g b w bm (some ad) (kindsOf 3).length cap (toOf 3) hN' hu (by omega)
  · rw [if_neg (by decide)] at h
    simp only [Option.some.injEq, Prod.mk.injEq] at h
    obtain ⟨rfl, rfl⟩ := h
    exact next_er_nn x 3 cpu k c s g b w bm (some ad) (kindsOf 3).length cap (toOf 3) hN' hu
theorem nextAt_4 (x cpu k c s g er : Int) (b : Bool) (w : World) (bm : Nat) (ad : Addr) (cap : Nat) (hN : NextAt w bm 4 (ruleV 4 ad cap) true) (hcap : (kindsOf 4).length ≤ cap) (hc : ∀ j q, (kindsOf 4)[j]? = some q → w.cell? (ad.add j) = some (.int .i64 q))
    (hu : packed_Unpack.f x = some (k, c, b, s, g, er)) (her : er = 0 ∨ er = 1) (r1 r2 : Int) (h : nextR 4 cpu k c b s g er = some (r1, r2)) :
    Calls Tryd.prog 53 #[.int .u64 x, .int .i64 4, .int .i64 cpu] w fun e w' => e = .returned (.tuple #[.int .u64 r1, .int .i64 r2]) ∧ Below w.heap.size w w' := by
  have hN' : NextAt w bm 4 (.agg #[.slice (some ad) (kindsOf 4).length cap, .int .i64 (toOf 4), .nilFunc, .nilFunc]) true := hN
  unfold nextR at h
  rcases her with rfl | rfl
  · rw [if_pos rfl] at h
    by_cases h0 : 0 ≤ cpu
    · by_cases h1 : cpu < 64
      · rw [if_pos ⟨h0, h1⟩] at h
        have hh : ∀ W, Below w.heap.size w W → Calls Tryd.prog 63 #[.agg #[.slice (some ad) (kindsOf 4).length cap, .int .i64 (toOf 4), .nilFunc, .nilFunc], stV k c b s g] W fun e w' => e = .returned (.bool (holdsB 4 k b)) ∧ Below W.heap.size W w' := fun W hW => by
          have := holds_nil ad cap (kindsOf 4) (toOf 4) (.nilFunc) k c b s g W (by decide) hcap (fun j q hq => pw_cell_below hW (hc j q hq))
          have e : ((kindsOf 4).any fun y => y == k) = holdsB 4 k b := by unfold holdsB ifB; simp
          rw [e] at this
          exact this
        cases hb : holdsB 4 k b with
        | false =>
          rw [hb] at h hh
          rw [if_neg Bool.false_ne_true] at h
          simp only [Option.some.injEq, Prod.mk.injEq] at h
          obtain ⟨rfl, rfl⟩ := h
          exact next_not_nn x 4 cpu k c s g b w bm (some ad) (kindsOf 4).length cap (toOf 4) hN' hu h0 h1 hh
        | true =>
          rw [hb] at h hh
          rw [if_pos rfl] at h
          rw [if_neg (fun h => absurd h.1 (by decide))] at h
          exact next_nil x 4 cpu k c s g b w bm (some ad) (kindsOf 4).length cap (toOf 4) hN' hu h0 h1 hh (by decide) r1 r2 h
      · rw [if_neg (fun h => h1 h.2)] at h
        simp only [Option.some.injEq, Prod.mk.injEq] at h
        obtain ⟨rfl, rfl⟩ := h
        exact next_big_nn x 4 cpu k c s g b w bm (some ad) (kindsOf 4).length cap (toOf 4) hN' hu (by omega)
    · rw [if_neg (fun h => h0 h.1)] at h
      simp only [Option.some.injEq, Prod.mk.injEq] at h
      obtain ⟨rfl, rfl⟩ := h
      exact next_neg_nn x 4 cpu k c s g b w bm (some ad) (kindsOf 4).length cap (toOf 4) hN' hu (by omega)
  · rw [if_neg (by decide)] at h
    simp only [Option.some.injEq, Prod.mk.injEq] at h
    obtain ⟨rfl, rfl⟩ := h
    exact next_er_nn x 4 cpu k c s g b w bm (some ad) (kindsOf 4).length cap (toOf 4) hN' hu
theorem nextAt_5 (x cpu k c s g er : Int) (b : Bool) (w : World) (bm : Nat) (ad : Addr) (cap : Nat) (hN : NextAt w bm 5 (ruleV 5 ad cap) true) (hcap : (kindsOf 5).length ≤ cap) (hc : ∀ j q, (kindsOf 5)[j]? = some q → w.cell? (ad.add j) = some (.int .i64 q))
    (hu : packed_Unpack.f x = some (k, c, b, s, g, er)) (her : er = 0 ∨ er = 1) (r1 r2 : Int) (h : nextR 5 cpu k c b s g er = some (r1, r2)) :
    Calls Tryd.prog 53 #[.int .u64 x, .int .i64 5, .int .i64 cpu] w fun e w' => e = .returned (.tuple #[.int .u64 r1, .int .i64 r2]) ∧ Below w.heap.size w w' := by
  have hN' : NextAt w bm 5 (.agg #[.slice (some ad) (kindsOf 5).length cap, .int .i64 (toOf 5), .nilFunc, .nilFunc]) true := hN
  unfold nextR at h
  rcases her with rfl | rfl
  · rw [if_pos rfl] at h
    by_cases h0 : 0 ≤ cpu
    · by_cases h1 : cpu < 64
      · rw [if_pos ⟨h0, h1⟩] at h
        have hh : ∀ W, Below w.heap.size w W → Calls Tryd.prog 63 #[.agg #[.slice (some ad) (kindsOf 5).length cap, .int .i64 (toOf 5), .nilFunc, .nilFunc], stV k c b s g] W fun e w' => e = .returned (.bool (holdsB 5 k b)) ∧ Below W.heap.size W w' := fun W hW => by
          have := holds_nil ad cap (kindsOf 5) (toOf 5) (.nilFunc) k c b s g W (by decide) hcap (fun j q hq => pw_cell_below hW (hc j q hq))
          have e : ((kindsOf 5).any fun y => y == k) = holdsB 5 k b := by unfold holdsB ifB; simp
          rw [e] at this
          exact this
        cases hb : holdsB 5 k b with
        | false =>
          rw [hb] at h hh
          rw [if_neg Bool.false_ne_true] at h
          simp only [Option.some.injEq, Prod.mk.injEq] at h
          obtain ⟨rfl, rfl⟩ := h
          exact next_not_nn x 5 cpu k c s g b w bm (some ad) (kindsOf 5).length cap (toOf 5) hN' hu h0 h1 hh
        | true =>
          rw [hb] at h hh
          rw [if_pos rfl] at h
          rw [if_neg (fun h => absurd h.1 (by decide))] at h
          exact next_nil x 5 cpu k c s g b w bm (some ad) (kindsOf 5).length cap (toOf 5) hN' hu h0 h1 hh (by decide) r1 r2 h
      · rw [if_neg (fun h => h1 h.2)] at h
        simp only [Option.some.injEq, Prod.mk.injEq] at h
        obtain ⟨rfl, rfl⟩ := h
        exact next_big_nn x 5 cpu k c s g b w bm (some ad) (kindsOf 5).length cap (toOf 5) hN' hu (by omega)
    · rw [if_neg (fun h => h0 h.1)] at h
      simp only [Option.some.injEq, Prod.mk.injEq] at h
      obtain ⟨rfl, rfl⟩ := h
      exact next_neg_nn x 5 cpu k c s g b w bm (some ad) (kindsOf 5).length cap (toOf 5) hN' hu (by omega)
  · rw [if_neg (by decide)] at h
    simp only [Option.some.injEq, Prod.mk.injEq] at h
    obtain ⟨rfl, rfl⟩ := h
    exact next_er_nn x 5 cpu k c s g b w bm (some ad) (kindsOf 5).length cap (toOf 5) hN' hu
theorem nextAt_6 (x cpu k c s g er : Int) (b : Bool) (w : World) (bm : Nat) (ad : Addr) (cap : Nat) (hN : NextAt w bm 6 (ruleV 6 ad cap) true) (hcap : (kindsOf 6).length ≤ cap) (hc : ∀ j q, (kindsOf 6)[j]? = some q → w.cell? (ad.add j) = some (.int .i64 q))
    (hu : packed_Unpack.f x = some (k, c, b, s, g, er)) (her : er = 0 ∨ er = 1) (r1 r2 : Int) (h : nextR 6 cpu k c b s g er = some (r1, r2)) :
    Calls Tryd.prog 53 #[.int .u64 x, .int .i64 6, .int .i64 cpu] w fun e w' => e = .returned (.tuple #[.int .u64 r1, .int .i64 r2]) ∧ Below w.heap.size w w' := by
  have hN' : NextAt w bm 6 (.agg #[.slice (some ad) (kindsOf 6).length cap, .int .i64 (toOf 6), .nilFunc, .nilFunc]) true := hN
  unfold nextR at h
  rcases her with rfl | rfl
  · rw [if_pos rfl] at h
    by_cases h0 : 0 ≤ cpu
    · by_cases h1 : cpu < 64
      · rw [if_pos ⟨h0, h1⟩] at h
        have hh : ∀ W, Below w.heap.size w W → Calls Tryd.prog 63 #[.agg #[.slice (some ad) (kindsOf 6).length cap, .int .i64 (toOf 6), .nilFunc, .nilFunc], stV k c b s g] W fun e w' => e = .returned (.bool (holdsB 6 k b)) ∧ Below W.heap.size W w' := fun W hW => by
          have := holds_nil ad cap (kindsOf 6) (toOf 6) (.nilFunc) k c b s g W (by decide) hcap (fun j q hq => pw_cell_below hW (hc j q hq))
          have e : ((kindsOf 6).any fun y => y == k) = holdsB 6 k b := by unfold holdsB ifB; simp
          rw [e] at this
          exact this
        cases hb : holdsB 6 k b with
        | false =>
          rw [hb] at h hh
          rw [if_neg Bool.false_ne_true] at h
          simp only [Option.some.injEq, Prod.mk.injEq] at h
          obtain ⟨rfl, rfl⟩ := h
          exact next_not_nn x 6 cpu k c s g b w bm (some ad) (kindsOf 6).length cap (toOf 6) hN' hu h0 h1 hh
        | true =>
          rw [hb] at h hh
          rw [if_pos rfl] at h
          rw [if_neg (fun h => absurd h.1 (by decide))] at h
          exact next_nil x 6 cpu k c s g b w bm (some ad) (kindsOf 6).length cap (toOf 6) hN' hu h0 h1 hh (by decide) r1 r2 h
      · rw [if_neg (fun h => h1 h.2)] at h
        simp only [Option.some.injEq, Prod.mk.injEq] at h
        obtain ⟨rfl, rfl⟩ := h
        exact next_big_nn x 6 cpu k c s g b w bm (some ad) (kindsOf 6).length cap (toOf 6) hN' hu (by omega)
    · rw [if_neg (fun h => h0 h.1)] at h
      simp only [Option.some.injEq, Prod.mk.injEq] at h
      obtain ⟨rfl, rfl⟩ := h
      exact next_neg_nn x 6 cpu k c s g b w bm (some ad) (kindsOf 6).length cap (toOf 6) hN' hu (by omega)
  · rw [if_neg (by decide)] at h
    simp only [Option.some.injEq, Prod.mk.injEq] at h
    obtain ⟨rfl, rfl⟩ := h
    exact next_er_nn x 6 cpu k c s g b w bm (some ad) (kindsOf 6).length cap (toOf 6) hN' hu
theorem nextAt_7 (x cpu k c s g er : Int) (b : Bool) (w : World) (bm : Nat) (ad : Addr) (cap : Nat) (hN : NextAt w bm 7 (ruleV 7 ad cap) true) (hcap : (kindsOf 7).length ≤ cap) (hc : ∀ j q, (kindsOf 7)[j]? = some q → w.cell? (ad.add j) = some (.int .i64 q))
    (hu : packed_Unpack.f x = some (k, c, b, s, g, er)) (her : er = 0 ∨ er = 1) (r1 r2 : Int) (h : nextR 7 cpu k c b s g er = some (r1, r2)) :
    Calls Tryd.prog 53 #[.int .u64 x, .int .i64 7, .int .i64 cpu] w fun e w' => e = .returned (.tuple #[.int .u64 r1, .int .i64 r2]) ∧ Below w.heap.size w w' := by
  have hN' : NextAt w bm 7 (.agg #[.slice (some ad) (kindsOf 7).length cap, .int .i64 (toOf 7), .nilFunc, .nilFunc]) true := hN
  unfold nextR at h
  rcases her with rfl | rfl
  · rw [if_pos rfl] at h
    by_cases h0 : 0 ≤ cpu
    · by_cases h1 : cpu < 64
      · rw [if_pos ⟨h0, h1⟩] at h
        have hh : ∀ W, Below w.heap.size w W → Calls Tryd.prog 63 #[.agg #[.slice (some ad) (kindsOf 7).length cap, .int .i64 (toOf 7), .nilFunc, .nilFunc], stV k c b s g] W fun e w' => e = .returned (.bool (holdsB 7 k b)) ∧ Below W.heap.size W w' := fun W hW => by
          have := holds_nil ad cap (kindsOf 7) (toOf 7) (.nilFunc) k c b s g W (by decide) hcap (fun j q hq => pw_cell_below hW (hc j q hq))
          have e : ((kindsOf 7).any fun y => y == k) = holdsB 7 k b := by unfold holdsB ifB; simp
          rw [e] at this
          exact this
        cases hb : holdsB 7 k b with
        | false =>
          rw [hb] at h hh
          rw [if_neg Bool.false_ne_true] at h
          simp only [Option.some.injEq, Prod.mk.injEq] at h
          obtain ⟨rfl, rfl⟩ := h
          exact next_not_nn x 7 cpu k c s g b w bm (some ad) (kindsOf 7).length cap (toOf 7) hN' hu h0 h1 hh
        | true =>
          rw [hb] at h hh
          rw [if_pos rfl] at h
          rw [if_neg (fun h => absurd h.1 (by decide))] at h
          exact next_nil x 7 cpu k c s g b w bm (some ad) (kindsOf 7).length cap (toOf 7) hN' hu h0 h1 hh (by decide) r1 r2 h
      · rw [if_neg (fun h => h1 h.2)] at h
        simp only [Option.some.injEq, Prod.mk.injEq] at h
        obtain ⟨rfl, rfl⟩ := h
        exact next_big_nn x 7 cpu k c s g b w bm (some ad) (kindsOf 7).length cap (toOf 7) hN' hu (by omega)
    · rw [if_neg (fun h => h0 h.1)] at h
      simp only [Option.some.injEq, Prod.mk.injEq] at h
      obtain ⟨rfl, rfl⟩ := h
      exact next_neg_nn x 7 cpu k c s g b w bm (some ad) (kindsOf 7).length cap (toOf 7) hN' hu (by omega)
  · rw [if_neg (by decide)] at h
    simp only [Option.some.injEq, Prod.mk.injEq] at h
    obtain ⟨rfl, rfl⟩ := h
    exact next_er_nn x 7 cpu k c s g b w bm (some ad) (kindsOf 7).length cap (toOf 7) hN' hu
theorem nextAt_8 (x cpu k c s g er : Int) (b : Bool) (w : World) (bm : Nat) (ad : Addr) (cap : Nat) (hN : NextAt w bm 8 (ruleV 8 ad cap) true) (hcap : (kindsOf 8).length ≤ cap) (hc : ∀ j q, (kindsOf 8)[j]? = some q → w.cell? (ad.add j) = some (.int .i64 q))
    (hu : packed_Unpack.f x = some (k, c, b, s, g, er)) (her : er = 0 ∨ er = 1) (r1 r2 : Int) (h : nextR 8 cpu k c b s g er = some (r1, r2)) :
    Calls Tryd.prog 53 #[.int .u64 x, .int .i64 8, .int .i64 cpu] w fun e w' => e = .returned (.tuple #[.int .u64 r1, .int .i64 r2]) ∧ Below w.heap.size w w' := by
  have hN' : NextAt w bm 8 (.agg #[.slice (some ad) (kindsOf 8).length cap, .int .i64 (toOf 8), .func (.func 94) #[] #[], .func (.func 95) #[] #[]]) true := hN
  unfold nextR at h
  rcases her with rfl | rfl
  · rw [if_pos rfl] at h
    by_cases h0 : 0 ≤ cpu
    · by_cases h1 : cpu < 64
      · rw [if_pos ⟨h0, h1⟩] at h
        have hh : ∀ W, Below w.heap.size w W → Calls Tryd.prog 63 #[.agg #[.slice (some ad) (kindsOf 8).length cap, .int .i64 (toOf 8), .func (.func 94) #[] #[], .func (.func 95) #[] #[]], stV k c b s g] W fun e w' => e = .returned (.bool (holdsB 8 k b)) ∧ Below W.heap.size W w' := fun W hW => by
          have := holds_plain ad cap (kindsOf 8) (toOf 8) (.func (.func 95) #[] #[]) k c b s g W (by decide) hcap (fun j q hq => pw_cell_below hW (hc j q hq))
          have e : (((kindsOf 8).any fun y => y == k) && !b) = holdsB 8 k b := by unfold holdsB ifB; simp
          rw [e] at this
          exact this
        cases hb : holdsB 8 k b with
        | false =>
          rw [hb] at h hh
          rw [if_neg Bool.false_ne_true] at h
          simp only [Option.some.injEq, Prod.mk.injEq] at h
          obtain ⟨rfl, rfl⟩ := h
          exact next_not_ff x 8 cpu k c s g b w bm (some ad) (kindsOf 8).length cap (toOf 8) 95 94 hN' hu h0 h1 hh
        | true =>
          rw [hb] at h hh
          rw [if_pos rfl] at h
          rw [if_neg (fun h => absurd h.1 (by decide))] at h
          exact next_d60 x 8 cpu k c s g b w bm (some ad) (kindsOf 8).length cap (toOf 8) 94 hN' hu h0 h1 hh (by decide) r1 r2 h
      · rw [if_neg (fun h => h1 h.2)] at h
        simp only [Option.some.injEq, Prod.mk.injEq] at h
        obtain ⟨rfl, rfl⟩ := h
        exact next_big_ff x 8 cpu k c s g b w bm (some ad) (kindsOf 8).length cap (toOf 8) 95 94 hN' hu (by omega)
    · rw [if_neg (fun h => h0 h.1)] at h
      simp only [Option.some.injEq, Prod.mk.injEq] at h
      obtain ⟨rfl, rfl⟩ := h
      exact next_neg_ff x 8 cpu k c s g b w bm (some ad) (kindsOf 8).length cap (toOf 8) 95 94 hN' hu (by omega)
  · rw [if_neg (by decide)] at h
    simp only [Option.some.injEq, Prod.mk.injEq] at h
    obtain ⟨rfl, rfl⟩ := h
    exact next_er_ff x 8 cpu k c s g b w bm (some ad) (kindsOf 8).length cap (toOf 8) 95 94 hN' hu
theorem nextAt_9 (x cpu k c s g er : Int) (b : Bool) (w : World) (bm : Nat) (ad : Addr) (cap : Nat) (hN : NextAt w bm 9 (ruleV 9 ad cap) true) (hcap : (kindsOf 9).length ≤ cap) (hc : ∀ j q, (kindsOf 9)[j]? = some q → w.cell? (ad.add j) = some (.int .i64 q))
    (hu : packed_Unpack.f x = some (k, c, b, s, g, er)) (her : er = 0 ∨ er = 1) (r1 r2 : Int) (h : nextR 9 cpu k c b s g er = some (r1, r2)) :
    Calls Tryd.prog 53 #[.int .u64 x, .int .i64 9, .int .i64 cpu] w fun e w' => e = .returned (.tuple #[.int .u64 r1, .int .i64 r2]) ∧ Below w.heap.size w w' := by
  have hN' : NextAt w bm 9 (.agg #[.slice (some ad) (kindsOf 9).length cap, .int .i64 (toOf 9), .func (.func 94) #[] #[], .nilFunc]) true := hN
  unfold nextR at h
  rcases her with rfl | rfl
  · rw [if_pos rfl] at h
    by_cases h0 : 0 ≤ cpu
    · by_cases h1 : cpu < 64
      · rw [if_pos ⟨h0, h1⟩] at h
        have hh : ∀ W, Below w.heap.size w W → Calls Tryd.prog 63 #[.agg #[.slice (some ad) (kindsOf 9).length cap, .int .i64 (toOf 9), .func (.func 94) #[] #[], .nilFunc], stV k c b s g] W fun e w' => e = .returned (.bool (holdsB 9 k b)) ∧ Below W.heap.size W w' := fun W hW => by
          have := holds_plain ad cap (kindsOf 9) (toOf 9) (.nilFunc) k c b s g W (by decide) hcap (fun j q hq => pw_cell_below hW (hc j q hq))
          have e : (((kindsOf 9).any fun y => y == k) && !b) = holdsB 9 k b := by unfold holdsB ifB; simp
          rw [e] at this
          exact this
        cases hb : holdsB 9 k b with
        | false =>
          rw [hb] at h hh
          rw [if_neg Bool.false_ne_true] at h
          simp only [Option.some.injEq, Prod.mk.injEq] at h
          obtain ⟨rfl, rfl⟩ := h
          exact next_not_fn x 9 cpu k c s g b w bm (some ad) (kindsOf 9).length cap (toOf 9) 94 hN' hu h0 h1 hh
        | true =>
          rw [hb] at h hh
          rw [if_pos rfl] at h
          rw [if_neg (fun h => absurd h.1 (by decide))] at h
          exact next_fnil x 9 cpu k c s g b w bm (some ad) (kindsOf 9).length cap (toOf 9) 94 hN' hu h0 h1 hh (by decide) r1 r2 h
      · rw [if_neg (fun h => h1 h.2)] at h
        simp only [Option.some.injEq, Prod.mk.injEq] at h
        obtain ⟨rfl, rfl⟩ := h
        exact next_big_fn x 9 cpu k c s g b w bm (some ad) (kindsOf 9).length cap (toOf 9) 94 hN' hu (by omega)
    · rw [if_neg (fun h => h0 h.1)] at h
      simp only [Option.some.injEq, Prod.mk.injEq] at h
      obtain ⟨rfl, rfl⟩ := h
      exact next_neg_fn x 9 cpu k c s g b w bm (some ad) (kindsOf 9).length cap (toOf 9) 94 hN' hu (by omega)
  · rw [if_neg (by decide)] at h
    simp only [Option.some.injEq, Prod.mk.injEq] at h
    obtain ⟨rfl, rfl⟩ := h
    exact next_er_fn x 9 cpu k c s g b w bm (some ad) (kindsOf 9).length cap (toOf 9) 94 hN' hu
theorem nextAt_10 (x cpu k c s g er : Int) (b : Bool) (w : World) (bm : Nat) (ad : Addr) (cap : Nat) (hN : NextAt w bm 10 (ruleV 10 ad cap) true) (hcap : (kindsOf 10).length ≤ cap) (hc : ∀ j q, (kindsOf 10)[j]? = some q → w.cell? (ad.add j) = some (.int .i64 q))
    (hu : packed_Unpack.f x = some (k, c, b, s, g, er)) (her : er = 0 ∨ er = 1) (r1 r2 : Int) (h : nextR 10 cpu k c b s g er = some (r1, r2)) :
    Calls Tryd.prog 53 #[.int .u64 x, .int .i64 10, .int .i64 cpu] w fun e w' => e = .returned (.tuple #[.int .u64 r1, .int .i64 r2]) ∧ Below w.heap.size w w' := by
  have hN' : NextAt w bm 10 (.agg #[.slice (some ad) (kindsOf 10).length cap, .int .i64 (toOf 10), .func (.func 96) #[] #[], .nilFunc]) true := hN
  unfold nextR at h
  rcases her with rfl | rfl
  · rw [if_pos rfl] at h
    by_cases h0 : 0 ≤ cpu
    · by_cases h1 : cpu < 64
      · rw [if_pos ⟨h0, h1⟩] at h
        have hh : ∀ W, Below w.heap.size w W → Calls Tryd.prog 63 #[.agg #[.slice (some ad) (kindsOf 10).length cap, .int .i64 (toOf 10), .func (.func 96) #[] #[], .nilFunc], stV k c b s g] W fun e w' => e = .returned (.bool (holdsB 10 k b)) ∧ Below W.heap.size W w' := fun W hW => by
          have := holds_noted ad cap (kindsOf 10) (toOf 10) (.nilFunc) k c b s g W (by decide) hcap (fun j q hq => pw_cell_below hW (hc j q hq))
          have e : (((kindsOf 10).any fun y => y == k) && b) = holdsB 10 k b := by unfold holdsB ifB; simp
          rw [e] at this
          exact this
        cases hb : holdsB 10 k b with
        | false =>
          rw [hb] at h hh
          rw [if_neg Bool.false_ne_true] at h
          simp only [Option.some.injEq, Prod.mk.injEq] at h
          obtain ⟨rfl, rfl⟩ := h
          exact next_not_fn x 10 cpu k c s g b w bm (some ad) (kindsOf 10).length cap (toOf 10) 96 hN' hu h0 h1 hh
        | true =>
          rw [hb] at h hh
          rw [if_pos rfl] at h
          rw [if_neg (fun h => absurd h.1 (by decide))] at h
          exact next_fnil x 10 cpu k c s g b w bm (some ad) (kindsOf 10).length cap (toOf 10) 96 hN' hu h0 h1 hh (by decide) r1 r2 h
      · rw [if_neg (fun h => h1 h.2)] at h
        simp only [Option.some.injEq, Prod.mk.injEq] at h
        obtain ⟨rfl, rfl⟩ := h
        exact next_big_fn x 10 cpu k c s g b w bm (some ad) (kindsOf 10).length cap (toOf 10) 96 hN' hu (by omega)
    · rw [if_neg (fun h => h0 h.1)] at h
      simp only [Option.some.injEq, Prod.mk.injEq] at h
      obtain ⟨rfl, rfl⟩ := h
      exact next_neg_fn x 10 cpu k c s g b w bm (some ad) (kindsOf 10).length cap (toOf 10) 96 hN' hu (by omega)
  · rw [if_neg (by decide)] at h
    simp only [Option.some.injEq, Prod.mk.injEq] at h
    obtain ⟨rfl, rfl⟩ := h
    exact next_er_fn x 10 cpu k c s g b w bm (some ad) (kindsOf 10).length cap (toOf 10) 96 hN' hu
theorem nextAt_11 (x cpu k c s g er : Int) (b : Bool) (w : World) (bm : Nat) (ad : Addr) (cap : Nat) (hN : NextAt w bm 11 (ruleV 11 ad cap) true) (hcap : (kindsOf 11).length ≤ cap) (hc : ∀ j q, (kindsOf 11)[j]? = some q → w.cell? (ad.add j) = some (.int .i64 q))
    (hu : packed_Unpack.f x = some (k, c, b, s, g, er)) (her : er = 0 ∨ er = 1) (r1 r2 : Int) (h : nextR 11 cpu k c b s g er = some (r1, r2)) :
    Calls Tryd.prog 53 #[.int .u64 x, .int .i64 11, .int .i64 cpu] w fun e w' => e = .returned (.tuple #[.int .u64 r1, .int .i64 r2]) ∧ Below w.heap.size w w' := by
  have hN' : NextAt w bm 11 (.agg #[.slice (some ad) (kindsOf 11).length cap, .int .i64 (toOf 11), .nilFunc, .func (.func 97) #[] #[]]) true := hN
  unfold nextR at h
  rcases her with rfl | rfl
  · rw [if_pos rfl] at h
    by_cases h0 : 0 ≤ cpu
    · by_cases h1 : cpu < 64
      · rw [if_pos ⟨h0, h1⟩] at h
        have hh : ∀ W, Below w.heap.size w W → Calls Tryd.prog 63 #[.agg #[.slice (some ad) (kindsOf 11).length cap, .int .i64 (toOf 11), .nilFunc, .func (.func 97) #[] #[]], stV k c b s g] W fun e w' => e = .returned (.bool (holdsB 11 k b)) ∧ Below W.heap.size W w' := fun W hW => by
          have := holds_nil ad cap (kindsOf 11) (toOf 11) (.func (.func 97) #[] #[]) k c b s g W (by decide) hcap (fun j q hq => pw_cell_below hW (hc j q hq))
          have e : ((kindsOf 11).any fun y => y == k) = holdsB 11 k b := by unfold holdsB ifB; simp
          rw [e] at this
          exact this
        cases hb : holdsB 11 k b with
        | false =>
          rw [hb] at h hh
          rw [if_neg Bool.false_ne_true] at h
          simp only [Option.some.injEq, Prod.mk.injEq] at h
          obtain ⟨rfl, rfl⟩ := h
          exact next_not_nf x 11 cpu k c s g b w bm (some ad) (kindsOf 11).length cap (toOf 11) 97 hN' hu h0 h1 hh
        | true =>
          rw [hb] at h hh
          rw [if_pos rfl] at h
          rw [if_neg (fun h => absurd h.1 (by decide))] at h
          exact next_d62 x 11 cpu k c s g b w bm (some ad) (kindsOf 11).length cap (toOf 11) hN' hu h0 h1 hh (by decide) r1 r2 h
      · rw [if_neg (fun h => h1 h.2)] at h
        simp only [Option.some.injEq, Prod.mk.injEq] at h
        obtain ⟨rfl, rfl⟩ := h
        exact next_big_nf x 11 cpu k c s g b w bm (some ad) (kindsOf 11).length cap (toOf 11) 97 hN' hu (by omega)
    · rw [if_neg (fun h => h0 h.1)] at h
      simp only [Option.some.injEq, Prod.mk.injEq] at h
      obtain ⟨rfl, rfl⟩ := h
      exact next_neg_nf x 11 cpu k c s g b w bm (some ad) (kindsOf 11).length cap (toOf 11) 97 hN' hu (by omega)
  · rw [if_neg (by decide)] at h
    simp only [Option.some.injEq, Prod.mk.injEq] at h
    obtain ⟨rfl, rfl⟩ := h
    exact next_er_nf x 11 cpu k c s g b w bm (some ad) (kindsOf 11).length cap (toOf 11) 97 hN' hu
theorem nextAt_12 (x cpu k c s g er : Int) (b : Bool) (w : World) (bm : Nat) (ad : Addr) (cap : Nat) (hN : NextAt w bm 12 (ruleV 12 ad cap) true) (hcap : (kindsOf 12).length ≤ cap) (hc : ∀ j q, (kindsOf 12)[j]? = some q → w.cell? (ad.add j) = some (.int .i64 q))
    (hu : packed_Unpack.f x = some (k, c, b, s, g, er)) (her : er = 0 ∨ er = 1) (r1 r2 : Int) (h : nextR 12 cpu k c b s g er = some (r1, r2)) :
    Calls Tryd.prog 53 #[.int .u64 x, .int .i64 12, .int .i64 cpu] w fun e w' => e = .returned (.tuple #[.int .u64 r1, .int .i64 r2]) ∧ Below w.heap.size w w' := by
  have hN' : NextAt w bm 12 (.agg #[.slice (some ad) (kindsOf 12).length cap, .int .i64 (toOf 12), .nilFunc, .func (.func 97) #[] #[]]) true := hN
  unfold nextR at h
  rcases her with rfl | rfl
  · rw [if_pos rfl] at h
    by_cases h0 : 0 ≤ cpu
    · by_cases h1 : cpu < 64
      · rw [if_pos ⟨h0, h1⟩] at h
        have hh : ∀ W, Below w.heap.size w W → Calls Tryd.prog 63 #[.agg #[.slice (some ad) (kindsOf 12).length cap, .int .i64 (toOf 12), .nilFunc, .func (.func 97) #[] #[]], stV k c b s g] W fun e w' => e = .returned (.bool (holdsB 12 k b)) ∧ Below W.heap.size W w' := fun W hW => by
          have := holds_nil ad cap (kindsOf 12) (toOf 12) (.func (.func 97) #[] #[]) k c b s g W (by decide) hcap (fun j q hq => pw_cell_below hW (hc j q hq))
          have e : ((kindsOf 12).any fun y => y == k) = holdsB 12 k b := by unfold holdsB ifB; simp
          rw [e] at this
          exact this
        cases hb : holdsB 12 k b with
        | false =>
          rw [hb] at h hh
          rw [if_neg Bool.false_ne_true] at h
          simp only [Option.some.injEq, Prod.mk.injEq] at h
          obtain ⟨rfl, rfl⟩ := h
          exact next_not_nf x 12 cpu k c s g b w bm (some ad) (kindsOf 12).length cap (toOf 12) 97 hN' hu h0 h1 hh
        | true =>
          rw [hb] at h hh
          rw [if_pos rfl] at h
          rw [if_neg (fun h => absurd h.1 (by decide))] at h
          exact next_d62 x 12 cpu k c s g b w bm (some ad) (kindsOf 12).length cap (toOf 12) hN' hu h0 h1 hh (by decide) r1 r2 h
      · rw [if_neg (fun h => h1 h.2)] at h
        simp only [Option.some.injEq, Prod.mk.injEq] at h
        obtain ⟨rfl, rfl⟩ := h
        exact next_big_nf x 12 cpu k c s g b w bm (some ad) (kindsOf 12).length cap (toOf 12) 97 hN' hu (by omega)
    · rw [if_neg (fun h => h0 h.1)] at h
      simp only [Option.some.injEq, Prod.mk.injEq] at h
      obtain ⟨rfl, rfl⟩ := h
      exact next_neg_nf x 12 cpu k c s g b w bm (some ad) (kindsOf 12).length cap (toOf 12) 97 hN' hu (by omega)
  · rw [if_neg (by decide)] at h
    simp only [Option.some.injEq, Prod.mk.injEq] at h
    obtain ⟨rfl, rfl⟩ := h
    exact next_er_nf x 12 cpu k c s g b w bm (some ad) (kindsOf 12).length cap (toOf 12) 97 hN' hu
theorem nextAt_13 (x cpu k c s g er : Int) (b : Bool) (w : World) (bm : Nat) (ad : Addr) (cap : Nat) (hN : NextAt w bm 13 (ruleV 13 ad cap) true) (hcap : (kindsOf 13).length ≤ cap) (hc : ∀ j q, (kindsOf 13)[j]? = some q → w.cell? (ad.add j) = some (.int .i64 q))
    (hu : packed_Unpack.f x = some (k, c, b, s, g, er)) (her : er = 0 ∨ er = 1) (r1 r2 : Int) (h : nextR 13 cpu k c b s g er = some (r1, r2)) :
    Calls Tryd.prog 53 #[.int .u64 x, .int .i64 13, .int .i64 cpu] w fun e w' => e = .returned (.tuple #[.int .u64 r1, .int .i64 r2]) ∧ Below w.heap.size w w' := by
  have hN' : NextAt w bm 13 (.agg #[.slice (some ad) (kindsOf 13).length cap, .int .i64 (toOf 13), .nilFunc, .func (.func 97) #[] #[]]) true := hN
  unfold nextR at h
  rcases her with rfl | rfl
  · rw [if_pos rfl] at h
    by_cases h0 : 0 ≤ cpu
    · by_cases h1 : cpu < 64
      · rw [if_pos ⟨h0, h1⟩] at h
        have hh : ∀ W, Below w.heap.size w W → Calls Tryd.prog 63 #[.agg #[.slice (some ad) (kindsOf 13).length cap, .int .i64 (toOf 13), .nilFunc, .func (.func 97) #[] #[]], stV k c b s g] W fun e w' => e = .returned (.bool (holdsB 13 k b)) ∧ Below W.heap.size W w' := fun W hW => by
          have := holds_nil ad cap (kindsOf 13) (toOf 13) (.func (.func 97) #[] #[]) k c b s g W (by decide) hcap (fun j q hq => pw_cell_below hW (hc j q hq))
          have e : ((kindsOf 13).any fun y => y == k) = holdsB 13 k b := by unfold holdsB ifB; simp
          rw [e] at this
          exact this
        cases hb : holdsB 13 k b with
        | false =>
          rw [hb] at h hh
          rw [if_neg Bool.false_ne_true] at h
          simp only [Option.some.injEq, Prod.mk.injEq] at h
          obtain ⟨rfl, rfl⟩ := h
          exact next_not_nf x 13 cpu k c s g b w bm (some ad) (kindsOf 13).length cap (toOf 13) 97 hN' hu h0 h1 hh
        | true =>
          rw [hb] at h hh
          rw [if_pos rfl] at h
          rw [if_neg (fun h => absurd h.1 (by decide))] at h
          exact next_d62 x 13 cpu k c s g b w bm (some ad) (kindsOf 13).length cap (toOf 13) hN' hu h0 h1 hh (by decide) r1 r2 h
      · rw [if_neg (fun h => h1 h.2)] at h
        simp only [Option.some.injEq, Prod.mk.injEq] at h
        obtain ⟨rfl, rfl⟩ := h
        exact next_big_nf x 13 cpu k c s g b w bm (some ad) (kindsOf 13).length cap (toOf 13) 97 hN' hu (by omega)
    · rw [if_neg (fun h => h0 h.1)] at h
      simp only [Option.some.injEq, Prod.mk.injEq] at h
      obtain ⟨rfl, rfl⟩ := h
      exact next_neg_nf x 13 cpu k c s g b w bm (some ad) (kindsOf 13).length cap (toOf 13) 97 hN' hu (by omega)
  · rw [if_neg (by decide)] at h
    simp only [Option.some.injEq, Prod.mk.injEq] at h
    obtain ⟨rfl, rfl⟩ := h
    exact next_er_nf x 13 cpu k c s g b w bm (some ad) (kindsOf 13).length cap (toOf 13) 97 hN' hu
theorem nextAt_14 (x cpu k c s g er : Int) (b : Bool) (w : World) (bm : Nat) (ad : Addr) (cap : Nat) (hN : NextAt w bm 14 (ruleV 14 ad cap) true) (hcap : (kindsOf 14).length ≤ cap) (hc : ∀ j q, (kindsOf 14)[j]? = some q → w.cell? (ad.add j) = some (.int .i64 q))
    (hu : packed_Unpack.f x = some (k, c, b, s, g, er)) (her : er = 0 ∨ er = 1) (r1 r2 : Int) (h : nextR 14 cpu k c b s g er = some (r1, r2)) :
    Calls Tryd.prog 53 #[.int .u64 x, .int .i64 14, .int .i64 cpu] w fun e w' => e = .returned (.tuple #[.int .u64 r1, .int .i64 r2]) ∧ Below w.heap.size w w' := by
  have hN' : NextAt w bm 14 (.agg #[.slice (some ad) (kindsOf 14).length cap, .int .i64 (toOf 14), .nilFunc, .nilFunc]) true := hN
  unfold nextR at h
  rcases her with rfl | rfl
  · rw [if_pos rfl] at h
    by_cases h0 : 0 ≤ cpu
    · by_cases h1 : cpu < 64
      · rw [if_pos ⟨h0, h1⟩] at h
        have hh : ∀ W, Below w.heap.size w W → Calls Tryd.prog 63 #[.agg #[.slice (some ad) (kindsOf 14).length cap, .int .i64 (toOf 14), .nilFunc, .nilFunc], stV k c b s g] W fun e w' => e = .returned (.bool (holdsB 14 k b)) ∧ Below W.heap.size W w' := fun W hW => by
          have := holds_nil ad cap (kindsOf 14) (toOf 14) (.nilFunc) k c b s g W (by decide) hcap (fun j q hq => pw_cell_below hW (hc j q hq))
          have e : ((kindsOf 14).any fun y => y == k) = holdsB 14 k b := by unfold holdsB ifB; simp
          rw [e] at this
          exact this
        cases hb : holdsB 14 k b with
        | false =>
          rw [hb] at h hh
          rw [if_neg Bool.false_ne_true] at h
          simp only [Option.some.injEq, Prod.mk.injEq] at h
          obtain ⟨rfl, rfl⟩ := h
          exact next_not_nn x 14 cpu k c s g b w bm (some ad) (kindsOf 14).length cap (toOf 14) hN' hu h0 h1 hh
        | true =>
          rw [hb] at h hh
          rw [if_pos rfl] at h
          rw [if_neg (fun h => absurd h.1 (by decide))] at h
          exact next_nil x 14 cpu k c s g b w bm (some ad) (kindsOf 14).length cap (toOf 14) hN' hu h0 h1 hh (by decide) r1 r2 h
      · rw [if_neg (fun h => h1 h.2)] at h
        simp only [Option.some.injEq, Prod.mk.injEq] at h
        obtain ⟨rfl, rfl⟩ := h
        exact next_big_nn x 14 cpu k c s g b w bm (some ad) (kindsOf 14).length cap (toOf 14) hN' hu (by omega)
    · rw [if_neg (fun h => h0 h.1)] at h
      simp only [Option.some.injEq, Prod.mk.injEq] at h
      obtain ⟨rfl, rfl⟩ := h
      exact next_neg_nn x 14 cpu k c s g b w bm (some ad) (kindsOf 14).length cap (toOf 14) hN' hu (by omega)
  · rw [if_neg (by decide)] at h
    simp only [Option.some.injEq, Prod.mk.injEq] at h
    obtain ⟨rfl, rfl⟩ := h
    exact next_er_nn x 14 cpu k c s g b w bm (some ad) (kindsOf 14).length cap (toOf 14) hN' hu
theorem nextAt_15 (x cpu k c s g er : Int) (b : Bool) (w : World) (bm : Nat) (ad : Addr) (cap : Nat) (hN : NextAt w bm 15 (ruleV 15 ad cap) true) (hcap : (kindsOf 15).length ≤ cap) (hc : ∀ j q, (kindsOf 15)[j]? = some q → w.cell? (ad.add j) = some (.int .i64 q))
    (hu : packed_Unpack.f x = some (k, c, b, s, g, er)) (her : er = 0 ∨ er = 1) (r1 r2 : Int) (h : nextR 15 cpu k c b s g er = some (r1, r2)) :
    Calls Tryd.prog 53 #[.int .u64 x, .int .i64 15, .int .i64 cpu] w fun e w' => e = .returned (.tuple #[.int .u64 r1, .int .i64 r2]) ∧ Below w.heap.size w w' := by
  have hN' : NextAt w bm 15 (.agg #[.slice (some ad) (kindsOf 15).length cap, .int .i64 (toOf 15), .nilFunc, .func (.func 97) #[] #[]]) true := hN
  unfold nextR at h
  rcases her with rfl | rfl
  · rw [if_pos rfl] at h
    by_cases h0 : 0 ≤ cpu
    · by_cases h1 : cpu < 64
      · rw [if_pos ⟨h0, h1⟩] at h
        have hh : ∀ W, Below w.heap.size w W → Calls Tryd.prog 63 #[.agg #[.slice (some ad) (kindsOf 15).length cap, .int .i64 (toOf 15), .nilFunc, .func (.func 97) #[] #[]], stV k c b s g] W fun e w' => e = .returned (.bool (holdsB 15 k b)) ∧ Below W.heap.size W w' := fun W hW => by
          have := holds_nil ad cap (kindsOf 15) (toOf 15) (.func (.func 97) #[] #[]) k c b s g W (by decide) hcap (fun j q hq => pw_cell_below hW (hc j q hq))
          have e : ((kindsOf 15).any fun y => y == k) = holdsB 15 k b := by unfold holdsB ifB; simp
          rw [e] at this
          exact this
        cases hb : holdsB 15 k b with
        | false =>
          rw [hb] at h hh
          rw [if_neg Bool.false_ne_true] at h
          simp only [Option.some.injEq, Prod.mk.injEq] at h
          obtain ⟨rfl, rfl⟩ := h
          exact next_not_nf x 15 cpu k c s g b w bm (some ad) (kindsOf 15).length cap (toOf 15) 97 hN' hu h0 h1 hh
        | true =>
          rw [hb] at h hh
          rw [if_pos rfl] at h
          rw [if_neg (fun h => absurd h.1 (by decide))] at h
          exact next_d62 x 15 cpu k c s g b w bm (some ad) (kindsOf 15).length cap (toOf 15) hN' hu h0 h1 hh (by decide) r1 r2 h
      · rw [if_neg (fun h => h1 h.2)] at h
        simp only [Option.some.injEq, Prod.mk.injEq] at h
        obtain ⟨rfl, rfl⟩ := h
        exact next_big_nf x 15 cpu k c s g b w bm (some ad) (kindsOf 15).length cap (toOf 15) 97 hN' hu (by omega)
    · rw [if_neg (fun h => h0 h.1)] at h
      simp only [Option.some.injEq, Prod.mk.injEq] at h
      obtain ⟨rfl, rfl⟩ := h
      exact next_neg_nf x 15 cpu k c s g b w bm (some ad) (kindsOf 15).length cap (toOf 15) 97 hN' hu (by omega)
  · rw [if_neg (by decide)] at h
    simp only [Option.some.injEq, Prod.mk.injEq] at h
    obtain ⟨rfl, rfl⟩ := h
    exact next_er_nf x 15 cpu k c s g b w bm (some ad) (kindsOf 15).length cap (toOf 15) 97 hN' hu
theorem unpack_er {x k c s g er : Int} {b : Bool} (h : packed_Unpack.f x = some (k, c, b, s, g, er)) : er = 0 ∨ er = 1 := by
  unfold packed_Unpack.f at h
  obtain ⟨a1, _, h⟩ := Option.bind_eq_some_iff.1 h
  obtain ⟨a2, _, h⟩ := Option.bind_eq_some_iff.1 h
  obtain ⟨a3, _, h⟩ := Option.bind_eq_some_iff.1 h
  obtain ⟨a4, _, h⟩ := Option.bind_eq_some_iff.1 h
  obtain ⟨a5, _, h⟩ := Option.bind_eq_some_iff.1 h
  generalize a1 = q1 at h
  generalize x / 288230376151711744 = q0 at h
  by_cases h1 : q0 = 0
  · rw [if_pos h1] at h
    by_cases h2 : a3 = 1
    · rw [if_pos h2] at h
      by_cases h3 : q1 = 7
      · rw [if_pos h3] at h
        simp only [Option.some.injEq, Prod.mk.injEq] at h
        exact .inl h.2.2.2.2.2.symm
      · rw [if_neg h3] at h
        simp only [Option.some.injEq, Prod.mk.injEq] at h
        exact .inr h.2.2.2.2.2.symm
    · rw [if_neg h2] at h
      simp only [Option.some.injEq, Prod.mk.injEq] at h
      exact .inl h.2.2.2.2.2.symm
  · rw [if_neg h1] at h
    simp only [Option.some.injEq, Prod.mk.injEq] at h
    exact .inr h.2.2.2.2.2.symm
theorem look_at {w : World} (HLd : Ld w) : ∃ bm, w.cell? ⟨0, 0, none⟩ = some (.map (some bm)) ∧ (∀ ev : Int, (Lit.int .i64 ev).wf = true → ¬ (0 ≤ ev ∧ ev < 16) → NextAt w bm ev noRule false) ∧
    ∀ n : Nat, n < 16 → ∃ ad cap, NextAt w bm (n : Int) (ruleV n ad cap) true ∧ (kindsOf n).length ≤ cap ∧ ∀ j q, (kindsOf n)[j]? = some q → w.cell? (ad.add j) = some (.int .i64 q) := by
  obtain ⟨bm, o, h1, h2, h3⟩ := HLd.r
  refine ⟨bm, h1, fun ev hw hn => ⟨HLd, h1, fun W hb => h3.none_ W (blk_below h2 hb) ev hw hn⟩, fun n hn => ?_⟩
  obtain ⟨ad, cap, g1, g2, g3⟩ := h3.some_ n hn
  exact ⟨ad, cap, ⟨HLd, h1, fun W hb => g1 W (blk_below h2 hb)⟩, g2, g3⟩
set_option maxRecDepth 100000 in
theorem life_Next.calls (a0 a1 a2 : Int) (r1 r2 : Int) (w : World) (HLd : Ld w) (h : life_Next.f a0 a1 a2 = some (r1, r2)) :
    Calls Tryd.prog 53 #[.int .u64 a0, .int .i64 a1, .int .i64 a2] w fun e w' => e = .returned (.tuple #[.int .u64 r1, .int .i64 r2]) ∧ Below w.heap.size w w' := by
  obtain ⟨bm, hc, hno, hyes⟩ := look_at HLd
  unfold life_Next.f at h
  by_cases hw : (Lit.int .i64 a1).wf = true
  · rw [if_pos hw, Option.bind_eq_some_iff] at h
    obtain ⟨⟨k, c, b, s, g, er⟩, hu, h⟩ := h
    have her := unpack_er hu
    simp only at h
    by_cases hr : 0 ≤ a1 ∧ a1 < 16
    · rw [if_pos hr] at h
      obtain ⟨n, rfl⟩ := Int.eq_ofNat_of_zero_le hr.1
      rw [Int.toNat_natCast] at h
      have hn : n < 16 := by omega
      obtain ⟨ad, cap, hN, hcap, hcs⟩ := hyes n hn
      have hc16 : n = 0 ∨ n = 1 ∨ n = 2 ∨ n = 3 ∨ n = 4 ∨ n = 5 ∨ n = 6 ∨ n = 7 ∨ n = 8 ∨ n = 9 ∨ n = 10 ∨ n = 11 ∨ n = 12 ∨ n = 13 ∨ n = 14 ∨ n = 15 := by omega
      rcases hc16 with rfl | rfl | rfl | rfl | rfl | rfl | rfl | rfl | rfl | rfl | rfl | rfl | rfl | rfl | rfl | rfl
      · exact nextAt_0 a0 a2 k c s g er b w bm ad cap hN hcap hcs hu her r1 r2 h
      · exact nextAt_1 a0 a2 k c s g er b w bm ad cap hN hcap hcs hu her r1 r2 h
      · exact nextAt_2 a0 a2 k c s g er b w bm ad cap hN hcap hcs hu her r1 r2 h
      · exact nextAt_3 a0 a2 k c s g er b w bm ad cap hN hcap hcs hu her r1 r2 h
      · exact nextAt_4 a0 a2 k c s g er b w bm ad cap hN hcap hcs hu her r1 r2 h
      · exact nextAt_5 a0 a2 k c s g er b w bm ad cap hN hcap hcs hu her r1 r2 h
      · exact nextAt_6 a0 a2 k c s g er b w bm ad cap hN hcap hcs hu her r1 r2 h
      · exact nextAt_7 a0 a2 k c s g er b w bm ad cap hN hcap hcs hu her r1 r2 h
      · exact nextAt_8 a0 a2 k c s g er b w bm ad cap hN hcap hcs hu her r1 r2 h
      · exact nextAt_9 a0 a2 k c s g er b w bm ad cap hN hcap hcs hu her r1 r2 h
      · exact nextAt_10 a0 a2 k c s g er b w bm ad cap hN hcap hcs hu her r1 r2 h
      · exact nextAt_11 a0 a2 k c s g er b w bm ad cap hN hcap hcs hu her r1 r2 h
      · exact nextAt_12 a0 a2 k c s g er b w bm ad cap hN hcap hcs hu her r1 r2 h
      · exact nextAt_13 a0 a2 k c s g er b w bm ad cap hN hcap hcs hu her r1 r2 h
      · exact nextAt_14 a0 a2 k c s g er b w bm ad cap hN hcap hcs hu her r1 r2 h
      · exact nextAt_15 a0 a2 k c s g er b w bm ad cap hN hcap hcs hu her r1 r2 h
    · rw [if_neg hr] at h
      simp only [Option.some.injEq, Prod.mk.injEq] at h
      obtain ⟨rfl, rfl⟩ := h
      have hN := hno a1 hw hr
      rcases her with rfl | rfl
      · exact next_none_0 a0 a1 a2 k c s g b w bm hN hu
      · exact next_none_1 a0 a1 a2 k c s g b w bm hN hu
  · rw [if_neg hw] at h; cases h
end Go.Proofs.YtdchbcpfciljoaaDoor.Given

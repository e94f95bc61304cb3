/- awake answers true: its contract. -/
import Derived.Test.YtebmbegblnoeaaaDoorG5
import Derived.Test.YtebmbegblnoeaaaDoorPrintF19
import Derived.Test.YtebmbegblnoeaaaDoorPrintF28
import Derived.Test.YtebmbegblnoeaaaDoorPrintF17
import Derived.Test.YtebmbegblnoeaaaDoorPrintF15
import Derived.Test.YtebmbegblnoeaaaDoorPrintF13
namespace Go.Proofs.YtebmbegblnoeaaaDoor.Given
open Go.RowKit Go.Proofs.YtebmbegblnoeaaaDoor Go.Proofs.YtebmbegblnoeaaaDoor.Print Go.Proofs.YtebmbegblnoeaaaDoorW.PrintWords
set_option linter.unusedVariables false
set_option linter.unusedSimpArgs false
def cells40 (l : List S40) : List Value := l.flatMap fun x => [.int .i64 x.f0, .int .i64 x.f1]
theorem cells40_get : ∀ (l : List S40) (j : Nat) (p : S40), l[j]? = some p → (cells40 l)[j * 2]? = some (.int .i64 p.f0) ∧ (cells40 l)[j * 2 + 1]? = some (.int .i64 p.f1) := by
  intro l
  induction l with
  | nil => intro j p h; cases h
  | cons x l ih =>
    intro j p h
    cases j with
    | zero =>
      simp only [List.getElem?_cons_zero, Option.some.injEq] at h
      subst h
      exact ⟨rfl, rfl⟩
    | succ j =>
      have := ih j p (by simpa using h)
      have e : cells40 (x :: l) = .int .i64 x.f0 :: .int .i64 x.f1 :: cells40 l := rfl
      rw [e, show (j + 1) * 2 = (j * 2 + 1) + 1 by omega]
      exact ⟨by simpa using this.1, by simpa using this.2⟩
theorem c_lit40 (W : World) (l : List S40) (cs : Array Value) (t : TypeId) (h : (cells40 l).toArray = cs) (hl : l.length ≤ 9223372036854775807) : Kd.C k40 (W.alloc (.cells cs t)) (some ⟨W.heap.size, 0, none⟩) l.length l := by
  subst h
  refine ⟨rfl, hl, fun _ => ⟨_, rfl, fun j p hp => ⟨_, rfl, k40_mk _ p, fun i u hu => ?_⟩⟩⟩
  obtain ⟨g0, g1⟩ := cells40_get l j p hp
  have h := fun q => blk_cell (blk_new W (.cells (cells40 l).toArray t)) q
  have ea : ∀ q, (⟨W.heap.size, 0, none⟩ : Addr).add q = ⟨W.heap.size, q, none⟩ := fun q => by cases q <;> simp [Addr.add]
  match i, hu with
  | 0, hu =>
    injection hu with hu
    subst hu
    have e0 : ((⟨W.heap.size, 0, none⟩ : Addr).add (j * 2 + 0)) = ⟨W.heap.size, j * 2, none⟩ := ea (j * 2)
    refine (congrArg _ e0).trans ((h (j * 2)).trans ?_)
    simpa using g0
  | 1, hu =>
    injection hu with hu
    subst hu
    have e1 : ((⟨W.heap.size, 0, none⟩ : Addr).add (j * 2 + 1)) = ⟨W.heap.size, j * 2 + 1, none⟩ := ea (j * 2 + 1)
    refine (congrArg _ e1).trans ((h (j * 2 + 1)).trans ?_)
    simpa using g1
theorem aw_play : life_Play.f 100 1 [⟨2, 0⟩, ⟨4, 0⟩, ⟨5, 0⟩, ⟨5, 0⟩] = some (1029, 3) := by kernel_rfl
theorem aw_unpack : turnspitref06_Unpack.f 1029 = some (5, 0, false, 1, 0, 0) := by kernel_rfl
theorem aw_next : life_Next.f 1 5 0 = some (0, 4) := by kernel_rfl
theorem aw_awake : life_Awake.f 1029 = some true := by kernel_rfl
theorem aw_settled : life_Settled.f 1029 = some true := by kernel_rfl
theorem aw_not : life_Settled.f 2 = some false := by kernel_rfl
theorem aw_may : life_May.f 1029 7 = some true := by kernel_rfl
def turnspitlaw07_awake.f : Option Bool := some true
set_option maxHeartbeats 4000000 in
set_option maxRecDepth 100000 in
theorem turnspitlaw07_awake.calls (r : Bool) (w : World) (HLd : Ld w) (h : turnspitlaw07_awake.f = some r) :
    Calls Tryd.prog 12 #[] w fun e w' => e = .returned (.bool r) ∧ Below w.heap.size w w' := by
  obtain rfl : true = r := Option.some.inj h
  clear h
  have HL := Aside0.mk HLd
  clear HLd
  go_enter Tryd.func12, Tryd.ntmps12
  go_wp2_with fail
  refine (life_Play.calls 100 1 (some ⟨w.heap.size, 0, none⟩) 4 [⟨2, 0⟩, ⟨4, 0⟩, ⟨5, 0⟩, ⟨5, 0⟩] 1029 3 _ (c_lit40 w _ _ _ rfl (by decide)) (by decide) (Ld.below HL.out (by exact below_alloc (Below.refl _ _) _)) aw_play).mono ?_
  rintro e w1 ⟨rfl, hb1⟩
  have hB1 := Aside0.mk (below_step (below_alloc (Below.refl w.heap.size w) _) hb1)
  clear hb1
  go_wp2_with fail
  refine (turnspitref06_Unpack.calls 1029 5 0 false 1 0 0 _ (Ld.below HL.out hB1.out) aw_unpack).mono ?_
  rintro e w2 ⟨rfl, hb2⟩
  have hB2 := Aside0.mk (below_step hB1.out hb2)
  clear hb2
  go_wp2_with fail
  refine (life_Next.calls 1 5 0 0 4 _ (Ld.below HL.out (below_alloc hB2.out _)) aw_next).mono ?_
  rintro e w3 ⟨rfl, hb3⟩
  have hB3 := Aside0.mk (below_step (below_alloc hB2.out _) hb3)
  have K1 := blk_below (blk_new w2 (.cells #[.int .i64 5, .int .i64 0, .bool false, .int .i64 1, .int .i64 0] 35)) hb3
  have x0 := (blk_cell K1 0).trans rfl
  have x1 := (blk_cell K1 1).trans rfl
  have x2 := (blk_cell K1 2).trans rfl
  have x3 := (blk_cell K1 3).trans rfl
  have x4 := (blk_cell K1 4).trans rfl
  clear K1 hb3
  have heq : ∀ W, Sem.run Tryd.prog (binOp BinOp.eql 35 (.agg #[.int .i64 5, .int .i64 0, .bool false, .int .i64 1, .int .i64 0]) (.agg #[.int .i64 5, .int .i64 0, .bool false, .int .i64 1, .int .i64 0])) W = .ok (.bool true) W := fun W => by kernel_rfl
  go_wp2_with fail
  refine (life_Awake.calls 1029 true _ (Ld.below HL.out hB3.out) aw_awake).mono ?_
  rintro e w4 ⟨rfl, hb4⟩
  have hB4 := Aside0.mk (below_step hB3.out hb4)
  clear hb4
  go_wp2_with fail
  refine (life_Settled.calls 1029 true _ (Ld.below HL.out hB4.out) aw_settled).mono ?_
  rintro e w5 ⟨rfl, hb5⟩
  have hB5 := Aside0.mk (below_step hB4.out hb5)
  clear hb5
  go_wp2_with fail
  refine (life_Settled.calls 2 false _ (Ld.below HL.out hB5.out) aw_not).mono ?_
  rintro e w6 ⟨rfl, hb6⟩
  have hB6 := Aside0.mk (below_step hB5.out hb6)
  clear hb6
  go_wp2_with fail
  refine (life_May.calls 1029 7 true _ (Ld.below HL.out hB6.out) aw_may).mono ?_
  rintro e w7 ⟨rfl, hb7⟩
  have hB7 := Aside0.mk (below_step hB6.out hb7)
  clear hb7
  go_wp2
  go_ret
  exact ⟨rfl, hB7.out⟩
end Go.Proofs.YtebmbegblnoeaaaDoor.Given

/- The writers of a builder that the call itself has made. -/
import Derived.Test.YtilmbpdfdickoaaDoorGS
import Derived.Shelf.RegionOpenPlain
import Derived.Lib.Walk
import Derived.Lib.AppendStr
import Derived.Lib.UnsafeStr
import Derived.WalkKit
import Derived.Laws.Externs
import Derived.Test.YtilmbpdfdickoaaDoorProg
import Derived.Below
import Derived.Deep.Draws
import Derived.Deep.AppendLies
import Derived.Maps.AppendAt
import Derived.OwnWalk
import Derived.Laws.BytesArg
import Derived.Laws.MakeOwn
import Derived.Laws.OwnMore
import Derived.Deep.OwnRows
import Derived.Tactics
import Derived.Lib.ConvBytes
import Derived.Laws.Slices
import Derived.KernelRfl
import Derived.RowKit3
import Derived.Deep.LoopGhost
import Derived.Deep.QuietTactic
import Derived.BigQuiet
import Derived.WideLaws
import Derived.Deep.DeepCutAuto
import Derived.Deep.CutBlock
import Derived.Deep.RegionHeld3
import Derived.Laws.Rows
import Derived.ArgAppend
import Derived.Laws.IdiomCopy
import Derived.OrdersHeld
import Derived.Laws.BitsLemmas
import Derived.RowKit
import Derived.Test.YtilmbpdfdickoaaDoorNs
import Derived.Test.YtilmbpdfdickoaaDoorV
import Derived.Test.YtilmbpdfdickoaaDoorG
import Derived.Test.YtilmbpdfdickoaaDoorMA
import Derived.Deep.DeepFit
import Derived.WalkSpells
import Derived.Outline
import Derived.Laws.Bits64b
import Derived.Laws.BitsAllLaws
set_option linter.unusedVariables false
namespace Go.Proofs
open Go.Shelf Go.RowKit
set_option maxHeartbeats 1000000 in
set_option maxRecDepth 100000 in
theorem Tryd.Builder_copyCheck_used (b : Nat) (w : World) (h0 : w.cell? ⟨b, 0, none⟩ = some (.pointer (some ⟨b, 0, none⟩))) :
    Calls Tryd.prog 51 #[.pointer (some ⟨b, 0, none⟩)] w fun e w' => e = .returned (.tuple #[]) ∧ w' = w := by
  obtain ⟨j, hj, _⟩ := Option.map_eq_some_iff.1 (show (Tryd.prog.info? 81).map (·.size) = some 2 by kernel_rfl)
  go_enter Tryd.func51, Tryd.ntmps51
  go_wp2
  rw [Lib.run_neq_ptr_same w _ Tryd.underlying78 hj]
  go_wp2
  go_end0
  exact ⟨rfl, rfl⟩
set_option maxHeartbeats 1000000 in
set_option maxRecDepth 100000 in
theorem Tryd.Builder_copyCheck_fresh (b : Nat) (w : World) (h0 : w.cell? ⟨b, 0, none⟩ = some (.pointer none)) (hsh : w.shape? b = some (81, 2)) (hfz : w.frozen? ⟨b, 0, none⟩ = false) :
    Calls Tryd.prog 51 #[.pointer (some ⟨b, 0, none⟩)] w fun e w' => e = .returned (.tuple #[]) ∧ w' = w.setCell ⟨b, 0, none⟩ (.pointer (some ⟨b, 0, none⟩)) := by
  obtain ⟨j, hj, hjs⟩ := Option.map_eq_some_iff.1 (show (Tryd.prog.info? 81).map (·.size) = some 2 by kernel_rfl)
  go_enter Tryd.func51, Tryd.ntmps51
  go_wp2
  rw [Lib.run_to_unsafe w ⟨b, 0, none⟩ Tryd.underlying78 Tryd.underlying106 hj (by rw [hjs]; decide) hsh (Nat.zero_lt_succ 1)]
  simp only [Result.andThen]
  rw [Oper.upon_value]
  go_wp2
  rw [run_callFunc_extern Tryd.func67 (by kernel_rfl) (by kernel_rfl) (by kernel_rfl) (e := Extern.AbiNoEscape.same) (by kernel_rfl)]
  rw [Lib.run_noEscape]
  simp only [Result.andThen]
  rw [Oper.upon_value]
  go_wp2
  rw [Lib.run_from_unsafe w ⟨b, 0, none⟩ Tryd.underlying106 Tryd.underlying78 hj hsh (show liesAt Tryd.prog Tryd.prog.depth 81 (2 / Tryd.prog.cellsOf 81) 0 81 1 = true by kernel_rfl)]
  simp only [Result.andThen]
  rw [Oper.upon_value]
  go_wp2
  go_end0
  exact ⟨rfl, rfl⟩
theorem Tryd.Builder_copyCheck (B b : Nat) (bs : List Value) (w : World) (h : Lib.IsBuilder 81 5 B b bs w) :
    Calls Tryd.prog 51 #[.pointer (some ⟨b, 0, none⟩)] w fun e w' => e = .returned (.tuple #[]) ∧ (Lib.BuilderAt 81 5 B b (.pointer (some ⟨b, 0, none⟩)) bs w' ∧ Below B w w') := by
  rcases h with h | h
  · refine (Tryd.Builder_copyCheck_fresh b w h.cell0 h.shape h.frozen0).mono ?_
    rintro e w' ⟨rfl, rfl⟩
    exact ⟨rfl, h.used _, (Below.refl B w).setCell (p := ⟨b, 0, none⟩) h.1 _⟩
  · refine (Tryd.Builder_copyCheck_used b w h.cell0).mono ?_
    rintro e w' ⟨rfl, rfl⟩
    exact ⟨rfl, h, Below.refl B _⟩
set_option maxHeartbeats 2000000 in
set_option maxRecDepth 100000 in
theorem Tryd.Builder_WriteByte (B b : Nat) (bs : List Value) (c : Int) (w : World) (h : Lib.IsBuilder 81 5 B b bs w) (hlen : bs.length + 1 ≤ 140737488355328) (hBw : B ≤ w.heap.size) :
    Calls Tryd.prog 137 #[.pointer (some ⟨b, 0, none⟩), .int .u8 c] w fun e w' => e = .returned .nilIface ∧ (Lib.BuilderAt 81 5 B b (.pointer (some ⟨b, 0, none⟩)) (bs ++ [.int .u8 c]) w' ∧ Below B w w') := by
  obtain ⟨i0, hi, hz0, hz1, hz2⟩ := info_parts (show (Tryd.prog.info? 5).map (fun i => (i.zero, i.size, i.bytes)) = some (some (.int .u8 0), 1, 1) by kernel_rfl)
  go_enter Tryd.func137, Tryd.ntmps137
  go_wp2_with (go_at_call 51; refine (Tryd.Builder_copyCheck B b bs _ h).mono ?_)
  rintro e w1 ⟨rfl, h1, hb1⟩
  obtain ⟨hB, v, hbk, hown, hne⟩ := h1
  have c0 : w1.cell? ⟨b, 0, none⟩ = some (.pointer (some ⟨b, 0, none⟩)) := by rw [Lib.cell_of_heap hbk]; rfl
  have c1 : w1.cell? ⟨b, 1, none⟩ = some v := by rw [Lib.cell_of_heap hbk]; rfl
  go_wp2_with (at_builtin; refine wpList_append_own _ rfl _ _ 79 rfl B 5 i0 (.int .u8 0) 1 1 Tryd.underlying79 hi hz0 hz1 hz2 rfl (by decide) _ _ _ rfl (hown.alloc _) ⟨w1.heap.size, 0, none⟩ 1 1 [.int .u8 c] rfl rfl ?c1 ?c2 ?c3 ?c4 ?c5 ?_)
  case c1 =>
    intro j u hj
    match j, hj with
    | 0, hj => simp at hj; subst hj; simp [Addr.add]
  case c2 => intro u hu; simp at hu; subst hu; rfl
  case c3 => unfold maxLen; omega
  case c4 => omega
  case c5 => have := hb1.size; simp; omega
  intro v' w2 hown' hgrow _
  have hlt : b < w1.heap.size := by
    rcases Nat.lt_or_ge b w1.heap.size with h' | h'
    · exact h'
    · simp [Array.getElem?_eq_none h'] at hbk
  have hb2 : w2.heap[b]? = some (.cells #[.pointer (some ⟨b, 0, none⟩), v] 81 (0, 0)) := by
    rw [hgrow.block b (by simp; omega) (fun e => hne e.symm), Lib.alloc_old w1 _ b hlt]
    exact hbk
  have d0 : w2.cell? ⟨b, 0, none⟩ = some (.pointer (some ⟨b, 0, none⟩)) := by rw [Lib.cell_of_heap hb2]; rfl
  have d1 : w2.cell? ⟨b, 1, none⟩ = some v := by rw [Lib.cell_of_heap hb2]; rfl
  have f1 : w2.frozen? ⟨b, 1, none⟩ = false := Lib.frozen_of_heap hb2 1
  obtain ⟨g, cap, rfl⟩ : ∃ g cap, v' = .slice (some ⟨g, 0, none⟩) (bs.length + 1) cap := by
    rcases hown'.2 with ⟨_, h0⟩ | ⟨g, cap, cur, hv, _⟩
    · omega
    · exact ⟨g, cap, hv⟩
  go_wp2
  go_ret
  refine ⟨rfl, ?_, ?_⟩
  · exact Lib.BuilderAt.put (T := 81) (e := 5) hB hb2 (bs' := bs ++ [.int .u8 c]) (by simpa using hown') (by decide)
  · exact ((hb1.alloc (by have := hb1.size; omega) _).grown hgrow (by have := hb1.size; simp; omega) (fun k hk => (hown.lt k hk).1)).setCell (p := ⟨b, 1, none⟩) hB _
set_option maxHeartbeats 2000000 in
set_option maxRecDepth 100000 in
theorem Tryd.Builder_WriteString (B b : Nat) (bs : List Value) (s : ByteArray) (w : World) (h : Lib.IsBuilder 81 5 B b bs w) (hlen : bs.length + s.size ≤ 140737488355328) (hBw : B ≤ w.heap.size) :
    Calls Tryd.prog 40 #[.pointer (some ⟨b, 0, none⟩), .string s] w fun e w' => e = .returned (.tuple #[.int .i64 s.size, .nilIface]) ∧ (Lib.BuilderAt 81 5 B b (.pointer (some ⟨b, 0, none⟩)) (bs ++ Lib.strCells s) w' ∧ Below B w w') := by
  obtain ⟨i0, hi, hz0, hz1, hz2⟩ := info_parts (show (Tryd.prog.info? 5).map (fun i => (i.zero, i.size, i.bytes)) = some (some (.int .u8 0), 1, 1) by kernel_rfl)
  go_enter Tryd.func40, Tryd.ntmps40
  go_wp2_with (go_at_call 51; refine (Tryd.Builder_copyCheck B b bs _ h).mono ?_)
  rintro e w1 ⟨rfl, h1, hb1⟩
  obtain ⟨hB, v, hbk, hown, hne⟩ := h1
  have c0 : w1.cell? ⟨b, 0, none⟩ = some (.pointer (some ⟨b, 0, none⟩)) := by rw [Lib.cell_of_heap hbk]; rfl
  have c1 : w1.cell? ⟨b, 1, none⟩ = some v := by rw [Lib.cell_of_heap hbk]; rfl
  go_wp2_with (at_builtin; refine Lib.wpList_append_own_string _ rfl _ _ 79 9 rfl B 5 i0 Tryd.underlying79 Tryd.underlying9 hi hz0 hz1 hz2 _ _ _ rfl hown s rfl ?c3 ?c4 ?c5 ?_)
  case c3 => unfold maxLen; omega
  case c4 => omega
  case c5 => have := hb1.size; omega
  intro v' w2 hown' hgrow _
  have hlt : b < w1.heap.size := by
    rcases Nat.lt_or_ge b w1.heap.size with h' | h'
    · exact h'
    · simp [Array.getElem?_eq_none h'] at hbk
  have hb2 : w2.heap[b]? = some (.cells #[.pointer (some ⟨b, 0, none⟩), v] 81 (0, 0)) := by
    rw [hgrow.block b hlt (fun e => hne e.symm)]
    exact hbk
  have d0 : w2.cell? ⟨b, 0, none⟩ = some (.pointer (some ⟨b, 0, none⟩)) := by rw [Lib.cell_of_heap hb2]; rfl
  have d1 : w2.cell? ⟨b, 1, none⟩ = some v := by rw [Lib.cell_of_heap hb2]; rfl
  have f1 : w2.frozen? ⟨b, 1, none⟩ = false := Lib.frozen_of_heap hb2 1
  obtain ⟨ao, n', cap, rfl⟩ : ∃ ao n' cap, v' = .slice ao n' cap := by
    rcases hown'.2 with ⟨hv, _⟩ | ⟨g, cap, cur, hv, _⟩
    · exact ⟨_, _, _, hv⟩
    · exact ⟨_, _, _, hv⟩
  go_wp2
  go_ret2
  refine ⟨rfl, ?_, ?_⟩
  · exact Lib.BuilderAt.put (T := 81) (e := 5) hB hb2 (bs' := bs ++ Lib.strCells s) (by simpa [Lib.strCells_length] using hown') (by decide)
  · exact (hb1.grown hgrow (by have := hb1.size; omega) (fun k hk => (hown.lt k hk).1)).setCell (p := ⟨b, 1, none⟩) hB _
end Go.Proofs
namespace Go.Proofs.YtilmbpdfdickoaaDoor.Print
open Go.RowKit Go.Proofs.YtilmbpdfdickoaaDoor Go.Proofs.YtilmbpdfdickoaaDoor.Given Go.Proofs.YtilmbpdfdickoaaDoorW.PrintWords Go.Proofs.YtilmbpdfdickoaaDoorW.PrintLast Go.Proofs.YtilmbpdfdickoaaDoorW.PrintMore
attribute [local go_sem] max2_int min2_int max_two min_two max_three min_three max_four min_four   -- for this text's walks alone
set_option linter.unusedVariables false
set_option linter.unusedSimpArgs false

/-! ### mask_First: function 134 -/
def mask_First.f (a0 : Int) : Option (Int × Bool) := (mask_Next.f a0 (-1)).bind fun bt120 => (some (bt120.1, bt120.2))
set_option maxHeartbeats 8000000 in
set_option maxRecDepth 100000 in
theorem mask_First.calls (a0 : Int) (r1 : Int) (r2 : Bool) (w : World) (h : mask_First.f a0 = some (r1, r2)) :
    Calls Tryd.prog 134 #[.int .u64 a0] w fun e w' => e = .returned (.tuple #[.int .i64 r1, .bool r2]) ∧ Below w.heap.size w w' := by
  have HB := Aside0.mk (Below.refl w.heap.size w)
  have H : ((mask_Next.f a0 (-1)).bind fun bt120 => (some (bt120.1, bt120.2))) = some (r1, r2) := h
  clear h
  replace H := Option.bind_eq_some_iff.mp H
  obtain ⟨⟨t120, t121⟩, A20, H⟩ := H
  replace H : (some (t120, t121)) = some (r1, r2) := H
  have A2 := Aside0.mk A20
  clear A20
  simp only [Option.some.injEq, Prod.mk.injEq] at H
  obtain ⟨rfl, rfl⟩ := H
  go_enter Tryd.func134, Tryd.ntmps134
  go_wp2_with (first | ((with_reducible refine gate_callee (f := 138) rfl ?_); refine goesL_ (some 5) rfl rfl Tryd.func138 (by kernel_rfl) rfl #[.int .u64 a0, .int .i64 (-1)] rfl (by (try simp only [List.map_toArray, List.map_cons, List.map_nil]); first | done | rfl | (simp only [List.length_drop, List.length_take]; rfl)) ?_; (with_reducible refine (mask_Next.calls a0 (-1) t120 t121 _ A2.out).mono ?_); rintro e w3 ⟨rfl, hb⟩; refine ⟨_, rfl, ?_⟩; have n0_ := Aside0.mk (below_step (by repeat (first | (with_reducible first | exact HB.out | apply below_alloc | apply pw_below_drewN | apply below_drew1) | exact HB.out)) hb); clear HB; have HB := n0_; clear n0_; (try clear hb); (try clear hb2); (try clear hk); (try clear hi)))
  go_ret2
  exact ⟨by first | rfl | (simp [errW_none, errW_some] <;> rfl) | (simp [*, errW_none, errW_some] <;> rfl), by repeat (first | (with_reducible first | exact HB.out | apply below_alloc | apply pw_below_drewN | apply below_drew1) | exact HB.out)⟩

end Go.Proofs.YtilmbpdfdickoaaDoor.Print

namespace Go.Proofs.YtilmbpdfdickoaaDoor.Print
open Go.RowKit Go.Proofs.YtilmbpdfdickoaaDoor Go.Proofs.YtilmbpdfdickoaaDoor.Given Go.Proofs.YtilmbpdfdickoaaDoorW.PrintWords Go.Proofs.YtilmbpdfdickoaaDoorW.PrintLast Go.Proofs.YtilmbpdfdickoaaDoorW.PrintMore
attribute [local go_sem] max2_int min2_int max_two min_two max_three min_three max_four min_four   -- for this text's walks alone
set_option linter.unusedVariables false
set_option linter.unusedSimpArgs false

/-! ### mask_All: function 140 -/
def mask_All.f (a0 : Int) : Option (Int) := if a0 ≤ 0 then (some 0) else (if a0 ≥ 64 then (some 18446744073709551615) else (if 0 ≤ a0 then (some (IntKind.u64.wrap ((shl .u64 1 a0) - 1))) else (none)))
set_option maxHeartbeats 8000000 in
set_option maxRecDepth 100000 in
theorem mask_All.calls (a0 : Int) (r : Int) (w : World) (h : mask_All.f a0 = some r) :
    Calls Tryd.prog 140 #[.int .i64 a0] w fun e w' => e = .returned (.int .u64 r) ∧ Drawn0 w w' := by
  have H : (if a0 ≤ 0 then (some 0) else (if a0 ≥ 64 then (some 18446744073709551615) else (if 0 ≤ a0 then (some (IntKind.u64.wrap ((shl .u64 1 a0) - 1))) else (none)))) = some r := h
  clear h
  by_cases c2 : a0 ≤ 0
  · rw [if_pos c2] at H
    have c2b0 : decide (a0 ≤ 0) = true := decide_eq_true c2
    clear c2
    obtain rfl := Option.some.inj H
    go_enter Tryd.func140, Tryd.ntmps140
    go_wp2
    go_ret
    exact ⟨by first | rfl | (simp; done) | (simp [*]; done), by repeat (first | exact Drawn0.refl _ | apply Drawn0.step)⟩
  · rw [if_neg c2] at H
    have c2b0 : decide (a0 ≤ 0) = false := decide_eq_false c2
    clear c2
    by_cases c3 : a0 ≥ 64
    · rw [if_pos c3] at H
      have c3b0 : decide (64 ≤ a0) = true := decide_eq_true c3
      clear c3
      obtain rfl := Option.some.inj H
      go_enter Tryd.func140, Tryd.ntmps140
      go_wp2
      go_ret
      exact ⟨by first | rfl | (simp; done) | (simp [*]; done), by repeat (first | exact Drawn0.refl _ | apply Drawn0.step)⟩
    · rw [if_neg c3] at H
      have c3b0 : decide (64 ≤ a0) = false := decide_eq_false c3
      clear c3
      by_cases c4 : 0 ≤ a0
      · rw [if_pos c4] at H
        have c4b0 := eq_true c4
        have c4b1 : decide (0 ≤ a0) = true := decide_eq_true c4
        clear c4
        obtain ⟨ji5, hji5⟩ : ∃ j_ : Int, (shl .u64 1 a0) = j_ := ⟨_, rfl⟩
        replace H : (some (IntKind.u64.wrap ((ji5) - 1))) = some r := by first | (rw [hji5] at H; exact H) | (simp only [hji5] at H ⊢; exact H)
        have hji5_ : (IntKind.u64.wrap (1 * 2 ^ min a0.toNat 64)) = ji5 := hji5
        have hji5z : a0 ≤ 64 → (IntKind.u64.wrap (1 * 2 ^ a0.toNat)) = ji5 := shl_small hji5
        have hji5u : (IntKind.u64.wrap (2 ^ min a0.toNat 64)) = ji5 := by have h_ := hji5_; rw [Int.one_mul] at h_; exact h_
        have hji5v : a0 ≤ 64 → (IntKind.u64.wrap (2 ^ a0.toNat)) = ji5 := fun hle_ => by have h_ := hji5z hle_; rw [Int.one_mul] at h_; exact h_
        obtain rfl := Option.some.inj H
        go_enter Tryd.func140, Tryd.ntmps140
        go_wp2
        go_ret
        exact ⟨by first | rfl | (simp; done) | (simp only [← hji5] <;> (first | rfl | simp)) | (simp [*]; done), by repeat (first | exact Drawn0.refl _ | apply Drawn0.step)⟩
      · rw [if_neg c4] at H
        exact absurd H (by simp)

end Go.Proofs.YtilmbpdfdickoaaDoor.Print
/- cpus.Print: its contract: the text of a mask's runs. -/
namespace Go.Proofs.YtilmbpdfdickoaaDoor.Given
open Go.RowKit Go.Proofs.YtilmbpdfdickoaaDoor Go.Proofs.YtilmbpdfdickoaaDoor.Print Go.Proofs.YtilmbpdfdickoaaDoor.Pure Go.Proofs.YtilmbpdfdickoaaDoorW.PrintWords
set_option linter.unusedVariables false
set_option linter.unusedSimpArgs false
theorem bitB_nat (M k : Nat) : bitB (M : Int) k = M.testBit k := by
  unfold bitB
  rw [Nat.testBit_eq_decide_div_mod_eq, Bool.eq_iff_iff, beq_iff_eq, decide_eq_true_eq]
  have e : ((2 : Int) ^ k) = ((2 ^ k : Nat) : Int) := by rw [Int.natCast_pow]; rfl
  rw [e, ← Int.natCast_ediv]
  omega
theorem below_head (m c : Int) : ∀ i : Nat, (cpusBelow m c i = [] ∧ ∀ k : Nat, k < i → ¬ (c < (k : Int) ∧ bitB m k = true)) ∨ ∃ (n : Nat) (t : List Int), n < i ∧ c < (n : Int) ∧ bitB m n = true ∧ (∀ k : Nat, k < n → ¬ (c < (k : Int) ∧ bitB m k = true)) ∧ cpusBelow m c i = (n : Int) :: t := by
  intro i
  induction i with
  | zero => exact .inl ⟨rfl, fun k hk => absurd hk (Nat.not_lt_zero k)⟩
  | succ i ih =>
    by_cases hc : c < (i : Int)
    · rw [cpusBelow_succ m c i hc]
      by_cases hb : bitB m i = true
      · rw [if_pos hb]
        rcases ih with ⟨e, h⟩ | ⟨n, t, h1, h2, h3, h4, e⟩
        · exact .inr ⟨i, [], Nat.lt_succ_self _, hc, hb, h, by rw [e]; rfl⟩
        · exact .inr ⟨n, t ++ [(i : Int)], by omega, h2, h3, h4, by rw [e]; rfl⟩
      · rw [if_neg hb]
        rcases ih with ⟨e, h⟩ | ⟨n, t, h1, h2, h3, h4, e⟩
        · refine .inl ⟨e, fun k hk => ?_⟩
          by_cases hki : k = i
          · subst hki; exact fun h => hb h.2
          · exact h k (by omega)
        · exact .inr ⟨n, t, by omega, h2, h3, h4, e⟩
    · rw [cpusBelow_none m c (i + 1) (by omega)]
      exact .inl ⟨rfl, fun k hk => fun h => by omega⟩
/-- The least CPU above another one, or that there is none. -/
theorem next_spec (M : Nat) (c : Int) (hc : c < 64) : (nextOf (M : Int) c = (0, false) ∧ ∀ k : Nat, k < 64 → c < (k : Int) → M.testBit k = false) ∨ ∃ n : Nat, n < 64 ∧ c < (n : Int) ∧ M.testBit n = true ∧ (∀ k : Nat, k < n → c < (k : Int) → M.testBit k = false) ∧ nextOf (M : Int) c = ((n : Int), true) := by
  have fl : ∀ k : Nat, ¬ (c < (k : Int) ∧ bitB (M : Int) k = true) → c < (k : Int) → M.testBit k = false := by
    intro k h hk
    cases hb : M.testBit k with
    | false => rfl
    | true => exact absurd ⟨hk, (bitB_nat M k).trans hb⟩ h
  unfold nextOf
  rw [if_pos hc]
  unfold aboveL
  rcases below_head (M : Int) c 64 with ⟨e, h⟩ | ⟨n, t, h1, h2, h3, h4, e⟩
  · exact .inl ⟨by rw [e], fun k hk => fl k (h k hk)⟩
  · exact .inr ⟨n, h1, h2, (bitB_nat M n).symm.trans h3, fun k hk => fl k (h4 k hk), by rw [e]⟩
theorem txt_skip (M i : Nat) : ∀ j, i ≤ j → (∀ k, i ≤ k → k < j → isStart M k = false) → txt M j = txt M i := by
  intro j
  induction j with
  | zero => intro h _; obtain rfl : i = 0 := by omega
            rfl
  | succ j ih =>
    intro h hk
    by_cases e : i = j + 1
    · rw [e]
    · rw [txt_succ, if_neg (by rw [hk j (by omega) (by omega)]; decide)]
      exact ih (by omega) (fun k h1 h2 => hk k h1 (by omega))
theorem not_start {M k : Nat} (h : M.testBit k = false) : isStart M k = false := by simp [isStart, h]
theorem not_start' {M k : Nat} (h0 : 0 < k) (h : M.testBit (k - 1) = true) : isStart M k = false := by
  have : ¬ k = 0 := by omega
  simp [isStart, h, this]
theorem dec_dg (n : Nat) (h : n < 64) : Lib.decDigits n = dg n := by
  unfold dg
  rw [Lib.decDigits]
  by_cases h10 : n < 10
  · rw [dif_pos h10, if_pos h10]
  · rw [dif_neg h10, if_neg h10, Lib.decDigits, dif_pos (by omega)]
    rfl
/-- What stands first, where nothing has been written yet. -/
theorem first_print (M : Nat) (hM : M < 2 ^ 64) (h0 : M ≠ 0) : ∃ c : Nat, c < 64 ∧ isStart M c = true ∧ txt M c = [] ∧ nextOf (M : Int) (-1) = ((c : Int), true) := by
  rcases next_spec M (-1) (by decide) with ⟨_, h⟩ | ⟨n, h1, _, h3, h4, e⟩
  · exfalso
    apply h0
    apply Nat.eq_of_testBit_eq
    intro i
    rw [Nat.zero_testBit]
    by_cases hi : i < 64
    · exact h i hi (by omega)
    · cases hb : M.testBit i with
      | false => rfl
      | true => exact absurd (bit_lt hM hb) hi
  · refine ⟨n, h1, ?_, ?_, e⟩
    · by_cases hn : n = 0
      · simp [isStart, h3, hn]
        rw [hn] at h3; simpa using h3
      · simp [isStart, h3, h4 (n - 1) (by omega) (by omega)]
    · have := txt_skip M 0 n (by omega) (fun k _ hk => not_start (h4 k hk (by omega)))
      rw [this]; rfl
/-- What stands next, behind a run. -/
theorem next_print (M : Nat) (hM : M < 2 ^ 64) (c : Nat) (hc : c < 64) (hs : isStart M c = true) :
    (nextOf (M : Int) (lastR M c 64 : Nat) = (0, false) ∧ txt M 64 = txt M (c + 1)) ∨ ∃ n : Nat, n < 64 ∧ c < n ∧ isStart M n = true ∧ txt M n = txt M (c + 1) ∧ nextOf (M : Int) (lastR M c 64 : Nat) = ((n : Int), true) := by
  have hb : M.testBit c = true := by simp [isStart] at hs; exact hs.1
  have hge := lastR_ge M 64 c
  have hin := lastR_in M 64 c hb
  have hstop := lastR_stop M hM 64 c (by omega) hb
  have hlt := bit_lt hM (hin _ hge (Nat.le_refl _))
  generalize lastR M c 64 = z at hge hin hstop hlt ⊢
  have skip : ∀ j, z < j → (∀ k : Nat, k < j → z < k → M.testBit k = false) → txt M j = txt M (c + 1) := by
    intro j hj h
    refine txt_skip M (c + 1) j (by omega) (fun k h1 h2 => ?_)
    by_cases hk : k ≤ z
    · exact not_start' (by omega) (hin (k - 1) (by omega) (by omega))
    · exact not_start (h k h2 (by omega))
  rcases next_spec M (z : Int) (by omega) with ⟨e, h⟩ | ⟨n, h1, h2, h3, h4, e⟩
  · exact .inl ⟨e, skip 64 (by omega) (fun k h1 h2 => h k h1 (by omega))⟩
  · refine .inr ⟨n, h1, by omega, ?_, skip n (by omega) (fun k h1 h2 => h4 k h1 (by omega)), e⟩
    have hz1 : n ≠ z + 1 := fun e1 => by rw [e1, hstop] at h3; cases h3
    simp [isStart, h3, h4 (n - 1) (by omega) (by omega)]
theorem is_below {B b : Nat} {bs : List Value} {w w1 : World} (h : Lib.IsBuilder 81 5 B b bs w) (hb : Below w.heap.size w w1) : Lib.IsBuilder 81 5 B b bs w1 := by
  rcases h with ⟨h1, v, h2, h3, h4⟩ | ⟨h1, v, h2, h3, h4⟩
  · exact .inl ⟨h1, v, blk_below h2 hb, pw_own_below h3 hb, h4⟩
  · exact .inr ⟨h1, v, blk_below h2 hb, pw_own_below h3 hb, h4⟩
theorem has_c (m c : Int) (w : World) (h0 : 0 ≤ m) (h1 : m < 18446744073709551616) (r : Bool) (hr : hasB m c = r) : Calls Tryd.prog 135 #[.int .u64 m, .int .i64 c] w fun e w' => e = .returned (.bool r) ∧ w = w' :=
  hr ▸ callsIn_wide.1 (has_in Fence.wide 3 trivial trivial rfl (by decide) m c w h0 h1)
theorem wb_c (B b : Nat) (l : List UInt8) (c : UInt8) (w : World) (h : Lib.IsBuilder 81 5 B b (Lib.byteCells l) w) (hlen : l.length ≤ 1000) (hB : B ≤ w.heap.size) :
    Calls Tryd.prog 137 #[.pointer (some ⟨b, 0, none⟩), .int .u8 c.toNat] w fun e w' => e = .returned .nilIface ∧ (Lib.IsBuilder 81 5 B b (Lib.byteCells (l ++ [c])) w' ∧ Below B w w') := by
  refine (Tryd.Builder_WriteByte B b _ c.toNat w h (by simp [Lib.byteCells]; omega) hB).mono ?_
  rintro e w' ⟨rfl, h1, h2⟩
  exact ⟨rfl, .inr (by simpa [Lib.byteCells] using h1), h2⟩
theorem ws_c (B b : Nat) (l s : List UInt8) (w : World) (h : Lib.IsBuilder 81 5 B b (Lib.byteCells l) w) (hlen : l.length ≤ 1000) (hs : s.length ≤ 1000) (hB : B ≤ w.heap.size) :
    Calls Tryd.prog 40 #[.pointer (some ⟨b, 0, none⟩), .string ⟨s.toArray⟩] w fun e w' => (∃ n : Int, e = .returned (.tuple #[.int .i64 n, .nilIface])) ∧ (Lib.IsBuilder 81 5 B b (Lib.byteCells (l ++ s)) w' ∧ Below B w w') := by
  refine (Tryd.Builder_WriteString B b _ ⟨s.toArray⟩ w h (by simp [Lib.byteCells, ByteArray.size]; omega) hB).mono ?_
  rintro e w' ⟨rfl, h1, h2⟩
  exact ⟨⟨_, rfl⟩, .inr (by simpa [Lib.byteCells, Lib.strCells] using h1), h2⟩
theorem len_c (B b : Nat) (l : List UInt8) (w : World) (h : Lib.IsBuilder 81 5 B b (Lib.byteCells l) w) :
    Calls Tryd.prog 136 #[.pointer (some ⟨b, 0, none⟩)] w fun e w' => e = .returned (.int .i64 l.length) ∧ w = w' := by
  refine (Tryd.Builder_Len B b _ w h).mono ?_
  rintro e w' ⟨rfl, rfl⟩
  exact ⟨by simp [Lib.byteCells], rfl⟩
theorem itoa_c (n : Nat) (h : n < 64) (w : World) : Calls Tryd.prog 28 #[.int .i64 n] w fun e w' => e = .returned (.string ⟨(dg n).toArray⟩) ∧ w = w' := by
  refine (Tryd.strconv_Itoa_small n (by omega) w).mono ?_
  rintro e w' ⟨rfl, rfl⟩
  exact ⟨by rw [dec_dg n h], rfl⟩
theorem next_c (M : Nat) (hM : M < 2 ^ 64) (c : Int) (hc : -1 ≤ c) (r : Int × Bool) (h : nextOf (M : Int) c = r) (w : World) : Calls Tryd.prog 138 #[.int .u64 M, .int .i64 c] w fun e w' => e = .returned (.tuple #[.int .i64 r.1, .bool r.2]) ∧ Below w.heap.size w w' := by
  refine mask_Next.calls _ _ _ _ _ ?_
  unfold mask_Next.f
  rw [if_pos ⟨by omega, by omega, by omega⟩, h]
theorem first_c (M : Nat) (hM : M < 2 ^ 64) (r : Int × Bool) (h : nextOf (M : Int) (-1) = r) (w : World) : Calls Tryd.prog 134 #[.int .u64 M] w fun e w' => e = .returned (.tuple #[.int .i64 r.1, .bool r.2]) ∧ Below w.heap.size w w' := by
  refine mask_First.calls _ _ _ _ ?_
  unfold mask_First.f mask_Next.f
  rw [if_pos ⟨by omega, by omega, by omega⟩, h]
  rfl
end Go.Proofs.YtilmbpdfdickoaaDoor.Given
/- cpus.Print, walked: the text of a mask's runs. -/
namespace Go.Proofs.YtilmbpdfdickoaaDoor.Given
open Go.RowKit Go.Proofs.YtilmbpdfdickoaaDoor Go.Proofs.YtilmbpdfdickoaaDoor.Print Go.Proofs.YtilmbpdfdickoaaDoor.Pure Go.Proofs.YtilmbpdfdickoaaDoorW.PrintWords
set_option linter.unusedVariables false
set_option linter.unusedSimpArgs false
theorem has_run (M : Nat) (hM : M < 2 ^ 64) (c n : Nat) (hb : M.testBit c = true) (h1 : c ≤ n) (h2 : n < lastR M c 64) : hasB (M : Int) ((n : Int) + 1) = true := by
  have h3 := lastR_in M 64 c hb (n + 1) (by omega) (by omega)
  have h4 := bit_lt hM h3
  unfold hasB
  rw [decide_eq_true ⟨by omega, by omega⟩, show ((n : Int) + 1).toNat = n + 1 from by omega, bitB_nat, h3]
  rfl
theorem has_end (M : Nat) (hM : M < 2 ^ 64) (c : Nat) (hb : M.testBit c = true) : hasB (M : Int) (((lastR M c 64 : Nat) : Int) + 1) = false := by
  have h3 := lastR_stop M hM 64 c (by omega) hb
  unfold hasB
  rw [show (((lastR M c 64 : Nat) : Int) + 1).toNat = lastR M c 64 + 1 from by omega, bitB_nat, h3, Bool.and_false]
theorem comma_c (B b : Nat) (l : List UInt8) (w : World) (h : Lib.IsBuilder 81 5 B b (Lib.byteCells l) w) (hlen : l.length ≤ 1000) (hB : B ≤ w.heap.size) :
    Calls Tryd.prog 137 #[.pointer (some ⟨b, 0, none⟩), .int .u8 44] w fun e w' => e = .returned .nilIface ∧ (Lib.IsBuilder 81 5 B b (Lib.byteCells (l ++ [44])) w' ∧ Below B w w') := wb_c B b l 44 w h hlen hB
theorem dash_c (B b : Nat) (l : List UInt8) (w : World) (h : Lib.IsBuilder 81 5 B b (Lib.byteCells l) w) (hlen : l.length ≤ 1000) (hB : B ≤ w.heap.size) :
    Calls Tryd.prog 137 #[.pointer (some ⟨b, 0, none⟩), .int .u8 45] w fun e w' => e = .returned .nilIface ∧ (Lib.IsBuilder 81 5 B b (Lib.byteCells (l ++ [45])) w' ∧ Below B w w') := wb_c B b l 45 w h hlen hB
set_option maxHeartbeats 8000000 in
set_option maxRecDepth 100000 in
theorem print_walk (M : Nat) (hM : M < 2 ^ 64) (w : World) :
    Calls Tryd.prog 131 #[.int .u64 M] w fun e w' => e = .returned (.string ⟨(printL M).toArray⟩) ∧ Below w.heap.size w w' := by
  by_cases h0 : M = 0
  · subst h0
    go_enter Tryd.func131, Tryd.ntmps131
    go_wp2_with fail
    go_ret
    exact ⟨rfl, Below.refl _ _⟩
  · have hb0 : ((M : Int) == 0) = false := beq_eq_false_iff_ne.mpr (by omega)
    obtain ⟨c0, hc0, hs0, ht0, hn0⟩ := first_print M hM h0
    have HM := Aside0.mk hM
    have H0 := Aside0.mk h0
    have HS0 := Aside0.mk hs0
    have HT0 := Aside0.mk ht0
    have HN0 := Aside0.mk hn0
    have HC0 := Aside0.mk hc0
    clear hM h0 hs0 ht0 hn0 hc0
    go_enter Tryd.func131, Tryd.ntmps131
    go_wp2_with fail
    refine (first_c M HM.out _ HN0.out _).mono ?_
    rintro e w1 ⟨rfl, hb⟩
    have HB1 := Aside0.mk (below_step (below_alloc (Below.refl w.heap.size w) _) hb)
    have HI1 : Aside0 (Lib.IsBuilder 81 5 w.heap.size w.heap.size (Lib.byteCells (txt M c0)) w1) := ⟨by rw [HT0.out]; exact is_below (Lib.fresh_isBuilder 81 5 w) hb⟩
    clear hb
    go_wp2_with fail
    go_loopg [4, 5] 66 (fun kq v4 v5 w' => ∃ (c : Int) (b : Bool) (wl : World), v4 = .int .i64 c ∧ v5 = .bool b ∧ wl = w' ∧ Aside0 (Below w.heap.size w w') ∧ Aside0 (1 ≤ kq) ∧ Aside0 (kq ≤ 66) ∧ Aside0 ((b = true ∧ ∃ n : Nat, c = (n : Int) ∧ n < 64 ∧ isStart M n = true ∧ 66 ≤ n + kq ∧ Lib.IsBuilder 81 5 w.heap.size w.heap.size (Lib.byteCells (txt M n)) w') ∨ (b = false ∧ Lib.IsBuilder 81 5 w.heap.size w.heap.size (Lib.byteCells (txt M 64)) w')))
    case atStart => exact ⟨c0, true, _, rfl, rfl, rfl, HB1, ⟨by omega⟩, ⟨Nat.le_refl _⟩, ⟨.inl ⟨rfl, c0, rfl, HC0.out, HS0.out, by omega, HI1.out⟩⟩⟩
    case round =>
      clear HB1 HI1
      obtain ⟨c, b, wl, rfl, rfl, rfl, HBl, HK1, HK6, HR⟩ := hrel
      cases gk with
      | zero => exact absurd HK1.out (by omega)
      | succ k1 =>
        rcases HR.out with ⟨rfl, n, rfl, hn, hs, hk, hI⟩ | ⟨rfl, hI⟩
        · have hbit : M.testBit n = true := by simp [isStart] at hs; exact hs.1
          have hge := lastR_ge M 64 n
          have hlt : lastR M n 64 < 64 := bit_lt HM.out (lastR_in M 64 n hbit _ hge (Nat.le_refl _))
          have hmax := lastR_in M 64 n hbit
          have hNx := next_print M HM.out n hn hs
          have hLen := txt_len M HM.out n (by omega)
          have hTx := txt_succ M n
          rw [if_pos hs] at hTx
          have HN := Aside0.mk hn
          have HK := Aside0.mk hk
          have HI := Aside0.mk hI
          have HBit := Aside0.mk hbit
          have HGe := Aside0.mk hge
          have HLt := Aside0.mk hlt
          have HNx := Aside0.mk hNx
          have HTx := Aside0.mk hTx
          have HLn : Aside0 ((txt M n).length ≤ 195) := ⟨by split at hLen <;> omega⟩
          clear hs hk hI hbit hge hlt hmax hNx hLen hTx HR hn
          go_wp2_with fail
          -- the run's last one
          go_loopg [6] 66 (fun kq v6 w' => ∃ (q : Nat) (wi : World), v6 = .int .i64 (q : Int) ∧ wi = w' ∧ Aside0 (n ≤ q ∧ q ≤ lastR M n 64) ∧ Aside0 (66 ≤ q + kq ∧ kq ≤ 66) ∧ Aside0 (wl = w'))
          case atStart => exact ⟨n, _, rfl, rfl, ⟨Nat.le_refl _, HGe.out⟩, ⟨by omega, Nat.le_refl _⟩, ⟨rfl⟩⟩
          case round =>
            obtain ⟨q, wi, rfl, rfl, HQ, HQk, HW⟩ := hrel
            cases gk with
            | zero => exact absurd HQk.out (by have := HQ.out; have := HLt.out; omega)
            | succ k2 =>
              have q1 : wrap64 ((q : Int) + 1) = (q : Int) + 1 := by unfold wrap64; have := HQ.out; have := HLt.out; omega
              by_cases hq : q < lastR M n 64
              · have hh := Aside0.mk (has_run M HM.out n q HBit.out HQ.out.1 hq)
                have HQq := Aside0.mk hq
                have Q1 := Aside0.mk q1
                clear hq q1
                go_wp2_with fail
                rw [Q1.out]
                refine (has_c (M : Int) ((q : Int) + 1) _ (by omega) (by have := HM.out; omega) true hh.out).mono ?_
                rintro e w' ⟨rfl, rfl⟩
                go_wp2_with fail
                go_roundg k2
                case measure => have := HQk.out; omega
                case rel => exact ⟨q + 1, _, (by rw [Q1.out]; rfl), rfl, ⟨by have := HQ.out; omega, by have := HQq.out; omega⟩, ⟨by have := HQk.out; omega, by have := HQk.out; omega⟩, HW⟩
              · have eq : q = lastR M n 64 := by have := HQ.out; omega
                have hh := Aside0.mk (has_end M HM.out n HBit.out)
                subst eq
                have hw := HW.out
                subst hw
                have Q1 := Aside0.mk q1
                clear hq q1 HQ HQk HW HBit
                generalize lastR M n 64 = z at HGe HLt HNx HTx hh Q1 ⊢
                go_wp2_with fail
                rw [Q1.out]
                refine (has_c (M : Int) ((z : Int) + 1) _ (by omega) (by have := HM.out; omega) false hh.out).mono ?_
                rintro e w' ⟨rfl, rfl⟩
                go_wp2_with fail
                refine (len_c w.heap.size w.heap.size (txt M n) _ HI.out).mono ?_
                rintro e w' ⟨rfl, rfl⟩
                by_cases ht : txt M n = []
                case' pos =>
                  have HL : Aside0 (([] : List UInt8) ++ itemT (n, z) = txt M (n + 1)) := ⟨by have h_ := HTx.out; rw [if_pos ht] at h_; rw [h_]; rfl⟩
                  have HA : Aside0 (Lib.IsBuilder 81 5 w.heap.size w.heap.size (Lib.byteCells ([] : List UInt8)) wl) := ⟨by have h_ := HI.out; rw [ht] at h_; exact h_⟩
                  have HLa : Aside0 (([] : List UInt8).length ≤ 300) := ⟨by decide⟩
                  rw [show (txt M n).length = 0 from by rw [ht]; rfl]
                  clear ht HI HTx HLn
                  go_wp2_with fail
                  have HBA := HBl
                  clear HBl
                  obtain ⟨l, hl⟩ : ∃ l : List UInt8, l = [] := ⟨[], rfl⟩
                  rw [← hl] at HL HA HLa
                  clear hl
                  generalize wl = wA at HA HBA ⊢
                case' neg =>
                  have hp : 0 < (txt M n).length := List.length_pos_iff.2 ht
                  have hp1 := decide_eq_true hp
                  have HL : Aside0 ((txt M n ++ [44]) ++ itemT (n, z) = txt M (n + 1)) := ⟨by have h_ := HTx.out; rw [if_neg ht] at h_; rw [h_, List.append_assoc]; rfl⟩
                  clear ht HTx
                  go_wp2_with fail
                  refine (comma_c w.heap.size w.heap.size (txt M n) _ HI.out (by have := HLn.out; omega) HBl.out.size).mono ?_
                  rintro e wA ⟨rfl, hI, hb⟩
                  have HA := Aside0.mk hI
                  have HBA := Aside0.mk (HBl.out.trans hb)
                  have HLa : Aside0 ((txt M n ++ [44]).length ≤ 300) := ⟨by have := HLn.out; rw [List.length_append, List.length_singleton]; omega⟩
                  clear hI hb hp hp1 HLn HI HBl
                  go_wp2_with fail
                  generalize txt M n ++ [44] = l at HL HA HLa
                all_goals
                  refine (itoa_c n HN.out _).mono ?_
                  rintro e w' ⟨rfl, rfl⟩
                  go_wp2_with fail
                  refine (ws_c w.heap.size w.heap.size l (dg n) _ HA.out (by have := HLa.out; omega) (by have := dg_len n; omega) HBA.out.size).mono ?_
                  rintro e wB ⟨⟨kk, rfl⟩, hI, hb⟩
                  have HIB := Aside0.mk hI
                  have HBB := Aside0.mk (HBA.out.trans hb)
                  clear hI hb HA HBA
                  by_cases hz : n < z
                  case' pos =>
                    have hz1 := decide_eq_true hz
                    have HT : Aside0 (((l ++ dg n) ++ [45]) ++ dg z = txt M (n + 1)) := ⟨by have h_ := HL.out; rw [← h_]; unfold itemT; rw [if_pos hz]; simp⟩
                    clear HL
                    go_wp2_with fail
                    refine (dash_c w.heap.size w.heap.size (l ++ dg n) _ HIB.out (by have := HLa.out; have := dg_len n; rw [List.length_append]; omega) HBB.out.size).mono ?_
                    rintro e wC ⟨rfl, hI, hb⟩
                    have HIC := Aside0.mk hI
                    have HBC := Aside0.mk (HBB.out.trans hb)
                    clear hI hb HIB HBB
                    go_wp2_with fail
                    refine (itoa_c z HLt.out _).mono ?_
                    rintro e w' ⟨rfl, rfl⟩
                    go_wp2_with fail
                    refine (ws_c w.heap.size w.heap.size ((l ++ dg n) ++ [45]) (dg z) _ HIC.out (by have := HLa.out; have := dg_len n; rw [List.length_append, List.length_append, List.length_singleton]; omega) (by have := dg_len z; omega) HBC.out.size).mono ?_
                    rintro e wD ⟨⟨kj, rfl⟩, hI, hb⟩
                    have HID := Aside0.mk hI
                    have HBD := Aside0.mk (HBC.out.trans hb)
                    clear hI hb HIC HBC hz hz1
                    rw [HT.out] at HID
                    clear HT HLa
                    go_wp2_with fail
                  case' neg =>
                    have hz1 : decide (n < z) = false := decide_eq_false hz
                    have HT : Aside0 (l ++ dg n = txt M (n + 1)) := ⟨by have h_ := HL.out; rw [← h_]; unfold itemT; rw [if_neg hz]⟩
                    clear HL
                    have HID := HIB
                    have HBD := HBB
                    clear HIB HBB hz
                    rw [HT.out] at HID
                    clear HT HLa
                    go_wp2_with fail
                    clear hz1
                    generalize wB = wD at HID HBD ⊢
                  all_goals
                    rcases HNx.out with ⟨e1, e2⟩ | ⟨n', hn1, hn2, hn3, e2, e1⟩
                    · have E2 := Aside0.mk e2
                      clear e2
                      refine (next_c M HM.out (z : Int) (by omega) _ e1 _).mono ?_
                      rintro e wE ⟨rfl, hb⟩
                      go_wp2_with fail
                      go_roundg k1
                      case measure => have := HK6.out; omega
                      case rel => exact ⟨0, false, _, rfl, rfl, rfl, ⟨below_step HBD.out hb⟩, ⟨by have := HK.out; have := HN.out; omega⟩, ⟨by have := HK6.out; omega⟩, ⟨.inr ⟨rfl, by rw [E2.out]; exact is_below HID.out hb⟩⟩⟩
                    · have E2 := Aside0.mk e2
                      have N1 := Aside0.mk hn1
                      have N2 := Aside0.mk hn2
                      have N3 := Aside0.mk hn3
                      clear e2 hn1 hn2 hn3
                      refine (next_c M HM.out (z : Int) (by omega) _ e1 _).mono ?_
                      rintro e wE ⟨rfl, hb⟩
                      go_wp2_with fail
                      go_roundg k1
                      case measure => have := HK6.out; omega
                      case rel => exact ⟨(n' : Int), true, _, rfl, rfl, rfl, ⟨below_step HBD.out hb⟩, ⟨by have := HK.out; have := HN.out; omega⟩, ⟨by have := HK6.out; omega⟩, ⟨.inl ⟨rfl, n', rfl, N1.out, N3.out, by have := HK.out; have := N2.out; omega, by rw [E2.out]; exact is_below HID.out hb⟩⟩⟩
        · have HI := Aside0.mk hI
          clear hI HR
          go_wp2_with fail
          refine (Tryd.Builder_String_any w.heap.size w.heap.size (txt M 64) _ HI.out HBl.out.size).mono ?_
          rintro e w' ⟨rfl, hb⟩
          go_wp2_with fail
          go_ret
          have hP : printL M = txt M 64 := if_neg H0.out
          exact ⟨by rw [hP]; rfl, HBl.out.trans hb⟩
/-- cpus.Print, in the printed form. -/
def cpus_Print.f (m : Int) : Option ByteArray := if 0 ≤ m ∧ m < 18446744073709551616 then some ⟨(printL m.toNat).toArray⟩ else none
theorem cpus_Print.calls (a0 : Int) (r : ByteArray) (w : World) (h : cpus_Print.f a0 = some r) :
    Calls Tryd.prog 131 #[.int .u64 a0] w fun e w' => e = .returned (.string r) ∧ Below w.heap.size w w' := by
  unfold cpus_Print.f at h
  split at h
  · rename_i hm
    obtain ⟨M, rfl⟩ := Int.eq_ofNat_of_zero_le hm.1
    obtain rfl := Option.some.inj h
    rw [Int.toNat_natCast]
    exact print_walk M (by omega) w
  · cases h
end Go.Proofs.YtilmbpdfdickoaaDoor.Given
/- cpus.Parse's own function 'number': its contract. -/
namespace Go.Proofs.YtilmbpdfdickoaaDoor.Pure
set_option linter.unusedVariables false
set_option linter.unusedSimpArgs false
def valL (l : List UInt8) : Nat := l.foldl (fun n b => n * 10 + (b.toNat - 48)) 0
theorem valL_snoc (l : List UInt8) (b : UInt8) : valL (l ++ [b]) = valL l * 10 + (b.toNat - 48) := by unfold valL; rw [List.foldl_append]; rfl
theorem isD_iff (b : UInt8) : isD b = true ↔ 48 ≤ b.toNat ∧ b.toNat ≤ 57 := by simp [isD]
theorem numV1 (a : UInt8) : numV [a] = if isD a then some (a.toNat - 48) else none := rfl
theorem numV2 (a b : UInt8) : numV [a, b] = if isD a = true ∧ isD b = true ∧ a.toNat ≠ 48 ∧ 10 * (a.toNat - 48) + (b.toNat - 48) < 64 then some (10 * (a.toNat - 48) + (b.toNat - 48)) else none := rfl
/-- What 'number' tells of the digits that it has read, at most three. -/
def tells (t : List UInt8) : Option Nat := if t = [] ∨ (1 < t.length ∧ t.head? = some 48) ∨ 64 ≤ valL t then none else some (valL t)
theorem tells_num (t d : List UInt8) (ht : ∀ x ∈ t, isD x = true) (h3 : t.length ≤ 3) (h1 : t.length < 3 → d = t) (h2 : t.length = 3 → 3 ≤ d.length) : tells t = numV d ∧ (numV d ≠ none → d = t) := by
  match t, h3 with
  | [], _ => rw [h1 (by simp)]; exact ⟨rfl, fun _ => rfl⟩
  | [a], _ =>
    rw [h1 (by simp)]
    have ha := (isD_iff a).1 (ht a (by simp))
    refine ⟨?_, fun _ => rfl⟩
    rw [numV1, if_pos (ht a (by simp))]
    unfold tells
    rw [if_neg]
    · simp [valL]
    · simp [valL]; omega
  | [a, b], _ =>
    rw [h1 (by simp)]
    have ha := (isD_iff a).1 (ht a (by simp))
    have hb := (isD_iff b).1 (ht b (by simp))
    refine ⟨?_, fun _ => rfl⟩
    rw [numV2]
    unfold tells
    have e : valL [a, b] = 10 * (a.toNat - 48) + (b.toNat - 48) := by simp [valL]; omega
    rw [e]
    have h48 : (a = 48) ↔ a.toNat = 48 := ⟨fun h => by rw [h]; rfl, fun h => UInt8.toNat_inj.1 h⟩
    by_cases hc : isD a = true ∧ isD b = true ∧ a.toNat ≠ 48 ∧ 10 * (a.toNat - 48) + (b.toNat - 48) < 64
    · rw [if_pos hc, if_neg]
      simp only [List.head?_cons, Option.some.injEq, h48, List.length_cons, List.length_nil]
      rintro (h | ⟨_, h⟩ | h)
      · cases h
      · exact hc.2.2.1 h
      · omega
    · rw [if_neg hc, if_pos]
      simp only [List.head?_cons, Option.some.injEq, h48, List.length_cons, List.length_nil]
      by_cases h4 : a.toNat = 48
      · exact .inr (.inl ⟨by omega, h4⟩)
      · refine .inr (.inr ?_)
        by_cases h5 : 10 * (a.toNat - 48) + (b.toNat - 48) < 64
        · exact absurd ⟨ht a (by simp), ht b (by simp), h4, h5⟩ hc
        · omega
  | [a, b, c], _ =>
    have hd := h2 rfl
    have hn : numV d = none := by
      match d, hd with
      | _ :: _ :: _ :: _, _ => rfl
    have ha := (isD_iff a).1 (ht a (by simp))
    have hb := (isD_iff b).1 (ht b (by simp))
    have hc := (isD_iff c).1 (ht c (by simp))
    refine ⟨?_, fun h => absurd hn h⟩
    rw [hn]
    unfold tells
    have h48 : (a = 48) ↔ a.toNat = 48 := ⟨fun h => by rw [h]; rfl, fun h => UInt8.toNat_inj.1 h⟩
    have e : valL [a, b, c] = 100 * (a.toNat - 48) + 10 * (b.toNat - 48) + (c.toNat - 48) := by simp [valL]; omega
    rw [if_pos]
    simp only [List.head?_cons, Option.some.injEq, h48, List.length_cons, List.length_nil, e]
    by_cases h4 : a.toNat = 48
    · exact .inr (.inl ⟨by omega, h4⟩)
    · exact .inr (.inr (by omega))
  | _ :: _ :: _ :: _ :: _, h => simp at h
/-- The digits read from p on, up to i. -/
def sub (l : List UInt8) (p i : Nat) : List UInt8 := (l.drop p).take (i - p)
theorem sub_snoc (l : List UInt8) (p i : Nat) (h : p ≤ i) (hi : i < l.length) : sub l p (i + 1) = sub l p i ++ [l[i]] := by
  unfold sub
  rw [show i + 1 - p = (i - p) + 1 by omega, List.take_succ_eq_append_getElem (by simp; omega)]
  congr 2
  rw [List.getElem_drop]
  congr 1
  omega
theorem sub_len (l : List UInt8) (p i : Nat) (h : p ≤ i) (hi : i ≤ l.length) : (sub l p i).length = i - p := by
  unfold sub; simp; omega
theorem sub_self (l : List UInt8) (p : Nat) : sub l p p = [] := by unfold sub; simp
theorem sub_head (l : List UInt8) (p i : Nat) (h : p < i) (hi : i ≤ l.length) : (sub l p i).head? = some (l[p]'(by omega)) := by
  unfold sub
  rw [List.drop_eq_getElem_cons (by omega), show i - p = (i - p - 1) + 1 by omega]
  rfl
/-- Where reading ends: nothing is left, or what stands there is no digit, or three have been read. -/
theorem sub_end (l : List UInt8) (p i : Nat) (h : p ≤ i) (hi : i ≤ l.length) (hd : ∀ x ∈ sub l p i, isD x = true) (h3 : i ≤ p + 3) (he : i = l.length ∨ i = p + 3 ∨ ∃ hl : i < l.length, isD l[i] = false) :
    tells (sub l p i) = numV ((l.drop p).takeWhile isD) ∧ (numV ((l.drop p).takeWhile isD) ≠ none → (l.drop p).takeWhile isD = sub l p i) := by
  have hlen := sub_len l p i h hi
  have hcut : l.drop p = sub l p i ++ l.drop i := by
    unfold sub
    have := (List.take_append_drop (i - p) (l.drop p)).symm
    rw [List.drop_drop, show p + (i - p) = i by omega] at this
    exact this
  have happ : ∀ (a b : List UInt8), (∀ x ∈ a, isD x = true) → (a ++ b).takeWhile isD = a ++ b.takeWhile isD := by
    intro a b
    induction a with
    | nil => intro _; rfl
    | cons x a ih => intro h; rw [List.cons_append, List.takeWhile_cons, h x List.mem_cons_self, if_pos rfl, ih (fun y hy => h y (List.mem_cons_of_mem _ hy))]; rfl
  have htw : (l.drop p).takeWhile isD = sub l p i ++ (l.drop i).takeWhile isD := by rw [hcut]; exact happ _ _ hd
  refine tells_num (sub l p i) _ hd (by omega) (fun h3' => ?_) (fun h3' => ?_)
  · rw [htw]
    rcases he with he | he | ⟨hl, he⟩
    · rw [he, List.drop_length]; simp
    · omega
    · rw [List.drop_eq_getElem_cons hl, List.takeWhile_cons, he, if_neg Bool.false_ne_true, List.append_nil]
  · rw [htw, List.length_append]; omega
theorem valL_lt : ∀ (t : List UInt8), (∀ x ∈ t, isD x = true) → t.length ≤ 3 → valL t ≤ 999 := by
  intro t ht h3
  match t, h3 with
  | [], _ => decide
  | [a], _ => have ha := (isD_iff a).1 (ht a (by simp)); simp [valL]; omega
  | [a, b], _ => have ha := (isD_iff a).1 (ht a (by simp)); have hb := (isD_iff b).1 (ht b (by simp)); simp [valL]; omega
  | [a, b, c], _ => have ha := (isD_iff a).1 (ht a (by simp)); have hb := (isD_iff b).1 (ht b (by simp)); have hc := (isD_iff c).1 (ht c (by simp)); simp [valL]; omega
  | _ :: _ :: _ :: _ :: _, h => simp at h
end Go.Proofs.YtilmbpdfdickoaaDoor.Pure
/- cpus.Parse's own function 'number', walked. -/
namespace Go.Proofs.YtilmbpdfdickoaaDoor.Given
open Go.RowKit Go.Proofs.YtilmbpdfdickoaaDoor Go.Proofs.YtilmbpdfdickoaaDoor.Pure Go.Proofs.YtilmbpdfdickoaaDoorW.PrintWords
set_option linter.unusedVariables false
set_option linter.unusedSimpArgs false
/-- What 'number' leaves: its place behind the digits, where they are a number; and nothing else has changed. -/
def NumPost (B gS gA : Nat) (s : ByteArray) (p : Nat) (w : World) (e : Ending) (w' : World) : Prop :=
  Below B w w' ∧ w'.heap[gS]? = some (.cells #[.string s] 9 (0, 0)) ∧
    ((∃ n : Nat, numV ((s.data.toList.drop p).takeWhile isD) = some n ∧ e = .returned (.int .i64 n) ∧ w'.heap[gA]? = some (.cells #[.int .i64 ((p + ((s.data.toList.drop p).takeWhile isD).length : Nat) : Int)] 3 (0, 0))) ∨
      (numV ((s.data.toList.drop p).takeWhile isD) = none ∧ e = .returned (.int .i64 (-1))))
theorem size_list (s : ByteArray) : s.data.toList.length = s.size := rfl
set_option maxHeartbeats 8000000 in
set_option maxRecDepth 100000 in
theorem number_c (B gS gA : Nat) (s : ByteArray) (p : Nat) (w : World) (hB : B ≤ gA) (hne : gS ≠ gA) (hS : w.heap[gS]? = some (.cells #[.string s] 9 (0, 0))) (hA : w.heap[gA]? = some (.cells #[.int .i64 (p : Int)] 3 (0, 0))) (hp : p ≤ s.size) (hsz : s.size ≤ 1000) :
    Calls Tryd.prog 139 #[.pointer (some ⟨gA, 0, none⟩), .pointer (some ⟨gS, 0, none⟩)] w (NumPost B gS gA s p w) := by
  have cS : w.cell? ⟨gS, 0, none⟩ = some (.string s) := (blk_cell hS 0).trans rfl
  have cA : w.cell? ⟨gA, 0, none⟩ = some (.int .i64 (p : Int)) := (blk_cell hA 0).trans rfl
  have KB := Aside0.mk hB
  have KNE := Aside0.mk hne
  have KS := Aside0.mk hS
  have KA := Aside0.mk hA
  have KP := Aside0.mk hp
  have KZ := Aside0.mk hsz
  clear hB hne hS hA hp hsz
  go_enter Tryd.func139, Tryd.ntmps139
  go_wp2_with fail
  go_quiet (fail)
  go_wp2_with fail
  clear cS cA
  go_loopg [3] 5 (fun kq v3 w' => ∃ (i : Nat) (wl : World), v3 = .int .i64 ((valL (sub s.data.toList p i) : Nat) : Int) ∧ wl = w' ∧ Aside0 (p ≤ i ∧ i ≤ s.size ∧ i ≤ p + 3 ∧ ∀ x ∈ sub s.data.toList p i, isD x = true) ∧ Aside0 (p + 4 ≤ i + kq ∧ kq ≤ 5) ∧ Aside0 (Below B w w') ∧ Aside0 (w'.heap[gS]? = some (.cells #[.string s] 9 (0, 0))) ∧ Aside0 (w'.heap[gA]? = some (.cells #[.int .i64 (i : Int)] 3 (0, 0))))
  case atStart => exact ⟨p, _, by rw [sub_self]; rfl, rfl, ⟨Nat.le_refl _, KP.out, by omega, by rw [sub_self]; simp⟩, ⟨by omega, Nat.le_refl _⟩, ⟨by repeat (with_reducible first | exact Below.refl _ _ | apply pw_below_drewN | apply below_drew1)⟩, ⟨KS.out⟩, ⟨KA.out⟩⟩
  case round =>
    obtain ⟨i, wl, rfl, rfl, HI, HK, HB, HS, HA⟩ := hrel
    cases gk with
    | zero => exact absurd HK.out (by have := HI.out; omega)
    | succ k1 =>
      have cS : wl.cell? ⟨gS, 0, none⟩ = some (.string s) := (blk_cell HS.out 0).trans rfl
      have cA : wl.cell? ⟨gA, 0, none⟩ = some (.int .i64 (i : Int)) := (blk_cell HA.out 0).trans rfl
      have fA := blk_frozen HA.out 0
      have hv := valL_lt _ HI.out.2.2.2 (by rw [sub_len s.data.toList p i HI.out.1 HI.out.2.1]; have := HI.out.2.2.1; omega)
      have hv1 : ((valL (sub s.data.toList p i) : Nat) : Int) ≤ 999 := by omega
      have hi1 : (i : Int) ≤ 1000 := by have := HI.out.2.1; have := KZ.out; omega
      by_cases hlt : i < s.size
      · by_cases hd : 48 ≤ (s[i].toNat : Int) ∧ (s[i].toNat : Int) ≤ 57
        · obtain ⟨hd0, hd1⟩ := hd
          by_cases h3 : i < p + 3
          · have t0 := decide_eq_true hlt
            have t3 : decide (wrap64 ((i : Int) - (p : Int)) < 3) = true := decide_eq_true (by unfold wrap64; have := HI.out; omega)
            have HSn := Aside0.mk (sub_snoc s.data.toList p i HI.out.1 hlt)
            have HE : Aside0 (((valL (sub s.data.toList p (i + 1)) : Nat) : Int) = (valL (sub s.data.toList p i) : Int) * 10 + ((s[i].toNat : Int) - 48)) := ⟨by rw [HSn.out, valL_snoc]; show (((valL _ * 10 + (s[i].toNat - 48) : Nat)) : Int) = _; omega⟩
            have HD : Aside0 (isD s[i] = true) := ⟨(isD_iff _).2 ⟨by omega, by omega⟩⟩
            have H3 := Aside0.mk h3
            have HT := Aside0.mk hlt
            clear hv
            go_wp2_with fail
            go_roundg k1
            case measure => have := HK.out; omega
            case rel =>
              refine ⟨i + 1, _, ?_, rfl, ⟨by have := HI.out; omega, HT.out, by have := H3.out; omega, ?_⟩, ⟨by have := HK.out; omega, by have := HK.out; omega⟩, ⟨?_⟩, ⟨?_⟩, ⟨?_⟩⟩
              · rw [HE.out]
              · intro x hx
                rw [HSn.out] at hx
                rcases List.mem_append.1 hx with hx | hx
                · exact HI.out.2.2.2 x hx
                · rw [List.mem_singleton.1 hx]; exact HD.out
              · exact HB.out.setCell KB.out _
              · exact blk_far HS.out KNE.out _
              · exact blk_put HA.out 0 _ rfl
          · have t0 := decide_eq_true hlt
            have t3 : decide (wrap64 ((i : Int) - (p : Int)) < 3) = false := decide_eq_false (by unfold wrap64; have := HI.out; omega)
            have HX : Aside0 (i = s.data.toList.length ∨ i = p + 3 ∨ ∃ hl : i < s.data.toList.length, isD s.data.toList[i] = false) := ⟨.inr (.inl (by have := HI.out; omega))⟩
            have HEnd := Aside0.mk (sub_end s.data.toList p i HI.out.1 HI.out.2.1 HI.out.2.2.2 HI.out.2.2.1 HX.out)
            have hlen := sub_len s.data.toList p i HI.out.1 HI.out.2.1
            by_cases e0 : i = p
            · have f0 : ((i : Int) == (p : Int)) = true := beq_iff_eq.mpr (by omega)
              have HT : Aside0 (tells (sub s.data.toList p i) = none) := ⟨if_pos (.inl (List.length_eq_zero_iff.1 (by omega)))⟩
              clear hv e0 hlen h3
              go_wp2_with fail
              go_ret
              exact ⟨HB.out, HS.out, .inr ⟨by rw [← HEnd.out.1]; exact HT.out, rfl⟩⟩
            · have f0 : ((i : Int) == (p : Int)) = false := beq_eq_false_iff_ne.mpr (by omega)
              have hne : ¬ (sub s.data.toList p i = []) := fun h => by rw [h] at hlen; have := HI.out.1; simp at hlen; omega
              by_cases e1 : i = p + 1
              · have f1 : decide (1 < (wrap64 ((i : Int) - (p : Int)))) = false := decide_eq_false (by unfold wrap64; have := HI.out.1; omega)
                have h9 : valL (sub s.data.toList p i) < 64 := by
                  obtain ⟨a, ha⟩ := List.length_eq_one_iff.1 (show (sub s.data.toList p i).length = 1 by omega)
                  have hd_ := (isD_iff a).1 (HI.out.2.2.2 a (by rw [ha]; simp))
                  rw [ha]; simp [valL]; omega
                have HT : Aside0 (tells (sub s.data.toList p i) = some (valL (sub s.data.toList p i))) := ⟨if_neg (fun h => h.elim hne (fun h => h.elim (fun h => by have := h.1; omega) (fun h => by omega)))⟩
                have f3 : decide (64 ≤ valL (sub s.data.toList p i)) = false := decide_eq_false (by omega)
                have f4 : decide ((64 : Int) ≤ ((valL (sub s.data.toList p i) : Nat) : Int)) = false := decide_eq_false (by omega)
                clear hv e0 e1 h9 hne hlen h3
                go_wp2_with fail
                go_ret
                exact ⟨HB.out, HS.out, .inl ⟨_, by rw [← HEnd.out.1]; exact HT.out, rfl, by rw [HEnd.out.2 (by rw [← HEnd.out.1, HT.out]; exact fun h => by cases h), sub_len s.data.toList p i HI.out.1 HI.out.2.1, show p + (i - p) = i from by have := HI.out.1; omega]; exact HA.out⟩⟩
              · have f1 : decide (1 < (wrap64 ((i : Int) - (p : Int)))) = true := decide_eq_true (by unfold wrap64; have := HI.out.1; have := HI.out.2.2.1; omega)
                have f1b : decide ((1 : Int) < (i : Int) - (p : Int)) = true := decide_eq_true (by have := HI.out.1; omega)
                have hps : p < s.size := by have := HI.out.1; have := HI.out.2.1; omega
                have hh := sub_head s.data.toList p i (by have := HI.out.1; omega) HI.out.2.1
                have hgl : s.data.toList[p]'hps = s[p] := rfl
                rw [hgl] at hh
                by_cases e2 : s[p].toNat = 48
                · have f2 : ((s[p].toNat : Int) == 48) = true := beq_iff_eq.mpr (by omega)
                  have HT : Aside0 (tells (sub s.data.toList p i) = none) := ⟨if_pos (.inr (.inl ⟨by have := HI.out.1; omega, by rw [hh, show s[p] = 48 from UInt8.toNat_inj.1 e2]⟩))⟩
                  clear hv e0 e1 e2 hne hlen hh hgl h3
                  go_wp2_with fail
                  go_ret
                  exact ⟨HB.out, HS.out, .inr ⟨by rw [← HEnd.out.1]; exact HT.out, rfl⟩⟩
                · have f2 : ((s[p].toNat : Int) == 48) = false := beq_eq_false_iff_ne.mpr (by omega)
                  by_cases e3 : 64 ≤ valL (sub s.data.toList p i)
                  · have f3 := decide_eq_true e3
                    have f4 : decide ((64 : Int) ≤ ((valL (sub s.data.toList p i) : Nat) : Int)) = true := decide_eq_true (by omega)
                    have HT : Aside0 (tells (sub s.data.toList p i) = none) := ⟨if_pos (.inr (.inr e3))⟩
                    clear hv e0 e1 e2 e3 hne hlen hh hgl h3
                    go_wp2_with fail
                    go_ret
                    exact ⟨HB.out, HS.out, .inr ⟨by rw [← HEnd.out.1]; exact HT.out, rfl⟩⟩
                  · have f3 : decide (64 ≤ valL (sub s.data.toList p i)) = false := decide_eq_false e3
                    have f4 : decide ((64 : Int) ≤ ((valL (sub s.data.toList p i) : Nat) : Int)) = false := decide_eq_false (by omega)
                    have HT : Aside0 (tells (sub s.data.toList p i) = some (valL (sub s.data.toList p i))) := ⟨if_neg (fun h => h.elim hne (fun h => h.elim (fun h => e2 (by have h_ := h.2; rw [hh] at h_; rw [Option.some.inj h_]; rfl)) e3))⟩
                    clear hv e0 e1 e2 e3 hne hlen hh hgl h3
                    go_wp2_with fail
                    go_ret
                    exact ⟨HB.out, HS.out, .inl ⟨_, by rw [← HEnd.out.1]; exact HT.out, rfl, by rw [HEnd.out.2 (by rw [← HEnd.out.1, HT.out]; exact fun h => by cases h), sub_len s.data.toList p i HI.out.1 HI.out.2.1, show p + (i - p) = i from by have := HI.out.1; omega]; exact HA.out⟩⟩
        · have t0 := decide_eq_true hlt
          have HX : Aside0 (i = s.data.toList.length ∨ i = p + 3 ∨ ∃ hl : i < s.data.toList.length, isD s.data.toList[i] = false) := ⟨.inr (.inr ⟨hlt, by
            cases hh : isD s.data.toList[i] with
            | false => rfl
            | true => exact absurd ((isD_iff _).1 hh) (fun h => hd ⟨by have := h.1; show (48 : Int) ≤ ((s.data.toList[i]).toNat : Int); omega, by have := h.2; show ((s.data.toList[i]).toNat : Int) ≤ 57; omega⟩)⟩)⟩
          by_cases hd0 : 48 ≤ (s[i].toNat : Int)
          · have hd1 : ¬ ((s[i].toNat : Int) ≤ 57) := fun h => hd ⟨hd0, h⟩
            clear hd
            have HEnd := Aside0.mk (sub_end s.data.toList p i HI.out.1 HI.out.2.1 HI.out.2.2.2 HI.out.2.2.1 HX.out)
            have hlen := sub_len s.data.toList p i HI.out.1 HI.out.2.1
            by_cases e0 : i = p
            · have f0 : ((i : Int) == (p : Int)) = true := beq_iff_eq.mpr (by omega)
              have HT : Aside0 (tells (sub s.data.toList p i) = none) := ⟨if_pos (.inl (List.length_eq_zero_iff.1 (by omega)))⟩
              clear hv e0 hlen 
              go_wp2_with fail
              go_ret
              exact ⟨HB.out, HS.out, .inr ⟨by rw [← HEnd.out.1]; exact HT.out, rfl⟩⟩
            · have f0 : ((i : Int) == (p : Int)) = false := beq_eq_false_iff_ne.mpr (by omega)
              have hne : ¬ (sub s.data.toList p i = []) := fun h => by rw [h] at hlen; have := HI.out.1; simp at hlen; omega
              by_cases e1 : i = p + 1
              · have f1 : decide (1 < (wrap64 ((i : Int) - (p : Int)))) = false := decide_eq_false (by unfold wrap64; have := HI.out.1; omega)
                have h9 : valL (sub s.data.toList p i) < 64 := by
                  obtain ⟨a, ha⟩ := List.length_eq_one_iff.1 (show (sub s.data.toList p i).length = 1 by omega)
                  have hd_ := (isD_iff a).1 (HI.out.2.2.2 a (by rw [ha]; simp))
                  rw [ha]; simp [valL]; omega
                have HT : Aside0 (tells (sub s.data.toList p i) = some (valL (sub s.data.toList p i))) := ⟨if_neg (fun h => h.elim hne (fun h => h.elim (fun h => by have := h.1; omega) (fun h => by omega)))⟩
                have f3 : decide (64 ≤ valL (sub s.data.toList p i)) = false := decide_eq_false (by omega)
                have f4 : decide ((64 : Int) ≤ ((valL (sub s.data.toList p i) : Nat) : Int)) = false := decide_eq_false (by omega)
                clear hv e0 e1 h9 hne hlen 
                go_wp2_with fail
                go_ret
                exact ⟨HB.out, HS.out, .inl ⟨_, by rw [← HEnd.out.1]; exact HT.out, rfl, by rw [HEnd.out.2 (by rw [← HEnd.out.1, HT.out]; exact fun h => by cases h), sub_len s.data.toList p i HI.out.1 HI.out.2.1, show p + (i - p) = i from by have := HI.out.1; omega]; exact HA.out⟩⟩
              · have f1 : decide (1 < (wrap64 ((i : Int) - (p : Int)))) = true := decide_eq_true (by unfold wrap64; have := HI.out.1; have := HI.out.2.2.1; omega)
                have f1b : decide ((1 : Int) < (i : Int) - (p : Int)) = true := decide_eq_true (by have := HI.out.1; omega)
                have hps : p < s.size := by have := HI.out.1; have := HI.out.2.1; omega
                have hh := sub_head s.data.toList p i (by have := HI.out.1; omega) HI.out.2.1
                have hgl : s.data.toList[p]'hps = s[p] := rfl
                rw [hgl] at hh
                by_cases e2 : s[p].toNat = 48
                · have f2 : ((s[p].toNat : Int) == 48) = true := beq_iff_eq.mpr (by omega)
                  have HT : Aside0 (tells (sub s.data.toList p i) = none) := ⟨if_pos (.inr (.inl ⟨by have := HI.out.1; omega, by rw [hh, show s[p] = 48 from UInt8.toNat_inj.1 e2]⟩))⟩
                  clear hv e0 e1 e2 hne hlen hh hgl 
                  go_wp2_with fail
                  go_ret
                  exact ⟨HB.out, HS.out, .inr ⟨by rw [← HEnd.out.1]; exact HT.out, rfl⟩⟩
                · have f2 : ((s[p].toNat : Int) == 48) = false := beq_eq_false_iff_ne.mpr (by omega)
                  by_cases e3 : 64 ≤ valL (sub s.data.toList p i)
                  · have f3 := decide_eq_true e3
                    have f4 : decide ((64 : Int) ≤ ((valL (sub s.data.toList p i) : Nat) : Int)) = true := decide_eq_true (by omega)
                    have HT : Aside0 (tells (sub s.data.toList p i) = none) := ⟨if_pos (.inr (.inr e3))⟩
                    clear hv e0 e1 e2 e3 hne hlen hh hgl 
                    go_wp2_with fail
                    go_ret
                    exact ⟨HB.out, HS.out, .inr ⟨by rw [← HEnd.out.1]; exact HT.out, rfl⟩⟩
                  · have f3 : decide (64 ≤ valL (sub s.data.toList p i)) = false := decide_eq_false e3
                    have f4 : decide ((64 : Int) ≤ ((valL (sub s.data.toList p i) : Nat) : Int)) = false := decide_eq_false (by omega)
                    have HT : Aside0 (tells (sub s.data.toList p i) = some (valL (sub s.data.toList p i))) := ⟨if_neg (fun h => h.elim hne (fun h => h.elim (fun h => e2 (by have h_ := h.2; rw [hh] at h_; rw [Option.some.inj h_]; rfl)) e3))⟩
                    clear hv e0 e1 e2 e3 hne hlen hh hgl 
                    go_wp2_with fail
                    go_ret
                    exact ⟨HB.out, HS.out, .inl ⟨_, by rw [← HEnd.out.1]; exact HT.out, rfl, by rw [HEnd.out.2 (by rw [← HEnd.out.1, HT.out]; exact fun h => by cases h), sub_len s.data.toList p i HI.out.1 HI.out.2.1, show p + (i - p) = i from by have := HI.out.1; omega]; exact HA.out⟩⟩
          · clear hd
            have HEnd := Aside0.mk (sub_end s.data.toList p i HI.out.1 HI.out.2.1 HI.out.2.2.2 HI.out.2.2.1 HX.out)
            have hlen := sub_len s.data.toList p i HI.out.1 HI.out.2.1
            by_cases e0 : i = p
            · have f0 : ((i : Int) == (p : Int)) = true := beq_iff_eq.mpr (by omega)
              have HT : Aside0 (tells (sub s.data.toList p i) = none) := ⟨if_pos (.inl (List.length_eq_zero_iff.1 (by omega)))⟩
              clear hv e0 hlen 
              go_wp2_with fail
              go_ret
              exact ⟨HB.out, HS.out, .inr ⟨by rw [← HEnd.out.1]; exact HT.out, rfl⟩⟩
            · have f0 : ((i : Int) == (p : Int)) = false := beq_eq_false_iff_ne.mpr (by omega)
              have hne : ¬ (sub s.data.toList p i = []) := fun h => by rw [h] at hlen; have := HI.out.1; simp at hlen; omega
              by_cases e1 : i = p + 1
              · have f1 : decide (1 < (wrap64 ((i : Int) - (p : Int)))) = false := decide_eq_false (by unfold wrap64; have := HI.out.1; omega)
                have h9 : valL (sub s.data.toList p i) < 64 := by
                  obtain ⟨a, ha⟩ := List.length_eq_one_iff.1 (show (sub s.data.toList p i).length = 1 by omega)
                  have hd_ := (isD_iff a).1 (HI.out.2.2.2 a (by rw [ha]; simp))
                  rw [ha]; simp [valL]; omega
                have HT : Aside0 (tells (sub s.data.toList p i) = some (valL (sub s.data.toList p i))) := ⟨if_neg (fun h => h.elim hne (fun h => h.elim (fun h => by have := h.1; omega) (fun h => by omega)))⟩
                have f3 : decide (64 ≤ valL (sub s.data.toList p i)) = false := decide_eq_false (by omega)
                have f4 : decide ((64 : Int) ≤ ((valL (sub s.data.toList p i) : Nat) : Int)) = false := decide_eq_false (by omega)
                clear hv e0 e1 h9 hne hlen 
                go_wp2_with fail
                go_ret
                exact ⟨HB.out, HS.out, .inl ⟨_, by rw [← HEnd.out.1]; exact HT.out, rfl, by rw [HEnd.out.2 (by rw [← HEnd.out.1, HT.out]; exact fun h => by cases h), sub_len s.data.toList p i HI.out.1 HI.out.2.1, show p + (i - p) = i from by have := HI.out.1; omega]; exact HA.out⟩⟩
              · have f1 : decide (1 < (wrap64 ((i : Int) - (p : Int)))) = true := decide_eq_true (by unfold wrap64; have := HI.out.1; have := HI.out.2.2.1; omega)
                have f1b : decide ((1 : Int) < (i : Int) - (p : Int)) = true := decide_eq_true (by have := HI.out.1; omega)
                have hps : p < s.size := by have := HI.out.1; have := HI.out.2.1; omega
                have hh := sub_head s.data.toList p i (by have := HI.out.1; omega) HI.out.2.1
                have hgl : s.data.toList[p]'hps = s[p] := rfl
                rw [hgl] at hh
                by_cases e2 : s[p].toNat = 48
                · have f2 : ((s[p].toNat : Int) == 48) = true := beq_iff_eq.mpr (by omega)
                  have HT : Aside0 (tells (sub s.data.toList p i) = none) := ⟨if_pos (.inr (.inl ⟨by have := HI.out.1; omega, by rw [hh, show s[p] = 48 from UInt8.toNat_inj.1 e2]⟩))⟩
                  clear hv e0 e1 e2 hne hlen hh hgl 
                  go_wp2_with fail
                  go_ret
                  exact ⟨HB.out, HS.out, .inr ⟨by rw [← HEnd.out.1]; exact HT.out, rfl⟩⟩
                · have f2 : ((s[p].toNat : Int) == 48) = false := beq_eq_false_iff_ne.mpr (by omega)
                  by_cases e3 : 64 ≤ valL (sub s.data.toList p i)
                  · have f3 := decide_eq_true e3
                    have f4 : decide ((64 : Int) ≤ ((valL (sub s.data.toList p i) : Nat) : Int)) = true := decide_eq_true (by omega)
                    have HT : Aside0 (tells (sub s.data.toList p i) = none) := ⟨if_pos (.inr (.inr e3))⟩
                    clear hv e0 e1 e2 e3 hne hlen hh hgl 
                    go_wp2_with fail
                    go_ret
                    exact ⟨HB.out, HS.out, .inr ⟨by rw [← HEnd.out.1]; exact HT.out, rfl⟩⟩
                  · have f3 : decide (64 ≤ valL (sub s.data.toList p i)) = false := decide_eq_false e3
                    have f4 : decide ((64 : Int) ≤ ((valL (sub s.data.toList p i) : Nat) : Int)) = false := decide_eq_false (by omega)
                    have HT : Aside0 (tells (sub s.data.toList p i) = some (valL (sub s.data.toList p i))) := ⟨if_neg (fun h => h.elim hne (fun h => h.elim (fun h => e2 (by have h_ := h.2; rw [hh] at h_; rw [Option.some.inj h_]; rfl)) e3))⟩
                    clear hv e0 e1 e2 e3 hne hlen hh hgl 
                    go_wp2_with fail
                    go_ret
                    exact ⟨HB.out, HS.out, .inl ⟨_, by rw [← HEnd.out.1]; exact HT.out, rfl, by rw [HEnd.out.2 (by rw [← HEnd.out.1, HT.out]; exact fun h => by cases h), sub_len s.data.toList p i HI.out.1 HI.out.2.1, show p + (i - p) = i from by have := HI.out.1; omega]; exact HA.out⟩⟩
      · have HX : Aside0 (i = s.data.toList.length ∨ i = p + 3 ∨ ∃ hl : i < s.data.toList.length, isD s.data.toList[i] = false) := ⟨.inl (by have h_ := HI.out.2.1; show i = s.size; omega)⟩
        have t0 : decide (i < s.size) = false := decide_eq_false hlt
        have HEnd := Aside0.mk (sub_end s.data.toList p i HI.out.1 HI.out.2.1 HI.out.2.2.2 HI.out.2.2.1 HX.out)
        have hlen := sub_len s.data.toList p i HI.out.1 HI.out.2.1
        by_cases e0 : i = p
        · have f0 : ((i : Int) == (p : Int)) = true := beq_iff_eq.mpr (by omega)
          have HT : Aside0 (tells (sub s.data.toList p i) = none) := ⟨if_pos (.inl (List.length_eq_zero_iff.1 (by omega)))⟩
          clear hv e0 hlen 
          go_wp2_with fail
          go_ret
          exact ⟨HB.out, HS.out, .inr ⟨by rw [← HEnd.out.1]; exact HT.out, rfl⟩⟩
        · have f0 : ((i : Int) == (p : Int)) = false := beq_eq_false_iff_ne.mpr (by omega)
          have hne : ¬ (sub s.data.toList p i = []) := fun h => by rw [h] at hlen; have := HI.out.1; simp at hlen; omega
          by_cases e1 : i = p + 1
          · have f1 : decide (1 < (wrap64 ((i : Int) - (p : Int)))) = false := decide_eq_false (by unfold wrap64; have := HI.out.1; omega)
            have h9 : valL (sub s.data.toList p i) < 64 := by
              obtain ⟨a, ha⟩ := List.length_eq_one_iff.1 (show (sub s.data.toList p i).length = 1 by omega)
              have hd_ := (isD_iff a).1 (HI.out.2.2.2 a (by rw [ha]; simp))
              rw [ha]; simp [valL]; omega
            have HT : Aside0 (tells (sub s.data.toList p i) = some (valL (sub s.data.toList p i))) := ⟨if_neg (fun h => h.elim hne (fun h => h.elim (fun h => by have := h.1; omega) (fun h => by omega)))⟩
            have f3 : decide (64 ≤ valL (sub s.data.toList p i)) = false := decide_eq_false (by omega)
            have f4 : decide ((64 : Int) ≤ ((valL (sub s.data.toList p i) : Nat) : Int)) = false := decide_eq_false (by omega)
            clear hv e0 e1 h9 hne hlen 
            go_wp2_with fail
            go_ret
            exact ⟨HB.out, HS.out, .inl ⟨_, by rw [← HEnd.out.1]; exact HT.out, rfl, by rw [HEnd.out.2 (by rw [← HEnd.out.1, HT.out]; exact fun h => by cases h), sub_len s.data.toList p i HI.out.1 HI.out.2.1, show p + (i - p) = i from by have := HI.out.1; omega]; exact HA.out⟩⟩
          · have f1 : decide (1 < (wrap64 ((i : Int) - (p : Int)))) = true := decide_eq_true (by unfold wrap64; have := HI.out.1; have := HI.out.2.2.1; omega)
            have f1b : decide ((1 : Int) < (i : Int) - (p : Int)) = true := decide_eq_true (by have := HI.out.1; omega)
            have hps : p < s.size := by have := HI.out.1; have := HI.out.2.1; omega
            have hh := sub_head s.data.toList p i (by have := HI.out.1; omega) HI.out.2.1
            have hgl : s.data.toList[p]'hps = s[p] := rfl
            rw [hgl] at hh
            by_cases e2 : s[p].toNat = 48
            · have f2 : ((s[p].toNat : Int) == 48) = true := beq_iff_eq.mpr (by omega)
              have HT : Aside0 (tells (sub s.data.toList p i) = none) := ⟨if_pos (.inr (.inl ⟨by have := HI.out.1; omega, by rw [hh, show s[p] = 48 from UInt8.toNat_inj.1 e2]⟩))⟩
              clear hv e0 e1 e2 hne hlen hh hgl 
              go_wp2_with fail
              go_ret
              exact ⟨HB.out, HS.out, .inr ⟨by rw [← HEnd.out.1]; exact HT.out, rfl⟩⟩
            · have f2 : ((s[p].toNat : Int) == 48) = false := beq_eq_false_iff_ne.mpr (by omega)
              by_cases e3 : 64 ≤ valL (sub s.data.toList p i)
              · have f3 := decide_eq_true e3
                have f4 : decide ((64 : Int) ≤ ((valL (sub s.data.toList p i) : Nat) : Int)) = true := decide_eq_true (by omega)
                have HT : Aside0 (tells (sub s.data.toList p i) = none) := ⟨if_pos (.inr (.inr e3))⟩
                clear hv e0 e1 e2 e3 hne hlen hh hgl 
                go_wp2_with fail
                go_ret
                exact ⟨HB.out, HS.out, .inr ⟨by rw [← HEnd.out.1]; exact HT.out, rfl⟩⟩
              · have f3 : decide (64 ≤ valL (sub s.data.toList p i)) = false := decide_eq_false e3
                have f4 : decide ((64 : Int) ≤ ((valL (sub s.data.toList p i) : Nat) : Int)) = false := decide_eq_false (by omega)
                have HT : Aside0 (tells (sub s.data.toList p i) = some (valL (sub s.data.toList p i))) := ⟨if_neg (fun h => h.elim hne (fun h => h.elim (fun h => e2 (by have h_ := h.2; rw [hh] at h_; rw [Option.some.inj h_]; rfl)) e3))⟩
                clear hv e0 e1 e2 e3 hne hlen hh hgl 
                go_wp2_with fail
                go_ret
                exact ⟨HB.out, HS.out, .inl ⟨_, by rw [← HEnd.out.1]; exact HT.out, rfl, by rw [HEnd.out.2 (by rw [← HEnd.out.1, HT.out]; exact fun h => by cases h), sub_len s.data.toList p i HI.out.1 HI.out.2.1, show p + (i - p) = i from by have := HI.out.1; omega]; exact HA.out⟩⟩
end Go.Proofs.YtilmbpdfdickoaaDoor.Given
/- cpus.Parse, walked. -/
namespace Go.Proofs.YtilmbpdfdickoaaDoor.Given
open Go.RowKit Go.Proofs.YtilmbpdfdickoaaDoor Go.Proofs.YtilmbpdfdickoaaDoor.Print Go.Proofs.YtilmbpdfdickoaaDoor.Pure Go.Proofs.YtilmbpdfdickoaaDoorW.PrintWords
set_option linter.unusedVariables false
set_option linter.unusedSimpArgs false
theorem pow_lt64 (k : Nat) (h : k < 64) : 2 ^ k < 18446744073709551616 := Nat.pow_lt_pow_right (by decide) (show k < 64 from h)
theorem u64_wrap_nat (p : Nat) (h : p < 18446744073709551616) : IntKind.u64.wrap (p : Int) = (p : Int) := by
  rw [IntKind.wrap_u64]; omega
theorem shl1 (k : Nat) (h : k < 64) : shl .u64 1 (k : Int) = ((2 ^ k : Nat) : Int) := by
  unfold shl
  have h2 := pow_lt64 k h
  have e : min (k : Int).toNat IntKind.u64.bits = k := by
    show min k 64 = k
    omega
  rw [e, Int.one_mul, show ((2 : Int) ^ k) = ((2 ^ k : Nat) : Int) from (Int.natCast_pow 2 k).symm]
  exact u64_wrap_nat _ h2
theorem all_c (n : Nat) (h : n ≤ 64) (w : World) : Calls Tryd.prog 140 #[.int .i64 n] w fun e w' => e = .returned (.int .u64 ((2 ^ n - 1 : Nat) : Int)) ∧ Below w.heap.size w w' := by
  have hf : mask_All.f (n : Int) = some ((2 ^ n - 1 : Nat) : Int) := by
    unfold mask_All.f
    by_cases h0 : n = 0
    · subst h0; rfl
    · rw [if_neg (by omega)]
      by_cases h64 : n = 64
      · subst h64; rfl
      · have hp : 1 ≤ 2 ^ n := Nat.two_pow_pos n
        have hl := pow_lt64 n (by omega)
        rw [if_neg (by omega), if_pos (by omega), shl1 n (by omega), show (((2 ^ n : Nat) : Int) - 1) = ((2 ^ n - 1 : Nat) : Int) by omega, u64_wrap_nat _ (by omega)]
  refine (mask_All.calls _ _ w hf).mono ?_
  rintro e w' ⟨rfl, hd⟩
  obtain ⟨⟨nd, rfl⟩⟩ := hd
  exact ⟨rfl, pw_below_drewN (Below.refl _ _) nd⟩
theorem all_s (n : Nat) (h : n < 64) (w : World) : Calls Tryd.prog 140 #[.int .i64 ((n : Int) + 1)] w fun e w' => e = .returned (.int .u64 ((2 ^ (n + 1) - 1 : Nat) : Int)) ∧ Below w.heap.size w w' := all_c (n + 1) (by omega) w
/-- What is put in: all from a to b. -/
theorem put_span (m a b : Nat) (hm : m < 2 ^ 64) (hab : a ≤ b) (hb : b < 64) : bits .or .u64 (m : Int) (bits .andNot .u64 ((2 ^ (b + 1) - 1 : Nat) : Int) ((2 ^ a - 1 : Nat) : Int)) = ((m ||| span a b : Nat) : Int) := by
  have hb1 : 2 ^ (b + 1) ≤ 2 ^ 64 := Nat.pow_le_pow_right (by decide) (by omega)
  have ha1 : 2 ^ a ≤ 2 ^ 64 := Nat.pow_le_pow_right (by decide) (by omega)
  have hp := Nat.two_pow_pos (b + 1)
  have hq := Nat.two_pow_pos a
  have e64 : (2 : Nat) ^ 64 = 18446744073709551616 := by decide
  rw [u64_andNot_nat _ _ (by omega) (by omega)]
  have hx : (2 ^ (b + 1) - 1) &&& (18446744073709551615 - (2 ^ a - 1)) = span a b := by
    apply Nat.eq_of_testBit_eq
    intro i
    have e : 18446744073709551615 - (2 ^ a - 1) = 2 ^ 64 - ((2 ^ a - 1) + 1) := by omega
    rw [Nat.testBit_and, Nat.testBit_two_pow_sub_one, e, Nat.testBit_two_pow_sub_succ (show 2 ^ a - 1 < 2 ^ 64 by omega), Nat.testBit_two_pow_sub_one, span_bit a b i (by omega)]
    rw [Bool.eq_iff_iff]
    simp
    omega
  rw [hx, bits_or_u64_nat _ _ (by omega) (by have := span_lt a b hb; omega)]
/-- A place's digits, and what stands behind. -/
theorem at_digits (l : List UInt8) (p : Nat) (hp : p ≤ l.length) : p + ((l.drop p).takeWhile isD).length ≤ l.length ∧ (l.drop p).dropWhile isD = l.drop (p + ((l.drop p).takeWhile isD).length) := by
  have h := parts (l.drop p)
  have hl := congrArg List.length h
  rw [List.length_append, List.length_drop] at hl
  refine ⟨by omega, ?_⟩
  have h2 := congrArg (List.drop ((l.drop p).takeWhile isD).length) h
  rw [List.drop_drop, List.drop_left] at h2
  exact h2.symm
set_option maxHeartbeats 8000000 in
set_option maxRecDepth 100000 in
theorem parse_walk (s : ByteArray) (w : World) (hs : s.size ≤ 140737488351232) :
    Calls Tryd.prog 132 #[.string s] w fun e w' => e = .returned (.tuple #[.int .u64 (parseS s.data.toList).1, .int .i64 (parseS s.data.toList).2]) ∧ Below w.heap.size w w' := by
  by_cases hlong : 1000 < s.size
  · have hP : parseS s.data.toList = (0, 2) := if_pos hlong
    have HP := Aside0.mk hP
    have t0 : decide ((1000 : Int) < (s.size : Int)) = true := decide_eq_true (by omega)
    have t1 : decide (1000 < s.size) = true := decide_eq_true hlong
    clear hP
    go_enter Tryd.func132, Tryd.ntmps132
    go_wp2_with fail
    go_ret2
    rw [HP.out]
    exact ⟨rfl, below_alloc (Below.refl _ _) _⟩
  · by_cases hdash : s.data.toList = [45]
    · have hP : parseS s.data.toList = (0, 0) := by unfold parseS; rw [if_neg (by rw [size_list]; exact hlong), if_pos hdash]
      have HP := Aside0.mk hP
      have HD := Aside0.mk hdash
      have t0 : decide ((1000 : Int) < (s.size : Int)) = false := decide_eq_false (by omega)
      have t1 : decide (1000 < s.size) = false := decide_eq_false hlong
      have t2 : (s.toList == ([45] : List UInt8)) = true := by rw [ByteArray.toList_eq, hdash]; rfl
      clear hP hlong hdash
      go_enter Tryd.func132, Tryd.ntmps132
      go_wp2_with fail
      go_ret2
      rw [HP.out]
      exact ⟨rfl, below_alloc (Below.refl _ _) _⟩
    · have hz : s.size ≤ 1000 := by omega
      have hP : parseS s.data.toList = (match progP (s.size + 1) false 0 0 s.data.toList with
          | some m => ((m : Int), 0)
          | none => (0, 3)) := by unfold parseS; rw [if_neg (by rw [size_list]; exact hlong), if_neg hdash, prog_parse s.data.toList (s.size + 1) (by rw [size_list]; omega) 0]; cases parseT s.data.toList <;> rfl
      have HP := Aside0.mk hP
      have HZ := Aside0.mk hz
      have t0 : decide ((1000 : Int) < (s.size : Int)) = false := decide_eq_false (by omega)
      have t1 : decide (1000 < s.size) = false := decide_eq_false hlong
      have t2 : (s.toList == ([45] : List UInt8)) = false := by rw [ByteArray.toList_eq]; exact beq_eq_false_iff_ne.mpr hdash
      clear hP hlong hdash hz hs
      go_enter Tryd.func132, Tryd.ntmps132
      go_wp2_with fail
      have hS0 : ((w.alloc (.cells #[.string s] 9)).alloc (.cells #[.int .i64 0] 3)).heap[w.heap.size]? = some (.cells #[.string s] 9 (0, 0)) := blk_alloc (blk_new _ _) _
      have hA0 : ((w.alloc (.cells #[.string s] 9)).alloc (.cells #[.int .i64 0] 3)).heap[w.heap.size + 1]? = some (.cells #[.int .i64 ((0 : Nat) : Int)] 3 (0, 0)) := by have h_ := blk_new (w.alloc (.cells #[.string s] 9)) (.cells #[.int .i64 0] 3); rw [World.size_alloc] at h_; exact h_
      have HS0 := Aside0.mk hS0
      have HA0 := Aside0.mk hA0
      clear hS0 hA0
      go_loopg [6, 7, 8] (s.size + 1) (fun kq v6 v7 v8 w' => ∃ (m frm p : Nat) (sg : Int) (dash : Bool) (wl : World), v6 = .int .u64 (m : Int) ∧ v7 = .int .u8 sg ∧ v8 = .int .i64 (frm : Int) ∧ wl = w' ∧ Aside0 (sg = if dash then 45 else 44) ∧ Aside0 (m < 2 ^ 64 ∧ frm < 64 ∧ p ≤ s.size ∧ s.size < p + kq ∧ kq ≤ s.size + 1) ∧ Aside0 (progP kq dash frm m (s.data.toList.drop p) = progP (s.size + 1) false 0 0 s.data.toList) ∧ Aside0 (Below w.heap.size w w') ∧ Aside0 (w'.heap[w.heap.size]? = some (.cells #[.string s] 9 (0, 0))) ∧ Aside0 (w'.heap[w.heap.size + 1]? = some (.cells #[.int .i64 (p : Int)] 3 (0, 0))))
      case atStart => exact ⟨0, 0, 0, 44, false, _, rfl, rfl, rfl, rfl, ⟨rfl⟩, ⟨by decide, by decide, Nat.zero_le _, by omega, Nat.le_refl _⟩, ⟨rfl⟩, ⟨below_alloc (below_alloc (Below.refl _ _) _) _⟩, HS0, HA0⟩
      case round =>
        clear HS0 HA0
        obtain ⟨m, frm, p, sg, dash, wl, rfl, rfl, rfl, rfl, HSg, HI, HR, HB, HS, HA⟩ := hrel
        cases gk with
        | zero => exact absurd HI.out (by intro h; omega)
        | succ k1 =>
          go_wp2_with fail
          refine (number_c w.heap.size w.heap.size (w.heap.size + 1) s p _ (by omega) (by omega) HS.out HA.out HI.out.2.2.1 HZ.out).mono ?_
          rintro e w1 ⟨hb, hS1, hx⟩
          have HB1 := Aside0.mk (HB.out.trans hb)
          have HS1 := Aside0.mk hS1
          clear hb hS1
          have hR := HR.out
          rw [progP] at hR
          have hat := at_digits s.data.toList p HI.out.2.2.1
          rcases hx with ⟨n, hn, rfl, hA1⟩ | ⟨hn, rfl⟩
          · rw [hn, hat.2] at hR
            have hn64 := numV_lt hn
            have hlen := hat.1
            rw [size_list] at hlen
            have hge : p ≤ p + ((s.data.toList.drop p).takeWhile isD).length := Nat.le_add_right _ _
            generalize p + ((s.data.toList.drop p).takeWhile isD).length = p1 at hR hA1 hlen hge
            have HA1 := Aside0.mk hA1
            have HN := Aside0.mk hn64
            have HLen := Aside0.mk hlen
            have HGe : Aside0 (p ≤ p1) := ⟨hge⟩
            have hn1 : (n : Int) ≤ 63 := by omega
            have hp1 : (p1 : Int) ≤ 1000 := by have := HZ.out; omega
            have hf1 : (frm : Int) ≤ 63 := by have := HI.out.2.1; omega
            clear hat hn hA1 hn64 hlen hge
            have cS : w1.cell? ⟨w.heap.size, 0, none⟩ = some (.string s) := (blk_cell HS1.out 0).trans rfl
            have cA : w1.cell? ⟨w.heap.size + 1, 0, none⟩ = some (.int .i64 (p1 : Int)) := (blk_cell HA1.out 0).trans rfl
            cases dash with
            | false =>
              have hsg := HSg.out
              rw [if_neg Bool.false_ne_true] at hsg
              subst hsg
              have hR2 : (match s.data.toList.drop p1 with
                  | [] => some (m ||| span n n)
                  | x :: r => if x = 44 ∨ (x = 45 ∧ false = false) then progP k1 (x == 45) n (m ||| span n n) r else none) = progP (s.size + 1) false 0 0 s.data.toList := by
                rw [← hR]
                show _ = if n < n then none else _
                rw [if_neg (Nat.lt_irrefl n)]
                rfl
              have HR2 := Aside0.mk hR2
              clear hR hR2
              have t3 : decide (n < n) = false := decide_eq_false (Nat.lt_irrefl n)
              go_wp2_with fail
              refine (all_s n (by have := HN.out; omega) _).mono ?_
              rintro e w2 ⟨rfl, hb⟩
              have HB2 := Aside0.mk (below_step HB1.out hb)
              have HS2 := Aside0.mk (blk_below HS1.out hb)
              have HA2 := Aside0.mk (blk_below HA1.out hb)
              clear hb HB1 HS1 HA1 cS cA
              go_wp2_with fail
              refine (all_c n (by have := HN.out; have := HI.out.2.1; omega) _).mono ?_
              rintro e w3 ⟨rfl, hb⟩
              have HB3 := Aside0.mk (below_step HB2.out hb)
              have HS3 := Aside0.mk (blk_below HS2.out hb)
              have HA3 := Aside0.mk (blk_below HA2.out hb)
              clear hb HB2 HS2 HA2
              have HPut := Aside0.mk (put_span m n n HI.out.1 (Nat.le_refl _) HN.out)
              have hm3 := or64 m (span n n) HI.out.1 (span_lt n n HN.out)
              generalize m ||| span n n = m3 at HPut HR2 hm3
              have HM3 := Aside0.mk hm3
              clear hm3
              have cS : w3.cell? ⟨w.heap.size, 0, none⟩ = some (.string s) := (blk_cell HS3.out 0).trans rfl
              have cA : w3.cell? ⟨w.heap.size + 1, 0, none⟩ = some (.int .i64 (p1 : Int)) := (blk_cell HA3.out 0).trans rfl
              have fA := blk_frozen HA3.out 0
              by_cases hend : p1 = s.size
              · have u0 : ((p1 : Int) == (s.size : Int)) = true := beq_iff_eq.mpr (by omega)
                have hR3 : some m3 = progP (s.size + 1) false 0 0 s.data.toList := by rw [← HR2.out, hend, ← size_list s, List.drop_length]
                have hP := HP.out
                rw [← hR3] at hP
                have HP2 := Aside0.mk hP
                clear hP hR3 hend fA
                go_wp2_with fail
                go_ret2
                rw [HP2.out, HPut.out]
                exact ⟨rfl, HB3.out⟩
              · have u0 : ((p1 : Int) == (s.size : Int)) = false := beq_eq_false_iff_ne.mpr (by omega)
                have hlt : p1 < s.size := by have := HLen.out; omega
                have hdr : s.data.toList.drop p1 = s[p1] :: s.data.toList.drop (p1 + 1) := List.drop_eq_getElem_cons (show p1 < s.data.toList.length from hlt)
                have hR3 := HR2.out
                rw [hdr] at hR3
                replace hR3 : (if s[p1] = 44 ∨ (s[p1] = 45 ∧ false = false) then progP k1 (s[p1] == 45) n m3 (s.data.toList.drop (p1 + 1)) else none) = progP (s.size + 1) false 0 0 s.data.toList := by first | exact hR3 | (rw [← hR3]; show _ = (if s[p1] = 44 ∨ (s[p1] = 45 ∧ True) then _ else _); by_cases q4 : s[p1] = 44 <;> by_cases q5 : s[p1] = 45 <;> simp [q4, q5])
                by_cases x4 : s[p1].toNat = 44
                · have v4 : ((s[p1].toNat : Int) != 44) = false := bne_eq_false_iff_eq.mpr (by omega)
                  have hR4 : progP k1 false n m3 (s.data.toList.drop (p1 + 1)) = progP (s.size + 1) false 0 0 s.data.toList := by rw [if_pos (.inl (UInt8.toNat_inj.1 x4))] at hR3; rw [← hR3]; congr 1; exact (beq_eq_false_iff_ne.mpr (fun h => by rw [h] at x4; exact absurd x4 (by decide))).symm
                  have HR4 := Aside0.mk hR4
                  have HLt := Aside0.mk hlt
                  have HX : Aside0 ((s[p1].toNat : Int) = if false then 45 else 44) := ⟨by show _ = ((44 : Int)); omega⟩
                  clear hR3 hR4 hdr hend x4
                  go_wp2_with fail
                  rw [HPut.out]
                  go_roundg k1
                  case measure => have := HI.out; omega
                  case rel => exact ⟨m3, n, p1 + 1, _, false, _, rfl, rfl, rfl, rfl, HX, ⟨HM3.out, by have := HI.out.2.1; have := HN.out; omega, HLt.out, by have := HI.out; have := HGe.out; omega, by have := HI.out; omega⟩, HR4, ⟨HB3.out.setCell (by show w.heap.size ≤ w.heap.size + 1; omega) _⟩, ⟨blk_far HS3.out (by show w.heap.size ≠ w.heap.size + 1; omega) _⟩, ⟨blk_put HA3.out 0 _ rfl⟩⟩
                · have v4 : ((s[p1].toNat : Int) != 44) = true := bne_iff_ne.mpr (by omega)
                  by_cases x5 : s[p1].toNat = 45
                  · have v5 : ((s[p1].toNat : Int) != 45) = false := bne_eq_false_iff_eq.mpr (by omega)
                    have hR4 : progP k1 true n m3 (s.data.toList.drop (p1 + 1)) = progP (s.size + 1) false 0 0 s.data.toList := by rw [if_pos (.inr ⟨UInt8.toNat_inj.1 x5, rfl⟩)] at hR3; rw [← hR3]; congr 1; exact (beq_iff_eq.mpr (UInt8.toNat_inj.1 x5)).symm
                    have HR4 := Aside0.mk hR4
                    have HLt := Aside0.mk hlt
                    have HX : Aside0 ((s[p1].toNat : Int) = if true then 45 else 44) := ⟨by show _ = ((45 : Int)); omega⟩
                    clear hR3 hR4 hdr hend x4 x5
                    go_wp2_with fail
                    rw [HPut.out]
                    go_roundg k1
                    case measure => have := HI.out; omega
                    case rel => exact ⟨m3, n, p1 + 1, _, true, _, rfl, rfl, rfl, rfl, HX, ⟨HM3.out, by have := HI.out.2.1; have := HN.out; omega, HLt.out, by have := HI.out; have := HGe.out; omega, by have := HI.out; omega⟩, HR4, ⟨HB3.out.setCell (by show w.heap.size ≤ w.heap.size + 1; omega) _⟩, ⟨blk_far HS3.out (by show w.heap.size ≠ w.heap.size + 1; omega) _⟩, ⟨blk_put HA3.out 0 _ rfl⟩⟩
                  · have v5 : ((s[p1].toNat : Int) != 45) = true := bne_iff_ne.mpr (by omega)
                    have hR4 : none = progP (s.size + 1) false 0 0 s.data.toList := by rw [if_neg (fun h => h.elim (fun h => x4 (by rw [h]; rfl)) (fun h => (fun h => x5 (by rw [h]; rfl)) h.1))] at hR3; exact hR3
                    have hP := HP.out
                    rw [← hR4] at hP
                    have HP2 := Aside0.mk hP
                    clear hP hR3 hR4 hdr hend x4 x5 fA
                    go_wp2_with fail
                    go_ret2
                    rw [HP2.out]
                    exact ⟨rfl, HB3.out⟩
            | true =>
              have hsg := HSg.out
              rw [if_pos rfl] at hsg
              subst hsg
              by_cases hnf : n < frm
              · have hR2 : none = progP (s.size + 1) false 0 0 s.data.toList := by
                  rw [← hR]
                  show none = if n < frm then none else _
                  rw [if_pos hnf]
                have hP := HP.out
                rw [← hR2] at hP
                have HP2 := Aside0.mk hP
                have t3 := decide_eq_true hnf
                clear hP hR hR2 hnf
                go_wp2_with fail
                go_ret2
                rw [HP2.out]
                exact ⟨rfl, HB1.out⟩
              · have hR2 : (match s.data.toList.drop p1 with
                    | [] => some (m ||| span frm n)
                    | x :: r => if x = 44 ∨ (x = 45 ∧ true = false) then progP k1 (x == 45) frm (m ||| span frm n) r else none) = progP (s.size + 1) false 0 0 s.data.toList := by
                  rw [← hR]
                  show _ = if n < frm then none else _
                  rw [if_neg hnf]
                  rfl
                have HR2 := Aside0.mk hR2
                have HLe : Aside0 (frm ≤ n) := ⟨by omega⟩
                have t3 : decide (n < frm) = false := decide_eq_false hnf
                clear hR hR2 hnf
                go_wp2_with fail
                refine (all_s n (by have := HN.out; omega) _).mono ?_
                rintro e w2 ⟨rfl, hb⟩
                have HB2 := Aside0.mk (below_step HB1.out hb)
                have HS2 := Aside0.mk (blk_below HS1.out hb)
                have HA2 := Aside0.mk (blk_below HA1.out hb)
                clear hb HB1 HS1 HA1 cS cA
                go_wp2_with fail
                refine (all_c frm (by have := HN.out; have := HI.out.2.1; omega) _).mono ?_
                rintro e w3 ⟨rfl, hb⟩
                have HB3 := Aside0.mk (below_step HB2.out hb)
                have HS3 := Aside0.mk (blk_below HS2.out hb)
                have HA3 := Aside0.mk (blk_below HA2.out hb)
                clear hb HB2 HS2 HA2
                have HPut := Aside0.mk (put_span m frm n HI.out.1 (HLe.out) HN.out)
                have hm3 := or64 m (span frm n) HI.out.1 (span_lt frm n HN.out)
                generalize m ||| span frm n = m3 at HPut HR2 hm3
                have HM3 := Aside0.mk hm3
                clear hm3
                have cS : w3.cell? ⟨w.heap.size, 0, none⟩ = some (.string s) := (blk_cell HS3.out 0).trans rfl
                have cA : w3.cell? ⟨w.heap.size + 1, 0, none⟩ = some (.int .i64 (p1 : Int)) := (blk_cell HA3.out 0).trans rfl
                have fA := blk_frozen HA3.out 0
                by_cases hend : p1 = s.size
                · have u0 : ((p1 : Int) == (s.size : Int)) = true := beq_iff_eq.mpr (by omega)
                  have hR3 : some m3 = progP (s.size + 1) false 0 0 s.data.toList := by rw [← HR2.out, hend, ← size_list s, List.drop_length]
                  have hP := HP.out
                  rw [← hR3] at hP
                  have HP2 := Aside0.mk hP
                  clear hP hR3 hend fA
                  go_wp2_with fail
                  go_ret2
                  rw [HP2.out, HPut.out]
                  exact ⟨rfl, HB3.out⟩
                · have u0 : ((p1 : Int) == (s.size : Int)) = false := beq_eq_false_iff_ne.mpr (by omega)
                  have hlt : p1 < s.size := by have := HLen.out; omega
                  have hdr : s.data.toList.drop p1 = s[p1] :: s.data.toList.drop (p1 + 1) := List.drop_eq_getElem_cons (show p1 < s.data.toList.length from hlt)
                  have hR3 := HR2.out
                  rw [hdr] at hR3
                  replace hR3 : (if s[p1] = 44 ∨ (s[p1] = 45 ∧ true = false) then progP k1 (s[p1] == 45) frm m3 (s.data.toList.drop (p1 + 1)) else none) = progP (s.size + 1) false 0 0 s.data.toList := by first | exact hR3 | (rw [← hR3]; show _ = (if s[p1] = 44 ∨ (s[p1] = 45 ∧ True) then _ else _); by_cases q4 : s[p1] = 44 <;> by_cases q5 : s[p1] = 45 <;> simp [q4, q5])
                  by_cases x4 : s[p1].toNat = 44
                  · have v4 : ((s[p1].toNat : Int) != 44) = false := bne_eq_false_iff_eq.mpr (by omega)
                    have hR4 : progP k1 false frm m3 (s.data.toList.drop (p1 + 1)) = progP (s.size + 1) false 0 0 s.data.toList := by rw [if_pos (.inl (UInt8.toNat_inj.1 x4))] at hR3; rw [← hR3]; congr 1; exact (beq_eq_false_iff_ne.mpr (fun h => by rw [h] at x4; exact absurd x4 (by decide))).symm
                    have HR4 := Aside0.mk hR4
                    have HLt := Aside0.mk hlt
                    have HX : Aside0 ((s[p1].toNat : Int) = if false then 45 else 44) := ⟨by show _ = ((44 : Int)); omega⟩
                    clear hR3 hR4 hdr hend x4
                    go_wp2_with fail
                    rw [HPut.out]
                    go_roundg k1
                    case measure => have := HI.out; omega
                    case rel => exact ⟨m3, frm, p1 + 1, _, false, _, rfl, rfl, rfl, rfl, HX, ⟨HM3.out, by have := HI.out.2.1; have := HN.out; omega, HLt.out, by have := HI.out; have := HGe.out; omega, by have := HI.out; omega⟩, HR4, ⟨HB3.out.setCell (by show w.heap.size ≤ w.heap.size + 1; omega) _⟩, ⟨blk_far HS3.out (by show w.heap.size ≠ w.heap.size + 1; omega) _⟩, ⟨blk_put HA3.out 0 _ rfl⟩⟩
                  · have v4 : ((s[p1].toNat : Int) != 44) = true := bne_iff_ne.mpr (by omega)
                    by_cases x5 : s[p1].toNat = 45
                    · have v5 : ((s[p1].toNat : Int) != 45) = false := bne_eq_false_iff_eq.mpr (by omega)
                      have hR4 : none = progP (s.size + 1) false 0 0 s.data.toList := by rw [if_neg (fun h => h.elim (fun h => x4 (by rw [h]; rfl)) (fun h => by cases h.2))] at hR3; exact hR3
                      have hP := HP.out
                      rw [← hR4] at hP
                      have HP2 := Aside0.mk hP
                      clear hP hR3 hR4 hdr hend x4 x5 fA
                      go_wp2_with fail
                      go_ret2
                      rw [HP2.out]
                      exact ⟨rfl, HB3.out⟩
                    · have v5 : ((s[p1].toNat : Int) != 45) = true := bne_iff_ne.mpr (by omega)
                      have hR4 : none = progP (s.size + 1) false 0 0 s.data.toList := by rw [if_neg (fun h => h.elim (fun h => x4 (by rw [h]; rfl)) (fun h => (fun h => x5 (by rw [h]; rfl)) h.1))] at hR3; exact hR3
                      have hP := HP.out
                      rw [← hR4] at hP
                      have HP2 := Aside0.mk hP
                      clear hP hR3 hR4 hdr hend x4 x5 fA
                      go_wp2_with fail
                      go_ret2
                      rw [HP2.out]
                      exact ⟨rfl, HB3.out⟩
          · have hR2 : none = progP (s.size + 1) false 0 0 s.data.toList := by rw [← hR, hn]
            have hP := HP.out
            rw [← hR2] at hP
            have HP2 := Aside0.mk hP
            clear hP hR hR2 hn hat
            go_wp2_with fail
            go_ret2
            rw [HP2.out]
            exact ⟨rfl, HB1.out⟩
/-- cpus.Parse, in the printed form. -/
def cpus_Parse.f (s : ByteArray) : Option (Int × Int) := if s.size ≤ 140737488351232 then some (parseS s.data.toList) else none
theorem cpus_Parse.calls (a0 : ByteArray) (r1 r2 : Int) (w : World) (h : cpus_Parse.f a0 = some (r1, r2)) :
    Calls Tryd.prog 132 #[.string a0] w fun e w' => e = .returned (.tuple #[.int .u64 r1, .int .i64 r2]) ∧ Below w.heap.size w w' := by
  unfold cpus_Parse.f at h
  split at h
  · rename_i hs
    have e := Option.some.inj h
    have hw := parse_walk a0 w hs
    rw [e] at hw
    exact hw
  · cases h
end Go.Proofs.YtilmbpdfdickoaaDoor.Given

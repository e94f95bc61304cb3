/- SpreadMost: plain. -/
import Derived.Test.YtkhdfbmkikiapaaPureMade
import Derived.Test.YtkhdfbmkikiapaaPrintF7
namespace Go.Proofs.Ytkhdfbmkikiapaa
set_option linter.unusedVariables false
set_option linter.unusedSimpArgs false
open Go.RowKit Go.Proofs.Ytkhdfbmkikiapaa.Given Go.Proofs.Ytkhdfbmkikiapaa.Print Go.Proofs.YtkhdfbmkikiapaaW.PrintWords Go.Proofs.Ytkhdfbmkikiapaa.Pure
theorem Pure.u32_of {a : Int} (h : (Lit.int .u32 a).wf = true) : 0 ≤ a ∧ a ≤ 4294967295 := by
  simp [Lit.wf, IntKind.min, IntKind.max, IntKind.signed, IntKind.bits] at h
  omega
theorem Pure.u8_of {a : Int} (h : (Lit.int .u8 a).wf = true) : 0 ≤ a ∧ a ≤ 255 := by
  simp [Lit.wf, IntKind.min, IntKind.max, IntKind.signed, IntKind.bits] at h
  omega
theorem Pure.load_of {n : Int} (h0 : 0 ≤ n) (h1 : n ≤ 1099511627776) : loadB n = true := by
  unfold loadB
  rw [decide_eq_true h0, decide_eq_true h1]; rfl
theorem Pure.sel_len (l : List S41) (tc : Int) : (sel l tc (downs l.length)).length ≤ l.length := by
  have h1 := sel_length l tc (downs l.length)
  have h2 : (downs l.length).length = l.length := by simp [downs]
  omega
theorem Pure.SpreadMost (l : List Int) (m k : Int) (hu : U16 l) (hl : l.length ≤ 9223372036854775806) (hm : (Lit.int .u32 m).wf = true) (hk : (Lit.int .u8 k).wf = true) : turnspitlaw13_SpreadMost.f 1000 l m k = some true := by
  obtain ⟨m0, m1⟩ := Pure.u32_of hm
  obtain ⟨k0, k1⟩ := Pure.u8_of hk
  unfold turnspitlaw13_SpreadMost.f
  rw [awake_true, Option.bind_some, if_pos rfl, made_f l hu hl, Option.bind_some]
  have em : (wrap64 m).tmod 400000 = m % 400000 := by rw [wrap64_small (by omega) (by omega), Int.tmod_eq_emod_of_nonneg m0]
  obtain ⟨q, hq⟩ : ∃ q : Nat, k % 12 = (q : Int) := ⟨(k % 12).toNat, by omega⟩
  have ek : (wrap64 k).tmod 12 = (q : Int) := by rw [wrap64_small (by omega) (by omega), Int.tmod_eq_emod_of_nonneg k0, hq]
  have hf := made_fair hu
  have hb : loadB (m % 400000) = true := Pure.load_of (by omega) (by omega)
  have h1 := plan_fair hf 0 0 (m % 400000) 100 (by decide) (by decide) (by decide) hb
  have h2 := plan_fair hf 0 0 (m % 400000) q (by decide) (by decide) (by decide) hb
  rw [em, ek, show (100 : Int) = ((100 : Nat) : Int) from rfl, h1, h2]
  simp only [Option.bind_some]
  have hlen : ((takeU 0 (m % 400000) (sel (madeL l) 0 (downs (madeL l).length))).map (·.f0)).length ≤ 40 := by
    have h3 := takeU_length (sel (madeL l) 0 (downs (madeL l).length)) 0 (m % 400000)
    have h4 := Pure.sel_len (madeL l) 0
    have h5 := hf.1
    rw [List.length_map]
    omega
  generalize (takeU 0 (m % 400000) (sel (madeL l) 0 (downs (madeL l).length))).map (·.f0) = T at hlen
  rw [List.take_of_length_le (show T.length ≤ 100 by omega), if_pos trivial, if_pos trivial]
  have e3 : turnspitlaw13_min2.f (q : Int) (T.length : Int) = some (((T.take q).length : Nat) : Int) := by
    unfold turnspitlaw13_min2.f
    rw [List.length_take]
    split
    · congr 1; omega
    · congr 1; omega
  rw [e3, Option.bind_some, if_pos rfl, if_pos (by omega), if_pos (by rw [List.length_take]; omega)]
  have e4 : T.take (((T.take q).length : Nat) : Int).toNat = T.take q := by
    rw [Int.toNat_natCast, List.length_take]
    by_cases h : q ≤ T.length
    · rw [Nat.min_eq_left h]
    · rw [Nat.min_eq_right (by omega), List.take_of_length_le (Nat.le_refl _), List.take_of_length_le (by omega)]
  rw [e4, ints_f _ 1000 (by rw [List.length_take]; omega) (by rw [List.length_take]; omega)]
  rfl
theorem Walk.SpreadMost (A0 : Option Addr) (c0 : Nat) (l0 : List Int) (m : Int) (hm : (Lit.int .u32 m).wf = true) (k : Int) (hk : (Lit.int .u8 k).wf = true) (w : World) (hr : Kd.C (Kd.int .u16) w A0 l0.length l0) (hc : l0.length ≤ c0) (hl : l0.length ≤ 9223372036854775806) (hw : ∀ n ∈ l0, (Lit.int .u16 n).wf = true) :
    Calls Try.prog 7 #[.slice A0 l0.length c0, .int .u32 m, .int .u8 k] w fun e w' => e = .returned (.bool true) ∧ Below w.heap.size w w' :=
  turnspitlaw13_SpreadMost.calls 1000 A0 c0 l0 m k true w hr hc (Pure.SpreadMost l0 m k hw hl hm hk)
end Go.Proofs.Ytkhdfbmkikiapaa

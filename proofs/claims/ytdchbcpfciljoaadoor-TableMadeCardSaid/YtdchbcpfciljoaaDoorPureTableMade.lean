/- TableMade: plain. -/
import Derived.Test.YtdchbcpfciljoaaDoorPureMade
import Derived.Test.YtdchbcpfciljoaaDoorPrintF5
namespace Go.Proofs.YtdchbcpfciljoaaDoor
set_option linter.unusedVariables false
set_option linter.unusedSimpArgs false
open Go.RowKit Go.Proofs.YtdchbcpfciljoaaDoor.Given Go.Proofs.YtdchbcpfciljoaaDoor.Print Go.Proofs.YtdchbcpfciljoaaDoor.Pure Go.Proofs.YtdchbcpfciljoaaDoorW.PrintWords
theorem u16_of {a : Int} (h : (Lit.int .u16 a).wf = true) : 0 ≤ a ∧ a < 65536 := by
  simp [Lit.wf, IntKind.min, IntKind.max, IntKind.signed, IntKind.bits] at h
  omega
theorem Walk.TableMade (A0 : Option Addr) (c0 : Nat) (l0 : List Int) (n : Int) (wn : (Lit.int .u16 n).wf = true) (m : Int) (wm : (Lit.int .u16 m).wf = true) (w : World) (HLd : Ld w) (hr0 : Kd.C (Kd.int .u16) w A0 l0.length l0) (hc0 : l0.length ≤ c0) (hw : ∀ x ∈ l0, (Lit.int .u16 x).wf = true) :
    Calls Tryd.prog 5 #[.slice A0 l0.length c0, .int .u16 n, .int .u16 m] w fun e w' => e = .returned (.bool true) ∧ Below w.heap.size w w' := by
  refine turnspitlaw14_TableMade.calls 1000 A0 c0 l0 n m true w hr0 hc0 HLd ?_
  have hn := u16_of wn
  obtain ⟨r0, r1, e, e0, e1, hU, hr⟩ := made_ok l0 (fun x hx => u16_of (hw x hx)) 1000 (by decide)
  have hs := slot5_in hn.1 hn.2
  have hu := u64_tmod (IntKind.u16.wrap (Int.tdiv m 8)) 18446744073709551616 (by decide) (by decide)
  unfold turnspitlaw14_TableMade.f turnspitlaw14_awake.f
  rw [e, Option.bind_some, if_pos hs.1, if_pos (by rw [e0]; exact hs.2), refGen_eq (rd_u64 hU hs.1 (by rw [e0]; exact hs.2)), Option.bind_some, Option.bind_some, if_pos rfl]
  unfold turnspitlaw14_told.f
  have hw16 := tmod_in (wrap64 (IntKind.u16.wrap (Int.tdiv n 32))) 16 (by decide)
  rw [if_pos ⟨(by show r0.length ≤ 70; omega), (by show r1.length ≤ 70; omega), hU, (by show 0 ≤ IntKind.u64.wrap _ ∧ IntKind.u64.wrap _ < 18446744073709551616; rw [u64wrap]; omega), wf_small (by omega) (by omega)⟩]
  rfl
end Go.Proofs.YtdchbcpfciljoaaDoor

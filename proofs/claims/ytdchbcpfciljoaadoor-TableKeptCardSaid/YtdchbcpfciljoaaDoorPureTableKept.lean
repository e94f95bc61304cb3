/- TableKept: walked by hand. -/
import Derived.Test.YtdchbcpfciljoaaDoorPureKept
import Derived.Test.YtdchbcpfciljoaaDoorPrintF24
import Derived.Test.YtdchbcpfciljoaaDoorGA
import Derived.StillTailTactics
import Derived.Deep.RegionHeld3
namespace Go.Proofs.YtdchbcpfciljoaaDoor
open Go.RowKit Go.Proofs.YtdchbcpfciljoaaDoor Go.Proofs.YtdchbcpfciljoaaDoor.Given Go.Proofs.YtdchbcpfciljoaaDoor.Print Go.Proofs.YtdchbcpfciljoaaDoor.Pure Go.Proofs.YtdchbcpfciljoaaDoorW.PrintWords Go.Proofs.YtdchbcpfciljoaaDoorW.PrintLast Go.Proofs.YtdchbcpfciljoaaDoorW.PrintMore
set_option linter.unusedVariables false
set_option linter.unusedSimpArgs false
attribute [local go_sem high] eqA52
theorem kept_live (x r0 : List Int) (r1 : List S52) (hx : Five x r1) (h0 : Five r0 r1) (h : liveS x 0 = liveS r0 0) : ∃ L, table_Live.f 1000 x r1 = some L ∧ table_Live.f 1000 r0 r1 = some L ∧ turnspitref14_Handles.f 1000 L L = some true := by
  have hl := liveS_len r0 0
  refine ⟨liveS r0 0, ?_, ?_, ?_⟩
  · rw [← h]; exact Live_f x r1 hx.2.2.1 (by have := hx.1; omega) 1000 (by have := hx.1; omega)
  · exact Live_f r0 r1 h0.2.2.1 (by have := h0.1; omega) 1000 (by have := h0.1; omega)
  · exact hand_f _ (by have := h0.1; omega) 1000 (by have := h0.1; omega)
theorem kept16 {a : Int} (h : (Lit.int .u16 a).wf = true) : 0 ≤ a ∧ a < 65536 := by
  simp [Lit.wf, IntKind.min, IntKind.max, IntKind.signed, IntKind.bits] at h
  omega
set_option maxHeartbeats 8000000 in
set_option maxRecDepth 100000 in
theorem Walk.TableKept (A0 : Option Addr) (c0 : Nat) (l0 : List Int) (A1 : Option Addr) (c1 : Nat) (l1 : List Int) (w : World) (HLd : Ld w) (hr0 : Kd.C (Kd.int .u16) w A0 l0.length l0) (hc0 : l0.length ≤ c0) (hw : ∀ x ∈ l0, (Lit.int .u16 x).wf = true) (hr1 : Kd.C (Kd.int .u16) w A1 l1.length l1) (hc1 : l1.length ≤ c1) (hw1 : ∀ x ∈ l1, (Lit.int .u16 x).wf = true) :
    Calls Tryd.prog 8 #[.slice A0 l0.length c0, .slice A1 l1.length c1] w fun e w' => e = .returned (.bool true) ∧ Below w.heap.size w w' := by
  have hu25 := Tryd.underlying25
  have hu27 := Tryd.underlying27
  have hu52 := Tryd.underlying52
  obtain ⟨r0, r1, em, hF⟩ := made_ok l0 (fun x hx => kept16 (hw x hx)) 1000 (by decide)
  have HR0 := Aside0.mk hr0
  have HC0 := Aside0.mk hc0
  have HR1 := Aside0.mk hr1
  have HC1 := Aside0.mk hc1
  have HL := Aside0.mk HLd
  have EM := Aside0.mk em
  have EF := Aside0.mk hF
  clear hr0 hc0 hr1 hc1 HLd em hF hw hw1
  go_enter Tryd.func8, Tryd.ntmps8
  go_wp2_with fail
  refine (turnspitlaw14_awake.calls true _ HL.out rfl).mono ?_
  rintro e w1 ⟨rfl, hb⟩
  have HB1 := Aside0.mk (below_step (Below.refl w.heap.size w) hb)
  clear hb
  go_wp2_with fail
  refine (turnspitlaw14_Made.calls 1000 A0 c0 l0 r0 r1 _ (Kd.C_below HR0.out HB1.out) HC0.out (Ld.below HL.out (by exact HB1.out)) EM.out).mono ?_
  rintro e w2 ⟨vt0, vt1, rfl, ho0, ho1, hb⟩
  obtain ⟨At0, ct0, rfl⟩ := Kd.R_slice ho0
  obtain ⟨At1, ct1, rfl⟩ := Kd.R_slice ho1
  have Ht0 := Aside0.mk ho0
  have Ht1 := Aside0.mk ho1
  clear ho0 ho1
  have HB2 := Aside0.mk (below_step HB1.out hb)
  clear hb
  go_wp2_with fail
  have Ht0_ := Aside0.mk (Kd.R_lower Ht0.out HB1.out.size)
  have Ht1_ := Aside0.mk (Kd.R_lower Ht1.out HB1.out.size)
  clear Ht0 Ht1
  have Ht0 := Ht0_
  have Ht1 := Ht1_
  clear Ht0_ Ht1_
  have bs_ : w.heap.size ≤ w2.heap.size := HB2.out.size
  have Kn_T : (w2.alloc (.cells #[.slice At0 r0.length ct0, .slice At1 r1.length ct1] 25)).heap[w2.heap.size]? = some (.cells #[.slice At0 r0.length ct0, .slice At1 r1.length ct1] 25 (0, 0)) := by have h_ := blk_new w2 (.cells #[.slice At0 r0.length ct0, .slice At1 r1.length ct1] 25); simpa only [World.size_alloc] using h_
  have Kn_V : ((w2.alloc (.cells #[.slice At0 r0.length ct0, .slice At1 r1.length ct1] 25)).alloc (.cells #[.slice At0 r0.length ct0, .slice At1 r1.length ct1] 25)).heap[w2.heap.size + 1]? = some (.cells #[.slice At0 r0.length ct0, .slice At1 r1.length ct1] 25 (0, 0)) := by have h_ := blk_new (w2.alloc (.cells #[.slice At0 r0.length ct0, .slice At1 r1.length ct1] 25)) (.cells #[.slice At0 r0.length ct0, .slice At1 r1.length ct1] 25); simpa only [World.size_alloc] using h_
  have KT_ : Aside0 (((w2.alloc (.cells #[.slice At0 r0.length ct0, .slice At1 r1.length ct1] 25)).alloc (.cells #[.slice At0 r0.length ct0, .slice At1 r1.length ct1] 25)).heap[w2.heap.size]? = some (.cells #[.slice At0 r0.length ct0, .slice At1 r1.length ct1] 25 (0, 0))) := ⟨(blk_alloc Kn_T _)⟩
  have KV_ : Aside0 (((w2.alloc (.cells #[.slice At0 r0.length ct0, .slice At1 r1.length ct1] 25)).alloc (.cells #[.slice At0 r0.length ct0, .slice At1 r1.length ct1] 25)).heap[w2.heap.size + 1]? = some (.cells #[.slice At0 r0.length ct0, .slice At1 r1.length ct1] 25 (0, 0))) := ⟨Kn_V⟩
  clear Kn_T Kn_V 
  have KT := KT_
  clear KT_
  have KV := KV_
  clear KV_
  have Ht0_ := Aside0.mk (Kd.R_alloc (Kd.R_alloc Ht0.out (.cells #[.slice At0 r0.length ct0, .slice At1 r1.length ct1] 25)) (.cells #[.slice At0 r0.length ct0, .slice At1 r1.length ct1] 25))
  clear Ht0
  have Ht0 := Ht0_
  clear Ht0_
  have Ht1_ := Aside0.mk (Kd.R_alloc (Kd.R_alloc Ht1.out (.cells #[.slice At0 r0.length ct0, .slice At1 r1.length ct1] 25)) (.cells #[.slice At0 r0.length ct0, .slice At1 r1.length ct1] 25))
  clear Ht1
  have Ht1 := Ht1_
  clear Ht1_
  have HB3 : Aside0 (Below w.heap.size w ((w2.alloc (.cells #[.slice At0 r0.length ct0, .slice At1 r1.length ct1] 25)).alloc (.cells #[.slice At0 r0.length ct0, .slice At1 r1.length ct1] 25))) := ⟨(below_alloc (below_alloc HB2.out _) _)⟩
  generalize ((w2.alloc (.cells #[.slice At0 r0.length ct0, .slice At1 r1.length ct1] 25)).alloc (.cells #[.slice At0 r0.length ct0, .slice At1 r1.length ct1] 25)) = w3 at KT KV Ht0 Ht1 HB3 ⊢
  generalize hgV : w2.heap.size + 1 = gV at KV ⊢
  have bV : Aside0 (w.heap.size ≤ gV) := ⟨by omega⟩
  generalize hgT : w2.heap.size = gT at KT ⊢
  have bT : Aside0 (w.heap.size ≤ gT) := ⟨by omega⟩
  have dTV : (gT = gV) = False := eq_false (by omega)
  have dVT : (gV = gT) = False := eq_false (by omega)
  clear hgT hgV bs_ 
  go_loopg [8] 62 (fun kq v_ w' => ∃ (i : Int) (wl : World) (Ax : Option Addr) (cx : Nat) (x : List Int) (Ay : Option Addr) (cy : Nat), v_ = .int .i64 i ∧ wl = w' ∧ Aside0 (0 ≤ i ∧ i ≤ 60) ∧ Aside0 (60 < i + (kq : Int)) ∧ Aside0 (kq ≤ 62) ∧ Aside0 (Five x r1 ∧ liveS x 0 = liveS r0 0) ∧ Aside0 (Below w.heap.size w w') ∧ Aside0 (w'.heap[gT]? = some (.cells #[.slice Ax x.length cx, .slice Ay r1.length cy] 25 (0, 0))) ∧ Aside0 (w'.heap[gV]? = some (.cells #[.slice At0 r0.length ct0, .slice At1 r1.length ct1] 25 (0, 0))) ∧ Aside0 (Kd.R (Kd.int .u64) 28 w' w.heap.size (fun _ => True) (.slice Ax x.length cx) x) ∧ Aside0 (Kd.R k52 52 w' w.heap.size (fun _ => True) (.slice Ay r1.length cy) r1) ∧ Aside0 (Kd.R (Kd.int .u64) 28 w' w.heap.size (fun _ => True) (.slice At0 r0.length ct0) r0) ∧ Aside0 (Kd.R k52 52 w' w.heap.size (fun _ => True) (.slice At1 r1.length ct1) r1))
  case atStart => exact ⟨0, _, _, _, _, _, _, rfl, rfl, ⟨by omega⟩, ⟨by omega⟩, ⟨Nat.le_refl _⟩, ⟨EF.out, rfl⟩, HB3, KT, KV, Ht0, Ht1, Ht0, Ht1⟩
  case round =>
    clear HB3 KT KV Ht0 Ht1
    obtain ⟨i, wl, Ax, cx, x, Ay, cy, rfl, rfl, HI, HK, HK6, HX5, HBl, KT, KV, RX, RY, Ht0, Ht1⟩ := hrel
    cases gk with
    | zero => exact absurd HK.out (by have := HI.out; omega)
    | succ k1 =>
      have yT_20 : gT < wl.heap.size := blk_lt KT.out
      have yT_20z0 : (gT = wl.heap.size) = False := eq_false (by omega)
      have yT_20z1 : (wl.heap.size = gT) = False := eq_false (by omega)
      have yT_20z2 : (gT = wl.heap.size + 1) = False := eq_false (by omega)
      have yT_20z3 : (wl.heap.size + 1 = gT) = False := eq_false (by omega)
      have xT_20_0 : wl.cell? ⟨gT, 0, none⟩ = some (.slice Ax x.length cx) := (blk_cell KT.out 0).trans rfl
      have xT_20_0f := blk_frozen KT.out 0
      have xT_20_1 : wl.cell? ⟨gT, 1, none⟩ = some (.slice Ay r1.length cy) := (blk_cell KT.out 1).trans rfl
      have xT_20_1f := blk_frozen KT.out 1
      have yV_20 : gV < wl.heap.size := blk_lt KV.out
      have yV_20z0 : (gV = wl.heap.size) = False := eq_false (by omega)
      have yV_20z1 : (wl.heap.size = gV) = False := eq_false (by omega)
      have yV_20z2 : (gV = wl.heap.size + 1) = False := eq_false (by omega)
      have yV_20z3 : (wl.heap.size + 1 = gV) = False := eq_false (by omega)
      have xV_20_0 : wl.cell? ⟨gV, 0, none⟩ = some (.slice At0 r0.length ct0) := (blk_cell KV.out 0).trans rfl
      have xV_20_1 : wl.cell? ⟨gV, 1, none⟩ = some (.slice At1 r1.length ct1) := (blk_cell KV.out 1).trans rfl
      by_cases cl : i < (l1.length : Int)
      · by_cases c6 : i < 60
        · have i0 : 0 ≤ i := HI.out.1
          obtain ⟨ad, ead, hx⟩ := Kd.at_int HR1.out i i0 cl
          subst ead
          have hx_ : wl.cell? (ad.add i.toNat) = some (.int .u16 (rd l1 i)) := pw_cell_below HBl.out hx
          have HX := Aside0.mk hx
          clear hx
          have p7 := eq_true i0
          have p8 := eq_true cl
          have clb := decide_eq_true cl
          have c6b := decide_eq_true c6
          have C6 := Aside0.mk c6
          clear cl c6 i0
          obtain ⟨s1, s2, s3, hs_, hk_⟩ := step_kept x r1 (Int.tmod (IntKind.i64.wrap (rd l1 i)) 5) (Int.tmod (IntKind.i64.wrap (IntKind.u16.wrap (Int.tdiv (rd l1 i) 8))) 16) (Int.tmod (IntKind.i64.wrap (IntKind.u16.wrap (Int.tdiv (rd l1 i) 128))) 8) HX5.out.1 (by have h_ := tmod_in (IntKind.i64.wrap (IntKind.u16.wrap (Int.tdiv (rd l1 i) 8))) 16 (by decide); exact wf_small (by omega) (by omega))
          have HS := Aside0.mk hs_
          have HSk := Aside0.mk hk_
          clear hs_ hk_
          go_wp2_with fail
          have n9T : gT ≠ wl.heap.size := Nat.ne_of_lt (blk_lt KT.out)
          have n9V : gV ≠ wl.heap.size := Nat.ne_of_lt (blk_lt KV.out)
          have HC := HBl
          have HD := Aside0.mk (Below.refl wl.heap.size wl)
          go_region_held3 (fun w' => w'.cell? ⟨gT, 0, none⟩ = some (.slice Ax x.length cx) ∧ w'.cell? ⟨gT, 1, none⟩ = some (.slice Ay r1.length cy) ∧ w'.cell? (ad.add i.toNat) = some (.int .u16 (rd l1 i))) (exact ⟨(blk_cell (g := gT) (cs := #[.slice Ax x.length cx, .slice Ay r1.length cy]) (t := 25) (by repeat (with_reducible first | exact KT.out | refine blk_drewN ?_ _ | refine blk_drew ?_ | refine blk_alloc ?_ _ | refine blk_far ?_ n9T _)) 0).trans rfl, (blk_cell (g := gT) (cs := #[.slice Ax x.length cx, .slice Ay r1.length cy]) (t := 25) (by repeat (with_reducible first | exact KT.out | refine blk_drewN ?_ _ | refine blk_drew ?_ | refine blk_alloc ?_ _ | refine blk_far ?_ n9T _)) 1).trans rfl, pw_cell_below (by repeat (with_reducible first | exact HC.out | apply below_drew1 | apply pw_below_drewN | apply below_alloc | refine below_set ?_ HBl.out.size)) HX.out⟩) (first | (go_at_call 19; (with_reducible refine (table_Step.calls Ax cx x Ay cy r1 (Int.tmod (IntKind.i64.wrap (rd l1 i)) 5) (Int.tmod (IntKind.i64.wrap (IntKind.u16.wrap (Int.tdiv (rd l1 i) 8))) 16) (Int.tmod (IntKind.i64.wrap (IntKind.u16.wrap (Int.tdiv (rd l1 i) 128))) 8) s1 s2 s3 _ (Kd.C_below (Kd.R_reads' RX.out).2.2 (by repeat (with_reducible first | exact HD.out | apply below_drew1 | apply pw_below_drewN | apply below_alloc))) (Kd.R_reads' RX.out).2.1 (Kd.C_below (Kd.R_reads' RY.out).2.2 (by repeat (with_reducible first | exact HD.out | apply below_drew1 | apply pw_below_drewN | apply below_alloc))) (Kd.R_reads' RY.out).2.1 (Ld.below HL.out (by repeat (with_reducible first | exact HC.out | apply below_drew1 | apply pw_below_drewN | apply below_alloc))) HS.out).mono ?_); rintro e w9 ⟨vn0, vn1, rfl, ho0, ho1, hb⟩; obtain ⟨An0, cn0, rfl⟩ := Kd.R_slice ho0; obtain ⟨An1, cn1, rfl⟩ := Kd.R_slice ho1; have Hn0 := Aside0.mk (Kd.R_lower ho0 (Below.size (by repeat (with_reducible first | exact HC.out | apply below_drew1 | apply pw_below_drewN | apply below_alloc)))); have Hn1 := Aside0.mk (Kd.R_lower ho1 (Below.size (by repeat (with_reducible first | exact HC.out | apply below_drew1 | apply pw_below_drewN | apply below_alloc)))); have KT : Aside0 (w9.heap[gT]? = some (.cells #[.slice Ax x.length cx, .slice Ay r1.length cy] 25 (0, 0))) := ⟨blk_below (by repeat (with_reducible first | exact KT.out | refine blk_drewN ?_ _ | refine blk_drew ?_ | refine blk_alloc ?_ _)) hb⟩; have KV : Aside0 (w9.heap[gV]? = some (.cells #[.slice At0 r0.length ct0, .slice At1 r1.length ct1] 25 (0, 0))) := ⟨blk_below (by repeat (with_reducible first | exact KV.out | refine blk_drewN ?_ _ | refine blk_drew ?_ | refine blk_alloc ?_ _)) hb⟩; (try (have K9 : Aside0 (w9.heap[wl.heap.size]? = some (.cells #[.slice none 0 0, .slice none 0 0] 25 (0, 0))) := ⟨blk_below (by (with_reducible repeat (first | refine blk_drewN ?_ _ | refine blk_drew ?_)); first | exact blk_new _ _) hb⟩; have znc0 : w9.cell? ⟨wl.heap.size, 0, none⟩ = some (.slice none 0 0) := (blk_cell K9.out 0).trans rfl; have znf0 := blk_frozen K9.out 0; have znc1 : w9.cell? ⟨wl.heap.size, 1, none⟩ = some (.slice none 0 0) := (blk_cell K9.out 1).trans rfl; have znf1 := blk_frozen K9.out 1; have l9_ : wl.heap.size < w9.heap.size := blk_lt K9.out; have l9a : (wl.heap.size = w9.heap.size) = False := eq_false (Nat.ne_of_lt l9_); have l9b : (w9.heap.size = wl.heap.size) = False := eq_false (Nat.ne_of_gt l9_))); have HC : Aside0 (Below w.heap.size w w9) := ⟨below_step (by repeat (with_reducible first | exact HC.out | apply below_drew1 | apply pw_below_drewN | apply below_alloc)) hb⟩; have HD : Aside0 (Below wl.heap.size wl w9) := ⟨below_step (by repeat (with_reducible first | exact HD.out | apply below_drew1 | apply pw_below_drewN | apply below_alloc)) hb⟩; have ytc0 : w9.cell? ⟨gT, 0, none⟩ = some (.slice Ax x.length cx) := (blk_cell KT.out 0).trans rfl; have ytf0 := blk_frozen KT.out 0; have ytc1 : w9.cell? ⟨gT, 1, none⟩ = some (.slice Ay r1.length cy) := (blk_cell KT.out 1).trans rfl; have ytf1 := blk_frozen KT.out 1; have lT : gT < w9.heap.size := blk_lt KT.out; have lTa : (gT = w9.heap.size) = False := eq_false (Nat.ne_of_lt lT); have lTb : (w9.heap.size = gT) = False := eq_false (Nat.ne_of_gt lT); clear ho0 ho1 hb))
          all_goals
            have RX_ := Aside0.mk (Kd.R_below RX.out HD.out)
            clear RX
            have RX := RX_
            clear RX_
            have RY_ := Aside0.mk (Kd.R_below RY.out HD.out)
            clear RY
            have RY := RY_
            clear RY_
            have Ht0_ := Aside0.mk (Kd.R_below Ht0.out HD.out)
            clear Ht0
            have Ht0 := Ht0_
            clear Ht0_
            have Ht1_ := Aside0.mk (Kd.R_below Ht1.out HD.out)
            clear Ht1
            have Ht1 := Ht1_
            clear Ht1_
            first
              | (have k1_ := blk_put K9.out 0 (.slice An0 s1.length cn0) rfl; have KU := Aside0.mk (blk_put k1_ 1 (.slice An1 s2.length cn1) rfl); have KT_ := Aside0.mk (blk_far (p := ⟨wl.heap.size, 1, none⟩) (blk_far (p := ⟨wl.heap.size, 0, none⟩) KT.out n9T (.slice An0 s1.length cn0)) n9T (.slice An1 s2.length cn1)); have KV_ := Aside0.mk (blk_far (p := ⟨wl.heap.size, 1, none⟩) (blk_far (p := ⟨wl.heap.size, 0, none⟩) KV.out n9V (.slice An0 s1.length cn0)) n9V (.slice An1 s2.length cn1)); have HBu := Aside0.mk (below_set (j := 1) (v := .slice An1 s2.length cn1) (below_set (j := 0) (v := .slice An0 s1.length cn0) HC.out HBl.out.size) HBl.out.size); have RX_ := Aside0.mk (Kd.R_set (Kd.R_set RX.out K9.out (by decide) 0 (.slice An0 s1.length cn0)) k1_ (by decide) 1 (.slice An1 s2.length cn1)); have RY_ := Aside0.mk (Kd.R_set (Kd.R_set RY.out K9.out (by decide) 0 (.slice An0 s1.length cn0)) k1_ (by decide) 1 (.slice An1 s2.length cn1)); have Ht0_ := Aside0.mk (Kd.R_set (Kd.R_set Ht0.out K9.out (by decide) 0 (.slice An0 s1.length cn0)) k1_ (by decide) 1 (.slice An1 s2.length cn1)); have Ht1_ := Aside0.mk (Kd.R_set (Kd.R_set Ht1.out K9.out (by decide) 0 (.slice An0 s1.length cn0)) k1_ (by decide) 1 (.slice An1 s2.length cn1)); have Hn0_ := Aside0.mk (Kd.R_set (Kd.R_set Hn0.out K9.out (by decide) 0 (.slice An0 s1.length cn0)) k1_ (by decide) 1 (.slice An1 s2.length cn1)); have Hn1_ := Aside0.mk (Kd.R_set (Kd.R_set Hn1.out K9.out (by decide) 0 (.slice An0 s1.length cn0)) k1_ (by decide) 1 (.slice An1 s2.length cn1)); have dTU_ : gT ≠ wl.heap.size := n9T; have lU := Nat.lt_irrefl 0; clear k1_; generalize (w9.setCell ⟨wl.heap.size, 0, none⟩ (.slice An0 s1.length cn0)).setCell ⟨wl.heap.size, 1, none⟩ (.slice An1 s2.length cn1) = wu at KU KT_ KV_ HBu RX_ RY_ Ht0_ Ht1_ Hn0_ Hn1_ ⊢; generalize wl.heap.size = gU at KU dTU_ ⊢)
              | (have KU := Aside0.mk (blk_new w9 (.cells #[.slice An0 s1.length cn0, .slice An1 s2.length cn1] 25)); have KT_ := Aside0.mk (blk_alloc KT.out (.cells #[.slice An0 s1.length cn0, .slice An1 s2.length cn1] 25)); have KV_ := Aside0.mk (blk_alloc KV.out (.cells #[.slice An0 s1.length cn0, .slice An1 s2.length cn1] 25)); have HBu := Aside0.mk (below_alloc HC.out (.cells #[.slice An0 s1.length cn0, .slice An1 s2.length cn1] 25)); have RX_ := Aside0.mk (Kd.R_alloc RX.out (.cells #[.slice An0 s1.length cn0, .slice An1 s2.length cn1] 25)); have RY_ := Aside0.mk (Kd.R_alloc RY.out (.cells #[.slice An0 s1.length cn0, .slice An1 s2.length cn1] 25)); have Ht0_ := Aside0.mk (Kd.R_alloc Ht0.out (.cells #[.slice An0 s1.length cn0, .slice An1 s2.length cn1] 25)); have Ht1_ := Aside0.mk (Kd.R_alloc Ht1.out (.cells #[.slice An0 s1.length cn0, .slice An1 s2.length cn1] 25)); have Hn0_ := Aside0.mk (Kd.R_alloc Hn0.out (.cells #[.slice An0 s1.length cn0, .slice An1 s2.length cn1] 25)); have Hn1_ := Aside0.mk (Kd.R_alloc Hn1.out (.cells #[.slice An0 s1.length cn0, .slice An1 s2.length cn1] 25)); have dTU_ : gT ≠ w9.heap.size := Nat.ne_of_lt (blk_lt KT.out); have lU := Nat.lt_irrefl 0; generalize w9.alloc (.cells #[.slice An0 s1.length cn0, .slice An1 s2.length cn1] 25) = wu at KU KT_ KV_ HBu RX_ RY_ Ht0_ Ht1_ Hn0_ Hn1_ ⊢; generalize w9.heap.size = gU at KU dTU_ ⊢)
            clear lU KT KV RX RY Ht0 Ht1 Hn0 Hn1 HC HD HBl
            try clear K9
            try clear l9_ l9a l9b znc0 znf0 znc1 znf1
            clear lT lTa lTb ytc0 ytf0 ytc1 ytf1 hx_ HX n9T n9V
            have KT := KT_
            clear KT_
            have KV := KV_
            clear KV_
            have RX := RX_
            clear RX_
            have RY := RY_
            clear RY_
            have Ht0 := Ht0_
            clear Ht0_
            have Ht1 := Ht1_
            clear Ht1_
            have Hn0 := Hn0_
            clear Hn0_
            have Hn1 := Hn1_
            clear Hn1_
            have dTU := eq_false dTU_
            have dUT := eq_false dTU_.symm
            clear xT_20_0 xT_20_1 xV_20_0 xV_20_1 xT_20_0f xT_20_1f yT_20 yV_20 yT_20z0 yT_20z1 yT_20z2 yT_20z3 yV_20z0 yV_20z1 yV_20z2 yV_20z3
            have yT_21 : gT < wu.heap.size := blk_lt KT.out
            have yT_21z0 : (gT = wu.heap.size) = False := eq_false (by omega)
            have yT_21z1 : (wu.heap.size = gT) = False := eq_false (by omega)
            have yT_21z2 : (gT = wu.heap.size + 1) = False := eq_false (by omega)
            have yT_21z3 : (wu.heap.size + 1 = gT) = False := eq_false (by omega)
            have xT_21_0 : wu.cell? ⟨gT, 0, none⟩ = some (.slice Ax x.length cx) := (blk_cell KT.out 0).trans rfl
            have xT_21_0f := blk_frozen KT.out 0
            have xT_21_1 : wu.cell? ⟨gT, 1, none⟩ = some (.slice Ay r1.length cy) := (blk_cell KT.out 1).trans rfl
            have xT_21_1f := blk_frozen KT.out 1
            have yU_21 : gU < wu.heap.size := blk_lt KU.out
            have yU_21z0 : (gU = wu.heap.size) = False := eq_false (by omega)
            have yU_21z1 : (wu.heap.size = gU) = False := eq_false (by omega)
            have yU_21z2 : (gU = wu.heap.size + 1) = False := eq_false (by omega)
            have yU_21z3 : (wu.heap.size + 1 = gU) = False := eq_false (by omega)
            have xU_21_0 : wu.cell? ⟨gU, 0, none⟩ = some (.slice An0 s1.length cn0) := (blk_cell KU.out 0).trans rfl
            have xU_21_1 : wu.cell? ⟨gU, 1, none⟩ = some (.slice An1 s2.length cn1) := (blk_cell KU.out 1).trans rfl
            by_cases e0 : s3 = 0
            · have e0b : (s3 == 0) = true := beq_iff_eq.mpr e0
              obtain ⟨es_, f5_, lv_⟩ := HSk.out e0
              have es := es_.symm
              subst es
              have HX6 := Aside0.mk (And.intro f5_ (lv_.trans HX5.out.2))
              clear es_ f5_ lv_ e0 HSk HS
              go_wp2_with fail
              have km_ := blk_put KT.out 0 (.slice An0 s1.length cn0) rfl
              go_roundg k1
              case measure => have := HK6.out; omega
              case rel => exact ⟨i + 1, _, An0, cn0, s1, An1, cn1, (by rw [wrap64_small (by have := HI.out; omega) (by have := HI.out; omega)]), rfl, ⟨by have := HI.out; have := C6.out; omega⟩, ⟨by have := HK.out; omega⟩, ⟨by have := HK6.out; omega⟩, HX6, ⟨below_set (below_set HBu.out bT.out) bT.out⟩, ⟨blk_put km_ 1 _ rfl⟩, ⟨blk_far (p := ⟨gT, 1, none⟩) (blk_far (p := ⟨gT, 0, none⟩) KV.out (of_eq_false dVT) _) (of_eq_false dVT) _⟩, ⟨Kd.R_set (Kd.R_set Hn0.out KT.out (by decide) 0 _) km_ (by decide) 1 _⟩, ⟨Kd.R_set (Kd.R_set Hn1.out KT.out (by decide) 0 _) km_ (by decide) 1 _⟩, ⟨Kd.R_set (Kd.R_set Ht0.out KT.out (by decide) 0 _) km_ (by decide) 1 _⟩, ⟨Kd.R_set (Kd.R_set Ht1.out KT.out (by decide) 0 _) km_ (by decide) 1 _⟩⟩
            · have e0b : (s3 == 0) = false := beq_eq_false_iff_ne.mpr e0
              clear e0 HSk HS
              go_wp2_with fail
              go_roundg k1
              case measure => have := HK6.out; omega
              case rel => exact ⟨i + 1, _, Ax, cx, x, Ay, cy, (by rw [wrap64_small (by have := HI.out; omega) (by have := HI.out; omega)]), rfl, ⟨by have := HI.out; have := C6.out; omega⟩, ⟨by have := HK.out; omega⟩, ⟨by have := HK6.out; omega⟩, HX5, HBu, KT, KV, RX, RY, Ht0, Ht1⟩
        · have clb := decide_eq_true cl
          have c6b := decide_eq_false c6
          clear cl c6
          go_wp2_with fail
          clear HK HK6
          try clear yT_20 yT_20z0 yT_20z1 yT_20z2 yT_20z3 xT_20_0 xT_20_0f xT_20_1 xT_20_1f yV_20 yV_20z0 yV_20z1 yV_20z2 yV_20z3 xV_20_0 xV_20_1
          go_loopg [11] 7 (fun kq v_ w' => ∃ (j : Int) (wl : World), v_ = .int .i64 j ∧ wl = w' ∧ Aside0 (0 ≤ j ∧ j ≤ 5) ∧ Aside0 (5 < j + (kq : Int)) ∧ Aside0 (kq ≤ 7) ∧ Aside0 (Below w.heap.size w w') ∧ Aside0 (w'.heap[gT]? = some (.cells #[.slice Ax x.length cx, .slice Ay r1.length cy] 25 (0, 0))) ∧ Aside0 (w'.heap[gV]? = some (.cells #[.slice At0 r0.length ct0, .slice At1 r1.length ct1] 25 (0, 0))) ∧ Aside0 (Kd.R (Kd.int .u64) 28 w' w.heap.size (fun _ => True) (.slice Ax x.length cx) x) ∧ Aside0 (Kd.R k52 52 w' w.heap.size (fun _ => True) (.slice Ay r1.length cy) r1) ∧ Aside0 (Kd.R (Kd.int .u64) 28 w' w.heap.size (fun _ => True) (.slice At0 r0.length ct0) r0) ∧ Aside0 (Kd.R k52 52 w' w.heap.size (fun _ => True) (.slice At1 r1.length ct1) r1))
          case atStart => exact ⟨0, _, rfl, rfl, ⟨by omega⟩, ⟨by omega⟩, ⟨Nat.le_refl _⟩, HBl, KT, KV, RX, RY, Ht0, Ht1⟩
          case round =>
            clear HBl KT KV RX RY Ht0 Ht1
            obtain ⟨j, wl, rfl, rfl, HJ, HK, HK6, HBl, KT, KV, RX, RY, Ht0, Ht1⟩ := hrel
            cases gk with
            | zero => exact absurd HK.out (by have := HJ.out; omega)
            | succ k2 =>
              have yT_30 : gT < wl.heap.size := blk_lt KT.out
              have yT_30z0 : (gT = wl.heap.size) = False := eq_false (by omega)
              have yT_30z1 : (wl.heap.size = gT) = False := eq_false (by omega)
              have yT_30z2 : (gT = wl.heap.size + 1) = False := eq_false (by omega)
              have yT_30z3 : (wl.heap.size + 1 = gT) = False := eq_false (by omega)
              have xT_30_0 : wl.cell? ⟨gT, 0, none⟩ = some (.slice Ax x.length cx) := (blk_cell KT.out 0).trans rfl
              have xT_30_1 : wl.cell? ⟨gT, 1, none⟩ = some (.slice Ay r1.length cy) := (blk_cell KT.out 1).trans rfl
              have yV_30 : gV < wl.heap.size := blk_lt KV.out
              have yV_30z0 : (gV = wl.heap.size) = False := eq_false (by omega)
              have yV_30z1 : (wl.heap.size = gV) = False := eq_false (by omega)
              have yV_30z2 : (gV = wl.heap.size + 1) = False := eq_false (by omega)
              have yV_30z3 : (wl.heap.size + 1 = gV) = False := eq_false (by omega)
              have xV_30_0 : wl.cell? ⟨gV, 0, none⟩ = some (.slice At0 r0.length ct0) := (blk_cell KV.out 0).trans rfl
              have xV_30_1 : wl.cell? ⟨gV, 1, none⟩ = some (.slice At1 r1.length ct1) := (blk_cell KV.out 1).trans rfl
              by_cases c5 : j < 5
              · have j0 : 0 ≤ j := HJ.out.1
                have jl : j < (r1.length : Int) := by have := HX5.out.1.2.1; omega
                obtain ⟨ad, ead, hx0, hx1, hx2⟩ := at_T52 (Kd.R_reads' RY.out).2.2 j j0 jl
                obtain ⟨ae, eae, hy0, hy1, hy2⟩ := at_T52 (Kd.R_reads' Ht1.out).2.2 j j0 jl
                subst ead eae
                have p7 := eq_true j0
                have p8 := eq_true jl
                have c5b := decide_eq_true c5
                have C5 := Aside0.mk c5
                clear j0 jl c5
                go_wp2_with fail
                go_quiet (fail)
                go_wp2_with fail
                go_roundg k2
                case measure => have := HK6.out; omega
                case rel => exact ⟨j + 1, _, (by rw [wrap64_small (by have := HJ.out; omega) (by have := HJ.out; omega)]), rfl, ⟨by have := HJ.out; have := C5.out; omega⟩, ⟨by have := HK.out; omega⟩, ⟨by have := HK6.out; omega⟩, ⟨by repeat (with_reducible first | exact HBl.out | apply pw_below_drewN | apply below_drew1)⟩, ⟨by repeat (with_reducible first | exact KT.out | refine blk_drewN ?_ _ | refine blk_drew ?_)⟩, ⟨by repeat (with_reducible first | exact KV.out | refine blk_drewN ?_ _ | refine blk_drew ?_)⟩, ⟨by repeat (with_reducible first | exact RX.out | apply Kd.R_drewN | apply Kd.R_drew)⟩, ⟨by repeat (with_reducible first | exact RY.out | apply Kd.R_drewN | apply Kd.R_drew)⟩, ⟨by repeat (with_reducible first | exact Ht0.out | apply Kd.R_drewN | apply Kd.R_drew)⟩, ⟨by repeat (with_reducible first | exact Ht1.out | apply Kd.R_drewN | apply Kd.R_drew)⟩⟩
              · have c5b := decide_eq_false c5
                clear c5
                obtain ⟨L, hL1, hL2, hL3⟩ := kept_live x r0 r1 HX5.out.1 EF.out HX5.out.2
                have HLx := Aside0.mk hL1
                have HLt := Aside0.mk hL2
                have HLh := Aside0.mk hL3
                clear hL1 hL2 hL3
                go_wp2_with fail
                have HC := HBl
                have HD := Aside0.mk (Below.refl wl.heap.size wl)
                go_region_held3 (fun w' => w'.cell? ⟨gT, 0, none⟩ = some (.slice Ax x.length cx) ∧ w'.cell? ⟨gT, 1, none⟩ = some (.slice Ay r1.length cy) ∧ w'.cell? ⟨gV, 0, none⟩ = some (.slice At0 r0.length ct0) ∧ w'.cell? ⟨gV, 1, none⟩ = some (.slice At1 r1.length ct1)) (exact ⟨(blk_cell (g := gT) (cs := #[.slice Ax x.length cx, .slice Ay r1.length cy]) (t := 25) (by repeat (with_reducible first | exact KT.out | refine blk_drewN ?_ _ | refine blk_drew ?_ | refine blk_alloc ?_ _)) 0).trans rfl, (blk_cell (g := gT) (cs := #[.slice Ax x.length cx, .slice Ay r1.length cy]) (t := 25) (by repeat (with_reducible first | exact KT.out | refine blk_drewN ?_ _ | refine blk_drew ?_ | refine blk_alloc ?_ _)) 1).trans rfl, (blk_cell (g := gV) (cs := #[.slice At0 r0.length ct0, .slice At1 r1.length ct1]) (t := 25) (by repeat (with_reducible first | exact KV.out | refine blk_drewN ?_ _ | refine blk_drew ?_ | refine blk_alloc ?_ _)) 0).trans rfl, (blk_cell (g := gV) (cs := #[.slice At0 r0.length ct0, .slice At1 r1.length ct1]) (t := 25) (by repeat (with_reducible first | exact KV.out | refine blk_drewN ?_ _ | refine blk_drew ?_ | refine blk_alloc ?_ _)) 1).trans rfl⟩) (first | (go_at_call 23; with_reducible refine (table_Live.calls 1000 Ax cx x Ay cy r1 L _ (Kd.C_below (Kd.R_reads' RX.out).2.2 (by repeat (with_reducible first | exact HD.out | apply below_drew1 | apply pw_below_drewN | apply below_alloc))) (Kd.R_reads' RX.out).2.1 (Kd.C_below (Kd.R_reads' RY.out).2.2 (by repeat (with_reducible first | exact HD.out | apply below_drew1 | apply pw_below_drewN | apply below_alloc))) (Kd.R_reads' RY.out).2.1 (Ld.below HL.out (by repeat (with_reducible first | exact HC.out | apply below_drew1 | apply pw_below_drewN | apply below_alloc))) HLx.out).mono ?_; rintro e w9 ⟨v9, rfl, hv, hb⟩; obtain ⟨AvX, cvX, rfl⟩ := Kd.R_slice hv; have KT : Aside0 (w9.heap[gT]? = some (.cells #[.slice Ax x.length cx, .slice Ay r1.length cy] 25 (0, 0))) := ⟨blk_below (by repeat (with_reducible first | exact KT.out | refine blk_drewN ?_ _ | refine blk_drew ?_ | refine blk_alloc ?_ _)) hb⟩; have KV : Aside0 (w9.heap[gV]? = some (.cells #[.slice At0 r0.length ct0, .slice At1 r1.length ct1] 25 (0, 0))) := ⟨blk_below (by repeat (with_reducible first | exact KV.out | refine blk_drewN ?_ _ | refine blk_drew ?_ | refine blk_alloc ?_ _)) hb⟩; have zT0 := (show w9.cell? ⟨gT, 0, none⟩ = some (.slice Ax x.length cx) from (blk_cell KT.out 0).trans rfl); have zT1 := (show w9.cell? ⟨gT, 1, none⟩ = some (.slice Ay r1.length cy) from (blk_cell KT.out 1).trans rfl); have zV0 := (show w9.cell? ⟨gV, 0, none⟩ = some (.slice At0 r0.length ct0) from (blk_cell KV.out 0).trans rfl); have zV1 := (show w9.cell? ⟨gV, 1, none⟩ = some (.slice At1 r1.length ct1) from (blk_cell KV.out 1).trans rfl); (try (have HvX_ := Aside0.mk (Kd.R_below (by repeat (with_reducible first | exact HvX.out | apply Kd.R_alloc | apply Kd.R_drewN | apply Kd.R_drew)) hb); clear HvX; have HvX := HvX_; clear HvX_)); (try (have HvV_ := Aside0.mk (Kd.R_below (by repeat (with_reducible first | exact HvV.out | apply Kd.R_alloc | apply Kd.R_drewN | apply Kd.R_drew)) hb); clear HvV; have HvV := HvV_; clear HvV_)); have HC : Aside0 (Below w.heap.size w w9) := ⟨below_step (by repeat (with_reducible first | exact HC.out | apply below_drew1 | apply pw_below_drewN | apply below_alloc)) hb⟩; have HD : Aside0 (Below wl.heap.size wl w9) := ⟨below_step (by repeat (with_reducible first | exact HD.out | apply below_drew1 | apply pw_below_drewN | apply below_alloc)) hb⟩; clear hb; have HvX := Aside0.mk hv; clear hv) | (go_at_call 23; with_reducible refine (table_Live.calls 1000 At0 ct0 r0 At1 ct1 r1 L _ (Kd.C_below (Kd.R_reads' Ht0.out).2.2 (by repeat (with_reducible first | exact HD.out | apply below_drew1 | apply pw_below_drewN | apply below_alloc))) (Kd.R_reads' Ht0.out).2.1 (Kd.C_below (Kd.R_reads' Ht1.out).2.2 (by repeat (with_reducible first | exact HD.out | apply below_drew1 | apply pw_below_drewN | apply below_alloc))) (Kd.R_reads' Ht1.out).2.1 (Ld.below HL.out (by repeat (with_reducible first | exact HC.out | apply below_drew1 | apply pw_below_drewN | apply below_alloc))) HLt.out).mono ?_; rintro e w9 ⟨v9, rfl, hv, hb⟩; obtain ⟨AvV, cvV, rfl⟩ := Kd.R_slice hv; have KT : Aside0 (w9.heap[gT]? = some (.cells #[.slice Ax x.length cx, .slice Ay r1.length cy] 25 (0, 0))) := ⟨blk_below (by repeat (with_reducible first | exact KT.out | refine blk_drewN ?_ _ | refine blk_drew ?_ | refine blk_alloc ?_ _)) hb⟩; have KV : Aside0 (w9.heap[gV]? = some (.cells #[.slice At0 r0.length ct0, .slice At1 r1.length ct1] 25 (0, 0))) := ⟨blk_below (by repeat (with_reducible first | exact KV.out | refine blk_drewN ?_ _ | refine blk_drew ?_ | refine blk_alloc ?_ _)) hb⟩; have zT0 := (show w9.cell? ⟨gT, 0, none⟩ = some (.slice Ax x.length cx) from (blk_cell KT.out 0).trans rfl); have zT1 := (show w9.cell? ⟨gT, 1, none⟩ = some (.slice Ay r1.length cy) from (blk_cell KT.out 1).trans rfl); have zV0 := (show w9.cell? ⟨gV, 0, none⟩ = some (.slice At0 r0.length ct0) from (blk_cell KV.out 0).trans rfl); have zV1 := (show w9.cell? ⟨gV, 1, none⟩ = some (.slice At1 r1.length ct1) from (blk_cell KV.out 1).trans rfl); (try (have HvX_ := Aside0.mk (Kd.R_below (by repeat (with_reducible first | exact HvX.out | apply Kd.R_alloc | apply Kd.R_drewN | apply Kd.R_drew)) hb); clear HvX; have HvX := HvX_; clear HvX_)); (try (have HvV_ := Aside0.mk (Kd.R_below (by repeat (with_reducible first | exact HvV.out | apply Kd.R_alloc | apply Kd.R_drewN | apply Kd.R_drew)) hb); clear HvV; have HvV := HvV_; clear HvV_)); have HC : Aside0 (Below w.heap.size w w9) := ⟨below_step (by repeat (with_reducible first | exact HC.out | apply below_drew1 | apply pw_below_drewN | apply below_alloc)) hb⟩; have HD : Aside0 (Below wl.heap.size wl w9) := ⟨below_step (by repeat (with_reducible first | exact HD.out | apply below_drew1 | apply pw_below_drewN | apply below_alloc)) hb⟩; clear hb; have HvV := Aside0.mk hv; clear hv) | (go_at_call 24; refine (turnspitref14_Handles.calls 1000 AvX cvX L AvV cvV L true _ (Kd.R_reads' (by repeat (with_reducible first | exact HvX.out | apply Kd.R_alloc | apply Kd.R_drewN | apply Kd.R_drew))).2.2 (Kd.R_reads' (by repeat (with_reducible first | exact HvX.out | apply Kd.R_alloc | apply Kd.R_drewN | apply Kd.R_drew))).2.1 (Kd.R_reads' (by repeat (with_reducible first | exact HvV.out | apply Kd.R_alloc | apply Kd.R_drewN | apply Kd.R_drew))).2.2 (Kd.R_reads' (by repeat (with_reducible first | exact HvV.out | apply Kd.R_alloc | apply Kd.R_drewN | apply Kd.R_drew))).2.1 HLh.out).mono ?_; rintro e w' ⟨rfl, hd⟩; obtain ⟨⟨nd, rfl⟩⟩ := hd))
                all_goals
                  go_wp2_with fail
                  go_ret
                  exact ⟨rfl, (by repeat (with_reducible first | exact HC.out | apply below_drew1 | apply pw_below_drewN | apply below_alloc))⟩
      · have clb := decide_eq_false cl
        clear cl
        go_wp2_with fail
        clear HK HK6
        try clear yT_20 yT_20z0 yT_20z1 yT_20z2 yT_20z3 xT_20_0 xT_20_0f xT_20_1 xT_20_1f yV_20 yV_20z0 yV_20z1 yV_20z2 yV_20z3 xV_20_0 xV_20_1
        go_loopg [11] 7 (fun kq v_ w' => ∃ (j : Int) (wl : World), v_ = .int .i64 j ∧ wl = w' ∧ Aside0 (0 ≤ j ∧ j ≤ 5) ∧ Aside0 (5 < j + (kq : Int)) ∧ Aside0 (kq ≤ 7) ∧ Aside0 (Below w.heap.size w w') ∧ Aside0 (w'.heap[gT]? = some (.cells #[.slice Ax x.length cx, .slice Ay r1.length cy] 25 (0, 0))) ∧ Aside0 (w'.heap[gV]? = some (.cells #[.slice At0 r0.length ct0, .slice At1 r1.length ct1] 25 (0, 0))) ∧ Aside0 (Kd.R (Kd.int .u64) 28 w' w.heap.size (fun _ => True) (.slice Ax x.length cx) x) ∧ Aside0 (Kd.R k52 52 w' w.heap.size (fun _ => True) (.slice Ay r1.length cy) r1) ∧ Aside0 (Kd.R (Kd.int .u64) 28 w' w.heap.size (fun _ => True) (.slice At0 r0.length ct0) r0) ∧ Aside0 (Kd.R k52 52 w' w.heap.size (fun _ => True) (.slice At1 r1.length ct1) r1))
        case atStart => exact ⟨0, _, rfl, rfl, ⟨by omega⟩, ⟨by omega⟩, ⟨Nat.le_refl _⟩, HBl, KT, KV, RX, RY, Ht0, Ht1⟩
        case round =>
          clear HBl KT KV RX RY Ht0 Ht1
          obtain ⟨j, wl, rfl, rfl, HJ, HK, HK6, HBl, KT, KV, RX, RY, Ht0, Ht1⟩ := hrel
          cases gk with
          | zero => exact absurd HK.out (by have := HJ.out; omega)
          | succ k2 =>
            have yT_30 : gT < wl.heap.size := blk_lt KT.out
            have yT_30z0 : (gT = wl.heap.size) = False := eq_false (by omega)
            have yT_30z1 : (wl.heap.size = gT) = False := eq_false (by omega)
            have yT_30z2 : (gT = wl.heap.size + 1) = False := eq_false (by omega)
            have yT_30z3 : (wl.heap.size + 1 = gT) = False := eq_false (by omega)
            have xT_30_0 : wl.cell? ⟨gT, 0, none⟩ = some (.slice Ax x.length cx) := (blk_cell KT.out 0).trans rfl
            have xT_30_1 : wl.cell? ⟨gT, 1, none⟩ = some (.slice Ay r1.length cy) := (blk_cell KT.out 1).trans rfl
            have yV_30 : gV < wl.heap.size := blk_lt KV.out
            have yV_30z0 : (gV = wl.heap.size) = False := eq_false (by omega)
            have yV_30z1 : (wl.heap.size = gV) = False := eq_false (by omega)
            have yV_30z2 : (gV = wl.heap.size + 1) = False := eq_false (by omega)
            have yV_30z3 : (wl.heap.size + 1 = gV) = False := eq_false (by omega)
            have xV_30_0 : wl.cell? ⟨gV, 0, none⟩ = some (.slice At0 r0.length ct0) := (blk_cell KV.out 0).trans rfl
            have xV_30_1 : wl.cell? ⟨gV, 1, none⟩ = some (.slice At1 r1.length ct1) := (blk_cell KV.out 1).trans rfl
            by_cases c5 : j < 5
            · have j0 : 0 ≤ j := HJ.out.1
              have jl : j < (r1.length : Int) := by have := HX5.out.1.2.1; omega
              obtain ⟨ad, ead, hx0, hx1, hx2⟩ := at_T52 (Kd.R_reads' RY.out).2.2 j j0 jl
              obtain ⟨ae, eae, hy0, hy1, hy2⟩ := at_T52 (Kd.R_reads' Ht1.out).2.2 j j0 jl
              subst ead eae
              have p7 := eq_true j0
              have p8 := eq_true jl
              have c5b := decide_eq_true c5
              have C5 := Aside0.mk c5
              clear j0 jl c5
              go_wp2_with fail
              go_quiet (fail)
              go_wp2_with fail
              go_roundg k2
              case measure => have := HK6.out; omega
              case rel => exact ⟨j + 1, _, (by rw [wrap64_small (by have := HJ.out; omega) (by have := HJ.out; omega)]), rfl, ⟨by have := HJ.out; have := C5.out; omega⟩, ⟨by have := HK.out; omega⟩, ⟨by have := HK6.out; omega⟩, ⟨by repeat (with_reducible first | exact HBl.out | apply pw_below_drewN | apply below_drew1)⟩, ⟨by repeat (with_reducible first | exact KT.out | refine blk_drewN ?_ _ | refine blk_drew ?_)⟩, ⟨by repeat (with_reducible first | exact KV.out | refine blk_drewN ?_ _ | refine blk_drew ?_)⟩, ⟨by repeat (with_reducible first | exact RX.out | apply Kd.R_drewN | apply Kd.R_drew)⟩, ⟨by repeat (with_reducible first | exact RY.out | apply Kd.R_drewN | apply Kd.R_drew)⟩, ⟨by repeat (with_reducible first | exact Ht0.out | apply Kd.R_drewN | apply Kd.R_drew)⟩, ⟨by repeat (with_reducible first | exact Ht1.out | apply Kd.R_drewN | apply Kd.R_drew)⟩⟩
            · have c5b := decide_eq_false c5
              clear c5
              obtain ⟨L, hL1, hL2, hL3⟩ := kept_live x r0 r1 HX5.out.1 EF.out HX5.out.2
              have HLx := Aside0.mk hL1
              have HLt := Aside0.mk hL2
              have HLh := Aside0.mk hL3
              clear hL1 hL2 hL3
              go_wp2_with fail
              have HC := HBl
              have HD := Aside0.mk (Below.refl wl.heap.size wl)
              go_region_held3 (fun w' => w'.cell? ⟨gT, 0, none⟩ = some (.slice Ax x.length cx) ∧ w'.cell? ⟨gT, 1, none⟩ = some (.slice Ay r1.length cy) ∧ w'.cell? ⟨gV, 0, none⟩ = some (.slice At0 r0.length ct0) ∧ w'.cell? ⟨gV, 1, none⟩ = some (.slice At1 r1.length ct1)) (exact ⟨(blk_cell (g := gT) (cs := #[.slice Ax x.length cx, .slice Ay r1.length cy]) (t := 25) (by repeat (with_reducible first | exact KT.out | refine blk_drewN ?_ _ | refine blk_drew ?_ | refine blk_alloc ?_ _)) 0).trans rfl, (blk_cell (g := gT) (cs := #[.slice Ax x.length cx, .slice Ay r1.length cy]) (t := 25) (by repeat (with_reducible first | exact KT.out | refine blk_drewN ?_ _ | refine blk_drew ?_ | refine blk_alloc ?_ _)) 1).trans rfl, (blk_cell (g := gV) (cs := #[.slice At0 r0.length ct0, .slice At1 r1.length ct1]) (t := 25) (by repeat (with_reducible first | exact KV.out | refine blk_drewN ?_ _ | refine blk_drew ?_ | refine blk_alloc ?_ _)) 0).trans rfl, (blk_cell (g := gV) (cs := #[.slice At0 r0.length ct0, .slice At1 r1.length ct1]) (t := 25) (by repeat (with_reducible first | exact KV.out | refine blk_drewN ?_ _ | refine blk_drew ?_ | refine blk_alloc ?_ _)) 1).trans rfl⟩) (first | (go_at_call 23; with_reducible refine (table_Live.calls 1000 Ax cx x Ay cy r1 L _ (Kd.C_below (Kd.R_reads' RX.out).2.2 (by repeat (with_reducible first | exact HD.out | apply below_drew1 | apply pw_below_drewN | apply below_alloc))) (Kd.R_reads' RX.out).2.1 (Kd.C_below (Kd.R_reads' RY.out).2.2 (by repeat (with_reducible first | exact HD.out | apply below_drew1 | apply pw_below_drewN | apply below_alloc))) (Kd.R_reads' RY.out).2.1 (Ld.below HL.out (by repeat (with_reducible first | exact HC.out | apply below_drew1 | apply pw_below_drewN | apply below_alloc))) HLx.out).mono ?_; rintro e w9 ⟨v9, rfl, hv, hb⟩; obtain ⟨AvX, cvX, rfl⟩ := Kd.R_slice hv; have KT : Aside0 (w9.heap[gT]? = some (.cells #[.slice Ax x.length cx, .slice Ay r1.length cy] 25 (0, 0))) := ⟨blk_below (by repeat (with_reducible first | exact KT.out | refine blk_drewN ?_ _ | refine blk_drew ?_ | refine blk_alloc ?_ _)) hb⟩; have KV : Aside0 (w9.heap[gV]? = some (.cells #[.slice At0 r0.length ct0, .slice At1 r1.length ct1] 25 (0, 0))) := ⟨blk_below (by repeat (with_reducible first | exact KV.out | refine blk_drewN ?_ _ | refine blk_drew ?_ | refine blk_alloc ?_ _)) hb⟩; have zT0 := (show w9.cell? ⟨gT, 0, none⟩ = some (.slice Ax x.length cx) from (blk_cell KT.out 0).trans rfl); have zT1 := (show w9.cell? ⟨gT, 1, none⟩ = some (.slice Ay r1.length cy) from (blk_cell KT.out 1).trans rfl); have zV0 := (show w9.cell? ⟨gV, 0, none⟩ = some (.slice At0 r0.length ct0) from (blk_cell KV.out 0).trans rfl); have zV1 := (show w9.cell? ⟨gV, 1, none⟩ = some (.slice At1 r1.length ct1) from (blk_cell KV.out 1).trans rfl); (try (have HvX_ := Aside0.mk (Kd.R_below (by repeat (with_reducible first | exact HvX.out | apply Kd.R_alloc | apply Kd.R_drewN | apply Kd.R_drew)) hb); clear HvX; have HvX := HvX_; clear HvX_)); (try (have HvV_ := Aside0.mk (Kd.R_below (by repeat (with_reducible first | exact HvV.out | apply Kd.R_alloc | apply Kd.R_drewN | apply Kd.R_drew)) hb); clear HvV; have HvV := HvV_; clear HvV_)); have HC : Aside0 (Below w.heap.size w w9) := ⟨below_step (by repeat (with_reducible first | exact HC.out | apply below_drew1 | apply pw_below_drewN | apply below_alloc)) hb⟩; have HD : Aside0 (Below wl.heap.size wl w9) := ⟨below_step (by repeat (with_reducible first | exact HD.out | apply below_drew1 | apply pw_below_drewN | apply below_alloc)) hb⟩; clear hb; have HvX := Aside0.mk hv; clear hv) | (go_at_call 23; with_reducible refine (table_Live.calls 1000 At0 ct0 r0 At1 ct1 r1 L _ (Kd.C_below (Kd.R_reads' Ht0.out).2.2 (by repeat (with_reducible first | exact HD.out | apply below_drew1 | apply pw_below_drewN | apply below_alloc))) (Kd.R_reads' Ht0.out).2.1 (Kd.C_below (Kd.R_reads' Ht1.out).2.2 (by repeat (with_reducible first | exact HD.out | apply below_drew1 | apply pw_below_drewN | apply below_alloc))) (Kd.R_reads' Ht1.out).2.1 (Ld.below HL.out (by repeat (with_reducible first | exact HC.out | apply below_drew1 | apply pw_below_drewN | apply below_alloc))) HLt.out).mono ?_; rintro e w9 ⟨v9, rfl, hv, hb⟩; obtain ⟨AvV, cvV, rfl⟩ := Kd.R_slice hv; have KT : Aside0 (w9.heap[gT]? = some (.cells #[.slice Ax x.length cx, .slice Ay r1.length cy] 25 (0, 0))) := ⟨blk_below (by repeat (with_reducible first | exact KT.out | refine blk_drewN ?_ _ | refine blk_drew ?_ | refine blk_alloc ?_ _)) hb⟩; have KV : Aside0 (w9.heap[gV]? = some (.cells #[.slice At0 r0.length ct0, .slice At1 r1.length ct1] 25 (0, 0))) := ⟨blk_below (by repeat (with_reducible first | exact KV.out | refine blk_drewN ?_ _ | refine blk_drew ?_ | refine blk_alloc ?_ _)) hb⟩; have zT0 := (show w9.cell? ⟨gT, 0, none⟩ = some (.slice Ax x.length cx) from (blk_cell KT.out 0).trans rfl); have zT1 := (show w9.cell? ⟨gT, 1, none⟩ = some (.slice Ay r1.length cy) from (blk_cell KT.out 1).trans rfl); have zV0 := (show w9.cell? ⟨gV, 0, none⟩ = some (.slice At0 r0.length ct0) from (blk_cell KV.out 0).trans rfl); have zV1 := (show w9.cell? ⟨gV, 1, none⟩ = some (.slice At1 r1.length ct1) from (blk_cell KV.out 1).trans rfl); (try (have HvX_ := Aside0.mk (Kd.R_below (by repeat (with_reducible first | exact HvX.out | apply Kd.R_alloc | apply Kd.R_drewN | apply Kd.R_drew)) hb); clear HvX; have HvX := HvX_; clear HvX_)); (try (have HvV_ := Aside0.mk (Kd.R_below (by repeat (with_reducible first | exact HvV.out | apply Kd.R_alloc | apply Kd.R_drewN | apply Kd.R_drew)) hb); clear HvV; have HvV := HvV_; clear HvV_)); have HC : Aside0 (Below w.heap.size w w9) := ⟨below_step (by repeat (with_reducible first | exact HC.out | apply below_drew1 | apply pw_below_drewN | apply below_alloc)) hb⟩; have HD : Aside0 (Below wl.heap.size wl w9) := ⟨below_step (by repeat (with_reducible first | exact HD.out | apply below_drew1 | apply pw_below_drewN | apply below_alloc)) hb⟩; clear hb; have HvV := Aside0.mk hv; clear hv) | (go_at_call 24; refine (turnspitref14_Handles.calls 1000 AvX cvX L AvV cvV L true _ (Kd.R_reads' (by repeat (with_reducible first | exact HvX.out | apply Kd.R_alloc | apply Kd.R_drewN | apply Kd.R_drew))).2.2 (Kd.R_reads' (by repeat (with_reducible first | exact HvX.out | apply Kd.R_alloc | apply Kd.R_drewN | apply Kd.R_drew))).2.1 (Kd.R_reads' (by repeat (with_reducible first | exact HvV.out | apply Kd.R_alloc | apply Kd.R_drewN | apply Kd.R_drew))).2.2 (Kd.R_reads' (by repeat (with_reducible first | exact HvV.out | apply Kd.R_alloc | apply Kd.R_drewN | apply Kd.R_drew))).2.1 HLh.out).mono ?_; rintro e w' ⟨rfl, hd⟩; obtain ⟨⟨nd, rfl⟩⟩ := hd))
              all_goals
                go_wp2_with fail
                go_ret
                exact ⟨rfl, (by repeat (with_reducible first | exact HC.out | apply below_drew1 | apply pw_below_drewN | apply below_alloc))⟩
end Go.Proofs.YtdchbcpfciljoaaDoor

/- TableFirst: walked by hand. -/
import Derived.Test.YtdchbcpfciljoaaDoorPureMade
import Derived.Test.YtdchbcpfciljoaaDoorPureFirst
import Derived.Test.YtdchbcpfciljoaaDoorGA
import Derived.StillTailTactics
import Derived.Deep.RegionHeld3
namespace Go.Proofs.YtdchbcpfciljoaaDoor
open Go.RowKit Go.Proofs.YtdchbcpfciljoaaDoor Go.Proofs.YtdchbcpfciljoaaDoor.Given Go.Proofs.YtdchbcpfciljoaaDoor.Print Go.Proofs.YtdchbcpfciljoaaDoor.Pure Go.Proofs.YtdchbcpfciljoaaDoorW.PrintWords Go.Proofs.YtdchbcpfciljoaaDoorW.PrintLast Go.Proofs.YtdchbcpfciljoaaDoorW.PrintMore
set_option linter.unusedVariables false
set_option linter.unusedSimpArgs false
theorem first16 {a : Int} (h : (Lit.int .u16 a).wf = true) : 0 ≤ a ∧ a < 65536 := by
  simp [Lit.wf, IntKind.min, IntKind.max, IntKind.signed, IntKind.bits] at h
  omega
theorem first8 {a : Int} (h : (Lit.int .u8 a).wf = true) : 0 ≤ a ∧ a < 256 := by
  simp [Lit.wf, IntKind.min, IntKind.max, IntKind.signed, IntKind.bits] at h
  omega
set_option maxHeartbeats 8000000 in
set_option maxRecDepth 100000 in
theorem Walk.TableFirst (A0 : Option Addr) (c0 : Nat) (l0 : List Int) (m : Int) (wm : (Lit.int .u8 m).wf = true) (w : World) (HLd : Ld w) (hr0 : Kd.C (Kd.int .u16) w A0 l0.length l0) (hc0 : l0.length ≤ c0) (hw : ∀ x ∈ l0, (Lit.int .u16 x).wf = true) :
    Calls Tryd.prog 9 #[.slice A0 l0.length c0, .int .u8 m] w fun e w' => e = .returned (.bool true) ∧ Below w.heap.size w w' := by
  have hu25 := Tryd.underlying25
  have hu27 := Tryd.underlying27
  have hu52 := Tryd.underlying52
  obtain ⟨r0, r1, em, e0, e1, hU, hr⟩ := made_ok l0 (fun x hx => first16 (hw x hx)) 1000 (by decide)
  have hm := first8 wm
  have HM := Aside0.mk (mask_first m hm.1 hm.2)
  have HR0 := Aside0.mk hr0
  have HC0 := Aside0.mk hc0
  have HL := Aside0.mk HLd
  have EM := Aside0.mk em
  have E0 := Aside0.mk e0
  have E1 := Aside0.mk e1
  have EU := Aside0.mk hU
  have ER := Aside0.mk hr
  clear hr0 hc0 HLd em e0 e1 hU hr hm wm hw
  go_enter Tryd.func9, Tryd.ntmps9
  go_wp2_with fail
  refine (turnspitlaw14_awake.calls true _ HL.out rfl).mono ?_
  rintro e w1 ⟨rfl, hb⟩
  have HB1 := Aside0.mk (below_step (Below.refl w.heap.size w) hb)
  clear hb
  go_wp2_with fail
  refine (turnspitlaw14_Made.calls 1000 A0 c0 l0 r0 r1 _ (Kd.C_below HR0.out HB1.out) HC0.out (Ld.below HL.out (by exact HB1.out)) EM.out).mono ?_
  rintro e w2 ⟨vt0, vt1, rfl, ho0, ho1, hb⟩
  obtain ⟨At0, ct0, rfl⟩ := Kd.R_slice ho0
  obtain ⟨At1, ct1, rfl⟩ := Kd.R_slice ho1
  have Ht0 := Aside0.mk ho0
  have Ht1 := Aside0.mk ho1
  clear ho0 ho1
  have HB2 := Aside0.mk (below_step HB1.out hb)
  clear hb
  go_wp2_with fail
  have Ht0_ := Aside0.mk (Kd.R_lower Ht0.out HB1.out.size)
  have Ht1_ := Aside0.mk (Kd.R_lower Ht1.out HB1.out.size)
  clear Ht0 Ht1
  have Ht0 := Ht0_
  have Ht1 := Ht1_
  clear Ht0_ Ht1_
  have KT := Aside0.mk (blk_new w2 (.cells #[.slice At0 r0.length ct0, .slice At1 r1.length ct1] 25))
  have HBx := Aside0.mk (below_alloc HB2.out (.cells #[.slice At0 r0.length ct0, .slice At1 r1.length ct1] 25))
  have bT : Aside0 (w.heap.size ≤ w2.heap.size) := ⟨HB2.out.size⟩
  have Ht0_ := Aside0.mk (Kd.R_alloc Ht0.out (.cells #[.slice At0 r0.length ct0, .slice At1 r1.length ct1] 25))
  have Ht1_ := Aside0.mk (Kd.R_alloc Ht1.out (.cells #[.slice At0 r0.length ct0, .slice At1 r1.length ct1] 25))
  generalize w2.alloc (.cells #[.slice At0 r0.length ct0, .slice At1 r1.length ct1] 25) = w3 at KT HBx Ht0_ Ht1_ ⊢
  generalize w2.heap.size = gT at KT bT  ⊢
  clear Ht0
  have Ht0 := Ht0_
  clear Ht0_
  clear Ht1
  have Ht1 := Ht1_
  clear Ht1_
  have HB_T := HBx
  clear HBx
  go_loopg [7, 8] 6 (fun kq v7 v8 w' => ∃ (i : Int) (wl : World), v7 = .int .i64 (fd r0 (i + 1).toNat) ∧ v8 = .int .i64 i ∧ wl = w' ∧ Aside0 (-1 ≤ i ∧ i < 5) ∧ Aside0 (i + 2 ≤ (kq : Int)) ∧ Aside0 (kq ≤ 6) ∧ Aside0 (Below w.heap.size w w') ∧ Aside0 (w'.heap[gT]? = some (.cells #[.slice At0 r0.length ct0, .slice At1 r1.length ct1] 25 (0, 0))) ∧ Aside0 (Kd.R (Kd.int .u64) 28 w' w.heap.size (fun _ => True) (.slice At0 r0.length ct0) r0) ∧ Aside0 (Kd.R k52 52 w' w.heap.size (fun _ => True) (.slice At1 r1.length ct1) r1))
  case atStart => exact ⟨4, _, (by show _ = Value.int .i64 (fd r0 5); rw [fd_end r0 5 (by have := E0.out; omega)]), rfl, rfl, ⟨by omega⟩, ⟨by omega⟩, ⟨Nat.le_refl _⟩, HB_T, KT, Ht0, Ht1⟩
  case round =>
    clear HB_T KT Ht0 Ht1
    obtain ⟨i, wl, rfl, rfl, rfl, HI, HK, HK6, HBl, KT, Ht0, Ht1⟩ := hrel
    cases gk with
    | zero => exact absurd HK.out (by have := HI.out; omega)
    | succ k1 =>
      have yT_20 : gT < wl.heap.size := blk_lt KT.out
      have yT_20z0 : (gT = wl.heap.size) = False := eq_false (by omega)
      have yT_20z1 : (wl.heap.size = gT) = False := eq_false (by omega)
      have yT_20z2 : (gT = wl.heap.size + 1) = False := eq_false (by omega)
      have yT_20z3 : (wl.heap.size + 1 = gT) = False := eq_false (by omega)
      have xT_20_0 : wl.cell? ⟨gT, 0, none⟩ = some (.slice At0 r0.length ct0) := (blk_cell KT.out 0).trans rfl
      have xT_20_1 : wl.cell? ⟨gT, 1, none⟩ = some (.slice At1 r1.length ct1) := (blk_cell KT.out 1).trans rfl
      by_cases c0 : 0 ≤ i
      · have i5 : i < (r0.length : Int) := by have := HI.out; have := E0.out; omega
        obtain ⟨ad, ead, hx⟩ := Kd.at_int (Kd.R_reads' Ht0.out).2.2 i c0 i5
        subst ead
        have p7 := eq_true c0
        have p8 := eq_true i5
        have c0b := decide_eq_true c0
        have c0c : decide (i ≥ 0) = true := decide_eq_true c0
        have HF := Aside0.mk (rmay_f (rd r0 i) (rd_u64 EU.out c0 i5) 1000 (by decide))
        have C0 := Aside0.mk c0
        clear c0 i5
        go_wp2_with fail
        refine (turnspitref07_May.calls 1000 (rd r0 i) 0 (freeB (rd r0 i)) _ (Ld.below HL.out (by exact HBl.out)) HF.out).mono ?_
        rintro e w21 ⟨rfl, hb⟩
        have HB21 := Aside0.mk (below_step HBl.out hb)
        have KT_ := Aside0.mk (blk_below KT.out hb)
        clear KT
        have KT := KT_
        clear KT_
        have Ht0_ := Aside0.mk (Kd.R_below Ht0.out hb)
        clear Ht0
        have Ht0 := Ht0_
        clear Ht0_
        have Ht1_ := Aside0.mk (Kd.R_below Ht1.out hb)
        clear Ht1
        have Ht1 := Ht1_
        clear Ht1_
        clear hb
        try clear yT_20 yT_20z0 yT_20z1 yT_20z2 yT_20z3 xT_20_0 xT_20_1
        have yT_21 : gT < w21.heap.size := blk_lt KT.out
        have yT_21z0 : (gT = w21.heap.size) = False := eq_false (by omega)
        have yT_21z1 : (w21.heap.size = gT) = False := eq_false (by omega)
        have yT_21z2 : (gT = w21.heap.size + 1) = False := eq_false (by omega)
        have yT_21z3 : (w21.heap.size + 1 = gT) = False := eq_false (by omega)
        have xT_21_0 : w21.cell? ⟨gT, 0, none⟩ = some (.slice (some ad) r0.length ct0) := (blk_cell KT.out 0).trans rfl
        have xT_21_1 : w21.cell? ⟨gT, 1, none⟩ = some (.slice At1 r1.length ct1) := (blk_cell KT.out 1).trans rfl
        cases hF : freeB (rd r0 i)
        · go_wp2_with fail
          go_roundg k1
          case measure => omega
          case rel => exact ⟨i - 1, _, (by have hi := HI.out; have hc := C0.out; have he := E0.out; obtain ⟨n, rfl⟩ := Int.eq_ofNat_of_zero_le hc; have e1 : ((n : Int) - 1 + 1).toNat = n := (by omega); have e2 : ((n : Int) + 1).toNat = n + 1 := (by omega); rw [rd_nat r0 n (by omega)] at hF; rw [e1, e2, fd_no r0 n (by omega) hF]), (by rw [wrap64_small (by have := HI.out; have := C0.out; omega) (by have := HI.out; have := C0.out; omega)]), rfl, ⟨by have := HI.out; have := C0.out; omega⟩, ⟨by have := HK.out; omega⟩, ⟨by have := HK6.out; omega⟩, HB21, KT, Ht0, Ht1⟩
        · go_wp2_with fail
          go_roundg k1
          case measure => omega
          case rel => exact ⟨i - 1, _, (by have hi := HI.out; have hc := C0.out; have he := E0.out; obtain ⟨n, rfl⟩ := Int.eq_ofNat_of_zero_le hc; have e1 : ((n : Int) - 1 + 1).toNat = n := (by omega); rw [rd_nat r0 n (by omega)] at hF; rw [e1, fd_yes r0 n (by omega) hF]), (by rw [wrap64_small (by have := HI.out; have := C0.out; omega) (by have := HI.out; have := C0.out; omega)]), rfl, ⟨by have := HI.out; have := C0.out; omega⟩, ⟨by have := HK.out; omega⟩, ⟨by have := HK6.out; omega⟩, HB21, KT, Ht0, Ht1⟩
      · have c0c : decide (i ≥ 0) = false := decide_eq_false c0
        have c0b : decide (0 ≤ i) = false := decide_eq_false c0
        have ei : fd r0 (i + 1).toNat = fd r0 0 := congrArg (fd r0) (by have := HI.out; omega)
        rw [ei]
        clear ei c0
        rcases hff : firstFree r0 0 with _ | n
        · rw [fd_none hff]
          have HCr := Aside0.mk (Create_f r0 r1 EU.out 8 3 (bits .or .u64 (IntKind.u64.wrap m) 1) HM.out.1)
          rw [create_none r0 r1 _ ER.out HM.out.2 hff] at HCr
          clear hff
          go_wp2_with fail
          refine (table_Create.calls At0 ct0 r0 At1 ct1 r1 8 3 (bits .or .u64 (IntKind.u64.wrap m) 1) [] [] 0 0 5 _ (Kd.R_reads' Ht0.out).2.2 (Kd.R_reads' Ht0.out).2.1 (Kd.R_reads' Ht1.out).2.2 (Kd.R_reads' Ht1.out).2.1 (Ld.below HL.out (by exact HBl.out)) HCr.out).mono ?_
          rintro e w21 ⟨vn0, vn1, rfl, ho0, ho1, hb⟩
          obtain ⟨An0, cn0, rfl⟩ := Kd.R_slice ho0
          obtain ⟨An1, cn1, rfl⟩ := Kd.R_slice ho1
          have Hn0 := Aside0.mk ho0
          have Hn1 := Aside0.mk ho1
          clear ho0 ho1
          have HB21 := Aside0.mk (below_step HBl.out hb)
          have KT_ := Aside0.mk (blk_below KT.out hb)
          clear KT
          have KT := KT_
          clear KT_
          have Ht0_ := Aside0.mk (Kd.R_below Ht0.out hb)
          clear Ht0
          have Ht0 := Ht0_
          clear Ht0_
          have Ht1_ := Aside0.mk (Kd.R_below Ht1.out hb)
          clear Ht1
          have Ht1 := Ht1_
          clear Ht1_
          clear hb
          try clear yT_20 yT_20z0 yT_20z1 yT_20z2 yT_20z3 xT_20_0 xT_20_1
          have yT_21 : gT < w21.heap.size := blk_lt KT.out
          have yT_21z0 : (gT = w21.heap.size) = False := eq_false (by omega)
          have yT_21z1 : (w21.heap.size = gT) = False := eq_false (by omega)
          have yT_21z2 : (gT = w21.heap.size + 1) = False := eq_false (by omega)
          have yT_21z3 : (w21.heap.size + 1 = gT) = False := eq_false (by omega)
          have xT_21_0 : w21.cell? ⟨gT, 0, none⟩ = some (.slice At0 r0.length ct0) := (blk_cell KT.out 0).trans rfl
          have xT_21_1 : w21.cell? ⟨gT, 1, none⟩ = some (.slice At1 r1.length ct1) := (blk_cell KT.out 1).trans rfl
          go_wp2_with fail
          go_ret
          exact ⟨rfl, by repeat (first | exact HB21.out | apply below_alloc)⟩
        · rw [fd_some hff]
          obtain ⟨s0, s1, g, g0, LU, LT, h1_, h2_, h3_, h4_, h5_, h6, h7, h8_⟩ := first_some r0 r1 (bits .or .u64 (IntKind.u64.wrap m) 1) n E0.out EU.out ER.out HM.out hff
          have HCr := Aside0.mk h1_
          have HLu := Aside0.mk h2_
          have HLt := Aside0.mk h3_
          have HCk := Aside0.mk h4_
          have HGn := Aside0.mk h5_
          have H8 := Aside0.mk h8_
          clear h1_ h2_ h3_ h4_ h5_ h8_ hff
          have nb : decide ((n : Int) < 0) = false := decide_eq_false (by omega)
          have h6w : (g == IntKind.i64.wrap (g0 + 1)) = true := by first | exact h6 | (rw [i64_w]; exact h6) | simpa using h6
          have h7w : ((LU.length : Int) == IntKind.i64.wrap ((LT.length : Int) + 1)) = true := by first | exact h7 | (rw [i64_w]; exact h7) | simpa using h7
          go_wp2_with fail
          refine (table_Create.calls At0 ct0 r0 At1 ct1 r1 8 3 (bits .or .u64 (IntKind.u64.wrap m) 1) s0 s1 (n : Int) g 0 _ (Kd.R_reads' Ht0.out).2.2 (Kd.R_reads' Ht0.out).2.1 (Kd.R_reads' Ht1.out).2.2 (Kd.R_reads' Ht1.out).2.1 (Ld.below HL.out (by exact HBl.out)) HCr.out).mono ?_
          rintro e w21 ⟨vn0, vn1, rfl, ho0, ho1, hb⟩
          obtain ⟨An0, cn0, rfl⟩ := Kd.R_slice ho0
          obtain ⟨An1, cn1, rfl⟩ := Kd.R_slice ho1
          have Hn0 := Aside0.mk ho0
          have Hn1 := Aside0.mk ho1
          clear ho0 ho1
          have HB21 := Aside0.mk (below_step HBl.out hb)
          have KT_ := Aside0.mk (blk_below KT.out hb)
          clear KT
          have KT := KT_
          clear KT_
          have Ht0_ := Aside0.mk (Kd.R_below Ht0.out hb)
          clear Ht0
          have Ht0 := Ht0_
          clear Ht0_
          have Ht1_ := Aside0.mk (Kd.R_below Ht1.out hb)
          clear Ht1
          have Ht1 := Ht1_
          clear Ht1_
          clear hb
          try clear yT_20 yT_20z0 yT_20z1 yT_20z2 yT_20z3 xT_20_0 xT_20_1
          have yT_21 : gT < w21.heap.size := blk_lt KT.out
          have yT_21z0 : (gT = w21.heap.size) = False := eq_false (by omega)
          have yT_21z1 : (w21.heap.size = gT) = False := eq_false (by omega)
          have yT_21z2 : (gT = w21.heap.size + 1) = False := eq_false (by omega)
          have yT_21z3 : (w21.heap.size + 1 = gT) = False := eq_false (by omega)
          have xT_21_0 : w21.cell? ⟨gT, 0, none⟩ = some (.slice At0 r0.length ct0) := (blk_cell KT.out 0).trans rfl
          have xT_21_1 : w21.cell? ⟨gT, 1, none⟩ = some (.slice At1 r1.length ct1) := (blk_cell KT.out 1).trans rfl
          go_wp2_with fail
          clear yT_21 yT_21z0 yT_21z1 yT_21z2 yT_21z3 xT_21_0 xT_21_1
          have lT_ : gT < w21.heap.size := blk_lt KT.out
          have bs_ : w.heap.size ≤ w21.heap.size := HB21.out.size
          have Kn_U : (w21.alloc (.cells #[.slice An0 s0.length cn0, .slice An1 s1.length cn1] 25)).heap[w21.heap.size]? = some (.cells #[.slice An0 s0.length cn0, .slice An1 s1.length cn1] 25 (0, 0)) := by have h_ := blk_new w21 (.cells #[.slice An0 s0.length cn0, .slice An1 s1.length cn1] 25); simpa only [World.size_alloc] using h_
          have Kn_H : ((w21.alloc (.cells #[.slice An0 s0.length cn0, .slice An1 s1.length cn1] 25)).alloc (.cells #[.int .i64 (n : Int), .int .i64 g] 27)).heap[w21.heap.size + 1]? = some (.cells #[.int .i64 (n : Int), .int .i64 g] 27 (0, 0)) := by have h_ := blk_new (w21.alloc (.cells #[.slice An0 s0.length cn0, .slice An1 s1.length cn1] 25)) (.cells #[.int .i64 (n : Int), .int .i64 g] 27); simpa only [World.size_alloc] using h_
          have KT_ : Aside0 (((w21.alloc (.cells #[.slice An0 s0.length cn0, .slice An1 s1.length cn1] 25)).alloc (.cells #[.int .i64 (n : Int), .int .i64 g] 27)).heap[gT]? = some (.cells #[.slice At0 r0.length ct0, .slice At1 r1.length ct1] 25 (0, 0))) := ⟨(blk_alloc (blk_alloc KT.out _) _)⟩
          have KU_ : Aside0 (((w21.alloc (.cells #[.slice An0 s0.length cn0, .slice An1 s1.length cn1] 25)).alloc (.cells #[.int .i64 (n : Int), .int .i64 g] 27)).heap[w21.heap.size]? = some (.cells #[.slice An0 s0.length cn0, .slice An1 s1.length cn1] 25 (0, 0))) := ⟨(blk_alloc Kn_U _)⟩
          have KH_ : Aside0 (((w21.alloc (.cells #[.slice An0 s0.length cn0, .slice An1 s1.length cn1] 25)).alloc (.cells #[.int .i64 (n : Int), .int .i64 g] 27)).heap[w21.heap.size + 1]? = some (.cells #[.int .i64 (n : Int), .int .i64 g] 27 (0, 0))) := ⟨Kn_H⟩
          clear Kn_U Kn_H KT
          have KT := KT_
          clear KT_
          have KU := KU_
          clear KU_
          have KH := KH_
          clear KH_
          have Ht0_ := Aside0.mk (Kd.R_alloc (Kd.R_alloc Ht0.out (.cells #[.slice An0 s0.length cn0, .slice An1 s1.length cn1] 25)) (.cells #[.int .i64 (n : Int), .int .i64 g] 27))
          clear Ht0
          have Ht0 := Ht0_
          clear Ht0_
          have Ht1_ := Aside0.mk (Kd.R_alloc (Kd.R_alloc Ht1.out (.cells #[.slice An0 s0.length cn0, .slice An1 s1.length cn1] 25)) (.cells #[.int .i64 (n : Int), .int .i64 g] 27))
          clear Ht1
          have Ht1 := Ht1_
          clear Ht1_
          have Hn0_ := Aside0.mk (Kd.R_alloc (Kd.R_alloc Hn0.out (.cells #[.slice An0 s0.length cn0, .slice An1 s1.length cn1] 25)) (.cells #[.int .i64 (n : Int), .int .i64 g] 27))
          clear Hn0
          have Hn0 := Hn0_
          clear Hn0_
          have Hn1_ := Aside0.mk (Kd.R_alloc (Kd.R_alloc Hn1.out (.cells #[.slice An0 s0.length cn0, .slice An1 s1.length cn1] 25)) (.cells #[.int .i64 (n : Int), .int .i64 g] 27))
          clear Hn1
          have Hn1 := Hn1_
          clear Hn1_
          have HB30 : Aside0 (Below w.heap.size w ((w21.alloc (.cells #[.slice An0 s0.length cn0, .slice An1 s1.length cn1] 25)).alloc (.cells #[.int .i64 (n : Int), .int .i64 g] 27))) := ⟨(below_alloc (below_alloc HB21.out _) _)⟩
          generalize ((w21.alloc (.cells #[.slice An0 s0.length cn0, .slice An1 s1.length cn1] 25)).alloc (.cells #[.int .i64 (n : Int), .int .i64 g] 27)) = w30 at KT KU KH Ht0 Ht1 Hn0 Hn1 HB30 ⊢
          generalize hgH : w21.heap.size + 1 = gH at KH ⊢
          have bH : Aside0 (w.heap.size ≤ gH) := ⟨by omega⟩
          generalize hgU : w21.heap.size = gU at KU ⊢
          have bU : Aside0 (w.heap.size ≤ gU) := ⟨by omega⟩
          have dTU : (gT = gU) = False := eq_false (by omega)
          have dUT : (gU = gT) = False := eq_false (by omega)
          have dTH : (gT = gH) = False := eq_false (by omega)
          have dHT : (gH = gT) = False := eq_false (by omega)
          have dUH : (gU = gH) = False := eq_false (by omega)
          have dHU : (gH = gU) = False := eq_false (by omega)
          clear hgU hgH bs_ lT_
          obtain ⟨ad, ead, hx⟩ := Kd.at_int (Kd.R_reads' Ht0.out).2.2 (n : Int) (by omega) H8.out
          subst ead
          have p7 : (0 ≤ (n : Int)) = True := eq_true (by omega)
          have p8 := eq_true H8.out
          have p8n : (n < r0.length) = True := eq_true (by have := H8.out; omega)
          have hxn : w30.cell? (ad.add n) = some (.int .u64 (rd r0 (n : Int))) := hx
          have HX := Aside0.mk hx
          have yT_30 : gT < w30.heap.size := blk_lt KT.out
          have yT_30z0 : (gT = w30.heap.size) = False := eq_false (by omega)
          have yT_30z1 : (w30.heap.size = gT) = False := eq_false (by omega)
          have yT_30z2 : (gT = w30.heap.size + 1) = False := eq_false (by omega)
          have yT_30z3 : (w30.heap.size + 1 = gT) = False := eq_false (by omega)
          have xT_30_0 : w30.cell? ⟨gT, 0, none⟩ = some (.slice (some ad) r0.length ct0) := (blk_cell KT.out 0).trans rfl
          have xT_30_1 : w30.cell? ⟨gT, 1, none⟩ = some (.slice At1 r1.length ct1) := (blk_cell KT.out 1).trans rfl
          have yU_30 : gU < w30.heap.size := blk_lt KU.out
          have yU_30z0 : (gU = w30.heap.size) = False := eq_false (by omega)
          have yU_30z1 : (w30.heap.size = gU) = False := eq_false (by omega)
          have yU_30z2 : (gU = w30.heap.size + 1) = False := eq_false (by omega)
          have yU_30z3 : (w30.heap.size + 1 = gU) = False := eq_false (by omega)
          have xU_30_0 : w30.cell? ⟨gU, 0, none⟩ = some (.slice An0 s0.length cn0) := (blk_cell KU.out 0).trans rfl
          have xU_30_1 : w30.cell? ⟨gU, 1, none⟩ = some (.slice An1 s1.length cn1) := (blk_cell KU.out 1).trans rfl
          have yH_30 : gH < w30.heap.size := blk_lt KH.out
          have yH_30z0 : (gH = w30.heap.size) = False := eq_false (by omega)
          have yH_30z1 : (w30.heap.size = gH) = False := eq_false (by omega)
          have yH_30z2 : (gH = w30.heap.size + 1) = False := eq_false (by omega)
          have yH_30z3 : (w30.heap.size + 1 = gH) = False := eq_false (by omega)
          have xH_30_0 : w30.cell? ⟨gH, 0, none⟩ = some (.int .i64 (n : Int)) := (blk_cell KH.out 0).trans rfl
          have xH_30_1 : w30.cell? ⟨gH, 1, none⟩ = some (.int .i64 g) := (blk_cell KH.out 1).trans rfl
          have HC := HB30
          have HD := Aside0.mk (Below.refl w30.heap.size w30)
          go_wp2_with fail
          go_region_held3 (fun w' => w'.cell? ⟨gT, 0, none⟩ = some (.slice (some ad) r0.length ct0) ∧ w'.cell? ⟨gT, 1, none⟩ = some (.slice At1 r1.length ct1) ∧ w'.cell? ⟨gU, 0, none⟩ = some (.slice An0 s0.length cn0) ∧ w'.cell? ⟨gU, 1, none⟩ = some (.slice An1 s1.length cn1) ∧ w'.cell? ⟨gH, 0, none⟩ = some (.int .i64 (n : Int)) ∧ w'.cell? ⟨gH, 1, none⟩ = some (.int .i64 g) ∧ w'.cell? (ad.add n) = some (.int .u64 (rd r0 (n : Int)))) (exact ⟨(blk_cell (g := gT) (cs := #[.slice (some ad) r0.length ct0, .slice At1 r1.length ct1]) (t := 25) (by repeat (with_reducible first | exact KT.out | refine blk_drewN ?_ _ | refine blk_drew ?_ | refine blk_alloc ?_ _)) 0).trans rfl, (blk_cell (g := gT) (cs := #[.slice (some ad) r0.length ct0, .slice At1 r1.length ct1]) (t := 25) (by repeat (with_reducible first | exact KT.out | refine blk_drewN ?_ _ | refine blk_drew ?_ | refine blk_alloc ?_ _)) 1).trans rfl, (blk_cell (g := gU) (cs := #[.slice An0 s0.length cn0, .slice An1 s1.length cn1]) (t := 25) (by repeat (with_reducible first | exact KU.out | refine blk_drewN ?_ _ | refine blk_drew ?_ | refine blk_alloc ?_ _)) 0).trans rfl, (blk_cell (g := gU) (cs := #[.slice An0 s0.length cn0, .slice An1 s1.length cn1]) (t := 25) (by repeat (with_reducible first | exact KU.out | refine blk_drewN ?_ _ | refine blk_drew ?_ | refine blk_alloc ?_ _)) 1).trans rfl, (blk_cell (g := gH) (cs := #[.int .i64 (n : Int), .int .i64 g]) (t := 27) (by repeat (with_reducible first | exact KH.out | refine blk_drewN ?_ _ | refine blk_drew ?_ | refine blk_alloc ?_ _)) 0).trans rfl, (blk_cell (g := gH) (cs := #[.int .i64 (n : Int), .int .i64 g]) (t := 27) (by repeat (with_reducible first | exact KH.out | refine blk_drewN ?_ _ | refine blk_drew ?_ | refine blk_alloc ?_ _)) 1).trans rfl, pw_cell_below (by repeat (with_reducible first | exact HD.out | apply below_drew1 | apply pw_below_drewN | apply below_alloc)) HX.out⟩) (first | (go_at_call 16; refine (turnspitref06_Gen.calls (rd r0 (n : Int)) g0 _ HGn.out).mono ?_; rintro e w' ⟨rfl, hd⟩; obtain ⟨⟨nd, rfl⟩⟩ := hd) | (go_at_call 23; with_reducible refine (table_Live.calls 1000 An0 cn0 s0 An1 cn1 s1 LU _ (Kd.C_below (Kd.R_reads' Hn0.out).2.2 (by repeat (with_reducible first | exact HD.out | apply below_drew1 | apply pw_below_drewN | apply below_alloc))) (Kd.R_reads' Hn0.out).2.1 (Kd.C_below (Kd.R_reads' Hn1.out).2.2 (by repeat (with_reducible first | exact HD.out | apply below_drew1 | apply pw_below_drewN | apply below_alloc))) (Kd.R_reads' Hn1.out).2.1 (Ld.below HL.out (by repeat (with_reducible first | exact HC.out | apply below_drew1 | apply pw_below_drewN | apply below_alloc))) HLu.out).mono ?_; rintro e w9 ⟨v9, rfl, hv, hb⟩; obtain ⟨Av, cv, rfl⟩ := Kd.R_slice hv; clear hv; have KT : Aside0 (w9.heap[gT]? = some (.cells #[.slice (some ad) r0.length ct0, .slice At1 r1.length ct1] 25 (0, 0))) := ⟨blk_below (by repeat (with_reducible first | exact KT.out | refine blk_drewN ?_ _ | refine blk_drew ?_ | refine blk_alloc ?_ _)) hb⟩; have KU : Aside0 (w9.heap[gU]? = some (.cells #[.slice An0 s0.length cn0, .slice An1 s1.length cn1] 25 (0, 0))) := ⟨blk_below (by repeat (with_reducible first | exact KU.out | refine blk_drewN ?_ _ | refine blk_drew ?_ | refine blk_alloc ?_ _)) hb⟩; have KH : Aside0 (w9.heap[gH]? = some (.cells #[.int .i64 (n : Int), .int .i64 g] 27 (0, 0))) := ⟨blk_below (by repeat (with_reducible first | exact KH.out | refine blk_drewN ?_ _ | refine blk_drew ?_ | refine blk_alloc ?_ _)) hb⟩; have zT0 := (show w9.cell? ⟨gT, 0, none⟩ = some (.slice (some ad) r0.length ct0) from (blk_cell KT.out 0).trans rfl); have zT1 := (show w9.cell? ⟨gT, 1, none⟩ = some (.slice At1 r1.length ct1) from (blk_cell KT.out 1).trans rfl); have zU0 := (show w9.cell? ⟨gU, 0, none⟩ = some (.slice An0 s0.length cn0) from (blk_cell KU.out 0).trans rfl); have zU1 := (show w9.cell? ⟨gU, 1, none⟩ = some (.slice An1 s1.length cn1) from (blk_cell KU.out 1).trans rfl); have zH0 := (show w9.cell? ⟨gH, 0, none⟩ = some (.int .i64 (n : Int)) from (blk_cell KH.out 0).trans rfl); have zH1 := (show w9.cell? ⟨gH, 1, none⟩ = some (.int .i64 g) from (blk_cell KH.out 1).trans rfl); have HC : Aside0 (Below w.heap.size w w9) := ⟨below_step (by repeat (with_reducible first | exact HC.out | apply below_drew1 | apply pw_below_drewN | apply below_alloc)) hb⟩; have HD : Aside0 (Below w30.heap.size w30 w9) := ⟨below_step (by repeat (with_reducible first | exact HD.out | apply below_drew1 | apply pw_below_drewN | apply below_alloc)) hb⟩; clear hb) | (go_at_call 23; with_reducible refine (table_Live.calls 1000 (some ad) ct0 r0 At1 ct1 r1 LT _ (Kd.C_below (Kd.R_reads' Ht0.out).2.2 (by repeat (with_reducible first | exact HD.out | apply below_drew1 | apply pw_below_drewN | apply below_alloc))) (Kd.R_reads' Ht0.out).2.1 (Kd.C_below (Kd.R_reads' Ht1.out).2.2 (by repeat (with_reducible first | exact HD.out | apply below_drew1 | apply pw_below_drewN | apply below_alloc))) (Kd.R_reads' Ht1.out).2.1 (Ld.below HL.out (by repeat (with_reducible first | exact HC.out | apply below_drew1 | apply pw_below_drewN | apply below_alloc))) HLt.out).mono ?_; rintro e w9 ⟨v9, rfl, hv, hb⟩; obtain ⟨Av, cv, rfl⟩ := Kd.R_slice hv; clear hv; have KT : Aside0 (w9.heap[gT]? = some (.cells #[.slice (some ad) r0.length ct0, .slice At1 r1.length ct1] 25 (0, 0))) := ⟨blk_below (by repeat (with_reducible first | exact KT.out | refine blk_drewN ?_ _ | refine blk_drew ?_ | refine blk_alloc ?_ _)) hb⟩; have KU : Aside0 (w9.heap[gU]? = some (.cells #[.slice An0 s0.length cn0, .slice An1 s1.length cn1] 25 (0, 0))) := ⟨blk_below (by repeat (with_reducible first | exact KU.out | refine blk_drewN ?_ _ | refine blk_drew ?_ | refine blk_alloc ?_ _)) hb⟩; have KH : Aside0 (w9.heap[gH]? = some (.cells #[.int .i64 (n : Int), .int .i64 g] 27 (0, 0))) := ⟨blk_below (by repeat (with_reducible first | exact KH.out | refine blk_drewN ?_ _ | refine blk_drew ?_ | refine blk_alloc ?_ _)) hb⟩; have zT0 := (show w9.cell? ⟨gT, 0, none⟩ = some (.slice (some ad) r0.length ct0) from (blk_cell KT.out 0).trans rfl); have zT1 := (show w9.cell? ⟨gT, 1, none⟩ = some (.slice At1 r1.length ct1) from (blk_cell KT.out 1).trans rfl); have zU0 := (show w9.cell? ⟨gU, 0, none⟩ = some (.slice An0 s0.length cn0) from (blk_cell KU.out 0).trans rfl); have zU1 := (show w9.cell? ⟨gU, 1, none⟩ = some (.slice An1 s1.length cn1) from (blk_cell KU.out 1).trans rfl); have zH0 := (show w9.cell? ⟨gH, 0, none⟩ = some (.int .i64 (n : Int)) from (blk_cell KH.out 0).trans rfl); have zH1 := (show w9.cell? ⟨gH, 1, none⟩ = some (.int .i64 g) from (blk_cell KH.out 1).trans rfl); have HC : Aside0 (Below w.heap.size w w9) := ⟨below_step (by repeat (with_reducible first | exact HC.out | apply below_drew1 | apply pw_below_drewN | apply below_alloc)) hb⟩; have HD : Aside0 (Below w30.heap.size w30 w9) := ⟨below_step (by repeat (with_reducible first | exact HD.out | apply below_drew1 | apply pw_below_drewN | apply below_alloc)) hb⟩; clear hb) | (go_at_call 22; refine (table_Check.calls 1000 An0 cn0 s0 An1 cn1 s1 (n : Int) g 0 _ (Kd.C_below (Kd.R_reads' Hn0.out).2.2 (by repeat (with_reducible first | exact HD.out | apply below_drew1 | apply pw_below_drewN | apply below_alloc))) (Kd.R_reads' Hn0.out).2.1 (Kd.C_below (Kd.R_reads' Hn1.out).2.2 (by repeat (with_reducible first | exact HD.out | apply below_drew1 | apply pw_below_drewN | apply below_alloc))) (Kd.R_reads' Hn1.out).2.1 (Ld.below HL.out (by repeat (with_reducible first | exact HC.out | apply below_drew1 | apply pw_below_drewN | apply below_alloc))) HCk.out).mono ?_; rintro e w9 ⟨rfl, hb⟩; have KT : Aside0 (w9.heap[gT]? = some (.cells #[.slice (some ad) r0.length ct0, .slice At1 r1.length ct1] 25 (0, 0))) := ⟨blk_below (by repeat (with_reducible first | exact KT.out | refine blk_drewN ?_ _ | refine blk_drew ?_ | refine blk_alloc ?_ _)) hb⟩; have KU : Aside0 (w9.heap[gU]? = some (.cells #[.slice An0 s0.length cn0, .slice An1 s1.length cn1] 25 (0, 0))) := ⟨blk_below (by repeat (with_reducible first | exact KU.out | refine blk_drewN ?_ _ | refine blk_drew ?_ | refine blk_alloc ?_ _)) hb⟩; have KH : Aside0 (w9.heap[gH]? = some (.cells #[.int .i64 (n : Int), .int .i64 g] 27 (0, 0))) := ⟨blk_below (by repeat (with_reducible first | exact KH.out | refine blk_drewN ?_ _ | refine blk_drew ?_ | refine blk_alloc ?_ _)) hb⟩; have zT0 := (show w9.cell? ⟨gT, 0, none⟩ = some (.slice (some ad) r0.length ct0) from (blk_cell KT.out 0).trans rfl); have zT1 := (show w9.cell? ⟨gT, 1, none⟩ = some (.slice At1 r1.length ct1) from (blk_cell KT.out 1).trans rfl); have zU0 := (show w9.cell? ⟨gU, 0, none⟩ = some (.slice An0 s0.length cn0) from (blk_cell KU.out 0).trans rfl); have zU1 := (show w9.cell? ⟨gU, 1, none⟩ = some (.slice An1 s1.length cn1) from (blk_cell KU.out 1).trans rfl); have zH0 := (show w9.cell? ⟨gH, 0, none⟩ = some (.int .i64 (n : Int)) from (blk_cell KH.out 0).trans rfl); have zH1 := (show w9.cell? ⟨gH, 1, none⟩ = some (.int .i64 g) from (blk_cell KH.out 1).trans rfl); have HC : Aside0 (Below w.heap.size w w9) := ⟨below_step (by repeat (with_reducible first | exact HC.out | apply below_drew1 | apply pw_below_drewN | apply below_alloc)) hb⟩; have HD : Aside0 (Below w30.heap.size w30 w9) := ⟨below_step (by repeat (with_reducible first | exact HD.out | apply below_drew1 | apply pw_below_drewN | apply below_alloc)) hb⟩; clear hb))
          all_goals
            go_wp2_with fail
            go_ret
            exact ⟨rfl, (by repeat (with_reducible first | exact HC.out | apply below_drew1 | apply pw_below_drewN | apply below_alloc))⟩
end Go.Proofs.YtdchbcpfciljoaaDoor

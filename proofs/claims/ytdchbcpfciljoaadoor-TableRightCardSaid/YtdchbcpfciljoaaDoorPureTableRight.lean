/- TableRight: walked by hand. -/
import Derived.Test.YtdchbcpfciljoaaDoorPureRight
import Derived.Test.YtdchbcpfciljoaaDoorGA
import Derived.StillTailTactics
import Derived.Deep.RegionHeld3
namespace Go.Proofs.YtdchbcpfciljoaaDoor
open Go.RowKit Go.Proofs.YtdchbcpfciljoaaDoor Go.Proofs.YtdchbcpfciljoaaDoor.Given Go.Proofs.YtdchbcpfciljoaaDoor.Print Go.Proofs.YtdchbcpfciljoaaDoor.Pure Go.Proofs.YtdchbcpfciljoaaDoorW.PrintWords Go.Proofs.YtdchbcpfciljoaaDoorW.PrintLast Go.Proofs.YtdchbcpfciljoaaDoorW.PrintMore
set_option linter.unusedVariables false
set_option linter.unusedSimpArgs false
attribute [local go_sem high] eqA52
theorem right16 {a : Int} (h : (Lit.int .u16 a).wf = true) : 0 ≤ a ∧ a < 65536 := by
  simp [Lit.wf, IntKind.min, IntKind.max, IntKind.signed, IntKind.bits] at h
  omega
theorem gen_b (a r : Int) (w : World) (h : turnspitref06_Gen.f a = some r) : Calls Tryd.prog 16 #[.int .u64 a] w fun e w' => e = .returned (.int .i64 r) ∧ Below w.heap.size w w' := by
  refine (turnspitref06_Gen.calls a r w h).mono ?_
  rintro e w' ⟨rfl, hd⟩
  obtain ⟨⟨nd, rfl⟩⟩ := hd
  exact ⟨rfl, pw_below_drewN (Below.refl _ _) nd⟩
set_option maxHeartbeats 8000000 in
set_option maxRecDepth 100000 in
theorem Walk.TableRight (A0 : Option Addr) (c0 : Nat) (l0 : List Int) (n : Int) (wn : (Lit.int .u16 n).wf = true) (w : World) (HLd : Ld w) (hr0 : Kd.C (Kd.int .u16) w A0 l0.length l0) (hc0 : l0.length ≤ c0) (hw : ∀ x ∈ l0, (Lit.int .u16 x).wf = true) :
    Calls Tryd.prog 6 #[.slice A0 l0.length c0, .int .u16 n] w fun e w' => e = .returned (.bool true) ∧ Below w.heap.size w w' := by
  have hu25 := Tryd.underlying25
  have hu27 := Tryd.underlying27
  have hu52 := Tryd.underlying52
  obtain ⟨r0, r1, em, hF⟩ := made_ok l0 (fun x hx => right16 (hw x hx)) 1000 (by decide)
  have hn := right16 wn
  have hs := slot5_in hn.1 hn.2
  obtain ⟨g, a0, a1, xs, xg, ea, b0, b1, eb, y0, y1, ey, q1, q2, q3, q4, q5, q6, q7, q8⟩ := right_all hF n _ hs.1 hs.2
  have HR0 := Aside0.mk hr0
  have HC0 := Aside0.mk hc0
  have HL := Aside0.mk HLd
  have EM := Aside0.mk em
  have EF := Aside0.mk hF
  have HS := Aside0.mk hs
  have Q1 := Aside0.mk q1
  clear q1
  have Q2 := Aside0.mk q2
  clear q2
  have Q3 := Aside0.mk q3
  clear q3
  have Q4 := Aside0.mk q4
  clear q4
  have Q5 := Aside0.mk q5
  clear q5
  have Q6 := Aside0.mk q6
  clear q6
  have Q7 := Aside0.mk q7
  clear q7
  have Q8 := Aside0.mk q8
  clear q8
  clear hr0 hc0 HLd em hF hw hs hn wn
  go_enter Tryd.func6, Tryd.ntmps6
  go_wp2_with fail
  refine (turnspitlaw14_awake.calls true _ HL.out rfl).mono ?_
  rintro e w1 ⟨rfl, hb⟩
  have HB1 := Aside0.mk (below_step (Below.refl w.heap.size w) hb)
  clear hb
  go_wp2_with fail
  refine (turnspitlaw14_Made.calls 1000 A0 c0 l0 r0 r1 _ (Kd.C_below HR0.out HB1.out) HC0.out (Ld.below HL.out (by exact HB1.out)) EM.out).mono ?_
  rintro e w2 ⟨vt0, vt1, rfl, ho0, ho1, hb⟩
  obtain ⟨At0, ct0, rfl⟩ := Kd.R_slice ho0
  obtain ⟨At1, ct1, rfl⟩ := Kd.R_slice ho1
  have Ht0 := Aside0.mk ho0
  have Ht1 := Aside0.mk ho1
  clear ho0 ho1
  have HB2 := Aside0.mk (below_step HB1.out hb)
  clear hb
  have Ht0_ := Aside0.mk (Kd.R_lower Ht0.out HB1.out.size)
  have Ht1_ := Aside0.mk (Kd.R_lower Ht1.out HB1.out.size)
  clear Ht0 Ht1
  have Ht0 := Ht0_
  have Ht1 := Ht1_
  clear Ht0_ Ht1_
  obtain ⟨ad, ead, hx⟩ := Kd.at_int (Kd.R_reads' Ht0.out).2.2 (Int.tmod (wrap64 n) 5) HS.out.1 (by have := HS.out.2; have := EF.out.1; omega)
  subst ead
  have hx_ := fun o => pw_cell_below (below_alloc (Below.refl w2.heap.size w2) o) hx
  clear hx
  have p7 := eq_true HS.out.1
  have p8 : ((Int.tmod (wrap64 n) 5) < (r0.length : Int)) = True := eq_true (by have := HS.out.2; have := EF.out.1; omega)
  go_wp2_with fail
  refine (gen_b (rd r0 (Int.tmod (wrap64 n) 5)) g _ Q1.out).mono ?_
  rintro e w3 ⟨rfl, hb⟩
  have HB3 := Aside0.mk (below_step (below_alloc HB2.out _) hb)
  have Kn_T : (w2.alloc (.cells #[.slice (some ad) r0.length ct0, .slice At1 r1.length ct1] 25)).heap[w2.heap.size]? = some (.cells #[.slice (some ad) r0.length ct0, .slice At1 r1.length ct1] 25 (0, 0)) := by have h_ := blk_new w2 (.cells #[.slice (some ad) r0.length ct0, .slice At1 r1.length ct1] 25); simpa only [World.size_alloc] using h_
  have KT_ := Aside0.mk (blk_below Kn_T hb)
  have KT := KT_
  clear KT_
  clear Kn_T
  have Ht0_ := Aside0.mk (Kd.R_below Ht0.out (below_trans0 (below_alloc (Below.refl _ _) _) hb))
  clear Ht0
  have Ht0 := Ht0_
  clear Ht0_
  have Ht1_ := Aside0.mk (Kd.R_below Ht1.out (below_trans0 (below_alloc (Below.refl _ _) _) hb))
  clear Ht1
  have Ht1 := Ht1_
  clear Ht1_
  clear hb
  generalize hgT : w2.heap.size = gT at KT ⊢
  have bT : Aside0 (w.heap.size ≤ gT) := ⟨by have h_ := (HB2.out : Below w.heap.size w w2).size; omega⟩
  clear hgT
  have yT_3 : gT < w3.heap.size := blk_lt KT.out
  have yT_3z0 : (gT = w3.heap.size) = False := eq_false (by omega)
  have yT_3z1 : (w3.heap.size = gT) = False := eq_false (by omega)
  have yT_3z2 : (gT = w3.heap.size + 1) = False := eq_false (by omega)
  have yT_3z3 : (w3.heap.size + 1 = gT) = False := eq_false (by omega)
  have xT_3_0 : w3.cell? ⟨gT, 0, none⟩ = some (.slice (some ad) r0.length ct0) := (blk_cell KT.out 0).trans rfl
  have xT_3_1 : w3.cell? ⟨gT, 1, none⟩ = some (.slice At1 r1.length ct1) := (blk_cell KT.out 1).trans rfl
  clear hx_ p7 p8
  go_wp2_with fail
  refine (table_Create.calls (some ad) ct0 r0 At1 ct1 r1 8 (wrap64 ((Int.tmod (wrap64 n) 40) - 20)) (IntKind.u64.wrap n) a0 a1 xs xg ea _ (Kd.C_below (Kd.R_reads' Ht0.out).2.2 (below_alloc (Below.refl _ _) _)) (Kd.R_reads' Ht0.out).2.1 (Kd.C_below (Kd.R_reads' Ht1.out).2.2 (below_alloc (Below.refl _ _) _)) (Kd.R_reads' Ht1.out).2.1 (Ld.below HL.out (by exact (below_alloc HB3.out _))) Q2.out).mono ?_
  rintro e w4 ⟨va0, va1, rfl, ho0, ho1, hb⟩
  obtain ⟨Aa0, ca0, rfl⟩ := Kd.R_slice ho0
  obtain ⟨Aa1, ca1, rfl⟩ := Kd.R_slice ho1
  have Ha0 := Aside0.mk ho0
  have Ha1 := Aside0.mk ho1
  clear ho0 ho1
  have HB4 := Aside0.mk (below_step (below_alloc HB3.out _) hb)
  have Kn_H : (w3.alloc (.cells #[.int .i64 (Int.tmod (wrap64 n) 5), .int .i64 g] 27)).heap[w3.heap.size]? = some (.cells #[.int .i64 (Int.tmod (wrap64 n) 5), .int .i64 g] 27 (0, 0)) := by have h_ := blk_new w3 (.cells #[.int .i64 (Int.tmod (wrap64 n) 5), .int .i64 g] 27); simpa only [World.size_alloc] using h_
  have KT_ := Aside0.mk (blk_below (blk_alloc KT.out _) hb)
  have KH_ := Aside0.mk (blk_below Kn_H hb)
  clear KT
  have KT := KT_
  clear KT_
  have KH := KH_
  clear KH_
  clear Kn_H
  have Ht0_ := Aside0.mk (Kd.R_below Ht0.out (below_trans0 (below_alloc (Below.refl _ _) _) hb))
  clear Ht0
  have Ht0 := Ht0_
  clear Ht0_
  have Ht1_ := Aside0.mk (Kd.R_below Ht1.out (below_trans0 (below_alloc (Below.refl _ _) _) hb))
  clear Ht1
  have Ht1 := Ht1_
  clear Ht1_
  clear hb
  try clear yT_3 yT_3z0 yT_3z1 yT_3z2 yT_3z3 xT_3_0 xT_3_1
  generalize hgH : w3.heap.size = gH at KH ⊢
  have bH : Aside0 (w.heap.size ≤ gH) := ⟨by have h_ := (HB3.out : Below w.heap.size w w3).size; omega⟩
  clear hgH
  have yT_4 : gT < w4.heap.size := blk_lt KT.out
  have yT_4z0 : (gT = w4.heap.size) = False := eq_false (by omega)
  have yT_4z1 : (w4.heap.size = gT) = False := eq_false (by omega)
  have yT_4z2 : (gT = w4.heap.size + 1) = False := eq_false (by omega)
  have yT_4z3 : (w4.heap.size + 1 = gT) = False := eq_false (by omega)
  have xT_4_0 : w4.cell? ⟨gT, 0, none⟩ = some (.slice (some ad) r0.length ct0) := (blk_cell KT.out 0).trans rfl
  have xT_4_1 : w4.cell? ⟨gT, 1, none⟩ = some (.slice At1 r1.length ct1) := (blk_cell KT.out 1).trans rfl
  have yH_4 : gH < w4.heap.size := blk_lt KH.out
  have yH_4z0 : (gH = w4.heap.size) = False := eq_false (by omega)
  have yH_4z1 : (w4.heap.size = gH) = False := eq_false (by omega)
  have yH_4z2 : (gH = w4.heap.size + 1) = False := eq_false (by omega)
  have yH_4z3 : (w4.heap.size + 1 = gH) = False := eq_false (by omega)
  have xH_4_0 : w4.cell? ⟨gH, 0, none⟩ = some (.int .i64 (Int.tmod (wrap64 n) 5)) := (blk_cell KH.out 0).trans rfl
  have xH_4_1 : w4.cell? ⟨gH, 1, none⟩ = some (.int .i64 g) := (blk_cell KH.out 1).trans rfl
  have Ha0_ := Aside0.mk (Kd.R_lower Ha0.out (below_alloc HB3.out _).size)
  clear Ha0
  have Ha0 := Ha0_
  clear Ha0_
  have Ha1_ := Aside0.mk (Kd.R_lower Ha1.out (below_alloc HB3.out _).size)
  clear Ha1
  have Ha1 := Ha1_
  clear Ha1_
  go_wp2_with fail
  refine (table_Exit.calls (some ad) ct0 r0 At1 ct1 r1 (Int.tmod (wrap64 n) 5) g b0 b1 eb _ (Kd.C_below (Kd.R_reads' Ht0.out).2.2 (below_alloc (below_alloc (Below.refl _ _) _) _)) (Kd.R_reads' Ht0.out).2.1 (Kd.C_below (Kd.R_reads' Ht1.out).2.2 (below_alloc (below_alloc (Below.refl _ _) _) _)) (Kd.R_reads' Ht1.out).2.1 (Ld.below HL.out (by exact (below_alloc (below_alloc HB4.out _) _))) Q4.out).mono ?_
  rintro e w5 ⟨vb0, vb1, rfl, ho0, ho1, hb⟩
  obtain ⟨Ab0, cb0, rfl⟩ := Kd.R_slice ho0
  obtain ⟨Ab1, cb1, rfl⟩ := Kd.R_slice ho1
  have Hb0 := Aside0.mk ho0
  have Hb1 := Aside0.mk ho1
  clear ho0 ho1
  have HB5 := Aside0.mk (below_step (below_alloc (below_alloc HB4.out _) _) hb)
  have Kn_A : (w4.alloc (.cells #[.slice Aa0 a0.length ca0, .slice Aa1 a1.length ca1] 25)).heap[w4.heap.size]? = some (.cells #[.slice Aa0 a0.length ca0, .slice Aa1 a1.length ca1] 25 (0, 0)) := by have h_ := blk_new w4 (.cells #[.slice Aa0 a0.length ca0, .slice Aa1 a1.length ca1] 25); simpa only [World.size_alloc] using h_
  have Kn_X : ((w4.alloc (.cells #[.slice Aa0 a0.length ca0, .slice Aa1 a1.length ca1] 25)).alloc (.cells #[.int .i64 xs, .int .i64 xg] 27)).heap[w4.heap.size + 1]? = some (.cells #[.int .i64 xs, .int .i64 xg] 27 (0, 0)) := by have h_ := blk_new (w4.alloc (.cells #[.slice Aa0 a0.length ca0, .slice Aa1 a1.length ca1] 25)) (.cells #[.int .i64 xs, .int .i64 xg] 27); simpa only [World.size_alloc] using h_
  have KT_ := Aside0.mk (blk_below (blk_alloc (blk_alloc KT.out _) _) hb)
  have KH_ := Aside0.mk (blk_below (blk_alloc (blk_alloc KH.out _) _) hb)
  have KA_ := Aside0.mk (blk_below (blk_alloc Kn_A _) hb)
  have KX_ := Aside0.mk (blk_below Kn_X hb)
  clear KT
  have KT := KT_
  clear KT_
  clear KH
  have KH := KH_
  clear KH_
  have KA := KA_
  clear KA_
  have KX := KX_
  clear KX_
  clear Kn_A
  clear Kn_X
  have Ht0_ := Aside0.mk (Kd.R_below Ht0.out (below_trans0 (below_alloc (below_alloc (Below.refl _ _) _) _) hb))
  clear Ht0
  have Ht0 := Ht0_
  clear Ht0_
  have Ht1_ := Aside0.mk (Kd.R_below Ht1.out (below_trans0 (below_alloc (below_alloc (Below.refl _ _) _) _) hb))
  clear Ht1
  have Ht1 := Ht1_
  clear Ht1_
  have Ha0_ := Aside0.mk (Kd.R_below Ha0.out (below_trans0 (below_alloc (below_alloc (Below.refl _ _) _) _) hb))
  clear Ha0
  have Ha0 := Ha0_
  clear Ha0_
  have Ha1_ := Aside0.mk (Kd.R_below Ha1.out (below_trans0 (below_alloc (below_alloc (Below.refl _ _) _) _) hb))
  clear Ha1
  have Ha1 := Ha1_
  clear Ha1_
  clear hb
  try clear yT_4 yT_4z0 yT_4z1 yT_4z2 yT_4z3 xT_4_0 xT_4_1 yH_4 yH_4z0 yH_4z1 yH_4z2 yH_4z3 xH_4_0 xH_4_1
  generalize hgX : w4.heap.size + 1 = gX at KX ⊢
  have bX : Aside0 (w.heap.size ≤ gX) := ⟨by have h_ := (HB4.out : Below w.heap.size w w4).size; omega⟩
  generalize hgA : w4.heap.size = gA at KA ⊢
  have bA : Aside0 (w.heap.size ≤ gA) := ⟨by have h_ := (HB4.out : Below w.heap.size w w4).size; omega⟩
  have dAX : (gA = gX) = False := eq_false (by omega)
  have dXA : (gX = gA) = False := eq_false (by omega)
  clear hgA hgX
  have yT_5 : gT < w5.heap.size := blk_lt KT.out
  have yT_5z0 : (gT = w5.heap.size) = False := eq_false (by omega)
  have yT_5z1 : (w5.heap.size = gT) = False := eq_false (by omega)
  have yT_5z2 : (gT = w5.heap.size + 1) = False := eq_false (by omega)
  have yT_5z3 : (w5.heap.size + 1 = gT) = False := eq_false (by omega)
  have xT_5_0 : w5.cell? ⟨gT, 0, none⟩ = some (.slice (some ad) r0.length ct0) := (blk_cell KT.out 0).trans rfl
  have xT_5_1 : w5.cell? ⟨gT, 1, none⟩ = some (.slice At1 r1.length ct1) := (blk_cell KT.out 1).trans rfl
  have Hb0_ := Aside0.mk (Kd.R_lower Hb0.out (below_alloc (below_alloc HB4.out _) _).size)
  clear Hb0
  have Hb0 := Hb0_
  clear Hb0_
  have Hb1_ := Aside0.mk (Kd.R_lower Hb1.out (below_alloc (below_alloc HB4.out _) _).size)
  clear Hb1
  have Hb1 := Hb1_
  clear Hb1_
  try clear KH
  go_wp2_with fail
  refine (table_Step.calls (some ad) ct0 r0 At1 ct1 r1 (Int.tmod (wrap64 n) 5) (Int.tmod (wrap64 (IntKind.u16.wrap (Int.tdiv n 32))) 16) (Int.tmod (wrap64 (IntKind.u16.wrap (Int.tdiv n 64))) 8) y0 y1 ey _ (Kd.C_below (Kd.R_reads' Ht0.out).2.2 (below_alloc (Below.refl _ _) _)) (Kd.R_reads' Ht0.out).2.1 (Kd.C_below (Kd.R_reads' Ht1.out).2.2 (below_alloc (Below.refl _ _) _)) (Kd.R_reads' Ht1.out).2.1 (Ld.below HL.out (by exact (below_alloc HB5.out _))) Q6.out).mono ?_
  rintro e w6 ⟨vy0, vy1, rfl, ho0, ho1, hb⟩
  obtain ⟨Ay0, cy0, rfl⟩ := Kd.R_slice ho0
  obtain ⟨Ay1, cy1, rfl⟩ := Kd.R_slice ho1
  have Hy0 := Aside0.mk ho0
  have Hy1 := Aside0.mk ho1
  clear ho0 ho1
  have HB6 := Aside0.mk (below_step (below_alloc HB5.out _) hb)
  have Kn_B : (w5.alloc (.cells #[.slice Ab0 b0.length cb0, .slice Ab1 b1.length cb1] 25)).heap[w5.heap.size]? = some (.cells #[.slice Ab0 b0.length cb0, .slice Ab1 b1.length cb1] 25 (0, 0)) := by have h_ := blk_new w5 (.cells #[.slice Ab0 b0.length cb0, .slice Ab1 b1.length cb1] 25); simpa only [World.size_alloc] using h_
  have KT_ := Aside0.mk (blk_below (blk_alloc KT.out _) hb)
  have KA_ := Aside0.mk (blk_below (blk_alloc KA.out _) hb)
  have KX_ := Aside0.mk (blk_below (blk_alloc KX.out _) hb)
  have KB_ := Aside0.mk (blk_below Kn_B hb)
  clear KT
  have KT := KT_
  clear KT_
  clear KA
  have KA := KA_
  clear KA_
  clear KX
  have KX := KX_
  clear KX_
  have KB := KB_
  clear KB_
  clear Kn_B
  have Ht0_ := Aside0.mk (Kd.R_below Ht0.out (below_trans0 (below_alloc (Below.refl _ _) _) hb))
  clear Ht0
  have Ht0 := Ht0_
  clear Ht0_
  have Ht1_ := Aside0.mk (Kd.R_below Ht1.out (below_trans0 (below_alloc (Below.refl _ _) _) hb))
  clear Ht1
  have Ht1 := Ht1_
  clear Ht1_
  have Ha0_ := Aside0.mk (Kd.R_below Ha0.out (below_trans0 (below_alloc (Below.refl _ _) _) hb))
  clear Ha0
  have Ha0 := Ha0_
  clear Ha0_
  have Ha1_ := Aside0.mk (Kd.R_below Ha1.out (below_trans0 (below_alloc (Below.refl _ _) _) hb))
  clear Ha1
  have Ha1 := Ha1_
  clear Ha1_
  have Hb0_ := Aside0.mk (Kd.R_below Hb0.out (below_trans0 (below_alloc (Below.refl _ _) _) hb))
  clear Hb0
  have Hb0 := Hb0_
  clear Hb0_
  have Hb1_ := Aside0.mk (Kd.R_below Hb1.out (below_trans0 (below_alloc (Below.refl _ _) _) hb))
  clear Hb1
  have Hb1 := Hb1_
  clear Hb1_
  clear hb
  try clear yT_5 yT_5z0 yT_5z1 yT_5z2 yT_5z3 xT_5_0 xT_5_1
  generalize hgB : w5.heap.size = gB at KB ⊢
  have bB : Aside0 (w.heap.size ≤ gB) := ⟨by have h_ := (HB5.out : Below w.heap.size w w5).size; omega⟩
  clear hgB
  have yA_6 : gA < w6.heap.size := blk_lt KA.out
  have yA_6z0 : (gA = w6.heap.size) = False := eq_false (by omega)
  have yA_6z1 : (w6.heap.size = gA) = False := eq_false (by omega)
  have yA_6z2 : (gA = w6.heap.size + 1) = False := eq_false (by omega)
  have yA_6z3 : (w6.heap.size + 1 = gA) = False := eq_false (by omega)
  have xA_6_0 : w6.cell? ⟨gA, 0, none⟩ = some (.slice Aa0 a0.length ca0) := (blk_cell KA.out 0).trans rfl
  have xA_6_1 : w6.cell? ⟨gA, 1, none⟩ = some (.slice Aa1 a1.length ca1) := (blk_cell KA.out 1).trans rfl
  have yB_6 : gB < w6.heap.size := blk_lt KB.out
  have yB_6z0 : (gB = w6.heap.size) = False := eq_false (by omega)
  have yB_6z1 : (w6.heap.size = gB) = False := eq_false (by omega)
  have yB_6z2 : (gB = w6.heap.size + 1) = False := eq_false (by omega)
  have yB_6z3 : (w6.heap.size + 1 = gB) = False := eq_false (by omega)
  have xB_6_0 : w6.cell? ⟨gB, 0, none⟩ = some (.slice Ab0 b0.length cb0) := (blk_cell KB.out 0).trans rfl
  have xB_6_1 : w6.cell? ⟨gB, 1, none⟩ = some (.slice Ab1 b1.length cb1) := (blk_cell KB.out 1).trans rfl
  have yX_6 : gX < w6.heap.size := blk_lt KX.out
  have yX_6z0 : (gX = w6.heap.size) = False := eq_false (by omega)
  have yX_6z1 : (w6.heap.size = gX) = False := eq_false (by omega)
  have yX_6z2 : (gX = w6.heap.size + 1) = False := eq_false (by omega)
  have yX_6z3 : (w6.heap.size + 1 = gX) = False := eq_false (by omega)
  have xX_6_0 : w6.cell? ⟨gX, 0, none⟩ = some (.int .i64 xs) := (blk_cell KX.out 0).trans rfl
  have xX_6_1 : w6.cell? ⟨gX, 1, none⟩ = some (.int .i64 xg) := (blk_cell KX.out 1).trans rfl
  have Hy0_ := Aside0.mk (Kd.R_lower Hy0.out (below_alloc HB5.out _).size)
  clear Hy0
  have Hy0 := Hy0_
  clear Hy0_
  have Hy1_ := Aside0.mk (Kd.R_lower Hy1.out (below_alloc HB5.out _).size)
  clear Hy1
  have Hy1 := Hy1_
  clear Hy1_
  have vA2 : (gA = w6.heap.size + 2) = False := eq_false (by omega)
  have uA2 : (w6.heap.size + 2 = gA) = False := eq_false (by omega)
  have vA3 : (gA = w6.heap.size + 1 + 1) = False := eq_false (by omega)
  have uA3 : (w6.heap.size + 1 + 1 = gA) = False := eq_false (by omega)
  have vA4 : (gA = w6.heap.size + 3) = False := eq_false (by omega)
  have uA4 : (w6.heap.size + 3 = gA) = False := eq_false (by omega)
  have vA5 : (gA = w6.heap.size + 1 + 1 + 1) = False := eq_false (by omega)
  have uA5 : (w6.heap.size + 1 + 1 + 1 = gA) = False := eq_false (by omega)
  have vA6 : (gA = w6.heap.size + 2 + 1) = False := eq_false (by omega)
  have uA6 : (w6.heap.size + 2 + 1 = gA) = False := eq_false (by omega)
  have vB2 : (gB = w6.heap.size + 2) = False := eq_false (by omega)
  have uB2 : (w6.heap.size + 2 = gB) = False := eq_false (by omega)
  have vB3 : (gB = w6.heap.size + 1 + 1) = False := eq_false (by omega)
  have uB3 : (w6.heap.size + 1 + 1 = gB) = False := eq_false (by omega)
  have vB4 : (gB = w6.heap.size + 3) = False := eq_false (by omega)
  have uB4 : (w6.heap.size + 3 = gB) = False := eq_false (by omega)
  have vB5 : (gB = w6.heap.size + 1 + 1 + 1) = False := eq_false (by omega)
  have uB5 : (w6.heap.size + 1 + 1 + 1 = gB) = False := eq_false (by omega)
  have vB6 : (gB = w6.heap.size + 2 + 1) = False := eq_false (by omega)
  have uB6 : (w6.heap.size + 2 + 1 = gB) = False := eq_false (by omega)
  have vX2 : (gX = w6.heap.size + 2) = False := eq_false (by omega)
  have uX2 : (w6.heap.size + 2 = gX) = False := eq_false (by omega)
  have vX3 : (gX = w6.heap.size + 1 + 1) = False := eq_false (by omega)
  have uX3 : (w6.heap.size + 1 + 1 = gX) = False := eq_false (by omega)
  have vX4 : (gX = w6.heap.size + 3) = False := eq_false (by omega)
  have uX4 : (w6.heap.size + 3 = gX) = False := eq_false (by omega)
  have vX5 : (gX = w6.heap.size + 1 + 1 + 1) = False := eq_false (by omega)
  have uX5 : (w6.heap.size + 1 + 1 + 1 = gX) = False := eq_false (by omega)
  have vX6 : (gX = w6.heap.size + 2 + 1) = False := eq_false (by omega)
  have uX6 : (w6.heap.size + 2 + 1 = gX) = False := eq_false (by omega)
  have xX_ := fun o1 o2 o3 => pw_cell_below (below_alloc (below_alloc (below_alloc (Below.refl w6.heap.size w6) o1) o2) o3) ((blk_cell KX.out 0).trans rfl : w6.cell? ⟨gX, 0, none⟩ = some (.int .i64 xs))
  go_wp2_with fail
  clear yA_6 yA_6z0 yA_6z1 yA_6z2 yA_6z3 xA_6_0 xA_6_1 yB_6 yB_6z0 yB_6z1 yB_6z2 yB_6z3 xB_6_0 xB_6_1 yX_6 yX_6z0 yX_6z1 yX_6z2 yX_6z3 xX_6_0 xX_6_1 vA2 uA2 vA3 uA3 vA4 uA4 vA5 uA5 vA6 uA6 vB2 uB2 vB3 uB3 vB4 uB4 vB5 uB5 vB6 uB6 vX2 uX2 vX3 uX3 vX4 uX4 vX5 uX5 vX6 uX6 xX_
  have lT_ : gT < w6.heap.size := blk_lt KT.out
  have lA_ : gA < w6.heap.size := blk_lt KA.out
  have lX_ : gX < w6.heap.size := blk_lt KX.out
  have lB_ : gB < w6.heap.size := blk_lt KB.out
  have bs_ : w.heap.size ≤ w6.heap.size := HB6.out.size
  have Kn_C : (w6.alloc (.cells #[.slice Ay0 y0.length cy0, .slice Ay1 y1.length cy1] 25)).heap[w6.heap.size]? = some (.cells #[.slice Ay0 y0.length cy0, .slice Ay1 y1.length cy1] 25 (0, 0)) := by have h_ := blk_new w6 (.cells #[.slice Ay0 y0.length cy0, .slice Ay1 y1.length cy1] 25); simpa only [World.size_alloc] using h_
  have Kn_L : ((w6.alloc (.cells #[.slice Ay0 y0.length cy0, .slice Ay1 y1.length cy1] 25)).alloc (.cells #[.slice Aa0 a0.length ca0, .slice Aa1 a1.length ca1, .slice Ab0 b0.length cb0, .slice Ab1 b1.length cb1, .slice Ay0 y0.length cy0, .slice Ay1 y1.length cy1] 25)).heap[w6.heap.size + 1]? = some (.cells #[.slice Aa0 a0.length ca0, .slice Aa1 a1.length ca1, .slice Ab0 b0.length cb0, .slice Ab1 b1.length cb1, .slice Ay0 y0.length cy0, .slice Ay1 y1.length cy1] 25 (0, 0)) := by have h_ := blk_new (w6.alloc (.cells #[.slice Ay0 y0.length cy0, .slice Ay1 y1.length cy1] 25)) (.cells #[.slice Aa0 a0.length ca0, .slice Aa1 a1.length ca1, .slice Ab0 b0.length cb0, .slice Ab1 b1.length cb1, .slice Ay0 y0.length cy0, .slice Ay1 y1.length cy1] 25); simpa only [World.size_alloc] using h_
  have Kn_E : (((w6.alloc (.cells #[.slice Ay0 y0.length cy0, .slice Ay1 y1.length cy1] 25)).alloc (.cells #[.slice Aa0 a0.length ca0, .slice Aa1 a1.length ca1, .slice Ab0 b0.length cb0, .slice Ab1 b1.length cb1, .slice Ay0 y0.length cy0, .slice Ay1 y1.length cy1] 25)).alloc (.cells #[.int .i64 ea, .int .i64 eb, .int .i64 ey] 33)).heap[w6.heap.size + 1 + 1]? = some (.cells #[.int .i64 ea, .int .i64 eb, .int .i64 ey] 33 (0, 0)) := by have h_ := blk_new ((w6.alloc (.cells #[.slice Ay0 y0.length cy0, .slice Ay1 y1.length cy1] 25)).alloc (.cells #[.slice Aa0 a0.length ca0, .slice Aa1 a1.length ca1, .slice Ab0 b0.length cb0, .slice Ab1 b1.length cb1, .slice Ay0 y0.length cy0, .slice Ay1 y1.length cy1] 25)) (.cells #[.int .i64 ea, .int .i64 eb, .int .i64 ey] 33); simpa only [World.size_alloc] using h_
  have Kn_P : ((((w6.alloc (.cells #[.slice Ay0 y0.length cy0, .slice Ay1 y1.length cy1] 25)).alloc (.cells #[.slice Aa0 a0.length ca0, .slice Aa1 a1.length ca1, .slice Ab0 b0.length cb0, .slice Ab1 b1.length cb1, .slice Ay0 y0.length cy0, .slice Ay1 y1.length cy1] 25)).alloc (.cells #[.int .i64 ea, .int .i64 eb, .int .i64 ey] 33)).alloc (.cells #[.int .i64 xs, .int .i64 (Int.tmod (wrap64 n) 5), .int .i64 (Int.tmod (wrap64 n) 5)] 3)).heap[w6.heap.size + 1 + 1 + 1]? = some (.cells #[.int .i64 xs, .int .i64 (Int.tmod (wrap64 n) 5), .int .i64 (Int.tmod (wrap64 n) 5)] 3 (0, 0)) := by have h_ := blk_new (((w6.alloc (.cells #[.slice Ay0 y0.length cy0, .slice Ay1 y1.length cy1] 25)).alloc (.cells #[.slice Aa0 a0.length ca0, .slice Aa1 a1.length ca1, .slice Ab0 b0.length cb0, .slice Ab1 b1.length cb1, .slice Ay0 y0.length cy0, .slice Ay1 y1.length cy1] 25)).alloc (.cells #[.int .i64 ea, .int .i64 eb, .int .i64 ey] 33)) (.cells #[.int .i64 xs, .int .i64 (Int.tmod (wrap64 n) 5), .int .i64 (Int.tmod (wrap64 n) 5)] 3); simpa only [World.size_alloc] using h_
  have KT_ : Aside0 (((((w6.alloc (.cells #[.slice Ay0 y0.length cy0, .slice Ay1 y1.length cy1] 25)).alloc (.cells #[.slice Aa0 a0.length ca0, .slice Aa1 a1.length ca1, .slice Ab0 b0.length cb0, .slice Ab1 b1.length cb1, .slice Ay0 y0.length cy0, .slice Ay1 y1.length cy1] 25)).alloc (.cells #[.int .i64 ea, .int .i64 eb, .int .i64 ey] 33)).alloc (.cells #[.int .i64 xs, .int .i64 (Int.tmod (wrap64 n) 5), .int .i64 (Int.tmod (wrap64 n) 5)] 3)).heap[gT]? = some (.cells #[.slice (some ad) r0.length ct0, .slice At1 r1.length ct1] 25 (0, 0))) := ⟨(blk_alloc (blk_alloc (blk_alloc (blk_alloc KT.out _) _) _) _)⟩
  have KA_ : Aside0 (((((w6.alloc (.cells #[.slice Ay0 y0.length cy0, .slice Ay1 y1.length cy1] 25)).alloc (.cells #[.slice Aa0 a0.length ca0, .slice Aa1 a1.length ca1, .slice Ab0 b0.length cb0, .slice Ab1 b1.length cb1, .slice Ay0 y0.length cy0, .slice Ay1 y1.length cy1] 25)).alloc (.cells #[.int .i64 ea, .int .i64 eb, .int .i64 ey] 33)).alloc (.cells #[.int .i64 xs, .int .i64 (Int.tmod (wrap64 n) 5), .int .i64 (Int.tmod (wrap64 n) 5)] 3)).heap[gA]? = some (.cells #[.slice Aa0 a0.length ca0, .slice Aa1 a1.length ca1] 25 (0, 0))) := ⟨(blk_alloc (blk_alloc (blk_alloc (blk_alloc KA.out _) _) _) _)⟩
  have KX_ : Aside0 (((((w6.alloc (.cells #[.slice Ay0 y0.length cy0, .slice Ay1 y1.length cy1] 25)).alloc (.cells #[.slice Aa0 a0.length ca0, .slice Aa1 a1.length ca1, .slice Ab0 b0.length cb0, .slice Ab1 b1.length cb1, .slice Ay0 y0.length cy0, .slice Ay1 y1.length cy1] 25)).alloc (.cells #[.int .i64 ea, .int .i64 eb, .int .i64 ey] 33)).alloc (.cells #[.int .i64 xs, .int .i64 (Int.tmod (wrap64 n) 5), .int .i64 (Int.tmod (wrap64 n) 5)] 3)).heap[gX]? = some (.cells #[.int .i64 xs, .int .i64 xg] 27 (0, 0))) := ⟨(blk_alloc (blk_alloc (blk_alloc (blk_alloc KX.out _) _) _) _)⟩
  have KB_ : Aside0 (((((w6.alloc (.cells #[.slice Ay0 y0.length cy0, .slice Ay1 y1.length cy1] 25)).alloc (.cells #[.slice Aa0 a0.length ca0, .slice Aa1 a1.length ca1, .slice Ab0 b0.length cb0, .slice Ab1 b1.length cb1, .slice Ay0 y0.length cy0, .slice Ay1 y1.length cy1] 25)).alloc (.cells #[.int .i64 ea, .int .i64 eb, .int .i64 ey] 33)).alloc (.cells #[.int .i64 xs, .int .i64 (Int.tmod (wrap64 n) 5), .int .i64 (Int.tmod (wrap64 n) 5)] 3)).heap[gB]? = some (.cells #[.slice Ab0 b0.length cb0, .slice Ab1 b1.length cb1] 25 (0, 0))) := ⟨(blk_alloc (blk_alloc (blk_alloc (blk_alloc KB.out _) _) _) _)⟩
  have KC_ : Aside0 (((((w6.alloc (.cells #[.slice Ay0 y0.length cy0, .slice Ay1 y1.length cy1] 25)).alloc (.cells #[.slice Aa0 a0.length ca0, .slice Aa1 a1.length ca1, .slice Ab0 b0.length cb0, .slice Ab1 b1.length cb1, .slice Ay0 y0.length cy0, .slice Ay1 y1.length cy1] 25)).alloc (.cells #[.int .i64 ea, .int .i64 eb, .int .i64 ey] 33)).alloc (.cells #[.int .i64 xs, .int .i64 (Int.tmod (wrap64 n) 5), .int .i64 (Int.tmod (wrap64 n) 5)] 3)).heap[w6.heap.size]? = some (.cells #[.slice Ay0 y0.length cy0, .slice Ay1 y1.length cy1] 25 (0, 0))) := ⟨(blk_alloc (blk_alloc (blk_alloc Kn_C _) _) _)⟩
  have KL_ : Aside0 (((((w6.alloc (.cells #[.slice Ay0 y0.length cy0, .slice Ay1 y1.length cy1] 25)).alloc (.cells #[.slice Aa0 a0.length ca0, .slice Aa1 a1.length ca1, .slice Ab0 b0.length cb0, .slice Ab1 b1.length cb1, .slice Ay0 y0.length cy0, .slice Ay1 y1.length cy1] 25)).alloc (.cells #[.int .i64 ea, .int .i64 eb, .int .i64 ey] 33)).alloc (.cells #[.int .i64 xs, .int .i64 (Int.tmod (wrap64 n) 5), .int .i64 (Int.tmod (wrap64 n) 5)] 3)).heap[w6.heap.size + 1]? = some (.cells #[.slice Aa0 a0.length ca0, .slice Aa1 a1.length ca1, .slice Ab0 b0.length cb0, .slice Ab1 b1.length cb1, .slice Ay0 y0.length cy0, .slice Ay1 y1.length cy1] 25 (0, 0))) := ⟨(blk_alloc (blk_alloc Kn_L _) _)⟩
  have KE_ : Aside0 (((((w6.alloc (.cells #[.slice Ay0 y0.length cy0, .slice Ay1 y1.length cy1] 25)).alloc (.cells #[.slice Aa0 a0.length ca0, .slice Aa1 a1.length ca1, .slice Ab0 b0.length cb0, .slice Ab1 b1.length cb1, .slice Ay0 y0.length cy0, .slice Ay1 y1.length cy1] 25)).alloc (.cells #[.int .i64 ea, .int .i64 eb, .int .i64 ey] 33)).alloc (.cells #[.int .i64 xs, .int .i64 (Int.tmod (wrap64 n) 5), .int .i64 (Int.tmod (wrap64 n) 5)] 3)).heap[w6.heap.size + 1 + 1]? = some (.cells #[.int .i64 ea, .int .i64 eb, .int .i64 ey] 33 (0, 0))) := ⟨(blk_alloc Kn_E _)⟩
  have KP_ : Aside0 (((((w6.alloc (.cells #[.slice Ay0 y0.length cy0, .slice Ay1 y1.length cy1] 25)).alloc (.cells #[.slice Aa0 a0.length ca0, .slice Aa1 a1.length ca1, .slice Ab0 b0.length cb0, .slice Ab1 b1.length cb1, .slice Ay0 y0.length cy0, .slice Ay1 y1.length cy1] 25)).alloc (.cells #[.int .i64 ea, .int .i64 eb, .int .i64 ey] 33)).alloc (.cells #[.int .i64 xs, .int .i64 (Int.tmod (wrap64 n) 5), .int .i64 (Int.tmod (wrap64 n) 5)] 3)).heap[w6.heap.size + 1 + 1 + 1]? = some (.cells #[.int .i64 xs, .int .i64 (Int.tmod (wrap64 n) 5), .int .i64 (Int.tmod (wrap64 n) 5)] 3 (0, 0))) := ⟨Kn_P⟩
  clear Kn_C Kn_L Kn_E Kn_P KT KA KX KB
  have KT := KT_
  clear KT_
  have KA := KA_
  clear KA_
  have KX := KX_
  clear KX_
  have KB := KB_
  clear KB_
  have KC := KC_
  clear KC_
  have KL := KL_
  clear KL_
  have KE := KE_
  clear KE_
  have KP := KP_
  clear KP_
  have Ht0_ := Aside0.mk (Kd.R_alloc (Kd.R_alloc (Kd.R_alloc (Kd.R_alloc Ht0.out (.cells #[.slice Ay0 y0.length cy0, .slice Ay1 y1.length cy1] 25)) (.cells #[.slice Aa0 a0.length ca0, .slice Aa1 a1.length ca1, .slice Ab0 b0.length cb0, .slice Ab1 b1.length cb1, .slice Ay0 y0.length cy0, .slice Ay1 y1.length cy1] 25)) (.cells #[.int .i64 ea, .int .i64 eb, .int .i64 ey] 33)) (.cells #[.int .i64 xs, .int .i64 (Int.tmod (wrap64 n) 5), .int .i64 (Int.tmod (wrap64 n) 5)] 3))
  clear Ht0
  have Ht0 := Ht0_
  clear Ht0_
  have Ht1_ := Aside0.mk (Kd.R_alloc (Kd.R_alloc (Kd.R_alloc (Kd.R_alloc Ht1.out (.cells #[.slice Ay0 y0.length cy0, .slice Ay1 y1.length cy1] 25)) (.cells #[.slice Aa0 a0.length ca0, .slice Aa1 a1.length ca1, .slice Ab0 b0.length cb0, .slice Ab1 b1.length cb1, .slice Ay0 y0.length cy0, .slice Ay1 y1.length cy1] 25)) (.cells #[.int .i64 ea, .int .i64 eb, .int .i64 ey] 33)) (.cells #[.int .i64 xs, .int .i64 (Int.tmod (wrap64 n) 5), .int .i64 (Int.tmod (wrap64 n) 5)] 3))
  clear Ht1
  have Ht1 := Ht1_
  clear Ht1_
  have Ha0_ := Aside0.mk (Kd.R_alloc (Kd.R_alloc (Kd.R_alloc (Kd.R_alloc Ha0.out (.cells #[.slice Ay0 y0.length cy0, .slice Ay1 y1.length cy1] 25)) (.cells #[.slice Aa0 a0.length ca0, .slice Aa1 a1.length ca1, .slice Ab0 b0.length cb0, .slice Ab1 b1.length cb1, .slice Ay0 y0.length cy0, .slice Ay1 y1.length cy1] 25)) (.cells #[.int .i64 ea, .int .i64 eb, .int .i64 ey] 33)) (.cells #[.int .i64 xs, .int .i64 (Int.tmod (wrap64 n) 5), .int .i64 (Int.tmod (wrap64 n) 5)] 3))
  clear Ha0
  have Ha0 := Ha0_
  clear Ha0_
  have Ha1_ := Aside0.mk (Kd.R_alloc (Kd.R_alloc (Kd.R_alloc (Kd.R_alloc Ha1.out (.cells #[.slice Ay0 y0.length cy0, .slice Ay1 y1.length cy1] 25)) (.cells #[.slice Aa0 a0.length ca0, .slice Aa1 a1.length ca1, .slice Ab0 b0.length cb0, .slice Ab1 b1.length cb1, .slice Ay0 y0.length cy0, .slice Ay1 y1.length cy1] 25)) (.cells #[.int .i64 ea, .int .i64 eb, .int .i64 ey] 33)) (.cells #[.int .i64 xs, .int .i64 (Int.tmod (wrap64 n) 5), .int .i64 (Int.tmod (wrap64 n) 5)] 3))
  clear Ha1
  have Ha1 := Ha1_
  clear Ha1_
  have Hb0_ := Aside0.mk (Kd.R_alloc (Kd.R_alloc (Kd.R_alloc (Kd.R_alloc Hb0.out (.cells #[.slice Ay0 y0.length cy0, .slice Ay1 y1.length cy1] 25)) (.cells #[.slice Aa0 a0.length ca0, .slice Aa1 a1.length ca1, .slice Ab0 b0.length cb0, .slice Ab1 b1.length cb1, .slice Ay0 y0.length cy0, .slice Ay1 y1.length cy1] 25)) (.cells #[.int .i64 ea, .int .i64 eb, .int .i64 ey] 33)) (.cells #[.int .i64 xs, .int .i64 (Int.tmod (wrap64 n) 5), .int .i64 (Int.tmod (wrap64 n) 5)] 3))
  clear Hb0
  have Hb0 := Hb0_
  clear Hb0_
  have Hb1_ := Aside0.mk (Kd.R_alloc (Kd.R_alloc (Kd.R_alloc (Kd.R_alloc Hb1.out (.cells #[.slice Ay0 y0.length cy0, .slice Ay1 y1.length cy1] 25)) (.cells #[.slice Aa0 a0.length ca0, .slice Aa1 a1.length ca1, .slice Ab0 b0.length cb0, .slice Ab1 b1.length cb1, .slice Ay0 y0.length cy0, .slice Ay1 y1.length cy1] 25)) (.cells #[.int .i64 ea, .int .i64 eb, .int .i64 ey] 33)) (.cells #[.int .i64 xs, .int .i64 (Int.tmod (wrap64 n) 5), .int .i64 (Int.tmod (wrap64 n) 5)] 3))
  clear Hb1
  have Hb1 := Hb1_
  clear Hb1_
  have Hy0_ := Aside0.mk (Kd.R_alloc (Kd.R_alloc (Kd.R_alloc (Kd.R_alloc Hy0.out (.cells #[.slice Ay0 y0.length cy0, .slice Ay1 y1.length cy1] 25)) (.cells #[.slice Aa0 a0.length ca0, .slice Aa1 a1.length ca1, .slice Ab0 b0.length cb0, .slice Ab1 b1.length cb1, .slice Ay0 y0.length cy0, .slice Ay1 y1.length cy1] 25)) (.cells #[.int .i64 ea, .int .i64 eb, .int .i64 ey] 33)) (.cells #[.int .i64 xs, .int .i64 (Int.tmod (wrap64 n) 5), .int .i64 (Int.tmod (wrap64 n) 5)] 3))
  clear Hy0
  have Hy0 := Hy0_
  clear Hy0_
  have Hy1_ := Aside0.mk (Kd.R_alloc (Kd.R_alloc (Kd.R_alloc (Kd.R_alloc Hy1.out (.cells #[.slice Ay0 y0.length cy0, .slice Ay1 y1.length cy1] 25)) (.cells #[.slice Aa0 a0.length ca0, .slice Aa1 a1.length ca1, .slice Ab0 b0.length cb0, .slice Ab1 b1.length cb1, .slice Ay0 y0.length cy0, .slice Ay1 y1.length cy1] 25)) (.cells #[.int .i64 ea, .int .i64 eb, .int .i64 ey] 33)) (.cells #[.int .i64 xs, .int .i64 (Int.tmod (wrap64 n) 5), .int .i64 (Int.tmod (wrap64 n) 5)] 3))
  clear Hy1
  have Hy1 := Hy1_
  clear Hy1_
  have HB50 : Aside0 (Below w.heap.size w ((((w6.alloc (.cells #[.slice Ay0 y0.length cy0, .slice Ay1 y1.length cy1] 25)).alloc (.cells #[.slice Aa0 a0.length ca0, .slice Aa1 a1.length ca1, .slice Ab0 b0.length cb0, .slice Ab1 b1.length cb1, .slice Ay0 y0.length cy0, .slice Ay1 y1.length cy1] 25)).alloc (.cells #[.int .i64 ea, .int .i64 eb, .int .i64 ey] 33)).alloc (.cells #[.int .i64 xs, .int .i64 (Int.tmod (wrap64 n) 5), .int .i64 (Int.tmod (wrap64 n) 5)] 3))) := ⟨(below_alloc (below_alloc (below_alloc (below_alloc HB6.out _) _) _) _)⟩
  generalize ((((w6.alloc (.cells #[.slice Ay0 y0.length cy0, .slice Ay1 y1.length cy1] 25)).alloc (.cells #[.slice Aa0 a0.length ca0, .slice Aa1 a1.length ca1, .slice Ab0 b0.length cb0, .slice Ab1 b1.length cb1, .slice Ay0 y0.length cy0, .slice Ay1 y1.length cy1] 25)).alloc (.cells #[.int .i64 ea, .int .i64 eb, .int .i64 ey] 33)).alloc (.cells #[.int .i64 xs, .int .i64 (Int.tmod (wrap64 n) 5), .int .i64 (Int.tmod (wrap64 n) 5)] 3)) = w50 at KT KA KX KB KC KL KE KP Ht0 Ht1 Ha0 Ha1 Hb0 Hb1 Hy0 Hy1 HB50 ⊢
  generalize hgP : w6.heap.size + 1 + 1 + 1 = gP at KP ⊢
  have bP : Aside0 (w.heap.size ≤ gP) := ⟨by omega⟩
  generalize hgE : w6.heap.size + 1 + 1 = gE at KE ⊢
  have bE : Aside0 (w.heap.size ≤ gE) := ⟨by omega⟩
  generalize hgL : w6.heap.size + 1 = gL at KL ⊢
  have bL : Aside0 (w.heap.size ≤ gL) := ⟨by omega⟩
  generalize hgC : w6.heap.size = gC at KC ⊢
  have bC : Aside0 (w.heap.size ≤ gC) := ⟨by omega⟩
  have dTC : (gT = gC) = False := eq_false (by omega)
  have dCT : (gC = gT) = False := eq_false (by omega)
  have dTL : (gT = gL) = False := eq_false (by omega)
  have dLT : (gL = gT) = False := eq_false (by omega)
  have dTE : (gT = gE) = False := eq_false (by omega)
  have dET : (gE = gT) = False := eq_false (by omega)
  have dTP : (gT = gP) = False := eq_false (by omega)
  have dPT : (gP = gT) = False := eq_false (by omega)
  have dAC : (gA = gC) = False := eq_false (by omega)
  have dCA : (gC = gA) = False := eq_false (by omega)
  have dAL : (gA = gL) = False := eq_false (by omega)
  have dLA : (gL = gA) = False := eq_false (by omega)
  have dAE : (gA = gE) = False := eq_false (by omega)
  have dEA : (gE = gA) = False := eq_false (by omega)
  have dAP : (gA = gP) = False := eq_false (by omega)
  have dPA : (gP = gA) = False := eq_false (by omega)
  have dXC : (gX = gC) = False := eq_false (by omega)
  have dCX : (gC = gX) = False := eq_false (by omega)
  have dXL : (gX = gL) = False := eq_false (by omega)
  have dLX : (gL = gX) = False := eq_false (by omega)
  have dXE : (gX = gE) = False := eq_false (by omega)
  have dEX : (gE = gX) = False := eq_false (by omega)
  have dXP : (gX = gP) = False := eq_false (by omega)
  have dPX : (gP = gX) = False := eq_false (by omega)
  have dBC : (gB = gC) = False := eq_false (by omega)
  have dCB : (gC = gB) = False := eq_false (by omega)
  have dBL : (gB = gL) = False := eq_false (by omega)
  have dLB : (gL = gB) = False := eq_false (by omega)
  have dBE : (gB = gE) = False := eq_false (by omega)
  have dEB : (gE = gB) = False := eq_false (by omega)
  have dBP : (gB = gP) = False := eq_false (by omega)
  have dPB : (gP = gB) = False := eq_false (by omega)
  have dCL : (gC = gL) = False := eq_false (by omega)
  have dLC : (gL = gC) = False := eq_false (by omega)
  have dCE : (gC = gE) = False := eq_false (by omega)
  have dEC : (gE = gC) = False := eq_false (by omega)
  have dCP : (gC = gP) = False := eq_false (by omega)
  have dPC : (gP = gC) = False := eq_false (by omega)
  have dLE : (gL = gE) = False := eq_false (by omega)
  have dEL : (gE = gL) = False := eq_false (by omega)
  have dLP : (gL = gP) = False := eq_false (by omega)
  have dPL : (gP = gL) = False := eq_false (by omega)
  have dEP : (gE = gP) = False := eq_false (by omega)
  have dPE : (gP = gE) = False := eq_false (by omega)
  clear hgC hgL hgE hgP bs_ lT_ lA_ lX_ lB_
  clear KC KA KB KX
  go_loopg [19] 5 (fun kq v_ w' => ∃ (k : Int) (wl : World), v_ = .int .i64 k ∧ wl = w' ∧ Aside0 (0 ≤ k ∧ k ≤ 3) ∧ Aside0 (3 < k + (kq : Int)) ∧ Aside0 (kq ≤ 5) ∧ Aside0 (Below w.heap.size w w') ∧ Aside0 (w'.heap[gT]? = some (.cells #[.slice (some ad) r0.length ct0, .slice At1 r1.length ct1] 25 (0, 0))) ∧ Aside0 (w'.heap[gL]? = some (.cells #[.slice Aa0 a0.length ca0, .slice Aa1 a1.length ca1, .slice Ab0 b0.length cb0, .slice Ab1 b1.length cb1, .slice Ay0 y0.length cy0, .slice Ay1 y1.length cy1] 25 (0, 0))) ∧ Aside0 (w'.heap[gE]? = some (.cells #[.int .i64 ea, .int .i64 eb, .int .i64 ey] 33 (0, 0))) ∧ Aside0 (w'.heap[gP]? = some (.cells #[.int .i64 xs, .int .i64 (Int.tmod (wrap64 n) 5), .int .i64 (Int.tmod (wrap64 n) 5)] 3 (0, 0))) ∧ Aside0 (Kd.R (Kd.int .u64) 28 w' w.heap.size (fun _ => True) (.slice (some ad) r0.length ct0) r0) ∧ Aside0 (Kd.R k52 52 w' w.heap.size (fun _ => True) (.slice At1 r1.length ct1) r1) ∧ Aside0 (Kd.R (Kd.int .u64) 28 w' w.heap.size (fun _ => True) (.slice Aa0 a0.length ca0) a0) ∧ Aside0 (Kd.R k52 52 w' w.heap.size (fun _ => True) (.slice Aa1 a1.length ca1) a1) ∧ Aside0 (Kd.R (Kd.int .u64) 28 w' w.heap.size (fun _ => True) (.slice Ab0 b0.length cb0) b0) ∧ Aside0 (Kd.R k52 52 w' w.heap.size (fun _ => True) (.slice Ab1 b1.length cb1) b1) ∧ Aside0 (Kd.R (Kd.int .u64) 28 w' w.heap.size (fun _ => True) (.slice Ay0 y0.length cy0) y0) ∧ Aside0 (Kd.R k52 52 w' w.heap.size (fun _ => True) (.slice Ay1 y1.length cy1) y1))
  case atStart => exact ⟨0, _, rfl, rfl, ⟨by omega⟩, ⟨by omega⟩, ⟨Nat.le_refl _⟩, HB50, KT, KL, KE, KP, Ht0, Ht1, Ha0, Ha1, Hb0, Hb1, Hy0, Hy1⟩
  case round =>
    clear HB50 KT KL KE KP Ht0 Ht1 Ha0 Ha1 Hb0 Hb1 Hy0 Hy1
    obtain ⟨k, wl, rfl, rfl, HI, HK, HK6, HBl, KT, KL, KE, KP, Ht0, Ht1, Ha0, Ha1, Hb0, Hb1, Hy0, Hy1⟩ := hrel
    cases gk with
    | zero => exact absurd HK.out (by have := HI.out; omega)
    | succ k1 =>
      obtain hk | hk | hk | hk : k = 0 ∨ k = 1 ∨ k = 2 ∨ k = 3 := by have := HI.out; omega
      · subst hk
        have yL_60 : gL < wl.heap.size := blk_lt KL.out
        have yL_60z0 : (gL = wl.heap.size) = False := eq_false (by omega)
        have yL_60z1 : (wl.heap.size = gL) = False := eq_false (by omega)
        have yL_60z2 : (gL = wl.heap.size + 1) = False := eq_false (by omega)
        have yL_60z3 : (wl.heap.size + 1 = gL) = False := eq_false (by omega)
        have xL_60_0 : wl.cell? ⟨gL, 0, none⟩ = some (.slice Aa0 a0.length ca0) := (blk_cell KL.out 0).trans rfl
        have xL_60_1 : wl.cell? ⟨gL, 1, none⟩ = some (.slice Aa1 a1.length ca1) := (blk_cell KL.out 1).trans rfl
        have xL_60_2 : wl.cell? ⟨gL, 2, none⟩ = some (.slice Ab0 b0.length cb0) := (blk_cell KL.out 2).trans rfl
        have xL_60_3 : wl.cell? ⟨gL, 3, none⟩ = some (.slice Ab1 b1.length cb1) := (blk_cell KL.out 3).trans rfl
        have xL_60_4 : wl.cell? ⟨gL, 4, none⟩ = some (.slice Ay0 y0.length cy0) := (blk_cell KL.out 4).trans rfl
        have xL_60_5 : wl.cell? ⟨gL, 5, none⟩ = some (.slice Ay1 y1.length cy1) := (blk_cell KL.out 5).trans rfl
        have yE_60 : gE < wl.heap.size := blk_lt KE.out
        have yE_60z0 : (gE = wl.heap.size) = False := eq_false (by omega)
        have yE_60z1 : (wl.heap.size = gE) = False := eq_false (by omega)
        have yE_60z2 : (gE = wl.heap.size + 1) = False := eq_false (by omega)
        have yE_60z3 : (wl.heap.size + 1 = gE) = False := eq_false (by omega)
        have xE_60_0 : wl.cell? ⟨gE, 0, none⟩ = some (.int .i64 ea) := (blk_cell KE.out 0).trans rfl
        have xE_60_1 : wl.cell? ⟨gE, 1, none⟩ = some (.int .i64 eb) := (blk_cell KE.out 1).trans rfl
        have xE_60_2 : wl.cell? ⟨gE, 2, none⟩ = some (.int .i64 ey) := (blk_cell KE.out 2).trans rfl
        by_cases he : ea = 0
        · have heb : (ea != 0) = false := bne_eq_false_iff_eq.mpr he
          obtain ⟨n0_, n1_, n2_, n3_⟩ := Q3.out.2 he
          have N0 := Aside0.mk n0_
          have N1 := Aside0.mk n1_
          have N2 := Aside0.mk n2_
          have N3 := Aside0.mk n3_
          have hz : ((a0.length : Int) != 5) = false := by rw [n0_]; rfl
          clear he n0_ n1_ n2_ n3_
          go_wp2_with fail
          refine (turnspitref14_Right.calls 1000 Aa0 ca0 a0 Aa1 ca1 a1 true _ (Kd.R_reads' Ha0.out).2.2 (Kd.R_reads' Ha0.out).2.1 (Kd.R_reads' Ha1.out).2.2 (Kd.R_reads' Ha1.out).2.1 (Ld.below HL.out (by exact HBl.out)) N2.out).mono ?_
          rintro e w61 ⟨rfl, hb⟩
          have HB61 := Aside0.mk (below_step HBl.out hb)
          have KT_ := Aside0.mk (blk_below KT.out hb)
          have KL_ := Aside0.mk (blk_below KL.out hb)
          have KE_ := Aside0.mk (blk_below KE.out hb)
          have KP_ := Aside0.mk (blk_below KP.out hb)
          clear KT
          have KT := KT_
          clear KT_
          clear KL
          have KL := KL_
          clear KL_
          clear KE
          have KE := KE_
          clear KE_
          clear KP
          have KP := KP_
          clear KP_
          have Ht0_ := Aside0.mk (Kd.R_below Ht0.out hb)
          clear Ht0
          have Ht0 := Ht0_
          clear Ht0_
          have Ht1_ := Aside0.mk (Kd.R_below Ht1.out hb)
          clear Ht1
          have Ht1 := Ht1_
          clear Ht1_
          have Ha0_ := Aside0.mk (Kd.R_below Ha0.out hb)
          clear Ha0
          have Ha0 := Ha0_
          clear Ha0_
          have Ha1_ := Aside0.mk (Kd.R_below Ha1.out hb)
          clear Ha1
          have Ha1 := Ha1_
          clear Ha1_
          have Hb0_ := Aside0.mk (Kd.R_below Hb0.out hb)
          clear Hb0
          have Hb0 := Hb0_
          clear Hb0_
          have Hb1_ := Aside0.mk (Kd.R_below Hb1.out hb)
          clear Hb1
          have Hb1 := Hb1_
          clear Hb1_
          have Hy0_ := Aside0.mk (Kd.R_below Hy0.out hb)
          clear Hy0
          have Hy0 := Hy0_
          clear Hy0_
          have Hy1_ := Aside0.mk (Kd.R_below Hy1.out hb)
          clear Hy1
          have Hy1 := Hy1_
          clear Hy1_
          clear hb
          try clear yL_60 yL_60z0 yL_60z1 yL_60z2 yL_60z3 xL_60_0 xL_60_1 xL_60_2 xL_60_3 xL_60_4 xL_60_5 yE_60 yE_60z0 yE_60z1 yE_60z2 yE_60z3 xE_60_0 xE_60_1 xE_60_2
          have yL_61 : gL < w61.heap.size := blk_lt KL.out
          have yL_61z0 : (gL = w61.heap.size) = False := eq_false (by omega)
          have yL_61z1 : (w61.heap.size = gL) = False := eq_false (by omega)
          have yL_61z2 : (gL = w61.heap.size + 1) = False := eq_false (by omega)
          have yL_61z3 : (w61.heap.size + 1 = gL) = False := eq_false (by omega)
          have xL_61_0 : w61.cell? ⟨gL, 0, none⟩ = some (.slice Aa0 a0.length ca0) := (blk_cell KL.out 0).trans rfl
          have xL_61_1 : w61.cell? ⟨gL, 1, none⟩ = some (.slice Aa1 a1.length ca1) := (blk_cell KL.out 1).trans rfl
          have xL_61_2 : w61.cell? ⟨gL, 2, none⟩ = some (.slice Ab0 b0.length cb0) := (blk_cell KL.out 2).trans rfl
          have xL_61_3 : w61.cell? ⟨gL, 3, none⟩ = some (.slice Ab1 b1.length cb1) := (blk_cell KL.out 3).trans rfl
          have xL_61_4 : w61.cell? ⟨gL, 4, none⟩ = some (.slice Ay0 y0.length cy0) := (blk_cell KL.out 4).trans rfl
          have xL_61_5 : w61.cell? ⟨gL, 5, none⟩ = some (.slice Ay1 y1.length cy1) := (blk_cell KL.out 5).trans rfl
          go_wp2_with fail
          try clear yL_61 yL_61z0 yL_61z1 yL_61z2 yL_61z3 xL_61_0 xL_61_1 xL_61_2 xL_61_3 xL_61_4 xL_61_5
          clear hz
          go_loopg [20] 7 (fun kq v_ w' => ∃ (i : Int) (wi : World), v_ = .int .i64 i ∧ wi = w' ∧ Aside0 (0 ≤ i ∧ i ≤ 5) ∧ Aside0 (5 < i + (kq : Int)) ∧ Aside0 (kq ≤ 7) ∧ Aside0 (Below w.heap.size w w') ∧ Aside0 (w'.heap[gT]? = some (.cells #[.slice (some ad) r0.length ct0, .slice At1 r1.length ct1] 25 (0, 0))) ∧ Aside0 (w'.heap[gL]? = some (.cells #[.slice Aa0 a0.length ca0, .slice Aa1 a1.length ca1, .slice Ab0 b0.length cb0, .slice Ab1 b1.length cb1, .slice Ay0 y0.length cy0, .slice Ay1 y1.length cy1] 25 (0, 0))) ∧ Aside0 (w'.heap[gE]? = some (.cells #[.int .i64 ea, .int .i64 eb, .int .i64 ey] 33 (0, 0))) ∧ Aside0 (w'.heap[gP]? = some (.cells #[.int .i64 xs, .int .i64 (Int.tmod (wrap64 n) 5), .int .i64 (Int.tmod (wrap64 n) 5)] 3 (0, 0))) ∧ Aside0 (Kd.R (Kd.int .u64) 28 w' w.heap.size (fun _ => True) (.slice (some ad) r0.length ct0) r0) ∧ Aside0 (Kd.R k52 52 w' w.heap.size (fun _ => True) (.slice At1 r1.length ct1) r1) ∧ Aside0 (Kd.R (Kd.int .u64) 28 w' w.heap.size (fun _ => True) (.slice Aa0 a0.length ca0) a0) ∧ Aside0 (Kd.R k52 52 w' w.heap.size (fun _ => True) (.slice Aa1 a1.length ca1) a1) ∧ Aside0 (Kd.R (Kd.int .u64) 28 w' w.heap.size (fun _ => True) (.slice Ab0 b0.length cb0) b0) ∧ Aside0 (Kd.R k52 52 w' w.heap.size (fun _ => True) (.slice Ab1 b1.length cb1) b1) ∧ Aside0 (Kd.R (Kd.int .u64) 28 w' w.heap.size (fun _ => True) (.slice Ay0 y0.length cy0) y0) ∧ Aside0 (Kd.R k52 52 w' w.heap.size (fun _ => True) (.slice Ay1 y1.length cy1) y1))
          case atStart => exact ⟨0, _, rfl, rfl, ⟨by omega⟩, ⟨by omega⟩, ⟨Nat.le_refl _⟩, HB61, KT, KL, KE, KP, Ht0, Ht1, Ha0, Ha1, Hb0, Hb1, Hy0, Hy1⟩
          case round =>
            clear HB61 KT KL KE KP Ht0 Ht1 Ha0 Ha1 Hb0 Hb1 Hy0 Hy1
            obtain ⟨i, wi, rfl, rfl, HJ, HG, HG6, HBi, KT, KL, KE, KP, Ht0, Ht1, Ha0, Ha1, Hb0, Hb1, Hy0, Hy1⟩ := hrel
            cases gk with
            | zero => exact absurd HG.out (by have := HJ.out; omega)
            | succ k2 =>
              by_cases ci : i < 5
              · have i0 : 0 ≤ i := HJ.out.1
                have i1 : i < (a0.length : Int) := by rw [N0.out]; exact ci
                have i2 : i < (r0.length : Int) := by rw [EF.out.1]; exact ci
                have i3 : i < (a1.length : Int) := by rw [N1.out]; exact ci
                have i4 : i < (r1.length : Int) := by rw [EF.out.2.1]; exact ci
                obtain ⟨ae, eae, hxs⟩ := Kd.at_int (Kd.R_reads' Ha0.out).2.2 i i0 i1
                obtain ⟨af, eaf, hxr⟩ := Kd.at_int (Kd.R_reads' Ht0.out).2.2 i i0 i2
                obtain rfl := Option.some.inj eaf
                obtain ⟨ag, eag, ht0, ht1, ht2⟩ := at_T52 (Kd.R_reads' Ha1.out).2.2 i i0 i3
                obtain ⟨ah, eah, hu0, hu1, hu2⟩ := at_T52 (Kd.R_reads' Ht1.out).2.2 i i0 i4
                subst eae eag eah
                have yT_70 : gT < wi.heap.size := blk_lt KT.out
                have yT_70z0 : (gT = wi.heap.size) = False := eq_false (by omega)
                have yT_70z1 : (wi.heap.size = gT) = False := eq_false (by omega)
                have yT_70z2 : (gT = wi.heap.size + 1) = False := eq_false (by omega)
                have yT_70z3 : (wi.heap.size + 1 = gT) = False := eq_false (by omega)
                have xT_70_0 : wi.cell? ⟨gT, 0, none⟩ = some (.slice (some ad) r0.length ct0) := (blk_cell KT.out 0).trans rfl
                have xT_70_1 : wi.cell? ⟨gT, 1, none⟩ = some (.slice (some ah) r1.length ct1) := (blk_cell KT.out 1).trans rfl
                have yL_70 : gL < wi.heap.size := blk_lt KL.out
                have yL_70z0 : (gL = wi.heap.size) = False := eq_false (by omega)
                have yL_70z1 : (wi.heap.size = gL) = False := eq_false (by omega)
                have yL_70z2 : (gL = wi.heap.size + 1) = False := eq_false (by omega)
                have yL_70z3 : (wi.heap.size + 1 = gL) = False := eq_false (by omega)
                have xL_70_0 : wi.cell? ⟨gL, 0, none⟩ = some (.slice (some ae) a0.length ca0) := (blk_cell KL.out 0).trans rfl
                have xL_70_1 : wi.cell? ⟨gL, 1, none⟩ = some (.slice (some ag) a1.length ca1) := (blk_cell KL.out 1).trans rfl
                have xL_70_2 : wi.cell? ⟨gL, 2, none⟩ = some (.slice Ab0 b0.length cb0) := (blk_cell KL.out 2).trans rfl
                have xL_70_3 : wi.cell? ⟨gL, 3, none⟩ = some (.slice Ab1 b1.length cb1) := (blk_cell KL.out 3).trans rfl
                have xL_70_4 : wi.cell? ⟨gL, 4, none⟩ = some (.slice Ay0 y0.length cy0) := (blk_cell KL.out 4).trans rfl
                have xL_70_5 : wi.cell? ⟨gL, 5, none⟩ = some (.slice Ay1 y1.length cy1) := (blk_cell KL.out 5).trans rfl
                have yP_70 : gP < wi.heap.size := blk_lt KP.out
                have yP_70z0 : (gP = wi.heap.size) = False := eq_false (by omega)
                have yP_70z1 : (wi.heap.size = gP) = False := eq_false (by omega)
                have yP_70z2 : (gP = wi.heap.size + 1) = False := eq_false (by omega)
                have yP_70z3 : (wi.heap.size + 1 = gP) = False := eq_false (by omega)
                have xP_70_0 : wi.cell? ⟨gP, 0, none⟩ = some (.int .i64 xs) := (blk_cell KP.out 0).trans rfl
                have xP_70_1 : wi.cell? ⟨gP, 1, none⟩ = some (.int .i64 (Int.tmod (wrap64 n) 5)) := (blk_cell KP.out 1).trans rfl
                have xP_70_2 : wi.cell? ⟨gP, 2, none⟩ = some (.int .i64 (Int.tmod (wrap64 n) 5)) := (blk_cell KP.out 2).trans rfl
                have p7 := eq_true i0
                have p8 := eq_true i1
                have p9 := eq_true i2
                have pa := eq_true i3
                have pb := eq_true i4
                have cib := decide_eq_true ci
                have CI := Aside0.mk ci
                clear i0 i1 i2 i3 i4 ci
                by_cases ip : i = xs
                · have ipb : (i != xs) = false := bne_eq_false_iff_eq.mpr ip
                  clear ip
                  go_wp2_with fail
                  go_quiet (fail)
                  go_wp2_with fail
                  go_roundg k2
                  case measure => have := HG6.out; omega
                  case rel => exact ⟨i + 1, _, (by rw [wrap64_small (by have := HJ.out; omega) (by have := HJ.out; omega)]), rfl, ⟨by have := HJ.out; have := CI.out; omega⟩, ⟨by have := HG.out; omega⟩, ⟨by have := HG6.out; omega⟩, ⟨by repeat (with_reducible first | exact HBi.out | apply pw_below_drewN | apply below_drew1)⟩, ⟨by repeat (with_reducible first | exact KT.out | refine blk_drewN ?_ _ | refine blk_drew ?_)⟩, ⟨by repeat (with_reducible first | exact KL.out | refine blk_drewN ?_ _ | refine blk_drew ?_)⟩, ⟨by repeat (with_reducible first | exact KE.out | refine blk_drewN ?_ _ | refine blk_drew ?_)⟩, ⟨by repeat (with_reducible first | exact KP.out | refine blk_drewN ?_ _ | refine blk_drew ?_)⟩, ⟨by repeat (with_reducible first | exact Ht0.out | apply Kd.R_drewN | apply Kd.R_drew)⟩, ⟨by repeat (with_reducible first | exact Ht1.out | apply Kd.R_drewN | apply Kd.R_drew)⟩, ⟨by repeat (with_reducible first | exact Ha0.out | apply Kd.R_drewN | apply Kd.R_drew)⟩, ⟨by repeat (with_reducible first | exact Ha1.out | apply Kd.R_drewN | apply Kd.R_drew)⟩, ⟨by repeat (with_reducible first | exact Hb0.out | apply Kd.R_drewN | apply Kd.R_drew)⟩, ⟨by repeat (with_reducible first | exact Hb1.out | apply Kd.R_drewN | apply Kd.R_drew)⟩, ⟨by repeat (with_reducible first | exact Hy0.out | apply Kd.R_drewN | apply Kd.R_drew)⟩, ⟨by repeat (with_reducible first | exact Hy1.out | apply Kd.R_drewN | apply Kd.R_drew)⟩⟩
                · have ipb : (i != xs) = true := bne_iff_ne.mpr ip
                  obtain ⟨o0, o1⟩ := N3.out i HJ.out.1 CI.out ip
                  have ob : (rd a0 i != rd r0 i) = false := bne_eq_false_iff_eq.mpr o0
                  have oc : ((rd_T52 a1 i).f0 == (rd_T52 r1 i).f0) = true := by rw [o1]; exact beq_self_eq_true _
                  have od : ((rd_T52 a1 i).f1 == (rd_T52 r1 i).f1) = true := by rw [o1]; exact beq_self_eq_true _
                  have oe : ((rd_T52 a1 i).f2 == (rd_T52 r1 i).f2) = true := by rw [o1]; exact beq_self_eq_true _
                  clear o0 o1 ip
                  go_wp2_with fail
                  go_quiet (fail)
                  go_wp2_with fail
                  go_roundg k2
                  case measure => have := HG6.out; omega
                  case rel => exact ⟨i + 1, _, (by rw [wrap64_small (by have := HJ.out; omega) (by have := HJ.out; omega)]), rfl, ⟨by have := HJ.out; have := CI.out; omega⟩, ⟨by have := HG.out; omega⟩, ⟨by have := HG6.out; omega⟩, ⟨by repeat (with_reducible first | exact HBi.out | apply pw_below_drewN | apply below_drew1)⟩, ⟨by repeat (with_reducible first | exact KT.out | refine blk_drewN ?_ _ | refine blk_drew ?_)⟩, ⟨by repeat (with_reducible first | exact KL.out | refine blk_drewN ?_ _ | refine blk_drew ?_)⟩, ⟨by repeat (with_reducible first | exact KE.out | refine blk_drewN ?_ _ | refine blk_drew ?_)⟩, ⟨by repeat (with_reducible first | exact KP.out | refine blk_drewN ?_ _ | refine blk_drew ?_)⟩, ⟨by repeat (with_reducible first | exact Ht0.out | apply Kd.R_drewN | apply Kd.R_drew)⟩, ⟨by repeat (with_reducible first | exact Ht1.out | apply Kd.R_drewN | apply Kd.R_drew)⟩, ⟨by repeat (with_reducible first | exact Ha0.out | apply Kd.R_drewN | apply Kd.R_drew)⟩, ⟨by repeat (with_reducible first | exact Ha1.out | apply Kd.R_drewN | apply Kd.R_drew)⟩, ⟨by repeat (with_reducible first | exact Hb0.out | apply Kd.R_drewN | apply Kd.R_drew)⟩, ⟨by repeat (with_reducible first | exact Hb1.out | apply Kd.R_drewN | apply Kd.R_drew)⟩, ⟨by repeat (with_reducible first | exact Hy0.out | apply Kd.R_drewN | apply Kd.R_drew)⟩, ⟨by repeat (with_reducible first | exact Hy1.out | apply Kd.R_drewN | apply Kd.R_drew)⟩⟩
              · have cib := decide_eq_false ci
                clear ci
                go_wp2_with fail
                go_roundg k1
                case measure => have := HK6.out; omega
                case rel => exact ⟨_, _, rfl, rfl, ⟨by omega⟩, ⟨by have := HK.out; omega⟩, ⟨by have := HK6.out; omega⟩, HBi, KT, KL, KE, KP, Ht0, Ht1, Ha0, Ha1, Hb0, Hb1, Hy0, Hy1⟩
        · have heb : (ea != 0) = true := bne_iff_ne.mpr he
          have hz : ((a0.length : Int) != 0) = false := by have h0 := Q3.out.1 he; rw [h0]; rfl
          clear he
          go_wp2_with fail
          go_roundg k1
          case measure => have := HK6.out; omega
          case rel => exact ⟨_, _, rfl, rfl, ⟨by omega⟩, ⟨by have := HK.out; omega⟩, ⟨by have := HK6.out; omega⟩, HBl, KT, KL, KE, KP, Ht0, Ht1, Ha0, Ha1, Hb0, Hb1, Hy0, Hy1⟩
      · subst hk
        have yL_60 : gL < wl.heap.size := blk_lt KL.out
        have yL_60z0 : (gL = wl.heap.size) = False := eq_false (by omega)
        have yL_60z1 : (wl.heap.size = gL) = False := eq_false (by omega)
        have yL_60z2 : (gL = wl.heap.size + 1) = False := eq_false (by omega)
        have yL_60z3 : (wl.heap.size + 1 = gL) = False := eq_false (by omega)
        have xL_60_0 : wl.cell? ⟨gL, 0, none⟩ = some (.slice Aa0 a0.length ca0) := (blk_cell KL.out 0).trans rfl
        have xL_60_1 : wl.cell? ⟨gL, 1, none⟩ = some (.slice Aa1 a1.length ca1) := (blk_cell KL.out 1).trans rfl
        have xL_60_2 : wl.cell? ⟨gL, 2, none⟩ = some (.slice Ab0 b0.length cb0) := (blk_cell KL.out 2).trans rfl
        have xL_60_3 : wl.cell? ⟨gL, 3, none⟩ = some (.slice Ab1 b1.length cb1) := (blk_cell KL.out 3).trans rfl
        have xL_60_4 : wl.cell? ⟨gL, 4, none⟩ = some (.slice Ay0 y0.length cy0) := (blk_cell KL.out 4).trans rfl
        have xL_60_5 : wl.cell? ⟨gL, 5, none⟩ = some (.slice Ay1 y1.length cy1) := (blk_cell KL.out 5).trans rfl
        have yE_60 : gE < wl.heap.size := blk_lt KE.out
        have yE_60z0 : (gE = wl.heap.size) = False := eq_false (by omega)
        have yE_60z1 : (wl.heap.size = gE) = False := eq_false (by omega)
        have yE_60z2 : (gE = wl.heap.size + 1) = False := eq_false (by omega)
        have yE_60z3 : (wl.heap.size + 1 = gE) = False := eq_false (by omega)
        have xE_60_0 : wl.cell? ⟨gE, 0, none⟩ = some (.int .i64 ea) := (blk_cell KE.out 0).trans rfl
        have xE_60_1 : wl.cell? ⟨gE, 1, none⟩ = some (.int .i64 eb) := (blk_cell KE.out 1).trans rfl
        have xE_60_2 : wl.cell? ⟨gE, 2, none⟩ = some (.int .i64 ey) := (blk_cell KE.out 2).trans rfl
        by_cases he : eb = 0
        · have heb : (eb != 0) = false := bne_eq_false_iff_eq.mpr he
          obtain ⟨n0_, n1_, n2_, n3_⟩ := Q5.out.2 he
          have N0 := Aside0.mk n0_
          have N1 := Aside0.mk n1_
          have N2 := Aside0.mk n2_
          have N3 := Aside0.mk n3_
          have hz : ((b0.length : Int) != 5) = false := by rw [n0_]; rfl
          clear he n0_ n1_ n2_ n3_
          go_wp2_with fail
          refine (turnspitref14_Right.calls 1000 Ab0 cb0 b0 Ab1 cb1 b1 true _ (Kd.R_reads' Hb0.out).2.2 (Kd.R_reads' Hb0.out).2.1 (Kd.R_reads' Hb1.out).2.2 (Kd.R_reads' Hb1.out).2.1 (Ld.below HL.out (by exact HBl.out)) N2.out).mono ?_
          rintro e w61 ⟨rfl, hb⟩
          have HB61 := Aside0.mk (below_step HBl.out hb)
          have KT_ := Aside0.mk (blk_below KT.out hb)
          have KL_ := Aside0.mk (blk_below KL.out hb)
          have KE_ := Aside0.mk (blk_below KE.out hb)
          have KP_ := Aside0.mk (blk_below KP.out hb)
          clear KT
          have KT := KT_
          clear KT_
          clear KL
          have KL := KL_
          clear KL_
          clear KE
          have KE := KE_
          clear KE_
          clear KP
          have KP := KP_
          clear KP_
          have Ht0_ := Aside0.mk (Kd.R_below Ht0.out hb)
          clear Ht0
          have Ht0 := Ht0_
          clear Ht0_
          have Ht1_ := Aside0.mk (Kd.R_below Ht1.out hb)
          clear Ht1
          have Ht1 := Ht1_
          clear Ht1_
          have Ha0_ := Aside0.mk (Kd.R_below Ha0.out hb)
          clear Ha0
          have Ha0 := Ha0_
          clear Ha0_
          have Ha1_ := Aside0.mk (Kd.R_below Ha1.out hb)
          clear Ha1
          have Ha1 := Ha1_
          clear Ha1_
          have Hb0_ := Aside0.mk (Kd.R_below Hb0.out hb)
          clear Hb0
          have Hb0 := Hb0_
          clear Hb0_
          have Hb1_ := Aside0.mk (Kd.R_below Hb1.out hb)
          clear Hb1
          have Hb1 := Hb1_
          clear Hb1_
          have Hy0_ := Aside0.mk (Kd.R_below Hy0.out hb)
          clear Hy0
          have Hy0 := Hy0_
          clear Hy0_
          have Hy1_ := Aside0.mk (Kd.R_below Hy1.out hb)
          clear Hy1
          have Hy1 := Hy1_
          clear Hy1_
          clear hb
          try clear yL_60 yL_60z0 yL_60z1 yL_60z2 yL_60z3 xL_60_0 xL_60_1 xL_60_2 xL_60_3 xL_60_4 xL_60_5 yE_60 yE_60z0 yE_60z1 yE_60z2 yE_60z3 xE_60_0 xE_60_1 xE_60_2
          have yL_61 : gL < w61.heap.size := blk_lt KL.out
          have yL_61z0 : (gL = w61.heap.size) = False := eq_false (by omega)
          have yL_61z1 : (w61.heap.size = gL) = False := eq_false (by omega)
          have yL_61z2 : (gL = w61.heap.size + 1) = False := eq_false (by omega)
          have yL_61z3 : (w61.heap.size + 1 = gL) = False := eq_false (by omega)
          have xL_61_0 : w61.cell? ⟨gL, 0, none⟩ = some (.slice Aa0 a0.length ca0) := (blk_cell KL.out 0).trans rfl
          have xL_61_1 : w61.cell? ⟨gL, 1, none⟩ = some (.slice Aa1 a1.length ca1) := (blk_cell KL.out 1).trans rfl
          have xL_61_2 : w61.cell? ⟨gL, 2, none⟩ = some (.slice Ab0 b0.length cb0) := (blk_cell KL.out 2).trans rfl
          have xL_61_3 : w61.cell? ⟨gL, 3, none⟩ = some (.slice Ab1 b1.length cb1) := (blk_cell KL.out 3).trans rfl
          have xL_61_4 : w61.cell? ⟨gL, 4, none⟩ = some (.slice Ay0 y0.length cy0) := (blk_cell KL.out 4).trans rfl
          have xL_61_5 : w61.cell? ⟨gL, 5, none⟩ = some (.slice Ay1 y1.length cy1) := (blk_cell KL.out 5).trans rfl
          go_wp2_with fail
          try clear yL_61 yL_61z0 yL_61z1 yL_61z2 yL_61z3 xL_61_0 xL_61_1 xL_61_2 xL_61_3 xL_61_4 xL_61_5
          clear hz
          go_loopg [20] 7 (fun kq v_ w' => ∃ (i : Int) (wi : World), v_ = .int .i64 i ∧ wi = w' ∧ Aside0 (0 ≤ i ∧ i ≤ 5) ∧ Aside0 (5 < i + (kq : Int)) ∧ Aside0 (kq ≤ 7) ∧ Aside0 (Below w.heap.size w w') ∧ Aside0 (w'.heap[gT]? = some (.cells #[.slice (some ad) r0.length ct0, .slice At1 r1.length ct1] 25 (0, 0))) ∧ Aside0 (w'.heap[gL]? = some (.cells #[.slice Aa0 a0.length ca0, .slice Aa1 a1.length ca1, .slice Ab0 b0.length cb0, .slice Ab1 b1.length cb1, .slice Ay0 y0.length cy0, .slice Ay1 y1.length cy1] 25 (0, 0))) ∧ Aside0 (w'.heap[gE]? = some (.cells #[.int .i64 ea, .int .i64 eb, .int .i64 ey] 33 (0, 0))) ∧ Aside0 (w'.heap[gP]? = some (.cells #[.int .i64 xs, .int .i64 (Int.tmod (wrap64 n) 5), .int .i64 (Int.tmod (wrap64 n) 5)] 3 (0, 0))) ∧ Aside0 (Kd.R (Kd.int .u64) 28 w' w.heap.size (fun _ => True) (.slice (some ad) r0.length ct0) r0) ∧ Aside0 (Kd.R k52 52 w' w.heap.size (fun _ => True) (.slice At1 r1.length ct1) r1) ∧ Aside0 (Kd.R (Kd.int .u64) 28 w' w.heap.size (fun _ => True) (.slice Aa0 a0.length ca0) a0) ∧ Aside0 (Kd.R k52 52 w' w.heap.size (fun _ => True) (.slice Aa1 a1.length ca1) a1) ∧ Aside0 (Kd.R (Kd.int .u64) 28 w' w.heap.size (fun _ => True) (.slice Ab0 b0.length cb0) b0) ∧ Aside0 (Kd.R k52 52 w' w.heap.size (fun _ => True) (.slice Ab1 b1.length cb1) b1) ∧ Aside0 (Kd.R (Kd.int .u64) 28 w' w.heap.size (fun _ => True) (.slice Ay0 y0.length cy0) y0) ∧ Aside0 (Kd.R k52 52 w' w.heap.size (fun _ => True) (.slice Ay1 y1.length cy1) y1))
          case atStart => exact ⟨0, _, rfl, rfl, ⟨by omega⟩, ⟨by omega⟩, ⟨Nat.le_refl _⟩, HB61, KT, KL, KE, KP, Ht0, Ht1, Ha0, Ha1, Hb0, Hb1, Hy0, Hy1⟩
          case round =>
            clear HB61 KT KL KE KP Ht0 Ht1 Ha0 Ha1 Hb0 Hb1 Hy0 Hy1
            obtain ⟨i, wi, rfl, rfl, HJ, HG, HG6, HBi, KT, KL, KE, KP, Ht0, Ht1, Ha0, Ha1, Hb0, Hb1, Hy0, Hy1⟩ := hrel
            cases gk with
            | zero => exact absurd HG.out (by have := HJ.out; omega)
            | succ k2 =>
              by_cases ci : i < 5
              · have i0 : 0 ≤ i := HJ.out.1
                have i1 : i < (b0.length : Int) := by rw [N0.out]; exact ci
                have i2 : i < (r0.length : Int) := by rw [EF.out.1]; exact ci
                have i3 : i < (b1.length : Int) := by rw [N1.out]; exact ci
                have i4 : i < (r1.length : Int) := by rw [EF.out.2.1]; exact ci
                obtain ⟨ae, eae, hxs⟩ := Kd.at_int (Kd.R_reads' Hb0.out).2.2 i i0 i1
                obtain ⟨af, eaf, hxr⟩ := Kd.at_int (Kd.R_reads' Ht0.out).2.2 i i0 i2
                obtain rfl := Option.some.inj eaf
                obtain ⟨ag, eag, ht0, ht1, ht2⟩ := at_T52 (Kd.R_reads' Hb1.out).2.2 i i0 i3
                obtain ⟨ah, eah, hu0, hu1, hu2⟩ := at_T52 (Kd.R_reads' Ht1.out).2.2 i i0 i4
                subst eae eag eah
                have yT_70 : gT < wi.heap.size := blk_lt KT.out
                have yT_70z0 : (gT = wi.heap.size) = False := eq_false (by omega)
                have yT_70z1 : (wi.heap.size = gT) = False := eq_false (by omega)
                have yT_70z2 : (gT = wi.heap.size + 1) = False := eq_false (by omega)
                have yT_70z3 : (wi.heap.size + 1 = gT) = False := eq_false (by omega)
                have xT_70_0 : wi.cell? ⟨gT, 0, none⟩ = some (.slice (some ad) r0.length ct0) := (blk_cell KT.out 0).trans rfl
                have xT_70_1 : wi.cell? ⟨gT, 1, none⟩ = some (.slice (some ah) r1.length ct1) := (blk_cell KT.out 1).trans rfl
                have yL_70 : gL < wi.heap.size := blk_lt KL.out
                have yL_70z0 : (gL = wi.heap.size) = False := eq_false (by omega)
                have yL_70z1 : (wi.heap.size = gL) = False := eq_false (by omega)
                have yL_70z2 : (gL = wi.heap.size + 1) = False := eq_false (by omega)
                have yL_70z3 : (wi.heap.size + 1 = gL) = False := eq_false (by omega)
                have xL_70_0 : wi.cell? ⟨gL, 0, none⟩ = some (.slice Aa0 a0.length ca0) := (blk_cell KL.out 0).trans rfl
                have xL_70_1 : wi.cell? ⟨gL, 1, none⟩ = some (.slice Aa1 a1.length ca1) := (blk_cell KL.out 1).trans rfl
                have xL_70_2 : wi.cell? ⟨gL, 2, none⟩ = some (.slice (some ae) b0.length cb0) := (blk_cell KL.out 2).trans rfl
                have xL_70_3 : wi.cell? ⟨gL, 3, none⟩ = some (.slice (some ag) b1.length cb1) := (blk_cell KL.out 3).trans rfl
                have xL_70_4 : wi.cell? ⟨gL, 4, none⟩ = some (.slice Ay0 y0.length cy0) := (blk_cell KL.out 4).trans rfl
                have xL_70_5 : wi.cell? ⟨gL, 5, none⟩ = some (.slice Ay1 y1.length cy1) := (blk_cell KL.out 5).trans rfl
                have yP_70 : gP < wi.heap.size := blk_lt KP.out
                have yP_70z0 : (gP = wi.heap.size) = False := eq_false (by omega)
                have yP_70z1 : (wi.heap.size = gP) = False := eq_false (by omega)
                have yP_70z2 : (gP = wi.heap.size + 1) = False := eq_false (by omega)
                have yP_70z3 : (wi.heap.size + 1 = gP) = False := eq_false (by omega)
                have xP_70_0 : wi.cell? ⟨gP, 0, none⟩ = some (.int .i64 xs) := (blk_cell KP.out 0).trans rfl
                have xP_70_1 : wi.cell? ⟨gP, 1, none⟩ = some (.int .i64 (Int.tmod (wrap64 n) 5)) := (blk_cell KP.out 1).trans rfl
                have xP_70_2 : wi.cell? ⟨gP, 2, none⟩ = some (.int .i64 (Int.tmod (wrap64 n) 5)) := (blk_cell KP.out 2).trans rfl
                have p7 := eq_true i0
                have p8 := eq_true i1
                have p9 := eq_true i2
                have pa := eq_true i3
                have pb := eq_true i4
                have cib := decide_eq_true ci
                have CI := Aside0.mk ci
                clear i0 i1 i2 i3 i4 ci
                by_cases ip : i = (Int.tmod (wrap64 n) 5)
                · have ipb : (i != (Int.tmod (wrap64 n) 5)) = false := bne_eq_false_iff_eq.mpr ip
                  clear ip
                  go_wp2_with fail
                  go_quiet (fail)
                  go_wp2_with fail
                  go_roundg k2
                  case measure => have := HG6.out; omega
                  case rel => exact ⟨i + 1, _, (by rw [wrap64_small (by have := HJ.out; omega) (by have := HJ.out; omega)]), rfl, ⟨by have := HJ.out; have := CI.out; omega⟩, ⟨by have := HG.out; omega⟩, ⟨by have := HG6.out; omega⟩, ⟨by repeat (with_reducible first | exact HBi.out | apply pw_below_drewN | apply below_drew1)⟩, ⟨by repeat (with_reducible first | exact KT.out | refine blk_drewN ?_ _ | refine blk_drew ?_)⟩, ⟨by repeat (with_reducible first | exact KL.out | refine blk_drewN ?_ _ | refine blk_drew ?_)⟩, ⟨by repeat (with_reducible first | exact KE.out | refine blk_drewN ?_ _ | refine blk_drew ?_)⟩, ⟨by repeat (with_reducible first | exact KP.out | refine blk_drewN ?_ _ | refine blk_drew ?_)⟩, ⟨by repeat (with_reducible first | exact Ht0.out | apply Kd.R_drewN | apply Kd.R_drew)⟩, ⟨by repeat (with_reducible first | exact Ht1.out | apply Kd.R_drewN | apply Kd.R_drew)⟩, ⟨by repeat (with_reducible first | exact Ha0.out | apply Kd.R_drewN | apply Kd.R_drew)⟩, ⟨by repeat (with_reducible first | exact Ha1.out | apply Kd.R_drewN | apply Kd.R_drew)⟩, ⟨by repeat (with_reducible first | exact Hb0.out | apply Kd.R_drewN | apply Kd.R_drew)⟩, ⟨by repeat (with_reducible first | exact Hb1.out | apply Kd.R_drewN | apply Kd.R_drew)⟩, ⟨by repeat (with_reducible first | exact Hy0.out | apply Kd.R_drewN | apply Kd.R_drew)⟩, ⟨by repeat (with_reducible first | exact Hy1.out | apply Kd.R_drewN | apply Kd.R_drew)⟩⟩
                · have ipb : (i != (Int.tmod (wrap64 n) 5)) = true := bne_iff_ne.mpr ip
                  obtain ⟨o0, o1⟩ := N3.out i HJ.out.1 CI.out ip
                  have ob : (rd b0 i != rd r0 i) = false := bne_eq_false_iff_eq.mpr o0
                  have oc : ((rd_T52 b1 i).f0 == (rd_T52 r1 i).f0) = true := by rw [o1]; exact beq_self_eq_true _
                  have od : ((rd_T52 b1 i).f1 == (rd_T52 r1 i).f1) = true := by rw [o1]; exact beq_self_eq_true _
                  have oe : ((rd_T52 b1 i).f2 == (rd_T52 r1 i).f2) = true := by rw [o1]; exact beq_self_eq_true _
                  clear o0 o1 ip
                  go_wp2_with fail
                  go_quiet (fail)
                  go_wp2_with fail
                  go_roundg k2
                  case measure => have := HG6.out; omega
                  case rel => exact ⟨i + 1, _, (by rw [wrap64_small (by have := HJ.out; omega) (by have := HJ.out; omega)]), rfl, ⟨by have := HJ.out; have := CI.out; omega⟩, ⟨by have := HG.out; omega⟩, ⟨by have := HG6.out; omega⟩, ⟨by repeat (with_reducible first | exact HBi.out | apply pw_below_drewN | apply below_drew1)⟩, ⟨by repeat (with_reducible first | exact KT.out | refine blk_drewN ?_ _ | refine blk_drew ?_)⟩, ⟨by repeat (with_reducible first | exact KL.out | refine blk_drewN ?_ _ | refine blk_drew ?_)⟩, ⟨by repeat (with_reducible first | exact KE.out | refine blk_drewN ?_ _ | refine blk_drew ?_)⟩, ⟨by repeat (with_reducible first | exact KP.out | refine blk_drewN ?_ _ | refine blk_drew ?_)⟩, ⟨by repeat (with_reducible first | exact Ht0.out | apply Kd.R_drewN | apply Kd.R_drew)⟩, ⟨by repeat (with_reducible first | exact Ht1.out | apply Kd.R_drewN | apply Kd.R_drew)⟩, ⟨by repeat (with_reducible first | exact Ha0.out | apply Kd.R_drewN | apply Kd.R_drew)⟩, ⟨by repeat (with_reducible first | exact Ha1.out | apply Kd.R_drewN | apply Kd.R_drew)⟩, ⟨by repeat (with_reducible first | exact Hb0.out | apply Kd.R_drewN | apply Kd.R_drew)⟩, ⟨by repeat (with_reducible first | exact Hb1.out | apply Kd.R_drewN | apply Kd.R_drew)⟩, ⟨by repeat (with_reducible first | exact Hy0.out | apply Kd.R_drewN | apply Kd.R_drew)⟩, ⟨by repeat (with_reducible first | exact Hy1.out | apply Kd.R_drewN | apply Kd.R_drew)⟩⟩
              · have cib := decide_eq_false ci
                clear ci
                go_wp2_with fail
                go_roundg k1
                case measure => have := HK6.out; omega
                case rel => exact ⟨_, _, rfl, rfl, ⟨by omega⟩, ⟨by have := HK.out; omega⟩, ⟨by have := HK6.out; omega⟩, HBi, KT, KL, KE, KP, Ht0, Ht1, Ha0, Ha1, Hb0, Hb1, Hy0, Hy1⟩
        · have heb : (eb != 0) = true := bne_iff_ne.mpr he
          have hz : ((b0.length : Int) != 0) = false := by have h0 := Q5.out.1 he; rw [h0]; rfl
          clear he
          go_wp2_with fail
          go_roundg k1
          case measure => have := HK6.out; omega
          case rel => exact ⟨_, _, rfl, rfl, ⟨by omega⟩, ⟨by have := HK.out; omega⟩, ⟨by have := HK6.out; omega⟩, HBl, KT, KL, KE, KP, Ht0, Ht1, Ha0, Ha1, Hb0, Hb1, Hy0, Hy1⟩
      · subst hk
        have yL_60 : gL < wl.heap.size := blk_lt KL.out
        have yL_60z0 : (gL = wl.heap.size) = False := eq_false (by omega)
        have yL_60z1 : (wl.heap.size = gL) = False := eq_false (by omega)
        have yL_60z2 : (gL = wl.heap.size + 1) = False := eq_false (by omega)
        have yL_60z3 : (wl.heap.size + 1 = gL) = False := eq_false (by omega)
        have xL_60_0 : wl.cell? ⟨gL, 0, none⟩ = some (.slice Aa0 a0.length ca0) := (blk_cell KL.out 0).trans rfl
        have xL_60_1 : wl.cell? ⟨gL, 1, none⟩ = some (.slice Aa1 a1.length ca1) := (blk_cell KL.out 1).trans rfl
        have xL_60_2 : wl.cell? ⟨gL, 2, none⟩ = some (.slice Ab0 b0.length cb0) := (blk_cell KL.out 2).trans rfl
        have xL_60_3 : wl.cell? ⟨gL, 3, none⟩ = some (.slice Ab1 b1.length cb1) := (blk_cell KL.out 3).trans rfl
        have xL_60_4 : wl.cell? ⟨gL, 4, none⟩ = some (.slice Ay0 y0.length cy0) := (blk_cell KL.out 4).trans rfl
        have xL_60_5 : wl.cell? ⟨gL, 5, none⟩ = some (.slice Ay1 y1.length cy1) := (blk_cell KL.out 5).trans rfl
        have yE_60 : gE < wl.heap.size := blk_lt KE.out
        have yE_60z0 : (gE = wl.heap.size) = False := eq_false (by omega)
        have yE_60z1 : (wl.heap.size = gE) = False := eq_false (by omega)
        have yE_60z2 : (gE = wl.heap.size + 1) = False := eq_false (by omega)
        have yE_60z3 : (wl.heap.size + 1 = gE) = False := eq_false (by omega)
        have xE_60_0 : wl.cell? ⟨gE, 0, none⟩ = some (.int .i64 ea) := (blk_cell KE.out 0).trans rfl
        have xE_60_1 : wl.cell? ⟨gE, 1, none⟩ = some (.int .i64 eb) := (blk_cell KE.out 1).trans rfl
        have xE_60_2 : wl.cell? ⟨gE, 2, none⟩ = some (.int .i64 ey) := (blk_cell KE.out 2).trans rfl
        by_cases he : ey = 0
        · have heb : (ey != 0) = false := bne_eq_false_iff_eq.mpr he
          obtain ⟨n0_, n1_, n2_, n3_⟩ := Q7.out.2 he
          have N0 := Aside0.mk n0_
          have N1 := Aside0.mk n1_
          have N2 := Aside0.mk n2_
          have N3 := Aside0.mk n3_
          have hz : ((y0.length : Int) != 5) = false := by rw [n0_]; rfl
          clear he n0_ n1_ n2_ n3_
          go_wp2_with fail
          refine (turnspitref14_Right.calls 1000 Ay0 cy0 y0 Ay1 cy1 y1 true _ (Kd.R_reads' Hy0.out).2.2 (Kd.R_reads' Hy0.out).2.1 (Kd.R_reads' Hy1.out).2.2 (Kd.R_reads' Hy1.out).2.1 (Ld.below HL.out (by exact HBl.out)) N2.out).mono ?_
          rintro e w61 ⟨rfl, hb⟩
          have HB61 := Aside0.mk (below_step HBl.out hb)
          have KT_ := Aside0.mk (blk_below KT.out hb)
          have KL_ := Aside0.mk (blk_below KL.out hb)
          have KE_ := Aside0.mk (blk_below KE.out hb)
          have KP_ := Aside0.mk (blk_below KP.out hb)
          clear KT
          have KT := KT_
          clear KT_
          clear KL
          have KL := KL_
          clear KL_
          clear KE
          have KE := KE_
          clear KE_
          clear KP
          have KP := KP_
          clear KP_
          have Ht0_ := Aside0.mk (Kd.R_below Ht0.out hb)
          clear Ht0
          have Ht0 := Ht0_
          clear Ht0_
          have Ht1_ := Aside0.mk (Kd.R_below Ht1.out hb)
          clear Ht1
          have Ht1 := Ht1_
          clear Ht1_
          have Ha0_ := Aside0.mk (Kd.R_below Ha0.out hb)
          clear Ha0
          have Ha0 := Ha0_
          clear Ha0_
          have Ha1_ := Aside0.mk (Kd.R_below Ha1.out hb)
          clear Ha1
          have Ha1 := Ha1_
          clear Ha1_
          have Hb0_ := Aside0.mk (Kd.R_below Hb0.out hb)
          clear Hb0
          have Hb0 := Hb0_
          clear Hb0_
          have Hb1_ := Aside0.mk (Kd.R_below Hb1.out hb)
          clear Hb1
          have Hb1 := Hb1_
          clear Hb1_
          have Hy0_ := Aside0.mk (Kd.R_below Hy0.out hb)
          clear Hy0
          have Hy0 := Hy0_
          clear Hy0_
          have Hy1_ := Aside0.mk (Kd.R_below Hy1.out hb)
          clear Hy1
          have Hy1 := Hy1_
          clear Hy1_
          clear hb
          try clear yL_60 yL_60z0 yL_60z1 yL_60z2 yL_60z3 xL_60_0 xL_60_1 xL_60_2 xL_60_3 xL_60_4 xL_60_5 yE_60 yE_60z0 yE_60z1 yE_60z2 yE_60z3 xE_60_0 xE_60_1 xE_60_2
          have yL_61 : gL < w61.heap.size := blk_lt KL.out
          have yL_61z0 : (gL = w61.heap.size) = False := eq_false (by omega)
          have yL_61z1 : (w61.heap.size = gL) = False := eq_false (by omega)
          have yL_61z2 : (gL = w61.heap.size + 1) = False := eq_false (by omega)
          have yL_61z3 : (w61.heap.size + 1 = gL) = False := eq_false (by omega)
          have xL_61_0 : w61.cell? ⟨gL, 0, none⟩ = some (.slice Aa0 a0.length ca0) := (blk_cell KL.out 0).trans rfl
          have xL_61_1 : w61.cell? ⟨gL, 1, none⟩ = some (.slice Aa1 a1.length ca1) := (blk_cell KL.out 1).trans rfl
          have xL_61_2 : w61.cell? ⟨gL, 2, none⟩ = some (.slice Ab0 b0.length cb0) := (blk_cell KL.out 2).trans rfl
          have xL_61_3 : w61.cell? ⟨gL, 3, none⟩ = some (.slice Ab1 b1.length cb1) := (blk_cell KL.out 3).trans rfl
          have xL_61_4 : w61.cell? ⟨gL, 4, none⟩ = some (.slice Ay0 y0.length cy0) := (blk_cell KL.out 4).trans rfl
          have xL_61_5 : w61.cell? ⟨gL, 5, none⟩ = some (.slice Ay1 y1.length cy1) := (blk_cell KL.out 5).trans rfl
          go_wp2_with fail
          try clear yL_61 yL_61z0 yL_61z1 yL_61z2 yL_61z3 xL_61_0 xL_61_1 xL_61_2 xL_61_3 xL_61_4 xL_61_5
          clear hz
          go_loopg [20] 7 (fun kq v_ w' => ∃ (i : Int) (wi : World), v_ = .int .i64 i ∧ wi = w' ∧ Aside0 (0 ≤ i ∧ i ≤ 5) ∧ Aside0 (5 < i + (kq : Int)) ∧ Aside0 (kq ≤ 7) ∧ Aside0 (Below w.heap.size w w') ∧ Aside0 (w'.heap[gT]? = some (.cells #[.slice (some ad) r0.length ct0, .slice At1 r1.length ct1] 25 (0, 0))) ∧ Aside0 (w'.heap[gL]? = some (.cells #[.slice Aa0 a0.length ca0, .slice Aa1 a1.length ca1, .slice Ab0 b0.length cb0, .slice Ab1 b1.length cb1, .slice Ay0 y0.length cy0, .slice Ay1 y1.length cy1] 25 (0, 0))) ∧ Aside0 (w'.heap[gE]? = some (.cells #[.int .i64 ea, .int .i64 eb, .int .i64 ey] 33 (0, 0))) ∧ Aside0 (w'.heap[gP]? = some (.cells #[.int .i64 xs, .int .i64 (Int.tmod (wrap64 n) 5), .int .i64 (Int.tmod (wrap64 n) 5)] 3 (0, 0))) ∧ Aside0 (Kd.R (Kd.int .u64) 28 w' w.heap.size (fun _ => True) (.slice (some ad) r0.length ct0) r0) ∧ Aside0 (Kd.R k52 52 w' w.heap.size (fun _ => True) (.slice At1 r1.length ct1) r1) ∧ Aside0 (Kd.R (Kd.int .u64) 28 w' w.heap.size (fun _ => True) (.slice Aa0 a0.length ca0) a0) ∧ Aside0 (Kd.R k52 52 w' w.heap.size (fun _ => True) (.slice Aa1 a1.length ca1) a1) ∧ Aside0 (Kd.R (Kd.int .u64) 28 w' w.heap.size (fun _ => True) (.slice Ab0 b0.length cb0) b0) ∧ Aside0 (Kd.R k52 52 w' w.heap.size (fun _ => True) (.slice Ab1 b1.length cb1) b1) ∧ Aside0 (Kd.R (Kd.int .u64) 28 w' w.heap.size (fun _ => True) (.slice Ay0 y0.length cy0) y0) ∧ Aside0 (Kd.R k52 52 w' w.heap.size (fun _ => True) (.slice Ay1 y1.length cy1) y1))
          case atStart => exact ⟨0, _, rfl, rfl, ⟨by omega⟩, ⟨by omega⟩, ⟨Nat.le_refl _⟩, HB61, KT, KL, KE, KP, Ht0, Ht1, Ha0, Ha1, Hb0, Hb1, Hy0, Hy1⟩
          case round =>
            clear HB61 KT KL KE KP Ht0 Ht1 Ha0 Ha1 Hb0 Hb1 Hy0 Hy1
            obtain ⟨i, wi, rfl, rfl, HJ, HG, HG6, HBi, KT, KL, KE, KP, Ht0, Ht1, Ha0, Ha1, Hb0, Hb1, Hy0, Hy1⟩ := hrel
            cases gk with
            | zero => exact absurd HG.out (by have := HJ.out; omega)
            | succ k2 =>
              by_cases ci : i < 5
              · have i0 : 0 ≤ i := HJ.out.1
                have i1 : i < (y0.length : Int) := by rw [N0.out]; exact ci
                have i2 : i < (r0.length : Int) := by rw [EF.out.1]; exact ci
                have i3 : i < (y1.length : Int) := by rw [N1.out]; exact ci
                have i4 : i < (r1.length : Int) := by rw [EF.out.2.1]; exact ci
                obtain ⟨ae, eae, hxs⟩ := Kd.at_int (Kd.R_reads' Hy0.out).2.2 i i0 i1
                obtain ⟨af, eaf, hxr⟩ := Kd.at_int (Kd.R_reads' Ht0.out).2.2 i i0 i2
                obtain rfl := Option.some.inj eaf
                obtain ⟨ag, eag, ht0, ht1, ht2⟩ := at_T52 (Kd.R_reads' Hy1.out).2.2 i i0 i3
                obtain ⟨ah, eah, hu0, hu1, hu2⟩ := at_T52 (Kd.R_reads' Ht1.out).2.2 i i0 i4
                subst eae eag eah
                have yT_70 : gT < wi.heap.size := blk_lt KT.out
                have yT_70z0 : (gT = wi.heap.size) = False := eq_false (by omega)
                have yT_70z1 : (wi.heap.size = gT) = False := eq_false (by omega)
                have yT_70z2 : (gT = wi.heap.size + 1) = False := eq_false (by omega)
                have yT_70z3 : (wi.heap.size + 1 = gT) = False := eq_false (by omega)
                have xT_70_0 : wi.cell? ⟨gT, 0, none⟩ = some (.slice (some ad) r0.length ct0) := (blk_cell KT.out 0).trans rfl
                have xT_70_1 : wi.cell? ⟨gT, 1, none⟩ = some (.slice (some ah) r1.length ct1) := (blk_cell KT.out 1).trans rfl
                have yL_70 : gL < wi.heap.size := blk_lt KL.out
                have yL_70z0 : (gL = wi.heap.size) = False := eq_false (by omega)
                have yL_70z1 : (wi.heap.size = gL) = False := eq_false (by omega)
                have yL_70z2 : (gL = wi.heap.size + 1) = False := eq_false (by omega)
                have yL_70z3 : (wi.heap.size + 1 = gL) = False := eq_false (by omega)
                have xL_70_0 : wi.cell? ⟨gL, 0, none⟩ = some (.slice Aa0 a0.length ca0) := (blk_cell KL.out 0).trans rfl
                have xL_70_1 : wi.cell? ⟨gL, 1, none⟩ = some (.slice Aa1 a1.length ca1) := (blk_cell KL.out 1).trans rfl
                have xL_70_2 : wi.cell? ⟨gL, 2, none⟩ = some (.slice Ab0 b0.length cb0) := (blk_cell KL.out 2).trans rfl
                have xL_70_3 : wi.cell? ⟨gL, 3, none⟩ = some (.slice Ab1 b1.length cb1) := (blk_cell KL.out 3).trans rfl
                have xL_70_4 : wi.cell? ⟨gL, 4, none⟩ = some (.slice (some ae) y0.length cy0) := (blk_cell KL.out 4).trans rfl
                have xL_70_5 : wi.cell? ⟨gL, 5, none⟩ = some (.slice (some ag) y1.length cy1) := (blk_cell KL.out 5).trans rfl
                have yP_70 : gP < wi.heap.size := blk_lt KP.out
                have yP_70z0 : (gP = wi.heap.size) = False := eq_false (by omega)
                have yP_70z1 : (wi.heap.size = gP) = False := eq_false (by omega)
                have yP_70z2 : (gP = wi.heap.size + 1) = False := eq_false (by omega)
                have yP_70z3 : (wi.heap.size + 1 = gP) = False := eq_false (by omega)
                have xP_70_0 : wi.cell? ⟨gP, 0, none⟩ = some (.int .i64 xs) := (blk_cell KP.out 0).trans rfl
                have xP_70_1 : wi.cell? ⟨gP, 1, none⟩ = some (.int .i64 (Int.tmod (wrap64 n) 5)) := (blk_cell KP.out 1).trans rfl
                have xP_70_2 : wi.cell? ⟨gP, 2, none⟩ = some (.int .i64 (Int.tmod (wrap64 n) 5)) := (blk_cell KP.out 2).trans rfl
                have p7 := eq_true i0
                have p8 := eq_true i1
                have p9 := eq_true i2
                have pa := eq_true i3
                have pb := eq_true i4
                have cib := decide_eq_true ci
                have CI := Aside0.mk ci
                clear i0 i1 i2 i3 i4 ci
                by_cases ip : i = (Int.tmod (wrap64 n) 5)
                · have ipb : (i != (Int.tmod (wrap64 n) 5)) = false := bne_eq_false_iff_eq.mpr ip
                  clear ip
                  go_wp2_with fail
                  go_quiet (fail)
                  go_wp2_with fail
                  go_roundg k2
                  case measure => have := HG6.out; omega
                  case rel => exact ⟨i + 1, _, (by rw [wrap64_small (by have := HJ.out; omega) (by have := HJ.out; omega)]), rfl, ⟨by have := HJ.out; have := CI.out; omega⟩, ⟨by have := HG.out; omega⟩, ⟨by have := HG6.out; omega⟩, ⟨by repeat (with_reducible first | exact HBi.out | apply pw_below_drewN | apply below_drew1)⟩, ⟨by repeat (with_reducible first | exact KT.out | refine blk_drewN ?_ _ | refine blk_drew ?_)⟩, ⟨by repeat (with_reducible first | exact KL.out | refine blk_drewN ?_ _ | refine blk_drew ?_)⟩, ⟨by repeat (with_reducible first | exact KE.out | refine blk_drewN ?_ _ | refine blk_drew ?_)⟩, ⟨by repeat (with_reducible first | exact KP.out | refine blk_drewN ?_ _ | refine blk_drew ?_)⟩, ⟨by repeat (with_reducible first | exact Ht0.out | apply Kd.R_drewN | apply Kd.R_drew)⟩, ⟨by repeat (with_reducible first | exact Ht1.out | apply Kd.R_drewN | apply Kd.R_drew)⟩, ⟨by repeat (with_reducible first | exact Ha0.out | apply Kd.R_drewN | apply Kd.R_drew)⟩, ⟨by repeat (with_reducible first | exact Ha1.out | apply Kd.R_drewN | apply Kd.R_drew)⟩, ⟨by repeat (with_reducible first | exact Hb0.out | apply Kd.R_drewN | apply Kd.R_drew)⟩, ⟨by repeat (with_reducible first | exact Hb1.out | apply Kd.R_drewN | apply Kd.R_drew)⟩, ⟨by repeat (with_reducible first | exact Hy0.out | apply Kd.R_drewN | apply Kd.R_drew)⟩, ⟨by repeat (with_reducible first | exact Hy1.out | apply Kd.R_drewN | apply Kd.R_drew)⟩⟩
                · have ipb : (i != (Int.tmod (wrap64 n) 5)) = true := bne_iff_ne.mpr ip
                  obtain ⟨o0, o1⟩ := N3.out i HJ.out.1 CI.out ip
                  have ob : (rd y0 i != rd r0 i) = false := bne_eq_false_iff_eq.mpr o0
                  have oc : ((rd_T52 y1 i).f0 == (rd_T52 r1 i).f0) = true := by rw [o1]; exact beq_self_eq_true _
                  have od : ((rd_T52 y1 i).f1 == (rd_T52 r1 i).f1) = true := by rw [o1]; exact beq_self_eq_true _
                  have oe : ((rd_T52 y1 i).f2 == (rd_T52 r1 i).f2) = true := by rw [o1]; exact beq_self_eq_true _
                  clear o0 o1 ip
                  go_wp2_with fail
                  go_quiet (fail)
                  go_wp2_with fail
                  go_roundg k2
                  case measure => have := HG6.out; omega
                  case rel => exact ⟨i + 1, _, (by rw [wrap64_small (by have := HJ.out; omega) (by have := HJ.out; omega)]), rfl, ⟨by have := HJ.out; have := CI.out; omega⟩, ⟨by have := HG.out; omega⟩, ⟨by have := HG6.out; omega⟩, ⟨by repeat (with_reducible first | exact HBi.out | apply pw_below_drewN | apply below_drew1)⟩, ⟨by repeat (with_reducible first | exact KT.out | refine blk_drewN ?_ _ | refine blk_drew ?_)⟩, ⟨by repeat (with_reducible first | exact KL.out | refine blk_drewN ?_ _ | refine blk_drew ?_)⟩, ⟨by repeat (with_reducible first | exact KE.out | refine blk_drewN ?_ _ | refine blk_drew ?_)⟩, ⟨by repeat (with_reducible first | exact KP.out | refine blk_drewN ?_ _ | refine blk_drew ?_)⟩, ⟨by repeat (with_reducible first | exact Ht0.out | apply Kd.R_drewN | apply Kd.R_drew)⟩, ⟨by repeat (with_reducible first | exact Ht1.out | apply Kd.R_drewN | apply Kd.R_drew)⟩, ⟨by repeat (with_reducible first | exact Ha0.out | apply Kd.R_drewN | apply Kd.R_drew)⟩, ⟨by repeat (with_reducible first | exact Ha1.out | apply Kd.R_drewN | apply Kd.R_drew)⟩, ⟨by repeat (with_reducible first | exact Hb0.out | apply Kd.R_drewN | apply Kd.R_drew)⟩, ⟨by repeat (with_reducible first | exact Hb1.out | apply Kd.R_drewN | apply Kd.R_drew)⟩, ⟨by repeat (with_reducible first | exact Hy0.out | apply Kd.R_drewN | apply Kd.R_drew)⟩, ⟨by repeat (with_reducible first | exact Hy1.out | apply Kd.R_drewN | apply Kd.R_drew)⟩⟩
              · have cib := decide_eq_false ci
                clear ci
                go_wp2_with fail
                go_roundg k1
                case measure => have := HK6.out; omega
                case rel => exact ⟨_, _, rfl, rfl, ⟨by omega⟩, ⟨by have := HK.out; omega⟩, ⟨by have := HK6.out; omega⟩, HBi, KT, KL, KE, KP, Ht0, Ht1, Ha0, Ha1, Hb0, Hb1, Hy0, Hy1⟩
        · have heb : (ey != 0) = true := bne_iff_ne.mpr he
          have hz : ((y0.length : Int) != 0) = false := by have h0 := Q7.out.1 he; rw [h0]; rfl
          clear he
          go_wp2_with fail
          go_roundg k1
          case measure => have := HK6.out; omega
          case rel => exact ⟨_, _, rfl, rfl, ⟨by omega⟩, ⟨by have := HK.out; omega⟩, ⟨by have := HK6.out; omega⟩, HBl, KT, KL, KE, KP, Ht0, Ht1, Ha0, Ha1, Hb0, Hb1, Hy0, Hy1⟩
      · subst hk
        have yT_60 : gT < wl.heap.size := blk_lt KT.out
        have yT_60z0 : (gT = wl.heap.size) = False := eq_false (by omega)
        have yT_60z1 : (wl.heap.size = gT) = False := eq_false (by omega)
        have yT_60z2 : (gT = wl.heap.size + 1) = False := eq_false (by omega)
        have yT_60z3 : (wl.heap.size + 1 = gT) = False := eq_false (by omega)
        have xT_60_0 : wl.cell? ⟨gT, 0, none⟩ = some (.slice (some ad) r0.length ct0) := (blk_cell KT.out 0).trans rfl
        have xT_60_1 : wl.cell? ⟨gT, 1, none⟩ = some (.slice At1 r1.length ct1) := (blk_cell KT.out 1).trans rfl
        go_wp2_with fail
        refine (table_Right.calls 1000 (some ad) ct0 r0 At1 ct1 r1 true _ (Kd.R_reads' Ht0.out).2.2 (Kd.R_reads' Ht0.out).2.1 (Kd.R_reads' Ht1.out).2.2 (Kd.R_reads' Ht1.out).2.1 (Ld.below HL.out (by exact HBl.out)) Q8.out).mono ?_
        rintro e w61 ⟨rfl, hb⟩
        have HB61 := Aside0.mk (below_step HBl.out hb)
        have KT_ := Aside0.mk (blk_below KT.out hb)
        have KL_ := Aside0.mk (blk_below KL.out hb)
        have KE_ := Aside0.mk (blk_below KE.out hb)
        have KP_ := Aside0.mk (blk_below KP.out hb)
        clear KT
        have KT := KT_
        clear KT_
        clear KL
        have KL := KL_
        clear KL_
        clear KE
        have KE := KE_
        clear KE_
        clear KP
        have KP := KP_
        clear KP_
        have Ht0_ := Aside0.mk (Kd.R_below Ht0.out hb)
        clear Ht0
        have Ht0 := Ht0_
        clear Ht0_
        have Ht1_ := Aside0.mk (Kd.R_below Ht1.out hb)
        clear Ht1
        have Ht1 := Ht1_
        clear Ht1_
        have Ha0_ := Aside0.mk (Kd.R_below Ha0.out hb)
        clear Ha0
        have Ha0 := Ha0_
        clear Ha0_
        have Ha1_ := Aside0.mk (Kd.R_below Ha1.out hb)
        clear Ha1
        have Ha1 := Ha1_
        clear Ha1_
        have Hb0_ := Aside0.mk (Kd.R_below Hb0.out hb)
        clear Hb0
        have Hb0 := Hb0_
        clear Hb0_
        have Hb1_ := Aside0.mk (Kd.R_below Hb1.out hb)
        clear Hb1
        have Hb1 := Hb1_
        clear Hb1_
        have Hy0_ := Aside0.mk (Kd.R_below Hy0.out hb)
        clear Hy0
        have Hy0 := Hy0_
        clear Hy0_
        have Hy1_ := Aside0.mk (Kd.R_below Hy1.out hb)
        clear Hy1
        have Hy1 := Hy1_
        clear Hy1_
        clear hb
        try clear yT_60 yT_60z0 yT_60z1 yT_60z2 yT_60z3 xT_60_0 xT_60_1
        go_wp2_with fail
        go_ret
        exact ⟨rfl, HB61.out⟩
end Go.Proofs.YtdchbcpfciljoaaDoor

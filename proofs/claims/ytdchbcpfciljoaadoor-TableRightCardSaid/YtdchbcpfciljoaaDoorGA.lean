/- The function awake of the statements on package table. -/
import Derived.Test.YtdchbcpfciljoaaDoorGH
import Derived.Test.YtdchbcpfciljoaaDoorPrintN
import Derived.Test.YtdchbcpfciljoaaDoorPrintF23
import Derived.Test.YtdchbcpfciljoaaDoorPrintS
namespace Go.Proofs.YtdchbcpfciljoaaDoor.Given
open Go.RowKit Go.Proofs.YtdchbcpfciljoaaDoor Go.Proofs.YtdchbcpfciljoaaDoor.Print Go.Proofs.YtdchbcpfciljoaaDoorW.PrintWords Go.Proofs.YtdchbcpfciljoaaDoorW.PrintMore
set_option linter.unusedVariables false
set_option linter.unusedSimpArgs false
theorem below_trans0 {A B C : World} (h : Below A.heap.size A B) (h2 : Below B.heap.size B C) : Below A.heap.size A C := below_step h h2
def turnspitlaw14_awake.f : Option Bool := some true
set_option maxHeartbeats 8000000 in
set_option maxRecDepth 100000 in
theorem awake_walk (w : World) (HLd : Ld w) (t0 a0 b0 c0 d0 s0 : List Int) (t1 a1 b1 c1 d1 s1 : List S52) (lv : List S27) (k : Nat)
    (e1 : table_New.f 2 = some (t0, t1, 0)) (e2 : table_Create.f t0 t1 4 0 12 = some (a0, a1, 0, 1, 0)) (e3 : table_Create.f a0 a1 4 5 1 = some (b0, b1, 1, 1, 0)) (e4 : table_Create.f b0 b1 4 5 1 = some ([], [], 0, 0, 5)) (e5 : table_Exit.f b0 b1 0 1 = some (c0, c1, 0))
    (e6 : table_Create.f c0 c1 4 5 255 = some (d0, d1, 0, 2, 0)) (e7 : table_Step.f d0 d1 0 2 0 = some (s0, s1, 0)) (e8 : table_Check.f k d0 d1 0 1 = some 6) (e9 : table_Check.f k d0 d1 0 2 = some 0) (e10 : turnspitref06_Kind.f (rdOf 0 s0 0) = some 2) (e11 : table_Live.f k c0 c1 = some lv) (e12 : table_Right.f k d0 d1 = some true)
    (n1 : d1.length = 2) (n2 : s0.length = 2) (n3 : lv.length = 1) (n4 : (d1.getD 0 z52).f1 = 15) :
    Calls Tryd.prog 10 #[] w fun e w' => e = .returned (.bool true) ∧ Below w.heap.size w w' := by
  have HL := Aside0.mk HLd
  clear HLd
  have S1 := Aside0.mk e1
  clear e1
  have S2 := Aside0.mk e2
  clear e2
  have S3 := Aside0.mk e3
  clear e3
  have S4 := Aside0.mk e4
  clear e4
  have S5 := Aside0.mk e5
  clear e5
  have S6 := Aside0.mk e6
  clear e6
  have S7 := Aside0.mk e7
  clear e7
  have S8 := Aside0.mk e8
  clear e8
  have S9 := Aside0.mk e9
  clear e9
  have S10 := Aside0.mk e10
  clear e10
  have S11 := Aside0.mk e11
  clear e11
  have S12 := Aside0.mk e12
  clear e12
  have N1 := Aside0.mk n1
  clear n1
  have N2 := Aside0.mk n2
  clear n2
  have N3 := Aside0.mk n3
  clear n3
  have N4 := Aside0.mk n4
  clear n4
  have d1b : ((d1.length : Int) != 2) = false := by have := N1.out; simp; omega
  have d2b : ((s0.length : Int) != 2) = false := by have := N2.out; simp; omega
  have d3b : ((lv.length : Int) == 1) = true := by have := N3.out; simp; omega
  have hu25 := Tryd.underlying25
  have hu27 := Tryd.underlying27
  have hu52 := Tryd.underlying52
  go_enter Tryd.func10, Tryd.ntmps10
  go_wp2_with fail
  refine (table_New.calls 2 t0 t1 0 _ HL.out S1.out).mono ?_
  rintro e w1 ⟨vt0, vt1, rfl, ho0, ho1, hb⟩
  obtain ⟨At0, ct0, rfl⟩ := Kd.R_slice ho0
  obtain ⟨At1, ct1, rfl⟩ := Kd.R_slice ho1
  have Ht0 := Aside0.mk ho0
  have Ht1 := Aside0.mk ho1
  clear ho0 ho1
  have HB1 := Aside0.mk (below_step (Below.refl w.heap.size w) hb)
  clear hb
  go_wp2_with fail
  refine (table_Create.calls At0 ct0 t0 At1 ct1 t1 4 0 12 a0 a1 0 1 0 _ (Kd.C_below (Kd.R_reads' Ht0.out).2.2 (below_alloc (Below.refl _ _) _)) (Kd.R_reads' Ht0.out).2.1 (Kd.C_below (Kd.R_reads' Ht1.out).2.2 (below_alloc (Below.refl _ _) _)) (Kd.R_reads' Ht1.out).2.1 (Ld.below HL.out (by exact (below_alloc HB1.out _))) S2.out).mono ?_
  rintro e w2 ⟨va0, va1, rfl, ho0, ho1, hb⟩
  obtain ⟨Aa0, ca0, rfl⟩ := Kd.R_slice ho0
  obtain ⟨Aa1, ca1, rfl⟩ := Kd.R_slice ho1
  have Ha0 := Aside0.mk ho0
  have Ha1 := Aside0.mk ho1
  clear ho0 ho1
  have HB2 := Aside0.mk (below_step (below_alloc HB1.out _) hb)
  have Kn_T : (w1.alloc (.cells #[.slice At0 t0.length ct0, .slice At1 t1.length ct1] 25)).heap[w1.heap.size]? = some (.cells #[.slice At0 t0.length ct0, .slice At1 t1.length ct1] 25 (0, 0)) := by have h_ := blk_new w1 (.cells #[.slice At0 t0.length ct0, .slice At1 t1.length ct1] 25); simpa only [World.size_alloc] using h_
  have KT_ := Aside0.mk (blk_below Kn_T hb)
  have KT := KT_
  clear KT_
  clear Kn_T
  have Ht0_ := Aside0.mk (Kd.R_below Ht0.out (below_trans0 (below_alloc (Below.refl _ _) _) hb))
  clear Ht0
  have Ht0 := Ht0_
  clear Ht0_
  have Ht1_ := Aside0.mk (Kd.R_below Ht1.out (below_trans0 (below_alloc (Below.refl _ _) _) hb))
  clear Ht1
  have Ht1 := Ht1_
  clear Ht1_
  clear hb
  generalize hgT : w1.heap.size = gT at KT ⊢
  clear hgT
  try clear KT
  clear Ht0
  clear Ht1
  go_wp2_with fail
  refine (table_Create.calls Aa0 ca0 a0 Aa1 ca1 a1 4 5 1 b0 b1 1 1 0 _ (Kd.C_below (Kd.R_reads' Ha0.out).2.2 (below_alloc (below_alloc (Below.refl _ _) _) _)) (Kd.R_reads' Ha0.out).2.1 (Kd.C_below (Kd.R_reads' Ha1.out).2.2 (below_alloc (below_alloc (Below.refl _ _) _) _)) (Kd.R_reads' Ha1.out).2.1 (Ld.below HL.out (by exact (below_alloc (below_alloc HB2.out _) _))) S3.out).mono ?_
  rintro e w3 ⟨vb0, vb1, rfl, ho0, ho1, hb⟩
  obtain ⟨Ab0, cb0, rfl⟩ := Kd.R_slice ho0
  obtain ⟨Ab1, cb1, rfl⟩ := Kd.R_slice ho1
  have Hb0 := Aside0.mk ho0
  have Hb1 := Aside0.mk ho1
  clear ho0 ho1
  have HB3 := Aside0.mk (below_step (below_alloc (below_alloc HB2.out _) _) hb)
  have Kn_A : (w2.alloc (.cells #[.slice Aa0 a0.length ca0, .slice Aa1 a1.length ca1] 25)).heap[w2.heap.size]? = some (.cells #[.slice Aa0 a0.length ca0, .slice Aa1 a1.length ca1] 25 (0, 0)) := by have h_ := blk_new w2 (.cells #[.slice Aa0 a0.length ca0, .slice Aa1 a1.length ca1] 25); simpa only [World.size_alloc] using h_
  have Kn_X : ((w2.alloc (.cells #[.slice Aa0 a0.length ca0, .slice Aa1 a1.length ca1] 25)).alloc (.cells #[.int .i64 0, .int .i64 1] 27)).heap[w2.heap.size + 1]? = some (.cells #[.int .i64 0, .int .i64 1] 27 (0, 0)) := by have h_ := blk_new (w2.alloc (.cells #[.slice Aa0 a0.length ca0, .slice Aa1 a1.length ca1] 25)) (.cells #[.int .i64 0, .int .i64 1] 27); simpa only [World.size_alloc] using h_
  have KA_ := Aside0.mk (blk_below (blk_alloc Kn_A _) hb)
  have KX_ := Aside0.mk (blk_below Kn_X hb)
  have KA := KA_
  clear KA_
  have KX := KX_
  clear KX_
  clear Kn_A
  clear Kn_X
  have Ha0_ := Aside0.mk (Kd.R_below Ha0.out (below_trans0 (below_alloc (below_alloc (Below.refl _ _) _) _) hb))
  clear Ha0
  have Ha0 := Ha0_
  clear Ha0_
  have Ha1_ := Aside0.mk (Kd.R_below Ha1.out (below_trans0 (below_alloc (below_alloc (Below.refl _ _) _) _) hb))
  clear Ha1
  have Ha1 := Ha1_
  clear Ha1_
  clear hb
  generalize hgX : w2.heap.size + 1 = gX at KX ⊢
  clear hgX
  generalize hgA : w2.heap.size = gA at KA ⊢
  clear hgA
  try clear KA
  clear Ha0
  clear Ha1
  go_wp2_with fail
  refine (table_Create.calls Ab0 cb0 b0 Ab1 cb1 b1 4 5 1 [] [] 0 0 5 _ (Kd.C_below (Kd.R_reads' Hb0.out).2.2 (below_alloc (below_alloc (Below.refl _ _) _) _)) (Kd.R_reads' Hb0.out).2.1 (Kd.C_below (Kd.R_reads' Hb1.out).2.2 (below_alloc (below_alloc (Below.refl _ _) _) _)) (Kd.R_reads' Hb1.out).2.1 (Ld.below HL.out (by exact (below_alloc (below_alloc HB3.out _) _))) S4.out).mono ?_
  rintro e w4 ⟨vf0, vf1, rfl, ho0, ho1, hb⟩
  obtain ⟨Af0, cf0, rfl⟩ := Kd.R_slice ho0
  obtain ⟨Af1, cf1, rfl⟩ := Kd.R_slice ho1
  have Hf0 := Aside0.mk ho0
  have Hf1 := Aside0.mk ho1
  clear ho0 ho1
  have HB4 := Aside0.mk (below_step (below_alloc (below_alloc HB3.out _) _) hb)
  have Kn_B : (w3.alloc (.cells #[.slice Ab0 b0.length cb0, .slice Ab1 b1.length cb1] 25)).heap[w3.heap.size]? = some (.cells #[.slice Ab0 b0.length cb0, .slice Ab1 b1.length cb1] 25 (0, 0)) := by have h_ := blk_new w3 (.cells #[.slice Ab0 b0.length cb0, .slice Ab1 b1.length cb1] 25); simpa only [World.size_alloc] using h_
  have Kn_Y : ((w3.alloc (.cells #[.slice Ab0 b0.length cb0, .slice Ab1 b1.length cb1] 25)).alloc (.cells #[.int .i64 1, .int .i64 1] 27)).heap[w3.heap.size + 1]? = some (.cells #[.int .i64 1, .int .i64 1] 27 (0, 0)) := by have h_ := blk_new (w3.alloc (.cells #[.slice Ab0 b0.length cb0, .slice Ab1 b1.length cb1] 25)) (.cells #[.int .i64 1, .int .i64 1] 27); simpa only [World.size_alloc] using h_
  have KX_ := Aside0.mk (blk_below (blk_alloc (blk_alloc KX.out _) _) hb)
  have KB_ := Aside0.mk (blk_below (blk_alloc Kn_B _) hb)
  have KY_ := Aside0.mk (blk_below Kn_Y hb)
  clear KX
  have KX := KX_
  clear KX_
  have KB := KB_
  clear KB_
  have KY := KY_
  clear KY_
  clear Kn_B
  clear Kn_Y
  have Hb0_ := Aside0.mk (Kd.R_below Hb0.out (below_trans0 (below_alloc (below_alloc (Below.refl _ _) _) _) hb))
  clear Hb0
  have Hb0 := Hb0_
  clear Hb0_
  have Hb1_ := Aside0.mk (Kd.R_below Hb1.out (below_trans0 (below_alloc (below_alloc (Below.refl _ _) _) _) hb))
  clear Hb1
  have Hb1 := Hb1_
  clear Hb1_
  clear hb
  generalize hgY : w3.heap.size + 1 = gY at KY ⊢
  clear hgY
  generalize hgB : w3.heap.size = gB at KB ⊢
  clear hgB
  have yB_4 : gB < w4.heap.size := blk_lt KB.out
  have yB_4z0 : (gB = w4.heap.size) = False := eq_false (by omega)
  have yB_4z1 : (w4.heap.size = gB) = False := eq_false (by omega)
  have yB_4z2 : (gB = w4.heap.size + 1) = False := eq_false (by omega)
  have yB_4z3 : (w4.heap.size + 1 = gB) = False := eq_false (by omega)
  have xB_4_0 : w4.cell? ⟨gB, 0, none⟩ = some (.slice Ab0 b0.length cb0) := (blk_cell KB.out 0).trans rfl
  have xB_4_1 : w4.cell? ⟨gB, 1, none⟩ = some (.slice Ab1 b1.length cb1) := (blk_cell KB.out 1).trans rfl
  have yX_4 : gX < w4.heap.size := blk_lt KX.out
  have yX_4z0 : (gX = w4.heap.size) = False := eq_false (by omega)
  have yX_4z1 : (w4.heap.size = gX) = False := eq_false (by omega)
  have yX_4z2 : (gX = w4.heap.size + 1) = False := eq_false (by omega)
  have yX_4z3 : (w4.heap.size + 1 = gX) = False := eq_false (by omega)
  have xX_4_0 : w4.cell? ⟨gX, 0, none⟩ = some (.int .i64 0) := (blk_cell KX.out 0).trans rfl
  have xX_4_1 : w4.cell? ⟨gX, 1, none⟩ = some (.int .i64 1) := (blk_cell KX.out 1).trans rfl
  clear Hf0
  clear Hf1
  go_wp2_with fail
  refine (table_Exit.calls Ab0 cb0 b0 Ab1 cb1 b1 0 1 c0 c1 0 _ (Kd.C_below (Kd.R_reads' Hb0.out).2.2 (below_alloc (below_alloc (Below.refl _ _) _) _)) (Kd.R_reads' Hb0.out).2.1 (Kd.C_below (Kd.R_reads' Hb1.out).2.2 (below_alloc (below_alloc (Below.refl _ _) _) _)) (Kd.R_reads' Hb1.out).2.1 (Ld.below HL.out (by exact (below_alloc (below_alloc HB4.out _) _))) S5.out).mono ?_
  rintro e w5 ⟨vc0, vc1, rfl, ho0, ho1, hb⟩
  obtain ⟨Ac0, cc0, rfl⟩ := Kd.R_slice ho0
  obtain ⟨Ac1, cc1, rfl⟩ := Kd.R_slice ho1
  have Hc0 := Aside0.mk ho0
  have Hc1 := Aside0.mk ho1
  clear ho0 ho1
  have HB5 := Aside0.mk (below_step (below_alloc (below_alloc HB4.out _) _) hb)
  have Kn_F : (w4.alloc (.cells #[.slice Af0 0 cf0, .slice Af1 0 cf1] 25)).heap[w4.heap.size]? = some (.cells #[.slice Af0 0 cf0, .slice Af1 0 cf1] 25 (0, 0)) := by have h_ := blk_new w4 (.cells #[.slice Af0 0 cf0, .slice Af1 0 cf1] 25); simpa only [World.size_alloc] using h_
  have Kn_G : ((w4.alloc (.cells #[.slice Af0 0 cf0, .slice Af1 0 cf1] 25)).alloc (.cells #[.int .i64 0, .int .i64 0] 27)).heap[w4.heap.size + 1]? = some (.cells #[.int .i64 0, .int .i64 0] 27 (0, 0)) := by have h_ := blk_new (w4.alloc (.cells #[.slice Af0 0 cf0, .slice Af1 0 cf1] 25)) (.cells #[.int .i64 0, .int .i64 0] 27); simpa only [World.size_alloc] using h_
  have KX_ := Aside0.mk (blk_below (blk_alloc (blk_alloc KX.out _) _) hb)
  have KB_ := Aside0.mk (blk_below (blk_alloc (blk_alloc KB.out _) _) hb)
  have KY_ := Aside0.mk (blk_below (blk_alloc (blk_alloc KY.out _) _) hb)
  have KF_ := Aside0.mk (blk_below (blk_alloc Kn_F _) hb)
  have KG_ := Aside0.mk (blk_below Kn_G hb)
  clear KX
  have KX := KX_
  clear KX_
  clear KB
  have KB := KB_
  clear KB_
  clear KY
  have KY := KY_
  clear KY_
  have KF := KF_
  clear KF_
  have KG := KG_
  clear KG_
  clear Kn_F
  clear Kn_G
  have Hb0_ := Aside0.mk (Kd.R_below Hb0.out (below_trans0 (below_alloc (below_alloc (Below.refl _ _) _) _) hb))
  clear Hb0
  have Hb0 := Hb0_
  clear Hb0_
  have Hb1_ := Aside0.mk (Kd.R_below Hb1.out (below_trans0 (below_alloc (below_alloc (Below.refl _ _) _) _) hb))
  clear Hb1
  have Hb1 := Hb1_
  clear Hb1_
  clear hb
  try clear yB_4 yB_4z0 yB_4z1 yB_4z2 yB_4z3 xB_4_0 xB_4_1 yX_4 yX_4z0 yX_4z1 yX_4z2 yX_4z3 xX_4_0 xX_4_1
  generalize hgG : w4.heap.size + 1 = gG at KG ⊢
  clear hgG
  generalize hgF : w4.heap.size = gF at KF ⊢
  clear hgF
  try clear KB
  try clear KF
  try clear KG
  clear Hb0
  clear Hb1
  go_wp2_with fail
  refine (table_Create.calls Ac0 cc0 c0 Ac1 cc1 c1 4 5 255 d0 d1 0 2 0 _ (Kd.C_below (Kd.R_reads' Hc0.out).2.2 (below_alloc (Below.refl _ _) _)) (Kd.R_reads' Hc0.out).2.1 (Kd.C_below (Kd.R_reads' Hc1.out).2.2 (below_alloc (Below.refl _ _) _)) (Kd.R_reads' Hc1.out).2.1 (Ld.below HL.out (by exact (below_alloc HB5.out _))) S6.out).mono ?_
  rintro e w6 ⟨vd0, vd1, rfl, ho0, ho1, hb⟩
  obtain ⟨Ad0, cd0, rfl⟩ := Kd.R_slice ho0
  obtain ⟨Ad1, cd1, rfl⟩ := Kd.R_slice ho1
  have Hd0 := Aside0.mk ho0
  have Hd1 := Aside0.mk ho1
  clear ho0 ho1
  have HB6 := Aside0.mk (below_step (below_alloc HB5.out _) hb)
  have Kn_C : (w5.alloc (.cells #[.slice Ac0 c0.length cc0, .slice Ac1 c1.length cc1] 25)).heap[w5.heap.size]? = some (.cells #[.slice Ac0 c0.length cc0, .slice Ac1 c1.length cc1] 25 (0, 0)) := by have h_ := blk_new w5 (.cells #[.slice Ac0 c0.length cc0, .slice Ac1 c1.length cc1] 25); simpa only [World.size_alloc] using h_
  have KX_ := Aside0.mk (blk_below (blk_alloc KX.out _) hb)
  have KY_ := Aside0.mk (blk_below (blk_alloc KY.out _) hb)
  have KC_ := Aside0.mk (blk_below Kn_C hb)
  clear KX
  have KX := KX_
  clear KX_
  clear KY
  have KY := KY_
  clear KY_
  have KC := KC_
  clear KC_
  clear Kn_C
  have Hc0_ := Aside0.mk (Kd.R_below Hc0.out (below_trans0 (below_alloc (Below.refl _ _) _) hb))
  clear Hc0
  have Hc0 := Hc0_
  clear Hc0_
  have Hc1_ := Aside0.mk (Kd.R_below Hc1.out (below_trans0 (below_alloc (Below.refl _ _) _) hb))
  clear Hc1
  have Hc1 := Hc1_
  clear Hc1_
  clear hb
  generalize hgC : w5.heap.size = gC at KC ⊢
  clear hgC
  go_wp2_with fail
  refine (table_Step.calls Ad0 cd0 d0 Ad1 cd1 d1 0 2 0 s0 s1 0 _ (Kd.C_below (Kd.R_reads' Hd0.out).2.2 (below_alloc (below_alloc (Below.refl _ _) _) _)) (Kd.R_reads' Hd0.out).2.1 (Kd.C_below (Kd.R_reads' Hd1.out).2.2 (below_alloc (below_alloc (Below.refl _ _) _) _)) (Kd.R_reads' Hd1.out).2.1 (Ld.below HL.out (by exact (below_alloc (below_alloc HB6.out _) _))) S7.out).mono ?_
  rintro e w7 ⟨vs0, vs1, rfl, ho0, ho1, hb⟩
  obtain ⟨As0, cs0, rfl⟩ := Kd.R_slice ho0
  obtain ⟨As1, cs1, rfl⟩ := Kd.R_slice ho1
  have Hs0 := Aside0.mk ho0
  have Hs1 := Aside0.mk ho1
  clear ho0 ho1
  have HB7 := Aside0.mk (below_step (below_alloc (below_alloc HB6.out _) _) hb)
  have Kn_D : (w6.alloc (.cells #[.slice Ad0 d0.length cd0, .slice Ad1 d1.length cd1] 25)).heap[w6.heap.size]? = some (.cells #[.slice Ad0 d0.length cd0, .slice Ad1 d1.length cd1] 25 (0, 0)) := by have h_ := blk_new w6 (.cells #[.slice Ad0 d0.length cd0, .slice Ad1 d1.length cd1] 25); simpa only [World.size_alloc] using h_
  have Kn_Z : ((w6.alloc (.cells #[.slice Ad0 d0.length cd0, .slice Ad1 d1.length cd1] 25)).alloc (.cells #[.int .i64 0, .int .i64 2] 27)).heap[w6.heap.size + 1]? = some (.cells #[.int .i64 0, .int .i64 2] 27 (0, 0)) := by have h_ := blk_new (w6.alloc (.cells #[.slice Ad0 d0.length cd0, .slice Ad1 d1.length cd1] 25)) (.cells #[.int .i64 0, .int .i64 2] 27); simpa only [World.size_alloc] using h_
  have KX_ := Aside0.mk (blk_below (blk_alloc (blk_alloc KX.out _) _) hb)
  have KY_ := Aside0.mk (blk_below (blk_alloc (blk_alloc KY.out _) _) hb)
  have KC_ := Aside0.mk (blk_below (blk_alloc (blk_alloc KC.out _) _) hb)
  have KD_ := Aside0.mk (blk_below (blk_alloc Kn_D _) hb)
  have KZ_ := Aside0.mk (blk_below Kn_Z hb)
  clear KX
  have KX := KX_
  clear KX_
  clear KY
  have KY := KY_
  clear KY_
  clear KC
  have KC := KC_
  clear KC_
  have KD := KD_
  clear KD_
  have KZ := KZ_
  clear KZ_
  clear Kn_D
  clear Kn_Z
  have Hc0_ := Aside0.mk (Kd.R_below Hc0.out (below_trans0 (below_alloc (below_alloc (Below.refl _ _) _) _) hb))
  clear Hc0
  have Hc0 := Hc0_
  clear Hc0_
  have Hc1_ := Aside0.mk (Kd.R_below Hc1.out (below_trans0 (below_alloc (below_alloc (Below.refl _ _) _) _) hb))
  clear Hc1
  have Hc1 := Hc1_
  clear Hc1_
  have Hd0_ := Aside0.mk (Kd.R_below Hd0.out (below_trans0 (below_alloc (below_alloc (Below.refl _ _) _) _) hb))
  clear Hd0
  have Hd0 := Hd0_
  clear Hd0_
  have Hd1_ := Aside0.mk (Kd.R_below Hd1.out (below_trans0 (below_alloc (below_alloc (Below.refl _ _) _) _) hb))
  clear Hd1
  have Hd1 := Hd1_
  clear Hd1_
  clear hb
  generalize hgZ : w6.heap.size + 1 = gZ at KZ ⊢
  clear hgZ
  generalize hgD : w6.heap.size = gD at KD ⊢
  clear hgD
  have yD_7 : gD < w7.heap.size := blk_lt KD.out
  have yD_7z0 : (gD = w7.heap.size) = False := eq_false (by omega)
  have yD_7z1 : (w7.heap.size = gD) = False := eq_false (by omega)
  have yD_7z2 : (gD = w7.heap.size + 1) = False := eq_false (by omega)
  have yD_7z3 : (w7.heap.size + 1 = gD) = False := eq_false (by omega)
  have xD_7_0 : w7.cell? ⟨gD, 0, none⟩ = some (.slice Ad0 d0.length cd0) := (blk_cell KD.out 0).trans rfl
  have xD_7_1 : w7.cell? ⟨gD, 1, none⟩ = some (.slice Ad1 d1.length cd1) := (blk_cell KD.out 1).trans rfl
  have yX_7 : gX < w7.heap.size := blk_lt KX.out
  have yX_7z0 : (gX = w7.heap.size) = False := eq_false (by omega)
  have yX_7z1 : (w7.heap.size = gX) = False := eq_false (by omega)
  have yX_7z2 : (gX = w7.heap.size + 1) = False := eq_false (by omega)
  have yX_7z3 : (w7.heap.size + 1 = gX) = False := eq_false (by omega)
  have xX_7_0 : w7.cell? ⟨gX, 0, none⟩ = some (.int .i64 0) := (blk_cell KX.out 0).trans rfl
  have xX_7_1 : w7.cell? ⟨gX, 1, none⟩ = some (.int .i64 1) := (blk_cell KX.out 1).trans rfl
  have yY_7 : gY < w7.heap.size := blk_lt KY.out
  have yY_7z0 : (gY = w7.heap.size) = False := eq_false (by omega)
  have yY_7z1 : (w7.heap.size = gY) = False := eq_false (by omega)
  have yY_7z2 : (gY = w7.heap.size + 1) = False := eq_false (by omega)
  have yY_7z3 : (w7.heap.size + 1 = gY) = False := eq_false (by omega)
  have xY_7_0 : w7.cell? ⟨gY, 0, none⟩ = some (.int .i64 1) := (blk_cell KY.out 0).trans rfl
  have xY_7_1 : w7.cell? ⟨gY, 1, none⟩ = some (.int .i64 1) := (blk_cell KY.out 1).trans rfl
  have yZ_7 : gZ < w7.heap.size := blk_lt KZ.out
  have yZ_7z0 : (gZ = w7.heap.size) = False := eq_false (by omega)
  have yZ_7z1 : (w7.heap.size = gZ) = False := eq_false (by omega)
  have yZ_7z2 : (gZ = w7.heap.size + 1) = False := eq_false (by omega)
  have yZ_7z3 : (w7.heap.size + 1 = gZ) = False := eq_false (by omega)
  have xZ_7_0 : w7.cell? ⟨gZ, 0, none⟩ = some (.int .i64 0) := (blk_cell KZ.out 0).trans rfl
  have xZ_7_1 : w7.cell? ⟨gZ, 1, none⟩ = some (.int .i64 2) := (blk_cell KZ.out 1).trans rfl
  go_wp2_with fail
  refine (table_Check.calls k Ad0 cd0 d0 Ad1 cd1 d1 0 1 6 _ (Kd.C_below (Kd.R_reads' Hd0.out).2.2 (below_alloc (Below.refl _ _) _)) (Kd.R_reads' Hd0.out).2.1 (Kd.C_below (Kd.R_reads' Hd1.out).2.2 (below_alloc (Below.refl _ _) _)) (Kd.R_reads' Hd1.out).2.1 (Ld.below HL.out (by exact (below_alloc HB7.out _))) S8.out).mono ?_
  rintro e w8 ⟨rfl, hb⟩
  have HB8 := Aside0.mk (below_step (below_alloc HB7.out _) hb)
  have Kn_S : (w7.alloc (.cells #[.slice As0 s0.length cs0, .slice As1 s1.length cs1] 25)).heap[w7.heap.size]? = some (.cells #[.slice As0 s0.length cs0, .slice As1 s1.length cs1] 25 (0, 0)) := by have h_ := blk_new w7 (.cells #[.slice As0 s0.length cs0, .slice As1 s1.length cs1] 25); simpa only [World.size_alloc] using h_
  have KX_ := Aside0.mk (blk_below (blk_alloc KX.out _) hb)
  have KY_ := Aside0.mk (blk_below (blk_alloc KY.out _) hb)
  have KC_ := Aside0.mk (blk_below (blk_alloc KC.out _) hb)
  have KD_ := Aside0.mk (blk_below (blk_alloc KD.out _) hb)
  have KZ_ := Aside0.mk (blk_below (blk_alloc KZ.out _) hb)
  have KS_ := Aside0.mk (blk_below Kn_S hb)
  clear KX
  have KX := KX_
  clear KX_
  clear KY
  have KY := KY_
  clear KY_
  clear KC
  have KC := KC_
  clear KC_
  clear KD
  have KD := KD_
  clear KD_
  clear KZ
  have KZ := KZ_
  clear KZ_
  have KS := KS_
  clear KS_
  clear Kn_S
  have Hc0_ := Aside0.mk (Kd.R_below Hc0.out (below_trans0 (below_alloc (Below.refl _ _) _) hb))
  clear Hc0
  have Hc0 := Hc0_
  clear Hc0_
  have Hc1_ := Aside0.mk (Kd.R_below Hc1.out (below_trans0 (below_alloc (Below.refl _ _) _) hb))
  clear Hc1
  have Hc1 := Hc1_
  clear Hc1_
  have Hd0_ := Aside0.mk (Kd.R_below Hd0.out (below_trans0 (below_alloc (Below.refl _ _) _) hb))
  clear Hd0
  have Hd0 := Hd0_
  clear Hd0_
  have Hd1_ := Aside0.mk (Kd.R_below Hd1.out (below_trans0 (below_alloc (Below.refl _ _) _) hb))
  clear Hd1
  have Hd1 := Hd1_
  clear Hd1_
  have Hs0_ := Aside0.mk (Kd.R_below Hs0.out (below_trans0 (below_alloc (Below.refl _ _) _) hb))
  clear Hs0
  have Hs0 := Hs0_
  clear Hs0_
  have Hs1_ := Aside0.mk (Kd.R_below Hs1.out (below_trans0 (below_alloc (Below.refl _ _) _) hb))
  clear Hs1
  have Hs1 := Hs1_
  clear Hs1_
  clear hb
  try clear yD_7 yD_7z0 yD_7z1 yD_7z2 yD_7z3 xD_7_0 xD_7_1 yX_7 yX_7z0 yX_7z1 yX_7z2 yX_7z3 xX_7_0 xX_7_1 yY_7 yY_7z0 yY_7z1 yY_7z2 yY_7z3 xY_7_0 xY_7_1 yZ_7 yZ_7z0 yZ_7z1 yZ_7z2 yZ_7z3 xZ_7_0 xZ_7_1
  generalize hgS : w7.heap.size = gS at KS ⊢
  clear hgS
  have yD_8 : gD < w8.heap.size := blk_lt KD.out
  have yD_8z0 : (gD = w8.heap.size) = False := eq_false (by omega)
  have yD_8z1 : (w8.heap.size = gD) = False := eq_false (by omega)
  have yD_8z2 : (gD = w8.heap.size + 1) = False := eq_false (by omega)
  have yD_8z3 : (w8.heap.size + 1 = gD) = False := eq_false (by omega)
  have xD_8_0 : w8.cell? ⟨gD, 0, none⟩ = some (.slice Ad0 d0.length cd0) := (blk_cell KD.out 0).trans rfl
  have xD_8_1 : w8.cell? ⟨gD, 1, none⟩ = some (.slice Ad1 d1.length cd1) := (blk_cell KD.out 1).trans rfl
  have yZ_8 : gZ < w8.heap.size := blk_lt KZ.out
  have yZ_8z0 : (gZ = w8.heap.size) = False := eq_false (by omega)
  have yZ_8z1 : (w8.heap.size = gZ) = False := eq_false (by omega)
  have yZ_8z2 : (gZ = w8.heap.size + 1) = False := eq_false (by omega)
  have yZ_8z3 : (w8.heap.size + 1 = gZ) = False := eq_false (by omega)
  have xZ_8_0 : w8.cell? ⟨gZ, 0, none⟩ = some (.int .i64 0) := (blk_cell KZ.out 0).trans rfl
  have xZ_8_1 : w8.cell? ⟨gZ, 1, none⟩ = some (.int .i64 2) := (blk_cell KZ.out 1).trans rfl
  go_wp2_with fail
  refine (table_Check.calls k Ad0 cd0 d0 Ad1 cd1 d1 0 2 0 _ (Kd.R_reads' Hd0.out).2.2 (Kd.R_reads' Hd0.out).2.1 (Kd.R_reads' Hd1.out).2.2 (Kd.R_reads' Hd1.out).2.1 (Ld.below HL.out (by exact HB8.out)) S9.out).mono ?_
  rintro e w9 ⟨rfl, hb⟩
  have HB9 := Aside0.mk (below_step HB8.out hb)
  have KX_ := Aside0.mk (blk_below KX.out hb)
  have KY_ := Aside0.mk (blk_below KY.out hb)
  have KC_ := Aside0.mk (blk_below KC.out hb)
  have KD_ := Aside0.mk (blk_below KD.out hb)
  have KZ_ := Aside0.mk (blk_below KZ.out hb)
  have KS_ := Aside0.mk (blk_below KS.out hb)
  clear KX
  have KX := KX_
  clear KX_
  clear KY
  have KY := KY_
  clear KY_
  clear KC
  have KC := KC_
  clear KC_
  clear KD
  have KD := KD_
  clear KD_
  clear KZ
  have KZ := KZ_
  clear KZ_
  clear KS
  have KS := KS_
  clear KS_
  have Hc0_ := Aside0.mk (Kd.R_below Hc0.out hb)
  clear Hc0
  have Hc0 := Hc0_
  clear Hc0_
  have Hc1_ := Aside0.mk (Kd.R_below Hc1.out hb)
  clear Hc1
  have Hc1 := Hc1_
  clear Hc1_
  have Hd0_ := Aside0.mk (Kd.R_below Hd0.out hb)
  clear Hd0
  have Hd0 := Hd0_
  clear Hd0_
  have Hd1_ := Aside0.mk (Kd.R_below Hd1.out hb)
  clear Hd1
  have Hd1 := Hd1_
  clear Hd1_
  have Hs0_ := Aside0.mk (Kd.R_below Hs0.out hb)
  clear Hs0
  have Hs0 := Hs0_
  clear Hs0_
  have Hs1_ := Aside0.mk (Kd.R_below Hs1.out hb)
  clear Hs1
  have Hs1 := Hs1_
  clear Hs1_
  clear hb
  try clear yD_8 yD_8z0 yD_8z1 yD_8z2 yD_8z3 xD_8_0 xD_8_1 yZ_8 yZ_8z0 yZ_8z1 yZ_8z2 yZ_8z3 xZ_8_0 xZ_8_1
  have yD_9 : gD < w9.heap.size := blk_lt KD.out
  have yD_9z0 : (gD = w9.heap.size) = False := eq_false (by omega)
  have yD_9z1 : (w9.heap.size = gD) = False := eq_false (by omega)
  have yD_9z2 : (gD = w9.heap.size + 1) = False := eq_false (by omega)
  have yD_9z3 : (w9.heap.size + 1 = gD) = False := eq_false (by omega)
  have xD_9_0 : w9.cell? ⟨gD, 0, none⟩ = some (.slice Ad0 d0.length cd0) := (blk_cell KD.out 0).trans rfl
  have xD_9_1 : w9.cell? ⟨gD, 1, none⟩ = some (.slice Ad1 d1.length cd1) := (blk_cell KD.out 1).trans rfl
  have yS_9 : gS < w9.heap.size := blk_lt KS.out
  have yS_9z0 : (gS = w9.heap.size) = False := eq_false (by omega)
  have yS_9z1 : (w9.heap.size = gS) = False := eq_false (by omega)
  have yS_9z2 : (gS = w9.heap.size + 1) = False := eq_false (by omega)
  have yS_9z3 : (w9.heap.size + 1 = gS) = False := eq_false (by omega)
  have xS_9_0 : w9.cell? ⟨gS, 0, none⟩ = some (.slice As0 s0.length cs0) := (blk_cell KS.out 0).trans rfl
  have xS_9_1 : w9.cell? ⟨gS, 1, none⟩ = some (.slice As1 s1.length cs1) := (blk_cell KS.out 1).trans rfl
  obtain ⟨gd, cgd, eg1, _, _, _, _⟩ := Kd.R_form Hd1.out (by have := N1.out; omega)
  injection eg1 with ea1 eb1 ec1
  subst ea1 ec1
  clear eb1
  obtain ⟨gs, cgs, es1, _, _, _, _⟩ := Kd.R_form Hs0.out (by have := N2.out; omega)
  injection es1 with fa1 fb1 fc1
  subst fa1 fc1
  clear fb1
  have q1 : ((0 : Int) < (d1.length : Int)) = True := eq_true (by have := N1.out; omega)
  have q2 : ((0 : Int) < (s0.length : Int)) = True := eq_true (by have := N2.out; omega)
  have q3 : 0 < s0.length := by have := N2.out; omega
  have q4 : 0 < d1.length := by have := N1.out; omega
  have hs1 : w9.cell? ⟨gs, 0, none⟩ = some (.int .u64 (rdOf 0 s0 0)) := (Kd.R_celln (n := s0.length) 0 Hs0.out 0 (Int.le_refl 0) (of_eq_true q2)).1
  have hd1 : w9.cell? ⟨gd, 1, none⟩ = some (.int .u64 15) := by
    obtain ⟨c_, hcl_, hM_, hcc_, hfr_⟩ := Kd.R_elem Hd1.out z52 0 (Int.le_refl 0) (of_eq_true q1)
    obtain rfl := k52_openM hM_
    have h_ := hcc_ 1 _ rfl
    have e_ := N4.out
    simp only [Int.toNat_zero] at h_
    rw [e_] at h_
    exact h_
  go_wp2_with fail
  refine (turnspitref06_Kind.calls (rdOf 0 s0 0) 2 _ S10.out).mono ?_
  rintro e w10 ⟨rfl, hd⟩
  have hb := Drawn0.below hd
  clear hd
  have HB10 := Aside0.mk (below_step HB9.out hb)
  have KX_ := Aside0.mk (blk_below KX.out hb)
  have KY_ := Aside0.mk (blk_below KY.out hb)
  have KC_ := Aside0.mk (blk_below KC.out hb)
  have KD_ := Aside0.mk (blk_below KD.out hb)
  have KZ_ := Aside0.mk (blk_below KZ.out hb)
  have KS_ := Aside0.mk (blk_below KS.out hb)
  clear KX
  have KX := KX_
  clear KX_
  clear KY
  have KY := KY_
  clear KY_
  clear KC
  have KC := KC_
  clear KC_
  clear KD
  have KD := KD_
  clear KD_
  clear KZ
  have KZ := KZ_
  clear KZ_
  clear KS
  have KS := KS_
  clear KS_
  have Hc0_ := Aside0.mk (Kd.R_below Hc0.out hb)
  clear Hc0
  have Hc0 := Hc0_
  clear Hc0_
  have Hc1_ := Aside0.mk (Kd.R_below Hc1.out hb)
  clear Hc1
  have Hc1 := Hc1_
  clear Hc1_
  have Hd0_ := Aside0.mk (Kd.R_below Hd0.out hb)
  clear Hd0
  have Hd0 := Hd0_
  clear Hd0_
  have Hd1_ := Aside0.mk (Kd.R_below Hd1.out hb)
  clear Hd1
  have Hd1 := Hd1_
  clear Hd1_
  clear hb
  try clear yD_9 yD_9z0 yD_9z1 yD_9z2 yD_9z3 xD_9_0 xD_9_1 yS_9 yS_9z0 yS_9z1 yS_9z2 yS_9z3 xS_9_0 xS_9_1
  have yC_10 : gC < w10.heap.size := blk_lt KC.out
  have yC_10z0 : (gC = w10.heap.size) = False := eq_false (by omega)
  have yC_10z1 : (w10.heap.size = gC) = False := eq_false (by omega)
  have yC_10z2 : (gC = w10.heap.size + 1) = False := eq_false (by omega)
  have yC_10z3 : (w10.heap.size + 1 = gC) = False := eq_false (by omega)
  have xC_10_0 : w10.cell? ⟨gC, 0, none⟩ = some (.slice Ac0 c0.length cc0) := (blk_cell KC.out 0).trans rfl
  have xC_10_1 : w10.cell? ⟨gC, 1, none⟩ = some (.slice Ac1 c1.length cc1) := (blk_cell KC.out 1).trans rfl
  have yD_10 : gD < w10.heap.size := blk_lt KD.out
  have yD_10z0 : (gD = w10.heap.size) = False := eq_false (by omega)
  have yD_10z1 : (w10.heap.size = gD) = False := eq_false (by omega)
  have yD_10z2 : (gD = w10.heap.size + 1) = False := eq_false (by omega)
  have yD_10z3 : (w10.heap.size + 1 = gD) = False := eq_false (by omega)
  have xD_10_0 : w10.cell? ⟨gD, 0, none⟩ = some (.slice Ad0 d0.length cd0) := (blk_cell KD.out 0).trans rfl
  have xD_10_1 : w10.cell? ⟨gD, 1, none⟩ = some (.slice (some ⟨gd, 0, none⟩) d1.length cd1) := (blk_cell KD.out 1).trans rfl
  go_wp2_with fail
  refine (table_Live.calls k Ac0 cc0 c0 Ac1 cc1 c1 lv _ (Kd.R_reads' Hc0.out).2.2 (Kd.R_reads' Hc0.out).2.1 (Kd.R_reads' Hc1.out).2.2 (Kd.R_reads' Hc1.out).2.1 (Ld.below HL.out (by exact HB10.out)) S11.out).mono ?_
  rintro e w11 ⟨vl, rfl, hol, hb⟩
  obtain ⟨Al, cl, rfl⟩ := Kd.R_slice hol
  clear hol
  have HB11 := Aside0.mk (below_step HB10.out hb)
  have KX_ := Aside0.mk (blk_below KX.out hb)
  have KY_ := Aside0.mk (blk_below KY.out hb)
  have KC_ := Aside0.mk (blk_below KC.out hb)
  have KD_ := Aside0.mk (blk_below KD.out hb)
  have KZ_ := Aside0.mk (blk_below KZ.out hb)
  have KS_ := Aside0.mk (blk_below KS.out hb)
  clear KX
  have KX := KX_
  clear KX_
  clear KY
  have KY := KY_
  clear KY_
  clear KC
  have KC := KC_
  clear KC_
  clear KD
  have KD := KD_
  clear KD_
  clear KZ
  have KZ := KZ_
  clear KZ_
  clear KS
  have KS := KS_
  clear KS_
  have Hc0_ := Aside0.mk (Kd.R_below Hc0.out hb)
  clear Hc0
  have Hc0 := Hc0_
  clear Hc0_
  have Hc1_ := Aside0.mk (Kd.R_below Hc1.out hb)
  clear Hc1
  have Hc1 := Hc1_
  clear Hc1_
  have Hd0_ := Aside0.mk (Kd.R_below Hd0.out hb)
  clear Hd0
  have Hd0 := Hd0_
  clear Hd0_
  have Hd1_ := Aside0.mk (Kd.R_below Hd1.out hb)
  clear Hd1
  have Hd1 := Hd1_
  clear Hd1_
  clear hb
  try clear yC_10 yC_10z0 yC_10z1 yC_10z2 yC_10z3 xC_10_0 xC_10_1 yD_10 yD_10z0 yD_10z1 yD_10z2 yD_10z3 xD_10_0 xD_10_1
  have yD_11 : gD < w11.heap.size := blk_lt KD.out
  have yD_11z0 : (gD = w11.heap.size) = False := eq_false (by omega)
  have yD_11z1 : (w11.heap.size = gD) = False := eq_false (by omega)
  have yD_11z2 : (gD = w11.heap.size + 1) = False := eq_false (by omega)
  have yD_11z3 : (w11.heap.size + 1 = gD) = False := eq_false (by omega)
  have xD_11_0 : w11.cell? ⟨gD, 0, none⟩ = some (.slice Ad0 d0.length cd0) := (blk_cell KD.out 0).trans rfl
  have xD_11_1 : w11.cell? ⟨gD, 1, none⟩ = some (.slice (some ⟨gd, 0, none⟩) d1.length cd1) := (blk_cell KD.out 1).trans rfl
  go_wp2_with fail
  refine (table_Right.calls k Ad0 cd0 d0 (some ⟨gd, 0, none⟩) cd1 d1 true _ (Kd.R_reads' Hd0.out).2.2 (Kd.R_reads' Hd0.out).2.1 (Kd.R_reads' Hd1.out).2.2 (Kd.R_reads' Hd1.out).2.1 (Ld.below HL.out (by exact HB11.out)) S12.out).mono ?_
  rintro e w12 ⟨rfl, hb⟩
  have HB12 := Aside0.mk (below_step HB11.out hb)
  have KX_ := Aside0.mk (blk_below KX.out hb)
  have KY_ := Aside0.mk (blk_below KY.out hb)
  have KC_ := Aside0.mk (blk_below KC.out hb)
  have KD_ := Aside0.mk (blk_below KD.out hb)
  have KZ_ := Aside0.mk (blk_below KZ.out hb)
  have KS_ := Aside0.mk (blk_below KS.out hb)
  clear KX
  have KX := KX_
  clear KX_
  clear KY
  have KY := KY_
  clear KY_
  clear KC
  have KC := KC_
  clear KC_
  clear KD
  have KD := KD_
  clear KD_
  clear KZ
  have KZ := KZ_
  clear KZ_
  clear KS
  have KS := KS_
  clear KS_
  have Hc0_ := Aside0.mk (Kd.R_below Hc0.out hb)
  clear Hc0
  have Hc0 := Hc0_
  clear Hc0_
  have Hc1_ := Aside0.mk (Kd.R_below Hc1.out hb)
  clear Hc1
  have Hc1 := Hc1_
  clear Hc1_
  have Hd0_ := Aside0.mk (Kd.R_below Hd0.out hb)
  clear Hd0
  have Hd0 := Hd0_
  clear Hd0_
  have Hd1_ := Aside0.mk (Kd.R_below Hd1.out hb)
  clear Hd1
  have Hd1 := Hd1_
  clear Hd1_
  clear hb
  try clear yD_11 yD_11z0 yD_11z1 yD_11z2 yD_11z3 xD_11_0 xD_11_1
  go_wp2_with fail
  go_ret
  exact ⟨rfl, by repeat (first | exact HB12.out | apply below_alloc | apply pw_below_drewN)⟩
theorem turnspitlaw14_awake.calls (r : Bool) (w : World) (HLd : Ld w) (h : turnspitlaw14_awake.f = some r) : Calls Tryd.prog 10 #[] w fun e w' => e = .returned (.bool r) ∧ Below w.heap.size w w' := by
  obtain rfl := Option.some.inj h
  refine awake_walk w HLd [0, 0] [67108881, 0] [67108881, 67108865] [67108864, 67108865] [134217729, 67108865] [134218754, 67108865] [z52, z52] [⟨0, 12, 0⟩, z52] [⟨0, 12, 0⟩, ⟨5, 1, 0⟩] [z52, ⟨5, 1, 0⟩] [⟨5, 15, 0⟩, ⟨5, 1, 0⟩] [⟨5, 15, 0⟩, ⟨5, 1, 0⟩] [⟨1, 1⟩] 100 (by kernel_rfl) (by kernel_rfl) (by kernel_rfl) (by kernel_rfl) (by kernel_rfl) (by kernel_rfl) (by kernel_rfl) (by kernel_rfl) (by kernel_rfl) (by kernel_rfl) (by kernel_rfl) (by kernel_rfl) rfl rfl rfl rfl
end Go.Proofs.YtdchbcpfciljoaaDoor.Given

/- The function told of the statements on package table: the walk. -/
import Derived.Test.YtdchbcpfciljoaaDoorGA
import Derived.Test.YtdchbcpfciljoaaDoorPrintF14
import Derived.Test.YtdchbcpfciljoaaDoorPrintF27
import Derived.Test.YtdchbcpfciljoaaDoorPrintF28
import Derived.Test.YtdchbcpfciljoaaDoorPrintF29
import Derived.Test.YtdchbcpfciljoaaDoorPrintF20
import Derived.Test.YtdchbcpfciljoaaDoorPrintF21
import Derived.Test.YtdchbcpfciljoaaDoorPrintF22
import Derived.Test.YtdchbcpfciljoaaDoorPrintF23
import Derived.Test.YtdchbcpfciljoaaDoorPrintF24
import Derived.Test.YtdchbcpfciljoaaDoorPrintF30
import Derived.Test.YtdchbcpfciljoaaDoorPrintF31
import Derived.Test.YtdchbcpfciljoaaDoorPureTold
namespace Go.Proofs.YtdchbcpfciljoaaDoor.Given
open Go.RowKit Go.Proofs.YtdchbcpfciljoaaDoor Go.Proofs.YtdchbcpfciljoaaDoor.Given Go.Proofs.YtdchbcpfciljoaaDoor.Print Go.Proofs.YtdchbcpfciljoaaDoorW.PrintWords Go.Proofs.YtdchbcpfciljoaaDoorW.PrintLast Go.Proofs.YtdchbcpfciljoaaDoorW.PrintMore
attribute [local go_sem] max2_int min2_int max_two min_two max_three min_three max_four min_four
set_option linter.unusedVariables false
set_option linter.unusedSimpArgs false
def turnspitlaw14_told.T9 : Bool × List (List Nat × List Nat) := (true, [([], []), ([0], [0]), ([1], [1]), ([], []), ([3], [3]), ([4, 2], [4]), ([2, 5], [2, 5]), ([6, 5], [6]), ([7], [7]), ([8, 7], [7, 8]), ([7], [7]), ([10, 7], [7, 10]), ([9, 11, 7, 7], [7, 9, 11]), ([7], [7]), ([13, 7], [7, 13]), ([7], [7]), ([15, 7], [7, 15]), ([14, 16, 12, 7], [7, 14, 16]), ([12, 17, 7], [7, 12, 17]), ([7, 18], [7, 18]), ([19, 17], [19]), ([20], [20]), ([21, 20], [20, 21]), ([22, 20, 20], [20, 22]), ([20], [20]), ([24, 20], [20, 24]), ([25, 23, 20], [20, 25]), ([23, 26, 26, 20], [20, 23, 26]), ([20, 27], [20, 27]), ([28, 27, 0, 1, 2, 3, 4, 5, 6, 7, 8, 9, 10, 11, 12, 13, 14, 15, 16, 17, 18, 19, 20, 21, 22, 23, 24, 25, 26, 27, 28], [28])])
def turnspitlaw14_told.B9 : List Nat := [0, 1, 3, 0, 8, 31, 63, 127, 255, 511, 255, 1279, 4095, 255, 8447, 255, 33023, 131071, 262143, 524287, 1048575, 2097151, 4194303, 8388607, 2097151, 18874367, 67108863, 134217727, 268435455, 536870911]
theorem turnspitlaw14_told.tab9 : rtab .any (opsOf Tryd.f11 9) = turnspitlaw14_told.T9 := by kernel_rfl
theorem turnspitlaw14_told.bits9 : waitsOk turnspitlaw14_told.T9.2 turnspitlaw14_told.B9 = true := by kernel_rfl
set_option maxHeartbeats 8000000 in
set_option maxRecDepth 100000 in
theorem told_walk (k : Nat) (A0_0 : Option Addr) (c0_0 : Nat) (l0_0 : List Int) (A0_1 : Option Addr) (c0_1 : Nat) (l0_1 : List (S52)) (a0_2 : Int) (a0_3 : Int) (a0_4 : Int) (a0_5 : Int) (a0_6 : Int) (a0_7 : Int) (w : World) (hr0_0 : Kd.C (Kd.int .u64) w A0_0 l0_0.length l0_0) (hc0_0 : l0_0.length ≤ c0_0) (hr0_1 : Kd.C k52 w A0_1 l0_1.length l0_1) (hc0_1 : l0_1.length ≤ c0_1) (HLd : Ld w)
    (C0 X0 S0 : List Int) (C1 X1 S1 : List S52) (h1 h2 h3 x3 s3 t281 : Int) (t279 : Bool) (t283 : List S27)
    (e1 : table_Create.f l0_0 l0_1 a0_4 a0_5 a0_6 = some (C0, C1, h1, h2, h3)) (e2 : turnspitref14_Create.f k l0_0 l0_1 a0_4 a0_5 a0_6 = some (C0, C1, h1, h2, h3)) (e3 : table_Exit.f l0_0 l0_1 a0_2 a0_3 = some (X0, X1, x3)) (e4 : turnspitref14_Exit.f k l0_0 l0_1 a0_2 a0_3 = some (X0, X1, x3))
    (e5 : table_Step.f l0_0 l0_1 a0_2 a0_7 a0_4 = some (S0, S1, s3)) (e6 : turnspitref14_Step.f k l0_0 l0_1 a0_2 a0_7 a0_4 = some (S0, S1, s3)) (e7 : turnspitref14_Same.f k C0 C1 C0 C1 = some true) (e8 : turnspitref14_Same.f k X0 X1 X0 X1 = some true) (e9 : turnspitref14_Same.f k S0 S1 S0 S1 = some true)
    (A20 : table_Right.f k l0_0 l0_1 = some t279) (A30 : turnspitref14_Right.f k l0_0 l0_1 = some t279) (A50 : table_Check.f k l0_0 l0_1 a0_2 a0_3 = some t281) (A60 : turnspitref14_Check.f k l0_0 l0_1 a0_2 a0_3 = some t281) (A80 : table_Live.f k l0_0 l0_1 = some t283) (A90 : turnspitref14_Live.f k l0_0 l0_1 = some t283) (A100 : turnspitref14_Handles.f k t283 t283 = some true) :
    Calls Tryd.prog 11 #[.agg #[.slice A0_0 l0_0.length c0_0, .slice A0_1 l0_1.length c0_1, .int .i64 a0_2, .int .i64 a0_3, .int .i64 a0_4, .int .i64 a0_5, .int .u64 a0_6, .int .i64 a0_7]] w fun e w' => e = .returned (.bool true) ∧ Below w.heap.size w w' := by
  have HL := Aside0.mk HLd
  have E1 := Aside0.mk e1
  clear e1
  have E2 := Aside0.mk e2
  clear e2
  have E3 := Aside0.mk e3
  clear e3
  have E4 := Aside0.mk e4
  clear e4
  have E5 := Aside0.mk e5
  clear e5
  have E6 := Aside0.mk e6
  clear e6
  have E7 := Aside0.mk e7
  clear e7
  have E8 := Aside0.mk e8
  clear e8
  have E9 := Aside0.mk e9
  clear e9
  have A2 := Aside0.mk A20
  clear A20
  have A3 := Aside0.mk A30
  clear A30
  have A5 := Aside0.mk A50
  clear A50
  have A6 := Aside0.mk A60
  clear A60
  have A8 := Aside0.mk A80
  clear A80
  have A9 := Aside0.mk A90
  clear A90
  have A10 := Aside0.mk A100
  clear A100
  have hu30 := Tryd.underlying30
  have hu25 := Tryd.underlying25
  have hu27 := Tryd.underlying27
  have HR0_0 := Aside0.mk hr0_0
  have HC0_0 := Aside0.mk hc0_0
  clear hr0_0 hc0_0
  have HR0_1 := Aside0.mk hr0_1
  have HC0_1 := Aside0.mk hc0_1
  clear hr0_1 hc0_1
  have HLD := Aside0.mk HLd
  clear HLd
  go_enter Tryd.func11, Tryd.ntmps11
  go_wp2_with fail
  refine (table_Create.calls A0_0 c0_0 l0_0 A0_1 c0_1 l0_1 a0_4 a0_5 a0_6 C0 C1 h1 h2 h3 _ (Kd.C_below HR0_0.out (below_alloc (Below.refl w.heap.size w) _)) HC0_0.out (Kd.C_below HR0_1.out (below_alloc (Below.refl w.heap.size w) _)) HC0_1.out (Ld.below HL.out (by exact (below_alloc (Below.refl w.heap.size w) _))) E1.out).mono ?_
  rintro e w1 ⟨va0, va1, rfl, ho0, ho1, hb⟩
  obtain ⟨Aa0, ca0, rfl⟩ := Kd.R_slice ho0
  obtain ⟨Aa1, ca1, rfl⟩ := Kd.R_slice ho1
  have Ha0 := Aside0.mk ho0
  have Ha1 := Aside0.mk ho1
  clear ho0 ho1
  have HB1 := Aside0.mk (below_step (below_alloc (Below.refl w.heap.size w) _) hb)
  have Kn_BX : (w.alloc (.cells #[.slice A0_0 l0_0.length c0_0, .slice A0_1 l0_1.length c0_1, .int .i64 a0_2, .int .i64 a0_3, .int .i64 a0_4, .int .i64 a0_5, .int .u64 a0_6, .int .i64 a0_7] 30)).heap[w.heap.size]? = some (.cells #[.slice A0_0 l0_0.length c0_0, .slice A0_1 l0_1.length c0_1, .int .i64 a0_2, .int .i64 a0_3, .int .i64 a0_4, .int .i64 a0_5, .int .u64 a0_6, .int .i64 a0_7] 30 (0, 0)) := by have h_ := blk_new w (.cells #[.slice A0_0 l0_0.length c0_0, .slice A0_1 l0_1.length c0_1, .int .i64 a0_2, .int .i64 a0_3, .int .i64 a0_4, .int .i64 a0_5, .int .u64 a0_6, .int .i64 a0_7] 30); simpa only [World.size_alloc] using h_
  have KBX_ := Aside0.mk (blk_below Kn_BX hb)
  have KBX := KBX_
  clear KBX_
  clear Kn_BX
  clear hb
  generalize hgBX : w.heap.size = gBX at KBX ⊢
  clear hgBX
  have yBX_1 : gBX < w1.heap.size := blk_lt KBX.out
  have yBX_1z0 : (gBX = w1.heap.size) = False := eq_false (by omega)
  have yBX_1z1 : (w1.heap.size = gBX) = False := eq_false (by omega)
  have yBX_1z2 : (gBX = w1.heap.size + 1) = False := eq_false (by omega)
  have yBX_1z3 : (w1.heap.size + 1 = gBX) = False := eq_false (by omega)
  have xBX_1_0 : w1.cell? ⟨gBX, 0, none⟩ = some (.slice A0_0 l0_0.length c0_0) := (blk_cell KBX.out 0).trans rfl
  have xBX_1_1 : w1.cell? ⟨gBX, 1, none⟩ = some (.slice A0_1 l0_1.length c0_1) := (blk_cell KBX.out 1).trans rfl
  have xBX_1_2 : w1.cell? ⟨gBX, 2, none⟩ = some (.int .i64 a0_2) := (blk_cell KBX.out 2).trans rfl
  have xBX_1_3 : w1.cell? ⟨gBX, 3, none⟩ = some (.int .i64 a0_3) := (blk_cell KBX.out 3).trans rfl
  have xBX_1_4 : w1.cell? ⟨gBX, 4, none⟩ = some (.int .i64 a0_4) := (blk_cell KBX.out 4).trans rfl
  have xBX_1_5 : w1.cell? ⟨gBX, 5, none⟩ = some (.int .i64 a0_5) := (blk_cell KBX.out 5).trans rfl
  have xBX_1_6 : w1.cell? ⟨gBX, 6, none⟩ = some (.int .u64 a0_6) := (blk_cell KBX.out 6).trans rfl
  have xBX_1_7 : w1.cell? ⟨gBX, 7, none⟩ = some (.int .i64 a0_7) := (blk_cell KBX.out 7).trans rfl
  go_wp2_with fail
  refine (turnspitref14_Create.calls k A0_0 c0_0 l0_0 A0_1 c0_1 l0_1 a0_4 a0_5 a0_6 C0 C1 h1 h2 h3 _ (Kd.C_below HR0_0.out (below_alloc (below_alloc HB1.out _) _)) HC0_0.out (Kd.C_below HR0_1.out (below_alloc (below_alloc HB1.out _) _)) HC0_1.out (Ld.below HL.out (by exact (below_alloc (below_alloc HB1.out _) _))) E2.out).mono ?_
  rintro e w2 ⟨vb0, vb1, rfl, ho0, ho1, hb⟩
  obtain ⟨Ab0, cb0, rfl⟩ := Kd.R_slice ho0
  obtain ⟨Ab1, cb1, rfl⟩ := Kd.R_slice ho1
  have Hb0 := Aside0.mk ho0
  have Hb1 := Aside0.mk ho1
  clear ho0 ho1
  have HB2 := Aside0.mk (below_step (below_alloc (below_alloc HB1.out _) _) hb)
  have Kn_A_ : (w1.alloc (.cells #[.slice Aa0 C0.length ca0, .slice Aa1 C1.length ca1] 25)).heap[w1.heap.size]? = some (.cells #[.slice Aa0 C0.length ca0, .slice Aa1 C1.length ca1] 25 (0, 0)) := by have h_ := blk_new w1 (.cells #[.slice Aa0 C0.length ca0, .slice Aa1 C1.length ca1] 25); simpa only [World.size_alloc] using h_
  have Kn_Ah : ((w1.alloc (.cells #[.slice Aa0 C0.length ca0, .slice Aa1 C1.length ca1] 25)).alloc (.cells #[.int .i64 h1, .int .i64 h2] 27)).heap[w1.heap.size + 1]? = some (.cells #[.int .i64 h1, .int .i64 h2] 27 (0, 0)) := by have h_ := blk_new (w1.alloc (.cells #[.slice Aa0 C0.length ca0, .slice Aa1 C1.length ca1] 25)) (.cells #[.int .i64 h1, .int .i64 h2] 27); simpa only [World.size_alloc] using h_
  have KBX_ := Aside0.mk (blk_below (blk_alloc (blk_alloc KBX.out _) _) hb)
  have KA__ := Aside0.mk (blk_below (blk_alloc Kn_A_ _) hb)
  have KAh_ := Aside0.mk (blk_below Kn_Ah hb)
  clear KBX
  have KBX := KBX_
  clear KBX_
  have KA_ := KA__
  clear KA__
  have KAh := KAh_
  clear KAh_
  clear Kn_A_
  clear Kn_Ah
  have Ha0_ := Aside0.mk (Kd.R_below Ha0.out (below_trans0 (below_alloc (below_alloc (Below.refl _ _) _) _) hb))
  clear Ha0
  have Ha0 := Ha0_
  clear Ha0_
  have Ha1_ := Aside0.mk (Kd.R_below Ha1.out (below_trans0 (below_alloc (below_alloc (Below.refl _ _) _) _) hb))
  clear Ha1
  have Ha1 := Ha1_
  clear Ha1_
  clear hb
  try clear yBX_1 yBX_1z0 yBX_1z1 yBX_1z2 yBX_1z3 xBX_1_0 xBX_1_1 xBX_1_2 xBX_1_3 xBX_1_4 xBX_1_5 xBX_1_6 xBX_1_7
  generalize hgAh : w1.heap.size + 1 = gAh at KAh ⊢
  clear hgAh
  generalize hgA_ : w1.heap.size = gA_ at KA_ ⊢
  clear hgA_
  have yBX_2 : gBX < w2.heap.size := blk_lt KBX.out
  have yBX_2z0 : (gBX = w2.heap.size) = False := eq_false (by omega)
  have yBX_2z1 : (w2.heap.size = gBX) = False := eq_false (by omega)
  have yBX_2z2 : (gBX = w2.heap.size + 1) = False := eq_false (by omega)
  have yBX_2z3 : (w2.heap.size + 1 = gBX) = False := eq_false (by omega)
  have xBX_2_0 : w2.cell? ⟨gBX, 0, none⟩ = some (.slice A0_0 l0_0.length c0_0) := (blk_cell KBX.out 0).trans rfl
  have xBX_2_1 : w2.cell? ⟨gBX, 1, none⟩ = some (.slice A0_1 l0_1.length c0_1) := (blk_cell KBX.out 1).trans rfl
  have xBX_2_2 : w2.cell? ⟨gBX, 2, none⟩ = some (.int .i64 a0_2) := (blk_cell KBX.out 2).trans rfl
  have xBX_2_3 : w2.cell? ⟨gBX, 3, none⟩ = some (.int .i64 a0_3) := (blk_cell KBX.out 3).trans rfl
  have xBX_2_4 : w2.cell? ⟨gBX, 4, none⟩ = some (.int .i64 a0_4) := (blk_cell KBX.out 4).trans rfl
  have xBX_2_5 : w2.cell? ⟨gBX, 5, none⟩ = some (.int .i64 a0_5) := (blk_cell KBX.out 5).trans rfl
  have xBX_2_6 : w2.cell? ⟨gBX, 6, none⟩ = some (.int .u64 a0_6) := (blk_cell KBX.out 6).trans rfl
  have xBX_2_7 : w2.cell? ⟨gBX, 7, none⟩ = some (.int .i64 a0_7) := (blk_cell KBX.out 7).trans rfl
  go_wp2_with fail
  refine (table_Exit.calls A0_0 c0_0 l0_0 A0_1 c0_1 l0_1 a0_2 a0_3 X0 X1 x3 _ (Kd.C_below HR0_0.out (below_alloc (below_alloc HB2.out _) _)) HC0_0.out (Kd.C_below HR0_1.out (below_alloc (below_alloc HB2.out _) _)) HC0_1.out (Ld.below HL.out (by exact (below_alloc (below_alloc HB2.out _) _))) E3.out).mono ?_
  rintro e w3 ⟨vc0, vc1, rfl, ho0, ho1, hb⟩
  obtain ⟨Ac0, cc0, rfl⟩ := Kd.R_slice ho0
  obtain ⟨Ac1, cc1, rfl⟩ := Kd.R_slice ho1
  have Hc0 := Aside0.mk ho0
  have Hc1 := Aside0.mk ho1
  clear ho0 ho1
  have HB3 := Aside0.mk (below_step (below_alloc (below_alloc HB2.out _) _) hb)
  have Kn_B_ : (w2.alloc (.cells #[.slice Ab0 C0.length cb0, .slice Ab1 C1.length cb1] 25)).heap[w2.heap.size]? = some (.cells #[.slice Ab0 C0.length cb0, .slice Ab1 C1.length cb1] 25 (0, 0)) := by have h_ := blk_new w2 (.cells #[.slice Ab0 C0.length cb0, .slice Ab1 C1.length cb1] 25); simpa only [World.size_alloc] using h_
  have Kn_Bh : ((w2.alloc (.cells #[.slice Ab0 C0.length cb0, .slice Ab1 C1.length cb1] 25)).alloc (.cells #[.int .i64 h1, .int .i64 h2] 27)).heap[w2.heap.size + 1]? = some (.cells #[.int .i64 h1, .int .i64 h2] 27 (0, 0)) := by have h_ := blk_new (w2.alloc (.cells #[.slice Ab0 C0.length cb0, .slice Ab1 C1.length cb1] 25)) (.cells #[.int .i64 h1, .int .i64 h2] 27); simpa only [World.size_alloc] using h_
  have KBX_ := Aside0.mk (blk_below (blk_alloc (blk_alloc KBX.out _) _) hb)
  have KA__ := Aside0.mk (blk_below (blk_alloc (blk_alloc KA_.out _) _) hb)
  have KAh_ := Aside0.mk (blk_below (blk_alloc (blk_alloc KAh.out _) _) hb)
  have KB__ := Aside0.mk (blk_below (blk_alloc Kn_B_ _) hb)
  have KBh_ := Aside0.mk (blk_below Kn_Bh hb)
  clear KBX
  have KBX := KBX_
  clear KBX_
  clear KA_
  have KA_ := KA__
  clear KA__
  clear KAh
  have KAh := KAh_
  clear KAh_
  have KB_ := KB__
  clear KB__
  have KBh := KBh_
  clear KBh_
  clear Kn_B_
  clear Kn_Bh
  have Ha0_ := Aside0.mk (Kd.R_below Ha0.out (below_trans0 (below_alloc (below_alloc (Below.refl _ _) _) _) hb))
  clear Ha0
  have Ha0 := Ha0_
  clear Ha0_
  have Ha1_ := Aside0.mk (Kd.R_below Ha1.out (below_trans0 (below_alloc (below_alloc (Below.refl _ _) _) _) hb))
  clear Ha1
  have Ha1 := Ha1_
  clear Ha1_
  have Hb0_ := Aside0.mk (Kd.R_below Hb0.out (below_trans0 (below_alloc (below_alloc (Below.refl _ _) _) _) hb))
  clear Hb0
  have Hb0 := Hb0_
  clear Hb0_
  have Hb1_ := Aside0.mk (Kd.R_below Hb1.out (below_trans0 (below_alloc (below_alloc (Below.refl _ _) _) _) hb))
  clear Hb1
  have Hb1 := Hb1_
  clear Hb1_
  clear hb
  try clear yBX_2 yBX_2z0 yBX_2z1 yBX_2z2 yBX_2z3 xBX_2_0 xBX_2_1 xBX_2_2 xBX_2_3 xBX_2_4 xBX_2_5 xBX_2_6 xBX_2_7
  generalize hgBh : w2.heap.size + 1 = gBh at KBh ⊢
  clear hgBh
  generalize hgB_ : w2.heap.size = gB_ at KB_ ⊢
  clear hgB_
  have yBX_3 : gBX < w3.heap.size := blk_lt KBX.out
  have yBX_3z0 : (gBX = w3.heap.size) = False := eq_false (by omega)
  have yBX_3z1 : (w3.heap.size = gBX) = False := eq_false (by omega)
  have yBX_3z2 : (gBX = w3.heap.size + 1) = False := eq_false (by omega)
  have yBX_3z3 : (w3.heap.size + 1 = gBX) = False := eq_false (by omega)
  have xBX_3_0 : w3.cell? ⟨gBX, 0, none⟩ = some (.slice A0_0 l0_0.length c0_0) := (blk_cell KBX.out 0).trans rfl
  have xBX_3_1 : w3.cell? ⟨gBX, 1, none⟩ = some (.slice A0_1 l0_1.length c0_1) := (blk_cell KBX.out 1).trans rfl
  have xBX_3_2 : w3.cell? ⟨gBX, 2, none⟩ = some (.int .i64 a0_2) := (blk_cell KBX.out 2).trans rfl
  have xBX_3_3 : w3.cell? ⟨gBX, 3, none⟩ = some (.int .i64 a0_3) := (blk_cell KBX.out 3).trans rfl
  have xBX_3_4 : w3.cell? ⟨gBX, 4, none⟩ = some (.int .i64 a0_4) := (blk_cell KBX.out 4).trans rfl
  have xBX_3_5 : w3.cell? ⟨gBX, 5, none⟩ = some (.int .i64 a0_5) := (blk_cell KBX.out 5).trans rfl
  have xBX_3_6 : w3.cell? ⟨gBX, 6, none⟩ = some (.int .u64 a0_6) := (blk_cell KBX.out 6).trans rfl
  have xBX_3_7 : w3.cell? ⟨gBX, 7, none⟩ = some (.int .i64 a0_7) := (blk_cell KBX.out 7).trans rfl
  go_wp2_with fail
  refine (turnspitref14_Exit.calls k A0_0 c0_0 l0_0 A0_1 c0_1 l0_1 a0_2 a0_3 X0 X1 x3 _ (Kd.C_below HR0_0.out (below_alloc HB3.out _)) HC0_0.out (Kd.C_below HR0_1.out (below_alloc HB3.out _)) HC0_1.out (Ld.below HL.out (by exact (below_alloc HB3.out _))) E4.out).mono ?_
  rintro e w4 ⟨vd0, vd1, rfl, ho0, ho1, hb⟩
  obtain ⟨Ad0, cd0, rfl⟩ := Kd.R_slice ho0
  obtain ⟨Ad1, cd1, rfl⟩ := Kd.R_slice ho1
  have Hd0 := Aside0.mk ho0
  have Hd1 := Aside0.mk ho1
  clear ho0 ho1
  have HB4 := Aside0.mk (below_step (below_alloc HB3.out _) hb)
  have Kn_C_ : (w3.alloc (.cells #[.slice Ac0 X0.length cc0, .slice Ac1 X1.length cc1] 25)).heap[w3.heap.size]? = some (.cells #[.slice Ac0 X0.length cc0, .slice Ac1 X1.length cc1] 25 (0, 0)) := by have h_ := blk_new w3 (.cells #[.slice Ac0 X0.length cc0, .slice Ac1 X1.length cc1] 25); simpa only [World.size_alloc] using h_
  have KBX_ := Aside0.mk (blk_below (blk_alloc KBX.out _) hb)
  have KA__ := Aside0.mk (blk_below (blk_alloc KA_.out _) hb)
  have KAh_ := Aside0.mk (blk_below (blk_alloc KAh.out _) hb)
  have KB__ := Aside0.mk (blk_below (blk_alloc KB_.out _) hb)
  have KBh_ := Aside0.mk (blk_below (blk_alloc KBh.out _) hb)
  have KC__ := Aside0.mk (blk_below Kn_C_ hb)
  clear KBX
  have KBX := KBX_
  clear KBX_
  clear KA_
  have KA_ := KA__
  clear KA__
  clear KAh
  have KAh := KAh_
  clear KAh_
  clear KB_
  have KB_ := KB__
  clear KB__
  clear KBh
  have KBh := KBh_
  clear KBh_
  have KC_ := KC__
  clear KC__
  clear Kn_C_
  have Ha0_ := Aside0.mk (Kd.R_below Ha0.out (below_trans0 (below_alloc (Below.refl _ _) _) hb))
  clear Ha0
  have Ha0 := Ha0_
  clear Ha0_
  have Ha1_ := Aside0.mk (Kd.R_below Ha1.out (below_trans0 (below_alloc (Below.refl _ _) _) hb))
  clear Ha1
  have Ha1 := Ha1_
  clear Ha1_
  have Hb0_ := Aside0.mk (Kd.R_below Hb0.out (below_trans0 (below_alloc (Below.refl _ _) _) hb))
  clear Hb0
  have Hb0 := Hb0_
  clear Hb0_
  have Hb1_ := Aside0.mk (Kd.R_below Hb1.out (below_trans0 (below_alloc (Below.refl _ _) _) hb))
  clear Hb1
  have Hb1 := Hb1_
  clear Hb1_
  have Hc0_ := Aside0.mk (Kd.R_below Hc0.out (below_trans0 (below_alloc (Below.refl _ _) _) hb))
  clear Hc0
  have Hc0 := Hc0_
  clear Hc0_
  have Hc1_ := Aside0.mk (Kd.R_below Hc1.out (below_trans0 (below_alloc (Below.refl _ _) _) hb))
  clear Hc1
  have Hc1 := Hc1_
  clear Hc1_
  clear hb
  try clear yBX_3 yBX_3z0 yBX_3z1 yBX_3z2 yBX_3z3 xBX_3_0 xBX_3_1 xBX_3_2 xBX_3_3 xBX_3_4 xBX_3_5 xBX_3_6 xBX_3_7
  generalize hgC_ : w3.heap.size = gC_ at KC_ ⊢
  clear hgC_
  have yBX_4 : gBX < w4.heap.size := blk_lt KBX.out
  have yBX_4z0 : (gBX = w4.heap.size) = False := eq_false (by omega)
  have yBX_4z1 : (w4.heap.size = gBX) = False := eq_false (by omega)
  have yBX_4z2 : (gBX = w4.heap.size + 1) = False := eq_false (by omega)
  have yBX_4z3 : (w4.heap.size + 1 = gBX) = False := eq_false (by omega)
  have xBX_4_0 : w4.cell? ⟨gBX, 0, none⟩ = some (.slice A0_0 l0_0.length c0_0) := (blk_cell KBX.out 0).trans rfl
  have xBX_4_1 : w4.cell? ⟨gBX, 1, none⟩ = some (.slice A0_1 l0_1.length c0_1) := (blk_cell KBX.out 1).trans rfl
  have xBX_4_2 : w4.cell? ⟨gBX, 2, none⟩ = some (.int .i64 a0_2) := (blk_cell KBX.out 2).trans rfl
  have xBX_4_3 : w4.cell? ⟨gBX, 3, none⟩ = some (.int .i64 a0_3) := (blk_cell KBX.out 3).trans rfl
  have xBX_4_4 : w4.cell? ⟨gBX, 4, none⟩ = some (.int .i64 a0_4) := (blk_cell KBX.out 4).trans rfl
  have xBX_4_5 : w4.cell? ⟨gBX, 5, none⟩ = some (.int .i64 a0_5) := (blk_cell KBX.out 5).trans rfl
  have xBX_4_6 : w4.cell? ⟨gBX, 6, none⟩ = some (.int .u64 a0_6) := (blk_cell KBX.out 6).trans rfl
  have xBX_4_7 : w4.cell? ⟨gBX, 7, none⟩ = some (.int .i64 a0_7) := (blk_cell KBX.out 7).trans rfl
  go_wp2_with fail
  refine (table_Step.calls A0_0 c0_0 l0_0 A0_1 c0_1 l0_1 a0_2 a0_7 a0_4 S0 S1 s3 _ (Kd.C_below HR0_0.out (below_alloc HB4.out _)) HC0_0.out (Kd.C_below HR0_1.out (below_alloc HB4.out _)) HC0_1.out (Ld.below HL.out (by exact (below_alloc HB4.out _))) E5.out).mono ?_
  rintro e w5 ⟨vm0, vm1, rfl, ho0, ho1, hb⟩
  obtain ⟨Am0, cm0, rfl⟩ := Kd.R_slice ho0
  obtain ⟨Am1, cm1, rfl⟩ := Kd.R_slice ho1
  have Hm0 := Aside0.mk ho0
  have Hm1 := Aside0.mk ho1
  clear ho0 ho1
  have HB5 := Aside0.mk (below_step (below_alloc HB4.out _) hb)
  have Kn_D_ : (w4.alloc (.cells #[.slice Ad0 X0.length cd0, .slice Ad1 X1.length cd1] 25)).heap[w4.heap.size]? = some (.cells #[.slice Ad0 X0.length cd0, .slice Ad1 X1.length cd1] 25 (0, 0)) := by have h_ := blk_new w4 (.cells #[.slice Ad0 X0.length cd0, .slice Ad1 X1.length cd1] 25); simpa only [World.size_alloc] using h_
  have KBX_ := Aside0.mk (blk_below (blk_alloc KBX.out _) hb)
  have KA__ := Aside0.mk (blk_below (blk_alloc KA_.out _) hb)
  have KAh_ := Aside0.mk (blk_below (blk_alloc KAh.out _) hb)
  have KB__ := Aside0.mk (blk_below (blk_alloc KB_.out _) hb)
  have KBh_ := Aside0.mk (blk_below (blk_alloc KBh.out _) hb)
  have KC__ := Aside0.mk (blk_below (blk_alloc KC_.out _) hb)
  have KD__ := Aside0.mk (blk_below Kn_D_ hb)
  clear KBX
  have KBX := KBX_
  clear KBX_
  clear KA_
  have KA_ := KA__
  clear KA__
  clear KAh
  have KAh := KAh_
  clear KAh_
  clear KB_
  have KB_ := KB__
  clear KB__
  clear KBh
  have KBh := KBh_
  clear KBh_
  clear KC_
  have KC_ := KC__
  clear KC__
  have KD_ := KD__
  clear KD__
  clear Kn_D_
  have Ha0_ := Aside0.mk (Kd.R_below Ha0.out (below_trans0 (below_alloc (Below.refl _ _) _) hb))
  clear Ha0
  have Ha0 := Ha0_
  clear Ha0_
  have Ha1_ := Aside0.mk (Kd.R_below Ha1.out (below_trans0 (below_alloc (Below.refl _ _) _) hb))
  clear Ha1
  have Ha1 := Ha1_
  clear Ha1_
  have Hb0_ := Aside0.mk (Kd.R_below Hb0.out (below_trans0 (below_alloc (Below.refl _ _) _) hb))
  clear Hb0
  have Hb0 := Hb0_
  clear Hb0_
  have Hb1_ := Aside0.mk (Kd.R_below Hb1.out (below_trans0 (below_alloc (Below.refl _ _) _) hb))
  clear Hb1
  have Hb1 := Hb1_
  clear Hb1_
  have Hc0_ := Aside0.mk (Kd.R_below Hc0.out (below_trans0 (below_alloc (Below.refl _ _) _) hb))
  clear Hc0
  have Hc0 := Hc0_
  clear Hc0_
  have Hc1_ := Aside0.mk (Kd.R_below Hc1.out (below_trans0 (below_alloc (Below.refl _ _) _) hb))
  clear Hc1
  have Hc1 := Hc1_
  clear Hc1_
  have Hd0_ := Aside0.mk (Kd.R_below Hd0.out (below_trans0 (below_alloc (Below.refl _ _) _) hb))
  clear Hd0
  have Hd0 := Hd0_
  clear Hd0_
  have Hd1_ := Aside0.mk (Kd.R_below Hd1.out (below_trans0 (below_alloc (Below.refl _ _) _) hb))
  clear Hd1
  have Hd1 := Hd1_
  clear Hd1_
  clear hb
  try clear yBX_4 yBX_4z0 yBX_4z1 yBX_4z2 yBX_4z3 xBX_4_0 xBX_4_1 xBX_4_2 xBX_4_3 xBX_4_4 xBX_4_5 xBX_4_6 xBX_4_7
  generalize hgD_ : w4.heap.size = gD_ at KD_ ⊢
  clear hgD_
  have yBX_5 : gBX < w5.heap.size := blk_lt KBX.out
  have yBX_5z0 : (gBX = w5.heap.size) = False := eq_false (by omega)
  have yBX_5z1 : (w5.heap.size = gBX) = False := eq_false (by omega)
  have yBX_5z2 : (gBX = w5.heap.size + 1) = False := eq_false (by omega)
  have yBX_5z3 : (w5.heap.size + 1 = gBX) = False := eq_false (by omega)
  have xBX_5_0 : w5.cell? ⟨gBX, 0, none⟩ = some (.slice A0_0 l0_0.length c0_0) := (blk_cell KBX.out 0).trans rfl
  have xBX_5_1 : w5.cell? ⟨gBX, 1, none⟩ = some (.slice A0_1 l0_1.length c0_1) := (blk_cell KBX.out 1).trans rfl
  have xBX_5_2 : w5.cell? ⟨gBX, 2, none⟩ = some (.int .i64 a0_2) := (blk_cell KBX.out 2).trans rfl
  have xBX_5_3 : w5.cell? ⟨gBX, 3, none⟩ = some (.int .i64 a0_3) := (blk_cell KBX.out 3).trans rfl
  have xBX_5_4 : w5.cell? ⟨gBX, 4, none⟩ = some (.int .i64 a0_4) := (blk_cell KBX.out 4).trans rfl
  have xBX_5_5 : w5.cell? ⟨gBX, 5, none⟩ = some (.int .i64 a0_5) := (blk_cell KBX.out 5).trans rfl
  have xBX_5_6 : w5.cell? ⟨gBX, 6, none⟩ = some (.int .u64 a0_6) := (blk_cell KBX.out 6).trans rfl
  have xBX_5_7 : w5.cell? ⟨gBX, 7, none⟩ = some (.int .i64 a0_7) := (blk_cell KBX.out 7).trans rfl
  go_wp2_with fail
  refine (turnspitref14_Step.calls k A0_0 c0_0 l0_0 A0_1 c0_1 l0_1 a0_2 a0_7 a0_4 S0 S1 s3 _ (Kd.C_below HR0_0.out (below_alloc HB5.out _)) HC0_0.out (Kd.C_below HR0_1.out (below_alloc HB5.out _)) HC0_1.out (Ld.below HL.out (by exact (below_alloc HB5.out _))) E6.out).mono ?_
  rintro e w6 ⟨vn0, vn1, rfl, ho0, ho1, hb⟩
  obtain ⟨An0, cn0, rfl⟩ := Kd.R_slice ho0
  obtain ⟨An1, cn1, rfl⟩ := Kd.R_slice ho1
  have Hn0 := Aside0.mk ho0
  have Hn1 := Aside0.mk ho1
  clear ho0 ho1
  have HB6 := Aside0.mk (below_step (below_alloc HB5.out _) hb)
  have Kn_M_ : (w5.alloc (.cells #[.slice Am0 S0.length cm0, .slice Am1 S1.length cm1] 25)).heap[w5.heap.size]? = some (.cells #[.slice Am0 S0.length cm0, .slice Am1 S1.length cm1] 25 (0, 0)) := by have h_ := blk_new w5 (.cells #[.slice Am0 S0.length cm0, .slice Am1 S1.length cm1] 25); simpa only [World.size_alloc] using h_
  have KBX_ := Aside0.mk (blk_below (blk_alloc KBX.out _) hb)
  have KA__ := Aside0.mk (blk_below (blk_alloc KA_.out _) hb)
  have KAh_ := Aside0.mk (blk_below (blk_alloc KAh.out _) hb)
  have KB__ := Aside0.mk (blk_below (blk_alloc KB_.out _) hb)
  have KBh_ := Aside0.mk (blk_below (blk_alloc KBh.out _) hb)
  have KC__ := Aside0.mk (blk_below (blk_alloc KC_.out _) hb)
  have KD__ := Aside0.mk (blk_below (blk_alloc KD_.out _) hb)
  have KM__ := Aside0.mk (blk_below Kn_M_ hb)
  clear KBX
  have KBX := KBX_
  clear KBX_
  clear KA_
  have KA_ := KA__
  clear KA__
  clear KAh
  have KAh := KAh_
  clear KAh_
  clear KB_
  have KB_ := KB__
  clear KB__
  clear KBh
  have KBh := KBh_
  clear KBh_
  clear KC_
  have KC_ := KC__
  clear KC__
  clear KD_
  have KD_ := KD__
  clear KD__
  have KM_ := KM__
  clear KM__
  clear Kn_M_
  have Ha0_ := Aside0.mk (Kd.R_below Ha0.out (below_trans0 (below_alloc (Below.refl _ _) _) hb))
  clear Ha0
  have Ha0 := Ha0_
  clear Ha0_
  have Ha1_ := Aside0.mk (Kd.R_below Ha1.out (below_trans0 (below_alloc (Below.refl _ _) _) hb))
  clear Ha1
  have Ha1 := Ha1_
  clear Ha1_
  have Hb0_ := Aside0.mk (Kd.R_below Hb0.out (below_trans0 (below_alloc (Below.refl _ _) _) hb))
  clear Hb0
  have Hb0 := Hb0_
  clear Hb0_
  have Hb1_ := Aside0.mk (Kd.R_below Hb1.out (below_trans0 (below_alloc (Below.refl _ _) _) hb))
  clear Hb1
  have Hb1 := Hb1_
  clear Hb1_
  have Hc0_ := Aside0.mk (Kd.R_below Hc0.out (below_trans0 (below_alloc (Below.refl _ _) _) hb))
  clear Hc0
  have Hc0 := Hc0_
  clear Hc0_
  have Hc1_ := Aside0.mk (Kd.R_below Hc1.out (below_trans0 (below_alloc (Below.refl _ _) _) hb))
  clear Hc1
  have Hc1 := Hc1_
  clear Hc1_
  have Hd0_ := Aside0.mk (Kd.R_below Hd0.out (below_trans0 (below_alloc (Below.refl _ _) _) hb))
  clear Hd0
  have Hd0 := Hd0_
  clear Hd0_
  have Hd1_ := Aside0.mk (Kd.R_below Hd1.out (below_trans0 (below_alloc (Below.refl _ _) _) hb))
  clear Hd1
  have Hd1 := Hd1_
  clear Hd1_
  have Hm0_ := Aside0.mk (Kd.R_below Hm0.out (below_trans0 (below_alloc (Below.refl _ _) _) hb))
  clear Hm0
  have Hm0 := Hm0_
  clear Hm0_
  have Hm1_ := Aside0.mk (Kd.R_below Hm1.out (below_trans0 (below_alloc (Below.refl _ _) _) hb))
  clear Hm1
  have Hm1 := Hm1_
  clear Hm1_
  clear hb
  try clear yBX_5 yBX_5z0 yBX_5z1 yBX_5z2 yBX_5z3 xBX_5_0 xBX_5_1 xBX_5_2 xBX_5_3 xBX_5_4 xBX_5_5 xBX_5_6 xBX_5_7
  generalize hgM_ : w5.heap.size = gM_ at KM_ ⊢
  clear hgM_
  have yA__6 : gA_ < w6.heap.size := blk_lt KA_.out
  have yA__6z0 : (gA_ = w6.heap.size) = False := eq_false (by omega)
  have yA__6z1 : (w6.heap.size = gA_) = False := eq_false (by omega)
  have yA__6z2 : (gA_ = w6.heap.size + 1) = False := eq_false (by omega)
  have yA__6z3 : (w6.heap.size + 1 = gA_) = False := eq_false (by omega)
  have xA__6_0 : w6.cell? ⟨gA_, 0, none⟩ = some (.slice Aa0 C0.length ca0) := (blk_cell KA_.out 0).trans rfl
  have xA__6_1 : w6.cell? ⟨gA_, 1, none⟩ = some (.slice Aa1 C1.length ca1) := (blk_cell KA_.out 1).trans rfl
  have yB__6 : gB_ < w6.heap.size := blk_lt KB_.out
  have yB__6z0 : (gB_ = w6.heap.size) = False := eq_false (by omega)
  have yB__6z1 : (w6.heap.size = gB_) = False := eq_false (by omega)
  have yB__6z2 : (gB_ = w6.heap.size + 1) = False := eq_false (by omega)
  have yB__6z3 : (w6.heap.size + 1 = gB_) = False := eq_false (by omega)
  have xB__6_0 : w6.cell? ⟨gB_, 0, none⟩ = some (.slice Ab0 C0.length cb0) := (blk_cell KB_.out 0).trans rfl
  have xB__6_1 : w6.cell? ⟨gB_, 1, none⟩ = some (.slice Ab1 C1.length cb1) := (blk_cell KB_.out 1).trans rfl
  have yAh_6 : gAh < w6.heap.size := blk_lt KAh.out
  have yAh_6z0 : (gAh = w6.heap.size) = False := eq_false (by omega)
  have yAh_6z1 : (w6.heap.size = gAh) = False := eq_false (by omega)
  have yAh_6z2 : (gAh = w6.heap.size + 1) = False := eq_false (by omega)
  have yAh_6z3 : (w6.heap.size + 1 = gAh) = False := eq_false (by omega)
  have xAh_6_0 : w6.cell? ⟨gAh, 0, none⟩ = some (.int .i64 h1) := (blk_cell KAh.out 0).trans rfl
  have xAh_6_1 : w6.cell? ⟨gAh, 1, none⟩ = some (.int .i64 h2) := (blk_cell KAh.out 1).trans rfl
  have yBh_6 : gBh < w6.heap.size := blk_lt KBh.out
  have yBh_6z0 : (gBh = w6.heap.size) = False := eq_false (by omega)
  have yBh_6z1 : (w6.heap.size = gBh) = False := eq_false (by omega)
  have yBh_6z2 : (gBh = w6.heap.size + 1) = False := eq_false (by omega)
  have yBh_6z3 : (w6.heap.size + 1 = gBh) = False := eq_false (by omega)
  have xBh_6_0 : w6.cell? ⟨gBh, 0, none⟩ = some (.int .i64 h1) := (blk_cell KBh.out 0).trans rfl
  have xBh_6_1 : w6.cell? ⟨gBh, 1, none⟩ = some (.int .i64 h2) := (blk_cell KBh.out 1).trans rfl
  go_wp2_with fail
  refine (turnspitref14_Same.calls k Aa0 ca0 C0 Aa1 ca1 C1 Ab0 cb0 C0 Ab1 cb1 C1 true _ (Kd.C_below (Kd.R_reads' Ha0.out).2.2 (below_alloc (Below.refl _ _) _)) (Kd.R_reads' Ha0.out).2.1 (Kd.C_below (Kd.R_reads' Ha1.out).2.2 (below_alloc (Below.refl _ _) _)) (Kd.R_reads' Ha1.out).2.1 (Kd.C_below (Kd.R_reads' Hb0.out).2.2 (below_alloc (Below.refl _ _) _)) (Kd.R_reads' Hb0.out).2.1 (Kd.C_below (Kd.R_reads' Hb1.out).2.2 (below_alloc (Below.refl _ _) _)) (Kd.R_reads' Hb1.out).2.1 (Ld.below HL.out (by exact (below_alloc HB6.out _))) E7.out).mono ?_
  rintro e w7 ⟨rfl, hb⟩
  have HB7 := Aside0.mk (below_step (below_alloc HB6.out _) hb)
  have Kn_N_ : (w6.alloc (.cells #[.slice An0 S0.length cn0, .slice An1 S1.length cn1] 25)).heap[w6.heap.size]? = some (.cells #[.slice An0 S0.length cn0, .slice An1 S1.length cn1] 25 (0, 0)) := by have h_ := blk_new w6 (.cells #[.slice An0 S0.length cn0, .slice An1 S1.length cn1] 25); simpa only [World.size_alloc] using h_
  have KBX_ := Aside0.mk (blk_below (blk_alloc KBX.out _) hb)
  have KA__ := Aside0.mk (blk_below (blk_alloc KA_.out _) hb)
  have KAh_ := Aside0.mk (blk_below (blk_alloc KAh.out _) hb)
  have KB__ := Aside0.mk (blk_below (blk_alloc KB_.out _) hb)
  have KBh_ := Aside0.mk (blk_below (blk_alloc KBh.out _) hb)
  have KC__ := Aside0.mk (blk_below (blk_alloc KC_.out _) hb)
  have KD__ := Aside0.mk (blk_below (blk_alloc KD_.out _) hb)
  have KM__ := Aside0.mk (blk_below (blk_alloc KM_.out _) hb)
  have KN__ := Aside0.mk (blk_below Kn_N_ hb)
  clear KBX
  have KBX := KBX_
  clear KBX_
  clear KA_
  have KA_ := KA__
  clear KA__
  clear KAh
  have KAh := KAh_
  clear KAh_
  clear KB_
  have KB_ := KB__
  clear KB__
  clear KBh
  have KBh := KBh_
  clear KBh_
  clear KC_
  have KC_ := KC__
  clear KC__
  clear KD_
  have KD_ := KD__
  clear KD__
  clear KM_
  have KM_ := KM__
  clear KM__
  have KN_ := KN__
  clear KN__
  clear Kn_N_
  have Ha0_ := Aside0.mk (Kd.R_below Ha0.out (below_trans0 (below_alloc (Below.refl _ _) _) hb))
  clear Ha0
  have Ha0 := Ha0_
  clear Ha0_
  have Ha1_ := Aside0.mk (Kd.R_below Ha1.out (below_trans0 (below_alloc (Below.refl _ _) _) hb))
  clear Ha1
  have Ha1 := Ha1_
  clear Ha1_
  have Hb0_ := Aside0.mk (Kd.R_below Hb0.out (below_trans0 (below_alloc (Below.refl _ _) _) hb))
  clear Hb0
  have Hb0 := Hb0_
  clear Hb0_
  have Hb1_ := Aside0.mk (Kd.R_below Hb1.out (below_trans0 (below_alloc (Below.refl _ _) _) hb))
  clear Hb1
  have Hb1 := Hb1_
  clear Hb1_
  have Hc0_ := Aside0.mk (Kd.R_below Hc0.out (below_trans0 (below_alloc (Below.refl _ _) _) hb))
  clear Hc0
  have Hc0 := Hc0_
  clear Hc0_
  have Hc1_ := Aside0.mk (Kd.R_below Hc1.out (below_trans0 (below_alloc (Below.refl _ _) _) hb))
  clear Hc1
  have Hc1 := Hc1_
  clear Hc1_
  have Hd0_ := Aside0.mk (Kd.R_below Hd0.out (below_trans0 (below_alloc (Below.refl _ _) _) hb))
  clear Hd0
  have Hd0 := Hd0_
  clear Hd0_
  have Hd1_ := Aside0.mk (Kd.R_below Hd1.out (below_trans0 (below_alloc (Below.refl _ _) _) hb))
  clear Hd1
  have Hd1 := Hd1_
  clear Hd1_
  have Hm0_ := Aside0.mk (Kd.R_below Hm0.out (below_trans0 (below_alloc (Below.refl _ _) _) hb))
  clear Hm0
  have Hm0 := Hm0_
  clear Hm0_
  have Hm1_ := Aside0.mk (Kd.R_below Hm1.out (below_trans0 (below_alloc (Below.refl _ _) _) hb))
  clear Hm1
  have Hm1 := Hm1_
  clear Hm1_
  have Hn0_ := Aside0.mk (Kd.R_below Hn0.out (below_trans0 (below_alloc (Below.refl _ _) _) hb))
  clear Hn0
  have Hn0 := Hn0_
  clear Hn0_
  have Hn1_ := Aside0.mk (Kd.R_below Hn1.out (below_trans0 (below_alloc (Below.refl _ _) _) hb))
  clear Hn1
  have Hn1 := Hn1_
  clear Hn1_
  clear hb
  try clear yA__6 yA__6z0 yA__6z1 yA__6z2 yA__6z3 xA__6_0 xA__6_1 yB__6 yB__6z0 yB__6z1 yB__6z2 yB__6z3 xB__6_0 xB__6_1 yAh_6 yAh_6z0 yAh_6z1 yAh_6z2 yAh_6z3 xAh_6_0 xAh_6_1 yBh_6 yBh_6z0 yBh_6z1 yBh_6z2 yBh_6z3 xBh_6_0 xBh_6_1
  generalize hgN_ : w6.heap.size = gN_ at KN_ ⊢
  clear hgN_
  have yAh_7 : gAh < w7.heap.size := blk_lt KAh.out
  have yAh_7z0 : (gAh = w7.heap.size) = False := eq_false (by omega)
  have yAh_7z1 : (w7.heap.size = gAh) = False := eq_false (by omega)
  have yAh_7z2 : (gAh = w7.heap.size + 1) = False := eq_false (by omega)
  have yAh_7z3 : (w7.heap.size + 1 = gAh) = False := eq_false (by omega)
  have xAh_7_0 : w7.cell? ⟨gAh, 0, none⟩ = some (.int .i64 h1) := (blk_cell KAh.out 0).trans rfl
  have xAh_7_1 : w7.cell? ⟨gAh, 1, none⟩ = some (.int .i64 h2) := (blk_cell KAh.out 1).trans rfl
  have yBh_7 : gBh < w7.heap.size := blk_lt KBh.out
  have yBh_7z0 : (gBh = w7.heap.size) = False := eq_false (by omega)
  have yBh_7z1 : (w7.heap.size = gBh) = False := eq_false (by omega)
  have yBh_7z2 : (gBh = w7.heap.size + 1) = False := eq_false (by omega)
  have yBh_7z3 : (w7.heap.size + 1 = gBh) = False := eq_false (by omega)
  have xBh_7_0 : w7.cell? ⟨gBh, 0, none⟩ = some (.int .i64 h1) := (blk_cell KBh.out 0).trans rfl
  have xBh_7_1 : w7.cell? ⟨gBh, 1, none⟩ = some (.int .i64 h2) := (blk_cell KBh.out 1).trans rfl
  have yC__7 : gC_ < w7.heap.size := blk_lt KC_.out
  have yC__7z0 : (gC_ = w7.heap.size) = False := eq_false (by omega)
  have yC__7z1 : (w7.heap.size = gC_) = False := eq_false (by omega)
  have yC__7z2 : (gC_ = w7.heap.size + 1) = False := eq_false (by omega)
  have yC__7z3 : (w7.heap.size + 1 = gC_) = False := eq_false (by omega)
  have xC__7_0 : w7.cell? ⟨gC_, 0, none⟩ = some (.slice Ac0 X0.length cc0) := (blk_cell KC_.out 0).trans rfl
  have xC__7_1 : w7.cell? ⟨gC_, 1, none⟩ = some (.slice Ac1 X1.length cc1) := (blk_cell KC_.out 1).trans rfl
  have yD__7 : gD_ < w7.heap.size := blk_lt KD_.out
  have yD__7z0 : (gD_ = w7.heap.size) = False := eq_false (by omega)
  have yD__7z1 : (w7.heap.size = gD_) = False := eq_false (by omega)
  have yD__7z2 : (gD_ = w7.heap.size + 1) = False := eq_false (by omega)
  have yD__7z3 : (w7.heap.size + 1 = gD_) = False := eq_false (by omega)
  have xD__7_0 : w7.cell? ⟨gD_, 0, none⟩ = some (.slice Ad0 X0.length cd0) := (blk_cell KD_.out 0).trans rfl
  have xD__7_1 : w7.cell? ⟨gD_, 1, none⟩ = some (.slice Ad1 X1.length cd1) := (blk_cell KD_.out 1).trans rfl
  try clear KA_
  try clear KB_
  go_wp2_with fail
  refine (turnspitref14_Same.calls k Ac0 cc0 X0 Ac1 cc1 X1 Ad0 cd0 X0 Ad1 cd1 X1 true _ (Kd.R_reads' Hc0.out).2.2 (Kd.R_reads' Hc0.out).2.1 (Kd.R_reads' Hc1.out).2.2 (Kd.R_reads' Hc1.out).2.1 (Kd.R_reads' Hd0.out).2.2 (Kd.R_reads' Hd0.out).2.1 (Kd.R_reads' Hd1.out).2.2 (Kd.R_reads' Hd1.out).2.1 (Ld.below HL.out (by exact HB7.out)) E8.out).mono ?_
  rintro e w8 ⟨rfl, hb⟩
  have HB8 := Aside0.mk (below_step HB7.out hb)
  have KBX_ := Aside0.mk (blk_below KBX.out hb)
  have KAh_ := Aside0.mk (blk_below KAh.out hb)
  have KBh_ := Aside0.mk (blk_below KBh.out hb)
  have KC__ := Aside0.mk (blk_below KC_.out hb)
  have KD__ := Aside0.mk (blk_below KD_.out hb)
  have KM__ := Aside0.mk (blk_below KM_.out hb)
  have KN__ := Aside0.mk (blk_below KN_.out hb)
  clear KBX
  have KBX := KBX_
  clear KBX_
  clear KAh
  have KAh := KAh_
  clear KAh_
  clear KBh
  have KBh := KBh_
  clear KBh_
  clear KC_
  have KC_ := KC__
  clear KC__
  clear KD_
  have KD_ := KD__
  clear KD__
  clear KM_
  have KM_ := KM__
  clear KM__
  clear KN_
  have KN_ := KN__
  clear KN__
  have Ha0_ := Aside0.mk (Kd.R_below Ha0.out hb)
  clear Ha0
  have Ha0 := Ha0_
  clear Ha0_
  have Ha1_ := Aside0.mk (Kd.R_below Ha1.out hb)
  clear Ha1
  have Ha1 := Ha1_
  clear Ha1_
  have Hb0_ := Aside0.mk (Kd.R_below Hb0.out hb)
  clear Hb0
  have Hb0 := Hb0_
  clear Hb0_
  have Hb1_ := Aside0.mk (Kd.R_below Hb1.out hb)
  clear Hb1
  have Hb1 := Hb1_
  clear Hb1_
  have Hc0_ := Aside0.mk (Kd.R_below Hc0.out hb)
  clear Hc0
  have Hc0 := Hc0_
  clear Hc0_
  have Hc1_ := Aside0.mk (Kd.R_below Hc1.out hb)
  clear Hc1
  have Hc1 := Hc1_
  clear Hc1_
  have Hd0_ := Aside0.mk (Kd.R_below Hd0.out hb)
  clear Hd0
  have Hd0 := Hd0_
  clear Hd0_
  have Hd1_ := Aside0.mk (Kd.R_below Hd1.out hb)
  clear Hd1
  have Hd1 := Hd1_
  clear Hd1_
  have Hm0_ := Aside0.mk (Kd.R_below Hm0.out hb)
  clear Hm0
  have Hm0 := Hm0_
  clear Hm0_
  have Hm1_ := Aside0.mk (Kd.R_below Hm1.out hb)
  clear Hm1
  have Hm1 := Hm1_
  clear Hm1_
  have Hn0_ := Aside0.mk (Kd.R_below Hn0.out hb)
  clear Hn0
  have Hn0 := Hn0_
  clear Hn0_
  have Hn1_ := Aside0.mk (Kd.R_below Hn1.out hb)
  clear Hn1
  have Hn1 := Hn1_
  clear Hn1_
  clear hb
  try clear yAh_7 yAh_7z0 yAh_7z1 yAh_7z2 yAh_7z3 xAh_7_0 xAh_7_1 yBh_7 yBh_7z0 yBh_7z1 yBh_7z2 yBh_7z3 xBh_7_0 xBh_7_1 yC__7 yC__7z0 yC__7z1 yC__7z2 yC__7z3 xC__7_0 xC__7_1 yD__7 yD__7z0 yD__7z1 yD__7z2 yD__7z3 xD__7_0 xD__7_1
  have yM__8 : gM_ < w8.heap.size := blk_lt KM_.out
  have yM__8z0 : (gM_ = w8.heap.size) = False := eq_false (by omega)
  have yM__8z1 : (w8.heap.size = gM_) = False := eq_false (by omega)
  have yM__8z2 : (gM_ = w8.heap.size + 1) = False := eq_false (by omega)
  have yM__8z3 : (w8.heap.size + 1 = gM_) = False := eq_false (by omega)
  have xM__8_0 : w8.cell? ⟨gM_, 0, none⟩ = some (.slice Am0 S0.length cm0) := (blk_cell KM_.out 0).trans rfl
  have xM__8_1 : w8.cell? ⟨gM_, 1, none⟩ = some (.slice Am1 S1.length cm1) := (blk_cell KM_.out 1).trans rfl
  have yN__8 : gN_ < w8.heap.size := blk_lt KN_.out
  have yN__8z0 : (gN_ = w8.heap.size) = False := eq_false (by omega)
  have yN__8z1 : (w8.heap.size = gN_) = False := eq_false (by omega)
  have yN__8z2 : (gN_ = w8.heap.size + 1) = False := eq_false (by omega)
  have yN__8z3 : (w8.heap.size + 1 = gN_) = False := eq_false (by omega)
  have xN__8_0 : w8.cell? ⟨gN_, 0, none⟩ = some (.slice An0 S0.length cn0) := (blk_cell KN_.out 0).trans rfl
  have xN__8_1 : w8.cell? ⟨gN_, 1, none⟩ = some (.slice An1 S1.length cn1) := (blk_cell KN_.out 1).trans rfl
  try clear KAh
  try clear KBh
  try clear KC_
  try clear KD_
  go_wp2_with fail
  refine (turnspitref14_Same.calls k Am0 cm0 S0 Am1 cm1 S1 An0 cn0 S0 An1 cn1 S1 true _ (Kd.R_reads' Hm0.out).2.2 (Kd.R_reads' Hm0.out).2.1 (Kd.R_reads' Hm1.out).2.2 (Kd.R_reads' Hm1.out).2.1 (Kd.R_reads' Hn0.out).2.2 (Kd.R_reads' Hn0.out).2.1 (Kd.R_reads' Hn1.out).2.2 (Kd.R_reads' Hn1.out).2.1 (Ld.below HL.out (by exact HB8.out)) E9.out).mono ?_
  rintro e w9 ⟨rfl, hb⟩
  have HB9 := Aside0.mk (below_step HB8.out hb)
  have KBX_ := Aside0.mk (blk_below KBX.out hb)
  have KM__ := Aside0.mk (blk_below KM_.out hb)
  have KN__ := Aside0.mk (blk_below KN_.out hb)
  clear KBX
  have KBX := KBX_
  clear KBX_
  clear KM_
  have KM_ := KM__
  clear KM__
  clear KN_
  have KN_ := KN__
  clear KN__
  have Ha0_ := Aside0.mk (Kd.R_below Ha0.out hb)
  clear Ha0
  have Ha0 := Ha0_
  clear Ha0_
  have Ha1_ := Aside0.mk (Kd.R_below Ha1.out hb)
  clear Ha1
  have Ha1 := Ha1_
  clear Ha1_
  have Hb0_ := Aside0.mk (Kd.R_below Hb0.out hb)
  clear Hb0
  have Hb0 := Hb0_
  clear Hb0_
  have Hb1_ := Aside0.mk (Kd.R_below Hb1.out hb)
  clear Hb1
  have Hb1 := Hb1_
  clear Hb1_
  have Hc0_ := Aside0.mk (Kd.R_below Hc0.out hb)
  clear Hc0
  have Hc0 := Hc0_
  clear Hc0_
  have Hc1_ := Aside0.mk (Kd.R_below Hc1.out hb)
  clear Hc1
  have Hc1 := Hc1_
  clear Hc1_
  have Hd0_ := Aside0.mk (Kd.R_below Hd0.out hb)
  clear Hd0
  have Hd0 := Hd0_
  clear Hd0_
  have Hd1_ := Aside0.mk (Kd.R_below Hd1.out hb)
  clear Hd1
  have Hd1 := Hd1_
  clear Hd1_
  have Hm0_ := Aside0.mk (Kd.R_below Hm0.out hb)
  clear Hm0
  have Hm0 := Hm0_
  clear Hm0_
  have Hm1_ := Aside0.mk (Kd.R_below Hm1.out hb)
  clear Hm1
  have Hm1 := Hm1_
  clear Hm1_
  have Hn0_ := Aside0.mk (Kd.R_below Hn0.out hb)
  clear Hn0
  have Hn0 := Hn0_
  clear Hn0_
  have Hn1_ := Aside0.mk (Kd.R_below Hn1.out hb)
  clear Hn1
  have Hn1 := Hn1_
  clear Hn1_
  clear hb
  try clear yM__8 yM__8z0 yM__8z1 yM__8z2 yM__8z3 xM__8_0 xM__8_1 yN__8 yN__8z0 yN__8z1 yN__8z2 yN__8z3 xN__8_0 xN__8_1
  have yBX_9 : gBX < w9.heap.size := blk_lt KBX.out
  have yBX_9z0 : (gBX = w9.heap.size) = False := eq_false (by omega)
  have yBX_9z1 : (w9.heap.size = gBX) = False := eq_false (by omega)
  have yBX_9z2 : (gBX = w9.heap.size + 1) = False := eq_false (by omega)
  have yBX_9z3 : (w9.heap.size + 1 = gBX) = False := eq_false (by omega)
  have xBX_9_0 : w9.cell? ⟨gBX, 0, none⟩ = some (.slice A0_0 l0_0.length c0_0) := (blk_cell KBX.out 0).trans rfl
  have xBX_9_1 : w9.cell? ⟨gBX, 1, none⟩ = some (.slice A0_1 l0_1.length c0_1) := (blk_cell KBX.out 1).trans rfl
  have xBX_9_2 : w9.cell? ⟨gBX, 2, none⟩ = some (.int .i64 a0_2) := (blk_cell KBX.out 2).trans rfl
  have xBX_9_3 : w9.cell? ⟨gBX, 3, none⟩ = some (.int .i64 a0_3) := (blk_cell KBX.out 3).trans rfl
  have xBX_9_4 : w9.cell? ⟨gBX, 4, none⟩ = some (.int .i64 a0_4) := (blk_cell KBX.out 4).trans rfl
  have xBX_9_5 : w9.cell? ⟨gBX, 5, none⟩ = some (.int .i64 a0_5) := (blk_cell KBX.out 5).trans rfl
  have xBX_9_6 : w9.cell? ⟨gBX, 6, none⟩ = some (.int .u64 a0_6) := (blk_cell KBX.out 6).trans rfl
  have xBX_9_7 : w9.cell? ⟨gBX, 7, none⟩ = some (.int .i64 a0_7) := (blk_cell KBX.out 7).trans rfl
  try clear KM_
  try clear KN_
  go_wp2_with fail
  have HB := HB9
  have BK278 := KBX
  have HLd := HLD.out
  generalize w9 = w11 at HB BK278 ⊢
  have c4b0 : (t279 == t279) = true := beq_self_eq_true _
  have c7b0 : (t281 == t281) = true := beq_self_eq_true _
  have c7b1 : (t281 != t281) = false := bne_self_eq_false _
  have n0_ := Aside0.mk (blk_drew BK278.out)
  have n1_ := Aside0.mk (below_drew1 HB.out)
  clear BK278
  clear HB
  have BK278 := n0_
  have HB := n1_
  clear n0_ n1_
  refine start_ (n := 30) (S := fun w' => w'.cell? ⟨gBX, 0, none⟩ = some (.slice A0_0 l0_0.length c0_0) ∧ w'.cell? ⟨gBX, 1, none⟩ = some (.slice A0_1 l0_1.length c0_1) ∧ w'.cell? ⟨gBX, 2, none⟩ = some (.int .i64 a0_2) ∧ w'.cell? ⟨gBX, 3, none⟩ = some (.int .i64 a0_3) ∧ w'.cell? ⟨gBX, 4, none⟩ = some (.int .i64 a0_4) ∧ w'.cell? ⟨gBX, 5, none⟩ = some (.int .i64 a0_5) ∧ w'.cell? ⟨gBX, 6, none⟩ = some (.int .u64 a0_6) ∧ w'.cell? ⟨gBX, 7, none⟩ = some (.int .i64 a0_7)) (ds := []) #[false, false, false, false, false, false, false, false, false, false, false, false, false, false, false, false, false, false, false, false, false, false, false, false, false, false, false, false, false, false] (by kernel_rfl) rfl rfl ⟨(blk_cell BK278.out 0).trans rfl, (blk_cell BK278.out 1).trans rfl, (blk_cell BK278.out 2).trans rfl, (blk_cell BK278.out 3).trans rfl, (blk_cell BK278.out 4).trans rfl, (blk_cell BK278.out 5).trans rfl, (blk_cell BK278.out 6).trans rfl, (blk_cell BK278.out 7).trans rfl⟩ (fun hHeld => ?_); refine with_tabW turnspitlaw14_told.tab9 turnspitlaw14_told.bits9 (fun HT_ HW_ => ?_)
  generalize w11.drew = w12 at BK278 HB hHeld ⊢
  refine pure_ (i := 0) (N := some 121) (v := ?_) (a' := ?_) #[true, false, false, false, false, false, false, false, false, false, false, false, false, false, false, false, false, false, false, false, false, false, false, false, false, false, false, false, false, false] rfl rfl (any_of HT_.out (by kernel_rfl)) (fun _ _ _ h => h) (Or.inl ⟨by rfl, ?_⟩) ?_ ?_
  rotate_left
  · intro w'
    go_simp
    with_reducible rfl
  rotate_left
  · simp only [Act.put, List.setIfInBounds_toArray, List.set_cons_zero, List.set_cons_succ, i64_w, i32_w]
    rfl
  refine pure_ (i := 3) (N := some 124) (v := ?_) (a' := ?_) #[true, false, false, true, false, false, false, false, false, false, false, false, false, false, false, false, false, false, false, false, false, false, false, false, false, false, false, false, false, false] rfl rfl (any_of HT_.out (by kernel_rfl)) (fun _ _ _ h => h) (Or.inl ⟨by rfl, ?_⟩) ?_ ?_
  rotate_left
  · intro w'
    go_simp
    with_reducible rfl
  rotate_left
  · simp only [Act.put, List.setIfInBounds_toArray, List.set_cons_zero, List.set_cons_succ, i64_w, i32_w]
    rfl
  refine take_ (i := 1) (N := some 122) (v := ?_) (a' := ?_) #[true, true, false, true, false, false, false, false, false, false, false, false, false, false, false, false, false, false, false, false, false, false, false, false, false, false, false, false, false, false] rfl rfl (take_ofW HT_.out HW_.out (by kernel_rfl)) (fun _ _ _ h => h) (Or.inl ⟨by rfl, ?_⟩) hHeld ?_ ?_
  rotate_left
  · rintro w' ⟨s0, s1, s2, s3, s4, s5, s6, s7⟩
    go_simp
    with_reducible rfl
  rotate_left
  · simp only [Act.put, List.setIfInBounds_toArray, List.set_cons_zero, List.set_cons_succ, i64_w, i32_w]
    rfl
  refine take_ (i := 4) (N := some 125) (v := ?_) (a' := ?_) #[true, true, false, true, true, false, false, false, false, false, false, false, false, false, false, false, false, false, false, false, false, false, false, false, false, false, false, false, false, false] rfl rfl (take_ofW HT_.out HW_.out (by kernel_rfl)) (fun _ _ _ h => h) (Or.inl ⟨by rfl, ?_⟩) hHeld ?_ ?_
  rotate_left
  · rintro w' ⟨s0, s1, s2, s3, s4, s5, s6, s7⟩
    go_simp
    with_reducible rfl
  rotate_left
  · simp only [Act.put, List.setIfInBounds_toArray, List.set_cons_zero, List.set_cons_succ, i64_w, i32_w]
    rfl
  refine one_ (i := 2) (N := some 123) #[true, true, true, true, true, false, false, false, false, false, false, false, false, false, false, false, false, false, false, false, false, false, false, false, false, false, false, false, false, false] rfl rfl (one_of HT_.out (by kernel_rfl)) (by decide) (fun K hK => ?_)
  refine goes_ Tryd.func21 (by kernel_rfl) rfl #[.agg #[.slice A0_0 l0_0.length c0_0, .slice A0_1 l0_1.length c0_1]] (by rfl) rfl rfl (by (try simp only [List.map_toArray, List.map_cons, List.map_nil]); first | done | rfl | (simp only [List.length_drop, List.length_take]; rfl)) ?_
  with_reducible refine (table_Right.calls k _ _ l0_0 _ _ l0_1 t279 _ ?side1 ?side2 ?side3 ?side4 ?side5 A2.out).mono ?_
  (case side1 => repeat (first | exact (Kd.C_below HR0_0.out HB.out) | (with_reducible refine Kd.C_alloc ?_ _) | (with_reducible refine Kd.C_drewN ?_ _) | (with_reducible refine Kd.C_drew ?_)))
  (case side2 => exact HC0_0.out)
  (case side3 => repeat (first | exact (Kd.C_below HR0_1.out HB.out) | (with_reducible refine Kd.C_alloc ?_ _) | (with_reducible refine Kd.C_drewN ?_ _) | (with_reducible refine Kd.C_drew ?_)))
  (case side4 => exact HC0_1.out)
  (case side5 => first | exact HLd | (refine Ld.below HLd ?_; repeat (first | (with_reducible first | exact HB.out | apply below_alloc | apply pw_below_drewN | apply below_drew1 | refine below_set ?_ GE278.out) | exact HB.out)))
  rintro e w13 ⟨rfl, hb⟩
  refine ⟨_, rfl, ?_⟩
  have n0_ := Aside0.mk (blk_below (g := gBX) (o := .cells #[.slice A0_0 l0_0.length c0_0, .slice A0_1 l0_1.length c0_1, .int .i64 a0_2, .int .i64 a0_3, .int .i64 a0_4, .int .i64 a0_5, .int .u64 a0_6, .int .i64 a0_7] 30 (0, 0)) (by (with_reducible repeat (first | refine blk_drewN ?_ _ | refine blk_drew ?_ | refine blk_alloc ?_ _)); exact BK278.out) hb)
  have n1_ := Aside0.mk (below_step (by repeat (first | (with_reducible first | exact HB.out | apply below_alloc | apply pw_below_drewN | apply below_drew1 | refine below_set ?_ GE278.out) | exact HB.out)) hb)
  clear BK278
  clear HB
  have BK278 := n0_
  have HB := n1_
  clear n0_ n1_
  (try clear hb)
  (try clear hb2)
  (try clear hk)
  (try clear hi)
  refine hK.out _ _ ⟨(blk_cell BK278.out 0).trans rfl, (blk_cell BK278.out 1).trans rfl, (blk_cell BK278.out 2).trans rfl, (blk_cell BK278.out 3).trans rfl, (blk_cell BK278.out 4).trans rfl, (blk_cell BK278.out 5).trans rfl, (blk_cell BK278.out 6).trans rfl, (blk_cell BK278.out 7).trans rfl⟩ (fun hHeld => ?_)
  clear hK K
  refine norm_ (a' := ?_) ?_ ?_
  rotate_left
  · show Act.put _ (some 123) _ = _
    simp only [Act.put, List.setIfInBounds_toArray, List.set_cons_zero, List.set_cons_succ, i64_w, i32_w]
    rfl
  refine one_ (i := 5) (N := some 126) #[true, true, true, true, true, true, false, false, false, false, false, false, false, false, false, false, false, false, false, false, false, false, false, false, false, false, false, false, false, false] rfl rfl (one_of HT_.out (by kernel_rfl)) (by decide) (fun K hK => ?_)
  refine goes_ Tryd.func20 (by kernel_rfl) rfl #[.agg #[.slice A0_0 l0_0.length c0_0, .slice A0_1 l0_1.length c0_1]] (by rfl) rfl rfl (by (try simp only [List.map_toArray, List.map_cons, List.map_nil]); first | done | rfl | (simp only [List.length_drop, List.length_take]; rfl)) ?_
  with_reducible refine (turnspitref14_Right.calls k _ _ l0_0 _ _ l0_1 t279 _ ?side1 ?side2 ?side3 ?side4 ?side5 A3.out).mono ?_
  (case side1 => repeat (first | exact (Kd.C_below HR0_0.out HB.out) | (with_reducible refine Kd.C_alloc ?_ _) | (with_reducible refine Kd.C_drewN ?_ _) | (with_reducible refine Kd.C_drew ?_)))
  (case side2 => exact HC0_0.out)
  (case side3 => repeat (first | exact (Kd.C_below HR0_1.out HB.out) | (with_reducible refine Kd.C_alloc ?_ _) | (with_reducible refine Kd.C_drewN ?_ _) | (with_reducible refine Kd.C_drew ?_)))
  (case side4 => exact HC0_1.out)
  (case side5 => first | exact HLd | (refine Ld.below HLd ?_; repeat (first | (with_reducible first | exact HB.out | apply below_alloc | apply pw_below_drewN | apply below_drew1 | refine below_set ?_ GE278.out) | exact HB.out)))
  rintro e w14 ⟨rfl, hb⟩
  refine ⟨_, rfl, ?_⟩
  have n0_ := Aside0.mk (blk_below (g := gBX) (o := .cells #[.slice A0_0 l0_0.length c0_0, .slice A0_1 l0_1.length c0_1, .int .i64 a0_2, .int .i64 a0_3, .int .i64 a0_4, .int .i64 a0_5, .int .u64 a0_6, .int .i64 a0_7] 30 (0, 0)) (by (with_reducible repeat (first | refine blk_drewN ?_ _ | refine blk_drew ?_ | refine blk_alloc ?_ _)); exact BK278.out) hb)
  have n1_ := Aside0.mk (below_step (by repeat (first | (with_reducible first | exact HB.out | apply below_alloc | apply pw_below_drewN | apply below_drew1 | refine below_set ?_ GE278.out) | exact HB.out)) hb)
  clear BK278
  clear HB
  have BK278 := n0_
  have HB := n1_
  clear n0_ n1_
  (try clear hb)
  (try clear hb2)
  (try clear hk)
  (try clear hi)
  refine hK.out _ _ ⟨(blk_cell BK278.out 0).trans rfl, (blk_cell BK278.out 1).trans rfl, (blk_cell BK278.out 2).trans rfl, (blk_cell BK278.out 3).trans rfl, (blk_cell BK278.out 4).trans rfl, (blk_cell BK278.out 5).trans rfl, (blk_cell BK278.out 6).trans rfl, (blk_cell BK278.out 7).trans rfl⟩ (fun hHeld => ?_)
  clear hK K
  refine norm_ (a' := ?_) ?_ ?_
  rotate_left
  · show Act.put _ (some 126) _ = _
    simp only [Act.put, List.setIfInBounds_toArray, List.set_cons_zero, List.set_cons_succ, i64_w, i32_w]
    rfl
  refine pure_ (i := 6) (N := some 127) (v := ?_) (a' := ?_) #[true, true, true, true, true, true, true, false, false, false, false, false, false, false, false, false, false, false, false, false, false, false, false, false, false, false, false, false, false, false] rfl rfl (any_of HT_.out (by kernel_rfl)) (fun _ _ _ h => h) (Or.inl ⟨by rfl, ?_⟩) ?_ ?_
  rotate_left
  · intro w'
    go_simp
    with_reducible rfl
  rotate_left
  · simp only [Act.put, List.setIfInBounds_toArray, List.set_cons_zero, List.set_cons_succ, i64_w, i32_w]
    rfl
  refine pure_ (i := 7) (N := some 128) (v := ?_) (a' := ?_) #[true, true, true, true, true, true, true, true, false, false, false, false, false, false, false, false, false, false, false, false, false, false, false, false, false, false, false, false, false, false] rfl rfl (any_of HT_.out (by kernel_rfl)) (fun _ _ _ h => h) (Or.inl ⟨by rfl, ?_⟩) ?_ ?_
  rotate_left
  · intro w'
    go_simp
    with_reducible rfl
  rotate_left
  · simp only [Act.put, List.setIfInBounds_toArray, List.set_cons_zero, List.set_cons_succ, i64_w, i32_w]
    rfl
  refine pure_ (i := 8) (N := some 129) (v := ?_) (a' := ?_) #[true, true, true, true, true, true, true, true, true, false, false, false, false, false, false, false, false, false, false, false, false, false, false, false, false, false, false, false, false, false] rfl rfl (any_of HT_.out (by kernel_rfl)) (fun _ _ _ h => h) (Or.inl ⟨by rfl, ?_⟩) ?_ ?_
  rotate_left
  · intro w'
    go_simp
    with_reducible rfl
  rotate_left
  · simp only [Act.put, List.setIfInBounds_toArray, List.set_cons_zero, List.set_cons_succ, i64_w, i32_w]
    rfl
  refine pure_ (i := 10) (N := some 131) (v := ?_) (a' := ?_) #[true, true, true, true, true, true, true, true, true, false, true, false, false, false, false, false, false, false, false, false, false, false, false, false, false, false, false, false, false, false] rfl rfl (any_of HT_.out (by kernel_rfl)) (fun _ _ _ h => h) (Or.inl ⟨by rfl, ?_⟩) ?_ ?_
  rotate_left
  · intro w'
    go_simp
    with_reducible rfl
  rotate_left
  · simp only [Act.put, List.setIfInBounds_toArray, List.set_cons_zero, List.set_cons_succ, i64_w, i32_w]
    rfl
  refine pure_ (i := 13) (N := some 134) (v := ?_) (a' := ?_) #[true, true, true, true, true, true, true, true, true, false, true, false, false, true, false, false, false, false, false, false, false, false, false, false, false, false, false, false, false, false] rfl rfl (any_of HT_.out (by kernel_rfl)) (fun _ _ _ h => h) (Or.inl ⟨by rfl, ?_⟩) ?_ ?_
  rotate_left
  · intro w'
    go_simp
    with_reducible rfl
  rotate_left
  · simp only [Act.put, List.setIfInBounds_toArray, List.set_cons_zero, List.set_cons_succ, i64_w, i32_w]
    rfl
  refine pure_ (i := 15) (N := some 136) (v := ?_) (a' := ?_) #[true, true, true, true, true, true, true, true, true, false, true, false, false, true, false, true, false, false, false, false, false, false, false, false, false, false, false, false, false, false] rfl rfl (any_of HT_.out (by kernel_rfl)) (fun _ _ _ h => h) (Or.inl ⟨by rfl, ?_⟩) ?_ ?_
  rotate_left
  · intro w'
    go_simp
    with_reducible rfl
  rotate_left
  · simp only [Act.put, List.setIfInBounds_toArray, List.set_cons_zero, List.set_cons_succ, i64_w, i32_w]
    rfl
  refine take_ (i := 9) (N := some 130) (v := ?_) (a' := ?_) #[true, true, true, true, true, true, true, true, true, true, true, false, false, true, false, true, false, false, false, false, false, false, false, false, false, false, false, false, false, false] rfl rfl (take_ofW HT_.out HW_.out (by kernel_rfl)) (fun _ _ _ h => h) (Or.inl ⟨by rfl, ?_⟩) hHeld ?_ ?_
  rotate_left
  · rintro w' ⟨s0, s1, s2, s3, s4, s5, s6, s7⟩
    go_simp
    with_reducible rfl
  rotate_left
  · simp only [Act.put, List.setIfInBounds_toArray, List.set_cons_zero, List.set_cons_succ, i64_w, i32_w]
    rfl
  refine take_ (i := 11) (N := some 132) (v := ?_) (a' := ?_) #[true, true, true, true, true, true, true, true, true, true, true, true, false, true, false, true, false, false, false, false, false, false, false, false, false, false, false, false, false, false] rfl rfl (take_ofW HT_.out HW_.out (by kernel_rfl)) (fun _ _ _ h => h) (Or.inl ⟨by rfl, ?_⟩) hHeld ?_ ?_
  rotate_left
  · rintro w' ⟨s0, s1, s2, s3, s4, s5, s6, s7⟩
    go_simp
    with_reducible rfl
  rotate_left
  · simp only [Act.put, List.setIfInBounds_toArray, List.set_cons_zero, List.set_cons_succ, i64_w, i32_w]
    rfl
  refine take_ (i := 14) (N := some 135) (v := ?_) (a' := ?_) #[true, true, true, true, true, true, true, true, true, true, true, true, false, true, true, true, false, false, false, false, false, false, false, false, false, false, false, false, false, false] rfl rfl (take_ofW HT_.out HW_.out (by kernel_rfl)) (fun _ _ _ h => h) (Or.inl ⟨by rfl, ?_⟩) hHeld ?_ ?_
  rotate_left
  · rintro w' ⟨s0, s1, s2, s3, s4, s5, s6, s7⟩
    go_simp
    with_reducible rfl
  rotate_left
  · simp only [Act.put, List.setIfInBounds_toArray, List.set_cons_zero, List.set_cons_succ, i64_w, i32_w]
    rfl
  refine take_ (i := 16) (N := some 137) (v := ?_) (a' := ?_) #[true, true, true, true, true, true, true, true, true, true, true, true, false, true, true, true, true, false, false, false, false, false, false, false, false, false, false, false, false, false] rfl rfl (take_ofW HT_.out HW_.out (by kernel_rfl)) (fun _ _ _ h => h) (Or.inl ⟨by rfl, ?_⟩) hHeld ?_ ?_
  rotate_left
  · rintro w' ⟨s0, s1, s2, s3, s4, s5, s6, s7⟩
    go_simp
    with_reducible rfl
  rotate_left
  · simp only [Act.put, List.setIfInBounds_toArray, List.set_cons_zero, List.set_cons_succ, i64_w, i32_w]
    rfl
  refine one_ (i := 12) (N := some 133) #[true, true, true, true, true, true, true, true, true, true, true, true, true, true, true, true, true, false, false, false, false, false, false, false, false, false, false, false, false, false] rfl rfl (one_of HT_.out (by kernel_rfl)) (by decide) (fun K hK => ?_)
  refine goes_ Tryd.func22 (by kernel_rfl) rfl #[.agg #[.slice A0_0 l0_0.length c0_0, .slice A0_1 l0_1.length c0_1], .agg #[.int .i64 a0_2, .int .i64 a0_3]] (by rfl) rfl rfl (by (try simp only [List.map_toArray, List.map_cons, List.map_nil]); first | done | rfl | (simp only [List.length_drop, List.length_take]; rfl)) ?_
  with_reducible refine (table_Check.calls k _ _ l0_0 _ _ l0_1 a0_2 a0_3 t281 _ ?side1 ?side2 ?side3 ?side4 ?side5 A5.out).mono ?_
  (case side1 => repeat (first | exact (Kd.C_below HR0_0.out HB.out) | (with_reducible refine Kd.C_alloc ?_ _) | (with_reducible refine Kd.C_drewN ?_ _) | (with_reducible refine Kd.C_drew ?_)))
  (case side2 => exact HC0_0.out)
  (case side3 => repeat (first | exact (Kd.C_below HR0_1.out HB.out) | (with_reducible refine Kd.C_alloc ?_ _) | (with_reducible refine Kd.C_drewN ?_ _) | (with_reducible refine Kd.C_drew ?_)))
  (case side4 => exact HC0_1.out)
  (case side5 => first | exact HLd | (refine Ld.below HLd ?_; repeat (first | (with_reducible first | exact HB.out | apply below_alloc | apply pw_below_drewN | apply below_drew1 | refine below_set ?_ GE278.out) | exact HB.out)))
  rintro e w15 ⟨rfl, hb⟩
  refine ⟨_, rfl, ?_⟩
  have n0_ := Aside0.mk (blk_below (g := gBX) (o := .cells #[.slice A0_0 l0_0.length c0_0, .slice A0_1 l0_1.length c0_1, .int .i64 a0_2, .int .i64 a0_3, .int .i64 a0_4, .int .i64 a0_5, .int .u64 a0_6, .int .i64 a0_7] 30 (0, 0)) (by (with_reducible repeat (first | refine blk_drewN ?_ _ | refine blk_drew ?_ | refine blk_alloc ?_ _)); exact BK278.out) hb)
  have n1_ := Aside0.mk (below_step (by repeat (first | (with_reducible first | exact HB.out | apply below_alloc | apply pw_below_drewN | apply below_drew1 | refine below_set ?_ GE278.out) | exact HB.out)) hb)
  clear BK278
  clear HB
  have BK278 := n0_
  have HB := n1_
  clear n0_ n1_
  (try clear hb)
  (try clear hb2)
  (try clear hk)
  (try clear hi)
  refine hK.out _ _ ⟨(blk_cell BK278.out 0).trans rfl, (blk_cell BK278.out 1).trans rfl, (blk_cell BK278.out 2).trans rfl, (blk_cell BK278.out 3).trans rfl, (blk_cell BK278.out 4).trans rfl, (blk_cell BK278.out 5).trans rfl, (blk_cell BK278.out 6).trans rfl, (blk_cell BK278.out 7).trans rfl⟩ (fun hHeld => ?_)
  clear hK K
  refine norm_ (a' := ?_) ?_ ?_
  rotate_left
  · show Act.put _ (some 133) _ = _
    simp only [Act.put, List.setIfInBounds_toArray, List.set_cons_zero, List.set_cons_succ, i64_w, i32_w]
    rfl
  refine one_ (i := 17) (N := some 138) #[true, true, true, true, true, true, true, true, true, true, true, true, true, true, true, true, true, true, false, false, false, false, false, false, false, false, false, false, false, false] rfl rfl (one_of HT_.out (by kernel_rfl)) (by decide) (fun K hK => ?_)
  refine goes_ Tryd.func30 (by kernel_rfl) rfl #[.agg #[.slice A0_0 l0_0.length c0_0, .slice A0_1 l0_1.length c0_1], .agg #[.int .i64 a0_2, .int .i64 a0_3]] (by rfl) rfl rfl (by (try simp only [List.map_toArray, List.map_cons, List.map_nil]); first | done | rfl | (simp only [List.length_drop, List.length_take]; rfl)) ?_
  with_reducible refine (turnspitref14_Check.calls k _ _ l0_0 _ _ l0_1 a0_2 a0_3 t281 _ ?side1 ?side2 ?side3 ?side4 ?side5 A6.out).mono ?_
  (case side1 => repeat (first | exact (Kd.C_below HR0_0.out HB.out) | (with_reducible refine Kd.C_alloc ?_ _) | (with_reducible refine Kd.C_drewN ?_ _) | (with_reducible refine Kd.C_drew ?_)))
  (case side2 => exact HC0_0.out)
  (case side3 => repeat (first | exact (Kd.C_below HR0_1.out HB.out) | (with_reducible refine Kd.C_alloc ?_ _) | (with_reducible refine Kd.C_drewN ?_ _) | (with_reducible refine Kd.C_drew ?_)))
  (case side4 => exact HC0_1.out)
  (case side5 => first | exact HLd | (refine Ld.below HLd ?_; repeat (first | (with_reducible first | exact HB.out | apply below_alloc | apply pw_below_drewN | apply below_drew1 | refine below_set ?_ GE278.out) | exact HB.out)))
  rintro e w16 ⟨rfl, hb⟩
  refine ⟨_, rfl, ?_⟩
  have n0_ := Aside0.mk (blk_below (g := gBX) (o := .cells #[.slice A0_0 l0_0.length c0_0, .slice A0_1 l0_1.length c0_1, .int .i64 a0_2, .int .i64 a0_3, .int .i64 a0_4, .int .i64 a0_5, .int .u64 a0_6, .int .i64 a0_7] 30 (0, 0)) (by (with_reducible repeat (first | refine blk_drewN ?_ _ | refine blk_drew ?_ | refine blk_alloc ?_ _)); exact BK278.out) hb)
  have n1_ := Aside0.mk (below_step (by repeat (first | (with_reducible first | exact HB.out | apply below_alloc | apply pw_below_drewN | apply below_drew1 | refine below_set ?_ GE278.out) | exact HB.out)) hb)
  clear BK278
  clear HB
  have BK278 := n0_
  have HB := n1_
  clear n0_ n1_
  (try clear hb)
  (try clear hb2)
  (try clear hk)
  (try clear hi)
  refine hK.out _ _ ⟨(blk_cell BK278.out 0).trans rfl, (blk_cell BK278.out 1).trans rfl, (blk_cell BK278.out 2).trans rfl, (blk_cell BK278.out 3).trans rfl, (blk_cell BK278.out 4).trans rfl, (blk_cell BK278.out 5).trans rfl, (blk_cell BK278.out 6).trans rfl, (blk_cell BK278.out 7).trans rfl⟩ (fun hHeld => ?_)
  clear hK K
  refine norm_ (a' := ?_) ?_ ?_
  rotate_left
  · show Act.put _ (some 138) _ = _
    simp only [Act.put, List.setIfInBounds_toArray, List.set_cons_zero, List.set_cons_succ, i64_w, i32_w]
    rfl
  refine pure_ (i := 18) (N := some 139) (v := ?_) (a' := ?_) #[true, true, true, true, true, true, true, true, true, true, true, true, true, true, true, true, true, true, true, false, false, false, false, false, false, false, false, false, false, false] rfl rfl (any_of HT_.out (by kernel_rfl)) (fun _ _ _ h => h) (Or.inl ⟨by rfl, ?_⟩) ?_ ?_
  rotate_left
  · intro w'
    go_simp
    with_reducible rfl
  rotate_left
  · simp only [Act.put, List.setIfInBounds_toArray, List.set_cons_zero, List.set_cons_succ, i64_w, i32_w]
    rfl
  refine pure_ (i := 19) (N := some 140) (v := ?_) (a' := ?_) #[true, true, true, true, true, true, true, true, true, true, true, true, true, true, true, true, true, true, true, true, false, false, false, false, false, false, false, false, false, false] rfl rfl (any_of HT_.out (by kernel_rfl)) (fun _ _ _ h => h) (Or.inl ⟨by rfl, ?_⟩) ?_ ?_
  rotate_left
  · intro w'
    go_simp
    with_reducible rfl
  rotate_left
  · simp only [Act.put, List.setIfInBounds_toArray, List.set_cons_zero, List.set_cons_succ, i64_w, i32_w]
    rfl
  refine pure_ (i := 20) (N := some 141) (v := ?_) (a' := ?_) #[true, true, true, true, true, true, true, true, true, true, true, true, true, true, true, true, true, true, true, true, true, false, false, false, false, false, false, false, false, false] rfl rfl (any_of HT_.out (by kernel_rfl)) (fun _ _ _ h => h) (Or.inl ⟨by rfl, ?_⟩) ?_ ?_
  rotate_left
  · intro w'
    go_simp
    with_reducible rfl
  rotate_left
  · simp only [Act.put, List.setIfInBounds_toArray, List.set_cons_zero, List.set_cons_succ, i64_w, i32_w]
    rfl
  refine pure_ (i := 21) (N := some 142) (v := ?_) (a' := ?_) #[true, true, true, true, true, true, true, true, true, true, true, true, true, true, true, true, true, true, true, true, true, true, false, false, false, false, false, false, false, false] rfl rfl (any_of HT_.out (by kernel_rfl)) (fun _ _ _ h => h) (Or.inl ⟨by rfl, ?_⟩) ?_ ?_
  rotate_left
  · intro w'
    go_simp
    with_reducible rfl
  rotate_left
  · simp only [Act.put, List.setIfInBounds_toArray, List.set_cons_zero, List.set_cons_succ, i64_w, i32_w]
    rfl
  refine pure_ (i := 24) (N := some 145) (v := ?_) (a' := ?_) #[true, true, true, true, true, true, true, true, true, true, true, true, true, true, true, true, true, true, true, true, true, true, false, false, true, false, false, false, false, false] rfl rfl (any_of HT_.out (by kernel_rfl)) (fun _ _ _ h => h) (Or.inl ⟨by rfl, ?_⟩) ?_ ?_
  rotate_left
  · intro w'
    go_simp
    with_reducible rfl
  rotate_left
  · simp only [Act.put, List.setIfInBounds_toArray, List.set_cons_zero, List.set_cons_succ, i64_w, i32_w]
    rfl
  refine take_ (i := 22) (N := some 143) (v := ?_) (a' := ?_) #[true, true, true, true, true, true, true, true, true, true, true, true, true, true, true, true, true, true, true, true, true, true, true, false, true, false, false, false, false, false] rfl rfl (take_ofW HT_.out HW_.out (by kernel_rfl)) (fun _ _ _ h => h) (Or.inl ⟨by rfl, ?_⟩) hHeld ?_ ?_
  rotate_left
  · rintro w' ⟨s0, s1, s2, s3, s4, s5, s6, s7⟩
    go_simp
    with_reducible rfl
  rotate_left
  · simp only [Act.put, List.setIfInBounds_toArray, List.set_cons_zero, List.set_cons_succ, i64_w, i32_w]
    rfl
  refine take_ (i := 25) (N := some 146) (v := ?_) (a' := ?_) #[true, true, true, true, true, true, true, true, true, true, true, true, true, true, true, true, true, true, true, true, true, true, true, false, true, true, false, false, false, false] rfl rfl (take_ofW HT_.out HW_.out (by kernel_rfl)) (fun _ _ _ h => h) (Or.inl ⟨by rfl, ?_⟩) hHeld ?_ ?_
  rotate_left
  · rintro w' ⟨s0, s1, s2, s3, s4, s5, s6, s7⟩
    go_simp
    with_reducible rfl
  rotate_left
  · simp only [Act.put, List.setIfInBounds_toArray, List.set_cons_zero, List.set_cons_succ, i64_w, i32_w]
    rfl
  refine one_ (i := 23) (N := some 144) #[true, true, true, true, true, true, true, true, true, true, true, true, true, true, true, true, true, true, true, true, true, true, true, true, true, true, false, false, false, false] rfl rfl (one_of HT_.out (by kernel_rfl)) (by decide) (fun K hK => ?_)
  refine goes_ Tryd.func23 (by kernel_rfl) rfl #[.agg #[.slice A0_0 l0_0.length c0_0, .slice A0_1 l0_1.length c0_1]] (by rfl) rfl rfl (by (try simp only [List.map_toArray, List.map_cons, List.map_nil]); first | done | rfl | (simp only [List.length_drop, List.length_take]; rfl)) ?_
  with_reducible refine (table_Live.calls k _ _ l0_0 _ _ l0_1 t283 _ ?side1 ?side2 ?side3 ?side4 ?side5 A8.out).mono ?_
  (case side1 => repeat (first | exact (Kd.C_below HR0_0.out HB.out) | (with_reducible refine Kd.C_alloc ?_ _) | (with_reducible refine Kd.C_drewN ?_ _) | (with_reducible refine Kd.C_drew ?_)))
  (case side2 => exact HC0_0.out)
  (case side3 => repeat (first | exact (Kd.C_below HR0_1.out HB.out) | (with_reducible refine Kd.C_alloc ?_ _) | (with_reducible refine Kd.C_drewN ?_ _) | (with_reducible refine Kd.C_drew ?_)))
  (case side4 => exact HC0_1.out)
  (case side5 => first | exact HLd | (refine Ld.below HLd ?_; repeat (first | (with_reducible first | exact HB.out | apply below_alloc | apply pw_below_drewN | apply below_drew1 | refine below_set ?_ GE278.out) | exact HB.out)))
  rintro e w17 ⟨v284, rfl, ho0, hb⟩
  refine ⟨_, rfl, ?_⟩
  have n0_ := Aside0.mk (Kd.R_lower ho0 (below_size (by repeat (first | (with_reducible first | exact HB.out | apply below_alloc | apply pw_below_drewN | apply below_drew1 | refine below_set ?_ GE278.out) | exact HB.out))))
  have n1_ := Aside0.mk (blk_below (g := gBX) (o := .cells #[.slice A0_0 l0_0.length c0_0, .slice A0_1 l0_1.length c0_1, .int .i64 a0_2, .int .i64 a0_3, .int .i64 a0_4, .int .i64 a0_5, .int .u64 a0_6, .int .i64 a0_7] 30 (0, 0)) (by (with_reducible repeat (first | refine blk_drewN ?_ _ | refine blk_drew ?_ | refine blk_alloc ?_ _)); exact BK278.out) hb)
  have n2_ := Aside0.mk (below_step (by repeat (first | (with_reducible first | exact HB.out | apply below_alloc | apply pw_below_drewN | apply below_drew1 | refine below_set ?_ GE278.out) | exact HB.out)) hb)
  clear BK278
  clear HB
  have HO285 := n0_
  have BK278 := n1_
  have HB := n2_
  clear n0_ n1_ n2_
  (try clear hb)
  (try clear hb2)
  (try clear hk)
  (try clear hi)
  (try clear ho0)
  refine hK.out _ _ ⟨(blk_cell BK278.out 0).trans rfl, (blk_cell BK278.out 1).trans rfl, (blk_cell BK278.out 2).trans rfl, (blk_cell BK278.out 3).trans rfl, (blk_cell BK278.out 4).trans rfl, (blk_cell BK278.out 5).trans rfl, (blk_cell BK278.out 6).trans rfl, (blk_cell BK278.out 7).trans rfl⟩ (fun hHeld => ?_)
  clear hK K
  refine norm_ (a' := ?_) ?_ ?_
  rotate_left
  · show Act.put _ (some 144) _ = _
    simp only [Act.put, List.setIfInBounds_toArray, List.set_cons_zero, List.set_cons_succ, i64_w, i32_w]
    rfl
  refine one_ (i := 26) (N := some 147) #[true, true, true, true, true, true, true, true, true, true, true, true, true, true, true, true, true, true, true, true, true, true, true, true, true, true, true, false, false, false] rfl rfl (one_of HT_.out (by kernel_rfl)) (by decide) (fun K hK => ?_)
  refine goes_ Tryd.func31 (by kernel_rfl) rfl #[.agg #[.slice A0_0 l0_0.length c0_0, .slice A0_1 l0_1.length c0_1]] (by rfl) rfl rfl (by (try simp only [List.map_toArray, List.map_cons, List.map_nil]); first | done | rfl | (simp only [List.length_drop, List.length_take]; rfl)) ?_
  with_reducible refine (turnspitref14_Live.calls k _ _ l0_0 _ _ l0_1 t283 _ ?side1 ?side2 ?side3 ?side4 ?side5 A9.out).mono ?_
  (case side1 => repeat (first | exact (Kd.C_below HR0_0.out HB.out) | (with_reducible refine Kd.C_alloc ?_ _) | (with_reducible refine Kd.C_drewN ?_ _) | (with_reducible refine Kd.C_drew ?_)))
  (case side2 => exact HC0_0.out)
  (case side3 => repeat (first | exact (Kd.C_below HR0_1.out HB.out) | (with_reducible refine Kd.C_alloc ?_ _) | (with_reducible refine Kd.C_drewN ?_ _) | (with_reducible refine Kd.C_drew ?_)))
  (case side4 => exact HC0_1.out)
  (case side5 => first | exact HLd | (refine Ld.below HLd ?_; repeat (first | (with_reducible first | exact HB.out | apply below_alloc | apply pw_below_drewN | apply below_drew1 | refine below_set ?_ GE278.out) | exact HB.out)))
  rintro e w18 ⟨v287, rfl, ho0, hb⟩
  refine ⟨_, rfl, ?_⟩
  have n0_ := Aside0.mk (Kd.R_elder' (by (with_reducible repeat (first | apply Kd.R_alloc | apply Kd.R_drewN | apply Kd.R_drew)); exact HO285.out) (Kd.R_base ho0) hb)
  have n1_ := Aside0.mk (Kd.R_lower (Kd.R_new' ho0 (Kd.R_lt (by (with_reducible repeat (first | apply Kd.R_alloc | apply Kd.R_drewN | apply Kd.R_drew)); exact HO285.out))) (below_size (by repeat (first | (with_reducible first | exact HB.out | apply below_alloc | apply pw_below_drewN | apply below_drew1 | refine below_set ?_ GE278.out) | exact HB.out))))
  have n2_ := Aside0.mk (blk_below (g := gBX) (o := .cells #[.slice A0_0 l0_0.length c0_0, .slice A0_1 l0_1.length c0_1, .int .i64 a0_2, .int .i64 a0_3, .int .i64 a0_4, .int .i64 a0_5, .int .u64 a0_6, .int .i64 a0_7] 30 (0, 0)) (by (with_reducible repeat (first | refine blk_drewN ?_ _ | refine blk_drew ?_ | refine blk_alloc ?_ _)); exact BK278.out) hb)
  have n3_ := Aside0.mk (below_step (by repeat (first | (with_reducible first | exact HB.out | apply below_alloc | apply pw_below_drewN | apply below_drew1 | refine below_set ?_ GE278.out) | exact HB.out)) hb)
  clear HO285
  clear BK278
  clear HB
  have HO285 := n0_
  have HO288 := n1_
  have BK278 := n2_
  have HB := n3_
  clear n0_ n1_ n2_ n3_
  (try clear hb)
  (try clear hb2)
  (try clear hk)
  (try clear hi)
  (try clear ho0)
  obtain ⟨Ao19, co19, eo19⟩ := Kd.R_slice HO285.out
  (first | subst eo19 | (injection eo19 with f1_ f2_ f3_; have f4_ := f1_.symm; have f5_ := f3_.symm; clear f1_ f2_ f3_; subst f4_; subst f5_))
  obtain ⟨Ao20, co20, eo20⟩ := Kd.R_slice HO288.out
  (first | subst eo20 | (injection eo20 with f1_ f2_ f3_; have f4_ := f1_.symm; have f5_ := f3_.symm; clear f1_ f2_ f3_; subst f4_; subst f5_))
  refine hK.out _ _ ⟨(blk_cell BK278.out 0).trans rfl, (blk_cell BK278.out 1).trans rfl, (blk_cell BK278.out 2).trans rfl, (blk_cell BK278.out 3).trans rfl, (blk_cell BK278.out 4).trans rfl, (blk_cell BK278.out 5).trans rfl, (blk_cell BK278.out 6).trans rfl, (blk_cell BK278.out 7).trans rfl⟩ (fun hHeld => ?_)
  clear hK K
  refine norm_ (a' := ?_) ?_ ?_
  rotate_left
  · show Act.put _ (some 147) _ = _
    simp only [Act.put, List.setIfInBounds_toArray, List.set_cons_zero, List.set_cons_succ, i64_w, i32_w]
    rfl
  refine one_ (i := 27) (N := some 148) #[true, true, true, true, true, true, true, true, true, true, true, true, true, true, true, true, true, true, true, true, true, true, true, true, true, true, true, true, false, false] rfl rfl (one_of HT_.out (by kernel_rfl)) (by decide) (fun K hK => ?_)
  refine goes_ Tryd.func24 (by kernel_rfl) rfl #[.slice Ao19 t283.length co19, .slice Ao20 t283.length co20] (by rfl) rfl rfl (by (try simp only [List.map_toArray, List.map_cons, List.map_nil]); first | done | rfl | (simp only [List.length_drop, List.length_take]; rfl)) ?_
  with_reducible refine (turnspitref14_Handles.calls k _ _ t283 _ _ t283 true _ ?side1 ?side2 ?side3 ?side4 A10.out).mono ?_
  (case side1 => repeat (first | exact (Kd.R_reads' HO285.out).2.2 | (with_reducible refine Kd.C_alloc ?_ _) | (with_reducible refine Kd.C_drewN ?_ _) | (with_reducible refine Kd.C_drew ?_)))
  (case side2 => exact (Kd.R_reads' HO285.out).2.1)
  (case side3 => repeat (first | exact (Kd.R_reads' HO288.out).2.2 | (with_reducible refine Kd.C_alloc ?_ _) | (with_reducible refine Kd.C_drewN ?_ _) | (with_reducible refine Kd.C_drew ?_)))
  (case side4 => exact (Kd.R_reads' HO288.out).2.1)
  rintro e w' ⟨rfl, ⟨nd, rfl⟩⟩
  refine ⟨_, rfl, ?_⟩
  refine hK.out _ _ ⟨(blk_cell BK278.out 0).trans rfl, (blk_cell BK278.out 1).trans rfl, (blk_cell BK278.out 2).trans rfl, (blk_cell BK278.out 3).trans rfl, (blk_cell BK278.out 4).trans rfl, (blk_cell BK278.out 5).trans rfl, (blk_cell BK278.out 6).trans rfl, (blk_cell BK278.out 7).trans rfl⟩ (fun hHeld => ?_)
  clear hK K
  refine norm_ (a' := ?_) ?_ ?_
  rotate_left
  · show Act.put _ (some 148) _ = _
    simp only [Act.put, List.setIfInBounds_toArray, List.set_cons_zero, List.set_cons_succ, i64_w, i32_w]
    rfl
  refine pure_ (i := 28) (N := some 149) (v := ?_) (a' := ?_) #[true, true, true, true, true, true, true, true, true, true, true, true, true, true, true, true, true, true, true, true, true, true, true, true, true, true, true, true, true, false] rfl rfl (any_of HT_.out (by kernel_rfl)) (fun _ _ _ h => h) (Or.inl ⟨by rfl, ?_⟩) ?_ ?_
  rotate_left
  · intro w'
    go_simp
    with_reducible rfl
  rotate_left
  · simp only [Act.put, List.setIfInBounds_toArray, List.set_cons_zero, List.set_cons_succ, i64_w, i32_w]
    rfl
  refine pure_ (i := 29) (N := some 2) (v := ?_) (a' := ?_) #[true, true, true, true, true, true, true, true, true, true, true, true, true, true, true, true, true, true, true, true, true, true, true, true, true, true, true, true, true, true] rfl rfl (any_of HT_.out (by kernel_rfl)) (fun _ _ _ h => h) (Or.inl ⟨by rfl, ?_⟩) ?_ ?_
  rotate_left
  · intro w'
    go_simp
    with_reducible rfl
  rotate_left
  · simp only [Act.put, List.setIfInBounds_toArray, List.set_cons_zero, List.set_cons_succ, i64_w, i32_w]
    rfl
  refine done_ (done_of HT_.out (by kernel_rfl)) ?_
  try go_wp2
  go_ret
  exact ⟨rfl, by repeat (first | exact HB.out | apply below_alloc | apply pw_below_drewN | apply below_drew1)⟩
end Go.Proofs.YtdchbcpfciljoaaDoor.Given
/- The function told of the statements on package table: its contract. -/
namespace Go.Proofs.YtdchbcpfciljoaaDoor.Given
set_option linter.unusedVariables false
set_option linter.unusedSimpArgs false
open Go.RowKit Go.Proofs.YtdchbcpfciljoaaDoor Go.Proofs.YtdchbcpfciljoaaDoor.Print Go.Proofs.YtdchbcpfciljoaaDoor.Pure Go.Proofs.YtdchbcpfciljoaaDoorW.PrintWords
def turnspitlaw14_told.f (l0 : List Int) (l1 : List S52) (a2 a3 a4 a5 a6 a7 : Int) : Option Bool :=
  if l0.length ≤ 70 ∧ l1.length ≤ 70 ∧ (∀ x ∈ l0, 0 ≤ x ∧ x < 18446744073709551616) ∧ (0 ≤ a6 ∧ a6 < 18446744073709551616) ∧ (Lit.int .i64 a7).wf = true then some true else none
theorem turnspitlaw14_told.calls (A0 : Option Addr) (c0 : Nat) (l0 : List Int) (A1 : Option Addr) (c1 : Nat) (l1 : List S52) (a2 a3 a4 a5 a6 a7 : Int) (r : Bool) (w : World) (hr0 : Kd.C (Kd.int .u64) w A0 l0.length l0) (hc0 : l0.length ≤ c0) (hr1 : Kd.C k52 w A1 l1.length l1) (hc1 : l1.length ≤ c1) (HLd : Ld w) (h : turnspitlaw14_told.f l0 l1 a2 a3 a4 a5 a6 a7 = some r) :
    Calls Tryd.prog 11 #[.agg #[.slice A0 l0.length c0, .slice A1 l1.length c1, .int .i64 a2, .int .i64 a3, .int .i64 a4, .int .i64 a5, .int .u64 a6, .int .i64 a7]] w fun e w' => e = .returned (.bool r) ∧ Below w.heap.size w w' := by
  unfold turnspitlaw14_told.f at h
  split at h
  · rename_i hh
    obtain ⟨h0, h1, hU, hm, hw⟩ := hh
    obtain rfl := Option.some.inj h
    have hU' : U l0 := hU
    have l1_ := step_len l0 l1 a2 a7 a4
    have l2_ := exit_len l0 l1 a2 a3
    have l3_ := create_len l0 l1 a4 a5 a6
    have e1 := Create_f l0 l1 hU' a4 a5 a6 hm
    have e2 := rCreate_f l0 l1 hU' a4 a5 a6 hm 400 (by omega)
    have e3 := Exit_f l0 l1 hU' a2 a3
    have e4 := rExit_f l0 l1 hU' a2 a3 400 (by omega)
    have e5 := Step_f l0 l1 hU' a2 a7 a4 hw
    have e6 := rStep_f l0 l1 hU' a2 a7 a4 hw 400 (by omega)
    generalize createS l0 l1 a4 a5 a6 = C at e1 e2 l3_
    generalize exitS l0 l1 a2 a3 = X at e3 e4 l2_
    generalize stepS l0 l1 a2 a7 a4 = S at e5 e6 l1_
    obtain ⟨C0, C1, q1, q2, q3⟩ := C
    obtain ⟨X0, X1, x3⟩ := X
    obtain ⟨S0, S1, s3⟩ := S
    simp only at l1_ l2_ l3_
    have l4_ := liveS_len l0 0
    exact told_walk 400 A0 c0 l0 A1 c1 l1 a2 a3 a4 a5 a6 a7 w hr0 hc0 hr1 hc1 HLd C0 X0 S0 C1 X1 S1 q1 q2 q3 x3 s3 _ _ _ e1 e2 e3 e4 e5 e6
      (same_f C0 C1 (by omega) (by omega) 400 (by omega)) (same_f X0 X1 (by omega) (by omega) 400 (by omega)) (same_f S0 S1 (by omega) (by omega) 400 (by omega))
      (Right_f l0 l1 hU' 400 (by omega)) (rRight_f l0 l1 hU' 400 (by omega)) (Check_f l0 l1 hU' a2 a3 400 (by omega)) (rCheck_f l0 l1 hU' a2 a3 400 (by omega)) (Live_f l0 l1 hU' (by omega) 400 (by omega)) (rLive_f l0 l1 hU' (by omega) 400 (by omega))
      (hand_f _ (by omega) 400 (by omega))
  · cases h
end Go.Proofs.YtdchbcpfciljoaaDoor.Given

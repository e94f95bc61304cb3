/- MaskTells: the walk. -/
import Derived.Test.YtdghjigeddphaaaGA
namespace Go.Proofs.Ytdghjigeddphaaa
open Go.RowKit Go.Proofs.Ytdghjigeddphaaa.Given Go.Proofs.Ytdghjigeddphaaa.Print Go.Proofs.Ytdghjigeddphaaa.Pure Go.Proofs.YtdghjigeddphaaaW.PrintWords
set_option linter.unusedVariables false
set_option linter.unusedSimpArgs false
set_option maxHeartbeats 4000000 in
set_option maxRecDepth 100000 in
theorem tells_walk (m c a p s wv ov : Int) (x u z hv : Bool) (L : List Int) (k : Nat) (w : World)
    (s1 : mask_First.f m = some (a, x)) (s2 : turnspitref04_First.f k m = some (a, x)) (s3 : mask_Next.f m c = some (p, u)) (s4 : turnspitref04_Next.f k m c = some (p, u)) (s5 : mask_Round.f m c = some (s, z)) (s6 : turnspitref04_Round.f k m c = some (s, z))
    (s7 : turnspitref04_List.f k m = some L) (s8 : u64 m ∧ hasB m c = hv) (s9 : turnspitref04_Has.f k m c = some hv) (s10 : mask_With.f m c = some wv) (s11 : turnspitref04_With.f k m c = some wv) (s12 : mask_Without.f m c = some ov) (s13 : turnspitref04_Without.f k m c = some ov)
    (s14 : mask_Count.f m = some (L.length : Int)) (s15 : mask_List.f m = some L) (s16 : turnspitref04_Ints.f k L L = some true) :
    Calls Try.prog 3 #[.int .u64 m, .int .i64 c] w fun e w' => e = .returned (.bool true) ∧ Below w.heap.size w w' := by
  have S1 := Aside0.mk s1
  clear s1
  have S2 := Aside0.mk s2
  clear s2
  have S3 := Aside0.mk s3
  clear s3
  have S4 := Aside0.mk s4
  clear s4
  have S5 := Aside0.mk s5
  clear s5
  have S6 := Aside0.mk s6
  clear s6
  have S7 := Aside0.mk s7
  clear s7
  have S8 := Aside0.mk s8
  clear s8
  have S9 := Aside0.mk s9
  clear s9
  have S10 := Aside0.mk s10
  clear s10
  have S11 := Aside0.mk s11
  clear s11
  have S12 := Aside0.mk s12
  clear s12
  have S13 := Aside0.mk s13
  clear s13
  have S14 := Aside0.mk s14
  clear s14
  have S15 := Aside0.mk s15
  clear s15
  have S16 := Aside0.mk s16
  clear s16
  go_enter Try.func3, Try.ntmps3
  go_wp2_with fail
  refine (mask_First.calls m a x _ S1.out).mono ?_
  rintro e w1 ⟨rfl, hb⟩
  have HB1 := Aside0.mk (below_step (Below.refl w.heap.size w) hb)
  clear hb
  go_wp2_with fail
  refine (turnspitref04_First.calls k m a x _ S2.out).mono ?_
  rintro e w2 ⟨rfl, hb⟩
  have HB2 := Aside0.mk (below_step HB1.out hb)
  clear hb
  go_wp2_with fail
  refine (mask_Next.calls m c p u _ S3.out).mono ?_
  rintro e w3 ⟨rfl, hb⟩
  have HB3 := Aside0.mk (below_step HB2.out hb)
  clear hb
  go_wp2_with fail
  refine (turnspitref04_Next.calls k m c p u _ S4.out).mono ?_
  rintro e w4 ⟨rfl, hb⟩
  have HB4 := Aside0.mk (below_step HB3.out hb)
  clear hb
  go_wp2_with fail
  refine (mask_Round.calls m c s z _ S5.out).mono ?_
  rintro e w5 ⟨rfl, hb⟩
  have HB5 := Aside0.mk (below_step HB4.out hb)
  clear hb
  go_wp2_with fail
  refine (turnspitref04_Round.calls k m c s z _ S6.out).mono ?_
  rintro e w6 ⟨rfl, hb⟩
  have HB6 := Aside0.mk (below_step HB5.out hb)
  clear hb
  go_wp2_with fail
  refine (turnspitref04_List.calls k m L _ S7.out).mono ?_
  rintro e w7 ⟨v1, rfl, ho, hb⟩
  obtain ⟨A1, c1, rfl⟩ := Kd.R_slice ho
  have HO := Aside0.mk ho
  clear ho
  have HB7 := Aside0.mk (below_step HB6.out hb)
  clear hb
  go_wp2_with fail
  refine (turnspitlaw04_awake.calls true _ rfl).mono ?_
  rintro e w8 ⟨rfl, hb⟩
  have HB8 := Aside0.mk (below_step HB7.out hb)
  have HO_ := Aside0.mk (Kd.R_below HO.out hb)
  clear HO
  have HO := HO_
  clear HO_
  clear hb
  go_wp2_with fail
  refine (has_c m c hv _ S8.out).mono ?_
  rintro e w9 ⟨rfl, hb⟩
  have HB9 := Aside0.mk (below_step HB8.out hb)
  have HO_ := Aside0.mk (Kd.R_below HO.out hb)
  clear HO
  have HO := HO_
  clear HO_
  clear hb
  go_wp2_with fail
  refine (turnspitref04_Has.calls k m c hv _ S9.out).mono ?_
  rintro e w10 ⟨rfl, hd⟩
  have hb := Drawn0.below hd
  clear hd
  have HB10 := Aside0.mk (below_step HB9.out hb)
  have HO_ := Aside0.mk (Kd.R_below HO.out hb)
  clear HO
  have HO := HO_
  clear HO_
  clear hb
  go_wp2_with fail
  refine (mask_With.calls m c wv _ S10.out).mono ?_
  rintro e w11 ⟨rfl, hd⟩
  have hb := Drawn0.below hd
  clear hd
  have HB11 := Aside0.mk (below_step HB10.out hb)
  have HO_ := Aside0.mk (Kd.R_below HO.out hb)
  clear HO
  have HO := HO_
  clear HO_
  clear hb
  go_wp2_with fail
  refine (turnspitref04_With.calls k m c wv _ S11.out).mono ?_
  rintro e w12 ⟨rfl, hd⟩
  have hb := Drawn0.below hd
  clear hd
  have HB12 := Aside0.mk (below_step HB11.out hb)
  have HO_ := Aside0.mk (Kd.R_below HO.out hb)
  clear HO
  have HO := HO_
  clear HO_
  clear hb
  go_wp2_with fail
  refine (mask_Without.calls m c ov _ S12.out).mono ?_
  rintro e w13 ⟨rfl, hd⟩
  have hb := Drawn0.below hd
  clear hd
  have HB13 := Aside0.mk (below_step HB12.out hb)
  have HO_ := Aside0.mk (Kd.R_below HO.out hb)
  clear HO
  have HO := HO_
  clear HO_
  clear hb
  go_wp2_with fail
  refine (turnspitref04_Without.calls k m c ov _ S13.out).mono ?_
  rintro e w14 ⟨rfl, hd⟩
  have hb := Drawn0.below hd
  clear hd
  have HB14 := Aside0.mk (below_step HB13.out hb)
  have HO_ := Aside0.mk (Kd.R_below HO.out hb)
  clear HO
  have HO := HO_
  clear HO_
  clear hb
  go_wp2_with fail
  refine (mask_Count.calls m _ _ S14.out).mono ?_
  rintro e w15 ⟨rfl, hb⟩
  have HB15 := Aside0.mk (below_step HB14.out hb)
  have HO_ := Aside0.mk (Kd.R_below HO.out hb)
  clear HO
  have HO := HO_
  clear HO_
  clear hb
  go_wp2_with fail
  refine (mask_List.calls m L _ S15.out).mono ?_
  rintro e w16 ⟨v2, rfl, ho, hb⟩
  obtain ⟨A2, c2, rfl⟩ := Kd.R_slice ho
  have HP := Aside0.mk ho
  clear ho
  have HB16 := Aside0.mk (below_step HB15.out hb)
  have HO_ := Aside0.mk (Kd.R_below HO.out hb)
  clear HO
  have HO := HO_
  clear HO_
  clear hb
  go_wp2_with fail
  refine (turnspitref04_Ints.calls k A2 c2 L A1 c1 L true _ (Kd.R_reads' HP.out).2.2 (Kd.R_reads' HP.out).2.1 (Kd.R_reads' HO.out).2.2 (Kd.R_reads' HO.out).2.1 S16.out).mono ?_
  rintro e w17 ⟨rfl, hd⟩
  have hb := Drawn0.below hd
  clear hd
  have HB17 := Aside0.mk (below_step HB16.out hb)
  have HO_ := Aside0.mk (Kd.R_below HO.out hb)
  clear HO
  have HO := HO_
  clear HO_
  have HP_ := Aside0.mk (Kd.R_below HP.out hb)
  clear HP
  have HP := HP_
  clear HP_
  clear hb
  go_wp2_with fail
  go_ret
  exact ⟨rfl, by repeat (first | exact HB17.out | apply below_alloc | apply pw_below_drewN)⟩
theorem Walk.MaskTells (m : Int) (hm : (Lit.int .u64 m).wf = true) (c : Int) (hc : (Lit.int .i64 c).wf = true) (w : World) :
    Calls Try.prog 3 #[.int .u64 m, .int .i64 c] w fun e w' => e = .returned (.bool true) ∧ Below w.heap.size w w' := by
  have hm := u64_of hm
  have hc := i64_of hc
  obtain ⟨M, rfl⟩ := Int.eq_ofNat_of_zero_le hm.1
  have hM : M < 18446744073709551616 := by have := hm.2; omega
  exact tells_walk M c _ _ _ _ _ _ _ _ _ _ 200 w (first_f _ hm) (first_r _ _ (by decide) hM) (next_f _ _ hm hc.1) (next_r _ _ _ (by decide) hM) (round_f _ _ hm hc.1) (round_r _ _ _ (by decide) hM)
    (list_r _ _ (by decide) hM) ⟨hm, rfl⟩ (has_r _ _ _ (by decide) hM) (with_f _ _ hM) (with_r _ _ _ (by decide) hM) (wio_f _ _ hM) (wio_r _ _ _ (by decide) hM) (count_f _ hm) (list_f _ hm)
    (ints_r _ _ (by have := aboveL_length M (-1); omega) (by have := aboveL_length M (-1); omega))
end Go.Proofs.Ytdghjigeddphaaa

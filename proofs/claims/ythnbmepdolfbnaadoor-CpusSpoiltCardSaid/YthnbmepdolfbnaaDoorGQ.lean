/- cpus.Print, walked: the text of a mask's runs. -/
import Derived.Test.YthnbmepdolfbnaaDoorGP
namespace Go.Proofs.YthnbmepdolfbnaaDoor.Given
open Go.RowKit Go.Proofs.YthnbmepdolfbnaaDoor Go.Proofs.YthnbmepdolfbnaaDoor.Print Go.Proofs.YthnbmepdolfbnaaDoor.Pure Go.Proofs.YthnbmepdolfbnaaDoorW.PrintWords
set_option linter.unusedVariables false
set_option linter.unusedSimpArgs false
theorem has_run (M : Nat) (hM : M < 2 ^ 64) (c n : Nat) (hb : M.testBit c = true) (h1 : c ≤ n) (h2 : n < lastR M c 64) : hasB (M : Int) ((n : Int) + 1) = true := by
  have h3 := lastR_in M 64 c hb (n + 1) (by omega) (by omega)
  have h4 := bit_lt hM h3
  unfold hasB
  rw [decide_eq_true ⟨by omega, by omega⟩, show ((n : Int) + 1).toNat = n + 1 from by omega, bitB_nat, h3]
  rfl
theorem has_end (M : Nat) (hM : M < 2 ^ 64) (c : Nat) (hb : M.testBit c = true) : hasB (M : Int) (((lastR M c 64 : Nat) : Int) + 1) = false := by
  have h3 := lastR_stop M hM 64 c (by omega) hb
  unfold hasB
  rw [show (((lastR M c 64 : Nat) : Int) + 1).toNat = lastR M c 64 + 1 from by omega, bitB_nat, h3, Bool.and_false]
theorem comma_c (B b : Nat) (l : List UInt8) (w : World) (h : Lib.IsBuilder 39 5 B b (Lib.byteCells l) w) (hlen : l.length ≤ 1000) (hB : B ≤ w.heap.size) :
    Calls Tryd.prog 21 #[.pointer (some ⟨b, 0, none⟩), .int .u8 44] w fun e w' => e = .returned .nilIface ∧ (Lib.IsBuilder 39 5 B b (Lib.byteCells (l ++ [44])) w' ∧ Below B w w') := wb_c B b l 44 w h hlen hB
theorem dash_c (B b : Nat) (l : List UInt8) (w : World) (h : Lib.IsBuilder 39 5 B b (Lib.byteCells l) w) (hlen : l.length ≤ 1000) (hB : B ≤ w.heap.size) :
    Calls Tryd.prog 21 #[.pointer (some ⟨b, 0, none⟩), .int .u8 45] w fun e w' => e = .returned .nilIface ∧ (Lib.IsBuilder 39 5 B b (Lib.byteCells (l ++ [45])) w' ∧ Below B w w') := wb_c B b l 45 w h hlen hB
set_option maxHeartbeats 8000000 in
set_option maxRecDepth 100000 in
theorem print_walk (M : Nat) (hM : M < 2 ^ 64) (w : World) :
    Calls Tryd.prog 10 #[.int .u64 M] w fun e w' => e = .returned (.string ⟨(printL M).toArray⟩) ∧ Below w.heap.size w w' := by
  by_cases h0 : M = 0
  · subst h0
    go_enter Tryd.func10, Tryd.ntmps10
    go_wp2_with fail
    go_ret
    exact ⟨rfl, Below.refl _ _⟩
  · have hb0 : ((M : Int) == 0) = false := beq_eq_false_iff_ne.mpr (by omega)
    obtain ⟨c0, hc0, hs0, ht0, hn0⟩ := first_print M hM h0
    have HM := Aside0.mk hM
    have H0 := Aside0.mk h0
    have HS0 := Aside0.mk hs0
    have HT0 := Aside0.mk ht0
    have HN0 := Aside0.mk hn0
    have HC0 := Aside0.mk hc0
    clear hM h0 hs0 ht0 hn0 hc0
    go_enter Tryd.func10, Tryd.ntmps10
    go_wp2_with fail
    refine (first_c M HM.out _ HN0.out _).mono ?_
    rintro e w1 ⟨rfl, hb⟩
    have HB1 := Aside0.mk (below_step (below_alloc (Below.refl w.heap.size w) _) hb)
    have HI1 : Aside0 (Lib.IsBuilder 39 5 w.heap.size w.heap.size (Lib.byteCells (txt M c0)) w1) := ⟨by rw [HT0.out]; exact is_below (Lib.fresh_isBuilder 39 5 w) hb⟩
    clear hb
    go_wp2_with fail
    go_loopg [4, 5] 66 (fun kq v4 v5 w' => ∃ (c : Int) (b : Bool) (wl : World), v4 = .int .i64 c ∧ v5 = .bool b ∧ wl = w' ∧ Aside0 (Below w.heap.size w w') ∧ Aside0 (1 ≤ kq) ∧ Aside0 (kq ≤ 66) ∧ Aside0 ((b = true ∧ ∃ n : Nat, c = (n : Int) ∧ n < 64 ∧ isStart M n = true ∧ 66 ≤ n + kq ∧ Lib.IsBuilder 39 5 w.heap.size w.heap.size (Lib.byteCells (txt M n)) w') ∨ (b = false ∧ Lib.IsBuilder 39 5 w.heap.size w.heap.size (Lib.byteCells (txt M 64)) w')))
    case atStart => exact ⟨c0, true, _, rfl, rfl, rfl, HB1, ⟨by omega⟩, ⟨Nat.le_refl _⟩, ⟨.inl ⟨rfl, c0, rfl, HC0.out, HS0.out, by omega, HI1.out⟩⟩⟩
    case round =>
      clear HB1 HI1
      obtain ⟨c, b, wl, rfl, rfl, rfl, HBl, HK1, HK6, HR⟩ := hrel
      cases gk with
      | zero => exact absurd HK1.out (by omega)
      | succ k1 =>
        rcases HR.out with ⟨rfl, n, rfl, hn, hs, hk, hI⟩ | ⟨rfl, hI⟩
        · have hbit : M.testBit n = true := by simp [isStart] at hs; exact hs.1
          have hge := lastR_ge M 64 n
          have hlt : lastR M n 64 < 64 := bit_lt HM.out (lastR_in M 64 n hbit _ hge (Nat.le_refl _))
          have hmax := lastR_in M 64 n hbit
          have hNx := next_print M HM.out n hn hs
          have hLen := txt_len M HM.out n (by omega)
          have hTx := txt_succ M n
          rw [if_pos hs] at hTx
          have HN := Aside0.mk hn
          have HK := Aside0.mk hk
          have HI := Aside0.mk hI
          have HBit := Aside0.mk hbit
          have HGe := Aside0.mk hge
          have HLt := Aside0.mk hlt
          have HNx := Aside0.mk hNx
          have HTx := Aside0.mk hTx
          have HLn : Aside0 ((txt M n).length ≤ 195) := ⟨by split at hLen <;> omega⟩
          clear hs hk hI hbit hge hlt hmax hNx hLen hTx HR hn
          go_wp2_with fail
          -- the run's last one
          go_loopg [6] 66 (fun kq v6 w' => ∃ (q : Nat) (wi : World), v6 = .int .i64 (q : Int) ∧ wi = w' ∧ Aside0 (n ≤ q ∧ q ≤ lastR M n 64) ∧ Aside0 (66 ≤ q + kq ∧ kq ≤ 66) ∧ Aside0 (wl = w'))
          case atStart => exact ⟨n, _, rfl, rfl, ⟨Nat.le_refl _, HGe.out⟩, ⟨by omega, Nat.le_refl _⟩, ⟨rfl⟩⟩
          case round =>
            obtain ⟨q, wi, rfl, rfl, HQ, HQk, HW⟩ := hrel
            cases gk with
            | zero => exact absurd HQk.out (by have := HQ.out; have := HLt.out; omega)
            | succ k2 =>
              have q1 : wrap64 ((q : Int) + 1) = (q : Int) + 1 := by unfold wrap64; have := HQ.out; have := HLt.out; omega
              by_cases hq : q < lastR M n 64
              · have hh := Aside0.mk (has_run M HM.out n q HBit.out HQ.out.1 hq)
                have HQq := Aside0.mk hq
                have Q1 := Aside0.mk q1
                clear hq q1
                go_wp2_with fail
                rw [Q1.out]
                refine (has_c (M : Int) ((q : Int) + 1) _ (by omega) (by have := HM.out; omega) true hh.out).mono ?_
                rintro e w' ⟨rfl, rfl⟩
                go_wp2_with fail
                go_roundg k2
                case measure => have := HQk.out; omega
                case rel => exact ⟨q + 1, _, (by rw [Q1.out]; rfl), rfl, ⟨by have := HQ.out; omega, by have := HQq.out; omega⟩, ⟨by have := HQk.out; omega, by have := HQk.out; omega⟩, HW⟩
              · have eq : q = lastR M n 64 := by have := HQ.out; omega
                have hh := Aside0.mk (has_end M HM.out n HBit.out)
                subst eq
                have hw := HW.out
                subst hw
                have Q1 := Aside0.mk q1
                clear hq q1 HQ HQk HW HBit
                generalize lastR M n 64 = z at HGe HLt HNx HTx hh Q1 ⊢
                go_wp2_with fail
                rw [Q1.out]
                refine (has_c (M : Int) ((z : Int) + 1) _ (by omega) (by have := HM.out; omega) false hh.out).mono ?_
                rintro e w' ⟨rfl, rfl⟩
                go_wp2_with fail
                refine (len_c w.heap.size w.heap.size (txt M n) _ HI.out).mono ?_
                rintro e w' ⟨rfl, rfl⟩
                by_cases ht : txt M n = []
                case' pos =>
                  have HL : Aside0 (([] : List UInt8) ++ itemT (n, z) = txt M (n + 1)) := ⟨by have h_ := HTx.out; rw [if_pos ht] at h_; rw [h_]; rfl⟩
                  have HA : Aside0 (Lib.IsBuilder 39 5 w.heap.size w.heap.size (Lib.byteCells ([] : List UInt8)) wl) := ⟨by have h_ := HI.out; rw [ht] at h_; exact h_⟩
                  have HLa : Aside0 (([] : List UInt8).length ≤ 300) := ⟨by decide⟩
                  rw [show (txt M n).length = 0 from by rw [ht]; rfl]
                  clear ht HI HTx HLn
                  go_wp2_with fail
                  have HBA := HBl
                  clear HBl
                  obtain ⟨l, hl⟩ : ∃ l : List UInt8, l = [] := ⟨[], rfl⟩
                  rw [← hl] at HL HA HLa
                  clear hl
                  generalize wl = wA at HA HBA ⊢
                case' neg =>
                  have hp : 0 < (txt M n).length := List.length_pos_iff.2 ht
                  have hp1 := decide_eq_true hp
                  have HL : Aside0 ((txt M n ++ [44]) ++ itemT (n, z) = txt M (n + 1)) := ⟨by have h_ := HTx.out; rw [if_neg ht] at h_; rw [h_, List.append_assoc]; rfl⟩
                  clear ht HTx
                  go_wp2_with fail
                  refine (comma_c w.heap.size w.heap.size (txt M n) _ HI.out (by have := HLn.out; omega) HBl.out.size).mono ?_
                  rintro e wA ⟨rfl, hI, hb⟩
                  have HA := Aside0.mk hI
                  have HBA := Aside0.mk (HBl.out.trans hb)
                  have HLa : Aside0 ((txt M n ++ [44]).length ≤ 300) := ⟨by have := HLn.out; rw [List.length_append, List.length_singleton]; omega⟩
                  clear hI hb hp hp1 HLn HI HBl
                  go_wp2_with fail
                  generalize txt M n ++ [44] = l at HL HA HLa
                all_goals
                  refine (itoa_c n HN.out _).mono ?_
                  rintro e w' ⟨rfl, rfl⟩
                  go_wp2_with fail
                  refine (ws_c w.heap.size w.heap.size l (dg n) _ HA.out (by have := HLa.out; omega) (by have := dg_len n; omega) HBA.out.size).mono ?_
                  rintro e wB ⟨⟨kk, rfl⟩, hI, hb⟩
                  have HIB := Aside0.mk hI
                  have HBB := Aside0.mk (HBA.out.trans hb)
                  clear hI hb HA HBA
                  by_cases hz : n < z
                  case' pos =>
                    have hz1 := decide_eq_true hz
                    have HT : Aside0 (((l ++ dg n) ++ [45]) ++ dg z = txt M (n + 1)) := ⟨by have h_ := HL.out; rw [← h_]; unfold itemT; rw [if_pos hz]; simp⟩
                    clear HL
                    go_wp2_with fail
                    refine (dash_c w.heap.size w.heap.size (l ++ dg n) _ HIB.out (by have := HLa.out; have := dg_len n; rw [List.length_append]; omega) HBB.out.size).mono ?_
                    rintro e wC ⟨rfl, hI, hb⟩
                    have HIC := Aside0.mk hI
                    have HBC := Aside0.mk (HBB.out.trans hb)
                    clear hI hb HIB HBB
                    go_wp2_with fail
                    refine (itoa_c z HLt.out _).mono ?_
                    rintro e w' ⟨rfl, rfl⟩
                    go_wp2_with fail
                    refine (ws_c w.heap.size w.heap.size ((l ++ dg n) ++ [45]) (dg z) _ HIC.out (by have := HLa.out; have := dg_len n; rw [List.length_append, List.length_append, List.length_singleton]; omega) (by have := dg_len z; omega) HBC.out.size).mono ?_
                    rintro e wD ⟨⟨kj, rfl⟩, hI, hb⟩
                    have HID := Aside0.mk hI
                    have HBD := Aside0.mk (HBC.out.trans hb)
                    clear hI hb HIC HBC hz hz1
                    rw [HT.out] at HID
                    clear HT HLa
                    go_wp2_with fail
                  case' neg =>
                    have hz1 : decide (n < z) = false := decide_eq_false hz
                    have HT : Aside0 (l ++ dg n = txt M (n + 1)) := ⟨by have h_ := HL.out; rw [← h_]; unfold itemT; rw [if_neg hz]⟩
                    clear HL
                    have HID := HIB
                    have HBD := HBB
                    clear HIB HBB hz
                    rw [HT.out] at HID
                    clear HT HLa
                    go_wp2_with fail
                    clear hz1
                    generalize wB = wD at HID HBD ⊢
                  all_goals
                    rcases HNx.out with ⟨e1, e2⟩ | ⟨n', hn1, hn2, hn3, e2, e1⟩
                    · have E2 := Aside0.mk e2
                      clear e2
                      refine (next_c M HM.out (z : Int) (by omega) _ e1 _).mono ?_
                      rintro e wE ⟨rfl, hb⟩
                      go_wp2_with fail
                      go_roundg k1
                      case measure => have := HK6.out; omega
                      case rel => exact ⟨0, false, _, rfl, rfl, rfl, ⟨below_step HBD.out hb⟩, ⟨by have := HK.out; have := HN.out; omega⟩, ⟨by have := HK6.out; omega⟩, ⟨.inr ⟨rfl, by rw [E2.out]; exact is_below HID.out hb⟩⟩⟩
                    · have E2 := Aside0.mk e2
                      have N1 := Aside0.mk hn1
                      have N2 := Aside0.mk hn2
                      have N3 := Aside0.mk hn3
                      clear e2 hn1 hn2 hn3
                      refine (next_c M HM.out (z : Int) (by omega) _ e1 _).mono ?_
                      rintro e wE ⟨rfl, hb⟩
                      go_wp2_with fail
                      go_roundg k1
                      case measure => have := HK6.out; omega
                      case rel => exact ⟨(n' : Int), true, _, rfl, rfl, rfl, ⟨below_step HBD.out hb⟩, ⟨by have := HK.out; have := HN.out; omega⟩, ⟨by have := HK6.out; omega⟩, ⟨.inl ⟨rfl, n', rfl, N1.out, N3.out, by have := HK.out; have := N2.out; omega, by rw [E2.out]; exact is_below HID.out hb⟩⟩⟩
        · have HI := Aside0.mk hI
          clear hI HR
          go_wp2_with fail
          refine (Tryd.Builder_String_any w.heap.size w.heap.size (txt M 64) _ HI.out HBl.out.size).mono ?_
          rintro e w' ⟨rfl, hb⟩
          go_wp2_with fail
          go_ret
          have hP : printL M = txt M 64 := if_neg H0.out
          exact ⟨by rw [hP]; rfl, HBl.out.trans hb⟩
/-- cpus.Print, in the printed form. -/
def cpus_Print.f (m : Int) : Option ByteArray := if 0 ≤ m ∧ m < 18446744073709551616 then some ⟨(printL m.toNat).toArray⟩ else none
theorem cpus_Print.calls (a0 : Int) (r : ByteArray) (w : World) (h : cpus_Print.f a0 = some r) :
    Calls Tryd.prog 10 #[.int .u64 a0] w fun e w' => e = .returned (.string r) ∧ Below w.heap.size w w' := by
  unfold cpus_Print.f at h
  split at h
  · rename_i hm
    obtain ⟨M, rfl⟩ := Int.eq_ofNat_of_zero_le hm.1
    obtain rfl := Option.some.inj h
    rw [Int.toNat_natCast]
    exact print_walk M (by omega) w
  · cases h
end Go.Proofs.YthnbmepdolfbnaaDoor.Given

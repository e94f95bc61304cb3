/- cpus.Parse, walked. -/
import Derived.Test.YthnbmepdolfbnaaDoorGL
import Derived.Test.YthnbmepdolfbnaaDoorPrintF27
import Derived.Laws.Bits64b
import Derived.Laws.BitsAllLaws
namespace Go.Proofs.YthnbmepdolfbnaaDoor.Given
open Go.RowKit Go.Proofs.YthnbmepdolfbnaaDoor Go.Proofs.YthnbmepdolfbnaaDoor.Print Go.Proofs.YthnbmepdolfbnaaDoor.Pure Go.Proofs.YthnbmepdolfbnaaDoorW.PrintWords
set_option linter.unusedVariables false
set_option linter.unusedSimpArgs false
theorem pow_lt64 (k : Nat) (h : k < 64) : 2 ^ k < 18446744073709551616 := Nat.pow_lt_pow_right (by decide) (show k < 64 from h)
theorem u64_wrap_nat (p : Nat) (h : p < 18446744073709551616) : IntKind.u64.wrap (p : Int) = (p : Int) := by
  rw [IntKind.wrap_u64]; omega
theorem shl1 (k : Nat) (h : k < 64) : shl .u64 1 (k : Int) = ((2 ^ k : Nat) : Int) := by
  unfold shl
  have h2 := pow_lt64 k h
  have e : min (k : Int).toNat IntKind.u64.bits = k := by
    show min k 64 = k
    omega
  rw [e, Int.one_mul, show ((2 : Int) ^ k) = ((2 ^ k : Nat) : Int) from (Int.natCast_pow 2 k).symm]
  exact u64_wrap_nat _ h2
theorem all_c (n : Nat) (h : n ≤ 64) (w : World) : Calls Tryd.prog 27 #[.int .i64 n] w fun e w' => e = .returned (.int .u64 ((2 ^ n - 1 : Nat) : Int)) ∧ Below w.heap.size w w' := by
  have hf : mask_All.f (n : Int) = some ((2 ^ n - 1 : Nat) : Int) := by
    unfold mask_All.f
    by_cases h0 : n = 0
    · subst h0; rfl
    · rw [if_neg (by omega)]
      by_cases h64 : n = 64
      · subst h64; rfl
      · have hp : 1 ≤ 2 ^ n := Nat.two_pow_pos n
        have hl := pow_lt64 n (by omega)
        rw [if_neg (by omega), if_pos (by omega), shl1 n (by omega), show (((2 ^ n : Nat) : Int) - 1) = ((2 ^ n - 1 : Nat) : Int) by omega, u64_wrap_nat _ (by omega)]
  refine (mask_All.calls _ _ w hf).mono ?_
  rintro e w' ⟨rfl, hd⟩
  obtain ⟨⟨nd, rfl⟩⟩ := hd
  exact ⟨rfl, pw_below_drewN (Below.refl _ _) nd⟩
theorem all_s (n : Nat) (h : n < 64) (w : World) : Calls Tryd.prog 27 #[.int .i64 ((n : Int) + 1)] w fun e w' => e = .returned (.int .u64 ((2 ^ (n + 1) - 1 : Nat) : Int)) ∧ Below w.heap.size w w' := all_c (n + 1) (by omega) w
theorem span_lt (a b : Nat) (hb : b < 64) : span a b < 2 ^ 64 := by
  unfold span
  have : 2 ^ (b + 1) ≤ 2 ^ 64 := Nat.pow_le_pow_right (by decide) (by omega)
  have : 0 < 2 ^ a := Nat.two_pow_pos a
  omega
theorem or64 (a b : Nat) (ha : a < 2 ^ 64) (hb : b < 2 ^ 64) : a ||| b < 2 ^ 64 := Nat.or_lt_two_pow ha hb
/-- What is put in: all from a to b. -/
theorem put_span (m a b : Nat) (hm : m < 2 ^ 64) (hab : a ≤ b) (hb : b < 64) : bits .or .u64 (m : Int) (bits .andNot .u64 ((2 ^ (b + 1) - 1 : Nat) : Int) ((2 ^ a - 1 : Nat) : Int)) = ((m ||| span a b : Nat) : Int) := by
  have hb1 : 2 ^ (b + 1) ≤ 2 ^ 64 := Nat.pow_le_pow_right (by decide) (by omega)
  have ha1 : 2 ^ a ≤ 2 ^ 64 := Nat.pow_le_pow_right (by decide) (by omega)
  have hp := Nat.two_pow_pos (b + 1)
  have hq := Nat.two_pow_pos a
  have e64 : (2 : Nat) ^ 64 = 18446744073709551616 := by decide
  rw [u64_andNot_nat _ _ (by omega) (by omega)]
  have hx : (2 ^ (b + 1) - 1) &&& (18446744073709551615 - (2 ^ a - 1)) = span a b := by
    apply Nat.eq_of_testBit_eq
    intro i
    have e : 18446744073709551615 - (2 ^ a - 1) = 2 ^ 64 - ((2 ^ a - 1) + 1) := by omega
    rw [Nat.testBit_and, Nat.testBit_two_pow_sub_one, e, Nat.testBit_two_pow_sub_succ (show 2 ^ a - 1 < 2 ^ 64 by omega), Nat.testBit_two_pow_sub_one, span_bit a b i (by omega)]
    rw [Bool.eq_iff_iff]
    simp
    omega
  rw [hx, bits_or_u64_nat _ _ (by omega) (by have := span_lt a b hb; omega)]
def parseS (l : List UInt8) : Int × Int := if 1000 < l.length then (0, 2) else if l = [45] then (0, 0) else match parseT l with
  | some m => ((m : Int), 0)
  | none => (0, 3)
/-- A place's digits, and what stands behind. -/
theorem at_digits (l : List UInt8) (p : Nat) (hp : p ≤ l.length) : p + ((l.drop p).takeWhile isD).length ≤ l.length ∧ (l.drop p).dropWhile isD = l.drop (p + ((l.drop p).takeWhile isD).length) := by
  have h := parts (l.drop p)
  have hl := congrArg List.length h
  rw [List.length_append, List.length_drop] at hl
  refine ⟨by omega, ?_⟩
  have h2 := congrArg (List.drop ((l.drop p).takeWhile isD).length) h
  rw [List.drop_drop, List.drop_left] at h2
  exact h2.symm
set_option maxHeartbeats 8000000 in
set_option maxRecDepth 100000 in
theorem parse_walk (s : ByteArray) (w : World) (hs : s.size ≤ 140737488351232) :
    Calls Tryd.prog 11 #[.string s] w fun e w' => e = .returned (.tuple #[.int .u64 (parseS s.data.toList).1, .int .i64 (parseS s.data.toList).2]) ∧ Below w.heap.size w w' := by
  by_cases hlong : 1000 < s.size
  · have hP : parseS s.data.toList = (0, 2) := if_pos hlong
    have HP := Aside0.mk hP
    have t0 : decide ((1000 : Int) < (s.size : Int)) = true := decide_eq_true (by omega)
    have t1 : decide (1000 < s.size) = true := decide_eq_true hlong
    clear hP
    go_enter Tryd.func11, Tryd.ntmps11
    go_wp2_with fail
    go_ret2
    rw [HP.out]
    exact ⟨rfl, below_alloc (Below.refl _ _) _⟩
  · by_cases hdash : s.data.toList = [45]
    · have hP : parseS s.data.toList = (0, 0) := by unfold parseS; rw [if_neg (by rw [size_list]; exact hlong), if_pos hdash]
      have HP := Aside0.mk hP
      have HD := Aside0.mk hdash
      have t0 : decide ((1000 : Int) < (s.size : Int)) = false := decide_eq_false (by omega)
      have t1 : decide (1000 < s.size) = false := decide_eq_false hlong
      have t2 : (s.toList == ([45] : List UInt8)) = true := by rw [ByteArray.toList_eq, hdash]; rfl
      clear hP hlong hdash
      go_enter Tryd.func11, Tryd.ntmps11
      go_wp2_with fail
      go_ret2
      rw [HP.out]
      exact ⟨rfl, below_alloc (Below.refl _ _) _⟩
    · have hz : s.size ≤ 1000 := by omega
      have hP : parseS s.data.toList = (match progP (s.size + 1) false 0 0 s.data.toList with
          | some m => ((m : Int), 0)
          | none => (0, 3)) := by unfold parseS; rw [if_neg (by rw [size_list]; exact hlong), if_neg hdash, prog_parse s.data.toList (s.size + 1) (by rw [size_list]; omega) 0]
      have HP := Aside0.mk hP
      have HZ := Aside0.mk hz
      have t0 : decide ((1000 : Int) < (s.size : Int)) = false := decide_eq_false (by omega)
      have t1 : decide (1000 < s.size) = false := decide_eq_false hlong
      have t2 : (s.toList == ([45] : List UInt8)) = false := by rw [ByteArray.toList_eq]; exact beq_eq_false_iff_ne.mpr hdash
      clear hP hlong hdash hz hs
      go_enter Tryd.func11, Tryd.ntmps11
      go_wp2_with fail
      have hS0 : ((w.alloc (.cells #[.string s] 9)).alloc (.cells #[.int .i64 0] 3)).heap[w.heap.size]? = some (.cells #[.string s] 9 (0, 0)) := blk_alloc (blk_new _ _) _
      have hA0 : ((w.alloc (.cells #[.string s] 9)).alloc (.cells #[.int .i64 0] 3)).heap[w.heap.size + 1]? = some (.cells #[.int .i64 ((0 : Nat) : Int)] 3 (0, 0)) := by have h_ := blk_new (w.alloc (.cells #[.string s] 9)) (.cells #[.int .i64 0] 3); rw [World.size_alloc] at h_; exact h_
      have HS0 := Aside0.mk hS0
      have HA0 := Aside0.mk hA0
      clear hS0 hA0
      go_loopg [6, 7, 8] (s.size + 1) (fun kq v6 v7 v8 w' => ∃ (m frm p : Nat) (sg : Int) (dash : Bool) (wl : World), v6 = .int .u64 (m : Int) ∧ v7 = .int .u8 sg ∧ v8 = .int .i64 (frm : Int) ∧ wl = w' ∧ Aside0 (sg = if dash then 45 else 44) ∧ Aside0 (m < 2 ^ 64 ∧ frm < 64 ∧ p ≤ s.size ∧ s.size < p + kq ∧ kq ≤ s.size + 1) ∧ Aside0 (progP kq dash frm m (s.data.toList.drop p) = progP (s.size + 1) false 0 0 s.data.toList) ∧ Aside0 (Below w.heap.size w w') ∧ Aside0 (w'.heap[w.heap.size]? = some (.cells #[.string s] 9 (0, 0))) ∧ Aside0 (w'.heap[w.heap.size + 1]? = some (.cells #[.int .i64 (p : Int)] 3 (0, 0))))
      case atStart => exact ⟨0, 0, 0, 44, false, _, rfl, rfl, rfl, rfl, ⟨rfl⟩, ⟨by decide, by decide, Nat.zero_le _, by omega, Nat.le_refl _⟩, ⟨rfl⟩, ⟨below_alloc (below_alloc (Below.refl _ _) _) _⟩, HS0, HA0⟩
      case round =>
        clear HS0 HA0
        obtain ⟨m, frm, p, sg, dash, wl, rfl, rfl, rfl, rfl, HSg, HI, HR, HB, HS, HA⟩ := hrel
        cases gk with
        | zero => exact absurd HI.out (by intro h; omega)
        | succ k1 =>
          go_wp2_with fail
          refine (number_c w.heap.size w.heap.size (w.heap.size + 1) s p _ (by omega) (by omega) HS.out HA.out HI.out.2.2.1 HZ.out).mono ?_
          rintro e w1 ⟨hb, hS1, hx⟩
          have HB1 := Aside0.mk (HB.out.trans hb)
          have HS1 := Aside0.mk hS1
          clear hb hS1
          have hR := HR.out
          rw [progP] at hR
          have hat := at_digits s.data.toList p HI.out.2.2.1
          rcases hx with ⟨n, hn, rfl, hA1⟩ | ⟨hn, rfl⟩
          · rw [hn, hat.2] at hR
            have hn64 := numV_lt hn
            have hlen := hat.1
            rw [size_list] at hlen
            have hge : p ≤ p + ((s.data.toList.drop p).takeWhile isD).length := Nat.le_add_right _ _
            generalize p + ((s.data.toList.drop p).takeWhile isD).length = p1 at hR hA1 hlen hge
            have HA1 := Aside0.mk hA1
            have HN := Aside0.mk hn64
            have HLen := Aside0.mk hlen
            have HGe : Aside0 (p ≤ p1) := ⟨hge⟩
            have hn1 : (n : Int) ≤ 63 := by omega
            have hp1 : (p1 : Int) ≤ 1000 := by have := HZ.out; omega
            have hf1 : (frm : Int) ≤ 63 := by have := HI.out.2.1; omega
            clear hat hn hA1 hn64 hlen hge
            have cS : w1.cell? ⟨w.heap.size, 0, none⟩ = some (.string s) := (blk_cell HS1.out 0).trans rfl
            have cA : w1.cell? ⟨w.heap.size + 1, 0, none⟩ = some (.int .i64 (p1 : Int)) := (blk_cell HA1.out 0).trans rfl
            cases dash with
            | false =>
              have hsg := HSg.out
              rw [if_neg Bool.false_ne_true] at hsg
              subst hsg
              have hR2 : (match s.data.toList.drop p1 with
                  | [] => some (m ||| span n n)
                  | x :: r => if x = 44 ∨ (x = 45 ∧ false = false) then progP k1 (x == 45) n (m ||| span n n) r else none) = progP (s.size + 1) false 0 0 s.data.toList := by
                rw [← hR]
                show _ = if n < n then none else _
                rw [if_neg (Nat.lt_irrefl n)]
                rfl
              have HR2 := Aside0.mk hR2
              clear hR hR2
              have t3 : decide (n < n) = false := decide_eq_false (Nat.lt_irrefl n)
              go_wp2_with fail
              refine (all_s n (by have := HN.out; omega) _).mono ?_
              rintro e w2 ⟨rfl, hb⟩
              have HB2 := Aside0.mk (below_step HB1.out hb)
              have HS2 := Aside0.mk (blk_below HS1.out hb)
              have HA2 := Aside0.mk (blk_below HA1.out hb)
              clear hb HB1 HS1 HA1 cS cA
              go_wp2_with fail
              refine (all_c n (by have := HN.out; have := HI.out.2.1; omega) _).mono ?_
              rintro e w3 ⟨rfl, hb⟩
              have HB3 := Aside0.mk (below_step HB2.out hb)
              have HS3 := Aside0.mk (blk_below HS2.out hb)
              have HA3 := Aside0.mk (blk_below HA2.out hb)
              clear hb HB2 HS2 HA2
              have HPut := Aside0.mk (put_span m n n HI.out.1 (Nat.le_refl _) HN.out)
              have hm3 := or64 m (span n n) HI.out.1 (span_lt n n HN.out)
              generalize m ||| span n n = m3 at HPut HR2 hm3
              have HM3 := Aside0.mk hm3
              clear hm3
              have cS : w3.cell? ⟨w.heap.size, 0, none⟩ = some (.string s) := (blk_cell HS3.out 0).trans rfl
              have cA : w3.cell? ⟨w.heap.size + 1, 0, none⟩ = some (.int .i64 (p1 : Int)) := (blk_cell HA3.out 0).trans rfl
              have fA := blk_frozen HA3.out 0
              by_cases hend : p1 = s.size
              · have u0 : ((p1 : Int) == (s.size : Int)) = true := beq_iff_eq.mpr (by omega)
                have hR3 : some m3 = progP (s.size + 1) false 0 0 s.data.toList := by rw [← HR2.out, hend, ← size_list s, List.drop_length]
                have hP := HP.out
                rw [← hR3] at hP
                have HP2 := Aside0.mk hP
                clear hP hR3 hend fA
                go_wp2_with fail
                go_ret2
                rw [HP2.out, HPut.out]
                exact ⟨rfl, HB3.out⟩
              · have u0 : ((p1 : Int) == (s.size : Int)) = false := beq_eq_false_iff_ne.mpr (by omega)
                have hlt : p1 < s.size := by have := HLen.out; omega
                have hdr : s.data.toList.drop p1 = s[p1] :: s.data.toList.drop (p1 + 1) := List.drop_eq_getElem_cons (show p1 < s.data.toList.length from hlt)
                have hR3 := HR2.out
                rw [hdr] at hR3
                replace hR3 : (if s[p1] = 44 ∨ (s[p1] = 45 ∧ false = false) then progP k1 (s[p1] == 45) n m3 (s.data.toList.drop (p1 + 1)) else none) = progP (s.size + 1) false 0 0 s.data.toList := by first | exact hR3 | (rw [← hR3]; show _ = (if s[p1] = 44 ∨ (s[p1] = 45 ∧ True) then _ else _); by_cases q4 : s[p1] = 44 <;> by_cases q5 : s[p1] = 45 <;> simp [q4, q5])
                by_cases x4 : s[p1].toNat = 44
                · have v4 : ((s[p1].toNat : Int) != 44) = false := bne_eq_false_iff_eq.mpr (by omega)
                  have hR4 : progP k1 false n m3 (s.data.toList.drop (p1 + 1)) = progP (s.size + 1) false 0 0 s.data.toList := by rw [if_pos (.inl (UInt8.toNat_inj.1 x4))] at hR3; rw [← hR3]; congr 1; exact (beq_eq_false_iff_ne.mpr (fun h => by rw [h] at x4; exact absurd x4 (by decide))).symm
                  have HR4 := Aside0.mk hR4
                  have HLt := Aside0.mk hlt
                  have HX : Aside0 ((s[p1].toNat : Int) = if false then 45 else 44) := ⟨by show _ = ((44 : Int)); omega⟩
                  clear hR3 hR4 hdr hend x4
                  go_wp2_with fail
                  rw [HPut.out]
                  go_roundg k1
                  case measure => have := HI.out; omega
                  case rel => exact ⟨m3, n, p1 + 1, _, false, _, rfl, rfl, rfl, rfl, HX, ⟨HM3.out, by have := HI.out.2.1; have := HN.out; omega, HLt.out, by have := HI.out; have := HGe.out; omega, by have := HI.out; omega⟩, HR4, ⟨HB3.out.setCell (by show w.heap.size ≤ w.heap.size + 1; omega) _⟩, ⟨blk_far HS3.out (by show w.heap.size ≠ w.heap.size + 1; omega) _⟩, ⟨blk_put HA3.out 0 _ rfl⟩⟩
                · have v4 : ((s[p1].toNat : Int) != 44) = true := bne_iff_ne.mpr (by omega)
                  by_cases x5 : s[p1].toNat = 45
                  · have v5 : ((s[p1].toNat : Int) != 45) = false := bne_eq_false_iff_eq.mpr (by omega)
                    have hR4 : progP k1 true n m3 (s.data.toList.drop (p1 + 1)) = progP (s.size + 1) false 0 0 s.data.toList := by rw [if_pos (.inr ⟨UInt8.toNat_inj.1 x5, rfl⟩)] at hR3; rw [← hR3]; congr 1; exact (beq_iff_eq.mpr (UInt8.toNat_inj.1 x5)).symm
                    have HR4 := Aside0.mk hR4
                    have HLt := Aside0.mk hlt
                    have HX : Aside0 ((s[p1].toNat : Int) = if true then 45 else 44) := ⟨by show _ = ((45 : Int)); omega⟩
                    clear hR3 hR4 hdr hend x4 x5
                    go_wp2_with fail
                    rw [HPut.out]
                    go_roundg k1
                    case measure => have := HI.out; omega
                    case rel => exact ⟨m3, n, p1 + 1, _, true, _, rfl, rfl, rfl, rfl, HX, ⟨HM3.out, by have := HI.out.2.1; have := HN.out; omega, HLt.out, by have := HI.out; have := HGe.out; omega, by have := HI.out; omega⟩, HR4, ⟨HB3.out.setCell (by show w.heap.size ≤ w.heap.size + 1; omega) _⟩, ⟨blk_far HS3.out (by show w.heap.size ≠ w.heap.size + 1; omega) _⟩, ⟨blk_put HA3.out 0 _ rfl⟩⟩
                  · have v5 : ((s[p1].toNat : Int) != 45) = true := bne_iff_ne.mpr (by omega)
                    have hR4 : none = progP (s.size + 1) false 0 0 s.data.toList := by rw [if_neg (fun h => h.elim (fun h => x4 (by rw [h]; rfl)) (fun h => (fun h => x5 (by rw [h]; rfl)) h.1))] at hR3; exact hR3
                    have hP := HP.out
                    rw [← hR4] at hP
                    have HP2 := Aside0.mk hP
                    clear hP hR3 hR4 hdr hend x4 x5 fA
                    go_wp2_with fail
                    go_ret2
                    rw [HP2.out]
                    exact ⟨rfl, HB3.out⟩
            | true =>
              have hsg := HSg.out
              rw [if_pos rfl] at hsg
              subst hsg
              by_cases hnf : n < frm
              · have hR2 : none = progP (s.size + 1) false 0 0 s.data.toList := by
                  rw [← hR]
                  show none = if n < frm then none else _
                  rw [if_pos hnf]
                have hP := HP.out
                rw [← hR2] at hP
                have HP2 := Aside0.mk hP
                have t3 := decide_eq_true hnf
                clear hP hR hR2 hnf
                go_wp2_with fail
                go_ret2
                rw [HP2.out]
                exact ⟨rfl, HB1.out⟩
              · have hR2 : (match s.data.toList.drop p1 with
                    | [] => some (m ||| span frm n)
                    | x :: r => if x = 44 ∨ (x = 45 ∧ true = false) then progP k1 (x == 45) frm (m ||| span frm n) r else none) = progP (s.size + 1) false 0 0 s.data.toList := by
                  rw [← hR]
                  show _ = if n < frm then none else _
                  rw [if_neg hnf]
                  rfl
                have HR2 := Aside0.mk hR2
                have HLe : Aside0 (frm ≤ n) := ⟨by omega⟩
                have t3 : decide (n < frm) = false := decide_eq_false hnf
                clear hR hR2 hnf
                go_wp2_with fail
                refine (all_s n (by have := HN.out; omega) _).mono ?_
                rintro e w2 ⟨rfl, hb⟩
                have HB2 := Aside0.mk (below_step HB1.out hb)
                have HS2 := Aside0.mk (blk_below HS1.out hb)
                have HA2 := Aside0.mk (blk_below HA1.out hb)
                clear hb HB1 HS1 HA1 cS cA
                go_wp2_with fail
                refine (all_c frm (by have := HN.out; have := HI.out.2.1; omega) _).mono ?_
                rintro e w3 ⟨rfl, hb⟩
                have HB3 := Aside0.mk (below_step HB2.out hb)
                have HS3 := Aside0.mk (blk_below HS2.out hb)
                have HA3 := Aside0.mk (blk_below HA2.out hb)
                clear hb HB2 HS2 HA2
                have HPut := Aside0.mk (put_span m frm n HI.out.1 (HLe.out) HN.out)
                have hm3 := or64 m (span frm n) HI.out.1 (span_lt frm n HN.out)
                generalize m ||| span frm n = m3 at HPut HR2 hm3
                have HM3 := Aside0.mk hm3
                clear hm3
                have cS : w3.cell? ⟨w.heap.size, 0, none⟩ = some (.string s) := (blk_cell HS3.out 0).trans rfl
                have cA : w3.cell? ⟨w.heap.size + 1, 0, none⟩ = some (.int .i64 (p1 : Int)) := (blk_cell HA3.out 0).trans rfl
                have fA := blk_frozen HA3.out 0
                by_cases hend : p1 = s.size
                · have u0 : ((p1 : Int) == (s.size : Int)) = true := beq_iff_eq.mpr (by omega)
                  have hR3 : some m3 = progP (s.size + 1) false 0 0 s.data.toList := by rw [← HR2.out, hend, ← size_list s, List.drop_length]
                  have hP := HP.out
                  rw [← hR3] at hP
                  have HP2 := Aside0.mk hP
                  clear hP hR3 hend fA
                  go_wp2_with fail
                  go_ret2
                  rw [HP2.out, HPut.out]
                  exact ⟨rfl, HB3.out⟩
                · have u0 : ((p1 : Int) == (s.size : Int)) = false := beq_eq_false_iff_ne.mpr (by omega)
                  have hlt : p1 < s.size := by have := HLen.out; omega
                  have hdr : s.data.toList.drop p1 = s[p1] :: s.data.toList.drop (p1 + 1) := List.drop_eq_getElem_cons (show p1 < s.data.toList.length from hlt)
                  have hR3 := HR2.out
                  rw [hdr] at hR3
                  replace hR3 : (if s[p1] = 44 ∨ (s[p1] = 45 ∧ true = false) then progP k1 (s[p1] == 45) frm m3 (s.data.toList.drop (p1 + 1)) else none) = progP (s.size + 1) false 0 0 s.data.toList := by first | exact hR3 | (rw [← hR3]; show _ = (if s[p1] = 44 ∨ (s[p1] = 45 ∧ True) then _ else _); by_cases q4 : s[p1] = 44 <;> by_cases q5 : s[p1] = 45 <;> simp [q4, q5])
                  by_cases x4 : s[p1].toNat = 44
                  · have v4 : ((s[p1].toNat : Int) != 44) = false := bne_eq_false_iff_eq.mpr (by omega)
                    have hR4 : progP k1 false frm m3 (s.data.toList.drop (p1 + 1)) = progP (s.size + 1) false 0 0 s.data.toList := by rw [if_pos (.inl (UInt8.toNat_inj.1 x4))] at hR3; rw [← hR3]; congr 1; exact (beq_eq_false_iff_ne.mpr (fun h => by rw [h] at x4; exact absurd x4 (by decide))).symm
                    have HR4 := Aside0.mk hR4
                    have HLt := Aside0.mk hlt
                    have HX : Aside0 ((s[p1].toNat : Int) = if false then 45 else 44) := ⟨by show _ = ((44 : Int)); omega⟩
                    clear hR3 hR4 hdr hend x4
                    go_wp2_with fail
                    rw [HPut.out]
                    go_roundg k1
                    case measure => have := HI.out; omega
                    case rel => exact ⟨m3, frm, p1 + 1, _, false, _, rfl, rfl, rfl, rfl, HX, ⟨HM3.out, by have := HI.out.2.1; have := HN.out; omega, HLt.out, by have := HI.out; have := HGe.out; omega, by have := HI.out; omega⟩, HR4, ⟨HB3.out.setCell (by show w.heap.size ≤ w.heap.size + 1; omega) _⟩, ⟨blk_far HS3.out (by show w.heap.size ≠ w.heap.size + 1; omega) _⟩, ⟨blk_put HA3.out 0 _ rfl⟩⟩
                  · have v4 : ((s[p1].toNat : Int) != 44) = true := bne_iff_ne.mpr (by omega)
                    by_cases x5 : s[p1].toNat = 45
                    · have v5 : ((s[p1].toNat : Int) != 45) = false := bne_eq_false_iff_eq.mpr (by omega)
                      have hR4 : none = progP (s.size + 1) false 0 0 s.data.toList := by rw [if_neg (fun h => h.elim (fun h => x4 (by rw [h]; rfl)) (fun h => by cases h.2))] at hR3; exact hR3
                      have hP := HP.out
                      rw [← hR4] at hP
                      have HP2 := Aside0.mk hP
                      clear hP hR3 hR4 hdr hend x4 x5 fA
                      go_wp2_with fail
                      go_ret2
                      rw [HP2.out]
                      exact ⟨rfl, HB3.out⟩
                    · have v5 : ((s[p1].toNat : Int) != 45) = true := bne_iff_ne.mpr (by omega)
                      have hR4 : none = progP (s.size + 1) false 0 0 s.data.toList := by rw [if_neg (fun h => h.elim (fun h => x4 (by rw [h]; rfl)) (fun h => (fun h => x5 (by rw [h]; rfl)) h.1))] at hR3; exact hR3
                      have hP := HP.out
                      rw [← hR4] at hP
                      have HP2 := Aside0.mk hP
                      clear hP hR3 hR4 hdr hend x4 x5 fA
                      go_wp2_with fail
                      go_ret2
                      rw [HP2.out]
                      exact ⟨rfl, HB3.out⟩
          · have hR2 : none = progP (s.size + 1) false 0 0 s.data.toList := by rw [← hR, hn]
            have hP := HP.out
            rw [← hR2] at hP
            have HP2 := Aside0.mk hP
            clear hP hR hR2 hn hat
            go_wp2_with fail
            go_ret2
            rw [HP2.out]
            exact ⟨rfl, HB1.out⟩
/-- cpus.Parse, in the printed form. -/
def cpus_Parse.f (s : ByteArray) : Option (Int × Int) := if s.size ≤ 140737488351232 then some (parseS s.data.toList) else none
theorem cpus_Parse.calls (a0 : ByteArray) (r1 r2 : Int) (w : World) (h : cpus_Parse.f a0 = some (r1, r2)) :
    Calls Tryd.prog 11 #[.string a0] w fun e w' => e = .returned (.tuple #[.int .u64 r1, .int .i64 r2]) ∧ Below w.heap.size w w' := by
  unfold cpus_Parse.f at h
  split at h
  · rename_i hs
    have e := Option.some.inj h
    have hw := parse_walk a0 w hs
    rw [e] at hw
    exact hw
  · cases h
end Go.Proofs.YthnbmepdolfbnaaDoor.Given

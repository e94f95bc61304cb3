/- Package spread: whether a candidate is odd, and slices.ContainsFunc over candidates. -/
import Derived.Test.YtkhdfbmkikiapaaG2
import Derived.Test.YtkhdfbmkikiapaaPrint0
namespace Go.Proofs.Ytkhdfbmkikiapaa.Given
open Go.RowKit Go.Shelf Go.Proofs.YtkhdfbmkikiapaaW.PrintWords Go.Proofs.Ytkhdfbmkikiapaa.Print
set_option linter.unusedVariables false
set_option linter.unusedSimpArgs false
def oddW (x : S41) : Bool := decide (x.f1 < 1) || decide (88761 < x.f1)
set_option maxHeartbeats 1000000 in
theorem oddW_calls (x : S41) (w : World) : Calls Try.prog 21 #[candV x] w fun e w' => e = .returned (.bool (oddW x)) ∧ Below w.heap.size w w' := by
  obtain ⟨f0, f1, f2⟩ := x
  unfold candV oddW
  simp only
  by_cases h0 : f1 < 1
  · have hd : decide (f1 < 1) = true := decide_eq_true h0
    clear h0
    rw [hd, Bool.true_or]
    go_enter Try.func21, Try.ntmps21
    go_wp2
    go_ret
    exact ⟨rfl, below_alloc (Below.refl _ _) _⟩
  · have hd : decide (f1 < 1) = false := decide_eq_false h0
    clear h0
    rw [hd, Bool.false_or]
    go_enter Try.func21, Try.ntmps21
    go_wp2
    go_ret
    exact ⟨rfl, below_alloc (Below.refl _ _) _⟩
def IdxPost (l : List S41) (w : World) (e : Ending) (w' : World) : Prop := (∃ r : Int, e = .returned (.int .i64 r) ∧ ((l.any oddW = true ∧ 0 ≤ r) ∨ (l.any oddW = false ∧ r = -1))) ∧ Below w.heap.size w w'
theorem rd_nat (l : List S41) (k : Nat) : rd_T41 l (k : Int) = l.getD k z41 := by unfold rd_T41; rw [Int.toNat_natCast]
theorem any_take_succ (l : List S41) (k : Nat) (h : k < l.length) : (l.take (k + 1)).any oddW = ((l.take k).any oddW || oddW (rd_T41 l (k : Int))) := by
  rw [List.take_succ_eq_append_getElem h, List.any_append, rd_nat, List.getD_eq_getElem?_getD, List.getElem?_eq_getElem h]
  simp
set_option maxRecDepth 100000 in
set_option maxHeartbeats 2000000 in
theorem index_any (A : Option Addr) (c : Nat) (l : List S41) (w : World) (hr : Kd.C k41 w A l.length l) (hm : l.length ≤ 9223372036854775806) :
    Calls Try.prog 28 #[.slice A l.length c, .func (.func 21) #[] #[]] w (IdxPost l w) := by
  have HR := Aside0.mk hr
  clear hr
  go_enter Try.func28, Try.ntmps28
  go_wp2
  go_loopg [8] l.length (fun kq i w' => ∃ k : Nat, kq + k = l.length ∧ i = .int .i64 (k : Int) ∧ (l.take k).any oddW = false ∧ Below w.heap.size w w')
  case atStart => exact ⟨0, by omega, rfl, rfl, Below.refl _ _⟩
  case round =>
    obtain ⟨k, hk, rfl, hno, hb⟩ := hrel
    have HNO := Aside0.mk hno
    have HB := Aside0.mk hb
    clear hno hb
    by_cases hlt : k < l.length
    · obtain ⟨ad, rfl, x0, x1, x2⟩ := at_T41 (Kd.C_below HR.out HB.out) (k : Int) (by omega) (by omega)
      rw [Int.toNat_natCast] at x0 x1 x2
      have HT := Aside0.mk (any_take_succ l k hlt)
      have hodd := fun W => oddW_calls (rd_T41 l (k : Int)) W
      generalize rd_T41 l (k : Int) = y at x0 x1 x2 HT hodd
      obtain ⟨f0, f1, f2⟩ := y
      unfold candV at hodd
      have p1 := eq_true (show (0 : Int) ≤ (k : Int) from by omega)
      have p2 := eq_true (show (k : Int) < (l.length : Int) from by omega)
      cases ho : oddW ⟨f0, f1, f2⟩
      · rw [ho] at hodd
        have HO := Aside0.mk hodd
        have HOO := Aside0.mk ho
        clear hodd ho
        go_wp2_with (go_at_call 21; refine (HO.out _).mono ?_; rintro e w' ⟨rfl, hb⟩)
        have HB2 := Aside0.mk (below_step HB.out hb)
        clear hb
        go_wp2
        go_roundg (gk - 1)
        case measure => omega
        case rel => exact ⟨k + 1, by omega, by simp, by rw [HT.out, HNO.out, HOO.out]; rfl, HB2.out⟩
      · rw [ho] at hodd
        have HO := Aside0.mk hodd
        have HOO := Aside0.mk ho
        clear hodd ho
        go_wp2_with (go_at_call 21; refine (HO.out _).mono ?_; rintro e w' ⟨rfl, hb⟩)
        have HB2 := Aside0.mk (below_step HB.out hb)
        clear hb
        go_wp2
        go_ret
        refine ⟨⟨k, rfl, .inl ⟨?_, by omega⟩⟩, HB2.out⟩
        have h2 := HT.out
        rw [HOO.out, Bool.or_true] at h2
        rw [List.any_eq_true] at h2 ⊢
        obtain ⟨z, hz, hz2⟩ := h2
        exact ⟨z, List.mem_of_mem_take hz, hz2⟩
    · obtain rfl : k = l.length := by omega
      go_wp2
      go_ret
      exact ⟨⟨-1, rfl, .inr ⟨by have := HNO.out; rwa [List.take_length] at this, rfl⟩⟩, HB.out⟩
theorem ret_bool2 {a b : Bool} (h : a = b) : Ending.returned (.bool a) = .returned (.bool b) := by rw [h]
set_option maxHeartbeats 1000000 in
theorem contains_any (A : Option Addr) (c : Nat) (l : List S41) (w : World) (hr : Kd.C k41 w A l.length l) (hm : l.length ≤ 9223372036854775806) :
    Calls Try.prog 23 #[.slice A l.length c, .func (.func 21) #[] #[]] w fun e w' => e = .returned (.bool (l.any oddW)) ∧ Below w.heap.size w w' := by
  have HI := Aside0.mk (index_any A c l w hr hm)
  clear hr
  go_enter Try.func23, Try.ntmps23
  go_wp2_with fail
  refine HI.out.mono ?_
  rintro e w' ⟨⟨r, rfl, hr⟩, hb⟩
  have HB := Aside0.mk hb
  clear hb
  rcases hr with ⟨ha, h0⟩ | ⟨ha, rfl⟩
  · have HA := Aside0.mk ha
    have hd : decide (0 ≤ r) = true := decide_eq_true h0
    clear ha h0
    go_wp2
    go_ret
    exact ⟨ret_bool2 HA.out.symm, HB.out⟩
  · have HA := Aside0.mk ha
    clear ha
    go_wp2
    go_ret
    exact ⟨ret_bool2 HA.out.symm, HB.out⟩
end Go.Proofs.Ytkhdfbmkikiapaa.Given

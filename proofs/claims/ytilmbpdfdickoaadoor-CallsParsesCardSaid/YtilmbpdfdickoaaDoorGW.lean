/- The library's functions and calls.number, in the printed form. -/
import Derived.Test.YtilmbpdfdickoaaDoorLd
import Derived.Test.YtilmbpdfdickoaaDoorMC
import Derived.Test.YtilmbpdfdickoaaDoorMA
import Derived.Sort.Grow
namespace Go.Proofs.YtilmbpdfdickoaaDoor.Given
open Go.RowKit Go.Proofs.YtilmbpdfdickoaaDoor Go.Proofs.YtilmbpdfdickoaaDoor.Print Go.Proofs.YtilmbpdfdickoaaDoor.Pure Go.Proofs.YtilmbpdfdickoaaDoorW.PrintWords
set_option linter.unusedVariables false
set_option linter.unusedSimpArgs false
theorem below_grow (w : World) (k : Nat) (os : Array Obj) : Below w.heap.size w (Sort.grow (w.drewN k) os) :=
  ⟨rfl, rfl, rfl, by rw [Sort.size_grow]; exact Nat.le_add_right _ _, fun i hi => Sort.heap_grow_old (w.drewN k) os hi⟩
/-- strconv.Itoa, in the printed form. -/
def strconv_Itoa.f (n : Int) : Option ByteArray := if -9223372036854775808 ≤ n ∧ n ≤ 9223372036854775807 then some ⟨(Lib.itoa n).toArray⟩ else none
theorem strconv_Itoa.calls (a0 : Int) (r : ByteArray) (w : World) (HLd : Ld w) (h : strconv_Itoa.f a0 = some r) :
    Calls Tryd.prog 28 #[.int .i64 a0] w fun e w' => e = .returned (.string r) ∧ Below w.heap.size w w' := by
  unfold strconv_Itoa.f at h
  split at h
  · rename_i hn
    obtain rfl := Option.some.inj h
    refine (Tryd.strconv_Itoa a0 hn.1 hn.2 w HLd.tab).mono ?_
    rintro e w' ⟨he, k, os, rfl⟩
    exact ⟨he, below_grow w k os⟩
  · cases h
def numP (s : ByteArray) : Int := match Lib.parseIntB 64 s.data.toList with
  | .ok v => v
  | .range => Lib.intSat 64 s.data.toList
  | _ => 0
theorem parse_c (s : ByteArray) (hs : s.size ≤ 281474976710656) (w : World) (HLd : Ld w) :
    Calls Tryd.prog 48 #[.string s, .int .i64 10, .int .i64 64] w fun e w' => ∃ x : Value, e = .returned (.tuple #[.int .i64 (numP s), x]) ∧ (match Lib.parseIntB 64 s.data.toList with
      | .ok _ => x = .nilIface
      | _ => ∃ p, x = .iface 120 (.pointer (some p))) ∧ Below w.heap.size w w' := by
  unfold numP
  cases hp : Lib.parseIntB 64 s.data.toList with
  | ok v =>
    refine (Tryd.strconv_ParseInt_10_at64_ok s (by omega) v hp w).mono ?_
    rintro e w' ⟨rfl, h⟩
    refine ⟨_, rfl, rfl, ?_⟩
    rcases h with rfl | ⟨t, rfl⟩
    · exact Below.refl _ _
    · exact Lib.bytesWorld_below w 5 t
  | range =>
    obtain ⟨te, pe, hv⟩ := HLd.rng
    refine (Tryd.strconv_ParseInt_10_at64_range s hs hp _ w hv (.inr ⟨_, _, rfl⟩)).mono ?_
    rintro e w' ⟨n, rfl, _, _, hb⟩
    exact ⟨_, rfl, ⟨_, rfl⟩, hb⟩
  | _ =>
    obtain ⟨te, pe, hv⟩ := HLd.syn
    refine (Tryd.strconv_ParseInt_10_at64_bad s hs (fun v h_ => by rw [hp] at h_; cases h_) (fun h_ => by rw [hp] at h_; cases h_) _ w hv (.inr ⟨_, _, rfl⟩)).mono ?_
    rintro e w' ⟨n, rfl, _, _, hb⟩
    exact ⟨_, rfl, ⟨_, rfl⟩, hb⟩
theorem format_c (n : Int) (h0 : 0 ≤ n) (h1 : n ≤ 1000000000000) (w : World) (HLd : Ld w) :
    Calls Tryd.prog 49 #[.int .i64 n, .int .i64 10] w fun e w' => e = .returned (.string ⟨(Lib.itoa n).toArray⟩) ∧ Below w.heap.size w w' := by
  refine (Tryd.strconv_FormatInt_10 n (by omega) (by omega) w HLd.tab).mono ?_
  rintro e w' ⟨he, k, os, rfl⟩
  exact ⟨he, below_grow w k os⟩
theorem numT_of (s : List UInt8) (h : ∀ v : Int, Lib.parseIntB 64 s = .ok v → ¬ (0 ≤ v ∧ v ≤ 1000000000000 ∧ Lib.itoa v = s)) : numT s = none := by
  cases hn : numT s with
  | none => rfl
  | some n =>
    obtain ⟨rfl, hm⟩ := numT_some.1 hn
    have hp := parse_dec n hm
    exact absurd ⟨by omega, by have : most = 1000000000000 := rfl; omega, (read_is _ (n : Int) (by omega) (by have : most = 1000000000000 := rfl; omega)).2 (by rw [hn]; rfl)⟩ (h _ hp)
theorem num_is (s : ByteArray) (v : Int) (hp : Lib.parseIntB 64 s.data.toList = .ok v) (h0 : 0 ≤ v) (h1 : v ≤ 1000000000000) : (Lib.itoa v == s.toList) = (numT s.data.toList).isSome := by
  rw [ByteArray.toList_eq]
  by_cases h : Lib.itoa v = s.data.toList
  · rw [beq_iff_eq.2 h, (read_is _ v h0 (by have : most = 1000000000000 := rfl; omega)).1 h]; rfl
  · rw [beq_eq_false_iff_ne.2 h, numT_of s.data.toList (fun u hu hc => by rw [hp] at hu; cases hu; exact h hc.2.2)]; rfl
set_option maxHeartbeats 8000000 in
set_option maxRecDepth 100000 in
theorem number_walk (s : ByteArray) (hs : s.size ≤ 281474976710656) (w : World) (HLd : Ld w) :
    Calls Tryd.prog 35 #[.string s] w fun e w' => e = .returned (.tuple #[.int .i64 (numP s), .bool (numT s.data.toList).isSome]) ∧ Below w.heap.size w w' := by
  cases hp : Lib.parseIntB 64 s.data.toList with
  | ok v =>
    have hv : numP s = v := by unfold numP; rw [hp]
    have HV := Aside0.mk hv
    have HP := Aside0.mk hp
    have HS := Aside0.mk hs
    by_cases h0 : 0 ≤ v
    · by_cases h1 : v ≤ 1000000000000
      · have HI := Aside0.mk (num_is s v hp h0 h1)
        have H0 := Aside0.mk h0
        have H1 := Aside0.mk h1
        have t0 : decide (v ≥ (0 : Int)) = true := decide_eq_true h0
        have t1 : decide (v ≤ (1000000000000 : Int)) = true := decide_eq_true h1
        clear hv hp hs h0 h1
        go_enter Tryd.func35, Tryd.ntmps35
        go_wp2_with fail
        refine (parse_c s HS.out _ HLd).mono ?_
        rintro e w1 ⟨x, rfl, hx, hb⟩
        rw [HP.out] at hx
        subst hx
        have HB := Aside0.mk hb
        clear hb
        rw [HV.out]
        go_wp2_with fail
        refine (format_c v H0.out H1.out _ (HLd.below HB.out)).mono ?_
        rintro e w2 ⟨rfl, hb⟩
        have HB2 := Aside0.mk (below_step HB.out hb)
        clear hb
        go_wp2_with fail
        go_ret2
        rw [HV.out, HI.out]
        exact ⟨rfl, HB2.out⟩
      · have HI := Aside0.mk (numT_of s.data.toList (fun u hu hc => by rw [hp] at hu; cases hu; omega))
        have t0 : decide (v ≥ (0 : Int)) = true := decide_eq_true h0
        have t1 : decide (v ≤ (1000000000000 : Int)) = false := decide_eq_false h1
        clear hv hp hs h0 h1
        go_enter Tryd.func35, Tryd.ntmps35
        go_wp2_with fail
        refine (parse_c s HS.out _ HLd).mono ?_
        rintro e w1 ⟨x, rfl, hx, hb⟩
        rw [HP.out] at hx
        subst hx
        have HB := Aside0.mk hb
        clear hb
        rw [HV.out]
        go_wp2_with fail
        go_ret2
        rw [HV.out, HI.out]
        exact ⟨rfl, HB.out⟩
    · have HI := Aside0.mk (numT_of s.data.toList (fun u hu hc => by rw [hp] at hu; cases hu; omega))
      have t0 : decide (v ≥ (0 : Int)) = false := decide_eq_false h0
      clear hv hp hs h0
      go_enter Tryd.func35, Tryd.ntmps35
      go_wp2_with fail
      refine (parse_c s HS.out _ HLd).mono ?_
      rintro e w1 ⟨x, rfl, hx, hb⟩
      rw [HP.out] at hx
      subst hx
      have HB := Aside0.mk hb
      clear hb
      rw [HV.out]
      go_wp2_with fail
      go_ret2
      rw [HV.out, HI.out]
      exact ⟨rfl, HB.out⟩
  | range =>
    have HP := Aside0.mk hp
    have HS := Aside0.mk hs
    have HI := Aside0.mk (numT_of s.data.toList (fun u hu hc => by rw [hp] at hu; cases hu))
    clear hp hs
    go_enter Tryd.func35, Tryd.ntmps35
    go_wp2_with fail
    refine (parse_c s HS.out _ HLd).mono ?_
    rintro e w1 ⟨x, rfl, hx, hb⟩
    rw [HP.out] at hx
    obtain ⟨p, rfl⟩ := hx
    have HB := Aside0.mk hb
    clear hb
    go_wp2_with fail
    go_ret2
    rw [HI.out]
    exact ⟨rfl, HB.out⟩
  | _ =>
    have HP := Aside0.mk hp
    have HS := Aside0.mk hs
    have HI := Aside0.mk (numT_of s.data.toList (fun u hu hc => by rw [hp] at hu; cases hu))
    clear hp hs
    go_enter Tryd.func35, Tryd.ntmps35
    go_wp2_with fail
    refine (parse_c s HS.out _ HLd).mono ?_
    rintro e w1 ⟨x, rfl, hx, hb⟩
    rw [HP.out] at hx
    obtain ⟨p, rfl⟩ := hx
    have HB := Aside0.mk hb
    clear hb
    go_wp2_with fail
    go_ret2
    rw [HI.out]
    exact ⟨rfl, HB.out⟩
/-- calls.number, in the printed form. -/
def calls_number.f (s : ByteArray) : Option (Int × Bool) := if s.size ≤ 281474976710656 then some (numP s, (numT s.data.toList).isSome) else none
theorem calls_number.calls (a0 : ByteArray) (r1 : Int) (r2 : Bool) (w : World) (HLd : Ld w) (h : calls_number.f a0 = some (r1, r2)) :
    Calls Tryd.prog 35 #[.string a0] w fun e w' => e = .returned (.tuple #[.int .i64 r1, .bool r2]) ∧ Below w.heap.size w w' := by
  unfold calls_number.f at h
  split at h
  · rename_i hs
    have e := Option.some.inj h
    have e1 := congrArg Prod.fst e
    have e2 := congrArg Prod.snd e
    simp only at e1 e2
    rw [← e1, ← e2]
    exact number_walk a0 hs w HLd
  · cases h
/-- strings.Cut, strings.CutPrefix, in the printed form. -/
def strings_Cut.f (s sep : ByteArray) : Option (ByteArray × ByteArray × Bool) := if s.size < 4294967281 then some (⟨(Lib.cut s.data.toList sep.data.toList).1.toArray⟩, ⟨(Lib.cut s.data.toList sep.data.toList).2.1.toArray⟩, (Lib.cut s.data.toList sep.data.toList).2.2) else none
theorem strings_Cut.calls (a0 a1 : ByteArray) (r1 r2 : ByteArray) (r3 : Bool) (w : World) (HLd : Ld w) (h : strings_Cut.f a0 a1 = some (r1, r2, r3)) :
    Calls Tryd.prog 50 #[.string a0, .string a1] w fun e w' => e = .returned (.tuple #[.string r1, .string r2, .bool r3]) ∧ Below w.heap.size w w' := by
  unfold strings_Cut.f at h
  split at h
  · rename_i hs
    have e := Option.some.inj h
    have e1 := congrArg Prod.fst e
    have e2 := congrArg (fun x => x.2.1) e
    have e3 := congrArg (fun x => x.2.2) e
    simp only at e1 e2 e3
    rw [← e1, ← e2, ← e3]
    obtain ⟨m, hm⟩ := HLd.top
    refine (Tryd.strings_Cut a0 a1 m w hs hm).mono ?_
    rintro e w' ⟨he, n, rfl⟩
    exact ⟨he, pw_below_drewN (Below.refl _ _) n⟩
  · cases h
def strings_CutPrefix.f (s p : ByteArray) : Option (ByteArray × Bool) := some (⟨(Lib.trimPrefix s.data.toList p.data.toList).toArray⟩, Lib.hasPrefix s.data.toList p.data.toList)
theorem strings_CutPrefix.calls (a0 a1 : ByteArray) (r1 : ByteArray) (r2 : Bool) (w : World) (h : strings_CutPrefix.f a0 a1 = some (r1, r2)) :
    Calls Tryd.prog 130 #[.string a0, .string a1] w fun e w' => e = .returned (.tuple #[.string r1, .bool r2]) ∧ w' = w := by
  have e := Option.some.inj h
  have e1 := congrArg Prod.fst e
  have e2 := congrArg Prod.snd e
  simp only at e1 e2
  rw [← e1, ← e2]
  exact Tryd.strings_CutPrefix a0 a1 w
end Go.Proofs.YtilmbpdfdickoaaDoor.Given

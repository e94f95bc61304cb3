/- cpus.Parse's own function 'number', walked. -/
import Derived.Test.YthnbmepdolfbnaaDoorGN
namespace Go.Proofs.YthnbmepdolfbnaaDoor.Given
open Go.RowKit Go.Proofs.YthnbmepdolfbnaaDoor Go.Proofs.YthnbmepdolfbnaaDoor.Pure Go.Proofs.YthnbmepdolfbnaaDoorW.PrintWords
set_option linter.unusedVariables false
set_option linter.unusedSimpArgs false
/-- What 'number' leaves: its place behind the digits, where they are a number; and nothing else has changed. -/
def NumPost (B gS gA : Nat) (s : ByteArray) (p : Nat) (w : World) (e : Ending) (w' : World) : Prop :=
  Below B w w' ∧ w'.heap[gS]? = some (.cells #[.string s] 9 (0, 0)) ∧
    ((∃ n : Nat, numV ((s.data.toList.drop p).takeWhile isD) = some n ∧ e = .returned (.int .i64 n) ∧ w'.heap[gA]? = some (.cells #[.int .i64 ((p + ((s.data.toList.drop p).takeWhile isD).length : Nat) : Int)] 3 (0, 0))) ∨
      (numV ((s.data.toList.drop p).takeWhile isD) = none ∧ e = .returned (.int .i64 (-1))))
theorem size_list (s : ByteArray) : s.data.toList.length = s.size := rfl
set_option maxHeartbeats 8000000 in
set_option maxRecDepth 100000 in
theorem number_c (B gS gA : Nat) (s : ByteArray) (p : Nat) (w : World) (hB : B ≤ gA) (hne : gS ≠ gA) (hS : w.heap[gS]? = some (.cells #[.string s] 9 (0, 0))) (hA : w.heap[gA]? = some (.cells #[.int .i64 (p : Int)] 3 (0, 0))) (hp : p ≤ s.size) (hsz : s.size ≤ 1000) :
    Calls Tryd.prog 26 #[.pointer (some ⟨gA, 0, none⟩), .pointer (some ⟨gS, 0, none⟩)] w (NumPost B gS gA s p w) := by
  have cS : w.cell? ⟨gS, 0, none⟩ = some (.string s) := (blk_cell hS 0).trans rfl
  have cA : w.cell? ⟨gA, 0, none⟩ = some (.int .i64 (p : Int)) := (blk_cell hA 0).trans rfl
  have KB := Aside0.mk hB
  have KNE := Aside0.mk hne
  have KS := Aside0.mk hS
  have KA := Aside0.mk hA
  have KP := Aside0.mk hp
  have KZ := Aside0.mk hsz
  clear hB hne hS hA hp hsz
  go_enter Tryd.func26, Tryd.ntmps26
  go_wp2_with fail
  go_quiet (fail)
  go_wp2_with fail
  clear cS cA
  go_loopg [3] 5 (fun kq v3 w' => ∃ (i : Nat) (wl : World), v3 = .int .i64 ((valL (sub s.data.toList p i) : Nat) : Int) ∧ wl = w' ∧ Aside0 (p ≤ i ∧ i ≤ s.size ∧ i ≤ p + 3 ∧ ∀ x ∈ sub s.data.toList p i, isD x = true) ∧ Aside0 (p + 4 ≤ i + kq ∧ kq ≤ 5) ∧ Aside0 (Below B w w') ∧ Aside0 (w'.heap[gS]? = some (.cells #[.string s] 9 (0, 0))) ∧ Aside0 (w'.heap[gA]? = some (.cells #[.int .i64 (i : Int)] 3 (0, 0))))
  case atStart => exact ⟨p, _, by rw [sub_self]; rfl, rfl, ⟨Nat.le_refl _, KP.out, by omega, by rw [sub_self]; simp⟩, ⟨by omega, Nat.le_refl _⟩, ⟨by repeat (with_reducible first | exact Below.refl _ _ | apply pw_below_drewN | apply below_drew1)⟩, ⟨KS.out⟩, ⟨KA.out⟩⟩
  case round =>
    obtain ⟨i, wl, rfl, rfl, HI, HK, HB, HS, HA⟩ := hrel
    cases gk with
    | zero => exact absurd HK.out (by have := HI.out; omega)
    | succ k1 =>
      have cS : wl.cell? ⟨gS, 0, none⟩ = some (.string s) := (blk_cell HS.out 0).trans rfl
      have cA : wl.cell? ⟨gA, 0, none⟩ = some (.int .i64 (i : Int)) := (blk_cell HA.out 0).trans rfl
      have fA := blk_frozen HA.out 0
      have hv := valL_lt _ HI.out.2.2.2 (by rw [sub_len s.data.toList p i HI.out.1 HI.out.2.1]; have := HI.out.2.2.1; omega)
      have hv1 : ((valL (sub s.data.toList p i) : Nat) : Int) ≤ 999 := by omega
      have hi1 : (i : Int) ≤ 1000 := by have := HI.out.2.1; have := KZ.out; omega
      by_cases hlt : i < s.size
      · by_cases hd : 48 ≤ (s[i].toNat : Int) ∧ (s[i].toNat : Int) ≤ 57
        · obtain ⟨hd0, hd1⟩ := hd
          by_cases h3 : i < p + 3
          · have t0 := decide_eq_true hlt
            have t3 : decide (wrap64 ((i : Int) - (p : Int)) < 3) = true := decide_eq_true (by unfold wrap64; have := HI.out; omega)
            have HSn := Aside0.mk (sub_snoc s.data.toList p i HI.out.1 hlt)
            have HE : Aside0 (((valL (sub s.data.toList p (i + 1)) : Nat) : Int) = (valL (sub s.data.toList p i) : Int) * 10 + ((s[i].toNat : Int) - 48)) := ⟨by rw [HSn.out, valL_snoc]; show (((valL _ * 10 + (s[i].toNat - 48) : Nat)) : Int) = _; omega⟩
            have HD : Aside0 (isD s[i] = true) := ⟨(isD_iff _).2 ⟨by omega, by omega⟩⟩
            have H3 := Aside0.mk h3
            have HT := Aside0.mk hlt
            clear hv
            go_wp2_with fail
            go_roundg k1
            case measure => have := HK.out; omega
            case rel =>
              refine ⟨i + 1, _, ?_, rfl, ⟨by have := HI.out; omega, HT.out, by have := H3.out; omega, ?_⟩, ⟨by have := HK.out; omega, by have := HK.out; omega⟩, ⟨?_⟩, ⟨?_⟩, ⟨?_⟩⟩
              · rw [HE.out]
              · intro x hx
                rw [HSn.out] at hx
                rcases List.mem_append.1 hx with hx | hx
                · exact HI.out.2.2.2 x hx
                · rw [List.mem_singleton.1 hx]; exact HD.out
              · exact HB.out.setCell KB.out _
              · exact blk_far HS.out KNE.out _
              · exact blk_put HA.out 0 _ rfl
          · have t0 := decide_eq_true hlt
            have t3 : decide (wrap64 ((i : Int) - (p : Int)) < 3) = false := decide_eq_false (by unfold wrap64; have := HI.out; omega)
            have HX : Aside0 (i = s.data.toList.length ∨ i = p + 3 ∨ ∃ hl : i < s.data.toList.length, isD s.data.toList[i] = false) := ⟨.inr (.inl (by have := HI.out; omega))⟩
            have HEnd := Aside0.mk (sub_end s.data.toList p i HI.out.1 HI.out.2.1 HI.out.2.2.2 HI.out.2.2.1 HX.out)
            have hlen := sub_len s.data.toList p i HI.out.1 HI.out.2.1
            by_cases e0 : i = p
            · have f0 : ((i : Int) == (p : Int)) = true := beq_iff_eq.mpr (by omega)
              have HT : Aside0 (tells (sub s.data.toList p i) = none) := ⟨if_pos (.inl (List.length_eq_zero_iff.1 (by omega)))⟩
              clear hv e0 hlen h3
              go_wp2_with fail
              go_ret
              exact ⟨HB.out, HS.out, .inr ⟨by rw [← HEnd.out.1]; exact HT.out, rfl⟩⟩
            · have f0 : ((i : Int) == (p : Int)) = false := beq_eq_false_iff_ne.mpr (by omega)
              have hne : ¬ (sub s.data.toList p i = []) := fun h => by rw [h] at hlen; have := HI.out.1; simp at hlen; omega
              by_cases e1 : i = p + 1
              · have f1 : decide (1 < (wrap64 ((i : Int) - (p : Int)))) = false := decide_eq_false (by unfold wrap64; have := HI.out.1; omega)
                have h9 : valL (sub s.data.toList p i) < 64 := by
                  obtain ⟨a, ha⟩ := List.length_eq_one_iff.1 (show (sub s.data.toList p i).length = 1 by omega)
                  have hd_ := (isD_iff a).1 (HI.out.2.2.2 a (by rw [ha]; simp))
                  rw [ha]; simp [valL]; omega
                have HT : Aside0 (tells (sub s.data.toList p i) = some (valL (sub s.data.toList p i))) := ⟨if_neg (fun h => h.elim hne (fun h => h.elim (fun h => by have := h.1; omega) (fun h => by omega)))⟩
                have f3 : decide (64 ≤ valL (sub s.data.toList p i)) = false := decide_eq_false (by omega)
                have f4 : decide ((64 : Int) ≤ ((valL (sub s.data.toList p i) : Nat) : Int)) = false := decide_eq_false (by omega)
                clear hv e0 e1 h9 hne hlen h3
                go_wp2_with fail
                go_ret
                exact ⟨HB.out, HS.out, .inl ⟨_, by rw [← HEnd.out.1]; exact HT.out, rfl, by rw [HEnd.out.2 (by rw [← HEnd.out.1, HT.out]; exact fun h => by cases h), sub_len s.data.toList p i HI.out.1 HI.out.2.1, show p + (i - p) = i from by have := HI.out.1; omega]; exact HA.out⟩⟩
              · have f1 : decide (1 < (wrap64 ((i : Int) - (p : Int)))) = true := decide_eq_true (by unfold wrap64; have := HI.out.1; have := HI.out.2.2.1; omega)
                have f1b : decide ((1 : Int) < (i : Int) - (p : Int)) = true := decide_eq_true (by have := HI.out.1; omega)
                have hps : p < s.size := by have := HI.out.1; have := HI.out.2.1; omega
                have hh := sub_head s.data.toList p i (by have := HI.out.1; omega) HI.out.2.1
                have hgl : s.data.toList[p]'hps = s[p] := rfl
                rw [hgl] at hh
                by_cases e2 : s[p].toNat = 48
                · have f2 : ((s[p].toNat : Int) == 48) = true := beq_iff_eq.mpr (by omega)
                  have HT : Aside0 (tells (sub s.data.toList p i) = none) := ⟨if_pos (.inr (.inl ⟨by have := HI.out.1; omega, by rw [hh, show s[p] = 48 from UInt8.toNat_inj.1 e2]⟩))⟩
                  clear hv e0 e1 e2 hne hlen hh hgl h3
                  go_wp2_with fail
                  go_ret
                  exact ⟨HB.out, HS.out, .inr ⟨by rw [← HEnd.out.1]; exact HT.out, rfl⟩⟩
                · have f2 : ((s[p].toNat : Int) == 48) = false := beq_eq_false_iff_ne.mpr (by omega)
                  by_cases e3 : 64 ≤ valL (sub s.data.toList p i)
                  · have f3 := decide_eq_true e3
                    have f4 : decide ((64 : Int) ≤ ((valL (sub s.data.toList p i) : Nat) : Int)) = true := decide_eq_true (by omega)
                    have HT : Aside0 (tells (sub s.data.toList p i) = none) := ⟨if_pos (.inr (.inr e3))⟩
                    clear hv e0 e1 e2 e3 hne hlen hh hgl h3
                    go_wp2_with fail
                    go_ret
                    exact ⟨HB.out, HS.out, .inr ⟨by rw [← HEnd.out.1]; exact HT.out, rfl⟩⟩
                  · have f3 : decide (64 ≤ valL (sub s.data.toList p i)) = false := decide_eq_false e3
                    have f4 : decide ((64 : Int) ≤ ((valL (sub s.data.toList p i) : Nat) : Int)) = false := decide_eq_false (by omega)
                    have HT : Aside0 (tells (sub s.data.toList p i) = some (valL (sub s.data.toList p i))) := ⟨if_neg (fun h => h.elim hne (fun h => h.elim (fun h => e2 (by have h_ := h.2; rw [hh] at h_; rw [Option.some.inj h_]; rfl)) e3))⟩
                    clear hv e0 e1 e2 e3 hne hlen hh hgl h3
                    go_wp2_with fail
                    go_ret
                    exact ⟨HB.out, HS.out, .inl ⟨_, by rw [← HEnd.out.1]; exact HT.out, rfl, by rw [HEnd.out.2 (by rw [← HEnd.out.1, HT.out]; exact fun h => by cases h), sub_len s.data.toList p i HI.out.1 HI.out.2.1, show p + (i - p) = i from by have := HI.out.1; omega]; exact HA.out⟩⟩
        · have t0 := decide_eq_true hlt
          have HX : Aside0 (i = s.data.toList.length ∨ i = p + 3 ∨ ∃ hl : i < s.data.toList.length, isD s.data.toList[i] = false) := ⟨.inr (.inr ⟨hlt, by
            cases hh : isD s.data.toList[i] with
            | false => rfl
            | true => exact absurd ((isD_iff _).1 hh) (fun h => hd ⟨by have := h.1; show (48 : Int) ≤ ((s.data.toList[i]).toNat : Int); omega, by have := h.2; show ((s.data.toList[i]).toNat : Int) ≤ 57; omega⟩)⟩)⟩
          by_cases hd0 : 48 ≤ (s[i].toNat : Int)
          · have hd1 : ¬ ((s[i].toNat : Int) ≤ 57) := fun h => hd ⟨hd0, h⟩
            clear hd
            have HEnd := Aside0.mk (sub_end s.data.toList p i HI.out.1 HI.out.2.1 HI.out.2.2.2 HI.out.2.2.1 HX.out)
            have hlen := sub_len s.data.toList p i HI.out.1 HI.out.2.1
            by_cases e0 : i = p
            · have f0 : ((i : Int) == (p : Int)) = true := beq_iff_eq.mpr (by omega)
              have HT : Aside0 (tells (sub s.data.toList p i) = none) := ⟨if_pos (.inl (List.length_eq_zero_iff.1 (by omega)))⟩
              clear hv e0 hlen 
              go_wp2_with fail
              go_ret
              exact ⟨HB.out, HS.out, .inr ⟨by rw [← HEnd.out.1]; exact HT.out, rfl⟩⟩
            · have f0 : ((i : Int) == (p : Int)) = false := beq_eq_false_iff_ne.mpr (by omega)
              have hne : ¬ (sub s.data.toList p i = []) := fun h => by rw [h] at hlen; have := HI.out.1; simp at hlen; omega
              by_cases e1 : i = p + 1
              · have f1 : decide (1 < (wrap64 ((i : Int) - (p : Int)))) = false := decide_eq_false (by unfold wrap64; have := HI.out.1; omega)
                have h9 : valL (sub s.data.toList p i) < 64 := by
                  obtain ⟨a, ha⟩ := List.length_eq_one_iff.1 (show (sub s.data.toList p i).length = 1 by omega)
                  have hd_ := (isD_iff a).1 (HI.out.2.2.2 a (by rw [ha]; simp))
                  rw [ha]; simp [valL]; omega
                have HT : Aside0 (tells (sub s.data.toList p i) = some (valL (sub s.data.toList p i))) := ⟨if_neg (fun h => h.elim hne (fun h => h.elim (fun h => by have := h.1; omega) (fun h => by omega)))⟩
                have f3 : decide (64 ≤ valL (sub s.data.toList p i)) = false := decide_eq_false (by omega)
                have f4 : decide ((64 : Int) ≤ ((valL (sub s.data.toList p i) : Nat) : Int)) = false := decide_eq_false (by omega)
                clear hv e0 e1 h9 hne hlen 
                go_wp2_with fail
                go_ret
                exact ⟨HB.out, HS.out, .inl ⟨_, by rw [← HEnd.out.1]; exact HT.out, rfl, by rw [HEnd.out.2 (by rw [← HEnd.out.1, HT.out]; exact fun h => by cases h), sub_len s.data.toList p i HI.out.1 HI.out.2.1, show p + (i - p) = i from by have := HI.out.1; omega]; exact HA.out⟩⟩
              · have f1 : decide (1 < (wrap64 ((i : Int) - (p : Int)))) = true := decide_eq_true (by unfold wrap64; have := HI.out.1; have := HI.out.2.2.1; omega)
                have f1b : decide ((1 : Int) < (i : Int) - (p : Int)) = true := decide_eq_true (by have := HI.out.1; omega)
                have hps : p < s.size := by have := HI.out.1; have := HI.out.2.1; omega
                have hh := sub_head s.data.toList p i (by have := HI.out.1; omega) HI.out.2.1
                have hgl : s.data.toList[p]'hps = s[p] := rfl
                rw [hgl] at hh
                by_cases e2 : s[p].toNat = 48
                · have f2 : ((s[p].toNat : Int) == 48) = true := beq_iff_eq.mpr (by omega)
                  have HT : Aside0 (tells (sub s.data.toList p i) = none) := ⟨if_pos (.inr (.inl ⟨by have := HI.out.1; omega, by rw [hh, show s[p] = 48 from UInt8.toNat_inj.1 e2]⟩))⟩
                  clear hv e0 e1 e2 hne hlen hh hgl 
                  go_wp2_with fail
                  go_ret
                  exact ⟨HB.out, HS.out, .inr ⟨by rw [← HEnd.out.1]; exact HT.out, rfl⟩⟩
                · have f2 : ((s[p].toNat : Int) == 48) = false := beq_eq_false_iff_ne.mpr (by omega)
                  by_cases e3 : 64 ≤ valL (sub s.data.toList p i)
                  · have f3 := decide_eq_true e3
                    have f4 : decide ((64 : Int) ≤ ((valL (sub s.data.toList p i) : Nat) : Int)) = true := decide_eq_true (by omega)
                    have HT : Aside0 (tells (sub s.data.toList p i) = none) := ⟨if_pos (.inr (.inr e3))⟩
                    clear hv e0 e1 e2 e3 hne hlen hh hgl 
                    go_wp2_with fail
                    go_ret
                    exact ⟨HB.out, HS.out, .inr ⟨by rw [← HEnd.out.1]; exact HT.out, rfl⟩⟩
                  · have f3 : decide (64 ≤ valL (sub s.data.toList p i)) = false := decide_eq_false e3
                    have f4 : decide ((64 : Int) ≤ ((valL (sub s.data.toList p i) : Nat) : Int)) = false := decide_eq_false (by omega)
                    have HT : Aside0 (tells (sub s.data.toList p i) = some (valL (sub s.data.toList p i))) := ⟨if_neg (fun h => h.elim hne (fun h => h.elim (fun h => e2 (by have h_ := h.2; rw [hh] at h_; rw [Option.some.inj h_]; rfl)) e3))⟩
                    clear hv e0 e1 e2 e3 hne hlen hh hgl 
                    go_wp2_with fail
                    go_ret
                    exact ⟨HB.out, HS.out, .inl ⟨_, by rw [← HEnd.out.1]; exact HT.out, rfl, by rw [HEnd.out.2 (by rw [← HEnd.out.1, HT.out]; exact fun h => by cases h), sub_len s.data.toList p i HI.out.1 HI.out.2.1, show p + (i - p) = i from by have := HI.out.1; omega]; exact HA.out⟩⟩
          · clear hd
            have HEnd := Aside0.mk (sub_end s.data.toList p i HI.out.1 HI.out.2.1 HI.out.2.2.2 HI.out.2.2.1 HX.out)
            have hlen := sub_len s.data.toList p i HI.out.1 HI.out.2.1
            by_cases e0 : i = p
            · have f0 : ((i : Int) == (p : Int)) = true := beq_iff_eq.mpr (by omega)
              have HT : Aside0 (tells (sub s.data.toList p i) = none) := ⟨if_pos (.inl (List.length_eq_zero_iff.1 (by omega)))⟩
              clear hv e0 hlen 
              go_wp2_with fail
              go_ret
              exact ⟨HB.out, HS.out, .inr ⟨by rw [← HEnd.out.1]; exact HT.out, rfl⟩⟩
            · have f0 : ((i : Int) == (p : Int)) = false := beq_eq_false_iff_ne.mpr (by omega)
              have hne : ¬ (sub s.data.toList p i = []) := fun h => by rw [h] at hlen; have := HI.out.1; simp at hlen; omega
              by_cases e1 : i = p + 1
              · have f1 : decide (1 < (wrap64 ((i : Int) - (p : Int)))) = false := decide_eq_false (by unfold wrap64; have := HI.out.1; omega)
                have h9 : valL (sub s.data.toList p i) < 64 := by
                  obtain ⟨a, ha⟩ := List.length_eq_one_iff.1 (show (sub s.data.toList p i).length = 1 by omega)
                  have hd_ := (isD_iff a).1 (HI.out.2.2.2 a (by rw [ha]; simp))
                  rw [ha]; simp [valL]; omega
                have HT : Aside0 (tells (sub s.data.toList p i) = some (valL (sub s.data.toList p i))) := ⟨if_neg (fun h => h.elim hne (fun h => h.elim (fun h => by have := h.1; omega) (fun h => by omega)))⟩
                have f3 : decide (64 ≤ valL (sub s.data.toList p i)) = false := decide_eq_false (by omega)
                have f4 : decide ((64 : Int) ≤ ((valL (sub s.data.toList p i) : Nat) : Int)) = false := decide_eq_false (by omega)
                clear hv e0 e1 h9 hne hlen 
                go_wp2_with fail
                go_ret
                exact ⟨HB.out, HS.out, .inl ⟨_, by rw [← HEnd.out.1]; exact HT.out, rfl, by rw [HEnd.out.2 (by rw [← HEnd.out.1, HT.out]; exact fun h => by cases h), sub_len s.data.toList p i HI.out.1 HI.out.2.1, show p + (i - p) = i from by have := HI.out.1; omega]; exact HA.out⟩⟩
              · have f1 : decide (1 < (wrap64 ((i : Int) - (p : Int)))) = true := decide_eq_true (by unfold wrap64; have := HI.out.1; have := HI.out.2.2.1; omega)
                have f1b : decide ((1 : Int) < (i : Int) - (p : Int)) = true := decide_eq_true (by have := HI.out.1; omega)
                have hps : p < s.size := by have := HI.out.1; have := HI.out.2.1; omega
                have hh := sub_head s.data.toList p i (by have := HI.out.1; omega) HI.out.2.1
                have hgl : s.data.toList[p]'hps = s[p] := rfl
                rw [hgl] at hh
                by_cases e2 : s[p].toNat = 48
                · have f2 : ((s[p].toNat : Int) == 48) = true := beq_iff_eq.mpr (by omega)
                  have HT : Aside0 (tells (sub s.data.toList p i) = none) := ⟨if_pos (.inr (.inl ⟨by have := HI.out.1; omega, by rw [hh, show s[p] = 48 from UInt8.toNat_inj.1 e2]⟩))⟩
                  clear hv e0 e1 e2 hne hlen hh hgl 
                  go_wp2_with fail
                  go_ret
                  exact ⟨HB.out, HS.out, .inr ⟨by rw [← HEnd.out.1]; exact HT.out, rfl⟩⟩
                · have f2 : ((s[p].toNat : Int) == 48) = false := beq_eq_false_iff_ne.mpr (by omega)
                  by_cases e3 : 64 ≤ valL (sub s.data.toList p i)
                  · have f3 := decide_eq_true e3
                    have f4 : decide ((64 : Int) ≤ ((valL (sub s.data.toList p i) : Nat) : Int)) = true := decide_eq_true (by omega)
                    have HT : Aside0 (tells (sub s.data.toList p i) = none) := ⟨if_pos (.inr (.inr e3))⟩
                    clear hv e0 e1 e2 e3 hne hlen hh hgl 
                    go_wp2_with fail
                    go_ret
                    exact ⟨HB.out, HS.out, .inr ⟨by rw [← HEnd.out.1]; exact HT.out, rfl⟩⟩
                  · have f3 : decide (64 ≤ valL (sub s.data.toList p i)) = false := decide_eq_false e3
                    have f4 : decide ((64 : Int) ≤ ((valL (sub s.data.toList p i) : Nat) : Int)) = false := decide_eq_false (by omega)
                    have HT : Aside0 (tells (sub s.data.toList p i) = some (valL (sub s.data.toList p i))) := ⟨if_neg (fun h => h.elim hne (fun h => h.elim (fun h => e2 (by have h_ := h.2; rw [hh] at h_; rw [Option.some.inj h_]; rfl)) e3))⟩
                    clear hv e0 e1 e2 e3 hne hlen hh hgl 
                    go_wp2_with fail
                    go_ret
                    exact ⟨HB.out, HS.out, .inl ⟨_, by rw [← HEnd.out.1]; exact HT.out, rfl, by rw [HEnd.out.2 (by rw [← HEnd.out.1, HT.out]; exact fun h => by cases h), sub_len s.data.toList p i HI.out.1 HI.out.2.1, show p + (i - p) = i from by have := HI.out.1; omega]; exact HA.out⟩⟩
      · have HX : Aside0 (i = s.data.toList.length ∨ i = p + 3 ∨ ∃ hl : i < s.data.toList.length, isD s.data.toList[i] = false) := ⟨.inl (by have h_ := HI.out.2.1; show i = s.size; omega)⟩
        have t0 : decide (i < s.size) = false := decide_eq_false hlt
        have HEnd := Aside0.mk (sub_end s.data.toList p i HI.out.1 HI.out.2.1 HI.out.2.2.2 HI.out.2.2.1 HX.out)
        have hlen := sub_len s.data.toList p i HI.out.1 HI.out.2.1
        by_cases e0 : i = p
        · have f0 : ((i : Int) == (p : Int)) = true := beq_iff_eq.mpr (by omega)
          have HT : Aside0 (tells (sub s.data.toList p i) = none) := ⟨if_pos (.inl (List.length_eq_zero_iff.1 (by omega)))⟩
          clear hv e0 hlen 
          go_wp2_with fail
          go_ret
          exact ⟨HB.out, HS.out, .inr ⟨by rw [← HEnd.out.1]; exact HT.out, rfl⟩⟩
        · have f0 : ((i : Int) == (p : Int)) = false := beq_eq_false_iff_ne.mpr (by omega)
          have hne : ¬ (sub s.data.toList p i = []) := fun h => by rw [h] at hlen; have := HI.out.1; simp at hlen; omega
          by_cases e1 : i = p + 1
          · have f1 : decide (1 < (wrap64 ((i : Int) - (p : Int)))) = false := decide_eq_false (by unfold wrap64; have := HI.out.1; omega)
            have h9 : valL (sub s.data.toList p i) < 64 := by
              obtain ⟨a, ha⟩ := List.length_eq_one_iff.1 (show (sub s.data.toList p i).length = 1 by omega)
              have hd_ := (isD_iff a).1 (HI.out.2.2.2 a (by rw [ha]; simp))
              rw [ha]; simp [valL]; omega
            have HT : Aside0 (tells (sub s.data.toList p i) = some (valL (sub s.data.toList p i))) := ⟨if_neg (fun h => h.elim hne (fun h => h.elim (fun h => by have := h.1; omega) (fun h => by omega)))⟩
            have f3 : decide (64 ≤ valL (sub s.data.toList p i)) = false := decide_eq_false (by omega)
            have f4 : decide ((64 : Int) ≤ ((valL (sub s.data.toList p i) : Nat) : Int)) = false := decide_eq_false (by omega)
            clear hv e0 e1 h9 hne hlen 
            go_wp2_with fail
            go_ret
            exact ⟨HB.out, HS.out, .inl ⟨_, by rw [← HEnd.out.1]; exact HT.out, rfl, by rw [HEnd.out.2 (by rw [← HEnd.out.1, HT.out]; exact fun h => by cases h), sub_len s.data.toList p i HI.out.1 HI.out.2.1, show p + (i - p) = i from by have := HI.out.1; omega]; exact HA.out⟩⟩
          · have f1 : decide (1 < (wrap64 ((i : Int) - (p : Int)))) = true := decide_eq_true (by unfold wrap64; have := HI.out.1; have := HI.out.2.2.1; omega)
            have f1b : decide ((1 : Int) < (i : Int) - (p : Int)) = true := decide_eq_true (by have := HI.out.1; omega)
            have hps : p < s.size := by have := HI.out.1; have := HI.out.2.1; omega
            have hh := sub_head s.data.toList p i (by have := HI.out.1; omega) HI.out.2.1
            have hgl : s.data.toList[p]'hps = s[p] := rfl
            rw [hgl] at hh
            by_cases e2 : s[p].toNat = 48
            · have f2 : ((s[p].toNat : Int) == 48) = true := beq_iff_eq.mpr (by omega)
              have HT : Aside0 (tells (sub s.data.toList p i) = none) := ⟨if_pos (.inr (.inl ⟨by have := HI.out.1; omega, by rw [hh, show s[p] = 48 from UInt8.toNat_inj.1 e2]⟩))⟩
              clear hv e0 e1 e2 hne hlen hh hgl 
              go_wp2_with fail
              go_ret
              exact ⟨HB.out, HS.out, .inr ⟨by rw [← HEnd.out.1]; exact HT.out, rfl⟩⟩
            · have f2 : ((s[p].toNat : Int) == 48) = false := beq_eq_false_iff_ne.mpr (by omega)
              by_cases e3 : 64 ≤ valL (sub s.data.toList p i)
              · have f3 := decide_eq_true e3
                have f4 : decide ((64 : Int) ≤ ((valL (sub s.data.toList p i) : Nat) : Int)) = true := decide_eq_true (by omega)
                have HT : Aside0 (tells (sub s.data.toList p i) = none) := ⟨if_pos (.inr (.inr e3))⟩
                clear hv e0 e1 e2 e3 hne hlen hh hgl 
                go_wp2_with fail
                go_ret
                exact ⟨HB.out, HS.out, .inr ⟨by rw [← HEnd.out.1]; exact HT.out, rfl⟩⟩
              · have f3 : decide (64 ≤ valL (sub s.data.toList p i)) = false := decide_eq_false e3
                have f4 : decide ((64 : Int) ≤ ((valL (sub s.data.toList p i) : Nat) : Int)) = false := decide_eq_false (by omega)
                have HT : Aside0 (tells (sub s.data.toList p i) = some (valL (sub s.data.toList p i))) := ⟨if_neg (fun h => h.elim hne (fun h => h.elim (fun h => e2 (by have h_ := h.2; rw [hh] at h_; rw [Option.some.inj h_]; rfl)) e3))⟩
                clear hv e0 e1 e2 e3 hne hlen hh hgl 
                go_wp2_with fail
                go_ret
                exact ⟨HB.out, HS.out, .inl ⟨_, by rw [← HEnd.out.1]; exact HT.out, rfl, by rw [HEnd.out.2 (by rw [← HEnd.out.1, HT.out]; exact fun h => by cases h), sub_len s.data.toList p i HI.out.1 HI.out.2.1, show p + (i - p) = i from by have := HI.out.1; omega]; exact HA.out⟩⟩
end Go.Proofs.YthnbmepdolfbnaaDoor.Given

/- Chapter 15's reference: Say and Hear tell what the program tells: plain. -/
import Derived.Test.YtilmbpdfdickoaaDoorPureRefA
import Derived.Test.YtilmbpdfdickoaaDoorPrintF16
import Derived.Test.YtilmbpdfdickoaaDoorPrintF18
namespace Go.Proofs.YtilmbpdfdickoaaDoor.Pure
open Go Go.RowKit Go.Proofs.YtilmbpdfdickoaaDoor Go.Proofs.YtilmbpdfdickoaaDoor.Given Go.Proofs.YtilmbpdfdickoaaDoor.Print Go.Proofs.YtilmbpdfdickoaaDoorW.PrintWords Go.Proofs.YtilmbpdfdickoaaDoorW.PrintLast Go.Proofs.YtilmbpdfdickoaaDoorW.PrintMore
set_option linter.unusedVariables false
set_option linter.unusedSimpArgs false
theorem say15 (a : AnsS) (k : Nat) (hk : 100 ≤ k) : turnspitref15_Say.f k a.errno a.n a.slot a.gen = some (ba (sayS a).1, (sayS a).2) := by
  obtain ⟨k, rfl⟩ : ∃ m, k = m + 2 := ⟨k - 2, by omega⟩
  unfold turnspitref15_Say.f sayS sayA
  by_cases h0 : a.errno < 0
  · rw [if_pos h0, turnspitref15_Say.j0, if_pos rfl, if_pos (by omega), if_neg (fun h => by omega)]; rfl
  · rw [if_neg h0]
    by_cases h11 : a.errno > 11
    · rw [decide_eq_true h11, turnspitref15_Say.j0, if_pos rfl, if_pos (by omega), if_neg (fun h => by omega)]; rfl
    · rw [decide_eq_false h11, turnspitref15_Say.j0, if_neg (by decide)]
      by_cases hp : a.errno > 0
      · rw [if_pos hp, if_pos (show a.errno ≠ 0 by omega)]
        by_cases hn : a.n = 0
        · rw [if_pos hn]
          by_cases h3 : a.slot = 0 ∧ a.gen = 0
          · have hm : mayI a.errno := ⟨by omega, by omega⟩
            have hl := dec_size hm
            have ek : (⟨#[101, 114, 114, 111, 114, 32]⟩ : ByteArray) = ba (errT ++ [32]) := rfl
            rw [if_neg (by rw [h3.1, h3.2]; decide), digitsI hm (k + 1) (by omega), Option.bind_some, if_pos (by omega), if_pos ⟨by omega, by omega, hn, h3.1, h3.2⟩, ek, ba_app]
            simp
          · rw [if_pos (by
              rw [Bool.or_eq_true, Bool.not_eq_true', Bool.not_eq_true', beq_eq_false_iff_ne, beq_eq_false_iff_ne]
              by_cases q : a.slot = 0
              · exact .inr (fun q2 => h3 ⟨q, q2⟩)
              · exact .inl q), if_neg (fun hh => h3 ⟨hh.2.2.2.1, hh.2.2.2.2⟩)]; rfl
        · rw [if_neg hn, if_neg (fun hh => hn hh.2.2.1)]; rfl
      · have hz : a.errno = 0 := by omega
        rw [if_neg hp, if_neg (fun h => h hz), task15 a.slot a.gen (k + 1) (by omega), Option.bind_some, may15, Option.bind_some]
        cases hT : taskT a.slot a.gen with
        | none =>
          cases decide (mayI a.n)
          · rw [if_neg (by decide), turnspitref15_Say.j1, if_pos rfl]; rfl
          · rw [if_pos rfl, turnspitref15_Say.j1, if_pos (by rfl)]; rfl
        | some t =>
          dsimp only [optT]
          by_cases hm : mayI a.n
          · have hl := dec_size hm
            have hl2 := len_task hT
            rw [decide_eq_true hm, if_pos rfl, turnspitref15_Say.j1, if_neg (by decide), if_pos hm]
            have ek : (⟨#[111, 107, 32]⟩ : ByteArray) = ba (okT ++ [32]) := rfl
            have es : (⟨#[32]⟩ : ByteArray) = ba [32] := rfl
            by_cases h00 : a.slot = 0 ∧ a.gen = 0
            · rw [if_pos (by rw [h00.1, h00.2]; rfl), digitsI hm k (by omega), Option.bind_some, if_pos (by omega), if_pos h00, ek, ba_app]
              simp
            · rw [if_neg (by rw [Bool.and_eq_true, beq_iff_eq, beq_iff_eq]; exact h00), digitsI hm k (by omega), Option.bind_some, if_pos (by omega), if_neg h00, ek, es, ba_app, ba_app, ba_app, ba_size, ba_size, ba_size]
              have hd := len_dec hm
              have g1 : (okT ++ [32] ++ decI a.n).length + 1 ≤ 9223372036854775807 := by simp [okT]; omega
              have g2 : (okT ++ [32] ++ decI a.n ++ [32]).length + t.length ≤ 9223372036854775807 := by simp [okT]; omega
              rw [if_pos g1, if_pos g2]
              simp
          · rw [decide_eq_false hm, if_neg (by decide), turnspitref15_Say.j1, if_pos rfl, if_neg hm]; rfl
theorem numJ_neg (l : List UInt8) : decide (numJ l < 0) = (numT l).isNone := by
  unfold numJ
  cases h : numT l with
  | none => rfl
  | some n => exact decide_eq_false (by dsimp only; omega)
theorem splitL_len32 : ∀ (l : List UInt8), ∀ x ∈ splitL 32 l, x.length ≤ l.length
  | [], x, hx => by
    rw [List.mem_singleton.1 (show x ∈ [[]] from hx)]; exact Nat.le_refl _
  | y :: l, x, hx => by
    have ih := splitL_len32 l
    unfold splitL at hx
    split at hx
    · rcases List.mem_cons.1 hx with rfl | h
      · exact Nat.zero_le _
      · exact Nat.le_succ_of_le (ih x h)
    · split at hx
      · rw [List.mem_singleton.1 hx]; simp
      · rename_i h t he
        rcases List.mem_cons.1 hx with rfl | h2
        · have := ih h (by rw [he]; simp)
          simp; omega
        · exact Nat.le_succ_of_le (ih x (by rw [he]; exact List.mem_cons.2 (.inr h2)))
def hear4 (r : AnsS × Int) : Int × Int × Int × Int × Int := (r.1.errno, r.1.n, r.1.slot, r.1.gen, r.2)
theorem hear15 (l : List UInt8) (hl : l.length ≤ 1000) (k : Nat) (hk : 2000 ≤ k) : turnspitref15_Hear.f k (ba l) = some (hear4 (hearS l)) := by
  obtain ⟨k, rfl⟩ : ∃ m, k = m + 4 := ⟨k - 4, by omega⟩
  unfold turnspitref15_Hear.f hearS
  by_cases h100 : 100 < l.length
  · rw [if_pos (by rw [ba_size]; omega), if_pos h100]; rfl
  · have hc := cut15 l (by omega) 32 (k + 4) (by omega)
    rw [show (((32 : UInt8).toNat : Nat) : Int) = 32 from rfl] at hc
    rw [if_neg (by rw [ba_size]; omega), if_neg h100, hc, Option.bind_some, List.length_map]
    unfold hearA
    have hw := splitL_len32 l
    generalize splitL 32 l = q at hw
    rcases q with _ | ⟨a, _ | ⟨b, _ | ⟨c, _ | ⟨d, r⟩⟩⟩⟩
    · rw [if_pos (by show (0 : Int) < 2; decide), turnspitref15_Hear.j0, if_pos rfl]; rfl
    · rw [if_pos (by show (1 : Int) < 2; decide), turnspitref15_Hear.j0, if_pos rfl]; rfl
    · have r0 : rdOf ByteArray.empty ([a, b].map ba) 0 = ba a := rfl
      have r1 : rdOf ByteArray.empty ([a, b].map ba) 1 = ba b := rfl
      rw [if_neg (by show ¬ (2 : Int) < 2; decide), if_pos (by show (1 : Int) < 2; decide), r1, number15 b (k + 4) (by omega), Option.bind_some, numJ_neg, turnspitref15_Hear.j0]
      cases hb : numT b with
      | none => rw [if_pos (by rfl)]; dsimp only; rw [hb]; rfl
      | some n =>
        rw [if_neg (by simp), List.length_map, if_pos (by show (1 : Int) < 2; decide), r1, number15 b (k + 3) (by omega), Option.bind_some, if_pos (by show (0 : Int) < 2; decide), r0, ba_list, numJ_some hb]
        dsimp only
        rw [hb]
        dsimp only
        by_cases ha : a = errT
        · rw [if_pos (show a = ([101, 114, 114, 111, 114] : List UInt8) from ha), if_pos (by rfl)]
          by_cases h1 : ((n : Int) ≥ 1)
          · rw [if_pos h1, turnspitref15_Hear.j1]
            by_cases h2 : ((n : Int) ≤ 11)
            · rw [decide_eq_true h2, if_pos rfl, if_pos ⟨ha, by omega, by omega⟩]; rfl
            · have hk : ¬ a = okT := fun e => absurd (ha.symm.trans e) (by decide)
              rw [decide_eq_false h2, if_neg (by decide), List.length_map, if_pos (by show (0 : Int) < 2; decide), r0, ba_list, if_neg (show ¬ a = ([111, 107] : List UInt8) from hk), turnspitref15_Hear.j2, if_pos rfl, if_neg (fun h => by omega), if_neg hk]; rfl
          · have hk : ¬ a = okT := fun e => absurd (ha.symm.trans e) (by decide)
            rw [if_neg h1, turnspitref15_Hear.j1, if_neg (by decide), List.length_map, if_pos (by show (0 : Int) < 2; decide), r0, ba_list, if_neg (show ¬ a = ([111, 107] : List UInt8) from hk), turnspitref15_Hear.j2, if_pos rfl, if_neg (fun h => by omega), if_neg hk]; rfl
        · rw [if_neg (show ¬ a = ([101, 114, 114, 111, 114] : List UInt8) from ha), turnspitref15_Hear.j1, if_neg (by decide), List.length_map, if_pos (by show (0 : Int) < 2; decide), r0, ba_list, if_neg (show ¬ (a = errT ∧ 1 ≤ n ∧ n ≤ 11) from fun h => ha h.1)]
          by_cases hk : a = okT
          · rw [if_pos (show a = ([111, 107] : List UInt8) from hk), if_pos hk, turnspitref15_Hear.j2, if_neg (by show ¬ (decide ((2 : Int) > 3)) = true; decide), List.length_map, if_neg (by show ¬ (2 : Int) = 3; decide)]; rfl
          · rw [if_neg (show ¬ a = ([111, 107] : List UInt8) from hk), if_neg hk, turnspitref15_Hear.j2, if_pos rfl]; rfl
    · have r0 : rdOf ByteArray.empty ([a, b, c].map ba) 0 = ba a := rfl
      have r1 : rdOf ByteArray.empty ([a, b, c].map ba) 1 = ba b := rfl
      have r2 : rdOf ByteArray.empty ([a, b, c].map ba) 2 = ba c := rfl
      have hcl : c.length ≤ l.length := hw c (by simp)
      rw [if_neg (by show ¬ (3 : Int) < 2; decide), if_pos (by show (1 : Int) < 3; decide), r1, number15 b (k + 4) (by omega), Option.bind_some, numJ_neg, turnspitref15_Hear.j0]
      cases hb : numT b with
      | none => rw [if_pos (by rfl)]; dsimp only; rw [hb]; rfl
      | some n =>
        rw [if_neg (by simp), List.length_map, if_pos (by show (1 : Int) < 3; decide), r1, number15 b (k + 3) (by omega), Option.bind_some, if_pos (by show (0 : Int) < 3; decide), r0, ba_list, numJ_some hb]
        dsimp only
        rw [hb]
        dsimp only
        have e3 : ¬ ((([a, b, c] : List (List UInt8)).length : Nat) : Int) = 2 := by show ¬ (3 : Int) = 2; decide
        have step : ∀ q : Prop, [Decidable q] → (if q then (if ((([a, b, c] : List (List UInt8)).length : Nat) : Int) = 2 then (if (n : Int) ≥ 1 then turnspitref15_Hear.j1 (k + 3) ([a, b, c].map ba) (n : Int) (decide ((n : Int) ≤ 11)) 0 0 0 0 else turnspitref15_Hear.j1 (k + 3) ([a, b, c].map ba) (n : Int) false 0 0 0 0) else turnspitref15_Hear.j1 (k + 3) ([a, b, c].map ba) (n : Int) false 0 0 0 0) else turnspitref15_Hear.j1 (k + 3) ([a, b, c].map ba) (n : Int) false 0 0 0 0) = turnspitref15_Hear.j1 (k + 3) ([a, b, c].map ba) (n : Int) false 0 0 0 0 := by
          intro q _
          by_cases hq : q
          · rw [if_pos hq, if_neg e3]
          · rw [if_neg hq]
        rw [step, turnspitref15_Hear.j1, if_neg (by decide), List.length_map, if_pos (by show (0 : Int) < 3; decide), r0, ba_list]
        by_cases hk : a = okT
        · rw [if_pos (show a = ([111, 107] : List UInt8) from hk), if_pos hk, turnspitref15_Hear.j2, if_neg (by show ¬ (decide ((3 : Int) > 3)) = true; decide), List.length_map, if_pos (by rfl), if_pos (by show (2 : Int) < 3; decide), r2, handle15 c (by omega) (k + 1) (by omega), Option.bind_some]
          cases hv : handleV c with
          | none => rfl
          | some v =>
            change (if (v.1 == 0 && (v.2 == 0)) = true then some ((0 : Int), (0 : Int), (0 : Int), (0 : Int), (3 : Int)) else some ((0 : Int), (n : Int), v.1, v.2, (0 : Int))) = _
            dsimp only
            by_cases h00 : v.1 = 0 ∧ v.2 = 0
            · rw [if_pos (by rw [h00.1, h00.2]; rfl), if_pos h00]; rfl
            · rw [if_neg (by rw [Bool.and_eq_true, beq_iff_eq, beq_iff_eq]; exact h00), if_neg h00]; rfl
        · rw [if_neg (show ¬ a = ([111, 107] : List UInt8) from hk), if_neg hk, turnspitref15_Hear.j2, if_pos rfl]; rfl
    · have r0 : rdOf ByteArray.empty ((a :: b :: c :: d :: r).map ba) 0 = ba a := rfl
      have r1 : rdOf ByteArray.empty ((a :: b :: c :: d :: r).map ba) 1 = ba b := rfl
      have hm : (4 : Int) ≤ (((a :: b :: c :: d :: r).length : Nat) : Int) := by simp only [List.length_cons]; omega
      refine Eq.trans (b := some (hear4 (ans0, 3))) ?_ rfl
      generalize (a :: b :: c :: d :: r) = q at r0 r1 hm
      rw [if_neg (by omega), if_pos (by omega), r1, number15 b (k + 4) (by omega), Option.bind_some, numJ_neg, turnspitref15_Hear.j0]
      cases hb : numT b with
      | none => rw [if_pos (by rfl)]; rfl
      | some n =>
        rw [if_neg (by simp), List.length_map, if_pos (by omega), r1, number15 b (k + 3) (by omega), Option.bind_some, if_pos (by omega), r0, ba_list, numJ_some hb]
        have e3 : ¬ (((q.length : Nat) : Int) = 2) := by omega
        have step : ∀ p : Prop, [Decidable p] → (if p then (if ((q.length : Nat) : Int) = 2 then (if (n : Int) ≥ 1 then turnspitref15_Hear.j1 (k + 3) (q.map ba) (n : Int) (decide ((n : Int) ≤ 11)) 0 0 0 0 else turnspitref15_Hear.j1 (k + 3) (q.map ba) (n : Int) false 0 0 0 0) else turnspitref15_Hear.j1 (k + 3) (q.map ba) (n : Int) false 0 0 0 0) else turnspitref15_Hear.j1 (k + 3) (q.map ba) (n : Int) false 0 0 0 0) = turnspitref15_Hear.j1 (k + 3) (q.map ba) (n : Int) false 0 0 0 0 := by
          intro p _
          by_cases hq : p
          · rw [if_pos hq, if_neg e3]
          · rw [if_neg hq]
        rw [step, turnspitref15_Hear.j1, if_neg (by decide), List.length_map, if_pos (by omega), r0, ba_list]
        have h3 : decide (((q.length : Nat) : Int) > 3) = true := decide_eq_true (by omega)
        by_cases hk : a = ([111, 107] : List UInt8)
        · rw [if_pos hk, h3, turnspitref15_Hear.j2, if_pos rfl]; rfl
        · rw [if_neg hk, turnspitref15_Hear.j2, if_pos rfl]; rfl
end Go.Proofs.YtilmbpdfdickoaaDoor.Pure

/- Chapter 15's reference: Print tells what the program tells: plain. -/
import Derived.Test.YtilmbpdfdickoaaDoorPureRefA
import Derived.Test.YtilmbpdfdickoaaDoorPureRef5
import Derived.Test.YtilmbpdfdickoaaDoorPrintF11
namespace Go.Proofs.YtilmbpdfdickoaaDoor.Pure
open Go Go.RowKit Go.Proofs.YtilmbpdfdickoaaDoor Go.Proofs.YtilmbpdfdickoaaDoor.Given Go.Proofs.YtilmbpdfdickoaaDoor.Print Go.Proofs.YtilmbpdfdickoaaDoorW.PrintWords Go.Proofs.YtilmbpdfdickoaaDoorW.PrintLast Go.Proofs.YtilmbpdfdickoaaDoorW.PrintMore
set_option linter.unusedVariables false
set_option linter.unusedSimpArgs false
theorem opt_eta (o : Option (List UInt8)) : ((optT o).1, (optT o).2) = optT o := by cases o <;> rfl
theorem part15 (k : UInt8) (hk : isLet k) (c : CallS) (hm : u64I c.mask) (K : Nat) (hK : 5000 ≤ K) : turnspitref15_part.f K c.op c.slot c.gen c.cpu c.n c.nice c.mask (k.toNat : Int) = some (optT (tellF k c)) := by
  unfold turnspitref15_part.f
  rcases hk with rfl | rfl | rfl | rfl | rfl
  · rw [if_pos (by rfl)]
    show _ = some (optT (if -1000 ≤ c.nice ∧ c.nice ≤ 1000 then some (Lib.itoa c.nice) else none))
    by_cases h0 : c.nice < -1000
    · rw [if_pos h0, if_neg (fun h => by omega)]; rfl
    · rw [if_neg h0]
      by_cases h1 : c.nice > 1000
      · rw [if_pos h1, if_neg (fun h => by omega)]; rfl
      · rw [if_neg h1, nice15 c.nice (by omega) (by omega) K (by omega), Option.bind_some, if_pos ⟨by omega, by omega⟩]; rfl
  · rw [if_neg (by decide), if_pos (by rfl)]
    show _ = some (optT (some (printL c.mask.toNat)))
    obtain ⟨M, hM⟩ := Int.eq_ofNat_of_zero_le hm.1
    have h2 : M < 2 ^ 64 := by have := hm.2; omega
    rw [hM, R5.print_r M h2 K hK, Option.bind_some]
    rfl
  · rw [if_neg (by decide), if_neg (by decide), if_pos (by rfl), task15 c.slot c.gen K (by omega), Option.bind_some, opt_eta]
    rfl
  · rw [if_neg (by decide), if_neg (by decide), if_neg (by decide), if_pos (by rfl), may15, Option.bind_some]
    show _ = some (optT (if mayI c.cpu then some (decI c.cpu) else none))
    by_cases h : mayI c.cpu
    · rw [decide_eq_true h, if_pos rfl, digitsI h K (by omega), Option.bind_some, if_pos h]; rfl
    · rw [decide_eq_false h, if_neg (by decide), if_neg h]; rfl
  · rw [if_neg (by decide), if_neg (by decide), if_neg (by decide), if_neg (by decide), may15, Option.bind_some]
    show _ = some (optT (if mayI c.n then some (decI c.n) else none))
    by_cases h : mayI c.n
    · rw [decide_eq_true h, if_pos rfl, digitsI h K (by omega), Option.bind_some, if_pos h]; rfl
    · rw [decide_eq_false h, if_neg (by decide), if_neg h]; rfl
def clearF (k : UInt8) (c : CallS) : CallS :=
  if k = 110 then { c with nice := 0 }
  else if k = 109 then { c with mask := 0 }
  else if k = 116 then { c with slot := 0, gen := 0 }
  else if k = 99 then { c with cpu := 0 }
  else { c with n := 0 }
def c7 (c : CallS) : Int × Int × Int × Int × Int × Int × Int := (c.op, c.slot, c.gen, c.cpu, c.n, c.nice, c.mask)
theorem without15 (k : UInt8) (hk : isLet k) (c : CallS) : turnspitref15_without.f c.op c.slot c.gen c.cpu c.n c.nice c.mask (k.toNat : Int) = some (c7 (clearF k c)) := by
  unfold turnspitref15_without.f
  rcases hk with rfl | rfl | rfl | rfl | rfl
  · rw [if_pos (by rfl)]; rfl
  · rw [if_neg (by decide), if_pos (by rfl)]; rfl
  · rw [if_neg (by decide), if_neg (by decide), if_pos (by rfl)]; rfl
  · rw [if_neg (by decide), if_neg (by decide), if_neg (by decide), if_pos (by rfl)]; rfl
  · rw [if_neg (by decide), if_neg (by decide), if_neg (by decide), if_neg (by decide)]; rfl
def clears : List UInt8 → CallS → CallS
  | [], c => c
  | k :: ks, c => clears ks (clearF k c)
def endP (c : CallS) (ks : List UInt8) (out : List UInt8) (rest : CallS) : ByteArray × Int := match goTell c ks with
  | none => (ba [], 1)
  | some r => if clears ks rest = call0 then (ba (out ++ r), 0) else (ba [], 1)
theorem zero_test (c : CallS) : ((!(c.op == 0) || ((!(c.slot == 0) || (!(c.gen == 0))) || (!(c.cpu == 0) || (!(c.n == 0) || (!(c.nice == 0) || (!(c.mask == 0))))))) = true) = ¬ (c = call0) := by
  obtain ⟨a, b, d, e, f, g, h⟩ := c
  simp only [call0, CallS.mk.injEq, Bool.or_eq_true, Bool.not_eq_true', beq_eq_false_iff_ne, eq_iff_iff]
  by_cases h0 : a = 0 <;> by_cases h1 : b = 0 <;> by_cases h2 : d = 0 <;> by_cases h3 : e = 0 <;> by_cases h4 : f = 0 <;> by_cases h5 : g = 0 <;> by_cases h6 : h = 0 <;> simp [h0, h1, h2, h3, h4, h5, h6]
theorem print_l (c : CallS) (hm : u64I c.mask) (L : List UInt8) (hL : ∀ x ∈ L, isLet x) (hlen : L.length ≤ 10) : ∀ (ks pre : List UInt8) (K : Nat) (out : List UInt8) (rest : CallS), L = pre ++ ks → out.length ≤ 100000 - 300 * ks.length → 6000 + ks.length ≤ K →
    turnspitref15_Print.l0 K (ba out) (ba L) (pre.length : Int) c.op c.slot c.gen c.cpu c.n c.nice c.mask rest.op rest.slot rest.gen rest.cpu rest.n rest.nice rest.mask = some (endP c ks out rest) := by
  intro ks
  induction ks with
  | nil =>
    intro pre K out rest hp ho hK
    obtain ⟨K, rfl⟩ : ∃ m, K = m + 1 := ⟨K - 1, by omega⟩
    rw [List.append_nil] at hp
    rw [turnspitref15_Print.l0, if_neg (by rw [ba_size, hp]; omega)]
    unfold endP goTell clears
    dsimp only
    by_cases h : rest = call0
    · rw [if_neg (by rw [zero_test]; exact fun hn => hn h), if_pos h, List.append_nil]
    · rw [if_pos (by rw [zero_test]; exact h), if_neg h]; rfl
  | cons k ks ih =>
    intro pre K out rest hp ho hK
    obtain ⟨K, rfl⟩ : ∃ m, K = m + 1 := ⟨K - 1, by omega⟩
    rw [List.length_cons] at ho hK
    have hlt : pre.length < L.length := by rw [hp]; simp
    have hget : L[pre.length] = k := by simp [hp]
    have hk : isLet k := hL k (by rw [hp]; simp)
    have hpl : pre.length ≤ 10 := by omega
    have hks : ks.length ≤ 10 := by rw [hp] at hlen; simp at hlen; omega
    have ew : wrap64 ((pre.length : Int) + 1) = ((pre ++ [k]).length : Int) := by rw [wrap64_small (by omega) (by omega), List.length_append]; rfl
    rw [turnspitref15_Print.l0, if_pos (by rw [ba_size]; omega), if_pos (by omega), bt_ba L pre.length hlt, hget, part15 k hk c hm K (by omega), Option.bind_some]
    unfold endP
    rw [goTell]
    cases ht : tellF k c with
    | none => rfl
    | some s =>
      have hs := (tell_text hm ht).2
      refine Eq.trans (if_pos (by rfl)) ?_
      have e32 : (⟨#[32]⟩ : ByteArray) = ba [32] := rfl
      refine Eq.trans (if_pos (by show (ba out).size + 1 ≤ _; rw [ba_size]; omega)) ?_
      refine Eq.trans (if_pos (by show (ba out ++ (⟨#[32]⟩ : ByteArray)).size + (ba s).size ≤ _; rw [e32, ba_app, ba_size, ba_size, List.length_append, List.length_singleton]; omega)) ?_
      rw [without15 k hk rest, Option.bind_some]
      show turnspitref15_Print.l0 K ((ba out ++ (⟨#[32]⟩ : ByteArray)) ++ ba s) (ba L) (wrap64 ((pre.length : Int) + 1)) c.op c.slot c.gen c.cpu c.n c.nice c.mask (clearF k rest).op (clearF k rest).slot (clearF k rest).gen (clearF k rest).cpu (clearF k rest).n (clearF k rest).nice (clearF k rest).mask = _
      rw [e32, ba_app, ba_app, ew]
      have h := ih (pre ++ [k]) K (out ++ [32] ++ s) (clearF k rest) (by rw [hp]; simp) (by simp only [List.length_append, List.length_singleton]; omega) (by omega)
      refine Eq.trans h ?_
      unfold endP
      rw [clears]
      cases goTell c ks with
      | none => rfl
      | some r => simp
theorem put_clear (c : CallS) (k : Fin 13) (ho : c.op = ((k.val + 1 : Nat) : Int)) : clears (toldL (k.val + 1)) { c with op := 0 } = call0 ↔ goPut c (toldL (k.val + 1)) (callOf c.op) = c := by
  obtain ⟨a, b, d, e, f, g, h⟩ := c
  match k with
  | ⟨0, _⟩ | ⟨1, _⟩ | ⟨2, _⟩ | ⟨3, _⟩ | ⟨4, _⟩ | ⟨5, _⟩ | ⟨6, _⟩ | ⟨7, _⟩ | ⟨8, _⟩ | ⟨9, _⟩ | ⟨10, _⟩ | ⟨11, _⟩ | ⟨12, _⟩ =>
    simp [toldL, clears, clearF, goPut, putF, callOf, call0]
    try omega
theorem names_at (k : Fin 13) : rdOf ByteArray.empty [(⟨#[99, 114, 101, 97, 116, 101]⟩ : ByteArray), (⟨#[101, 120, 105, 116]⟩ : ByteArray), (⟨#[119, 97, 107, 101]⟩ : ByteArray), (⟨#[98, 108, 111, 99, 107]⟩ : ByteArray), (⟨#[121, 105, 101, 108, 100]⟩ : ByteArray), (⟨#[116, 105, 99, 107]⟩ : ByteArray), (⟨#[112, 105, 99, 107]⟩ : ByteArray), (⟨#[109, 105, 103, 114, 97, 116, 101]⟩ : ByteArray), (⟨#[109, 97, 115, 107]⟩ : ByteArray), (⟨#[110, 105, 99, 101]⟩ : ByteArray), (⟨#[98, 97, 108, 97, 110, 99, 101]⟩ : ByteArray), (⟨#[115, 116, 111, 112]⟩ : ByteArray), (⟨#[108, 111, 111, 107]⟩ : ByteArray)] (k.val : Int) = ba (nameL (k.val + 1)) := by
  match k with
  | ⟨0, _⟩ | ⟨1, _⟩ | ⟨2, _⟩ | ⟨3, _⟩ | ⟨4, _⟩ | ⟨5, _⟩ | ⟨6, _⟩ | ⟨7, _⟩ | ⟨8, _⟩ | ⟨9, _⟩ | ⟨10, _⟩ | ⟨11, _⟩ | ⟨12, _⟩ => rfl
theorem told_at (k : Fin 13) : rdOf ByteArray.empty [(⟨#[110, 109]⟩ : ByteArray), (⟨#[116]⟩ : ByteArray), (⟨#[116]⟩ : ByteArray), (⟨#[99]⟩ : ByteArray), (⟨#[99]⟩ : ByteArray), (⟨#[99, 107]⟩ : ByteArray), (⟨#[99]⟩ : ByteArray), (⟨#[116, 99]⟩ : ByteArray), (⟨#[116, 109]⟩ : ByteArray), (⟨#[116, 110]⟩ : ByteArray), (⟨#[99, 107]⟩ : ByteArray), (⟨#[99]⟩ : ByteArray), (⟨#[116]⟩ : ByteArray)] (k.val : Int) = ba (toldL (k.val + 1)) := by
  match k with
  | ⟨0, _⟩ | ⟨1, _⟩ | ⟨2, _⟩ | ⟨3, _⟩ | ⟨4, _⟩ | ⟨5, _⟩ | ⟨6, _⟩ | ⟨7, _⟩ | ⟨8, _⟩ | ⟨9, _⟩ | ⟨10, _⟩ | ⟨11, _⟩ | ⟨12, _⟩ => rfl
theorem told_lets (k : Fin 13) : (∀ x ∈ toldL (k.val + 1), isLet x) ∧ (toldL (k.val + 1)).length ≤ 2 := by
  rcases told_ok k with ⟨a, e, ha⟩ | ⟨a, b, e, ha, hb, _⟩
  · rw [e]
    exact ⟨fun x hx => by rw [List.mem_singleton.1 hx]; exact ha, by simp⟩
  · rw [e]
    exact ⟨fun x hx => by rcases List.mem_cons.1 hx with rfl | hx; exact ha; rw [List.mem_singleton.1 hx]; exact hb, by simp⟩
theorem print15 (c : CallS) (hm : u64I c.mask) (hi : -9223372036854775808 ≤ c.op ∧ c.op ≤ 9223372036854775807) (K : Nat) (hK : 7000 ≤ K) : turnspitref15_Print.f K c.op c.slot c.gen c.cpu c.n c.nice c.mask = some (ba (printCS c).1, (printCS c).2) := by
  obtain ⟨K, rfl⟩ : ∃ m, K = m + 1 := ⟨K - 1, by omega⟩
  unfold turnspitref15_Print.f
  by_cases h1 : c.op < 1
  · have hp : printCS c = ([], 1) := by unfold printCS printC; rw [if_neg (fun h => by omega)]
    rw [if_pos h1, turnspitref15_Print.j0, if_pos rfl, hp]; rfl
  · rw [if_neg h1, turnspitref15_Print.j0]
    by_cases h13 : c.op > 13
    · have hp : printCS c = ([], 1) := by unfold printCS printC; rw [if_neg (fun h => by omega)]
      rw [decide_eq_true h13, if_pos rfl, hp]; rfl
    · obtain ⟨k, hk⟩ := op_cases (op := c.op) (by omega) (by omega)
      have hkl := k.isLt
      have ew : wrap64 (c.op - 1) = (k.val : Int) := by rw [wrap64_small (by omega) (by omega)]; omega
      rw [decide_eq_false h13, if_neg (by decide)]
      unfold turnspitref15_names.f turnspitref15_told.f
      rw [Option.bind_some, ew, if_pos (by omega), if_pos (by show (k.val : Int) < 13; omega), Option.bind_some, if_pos (by show (k.val : Int) < 13; omega), names_at k, told_at k]
      obtain ⟨hl1, hl2⟩ := told_lets k
      have hn := name_len k
      have h := print_l c hm (toldL (k.val + 1)) hl1 (by omega) (toldL (k.val + 1)) [] K (nameL (k.val + 1)) { c with op := 0 } rfl (by omega) (by omega)
      refine Eq.trans h ?_
      unfold endP printCS printC
      rw [if_pos (by omega), show c.op.toNat = k.val + 1 by omega]
      cases goTell c (toldL (k.val + 1)) with
      | none => rfl
      | some r =>
        dsimp only
        by_cases hp : goPut c (toldL (k.val + 1)) (callOf c.op) = c
        · rw [if_pos ((put_clear c k hk).2 hp), if_pos hp]
        · rw [if_neg (fun h => hp ((put_clear c k hk).1 h)), if_neg hp]
end Go.Proofs.YtilmbpdfdickoaaDoor.Pure

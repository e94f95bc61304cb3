/- Package life: Play, and the document's Play. -/
import Derived.Test.YtebmbegblnoeaaaDoorG5
import Derived.Test.YtebmbegblnoeaaaDoorPrintF11
namespace Go.Proofs.YtebmbegblnoeaaaDoor.Given
open Go.RowKit Go.Proofs.YtebmbegblnoeaaaDoor Go.Proofs.YtebmbegblnoeaaaDoor.Print Go.Proofs.YtebmbegblnoeaaaDoorW.PrintWords
set_option linter.unusedVariables false
set_option linter.unusedSimpArgs false
/-- An event, and a CPU. -/
structure S40 where
  f0 : Int
  f1 : Int
def z40 : S40 := ⟨0, 0⟩
def k40 : Kd S40 := Kd.iso (Kd.pair (Kd.int .i64) (Kd.int .i64)) (fun x : S40 => (x.f0, x.f1))
theorem k40_open {w : World} {x : S40} {cs : List Value} (h : k40.K w x cs) : cs = [.int .i64 x.f0, .int .i64 x.f1] := by
  obtain ⟨_, _, rfl, rfl, rfl⟩ := h
  exact rfl
theorem k40_mk (w : World) (x : S40) : k40.K w x [.int .i64 x.f0, .int .i64 x.f1] := ⟨[.int .i64 x.f0], [.int .i64 x.f1], rfl, rfl, rfl⟩
def rd_T40 (xs : List S40) (i : Int) : S40 := xs.getD i.toNat z40
theorem at_T40 {w : World} {A : Option Addr} {n : Nat} {xs : List S40} (h : Kd.C k40 w A n xs) (i : Int) (h0 : 0 ≤ i) (h1 : i < n) : ∃ ad, A = some ad ∧ w.cell? (ad.add (i.toNat * 2)) = some (.int .i64 (rd_T40 xs i).f0) ∧ w.cell? ⟨(ad.add (i.toNat * 2)).block, (ad.add (i.toNat * 2)).off + 1, none⟩ = some (.int .i64 (rd_T40 xs i).f1) := by
  obtain ⟨ad, c, e, _, hK, hc0⟩ := Kd.C_get h z40 i h0 h1
  have hc : ∀ j u, c[j]? = some u → w.cell? (ad.add (i.toNat * 2 + j)) = some u := hc0
  obtain rfl := k40_open hK
  exact ⟨ad, e, hc 0 _ rfl, by rw [← add_field _ _ 1 (by omega)]; exact hc 1 _ rfl⟩
theorem rd40_nat (l : List S40) (q : Nat) (h : q < l.length) : rd_T40 l (q : Int) = l[q] := by
  unfold rd_T40
  rw [Int.toNat_natCast, List.getD_eq_getElem?_getD, List.getElem?_eq_getElem h]; rfl
/-- Events that are played, as far as they may be. -/
def playF : Int → Int → List S40 → Option (Int × Int)
  | w, i, [] => some (w, i)
  | w, i, x :: l => (life_Next.f w x.f0 x.f1).bind fun r => if r.2 = 0 then playF r.1 (i + 1) l else some (w, i)
def life_Play.f (w : Int) (l : List S40) : Option (Int × Int) := playF w 0 l
set_option maxRecDepth 100000 in
set_option maxHeartbeats 4000000 in
theorem life_Play.calls (a0 : Int) (A : Option Addr) (c : Nat) (l : List S40) (r1 r2 : Int) (w : World) (HLd : Ld w) (hr : Kd.C k40 w A l.length l) (hm : l.length ≤ 9223372036854775806) (h : life_Play.f a0 l = some (r1, r2)) :
    Calls Tryd.prog 19 #[.int .u64 a0, .slice A l.length c] w fun e w' => e = .returned (.tuple #[.int .u64 r1, .int .i64 r2]) ∧ Below w.heap.size w w' := by
  have HR := Aside0.mk hr
  have HL := Aside0.mk HLd
  have H := Aside0.mk h
  clear hr HLd h
  go_enter Tryd.func19, Tryd.ntmps19
  go_wp2
  go_loopg [0, 12] l.length (fun kq a i w' => ∃ (q : Nat) (x : Int), kq + q = l.length ∧ a = .int .u64 x ∧ i = .int .i64 (q : Int) ∧ playF x q (l.drop q) = some (r1, r2) ∧ Below w.heap.size w w')
  case atStart => exact ⟨0, a0, by omega, rfl, rfl, H.out, Below.refl _ _⟩
  case round =>
    obtain ⟨q, x, hk, rfl, rfl, hp, hb⟩ := hrel
    have HB := Aside0.mk hb
    clear hb
    by_cases hlt : q < l.length
    · rw [List.drop_eq_getElem_cons hlt, ← rd40_nat l q hlt] at hp
      obtain ⟨ad, rfl, x0, x1⟩ := at_T40 (Kd.C_below HR.out HB.out) (q : Int) (by omega) (by omega)
      rw [Int.toNat_natCast] at x0 x1
      generalize rd_T40 l (q : Int) = y at x0 x1 hp
      obtain ⟨f0, f1⟩ := y
      unfold playF at hp
      rw [Option.bind_eq_some_iff] at hp
      obtain ⟨⟨v, e⟩, hn, hp⟩ := hp
      have HN := Aside0.mk hn
      have p1 := eq_true (show (0 : Int) ≤ (q : Int) from by omega)
      have p2 := eq_true (show (q : Int) < (l.length : Int) from by omega)
      simp only at hp
      by_cases he : e = 0
      · rw [if_pos he] at hp
        subst he
        have HP := Aside0.mk hp
        clear hp hn
        go_wp2_with (go_at_call 10; refine (life_Next.calls x f0 f1 v 0 _ (Ld.below HL.out (by repeat (first | exact HB.out | apply below_alloc))) HN.out).mono ?_; rintro e w3 ⟨rfl, hb⟩; have HB3 := Aside0.mk (below_step (show Below w.heap.size w _ by repeat (first | exact HB.out | apply below_alloc)) hb); clear hb)
        go_roundg (gk - 1)
        case measure => omega
        case rel => exact ⟨q + 1, v, by omega, rfl, by simp, HP.out, HB3.out⟩
      · rw [if_neg he] at hp
        simp only [Option.some.injEq, Prod.mk.injEq] at hp
        obtain ⟨rfl, rfl⟩ := hp
        have he' : (e == 0) = false := beq_eq_false_iff_ne.mpr he
        have he2 : (e != 0) = true := by rw [bne, he']; rfl
        clear hn he
        go_wp2_with (go_at_call 10; refine (life_Next.calls x f0 f1 v e _ (Ld.below HL.out (by repeat (first | exact HB.out | apply below_alloc))) HN.out).mono ?_; rintro e w3 ⟨rfl, hb⟩; have HB3 := Aside0.mk (below_step (show Below w.heap.size w _ by repeat (first | exact HB.out | apply below_alloc)) hb); clear hb)
        go_ret2
        exact ⟨by first | rfl | (simp; rfl), HB3.out⟩
    · obtain rfl : q = l.length := by omega
      rw [List.drop_eq_nil_of_le (Nat.le_refl _)] at hp
      unfold playF at hp
      simp only [Option.some.injEq, Prod.mk.injEq] at hp
      obtain ⟨rfl, rfl⟩ := hp
      go_wp2
      go_ret2
      exact ⟨by first | rfl | (simp; rfl), HB.out⟩
end Go.Proofs.YtebmbegblnoeaaaDoor.Given

/- LifeParts: the walk, and plain. -/
import Derived.Test.YtebmbegblnoeaaaDoorPurePlay
import Derived.Test.YtebmbegblnoeaaaDoorPrintF19
namespace Go.Proofs.YtebmbegblnoeaaaDoor
open Go.RowKit Go.Proofs.YtebmbegblnoeaaaDoor.Given Go.Proofs.YtebmbegblnoeaaaDoor.Print Go.Proofs.YtebmbegblnoeaaaDoorW.PrintWords Go.Proofs.YtebmbegblnoeaaaDoorW.PrintMore
set_option linter.unusedVariables false
set_option linter.unusedSimpArgs false
set_option maxRecDepth 100000
def Wf40 (l : List S40) : Prop := ∀ y ∈ l, (Lit.int .i64 y.f0).wf = true
theorem below_trans0 {A B C : World} (h : Below A.heap.size A B) (h2 : Below B.heap.size B C) : Below A.heap.size A C := below_step h h2
set_option maxHeartbeats 4000000 in
theorem parts_lt (x : Int) (A0 : Option Addr) (c0 : Nat) (l0 : List Int) (A1 : Option Addr) (c1 : Nat) (l1 : List Int) (X Y : List S40) (w : World) (HLd : Ld w) (hr0 : Kd.C (Kd.int .u16) w A0 l0.length l0) (hc0 : l0.length ≤ c0) (hr1 : Kd.C (Kd.int .u16) w A1 l1.length l1) (hc1 : l1.length ≤ c1)
    (hX : X.length ≤ 60) (hY : Y.length ≤ 60) (s0 : turnspitlaw07_steps.f 1000 l0 = some X) (s1 : turnspitlaw07_steps.f 1000 l1 = some Y) (v n : Int) (s2 : life_Play.f 1000 x X = some (v, n)) (s3 : life_Play.f 1000 x (X ++ Y) = some (v, n)) (hn : n < (X.length : Int)) :
    Calls Tryd.prog 9 #[.int .u64 x, .slice A0 l0.length c0, .slice A1 l1.length c1] w fun e w' => e = .returned (.bool true) ∧ Below w.heap.size w w' := by
  have HL := Aside0.mk HLd
  clear HLd
  have RA := Aside0.mk hr0
  have RB := Aside0.mk hr1
  have CA := Aside0.mk hc0
  have CB := Aside0.mk hc1
  have LX := Aside0.mk hX
  have LY := Aside0.mk hY
  clear hr0 hr1 hc0 hc1 hX hY
  have S0 := Aside0.mk s0
  clear s0
  have S1 := Aside0.mk s1
  clear s1
  have S2 := Aside0.mk s2
  clear s2
  have S3 := Aside0.mk s3
  clear s3
  have d1 : decide (n < (X.length : Int)) = true := decide_eq_true hn
  clear hn
  go_enter Tryd.func9, Tryd.ntmps9
  go_wp2_with fail
  refine (turnspitlaw07_awake.calls true _ HL.out rfl).mono ?_
  rintro e w1 ⟨rfl, hb⟩
  have HB1 := Aside0.mk (below_step (Below.refl w.heap.size w) hb)
  have RA_ := Aside0.mk (Kd.C_below RA.out hb)
  clear RA
  have RA := RA_
  clear RA_
  have RB_ := Aside0.mk (Kd.C_below RB.out hb)
  clear RB
  have RB := RB_
  clear RB_
  clear hb
  go_wp2_with fail
  refine (turnspitlaw07_steps.calls 1000 A0 c0 l0 X _ RA.out CA.out (Ld.below HL.out (by exact HB1.out)) S0.out).mono ?_
  rintro e w2 ⟨v1, rfl, ho, hb⟩
  obtain ⟨A2, c2, rfl⟩ := Kd.R_slice ho
  have HX := Aside0.mk ho
  clear ho
  have HB2 := Aside0.mk (below_step HB1.out hb)
  have RA_ := Aside0.mk (Kd.C_below RA.out hb)
  clear RA
  have RA := RA_
  clear RA_
  have RB_ := Aside0.mk (Kd.C_below RB.out hb)
  clear RB
  have RB := RB_
  clear RB_
  clear hb
  go_wp2_with fail
  refine (turnspitlaw07_steps.calls 1000 A1 c1 l1 Y _ RB.out CB.out (Ld.below HL.out (by exact HB2.out)) S1.out).mono ?_
  rintro e w3 ⟨v2, rfl, ho, hb⟩
  obtain ⟨A3, c3, rfl⟩ := Kd.R_slice ho
  have HY := Aside0.mk ho
  clear ho
  have HB3 := Aside0.mk (below_step HB2.out hb)
  have HX_ := Aside0.mk (Kd.R_below HX.out hb)
  clear HX
  have HX := HX_
  clear HX_
  have RA_ := Aside0.mk (Kd.C_below RA.out hb)
  clear RA
  have RA := RA_
  clear RA_
  have RB_ := Aside0.mk (Kd.C_below RB.out hb)
  clear RB
  have RB := RB_
  clear RB_
  clear hb
  go_wp2_with fail
  refine (life_Play.calls 1000 x A2 c2 X v n _ (Kd.R_reads' HX.out).2.2 (Kd.R_reads' HX.out).2.1 (Ld.below HL.out (by exact HB3.out)) S2.out).mono ?_
  rintro e w4 ⟨rfl, hb⟩
  have HB4 := Aside0.mk (below_step HB3.out hb)
  have HX_ := Aside0.mk (Kd.R_below HX.out hb)
  clear HX
  have HX := HX_
  clear HX_
  have HY_ := Aside0.mk (Kd.R_below HY.out hb)
  clear HY
  have HY := HY_
  clear HY_
  have RA_ := Aside0.mk (Kd.C_below RA.out hb)
  clear RA
  have RA := RA_
  clear RA_
  have RB_ := Aside0.mk (Kd.C_below RB.out hb)
  clear RB
  have RB := RB_
  clear RB_
  clear hb
  go_wp2_with (first | ((with_reducible refine gate_builtin (b := .append) (xs := #[.const (.slice none 0 0), .tmp 31]) rfl ?_); at_builtin; refine Kd.R_append_rows k40 (w0 := w4) w4.heap.size rfl (.const (.slice none 0 0)) (.tmp 31) 30 40 (.agg #[(.int .i64 0), (.int .i64 0)]) 16 rfl Tryd.underlying30 info40 rfl (by decide) (by omega) (.slice none 0 0) [] X _ _ _ (fun _ => True) (fun _ => False) rfl rfl (Kd.R_nil _ _ _ _ _) (Kd.R_reads' HX.out).2.2 (fun _ _ h => h) (fun _ h => h.elim) (fun _ _ => trivial) (Below.refl _ _) (Nat.le_refl _) (by have := LX.out; simp; omega) ?_; rintro v5 w5 hr5 hb5 _ _; have HR5 := Aside0.mk hr5; have HB5_ := Aside0.mk hb5; clear hr5 hb5) | ((with_reducible refine gate_builtin (b := .append) (xs := #[.tmp 32, .tmp 33]) rfl ?_); at_builtin; refine Kd.R_append_rows k40 (w0 := w4) w4.heap.size rfl (.tmp 32) (.tmp 33) 30 40 (.agg #[(.int .i64 0), (.int .i64 0)]) 16 rfl Tryd.underlying30 info40 rfl (by decide) (by omega) (v5) ([] ++ X) Y _ _ _ (fun _ => True) (fun _ => False) rfl rfl HR5.out (Kd.R_reads' (Kd.R_below HY.out HB5_.out)).2.2 (fun _ _ h => h) (fun _ h => h.elim) (fun _ _ => trivial) HB5_.out (HB5_.out.size) (by have := LX.out; have := LY.out; simp; omega) ?_; rintro v6 w6 hr6 hb6 _ _; obtain ⟨A6, c6, rfl⟩ := Kd.R_slice hr6; have HR6 := Aside0.mk hr6; have HB6_ := Aside0.mk hb6; clear hr6 hb6))
  have hq := life_Play.calls 1000 x A6 c6 (([] ++ X) ++ Y) v n w6 (Kd.R_reads' HR6.out).2.2 (Kd.R_reads' HR6.out).2.1 (Ld.below HL.out (below_step HB4.out HB6_.out)) S3.out
  rw [List.nil_append, List.length_append] at hq
  refine hq.mono ?_
  clear hq
  rintro e w7 ⟨rfl, hb⟩
  have HB7 := Aside0.mk (below_step (below_step HB4.out HB6_.out) hb)
  have HY_ := Aside0.mk (Kd.R_below (Kd.R_below HY.out HB6_.out) hb)
  clear HY
  have HY := HY_
  clear HY_ hb
  go_wp2_with fail
  go_ret
  exact ⟨rfl, by repeat (first | exact HB7.out | apply below_alloc | apply pw_below_drewN)⟩
set_option maxHeartbeats 4000000 in
theorem parts_ge (x : Int) (A0 : Option Addr) (c0 : Nat) (l0 : List Int) (A1 : Option Addr) (c1 : Nat) (l1 : List Int) (X Y : List S40) (w : World) (HLd : Ld w) (hr0 : Kd.C (Kd.int .u16) w A0 l0.length l0) (hc0 : l0.length ≤ c0) (hr1 : Kd.C (Kd.int .u16) w A1 l1.length l1) (hc1 : l1.length ≤ c1)
    (hX : X.length ≤ 60) (hY : Y.length ≤ 60) (s0 : turnspitlaw07_steps.f 1000 l0 = some X) (s1 : turnspitlaw07_steps.f 1000 l1 = some Y) (v n t q : Int) (s2 : life_Play.f 1000 x X = some (v, n)) (s3 : life_Play.f 1000 x (X ++ Y) = some (t, n + q)) (s4 : life_Play.f 1000 v Y = some (t, q)) (hn : ¬ (n < (X.length : Int))) (hq0 : -1000 ≤ n + q ∧ n + q ≤ 1000) :
    Calls Tryd.prog 9 #[.int .u64 x, .slice A0 l0.length c0, .slice A1 l1.length c1] w fun e w' => e = .returned (.bool true) ∧ Below w.heap.size w w' := by
  have HL := Aside0.mk HLd
  clear HLd
  have RA := Aside0.mk hr0
  have RB := Aside0.mk hr1
  have CA := Aside0.mk hc0
  have CB := Aside0.mk hc1
  have LX := Aside0.mk hX
  have LY := Aside0.mk hY
  clear hr0 hr1 hc0 hc1 hX hY
  have S0 := Aside0.mk s0
  clear s0
  have S1 := Aside0.mk s1
  clear s1
  have S2 := Aside0.mk s2
  clear s2
  have S3 := Aside0.mk s3
  clear s3
  have S4 := Aside0.mk s4
  clear s4
  have d1 : decide (n < (X.length : Int)) = false := decide_eq_false hn
  clear hn
  have hwr : IntKind.i64.wrap (n + q) = n + q := by simp [IntKind.wrap, IntKind.bits, IntKind.signed]; omega
  clear hq0
  go_enter Tryd.func9, Tryd.ntmps9
  go_wp2_with fail
  refine (turnspitlaw07_awake.calls true _ HL.out rfl).mono ?_
  rintro e w1 ⟨rfl, hb⟩
  have HB1 := Aside0.mk (below_step (Below.refl w.heap.size w) hb)
  have RA_ := Aside0.mk (Kd.C_below RA.out hb)
  clear RA
  have RA := RA_
  clear RA_
  have RB_ := Aside0.mk (Kd.C_below RB.out hb)
  clear RB
  have RB := RB_
  clear RB_
  clear hb
  go_wp2_with fail
  refine (turnspitlaw07_steps.calls 1000 A0 c0 l0 X _ RA.out CA.out (Ld.below HL.out (by exact HB1.out)) S0.out).mono ?_
  rintro e w2 ⟨v1, rfl, ho, hb⟩
  obtain ⟨A2, c2, rfl⟩ := Kd.R_slice ho
  have HX := Aside0.mk ho
  clear ho
  have HB2 := Aside0.mk (below_step HB1.out hb)
  have RA_ := Aside0.mk (Kd.C_below RA.out hb)
  clear RA
  have RA := RA_
  clear RA_
  have RB_ := Aside0.mk (Kd.C_below RB.out hb)
  clear RB
  have RB := RB_
  clear RB_
  clear hb
  go_wp2_with fail
  refine (turnspitlaw07_steps.calls 1000 A1 c1 l1 Y _ RB.out CB.out (Ld.below HL.out (by exact HB2.out)) S1.out).mono ?_
  rintro e w3 ⟨v2, rfl, ho, hb⟩
  obtain ⟨A3, c3, rfl⟩ := Kd.R_slice ho
  have HY := Aside0.mk ho
  clear ho
  have HB3 := Aside0.mk (below_step HB2.out hb)
  have HX_ := Aside0.mk (Kd.R_below HX.out hb)
  clear HX
  have HX := HX_
  clear HX_
  have RA_ := Aside0.mk (Kd.C_below RA.out hb)
  clear RA
  have RA := RA_
  clear RA_
  have RB_ := Aside0.mk (Kd.C_below RB.out hb)
  clear RB
  have RB := RB_
  clear RB_
  clear hb
  go_wp2_with fail
  refine (life_Play.calls 1000 x A2 c2 X v n _ (Kd.R_reads' HX.out).2.2 (Kd.R_reads' HX.out).2.1 (Ld.below HL.out (by exact HB3.out)) S2.out).mono ?_
  rintro e w4 ⟨rfl, hb⟩
  have HB4 := Aside0.mk (below_step HB3.out hb)
  have HX_ := Aside0.mk (Kd.R_below HX.out hb)
  clear HX
  have HX := HX_
  clear HX_
  have HY_ := Aside0.mk (Kd.R_below HY.out hb)
  clear HY
  have HY := HY_
  clear HY_
  have RA_ := Aside0.mk (Kd.C_below RA.out hb)
  clear RA
  have RA := RA_
  clear RA_
  have RB_ := Aside0.mk (Kd.C_below RB.out hb)
  clear RB
  have RB := RB_
  clear RB_
  clear hb
  go_wp2_with (first | ((with_reducible refine gate_builtin (b := .append) (xs := #[.const (.slice none 0 0), .tmp 31]) rfl ?_); at_builtin; refine Kd.R_append_rows k40 (w0 := w4) w4.heap.size rfl (.const (.slice none 0 0)) (.tmp 31) 30 40 (.agg #[(.int .i64 0), (.int .i64 0)]) 16 rfl Tryd.underlying30 info40 rfl (by decide) (by omega) (.slice none 0 0) [] X _ _ _ (fun _ => True) (fun _ => False) rfl rfl (Kd.R_nil _ _ _ _ _) (Kd.R_reads' HX.out).2.2 (fun _ _ h => h) (fun _ h => h.elim) (fun _ _ => trivial) (Below.refl _ _) (Nat.le_refl _) (by have := LX.out; simp; omega) ?_; rintro v5 w5 hr5 hb5 _ _; have HR5 := Aside0.mk hr5; have HB5_ := Aside0.mk hb5; clear hr5 hb5) | ((with_reducible refine gate_builtin (b := .append) (xs := #[.tmp 32, .tmp 33]) rfl ?_); at_builtin; refine Kd.R_append_rows k40 (w0 := w4) w4.heap.size rfl (.tmp 32) (.tmp 33) 30 40 (.agg #[(.int .i64 0), (.int .i64 0)]) 16 rfl Tryd.underlying30 info40 rfl (by decide) (by omega) (v5) ([] ++ X) Y _ _ _ (fun _ => True) (fun _ => False) rfl rfl HR5.out (Kd.R_reads' (Kd.R_below HY.out HB5_.out)).2.2 (fun _ _ h => h) (fun _ h => h.elim) (fun _ _ => trivial) HB5_.out (HB5_.out.size) (by have := LX.out; have := LY.out; simp; omega) ?_; rintro v6 w6 hr6 hb6 _ _; obtain ⟨A6, c6, rfl⟩ := Kd.R_slice hr6; have HR6 := Aside0.mk hr6; have HB6_ := Aside0.mk hb6; clear hr6 hb6))
  have hq := life_Play.calls 1000 x A6 c6 (([] ++ X) ++ Y) t (n + q) w6 (Kd.R_reads' HR6.out).2.2 (Kd.R_reads' HR6.out).2.1 (Ld.below HL.out (below_step HB4.out HB6_.out)) S3.out
  rw [List.nil_append, List.length_append] at hq
  refine hq.mono ?_
  clear hq
  rintro e w7 ⟨rfl, hb⟩
  have HB7 := Aside0.mk (below_step (below_step HB4.out HB6_.out) hb)
  have HY_ := Aside0.mk (Kd.R_below (Kd.R_below HY.out HB6_.out) hb)
  clear HY
  have HY := HY_
  clear HY_ hb
  go_wp2_with fail
  refine (life_Play.calls 1000 v A3 c3 Y t q _ (Kd.R_reads' HY.out).2.2 (Kd.R_reads' HY.out).2.1 (Ld.below HL.out (by exact HB7.out)) S4.out).mono ?_
  rintro e w8 ⟨rfl, hb⟩
  have HB8 := Aside0.mk (below_step HB7.out hb)
  have HY_ := Aside0.mk (Kd.R_below HY.out hb)
  clear HY
  have HY := HY_
  clear HY_
  clear hb
  go_wp2_with fail
  go_ret
  exact ⟨rfl, by repeat (first | exact HB8.out | apply below_alloc | apply pw_below_drewN)⟩
/-! Plain. -/
def playS : Int → List S40 → Int × Int
  | x, [] => (x, 0)
  | x, e :: l => if (nextU x e.f0 e.f1).2 = 0 then ((playS (nextU x e.f0 e.f1).1 l).1, (playS (nextU x e.f0 e.f1).1 l).2 + 1) else (x, 0)
theorem playS_range : ∀ (l : List S40) (x : Int), 0 ≤ (playS x l).2 ∧ (playS x l).2 ≤ (l.length : Int) := by
  intro l
  induction l with
  | nil => intro x; exact ⟨Int.le_refl 0, Int.le_refl 0⟩
  | cons e l ih =>
    intro x
    unfold playS
    split
    · have := ih (nextU x e.f0 e.f1).1
      simp only [List.length_cons]
      omega
    · simp only [List.length_cons]
      omega
theorem playS_append : ∀ (l r : List S40) (x : Int), playS x (l ++ r) = if (playS x l).2 < (l.length : Int) then playS x l else ((playS (playS x l).1 r).1, (playS x l).2 + (playS (playS x l).1 r).2) := by
  intro l
  induction l with
  | nil => intro r x; rw [if_neg (show ¬ ((playS x []).2 < (([] : List S40).length : Int)) from Int.lt_irrefl 0)]; simp [playS]
  | cons e l ih =>
    intro r x
    by_cases h : (nextU x e.f0 e.f1).2 = 0
    · have e1 : playS x ((e :: l) ++ r) = ((playS (nextU x e.f0 e.f1).1 (l ++ r)).1, (playS (nextU x e.f0 e.f1).1 (l ++ r)).2 + 1) := by
        rw [List.cons_append, playS, if_pos h]
      have e2 : playS x (e :: l) = ((playS (nextU x e.f0 e.f1).1 l).1, (playS (nextU x e.f0 e.f1).1 l).2 + 1) := by rw [playS, if_pos h]
      rw [e1, e2, ih r (nextU x e.f0 e.f1).1, List.length_cons]
      by_cases hl : (playS (nextU x e.f0 e.f1).1 l).2 < (l.length : Int)
      · rw [if_pos hl, if_pos (by simp only; omega)]
      · rw [if_neg hl, if_neg (by simp only; omega)]
        simp only
        congr 1
        omega
    · have e1 : playS x ((e :: l) ++ r) = (x, 0) := by rw [List.cons_append, playS, if_neg h]
      have e2 : playS x (e :: l) = (x, 0) := by rw [playS, if_neg h]
      rw [e1, e2, if_pos (by simp only [List.length_cons]; omega)]
theorem playS_u64 : ∀ (l : List S40), Wf40 l → ∀ x, Pure.u64 x → Pure.u64 (playS x l).1 := by
  intro l
  induction l with
  | nil => intro _ x hx; exact hx
  | cons e l ih =>
    intro hw x hx
    unfold playS
    split
    · rename_i h
      have hwf := hw e List.mem_cons_self
      have hs := next_some x e.f0 e.f1 hx hwf
      obtain ⟨v, hv⟩ : ∃ v, nextU x e.f0 e.f1 = (v, 0) := ⟨(nextU x e.f0 e.f1).1, by rw [← h]⟩
      rw [hv] at hs ⊢
      obtain ⟨⟨k', c, b, s, g, er⟩, ho⟩ : ∃ u, Pure.opened x = u := ⟨_, rfl⟩
      obtain ⟨_, _, hst⟩ := next_step hx hwf hs ho
      exact ih (fun y hy => hw y (List.mem_cons_of_mem _ hy)) v hst.opened.1
    · exact hx
theorem play_S (l : List S40) (hw : Wf40 l) (hl : l.length ≤ 200) : ∀ m n k x, n + m = l.length → m < k → Pure.u64 x → life_Play.l0 k x l l (l.length : Int) (n : Int) = some ((playS x (l.drop n)).1, (n : Int) + (playS x (l.drop n)).2) := by
  intro m
  induction m with
  | zero =>
    intro n k x hn hk hx
    obtain ⟨k, rfl⟩ : ∃ j, k = j + 1 := ⟨k - 1, by omega⟩
    rw [life_Play.l0, if_neg (by omega), List.drop_eq_nil_of_le (by omega)]
    simp [playS]
    omega
  | succ m ih =>
    intro n k x hn hk hx
    obtain ⟨k, rfl⟩ : ∃ j, k = j + 1 := ⟨k - 1, by omega⟩
    have hnl : n < l.length := by omega
    have hwf := hw l[n] (List.getElem_mem hnl)
    have hs := next_some x l[n].f0 l[n].f1 hx hwf
    rw [life_Play.l0, if_pos (by omega), if_pos (by omega), if_pos (by omega), rd40_get l n hnl, hs, Option.bind_some, wrap_succ n l.length hnl (by omega), List.drop_eq_getElem_cons hnl, playS]
    by_cases h : (nextU x l[n].f0 l[n].f1).2 = 0
    · rw [if_pos h, if_pos h]
      obtain ⟨v, hv⟩ : ∃ v, nextU x l[n].f0 l[n].f1 = (v, 0) := ⟨(nextU x l[n].f0 l[n].f1).1, by rw [← h]⟩
      rw [hv] at hs ⊢
      obtain ⟨⟨k', c, b, s, g, er⟩, ho⟩ : ∃ u, Pure.opened x = u := ⟨_, rfl⟩
      obtain ⟨_, _, hst⟩ := next_step hx hwf hs ho
      rw [ih (n + 1) k v (by omega) (by omega) hst.opened.1]
      simp only [Option.some.injEq, Prod.mk.injEq, true_and]
      omega
    · rw [if_neg h, if_neg h]
      simp
theorem play_Sf (l : List S40) (hw : Wf40 l) (hl : l.length ≤ 200) (x : Int) (hx : Pure.u64 x) : life_Play.f 1000 x l = some ((playS x l).1, (playS x l).2) := by
  have := play_S l hw hl l.length 0 1000 x (by omega) (by omega) hx
  rw [List.drop_zero] at this
  show life_Play.l0 1000 x l l (l.length : Int) 0 = _
  simpa using this
theorem evs_wf (l : List Int) : Wf40 (evs l) := fun y hy => (evs_ev l y hy).wf
theorem Walk.LifeParts (x : Int) (hx : (Lit.int .u64 x).wf = true) (A0 : Option Addr) (c0 : Nat) (l0 : List Int) (A1 : Option Addr) (c1 : Nat) (l1 : List Int) (w : World) (HLd : Ld w) (hr : Kd.C (Kd.int .u16) w A0 l0.length l0) (hc : l0.length ≤ c0) (hl : l0.length ≤ 9223372036854775806) (hw : ∀ n ∈ l0, (Lit.int .u16 n).wf = true)
    (hr1 : Kd.C (Kd.int .u16) w A1 l1.length l1) (hc1 : l1.length ≤ c1) (hl1 : l1.length ≤ 9223372036854775806) (hw1 : ∀ n ∈ l1, (Lit.int .u16 n).wf = true) :
    Calls Tryd.prog 9 #[.int .u64 x, .slice A0 l0.length c0, .slice A1 l1.length c1] w fun e w' => e = .returned (.bool true) ∧ Below w.heap.size w w' := by
  have hu := Pure.u64_of hx
  have q0 := evs_length l0
  have q1 := evs_length l1
  have s0 := steps_f l0 hw hl 1000 (by omega)
  have s1 := steps_f l1 hw1 hl1 1000 (by omega)
  have wx := evs_wf l0
  have wy := evs_wf l1
  have wxy : Wf40 (evs l0 ++ evs l1) := fun y hy => (List.mem_append.1 hy).elim (wx y) (wy y)
  have s2 := play_Sf (evs l0) wx (by omega) x hu
  have s3 := play_Sf (evs l0 ++ evs l1) wxy (by rw [List.length_append]; omega) x hu
  rw [playS_append] at s3
  by_cases hn : (playS x (evs l0)).2 < ((evs l0).length : Int)
  · rw [if_pos hn] at s3
    exact parts_lt x A0 c0 l0 A1 c1 l1 (evs l0) (evs l1) w HLd hr hc hr1 hc1 (by omega) (by omega) s0 s1 _ _ s2 s3 hn
  · rw [if_neg hn] at s3
    have s4 := play_Sf (evs l1) wy (by omega) (playS x (evs l0)).1 (playS_u64 (evs l0) wx x hu)
    have b0 := playS_range (evs l0) x
    have b1 := playS_range (evs l1) (playS x (evs l0)).1
    exact parts_ge x A0 c0 l0 A1 c1 l1 (evs l0) (evs l1) w HLd hr hc hr1 hc1 (by omega) (by omega) s0 s1 _ _ _ _ s2 s3 s4 hn (by omega)
end Go.Proofs.YtebmbegblnoeaaaDoor

/- What the row lists of the package-level tables is what the walks ask. -/
import Derived.Test.YtdchbcpfciljoaaDoorRows
import Derived.Test.YtdchbcpfciljoaaDoorLd
import Derived.ProofKit
import Derived.LaidMore
import Derived.LaidSub
import Derived.OpenShut
import Derived.MakeChecks
import Derived.Lib.LaidTab
import Derived.Deep.Slices
import Derived.Maps.Keyed
namespace Go.Proofs.YtdchbcpfciljoaaDoor
open Go.ChangeShapes Go.WideShapes Go.ChangeAt Go.RowKit
set_option linter.unusedVariables false
set_option linter.unusedSimpArgs false
theorem gSpans : Tryd.prog.globalNamed "turnspit/packed.spans" = some 1 := by kernel_rfl
theorem tSpans : (Tryd.prog.globals[1]?).map (·.type) = some 104 := by kernel_rfl
theorem c3 : Tryd.prog.cellsOf 3 = 1 := by kernel_rfl
theorem c40 : Tryd.prog.cellsOf 103 = 2 := by kernel_rfl
theorem c64 : Tryd.prog.cellsOf 104 = 10 := by kernel_rfl
def laid1 : List (String × DataW Unit) := [("turnspit/packed.spans", Rows.laid_turnspit_packed_spans), ("turnspit/life.rules", Rows.laid_turnspit_life_rules)]
def laid0 : List (String × DataW Unit) := [("turnspit/packed.spans", Rows.laid_turnspit_packed_spans)]
theorem two_of {l : List Value} {a b : Value} {i : Nat} (h : (l.drop i).take 2 = [a, b]) : l[i]? = some a ∧ l[i + 1]? = some b := by
  have e0 : ((l.drop i).take 2)[0]? = some a := by rw [h]; rfl
  have e1 : ((l.drop i).take 2)[1]? = some b := by rw [h]; rfl
  rw [List.getElem?_take_of_lt (by decide), List.getElem?_drop] at e0 e1
  exact ⟨e0, e1⟩
theorem row_of {H : Type} {enc : TypeId × Value → H} {w : World} {base : Nat} {sp : Nat → Bool} {held : Bool} {m : Nat} {cs : List Value} {x : DataW H × List MemPlace} {a b : Int}
    (h : DataW.trod enc Tryd.prog w base sp held m 103 cs = some x) (hx : x.1 = .agg [.lit (.int .i64 a), .lit (.int .i64 b)]) : cs = [.int .i64 a, .int .i64 b] := by
  obtain ⟨x1, x2⟩ := x
  simp only at hx
  subst hx
  have := Lib.cells_of_tab (zs := [a, b]) Tryd.underlying103 Tryd.underlying3 c3 c40 h
  simpa using this
theorem spans_of_laid {W : World} (h : laidMetH Tryd.prog laid0 W) : ∀ j, j < 10 → W.cell? ⟨1, j, none⟩ = some (.int .i64 (spanL.getD j 0)) := by
  rw [MakeChecks.laidMetH_plain _ _ _ (by kernel_rfl)] at h
  obtain ⟨ps, ⟨g0, t0, cs0, f0, p0, q0, hg0, ht0, hv0, hd0, _, _⟩, _, _⟩ := h
  obtain rfl := Option.some.inj (gSpans.symm.trans hg0)
  obtain rfl := Option.some.inj (tSpans.symm.trans ht0)
  obtain ⟨xs, m1, rfl, hx1, hlen, hn5, hel⟩ := DataW.trod_array Tryd.underlying104 hd0
  simp only [Prod.mk.injEq, Rows.laid_turnspit_packed_spans, DataW.agg.injEq] at hx1
  have hm := hx1.1
  have hi : ∀ (i : Nat) (a b : Int), i < 5 → (xs.map (·.1))[i]? = some (.agg [.lit (.int .i64 a), .lit (.int .i64 b)]) → cs0.toList[i * 2]? = some (.int .i64 a) ∧ cs0.toList[i * 2 + 1]? = some (.int .i64 b) := by
    intro i a b hi hx
    have h := hel i hi
    rw [c40] at h
    rw [List.getElem?_map] at hx
    obtain ⟨x, hx0, hx2⟩ := Option.map_eq_some_iff.1 hx
    rw [hx0] at h
    exact two_of (row_of h hx2)
  rw [← hm] at hi
  have h0 := hi 0 0 3 (by decide) rfl
  have h1 := hi 1 3 9 (by decide) rfl
  have h2 := hi 2 9 10 (by decide) rfl
  have h3 := hi 3 10 26 (by decide) rfl
  have h4 := hi 4 26 58 (by decide) rfl
  intro j hj
  rw [World.var?_cell gSpans hv0 j, ← Array.getElem?_toList]
  match j, hj with
  | 0, _ => exact h0.1
  | 1, _ => exact h0.2
  | 2, _ => exact h1.1
  | 3, _ => exact h1.2
  | 4, _ => exact h2.1
  | 5, _ => exact h2.2
  | 6, _ => exact h3.1
  | 7, _ => exact h3.2
  | 8, _ => exact h4.1
  | 9, _ => exact h4.2
def rulesD : DataW Unit := match (Rows.laid_turnspit_life_rules : DataW Unit) with
  | .iface _ d => d
  | d => d
theorem gRules : Tryd.prog.globalNamed "turnspit/life.rules" = some 0 := by kernel_rfl
theorem tRules : (Tryd.prog.globals[0]?).map (·.type) = some 101 := by kernel_rfl
def ifD : Nat → DataW (List UInt8)
  | 8 => .held [116, 117, 114, 110, 115, 112, 105, 116, 47, 108, 105, 102, 101, 46, 112, 108, 97, 105, 110]
  | 9 => .held [116, 117, 114, 110, 115, 112, 105, 116, 47, 108, 105, 102, 101, 46, 112, 108, 97, 105, 110]
  | 10 => .held [116, 117, 114, 110, 115, 112, 105, 116, 47, 108, 105, 102, 101, 46, 110, 111, 116, 101, 100]
  | _ => .nil
def doD : Nat → DataW (List UInt8)
  | 0 => .held [116, 117, 114, 110, 115, 112, 105, 116, 47, 108, 105, 102, 101, 46, 114, 117, 108, 101, 115, 36, 49]
  | 1 => .held [116, 117, 114, 110, 115, 112, 105, 116, 47, 108, 105, 102, 101, 46, 114, 117, 108, 101, 115, 36, 50]
  | 2 => .held [116, 117, 114, 110, 115, 112, 105, 116, 47, 108, 105, 102, 101, 46, 114, 117, 108, 101, 115, 36, 51]
  | 8 => .held [116, 117, 114, 110, 115, 112, 105, 116, 47, 108, 105, 102, 101, 46, 114, 117, 108, 101, 115, 36, 52]
  | 11 => .held [116, 117, 114, 110, 115, 112, 105, 116, 47, 108, 105, 102, 101, 46, 97, 116]
  | 12 => .held [116, 117, 114, 110, 115, 112, 105, 116, 47, 108, 105, 102, 101, 46, 97, 116]
  | 13 => .held [116, 117, 114, 110, 115, 112, 105, 116, 47, 108, 105, 102, 101, 46, 97, 116]
  | 15 => .held [116, 117, 114, 110, 115, 112, 105, 116, 47, 108, 105, 102, 101, 46, 97, 116]
  | _ => .nil
def ruleD (n : Nat) : DataW (List UInt8) := .agg [.slice ((kindsOf n).map fun q => .lit (.int .i64 q)) [], .lit (.int .i64 (toOf n)), ifD n, doD n]
theorem rules_list : rulesD.funcsOut = .map ((List.range 16).map fun (n : Nat) => (.int .i64 (n : Int), ruleD n)) := by kernel_rfl
theorem at_rule (n : Nat) (hn : n < 16) (zd : DataW (List UInt8)) : rulesD.funcsOut.atKey (.int .i64 (n : Int)) zd = ruleD n := by
  rw [rules_list]
  have hc16 : n = 0 ∨ n = 1 ∨ n = 2 ∨ n = 3 ∨ n = 4 ∨ n = 5 ∨ n = 6 ∨ n = 7 ∨ n = 8 ∨ n = 9 ∨ n = 10 ∨ n = 11 ∨ n = 12 ∨ n = 13 ∨ n = 14 ∨ n = 15 := by omega
  rcases hc16 with rfl | rfl | rfl | rfl | rfl | rfl | rfl | rfl | rfl | rfl | rfl | rfl | rfl | rfl | rfl | rfl <;> rfl
theorem at_none (ev : Int) (he : ¬ (0 ≤ ev ∧ ev < 16)) (zd : DataW (List UInt8)) : rulesD.funcsOut.atKey (.int .i64 ev) zd = zd := by
  rw [rules_list]
  unfold DataW.atKey
  simp only
  rw [List.find?_eq_none.2]
  intro p hp
  rw [List.mem_map] at hp
  obtain ⟨n, hn, rfl⟩ := hp
  rw [List.mem_range] at hn
  simp only [Lit.sameKey]
  simp
  omega
theorem uniq {α β : Type} (f : α → β) : ∀ (l : List α), (l.map f).Pairwise (fun p q => p ≠ q) → ∀ x ∈ l, ∀ y ∈ l, f x = f y → x = y := by
  intro l
  induction l with
  | nil => intro _ x hx; cases hx
  | cons a l ih =>
    intro h x hx y hy he
    rw [List.map_cons, List.pairwise_cons] at h
    rcases List.mem_cons.1 hx with h1 | h1
    · rcases List.mem_cons.1 hy with h2 | h2
      · rw [h1, h2]
      · rw [h1] at he; exact absurd he (h.1 _ (List.mem_map.2 ⟨y, h2, rfl⟩))
    · rcases List.mem_cons.1 hy with h2 | h2
      · rw [h2] at he; exact absurd he.symm (h.1 _ (List.mem_map.2 ⟨x, h1, rfl⟩))
      · exact ih h.2 x h1 y h2 he
theorem keys3 : Maps.Keyed Tryd.prog 3 := Maps.int_keyed Tryd.underlying3
theorem zero52 (W : World) : (zeroValue 99).run Tryd.prog W = .ok noRule W := by kernel_rfl
theorem nil_of_trod {enc : TypeId × Value → List UInt8} {w : World} {base : Nat} {sp : Nat → Bool} {fuel : Nat} {t : TypeId} {ps rs : Array TypeId} {va : Bool} {v : Value} {q : List MemPlace}
    (ht : Tryd.prog.underlying t = some (.func ps rs va)) (h : DataW.trod enc Tryd.prog w base sp true fuel t [v] = some (.nil, q)) : v = .nilFunc := by
  cases fuel with
  | zero => simp [DataW.trod] at h
  | succ n => cases v <;> simp [DataW.trod, ht] at h <;> rfl
theorem cells52 : Tryd.prog.cellsOf 99 = 4 := by kernel_rfl
theorem cells48 : Tryd.prog.cellsOf 49 = 1 := by kernel_rfl
theorem cells49 : Tryd.prog.cellsOf 96 = 1 := by kernel_rfl
theorem cells50 : Tryd.prog.cellsOf 97 = 1 := by kernel_rfl
set_option maxRecDepth 20000 in
/-- What reads as an event's rule is its rule. -/
theorem rule_of {W : World} {n : Nat} (hn : n < 16) {m : Nat} {v : Value} {y : DataW (List UInt8) × List MemPlace}
    (h : WideElems.elemAt (funcToken Tryd.prog) Tryd.prog W 0 (fun _ => true) true m 99 v = some y) (hy : y.1 = ruleD n) :
    ∃ ad cap, v = ruleV n ad cap ∧ (kindsOf n).length ≤ cap ∧ ∀ j q, (kindsOf n)[j]? = some q → W.cell? (ad.add j) = some (.int .i64 q) := by
  unfold WideElems.elemAt at h
  split at h
  · rename_i hf
    obtain ⟨xs, k, hk, hxy, hcl, hxl, hfs⟩ := DataW.trod_struct Tryd.underlying99 h
    rw [cells52] at hcl
    obtain ⟨cs, rfl⟩ : ∃ cs, v = .agg cs := by
      cases v <;> first | exact ⟨_, rfl⟩ | (simp [Value.cells] at hcl)
    have hcl' : cs.toList.length = 4 := hcl
    match xs, hxl with
    | [y0, y1, y2, y3], _ =>
      obtain ⟨v0, v1, v2, v3, rfl⟩ : ∃ v0 v1 v2 v3, cs = #[v0, v1, v2, v3] := by
        obtain ⟨l⟩ := cs
        match l, hcl' with
        | [v0, v1, v2, v3], _ => exact ⟨v0, v1, v2, v3, rfl⟩
      have g0 := hfs 0 _ rfl
      have g1 := hfs 1 _ rfl
      have g2 := hfs 2 _ rfl
      have g3 := hfs 3 _ rfl
      simp [Value.cells, c3, cells48, cells49, cells50] at g0 g1 g2 g3
      rw [hxy] at hy
      simp only [ruleD, List.map_cons, List.map_nil, DataW.agg.injEq, List.cons.injEq, and_true] at hy
      obtain ⟨e0, e1, e2, e3⟩ := hy
      obtain ⟨y00, y01⟩ := y0
      obtain ⟨y10, y11⟩ := y1
      obtain ⟨y20, y21⟩ := y2
      obtain ⟨y30, y31⟩ := y3
      simp only at e0 e1 e2 e3
      subst e0 e1 e2 e3
      obtain ⟨a, cap, hcs, hle, hel⟩ := open_row Tryd.underlying49 c3 g0
      rw [List.length_map] at hcs hle
      obtain rfl := List.cons.inj hcs |>.1
      obtain ⟨a1, q1, q1', _⟩ := DataW.trod_int Tryd.underlying3 g1
      obtain rfl := List.cons.inj q1 |>.1
      have h1 : a1 = toOf n := by
        simp only [Prod.mk.injEq, DataW.lit.injEq, Lit.int.injEq, true_and] at q1'
        exact q1'.1.symm
      subst h1
      have h2 : v2 = ifOf n := by
        have hc16 : n = 0 ∨ n = 1 ∨ n = 2 ∨ n = 3 ∨ n = 4 ∨ n = 5 ∨ n = 6 ∨ n = 7 ∨ n = 8 ∨ n = 9 ∨ n = 10 ∨ n = 11 ∨ n = 12 ∨ n = 13 ∨ n = 14 ∨ n = 15 := by omega
        rcases hc16 with rfl | rfl | rfl | rfl | rfl | rfl | rfl | rfl | rfl | rfl | rfl | rfl | rfl | rfl | rfl | rfl
        · exact nil_of_trod Tryd.underlying96 g2
        · exact nil_of_trod Tryd.underlying96 g2
        · exact nil_of_trod Tryd.underlying96 g2
        · exact nil_of_trod Tryd.underlying96 g2
        · exact nil_of_trod Tryd.underlying96 g2
        · exact nil_of_trod Tryd.underlying96 g2
        · exact nil_of_trod Tryd.underlying96 g2
        · exact nil_of_trod Tryd.underlying96 g2
        · exact func_of_trod (f0 := 94) Tryd.underlying96 (by kernel_rfl) g2
        · exact func_of_trod (f0 := 94) Tryd.underlying96 (by kernel_rfl) g2
        · exact func_of_trod (f0 := 96) Tryd.underlying96 (by kernel_rfl) g2
        · exact nil_of_trod Tryd.underlying96 g2
        · exact nil_of_trod Tryd.underlying96 g2
        · exact nil_of_trod Tryd.underlying96 g2
        · exact nil_of_trod Tryd.underlying96 g2
        · exact nil_of_trod Tryd.underlying96 g2
      have h3 : v3 = doOf n := by
        have hc16 : n = 0 ∨ n = 1 ∨ n = 2 ∨ n = 3 ∨ n = 4 ∨ n = 5 ∨ n = 6 ∨ n = 7 ∨ n = 8 ∨ n = 9 ∨ n = 10 ∨ n = 11 ∨ n = 12 ∨ n = 13 ∨ n = 14 ∨ n = 15 := by omega
        rcases hc16 with rfl | rfl | rfl | rfl | rfl | rfl | rfl | rfl | rfl | rfl | rfl | rfl | rfl | rfl | rfl | rfl
        · exact func_of_trod (f0 := 91) Tryd.underlying97 (by kernel_rfl) g3
        · exact func_of_trod (f0 := 92) Tryd.underlying97 (by kernel_rfl) g3
        · exact func_of_trod (f0 := 93) Tryd.underlying97 (by kernel_rfl) g3
        · exact nil_of_trod Tryd.underlying97 g3
        · exact nil_of_trod Tryd.underlying97 g3
        · exact nil_of_trod Tryd.underlying97 g3
        · exact nil_of_trod Tryd.underlying97 g3
        · exact nil_of_trod Tryd.underlying97 g3
        · exact func_of_trod (f0 := 95) Tryd.underlying97 (by kernel_rfl) g3
        · exact nil_of_trod Tryd.underlying97 g3
        · exact nil_of_trod Tryd.underlying97 g3
        · exact func_of_trod (f0 := 97) Tryd.underlying97 (by kernel_rfl) g3
        · exact func_of_trod (f0 := 97) Tryd.underlying97 (by kernel_rfl) g3
        · exact func_of_trod (f0 := 97) Tryd.underlying97 (by kernel_rfl) g3
        · exact nil_of_trod Tryd.underlying97 g3
        · exact func_of_trod (f0 := 97) Tryd.underlying97 (by kernel_rfl) g3
      subst h2 h3
      refine ⟨a, cap, rfl, hle, fun j q hq => ?_⟩
      obtain ⟨u, n1, q2, hu, hr⟩ := hel j (.lit (.int .i64 q)) (by rw [List.getElem?_map, hq]; rfl)
      obtain ⟨b, r1, r2, _⟩ := DataW.trod_int Tryd.underlying3 hr
      obtain rfl := List.cons.inj r1 |>.1
      simp only [Prod.mk.injEq, DataW.lit.injEq, Lit.int.injEq, true_and] at r2
      rw [hu, r2.1]
  · cases h
theorem key_of {R : Value → Option (DataW (List UInt8) × List MemPlace)} {es : Array MapEntry} {clock : Nat} (F : WideElems.Fit Tryd.prog 3 R es clock) {x : MapEntry} (hx : x ∈ es.toList) {key : Value} {kl : Lit} (hk : x.key = key) (hkey : keyOf Tryd.prog 3 key = some kl) :
    (WideElems.rg Tryd.prog 3 R x).1 = kl := by
  obtain ⟨y, hy⟩ := F.reads x hx
  rw [WideElems.rg_of hy]
  have := WideElems.rd_key hy
  rw [hk, hkey] at this
  exact (Option.some.inj this).symm
theorem ld_of_laid {W : World} (h : laidMetH Tryd.prog laid1 W) : Ld W := by
  have hs : laidMetH Tryd.prog laid0 W := h.filter (fun x => x.1 == "turnspit/packed.spans")
  refine ⟨spans_of_laid hs, ?_⟩
  obtain ⟨g, t, cs, fuel, p, hg, ht, hv, hd⟩ := h.funcs (n := "turnspit/life.rules") (d := rulesD) (List.mem_cons_of_mem _ (List.mem_singleton.2 rfl))
  obtain rfl := Option.some.inj (gRules.symm.trans hg)
  obtain rfl := Option.some.inj (tRules.symm.trans ht)
  rcases WideElems.open_map Tryd.underlying101 hd with ⟨_, hx⟩ | ⟨b, es, clock, n, _, hcs, hb, _, F, hx⟩
  · rw [rules_list] at hx
    simp only [Prod.mk.injEq] at hx
    cases hx.1
  · have hD : rulesD.funcsOut = .map ((es.toList.map (WideElems.rg Tryd.prog 3 (WideElems.elemAt (funcToken Tryd.prog) Tryd.prog W 0 (fun _ => true) true n 99))).foldr DataW.insert []) := (Prod.mk.inj hx).1
    have hap := Maps.fit_apart keys3 F
    have hap' : (es.toList.map fun x => (WideElems.rg Tryd.prog 3 (WideElems.elemAt (funcToken Tryd.prog) Tryd.prog W 0 (fun _ => true) true n 99) x).1).Pairwise (fun p q => p ≠ q) := by
      rw [List.pairwise_map] at hap ⊢
      exact hap
    refine ⟨b, .map es clock, ?_, hb, fun W' hW ev hw hne => ?_, fun q hq => ?_⟩
    · rw [World.var?_cell gRules hv 0, ← Array.getElem?_toList, hcs]; rfl
    · rcases Maps.fit_look true keys3 Tryd.underlying101 (zero52 W') hW F (Maps.keyOf_int_mk Tryd.underlying3 hw) with ⟨hrun, _, _⟩ | ⟨e0, y, _, _, _, _, hat, _⟩
      · exact hrun
      · exfalso
        have a1 := hat .nil
        have a2 := hat (.lit (.bool true))
        rw [← hD, at_none ev hne] at a1 a2
        rw [← a1] at a2
        cases a2
    · have hw : (Lit.int .i64 (q : Int)).wf = true := by
        simp [Lit.wf, IntKind.min, IntKind.max, IntKind.signed, IntKind.bits]
        omega
      have hkey := Maps.keyOf_int_mk (P := Tryd.prog) Tryd.underlying3 hw
      rcases Maps.fit_look true keys3 Tryd.underlying101 (zero52 W) hb F hkey with ⟨_, _, hat⟩ | ⟨e0, y, hm0, hk0, _, hR, hat, _⟩
      · exfalso
        have a1 := hat .nil
        rw [← hD, at_rule q hq] at a1
        cases a1
      · have hy : y.1 = ruleD q := by have := hat .nil; rw [← hD, at_rule q hq] at this; exact this.symm
        obtain ⟨ad, cap, hval, hcap, hcell⟩ := rule_of hq hR hy
        refine ⟨ad, cap, fun W' hW => ?_, hcap, hcell⟩
        rcases Maps.fit_look true keys3 Tryd.underlying101 (zero52 W') hW F hkey with ⟨_, _, hat'⟩ | ⟨e1, y1, hm1, hk1, hrun, _, _, _⟩
        · exfalso
          have a1 := hat' .nil
          rw [← hD, at_rule q hq] at a1
          cases a1
        · have : e1 = e0 := uniq _ _ hap' e1 hm1 e0 hm0 ((key_of F hm1 hk1 hkey).trans (key_of F hm0 hk0 hkey).symm)
          rw [this, hval] at hrun
          exact hrun
theorem door_met (os : Os) (args : Array Value) : laidMetH Tryd.prog laid1 ((World.doorLaid Tryd.prog 400 os).forCall (fun _ _ => 0) ⟨#[], args, []⟩).memory :=
  laidMetH_of_parts3 (fuel := 8) (laidMet_of_run' 8 (by kernel_rfl) (by kernel_rfl)) (by kernel_rfl) (by kernel_rfl)
end Go.Proofs.YtdchbcpfciljoaaDoor

/- What the row lists of the package-level tables is what the walks ask; the library's own variable by the world's shape. -/
import Derived.Test.YtilmbpdfdickoaaDoorRows
import Derived.Test.YtilmbpdfdickoaaDoorLd
import Derived.ProofKit
import Derived.LaidMore
import Derived.LaidSub
import Derived.LaidLaws
import Derived.OpenShut
import Derived.MakeChecks
import Derived.Lib.LaidTab
import Derived.Deep.Slices
import Derived.Maps.Keyed
import Derived.HandedShaped
import Derived.Shelf.Vars
import Derived.Lay
namespace Go
/-- The wrap over a condition on the world, with the world's shape: the kit's returnsInHanded_of_change_and and _shaped, both at once. -/
theorem returnsInHanded_and_shaped {H : Type} {enc : TypeId × Value → H} {a : Assume} {C : Checked} {os : Os} {f : FuncId} {fn : Func} {s : ChangeSpec} {conds : List PathCond} {apart fresh handsOn again : Bool} {X : World → Array Value → Prop}
    (hX : ∀ (w w' : World) (args : Array Value), w.heap = w'.heap → X w args → X w' args)
    (own : ownKnob C.prog.godebug = none) (started : os.Started) (noInit : C.prog.inits.idxOf? f = none) (hfn : C.prog.funcs[f]? = some fn)
    (witness : ∃ (w : World) (tape : Tape) (i : Input), w.os = os ∧ (w.forCall tape i).Shaped C.prog ∧ i.vars = [] ∧ Input.okWide C.prog (w.forCall tape i) .any w.heap.size f i ∧
      ((s.pre enc C.prog fn conds apart (w.forCall tape i).memory i.args ∧ X (w.forCall tape i).memory i.args) ∧ sizedMet enc C.prog fn (OpenSpec.ofChange s) apart (w.forCall tape i).memory i.args) ∧ a.holds C.prog (lone (Frame.enter C.prog f i.args .normal) [] (w.forCall tape i)))
    (contract : ∀ (W : World) (base : Nat) (args : Array Value) (ds gs : List (DataW H)) (before : List MemPlace),
      (∀ (j : Nat) t v, fn.params[j]? = some t → args[j]? = some v → Value.okWide C.prog W .any base t v) →
      DataW.Whole enc C.prog fn.params.toList s.vars apart W args.toList ds gs before →
      conds.all (PathCond.test C.prog ⟨fn.params.toList, ds, s.plain.varTypes C.prog, gs⟩) = true →
      (DataW.weightsEach C.prog (fn.params.toList ++ s.plain.varTypes C.prog) (ds ++ gs)).all (· ≤ reachBytes) = true → X W args → W.ShapedOpen C.prog →
      a.holds C.prog (lone (Frame.enter C.prog f args .normal) [] W) →
      Calls C.prog f args W fun e W' => ∃ v, e = .returned v ∧ s.post enc C.prog fn apart fresh handsOn again W args v W') :
    ReturnsInHanded a C os f .any (fun w args => (s.pre enc C.prog fn conds apart w args ∧ X w args) ∧ sizedMet enc C.prog fn (OpenSpec.ofChange s) apart w args) (s.post enc C.prog fn apart fresh handsOn again) := by
  refine returnsInHanded_of_calls own started noInit witness ?_
  intro w tape i _ hsh _ hok hpre hholds
  obtain ⟨_, _, _, fn', hfn', _, _, _, _, hval⟩ := hok
  have e : fn' = fn := Option.some.inj (hfn'.symm.trans hfn)
  subst e
  obtain ⟨⟨⟨ds, gs, before, hw, hc⟩, hx⟩, hz⟩ := hpre
  have hw' := DataW.Whole.of_heap (w' := w.forCall tape i) (by rfl) hw
  refine (contract (w.forCall tape i) w.heap.size i.args ds gs before hval hw' hc (hz.weights hw) (hX _ _ _ (by rfl) hx) hsh hholds).mono fun e W' ⟨v, he, hp⟩ => ?_
  subst he
  exact ChangeSpec.post_blind hp
end Go
namespace Go.Proofs.YtilmbpdfdickoaaDoor
open Go.ChangeShapes Go.WideShapes Go.ChangeAt Go.RowKit Go.Proofs.YtilmbpdfdickoaaDoor.Pure Go.Proofs.YtilmbpdfdickoaaDoorW.PrintWords
set_option linter.unusedVariables false
set_option linter.unusedSimpArgs false
theorem gOps : Tryd.prog.globalNamed "turnspit/calls.ops" = some 0 := by kernel_rfl
theorem gFields : Tryd.prog.globalNamed "turnspit/calls.fields" = some 1 := by kernel_rfl
theorem gSyn : Tryd.prog.globalNamed "strconv.ErrSyntax" = some 6 := by kernel_rfl
theorem gRng : Tryd.prog.globalNamed "strconv.ErrRange" = some 7 := by kernel_rfl
theorem tOps : (Tryd.prog.globals[0]?).map (·.type) = some 49 := by kernel_rfl
theorem tFields : (Tryd.prog.globals[1]?).map (·.type) = some 56 := by kernel_rfl
theorem tPow : (Tryd.prog.globals[5]?).map (·.type) = some 129 := by kernel_rfl
theorem tSyn : (Tryd.prog.globals[6]?).map (·.type) = some 84 := by kernel_rfl
theorem tRng : (Tryd.prog.globals[7]?).map (·.type) = some 84 := by kernel_rfl
theorem c9 : Tryd.prog.cellsOf 9 = 1 := by kernel_rfl
theorem c48 : Tryd.prog.cellsOf 48 = 2 := by kernel_rfl
theorem c52 : Tryd.prog.cellsOf 52 = 1 := by kernel_rfl
theorem c53 : Tryd.prog.cellsOf 53 = 1 := by kernel_rfl
theorem c55 : Tryd.prog.cellsOf 55 = 2 := by kernel_rfl
def laid1 : List (String × DataW Unit) := [("math/bits.deBruijn32tab", Rows.laid_math_bits_deBruijn32tab), ("math/bits.deBruijn64tab", Rows.laid_math_bits_deBruijn64tab), ("internal/strconv.uint64pow10", Rows.laid_internal_strconv_uint64pow10), ("unicode/utf8.acceptRanges", Rows.laid_unicode_utf8_acceptRanges), ("strconv.ErrRange", Rows.laid_strconv_ErrRange), ("strconv.ErrSyntax", Rows.laid_strconv_ErrSyntax), ("turnspit/calls.fields", Rows.laid_turnspit_calls_fields), ("turnspit/calls.ops", Rows.laid_turnspit_calls_ops), ("unicode/utf8.first", Rows.laid_unicode_utf8_first)]
theorem pow_is : (Rows.laid_internal_strconv_uint64pow10 : DataW Unit) = Lib.tabData .u64 Lib.pow10Tab := by kernel_rfl
theorem pow_of_laid {W : World} (h : laidMetH Tryd.prog laid1 W) : Lib.TabIs Tryd.prog W "internal/strconv.uint64pow10" .u64 Lib.pow10Tab := by
  have h2 : laidMetH Tryd.prog [("internal/strconv.uint64pow10", Rows.laid_internal_strconv_uint64pow10)] W := h.filter (fun x => x.1 == "internal/strconv.uint64pow10")
  rw [MakeChecks.laidMetH_plain _ _ _ (by kernel_rfl), pow_is] at h2
  exact Lib.tabIs_of_head (t := 129) gPow tPow Tryd.underlying129 Tryd.underlying24 (by kernel_rfl) (by kernel_rfl) h2
theorem err_of {W : World} {n : String} {g : Nat} {d : DataW Unit} (hg : Tryd.prog.globalNamed n = some g) (ht : (Tryd.prog.globals[g]?).map (·.type) = some 84) (h : laidMet Tryd.prog [(n, .iface "*errors.errorString" d)] W) : ∃ te pe, W.cell? ⟨g, 0, none⟩ = some (.iface te pe) := by
  obtain ⟨ps, ⟨g0, t0, cs0, f0, p0, q0, hg0, ht0, hv0, hd0, _, _⟩, _, _⟩ := h
  obtain rfl := Option.some.inj (hg.symm.trans hg0)
  obtain rfl := Option.some.inj (ht.symm.trans ht0)
  obtain ⟨_, u, v, hcs, _, _⟩ := iface_of_trod Tryd.underlying84 hd0
  exact ⟨u, v, by rw [World.var?_cell hg hv0 0, ← Array.getElem?_toList, hcs]; rfl⟩
theorem syn_of_laid {W : World} (h : laidMetH Tryd.prog laid1 W) : ∃ te pe, W.cell? ⟨6, 0, none⟩ = some (.iface te pe) := by
  have h2 : laidMetH Tryd.prog [("strconv.ErrSyntax", Rows.laid_strconv_ErrSyntax)] W := h.filter (fun x => x.1 == "strconv.ErrSyntax")
  rw [MakeChecks.laidMetH_plain _ _ _ (by kernel_rfl)] at h2
  exact err_of gSyn tSyn h2
theorem rng_of_laid {W : World} (h : laidMetH Tryd.prog laid1 W) : ∃ te pe, W.cell? ⟨7, 0, none⟩ = some (.iface te pe) := by
  have h2 : laidMetH Tryd.prog [("strconv.ErrRange", Rows.laid_strconv_ErrRange)] W := h.filter (fun x => x.1 == "strconv.ErrRange")
  rw [MakeChecks.laidMetH_plain _ _ _ (by kernel_rfl)] at h2
  exact err_of gRng tRng h2
/-! ### The calls' names -/
theorem str_of {H : Type} {enc : TypeId × Value → H} {w : World} {base : Nat} {sp : Nat → Bool} {held : Bool} {m : Nat} {cs : List Value} {x : DataW H × List MemPlace} {a : List UInt8}
    (h : DataW.trod enc Tryd.prog w base sp held m 9 cs = some x) (hx : x.1 = .lit (.string a)) : cs = [.string ⟨a.toArray⟩] := by
  obtain ⟨s, h1, h2, _⟩ := DataW.trod_string Tryd.underlying9 h
  rw [h2] at hx
  simp only [DataW.lit.injEq, Lit.string.injEq] at hx
  rw [h1, ← hx]
set_option maxRecDepth 100000 in
theorem pair_of {H : Type} {enc : TypeId × Value → H} {w : World} {base : Nat} {sp : Nat → Bool} {held : Bool} {m : Nat} {cs : List Value} {x : DataW H × List MemPlace} {a b : List UInt8}
    (h : DataW.trod enc Tryd.prog w base sp held m 48 cs = some x) (hx : x.1 = .agg [.lit (.string a), .lit (.string b)]) : cs = [.string ⟨a.toArray⟩, .string ⟨b.toArray⟩] := by
  obtain ⟨xs, k, rfl, hxy, hcl, hxl, hel⟩ := DataW.trod_array Tryd.underlying48 h
  rw [hxy] at hx
  simp only [DataW.agg.injEq] at hx
  rw [c48] at hcl
  rw [c9] at hel
  match xs, hxl, cs, hcl with
  | [y0, y1], _, [v0, v1], _ =>
    simp only [List.map_cons, List.map_nil, List.cons.injEq, and_true] at hx
    have g0 := hel 0 (by decide)
    have g1 := hel 1 (by decide)
    have e0 := str_of g0 hx.1
    have e1 := str_of g1 hx.2
    simp at e0 e1
    rw [e0, e1]
def opD (k : Nat) : DataW Unit := .agg [.lit (.string (nameL k)), .lit (.string (toldL k))]
theorem ops_list : (Rows.laid_turnspit_calls_ops : DataW Unit) = .agg ((List.range 14).map opD) := by kernel_rfl
theorem two_of {l : List Value} {a b : Value} {i : Nat} (h : (l.drop i).take 2 = [a, b]) : l[i]? = some a ∧ l[i + 1]? = some b := by
  have e0 : ((l.drop i).take 2)[0]? = some a := by rw [h]; rfl
  have e1 : ((l.drop i).take 2)[1]? = some b := by rw [h]; rfl
  rw [List.getElem?_take_of_lt (by decide), List.getElem?_drop] at e0 e1
  exact ⟨e0, e1⟩
theorem ops_of_laid {W : World} (h : laidMetH Tryd.prog laid1 W) : ∃ t r, W.heap[0]? = some (.cells opsC t r) := by
  have h2 : laidMetH Tryd.prog [("turnspit/calls.ops", Rows.laid_turnspit_calls_ops)] W := h.filter (fun x => x.1 == "turnspit/calls.ops")
  rw [MakeChecks.laidMetH_plain _ _ _ (by kernel_rfl)] at h2
  obtain ⟨ps, ⟨g0, t0, cs0, f0, p0, q0, hg0, ht0, hv0, hd0, _, _⟩, _, _⟩ := h2
  obtain rfl := Option.some.inj (gOps.symm.trans hg0)
  obtain rfl := Option.some.inj (tOps.symm.trans ht0)
  obtain ⟨xs, m1, rfl, hx1, hlen, hn5, hel⟩ := DataW.trod_array Tryd.underlying49 hd0
  simp only [Prod.mk.injEq] at hx1
  have hm := hx1.1
  rw [ops_list] at hm
  simp only [DataW.agg.injEq] at hm
  rw [c48] at hel
  have hi : ∀ i, i < 14 → cs0.toList[i * 2]? = some (.string ⟨(nameL i).toArray⟩) ∧ cs0.toList[i * 2 + 1]? = some (.string ⟨(toldL i).toArray⟩) := by
    intro i hi
    have h := hel i hi
    have hx : (xs.map (·.1))[i]? = some (opD i) := by rw [← hm, List.getElem?_map, List.getElem?_range hi]; rfl
    rw [List.getElem?_map] at hx
    obtain ⟨x, hx0, hx2⟩ := Option.map_eq_some_iff.1 hx
    rw [hx0] at h
    exact two_of (pair_of h hx2)
  have hsz : cs0.toList.length = 28 := by rw [hlen]; kernel_rfl
  have e : cs0 = opsC := by
    apply Array.ext'
    apply List.ext_getElem?
    intro j
    by_cases hj : j < 28
    · have h1 := hi (j / 2) (by omega)
      have h2 := opsC_at (j / 2) (by omega)
      rw [← Array.getElem?_toList, ← Array.getElem?_toList] at h2
      rcases Nat.mod_two_eq_zero_or_one j with hm2 | hm2
      · have : j = j / 2 * 2 := by omega
        rw [show 2 * (j / 2) = j / 2 * 2 by omega] at h2
        rw [this, h1.1, h2.1]
      · have : j = j / 2 * 2 + 1 := by omega
        rw [show 2 * (j / 2) = j / 2 * 2 by omega] at h2
        rw [this, h1.2, h2.2]
    · rw [List.getElem?_eq_none (by omega), List.getElem?_eq_none (by show opsC.toList.length ≤ j; have : opsC.toList.length = 28 := rfl; omega)]
  subst e
  simp only [World.var?, gOps, Option.bind_some] at hv0
  split at hv0
  · rename_i cs t r hh
    obtain rfl := Option.some.inj hv0
    exact ⟨t, r, hh⟩
  · cases hv0
/-! ### The map of the letters -/
def fieldsD : DataW Unit := match (Rows.laid_turnspit_calls_fields : DataW Unit) with
  | .iface _ d => d
  | d => d
def tellD (k : UInt8) : List UInt8 := if k = 99 then [40, 42, 116, 117, 114, 110, 115, 112, 105, 116, 47, 99, 97, 108, 108, 115, 46, 99, 97, 108, 108, 41, 46, 116, 101, 108, 108, 67, 112, 117] else if k = 107 then [40, 42, 116, 117, 114, 110, 115, 112, 105, 116, 47, 99, 97, 108, 108, 115, 46, 99, 97, 108, 108, 41, 46, 116, 101, 108, 108, 78] else if k = 109 then [40, 42, 116, 117, 114, 110, 115, 112, 105, 116, 47, 99, 97, 108, 108, 115, 46, 99, 97, 108, 108, 41, 46, 116, 101, 108, 108, 77, 97, 115, 107] else if k = 110 then [40, 42, 116, 117, 114, 110, 115, 112, 105, 116, 47, 99, 97, 108, 108, 115, 46, 99, 97, 108, 108, 41, 46, 116, 101, 108, 108, 78, 105, 99, 101] else [40, 42, 116, 117, 114, 110, 115, 112, 105, 116, 47, 99, 97, 108, 108, 115, 46, 99, 97, 108, 108, 41, 46, 116, 101, 108, 108, 84, 97, 115, 107]
def readD (k : UInt8) : List UInt8 := if k = 99 then [40, 42, 116, 117, 114, 110, 115, 112, 105, 116, 47, 99, 97, 108, 108, 115, 46, 99, 97, 108, 108, 41, 46, 114, 101, 97, 100, 67, 112, 117] else if k = 107 then [40, 42, 116, 117, 114, 110, 115, 112, 105, 116, 47, 99, 97, 108, 108, 115, 46, 99, 97, 108, 108, 41, 46, 114, 101, 97, 100, 78] else if k = 109 then [40, 42, 116, 117, 114, 110, 115, 112, 105, 116, 47, 99, 97, 108, 108, 115, 46, 99, 97, 108, 108, 41, 46, 114, 101, 97, 100, 77, 97, 115, 107] else if k = 110 then [40, 42, 116, 117, 114, 110, 115, 112, 105, 116, 47, 99, 97, 108, 108, 115, 46, 99, 97, 108, 108, 41, 46, 114, 101, 97, 100, 78, 105, 99, 101] else [40, 42, 116, 117, 114, 110, 115, 112, 105, 116, 47, 99, 97, 108, 108, 115, 46, 99, 97, 108, 108, 41, 46, 114, 101, 97, 100, 84, 97, 115, 107]
def fieldD (k : UInt8) : DataW (List UInt8) := .agg [.held (tellD k), .held (readD k)]
theorem fields_list : fieldsD.funcsOut = .map (([99, 107, 109, 110, 116] : List UInt8).map fun k => (.int .i32 (k.toNat : Int), fieldD k)) := by kernel_rfl
theorem at_field (k : UInt8) (hk : isLet k) (zd : DataW (List UInt8)) : fieldsD.funcsOut.atKey (.int .i32 (k.toNat : Int)) zd = fieldD k := by
  rw [fields_list]
  rcases hk with rfl | rfl | rfl | rfl | rfl <;> rfl
theorem uniq {α β : Type} (f : α → β) : ∀ (l : List α), (l.map f).Pairwise (fun p q => p ≠ q) → ∀ x ∈ l, ∀ y ∈ l, f x = f y → x = y := by
  intro l
  induction l with
  | nil => intro _ x hx; cases hx
  | cons a l ih =>
    intro h x hx y hy he
    rw [List.map_cons, List.pairwise_cons] at h
    rcases List.mem_cons.1 hx with h1 | h1
    · rcases List.mem_cons.1 hy with h2 | h2
      · rw [h1, h2]
      · rw [h1] at he; exact absurd he (h.1 _ (List.mem_map.2 ⟨y, h2, rfl⟩))
    · rcases List.mem_cons.1 hy with h2 | h2
      · rw [h2] at he; exact absurd he.symm (h.1 _ (List.mem_map.2 ⟨x, h1, rfl⟩))
      · exact ih h.2 x h1 y h2 he
theorem keys21 : Maps.Keyed Tryd.prog 21 := Maps.int_keyed Tryd.underlying21
theorem zero55 (W : World) : (zeroValue 55).run Tryd.prog W = .ok (.agg #[.nilFunc, .nilFunc]) W := by kernel_rfl
set_option maxRecDepth 100000 in
/-- What reads as a letter's methods is them. -/
theorem field_of {W : World} {k : UInt8} (hk : isLet k) {m : Nat} {v : Value} {y : DataW (List UInt8) × List MemPlace}
    (h : WideElems.elemAt (funcToken Tryd.prog) Tryd.prog W 0 (fun _ => true) true m 55 v = some y) (hy : y.1 = fieldD k) : v = fieldV k := by
  unfold WideElems.elemAt at h
  split at h
  · obtain ⟨xs, n, hk2, hxy, hcl, hxl, hfs⟩ := DataW.trod_struct Tryd.underlying55 h
    rw [c55] at hcl
    obtain ⟨cs, rfl⟩ : ∃ cs, v = .agg cs := by
      cases v <;> first | exact ⟨_, rfl⟩ | (simp [Value.cells] at hcl)
    have hcl' : cs.toList.length = 2 := hcl
    match xs, hxl with
    | [y0, y1], _ =>
      obtain ⟨v0, v1, rfl⟩ : ∃ v0 v1, cs = #[v0, v1] := by
        obtain ⟨l⟩ := cs
        match l, hcl' with
        | [v0, v1], _ => exact ⟨v0, v1, rfl⟩
      have g0 := hfs 0 _ rfl
      have g1 := hfs 1 _ rfl
      simp [Value.cells, c52, c53] at g0 g1
      rw [hxy] at hy
      simp only [fieldD, List.map_cons, List.map_nil, DataW.agg.injEq, List.cons.injEq, and_true] at hy
      obtain ⟨e0, e1⟩ := hy
      obtain ⟨y00, y01⟩ := y0
      obtain ⟨y10, y11⟩ := y1
      simp only at e0 e1
      subst e0 e1
      rcases hk with rfl | rfl | rfl | rfl | rfl
      · rw [func_of_trod (f0 := 121) Tryd.underlying52 (by kernel_rfl) g0, func_of_trod (f0 := 122) Tryd.underlying53 (by kernel_rfl) g1]; rfl
      · rw [func_of_trod (f0 := 123) Tryd.underlying52 (by kernel_rfl) g0, func_of_trod (f0 := 124) Tryd.underlying53 (by kernel_rfl) g1]; rfl
      · rw [func_of_trod (f0 := 125) Tryd.underlying52 (by kernel_rfl) g0, func_of_trod (f0 := 126) Tryd.underlying53 (by kernel_rfl) g1]; rfl
      · rw [func_of_trod (f0 := 127) Tryd.underlying52 (by kernel_rfl) g0, func_of_trod (f0 := 115) Tryd.underlying53 (by kernel_rfl) g1]; rfl
      · rw [func_of_trod (f0 := 128) Tryd.underlying52 (by kernel_rfl) g0, func_of_trod (f0 := 129) Tryd.underlying53 (by kernel_rfl) g1]; rfl
  · cases h
theorem key_of {R : Value → Option (DataW (List UInt8) × List MemPlace)} {es : Array MapEntry} {clock : Nat} (F : WideElems.Fit Tryd.prog 21 R es clock) {x : MapEntry} (hx : x ∈ es.toList) {key : Value} {kl : Lit} (hk : x.key = key) (hkey : keyOf Tryd.prog 21 key = some kl) :
    (WideElems.rg Tryd.prog 21 R x).1 = kl := by
  obtain ⟨y, hy⟩ := F.reads x hx
  rw [WideElems.rg_of hy]
  have := WideElems.rd_key hy
  rw [hk, hkey] at this
  exact (Option.some.inj this).symm
theorem ld_of_laid {W : World} (h : laidMetH Tryd.prog laid1 W) (hsh : W.ShapedOpen Tryd.prog) : Ld W := by
  refine ⟨pow_of_laid h, syn_of_laid h, rng_of_laid h, ?_, ops_of_laid h, ?_⟩
  · exact cell_of_shapedOpen_int (t := 3) (zero := #[.int .i64 0]) hsh (of_decide_eq_true (by kernel_rfl)) (by kernel_rfl) rfl (by kernel_rfl) (by kernel_rfl) Tryd.underlying3
  obtain ⟨g, t, cs, fuel, p, hg, ht, hv, hd⟩ := h.funcs (n := "turnspit/calls.fields") (d := fieldsD) (by simp only [laid1]; repeat (first | exact List.mem_cons_self | apply List.mem_cons_of_mem))
  obtain rfl := Option.some.inj (gFields.symm.trans hg)
  obtain rfl := Option.some.inj (tFields.symm.trans ht)
  rcases WideElems.open_map Tryd.underlying56 hd with ⟨_, hx⟩ | ⟨b, es, clock, n, _, hcs, hb, _, F, hx⟩
  · rw [fields_list] at hx
    simp only [Prod.mk.injEq] at hx
    cases hx.1
  · have hD : fieldsD.funcsOut = .map ((es.toList.map (WideElems.rg Tryd.prog 21 (WideElems.elemAt (funcToken Tryd.prog) Tryd.prog W 0 (fun _ => true) true n 55))).foldr DataW.insert []) := (Prod.mk.inj hx).1
    have hap := Maps.fit_apart keys21 F
    have hap' : (es.toList.map fun x => (WideElems.rg Tryd.prog 21 (WideElems.elemAt (funcToken Tryd.prog) Tryd.prog W 0 (fun _ => true) true n 55) x).1).Pairwise (fun p q => p ≠ q) := by
      rw [List.pairwise_map] at hap ⊢
      exact hap
    refine ⟨b, .map es clock, ?_, hb, fun k hk W' hW => ?_⟩
    · rw [World.var?_cell gFields hv 0, ← Array.getElem?_toList, hcs]; rfl
    · have hw : (Lit.int .i32 (k.toNat : Int)).wf = true := by
        have := k.toNat_lt
        simp [Lit.wf, IntKind.min, IntKind.max, IntKind.signed, IntKind.bits]
        omega
      have hkey := Maps.keyOf_int_mk (P := Tryd.prog) Tryd.underlying21 hw
      rcases Maps.fit_look false keys21 Tryd.underlying56 (zero55 W) hb F hkey with ⟨_, _, hat⟩ | ⟨e0, y, hm0, hk0, _, hR, hat, _⟩
      · exfalso
        have a1 := hat .nil
        rw [← hD, at_field k hk] at a1
        cases a1
      · have hy : y.1 = fieldD k := by have := hat .nil; rw [← hD, at_field k hk] at this; exact this.symm
        have hval := field_of hk hR hy
        rcases Maps.fit_look false keys21 Tryd.underlying56 (zero55 W') hW F hkey with ⟨_, _, hat'⟩ | ⟨e1, y1, hm1, hk1, hrun, _, _, _⟩
        · exfalso
          have a1 := hat' .nil
          rw [← hD, at_field k hk] at a1
          cases a1
        · have : e1 = e0 := uniq _ _ hap' e1 hm1 e0 hm0 ((key_of F hm1 hk1 hkey).trans (key_of F hm0 hk0 hkey).symm)
          rw [this, hval] at hrun
          exact hrun
def plain1 : List (String × DataW Unit) := [("math/bits.deBruijn32tab", Rows.laid_math_bits_deBruijn32tab), ("math/bits.deBruijn64tab", Rows.laid_math_bits_deBruijn64tab), ("internal/strconv.uint64pow10", Rows.laid_internal_strconv_uint64pow10), ("unicode/utf8.acceptRanges", Rows.laid_unicode_utf8_acceptRanges), ("strconv.ErrRange", Rows.laid_strconv_ErrRange), ("strconv.ErrSyntax", Rows.laid_strconv_ErrSyntax), ("turnspit/calls.ops", Rows.laid_turnspit_calls_ops), ("unicode/utf8.first", Rows.laid_unicode_utf8_first)]
noncomputable def wd (os : Os) : World := (World.doorLaid Tryd.prog 3000 os).layVars Tryd.prog plain1
theorem wd_os (os : Os) : (wd os).os = os := World.layVars_os _ _ _
theorem door_plain (os : Os) (args : Array Value) : laidMet Tryd.prog (laid1.filter fun x => x.2.handleName?.isNone) ((wd os).forCall (fun _ _ => 0) ⟨#[], args, []⟩).memory := by
  have e : (laid1.filter fun x => x.2.handleName?.isNone) = plain1 := by kernel_rfl
  rw [e]
  have e1 : (plain1.filter fun x => (plain1.map (·.1)).contains x.1) = plain1 := List.filter_eq_self.2 fun x hx => List.contains_iff_mem.2 (List.mem_map.2 ⟨x, hx, rfl⟩)
  have e2 : (plain1.filter fun x => !(plain1.map (·.1)).contains x.1) = [] := List.filter_eq_nil_iff.2 fun x hx => by rw [List.contains_iff_mem.2 (List.mem_map.2 ⟨x, hx, rfl⟩)]; simp
  have h : laidMet Tryd.prog plain1 (wd os) := laidMet_layVars (w0 := World.doorLaid Tryd.prog 3000 os) (plain1.map (·.1)) [] (by rw [e1]; rfl) (by rw [e1]; kernel_rfl) (by rw [e1]; kernel_rfl) (by rw [e2]; exact LaidIn.none)
  exact h.of_heap (by simp [World.memory, World.forCall, Input.heap])
theorem door_met (os : Os) (args : Array Value) : laidMetH Tryd.prog laid1 ((wd os).forCall (fun _ _ => 0) ⟨#[], args, []⟩).memory :=
  laidMetH_of_parts3 (fuel := 8) (door_plain os args) (by kernel_rfl) (by kernel_rfl)
end Go.Proofs.YtilmbpdfdickoaaDoor

/- An iterator that keeps what is left to it in a variable of its own (a block that lay ahead of the loop): a contract that lets it store there, and the law of the range over such an iterator. The law's proof is the kit's proof of wpIn_rangeFunc_ownH (RangeFuncNested), turned to this contract. -/
import Derived.RangeFuncNested
import Derived.Deep.RegionHeld
import Derived.OrdersIn
import Derived.RangeFuncCalls
import Derived.Test.YtilmbpdfdickoaaDoorMC
import Derived.Test.YtilmbpdfdickoaaDoorGS
import Derived.Test.YtilmbpdfdickoaaDoorMA
import Derived.Test.YtilmbpdfdickoaaDoorV
import Derived.Test.YtilmbpdfdickoaaDoorMP
import Derived.Shelf.RegionOpen
namespace Go.Proofs.YtilmbpdfdickoaaDoor.SeqP
open Go Go.RowKit
set_option linter.unusedVariables false
variable {F : Fence} {n : Nat} {P : Program}
/-- Whatever invariant abides the turn of blocks that are no cells and lie at or beyond the call's own beginning. -/
def SeqP {α : Type} (Bs : Nat) (F : Fence) (n m : Nat) (P : Program) (g : Nat) (lb : Array Value) (encs : α → Array Value) (Kp : World → World → Prop) (S Sp : List α → Prop) (D : List α → α → Prop) (w : World) : Prop :=
  ∀ (l : Nat) (J Jx : List α → World → Prop) (W : World), Below w.heap.size w W → OwnFrom W.heap.size J → OwnFrom W.heap.size Jx → (∀ pre W v, J pre W → J pre (W.setCell ⟨Bs, 0, none⟩ v)) → (∀ pre W v, Jx pre W → Jx pre (W.setCell ⟨Bs, 0, none⟩ v)) →
    (∀ pre x W1, J pre W1 → D pre x → YieldAt F m P l (encs x) W1 fun e W' =>
      ((e = .returned (.bool true) ∧ J (pre ++ [x]) W' ∧ Kp W1 W') ∨ (e = .returned (.bool false) ∧ Jx (pre ++ [x]) W')) ∧ KeepsFrom W.heap.size W1 W') →
    J [] W →
    CallsIn F n P g (#[.func (.yield l) #[] #[]] ++ lb) W fun e W' => (∃ v, e = .returned v) ∧ ((∃ xs, S xs ∧ J xs W') ∨ (∃ pre, Sp pre ∧ Jx pre W'))
theorem KeepsFrom.mono {B B' : Nat} {X Y : World} (h : KeepsFrom B X Y) (hB : B ≤ B') : KeepsFrom B' X Y := ⟨h.size, fun k o hk => h.same k o (Nat.le_trans hB hk)⟩
theorem keepsFrom_put {B : Nat} (X : World) (l : Nat) (o' : Obj) (hl : l < B) : KeepsFrom B X (X.putObj l o') := KeepsFrom.of_grownBy (grownBy_putObj' X l o') (fun j e => by cases e; exact hl)
theorem OwnFrom.mono {β : Type} {B B' : Nat} {I : β → World → Prop} (h : OwnFrom B I) (hB : B ≤ B') : OwnFrom B' I := fun s W W' row hs hg hr => h s W W' row hs hg (fun r e => ⟨Nat.le_trans hB (hr r e).1, (hr r e).2⟩)
theorem wpIn_rangeFunc_ownP {α : Type} {Bs : Nat} {g : Operand} {ps : Array Tmp} {assign body : Code} {Q : Exit → Act → World → Prop} {a : Act} {w : World}
    (hro : F.round = none) (h1 : 1 ≤ n) {gf : Nat} {lb : Array Value} (hg : a.eval g = .func (.func gf) #[] lb) (hFg : F.fn gf) (eg : ∀ args w, (callFunc gf args).run P w = .ok (.enter gf args) w)
    {encs : α → Array Value} {Kp : World → World → Prop} {S Sp : List α → Prop} {D : List α → α → Prop} {w0 : World} {m : Nat} (hBs : Bs < w.heap.size) (hseq : SeqP Bs F (n - 1) m P gf lb encs Kp S Sp D w0)
    (hKt : ∀ {A B C : World}, Kp A B → Kp B C → Kp A C) (hKb : ∀ (W : World) (l : Nat) (o o' : Obj), w.heap.size ≤ l → W.heap[l]? = some o → o.isCells = false → o.isWalk = false → Kp W (W.putObj l o')) (hb0 : Below w0.heap.size w0 w) (hps : ∀ x, (encs x).size = ps.size)
    (I : List α → World → Prop) (Ix : Code → List α → World → Prop) (hI : OwnFrom w.heap.size I) (hIx : ∀ c, OwnFrom w.heap.size (Ix c)) (h0 : I [] w) (hIs : ∀ pre W v, I pre W → I pre (W.setCell ⟨Bs, 0, none⟩ v)) (hIxs : ∀ c pre W v, Ix c pre W → Ix c pre (W.setCell ⟨Bs, 0, none⟩ v)) (Ax : α → Act → World → Prop) (hAx : ∀ x a', OwnFrom w.heap.size (fun (_ : Unit) W => Ax x a' W))
    (hassign : ∀ (l : Nat) (pre : List α) (x : α) (W : World) (K : Act → World → Prop), I pre W → (∀ a' W', KeepsFrom w.heap.size W W' → Kp W W' → I pre W' → Ax x a' W' → K a' W') →
      assign.wpIn (F.inRound l) m P (Exit.then K (fun _ _ _ => False)) { tmps := (ps.zip (encs x)).foldl (fun t (p, v) => t.setIfInBounds p v) a.tmps, defers := [] } W)
    (hbody : ∀ (l : Nat) (pre : List α) (x : α) (a' : Act) (W : World), w.heap.size ≤ l → (∃ r, W.heap[l]? = some (.loop r)) → I pre W → Ax x a' W → D pre x → body.wpIn (F.inRound l) m P (ownPostG w.heap.size Kp I Ix (pre ++ [x]) W) a' W)
    (hdone : ∀ (d : Nat) (xs : List α) (W : World), w.heap.size ≤ d → S xs → I xs W → W.heap[d]? = some (.deferred (some [])) → Q .normal { a with defers := { target := .collected d, args := #[] } :: a.defers } W)
    (hstop : ∀ (d : Nat) (c : Code) (pre : List α) (W : World), w.heap.size ≤ d → Sp pre → Ix c pre W → W.heap[d]? = some (.deferred (some [])) → c.wpIn F n P Q { a with defers := { target := .collected d, args := #[] } :: a.defers } W) :
    (Code.rangeFunc g ps assign body).wpIn F n P Q a w := by
  refine wpIn_rangeFunc ?_
  intro fn hfn
  rw [hro]
  obtain ⟨rec, hrec⟩ : ∃ rec : LoopState → Option Code → Loop, rec = fun st pe => { state := st, pending := pe, fn, tmps := a.tmps, params := ps, assign, body, defers := w.heap.size } := ⟨_, rfl⟩
  obtain ⟨W1, hW1⟩ : ∃ W1, (w.alloc (.deferred (some []))).alloc (.loop (rec .ready none)) = W1 := ⟨_, rfl⟩
  have hL1 : W1.heap[w.heap.size + 1]? = some (.loop (rec .ready none)) := by
    rw [← hW1]; have := World.alloc_heap_new (w.alloc (.deferred (some []))) (.loop (rec .ready none)); rwa [World.size_alloc] at this
  have hK1 : W1.heap[w.heap.size]? = some (.deferred (some [])) := by
    rw [← hW1]; exact (Below.heap_alloc _ _ _ (by simp)).trans (World.alloc_heap_new w _)
  have hI1 : I [] W1 := by rw [← hW1]; exact hI.alloc _ (hI.alloc _ h0)
  have hb1 : Below w0.heap.size w0 W1 := by
    rw [← hW1]; exact hb0.trans ((((Below.refl _ w).alloc (Nat.le_refl _) _).alloc (by simp) _).mono hb0.size)
  refine ⟨w.heap.size + 1, [{ target := .collected w.heap.size, args := #[] }], W1, { target := .fn (.func gf) lb, args := #[.func (.yield (w.heap.size + 1)) #[] #[]] }, W1, gf,
    #[.func (.yield (w.heap.size + 1)) #[] #[]] ++ lb, W1, ?_, ?_, ?_, ?_, fun _ => h1, ?_⟩
  · rw [← hW1, hrec]; exact run_enterLoop_outer _ _ _ _ _
  · simp only [resolve, hg]
    simp [go_sem]
  · intro f' hf'; simp [Target.leads] at hf'; subst hf'; exact hFg
  · simp [invoke, go_sem, eg]
  · -- THE ITERATOR's CONTRACT, AT THE CALLER's INVARIANT WITH THE TWO FACTS OF BOOK-KEEPING BESIDE IT
    have hz1 : W1.heap.size = w.heap.size + 1 + 1 := by rw [← hW1]; simp
    have hnw : ∀ {A B : World} {row : Option Nat}, (∀ r, row = some r → W1.heap.size ≤ r ∧ ∃ o : Obj, A.heap[r]? = some o ∧ o.isCells = false) → (∀ r, row = some r → w.heap.size ≤ r ∧ ∃ o : Obj, A.heap[r]? = some o ∧ o.isCells = false) :=
      fun hr r e => ⟨by have := (hr r e).1; omega, (hr r e).2⟩
    have hrec1 : ∀ {A B : World} {row : Option Nat} {k : Nat} {o : Obj}, A.grownBy B row → (∀ r, row = some r → W1.heap.size ≤ r ∧ ∃ o : Obj, A.heap[r]? = some o ∧ o.isCells = false) → k < W1.heap.size → A.heap[k]? = some o → B.heap[k]? = some o :=
      fun hg' hr hk ho => (hg'.block _ (Array.getElem?_eq_some_iff.1 ho).1 (fun e => by have := (hr _ e.symm).1; omega)).trans ho
    refine (hseq (w.heap.size + 1)
      (fun pre W => I pre W ∧ W.heap[w.heap.size + 1]? = some (.loop (rec .ready none)) ∧ W.heap[w.heap.size]? = some (.deferred (some [])))
      (fun pre W => ∃ c, Ix c pre W ∧ W.heap[w.heap.size + 1]? = some (.loop (rec .done (some c))) ∧ W.heap[w.heap.size]? = some (.deferred (some [])))
      W1 hb1
      (fun s A B row hs hg' hr => ⟨hI s A B row hs.1 hg' (hnw (B := B) hr), hrec1 hg' hr (by omega) hs.2.1, hrec1 hg' hr (by omega) hs.2.2⟩)
      (fun s A B row hs hg' hr => by
        obtain ⟨c, hc, hl, hk⟩ := hs
        exact ⟨c, hIx c s A B row hc hg' (hnw (B := B) hr), hrec1 hg' hr (by omega) hl, hrec1 hg' hr (by omega) hk⟩)
      (fun pre W v hs => ⟨hIs pre W v hs.1, (Below.heap_setCell W ⟨Bs, 0, none⟩ v _ (by show w.heap.size + 1 ≠ Bs; omega)).trans hs.2.1, (Below.heap_setCell W ⟨Bs, 0, none⟩ v _ (by show w.heap.size ≠ Bs; omega)).trans hs.2.2⟩)
      (fun pre W v hs => by
        obtain ⟨c, hc, hl, hk⟩ := hs
        exact ⟨c, hIxs c pre W v hc, (Below.heap_setCell W ⟨Bs, 0, none⟩ v _ (by show w.heap.size + 1 ≠ Bs; omega)).trans hl, (Below.heap_setCell W ⟨Bs, 0, none⟩ v _ (by show w.heap.size ≠ Bs; omega)).trans hk⟩)
      ?_ ⟨hI1, hL1, hK1⟩).mono ?_
    · -- ONE ROUND
      rintro pre x W ⟨hi, hl, hk⟩ hlen
      have hlt : w.heap.size + 1 < W.heap.size := (Array.getElem?_eq_some_iff.1 hl).1
      have hy := run_yield (P := P) (args := encs x) hl (by rw [hrec]; exact hps x)
      rw [hrec] at hy
      refine ⟨fn, _, assign, body, hy, roundIn_of_wpIn hfn (hassign _ pre x W _ hi ?_)⟩
      clear hy
      intro a' Wa hkfa hkpa hia hax
      -- THE ASSIGN CODE MAY HAVE LAID BLOCKS (a loop variable that an inner function captures is boxed): the two blocks of book-keeping lie as they lay
      replace hl := hkfa.same _ _ (by omega) hl rfl
      replace hk := hkfa.same _ _ (Nat.le_refl _) hk rfl
      replace hlt : w.heap.size + 1 < Wa.heap.size := (Array.getElem?_eq_some_iff.1 hl).1
      replace hi := hia
      clear hia
      revert hkpa hkfa
      generalize W = Wb
      intro hkfa hkpa
      obtain ⟨W, rfl⟩ : ∃ W, W = Wa := ⟨_, rfl⟩
      refine ⟨_, run_beginRound hl (by rw [hrec]), ?_⟩
      have hl2 : (W.putObj (w.heap.size + 1) (.loop { rec .ready none with state := .busy })).heap[w.heap.size + 1]? = some (.loop { rec .ready none with state := .busy }) := World.putObj_heap_same hlt
      have hk2 : (W.putObj (w.heap.size + 1) (.loop { rec .ready none with state := .busy })).heap[w.heap.size]? = some (.deferred (some [])) := (World.putObj_heap_other (by omega)).trans hk
      have hw2 : Kp W (W.putObj (w.heap.size + 1) (.loop { rec .ready none with state := .busy })) := hKb _ _ _ _ (by omega) hl rfl rfl
      refine wpIn_mono (hbody _ pre x a' _ (by omega) ⟨_, hl2⟩ (hI.putObj _ hi (by omega) hl rfl) ((hAx x a').putObj (s := ()) _ hax (by omega) hl rfl) hlen) ?_
      have fin : ∀ (jump : Option Code) (W3 : World), KeepsFrom w.heap.size (W.putObj (w.heap.size + 1) (.loop { rec .ready none with state := .busy })) W3 →
          (Instr.endRound (w.heap.size + 1) jump).run P W3 = .ok (.bool jump.isNone) (W3.putObj (w.heap.size + 1) (.loop (rec (if jump.isNone then .ready else .done) jump))) ∧
          W3.heap[w.heap.size + 1]? = some (.loop { rec .ready none with state := .busy }) ∧
          (W3.putObj (w.heap.size + 1) (.loop (rec (if jump.isNone then .ready else .done) jump))).heap[w.heap.size + 1]? = some (.loop (rec (if jump.isNone then .ready else .done) jump)) ∧
          (W3.putObj (w.heap.size + 1) (.loop (rec (if jump.isNone then .ready else .done) jump))).heap[w.heap.size]? = some (.deferred (some [])) := fun jump W3 hk3 => by
        have hl3 := hk3.same _ _ (by omega) hl2 rfl
        have := run_endRound (P := P) jump hl3
        rw [hrec] at this ⊢
        exact ⟨this, by rw [hrec] at hl3; exact hl3, World.putObj_heap_same (Array.getElem?_eq_some_iff.1 hl3).1, (World.putObj_heap_other (by omega)).trans (hk3.same _ _ (Nat.le_refl _) hk2 rfl)⟩
      have kf : ∀ (W3 : World) (o' : Obj), KeepsFrom w.heap.size (W.putObj (w.heap.size + 1) (.loop { rec .ready none with state := .busy })) W3 → KeepsFrom W1.heap.size Wb (W3.putObj (w.heap.size + 1) o') := fun W3 o' hk3 =>
        (((KeepsFrom.mono hkfa (by omega)).trans (keepsFrom_put _ _ _ (by omega))).trans (KeepsFrom.mono hk3 (by omega))).trans (keepsFrom_put _ _ _ (by omega))
      rintro e a3 W3 hp
      cases e with
      | normal =>
        obtain ⟨hk3, hkp3, hi3⟩ := hp
        obtain ⟨hr, hl3, hl4, hk4⟩ := fin none W3 hk3
        exact ⟨_, _, hr, ⟨.inl ⟨rfl, ⟨hI.putObj _ hi3 (by omega) hl3 rfl, hl4, hk4⟩, hKt hkpa (hKt (hKt hw2 hkp3) (hKb _ _ _ _ (by omega) hl3 rfl rfl))⟩, kf _ _ hk3⟩⟩
      | ret =>
        obtain ⟨hk3, hi3⟩ := hp
        obtain ⟨hr, hl3, hl4, hk4⟩ := fin (some .ret) W3 hk3
        exact ⟨_, _, hr, ⟨.inr ⟨rfl, .ret, (hIx _).putObj _ hi3 (by omega) hl3 rfl, hl4, hk4⟩, kf _ _ hk3⟩⟩
      | exit id =>
        obtain ⟨hk3, hi3⟩ := hp
        obtain ⟨hr, hl3, hl4, hk4⟩ := fin (some (.exit id)) W3 hk3
        exact ⟨_, _, hr, ⟨.inr ⟨rfl, .exit id, (hIx _).putObj _ hi3 (by omega) hl3 rfl, hl4, hk4⟩, kf _ _ hk3⟩⟩
      | goto t =>
        obtain ⟨hk3, hi3⟩ := hp
        obtain ⟨hr, hl3, hl4, hk4⟩ := fin (some (.goto t)) W3 hk3
        exact ⟨_, _, hr, ⟨.inr ⟨rfl, .goto t, (hIx _).putObj _ hi3 (by omega) hl3 rfl, hl4, hk4⟩, kf _ _ hk3⟩⟩
      | panic ch => exact hp.elim
      | outgrown => exact hp.elim
    · -- BEHIND THE ITERATOR
      rintro e W2 ⟨⟨v, rfl⟩, (⟨xs, hS, hi, hl, hk⟩ | ⟨pre, hSp, c, hi, hl, hk⟩)⟩
      · exact ⟨none, _, by have := run_endLoop (P := P) hl (by rw [hrec]; simp); rw [hrec] at this; exact this, hdone _ xs _ (Nat.le_refl _) hS (hI.putObj _ hi (by omega) hl rfl) ((World.putObj_heap_other (by omega)).trans hk)⟩
      · exact ⟨some c, _, by have := run_endLoop (P := P) hl (by rw [hrec]; simp); rw [hrec] at this; exact this, hstop _ c pre _ (Nat.le_refl _) hSp ((hIx c).putObj _ hi (by omega) hl rfl) ((World.putObj_heap_other (by omega)).trans hk)⟩

end Go.Proofs.YtilmbpdfdickoaaDoor.SeqP
/- A region that draws its order, in a round of a range over a function: by the walk outside of one (no operation defers). -/
namespace Go.Proofs.YtilmbpdfdickoaaDoor.Given
open Go Go.RowKit
set_option linter.unusedVariables false
set_option linter.unusedSimpArgs false
def noDefer (ops : Array Oper) : Bool := ops.all fun o => match o.op with
  | .defer _ => false
  | _ => true
theorem noDefer_at {ops : Array Oper} (h : noDefer ops = true) {i : Nat} {o : Oper} (ho : ops[i]? = some o) : ∀ c, o.op ≠ .defer c := by
  obtain ⟨hi, rfl⟩ := Array.getElem?_eq_some_iff.1 ho
  have := (Array.all_eq_true.1 h) i hi
  intro c hc
  rw [hc] at this
  cases this
section
variable {P : Program} {l n : Nat} {ops : Array Oper} {Q : Exit → Act → World → Prop} {md : Region.Mode}
theorem oper_bridge {o : Oper} (hd : ∀ c, o.op ≠ .defer c) (hQ : ¬ LetsOut Q) {a : Act} {w : World} {K : Act → World → Prop} (h : o.wp P a w K Q) : o.wpIn (Fence.wide.inRound l) n P a w K Q := by
  refine ⟨fun _ _ => trivial, ?_⟩
  rw [Oper.semAt_eq _ _ _ hd]
  unfold Oper.wp at h
  generalize (execOp a.eval o).run P w = r at h ⊢
  cases r with
  | ok x w' =>
    cases x with
    | value v => exact h
    | skip => exact h
    | defer d => exact h
    | enter f args => exact ⟨fun hf => by simp [Fence.wide, Fence.inRound] at hf, CallsIn.inRound l (callsIn_wide.2 h)⟩
    | row r args => exact ⟨fun hf => by simp [Fence.wide, Fence.inRound] at hf, fun c cs _ => let ⟨v, w2, hr, s⟩ := h c cs; ⟨v, w2, hr, stepsIn_wide.2 s⟩⟩
    | _ => exact h.elim
  | halt x w' =>
    cases x <;> exact h
theorem any_bridge (hd : noDefer ops = true) (hQ : ¬ LetsOut Q) : ∀ (fuel : Nat) (listed : Array Bool) (a : Act) (w : World), wpAny P md ops Q fuel listed a w → wpAnyIn (Fence.wide.inRound l) n P md ops Q fuel listed a w
  | 0, listed, a, w, h => h
  | fuel + 1, listed, a, w, h => by
    refine ⟨h.1, fun i hi => ?_⟩
    have h2 := h.2 i hi
    unfold wpOp at h2
    unfold wpOpIn
    cases ho : ops[i]? with
    | none => rw [ho] at h2; exact any_bridge hd hQ fuel _ _ _ h2
    | some o =>
      rw [ho] at h2
      dsimp only at h2 ⊢
      split
      · rename_i hw
        rw [if_pos hw] at h2
        rcases h2 with h3 | h3
        · exact Oper.wpIn_mono (fun a' w' h4 => any_bridge hd hQ fuel _ a' w' h4) (oper_bridge (noDefer_at hd ho) hQ h3)
        · exact absurd h3.2 hQ
      · rename_i hw
        rw [if_neg hw] at h2
        exact ⟨fun _ _ => trivial, any_bridge hd hQ fuel _ _ _ h2⟩
theorem round_region_held {id : Nat} {a : Act} {w : World} {S : World → Prop} (hm : P.follows .mixedOrders = true) (hd : noDefer ops = true) (hQ : ¬ LetsOut Q) (hS : S w.drew)
    (h : S w.drew → wpAnyH P .any ops Q S ops.size (Array.replicate ops.size false) a w.drew) : (Code.region id ops true).wpIn (Fence.wide.inRound l) n P Q a w :=
  wpIn_region_any hm (any_bridge hd hQ _ _ _ _ (wpAny_of_held _ _ _ _ (h hS)))
end
end Go.Proofs.YtilmbpdfdickoaaDoor.Given
/- strings.SplitSeq at a blank: its iterator's contract. -/
namespace Go.Proofs.YtilmbpdfdickoaaDoor.Given
open Go.RowKit Go.Proofs.YtilmbpdfdickoaaDoor Go.Proofs.YtilmbpdfdickoaaDoor.Pure Go.Proofs.YtilmbpdfdickoaaDoorW.PrintWords Go.Proofs.YtilmbpdfdickoaaDoor.SeqP
set_option linter.unusedVariables false
set_option linter.unusedSimpArgs false
theorem size_list' (a : ByteArray) : a.size = a.data.toList.length := by rw [Array.length_toList]; rfl
theorem extract_list (a : ByteArray) (i j : Nat) : (a.extract i j).data.toList = (a.data.toList.take j).drop i := by
  rw [ByteArray.data_extract, Array.toList_extract, List.extract_eq_take_drop, List.take_drop]
  by_cases h : i ≤ j
  · rw [show i + (j - i) = j by omega]
  · rw [show i + (j - i) = i by omega, List.drop_eq_nil_of_le (by rw [List.length_take]; omega), List.drop_eq_nil_of_le (by rw [List.length_take]; omega)]
/-- What lies in the box of what is left. -/
def lenAt (b : Nat) (W : World) : Nat := match W.cell? ⟨b, 0, none⟩ with
  | some (.string s) => s.size
  | _ => 0
def words (xs : List ByteArray) : List (List UInt8) := xs.map (·.data.toList)
set_option maxRecDepth 100000 in
set_option maxHeartbeats 4000000 in
theorem seq1_in (n : Nat) (hn : 4 ≤ n) (l Bs Bp Bv : Nat) (hps : Bp ≠ Bs) (hvs : Bv ≠ Bs) (s : ByteArray) (hs : s.size ≤ 4000000000) (J Jx : List ByteArray → World → Prop)
    (hJ : ∀ pre W v, J pre W → J pre (W.setCell ⟨Bs, 0, none⟩ v))
    (hY : ∀ pre x W, J pre W → words (pre ++ [x]) <+: splitL 32 s.data.toList → YieldAt Fence.wide (n - 1) Tryd.prog l #[.string x] W fun e W' =>
      (e = .returned (.bool true) ∧ J (pre ++ [x]) W' ∧ KeepB Bs W W' ∧ KeepB Bp W W' ∧ KeepB Bv W W') ∨ (e = .returned (.bool false) ∧ Jx (pre ++ [x]) W'))
    (W : World) (k0 : W.heap[Bs]? = some (.cells #[.string s] 9 (0, 0))) (k1 : W.heap[Bp]? = some (.cells #[.string ⟨#[32]⟩] 9 (0, 0))) (k2 : W.heap[Bv]? = some (.cells #[.int .i64 0] 3 (0, 0))) (h0 : J [] W) :
    CallsIn Fence.wide n Tryd.prog 55 #[.func (.yield l) #[] #[], .pointer (some ⟨Bp, 0, none⟩), .pointer (some ⟨Bs, 0, none⟩), .pointer (some ⟨Bv, 0, none⟩)] W fun e W' => (∃ v, e = .returned v) ∧
      ((∃ ys, words ys = splitL 32 s.data.toList ∧ J ys W') ∨ (∃ pre, words pre <+: splitL 32 s.data.toList ∧ Jx pre W')) := by
  have h1 : 1 ≤ n := by omega
  have hro : Fence.wide.round = none := rfl
  have K0 := Aside0.mk k0
  have K1 := Aside0.mk k1
  have K2 := Aside0.mk k2
  have HS := Aside0.mk hs
  have y1 : W.cell? ⟨Bp, 0, none⟩ = some (.string ⟨#[32]⟩) := (blk_cell k1 0).trans rfl
  clear k0 k1 k2 hs
  refine callsIn_of_wp Tryd.func55 rfl trivial ?_ hro
  simp only [Tryd.ntmps55, List.size_toArray, List.length_cons, List.length_nil, Nat.reduceAdd, Nat.reduceSub, Array.replicate_succ, Array.replicate_zero, List.push_toArray, List.append_toArray, List.nil_append, List.cons_append]
  gi_wp2
  gi_loopw [7] (fun v wr => ∃ (xs : List ByteArray) (r : ByteArray), Aside0 (wr.heap[Bs]? = some (.cells #[.string r] 9 (0, 0))) ∧ Aside0 (wr.heap[Bp]? = some (.cells #[.string ⟨#[32]⟩] 9 (0, 0))) ∧ Aside0 (wr.heap[Bv]? = some (.cells #[.int .i64 0] 3 (0, 0))) ∧ Aside0 (words xs ++ splitL 32 r.data.toList = splitL 32 s.data.toList) ∧ Aside0 (r.size ≤ s.size) ∧ J xs wr) (fun _ wr => lenAt Bs wr)
  case atStart => exact ⟨[], s, K0, K1, K2, ⟨rfl⟩, ⟨Nat.le_refl _⟩, h0⟩
  case round =>
    obtain ⟨xs, r, B0, B1, B2, HW, HR, hj⟩ := hrel
    have z0 : wr.cell? ⟨Bs, 0, none⟩ = some (.string r) := (blk_cell B0.out 0).trans rfl
    have z1 : wr.cell? ⟨Bp, 0, none⟩ = some (.string ⟨#[32]⟩) := (blk_cell B1.out 0).trans rfl
    have z2 : wr.cell? ⟨Bv, 0, none⟩ = some (.int .i64 0) := (blk_cell B2.out 0).trans rfl
    rcases part_at 32 r.data.toList with hno | ⟨a, b, ha, hab⟩
    · have HI : Aside0 (CallsIn Fence.wide (n - 1) Tryd.prog 57 #[.string r, .string ⟨#[32]⟩] wr fun e w' => e = .returned (.int .i64 (-1)) ∧ w' = wr) := ⟨callsIn_wide.2 ((Tryd.strings_Index_one r 32 wr).mono (by rintro e w' ⟨rfl, rfl⟩; exact ⟨by rw [ib_no 32 _ hno], rfl⟩))⟩
      have HL : Aside0 (words (xs ++ [r]) = splitL 32 s.data.toList) := ⟨by
        rw [← HW.out, splitL_none 32 _ hno]; unfold words; rw [List.map_append]; rfl⟩
      obtain ⟨fn, tmps, assign, body, hy, hR⟩ := hY xs r wr hj (by rw [HL.out]; exact List.prefix_rfl)
      have HRR := Aside0.mk hR
      clear hR hno
      gi_wp2
      refine ⟨trivial, HI.out.mono ?_⟩
      rintro e w' ⟨rfl, rfl⟩
      gi_wp2
      refine HRR.out.mono ?_
      rintro e W3 (⟨rfl, hJ3, hk3⟩ | ⟨rfl, hJx3⟩)
      · gi_wp2
        go_end0
        exact ⟨⟨_, rfl⟩, .inl ⟨_, HL.out, hJ3⟩⟩
      · gi_wp2
        go_end0
        exact ⟨⟨_, rfl⟩, .inr ⟨_, by rw [HL.out]; exact List.prefix_rfl, hJx3⟩⟩
    · have HI : Aside0 (CallsIn Fence.wide (n - 1) Tryd.prog 57 #[.string r, .string ⟨#[32]⟩] wr fun e w' => e = .returned (.int .i64 (a.length : Int)) ∧ w' = wr) := ⟨callsIn_wide.2 ((Tryd.strings_Index_one r 32 wr).mono (by rintro e w' ⟨rfl, rfl⟩; exact ⟨by rw [hab, ib_at 32 b a ha], rfl⟩))⟩
      have hsz : r.size = a.length + (b.length + 1) := by rw [size_list', hab, List.length_append, List.length_cons]
      have xa : Aside0 ((r.extract 0 a.length).data.toList = a) := ⟨by rw [extract_list, hab, List.take_left, List.drop_zero]⟩
      have xb : Aside0 ((r.extract (a.length + 1) r.size).data.toList = b) := ⟨by
        rw [extract_list, size_list', List.take_length, hab, show a ++ 32 :: b = (a ++ [32]) ++ b by simp, List.drop_left' (by simp)]⟩
      have HL : Aside0 (words (xs ++ [r.extract 0 a.length]) ++ splitL 32 b = splitL 32 s.data.toList) := ⟨by
        rw [← HW.out, hab, splitL_app 32 b a ha]; unfold words; rw [List.map_append, List.map_singleton, xa.out]; simp⟩
      obtain ⟨fn, tmps, assign, body, hy, hR⟩ := hY xs (r.extract 0 a.length) wr hj ⟨_, HL.out⟩
      have HRR := Aside0.mk hR
      have l1 : (a.length : Int) < 9223372036854775807 := by have := HS.out; have := HR.out; omega
      have d0 : decide ((a.length : Int) < 0) = false := decide_eq_false (by omega)
      have hsz2 : (a.length + 1 : Nat) ≤ r.size := by omega
      have HSZ := Aside0.mk hsz
      clear hR hsz
      gi_wp2
      refine ⟨trivial, HI.out.mono ?_⟩
      rintro e w' ⟨rfl, rfl⟩
      gi_wp2
      refine HRR.out.mono ?_
      rintro e W3 (⟨rfl, hJ3, hk0, hk1, hk2⟩ | ⟨rfl, hJx3⟩)
      · have C0 := Aside0.mk (hk0 _ _ _ B0.out)
        have C1 := Aside0.mk (hk1 _ _ _ B1.out)
        have C2 := Aside0.mk (hk2 _ _ _ B2.out)
        have z0 : W3.cell? ⟨Bs, 0, none⟩ = some (.string r) := (blk_cell C0.out 0).trans rfl
        have z1 : W3.cell? ⟨Bp, 0, none⟩ = some (.string ⟨#[32]⟩) := (blk_cell C1.out 0).trans rfl
        have f0 := blk_frozen C0.out 0
        clear hk0 hk1 hk2
        gi_wp2
        go_roundw
        case rel => exact ⟨xs ++ [r.extract 0 a.length], r.extract (a.length + 1) r.size, ⟨blk_put C0.out 0 _ rfl⟩, ⟨blk_far C1.out hps _⟩, ⟨blk_far C2.out hvs _⟩, ⟨by rw [xb.out]; exact HL.out⟩, ⟨by have h_ := HR.out; rw [size_list', xb.out]; have h2_ := HSZ.out; omega⟩, hJ _ _ _ hJ3⟩
        case measure =>
          unfold lenAt
          rw [(blk_cell (blk_put C0.out 0 (.string (r.extract (a.length + 1) r.size)) rfl) 0).trans (show _ = some (.string (r.extract (a.length + 1) r.size)) from rfl), (blk_cell B0.out 0).trans (show _ = some (.string r) from rfl)]
          show (r.extract (a.length + 1) r.size).size < r.size
          rw [size_list', xb.out]; have h2_ := HSZ.out; omega
      · gi_wp2
        refine bodyPost_ret (results_none rfl _ _ _) rfl ?_
        exact ⟨⟨_, rfl⟩, .inr ⟨_, ⟨_, HL.out⟩, hJx3⟩⟩
set_option maxHeartbeats 1000000 in
theorem splitSeq_c (s : ByteArray) (w : World) :
    Calls Tryd.prog 25 #[.string s, .string ⟨#[32]⟩] w fun e w' => e = .returned (.func (.func 55) #[] #[.pointer (some ⟨w.heap.size + 1, 0, none⟩), .pointer (some ⟨w.heap.size, 0, none⟩), .pointer (some ⟨w.heap.size + 1 + 1, 0, none⟩)]) ∧
      w' = ((w.alloc (.cells #[.string s] 9)).alloc (.cells #[.string ⟨#[32]⟩] 9)).alloc (.cells #[.int .i64 0] 3) := by
  have H44 : ∀ W : World, Calls Tryd.prog 44 #[.string s, .string ⟨#[32]⟩, .int .i64 0] W fun e w' => e = .returned (.func (.func 55) #[] #[.pointer (some ⟨W.heap.size + 1, 0, none⟩), .pointer (some ⟨W.heap.size, 0, none⟩), .pointer (some ⟨W.heap.size + 1 + 1, 0, none⟩)]) ∧
      w' = ((W.alloc (.cells #[.string s] 9)).alloc (.cells #[.string ⟨#[32]⟩] 9)).alloc (.cells #[.int .i64 0] 3) := by
    intro W
    go_enter Tryd.func44, Tryd.ntmps44
    go_wp2
    go_ret
    exact ⟨rfl, rfl⟩
  go_enter Tryd.func25, Tryd.ntmps25
  go_wp2_with (go_at_call 44; refine (H44 _).mono ?_; rintro e w' ⟨rfl, rfl⟩)
  go_ret
  exact ⟨rfl, rfl⟩
def KpS (Bs Bp Bv : Nat) (A B : World) : Prop := KeepB Bs A B ∧ KeepB Bp A B ∧ KeepB Bv A B
/-- What the iterator does, whatever body keeps its three boxes. -/
theorem seq_stops (n : Nat) (hn : 4 ≤ n) (Bs Bp Bv : Nat) (hps : Bp ≠ Bs) (hvs : Bv ≠ Bs) (s : ByteArray) (hs : s.size ≤ 4000000000) (w : World)
    (k0 : w.heap[Bs]? = some (.cells #[.string s] 9 (0, 0))) (k1 : w.heap[Bp]? = some (.cells #[.string ⟨#[32]⟩] 9 (0, 0))) (k2 : w.heap[Bv]? = some (.cells #[.int .i64 0] 3 (0, 0))) :
    SeqP Bs Fence.wide n (n - 1) Tryd.prog 55 #[.pointer (some ⟨Bp, 0, none⟩), .pointer (some ⟨Bs, 0, none⟩), .pointer (some ⟨Bv, 0, none⟩)] (fun x : ByteArray => #[Value.string x]) (KpS Bs Bp Bv) (fun ys => words ys = splitL 32 s.data.toList) (fun pre => words pre <+: splitL 32 s.data.toList) (fun pre x => words (pre ++ [x]) <+: splitL 32 s.data.toList) w := fun l J Jx W hW hoJ hoX hJ hX hY h0 => by
  refine (seq1_in n hn l Bs Bp Bv hps hvs s hs J Jx hJ (fun pre x W1 h1 hl => (hY pre x W1 h1 hl).mono (fun e W' h => ?_)) W (blk_below k0 hW) (blk_below k1 hW) (blk_below k2 hW) h0)
  rcases h.1 with ⟨he, hj, hk⟩ | h2
  · exact .inl ⟨he, hj, hk.1, hk.2.1, hk.2.2⟩
  · exact .inr h2
end Go.Proofs.YtilmbpdfdickoaaDoor.Given
/- calls.Parse, walked. -/
namespace Go.Proofs.YtilmbpdfdickoaaDoor.Given
open Go.RowKit Go.Proofs.YtilmbpdfdickoaaDoor Go.Proofs.YtilmbpdfdickoaaDoor.Print Go.Proofs.YtilmbpdfdickoaaDoor.Pure Go.Proofs.YtilmbpdfdickoaaDoorW.PrintWords Go.Proofs.YtilmbpdfdickoaaDoorW.PrintLast Go.Proofs.YtilmbpdfdickoaaDoorW.PrintMore Go.Proofs.YtilmbpdfdickoaaDoor.SeqP
set_option linter.unusedVariables false
set_option linter.unusedSimpArgs false
/-- What lies where while the words are read. -/
structure PI (b0 b1 b2 b3 : Nat) (w : World) (st : CallS × List UInt8) (r : Int) (W : World) : Prop where
  k0 : W.heap[b0]? = some (.cells #[.int .i64 0, .int .i64 0, .int .i64 0, .int .i64 0, .int .i64 0, .int .i64 0, .int .u64 0] 26 (0, 0))
  k1 : W.heap[b1]? = some (.cells #[.int .i64 r] 27 (0, 0))
  k2 : CallAt b2 st.1 W
  k3 : W.heap[b3]? = some (.cells #[.string ⟨st.2.toArray⟩] 9 (0, 0))
  hb : Below w.heap.size w W
structure PX (b0 b1 : Nat) (w : World) (W : World) : Prop where
  k0 : W.heap[b0]? = some (.cells #[.int .i64 0, .int .i64 0, .int .i64 0, .int .i64 0, .int .i64 0, .int .i64 0, .int .u64 0] 26 (0, 0))
  k1 : W.heap[b1]? = some (.cells #[.int .i64 3] 27 (0, 0))
  hb : Below w.heap.size w W
theorem own_blk {A B : World} {row : Option Nat} {n g : Nat} {o : Obj} (h : A.heap[g]? = some o) (hg : A.grownBy B row) (hr : ∀ r, row = some r → n ≤ r ∧ ∃ o : Obj, A.heap[r]? = some o ∧ o.isCells = false) (hn : g < n) : B.heap[g]? = some o :=
  (hg.block _ (blk_lt h) (fun e => by have := (hr _ e.symm).1; omega)).trans h
theorem set8 {w W : World} {b0 b1 D n : Nat} (v0 v1 v2 v3 v4 v5 v6 r u : Value) {cs : Array Value} (hcs : cs = #[.int .i64 0, .int .i64 0, .int .i64 0, .int .i64 0, .int .i64 0, .int .i64 0, .int .u64 0]) (h0 : W.heap[b0]? = some (.cells cs 26 (0, 0))) (h1 : W.heap[b1]? = some (.cells #[u] 27 (0, 0))) (hD : W.heap[D]? = some (.deferred (some []))) (hb : Below n w W) (n01 : b0 ≠ b1) (nD0 : D ≠ b0) (nD1 : D ≠ b1) (l0 : n ≤ b0) (l1 : n ≤ b1) :
    ∀ X, X = ((((((((W.setCell ⟨b0, 0, none⟩ v0).setCell ⟨b0, 1, none⟩ v1).setCell ⟨b0, 2, none⟩ v2).setCell ⟨b0, 3, none⟩ v3).setCell ⟨b0, 4, none⟩ v4).setCell ⟨b0, 5, none⟩ v5).setCell ⟨b0, 6, none⟩ v6).setCell ⟨b1, 0, none⟩ r) →
      X.heap[b0]? = some (.cells #[v0, v1, v2, v3, v4, v5, v6] 26 (0, 0)) ∧ X.heap[b1]? = some (.cells #[r] 27 (0, 0)) ∧ X.heap[D]? = some (.deferred (some [])) ∧ Below n w X := by
  intro X hX
  subst hcs
  have a0 := blk_put h0 0 v0 rfl
  have a1 := blk_put a0 1 v1 rfl
  have a2 := blk_put a1 2 v2 rfl
  have a3 := blk_put a2 3 v3 rfl
  have a4 := blk_put a3 4 v4 rfl
  have a5 := blk_put a4 5 v5 rfl
  have a6 := blk_put a5 6 v6 rfl
  have a7 := blk_far a6 (p := ⟨b1, 0, none⟩) n01 r
  have c0 := blk_far h1 (p := ⟨b0, 0, none⟩) (Ne.symm n01) v0
  have c1 := blk_far c0 (p := ⟨b0, 1, none⟩) (Ne.symm n01) v1
  have c2 := blk_far c1 (p := ⟨b0, 2, none⟩) (Ne.symm n01) v2
  have c3 := blk_far c2 (p := ⟨b0, 3, none⟩) (Ne.symm n01) v3
  have c4 := blk_far c3 (p := ⟨b0, 4, none⟩) (Ne.symm n01) v4
  have c5 := blk_far c4 (p := ⟨b0, 5, none⟩) (Ne.symm n01) v5
  have c6 := blk_far c5 (p := ⟨b0, 6, none⟩) (Ne.symm n01) v6
  have c7 := blk_put c6 0 r rfl
  have d0 := (Below.heap_setCell W ⟨b0, 0, none⟩ v0 D nD0).trans hD
  have d1 := (Below.heap_setCell _ ⟨b0, 1, none⟩ v1 D nD0).trans d0
  have d2 := (Below.heap_setCell _ ⟨b0, 2, none⟩ v2 D nD0).trans d1
  have d3 := (Below.heap_setCell _ ⟨b0, 3, none⟩ v3 D nD0).trans d2
  have d4 := (Below.heap_setCell _ ⟨b0, 4, none⟩ v4 D nD0).trans d3
  have d5 := (Below.heap_setCell _ ⟨b0, 5, none⟩ v5 D nD0).trans d4
  have d6 := (Below.heap_setCell _ ⟨b0, 6, none⟩ v6 D nD0).trans d5
  have d7 := (Below.heap_setCell _ ⟨b1, 0, none⟩ r D nD1).trans d6
  rw [hX]
  exact ⟨a7, c7, d7, (((((((hb.setCell (p := ⟨b0, 0, none⟩) l0 v0).setCell (p := ⟨b0, 1, none⟩) l0 v1).setCell (p := ⟨b0, 2, none⟩) l0 v2).setCell (p := ⟨b0, 3, none⟩) l0 v3).setCell (p := ⟨b0, 4, none⟩) l0 v4).setCell (p := ⟨b0, 5, none⟩) l0 v5).setCell (p := ⟨b0, 6, none⟩) l0 v6).setCell (p := ⟨b1, 0, none⟩) l1 r⟩
theorem res13 (tmps : Array Value) (w : World) (g g' : Nat) (cs : Array Value) (r : Int)
    (hp : tmps.getD 2 undef = .pointer (some ⟨g, 0, none⟩)) (hg : w.heap[g]? = some (.cells cs 26 (0, 0))) (hz : cs.size = 7)
    (hp' : tmps.getD 3 undef = .pointer (some ⟨g', 0, none⟩)) (hg' : w.heap[g']? = some (.cells #[.int .i64 r] 27 (0, 0))) :
    (results Tryd.f13 tmps).run Tryd.prog w = .ok (.tuple #[.agg cs, .int .i64 r]) w := by
  have h : Tryd.f13.results = #[.cell 2 26, .cell 3 27] := rfl
  have h1 : tmps[2]?.getD undef = .pointer (some ⟨g, 0, none⟩) := by simpa using hp
  have h2 : tmps[3]?.getD undef = .pointer (some ⟨g', 0, none⟩) := by simpa using hp'
  have c : w.cell? ⟨g', 0, none⟩ = some (.int .i64 r) := (blk_cell hg' 0).trans rfl
  have hi : (Tryd.prog.info? 26).map (·.size) = some cs.size := by rw [hz]; kernel_rfl
  have hr := run_loadVar_row w g 26 26 cs (0, 0) _ hg Tryd.underlying26 rfl hi
  have hr2 : (loadVar 27 ⟨g', 0, none⟩).run Tryd.prog w = .ok (.int .i64 r) w := by simp [go_sem, c]
  simp [results, h, h1, h2, asAddr, hr, hr2]
/-- The calls' names and letters: the table is loaded. -/
theorem meas14 (k : Nat) (h : k < 14) : 14 - (intOf (.int .i64 (wrap64 ((k : Int) + 1)))).toNat < 14 - (intOf (.int .i64 (k : Int))).toNat := by
  have e : wrap64 ((k : Int) + 1) = (k : Int) + 1 := by unfold wrap64; omega
  rw [e]
  show 14 - ((k : Int) + 1).toNat < 14 - (k : Int).toNat
  omega
theorem PI.alloc {b0 b1 b2 b3 : Nat} {w W : World} {st : CallS × List UInt8} {r : Int} (h : PI b0 b1 b2 b3 w st r W) (o : Obj) : PI b0 b1 b2 b3 w st r (W.alloc o) := ⟨blk_alloc h.k0 _, blk_alloc h.k1 _, blk_alloc h.k2 _, blk_alloc h.k3 _, below_alloc h.hb _⟩
theorem words_snoc (pre : List ByteArray) (x : ByteArray) : words (pre ++ [x]) = words pre ++ [x.data.toList] := by unfold words; rw [List.map_append, List.map_singleton]
theorem idx0 (x : UInt8) (ks : List UInt8) (W : World) : (Instr.index 9 (.string ⟨(x :: ks).toArray⟩) (.int .i64 0)).run Tryd.prog W = .ok (.int .u8 (x.toNat : Int)) W := by
  kernel_rfl
theorem px_set {b0 b1 b2 b3 B : Nat} {w W : World} {st : CallS × List UInt8} {u : Int} (h : PI b0 b1 b2 b3 w st u W) (n01 : b0 ≠ b1) (l0 : w.heap.size ≤ b0) (l1 : w.heap.size ≤ b1) :
    ∀ X, X = ((((((((W.setCell ⟨b0, 0, none⟩ (.int .i64 0)).setCell ⟨b0, 1, none⟩ (.int .i64 0)).setCell ⟨b0, 2, none⟩ (.int .i64 0)).setCell ⟨b0, 3, none⟩ (.int .i64 0)).setCell ⟨b0, 4, none⟩ (.int .i64 0)).setCell ⟨b0, 5, none⟩ (.int .i64 0)).setCell ⟨b0, 6, none⟩ (.int .u64 0)).setCell ⟨b1, 0, none⟩ (.int .i64 3)) → PX b0 b1 w X ∧ KeepsFrom B W X := by
  intro X hX
  have a0 := blk_put h.k0 0 (.int .i64 0) rfl
  have a1 := blk_put a0 1 (.int .i64 0) rfl
  have a2 := blk_put a1 2 (.int .i64 0) rfl
  have a3 := blk_put a2 3 (.int .i64 0) rfl
  have a4 := blk_put a3 4 (.int .i64 0) rfl
  have a5 := blk_put a4 5 (.int .i64 0) rfl
  have a6 := blk_put a5 6 (.int .u64 0) rfl
  have a7 := blk_far a6 (p := ⟨b1, 0, none⟩) n01 (.int .i64 3)
  have c0 := blk_far h.k1 (p := ⟨b0, 0, none⟩) (Ne.symm n01) (.int .i64 0)
  have c1 := blk_far c0 (p := ⟨b0, 1, none⟩) (Ne.symm n01) (.int .i64 0)
  have c2 := blk_far c1 (p := ⟨b0, 2, none⟩) (Ne.symm n01) (.int .i64 0)
  have c3 := blk_far c2 (p := ⟨b0, 3, none⟩) (Ne.symm n01) (.int .i64 0)
  have c4 := blk_far c3 (p := ⟨b0, 4, none⟩) (Ne.symm n01) (.int .i64 0)
  have c5 := blk_far c4 (p := ⟨b0, 5, none⟩) (Ne.symm n01) (.int .i64 0)
  have c6 := blk_far c5 (p := ⟨b0, 6, none⟩) (Ne.symm n01) (.int .u64 0)
  have c7 := blk_put c6 0 (.int .i64 3) rfl
  have k := ((((((((KeepsOthers.setCell W ⟨b0, 0, none⟩ (.int .i64 0)).trans (KeepsOthers.setCell _ ⟨b0, 1, none⟩ (.int .i64 0))).trans (KeepsOthers.setCell _ ⟨b0, 2, none⟩ (.int .i64 0))).trans (KeepsOthers.setCell _ ⟨b0, 3, none⟩ (.int .i64 0))).trans (KeepsOthers.setCell _ ⟨b0, 4, none⟩ (.int .i64 0))).trans (KeepsOthers.setCell _ ⟨b0, 5, none⟩ (.int .i64 0))).trans (KeepsOthers.setCell _ ⟨b0, 6, none⟩ (.int .u64 0))).trans (KeepsOthers.setCell _ ⟨b1, 0, none⟩ (.int .i64 3))).from B
  rw [hX]
  exact ⟨⟨a7, c7, (((((((h.hb.setCell (p := ⟨b0, 0, none⟩) l0 _).setCell (p := ⟨b0, 1, none⟩) l0 _).setCell (p := ⟨b0, 2, none⟩) l0 _).setCell (p := ⟨b0, 3, none⟩) l0 _).setCell (p := ⟨b0, 4, none⟩) l0 _).setCell (p := ⟨b0, 5, none⟩) l0 _).setCell (p := ⟨b0, 6, none⟩) l0 _).setCell (p := ⟨b1, 0, none⟩) l1 _⟩, k⟩
theorem kps_two {Bs Bp Bv b2 b3 : Nat} {A B : World} {u v : Value} (h : KpS Bs Bp Bv A B) (h2 : b2 < Bs ∧ b2 < Bp ∧ b2 < Bv) (h3 : b3 < Bs ∧ b3 < Bp ∧ b3 < Bv) : KpS Bs Bp Bv A (((B.setCell ⟨b2, 0, none⟩ u).setCell ⟨b3, 0, none⟩ v).drew) := by
  have far : ∀ (g : Nat) (o : Obj), g ≠ b2 → g ≠ b3 → B.heap[g]? = some o → (((B.setCell ⟨b2, 0, none⟩ u).setCell ⟨b3, 0, none⟩ v).drew).heap[g]? = some o := fun g o n2 n3 e => (Below.heap_setCell _ ⟨b3, 0, none⟩ v g n3).trans ((Below.heap_setCell B ⟨b2, 0, none⟩ u g n2).trans e)
  exact ⟨fun c t f e => far _ _ (by omega) (by omega) (h.1 c t f e), fun c t f e => far _ _ (by omega) (by omega) (h.2.1 c t f e), fun c t f e => far _ _ (by omega) (by omega) (h.2.2 c t f e)⟩
theorem PI.hit {b0 b1 b2 b3 : Nat} {w W : World} {r : Int} (h : PI b0 b1 b2 b3 w (call0, []) r W) (k : Nat) (tb : ByteArray) (ht : tb = ⟨(toldL k).toArray⟩) (n02 : b0 ≠ b2 ∧ b0 ≠ b3) (n12 : b1 ≠ b2 ∧ b1 ≠ b3) (n23 : b2 ≠ b3) (l : w.heap.size ≤ b2 ∧ w.heap.size ≤ b3) :
    PI b0 b1 b2 b3 w (opSt (some k)) r (((W.setCell ⟨b2, 0, none⟩ (.int .i64 (k : Int))).setCell ⟨b3, 0, none⟩ (.string tb)).drew) :=
  ⟨blk_drew (blk_far (blk_far h.k0 n02.1 _) n02.2 _), blk_drew (blk_far (blk_far h.k1 n12.1 _) n12.2 _), blk_drew (blk_far (blk_put h.k2 0 _ rfl) n23 _), blk_drew (blk_put (blk_far h.k3 (Ne.symm n23) _) 0 _ (by rw [ht]; rfl)), below_drew (below_set (below_set h.hb l.1) l.2)⟩
theorem kps_alloc {Bs Bp Bv : Nat} {A B : World} (h : KpS Bs Bp Bv A B) (o : Obj) : KpS Bs Bp Bv A (B.alloc o) := ⟨fun c t f e => blk_alloc (h.1 c t f e) _, fun c t f e => blk_alloc (h.2.1 c t f e) _, fun c t f e => blk_alloc (h.2.2 c t f e) _⟩
theorem load_ops {l n : Nat} {ops : Array Oper} {rest : List Oper} {o : Oper} {a : Act} {w : World} {Q : Exit → Act → World → Prop} {t : TypeId} {fr : Nat × Nat} {A : Value} (hA : Aside0 (A = .agg opsC)) (hg : Aside0 (w.heap[0]? = some (.cells opsC t fr))) (hgd : o.guard = none) (ho : o.op = .load 49 (.global 0))
    (h : wpListIn (Fence.wide.inRound l) n Tryd.prog ops Q rest (a.put o.dst A) w) : wpListIn (Fence.wide.inRound l) n Tryd.prog ops Q (o :: rest) a w :=
  wpListIn_plain hgd fun K hK => by
    unfold Oper.wpIn
    refine ⟨fun _ _ => trivial, ?_⟩
    have hx : a.eval (.global 0) = .pointer (some ⟨0, 0, none⟩) := rfl
    have h1 := run_loadVar_row w 0 t 49 opsC fr _ hg.out Tryd.underlying49 rfl (by kernel_rfl)
    rw [Oper.semAt_eq _ _ _ (by simp [ho])]
    unfold execOp
    simp only [ho, hx, Instr.loadAt, Instr.sureAddr, Sem.run_bind, Sem.run_pure, Result.andThen_ok, h1]
    rw [← hA.out]
    exact hK _ _ h
theorem ops_index (k : Nat) (hk : k < 14) (W : World) : (Instr.index 49 (.agg opsC) (.int .i64 (k : Int))).run Tryd.prog W = .ok (.agg #[.string ⟨(nameL k).toArray⟩, .string ⟨(toldL k).toArray⟩]) W := by
  match k, hk with
  | 0, _ => exact (show (Instr.index 49 (.agg opsC) (.int .i64 (0 : Int))).run Tryd.prog W = .ok (.agg #[.string ⟨(nameL 0).toArray⟩, .string ⟨(toldL 0).toArray⟩]) W from by kernel_rfl)
  | 1, _ => exact (show (Instr.index 49 (.agg opsC) (.int .i64 (1 : Int))).run Tryd.prog W = .ok (.agg #[.string ⟨(nameL 1).toArray⟩, .string ⟨(toldL 1).toArray⟩]) W from by kernel_rfl)
  | 2, _ => exact (show (Instr.index 49 (.agg opsC) (.int .i64 (2 : Int))).run Tryd.prog W = .ok (.agg #[.string ⟨(nameL 2).toArray⟩, .string ⟨(toldL 2).toArray⟩]) W from by kernel_rfl)
  | 3, _ => exact (show (Instr.index 49 (.agg opsC) (.int .i64 (3 : Int))).run Tryd.prog W = .ok (.agg #[.string ⟨(nameL 3).toArray⟩, .string ⟨(toldL 3).toArray⟩]) W from by kernel_rfl)
  | 4, _ => exact (show (Instr.index 49 (.agg opsC) (.int .i64 (4 : Int))).run Tryd.prog W = .ok (.agg #[.string ⟨(nameL 4).toArray⟩, .string ⟨(toldL 4).toArray⟩]) W from by kernel_rfl)
  | 5, _ => exact (show (Instr.index 49 (.agg opsC) (.int .i64 (5 : Int))).run Tryd.prog W = .ok (.agg #[.string ⟨(nameL 5).toArray⟩, .string ⟨(toldL 5).toArray⟩]) W from by kernel_rfl)
  | 6, _ => exact (show (Instr.index 49 (.agg opsC) (.int .i64 (6 : Int))).run Tryd.prog W = .ok (.agg #[.string ⟨(nameL 6).toArray⟩, .string ⟨(toldL 6).toArray⟩]) W from by kernel_rfl)
  | 7, _ => exact (show (Instr.index 49 (.agg opsC) (.int .i64 (7 : Int))).run Tryd.prog W = .ok (.agg #[.string ⟨(nameL 7).toArray⟩, .string ⟨(toldL 7).toArray⟩]) W from by kernel_rfl)
  | 8, _ => exact (show (Instr.index 49 (.agg opsC) (.int .i64 (8 : Int))).run Tryd.prog W = .ok (.agg #[.string ⟨(nameL 8).toArray⟩, .string ⟨(toldL 8).toArray⟩]) W from by kernel_rfl)
  | 9, _ => exact (show (Instr.index 49 (.agg opsC) (.int .i64 (9 : Int))).run Tryd.prog W = .ok (.agg #[.string ⟨(nameL 9).toArray⟩, .string ⟨(toldL 9).toArray⟩]) W from by kernel_rfl)
  | 10, _ => exact (show (Instr.index 49 (.agg opsC) (.int .i64 (10 : Int))).run Tryd.prog W = .ok (.agg #[.string ⟨(nameL 10).toArray⟩, .string ⟨(toldL 10).toArray⟩]) W from by kernel_rfl)
  | 11, _ => exact (show (Instr.index 49 (.agg opsC) (.int .i64 (11 : Int))).run Tryd.prog W = .ok (.agg #[.string ⟨(nameL 11).toArray⟩, .string ⟨(toldL 11).toArray⟩]) W from by kernel_rfl)
  | 12, _ => exact (show (Instr.index 49 (.agg opsC) (.int .i64 (12 : Int))).run Tryd.prog W = .ok (.agg #[.string ⟨(nameL 12).toArray⟩, .string ⟨(toldL 12).toArray⟩]) W from by kernel_rfl)
  | 13, _ => exact (show (Instr.index 49 (.agg opsC) (.int .i64 (13 : Int))).run Tryd.prog W = .ok (.agg #[.string ⟨(nameL 13).toArray⟩, .string ⟨(toldL 13).toArray⟩]) W from by kernel_rfl)
theorem PI.drew {b0 b1 b2 b3 : Nat} {w W : World} {st : CallS × List UInt8} {r : Int} (h : PI b0 b1 b2 b3 w st r W) : PI b0 b1 b2 b3 w st r W.drew := ⟨blk_drew h.k0, blk_drew h.k1, blk_drew h.k2, blk_drew h.k3, below_drew h.hb⟩
theorem PI.read {b0 b1 b2 b3 : Nat} {w W W' : World} {c c' : CallS} {lf : List UInt8} {r : Int} (h : PI b0 b1 b2 b3 w (c, lf) r W) (hg : W.grownBy W' (some b2)) (hk : CallAt b2 c' W') (n : b0 ≠ b2 ∧ b1 ≠ b2 ∧ b3 ≠ b2) (l : w.heap.size ≤ b2) : PI b0 b1 b2 b3 w (c', lf) r W' :=
  ⟨blk_grown h.k0 hg (fun e => n.1 (Option.some.inj e)), blk_grown h.k1 hg (fun e => n.2.1 (Option.some.inj e)), hk, blk_grown h.k3 hg (fun e => n.2.2 (Option.some.inj e)), pw_below_grown h.hb (some b2) h.hb.size hg (fun k e => by cases e; exact l)⟩
theorem kps_read {Bs Bp Bv b2 : Nat} {A W W' : World} (h : KpS Bs Bp Bv A W) (hg : W.grownBy W' (some b2)) (l : b2 < Bs ∧ b2 < Bp ∧ b2 < Bv) : KpS Bs Bp Bv A W' :=
  ⟨fun c t f e => blk_grown (h.1 c t f e) hg (fun q => by have := Option.some.inj q; omega), fun c t f e => blk_grown (h.2.1 c t f e) hg (fun q => by have := Option.some.inj q; omega), fun c t f e => blk_grown (h.2.2 c t f e) hg (fun q => by have := Option.some.inj q; omega)⟩
theorem kps_put {Bs Bp Bv b3 : Nat} {A W : World} (h : KpS Bs Bp Bv A W) (l : b3 < Bs ∧ b3 < Bp ∧ b3 < Bv) (v : Value) : KpS Bs Bp Bv A (W.setCell ⟨b3, 0, none⟩ v) :=
  ⟨fun c t f e => (Below.heap_setCell W ⟨b3, 0, none⟩ v _ (show Bs ≠ b3 by omega)).trans (h.1 c t f e), fun c t f e => (Below.heap_setCell W ⟨b3, 0, none⟩ v _ (show Bp ≠ b3 by omega)).trans (h.2.1 c t f e), fun c t f e => (Below.heap_setCell W ⟨b3, 0, none⟩ v _ (show Bv ≠ b3 by omega)).trans (h.2.2 c t f e)⟩
theorem tail_is (k : UInt8) (ks : List UInt8) (tb : ByteArray) (ht : tb = ⟨(k :: ks).toArray⟩) : tb.extract 1 tb.size = ⟨ks.toArray⟩ := by
  have h := extract_list tb 1 tb.size
  rw [size_list', List.take_length, ← size_list'] at h
  have h2 : tb.data.toList = k :: ks := by rw [ht]
  rw [h2] at h
  apply ByteArray.ext
  apply Array.toList_inj.1
  exact h
theorem PI.next {b0 b1 b2 b3 : Nat} {w W : World} {c : CallS} {k : UInt8} {ks : List UInt8} {r : Int} (h : PI b0 b1 b2 b3 w (c, k :: ks) r W) (tb : ByteArray) (ht : tb = ⟨(k :: ks).toArray⟩) (n : b0 ≠ b3 ∧ b1 ≠ b3 ∧ b2 ≠ b3) (l : w.heap.size ≤ b3) : PI b0 b1 b2 b3 w (c, ks) r (W.setCell ⟨b3, 0, none⟩ (.string (tb.extract 1 tb.size))) :=
  ⟨blk_far h.k0 n.1 _, blk_far h.k1 n.2.1 _, blk_far h.k2 n.2.2 _, blk_put h.k3 0 _ (by rw [tail_is k ks tb ht]; rfl), below_set h.hb l⟩
end Go.Proofs.YtilmbpdfdickoaaDoor.Given
/- calls.Parse, walked. -/
namespace Go.Proofs.YtilmbpdfdickoaaDoor.Given
open Go.RowKit Go.Proofs.YtilmbpdfdickoaaDoor Go.Proofs.YtilmbpdfdickoaaDoor.Print Go.Proofs.YtilmbpdfdickoaaDoor.Pure Go.Proofs.YtilmbpdfdickoaaDoorW.PrintWords Go.Proofs.YtilmbpdfdickoaaDoorW.PrintLast Go.Proofs.YtilmbpdfdickoaaDoorW.PrintMore Go.Proofs.YtilmbpdfdickoaaDoor.SeqP
set_option linter.unusedVariables false
set_option linter.unusedSimpArgs false
attribute [local go_sem] Oper.semAt_some
set_option maxRecDepth 100000 in
set_option maxHeartbeats 8000000 in
theorem parse15_c (s : ByteArray) (hs : s.size ≤ 4000000000) (w : World) (HLd : Ld w) :
    Calls Tryd.prog 13 #[.string s] w fun e w' => e = .returned (.tuple #[.agg (callC (parseCS s.data.toList).1), .int .i64 (parseCS s.data.toList).2]) ∧ Below w.heap.size w w' := by
  have hu26 := Tryd.underlying26
  have h1n : 1 ≤ 8 := by omega
  by_cases h1 : 1200 < s.size
  · have HP : Aside0 (parseCS s.data.toList = (call0, 2)) := ⟨by unfold parseCS; rw [if_pos (by rw [← size_list']; exact h1)]⟩
    have t0 : decide ((s.size : Int) > 1200) = true := decide_eq_true (by omega)
    have t1 : decide ((1200 : Int) < (s.size : Int)) = true := decide_eq_true (by omega)
    have t2 : decide (1200 < s.size) = true := decide_eq_true h1
    clear h1 hs
    have n01 : (w.heap.size + 1 = w.heap.size) = False := eq_false (by omega)
    go_enter Tryd.func13, Tryd.ntmps13
    go_wp2_with fail
    refine bodyPost_ret (res13 _ _ w.heap.size (w.heap.size + 1) (callC call0) 2 rfl (blk_alloc (blk_new w (.cells #[.int .i64 0, .int .i64 0, .int .i64 0, .int .i64 0, .int .i64 0, .int .i64 0, .int .u64 0] 26)) _) rfl rfl ?_) rfl ?_
    · have h_ := blk_new (w.alloc (.cells #[.int .i64 0, .int .i64 0, .int .i64 0, .int .i64 0, .int .i64 0, .int .i64 0, .int .u64 0] 26)) (.cells #[.int .i64 2] 27)
      rw [World.size_alloc] at h_
      exact h_
    · rw [HP.out]
      exact ⟨rfl, below_alloc (below_alloc (Below.refl _ _) _) _⟩
  · have t0 : decide ((s.size : Int) > 1200) = false := decide_eq_false (by omega)
    have t1 : decide ((1200 : Int) < (s.size : Int)) = false := decide_eq_false (by omega)
    have t2 : decide (1200 < s.size) = false := decide_eq_false h1
    have HS := Aside0.mk hs
    have HL : Aside0 (s.data.toList.length ≤ 1200) := ⟨by rw [← size_list']; omega⟩
    clear h1 hs
    refine (callsIn_wide (n := 8)).1 (callsIn_of_wp_marks Tryd.func13 rfl trivial ?_ rfl)
    simp only [Tryd.ntmps13, List.size_toArray, List.length_cons, List.length_nil, Nat.reduceAdd, Nat.reduceSub, Array.replicate_succ, Array.replicate_zero, List.push_toArray, List.append_toArray, List.nil_append, List.cons_append]
    gi_wp2
    refine ⟨trivial, ((callsIn_wide (n := 7)).2 (splitSeq_c s _)).mono ?_⟩
    rintro e w' ⟨rfl, rfl⟩
    dsimp only
    obtain ⟨W0, hW0⟩ : ∃ W0, (((w.alloc (.cells #[.int .i64 0, .int .i64 0, .int .i64 0, .int .i64 0, .int .i64 0, .int .i64 0, .int .u64 0] 26)).alloc (.cells #[.int .i64 0] 27)).alloc (.cells #[.int .i64 0, .int .i64 0, .int .i64 0, .int .i64 0, .int .i64 0, .int .i64 0, .int .u64 0] 47)).alloc (.cells #[.string ⟨#[]⟩] 9) = W0 := ⟨_, rfl⟩
    have P0 : Aside0 (PI w.heap.size (w.heap.size + 1) (w.heap.size + 1 + 1) (w.heap.size + 1 + 1 + 1) w (call0, []) 0 W0) := ⟨by
      rw [← hW0]
      refine ⟨blk_alloc (blk_alloc (blk_alloc (blk_new _ _) _) _) _, blk_alloc (blk_alloc ?_ _) _, blk_alloc ?_ _, ?_, below_alloc (below_alloc (below_alloc (below_alloc (Below.refl _ _) _) _) _) _⟩
      · have h_ := blk_new (w.alloc (.cells #[.int .i64 0, .int .i64 0, .int .i64 0, .int .i64 0, .int .i64 0, .int .i64 0, .int .u64 0] 26)) (.cells #[.int .i64 0] 27); rw [World.size_alloc] at h_; exact h_
      · have h_ := blk_new ((w.alloc (.cells #[.int .i64 0, .int .i64 0, .int .i64 0, .int .i64 0, .int .i64 0, .int .i64 0, .int .u64 0] 26)).alloc (.cells #[.int .i64 0] 27)) (.cells #[.int .i64 0, .int .i64 0, .int .i64 0, .int .i64 0, .int .i64 0, .int .i64 0, .int .u64 0] 47); rw [World.size_alloc, World.size_alloc] at h_; exact h_
      · have h_ := blk_new (((w.alloc (.cells #[.int .i64 0, .int .i64 0, .int .i64 0, .int .i64 0, .int .i64 0, .int .i64 0, .int .u64 0] 26)).alloc (.cells #[.int .i64 0] 27)).alloc (.cells #[.int .i64 0, .int .i64 0, .int .i64 0, .int .i64 0, .int .i64 0, .int .i64 0, .int .u64 0] 47)) (.cells #[.string ⟨#[]⟩] 9); rw [World.size_alloc, World.size_alloc, World.size_alloc] at h_; exact h_⟩
    have hz : W0.heap.size = w.heap.size + 1 + 1 + 1 + 1 := by rw [← hW0]; simp
    have NB : Aside0 (w.heap.size ≤ w.heap.size ∧ w.heap.size < w.heap.size + 1 ∧ w.heap.size + 1 < w.heap.size + 1 + 1 ∧ w.heap.size + 1 + 1 < w.heap.size + 1 + 1 + 1 ∧ w.heap.size + 1 + 1 + 1 < W0.heap.size) := ⟨by omega⟩
    rw [hW0]
    clear hW0 hz
    revert NB P0
    generalize w.heap.size + 1 + 1 + 1 = b3
    generalize w.heap.size + 1 + 1 = b2
    generalize w.heap.size + 1 = b1
    obtain ⟨b0, hb0⟩ : ∃ b0, b0 = w.heap.size := ⟨_, rfl⟩
    rw [show (Value.pointer (some { block := w.heap.size, off := 0 })) = Value.pointer (some ⟨b0, 0, none⟩) from by rw [hb0]]
    intro P0 NB
    rw [← hb0] at P0
    have NB' : Aside0 (w.heap.size ≤ b0 ∧ b0 < b1 ∧ b1 < b2 ∧ b2 < b3 ∧ b3 < W0.heap.size) := ⟨by have h_ := NB.out; omega⟩
    clear NB hb0
    obtain ⟨W1, hW1⟩ : ∃ W1, ((W0.alloc (.cells #[.string s] 9)).alloc (.cells #[.string ⟨#[32]⟩] 9)).alloc (.cells #[.int .i64 0] 3) = W1 := ⟨_, rfl⟩
    have P1 : Aside0 (PI b0 b1 b2 b3 w (call0, []) 0 W1) := ⟨by
      rw [← hW1]
      exact ⟨blk_alloc (blk_alloc (blk_alloc P0.out.k0 _) _) _, blk_alloc (blk_alloc (blk_alloc P0.out.k1 _) _) _, blk_alloc (blk_alloc (blk_alloc P0.out.k2 _) _) _, blk_alloc (blk_alloc (blk_alloc P0.out.k3 _) _) _, below_alloc (below_alloc (below_alloc P0.out.hb _) _) _⟩⟩
    have KS : Aside0 (W1.heap[W0.heap.size]? = some (.cells #[.string s] 9 (0, 0))) := ⟨by rw [← hW1]; exact blk_alloc (blk_alloc (blk_new _ _) _) _⟩
    have KP : Aside0 (W1.heap[W0.heap.size + 1]? = some (.cells #[.string ⟨#[32]⟩] 9 (0, 0))) := ⟨by
      rw [← hW1]; have h_ := blk_new (W0.alloc (.cells #[.string s] 9)) (.cells #[.string ⟨#[32]⟩] 9); rw [World.size_alloc] at h_; exact blk_alloc h_ _⟩
    have KV : Aside0 (W1.heap[W0.heap.size + 1 + 1]? = some (.cells #[.int .i64 0] 3 (0, 0))) := ⟨by
      rw [← hW1]; have h_ := blk_new ((W0.alloc (.cells #[.string s] 9)).alloc (.cells #[.string ⟨#[32]⟩] 9)) (.cells #[.int .i64 0] 3); rw [World.size_alloc, World.size_alloc] at h_; exact h_⟩
    have hz : W1.heap.size = W0.heap.size + 1 + 1 + 1 := by rw [← hW1]; simp
    have NS : Aside0 (w.heap.size ≤ b0 ∧ b0 < b1 ∧ b1 < b2 ∧ b2 < b3 ∧ b3 < W0.heap.size ∧ W0.heap.size < W0.heap.size + 1 ∧ W0.heap.size + 1 < W0.heap.size + 1 + 1 ∧ W0.heap.size + 1 + 1 < W1.heap.size) := ⟨by have h_ := NB'.out; omega⟩
    rw [hW1]
    clear hW1 hz NB' P0
    revert NS KS KP KV
    generalize W0.heap.size + 1 + 1 = Bv
    generalize W0.heap.size + 1 = Bp
    generalize W0.heap.size = Bs
    intro KS KP KV NS
    gi_wp2
    refine wpIn_rangeFunc_ownP (F := Fence.wide) (n := 8) (Bs := Bs) rfl (by omega) (gf := 55) (lb := #[.pointer (some ⟨Bp, 0, none⟩), .pointer (some ⟨Bs, 0, none⟩), .pointer (some ⟨Bv, 0, none⟩)]) rfl trivial (enters_of Tryd.func55 (by kernel_rfl) rfl)
      (encs := fun x : ByteArray => #[Value.string x]) (by have h_ := NS.out; omega) (seq_stops 7 (by omega) Bs Bp Bv (by have h_ := NS.out; omega) (by have h_ := NS.out; omega) s HS.out W1 KS.out KP.out KV.out)
      (fun h k => ⟨keepB_t h.1 k.1, keepB_t h.2.1 k.2.1, keepB_t h.2.2 k.2.2⟩) (fun W l o o' _ hl ho _ => ⟨keepB_put W l o o' hl ho, keepB_put W l o o' hl ho, keepB_put W l o o' hl ho⟩) (Below.refl _ _) (fun _ => rfl)
      (fun pre W => ∃ st, foldP (call0, []) (words pre) = some st ∧ PI b0 b1 b2 b3 w st 0 W)
      (fun d pre W => d = .ret ∧ foldP (call0, []) (words pre) = none ∧ PX b0 b1 w W)
      ?hI ?hIx ?h0 ?hIs ?hIxs (fun x a' W => a' = { tmps := #[.string s, undef, .pointer (some ⟨b0, 0, none⟩), .pointer (some ⟨b1, 0, none⟩), .pointer (some ⟨b2, 0, none⟩), .pointer (some ⟨b3, 0, none⟩), .string x, undef, undef, .string s, .int .i64 (s.size : Int), .bool false, undef, .string s, .func (.func 55) #[] #[.pointer (some ⟨Bp, 0, none⟩), .pointer (some ⟨Bs, 0, none⟩), .pointer (some ⟨Bv, 0, none⟩)], .string x, undef, undef, undef, undef, undef, undef, undef, undef, undef, undef, undef, undef, undef, undef, undef, undef, undef, undef, undef, undef, undef, undef, undef, undef, undef, undef, undef, undef, undef, undef, undef, undef, undef, undef, undef, undef, undef, undef, undef, undef, undef, undef, undef, undef, undef, undef, undef, undef, undef], defers := [] }) ?hAx ?assign ?body ?done ?stop
    case hI =>
      rintro pre A B row ⟨st, hf, hp⟩ hg hr
      have h_ := NS.out
      exact ⟨st, hf, own_blk hp.k0 hg hr (by omega), own_blk hp.k1 hg hr (by omega), own_blk hp.k2 hg hr (by omega), own_blk hp.k3 hg hr (by omega), ownFrom_below (Nat.le_refl _) (show w.heap.size ≤ W1.heap.size by omega) () A B row hp.hb hg hr⟩
    case hIx =>
      rintro c pre A B row ⟨hc, hf, hp⟩ hg hr
      have h_ := NS.out
      exact ⟨hc, hf, own_blk hp.k0 hg hr (by omega), own_blk hp.k1 hg hr (by omega), ownFrom_below (Nat.le_refl _) (show w.heap.size ≤ W1.heap.size by omega) () A B row hp.hb hg hr⟩
    case h0 => exact ⟨_, rfl, P1.out⟩
    case hIs =>
      rintro pre W v ⟨st, hf, hp⟩
      have h_ := NS.out
      exact ⟨st, hf, blk_far hp.k0 (show b0 ≠ Bs by omega) _, blk_far hp.k1 (show b1 ≠ Bs by omega) _, blk_far hp.k2 (show b2 ≠ Bs by omega) _, blk_far hp.k3 (show b3 ≠ Bs by omega) _, below_set hp.hb (show w.heap.size ≤ Bs by omega)⟩
    case hIxs =>
      rintro c pre W v ⟨hc, hf, hp⟩
      have h_ := NS.out
      exact ⟨hc, hf, blk_far hp.k0 (show b0 ≠ Bs by omega) _, blk_far hp.k1 (show b1 ≠ Bs by omega) _, below_set hp.hb (show w.heap.size ≤ Bs by omega)⟩
    case hAx => exact fun x a' => ownFrom_pure _ (fun _ : Unit => a' = _)
    case assign =>
      intro l pre x W K hI hK
      gi_wp2
      exact hK _ _ (KeepsFrom.refl _ _) ⟨fun _ _ _ h => h, fun _ _ _ h => h, fun _ _ _ h => h⟩ hI rfl
    case body =>
      rintro l pre x a' W hl hloop ⟨⟨c, lf⟩, hf, hp⟩ rfl hD
      have hxs : x.size ≤ 4000000000 := by
        obtain ⟨tl, ht⟩ := hD
        have h_ := splitL_le 32 s.data.toList x.data.toList (by rw [← ht]; unfold words; simp)
        rw [← size_list', ← size_list'] at h_
        have h2_ := HS.out
        omega
      have HX := Aside0.mk hxs
      have HP := Aside0.mk hp
      have HF := Aside0.mk hf
      have LW := Aside0.mk (HLd.below hp.hb)
      have zc : W.cell? ⟨b2, 0, none⟩ = some (.int .i64 c.op) := (blk_cell hp.k2 0).trans rfl
      clear hxs hp hf hD hloop hl
      by_cases h0 : c.op = 0
      · have hcl := fold_zero HF.out h0
        simp only [Prod.mk.injEq] at hcl
        obtain ⟨rfl, rfl⟩ := hcl
        replace zc : W.cell? ⟨b2, 0, none⟩ = some (.int .i64 0) := zc
        obtain ⟨ot, orr, ho_⟩ := LW.out.ops
        have HO := Aside0.mk ho_
        obtain ⟨A, hA⟩ : ∃ A : Value, A = .agg opsC := ⟨_, rfl⟩
        have HA := Aside0.mk hA
        clear h0 hA ho_
        gi_wp2_with (first | ((with_reducible refine load_ops HA HO rfl ?_ ?_); (exact rfl)))
        clear zc
        gi_loopw [21] (fun v wr => ∃ k : Nat, k ≤ 14 ∧ v = .int .i64 (k : Int) ∧ Aside0 (PI b0 b1 b2 b3 w (opSt (nameAt k x.data.toList)) 0 wr) ∧ Aside0 (KpS Bs Bp Bv W wr ∧ KeepsFrom W1.heap.size W wr)) (fun v _ => 14 - (intOf v).toNat)
        case atStart => exact ⟨0, by omega, rfl, HP, ⟨⟨fun _ _ _ h => h, fun _ _ _ h => h, fun _ _ _ h => h⟩, KeepsFrom.refl _ _⟩⟩
        case round =>
          obtain ⟨k, hk, rfl, RP, RK⟩ := hrel
          by_cases hlt : k < 14
          · have hix : ∀ W, (Instr.index 49 A (.int .i64 (k : Int))).run Tryd.prog W = .ok (.agg #[.string ⟨(nameL k).toArray⟩, .string ⟨(toldL k).toArray⟩]) W := by rw [HA.out]; exact fun W => ops_index k hlt W
            obtain ⟨nb, hnb⟩ : ∃ nb : ByteArray, nb = ⟨(nameL k).toArray⟩ := ⟨_, rfl⟩
            obtain ⟨tb, htb⟩ : ∃ tb : ByteArray, tb = ⟨(toldL k).toArray⟩ := ⟨_, rfl⟩
            rw [← hnb, ← htb] at hix
            have HK := Aside0.mk hlt
            have TB := Aside0.mk htb
            have NBB := Aside0.mk hnb
            have l0 : ((k : Int) < 14) = True := eq_true (by omega)
            have lw : wrap64 ((k : Int) + 1) = (k : Int) + 1 := by unfold wrap64; omega
            clear htb hnb hk hlt
            by_cases hp : 0 < k
            · by_cases hn : nameL k = x.data.toList
              · have q0 : (nb.toList == x.toList) = true := by rw [ByteArray.toList_eq, ByteArray.toList_eq, NBB.out, beq_iff_eq]; exact hn
                have HH := Aside0.mk (nameAt_hit k HK.out x.data.toList hp hn)
                have HB0 := Aside0.mk (nameAt_before HK.out hn)
                have l1 : (0 < (k : Int)) = True := eq_true (by omega)
                have l2 : (0 < k) = True := eq_true hp
                clear hn hp
                gi_wp2
                have RP2 : Aside0 (PI b0 b1 b2 b3 w (call0, []) 0 (wr.alloc (.cells #[.string nb, .string tb] 48))) := ⟨by have h_ := RP.out; rw [HB0.out] at h_; exact h_.alloc _⟩
                have RK2 : Aside0 (KpS Bs Bp Bv W (wr.alloc (.cells #[.string nb, .string tb] 48)) ∧ KeepsFrom W1.heap.size W (wr.alloc (.cells #[.string nb, .string tb] 48))) := ⟨kps_alloc RK.out.1 _, RK.out.2.trans ((KeepsOthers.alloc _ _).from _)⟩
                have B8 := Aside0.mk (blk_new wr (.cells #[.string nb, .string tb] 48))
                clear RP RK
                generalize wr.alloc (.cells #[.string nb, .string tb] 48) = W2 at RP2 RK2 B8 ⊢
                generalize wr.heap.size = g8 at B8 ⊢
                have N2 := Aside0.mk (blk_ne B8.out RP2.out.k2 (by decide))
                have N3 := Aside0.mk (blk_ne B8.out RP2.out.k3 (by decide))
                have e2 : (g8 = b2) = False := eq_false N2.out
                have e3 : (g8 = b3) = False := eq_false N3.out
                have e23 : (b2 = b3) = False := eq_false (by have h_ := NS.out; omega)
                have y1 : W2.cell? ⟨g8, 1, none⟩ = some (.string tb) := (blk_cell B8.out 1).trans rfl
                have x0 : W2.cell? ⟨b2, 0, none⟩ = some (.int .i64 0) := (blk_cell RP2.out.k2 0).trans rfl
                have f2 := blk_frozen RP2.out.k2 0
                have z3 : W2.cell? ⟨b3, 0, none⟩ = some (.string ⟨#[]⟩) := (blk_cell RP2.out.k3 0).trans rfl
                have f3 := blk_frozen RP2.out.k3 0
                have hm : Tryd.prog.follows .mixedOrders = true := by kernel_rfl
                gi_region_with_o (fail)
                all_goals
                  gi_wp2
                  go_roundw
                  case rel => exact ⟨k + 1, by have := HK.out; omega, by simp [lw], ⟨by rw [HH.out]; exact RP2.out.hit k tb TB.out (by have h_ := NS.out; omega) (by have h_ := NS.out; omega) (by have h_ := NS.out; omega) (by have h_ := NS.out; omega)⟩, ⟨kps_two RK2.out.1 (by have h_ := NS.out; omega) (by have h_ := NS.out; omega), RK2.out.2.trans ((((KeepsOthers.setCell _ _ _).trans (KeepsOthers.setCell _ _ _)).trans (KeepsOthers.drew _)).from _)⟩⟩
                  case measure => exact meas14 k HK.out
              · have q0 : (nb.toList == x.toList) = false := by rw [ByteArray.toList_eq, ByteArray.toList_eq, NBB.out, beq_eq_false_iff_ne]; exact hn
                have HH := Aside0.mk (nameAt_miss k x.data.toList (fun h => hn h.2))
                have l1 : (0 < (k : Int)) = True := eq_true (by omega)
                have l2 : (0 < k) = True := eq_true hp
                clear hn hp
                gi_wp2
                go_roundw
                case rel => exact ⟨k + 1, by have := HK.out; omega, by simp [lw], ⟨by rw [HH.out]; exact RP.out.alloc _⟩, ⟨kps_alloc RK.out.1 _, RK.out.2.trans ((KeepsOthers.alloc _ _).from _)⟩⟩
                case measure => exact meas14 k HK.out
            · have HH := Aside0.mk (nameAt_miss k x.data.toList (fun h => hp h.1))
              have l1 : (0 < (k : Int)) = False := eq_false (by omega)
              have l2 : (0 < k) = False := eq_false hp
              clear hp
              gi_wp2
              go_roundw
              case rel => exact ⟨k + 1, by have := HK.out; omega, by simp [lw], ⟨by rw [HH.out]; exact RP.out.alloc _⟩, ⟨kps_alloc RK.out.1 _, RK.out.2.trans ((KeepsOthers.alloc _ _).from _)⟩⟩
              case measure => exact meas14 k HK.out
          · obtain rfl : k = 14 := by omega
            clear hk hlt
            have l14 : ((((14 : Nat) : Int)) < 14) = False := eq_false (by omega)
            cases ho : opOf x.data.toList with
            | none =>
              have hR := RP.out
              rw [nameAt_all, ho] at hR
              have RP3 := Aside0.mk hR
              have HN : Aside0 (foldP (call0, []) (words (pre ++ [x])) = none) := ⟨by
                rw [words_snoc, foldP_snoc x.data.toList HF.out, stepP_zero rfl, ho]; rfl⟩
              have ne01 : (b0 = b1) = False := eq_false (by have h_ := NS.out; omega)
              have ne10 : (b1 = b0) = False := eq_false (by have h_ := NS.out; omega)
              have z0 : wr.cell? ⟨b0, 0, none⟩ = some (.int .i64 0) := (blk_cell hR.k0 0).trans rfl
              have f0 := blk_frozen hR.k0 0
              have z1 : wr.cell? ⟨b0, 1, none⟩ = some (.int .i64 0) := (blk_cell hR.k0 1).trans rfl
              have f1 := blk_frozen hR.k0 1
              have z2 : wr.cell? ⟨b0, 2, none⟩ = some (.int .i64 0) := (blk_cell hR.k0 2).trans rfl
              have f2 := blk_frozen hR.k0 2
              have z3 : wr.cell? ⟨b0, 3, none⟩ = some (.int .i64 0) := (blk_cell hR.k0 3).trans rfl
              have f3 := blk_frozen hR.k0 3
              have z4 : wr.cell? ⟨b0, 4, none⟩ = some (.int .i64 0) := (blk_cell hR.k0 4).trans rfl
              have f4 := blk_frozen hR.k0 4
              have z5 : wr.cell? ⟨b0, 5, none⟩ = some (.int .i64 0) := (blk_cell hR.k0 5).trans rfl
              have f5 := blk_frozen hR.k0 5
              have z6 : wr.cell? ⟨b0, 6, none⟩ = some (.int .u64 0) := (blk_cell hR.k0 6).trans rfl
              have f6 := blk_frozen hR.k0 6
              have u0 : wr.cell? ⟨b1, 0, none⟩ = some (.int .i64 0) := (blk_cell hR.k1 0).trans rfl
              have g0 := blk_frozen hR.k1 0
              have x0 : wr.cell? ⟨b2, 0, none⟩ = some (.int .i64 0) := (blk_cell hR.k2 0).trans rfl
              clear hR RP ho
              gi_wp2
              have hq := px_set (B := W1.heap.size) RP3.out (by have h_ := NS.out; omega) (by have h_ := NS.out; omega) (by have h_ := NS.out; omega) _ rfl
              exact ⟨RK.out.2.trans hq.2, rfl, HN.out, hq.1⟩
            | some j =>
              have hR := RP.out
              rw [nameAt_all, ho] at hR
              have RP3 := Aside0.mk hR
              have HN : Aside0 (foldP (call0, []) (words (pre ++ [x])) = some (opSt (some j))) := ⟨by
                rw [words_snoc, foldP_snoc x.data.toList HF.out, stepP_zero rfl, ho]; rfl⟩
              have x0 : wr.cell? ⟨b2, 0, none⟩ = some (.int .i64 (j : Int)) := (blk_cell hR.k2 0).trans rfl
              have hj : 0 < j := (nameAt_some ((nameAt_all _).trans ho)).1
              have j0 : ((j : Int) == 0) = false := by rw [beq_eq_false_iff_ne]; omega
              have j1 : ((j : Int) = 0) = False := eq_false (by omega)
              have j2 : (j = 0) = False := eq_false (by omega)
              clear hR RP ho hj
              gi_wp2
              exact ⟨RK.out.2, RK.out.1, ⟨_, HN.out, RP3.out⟩⟩
      · have c0 : (c.op == 0) = false := by rw [beq_eq_false_iff_ne]; exact h0
        have c1 : (c.op = 0) = False := eq_false h0
        have hm : Tryd.prog.follows .mixedOrders = true := by kernel_rfl
        cases lf with
        | nil =>
          have HN : Aside0 (foldP (call0, []) (words (pre ++ [x])) = none) := ⟨by rw [words_snoc, foldP_snoc x.data.toList HF.out]; exact stepP_nil h0⟩
          have ne01 : (b0 = b1) = False := eq_false (by have h_ := NS.out; omega)
          have ne10 : (b1 = b0) = False := eq_false (by have h_ := NS.out; omega)
          have PD := Aside0.mk HP.out.drew
          have KF : Aside0 (KeepsFrom W1.heap.size W W.drew) := ⟨(KeepsOthers.drew W).from _⟩
          have y0 : W.drew.cell? ⟨b3, 0, none⟩ = some (.string ⟨#[]⟩) := (blk_cell PD.out.k3 0).trans rfl
          clear h0
          gi_wp2
          refine round_region_held (S := (fun w' => w'.cell? ⟨b3, 0, none⟩ = some (.string ⟨#[]⟩))) (by kernel_rfl) (by kernel_rfl) (by rintro ⟨a_, w_, h_⟩; exact h_) ?_ (fun hHeld => ?_)
          · exact y0
          refine wpAnyH_take (i := 0) (oi := { dst := some 44, op := Go.Op.load 9 (Go.Operand.tmp 5), type := 9, pos := "calls.go:161", after := #[], guard := none }) (v := ?_) rfl (by kernel_rfl) (by kernel_rfl) (by kernel_rfl) (fun _ _ _ h => h) (Or.inl ⟨by rfl, ?_⟩) (by assumption) ?_
          rotate_left
          · intro w_ hSw; (try dsimp only at hSw); go_simp; (try with_reducible rfl)
          try simp only [Act.put, List.setIfInBounds_toArray, List.set_cons_zero, List.set_cons_succ]
          refine wpAnyH_take (i := 1) (oi := { dst := some 45, op := Go.Op.binOp Go.BinOp.eql 9 (Go.Operand.tmp 44) (Go.Operand.const (Go.Value.string { data := #[] })) 9, type := 4, pos := "calls.go:161", after := #[{ on := 0, ground := Go.Ground.data }], guard := none }) (v := ?_) rfl (by kernel_rfl) (by kernel_rfl) (by kernel_rfl) (fun _ _ _ h => h) (Or.inl ⟨by rfl, ?_⟩) (by assumption) ?_
          rotate_left
          · intro w_ hSw; (try dsimp only at hSw); go_simp; (try with_reducible rfl)
          try simp only [Act.put, List.setIfInBounds_toArray, List.set_cons_zero, List.set_cons_succ]
          refine wpAnyH_take (i := 2) (oi := { dst := some 46, op := Go.Op.move (Go.Operand.tmp 45), type := 4, pos := "calls.go:161", after := #[{ on := 1, ground := Go.Ground.data }], guard := none }) (v := ?_) rfl (by kernel_rfl) (by kernel_rfl) (by kernel_rfl) (fun _ _ _ h => h) (Or.inl ⟨by rfl, ?_⟩) (by assumption) ?_
          rotate_left
          · intro w_ hSw; (try dsimp only at hSw); go_simp; (try with_reducible rfl)
          try simp only [Act.put, List.setIfInBounds_toArray, List.set_cons_zero, List.set_cons_succ]
          refine wpAnyH_take (i := 3) (oi := { dst := some 47, op := Go.Op.load 56 (Go.Operand.global 1), type := 56, pos := "calls.go:161", after := #[{ on := 2, ground := Go.Ground.guard }], guard := some (2, false) }) (v := undef) rfl (by kernel_rfl) (by kernel_rfl) (by kernel_rfl) (fun _ _ _ h => h) (Or.inr ⟨by rfl, rfl⟩) (by assumption) ?_
          try simp only [Act.put, List.setIfInBounds_toArray, List.set_cons_zero, List.set_cons_succ]
          refine wpAnyH_take (i := 4) (oi := { dst := some 48, op := Go.Op.load 9 (Go.Operand.tmp 5), type := 9, pos := "calls.go:161", after := #[{ on := 2, ground := Go.Ground.guard }], guard := some (2, false) }) (v := undef) rfl (by kernel_rfl) (by kernel_rfl) (by kernel_rfl) (fun _ _ _ h => h) (Or.inr ⟨by rfl, rfl⟩) (by assumption) ?_
          try simp only [Act.put, List.setIfInBounds_toArray, List.set_cons_zero, List.set_cons_succ]
          refine wpAnyH_take (i := 5) (oi := { dst := some 49, op := Go.Op.index 9 (Go.Operand.tmp 48) (Go.Operand.const (Go.Value.int Go.IntKind.i64 0)), type := 5, pos := "calls.go:161", after := #[{ on := 4, ground := Go.Ground.data }, { on := 2, ground := Go.Ground.guard }], guard := some (2, false) }) (v := undef) rfl (by kernel_rfl) (by kernel_rfl) (by kernel_rfl) (fun _ _ _ h => h) (Or.inr ⟨by rfl, rfl⟩) (by assumption) ?_
          try simp only [Act.put, List.setIfInBounds_toArray, List.set_cons_zero, List.set_cons_succ]
          refine wpAnyH_take (i := 6) (oi := { dst := some 50, op := Go.Op.convert 5 21 (Go.Operand.tmp 49), type := 21, pos := "calls.go:161", after := #[{ on := 5, ground := Go.Ground.data }, { on := 2, ground := Go.Ground.guard }], guard := some (2, false) }) (v := undef) rfl (by kernel_rfl) (by kernel_rfl) (by kernel_rfl) (fun _ _ _ h => h) (Or.inr ⟨by rfl, rfl⟩) (by assumption) ?_
          try simp only [Act.put, List.setIfInBounds_toArray, List.set_cons_zero, List.set_cons_succ]
          refine wpAnyH_take (i := 7) (oi := { dst := some 51, op := Go.Op.lookup 56 (Go.Operand.tmp 47) (Go.Operand.tmp 50) false, type := 55, pos := "calls.go:161", after := #[{ on := 3, ground := Go.Ground.data }, { on := 6, ground := Go.Ground.data }, { on := 2, ground := Go.Ground.guard }], guard := some (2, false) }) (v := undef) rfl (by kernel_rfl) (by kernel_rfl) (by kernel_rfl) (fun _ _ _ h => h) (Or.inr ⟨by rfl, rfl⟩) (by assumption) ?_
          try simp only [Act.put, List.setIfInBounds_toArray, List.set_cons_zero, List.set_cons_succ]
          refine wpAnyH_take (i := 8) (oi := { dst := some 52, op := Go.Op.field 55 (Go.Operand.tmp 51) 1, type := 53, pos := "calls.go:161", after := #[{ on := 7, ground := Go.Ground.data }, { on := 2, ground := Go.Ground.guard }], guard := some (2, false) }) (v := undef) rfl (by kernel_rfl) (by kernel_rfl) (by kernel_rfl) (fun _ _ _ h => h) (Or.inr ⟨by rfl, rfl⟩) (by assumption) ?_
          try simp only [Act.put, List.setIfInBounds_toArray, List.set_cons_zero, List.set_cons_succ]
          refine wpAnyH_take (i := 9) (oi := { dst := some 53, op := Go.Op.move (Go.Operand.tmp 6), type := 9, pos := "calls.go:161", after := #[{ on := 2, ground := Go.Ground.guard }], guard := some (2, false) }) (v := undef) rfl (by kernel_rfl) (by kernel_rfl) (by kernel_rfl) (fun _ _ _ h => h) (Or.inr ⟨by rfl, rfl⟩) (by assumption) ?_
          try simp only [Act.put, List.setIfInBounds_toArray, List.set_cons_zero, List.set_cons_succ]
          refine wpAnyH_take (i := 10) (oi := { dst := some 54, op := Go.Op.call { callee := Go.Callee.value (Go.Operand.tmp 52), args := #[Go.Operand.tmp 4, Go.Operand.tmp 53], argTypes := #[57, 9] }, type := 4, pos := "calls.go:161", after := #[{ on := 8, ground := Go.Ground.data }, { on := 9, ground := Go.Ground.data }, { on := 2, ground := Go.Ground.chain }, { on := 2, ground := Go.Ground.guard }], guard := some (2, false) }) (v := undef) rfl (by kernel_rfl) (by kernel_rfl) (by kernel_rfl) (fun _ _ _ h => h) (Or.inr ⟨by rfl, rfl⟩) (by assumption) ?_
          try simp only [Act.put, List.setIfInBounds_toArray, List.set_cons_zero, List.set_cons_succ]
          refine wpAnyH_take (i := 11) (oi := { dst := some 55, op := Go.Op.unOp Go.UnOp.not 4 (Go.Operand.tmp 54), type := 4, pos := "calls.go:161", after := #[{ on := 10, ground := Go.Ground.data }, { on := 2, ground := Go.Ground.guard }], guard := some (2, false) }) (v := undef) rfl (by kernel_rfl) (by kernel_rfl) (by kernel_rfl) (fun _ _ _ h => h) (Or.inr ⟨by rfl, rfl⟩) (by assumption) ?_
          try simp only [Act.put, List.setIfInBounds_toArray, List.set_cons_zero, List.set_cons_succ]
          refine wpAnyH_take (i := 12) (oi := { dst := some 56, op := Go.Op.pick (Go.Operand.tmp 46) (Go.Operand.const (Go.Value.bool true)) (Go.Operand.tmp 55), type := 4, pos := "calls.go:161", after := #[{ on := 2, ground := Go.Ground.data }, { on := 11, ground := Go.Ground.data }], guard := none }) (v := ?_) rfl (by kernel_rfl) (by kernel_rfl) (by kernel_rfl) (fun _ _ _ h => h) (Or.inl ⟨by rfl, ?_⟩) (by assumption) ?_
          rotate_left
          · intro w_ hSw; (try dsimp only at hSw); go_simp; (try with_reducible rfl)
          try simp only [Act.put, List.setIfInBounds_toArray, List.set_cons_zero, List.set_cons_succ]
          refine wpAnyH_done (by kernel_rfl) ?_ _
          clear hHeld y0
          generalize W.drew = w3 at PD KF ⊢
          have z0 : w3.cell? ⟨b0, 0, none⟩ = some (.int .i64 0) := (blk_cell PD.out.k0 0).trans rfl
          have f0 := blk_frozen PD.out.k0 0
          have z1 : w3.cell? ⟨b0, 1, none⟩ = some (.int .i64 0) := (blk_cell PD.out.k0 1).trans rfl
          have f1 := blk_frozen PD.out.k0 1
          have z2 : w3.cell? ⟨b0, 2, none⟩ = some (.int .i64 0) := (blk_cell PD.out.k0 2).trans rfl
          have f2 := blk_frozen PD.out.k0 2
          have z3 : w3.cell? ⟨b0, 3, none⟩ = some (.int .i64 0) := (blk_cell PD.out.k0 3).trans rfl
          have f3 := blk_frozen PD.out.k0 3
          have z4 : w3.cell? ⟨b0, 4, none⟩ = some (.int .i64 0) := (blk_cell PD.out.k0 4).trans rfl
          have f4 := blk_frozen PD.out.k0 4
          have z5 : w3.cell? ⟨b0, 5, none⟩ = some (.int .i64 0) := (blk_cell PD.out.k0 5).trans rfl
          have f5 := blk_frozen PD.out.k0 5
          have z6 : w3.cell? ⟨b0, 6, none⟩ = some (.int .u64 0) := (blk_cell PD.out.k0 6).trans rfl
          have f6 := blk_frozen PD.out.k0 6
          have u0 : w3.cell? ⟨b1, 0, none⟩ = some (.int .i64 0) := (blk_cell PD.out.k1 0).trans rfl
          have g0 := blk_frozen PD.out.k1 0
          gi_wp2
          have hq := px_set (B := W1.heap.size) PD.out (by have h_ := NS.out; omega) (by have h_ := NS.out; omega) (by have h_ := NS.out; omega) _ rfl
          exact ⟨KF.out.trans hq.2, rfl, HN.out, hq.1⟩
        | cons k ks =>
          have HLt : isLet k := by
            rcases fold_good HF.out with ⟨_, h_⟩ | ⟨_, _, kk, dn, h_⟩
            · cases h_
            · exact told_let (kn := kk.val + 1) ⟨by omega, by have := kk.isLt; omega⟩ h_
          obtain ⟨bm, o, hb1_, hb2_, hF_⟩ := HLd.fld
          have hb1 := Aside0.mk hb1_
          have hb2 := Aside0.mk hb2_
          have hF := Aside0.mk hF_
          have PD := Aside0.mk HP.out.drew
          clear hb1_ hb2_ hF_
          obtain ⟨tb, htb⟩ : ∃ tb : ByteArray, tb = ⟨(k :: ks).toArray⟩ := ⟨_, rfl⟩
          have e0 : tb.toList.isEmpty = false := by rw [htb, ByteArray.toList_eq]; rfl
          have e1 : (tb.toList == []) = false := by rw [htb, ByteArray.toList_eq]; rfl
          have l1 : 1 ≤ tb.size := by rw [htb, size_list']; simp
          have TB := Aside0.mk htb
          have ne01 : (b0 = b1) = False := eq_false (by have h_ := NS.out; omega)
          have ne10 : (b1 = b0) = False := eq_false (by have h_ := NS.out; omega)
          clear htb
          cases hr : readF k c x.data.toList with
          | none =>
            rcases HLt with rfl | rfl | rfl | rfl | rfl
            · have hlet : isLet (110 : UInt8) := .inl rfl
              have hi0 : ∀ W, (Instr.index 9 (.string tb) (.int .i64 0)).run Tryd.prog W = .ok (.int .u8 110) W := by rw [TB.out]; exact idx0 110 ks
              have hwr : IntKind.i32.wrap 110 = 110 := by rfl
              have hf1 : ∀ W : World, (Instr.field 55 (Value.agg #[.func (.func 121) #[] #[], .func (.func 122) #[] #[]]) 1).run Tryd.prog W = .ok (.func (.func 122) #[] #[]) W := fun W => by kernel_rfl
              have HN : Aside0 (foldP (call0, []) (words (pre ++ [x])) = none) := ⟨by rw [words_snoc, foldP_snoc x.data.toList HF.out, stepP_cons h0, hr]; rfl⟩
              have HR := Aside0.mk hr
              clear h0 hr
              gi_wp2
              refine round_region_held (S := (fun w' => w'.cell? ⟨b3, 0, none⟩ = some (.string tb) ∧ w'.cell? ⟨1, 0, none⟩ = some (.map (some bm)) ∧ (Instr.lookup 56 (.map (some bm)) (.int .i32 110) false).run Tryd.prog w' = .ok (.agg #[.func (.func 121) #[] #[], .func (.func 122) #[] #[]]) w')) (by kernel_rfl) (by kernel_rfl) (by rintro ⟨a_, w_, h_⟩; exact h_) ?_ (fun hHeld => ?_)
              · exact ⟨(blk_cell PD.out.k3 0).trans (by rw [TB.out]; rfl), pw_cell_below PD.out.hb hb1.out, hF.out 110 hlet _ (blk_below hb2.out PD.out.hb)⟩
              refine wpAnyH_take (i := 0) (oi := { dst := some 44, op := Go.Op.load 9 (Go.Operand.tmp 5), type := 9, pos := "calls.go:161", after := #[], guard := none }) (v := ?_) rfl (by kernel_rfl) (by kernel_rfl) (by kernel_rfl) (fun _ _ _ h => h) (Or.inl ⟨by rfl, ?_⟩) (by assumption) ?_
              rotate_left
              · intro w_ hSw; (try dsimp only at hSw); go_simp; (try with_reducible rfl)
              try simp only [Act.put, List.setIfInBounds_toArray, List.set_cons_zero, List.set_cons_succ]
              refine wpAnyH_take (i := 1) (oi := { dst := some 45, op := Go.Op.binOp Go.BinOp.eql 9 (Go.Operand.tmp 44) (Go.Operand.const (Go.Value.string { data := #[] })) 9, type := 4, pos := "calls.go:161", after := #[{ on := 0, ground := Go.Ground.data }], guard := none }) (v := ?_) rfl (by kernel_rfl) (by kernel_rfl) (by kernel_rfl) (fun _ _ _ h => h) (Or.inl ⟨by rfl, ?_⟩) (by assumption) ?_
              rotate_left
              · intro w_ hSw; (try dsimp only at hSw); go_simp; (try with_reducible rfl)
              try simp only [Act.put, List.setIfInBounds_toArray, List.set_cons_zero, List.set_cons_succ]
              refine wpAnyH_take (i := 2) (oi := { dst := some 46, op := Go.Op.move (Go.Operand.tmp 45), type := 4, pos := "calls.go:161", after := #[{ on := 1, ground := Go.Ground.data }], guard := none }) (v := ?_) rfl (by kernel_rfl) (by kernel_rfl) (by kernel_rfl) (fun _ _ _ h => h) (Or.inl ⟨by rfl, ?_⟩) (by assumption) ?_
              rotate_left
              · intro w_ hSw; (try dsimp only at hSw); go_simp; (try with_reducible rfl)
              try simp only [Act.put, List.setIfInBounds_toArray, List.set_cons_zero, List.set_cons_succ]
              refine wpAnyH_take (i := 3) (oi := { dst := some 47, op := Go.Op.load 56 (Go.Operand.global 1), type := 56, pos := "calls.go:161", after := #[{ on := 2, ground := Go.Ground.guard }], guard := some (2, false) }) (v := ?_) rfl (by kernel_rfl) (by kernel_rfl) (by kernel_rfl) (fun _ _ _ h => h) (Or.inl ⟨by rfl, ?_⟩) (by assumption) ?_
              rotate_left
              · intro w_ hSw; (try dsimp only at hSw); go_simp; (try with_reducible rfl)
              try simp only [Act.put, List.setIfInBounds_toArray, List.set_cons_zero, List.set_cons_succ]
              refine wpAnyH_take (i := 4) (oi := { dst := some 48, op := Go.Op.load 9 (Go.Operand.tmp 5), type := 9, pos := "calls.go:161", after := #[{ on := 2, ground := Go.Ground.guard }], guard := some (2, false) }) (v := ?_) rfl (by kernel_rfl) (by kernel_rfl) (by kernel_rfl) (fun _ _ _ h => h) (Or.inl ⟨by rfl, ?_⟩) (by assumption) ?_
              rotate_left
              · intro w_ hSw; (try dsimp only at hSw); go_simp; (try with_reducible rfl)
              try simp only [Act.put, List.setIfInBounds_toArray, List.set_cons_zero, List.set_cons_succ]
              refine wpAnyH_take (i := 5) (oi := { dst := some 49, op := Go.Op.index 9 (Go.Operand.tmp 48) (Go.Operand.const (Go.Value.int Go.IntKind.i64 0)), type := 5, pos := "calls.go:161", after := #[{ on := 4, ground := Go.Ground.data }, { on := 2, ground := Go.Ground.guard }], guard := some (2, false) }) (v := ?_) rfl (by kernel_rfl) (by kernel_rfl) (by kernel_rfl) (fun _ _ _ h => h) (Or.inl ⟨by rfl, ?_⟩) (by assumption) ?_
              rotate_left
              · intro w_ hSw; (try dsimp only at hSw); go_simp; (try with_reducible rfl)
              try simp only [Act.put, List.setIfInBounds_toArray, List.set_cons_zero, List.set_cons_succ]
              refine wpAnyH_take (i := 6) (oi := { dst := some 50, op := Go.Op.convert 5 21 (Go.Operand.tmp 49), type := 21, pos := "calls.go:161", after := #[{ on := 5, ground := Go.Ground.data }, { on := 2, ground := Go.Ground.guard }], guard := some (2, false) }) (v := ?_) rfl (by kernel_rfl) (by kernel_rfl) (by kernel_rfl) (fun _ _ _ h => h) (Or.inl ⟨by rfl, ?_⟩) (by assumption) ?_
              rotate_left
              · intro w_ hSw; (try dsimp only at hSw); go_simp; (try with_reducible rfl)
              try simp only [Act.put, List.setIfInBounds_toArray, List.set_cons_zero, List.set_cons_succ]
              refine wpAnyH_take (i := 7) (oi := { dst := some 51, op := Go.Op.lookup 56 (Go.Operand.tmp 47) (Go.Operand.tmp 50) false, type := 55, pos := "calls.go:161", after := #[{ on := 3, ground := Go.Ground.data }, { on := 6, ground := Go.Ground.data }, { on := 2, ground := Go.Ground.guard }], guard := some (2, false) }) (v := ?_) rfl (by kernel_rfl) (by kernel_rfl) (by kernel_rfl) (fun _ _ _ h => h) (Or.inl ⟨by rfl, ?_⟩) (by assumption) ?_
              rotate_left
              · intro w_ hSw; (try dsimp only at hSw); go_simp; (try with_reducible rfl)
              try simp only [Act.put, List.setIfInBounds_toArray, List.set_cons_zero, List.set_cons_succ]
              refine wpAnyH_take (i := 8) (oi := { dst := some 52, op := Go.Op.field 55 (Go.Operand.tmp 51) 1, type := 53, pos := "calls.go:161", after := #[{ on := 7, ground := Go.Ground.data }, { on := 2, ground := Go.Ground.guard }], guard := some (2, false) }) (v := ?_) rfl (by kernel_rfl) (by kernel_rfl) (by kernel_rfl) (fun _ _ _ h => h) (Or.inl ⟨by rfl, ?_⟩) (by assumption) ?_
              rotate_left
              · intro w_ hSw; (try dsimp only at hSw); go_simp; (try with_reducible rfl)
              try simp only [Act.put, List.setIfInBounds_toArray, List.set_cons_zero, List.set_cons_succ]
              refine wpAnyH_take (i := 9) (oi := { dst := some 53, op := Go.Op.move (Go.Operand.tmp 6), type := 9, pos := "calls.go:161", after := #[{ on := 2, ground := Go.Ground.guard }], guard := some (2, false) }) (v := ?_) rfl (by kernel_rfl) (by kernel_rfl) (by kernel_rfl) (fun _ _ _ h => h) (Or.inl ⟨by rfl, ?_⟩) (by assumption) ?_
              rotate_left
              · intro w_ hSw; (try dsimp only at hSw); go_simp; (try with_reducible rfl)
              try simp only [Act.put, List.setIfInBounds_toArray, List.set_cons_zero, List.set_cons_succ]
              refine wpAnyH_ready (rs := [10]) (by kernel_rfl) (by simp) ?_
              refine AllReadyH.cons rfl (fun K hK => ?_) AllReadyH.nil
              go_simp
              go_at_call 122; refine (read_at (k := 110) (f := 122) rfl hlet b2 c x HX.out W.drew (HLd.below PD.out.hb) PD.out.k2).mono ?_; rintro e w3 ⟨c', he, hk, hv, hg⟩; rw [HR.out] at he; subst he; have PR := Aside0.mk (PD.out.read hg hk (by have h_ := NS.out; omega) (by have h_ := NS.out; omega)); have KK : Aside0 (KpS Bs Bp Bv W w3) := ⟨kps_read (A := W) (W := W.drew) ⟨fun _ _ _ h => h, fun _ _ _ h => h, fun _ _ _ h => h⟩ hg (by have h_ := NS.out; omega)⟩; have KF : Aside0 (KeepsFrom W1.heap.size W w3) := ⟨((KeepsOthers.drew W).from _).trans (KeepsFrom.of_grownBy hg (fun j e => by cases e; have h_ := NS.out; omega))⟩; clear hk hv hg; simp only [Option.isSome_some, Option.isSome_none]
              go_wp2_with fail
              refine hK.out _ _ ?_ (fun hHeld => ?_)
              · exact ⟨(blk_cell PR.out.k3 0).trans (by rw [TB.out]; rfl), pw_cell_below PR.out.hb hb1.out, hF.out 110 hlet _ (blk_below hb2.out PR.out.hb)⟩
              clear hK K
              try simp only [Act.put, List.setIfInBounds_toArray, List.set_cons_zero, List.set_cons_succ]
              refine wpAnyH_take (i := 11) (oi := { dst := some 55, op := Go.Op.unOp Go.UnOp.not 4 (Go.Operand.tmp 54), type := 4, pos := "calls.go:161", after := #[{ on := 10, ground := Go.Ground.data }, { on := 2, ground := Go.Ground.guard }], guard := some (2, false) }) (v := ?_) rfl (by kernel_rfl) (by kernel_rfl) (by kernel_rfl) (fun _ _ _ h => h) (Or.inl ⟨by rfl, ?_⟩) (by assumption) ?_
              rotate_left
              · intro w_ hSw; (try dsimp only at hSw); go_simp; (try with_reducible rfl)
              try simp only [Act.put, List.setIfInBounds_toArray, List.set_cons_zero, List.set_cons_succ]
              refine wpAnyH_take (i := 12) (oi := { dst := some 56, op := Go.Op.pick (Go.Operand.tmp 46) (Go.Operand.const (Go.Value.bool true)) (Go.Operand.tmp 55), type := 4, pos := "calls.go:161", after := #[{ on := 2, ground := Go.Ground.data }, { on := 11, ground := Go.Ground.data }], guard := none }) (v := ?_) rfl (by kernel_rfl) (by kernel_rfl) (by kernel_rfl) (fun _ _ _ h => h) (Or.inl ⟨by rfl, ?_⟩) (by assumption) ?_
              rotate_left
              · intro w_ hSw; (try dsimp only at hSw); go_simp; (try with_reducible rfl)
              try simp only [Act.put, List.setIfInBounds_toArray, List.set_cons_zero, List.set_cons_succ]
              refine wpAnyH_done (by kernel_rfl) ?_ _
              have z0 : w3.cell? ⟨b0, 0, none⟩ = some (.int .i64 0) := (blk_cell PR.out.k0 0).trans rfl
              have f0 := blk_frozen PR.out.k0 0
              have z1 : w3.cell? ⟨b0, 1, none⟩ = some (.int .i64 0) := (blk_cell PR.out.k0 1).trans rfl
              have f1 := blk_frozen PR.out.k0 1
              have z2 : w3.cell? ⟨b0, 2, none⟩ = some (.int .i64 0) := (blk_cell PR.out.k0 2).trans rfl
              have f2 := blk_frozen PR.out.k0 2
              have z3 : w3.cell? ⟨b0, 3, none⟩ = some (.int .i64 0) := (blk_cell PR.out.k0 3).trans rfl
              have f3 := blk_frozen PR.out.k0 3
              have z4 : w3.cell? ⟨b0, 4, none⟩ = some (.int .i64 0) := (blk_cell PR.out.k0 4).trans rfl
              have f4 := blk_frozen PR.out.k0 4
              have z5 : w3.cell? ⟨b0, 5, none⟩ = some (.int .i64 0) := (blk_cell PR.out.k0 5).trans rfl
              have f5 := blk_frozen PR.out.k0 5
              have z6 : w3.cell? ⟨b0, 6, none⟩ = some (.int .u64 0) := (blk_cell PR.out.k0 6).trans rfl
              have f6 := blk_frozen PR.out.k0 6
              have u0 : w3.cell? ⟨b1, 0, none⟩ = some (.int .i64 0) := (blk_cell PR.out.k1 0).trans rfl
              have g0 := blk_frozen PR.out.k1 0
              gi_wp2
              have hq := px_set (B := W1.heap.size) PR.out (by have h_ := NS.out; omega) (by have h_ := NS.out; omega) (by have h_ := NS.out; omega) _ rfl
              exact ⟨KF.out.trans hq.2, rfl, HN.out, hq.1⟩
            · have hlet : isLet (109 : UInt8) := .inr (.inl rfl)
              have hi0 : ∀ W, (Instr.index 9 (.string tb) (.int .i64 0)).run Tryd.prog W = .ok (.int .u8 109) W := by rw [TB.out]; exact idx0 109 ks
              have hwr : IntKind.i32.wrap 109 = 109 := by rfl
              have hf1 : ∀ W : World, (Instr.field 55 (Value.agg #[.func (.func 123) #[] #[], .func (.func 124) #[] #[]]) 1).run Tryd.prog W = .ok (.func (.func 124) #[] #[]) W := fun W => by kernel_rfl
              have HN : Aside0 (foldP (call0, []) (words (pre ++ [x])) = none) := ⟨by rw [words_snoc, foldP_snoc x.data.toList HF.out, stepP_cons h0, hr]; rfl⟩
              have HR := Aside0.mk hr
              clear h0 hr
              gi_wp2
              refine round_region_held (S := (fun w' => w'.cell? ⟨b3, 0, none⟩ = some (.string tb) ∧ w'.cell? ⟨1, 0, none⟩ = some (.map (some bm)) ∧ (Instr.lookup 56 (.map (some bm)) (.int .i32 109) false).run Tryd.prog w' = .ok (.agg #[.func (.func 123) #[] #[], .func (.func 124) #[] #[]]) w')) (by kernel_rfl) (by kernel_rfl) (by rintro ⟨a_, w_, h_⟩; exact h_) ?_ (fun hHeld => ?_)
              · exact ⟨(blk_cell PD.out.k3 0).trans (by rw [TB.out]; rfl), pw_cell_below PD.out.hb hb1.out, hF.out 109 hlet _ (blk_below hb2.out PD.out.hb)⟩
              refine wpAnyH_take (i := 0) (oi := { dst := some 44, op := Go.Op.load 9 (Go.Operand.tmp 5), type := 9, pos := "calls.go:161", after := #[], guard := none }) (v := ?_) rfl (by kernel_rfl) (by kernel_rfl) (by kernel_rfl) (fun _ _ _ h => h) (Or.inl ⟨by rfl, ?_⟩) (by assumption) ?_
              rotate_left
              · intro w_ hSw; (try dsimp only at hSw); go_simp; (try with_reducible rfl)
              try simp only [Act.put, List.setIfInBounds_toArray, List.set_cons_zero, List.set_cons_succ]
              refine wpAnyH_take (i := 1) (oi := { dst := some 45, op := Go.Op.binOp Go.BinOp.eql 9 (Go.Operand.tmp 44) (Go.Operand.const (Go.Value.string { data := #[] })) 9, type := 4, pos := "calls.go:161", after := #[{ on := 0, ground := Go.Ground.data }], guard := none }) (v := ?_) rfl (by kernel_rfl) (by kernel_rfl) (by kernel_rfl) (fun _ _ _ h => h) (Or.inl ⟨by rfl, ?_⟩) (by assumption) ?_
              rotate_left
              · intro w_ hSw; (try dsimp only at hSw); go_simp; (try with_reducible rfl)
              try simp only [Act.put, List.setIfInBounds_toArray, List.set_cons_zero, List.set_cons_succ]
              refine wpAnyH_take (i := 2) (oi := { dst := some 46, op := Go.Op.move (Go.Operand.tmp 45), type := 4, pos := "calls.go:161", after := #[{ on := 1, ground := Go.Ground.data }], guard := none }) (v := ?_) rfl (by kernel_rfl) (by kernel_rfl) (by kernel_rfl) (fun _ _ _ h => h) (Or.inl ⟨by rfl, ?_⟩) (by assumption) ?_
              rotate_left
              · intro w_ hSw; (try dsimp only at hSw); go_simp; (try with_reducible rfl)
              try simp only [Act.put, List.setIfInBounds_toArray, List.set_cons_zero, List.set_cons_succ]
              refine wpAnyH_take (i := 3) (oi := { dst := some 47, op := Go.Op.load 56 (Go.Operand.global 1), type := 56, pos := "calls.go:161", after := #[{ on := 2, ground := Go.Ground.guard }], guard := some (2, false) }) (v := ?_) rfl (by kernel_rfl) (by kernel_rfl) (by kernel_rfl) (fun _ _ _ h => h) (Or.inl ⟨by rfl, ?_⟩) (by assumption) ?_
              rotate_left
              · intro w_ hSw; (try dsimp only at hSw); go_simp; (try with_reducible rfl)
              try simp only [Act.put, List.setIfInBounds_toArray, List.set_cons_zero, List.set_cons_succ]
              refine wpAnyH_take (i := 4) (oi := { dst := some 48, op := Go.Op.load 9 (Go.Operand.tmp 5), type := 9, pos := "calls.go:161", after := #[{ on := 2, ground := Go.Ground.guard }], guard := some (2, false) }) (v := ?_) rfl (by kernel_rfl) (by kernel_rfl) (by kernel_rfl) (fun _ _ _ h => h) (Or.inl ⟨by rfl, ?_⟩) (by assumption) ?_
              rotate_left
              · intro w_ hSw; (try dsimp only at hSw); go_simp; (try with_reducible rfl)
              try simp only [Act.put, List.setIfInBounds_toArray, List.set_cons_zero, List.set_cons_succ]
              refine wpAnyH_take (i := 5) (oi := { dst := some 49, op := Go.Op.index 9 (Go.Operand.tmp 48) (Go.Operand.const (Go.Value.int Go.IntKind.i64 0)), type := 5, pos := "calls.go:161", after := #[{ on := 4, ground := Go.Ground.data }, { on := 2, ground := Go.Ground.guard }], guard := some (2, false) }) (v := ?_) rfl (by kernel_rfl) (by kernel_rfl) (by kernel_rfl) (fun _ _ _ h => h) (Or.inl ⟨by rfl, ?_⟩) (by assumption) ?_
              rotate_left
              · intro w_ hSw; (try dsimp only at hSw); go_simp; (try with_reducible rfl)
              try simp only [Act.put, List.setIfInBounds_toArray, List.set_cons_zero, List.set_cons_succ]
              refine wpAnyH_take (i := 6) (oi := { dst := some 50, op := Go.Op.convert 5 21 (Go.Operand.tmp 49), type := 21, pos := "calls.go:161", after := #[{ on := 5, ground := Go.Ground.data }, { on := 2, ground := Go.Ground.guard }], guard := some (2, false) }) (v := ?_) rfl (by kernel_rfl) (by kernel_rfl) (by kernel_rfl) (fun _ _ _ h => h) (Or.inl ⟨by rfl, ?_⟩) (by assumption) ?_
              rotate_left
              · intro w_ hSw; (try dsimp only at hSw); go_simp; (try with_reducible rfl)
              try simp only [Act.put, List.setIfInBounds_toArray, List.set_cons_zero, List.set_cons_succ]
              refine wpAnyH_take (i := 7) (oi := { dst := some 51, op := Go.Op.lookup 56 (Go.Operand.tmp 47) (Go.Operand.tmp 50) false, type := 55, pos := "calls.go:161", after := #[{ on := 3, ground := Go.Ground.data }, { on := 6, ground := Go.Ground.data }, { on := 2, ground := Go.Ground.guard }], guard := some (2, false) }) (v := ?_) rfl (by kernel_rfl) (by kernel_rfl) (by kernel_rfl) (fun _ _ _ h => h) (Or.inl ⟨by rfl, ?_⟩) (by assumption) ?_
              rotate_left
              · intro w_ hSw; (try dsimp only at hSw); go_simp; (try with_reducible rfl)
              try simp only [Act.put, List.setIfInBounds_toArray, List.set_cons_zero, List.set_cons_succ]
              refine wpAnyH_take (i := 8) (oi := { dst := some 52, op := Go.Op.field 55 (Go.Operand.tmp 51) 1, type := 53, pos := "calls.go:161", after := #[{ on := 7, ground := Go.Ground.data }, { on := 2, ground := Go.Ground.guard }], guard := some (2, false) }) (v := ?_) rfl (by kernel_rfl) (by kernel_rfl) (by kernel_rfl) (fun _ _ _ h => h) (Or.inl ⟨by rfl, ?_⟩) (by assumption) ?_
              rotate_left
              · intro w_ hSw; (try dsimp only at hSw); go_simp; (try with_reducible rfl)
              try simp only [Act.put, List.setIfInBounds_toArray, List.set_cons_zero, List.set_cons_succ]
              refine wpAnyH_take (i := 9) (oi := { dst := some 53, op := Go.Op.move (Go.Operand.tmp 6), type := 9, pos := "calls.go:161", after := #[{ on := 2, ground := Go.Ground.guard }], guard := some (2, false) }) (v := ?_) rfl (by kernel_rfl) (by kernel_rfl) (by kernel_rfl) (fun _ _ _ h => h) (Or.inl ⟨by rfl, ?_⟩) (by assumption) ?_
              rotate_left
              · intro w_ hSw; (try dsimp only at hSw); go_simp; (try with_reducible rfl)
              try simp only [Act.put, List.setIfInBounds_toArray, List.set_cons_zero, List.set_cons_succ]
              refine wpAnyH_ready (rs := [10]) (by kernel_rfl) (by simp) ?_
              refine AllReadyH.cons rfl (fun K hK => ?_) AllReadyH.nil
              go_simp
              go_at_call 124; refine (read_at (k := 109) (f := 124) rfl hlet b2 c x HX.out W.drew (HLd.below PD.out.hb) PD.out.k2).mono ?_; rintro e w3 ⟨c', he, hk, hv, hg⟩; rw [HR.out] at he; subst he; have PR := Aside0.mk (PD.out.read hg hk (by have h_ := NS.out; omega) (by have h_ := NS.out; omega)); have KK : Aside0 (KpS Bs Bp Bv W w3) := ⟨kps_read (A := W) (W := W.drew) ⟨fun _ _ _ h => h, fun _ _ _ h => h, fun _ _ _ h => h⟩ hg (by have h_ := NS.out; omega)⟩; have KF : Aside0 (KeepsFrom W1.heap.size W w3) := ⟨((KeepsOthers.drew W).from _).trans (KeepsFrom.of_grownBy hg (fun j e => by cases e; have h_ := NS.out; omega))⟩; clear hk hv hg; simp only [Option.isSome_some, Option.isSome_none]
              go_wp2_with fail
              refine hK.out _ _ ?_ (fun hHeld => ?_)
              · exact ⟨(blk_cell PR.out.k3 0).trans (by rw [TB.out]; rfl), pw_cell_below PR.out.hb hb1.out, hF.out 109 hlet _ (blk_below hb2.out PR.out.hb)⟩
              clear hK K
              try simp only [Act.put, List.setIfInBounds_toArray, List.set_cons_zero, List.set_cons_succ]
              refine wpAnyH_take (i := 11) (oi := { dst := some 55, op := Go.Op.unOp Go.UnOp.not 4 (Go.Operand.tmp 54), type := 4, pos := "calls.go:161", after := #[{ on := 10, ground := Go.Ground.data }, { on := 2, ground := Go.Ground.guard }], guard := some (2, false) }) (v := ?_) rfl (by kernel_rfl) (by kernel_rfl) (by kernel_rfl) (fun _ _ _ h => h) (Or.inl ⟨by rfl, ?_⟩) (by assumption) ?_
              rotate_left
              · intro w_ hSw; (try dsimp only at hSw); go_simp; (try with_reducible rfl)
              try simp only [Act.put, List.setIfInBounds_toArray, List.set_cons_zero, List.set_cons_succ]
              refine wpAnyH_take (i := 12) (oi := { dst := some 56, op := Go.Op.pick (Go.Operand.tmp 46) (Go.Operand.const (Go.Value.bool true)) (Go.Operand.tmp 55), type := 4, pos := "calls.go:161", after := #[{ on := 2, ground := Go.Ground.data }, { on := 11, ground := Go.Ground.data }], guard := none }) (v := ?_) rfl (by kernel_rfl) (by kernel_rfl) (by kernel_rfl) (fun _ _ _ h => h) (Or.inl ⟨by rfl, ?_⟩) (by assumption) ?_
              rotate_left
              · intro w_ hSw; (try dsimp only at hSw); go_simp; (try with_reducible rfl)
              try simp only [Act.put, List.setIfInBounds_toArray, List.set_cons_zero, List.set_cons_succ]
              refine wpAnyH_done (by kernel_rfl) ?_ _
              have z0 : w3.cell? ⟨b0, 0, none⟩ = some (.int .i64 0) := (blk_cell PR.out.k0 0).trans rfl
              have f0 := blk_frozen PR.out.k0 0
              have z1 : w3.cell? ⟨b0, 1, none⟩ = some (.int .i64 0) := (blk_cell PR.out.k0 1).trans rfl
              have f1 := blk_frozen PR.out.k0 1
              have z2 : w3.cell? ⟨b0, 2, none⟩ = some (.int .i64 0) := (blk_cell PR.out.k0 2).trans rfl
              have f2 := blk_frozen PR.out.k0 2
              have z3 : w3.cell? ⟨b0, 3, none⟩ = some (.int .i64 0) := (blk_cell PR.out.k0 3).trans rfl
              have f3 := blk_frozen PR.out.k0 3
              have z4 : w3.cell? ⟨b0, 4, none⟩ = some (.int .i64 0) := (blk_cell PR.out.k0 4).trans rfl
              have f4 := blk_frozen PR.out.k0 4
              have z5 : w3.cell? ⟨b0, 5, none⟩ = some (.int .i64 0) := (blk_cell PR.out.k0 5).trans rfl
              have f5 := blk_frozen PR.out.k0 5
              have z6 : w3.cell? ⟨b0, 6, none⟩ = some (.int .u64 0) := (blk_cell PR.out.k0 6).trans rfl
              have f6 := blk_frozen PR.out.k0 6
              have u0 : w3.cell? ⟨b1, 0, none⟩ = some (.int .i64 0) := (blk_cell PR.out.k1 0).trans rfl
              have g0 := blk_frozen PR.out.k1 0
              gi_wp2
              have hq := px_set (B := W1.heap.size) PR.out (by have h_ := NS.out; omega) (by have h_ := NS.out; omega) (by have h_ := NS.out; omega) _ rfl
              exact ⟨KF.out.trans hq.2, rfl, HN.out, hq.1⟩
            · have hlet : isLet (116 : UInt8) := .inr (.inr (.inl rfl))
              have hi0 : ∀ W, (Instr.index 9 (.string tb) (.int .i64 0)).run Tryd.prog W = .ok (.int .u8 116) W := by rw [TB.out]; exact idx0 116 ks
              have hwr : IntKind.i32.wrap 116 = 116 := by rfl
              have hf1 : ∀ W : World, (Instr.field 55 (Value.agg #[.func (.func 125) #[] #[], .func (.func 126) #[] #[]]) 1).run Tryd.prog W = .ok (.func (.func 126) #[] #[]) W := fun W => by kernel_rfl
              have HN : Aside0 (foldP (call0, []) (words (pre ++ [x])) = none) := ⟨by rw [words_snoc, foldP_snoc x.data.toList HF.out, stepP_cons h0, hr]; rfl⟩
              have HR := Aside0.mk hr
              clear h0 hr
              gi_wp2
              refine round_region_held (S := (fun w' => w'.cell? ⟨b3, 0, none⟩ = some (.string tb) ∧ w'.cell? ⟨1, 0, none⟩ = some (.map (some bm)) ∧ (Instr.lookup 56 (.map (some bm)) (.int .i32 116) false).run Tryd.prog w' = .ok (.agg #[.func (.func 125) #[] #[], .func (.func 126) #[] #[]]) w')) (by kernel_rfl) (by kernel_rfl) (by rintro ⟨a_, w_, h_⟩; exact h_) ?_ (fun hHeld => ?_)
              · exact ⟨(blk_cell PD.out.k3 0).trans (by rw [TB.out]; rfl), pw_cell_below PD.out.hb hb1.out, hF.out 116 hlet _ (blk_below hb2.out PD.out.hb)⟩
              refine wpAnyH_take (i := 0) (oi := { dst := some 44, op := Go.Op.load 9 (Go.Operand.tmp 5), type := 9, pos := "calls.go:161", after := #[], guard := none }) (v := ?_) rfl (by kernel_rfl) (by kernel_rfl) (by kernel_rfl) (fun _ _ _ h => h) (Or.inl ⟨by rfl, ?_⟩) (by assumption) ?_
              rotate_left
              · intro w_ hSw; (try dsimp only at hSw); go_simp; (try with_reducible rfl)
              try simp only [Act.put, List.setIfInBounds_toArray, List.set_cons_zero, List.set_cons_succ]
              refine wpAnyH_take (i := 1) (oi := { dst := some 45, op := Go.Op.binOp Go.BinOp.eql 9 (Go.Operand.tmp 44) (Go.Operand.const (Go.Value.string { data := #[] })) 9, type := 4, pos := "calls.go:161", after := #[{ on := 0, ground := Go.Ground.data }], guard := none }) (v := ?_) rfl (by kernel_rfl) (by kernel_rfl) (by kernel_rfl) (fun _ _ _ h => h) (Or.inl ⟨by rfl, ?_⟩) (by assumption) ?_
              rotate_left
              · intro w_ hSw; (try dsimp only at hSw); go_simp; (try with_reducible rfl)
              try simp only [Act.put, List.setIfInBounds_toArray, List.set_cons_zero, List.set_cons_succ]
              refine wpAnyH_take (i := 2) (oi := { dst := some 46, op := Go.Op.move (Go.Operand.tmp 45), type := 4, pos := "calls.go:161", after := #[{ on := 1, ground := Go.Ground.data }], guard := none }) (v := ?_) rfl (by kernel_rfl) (by kernel_rfl) (by kernel_rfl) (fun _ _ _ h => h) (Or.inl ⟨by rfl, ?_⟩) (by assumption) ?_
              rotate_left
              · intro w_ hSw; (try dsimp only at hSw); go_simp; (try with_reducible rfl)
              try simp only [Act.put, List.setIfInBounds_toArray, List.set_cons_zero, List.set_cons_succ]
              refine wpAnyH_take (i := 3) (oi := { dst := some 47, op := Go.Op.load 56 (Go.Operand.global 1), type := 56, pos := "calls.go:161", after := #[{ on := 2, ground := Go.Ground.guard }], guard := some (2, false) }) (v := ?_) rfl (by kernel_rfl) (by kernel_rfl) (by kernel_rfl) (fun _ _ _ h => h) (Or.inl ⟨by rfl, ?_⟩) (by assumption) ?_
              rotate_left
              · intro w_ hSw; (try dsimp only at hSw); go_simp; (try with_reducible rfl)
              try simp only [Act.put, List.setIfInBounds_toArray, List.set_cons_zero, List.set_cons_succ]
              refine wpAnyH_take (i := 4) (oi := { dst := some 48, op := Go.Op.load 9 (Go.Operand.tmp 5), type := 9, pos := "calls.go:161", after := #[{ on := 2, ground := Go.Ground.guard }], guard := some (2, false) }) (v := ?_) rfl (by kernel_rfl) (by kernel_rfl) (by kernel_rfl) (fun _ _ _ h => h) (Or.inl ⟨by rfl, ?_⟩) (by assumption) ?_
              rotate_left
              · intro w_ hSw; (try dsimp only at hSw); go_simp; (try with_reducible rfl)
              try simp only [Act.put, List.setIfInBounds_toArray, List.set_cons_zero, List.set_cons_succ]
              refine wpAnyH_take (i := 5) (oi := { dst := some 49, op := Go.Op.index 9 (Go.Operand.tmp 48) (Go.Operand.const (Go.Value.int Go.IntKind.i64 0)), type := 5, pos := "calls.go:161", after := #[{ on := 4, ground := Go.Ground.data }, { on := 2, ground := Go.Ground.guard }], guard := some (2, false) }) (v := ?_) rfl (by kernel_rfl) (by kernel_rfl) (by kernel_rfl) (fun _ _ _ h => h) (Or.inl ⟨by rfl, ?_⟩) (by assumption) ?_
              rotate_left
              · intro w_ hSw; (try dsimp only at hSw); go_simp; (try with_reducible rfl)
              try simp only [Act.put, List.setIfInBounds_toArray, List.set_cons_zero, List.set_cons_succ]
              refine wpAnyH_take (i := 6) (oi := { dst := some 50, op := Go.Op.convert 5 21 (Go.Operand.tmp 49), type := 21, pos := "calls.go:161", after := #[{ on := 5, ground := Go.Ground.data }, { on := 2, ground := Go.Ground.guard }], guard := some (2, false) }) (v := ?_) rfl (by kernel_rfl) (by kernel_rfl) (by kernel_rfl) (fun _ _ _ h => h) (Or.inl ⟨by rfl, ?_⟩) (by assumption) ?_
              rotate_left
              · intro w_ hSw; (try dsimp only at hSw); go_simp; (try with_reducible rfl)
              try simp only [Act.put, List.setIfInBounds_toArray, List.set_cons_zero, List.set_cons_succ]
              refine wpAnyH_take (i := 7) (oi := { dst := some 51, op := Go.Op.lookup 56 (Go.Operand.tmp 47) (Go.Operand.tmp 50) false, type := 55, pos := "calls.go:161", after := #[{ on := 3, ground := Go.Ground.data }, { on := 6, ground := Go.Ground.data }, { on := 2, ground := Go.Ground.guard }], guard := some (2, false) }) (v := ?_) rfl (by kernel_rfl) (by kernel_rfl) (by kernel_rfl) (fun _ _ _ h => h) (Or.inl ⟨by rfl, ?_⟩) (by assumption) ?_
              rotate_left
              · intro w_ hSw; (try dsimp only at hSw); go_simp; (try with_reducible rfl)
              try simp only [Act.put, List.setIfInBounds_toArray, List.set_cons_zero, List.set_cons_succ]
              refine wpAnyH_take (i := 8) (oi := { dst := some 52, op := Go.Op.field 55 (Go.Operand.tmp 51) 1, type := 53, pos := "calls.go:161", after := #[{ on := 7, ground := Go.Ground.data }, { on := 2, ground := Go.Ground.guard }], guard := some (2, false) }) (v := ?_) rfl (by kernel_rfl) (by kernel_rfl) (by kernel_rfl) (fun _ _ _ h => h) (Or.inl ⟨by rfl, ?_⟩) (by assumption) ?_
              rotate_left
              · intro w_ hSw; (try dsimp only at hSw); go_simp; (try with_reducible rfl)
              try simp only [Act.put, List.setIfInBounds_toArray, List.set_cons_zero, List.set_cons_succ]
              refine wpAnyH_take (i := 9) (oi := { dst := some 53, op := Go.Op.move (Go.Operand.tmp 6), type := 9, pos := "calls.go:161", after := #[{ on := 2, ground := Go.Ground.guard }], guard := some (2, false) }) (v := ?_) rfl (by kernel_rfl) (by kernel_rfl) (by kernel_rfl) (fun _ _ _ h => h) (Or.inl ⟨by rfl, ?_⟩) (by assumption) ?_
              rotate_left
              · intro w_ hSw; (try dsimp only at hSw); go_simp; (try with_reducible rfl)
              try simp only [Act.put, List.setIfInBounds_toArray, List.set_cons_zero, List.set_cons_succ]
              refine wpAnyH_ready (rs := [10]) (by kernel_rfl) (by simp) ?_
              refine AllReadyH.cons rfl (fun K hK => ?_) AllReadyH.nil
              go_simp
              go_at_call 126; refine (read_at (k := 116) (f := 126) rfl hlet b2 c x HX.out W.drew (HLd.below PD.out.hb) PD.out.k2).mono ?_; rintro e w3 ⟨c', he, hk, hv, hg⟩; rw [HR.out] at he; subst he; have PR := Aside0.mk (PD.out.read hg hk (by have h_ := NS.out; omega) (by have h_ := NS.out; omega)); have KK : Aside0 (KpS Bs Bp Bv W w3) := ⟨kps_read (A := W) (W := W.drew) ⟨fun _ _ _ h => h, fun _ _ _ h => h, fun _ _ _ h => h⟩ hg (by have h_ := NS.out; omega)⟩; have KF : Aside0 (KeepsFrom W1.heap.size W w3) := ⟨((KeepsOthers.drew W).from _).trans (KeepsFrom.of_grownBy hg (fun j e => by cases e; have h_ := NS.out; omega))⟩; clear hk hv hg; simp only [Option.isSome_some, Option.isSome_none]
              go_wp2_with fail
              refine hK.out _ _ ?_ (fun hHeld => ?_)
              · exact ⟨(blk_cell PR.out.k3 0).trans (by rw [TB.out]; rfl), pw_cell_below PR.out.hb hb1.out, hF.out 116 hlet _ (blk_below hb2.out PR.out.hb)⟩
              clear hK K
              try simp only [Act.put, List.setIfInBounds_toArray, List.set_cons_zero, List.set_cons_succ]
              refine wpAnyH_take (i := 11) (oi := { dst := some 55, op := Go.Op.unOp Go.UnOp.not 4 (Go.Operand.tmp 54), type := 4, pos := "calls.go:161", after := #[{ on := 10, ground := Go.Ground.data }, { on := 2, ground := Go.Ground.guard }], guard := some (2, false) }) (v := ?_) rfl (by kernel_rfl) (by kernel_rfl) (by kernel_rfl) (fun _ _ _ h => h) (Or.inl ⟨by rfl, ?_⟩) (by assumption) ?_
              rotate_left
              · intro w_ hSw; (try dsimp only at hSw); go_simp; (try with_reducible rfl)
              try simp only [Act.put, List.setIfInBounds_toArray, List.set_cons_zero, List.set_cons_succ]
              refine wpAnyH_take (i := 12) (oi := { dst := some 56, op := Go.Op.pick (Go.Operand.tmp 46) (Go.Operand.const (Go.Value.bool true)) (Go.Operand.tmp 55), type := 4, pos := "calls.go:161", after := #[{ on := 2, ground := Go.Ground.data }, { on := 11, ground := Go.Ground.data }], guard := none }) (v := ?_) rfl (by kernel_rfl) (by kernel_rfl) (by kernel_rfl) (fun _ _ _ h => h) (Or.inl ⟨by rfl, ?_⟩) (by assumption) ?_
              rotate_left
              · intro w_ hSw; (try dsimp only at hSw); go_simp; (try with_reducible rfl)
              try simp only [Act.put, List.setIfInBounds_toArray, List.set_cons_zero, List.set_cons_succ]
              refine wpAnyH_done (by kernel_rfl) ?_ _
              have z0 : w3.cell? ⟨b0, 0, none⟩ = some (.int .i64 0) := (blk_cell PR.out.k0 0).trans rfl
              have f0 := blk_frozen PR.out.k0 0
              have z1 : w3.cell? ⟨b0, 1, none⟩ = some (.int .i64 0) := (blk_cell PR.out.k0 1).trans rfl
              have f1 := blk_frozen PR.out.k0 1
              have z2 : w3.cell? ⟨b0, 2, none⟩ = some (.int .i64 0) := (blk_cell PR.out.k0 2).trans rfl
              have f2 := blk_frozen PR.out.k0 2
              have z3 : w3.cell? ⟨b0, 3, none⟩ = some (.int .i64 0) := (blk_cell PR.out.k0 3).trans rfl
              have f3 := blk_frozen PR.out.k0 3
              have z4 : w3.cell? ⟨b0, 4, none⟩ = some (.int .i64 0) := (blk_cell PR.out.k0 4).trans rfl
              have f4 := blk_frozen PR.out.k0 4
              have z5 : w3.cell? ⟨b0, 5, none⟩ = some (.int .i64 0) := (blk_cell PR.out.k0 5).trans rfl
              have f5 := blk_frozen PR.out.k0 5
              have z6 : w3.cell? ⟨b0, 6, none⟩ = some (.int .u64 0) := (blk_cell PR.out.k0 6).trans rfl
              have f6 := blk_frozen PR.out.k0 6
              have u0 : w3.cell? ⟨b1, 0, none⟩ = some (.int .i64 0) := (blk_cell PR.out.k1 0).trans rfl
              have g0 := blk_frozen PR.out.k1 0
              gi_wp2
              have hq := px_set (B := W1.heap.size) PR.out (by have h_ := NS.out; omega) (by have h_ := NS.out; omega) (by have h_ := NS.out; omega) _ rfl
              exact ⟨KF.out.trans hq.2, rfl, HN.out, hq.1⟩
            · have hlet : isLet (99 : UInt8) := .inr (.inr (.inr (.inl rfl)))
              have hi0 : ∀ W, (Instr.index 9 (.string tb) (.int .i64 0)).run Tryd.prog W = .ok (.int .u8 99) W := by rw [TB.out]; exact idx0 99 ks
              have hwr : IntKind.i32.wrap 99 = 99 := by rfl
              have hf1 : ∀ W : World, (Instr.field 55 (Value.agg #[.func (.func 127) #[] #[], .func (.func 115) #[] #[]]) 1).run Tryd.prog W = .ok (.func (.func 115) #[] #[]) W := fun W => by kernel_rfl
              have HN : Aside0 (foldP (call0, []) (words (pre ++ [x])) = none) := ⟨by rw [words_snoc, foldP_snoc x.data.toList HF.out, stepP_cons h0, hr]; rfl⟩
              have HR := Aside0.mk hr
              clear h0 hr
              gi_wp2
              refine round_region_held (S := (fun w' => w'.cell? ⟨b3, 0, none⟩ = some (.string tb) ∧ w'.cell? ⟨1, 0, none⟩ = some (.map (some bm)) ∧ (Instr.lookup 56 (.map (some bm)) (.int .i32 99) false).run Tryd.prog w' = .ok (.agg #[.func (.func 127) #[] #[], .func (.func 115) #[] #[]]) w')) (by kernel_rfl) (by kernel_rfl) (by rintro ⟨a_, w_, h_⟩; exact h_) ?_ (fun hHeld => ?_)
              · exact ⟨(blk_cell PD.out.k3 0).trans (by rw [TB.out]; rfl), pw_cell_below PD.out.hb hb1.out, hF.out 99 hlet _ (blk_below hb2.out PD.out.hb)⟩
              refine wpAnyH_take (i := 0) (oi := { dst := some 44, op := Go.Op.load 9 (Go.Operand.tmp 5), type := 9, pos := "calls.go:161", after := #[], guard := none }) (v := ?_) rfl (by kernel_rfl) (by kernel_rfl) (by kernel_rfl) (fun _ _ _ h => h) (Or.inl ⟨by rfl, ?_⟩) (by assumption) ?_
              rotate_left
              · intro w_ hSw; (try dsimp only at hSw); go_simp; (try with_reducible rfl)
              try simp only [Act.put, List.setIfInBounds_toArray, List.set_cons_zero, List.set_cons_succ]
              refine wpAnyH_take (i := 1) (oi := { dst := some 45, op := Go.Op.binOp Go.BinOp.eql 9 (Go.Operand.tmp 44) (Go.Operand.const (Go.Value.string { data := #[] })) 9, type := 4, pos := "calls.go:161", after := #[{ on := 0, ground := Go.Ground.data }], guard := none }) (v := ?_) rfl (by kernel_rfl) (by kernel_rfl) (by kernel_rfl) (fun _ _ _ h => h) (Or.inl ⟨by rfl, ?_⟩) (by assumption) ?_
              rotate_left
              · intro w_ hSw; (try dsimp only at hSw); go_simp; (try with_reducible rfl)
              try simp only [Act.put, List.setIfInBounds_toArray, List.set_cons_zero, List.set_cons_succ]
              refine wpAnyH_take (i := 2) (oi := { dst := some 46, op := Go.Op.move (Go.Operand.tmp 45), type := 4, pos := "calls.go:161", after := #[{ on := 1, ground := Go.Ground.data }], guard := none }) (v := ?_) rfl (by kernel_rfl) (by kernel_rfl) (by kernel_rfl) (fun _ _ _ h => h) (Or.inl ⟨by rfl, ?_⟩) (by assumption) ?_
              rotate_left
              · intro w_ hSw; (try dsimp only at hSw); go_simp; (try with_reducible rfl)
              try simp only [Act.put, List.setIfInBounds_toArray, List.set_cons_zero, List.set_cons_succ]
              refine wpAnyH_take (i := 3) (oi := { dst := some 47, op := Go.Op.load 56 (Go.Operand.global 1), type := 56, pos := "calls.go:161", after := #[{ on := 2, ground := Go.Ground.guard }], guard := some (2, false) }) (v := ?_) rfl (by kernel_rfl) (by kernel_rfl) (by kernel_rfl) (fun _ _ _ h => h) (Or.inl ⟨by rfl, ?_⟩) (by assumption) ?_
              rotate_left
              · intro w_ hSw; (try dsimp only at hSw); go_simp; (try with_reducible rfl)
              try simp only [Act.put, List.setIfInBounds_toArray, List.set_cons_zero, List.set_cons_succ]
              refine wpAnyH_take (i := 4) (oi := { dst := some 48, op := Go.Op.load 9 (Go.Operand.tmp 5), type := 9, pos := "calls.go:161", after := #[{ on := 2, ground := Go.Ground.guard }], guard := some (2, false) }) (v := ?_) rfl (by kernel_rfl) (by kernel_rfl) (by kernel_rfl) (fun _ _ _ h => h) (Or.inl ⟨by rfl, ?_⟩) (by assumption) ?_
              rotate_left
              · intro w_ hSw; (try dsimp only at hSw); go_simp; (try with_reducible rfl)
              try simp only [Act.put, List.setIfInBounds_toArray, List.set_cons_zero, List.set_cons_succ]
              refine wpAnyH_take (i := 5) (oi := { dst := some 49, op := Go.Op.index 9 (Go.Operand.tmp 48) (Go.Operand.const (Go.Value.int Go.IntKind.i64 0)), type := 5, pos := "calls.go:161", after := #[{ on := 4, ground := Go.Ground.data }, { on := 2, ground := Go.Ground.guard }], guard := some (2, false) }) (v := ?_) rfl (by kernel_rfl) (by kernel_rfl) (by kernel_rfl) (fun _ _ _ h => h) (Or.inl ⟨by rfl, ?_⟩) (by assumption) ?_
              rotate_left
              · intro w_ hSw; (try dsimp only at hSw); go_simp; (try with_reducible rfl)
              try simp only [Act.put, List.setIfInBounds_toArray, List.set_cons_zero, List.set_cons_succ]
              refine wpAnyH_take (i := 6) (oi := { dst := some 50, op := Go.Op.convert 5 21 (Go.Operand.tmp 49), type := 21, pos := "calls.go:161", after := #[{ on := 5, ground := Go.Ground.data }, { on := 2, ground := Go.Ground.guard }], guard := some (2, false) }) (v := ?_) rfl (by kernel_rfl) (by kernel_rfl) (by kernel_rfl) (fun _ _ _ h => h) (Or.inl ⟨by rfl, ?_⟩) (by assumption) ?_
              rotate_left
              · intro w_ hSw; (try dsimp only at hSw); go_simp; (try with_reducible rfl)
              try simp only [Act.put, List.setIfInBounds_toArray, List.set_cons_zero, List.set_cons_succ]
              refine wpAnyH_take (i := 7) (oi := { dst := some 51, op := Go.Op.lookup 56 (Go.Operand.tmp 47) (Go.Operand.tmp 50) false, type := 55, pos := "calls.go:161", after := #[{ on := 3, ground := Go.Ground.data }, { on := 6, ground := Go.Ground.data }, { on := 2, ground := Go.Ground.guard }], guard := some (2, false) }) (v := ?_) rfl (by kernel_rfl) (by kernel_rfl) (by kernel_rfl) (fun _ _ _ h => h) (Or.inl ⟨by rfl, ?_⟩) (by assumption) ?_
              rotate_left
              · intro w_ hSw; (try dsimp only at hSw); go_simp; (try with_reducible rfl)
              try simp only [Act.put, List.setIfInBounds_toArray, List.set_cons_zero, List.set_cons_succ]
              refine wpAnyH_take (i := 8) (oi := { dst := some 52, op := Go.Op.field 55 (Go.Operand.tmp 51) 1, type := 53, pos := "calls.go:161", after := #[{ on := 7, ground := Go.Ground.data }, { on := 2, ground := Go.Ground.guard }], guard := some (2, false) }) (v := ?_) rfl (by kernel_rfl) (by kernel_rfl) (by kernel_rfl) (fun _ _ _ h => h) (Or.inl ⟨by rfl, ?_⟩) (by assumption) ?_
              rotate_left
              · intro w_ hSw; (try dsimp only at hSw); go_simp; (try with_reducible rfl)
              try simp only [Act.put, List.setIfInBounds_toArray, List.set_cons_zero, List.set_cons_succ]
              refine wpAnyH_take (i := 9) (oi := { dst := some 53, op := Go.Op.move (Go.Operand.tmp 6), type := 9, pos := "calls.go:161", after := #[{ on := 2, ground := Go.Ground.guard }], guard := some (2, false) }) (v := ?_) rfl (by kernel_rfl) (by kernel_rfl) (by kernel_rfl) (fun _ _ _ h => h) (Or.inl ⟨by rfl, ?_⟩) (by assumption) ?_
              rotate_left
              · intro w_ hSw; (try dsimp only at hSw); go_simp; (try with_reducible rfl)
              try simp only [Act.put, List.setIfInBounds_toArray, List.set_cons_zero, List.set_cons_succ]
              refine wpAnyH_ready (rs := [10]) (by kernel_rfl) (by simp) ?_
              refine AllReadyH.cons rfl (fun K hK => ?_) AllReadyH.nil
              go_simp
              go_at_call 115; refine (read_at (k := 99) (f := 115) rfl hlet b2 c x HX.out W.drew (HLd.below PD.out.hb) PD.out.k2).mono ?_; rintro e w3 ⟨c', he, hk, hv, hg⟩; rw [HR.out] at he; subst he; have PR := Aside0.mk (PD.out.read hg hk (by have h_ := NS.out; omega) (by have h_ := NS.out; omega)); have KK : Aside0 (KpS Bs Bp Bv W w3) := ⟨kps_read (A := W) (W := W.drew) ⟨fun _ _ _ h => h, fun _ _ _ h => h, fun _ _ _ h => h⟩ hg (by have h_ := NS.out; omega)⟩; have KF : Aside0 (KeepsFrom W1.heap.size W w3) := ⟨((KeepsOthers.drew W).from _).trans (KeepsFrom.of_grownBy hg (fun j e => by cases e; have h_ := NS.out; omega))⟩; clear hk hv hg; simp only [Option.isSome_some, Option.isSome_none]
              go_wp2_with fail
              refine hK.out _ _ ?_ (fun hHeld => ?_)
              · exact ⟨(blk_cell PR.out.k3 0).trans (by rw [TB.out]; rfl), pw_cell_below PR.out.hb hb1.out, hF.out 99 hlet _ (blk_below hb2.out PR.out.hb)⟩
              clear hK K
              try simp only [Act.put, List.setIfInBounds_toArray, List.set_cons_zero, List.set_cons_succ]
              refine wpAnyH_take (i := 11) (oi := { dst := some 55, op := Go.Op.unOp Go.UnOp.not 4 (Go.Operand.tmp 54), type := 4, pos := "calls.go:161", after := #[{ on := 10, ground := Go.Ground.data }, { on := 2, ground := Go.Ground.guard }], guard := some (2, false) }) (v := ?_) rfl (by kernel_rfl) (by kernel_rfl) (by kernel_rfl) (fun _ _ _ h => h) (Or.inl ⟨by rfl, ?_⟩) (by assumption) ?_
              rotate_left
              · intro w_ hSw; (try dsimp only at hSw); go_simp; (try with_reducible rfl)
              try simp only [Act.put, List.setIfInBounds_toArray, List.set_cons_zero, List.set_cons_succ]
              refine wpAnyH_take (i := 12) (oi := { dst := some 56, op := Go.Op.pick (Go.Operand.tmp 46) (Go.Operand.const (Go.Value.bool true)) (Go.Operand.tmp 55), type := 4, pos := "calls.go:161", after := #[{ on := 2, ground := Go.Ground.data }, { on := 11, ground := Go.Ground.data }], guard := none }) (v := ?_) rfl (by kernel_rfl) (by kernel_rfl) (by kernel_rfl) (fun _ _ _ h => h) (Or.inl ⟨by rfl, ?_⟩) (by assumption) ?_
              rotate_left
              · intro w_ hSw; (try dsimp only at hSw); go_simp; (try with_reducible rfl)
              try simp only [Act.put, List.setIfInBounds_toArray, List.set_cons_zero, List.set_cons_succ]
              refine wpAnyH_done (by kernel_rfl) ?_ _
              have z0 : w3.cell? ⟨b0, 0, none⟩ = some (.int .i64 0) := (blk_cell PR.out.k0 0).trans rfl
              have f0 := blk_frozen PR.out.k0 0
              have z1 : w3.cell? ⟨b0, 1, none⟩ = some (.int .i64 0) := (blk_cell PR.out.k0 1).trans rfl
              have f1 := blk_frozen PR.out.k0 1
              have z2 : w3.cell? ⟨b0, 2, none⟩ = some (.int .i64 0) := (blk_cell PR.out.k0 2).trans rfl
              have f2 := blk_frozen PR.out.k0 2
              have z3 : w3.cell? ⟨b0, 3, none⟩ = some (.int .i64 0) := (blk_cell PR.out.k0 3).trans rfl
              have f3 := blk_frozen PR.out.k0 3
              have z4 : w3.cell? ⟨b0, 4, none⟩ = some (.int .i64 0) := (blk_cell PR.out.k0 4).trans rfl
              have f4 := blk_frozen PR.out.k0 4
              have z5 : w3.cell? ⟨b0, 5, none⟩ = some (.int .i64 0) := (blk_cell PR.out.k0 5).trans rfl
              have f5 := blk_frozen PR.out.k0 5
              have z6 : w3.cell? ⟨b0, 6, none⟩ = some (.int .u64 0) := (blk_cell PR.out.k0 6).trans rfl
              have f6 := blk_frozen PR.out.k0 6
              have u0 : w3.cell? ⟨b1, 0, none⟩ = some (.int .i64 0) := (blk_cell PR.out.k1 0).trans rfl
              have g0 := blk_frozen PR.out.k1 0
              gi_wp2
              have hq := px_set (B := W1.heap.size) PR.out (by have h_ := NS.out; omega) (by have h_ := NS.out; omega) (by have h_ := NS.out; omega) _ rfl
              exact ⟨KF.out.trans hq.2, rfl, HN.out, hq.1⟩
            · have hlet : isLet (107 : UInt8) := .inr (.inr (.inr (.inr rfl)))
              have hi0 : ∀ W, (Instr.index 9 (.string tb) (.int .i64 0)).run Tryd.prog W = .ok (.int .u8 107) W := by rw [TB.out]; exact idx0 107 ks
              have hwr : IntKind.i32.wrap 107 = 107 := by rfl
              have hf1 : ∀ W : World, (Instr.field 55 (Value.agg #[.func (.func 128) #[] #[], .func (.func 129) #[] #[]]) 1).run Tryd.prog W = .ok (.func (.func 129) #[] #[]) W := fun W => by kernel_rfl
              have HN : Aside0 (foldP (call0, []) (words (pre ++ [x])) = none) := ⟨by rw [words_snoc, foldP_snoc x.data.toList HF.out, stepP_cons h0, hr]; rfl⟩
              have HR := Aside0.mk hr
              clear h0 hr
              gi_wp2
              refine round_region_held (S := (fun w' => w'.cell? ⟨b3, 0, none⟩ = some (.string tb) ∧ w'.cell? ⟨1, 0, none⟩ = some (.map (some bm)) ∧ (Instr.lookup 56 (.map (some bm)) (.int .i32 107) false).run Tryd.prog w' = .ok (.agg #[.func (.func 128) #[] #[], .func (.func 129) #[] #[]]) w')) (by kernel_rfl) (by kernel_rfl) (by rintro ⟨a_, w_, h_⟩; exact h_) ?_ (fun hHeld => ?_)
              · exact ⟨(blk_cell PD.out.k3 0).trans (by rw [TB.out]; rfl), pw_cell_below PD.out.hb hb1.out, hF.out 107 hlet _ (blk_below hb2.out PD.out.hb)⟩
              refine wpAnyH_take (i := 0) (oi := { dst := some 44, op := Go.Op.load 9 (Go.Operand.tmp 5), type := 9, pos := "calls.go:161", after := #[], guard := none }) (v := ?_) rfl (by kernel_rfl) (by kernel_rfl) (by kernel_rfl) (fun _ _ _ h => h) (Or.inl ⟨by rfl, ?_⟩) (by assumption) ?_
              rotate_left
              · intro w_ hSw; (try dsimp only at hSw); go_simp; (try with_reducible rfl)
              try simp only [Act.put, List.setIfInBounds_toArray, List.set_cons_zero, List.set_cons_succ]
              refine wpAnyH_take (i := 1) (oi := { dst := some 45, op := Go.Op.binOp Go.BinOp.eql 9 (Go.Operand.tmp 44) (Go.Operand.const (Go.Value.string { data := #[] })) 9, type := 4, pos := "calls.go:161", after := #[{ on := 0, ground := Go.Ground.data }], guard := none }) (v := ?_) rfl (by kernel_rfl) (by kernel_rfl) (by kernel_rfl) (fun _ _ _ h => h) (Or.inl ⟨by rfl, ?_⟩) (by assumption) ?_
              rotate_left
              · intro w_ hSw; (try dsimp only at hSw); go_simp; (try with_reducible rfl)
              try simp only [Act.put, List.setIfInBounds_toArray, List.set_cons_zero, List.set_cons_succ]
              refine wpAnyH_take (i := 2) (oi := { dst := some 46, op := Go.Op.move (Go.Operand.tmp 45), type := 4, pos := "calls.go:161", after := #[{ on := 1, ground := Go.Ground.data }], guard := none }) (v := ?_) rfl (by kernel_rfl) (by kernel_rfl) (by kernel_rfl) (fun _ _ _ h => h) (Or.inl ⟨by rfl, ?_⟩) (by assumption) ?_
              rotate_left
              · intro w_ hSw; (try dsimp only at hSw); go_simp; (try with_reducible rfl)
              try simp only [Act.put, List.setIfInBounds_toArray, List.set_cons_zero, List.set_cons_succ]
              refine wpAnyH_take (i := 3) (oi := { dst := some 47, op := Go.Op.load 56 (Go.Operand.global 1), type := 56, pos := "calls.go:161", after := #[{ on := 2, ground := Go.Ground.guard }], guard := some (2, false) }) (v := ?_) rfl (by kernel_rfl) (by kernel_rfl) (by kernel_rfl) (fun _ _ _ h => h) (Or.inl ⟨by rfl, ?_⟩) (by assumption) ?_
              rotate_left
              · intro w_ hSw; (try dsimp only at hSw); go_simp; (try with_reducible rfl)
              try simp only [Act.put, List.setIfInBounds_toArray, List.set_cons_zero, List.set_cons_succ]
              refine wpAnyH_take (i := 4) (oi := { dst := some 48, op := Go.Op.load 9 (Go.Operand.tmp 5), type := 9, pos := "calls.go:161", after := #[{ on := 2, ground := Go.Ground.guard }], guard := some (2, false) }) (v := ?_) rfl (by kernel_rfl) (by kernel_rfl) (by kernel_rfl) (fun _ _ _ h => h) (Or.inl ⟨by rfl, ?_⟩) (by assumption) ?_
              rotate_left
              · intro w_ hSw; (try dsimp only at hSw); go_simp; (try with_reducible rfl)
              try simp only [Act.put, List.setIfInBounds_toArray, List.set_cons_zero, List.set_cons_succ]
              refine wpAnyH_take (i := 5) (oi := { dst := some 49, op := Go.Op.index 9 (Go.Operand.tmp 48) (Go.Operand.const (Go.Value.int Go.IntKind.i64 0)), type := 5, pos := "calls.go:161", after := #[{ on := 4, ground := Go.Ground.data }, { on := 2, ground := Go.Ground.guard }], guard := some (2, false) }) (v := ?_) rfl (by kernel_rfl) (by kernel_rfl) (by kernel_rfl) (fun _ _ _ h => h) (Or.inl ⟨by rfl, ?_⟩) (by assumption) ?_
              rotate_left
              · intro w_ hSw; (try dsimp only at hSw); go_simp; (try with_reducible rfl)
              try simp only [Act.put, List.setIfInBounds_toArray, List.set_cons_zero, List.set_cons_succ]
              refine wpAnyH_take (i := 6) (oi := { dst := some 50, op := Go.Op.convert 5 21 (Go.Operand.tmp 49), type := 21, pos := "calls.go:161", after := #[{ on := 5, ground := Go.Ground.data }, { on := 2, ground := Go.Ground.guard }], guard := some (2, false) }) (v := ?_) rfl (by kernel_rfl) (by kernel_rfl) (by kernel_rfl) (fun _ _ _ h => h) (Or.inl ⟨by rfl, ?_⟩) (by assumption) ?_
              rotate_left
              · intro w_ hSw; (try dsimp only at hSw); go_simp; (try with_reducible rfl)
              try simp only [Act.put, List.setIfInBounds_toArray, List.set_cons_zero, List.set_cons_succ]
              refine wpAnyH_take (i := 7) (oi := { dst := some 51, op := Go.Op.lookup 56 (Go.Operand.tmp 47) (Go.Operand.tmp 50) false, type := 55, pos := "calls.go:161", after := #[{ on := 3, ground := Go.Ground.data }, { on := 6, ground := Go.Ground.data }, { on := 2, ground := Go.Ground.guard }], guard := some (2, false) }) (v := ?_) rfl (by kernel_rfl) (by kernel_rfl) (by kernel_rfl) (fun _ _ _ h => h) (Or.inl ⟨by rfl, ?_⟩) (by assumption) ?_
              rotate_left
              · intro w_ hSw; (try dsimp only at hSw); go_simp; (try with_reducible rfl)
              try simp only [Act.put, List.setIfInBounds_toArray, List.set_cons_zero, List.set_cons_succ]
              refine wpAnyH_take (i := 8) (oi := { dst := some 52, op := Go.Op.field 55 (Go.Operand.tmp 51) 1, type := 53, pos := "calls.go:161", after := #[{ on := 7, ground := Go.Ground.data }, { on := 2, ground := Go.Ground.guard }], guard := some (2, false) }) (v := ?_) rfl (by kernel_rfl) (by kernel_rfl) (by kernel_rfl) (fun _ _ _ h => h) (Or.inl ⟨by rfl, ?_⟩) (by assumption) ?_
              rotate_left
              · intro w_ hSw; (try dsimp only at hSw); go_simp; (try with_reducible rfl)
              try simp only [Act.put, List.setIfInBounds_toArray, List.set_cons_zero, List.set_cons_succ]
              refine wpAnyH_take (i := 9) (oi := { dst := some 53, op := Go.Op.move (Go.Operand.tmp 6), type := 9, pos := "calls.go:161", after := #[{ on := 2, ground := Go.Ground.guard }], guard := some (2, false) }) (v := ?_) rfl (by kernel_rfl) (by kernel_rfl) (by kernel_rfl) (fun _ _ _ h => h) (Or.inl ⟨by rfl, ?_⟩) (by assumption) ?_
              rotate_left
              · intro w_ hSw; (try dsimp only at hSw); go_simp; (try with_reducible rfl)
              try simp only [Act.put, List.setIfInBounds_toArray, List.set_cons_zero, List.set_cons_succ]
              refine wpAnyH_ready (rs := [10]) (by kernel_rfl) (by simp) ?_
              refine AllReadyH.cons rfl (fun K hK => ?_) AllReadyH.nil
              go_simp
              go_at_call 129; refine (read_at (k := 107) (f := 129) rfl hlet b2 c x HX.out W.drew (HLd.below PD.out.hb) PD.out.k2).mono ?_; rintro e w3 ⟨c', he, hk, hv, hg⟩; rw [HR.out] at he; subst he; have PR := Aside0.mk (PD.out.read hg hk (by have h_ := NS.out; omega) (by have h_ := NS.out; omega)); have KK : Aside0 (KpS Bs Bp Bv W w3) := ⟨kps_read (A := W) (W := W.drew) ⟨fun _ _ _ h => h, fun _ _ _ h => h, fun _ _ _ h => h⟩ hg (by have h_ := NS.out; omega)⟩; have KF : Aside0 (KeepsFrom W1.heap.size W w3) := ⟨((KeepsOthers.drew W).from _).trans (KeepsFrom.of_grownBy hg (fun j e => by cases e; have h_ := NS.out; omega))⟩; clear hk hv hg; simp only [Option.isSome_some, Option.isSome_none]
              go_wp2_with fail
              refine hK.out _ _ ?_ (fun hHeld => ?_)
              · exact ⟨(blk_cell PR.out.k3 0).trans (by rw [TB.out]; rfl), pw_cell_below PR.out.hb hb1.out, hF.out 107 hlet _ (blk_below hb2.out PR.out.hb)⟩
              clear hK K
              try simp only [Act.put, List.setIfInBounds_toArray, List.set_cons_zero, List.set_cons_succ]
              refine wpAnyH_take (i := 11) (oi := { dst := some 55, op := Go.Op.unOp Go.UnOp.not 4 (Go.Operand.tmp 54), type := 4, pos := "calls.go:161", after := #[{ on := 10, ground := Go.Ground.data }, { on := 2, ground := Go.Ground.guard }], guard := some (2, false) }) (v := ?_) rfl (by kernel_rfl) (by kernel_rfl) (by kernel_rfl) (fun _ _ _ h => h) (Or.inl ⟨by rfl, ?_⟩) (by assumption) ?_
              rotate_left
              · intro w_ hSw; (try dsimp only at hSw); go_simp; (try with_reducible rfl)
              try simp only [Act.put, List.setIfInBounds_toArray, List.set_cons_zero, List.set_cons_succ]
              refine wpAnyH_take (i := 12) (oi := { dst := some 56, op := Go.Op.pick (Go.Operand.tmp 46) (Go.Operand.const (Go.Value.bool true)) (Go.Operand.tmp 55), type := 4, pos := "calls.go:161", after := #[{ on := 2, ground := Go.Ground.data }, { on := 11, ground := Go.Ground.data }], guard := none }) (v := ?_) rfl (by kernel_rfl) (by kernel_rfl) (by kernel_rfl) (fun _ _ _ h => h) (Or.inl ⟨by rfl, ?_⟩) (by assumption) ?_
              rotate_left
              · intro w_ hSw; (try dsimp only at hSw); go_simp; (try with_reducible rfl)
              try simp only [Act.put, List.setIfInBounds_toArray, List.set_cons_zero, List.set_cons_succ]
              refine wpAnyH_done (by kernel_rfl) ?_ _
              have z0 : w3.cell? ⟨b0, 0, none⟩ = some (.int .i64 0) := (blk_cell PR.out.k0 0).trans rfl
              have f0 := blk_frozen PR.out.k0 0
              have z1 : w3.cell? ⟨b0, 1, none⟩ = some (.int .i64 0) := (blk_cell PR.out.k0 1).trans rfl
              have f1 := blk_frozen PR.out.k0 1
              have z2 : w3.cell? ⟨b0, 2, none⟩ = some (.int .i64 0) := (blk_cell PR.out.k0 2).trans rfl
              have f2 := blk_frozen PR.out.k0 2
              have z3 : w3.cell? ⟨b0, 3, none⟩ = some (.int .i64 0) := (blk_cell PR.out.k0 3).trans rfl
              have f3 := blk_frozen PR.out.k0 3
              have z4 : w3.cell? ⟨b0, 4, none⟩ = some (.int .i64 0) := (blk_cell PR.out.k0 4).trans rfl
              have f4 := blk_frozen PR.out.k0 4
              have z5 : w3.cell? ⟨b0, 5, none⟩ = some (.int .i64 0) := (blk_cell PR.out.k0 5).trans rfl
              have f5 := blk_frozen PR.out.k0 5
              have z6 : w3.cell? ⟨b0, 6, none⟩ = some (.int .u64 0) := (blk_cell PR.out.k0 6).trans rfl
              have f6 := blk_frozen PR.out.k0 6
              have u0 : w3.cell? ⟨b1, 0, none⟩ = some (.int .i64 0) := (blk_cell PR.out.k1 0).trans rfl
              have g0 := blk_frozen PR.out.k1 0
              gi_wp2
              have hq := px_set (B := W1.heap.size) PR.out (by have h_ := NS.out; omega) (by have h_ := NS.out; omega) (by have h_ := NS.out; omega) _ rfl
              exact ⟨KF.out.trans hq.2, rfl, HN.out, hq.1⟩
          | some c2 =>
            rcases HLt with rfl | rfl | rfl | rfl | rfl
            · have hlet : isLet (110 : UInt8) := .inl rfl
              have hi0 : ∀ W, (Instr.index 9 (.string tb) (.int .i64 0)).run Tryd.prog W = .ok (.int .u8 110) W := by rw [TB.out]; exact idx0 110 ks
              have hwr : IntKind.i32.wrap 110 = 110 := by rfl
              have hf1 : ∀ W : World, (Instr.field 55 (Value.agg #[.func (.func 121) #[] #[], .func (.func 122) #[] #[]]) 1).run Tryd.prog W = .ok (.func (.func 122) #[] #[]) W := fun W => by kernel_rfl
              have HN : Aside0 (foldP (call0, []) (words (pre ++ [x])) = some (c2, ks)) := ⟨by rw [words_snoc, foldP_snoc x.data.toList HF.out, stepP_cons h0, hr]; rfl⟩
              have HR := Aside0.mk hr
              clear h0 hr
              gi_wp2
              refine round_region_held (S := (fun w' => w'.cell? ⟨b3, 0, none⟩ = some (.string tb) ∧ w'.cell? ⟨1, 0, none⟩ = some (.map (some bm)) ∧ (Instr.lookup 56 (.map (some bm)) (.int .i32 110) false).run Tryd.prog w' = .ok (.agg #[.func (.func 121) #[] #[], .func (.func 122) #[] #[]]) w')) (by kernel_rfl) (by kernel_rfl) (by rintro ⟨a_, w_, h_⟩; exact h_) ?_ (fun hHeld => ?_)
              · exact ⟨(blk_cell PD.out.k3 0).trans (by rw [TB.out]; rfl), pw_cell_below PD.out.hb hb1.out, hF.out 110 hlet _ (blk_below hb2.out PD.out.hb)⟩
              refine wpAnyH_take (i := 0) (oi := { dst := some 44, op := Go.Op.load 9 (Go.Operand.tmp 5), type := 9, pos := "calls.go:161", after := #[], guard := none }) (v := ?_) rfl (by kernel_rfl) (by kernel_rfl) (by kernel_rfl) (fun _ _ _ h => h) (Or.inl ⟨by rfl, ?_⟩) (by assumption) ?_
              rotate_left
              · intro w_ hSw; (try dsimp only at hSw); go_simp; (try with_reducible rfl)
              try simp only [Act.put, List.setIfInBounds_toArray, List.set_cons_zero, List.set_cons_succ]
              refine wpAnyH_take (i := 1) (oi := { dst := some 45, op := Go.Op.binOp Go.BinOp.eql 9 (Go.Operand.tmp 44) (Go.Operand.const (Go.Value.string { data := #[] })) 9, type := 4, pos := "calls.go:161", after := #[{ on := 0, ground := Go.Ground.data }], guard := none }) (v := ?_) rfl (by kernel_rfl) (by kernel_rfl) (by kernel_rfl) (fun _ _ _ h => h) (Or.inl ⟨by rfl, ?_⟩) (by assumption) ?_
              rotate_left
              · intro w_ hSw; (try dsimp only at hSw); go_simp; (try with_reducible rfl)
              try simp only [Act.put, List.setIfInBounds_toArray, List.set_cons_zero, List.set_cons_succ]
              refine wpAnyH_take (i := 2) (oi := { dst := some 46, op := Go.Op.move (Go.Operand.tmp 45), type := 4, pos := "calls.go:161", after := #[{ on := 1, ground := Go.Ground.data }], guard := none }) (v := ?_) rfl (by kernel_rfl) (by kernel_rfl) (by kernel_rfl) (fun _ _ _ h => h) (Or.inl ⟨by rfl, ?_⟩) (by assumption) ?_
              rotate_left
              · intro w_ hSw; (try dsimp only at hSw); go_simp; (try with_reducible rfl)
              try simp only [Act.put, List.setIfInBounds_toArray, List.set_cons_zero, List.set_cons_succ]
              refine wpAnyH_take (i := 3) (oi := { dst := some 47, op := Go.Op.load 56 (Go.Operand.global 1), type := 56, pos := "calls.go:161", after := #[{ on := 2, ground := Go.Ground.guard }], guard := some (2, false) }) (v := ?_) rfl (by kernel_rfl) (by kernel_rfl) (by kernel_rfl) (fun _ _ _ h => h) (Or.inl ⟨by rfl, ?_⟩) (by assumption) ?_
              rotate_left
              · intro w_ hSw; (try dsimp only at hSw); go_simp; (try with_reducible rfl)
              try simp only [Act.put, List.setIfInBounds_toArray, List.set_cons_zero, List.set_cons_succ]
              refine wpAnyH_take (i := 4) (oi := { dst := some 48, op := Go.Op.load 9 (Go.Operand.tmp 5), type := 9, pos := "calls.go:161", after := #[{ on := 2, ground := Go.Ground.guard }], guard := some (2, false) }) (v := ?_) rfl (by kernel_rfl) (by kernel_rfl) (by kernel_rfl) (fun _ _ _ h => h) (Or.inl ⟨by rfl, ?_⟩) (by assumption) ?_
              rotate_left
              · intro w_ hSw; (try dsimp only at hSw); go_simp; (try with_reducible rfl)
              try simp only [Act.put, List.setIfInBounds_toArray, List.set_cons_zero, List.set_cons_succ]
              refine wpAnyH_take (i := 5) (oi := { dst := some 49, op := Go.Op.index 9 (Go.Operand.tmp 48) (Go.Operand.const (Go.Value.int Go.IntKind.i64 0)), type := 5, pos := "calls.go:161", after := #[{ on := 4, ground := Go.Ground.data }, { on := 2, ground := Go.Ground.guard }], guard := some (2, false) }) (v := ?_) rfl (by kernel_rfl) (by kernel_rfl) (by kernel_rfl) (fun _ _ _ h => h) (Or.inl ⟨by rfl, ?_⟩) (by assumption) ?_
              rotate_left
              · intro w_ hSw; (try dsimp only at hSw); go_simp; (try with_reducible rfl)
              try simp only [Act.put, List.setIfInBounds_toArray, List.set_cons_zero, List.set_cons_succ]
              refine wpAnyH_take (i := 6) (oi := { dst := some 50, op := Go.Op.convert 5 21 (Go.Operand.tmp 49), type := 21, pos := "calls.go:161", after := #[{ on := 5, ground := Go.Ground.data }, { on := 2, ground := Go.Ground.guard }], guard := some (2, false) }) (v := ?_) rfl (by kernel_rfl) (by kernel_rfl) (by kernel_rfl) (fun _ _ _ h => h) (Or.inl ⟨by rfl, ?_⟩) (by assumption) ?_
              rotate_left
              · intro w_ hSw; (try dsimp only at hSw); go_simp; (try with_reducible rfl)
              try simp only [Act.put, List.setIfInBounds_toArray, List.set_cons_zero, List.set_cons_succ]
              refine wpAnyH_take (i := 7) (oi := { dst := some 51, op := Go.Op.lookup 56 (Go.Operand.tmp 47) (Go.Operand.tmp 50) false, type := 55, pos := "calls.go:161", after := #[{ on := 3, ground := Go.Ground.data }, { on := 6, ground := Go.Ground.data }, { on := 2, ground := Go.Ground.guard }], guard := some (2, false) }) (v := ?_) rfl (by kernel_rfl) (by kernel_rfl) (by kernel_rfl) (fun _ _ _ h => h) (Or.inl ⟨by rfl, ?_⟩) (by assumption) ?_
              rotate_left
              · intro w_ hSw; (try dsimp only at hSw); go_simp; (try with_reducible rfl)
              try simp only [Act.put, List.setIfInBounds_toArray, List.set_cons_zero, List.set_cons_succ]
              refine wpAnyH_take (i := 8) (oi := { dst := some 52, op := Go.Op.field 55 (Go.Operand.tmp 51) 1, type := 53, pos := "calls.go:161", after := #[{ on := 7, ground := Go.Ground.data }, { on := 2, ground := Go.Ground.guard }], guard := some (2, false) }) (v := ?_) rfl (by kernel_rfl) (by kernel_rfl) (by kernel_rfl) (fun _ _ _ h => h) (Or.inl ⟨by rfl, ?_⟩) (by assumption) ?_
              rotate_left
              · intro w_ hSw; (try dsimp only at hSw); go_simp; (try with_reducible rfl)
              try simp only [Act.put, List.setIfInBounds_toArray, List.set_cons_zero, List.set_cons_succ]
              refine wpAnyH_take (i := 9) (oi := { dst := some 53, op := Go.Op.move (Go.Operand.tmp 6), type := 9, pos := "calls.go:161", after := #[{ on := 2, ground := Go.Ground.guard }], guard := some (2, false) }) (v := ?_) rfl (by kernel_rfl) (by kernel_rfl) (by kernel_rfl) (fun _ _ _ h => h) (Or.inl ⟨by rfl, ?_⟩) (by assumption) ?_
              rotate_left
              · intro w_ hSw; (try dsimp only at hSw); go_simp; (try with_reducible rfl)
              try simp only [Act.put, List.setIfInBounds_toArray, List.set_cons_zero, List.set_cons_succ]
              refine wpAnyH_ready (rs := [10]) (by kernel_rfl) (by simp) ?_
              refine AllReadyH.cons rfl (fun K hK => ?_) AllReadyH.nil
              go_simp
              go_at_call 122; refine (read_at (k := 110) (f := 122) rfl hlet b2 c x HX.out W.drew (HLd.below PD.out.hb) PD.out.k2).mono ?_; rintro e w3 ⟨c', he, hk, hv, hg⟩; rw [HR.out] at he; subst he; obtain rfl := hv _ HR.out; have PR := Aside0.mk (PD.out.read hg hk (by have h_ := NS.out; omega) (by have h_ := NS.out; omega)); have KK : Aside0 (KpS Bs Bp Bv W w3) := ⟨kps_read (A := W) (W := W.drew) ⟨fun _ _ _ h => h, fun _ _ _ h => h, fun _ _ _ h => h⟩ hg (by have h_ := NS.out; omega)⟩; have KF : Aside0 (KeepsFrom W1.heap.size W w3) := ⟨((KeepsOthers.drew W).from _).trans (KeepsFrom.of_grownBy hg (fun j e => by cases e; have h_ := NS.out; omega))⟩; clear hk hv hg; simp only [Option.isSome_some, Option.isSome_none]
              go_wp2_with fail
              refine hK.out _ _ ?_ (fun hHeld => ?_)
              · exact ⟨(blk_cell PR.out.k3 0).trans (by rw [TB.out]; rfl), pw_cell_below PR.out.hb hb1.out, hF.out 110 hlet _ (blk_below hb2.out PR.out.hb)⟩
              clear hK K
              try simp only [Act.put, List.setIfInBounds_toArray, List.set_cons_zero, List.set_cons_succ]
              refine wpAnyH_take (i := 11) (oi := { dst := some 55, op := Go.Op.unOp Go.UnOp.not 4 (Go.Operand.tmp 54), type := 4, pos := "calls.go:161", after := #[{ on := 10, ground := Go.Ground.data }, { on := 2, ground := Go.Ground.guard }], guard := some (2, false) }) (v := ?_) rfl (by kernel_rfl) (by kernel_rfl) (by kernel_rfl) (fun _ _ _ h => h) (Or.inl ⟨by rfl, ?_⟩) (by assumption) ?_
              rotate_left
              · intro w_ hSw; (try dsimp only at hSw); go_simp; (try with_reducible rfl)
              try simp only [Act.put, List.setIfInBounds_toArray, List.set_cons_zero, List.set_cons_succ]
              refine wpAnyH_take (i := 12) (oi := { dst := some 56, op := Go.Op.pick (Go.Operand.tmp 46) (Go.Operand.const (Go.Value.bool true)) (Go.Operand.tmp 55), type := 4, pos := "calls.go:161", after := #[{ on := 2, ground := Go.Ground.data }, { on := 11, ground := Go.Ground.data }], guard := none }) (v := ?_) rfl (by kernel_rfl) (by kernel_rfl) (by kernel_rfl) (fun _ _ _ h => h) (Or.inl ⟨by rfl, ?_⟩) (by assumption) ?_
              rotate_left
              · intro w_ hSw; (try dsimp only at hSw); go_simp; (try with_reducible rfl)
              try simp only [Act.put, List.setIfInBounds_toArray, List.set_cons_zero, List.set_cons_succ]
              refine wpAnyH_done (by kernel_rfl) ?_ _
              have y3 : w3.cell? ⟨b3, 0, none⟩ = some (.string tb) := (blk_cell PR.out.k3 0).trans (by rw [TB.out]; rfl)
              have g3 := blk_frozen PR.out.k3 0
              gi_wp2
              exact ⟨KF.out.trans ((KeepsOthers.setCell _ _ _).from _), kps_put KK.out (by have h_ := NS.out; omega) _, ⟨_, HN.out, PR.out.next tb TB.out (by have h_ := NS.out; omega) (by have h_ := NS.out; omega)⟩⟩
            · have hlet : isLet (109 : UInt8) := .inr (.inl rfl)
              have hi0 : ∀ W, (Instr.index 9 (.string tb) (.int .i64 0)).run Tryd.prog W = .ok (.int .u8 109) W := by rw [TB.out]; exact idx0 109 ks
              have hwr : IntKind.i32.wrap 109 = 109 := by rfl
              have hf1 : ∀ W : World, (Instr.field 55 (Value.agg #[.func (.func 123) #[] #[], .func (.func 124) #[] #[]]) 1).run Tryd.prog W = .ok (.func (.func 124) #[] #[]) W := fun W => by kernel_rfl
              have HN : Aside0 (foldP (call0, []) (words (pre ++ [x])) = some (c2, ks)) := ⟨by rw [words_snoc, foldP_snoc x.data.toList HF.out, stepP_cons h0, hr]; rfl⟩
              have HR := Aside0.mk hr
              clear h0 hr
              gi_wp2
              refine round_region_held (S := (fun w' => w'.cell? ⟨b3, 0, none⟩ = some (.string tb) ∧ w'.cell? ⟨1, 0, none⟩ = some (.map (some bm)) ∧ (Instr.lookup 56 (.map (some bm)) (.int .i32 109) false).run Tryd.prog w' = .ok (.agg #[.func (.func 123) #[] #[], .func (.func 124) #[] #[]]) w')) (by kernel_rfl) (by kernel_rfl) (by rintro ⟨a_, w_, h_⟩; exact h_) ?_ (fun hHeld => ?_)
              · exact ⟨(blk_cell PD.out.k3 0).trans (by rw [TB.out]; rfl), pw_cell_below PD.out.hb hb1.out, hF.out 109 hlet _ (blk_below hb2.out PD.out.hb)⟩
              refine wpAnyH_take (i := 0) (oi := { dst := some 44, op := Go.Op.load 9 (Go.Operand.tmp 5), type := 9, pos := "calls.go:161", after := #[], guard := none }) (v := ?_) rfl (by kernel_rfl) (by kernel_rfl) (by kernel_rfl) (fun _ _ _ h => h) (Or.inl ⟨by rfl, ?_⟩) (by assumption) ?_
              rotate_left
              · intro w_ hSw; (try dsimp only at hSw); go_simp; (try with_reducible rfl)
              try simp only [Act.put, List.setIfInBounds_toArray, List.set_cons_zero, List.set_cons_succ]
              refine wpAnyH_take (i := 1) (oi := { dst := some 45, op := Go.Op.binOp Go.BinOp.eql 9 (Go.Operand.tmp 44) (Go.Operand.const (Go.Value.string { data := #[] })) 9, type := 4, pos := "calls.go:161", after := #[{ on := 0, ground := Go.Ground.data }], guard := none }) (v := ?_) rfl (by kernel_rfl) (by kernel_rfl) (by kernel_rfl) (fun _ _ _ h => h) (Or.inl ⟨by rfl, ?_⟩) (by assumption) ?_
              rotate_left
              · intro w_ hSw; (try dsimp only at hSw); go_simp; (try with_reducible rfl)
              try simp only [Act.put, List.setIfInBounds_toArray, List.set_cons_zero, List.set_cons_succ]
              refine wpAnyH_take (i := 2) (oi := { dst := some 46, op := Go.Op.move (Go.Operand.tmp 45), type := 4, pos := "calls.go:161", after := #[{ on := 1, ground := Go.Ground.data }], guard := none }) (v := ?_) rfl (by kernel_rfl) (by kernel_rfl) (by kernel_rfl) (fun _ _ _ h => h) (Or.inl ⟨by rfl, ?_⟩) (by assumption) ?_
              rotate_left
              · intro w_ hSw; (try dsimp only at hSw); go_simp; (try with_reducible rfl)
              try simp only [Act.put, List.setIfInBounds_toArray, List.set_cons_zero, List.set_cons_succ]
              refine wpAnyH_take (i := 3) (oi := { dst := some 47, op := Go.Op.load 56 (Go.Operand.global 1), type := 56, pos := "calls.go:161", after := #[{ on := 2, ground := Go.Ground.guard }], guard := some (2, false) }) (v := ?_) rfl (by kernel_rfl) (by kernel_rfl) (by kernel_rfl) (fun _ _ _ h => h) (Or.inl ⟨by rfl, ?_⟩) (by assumption) ?_
              rotate_left
              · intro w_ hSw; (try dsimp only at hSw); go_simp; (try with_reducible rfl)
              try simp only [Act.put, List.setIfInBounds_toArray, List.set_cons_zero, List.set_cons_succ]
              refine wpAnyH_take (i := 4) (oi := { dst := some 48, op := Go.Op.load 9 (Go.Operand.tmp 5), type := 9, pos := "calls.go:161", after := #[{ on := 2, ground := Go.Ground.guard }], guard := some (2, false) }) (v := ?_) rfl (by kernel_rfl) (by kernel_rfl) (by kernel_rfl) (fun _ _ _ h => h) (Or.inl ⟨by rfl, ?_⟩) (by assumption) ?_
              rotate_left
              · intro w_ hSw; (try dsimp only at hSw); go_simp; (try with_reducible rfl)
              try simp only [Act.put, List.setIfInBounds_toArray, List.set_cons_zero, List.set_cons_succ]
              refine wpAnyH_take (i := 5) (oi := { dst := some 49, op := Go.Op.index 9 (Go.Operand.tmp 48) (Go.Operand.const (Go.Value.int Go.IntKind.i64 0)), type := 5, pos := "calls.go:161", after := #[{ on := 4, ground := Go.Ground.data }, { on := 2, ground := Go.Ground.guard }], guard := some (2, false) }) (v := ?_) rfl (by kernel_rfl) (by kernel_rfl) (by kernel_rfl) (fun _ _ _ h => h) (Or.inl ⟨by rfl, ?_⟩) (by assumption) ?_
              rotate_left
              · intro w_ hSw; (try dsimp only at hSw); go_simp; (try with_reducible rfl)
              try simp only [Act.put, List.setIfInBounds_toArray, List.set_cons_zero, List.set_cons_succ]
              refine wpAnyH_take (i := 6) (oi := { dst := some 50, op := Go.Op.convert 5 21 (Go.Operand.tmp 49), type := 21, pos := "calls.go:161", after := #[{ on := 5, ground := Go.Ground.data }, { on := 2, ground := Go.Ground.guard }], guard := some (2, false) }) (v := ?_) rfl (by kernel_rfl) (by kernel_rfl) (by kernel_rfl) (fun _ _ _ h => h) (Or.inl ⟨by rfl, ?_⟩) (by assumption) ?_
              rotate_left
              · intro w_ hSw; (try dsimp only at hSw); go_simp; (try with_reducible rfl)
              try simp only [Act.put, List.setIfInBounds_toArray, List.set_cons_zero, List.set_cons_succ]
              refine wpAnyH_take (i := 7) (oi := { dst := some 51, op := Go.Op.lookup 56 (Go.Operand.tmp 47) (Go.Operand.tmp 50) false, type := 55, pos := "calls.go:161", after := #[{ on := 3, ground := Go.Ground.data }, { on := 6, ground := Go.Ground.data }, { on := 2, ground := Go.Ground.guard }], guard := some (2, false) }) (v := ?_) rfl (by kernel_rfl) (by kernel_rfl) (by kernel_rfl) (fun _ _ _ h => h) (Or.inl ⟨by rfl, ?_⟩) (by assumption) ?_
              rotate_left
              · intro w_ hSw; (try dsimp only at hSw); go_simp; (try with_reducible rfl)
              try simp only [Act.put, List.setIfInBounds_toArray, List.set_cons_zero, List.set_cons_succ]
              refine wpAnyH_take (i := 8) (oi := { dst := some 52, op := Go.Op.field 55 (Go.Operand.tmp 51) 1, type := 53, pos := "calls.go:161", after := #[{ on := 7, ground := Go.Ground.data }, { on := 2, ground := Go.Ground.guard }], guard := some (2, false) }) (v := ?_) rfl (by kernel_rfl) (by kernel_rfl) (by kernel_rfl) (fun _ _ _ h => h) (Or.inl ⟨by rfl, ?_⟩) (by assumption) ?_
              rotate_left
              · intro w_ hSw; (try dsimp only at hSw); go_simp; (try with_reducible rfl)
              try simp only [Act.put, List.setIfInBounds_toArray, List.set_cons_zero, List.set_cons_succ]
              refine wpAnyH_take (i := 9) (oi := { dst := some 53, op := Go.Op.move (Go.Operand.tmp 6), type := 9, pos := "calls.go:161", after := #[{ on := 2, ground := Go.Ground.guard }], guard := some (2, false) }) (v := ?_) rfl (by kernel_rfl) (by kernel_rfl) (by kernel_rfl) (fun _ _ _ h => h) (Or.inl ⟨by rfl, ?_⟩) (by assumption) ?_
              rotate_left
              · intro w_ hSw; (try dsimp only at hSw); go_simp; (try with_reducible rfl)
              try simp only [Act.put, List.setIfInBounds_toArray, List.set_cons_zero, List.set_cons_succ]
              refine wpAnyH_ready (rs := [10]) (by kernel_rfl) (by simp) ?_
              refine AllReadyH.cons rfl (fun K hK => ?_) AllReadyH.nil
              go_simp
              go_at_call 124; refine (read_at (k := 109) (f := 124) rfl hlet b2 c x HX.out W.drew (HLd.below PD.out.hb) PD.out.k2).mono ?_; rintro e w3 ⟨c', he, hk, hv, hg⟩; rw [HR.out] at he; subst he; obtain rfl := hv _ HR.out; have PR := Aside0.mk (PD.out.read hg hk (by have h_ := NS.out; omega) (by have h_ := NS.out; omega)); have KK : Aside0 (KpS Bs Bp Bv W w3) := ⟨kps_read (A := W) (W := W.drew) ⟨fun _ _ _ h => h, fun _ _ _ h => h, fun _ _ _ h => h⟩ hg (by have h_ := NS.out; omega)⟩; have KF : Aside0 (KeepsFrom W1.heap.size W w3) := ⟨((KeepsOthers.drew W).from _).trans (KeepsFrom.of_grownBy hg (fun j e => by cases e; have h_ := NS.out; omega))⟩; clear hk hv hg; simp only [Option.isSome_some, Option.isSome_none]
              go_wp2_with fail
              refine hK.out _ _ ?_ (fun hHeld => ?_)
              · exact ⟨(blk_cell PR.out.k3 0).trans (by rw [TB.out]; rfl), pw_cell_below PR.out.hb hb1.out, hF.out 109 hlet _ (blk_below hb2.out PR.out.hb)⟩
              clear hK K
              try simp only [Act.put, List.setIfInBounds_toArray, List.set_cons_zero, List.set_cons_succ]
              refine wpAnyH_take (i := 11) (oi := { dst := some 55, op := Go.Op.unOp Go.UnOp.not 4 (Go.Operand.tmp 54), type := 4, pos := "calls.go:161", after := #[{ on := 10, ground := Go.Ground.data }, { on := 2, ground := Go.Ground.guard }], guard := some (2, false) }) (v := ?_) rfl (by kernel_rfl) (by kernel_rfl) (by kernel_rfl) (fun _ _ _ h => h) (Or.inl ⟨by rfl, ?_⟩) (by assumption) ?_
              rotate_left
              · intro w_ hSw; (try dsimp only at hSw); go_simp; (try with_reducible rfl)
              try simp only [Act.put, List.setIfInBounds_toArray, List.set_cons_zero, List.set_cons_succ]
              refine wpAnyH_take (i := 12) (oi := { dst := some 56, op := Go.Op.pick (Go.Operand.tmp 46) (Go.Operand.const (Go.Value.bool true)) (Go.Operand.tmp 55), type := 4, pos := "calls.go:161", after := #[{ on := 2, ground := Go.Ground.data }, { on := 11, ground := Go.Ground.data }], guard := none }) (v := ?_) rfl (by kernel_rfl) (by kernel_rfl) (by kernel_rfl) (fun _ _ _ h => h) (Or.inl ⟨by rfl, ?_⟩) (by assumption) ?_
              rotate_left
              · intro w_ hSw; (try dsimp only at hSw); go_simp; (try with_reducible rfl)
              try simp only [Act.put, List.setIfInBounds_toArray, List.set_cons_zero, List.set_cons_succ]
              refine wpAnyH_done (by kernel_rfl) ?_ _
              have y3 : w3.cell? ⟨b3, 0, none⟩ = some (.string tb) := (blk_cell PR.out.k3 0).trans (by rw [TB.out]; rfl)
              have g3 := blk_frozen PR.out.k3 0
              gi_wp2
              exact ⟨KF.out.trans ((KeepsOthers.setCell _ _ _).from _), kps_put KK.out (by have h_ := NS.out; omega) _, ⟨_, HN.out, PR.out.next tb TB.out (by have h_ := NS.out; omega) (by have h_ := NS.out; omega)⟩⟩
            · have hlet : isLet (116 : UInt8) := .inr (.inr (.inl rfl))
              have hi0 : ∀ W, (Instr.index 9 (.string tb) (.int .i64 0)).run Tryd.prog W = .ok (.int .u8 116) W := by rw [TB.out]; exact idx0 116 ks
              have hwr : IntKind.i32.wrap 116 = 116 := by rfl
              have hf1 : ∀ W : World, (Instr.field 55 (Value.agg #[.func (.func 125) #[] #[], .func (.func 126) #[] #[]]) 1).run Tryd.prog W = .ok (.func (.func 126) #[] #[]) W := fun W => by kernel_rfl
              have HN : Aside0 (foldP (call0, []) (words (pre ++ [x])) = some (c2, ks)) := ⟨by rw [words_snoc, foldP_snoc x.data.toList HF.out, stepP_cons h0, hr]; rfl⟩
              have HR := Aside0.mk hr
              clear h0 hr
              gi_wp2
              refine round_region_held (S := (fun w' => w'.cell? ⟨b3, 0, none⟩ = some (.string tb) ∧ w'.cell? ⟨1, 0, none⟩ = some (.map (some bm)) ∧ (Instr.lookup 56 (.map (some bm)) (.int .i32 116) false).run Tryd.prog w' = .ok (.agg #[.func (.func 125) #[] #[], .func (.func 126) #[] #[]]) w')) (by kernel_rfl) (by kernel_rfl) (by rintro ⟨a_, w_, h_⟩; exact h_) ?_ (fun hHeld => ?_)
              · exact ⟨(blk_cell PD.out.k3 0).trans (by rw [TB.out]; rfl), pw_cell_below PD.out.hb hb1.out, hF.out 116 hlet _ (blk_below hb2.out PD.out.hb)⟩
              refine wpAnyH_take (i := 0) (oi := { dst := some 44, op := Go.Op.load 9 (Go.Operand.tmp 5), type := 9, pos := "calls.go:161", after := #[], guard := none }) (v := ?_) rfl (by kernel_rfl) (by kernel_rfl) (by kernel_rfl) (fun _ _ _ h => h) (Or.inl ⟨by rfl, ?_⟩) (by assumption) ?_
              rotate_left
              · intro w_ hSw; (try dsimp only at hSw); go_simp; (try with_reducible rfl)
              try simp only [Act.put, List.setIfInBounds_toArray, List.set_cons_zero, List.set_cons_succ]
              refine wpAnyH_take (i := 1) (oi := { dst := some 45, op := Go.Op.binOp Go.BinOp.eql 9 (Go.Operand.tmp 44) (Go.Operand.const (Go.Value.string { data := #[] })) 9, type := 4, pos := "calls.go:161", after := #[{ on := 0, ground := Go.Ground.data }], guard := none }) (v := ?_) rfl (by kernel_rfl) (by kernel_rfl) (by kernel_rfl) (fun _ _ _ h => h) (Or.inl ⟨by rfl, ?_⟩) (by assumption) ?_
              rotate_left
              · intro w_ hSw; (try dsimp only at hSw); go_simp; (try with_reducible rfl)
              try simp only [Act.put, List.setIfInBounds_toArray, List.set_cons_zero, List.set_cons_succ]
              refine wpAnyH_take (i := 2) (oi := { dst := some 46, op := Go.Op.move (Go.Operand.tmp 45), type := 4, pos := "calls.go:161", after := #[{ on := 1, ground := Go.Ground.data }], guard := none }) (v := ?_) rfl (by kernel_rfl) (by kernel_rfl) (by kernel_rfl) (fun _ _ _ h => h) (Or.inl ⟨by rfl, ?_⟩) (by assumption) ?_
              rotate_left
              · intro w_ hSw; (try dsimp only at hSw); go_simp; (try with_reducible rfl)
              try simp only [Act.put, List.setIfInBounds_toArray, List.set_cons_zero, List.set_cons_succ]
              refine wpAnyH_take (i := 3) (oi := { dst := some 47, op := Go.Op.load 56 (Go.Operand.global 1), type := 56, pos := "calls.go:161", after := #[{ on := 2, ground := Go.Ground.guard }], guard := some (2, false) }) (v := ?_) rfl (by kernel_rfl) (by kernel_rfl) (by kernel_rfl) (fun _ _ _ h => h) (Or.inl ⟨by rfl, ?_⟩) (by assumption) ?_
              rotate_left
              · intro w_ hSw; (try dsimp only at hSw); go_simp; (try with_reducible rfl)
              try simp only [Act.put, List.setIfInBounds_toArray, List.set_cons_zero, List.set_cons_succ]
              refine wpAnyH_take (i := 4) (oi := { dst := some 48, op := Go.Op.load 9 (Go.Operand.tmp 5), type := 9, pos := "calls.go:161", after := #[{ on := 2, ground := Go.Ground.guard }], guard := some (2, false) }) (v := ?_) rfl (by kernel_rfl) (by kernel_rfl) (by kernel_rfl) (fun _ _ _ h => h) (Or.inl ⟨by rfl, ?_⟩) (by assumption) ?_
              rotate_left
              · intro w_ hSw; (try dsimp only at hSw); go_simp; (try with_reducible rfl)
              try simp only [Act.put, List.setIfInBounds_toArray, List.set_cons_zero, List.set_cons_succ]
              refine wpAnyH_take (i := 5) (oi := { dst := some 49, op := Go.Op.index 9 (Go.Operand.tmp 48) (Go.Operand.const (Go.Value.int Go.IntKind.i64 0)), type := 5, pos := "calls.go:161", after := #[{ on := 4, ground := Go.Ground.data }, { on := 2, ground := Go.Ground.guard }], guard := some (2, false) }) (v := ?_) rfl (by kernel_rfl) (by kernel_rfl) (by kernel_rfl) (fun _ _ _ h => h) (Or.inl ⟨by rfl, ?_⟩) (by assumption) ?_
              rotate_left
              · intro w_ hSw; (try dsimp only at hSw); go_simp; (try with_reducible rfl)
              try simp only [Act.put, List.setIfInBounds_toArray, List.set_cons_zero, List.set_cons_succ]
              refine wpAnyH_take (i := 6) (oi := { dst := some 50, op := Go.Op.convert 5 21 (Go.Operand.tmp 49), type := 21, pos := "calls.go:161", after := #[{ on := 5, ground := Go.Ground.data }, { on := 2, ground := Go.Ground.guard }], guard := some (2, false) }) (v := ?_) rfl (by kernel_rfl) (by kernel_rfl) (by kernel_rfl) (fun _ _ _ h => h) (Or.inl ⟨by rfl, ?_⟩) (by assumption) ?_
              rotate_left
              · intro w_ hSw; (try dsimp only at hSw); go_simp; (try with_reducible rfl)
              try simp only [Act.put, List.setIfInBounds_toArray, List.set_cons_zero, List.set_cons_succ]
              refine wpAnyH_take (i := 7) (oi := { dst := some 51, op := Go.Op.lookup 56 (Go.Operand.tmp 47) (Go.Operand.tmp 50) false, type := 55, pos := "calls.go:161", after := #[{ on := 3, ground := Go.Ground.data }, { on := 6, ground := Go.Ground.data }, { on := 2, ground := Go.Ground.guard }], guard := some (2, false) }) (v := ?_) rfl (by kernel_rfl) (by kernel_rfl) (by kernel_rfl) (fun _ _ _ h => h) (Or.inl ⟨by rfl, ?_⟩) (by assumption) ?_
              rotate_left
              · intro w_ hSw; (try dsimp only at hSw); go_simp; (try with_reducible rfl)
              try simp only [Act.put, List.setIfInBounds_toArray, List.set_cons_zero, List.set_cons_succ]
              refine wpAnyH_take (i := 8) (oi := { dst := some 52, op := Go.Op.field 55 (Go.Operand.tmp 51) 1, type := 53, pos := "calls.go:161", after := #[{ on := 7, ground := Go.Ground.data }, { on := 2, ground := Go.Ground.guard }], guard := some (2, false) }) (v := ?_) rfl (by kernel_rfl) (by kernel_rfl) (by kernel_rfl) (fun _ _ _ h => h) (Or.inl ⟨by rfl, ?_⟩) (by assumption) ?_
              rotate_left
              · intro w_ hSw; (try dsimp only at hSw); go_simp; (try with_reducible rfl)
              try simp only [Act.put, List.setIfInBounds_toArray, List.set_cons_zero, List.set_cons_succ]
              refine wpAnyH_take (i := 9) (oi := { dst := some 53, op := Go.Op.move (Go.Operand.tmp 6), type := 9, pos := "calls.go:161", after := #[{ on := 2, ground := Go.Ground.guard }], guard := some (2, false) }) (v := ?_) rfl (by kernel_rfl) (by kernel_rfl) (by kernel_rfl) (fun _ _ _ h => h) (Or.inl ⟨by rfl, ?_⟩) (by assumption) ?_
              rotate_left
              · intro w_ hSw; (try dsimp only at hSw); go_simp; (try with_reducible rfl)
              try simp only [Act.put, List.setIfInBounds_toArray, List.set_cons_zero, List.set_cons_succ]
              refine wpAnyH_ready (rs := [10]) (by kernel_rfl) (by simp) ?_
              refine AllReadyH.cons rfl (fun K hK => ?_) AllReadyH.nil
              go_simp
              go_at_call 126; refine (read_at (k := 116) (f := 126) rfl hlet b2 c x HX.out W.drew (HLd.below PD.out.hb) PD.out.k2).mono ?_; rintro e w3 ⟨c', he, hk, hv, hg⟩; rw [HR.out] at he; subst he; obtain rfl := hv _ HR.out; have PR := Aside0.mk (PD.out.read hg hk (by have h_ := NS.out; omega) (by have h_ := NS.out; omega)); have KK : Aside0 (KpS Bs Bp Bv W w3) := ⟨kps_read (A := W) (W := W.drew) ⟨fun _ _ _ h => h, fun _ _ _ h => h, fun _ _ _ h => h⟩ hg (by have h_ := NS.out; omega)⟩; have KF : Aside0 (KeepsFrom W1.heap.size W w3) := ⟨((KeepsOthers.drew W).from _).trans (KeepsFrom.of_grownBy hg (fun j e => by cases e; have h_ := NS.out; omega))⟩; clear hk hv hg; simp only [Option.isSome_some, Option.isSome_none]
              go_wp2_with fail
              refine hK.out _ _ ?_ (fun hHeld => ?_)
              · exact ⟨(blk_cell PR.out.k3 0).trans (by rw [TB.out]; rfl), pw_cell_below PR.out.hb hb1.out, hF.out 116 hlet _ (blk_below hb2.out PR.out.hb)⟩
              clear hK K
              try simp only [Act.put, List.setIfInBounds_toArray, List.set_cons_zero, List.set_cons_succ]
              refine wpAnyH_take (i := 11) (oi := { dst := some 55, op := Go.Op.unOp Go.UnOp.not 4 (Go.Operand.tmp 54), type := 4, pos := "calls.go:161", after := #[{ on := 10, ground := Go.Ground.data }, { on := 2, ground := Go.Ground.guard }], guard := some (2, false) }) (v := ?_) rfl (by kernel_rfl) (by kernel_rfl) (by kernel_rfl) (fun _ _ _ h => h) (Or.inl ⟨by rfl, ?_⟩) (by assumption) ?_
              rotate_left
              · intro w_ hSw; (try dsimp only at hSw); go_simp; (try with_reducible rfl)
              try simp only [Act.put, List.setIfInBounds_toArray, List.set_cons_zero, List.set_cons_succ]
              refine wpAnyH_take (i := 12) (oi := { dst := some 56, op := Go.Op.pick (Go.Operand.tmp 46) (Go.Operand.const (Go.Value.bool true)) (Go.Operand.tmp 55), type := 4, pos := "calls.go:161", after := #[{ on := 2, ground := Go.Ground.data }, { on := 11, ground := Go.Ground.data }], guard := none }) (v := ?_) rfl (by kernel_rfl) (by kernel_rfl) (by kernel_rfl) (fun _ _ _ h => h) (Or.inl ⟨by rfl, ?_⟩) (by assumption) ?_
              rotate_left
              · intro w_ hSw; (try dsimp only at hSw); go_simp; (try with_reducible rfl)
              try simp only [Act.put, List.setIfInBounds_toArray, List.set_cons_zero, List.set_cons_succ]
              refine wpAnyH_done (by kernel_rfl) ?_ _
              have y3 : w3.cell? ⟨b3, 0, none⟩ = some (.string tb) := (blk_cell PR.out.k3 0).trans (by rw [TB.out]; rfl)
              have g3 := blk_frozen PR.out.k3 0
              gi_wp2
              exact ⟨KF.out.trans ((KeepsOthers.setCell _ _ _).from _), kps_put KK.out (by have h_ := NS.out; omega) _, ⟨_, HN.out, PR.out.next tb TB.out (by have h_ := NS.out; omega) (by have h_ := NS.out; omega)⟩⟩
            · have hlet : isLet (99 : UInt8) := .inr (.inr (.inr (.inl rfl)))
              have hi0 : ∀ W, (Instr.index 9 (.string tb) (.int .i64 0)).run Tryd.prog W = .ok (.int .u8 99) W := by rw [TB.out]; exact idx0 99 ks
              have hwr : IntKind.i32.wrap 99 = 99 := by rfl
              have hf1 : ∀ W : World, (Instr.field 55 (Value.agg #[.func (.func 127) #[] #[], .func (.func 115) #[] #[]]) 1).run Tryd.prog W = .ok (.func (.func 115) #[] #[]) W := fun W => by kernel_rfl
              have HN : Aside0 (foldP (call0, []) (words (pre ++ [x])) = some (c2, ks)) := ⟨by rw [words_snoc, foldP_snoc x.data.toList HF.out, stepP_cons h0, hr]; rfl⟩
              have HR := Aside0.mk hr
              clear h0 hr
              gi_wp2
              refine round_region_held (S := (fun w' => w'.cell? ⟨b3, 0, none⟩ = some (.string tb) ∧ w'.cell? ⟨1, 0, none⟩ = some (.map (some bm)) ∧ (Instr.lookup 56 (.map (some bm)) (.int .i32 99) false).run Tryd.prog w' = .ok (.agg #[.func (.func 127) #[] #[], .func (.func 115) #[] #[]]) w')) (by kernel_rfl) (by kernel_rfl) (by rintro ⟨a_, w_, h_⟩; exact h_) ?_ (fun hHeld => ?_)
              · exact ⟨(blk_cell PD.out.k3 0).trans (by rw [TB.out]; rfl), pw_cell_below PD.out.hb hb1.out, hF.out 99 hlet _ (blk_below hb2.out PD.out.hb)⟩
              refine wpAnyH_take (i := 0) (oi := { dst := some 44, op := Go.Op.load 9 (Go.Operand.tmp 5), type := 9, pos := "calls.go:161", after := #[], guard := none }) (v := ?_) rfl (by kernel_rfl) (by kernel_rfl) (by kernel_rfl) (fun _ _ _ h => h) (Or.inl ⟨by rfl, ?_⟩) (by assumption) ?_
              rotate_left
              · intro w_ hSw; (try dsimp only at hSw); go_simp; (try with_reducible rfl)
              try simp only [Act.put, List.setIfInBounds_toArray, List.set_cons_zero, List.set_cons_succ]
              refine wpAnyH_take (i := 1) (oi := { dst := some 45, op := Go.Op.binOp Go.BinOp.eql 9 (Go.Operand.tmp 44) (Go.Operand.const (Go.Value.string { data := #[] })) 9, type := 4, pos := "calls.go:161", after := #[{ on := 0, ground := Go.Ground.data }], guard := none }) (v := ?_) rfl (by kernel_rfl) (by kernel_rfl) (by kernel_rfl) (fun _ _ _ h => h) (Or.inl ⟨by rfl, ?_⟩) (by assumption) ?_
              rotate_left
              · intro w_ hSw; (try dsimp only at hSw); go_simp; (try with_reducible rfl)
              try simp only [Act.put, List.setIfInBounds_toArray, List.set_cons_zero, List.set_cons_succ]
              refine wpAnyH_take (i := 2) (oi := { dst := some 46, op := Go.Op.move (Go.Operand.tmp 45), type := 4, pos := "calls.go:161", after := #[{ on := 1, ground := Go.Ground.data }], guard := none }) (v := ?_) rfl (by kernel_rfl) (by kernel_rfl) (by kernel_rfl) (fun _ _ _ h => h) (Or.inl ⟨by rfl, ?_⟩) (by assumption) ?_
              rotate_left
              · intro w_ hSw; (try dsimp only at hSw); go_simp; (try with_reducible rfl)
              try simp only [Act.put, List.setIfInBounds_toArray, List.set_cons_zero, List.set_cons_succ]
              refine wpAnyH_take (i := 3) (oi := { dst := some 47, op := Go.Op.load 56 (Go.Operand.global 1), type := 56, pos := "calls.go:161", after := #[{ on := 2, ground := Go.Ground.guard }], guard := some (2, false) }) (v := ?_) rfl (by kernel_rfl) (by kernel_rfl) (by kernel_rfl) (fun _ _ _ h => h) (Or.inl ⟨by rfl, ?_⟩) (by assumption) ?_
              rotate_left
              · intro w_ hSw; (try dsimp only at hSw); go_simp; (try with_reducible rfl)
              try simp only [Act.put, List.setIfInBounds_toArray, List.set_cons_zero, List.set_cons_succ]
              refine wpAnyH_take (i := 4) (oi := { dst := some 48, op := Go.Op.load 9 (Go.Operand.tmp 5), type := 9, pos := "calls.go:161", after := #[{ on := 2, ground := Go.Ground.guard }], guard := some (2, false) }) (v := ?_) rfl (by kernel_rfl) (by kernel_rfl) (by kernel_rfl) (fun _ _ _ h => h) (Or.inl ⟨by rfl, ?_⟩) (by assumption) ?_
              rotate_left
              · intro w_ hSw; (try dsimp only at hSw); go_simp; (try with_reducible rfl)
              try simp only [Act.put, List.setIfInBounds_toArray, List.set_cons_zero, List.set_cons_succ]
              refine wpAnyH_take (i := 5) (oi := { dst := some 49, op := Go.Op.index 9 (Go.Operand.tmp 48) (Go.Operand.const (Go.Value.int Go.IntKind.i64 0)), type := 5, pos := "calls.go:161", after := #[{ on := 4, ground := Go.Ground.data }, { on := 2, ground := Go.Ground.guard }], guard := some (2, false) }) (v := ?_) rfl (by kernel_rfl) (by kernel_rfl) (by kernel_rfl) (fun _ _ _ h => h) (Or.inl ⟨by rfl, ?_⟩) (by assumption) ?_
              rotate_left
              · intro w_ hSw; (try dsimp only at hSw); go_simp; (try with_reducible rfl)
              try simp only [Act.put, List.setIfInBounds_toArray, List.set_cons_zero, List.set_cons_succ]
              refine wpAnyH_take (i := 6) (oi := { dst := some 50, op := Go.Op.convert 5 21 (Go.Operand.tmp 49), type := 21, pos := "calls.go:161", after := #[{ on := 5, ground := Go.Ground.data }, { on := 2, ground := Go.Ground.guard }], guard := some (2, false) }) (v := ?_) rfl (by kernel_rfl) (by kernel_rfl) (by kernel_rfl) (fun _ _ _ h => h) (Or.inl ⟨by rfl, ?_⟩) (by assumption) ?_
              rotate_left
              · intro w_ hSw; (try dsimp only at hSw); go_simp; (try with_reducible rfl)
              try simp only [Act.put, List.setIfInBounds_toArray, List.set_cons_zero, List.set_cons_succ]
              refine wpAnyH_take (i := 7) (oi := { dst := some 51, op := Go.Op.lookup 56 (Go.Operand.tmp 47) (Go.Operand.tmp 50) false, type := 55, pos := "calls.go:161", after := #[{ on := 3, ground := Go.Ground.data }, { on := 6, ground := Go.Ground.data }, { on := 2, ground := Go.Ground.guard }], guard := some (2, false) }) (v := ?_) rfl (by kernel_rfl) (by kernel_rfl) (by kernel_rfl) (fun _ _ _ h => h) (Or.inl ⟨by rfl, ?_⟩) (by assumption) ?_
              rotate_left
              · intro w_ hSw; (try dsimp only at hSw); go_simp; (try with_reducible rfl)
              try simp only [Act.put, List.setIfInBounds_toArray, List.set_cons_zero, List.set_cons_succ]
              refine wpAnyH_take (i := 8) (oi := { dst := some 52, op := Go.Op.field 55 (Go.Operand.tmp 51) 1, type := 53, pos := "calls.go:161", after := #[{ on := 7, ground := Go.Ground.data }, { on := 2, ground := Go.Ground.guard }], guard := some (2, false) }) (v := ?_) rfl (by kernel_rfl) (by kernel_rfl) (by kernel_rfl) (fun _ _ _ h => h) (Or.inl ⟨by rfl, ?_⟩) (by assumption) ?_
              rotate_left
              · intro w_ hSw; (try dsimp only at hSw); go_simp; (try with_reducible rfl)
              try simp only [Act.put, List.setIfInBounds_toArray, List.set_cons_zero, List.set_cons_succ]
              refine wpAnyH_take (i := 9) (oi := { dst := some 53, op := Go.Op.move (Go.Operand.tmp 6), type := 9, pos := "calls.go:161", after := #[{ on := 2, ground := Go.Ground.guard }], guard := some (2, false) }) (v := ?_) rfl (by kernel_rfl) (by kernel_rfl) (by kernel_rfl) (fun _ _ _ h => h) (Or.inl ⟨by rfl, ?_⟩) (by assumption) ?_
              rotate_left
              · intro w_ hSw; (try dsimp only at hSw); go_simp; (try with_reducible rfl)
              try simp only [Act.put, List.setIfInBounds_toArray, List.set_cons_zero, List.set_cons_succ]
              refine wpAnyH_ready (rs := [10]) (by kernel_rfl) (by simp) ?_
              refine AllReadyH.cons rfl (fun K hK => ?_) AllReadyH.nil
              go_simp
              go_at_call 115; refine (read_at (k := 99) (f := 115) rfl hlet b2 c x HX.out W.drew (HLd.below PD.out.hb) PD.out.k2).mono ?_; rintro e w3 ⟨c', he, hk, hv, hg⟩; rw [HR.out] at he; subst he; obtain rfl := hv _ HR.out; have PR := Aside0.mk (PD.out.read hg hk (by have h_ := NS.out; omega) (by have h_ := NS.out; omega)); have KK : Aside0 (KpS Bs Bp Bv W w3) := ⟨kps_read (A := W) (W := W.drew) ⟨fun _ _ _ h => h, fun _ _ _ h => h, fun _ _ _ h => h⟩ hg (by have h_ := NS.out; omega)⟩; have KF : Aside0 (KeepsFrom W1.heap.size W w3) := ⟨((KeepsOthers.drew W).from _).trans (KeepsFrom.of_grownBy hg (fun j e => by cases e; have h_ := NS.out; omega))⟩; clear hk hv hg; simp only [Option.isSome_some, Option.isSome_none]
              go_wp2_with fail
              refine hK.out _ _ ?_ (fun hHeld => ?_)
              · exact ⟨(blk_cell PR.out.k3 0).trans (by rw [TB.out]; rfl), pw_cell_below PR.out.hb hb1.out, hF.out 99 hlet _ (blk_below hb2.out PR.out.hb)⟩
              clear hK K
              try simp only [Act.put, List.setIfInBounds_toArray, List.set_cons_zero, List.set_cons_succ]
              refine wpAnyH_take (i := 11) (oi := { dst := some 55, op := Go.Op.unOp Go.UnOp.not 4 (Go.Operand.tmp 54), type := 4, pos := "calls.go:161", after := #[{ on := 10, ground := Go.Ground.data }, { on := 2, ground := Go.Ground.guard }], guard := some (2, false) }) (v := ?_) rfl (by kernel_rfl) (by kernel_rfl) (by kernel_rfl) (fun _ _ _ h => h) (Or.inl ⟨by rfl, ?_⟩) (by assumption) ?_
              rotate_left
              · intro w_ hSw; (try dsimp only at hSw); go_simp; (try with_reducible rfl)
              try simp only [Act.put, List.setIfInBounds_toArray, List.set_cons_zero, List.set_cons_succ]
              refine wpAnyH_take (i := 12) (oi := { dst := some 56, op := Go.Op.pick (Go.Operand.tmp 46) (Go.Operand.const (Go.Value.bool true)) (Go.Operand.tmp 55), type := 4, pos := "calls.go:161", after := #[{ on := 2, ground := Go.Ground.data }, { on := 11, ground := Go.Ground.data }], guard := none }) (v := ?_) rfl (by kernel_rfl) (by kernel_rfl) (by kernel_rfl) (fun _ _ _ h => h) (Or.inl ⟨by rfl, ?_⟩) (by assumption) ?_
              rotate_left
              · intro w_ hSw; (try dsimp only at hSw); go_simp; (try with_reducible rfl)
              try simp only [Act.put, List.setIfInBounds_toArray, List.set_cons_zero, List.set_cons_succ]
              refine wpAnyH_done (by kernel_rfl) ?_ _
              have y3 : w3.cell? ⟨b3, 0, none⟩ = some (.string tb) := (blk_cell PR.out.k3 0).trans (by rw [TB.out]; rfl)
              have g3 := blk_frozen PR.out.k3 0
              gi_wp2
              exact ⟨KF.out.trans ((KeepsOthers.setCell _ _ _).from _), kps_put KK.out (by have h_ := NS.out; omega) _, ⟨_, HN.out, PR.out.next tb TB.out (by have h_ := NS.out; omega) (by have h_ := NS.out; omega)⟩⟩
            · have hlet : isLet (107 : UInt8) := .inr (.inr (.inr (.inr rfl)))
              have hi0 : ∀ W, (Instr.index 9 (.string tb) (.int .i64 0)).run Tryd.prog W = .ok (.int .u8 107) W := by rw [TB.out]; exact idx0 107 ks
              have hwr : IntKind.i32.wrap 107 = 107 := by rfl
              have hf1 : ∀ W : World, (Instr.field 55 (Value.agg #[.func (.func 128) #[] #[], .func (.func 129) #[] #[]]) 1).run Tryd.prog W = .ok (.func (.func 129) #[] #[]) W := fun W => by kernel_rfl
              have HN : Aside0 (foldP (call0, []) (words (pre ++ [x])) = some (c2, ks)) := ⟨by rw [words_snoc, foldP_snoc x.data.toList HF.out, stepP_cons h0, hr]; rfl⟩
              have HR := Aside0.mk hr
              clear h0 hr
              gi_wp2
              refine round_region_held (S := (fun w' => w'.cell? ⟨b3, 0, none⟩ = some (.string tb) ∧ w'.cell? ⟨1, 0, none⟩ = some (.map (some bm)) ∧ (Instr.lookup 56 (.map (some bm)) (.int .i32 107) false).run Tryd.prog w' = .ok (.agg #[.func (.func 128) #[] #[], .func (.func 129) #[] #[]]) w')) (by kernel_rfl) (by kernel_rfl) (by rintro ⟨a_, w_, h_⟩; exact h_) ?_ (fun hHeld => ?_)
              · exact ⟨(blk_cell PD.out.k3 0).trans (by rw [TB.out]; rfl), pw_cell_below PD.out.hb hb1.out, hF.out 107 hlet _ (blk_below hb2.out PD.out.hb)⟩
              refine wpAnyH_take (i := 0) (oi := { dst := some 44, op := Go.Op.load 9 (Go.Operand.tmp 5), type := 9, pos := "calls.go:161", after := #[], guard := none }) (v := ?_) rfl (by kernel_rfl) (by kernel_rfl) (by kernel_rfl) (fun _ _ _ h => h) (Or.inl ⟨by rfl, ?_⟩) (by assumption) ?_
              rotate_left
              · intro w_ hSw; (try dsimp only at hSw); go_simp; (try with_reducible rfl)
              try simp only [Act.put, List.setIfInBounds_toArray, List.set_cons_zero, List.set_cons_succ]
              refine wpAnyH_take (i := 1) (oi := { dst := some 45, op := Go.Op.binOp Go.BinOp.eql 9 (Go.Operand.tmp 44) (Go.Operand.const (Go.Value.string { data := #[] })) 9, type := 4, pos := "calls.go:161", after := #[{ on := 0, ground := Go.Ground.data }], guard := none }) (v := ?_) rfl (by kernel_rfl) (by kernel_rfl) (by kernel_rfl) (fun _ _ _ h => h) (Or.inl ⟨by rfl, ?_⟩) (by assumption) ?_
              rotate_left
              · intro w_ hSw; (try dsimp only at hSw); go_simp; (try with_reducible rfl)
              try simp only [Act.put, List.setIfInBounds_toArray, List.set_cons_zero, List.set_cons_succ]
              refine wpAnyH_take (i := 2) (oi := { dst := some 46, op := Go.Op.move (Go.Operand.tmp 45), type := 4, pos := "calls.go:161", after := #[{ on := 1, ground := Go.Ground.data }], guard := none }) (v := ?_) rfl (by kernel_rfl) (by kernel_rfl) (by kernel_rfl) (fun _ _ _ h => h) (Or.inl ⟨by rfl, ?_⟩) (by assumption) ?_
              rotate_left
              · intro w_ hSw; (try dsimp only at hSw); go_simp; (try with_reducible rfl)
              try simp only [Act.put, List.setIfInBounds_toArray, List.set_cons_zero, List.set_cons_succ]
              refine wpAnyH_take (i := 3) (oi := { dst := some 47, op := Go.Op.load 56 (Go.Operand.global 1), type := 56, pos := "calls.go:161", after := #[{ on := 2, ground := Go.Ground.guard }], guard := some (2, false) }) (v := ?_) rfl (by kernel_rfl) (by kernel_rfl) (by kernel_rfl) (fun _ _ _ h => h) (Or.inl ⟨by rfl, ?_⟩) (by assumption) ?_
              rotate_left
              · intro w_ hSw; (try dsimp only at hSw); go_simp; (try with_reducible rfl)
              try simp only [Act.put, List.setIfInBounds_toArray, List.set_cons_zero, List.set_cons_succ]
              refine wpAnyH_take (i := 4) (oi := { dst := some 48, op := Go.Op.load 9 (Go.Operand.tmp 5), type := 9, pos := "calls.go:161", after := #[{ on := 2, ground := Go.Ground.guard }], guard := some (2, false) }) (v := ?_) rfl (by kernel_rfl) (by kernel_rfl) (by kernel_rfl) (fun _ _ _ h => h) (Or.inl ⟨by rfl, ?_⟩) (by assumption) ?_
              rotate_left
              · intro w_ hSw; (try dsimp only at hSw); go_simp; (try with_reducible rfl)
              try simp only [Act.put, List.setIfInBounds_toArray, List.set_cons_zero, List.set_cons_succ]
              refine wpAnyH_take (i := 5) (oi := { dst := some 49, op := Go.Op.index 9 (Go.Operand.tmp 48) (Go.Operand.const (Go.Value.int Go.IntKind.i64 0)), type := 5, pos := "calls.go:161", after := #[{ on := 4, ground := Go.Ground.data }, { on := 2, ground := Go.Ground.guard }], guard := some (2, false) }) (v := ?_) rfl (by kernel_rfl) (by kernel_rfl) (by kernel_rfl) (fun _ _ _ h => h) (Or.inl ⟨by rfl, ?_⟩) (by assumption) ?_
              rotate_left
              · intro w_ hSw; (try dsimp only at hSw); go_simp; (try with_reducible rfl)
              try simp only [Act.put, List.setIfInBounds_toArray, List.set_cons_zero, List.set_cons_succ]
              refine wpAnyH_take (i := 6) (oi := { dst := some 50, op := Go.Op.convert 5 21 (Go.Operand.tmp 49), type := 21, pos := "calls.go:161", after := #[{ on := 5, ground := Go.Ground.data }, { on := 2, ground := Go.Ground.guard }], guard := some (2, false) }) (v := ?_) rfl (by kernel_rfl) (by kernel_rfl) (by kernel_rfl) (fun _ _ _ h => h) (Or.inl ⟨by rfl, ?_⟩) (by assumption) ?_
              rotate_left
              · intro w_ hSw; (try dsimp only at hSw); go_simp; (try with_reducible rfl)
              try simp only [Act.put, List.setIfInBounds_toArray, List.set_cons_zero, List.set_cons_succ]
              refine wpAnyH_take (i := 7) (oi := { dst := some 51, op := Go.Op.lookup 56 (Go.Operand.tmp 47) (Go.Operand.tmp 50) false, type := 55, pos := "calls.go:161", after := #[{ on := 3, ground := Go.Ground.data }, { on := 6, ground := Go.Ground.data }, { on := 2, ground := Go.Ground.guard }], guard := some (2, false) }) (v := ?_) rfl (by kernel_rfl) (by kernel_rfl) (by kernel_rfl) (fun _ _ _ h => h) (Or.inl ⟨by rfl, ?_⟩) (by assumption) ?_
              rotate_left
              · intro w_ hSw; (try dsimp only at hSw); go_simp; (try with_reducible rfl)
              try simp only [Act.put, List.setIfInBounds_toArray, List.set_cons_zero, List.set_cons_succ]
              refine wpAnyH_take (i := 8) (oi := { dst := some 52, op := Go.Op.field 55 (Go.Operand.tmp 51) 1, type := 53, pos := "calls.go:161", after := #[{ on := 7, ground := Go.Ground.data }, { on := 2, ground := Go.Ground.guard }], guard := some (2, false) }) (v := ?_) rfl (by kernel_rfl) (by kernel_rfl) (by kernel_rfl) (fun _ _ _ h => h) (Or.inl ⟨by rfl, ?_⟩) (by assumption) ?_
              rotate_left
              · intro w_ hSw; (try dsimp only at hSw); go_simp; (try with_reducible rfl)
              try simp only [Act.put, List.setIfInBounds_toArray, List.set_cons_zero, List.set_cons_succ]
              refine wpAnyH_take (i := 9) (oi := { dst := some 53, op := Go.Op.move (Go.Operand.tmp 6), type := 9, pos := "calls.go:161", after := #[{ on := 2, ground := Go.Ground.guard }], guard := some (2, false) }) (v := ?_) rfl (by kernel_rfl) (by kernel_rfl) (by kernel_rfl) (fun _ _ _ h => h) (Or.inl ⟨by rfl, ?_⟩) (by assumption) ?_
              rotate_left
              · intro w_ hSw; (try dsimp only at hSw); go_simp; (try with_reducible rfl)
              try simp only [Act.put, List.setIfInBounds_toArray, List.set_cons_zero, List.set_cons_succ]
              refine wpAnyH_ready (rs := [10]) (by kernel_rfl) (by simp) ?_
              refine AllReadyH.cons rfl (fun K hK => ?_) AllReadyH.nil
              go_simp
              go_at_call 129; refine (read_at (k := 107) (f := 129) rfl hlet b2 c x HX.out W.drew (HLd.below PD.out.hb) PD.out.k2).mono ?_; rintro e w3 ⟨c', he, hk, hv, hg⟩; rw [HR.out] at he; subst he; obtain rfl := hv _ HR.out; have PR := Aside0.mk (PD.out.read hg hk (by have h_ := NS.out; omega) (by have h_ := NS.out; omega)); have KK : Aside0 (KpS Bs Bp Bv W w3) := ⟨kps_read (A := W) (W := W.drew) ⟨fun _ _ _ h => h, fun _ _ _ h => h, fun _ _ _ h => h⟩ hg (by have h_ := NS.out; omega)⟩; have KF : Aside0 (KeepsFrom W1.heap.size W w3) := ⟨((KeepsOthers.drew W).from _).trans (KeepsFrom.of_grownBy hg (fun j e => by cases e; have h_ := NS.out; omega))⟩; clear hk hv hg; simp only [Option.isSome_some, Option.isSome_none]
              go_wp2_with fail
              refine hK.out _ _ ?_ (fun hHeld => ?_)
              · exact ⟨(blk_cell PR.out.k3 0).trans (by rw [TB.out]; rfl), pw_cell_below PR.out.hb hb1.out, hF.out 107 hlet _ (blk_below hb2.out PR.out.hb)⟩
              clear hK K
              try simp only [Act.put, List.setIfInBounds_toArray, List.set_cons_zero, List.set_cons_succ]
              refine wpAnyH_take (i := 11) (oi := { dst := some 55, op := Go.Op.unOp Go.UnOp.not 4 (Go.Operand.tmp 54), type := 4, pos := "calls.go:161", after := #[{ on := 10, ground := Go.Ground.data }, { on := 2, ground := Go.Ground.guard }], guard := some (2, false) }) (v := ?_) rfl (by kernel_rfl) (by kernel_rfl) (by kernel_rfl) (fun _ _ _ h => h) (Or.inl ⟨by rfl, ?_⟩) (by assumption) ?_
              rotate_left
              · intro w_ hSw; (try dsimp only at hSw); go_simp; (try with_reducible rfl)
              try simp only [Act.put, List.setIfInBounds_toArray, List.set_cons_zero, List.set_cons_succ]
              refine wpAnyH_take (i := 12) (oi := { dst := some 56, op := Go.Op.pick (Go.Operand.tmp 46) (Go.Operand.const (Go.Value.bool true)) (Go.Operand.tmp 55), type := 4, pos := "calls.go:161", after := #[{ on := 2, ground := Go.Ground.data }, { on := 11, ground := Go.Ground.data }], guard := none }) (v := ?_) rfl (by kernel_rfl) (by kernel_rfl) (by kernel_rfl) (fun _ _ _ h => h) (Or.inl ⟨by rfl, ?_⟩) (by assumption) ?_
              rotate_left
              · intro w_ hSw; (try dsimp only at hSw); go_simp; (try with_reducible rfl)
              try simp only [Act.put, List.setIfInBounds_toArray, List.set_cons_zero, List.set_cons_succ]
              refine wpAnyH_done (by kernel_rfl) ?_ _
              have y3 : w3.cell? ⟨b3, 0, none⟩ = some (.string tb) := (blk_cell PR.out.k3 0).trans (by rw [TB.out]; rfl)
              have g3 := blk_frozen PR.out.k3 0
              gi_wp2
              exact ⟨KF.out.trans ((KeepsOthers.setCell _ _ _).from _), kps_put KK.out (by have h_ := NS.out; omega) _, ⟨_, HN.out, PR.out.next tb TB.out (by have h_ := NS.out; omega) (by have h_ := NS.out; omega)⟩⟩
    case done =>
      rintro D xs W hD hx ⟨⟨c, l⟩, hf, hp⟩ hK
      have hf' : foldP (call0, []) (splitL 32 s.data.toList) = some (c, l) := by rw [← hx]; exact hf
      have HF := Aside0.mk (parse_done HL.out hf')
      have HP := Aside0.mk hp
      have HKK := Aside0.mk hK
      have HD := Aside0.mk hD
      have hN := NS.out
      have ne01 : (b0 = b1) = False := eq_false (by omega)
      have ne10 : (b1 = b0) = False := eq_false (by omega)
      have z0 : W.cell? ⟨b0, 0, none⟩ = some (.int .i64 0) := (blk_cell hp.k0 0).trans rfl
      have z1 : W.cell? ⟨b0, 1, none⟩ = some (.int .i64 0) := (blk_cell hp.k0 1).trans rfl
      have z2 : W.cell? ⟨b0, 2, none⟩ = some (.int .i64 0) := (blk_cell hp.k0 2).trans rfl
      have z3 : W.cell? ⟨b0, 3, none⟩ = some (.int .i64 0) := (blk_cell hp.k0 3).trans rfl
      have z4 : W.cell? ⟨b0, 4, none⟩ = some (.int .i64 0) := (blk_cell hp.k0 4).trans rfl
      have z5 : W.cell? ⟨b0, 5, none⟩ = some (.int .i64 0) := (blk_cell hp.k0 5).trans rfl
      have z6 : W.cell? ⟨b0, 6, none⟩ = some (.int .u64 0) := (blk_cell hp.k0 6).trans rfl
      have y0 : W.cell? ⟨b1, 0, none⟩ = some (.int .i64 0) := (blk_cell hp.k1 0).trans rfl
      have x0 : W.cell? ⟨b2, 0, none⟩ = some (.int .i64 c.op) := (blk_cell hp.k2 0).trans rfl
      have x1 : W.cell? ⟨b2, 1, none⟩ = some (.int .i64 c.slot) := (blk_cell hp.k2 1).trans rfl
      have x2 : W.cell? ⟨b2, 2, none⟩ = some (.int .i64 c.gen) := (blk_cell hp.k2 2).trans rfl
      have x3 : W.cell? ⟨b2, 3, none⟩ = some (.int .i64 c.cpu) := (blk_cell hp.k2 3).trans rfl
      have x4 : W.cell? ⟨b2, 4, none⟩ = some (.int .i64 c.n) := (blk_cell hp.k2 4).trans rfl
      have x5 : W.cell? ⟨b2, 5, none⟩ = some (.int .i64 c.nice) := (blk_cell hp.k2 5).trans rfl
      have x6 : W.cell? ⟨b2, 6, none⟩ = some (.int .u64 c.mask) := (blk_cell hp.k2 6).trans rfl
      have f0 := blk_frozen hp.k0 0
      have f1 := blk_frozen hp.k0 1
      have f2 := blk_frozen hp.k0 2
      have f3 := blk_frozen hp.k0 3
      have f4 := blk_frozen hp.k0 4
      have f5 := blk_frozen hp.k0 5
      have f6 := blk_frozen hp.k0 6
      have g0 := blk_frozen hp.k1 0
      cases l with
      | nil =>
        have z : W.cell? ⟨b3, 0, none⟩ = some (.string ⟨#[]⟩) := (blk_cell hp.k3 0).trans rfl
        clear hp hK hf hf' hx hN hD
        gi_wp2
        have hN := NS.out
        have hD := HD.out
        have hq := set8 (w := w) (W := W) (b0 := b0) (b1 := b1) (D := D) (n := w.heap.size) (.int .i64 c.op) (.int .i64 c.slot) (.int .i64 c.gen) (.int .i64 c.cpu) (.int .i64 c.n) (.int .i64 c.nice) (.int .u64 c.mask) (.int .i64 0) (.int .i64 0) rfl HP.out.k0 HP.out.k1 HKK.out HP.out.hb (by omega) (by omega) (by omega) (by omega) (by omega) _ rfl
        generalize ((((((((W.setCell ⟨b0, 0, none⟩ (.int .i64 c.op)).setCell ⟨b0, 1, none⟩ (.int .i64 c.slot)).setCell ⟨b0, 2, none⟩ (.int .i64 c.gen)).setCell ⟨b0, 3, none⟩ (.int .i64 c.cpu)).setCell ⟨b0, 4, none⟩ (.int .i64 c.n)).setCell ⟨b0, 5, none⟩ (.int .i64 c.nice)).setCell ⟨b0, 6, none⟩ (.int .u64 c.mask)).setCell ⟨b1, 0, none⟩ (.int .i64 0)) = W5 at hq ⊢
        obtain ⟨Q0, Q1, Q2, QB⟩ := hq
        refine ⟨by simp, .inl ⟨_, _, rfl, run_takeDeferred Q2, ?_⟩⟩
        have R0 := (World.putObj_heap_other (w := W5) (o := .deferred none) (show b0 ≠ D by omega)).trans Q0
        have R1 := (World.putObj_heap_other (w := W5) (o := .deferred none) (show b1 ≠ D by omega)).trans Q1
        refine ⟨_, res13 _ _ b0 b1 (callC c) 0 rfl R0 rfl rfl R1, by first | (rw [HF.out]; done) | (rw [HF.out]; rfl), QB.trans (belowK_b (w := w) (Nat.le_refl _) W5 D _ _ (show w.heap.size ≤ D by omega) Q2 rfl rfl)⟩
      | cons k ks =>
        have z : W.cell? ⟨b3, 0, none⟩ = some (.string ⟨(k :: ks).toArray⟩) := (blk_cell hp.k3 0).trans rfl
        have e0 : (⟨(k :: ks).toArray⟩ : ByteArray).toList.isEmpty = false := by rw [ByteArray.toList_eq]; rfl
        generalize (⟨(k :: ks).toArray⟩ : ByteArray) = t at z e0
        have e1 : (!t.toList.isEmpty) = true := by rw [e0]; rfl
        have e2 : (t.toList != []) = true := by cases h : t.toList; (rw [h] at e0; cases e0); rfl
        clear hp hK hf hf' hx hN hD
        gi_wp2
        have hN := NS.out
        have hD := HD.out
        have hq := set8 (w := w) (W := W) (b0 := b0) (b1 := b1) (D := D) (n := w.heap.size) (.int .i64 0) (.int .i64 0) (.int .i64 0) (.int .i64 0) (.int .i64 0) (.int .i64 0) (.int .u64 0) (.int .i64 3) (.int .i64 0) rfl HP.out.k0 HP.out.k1 HKK.out HP.out.hb (by omega) (by omega) (by omega) (by omega) (by omega) _ rfl
        generalize ((((((((W.setCell ⟨b0, 0, none⟩ (.int .i64 0)).setCell ⟨b0, 1, none⟩ (.int .i64 0)).setCell ⟨b0, 2, none⟩ (.int .i64 0)).setCell ⟨b0, 3, none⟩ (.int .i64 0)).setCell ⟨b0, 4, none⟩ (.int .i64 0)).setCell ⟨b0, 5, none⟩ (.int .i64 0)).setCell ⟨b0, 6, none⟩ (.int .u64 0)).setCell ⟨b1, 0, none⟩ (.int .i64 3)) = W5 at hq ⊢
        obtain ⟨Q0, Q1, Q2, QB⟩ := hq
        refine ⟨by simp, .inl ⟨_, _, rfl, run_takeDeferred Q2, ?_⟩⟩
        have R0 := (World.putObj_heap_other (w := W5) (o := .deferred none) (show b0 ≠ D by omega)).trans Q0
        have R1 := (World.putObj_heap_other (w := W5) (o := .deferred none) (show b1 ≠ D by omega)).trans Q1
        refine ⟨_, res13 _ _ b0 b1 (callC call0) 3 rfl R0 rfl rfl R1, by first | (rw [HF.out]; done) | (rw [HF.out]; rfl), QB.trans (belowK_b (w := w) (Nat.le_refl _) W5 D _ _ (show w.heap.size ≤ D by omega) Q2 rfl rfl)⟩
    case stop =>
      rintro D d pre W hD hpre ⟨rfl, hf, hp⟩ hK
      have HF := Aside0.mk (parse_stop HL.out hpre hf)
      have HP := Aside0.mk hp
      have HKK := Aside0.mk hK
      have HD := Aside0.mk hD
      clear hp hK hf hpre hD
      gi_wp2
      have hN := NS.out
      have hD := HD.out
      obtain ⟨W5, hW5⟩ : ∃ W5, W = W5 := ⟨_, rfl⟩
      have Q0 := HP.out.k0
      have Q1 := HP.out.k1
      have Q2 := HKK.out
      have QB := HP.out.hb
      rw [hW5] at Q0 Q1 Q2 QB ⊢
      refine ⟨by simp, .inl ⟨_, _, rfl, run_takeDeferred Q2, ?_⟩⟩
      have R0 := (World.putObj_heap_other (w := W5) (o := .deferred none) (show b0 ≠ D by omega)).trans Q0
      have R1 := (World.putObj_heap_other (w := W5) (o := .deferred none) (show b1 ≠ D by omega)).trans Q1
      refine ⟨_, res13 _ _ b0 b1 (callC call0) 3 rfl R0 rfl rfl R1, by first | (rw [HF.out]; done) | (rw [HF.out]; rfl), QB.trans (belowK_b (w := w) (Nat.le_refl _) W5 D _ _ (show w.heap.size ≤ D by omega) Q2 rfl rfl)⟩
end Go.Proofs.YtilmbpdfdickoaaDoor.Given

/- A range over a function, by a law of our own: the iterator may write memory of its own, what it yields may be a slice, and what a round must keep is named. Over any program. -/
import Derived.RangeFuncNested
import Derived.RangeFuncBound
import Derived.RangeFuncCalls
import Derived.RangeFuncLeaves
namespace Go.Proofs.YtkihoekldklkhaaDoor
open Go.RowKit

/-- An iterator's contract at the world W: N rounds; 'At i vs W1': what may be known of the i-th values; 'Kp vs W1 W2': what a round keeps; 'Step X Y': what the iterator does between rounds. -/
def Iter (F : Fence) (n : Nat) (P : Program) (g : Nat) (lb : Array Value) (At : Nat → Array Value → World → Prop) (Kp : Array Value → World → World → Prop) (Step : World → World → Prop) (N : Nat) (W : World) : Prop :=
  ∀ (l : Nat) (J Jx : Nat → World → Prop), (∀ i X Y, J i X → Step X Y → J i Y) → (∀ i X Y, Jx i X → Step X Y → Jx i Y) →
    (∀ i, i < N → ∀ vs W1, J i W1 → At i vs W1 → YieldAt F (n - 1) P l vs W1 fun e W' => KeepsFrom W.heap.size W1 W' ∧
      ((e = .returned (.bool true) ∧ J (i + 1) W' ∧ Kp vs W1 W') ∨ (e = .returned (.bool false) ∧ Jx (i + 1) W'))) →
    J 0 W → CallsIn F n P g (#[.func (.yield l) #[] #[]] ++ lb) W fun e W' => (∃ v, e = .returned v) ∧ (J N W' ∨ ∃ i, i < N ∧ Jx (i + 1) W')

theorem size_putObj' (X : World) (k : Nat) (o : Obj) : (X.putObj k o).heap.size = X.heap.size := by simp [World.putObj]
/-- How a round may be left. -/
def itPost (B : Nat) (Kp : Array Value → World → World → Prop) (I : Nat → World → Prop) (Ix : Code → Nat → World → Prop) (i : Nat) (vs : Array Value) (W0 W : World) : Exit → Act → World → Prop
  | .normal, _, W' => KeepsFrom B W W' ∧ Kp vs W0 W' ∧ I (i + 1) W'
  | .ret, _, W' => KeepsFrom B W W' ∧ Ix .ret (i + 1) W'
  | .exit id, _, W' => KeepsFrom B W W' ∧ Ix (.exit id) (i + 1) W'
  | .goto t, _, W' => KeepsFrom B W W' ∧ Ix (.goto t) (i + 1) W'
  | .panic _, _, _ => False
  | .outgrown, _, _ => False

/-- What the law's own two blocks may do. -/
def Calm (B : Nat) (p : World → Prop) : Prop := ∀ (X : World) (k : Nat) (o o' : Obj), (k = B ∨ k = B + 1) → X.heap[k]? = some o → o.isCells = false → p X → p (X.putObj k o')

variable {F : Fence} {n : Nat} {P : Program}

theorem wpIn_iter {g : Operand} {ps : Array Tmp} {assign body : Code} {Q : Exit → Act → World → Prop} {a : Act} {w : World}
    (hro : F.round = none) (h1 : 1 ≤ n) {gf : Nat} {lb : Array Value} (hg : a.eval g = .func (.func gf) #[] lb) (hFg : F.fn gf) (eg : ∀ args w, (callFunc gf args).run P w = .ok (.enter gf args) w)
    {At : Nat → Array Value → World → Prop} {Kp : Array Value → World → World → Prop} {Step : World → World → Prop} {N : Nat}
    (hseq : ∀ W1, Below w.heap.size w W1 → W1.heap.size = w.heap.size + 2 → Iter F (n - 1) P gf lb At Kp Step N W1)
    (hS : ∀ X Y, Step X Y → ∀ k, (k = w.heap.size ∨ k = w.heap.size + 1) → k < X.heap.size → Y.heap[k]? = X.heap[k]?)
    (hKp : ∀ vs X, Calm w.heap.size (Kp vs X)) (hps : ∀ i vs X, At i vs X → vs.size = ps.size)
    (I : Nat → World → Prop) (Ix : Code → Nat → World → Prop) (hI : ∀ i, Calm w.heap.size (I i)) (hIx : ∀ c i, Calm w.heap.size (Ix c i))
    (hIS : ∀ i X Y, I i X → Step X Y → I i Y) (hIxS : ∀ c i X Y, Ix c i X → Step X Y → Ix c i Y)
    (h0 : ∀ W1, Below w.heap.size w W1 → W1.heap.size = w.heap.size + 2 → I 0 W1)
    (Ax : Nat → Array Value → World → Act → World → Prop) (hAx : ∀ i vs W0 a', Calm w.heap.size (Ax i vs W0 a'))
    (hassign : ∀ (l i : Nat) (vs : Array Value) (W : World) (K : Act → World → Prop), l = w.heap.size + 1 → i < N → I i W → At i vs W → l < W.heap.size → (∀ a' W', KeepsFrom w.heap.size W W' → Ax i vs W a' W' → K a' W') →
      assign.wpIn (F.inRound l) (n - 1 - 1) P (Exit.then K (fun _ _ _ => False)) { tmps := (ps.zip vs).foldl (fun t (p, v) => t.setIfInBounds p v) a.tmps, defers := [] } W)
    (hbody : ∀ (l i : Nat) (vs : Array Value) (W0 : World) (a' : Act) (W : World), l = w.heap.size + 1 → i < N → (∃ r, W.heap[l]? = some (.loop r)) → Ax i vs W0 a' W →
      body.wpIn (F.inRound l) (n - 1 - 1) P (itPost w.heap.size Kp I Ix i vs W0 W) a' W)
    (hdone : ∀ (D : Nat) (W : World), D = w.heap.size → I N W → W.heap[D]? = some (.deferred (some [])) → Q .normal { a with defers := { target := .collected D, args := #[] } :: a.defers } W)
    (hstop : ∀ (D : Nat) (c : Code) (i : Nat) (W : World), D = w.heap.size → i < N → Ix c (i + 1) W → W.heap[D]? = some (.deferred (some [])) → c.wpIn F n P Q { a with defers := { target := .collected D, args := #[] } :: a.defers } W) :
    (Code.rangeFunc g ps assign body).wpIn F n P Q a w := by
  refine wpIn_rangeFunc ?_
  intro fn hfn
  rw [hro]
  obtain ⟨rec, hrec⟩ : ∃ rec : LoopState → Option Code → Loop, rec = fun st pe => { state := st, pending := pe, fn, tmps := a.tmps, params := ps, assign, body, defers := w.heap.size } := ⟨_, rfl⟩
  obtain ⟨W1, hW1⟩ : ∃ W1, (w.alloc (.deferred (some []))).alloc (.loop (rec .ready none)) = W1 := ⟨_, rfl⟩
  have hL1 : W1.heap[w.heap.size + 1]? = some (.loop (rec .ready none)) := by
    rw [← hW1]; have := World.alloc_heap_new (w.alloc (.deferred (some []))) (.loop (rec .ready none)); rwa [World.size_alloc] at this
  have hK1 : W1.heap[w.heap.size]? = some (.deferred (some [])) := by
    rw [← hW1]; exact (Below.heap_alloc _ _ _ (by simp)).trans (World.alloc_heap_new w _)
  have hb1 : Below w.heap.size w W1 := by
    rw [← hW1]; exact ((Below.refl _ w).alloc (Nat.le_refl _) _).alloc (by simp) _
  have hz1 : W1.heap.size = w.heap.size + 2 := by rw [← hW1]; simp
  refine ⟨w.heap.size + 1, [{ target := .collected w.heap.size, args := #[] }], W1, { target := .fn (.func gf) lb, args := #[.func (.yield (w.heap.size + 1)) #[] #[]] }, W1, gf,
    #[.func (.yield (w.heap.size + 1)) #[] #[]] ++ lb, W1, ?_, ?_, ?_, ?_, fun _ => h1, ?_⟩
  · rw [← hW1, hrec]; exact run_enterLoop_outer _ _ _ _ _
  · simp only [resolve, hg]
    simp [go_sem]
  · intro f' hf'; simp [Target.leads] at hf'; subst hf'; exact hFg
  · simp [invoke, go_sem, eg]
  · refine (hseq W1 hb1 hz1 (w.heap.size + 1)
      (fun i W => I i W ∧ W.heap[w.heap.size + 1]? = some (.loop (rec .ready none)) ∧ W.heap[w.heap.size]? = some (.deferred (some [])))
      (fun i W => ∃ c, Ix c i W ∧ W.heap[w.heap.size + 1]? = some (.loop (rec .done (some c))) ∧ W.heap[w.heap.size]? = some (.deferred (some [])))
      (fun i X Y hs hg' => ⟨hIS i X Y hs.1 hg', (hS X Y hg' _ (.inr rfl) (Array.getElem?_eq_some_iff.1 hs.2.1).1).trans hs.2.1, (hS X Y hg' _ (.inl rfl) (Array.getElem?_eq_some_iff.1 hs.2.2).1).trans hs.2.2⟩)
      (fun i X Y ⟨c, hs1, hs2, hs3⟩ hg' => ⟨c, hIxS c i X Y hs1 hg', (hS X Y hg' _ (.inr rfl) (Array.getElem?_eq_some_iff.1 hs2).1).trans hs2, (hS X Y hg' _ (.inl rfl) (Array.getElem?_eq_some_iff.1 hs3).1).trans hs3⟩)
      ?_ ⟨h0 W1 hb1 hz1, hL1, hK1⟩).mono ?_
    · -- one round
      rintro i hiN vs W ⟨hi, hl, hk⟩ hat
      have hlt : w.heap.size + 1 < W.heap.size := (Array.getElem?_eq_some_iff.1 hl).1
      have hy := run_yield (P := P) (args := vs) hl (by rw [hrec]; exact hps i vs W hat)
      rw [hrec] at hy
      refine ⟨fn, _, assign, body, hy, roundIn_of_wpIn hfn (hassign _ i vs W _ rfl hiN hi hat hlt ?_)⟩
      clear hy
      intro a' Wa hkfa hax
      replace hl := hkfa.same _ _ (by omega) hl rfl
      replace hk := hkfa.same _ _ (Nat.le_refl _) hk rfl
      replace hlt : w.heap.size + 1 < Wa.heap.size := (Array.getElem?_eq_some_iff.1 hl).1
      refine ⟨_, run_beginRound hl (by rw [hrec]), ?_⟩
      have hl2 : (Wa.putObj (w.heap.size + 1) (.loop { rec .ready none with state := .busy })).heap[w.heap.size + 1]? = some (.loop { rec .ready none with state := .busy }) := World.putObj_heap_same hlt
      have hk2 : (Wa.putObj (w.heap.size + 1) (.loop { rec .ready none with state := .busy })).heap[w.heap.size]? = some (.deferred (some [])) := (World.putObj_heap_other (by omega)).trans hk
      refine wpIn_mono (hbody _ i vs W a' _ rfl hiN ⟨_, hl2⟩ (hAx i vs W a' _ _ _ _ (.inr rfl) hl rfl hax)) ?_
      have fin : ∀ (jump : Option Code) (W3 : World), KeepsFrom w.heap.size (Wa.putObj (w.heap.size + 1) (.loop { rec .ready none with state := .busy })) W3 →
          (Instr.endRound (w.heap.size + 1) jump).run P W3 = .ok (.bool jump.isNone) (W3.putObj (w.heap.size + 1) (.loop (rec (if jump.isNone then .ready else .done) jump))) ∧
          W3.heap[w.heap.size + 1]? = some (.loop { rec .ready none with state := .busy }) ∧
          (W3.putObj (w.heap.size + 1) (.loop (rec (if jump.isNone then .ready else .done) jump))).heap[w.heap.size + 1]? = some (.loop (rec (if jump.isNone then .ready else .done) jump)) ∧
          (W3.putObj (w.heap.size + 1) (.loop (rec (if jump.isNone then .ready else .done) jump))).heap[w.heap.size]? = some (.deferred (some [])) := fun jump W3 hk3 => by
        have hl3 := hk3.same _ _ (by omega) hl2 rfl
        have := run_endRound (P := P) jump hl3
        rw [hrec] at this ⊢
        exact ⟨this, by rw [hrec] at hl3; exact hl3, World.putObj_heap_same (Array.getElem?_eq_some_iff.1 hl3).1, (World.putObj_heap_other (by omega)).trans (hk3.same _ _ (Nat.le_refl _) hk2 rfl)⟩
      have kf : ∀ (W3 : World), KeepsFrom w.heap.size (Wa.putObj (w.heap.size + 1) (.loop { rec .ready none with state := .busy })) W3 → ∀ o', KeepsFrom W1.heap.size W (W3.putObj (w.heap.size + 1) o') := fun W3 hk3 o' =>
        ⟨by rw [size_putObj']; exact Nat.le_trans hkfa.size (Nat.le_trans (by rw [size_putObj']; exact Nat.le_refl _) hk3.size), fun k o hk hX hc =>
          (World.putObj_heap_other (by omega)).trans (hk3.same k o (by omega) ((World.putObj_heap_other (by omega)).trans (hkfa.same k o (by omega) hX hc)) hc)⟩
      rintro e a3 W3 hp
      cases e with
      | normal =>
        obtain ⟨hk3, hkp3, hi3⟩ := hp
        obtain ⟨hr, hl3, hl4, hk4⟩ := fin none W3 hk3
        exact ⟨_, _, hr, kf W3 hk3 _, .inl ⟨rfl, ⟨hI _ _ _ _ _ (.inr rfl) hl3 rfl hi3, hl4, hk4⟩, hKp vs W _ _ _ _ (.inr rfl) hl3 rfl hkp3⟩⟩
      | ret =>
        obtain ⟨hk3, hi3⟩ := hp
        obtain ⟨hr, hl3, hl4, hk4⟩ := fin (some .ret) W3 hk3
        exact ⟨_, _, hr, kf W3 hk3 _, .inr ⟨rfl, .ret, hIx _ _ _ _ _ _ (.inr rfl) hl3 rfl hi3, hl4, hk4⟩⟩
      | exit id =>
        obtain ⟨hk3, hi3⟩ := hp
        obtain ⟨hr, hl3, hl4, hk4⟩ := fin (some (.exit id)) W3 hk3
        exact ⟨_, _, hr, kf W3 hk3 _, .inr ⟨rfl, .exit id, hIx _ _ _ _ _ _ (.inr rfl) hl3 rfl hi3, hl4, hk4⟩⟩
      | goto t =>
        obtain ⟨hk3, hi3⟩ := hp
        obtain ⟨hr, hl3, hl4, hk4⟩ := fin (some (.goto t)) W3 hk3
        exact ⟨_, _, hr, kf W3 hk3 _, .inr ⟨rfl, .goto t, hIx _ _ _ _ _ _ (.inr rfl) hl3 rfl hi3, hl4, hk4⟩⟩
      | panic ch => exact hp.elim
      | outgrown => exact hp.elim
    · -- behind the iterator
      rintro e W2 ⟨⟨v, rfl⟩, (⟨hi, hl, hk⟩ | ⟨i, hiN, c, hi, hl, hk⟩)⟩
      · exact ⟨none, _, by have := run_endLoop (P := P) hl (by rw [hrec]; simp); rw [hrec] at this; exact this, hdone _ _ rfl (hI _ _ _ _ _ (.inr rfl) hl rfl hi) ((World.putObj_heap_other (by omega)).trans hk)⟩
      · exact ⟨some c, _, by have := run_endLoop (P := P) hl (by rw [hrec]; simp); rw [hrec] at this; exact this, hstop _ c i _ rfl hiN (hIx c _ _ _ _ _ (.inr rfl) hl rfl hi) ((World.putObj_heap_other (by omega)).trans hk)⟩
end Go.Proofs.YtkihoekldklkhaaDoor

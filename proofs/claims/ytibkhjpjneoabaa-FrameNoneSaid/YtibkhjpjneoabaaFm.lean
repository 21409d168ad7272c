/- Lists of results: what a loop over a step keeps. Hardly any program. -/
import Derived.Test.YtibkhjpjneoabaaFl
import Derived.Test.YtibkhjpjneoabaaSz
namespace Go.Proofs.Ytibkhjpjneoabaa
open Go.RowKit
set_option linter.unusedVariables false
set_option linter.unusedSimpArgs false

/-- A result that lies in a list. -/
structure Fd where
  fr : Fr
  A : Option Addr
  n : Nat
  cp : Nat
def Fd.val (d : Fd) : Value := .slice d.A d.n d.cp
def Fd.cells (d : Fd) : List Value := [.int .i64 (d.fr.at_ : Int), d.val, .int .i64 d.fr.code]
/-- A list of results. -/
structure FrL (w : World) (B : Nat) (v : Value) (ds : List Fd) : Prop where
  own : w.ownsRow B 44 3 v ds.length (ds.flatMap Fd.cells)
  rows : ∀ d ∈ ds, w.ownsRow B 5 1 d.val d.n (d.fr.bytes.map u8)
theorem own_neB {w : World} {B n g sz : Nat} {e t : TypeId} {v : Value} {xs : List Value} {cs : Array Value} (h : w.ownsRow B e sz v n xs) (hg : Blk w g t cs) (ht : t ≠ e) : v.ownBlock ≠ some g := by
  rcases h.2 with ⟨rfl, _⟩ | ⟨g', cap, cur, rfl, _, hh, _⟩
  · simp [Value.ownBlock]
  · intro he
    have hgg : g' = g := by simpa [Value.ownBlock] using he
    subst hgg
    unfold Blk at hg
    rw [hh] at hg
    injection hg with hg
    injection hg with _ ht2
    exact ht ht2.symm
theorem FrL.only {w w' : World} {B : Nat} {v : Value} {ds : List Fd} {p : Nat → Prop} (h : FrL w B v ds) (ho : Only p w w') (h1 : ∀ j, v.ownBlock = some j → ¬ p j) (h2 : ∀ d ∈ ds, ∀ j, d.val.ownBlock = some j → ¬ p j) : FrL w' B v ds :=
  ⟨own_only h.own ho h1, fun d hd => own_only (h.rows d hd) ho (h2 d hd)⟩
theorem FrL.below {w w' : World} {B : Nat} {v : Value} {ds : List Fd} (h : FrL w B v ds) (hb : Below w.heap.size w w') : FrL w' B v ds := h.only (Only.of_below (p := fun _ => False) hb) (fun _ _ x => x) fun _ _ _ _ x => x
/-- What the loop over a step keeps. -/
structure EaI (w W : World) (B r : Nat) (k m c : Int) (v : Value) (s : St) (out v1 : Value) (ds : List Fd) : Prop where
  rd : RdS W B r k m c v1 s
  only : Only (SFo r v) w W
  hat : Hat v v1 w
  frs : FrL W w.heap.size out ds
  apart : ∀ d ∈ ds, ∀ j, d.val.ownBlock = some j → v1.ownBlock ≠ some j
section
variable {w W W2 : World} {B r : Nat} {k m c : Int} {v out v1 v2 : Value} {s s2 : St} {ds : List Fd}
theorem EaI.below (h : EaI w W B r k m c v s out v1 ds) (hb : Below W.heap.size W W2) : EaI w W2 B r k m c v s out v1 ds := ⟨h.rd.below hb, h.only.below hb, h.hat, h.frs.below hb, h.apart⟩
theorem EaI.step (h : EaI w W B r k m c v s out v1 ds) (d : StepD W W2 B r k m c v1 v2 s2) : EaI w W2 B r k m c v s2 out v2 ds := by
  refine ⟨d.rd, h.only.trans d.only h.hat.sfo, h.hat.trans d.hat h.only.size, h.frs.only d.only (fun j hj e => ?_) (fun x hx j hj e => ?_), fun x hx j hj e => ?_⟩
  · rcases e with e | e
    · subst e; exact own_neB h.frs.own h.rd.blk (by decide) hj
    · exact own_neS h.frs.own h.rd.own (by decide) j hj e
  · rcases e with e | e
    · subst e; exact own_neB (h.frs.rows x hx) h.rd.blk (by decide) hj
    · exact h.apart x hx j hj e
  · rcases d.hat with e2 | e2
    · exact h.apart x hx j hj (e2 ▸ e)
    · have := e2 j e
      have := own_lt (h.frs.rows x hx) j hj
      omega
theorem FrL.push {o : Obj} {out2 : Value} {d : Fd} (h : FrL W B out ds) (hd : W.ownsRow B 5 1 d.val d.n (d.fr.bytes.map u8)) (hown : W2.ownsRow B 44 3 out2 (ds.length + 1) (ds.flatMap Fd.cells ++ d.cells)) (hg : (W.alloc o).grownBy W2 out.ownBlock) : FrL W2 B out2 (ds ++ [d]) := by
  refine ⟨by simpa using hown, fun x hx => ?_⟩
  rcases List.mem_append.1 hx with hx | hx
  · exact own_apartS (h.rows x hx) h.own (by decide) hg
  · obtain rfl : x = d := by simpa using hx
    exact own_apartS hd h.own (by decide) hg
end
theorem feedS_snoc (k m c : Int) (l : List UInt8) (x : UInt8) : ∀ s : St, feedS k m c s (l ++ [x]) = ((stepS k m c (feedS k m c s l).1 x).1, (feedS k m c s l).2 ++ (stepS k m c (feedS k m c s l).1 x).2.toList) := by
  induction l with
  | nil => intro s; simp [feedS]
  | cons y l ih => intro s; simp only [List.cons_append, feedS, ih]; simp [List.append_assoc]
theorem openS_at (c : Int) (a : Nat) (l : List UInt8) : True := trivial
theorem stepS_nil (k m c : Int) (s : St) (x : UInt8) (f : Fr) (h : (stepS k m c s x).2 = some f) : (stepS k m c s x).1.held = [] := by
  have hd : ∀ (s : St) (y : UInt8), (damS s x 5).1.held = [] := fun s y => rfl
  have hpu : ∀ (s : St) (y : UInt8), (pushS m c s x y).2 = some f → (pushS m c s x y).1.held = [] := fun s y h => by
    unfold pushS at h ⊢
    split at h
    · rename_i hc; rw [if_pos hc]; rfl
    · cases h
  have hde : ∀ s : St, (delS m c s x).2 = some f → (delS m c s x).1.held = [] := fun s h => by
    unfold delS at h ⊢
    split at h
    · rename_i hc; rw [if_pos hc]
      split at h
      · rename_i hc; rw [if_pos hc]; exact hpu _ _ h
      · rename_i hc; rw [if_neg hc]; rfl
    · rename_i hc; rw [if_neg hc]
      split at h
      · rename_i hc; rw [if_pos hc]; rfl
      · rename_i hc; rw [if_neg hc]
        split at h
        · cases h
        · rename_i hc; rw [if_neg hc]; exact hpu _ _ h
  have hpr : ∀ s : St, (preS m c s x).2 = some f → (preS m c s x).1.held = [] := fun s h => by
    unfold preS at h ⊢
    simp only at h ⊢
    split at h
    · rename_i hc; rw [if_pos hc]
      split at h
      · cases h
      · rename_i hc; rw [if_neg hc]
        split at h
        · rename_i hc; rw [if_pos hc]; rfl
        · rename_i hc; rw [if_neg hc]; rfl
    · rename_i hc; rw [if_neg hc]
      split at h
      · cases h
      · rename_i hc; rw [if_neg hc]; rfl
  have hrd : ∀ s : St, (readB k m c s x).2 = some f → (readB k m c s x).1.held = [] := fun s h => by
    unfold readB at h ⊢
    split at h
    · rename_i hc; rw [if_pos hc]; exact hpr _ h
    · rename_i hc; rw [if_neg hc]; exact hde _ h
  unfold stepS at h ⊢
  split at h
  · cases h
  · rename_i hc; rw [if_neg hc]
    split at h
    · cases h
    · rename_i hc; rw [if_neg hc]
      split at h
      · rename_i hc; rw [if_pos hc]; exact hrd _ h
      · rename_i hc; rw [if_neg hc]
        split at h
        · cases h
        · rename_i hc; rw [if_neg hc]; exact hrd _ h
/-- A step holds one byte more at most, and goes one byte on. -/
theorem stepS_len (k m c : Int) (s : St) (x : UInt8) : (stepS k m c s x).1.held.length ≤ s.held.length + 1 ∧ (stepS k m c s x).1.off = s.off + 1 := by
  have hpu : ∀ (s : St) (y : UInt8), (pushS m c s x y).1.held.length ≤ s.held.length + 1 ∧ (pushS m c s x y).1.off = s.off := fun s y => by
    unfold pushS damS
    split
    · split <;> simp [St.ended]
    · simp
  have hde : ∀ s : St, (delS m c s x).1.held.length ≤ s.held.length + 1 ∧ (delS m c s x).1.off = s.off := fun s => by
    unfold delS
    split
    · split
      · exact hpu _ _
      · unfold damS; split <;> simp [St.ended]
    · split
      · simp [St.ended]
      · split
        · simp
        · exact hpu _ _
  have hpr : ∀ s : St, (preS m c s x).1.held.length ≤ s.held.length + 1 ∧ (preS m c s x).1.off = s.off := fun s => by
    unfold preS
    simp only
    split
    · split
      · simp
      · split <;> simp [St.ended]
    · split <;> simp [St.ended]
  have hrd : ∀ s : St, (readB k m c s x).1.held.length ≤ s.held.length + 1 ∧ (readB k m c s x).1.off = s.off := fun s => by
    unfold readB
    split
    · exact hpr _
    · exact hde _
  unfold stepS
  split
  · simp
  · split
    · simp
    · split
      · exact hrd _
      · split
        · simp
        · exact hrd _
theorem feedS_len (k m c : Int) (l : List UInt8) : ∀ s : St, (feedS k m c s l).1.held.length ≤ s.held.length + l.length ∧ (feedS k m c s l).1.off = s.off + l.length := by
  induction l with
  | nil => intro s; simp [feedS]
  | cons x l ih =>
    intro s
    have h1 := stepS_len k m c s x
    have h2 := ih (stepS k m c s x).1
    simp only [feedS, List.length_cons]
    omega
end Go.Proofs.Ytibkhjpjneoabaa

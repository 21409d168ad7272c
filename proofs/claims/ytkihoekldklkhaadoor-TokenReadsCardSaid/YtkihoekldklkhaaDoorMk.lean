/- Marks of the loops over functions that are behind; what a loop that writes to one row does. -/
import Derived.Test.YtkihoekldklkhaaDoorSl
import Derived.Test.YtkihoekldklkhaaDoorIter
import Derived.Shelf.Abstract
import Derived.Shelf.RegionOpen
import Derived.TacticsInMore
import Derived.LoopNIn
import Derived.LoopIn
import Derived.Deep.DeepMust
namespace Go.Proofs.YtkihoekldklkhaaDoor
open Go.RowKit
set_option linter.unusedVariables false
set_option linter.unusedSimpArgs false
attribute [local go_sem] wide_fn wide_depth wide_fn_in wide_depth_in Oper.semAt_some

structure Still (b : Nat) (X Y : World) : Prop where
  os : Y.os = X.os
  tape : Y.tape = X.tape
  output : Y.output = X.output
  size : X.heap.size ≤ Y.heap.size
  low : ∀ k, k < b → Y.heap[k]? = X.heap[k]?
  cells : ∀ k t cs, Blk X k t cs → Blk Y k t cs
theorem Still.refl (b : Nat) (X : World) : Still b X X := ⟨rfl, rfl, rfl, Nat.le_refl _, fun _ _ => rfl, fun _ _ _ h => h⟩
theorem Still.trans {b : Nat} {X Y Z : World} (h : Still b X Y) (k : Still b Y Z) : Still b X Z := ⟨k.os.trans h.os, k.tape.trans h.tape, k.output.trans h.output, Nat.le_trans h.size k.size, fun i hi => (k.low i hi).trans (h.low i hi), fun i t cs hi => k.cells i t cs (h.cells i t cs hi)⟩
theorem Still.mono {b b' : Nat} {X Y : World} (h : Still b X Y) (hb : b' ≤ b) : Still b' X Y := ⟨h.os, h.tape, h.output, h.size, fun i hi => h.low i (Nat.lt_of_lt_of_le hi hb), h.cells⟩
theorem Still.below {b : Nat} {X Y : World} (h : Below X.heap.size X Y) (hb : b ≤ X.heap.size) : Still b X Y := ⟨h.os, h.tape, h.output, h.size, fun i hi => h.block i (Nat.lt_of_lt_of_le hi hb), fun i t cs hi => hi.below h hi.lt⟩
theorem Still.put {b k : Nat} {X : World} {o o' : Obj} (hX : X.heap[k]? = some o) (ho : o.isCells = false) (hk : b ≤ k) : Still b X (X.putObj k o') :=
  ⟨rfl, rfl, rfl, by rw [size_putObj]; exact Nat.le_refl _, fun i hi => World.putObj_heap_other (by omega), fun i t cs hi => hi.calm hX ho⟩
def mark (D : Nat) : Deferred := { target := .collected D, args := #[] }
structure Marks (b : Nat) (Ds : List Nat) (w : World) : Prop where
  nodup : Ds.Nodup
  there : ∀ D ∈ Ds, b ≤ D ∧ w.heap[D]? = some (.deferred (some []))
theorem Marks.lt {b : Nat} {Ds : List Nat} {w : World} (h : Marks b Ds w) : ∀ D ∈ Ds, D < w.heap.size := fun D hD => (Array.getElem?_eq_some_iff.1 (h.there D hD).2).1
theorem Marks.keeps {b : Nat} {Ds : List Nat} {w w' : World} (h : Marks b Ds w) (hk : KeepsFrom b w w') : Marks b Ds w' := ⟨h.nodup, fun D hD => ⟨(h.there D hD).1, hk.same D _ (h.there D hD).1 (h.there D hD).2 rfl⟩⟩
theorem Marks.put {b k : Nat} {Ds : List Nat} {w : World} (h : Marks b Ds w) (hk : k ∉ Ds) (o : Obj) : Marks b Ds (w.putObj k o) := ⟨h.nodup, fun D hD => ⟨(h.there D hD).1, (World.putObj_heap_other (by rintro rfl; exact hk hD)).trans (h.there D hD).2⟩⟩
theorem leaves_marks2 {F : Fence} {n b : Nat} {P : Program} {fn : Func} {tmps : Array Value} {R : Ending → World → Prop} {v : Value} :
    ∀ (Ds : List Nat) (w : World), Marks b Ds w → (∀ w', Still b w w' → (results fn tmps).run P w' = .ok v w' ∧ R (.returned v) w') → LeavesInM F n P fn tmps R (Ds.map mark) .returning w
  | [], w, _, hR => by
    have := hR w (Still.refl _ _)
    exact ⟨v, this.1, this.2⟩
  | D :: Ds, w, h, hR => by
    have hD := h.there D (by simp)
    refine ⟨by simp, .inl ⟨D, _, rfl, run_takeDeferred hD.2, ?_⟩⟩
    have hnd := List.nodup_cons.1 h.nodup
    exact leaves_marks2 Ds _ (Marks.put ⟨hnd.2, fun E hE => h.there E (by simp [hE])⟩ hnd.1 _) fun w' hs => hR w' ((Still.put hD.2 rfl hD.1).trans hs)
/-- A frame of known size, spelled out. -/
theorem arr_lit (t : Array Value) (n : Nat) (h : t.size = n) : t = ((List.range n).map (fun k => t.getD k undef)).toArray := by
  subst h
  apply Array.ext
  · simp
  · intro i h1 h2
    simp [Array.getElem?_eq_getElem h1]
theorem Still.to_below {b : Nat} {X Y : World} (h : Still b X Y) : Below b X Y := ⟨h.os, h.tape, h.output, h.size, h.low⟩

/-- The number in a cell. -/
def turnOf (v : Value) (W : World) : Nat := match v with
  | .pointer (some p) => (match W.cell? p with | some (.int _ n) => n.toNat | _ => 0)
  | _ => 0
theorem turnOf_blk {W : World} {B t : Nat} (h : Blk W B 3 #[.int .i64 t]) : turnOf (.pointer (some ⟨B, 0, none⟩)) W = t := by
  have := h.cell 0
  simp at this
  simp [turnOf, this]
/-- What a loop that writes to one row does. -/
structure VSt (b g : Nat) (X Y : World) : Prop where
  keeps : KeepsFrom b X Y
  below : ∀ B, B ≤ g → Below B X Y
  same : ∀ k, k ≠ g → Y.heap[k]? = X.heap[k]?
theorem VSt.refl (b g : Nat) (X : World) : VSt b g X X := ⟨KeepsFrom.refl _ _, fun B _ => Below.refl _ _, fun _ _ => rfl⟩
theorem VSt.set {b g i : Nat} {X Y : World} (h : VSt b g X Y) (u : Value) : VSt b g X (Y.setCell ⟨g, i, none⟩ u) :=
  ⟨h.keeps.trans ((KeepsOthers.setCell _ _ _).from _), fun B hB => Below.setCell (h.below B hB) hB _, fun k hk => (Below.heap_setCell _ _ _ _ hk).trans (h.same k hk)⟩
theorem VSt.blk {b g k : Nat} {t : TypeId} {cs : Array Value} {X Y : World} (h : VSt b g X Y) (hk : Blk X k t cs) (hn : k ≠ g) : Blk Y k t cs := (h.same k hn).trans hk
end Go.Proofs.YtkihoekldklkhaaDoor

/- More laws of blocks, own rows and growth. No program. -/
import Derived.Test.YtkihoekldklkhaaDoorLaw3
import Derived.Lib.BufferOwn
namespace Go.Proofs.YtkihoekldklkhaaDoor
open Go.RowKit

theorem Blk.drew {w : World} {g : Nat} {t : TypeId} {cs : Array Value} (h : Blk w g t cs) : Blk w.drew g t cs := h
theorem grown_drew {w w' : World} {r : Option Nat} (h : w.grownBy w' r) : w.grownBy w'.drew r := ⟨h.os, h.tape, h.output, h.size, h.block⟩
theorem grown_trans {a w w' : World} {row : Option Nat} (h : a.grownBy w row) (k : w.grownBy w' row) : a.grownBy w' row :=
  ⟨k.1.trans h.1, k.2.trans h.2, k.3.trans h.3, Nat.le_trans h.4 k.4, fun b hb hr => (k.5 b (Nat.lt_of_lt_of_le hb h.4) hr).trans (h.5 b hb hr)⟩
theorem Below_set (w : World) (b i : Nat) (v : Value) : w.grownBy (w.setCell ⟨b, i, none⟩ v) (some b) := Lib.grownBy_setB (World.grownBy.refl w _) i v
theorem grown_set {a w : World} {b : Nat} (h : a.grownBy w (some b)) (i : Nat) (v : Value) : a.grownBy (w.setCell ⟨b, i, none⟩ v) (some b) := grown_trans h (Below_set w b i v)
theorem grown_of_below {w w' : World} {r : Option Nat} (h : Below w.heap.size w w') : w.grownBy w' r := ⟨h.os, h.tape, h.output, h.size, fun b hb _ => h.block b hb⟩
theorem below_grown {B : Nat} {a w w' : World} {g : Nat} (h : Below B a w) (hB : B ≤ w.heap.size) (hg : B ≤ g) (h2 : w.grownBy w' (some g)) : Below B a w' := h.grown h2 hB (fun k hk => by cases hk; exact hg)
theorem bs_ne {w : World} {A : Option Addr} {l : List UInt8} {n g : Nat} (h : BS w w.heap.size A l) (hl : l.length = n) (hg : w.heap.size ≤ g) : 0 < n → ∀ p : Addr, A = some p → p.block ≠ g := by
  intro h0 p hp
  obtain ⟨b, o, e, hb, _⟩ := h (by omega)
  rw [e] at hp; cases hp
  show b ≠ g
  omega
theorem own_far {w w' : World} {B n sz g : Nat} {e t : TypeId} {v : Value} {xs : List Value} {cs : Array Value} (h : w.ownsRow B e sz v n xs) (hg : Blk w g t cs) (hne : e ≠ t) (hb : w.grownBy w' (some g)) : w'.ownsRow B e sz v n xs := by
  refine h.kept hb (.inr ?_)
  rcases h.2 with ⟨rfl, _⟩ | ⟨g', cap, cur, rfl, _, hh, _⟩
  · simp [Value.ownBlock]
  · intro he
    have hgg : g' = g := by simpa [Value.ownBlock] using he
    subst hgg
    have hq : Blk w g' e cur := hh
    unfold Blk at hq hg
    rw [hq] at hg
    injection hg with hg
    injection hg with _ ht
    exact hne ht
theorem blk_far {w w' : World} {B n sz g : Nat} {e t : TypeId} {v : Value} {xs : List Value} {cs : Array Value} (hg : Blk w g t cs) (h : w.ownsRow B e sz v n xs) (hne : e ≠ t) (hb : w.grownBy w' v.ownBlock) : Blk w' g t cs := by
  refine hg.grown hb ?_
  rcases h.2 with ⟨rfl, _⟩ | ⟨g', cap, cur, rfl, _, hh, _⟩
  · simp [Value.ownBlock]
  · intro he
    have hgg : g = g' := by simpa [Value.ownBlock] using he
    subst hgg
    have hq : Blk w g e cur := hh
    unfold Blk at hq hg
    rw [hq] at hg
    injection hg with hg
    injection hg with _ ht
    exact hne ht
/-- Two slices of the call's own lie apart. -/
def Sep (v u : Value) : Prop := v.ownBlock = none ∨ v.ownBlock ≠ u.ownBlock
theorem own_lt {w : World} {B n sz : Nat} {e : TypeId} {v : Value} {xs : List Value} (h : w.ownsRow B e sz v n xs) : ∀ g, v.ownBlock = some g → g < w.heap.size := fun g hg => (h.lt g hg).2
theorem own_frozen {w : World} {B n cap g k : Nat} {e : TypeId} {xs : List Value} (h : w.ownsRow B e 1 (.slice (some ⟨g, 0, none⟩) n cap) n xs) : w.frozen? ⟨g, k, none⟩ = false := by
  rcases h.2 with ⟨h0, _⟩ | ⟨g', cap', cur, hv, hg, hh, hn, hm, hs, ht⟩
  · cases h0
  · cases hv
    have hb : Blk w g e cur := hh
    exact hb.frozen k
theorem own_store {w : World} {B n cap g k : Nat} {e : TypeId} {xs : List Value} (h : w.ownsRow B e 1 (.slice (some ⟨g, 0, none⟩) n cap) n xs) (u : Value) : (w.setCell ⟨g, k, none⟩ u).ownsRow B e 1 (.slice (some ⟨g, 0, none⟩) n cap) n (xs.set k u) := by
  rcases h.2 with ⟨h0, _⟩ | ⟨g', cap', cur, hv, hg, hh, hn, hm, hs, ht⟩
  · cases h0
  · cases hv
    have hb : Blk w g e cur := hh
    refine ⟨by rw [List.length_set]; exact h.1, .inr ⟨g, cap, cur.setIfInBounds k u, rfl, hg, hb.set_ k u, by omega, hm, by simpa using hs, ?_⟩⟩
    rw [Array.toList_setIfInBounds, List.take_set, ht]
theorem own_take {w : World} {B n m cap : Nat} {A : Option Addr} {e : TypeId} {xs : List Value} (h : w.ownsRow B e 1 (.slice A m cap) m xs) (hn : n ≤ m) : w.ownsRow B e 1 (.slice A n cap) n (xs.take n) := by
  rcases h.2 with ⟨h0, h1⟩ | ⟨g', cap', cur, hv, hg, hh, hnc, hm, hs, ht⟩
  · cases h0
    obtain rfl : n = 0 := by omega
    exact World.ownsRow_nil w B e 1
  · cases hv
    exact own_prefix h hn
end Go.Proofs.YtkihoekldklkhaaDoor

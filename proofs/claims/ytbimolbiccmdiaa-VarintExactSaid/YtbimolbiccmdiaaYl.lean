/- Parts of the walks of VarintForms and VarintExact: marks of loops that are behind, rows of bytes that are written to, the loops' invariants. -/
import Derived.Test.YtbimolbiccmdiaaKn
import Derived.Test.YtbimolbiccmdiaaRefF
import Derived.Test.YtbimolbiccmdiaaLaw3
namespace Go.Proofs.Ytbimolbiccmdiaa
open Go.RowKit
set_option linter.unusedVariables false
set_option linter.unusedSimpArgs false
attribute [local go_sem] wide_fn wide_depth wide_fn_in wide_depth_in Oper.semAt_some

structure Still (b : Nat) (X Y : World) : Prop where
  os : Y.os = X.os
  tape : Y.tape = X.tape
  output : Y.output = X.output
  size : X.heap.size ≤ Y.heap.size
  low : ∀ k, k < b → Y.heap[k]? = X.heap[k]?
  cells : ∀ k t cs, Blk X k t cs → Blk Y k t cs
theorem Still.refl (b : Nat) (X : World) : Still b X X := ⟨rfl, rfl, rfl, Nat.le_refl _, fun _ _ => rfl, fun _ _ _ h => h⟩
theorem Still.trans {b : Nat} {X Y Z : World} (h : Still b X Y) (k : Still b Y Z) : Still b X Z := ⟨k.os.trans h.os, k.tape.trans h.tape, k.output.trans h.output, Nat.le_trans h.size k.size, fun i hi => (k.low i hi).trans (h.low i hi), fun i t cs hi => k.cells i t cs (h.cells i t cs hi)⟩
theorem Still.mono {b b' : Nat} {X Y : World} (h : Still b X Y) (hb : b' ≤ b) : Still b' X Y := ⟨h.os, h.tape, h.output, h.size, fun i hi => h.low i (Nat.lt_of_lt_of_le hi hb), h.cells⟩
theorem Still.below {b : Nat} {X Y : World} (h : Below X.heap.size X Y) (hb : b ≤ X.heap.size) : Still b X Y := ⟨h.os, h.tape, h.output, h.size, fun i hi => h.block i (Nat.lt_of_lt_of_le hi hb), fun i t cs hi => hi.below h hi.lt⟩
theorem Still.put {b k : Nat} {X : World} {o o' : Obj} (hX : X.heap[k]? = some o) (ho : o.isCells = false) (hk : b ≤ k) : Still b X (X.putObj k o') :=
  ⟨rfl, rfl, rfl, by rw [size_putObj]; exact Nat.le_refl _, fun i hi => World.putObj_heap_other (by omega), fun i t cs hi => hi.calm hX ho⟩
def mark (D : Nat) : Deferred := { target := .collected D, args := #[] }
structure Marks (b : Nat) (Ds : List Nat) (w : World) : Prop where
  nodup : Ds.Nodup
  there : ∀ D ∈ Ds, b ≤ D ∧ w.heap[D]? = some (.deferred (some []))
theorem Marks.lt {b : Nat} {Ds : List Nat} {w : World} (h : Marks b Ds w) : ∀ D ∈ Ds, D < w.heap.size := fun D hD => (Array.getElem?_eq_some_iff.1 (h.there D hD).2).1
theorem Marks.keeps {b : Nat} {Ds : List Nat} {w w' : World} (h : Marks b Ds w) (hk : KeepsFrom b w w') : Marks b Ds w' := ⟨h.nodup, fun D hD => ⟨(h.there D hD).1, hk.same D _ (h.there D hD).1 (h.there D hD).2 rfl⟩⟩
theorem Marks.put {b k : Nat} {Ds : List Nat} {w : World} (h : Marks b Ds w) (hk : k ∉ Ds) (o : Obj) : Marks b Ds (w.putObj k o) := ⟨h.nodup, fun D hD => ⟨(h.there D hD).1, (World.putObj_heap_other (by rintro rfl; exact hk hD)).trans (h.there D hD).2⟩⟩
theorem leaves_marks2 {F : Fence} {n b : Nat} {P : Program} {fn : Func} {tmps : Array Value} {R : Ending → World → Prop} {v : Value} :
    ∀ (Ds : List Nat) (w : World), Marks b Ds w → (∀ w', Still b w w' → (results fn tmps).run P w' = .ok v w' ∧ R (.returned v) w') → LeavesInM F n P fn tmps R (Ds.map mark) .returning w
  | [], w, _, hR => by
    have := hR w (Still.refl _ _)
    exact ⟨v, this.1, this.2⟩
  | D :: Ds, w, h, hR => by
    have hD := h.there D (by simp)
    refine ⟨by simp, .inl ⟨D, _, rfl, run_takeDeferred hD.2, ?_⟩⟩
    have hnd := List.nodup_cons.1 h.nodup
    exact leaves_marks2 Ds _ (Marks.put ⟨hnd.2, fun E hE => h.there E (by simp [hE])⟩ hnd.1 _) fun w' hs => hR w' ((Still.put hD.2 rfl hD.1).trans hs)
/-- A frame of known size, spelled out. -/
theorem arr_lit (t : Array Value) (n : Nat) (h : t.size = n) : t = ((List.range n).map (fun k => t.getD k undef)).toArray := by
  subst h
  apply Array.ext
  · simp
  · intro i h1 h2
    simp [Array.getElem?_eq_getElem h1]
theorem Still.to_below {b : Nat} {X Y : World} (h : Still b X Y) : Below b X Y := ⟨h.os, h.tape, h.output, h.size, h.low⟩

theorem own_frozen {w : World} {B n cap g k : Nat} {e : TypeId} {xs : List Value} (h : w.ownsRow B e 1 (.slice (some ⟨g, 0, none⟩) n cap) n xs) : w.frozen? ⟨g, k, none⟩ = false := by
  rcases h.2 with ⟨h0, _⟩ | ⟨g', cap', cur, hv, hg, hh, hn, hm, hs, ht⟩
  · cases h0
  · cases hv
    have hb : Blk w g e cur := hh
    exact hb.frozen k
theorem own_store {w : World} {B n cap g k : Nat} {e : TypeId} {xs : List Value} (h : w.ownsRow B e 1 (.slice (some ⟨g, 0, none⟩) n cap) n xs) (u : Value) : (w.setCell ⟨g, k, none⟩ u).ownsRow B e 1 (.slice (some ⟨g, 0, none⟩) n cap) n (xs.set k u) := by
  rcases h.2 with ⟨h0, _⟩ | ⟨g', cap', cur, hv, hg, hh, hn, hm, hs, ht⟩
  · cases h0
  · cases hv
    have hb : Blk w g e cur := hh
    refine ⟨by rw [List.length_set]; exact h.1, .inr ⟨g, cap, cur.setIfInBounds k u, rfl, hg, hb.set_ k u, by omega, hm, by simpa using hs, ?_⟩⟩
    rw [Array.toList_setIfInBounds, List.take_set, ht]
theorem bs_cell {w : World} {A : Option Addr} {n : Nat} {xs : List Value} {u : Value} (h : Holds w A n xs) {i : Nat} (hi : i < n) (hu : xs[i]? = some u) : ∃ b o, A = some ⟨b, o, none⟩ ∧ w.cell? ⟨b, o + i, none⟩ = some u := by
  cases A with
  | none => have := (h.2.1 rfl).1; omega
  | some p =>
    have hl : xs.length = n := by have := h.1; simpa using this
    have h0 : 0 < xs.length := by omega
    have hc0 := h.2.2 _ rfl 0 xs[0] (by simp)
    have hc := h.2.2 _ rfl i _ hu
    obtain ⟨b, o, spot⟩ := p
    have hs : spot = none := by simpa [Addr.add] using World.cell?_spot hc0
    subst hs
    rw [Addr.add_lit] at hc
    exact ⟨b, o, rfl, hc⟩
/-- Some bytes. -/
def ByteRow (w : World) (B : Nat) (v : Value) (n : Nat) : Prop := ∃ L : List UInt8, L.length = n ∧ w.ownsRow B 5 1 v n (L.map u8)
theorem ByteRow.cell {w : World} {B n k : Nat} {v : Value} (h : ByteRow w B v n) (hk : k < n) : ∃ g cap x, v = .slice (some ⟨g, 0, none⟩) n cap ∧ w.cell? ⟨g, k, none⟩ = some (.int .u8 x) ∧ 0 ≤ x ∧ x < 256 ∧ w.frozen? ⟨g, k, none⟩ = false := by
  obtain ⟨L, hl, ho⟩ := h
  obtain ⟨g, cap, rfl, -, -, -, -, hcs⟩ := own_holds ho (by omega)
  have hkl : k < L.length := by omega
  have hc := hcs k (u8 L[k]) (by rw [List.getElem?_map, List.getElem?_eq_getElem hkl]; rfl)
  rw [Addr.add_lit, Nat.zero_add] at hc
  have := L[k].toNat_lt
  exact ⟨g, cap, _, rfl, hc, by omega, by omega, own_frozen ho⟩
theorem ByteRow.store {w : World} {B n k g cap : Nat} {z : Int} (h : ByteRow w B (.slice (some ⟨g, 0, none⟩) n cap) n) (h0 : 0 ≤ z) (h1 : z < 256) : ByteRow (w.setCell ⟨g, k, none⟩ (.int .u8 z)) B (.slice (some ⟨g, 0, none⟩) n cap) n := by
  obtain ⟨L, hl, ho⟩ := h
  refine ⟨L.set k (UInt8.ofNat z.toNat), by simpa using hl, ?_⟩
  have := own_store ho (k := k) (.int .u8 z)
  rw [List.map_set]
  have e : u8 (UInt8.ofNat z.toNat) = .int .u8 z := by
    unfold u8
    rw [UInt8.toNat_ofNat', Nat.mod_eq_of_lt (by omega), Int.toNat_of_nonneg h0]
  rw [e]
  exact this
theorem ByteRow.of {w : World} {B n : Nat} {v : Value} {L : List UInt8} (h : w.ownsRow B 5 1 v n (L.map u8)) : ByteRow w B v n := ⟨L, by have := h.1; simpa using this, h⟩
/-- The number in a cell. -/
def turnOf (v : Value) (W : World) : Nat := match v with
  | .pointer (some p) => (match W.cell? p with | some (.int _ n) => n.toNat | _ => 0)
  | _ => 0
theorem turnOf_blk {W : World} {B t : Nat} (h : Blk W B 3 #[.int .i64 t]) : turnOf (.pointer (some ⟨B, 0, none⟩)) W = t := by
  have := h.cell 0
  simp at this
  simp [turnOf, this]
/-- What a loop that writes to one row does. -/
structure VSt (b g : Nat) (X Y : World) : Prop where
  keeps : KeepsFrom b X Y
  below : ∀ B, B ≤ g → Below B X Y
  same : ∀ k, k ≠ g → Y.heap[k]? = X.heap[k]?
theorem VSt.refl (b g : Nat) (X : World) : VSt b g X X := ⟨KeepsFrom.refl _ _, fun B _ => Below.refl _ _, fun _ _ => rfl⟩
theorem VSt.set {b g i : Nat} {X Y : World} (h : VSt b g X Y) (u : Value) : VSt b g X (Y.setCell ⟨g, i, none⟩ u) :=
  ⟨h.keeps.trans ((KeepsOthers.setCell _ _ _).from _), fun B hB => Below.setCell (h.below B hB) hB _, fun k hk => (Below.heap_setCell _ _ _ _ hk).trans (h.same k hk)⟩
theorem VSt.blk {b g k : Nat} {t : TypeId} {cs : Array Value} {X Y : World} (h : VSt b g X Y) (hk : Blk X k t cs) (hn : k ≠ g) : Blk Y k t cs := (h.same k hn).trans hk
/-- The range's invariant, and how it is left. -/
structure VI (W7 : World) (Bk Bt : Nat) (Ds : List Nat) (s : Nat) (many : Int) (t j : Nat) (X : World) : Prop where
  k : Blk X Bk 3 #[.int .i64 j]
  bt : Blk X Bt 3 #[.int .i64 t]
  below : Below W7.heap.size W7 X
  marks : Marks W7.heap.size Ds X
  size : s ≤ X.heap.size
  c : t = 0 → j = 0 ∨ (j : Int) < many
structure VX (W7 : World) (Bk Bt : Nat) (Ds : List Nat) (s : Nat) (many : Int) (t : Nat) (cd : Code) (j : Nat) (X : World) : Prop where
  cd : cd = .exit 2
  k : Blk X Bk 3 #[.int .i64 j]
  bt : Blk X Bt 3 #[.int .i64 t]
  below : Below W7.heap.size W7 X
  marks : Marks W7.heap.size Ds X
  size : s ≤ X.heap.size
  t0 : t = 0
  c1 : many ≤ j
  c2 : j = 1 ∨ (j : Int) - 1 < many
  c3 : 1 ≤ j
/-- A round's frame. -/
structure VAx (b v j : Nat) (vs : Array Value) (x : Value) (X : World) : Prop where
  vs : vs = #[x]
  own : X.ownsRow b 5 1 x (k0 v + j + 1) ((formB v (k0 v + j)).map u8)
/-- The loop's invariant. -/
def VLoop (n1 n2 Bv : Nat) (W7 : World) (a : Act) (W : World) : Prop := ∃ (t Bt : Nat) (Ds : List Nat), a.tmps.size = 78 ∧ a.tmps.getD 3 undef = .pointer (some ⟨n1, 0, none⟩) ∧ a.tmps.getD 4 undef = .pointer (some ⟨n1 + 1, 0, none⟩) ∧ a.tmps.getD 5 undef = .func (.func 32) #[] #[.pointer (some ⟨Bv, 0, none⟩)] ∧ a.tmps.getD 6 undef = .pointer (some ⟨n2, 0, none⟩) ∧ a.tmps.getD 7 undef = .pointer (some ⟨Bt, 0, none⟩) ∧ a.defers = Ds.map mark ∧ t ≤ 2 ∧ Blk W Bt 3 #[.int .i64 t] ∧ W7.heap.size ≤ Bt ∧ Below W7.heap.size W7 W ∧ Marks W7.heap.size Ds W

set_option maxRecDepth 100000 in
set_option maxHeartbeats 1000000 in
theorem rforms_no (v : Int) (w : World) (hv : v < 0 ∨ 34359738368 ≤ v) : Calls Try.prog 17 #[.int .i64 v] w fun e w' => e = .returned (.slice none 0 0) ∧ w = w' := by
  have HV := Lib.hid hv
  clear hv
  go_enter Try.func17, Try.ntmps17
  go_wp2_with fail
  go_loopw [3, 4, 5, 6] (fun b i _ _ wr => b = .slice none 0 0 ∧ i = .int .i64 1 ∧ w = wr) (fun _ i _ _ _ => 6 - (intOf i).toNat)
  case atStart => exact ⟨rfl, rfl, rfl⟩
  case round =>
    obtain ⟨rfl, rfl, rfl⟩ := hrel
    go_wp2_with (first | (go_at_call 27; (with_reducible refine (rallowed_no _ _ HV.out).mono ?_); rintro e w' ⟨rfl, rfl⟩))
    go_ret
    exact ⟨rfl, rfl⟩
end Go.Proofs.Ytbimolbiccmdiaa

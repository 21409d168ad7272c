/- Slices of bytes: pieces of them; a world of which only some blocks have turned; clones. -/
import Derived.Test.YtkihoekldklkhaaDoorGr
import Derived.Test.YtkihoekldklkhaaDoorOrd
import Derived.Test.YtkihoekldklkhaaDoorStr
import Derived.BigQuiet
import Derived.Deep.QuietTactic
import Derived.Lib.BytesEntry
import Derived.Laws.ResultCell
import Derived.Test.YtkihoekldklkhaaDoorProg
namespace Go.Proofs.YtkihoekldklkhaaDoor
open Go.RowKit
set_option linter.unusedVariables false
set_option linter.unusedSimpArgs false

/-- A slice that reads as the bytes l. -/
structure RB (W : World) (A : Option Addr) (m c : Nat) (l : List UInt8) : Prop where
  len : l.length = m
  h : Holds W A m (l.map u8)
  mc : m ≤ c
  cm : c ≤ maxLen
  z : A = none → c = 0
theorem RB.nil (W : World) : RB W none 0 0 [] := ⟨rfl, ⟨rfl, fun _ => ⟨rfl, rfl⟩, fun b hb => by cases hb⟩, Nat.le_refl _, by unfold maxLen; omega, fun _ => rfl⟩
theorem RB.below {W W' : World} {A : Option Addr} {m c : Nat} {l : List UInt8} (h : RB W A m c l) (hb : Below W.heap.size W W') : RB W' A m c l := ⟨h.len, h.h.keep hb, h.mc, h.cm, h.z⟩
theorem RB.cells {W W' : World} {A : Option Addr} {m c : Nat} {l : List UInt8} (h : RB W A m c l) (hc : ∀ a, A = some a → ∀ j, W.cell? (a.add j) ≠ none → W'.cell? (a.add j) = W.cell? (a.add j)) : RB W' A m c l :=
  ⟨h.len, ⟨h.h.1, h.h.2.1, fun b hb j u hu => by have h1 := h.h.2.2 b hb j u hu; rw [hc b hb j (by rw [h1]; simp), h1]⟩, h.mc, h.cm, h.z⟩
theorem own_RB {w : World} {B : Nat} {v : Value} {l : List UInt8} {n : Nat} (h : w.ownsRow B 5 1 v n (l.map u8)) : ∃ A c, v = .slice A n c ∧ RB w A n c l := by
  obtain ⟨A, c, rfl, h1, h2, h3, -⟩ := own_form h
  exact ⟨A, c, rfl, by have := h.1; simpa using this, holds_own h, h1, h2, fun e => (h3 e).2⟩
theorem addr_add (a : Addr) (p j : Nat) : (a.add p).add j = a.add (p + j) := by
  obtain ⟨b, o, s⟩ := a
  by_cases hp : p = 0 <;> by_cases hj : j = 0 <;> simp [Addr.add, hp, hj, Nat.add_assoc]
theorem elem22 : Tryd.prog.underlying 68 = some (.slice (Tryd.prog.elem 68)) := by kernel_rfl
theorem size22 (W : World) : (sizeOf (Tryd.prog.elem 68)).run Tryd.prog W = .ok 1 W := by kernel_rfl
/-- Where a piece lies. -/
def Within (A A' : Option Addr) : Prop := ∀ a, A' = some a → ∃ a0, A = some a0 ∧ a.block = a0.block ∧ (a0.spot = none → a.spot = none)
theorem sliced_RB (W : World) (A : Option Addr) (m c p q r : Nat) (l : List UInt8) (h : RB W A m c l) (hp : p ≤ q) (hq : q ≤ m) (hr : q ≤ r) (hc : r ≤ c) (hA : A = none → r = 0) :
    ∃ A' c', sliced A p q r 1 = .slice A' (q - p) c' ∧ RB W A' (q - p) c' ((l.take q).drop p) ∧ Within A A' := by
  have hl := h.len
  cases A with
  | none =>
    have h0 : m = 0 := (h.h.2.1 rfl).1
    have hc0 := h.z rfl
    have hr0 := hA rfl
    subst h0 hc0 hr0
    obtain rfl : q = 0 := by omega
    obtain rfl : p = 0 := by omega
    obtain rfl : l = [] := List.eq_nil_of_length_eq_zero hl
    exact ⟨none, 0, by simp [sliced], RB.nil W, fun a ha => by cases ha⟩
  | some a =>
    refine ⟨some (if r = p then a else a.add (p * 1)), r - p, by simp [sliced]; split <;> rfl, ⟨by simp; omega, ⟨by simp; omega, (fun e => by cases e), fun b hb j u hu => ?_⟩, by omega, Nat.le_trans (Nat.sub_le _ _) (Nat.le_trans hc h.cm), fun e => by cases e⟩, fun b hb => by
      cases hb
      refine ⟨a, rfl, ?_⟩
      split
      · exact ⟨rfl, fun h => h⟩
      · by_cases h0 : p = 0 <;> simp [Addr.add, h0]⟩
    have hj : j < q - p := by
      have := (List.getElem?_eq_some_iff.1 hu).1
      simp at this
      omega
    rw [if_neg (by omega)] at hb
    cases hb
    rw [addr_add]
    refine h.h.2.2 a rfl _ u ?_
    rw [← hu, List.map_drop, List.map_take, List.getElem?_drop, List.getElem?_take_of_lt (by omega), Nat.mul_one]
theorem slice_from (W : World) (A : Option Addr) (m c p : Nat) (l : List UInt8) (h : RB W A m c l) (hp : p ≤ m) : ∃ A' c', (∀ W' : World, (Instr.slice 68 (.slice A m c) (some (.int .i64 (p : Int))) none none).run Tryd.prog W' = .ok (.slice A' (m - p) c') W') ∧ RB W A' (m - p) c' (l.drop p) ∧ Within A A' := by
  obtain ⟨A', c', h1, h2, h3⟩ := sliced_RB W A m c p m c l h hp (Nat.le_refl _) h.mc (Nat.le_refl _) h.z
  rw [List.take_of_length_le (Nat.le_of_eq h.len)] at h2
  exact ⟨A', c', fun W' => by rw [run_slice_l W' 68 A m c elem22 .i64 (p : Int) (by omega) (by omega), size22, ← h1]; rfl, h2, h3⟩
theorem slice_to (W : World) (A : Option Addr) (m c q : Nat) (l : List UInt8) (h : RB W A m c l) (hq : q ≤ m) : ∃ A' c', (∀ W' : World, (Instr.slice 68 (.slice A m c) none (some (.int .i64 (q : Int))) none).run Tryd.prog W' = .ok (.slice A' q c') W') ∧ RB W A' q c' (l.take q) ∧ Within A A' := by
  obtain ⟨A', c', h1, h2, h3⟩ := sliced_RB W A m c 0 q c l h (by omega) hq (by have := h.mc; omega) (Nat.le_refl _) h.z
  exact ⟨A', c', fun W' => by rw [run_slice_h W' 68 A m c elem22 .i64 (q : Int) (by omega) (by have := h.mc; omega), size22, ← Nat.sub_zero q, ← h1]; rfl, h2, h3⟩
theorem slice_to2 (W : World) (A : Option Addr) (m c q : Nat) (l : List UInt8) (h : RB W A m c l) (hq : q ≤ m) : ∃ A' c', (∀ W' : World, (Instr.slice 68 (.slice A m c) none (some (.int .i64 (q : Int))) (some (.int .i64 (q : Int)))).run Tryd.prog W' = .ok (.slice A' q c') W') ∧ RB W A' q c' (l.take q) ∧ Within A A' := by
  obtain ⟨A', c', h1, h2, h3⟩ := sliced_RB W A m c 0 q q l h (by omega) hq (by omega) (by have := h.mc; omega) (fun e => by have := (h.h.2.1 e).1; omega)
  exact ⟨A', c', fun W' => by rw [run_slice_hm W' 68 A m c elem22 .i64 .i64 (q : Int) (q : Int) (by omega) (by omega) (by have := h.mc; omega), size22, ← Nat.sub_zero q, ← h1]; rfl, h2, h3⟩
theorem slice_in (W : World) (A : Option Addr) (m c p q : Nat) (l : List UInt8) (h : RB W A m c l) (hp : p ≤ q) (hq : q ≤ m) : ∃ A' c', (∀ W' : World, (Instr.slice 68 (.slice A m c) (some (.int .i64 (p : Int))) (some (.int .i64 (q : Int))) none).run Tryd.prog W' = .ok (.slice A' (q - p) c') W') ∧ RB W A' (q - p) c' ((l.take q).drop p) ∧ Within A A' := by
  obtain ⟨A', c', h1, h2, h3⟩ := sliced_RB W A m c p q c l h hp hq (by have := h.mc; omega) (Nat.le_refl _) h.z
  exact ⟨A', c', fun W' => by rw [run_slice_lh W' 68 A m c elem22 .i64 .i64 (p : Int) (q : Int) (by omega) (by omega) (by have := h.mc; omega), size22, ← h1]; rfl, h2, h3⟩

/-- Only the blocks of p may have turned. -/
structure Only (p : Nat → Prop) (w w' : World) : Prop where
  os : w'.os = w.os
  tape : w'.tape = w.tape
  output : w'.output = w.output
  size : w.heap.size ≤ w'.heap.size
  block : ∀ k, k < w.heap.size → ¬ p k → w'.heap[k]? = w.heap[k]?
theorem Only.refl (p : Nat → Prop) (w : World) : Only p w w := ⟨rfl, rfl, rfl, Nat.le_refl _, fun _ _ _ => rfl⟩
theorem Only.trans {p q : Nat → Prop} {w w1 w2 : World} (h : Only p w w1) (k : Only q w1 w2) (hq : ∀ b, b < w.heap.size → q b → p b) : Only p w w2 :=
  ⟨k.os.trans h.os, k.tape.trans h.tape, k.output.trans h.output, Nat.le_trans h.size k.size, fun b hb hp => (k.block b (Nat.lt_of_lt_of_le hb h.size) fun hx => hp (hq b hb hx)).trans (h.block b hb hp)⟩
theorem Only.of_below {p : Nat → Prop} {w w' : World} (h : Below w.heap.size w w') : Only p w w' := ⟨h.os, h.tape, h.output, h.size, fun b hb _ => h.block b hb⟩
theorem Only.below {p : Nat → Prop} {w w1 w2 : World} (h : Only p w w1) (k : Below w1.heap.size w1 w2) : Only p w w2 := h.trans (Only.of_below (p := p) k) fun _ _ x => x
theorem Only.after {p : Nat → Prop} {w w1 w2 : World} (h : Below w.heap.size w w1) (k : Only p w1 w2) : Only p w w2 := (Only.of_below (p := p) h).trans k fun _ _ x => x
theorem Only.mono {p q : Nat → Prop} {w w' : World} (h : Only p w w') (hq : ∀ b, b < w.heap.size → p b → q b) : Only q w w' := ⟨h.os, h.tape, h.output, h.size, fun b hb hn => h.block b hb fun hx => hn (hq b hb hx)⟩
theorem Only.to_below {p : Nat → Prop} {B : Nat} {w w' : World} (h : Only p w w') (hB : B ≤ w.heap.size) (hp : ∀ b, b < B → ¬ p b) : Below B w w' := ⟨h.os, h.tape, h.output, h.size, fun b hb => h.block b (by omega) (hp b hb)⟩
theorem Only.set {p : Nat → Prop} {a w : World} (h : Only p a w) {g : Nat} (hg : g < a.heap.size → p g) (i : Nat) (v : Value) : Only p a (w.setCell ⟨g, i, none⟩ v) :=
  ⟨h.os, h.tape, h.output, by rw [World.size_setCell]; exact h.size, fun b hb hn => (Below.heap_setCell _ _ _ _ (by rintro rfl; exact hn (hg hb))).trans (h.block b hb hn)⟩
theorem Only.grown {p : Nat → Prop} {a w w' : World} {r : Option Nat} (h : Only p a w) (hg : w.grownBy w' r) (hr : ∀ g, r = some g → g < a.heap.size → p g) : Only p a w' :=
  ⟨hg.os.trans h.os, hg.tape.trans h.tape, hg.output.trans h.output, Nat.le_trans h.size hg.size, fun b hb hn => (hg.block b (Nat.lt_of_lt_of_le hb h.size) (fun e => hn (hr b e.symm hb))).trans (h.block b hb hn)⟩
theorem Blk.only {p : Nat → Prop} {w w' : World} {g : Nat} {t : TypeId} {cs : Array Value} (hg : Blk w g t cs) (h : Only p w w') (hp : ¬ p g) : Blk w' g t cs := (h.block g hg.lt hp).trans hg
theorem own_only {p : Nat → Prop} {w w' : World} {B n : Nat} {v : Value} {xs : List Value} {e : TypeId} {sz : Nat} (hg : w.ownsRow B e sz v n xs) (h : Only p w w') (hp : ∀ k, v.ownBlock = some k → ¬ p k) : w'.ownsRow B e sz v n xs :=
  own_keeps hg fun k hk => h.block k (own_lt hg k hk) (hp k hk)
theorem RB.only {p : Nat → Prop} {W W' : World} {A : Option Addr} {m c : Nat} {l : List UInt8} (h : RB W A m c l) (ho : Only p W W') (hp : ∀ a, A = some a → 0 < m → ¬ p a.block) : RB W' A m c l := by
  refine ⟨h.len, ⟨h.h.1, h.h.2.1, fun b hb j u hu => ?_⟩, h.mc, h.cm, h.z⟩
  have h1 := h.h.2.2 b hb j u hu
  have hm : 0 < m := by
    have := (List.getElem?_eq_some_iff.1 hu).1
    have := h.h.1
    omega
  have hlt := World.block_lt_of_cell? _ _ h1
  have hbk : (b.add j).block = b.block := by unfold Addr.add; split <;> rfl
  rw [hbk] at hlt
  have h2 := ho.block b.block hlt (hp b hb hm)
  rw [← h1]
  unfold World.cell?
  rw [hbk, h2]

set_option maxRecDepth 100000 in
theorem el22 : El Tryd.prog 68 5 1 := El.mk' (z := .int .u8 0) Tryd.underlying68 (by kernel_rfl) rfl
/-- The ends of a function that returns fresh cells of bytes. -/
def Fresh (w : World) (l : List UInt8) (r : Value → Value) (en : Ending) (w' : World) : Prop := ∃ v, en = .returned (r v) ∧ w'.ownsRow w.heap.size 5 1 v l.length (l.map u8) ∧ Below w.heap.size w w'

variable {w w' : World} {A : Option Addr} {n c : Nat}
theorem RB.lt {l : List UInt8} (h : RB w A n c l) (h0 : 0 < n) {ad : Addr} (hA : A = some ad) : ad.block < w.heap.size := by
  have hl : 0 < l.length := by rw [h.len]; exact h0
  have h1 := h.h.2.2 ad hA 0 (u8 l[0]) (by simp [List.getElem?_eq_getElem hl])
  have h2 := World.block_lt_of_cell? _ _ h1
  have hbk : (ad.add 0).block = ad.block := by unfold Addr.add; split <;> rfl
  rwa [hbk] at h2
/-- A block that is no byte row is not the row's block. -/
theorem own_ne {w : World} {B n g : Nat} {t : TypeId} {v : Value} {xs : List Value} {cs : Array Value} (h : w.ownsRow B 5 1 v n xs) (hg : Blk w g t cs) (ht : t ≠ 5) : v.ownBlock ≠ some g := by
  rcases h.2 with ⟨rfl, _⟩ | ⟨g', cap, cur, rfl, _, hh, _⟩
  · simp [Value.ownBlock]
  · intro he
    have hgg : g' = g := by simpa [Value.ownBlock] using he
    subst hgg
    have hq : Blk w g' 5 cur := hh
    unfold Blk at hq hg
    rw [hq] at hg
    injection hg with hg
    injection hg with _ ht2
    exact ht ht2.symm

def ByteRow (w : World) (B : Nat) (v : Value) (n : Nat) : Prop := ∃ L : List UInt8, L.length = n ∧ w.ownsRow B 5 1 v n (L.map u8)
theorem ByteRow.cell {w : World} {B n k : Nat} {v : Value} (h : ByteRow w B v n) (hk : k < n) : ∃ g cap x, v = .slice (some ⟨g, 0, none⟩) n cap ∧ w.cell? ⟨g, k, none⟩ = some (.int .u8 x) ∧ 0 ≤ x ∧ x < 256 ∧ w.frozen? ⟨g, k, none⟩ = false := by
  obtain ⟨L, hl, ho⟩ := h
  obtain ⟨g, cap, rfl, -, -, -, -, hcs⟩ := own_holds ho (by omega)
  have hkl : k < L.length := by omega
  have hc := hcs k (u8 L[k]) (by rw [List.getElem?_map, List.getElem?_eq_getElem hkl]; rfl)
  rw [Addr.add_lit, Nat.zero_add] at hc
  have := L[k].toNat_lt
  exact ⟨g, cap, _, rfl, hc, by omega, by omega, own_frozen ho⟩
theorem ByteRow.store {w : World} {B n k g cap : Nat} {z : Int} (h : ByteRow w B (.slice (some ⟨g, 0, none⟩) n cap) n) (h0 : 0 ≤ z) (h1 : z < 256) : ByteRow (w.setCell ⟨g, k, none⟩ (.int .u8 z)) B (.slice (some ⟨g, 0, none⟩) n cap) n := by
  obtain ⟨L, hl, ho⟩ := h
  refine ⟨L.set k (UInt8.ofNat z.toNat), by simpa using hl, ?_⟩
  have := own_store ho (k := k) (.int .u8 z)
  rw [List.map_set]
  have e : u8 (UInt8.ofNat z.toNat) = .int .u8 z := by
    unfold u8
    rw [UInt8.toNat_ofNat', Nat.mod_eq_of_lt (by omega), Int.toNat_of_nonneg h0]
  rw [e]
  exact this
theorem ByteRow.drew {w : World} {B n : Nat} {v : Value} (h : ByteRow w B v n) : ByteRow w.drew B v n := by
  obtain ⟨L, hl, ho⟩ := h
  exact ⟨L, hl, own_drew ho⟩
theorem ByteRow.of {w : World} {B n : Nat} {v : Value} {L : List UInt8} (h : w.ownsRow B 5 1 v n (L.map u8)) : ByteRow w B v n := ⟨L, by have := h.1; simpa using this, h⟩
theorem ByteRow.form {w : World} {B n : Nat} {v : Value} (h : ByteRow w B v n) : ∃ A cap, v = .slice A n cap := by
  obtain ⟨L, hl, ho⟩ := h
  obtain ⟨A, cap, e, -⟩ := own_form ho
  exact ⟨A, cap, e⟩

theorem Blk.ne {w : World} {g g2 : Nat} {t t2 : TypeId} {cs ds : Array Value} (h : Blk w g t cs) (k : Blk w g2 t2 ds) (ht : t ≠ t2) : g ≠ g2 := by
  rintro rfl
  unfold Blk at h k
  rw [h] at k
  injection k with k
  injection k with _ k2
  exact ht k2
theorem own_ne2 {w : World} {B B2 n n2 : Nat} {v v2 : Value} {xs ys : List Value} (h : w.ownsRow B 5 1 v n xs) (k : w.ownsRow B2 5 1 v2 n2 ys) (hb : ∀ j, v2.ownBlock = some j → j < B) : ∀ j, v.ownBlock = some j → v2.ownBlock ≠ some j := fun j hj e => by
  have := (h.lt j hj).1
  have := hb j e
  omega
/-- A fresh row of bytes that a literal makes. -/
theorem RB.lit (w : World) (l : List UInt8) (m : Nat) (cs : Array Value) (hc : cs = (l.map u8).toArray) (hl : l.length = m) (hm : m ≤ 1000) : RB (w.alloc (.cells cs 5)) (some ⟨w.heap.size, 0, none⟩) m m l := by
  subst hc
  have hb := Blk.new w 5 (l.map u8).toArray
  refine ⟨hl, ⟨by simpa using hl, (fun e => by cases e), fun b e j u hj => ?_⟩, Nat.le_refl _, by unfold maxLen; omega, fun e => by cases e⟩
  cases e
  rw [Addr.add_lit, Nat.zero_add, hb.cell j]
  simpa using hj
theorem conv_RB {w : World} {A : Option Addr} {n c : Nat} {l : List UInt8} (h : RB w A n c l) : (convert 68 9 (.slice A n c)).run Tryd.prog w = .ok (.string ⟨l.toArray⟩) w := conv_bs w 68 9 5 Tryd.underlying68 Tryd.underlying5 Tryd.underlying9 h.len h.h
theorem own_RB3 {w : World} {B n c : Nat} {A : Option Addr} {l : List UInt8} (h : w.ownsRow B 5 1 (.slice A n c) n (l.map u8)) : RB w A n c l := by
  obtain ⟨A', c', e, hr⟩ := own_RB h
  injection e with e1 e2 e3
  subst e1 e3
  exact hr
/-- A slice of bytes does not lie in a block of other cells. -/
theorem RB.ne {w : World} {A : Option Addr} {n c : Nat} {l : List UInt8} (h : RB w A n c l) (h0 : 0 < n) {a : Addr} (hA : A = some a) {g : Nat} {t : TypeId} {cs : Array Value} (hg : Blk w g t cs) (hc : ∀ (j : Nat) (x : Int), cs[j]? ≠ some (Value.int .u8 x)) : a.block ≠ g := by
  rintro rfl
  have hl : 0 < l.length := by rw [h.len]; exact h0
  have h1 := h.h.2.2 a hA 0 (u8 l[0]) (by simp [List.getElem?_eq_getElem hl])
  have hs : a.spot = none := by have := World.cell?_spot h1; simpa [Addr.add] using this
  obtain ⟨b, o, sp⟩ := a
  simp at hs
  subst hs
  rw [Addr.add_lit] at h1
  have h2 := hg.cell (o + 0)
  rw [h1] at h2
  exact hc _ _ h2.symm
theorem RB.heap {W W' : World} {A : Option Addr} {m c : Nat} {l : List UInt8} (h : RB W A m c l) (hk : ∀ a, A = some a → W'.heap[a.block]? = W.heap[a.block]?) : RB W' A m c l :=
  h.cells fun a hA j hj => by
    have hbk : (a.add j).block = a.block := by unfold Addr.add; split <;> rfl
    unfold World.cell?
    rw [hbk, hk a hA]

end Go.Proofs.YtkihoekldklkhaaDoor

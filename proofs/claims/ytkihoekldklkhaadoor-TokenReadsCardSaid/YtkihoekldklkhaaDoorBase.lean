/- Words for byte slices: a slice that reads as a list of bytes; the first byte below 128. No program. -/
import Derived.WalkKit
import Derived.WalkSpells
import Derived.Laws.BytesArg
import Derived.Deep.Draws
import Derived.Lib.Hide
namespace Go.Proofs.YtkihoekldklkhaaDoor
open Go.RowKit

/-- The slice at A reads as the bytes l, and lies below block B. -/
def BS (w : World) (B : Nat) (A : Option Addr) (l : List UInt8) : Prop :=
  0 < l.length → ∃ b o, A = some ⟨b, o, none⟩ ∧ b < B ∧ ∀ i (h : i < l.length), w.cell? ⟨b, o + i, none⟩ = some (.int .u8 ((l[i]).toNat : Int))

section
variable {w w' : World} {B B' : Nat} {A : Option Addr} {l : List UInt8}
theorem BS.nil_ : BS w B A [] := fun h => absurd h (by simp)
theorem BS.keep (h : BS w B A l) (hk : ∀ p : Addr, p.block < B → w'.cell? p = w.cell? p) : BS w' B A l := fun hn => by
  obtain ⟨b, o, e, hb, hc⟩ := h hn
  exact ⟨b, o, e, hb, fun i hi => (hk _ hb).trans (hc i hi)⟩
theorem BS.more (h : BS w B A l) (hB : B ≤ B') : BS w B' A l := fun hn => by
  obtain ⟨b, o, e, hb, hc⟩ := h hn
  exact ⟨b, o, e, by omega, hc⟩
theorem BS.below (h : BS w B A l) (hb : Below B w w') : BS w' B A l := h.keep fun _ hp => hb.cell hp
theorem BS.drew (h : BS w B A l) : BS w.drew B A l := h
theorem BS.drewN (h : BS w B A l) (k : Nat) : BS (w.drewN k) B A l := h
theorem BS.alloc (h : BS w B A l) (hB : B ≤ w.heap.size) (o : Obj) : BS (w.alloc o) B A l := h.keep fun p hp => World.cell?_alloc_lt w o p (by omega)
theorem BS.take_ (h : BS w B A l) (k : Nat) : BS w B A (l.take k) := fun hn => by
  obtain ⟨b, o, e, hb, hc⟩ := h (by rw [List.length_take] at hn; omega)
  exact ⟨b, o, e, hb, fun i hi => by rw [List.getElem_take]; exact hc i (by rw [List.length_take] at hi; omega)⟩
theorem BS.lt (h : BS w B A l) (hn : 0 < l.length) : ∃ b o, A = some ⟨b, o, none⟩ ∧ b < w.heap.size := by
  obtain ⟨b, o, e, hb, hc⟩ := h hn
  exact ⟨b, o, e, World.block_lt_of_cell? _ _ (hc 0 hn)⟩
end

/-- The first byte below 128, or -1. -/
def ix (l : List UInt8) : Int := match l.findIdx? (fun x => decide (x.toNat < 128)) with | some i => (i : Int) | none => -1

theorem ix_none {l : List UInt8} (h : ∀ i (hi : i < l.length), 128 ≤ l[i].toNat) : ix l = -1 := by
  unfold ix
  rw [List.findIdx?_eq_none_iff.2]
  intro x hx
  obtain ⟨i, hi, rfl⟩ := List.getElem_of_mem hx
  simpa using h i hi
theorem ix_some {l : List UInt8} {k : Nat} (hk : k < l.length) (h : ∀ i (hi : i < k), 128 ≤ (l[i]'(by omega)).toNat) (h1 : l[k].toNat < 128) : ix l = (k : Int) := by
  unfold ix
  rw [List.findIdx?_eq_some_iff_getElem.2 ⟨hk, by simpa using h1, fun j hj => by simpa using h j hj⟩]

theorem ofInt_i64 (a : Nat) (ha : a < 9223372036854775808) : (BitVec.ofInt 64 (a : Int)).toNat = a := by
  rw [BitVec.ofInt_natCast, BitVec.toNat_ofNat]; exact Nat.mod_eq_of_lt (by omega)
theorem i64_or_nat (a b : Nat) (ha : a < 9223372036854775808) (hb : b < 9223372036854775808) : bits .or .i64 (a : Int) (b : Int) = ((a ||| b : Nat) : Int) := by
  have hx : a ||| b < 2 ^ 63 := Nat.or_lt_two_pow (by omega) (by omega)
  show IntKind.i64.wrap ((BitVec.ofInt 64 (a : Int) ||| BitVec.ofInt 64 (b : Int)).toNat : Int) = _
  rw [BitVec.toNat_or, ofInt_i64 a ha, ofInt_i64 b hb, IntKind.wrap_i64]
  omega

/-- The number of little groups of seven bits. -/
def valOf : List UInt8 → Nat
  | [] => 0
  | x :: xs => x.toNat % 128 + 128 * valOf xs

theorem valOf_lt : ∀ l : List UInt8, valOf l < 128 ^ l.length
  | [] => by simp [valOf]
  | x :: xs => by
    have := valOf_lt xs
    simp only [valOf, List.length_cons, Nat.pow_succ]
    have := Nat.mod_lt x.toNat (show 0 < 128 by omega)
    omega
theorem valOf_append : ∀ (l m : List UInt8), valOf (l ++ m) = valOf l + 128 ^ l.length * valOf m
  | [], m => by simp [valOf]
  | x :: xs, m => by
    simp only [valOf, List.cons_append, valOf_append xs m, List.length_cons, Nat.pow_succ, Nat.mul_add]
    rw [Nat.mul_comm (128 ^ xs.length) 128, Nat.mul_assoc]
    omega
theorem valOf_snoc (l : List UInt8) (k : Nat) (hk : k < l.length) : valOf (l.take (k + 1)) = valOf (l.take k) + 128 ^ k * (l[k].toNat % 128) := by
  rw [List.take_succ_eq_append_getElem hk, valOf_append]
  simp [valOf, Nat.min_eq_left (Nat.le_of_lt hk)]
theorem pow128 (k : Nat) : (2 : Nat) ^ (7 * k) = 128 ^ k := by rw [Nat.pow_mul]

theorem or_step (V k : Nat) (x : Int) (hV : V < 128 ^ k) (hk : k ≤ 4) (h0 : 0 ≤ x) (h1 : x < 256) :
    bits BinOp.or IntKind.i64 (V : Int) (wrap64 (x % 128 * 2 ^ (7 * k))) = ((V + 128 ^ k * (x.toNat % 128) : Nat) : Int) ∧ V + 128 ^ k * (x.toNat % 128) < 128 ^ (k + 1) := by
  obtain ⟨y, rfl⟩ := Int.eq_ofNat_of_zero_le h0
  have hy : y % 128 < 128 := Nat.mod_lt _ (by omega)
  have hp : 128 ^ k ≤ 128 ^ 4 := Nat.pow_le_pow_right (by omega) hk
  have hp1 : 0 < 128 ^ k := Nat.pow_pos (by omega)
  have e0 : (2 : Int) ^ (7 * k) = ((128 ^ k : Nat) : Int) := by rw [← pow128]; simp
  have hm : y % 128 * 128 ^ k ≤ 127 * 128 ^ k := Nat.mul_le_mul_right _ (by omega)
  have e1 : (y : Int) % 128 * 2 ^ (7 * k) = ((y % 128 * 128 ^ k : Nat) : Int) := by rw [e0]; simp
  have e2 : wrap64 ((y % 128 * 128 ^ k : Nat) : Int) = ((y % 128 * 128 ^ k : Nat) : Int) := IntWalk.wrap64_in _ ⟨by omega, by omega⟩
  rw [e1, e2, i64_or_nat _ _ (by omega) (by omega)]
  have e3 : V ||| y % 128 * 128 ^ k = V + 128 ^ k * (y % 128) := by
    rw [Nat.mul_comm (y % 128), ← pow128, Nat.or_comm, ← Nat.two_pow_add_eq_or_of_lt (by rw [pow128]; exact hV)]
    omega
  rw [e3]
  refine ⟨by simp, ?_⟩
  rw [Nat.pow_succ, Nat.mul_comm (128 ^ k) (_ % 128)]
  simp only [Int.toNat_natCast]
  omega

theorem ix_cases (l : List UInt8) : (ix l = -1 ∧ ∀ i (hi : i < l.length), 128 ≤ l[i].toNat) ∨ ∃ (k : Nat) (hk : k < l.length), ix l = (k : Int) ∧ l[k].toNat < 128 ∧ ∀ i (hi : i < k), 128 ≤ (l[i]'(by omega)).toNat := by
  cases h : l.findIdx? (fun x => decide (x.toNat < 128)) with
  | none =>
    refine .inl ⟨by unfold ix; rw [h], fun i hi => ?_⟩
    have := (List.findIdx?_eq_none_iff.1 h) l[i] (List.getElem_mem hi)
    simpa using this
  | some k =>
    obtain ⟨hk, h1, h2⟩ := List.findIdx?_eq_some_iff_getElem.1 h
    exact .inr ⟨k, hk, by unfold ix; rw [h], by simpa using h1, fun i hi => by simpa using h2 i hi⟩

/-- A byte as a cell. -/
def u8 (x : UInt8) : Value := .int .u8 (x.toNat : Int)
/-- A slice's cells, for an append. -/
def Holds (w : World) (A : Option Addr) (n : Nat) (xs : List Value) : Prop := xs.length = n * 1 ∧ (A = none → n = 0 ∧ n = 0) ∧ ∀ b, A = some b → ∀ j u, xs[j]? = some u → w.cell? (b.add j) = some u

theorem BS.holds {w : World} {B : Nat} {A : Option Addr} {l : List UInt8} {n : Nat} (h : BS w B A l) (hl : l.length = n) : Holds w A n (l.map u8) := by
  refine ⟨by simp [hl], fun hA => ?_, fun b hb j u hu => ?_⟩
  · rcases Nat.eq_zero_or_pos n with h0 | h0
    · exact ⟨h0, h0⟩
    · obtain ⟨b, o, e, _⟩ := h (by omega); rw [e] at hA; cases hA
  · have hj : j < l.length := by
      rcases Nat.lt_or_ge j l.length with h1 | h1
      · exact h1
      · rw [List.getElem?_eq_none (by simpa using h1)] at hu; cases hu
    obtain ⟨b', o, e, _, hc⟩ := h (by omega)
    rw [e] at hb; cases hb
    have := hc j hj
    rw [List.getElem?_map, List.getElem?_eq_getElem hj] at hu
    simp at hu
    rw [Addr.add_lit, this, ← hu]; rfl
theorem Holds.keep {w w' : World} {A : Option Addr} {n : Nat} {xs : List Value} (h : Holds w A n xs) (hb : Below w.heap.size w w') : Holds w' A n xs :=
  ⟨h.1, h.2.1, fun b hA j u hu => by
    have h1 := h.2.2 b hA j u hu
    rw [hb.cell (World.block_lt_of_cell? _ _ h1)]; exact h1⟩

end Go.Proofs.YtkihoekldklkhaaDoor

/- Bits and bytes: a list of bits packed into bytes. No program. -/
import Derived.Test.YthgbnpafhkhjpaaAd3
namespace Go.Proofs.Ythgbnpafhkhjpaa
open Go.RowKit

/-- The number of bits, the most significant one first. -/
def bitsV : List Bool → Nat := List.foldl (fun v b => 2 * v + b.toNat) 0
/-- Byte j of bits. -/
def byteV (bs : List Bool) (j : Nat) : Nat := bitsV ((List.range 8).map fun r => bs.getD (8 * j + r) false)
/-- The bytes of bits. -/
def pack (bs : List Bool) : List UInt8 := (List.range ((bs.length + 7) / 8)).map fun j => UInt8.ofNat (byteV bs j)
/-- The bits of bytes. -/
def ubits (l : List UInt8) : List Bool := (List.range (8 * l.length)).map (bbit l)
/-- The n bits of a number. -/
def numBits (v n : Nat) : List Bool := (List.range n).map (nbit v n)

theorem bitsV8 (f : Nat → Bool) : bitsV ((List.range 8).map f) = 128 * (f 0).toNat + 64 * (f 1).toNat + 32 * (f 2).toNat + 16 * (f 3).toNat + 8 * (f 4).toNat + 4 * (f 5).toNat + 2 * (f 6).toNat + (f 7).toNat := by
  simp [bitsV, List.range_succ]
  omega
theorem bitsV8_lt (f : Nat → Bool) : bitsV ((List.range 8).map f) < 256 := by
  rw [bitsV8]
  have := fun i => (f i).toNat_le
  have h0 := this 0; have h1 := this 1; have h2 := this 2; have h3 := this 3; have h4 := this 4; have h5 := this 5; have h6 := this 6; have h7 := this 7
  omega
theorem byteV_lt (bs : List Bool) (j : Nat) : byteV bs j < 256 := bitsV8_lt _
theorem pack_length (bs : List Bool) : (pack bs).length = (bs.length + 7) / 8 := by simp [pack]
theorem ubits_length (l : List UInt8) : (ubits l).length = 8 * l.length := by simp [ubits]
theorem numBits_length (v n : Nat) : (numBits v n).length = n := by simp [numBits]
theorem pack_get (bs : List Bool) (j : Nat) (h : j < (pack bs).length) : (pack bs)[j] = UInt8.ofNat (byteV bs j) := by simp [pack]
theorem bitsV8_bit (f : Nat → Bool) (r : Nat) (hr : r < 8) : (bitsV ((List.range 8).map f) / 2 ^ (7 - r) % 2 == 1) = f r := by
  rw [bitsV8]
  have key : ∀ b0 b1 b2 b3 b4 b5 b6 b7 : Bool, ∀ r : Fin 8, ((128 * b0.toNat + 64 * b1.toNat + 32 * b2.toNat + 16 * b3.toNat + 8 * b4.toNat + 4 * b5.toNat + 2 * b6.toNat + b7.toNat) / 2 ^ (7 - r.val) % 2 == 1) = [b0, b1, b2, b3, b4, b5, b6, b7].getD r.val false := by decide +kernel
  rw [key (f 0) (f 1) (f 2) (f 3) (f 4) (f 5) (f 6) (f 7) ⟨r, hr⟩]
  rcases (show r = 0 ∨ r = 1 ∨ r = 2 ∨ r = 3 ∨ r = 4 ∨ r = 5 ∨ r = 6 ∨ r = 7 by omega) with rfl | rfl | rfl | rfl | rfl | rfl | rfl | rfl <;> rfl
theorem byte_sum (x : Nat) (hx : x < 256) : bitsV ((List.range 8).map fun r => x / 2 ^ (7 - r) % 2 == 1) = x := by
  rw [bitsV8]
  have key : ∀ x : Fin 256, 128 * (x.val / 2 ^ (7 - 0) % 2 == 1).toNat + 64 * (x.val / 2 ^ (7 - 1) % 2 == 1).toNat + 32 * (x.val / 2 ^ (7 - 2) % 2 == 1).toNat + 16 * (x.val / 2 ^ (7 - 3) % 2 == 1).toNat + 8 * (x.val / 2 ^ (7 - 4) % 2 == 1).toNat + 4 * (x.val / 2 ^ (7 - 5) % 2 == 1).toNat + 2 * (x.val / 2 ^ (7 - 6) % 2 == 1).toNat + (x.val / 2 ^ (7 - 7) % 2 == 1).toNat = x.val := by decide +kernel
  exact key ⟨x, hx⟩
theorem byte_of (k : Nat) (h : k < 256) : (UInt8.ofNat k).toNat = k := by rw [UInt8.toNat_ofNat']; exact Nat.mod_eq_of_lt h
theorem getD_get {α : Type} (l : List α) (i : Nat) (d : α) (h : i < l.length) : l.getD i d = l[i] := by rw [List.getD_eq_getElem?_getD, List.getElem?_eq_getElem h]; rfl
theorem getD_out {α : Type} (l : List α) (i : Nat) (d : α) (h : l.length ≤ i) : l.getD i d = d := by rw [List.getD_eq_getElem?_getD, List.getElem?_eq_none h]; rfl
theorem bbit_pack (bs : List Bool) (i : Nat) (h : i < 8 * (pack bs).length) : bbit (pack bs) i = bs.getD i false := by
  unfold bbit
  rw [getD_get _ _ _ (by omega : i / 8 < (pack bs).length), pack_get, byte_of _ (byteV_lt _ _)]
  unfold byteV
  rw [bitsV8_bit _ _ (by omega), show 8 * (i / 8) + i % 8 = i by omega]
theorem byteV_of (l : List UInt8) (bs : List Bool) (j : Nat) (hj : j < l.length) (h : ∀ r, r < 8 → bs.getD (8 * j + r) false = bbit l (8 * j + r)) : byteV bs j = l[j].toNat := by
  unfold byteV
  rw [← byte_sum l[j].toNat l[j].toNat_lt, bitsV8, bitsV8, h 0 (by omega), h 1 (by omega), h 2 (by omega), h 3 (by omega), h 4 (by omega), h 5 (by omega), h 6 (by omega), h 7 (by omega)]
  have k : ∀ r, r < 8 → bbit l (8 * j + r) = (l[j].toNat / 2 ^ (7 - r) % 2 == 1) := fun r hr => by
    unfold bbit
    rw [show (8 * j + r) / 8 = j by omega, show (8 * j + r) % 8 = r by omega, getD_get _ _ _ hj]
  rw [k 0 (by omega), k 1 (by omega), k 2 (by omega), k 3 (by omega), k 4 (by omega), k 5 (by omega), k 6 (by omega), k 7 (by omega)]
/-- Bytes are the packing of bits that are theirs. -/
theorem pack_of (l : List UInt8) (bs : List Bool) (hl : l.length = (bs.length + 7) / 8) (h : ∀ i, i < 8 * l.length → bbit l i = bs.getD i false) : l = pack bs := by
  apply List.ext_getElem
  · rw [pack_length, hl]
  · intro j h1 h2
    rw [pack_get, byteV_of l bs j h1 (fun r hr => (h _ (by omega)).symm)]
    exact (UInt8.ofNat_toNat).symm
theorem pack_ubits (l : List UInt8) : pack (ubits l) = l := by
  refine (pack_of l _ (by rw [ubits_length]; omega) fun i hi => ?_).symm
  rw [getD_get _ _ _ (by rw [ubits_length]; exact hi)]
  simp [ubits]
theorem bbit_test (l : List UInt8) (i : Nat) : bbit l i = (l.getD (i / 8) 0).toNat.testBit (7 - i % 8) := by
  unfold bbit
  rw [Nat.testBit_eq_decide_div_mod_eq]
  rw [Bool.eq_iff_iff]; simp
theorem bbit_set (l : List UInt8) (q s i : Nat) (hq : q < l.length) (hs : s < 8) : bbit (l.set q (UInt8.ofNat ((l.getD q 0).toNat ||| 2 ^ s))) i = (bbit l i || (i / 8 == q && 7 - i % 8 == s)) := by
  rw [bbit_test, bbit_test]
  by_cases h : i / 8 = q
  · rw [h, getD_get _ _ _ (by simpa using hq), List.getElem_set_self, getD_get _ _ _ hq]
    have h1 : l[q].toNat ||| 2 ^ s < 256 := Nat.or_lt_two_pow (n := 8) (by have := l[q].toNat_lt; omega) (Nat.pow_lt_pow_right (by omega) hs)
    rw [byte_of _ h1, Nat.testBit_or, Nat.testBit_two_pow]
    congr 1
    rw [Bool.eq_iff_iff]
    simp
    exact ⟨Eq.symm, Eq.symm⟩
  · have : (l.set q (UInt8.ofNat ((l.getD q 0).toNat ||| 2 ^ s))).getD (i / 8) 0 = l.getD (i / 8) 0 := by
      rw [List.getD_eq_getElem?_getD, List.getElem?_set_ne (Ne.symm h), ← List.getD_eq_getElem?_getD]
    rw [this]
    have h2 : (i / 8 == q) = false := by simpa using h
    rw [h2]
    simp
theorem bbit_snoc (l : List UInt8) (i : Nat) (h : i < 8 * l.length) (x : UInt8) : bbit (l ++ [x]) i = bbit l i := by
  unfold bbit
  rw [getD_get _ _ _ (by simp; omega), getD_get _ _ _ (by omega), List.getElem_append_left]
theorem bbit_zero (l : List UInt8) (i : Nat) (h : 8 * l.length ≤ i) : bbit (l ++ [0]) i = false := by
  unfold bbit
  by_cases h1 : i / 8 = l.length
  · rw [h1, getD_get _ _ _ (by simp)]
    simp
  · rw [getD_out _ _ _ (by simp; omega)]
    simp
theorem getD_snoc (bs : List Bool) (b : Bool) (i : Nat) : (bs ++ [b]).getD i false = if i = bs.length then b else bs.getD i false := by
  by_cases h : i < bs.length
  · rw [getD_get _ _ _ (by simp; omega), List.getElem_append_left h, getD_get _ _ _ h, if_neg (by omega)]
  · by_cases h1 : i = bs.length
    · subst h1; rw [if_pos rfl, getD_get _ _ _ (by simp)]; simp
    · rw [if_neg h1, getD_out _ _ _ (by simp; omega), getD_out _ _ _ (by omega)]
theorem push_pack (bs : List Bool) (b : Bool) : pushB (pack bs) bs.length b = pack (bs ++ [b]) := by
  obtain ⟨l', hl', hlen, hbit⟩ : ∃ l', (if bs.length % 8 = 0 then pack bs ++ [0] else pack bs) = l' ∧ l'.length = (bs.length + 1 + 7) / 8 ∧ ∀ i, i < 8 * l'.length → bbit l' i = bs.getD i false := by
    by_cases h : bs.length % 8 = 0
    · rw [if_pos h]
      refine ⟨_, rfl, by rw [List.length_append, pack_length]; simp; omega, fun i hi => ?_⟩
      by_cases h1 : i < 8 * (pack bs).length
      · rw [bbit_snoc _ _ h1, bbit_pack _ _ h1]
      · rw [bbit_zero _ _ (by omega), getD_out _ _ _ (by rw [pack_length] at h1; omega)]
    · rw [if_neg h]
      exact ⟨_, rfl, by rw [pack_length]; omega, fun i hi => bbit_pack _ _ hi⟩
  unfold pushB
  rw [hl']
  cases b
  · simp only [Bool.false_eq_true, if_false]
    refine pack_of _ _ (by rw [hlen]; simp) fun i hi => ?_
    rw [hbit i hi, getD_snoc]
    split
    · rename_i h; rw [getD_out _ _ _ (by omega)]
    · rfl
  · simp only [if_true]
    refine pack_of _ _ (by rw [List.length_set, hlen]; simp) fun i hi => ?_
    rw [List.length_set] at hi
    rw [bbit_set _ _ _ _ (by omega) (by omega), hbit i hi, getD_snoc]
    split
    · rename_i h
      subst h
      simp
    · rename_i h
      have : (i / 8 == bs.length / 8 && 7 - i % 8 == 7 - bs.length % 8) = false := by
        rw [Bool.eq_false_iff]
        simp
        omega
      rw [this, Bool.or_false]
theorem range_snoc (f : Nat → Bool) (k : Nat) : (List.range (k + 1)).map f = (List.range k).map f ++ [f k] := by simp [List.range_succ]
theorem pack_nil : pack [] = [] := rfl
end Go.Proofs.Ythgbnpafhkhjpaa

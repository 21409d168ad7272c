/- The forms of an integer, as lists of bytes. No program. -/
import Derived.WalkKit
import Derived.Test.YtbimolbiccmdiaaBase
namespace Go.Proofs.Ytbimolbiccmdiaa
open Go.RowKit

/-- k bytes that say that another one follows. -/
def moreB (v : Nat) : Nat → List UInt8
  | 0 => []
  | k + 1 => moreB v k ++ [UInt8.ofNat (v / 128 ^ k % 128 + 128)]
/-- The form with k + 1 bytes. -/
def formB (v k : Nat) : List UInt8 := moreB v k ++ [UInt8.ofNat (v / 128 ^ k % 128)]
/-- The number of bytes of the normal form, less one. -/
def k0 (v : Nat) : Nat := if v < 128 then 0 else if v < 16384 then 1 else if v < 2097152 then 2 else if v < 268435456 then 3 else 4
theorem moreB_length (v k : Nat) : (moreB v k).length = k := by
  induction k with
  | zero => rfl
  | succ k ih => simp [moreB, ih]
theorem formB_length (v k : Nat) : (formB v k).length = k + 1 := by simp [formB, moreB_length]
theorem k0_le (v : Nat) : k0 v ≤ 4 := by unfold k0; (repeat' split) <;> omega
theorem k0_iff (v k : Nat) (hv : v < 34359738368) (hk : k ≤ 4) : v / 128 ^ k < 128 ↔ k0 v ≤ k := by
  rw [Nat.div_lt_iff_lt_mul (Nat.pow_pos (by omega)), ← Nat.pow_succ']
  unfold k0
  have e1 : 128 ^ Nat.succ 0 = 128 := rfl
  have e2 : 128 ^ Nat.succ 1 = 16384 := rfl
  have e3 : 128 ^ Nat.succ 2 = 2097152 := rfl
  have e4 : 128 ^ Nat.succ 3 = 268435456 := rfl
  have e5 : 128 ^ Nat.succ 4 = 34359738368 := rfl
  rcases (show k = 0 ∨ k = 1 ∨ k = 2 ∨ k = 3 ∨ k = 4 by omega) with rfl | rfl | rfl | rfl | rfl
  · rw [e1]; (repeat' split) <;> omega
  · rw [e2]; (repeat' split) <;> omega
  · rw [e3]; (repeat' split) <;> omega
  · rw [e4]; (repeat' split) <;> omega
  · rw [e5]; (repeat' split) <;> omega
theorem div128 (v k : Nat) : v / 128 ^ k / 128 = v / 128 ^ (k + 1) := by rw [Nat.div_div_eq_div_mul, Nat.pow_succ]
theorem u8_ofNat (x : Nat) (h : x < 256) : u8 (UInt8.ofNat x) = .int .u8 (x : Int) := by simp [u8, Nat.mod_eq_of_lt h]
theorem more_cells (v k : Nat) (q : Int) (hq : q = ((v / 128 ^ k : Nat) : Int)) : (moreB v k).map u8 ++ [.int .u8 (q % 128 + 128)] = (moreB v (k + 1)).map u8 := by
  have h := Nat.mod_lt (v / 128 ^ k) (show 0 < 128 by omega)
  rw [moreB, List.map_append, List.map_cons, List.map_nil, u8_ofNat _ (by omega), hq]
  simp
theorem form_cells (v k : Nat) (q : Int) (hq : q = ((v / 128 ^ k : Nat) : Int)) : (moreB v k).map u8 ++ [.int .u8 (q % 128)] = (formB v k).map u8 := by
  have h := Nat.mod_lt (v / 128 ^ k) (show 0 < 128 by omega)
  rw [formB, List.map_append, List.map_cons, List.map_nil, u8_ofNat _ (by omega), hq]
  simp
end Go.Proofs.Ytbimolbiccmdiaa

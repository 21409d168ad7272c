/- The CRC bit by bit and byte by byte: the plain law. No program. -/
import Derived.Test.YtcjmeiklfkiibaaDiv
namespace Go.Proofs.Ytcjmeiklfkiibaa

/-- One bit of the reference's CRC. -/
def crcN (r b : Nat) : Nat := if (r / 32768 + b) % 2 = 1 then (2 * r % 65536) ^^^ 4129 else 2 * r % 65536
/-- The byte's bits that are left, at the top. -/
def zB (y j : Nat) : Nat := y * 2 ^ (8 + j) % 65536

theorem two_xor (a b : Nat) : (a ^^^ b) * 2 % 65536 = (2 * a % 65536) ^^^ (2 * b % 65536) := by
  have h1 : (a ^^^ b) * 2 = (2 * a) ^^^ (2 * b) := by
    have h := Nat.shiftLeft_xor_distrib (a := a) (b := b) (i := 1)
    simp only [Nat.shiftLeft_eq, Nat.pow_one] at h
    rw [h, Nat.mul_comm a, Nat.mul_comm b]
  rw [h1]
  exact Nat.xor_mod_two_pow (a := 2 * a) (b := 2 * b) (n := 16)
theorem top_xor (a b : Nat) (ha : a < 65536) (hb : b < 65536) : 65536 ≤ (a ^^^ b) * 2 ↔ (a / 32768 + b / 32768) % 2 = 1 := by
  have h := Nat.xor_div_two_pow (a := a) (b := b) (n := 15)
  simp only [show (2 : Nat) ^ 15 = 32768 from rfl] at h
  have h1 : a / 32768 = 0 ∨ a / 32768 = 1 := by omega
  have h2 : b / 32768 = 0 ∨ b / 32768 = 1 := by omega
  rcases h1 with h1 | h1 <;> rcases h2 with h2 | h2 <;> rw [h1, h2] at h ⊢ <;> simp at h ⊢ <;> omega
theorem stepB_xor (r z : Nat) (hr : r < 65536) (hz : z < 65536) : stepB (r ^^^ z) = crcN r (z / 32768) ^^^ (2 * z % 65536) := by
  unfold stepB crcN
  rw [two_xor]
  by_cases h : (r / 32768 + z / 32768) % 2 = 1
  · rw [if_pos ((top_xor r z hr hz).2 h), if_pos h, Nat.xor_assoc, Nat.xor_assoc, Nat.xor_comm (2 * z % 65536)]
  · rw [if_neg (fun hh => h ((top_xor r z hr hz).1 hh)), if_neg h]
    have h2 : ¬ 65536 ≤ (r ^^^ z) * 2 := fun hh => h ((top_xor r z hr hz).1 hh)
    rw [← two_xor, Nat.mod_eq_of_lt (by omega)]
theorem crcN_lt {r b : Nat} : crcN r b < 65536 := by
  unfold crcN
  split
  · exact Nat.xor_lt_two_pow (n := 16) (by omega) (by omega)
  · omega
theorem zB_step (y j : Nat) : 2 * zB y j % 65536 = zB y (j + 1) := by
  unfold zB
  rw [show 8 + (j + 1) = (8 + j) + 1 by omega, Nat.pow_succ, ← Nat.mul_assoc]
  omega
theorem zB_top (y j : Nat) (hj : j < 8) : zB y j / 32768 = y / 2 ^ (7 - j) % 2 := by
  unfold zB
  have h : j = 0 ∨ j = 1 ∨ j = 2 ∨ j = 3 ∨ j = 4 ∨ j = 5 ∨ j = 6 ∨ j = 7 := by omega
  rcases h with rfl | rfl | rfl | rfl | rfl | rfl | rfl | rfl <;> simp <;> omega
/-- One bit of both. -/
theorem crc_step (r y j : Nat) (hr : r < 65536) (hj : j < 8) : stepB (r ^^^ zB y j) = crcN r (y / 2 ^ (7 - j) % 2) ^^^ zB y (j + 1) := by
  rw [stepB_xor r (zB y j) hr (Nat.mod_lt _ (by omega)), zB_step, zB_top y j hj]
theorem zB_0 (y : Nat) (h : y < 256) : zB y 0 = y * 256 := by unfold zB; simp; omega
theorem zB_8 (y : Nat) : zB y 8 = 0 := by unfold zB; simp
end Go.Proofs.Ytcjmeiklfkiibaa

/- Quarter rounds: the words as numbers; contracts of the program's and of the reference's. -/
import Derived.Test.YtbfejjjdolfcfaaProg
import Derived.Test.YtbfejjjdolfcfaaLaw3
import Derived.Outline
import Derived.WalkLawsBesides
import Derived.BigQuiet
import Derived.Deep.QuietTactic
namespace Go.Proofs.Ytbfejjjdolfcfaa
open Go.RowKit

def rot (v n : Nat) : Nat := v * 2 ^ n % 4294967296 + v / 2 ^ (32 - n)
def halfA (a b : Nat) : Nat := (a + b) % 4294967296
def halfD (a b d m : Nat) : Nat := rot (d ^^^ halfA a b) m
def halfC (a b c d m : Nat) : Nat := (c + halfD a b d m) % 4294967296
def halfB (a b c d m n : Nat) : Nat := rot (b ^^^ halfC a b c d m) n

theorem rot_lt {v n : Nat} (hv : v < 4294967296) (hn : n ≤ 32) : rot v n < 4294967296 := by
  unfold rot
  have hp : 2 ^ n * 2 ^ (32 - n) = 4294967296 := by rw [← Nat.pow_add, show n + (32 - n) = 32 by omega]
  have h1 : v / 2 ^ (32 - n) < 2 ^ n := Nat.div_lt_of_lt_mul (by rw [Nat.mul_comm, hp]; exact hv)
  have h2 : v * 2 ^ n % 4294967296 = 2 ^ n * (v % 2 ^ (32 - n)) := by
    rw [← hp, Nat.mul_comm v, Nat.mul_mod_mul_left]
  have h3 : v % 2 ^ (32 - n) < 2 ^ (32 - n) := Nat.mod_lt _ (Nat.pow_pos (by omega))
  rw [h2]
  have h4 : 2 ^ n * (v % 2 ^ (32 - n) + 1) ≤ 2 ^ n * 2 ^ (32 - n) := Nat.mul_le_mul_left _ h3
  rw [Nat.mul_add, Nat.mul_one, hp] at h4
  omega
theorem rot_or {v n : Nat} (hv : v < 4294967296) (hn : n ≤ 32) : v * 2 ^ n % 4294967296 ||| v / 2 ^ (32 - n) = rot v n := by
  unfold rot
  have hp : 2 ^ n * 2 ^ (32 - n) = 4294967296 := by rw [← Nat.pow_add, show n + (32 - n) = 32 by omega]
  have h1 : v / 2 ^ (32 - n) < 2 ^ n := Nat.div_lt_of_lt_mul (by rw [Nat.mul_comm, hp]; exact hv)
  have h2 : v * 2 ^ n % 4294967296 = 2 ^ n * (v % 2 ^ (32 - n)) := by
    rw [← hp, Nat.mul_comm v, Nat.mul_mod_mul_left]
  rw [h2, Nat.two_pow_add_eq_or_of_lt h1]
theorem ofInt_u32 (a : Nat) (ha : a < 4294967296) : (BitVec.ofInt 32 (a : Int)).toNat = a := by
  rw [BitVec.ofInt_natCast, BitVec.toNat_ofNat]; exact Nat.mod_eq_of_lt (by omega)
theorem u32_xor_nat (a b : Nat) (ha : a < 4294967296) (hb : b < 4294967296) : bits .xor .u32 (a : Int) (b : Int) = ((a ^^^ b : Nat) : Int) := by
  have hx : a ^^^ b < 2 ^ 32 := Nat.xor_lt_two_pow (by omega) (by omega)
  show IntKind.u32.wrap ((BitVec.ofInt 32 (a : Int) ^^^ BitVec.ofInt 32 (b : Int)).toNat : Int) = _
  rw [BitVec.toNat_xor, ofInt_u32 a ha, ofInt_u32 b hb, IntKind.wrap_u32]
  omega
theorem u32_or_nat (a b : Nat) (ha : a < 4294967296) (hb : b < 4294967296) : bits .or .u32 (a : Int) (b : Int) = ((a ||| b : Nat) : Int) := by
  have hx : a ||| b < 2 ^ 32 := Nat.or_lt_two_pow (by omega) (by omega)
  show IntKind.u32.wrap ((BitVec.ofInt 32 (a : Int) ||| BitVec.ofInt 32 (b : Int)).toNat : Int) = _
  rw [BitVec.toNat_or, ofInt_u32 a ha, ofInt_u32 b hb, IntKind.wrap_u32]
  omega

set_option maxRecDepth 100000 in
theorem rot_16 (v : Nat) (w : World) (hv : v < 4294967296) : Calls Try.prog 22 #[.int .u32 v, .int .i64 16] w fun e w' => e = .returned (.int .u32 (rot v 16 : Nat)) ∧ w = w' := by
  have hb : bits BinOp.and IntKind.u64 16 31 = 16 := by decide +kernel
  have hr := u32_or_nat (v * 2 ^ 16 % 4294967296) (v / 2 ^ (32 - 16)) (by omega) (by omega)
  rw [rot_or hv (by omega)] at hr
  have HR := Lib.hid hr
  clear hr
  go_enter Try.func22, Try.ntmps22
  go_wp2
  go_ret
  refine ⟨?_, rfl⟩
  rw [← HR.out]
  show Ending.returned (.int .u32 (bits BinOp.or IntKind.u32 _ _)) = _
  congr 3 <;> omega
set_option maxRecDepth 100000 in
theorem rot_12 (v : Nat) (w : World) (hv : v < 4294967296) : Calls Try.prog 22 #[.int .u32 v, .int .i64 12] w fun e w' => e = .returned (.int .u32 (rot v 12 : Nat)) ∧ w = w' := by
  have hb : bits BinOp.and IntKind.u64 12 31 = 12 := by decide +kernel
  have hr := u32_or_nat (v * 2 ^ 12 % 4294967296) (v / 2 ^ (32 - 12)) (by omega) (by omega)
  rw [rot_or hv (by omega)] at hr
  have HR := Lib.hid hr
  clear hr
  go_enter Try.func22, Try.ntmps22
  go_wp2
  go_ret
  refine ⟨?_, rfl⟩
  rw [← HR.out]
  show Ending.returned (.int .u32 (bits BinOp.or IntKind.u32 _ _)) = _
  congr 3 <;> omega
set_option maxRecDepth 100000 in
theorem rot_8 (v : Nat) (w : World) (hv : v < 4294967296) : Calls Try.prog 22 #[.int .u32 v, .int .i64 8] w fun e w' => e = .returned (.int .u32 (rot v 8 : Nat)) ∧ w = w' := by
  have hb : bits BinOp.and IntKind.u64 8 31 = 8 := by decide +kernel
  have hr := u32_or_nat (v * 2 ^ 8 % 4294967296) (v / 2 ^ (32 - 8)) (by omega) (by omega)
  rw [rot_or hv (by omega)] at hr
  have HR := Lib.hid hr
  clear hr
  go_enter Try.func22, Try.ntmps22
  go_wp2
  go_ret
  refine ⟨?_, rfl⟩
  rw [← HR.out]
  show Ending.returned (.int .u32 (bits BinOp.or IntKind.u32 _ _)) = _
  congr 3 <;> omega
set_option maxRecDepth 100000 in
theorem rot_7 (v : Nat) (w : World) (hv : v < 4294967296) : Calls Try.prog 22 #[.int .u32 v, .int .i64 7] w fun e w' => e = .returned (.int .u32 (rot v 7 : Nat)) ∧ w = w' := by
  have hb : bits BinOp.and IntKind.u64 7 31 = 7 := by decide +kernel
  have hr := u32_or_nat (v * 2 ^ 7 % 4294967296) (v / 2 ^ (32 - 7)) (by omega) (by omega)
  rw [rot_or hv (by omega)] at hr
  have HR := Lib.hid hr
  clear hr
  go_enter Try.func22, Try.ntmps22
  go_wp2
  go_ret
  refine ⟨?_, rfl⟩
  rw [← HR.out]
  show Ending.returned (.int .u32 (bits BinOp.or IntKind.u32 _ _)) = _
  congr 3 <;> omega
end Go.Proofs.Ytbfejjjdolfcfaa

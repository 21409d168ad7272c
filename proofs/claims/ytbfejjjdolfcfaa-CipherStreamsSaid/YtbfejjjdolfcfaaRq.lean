/- Contracts of the reference's rotate and Quarter. -/
import Derived.Test.YtbfejjjdolfcfaaQr
namespace Go.Proofs.Ytbfejjjdolfcfaa
open Go.RowKit
set_option linter.unusedVariables false

theorem i64_xor_nat (a b : Nat) (ha : a < 9223372036854775808) (hb : b < 9223372036854775808) : bits .xor .i64 (a : Int) (b : Int) = ((a ^^^ b : Nat) : Int) := by
  have hx : a ^^^ b < 2 ^ 63 := Nat.xor_lt_two_pow (by omega) (by omega)
  show IntKind.i64.wrap ((BitVec.ofInt 64 (a : Int) ^^^ BitVec.ofInt 64 (b : Int)).toNat : Int) = _
  rw [BitVec.toNat_xor, ofInt_i64 a ha, ofInt_i64 b hb, IntKind.wrap_i64]
  omega

theorem rrot_16 (v : Nat) (w : World) (hv : v < 4294967296) : Calls Try.prog 23 #[.int .i64 v, .int .i64 16] w fun e w' => e = .returned (.int .i64 (rot v 16 : Nat)) ∧ Below w.heap.size w w' := by
  go_enter Try.func23, Try.ntmps23
  go_wp2
  go_region
  go_wp2
  go_ret
  refine ⟨?_, below_drew (Below.refl _ _)⟩
  unfold rot
  show Ending.returned (.int .i64 _) = _
  congr 2
theorem rrot_12 (v : Nat) (w : World) (hv : v < 4294967296) : Calls Try.prog 23 #[.int .i64 v, .int .i64 12] w fun e w' => e = .returned (.int .i64 (rot v 12 : Nat)) ∧ Below w.heap.size w w' := by
  go_enter Try.func23, Try.ntmps23
  go_wp2
  go_region
  go_wp2
  go_ret
  refine ⟨?_, below_drew (Below.refl _ _)⟩
  unfold rot
  show Ending.returned (.int .i64 _) = _
  congr 2
theorem rrot_8 (v : Nat) (w : World) (hv : v < 4294967296) : Calls Try.prog 23 #[.int .i64 v, .int .i64 8] w fun e w' => e = .returned (.int .i64 (rot v 8 : Nat)) ∧ Below w.heap.size w w' := by
  go_enter Try.func23, Try.ntmps23
  go_wp2
  go_region
  go_wp2
  go_ret
  refine ⟨?_, below_drew (Below.refl _ _)⟩
  unfold rot
  show Ending.returned (.int .i64 _) = _
  congr 2
theorem rrot_7 (v : Nat) (w : World) (hv : v < 4294967296) : Calls Try.prog 23 #[.int .i64 v, .int .i64 7] w fun e w' => e = .returned (.int .i64 (rot v 7 : Nat)) ∧ Below w.heap.size w w' := by
  go_enter Try.func23, Try.ntmps23
  go_wp2
  go_region
  go_wp2
  go_ret
  refine ⟨?_, below_drew (Below.refl _ _)⟩
  unfold rot
  show Ending.returned (.int .i64 _) = _
  congr 2

set_option maxRecDepth 100000 in
set_option maxHeartbeats 1000000 in
theorem rquarter_any (a b c d : Nat) (w : World) (ha : a < 4294967296) (hb : b < 4294967296) (hc : c < 4294967296) (hd : d < 4294967296) :
    Calls Try.prog 10 #[.int .i64 a, .int .i64 b, .int .i64 c, .int .i64 d] w fun e w' => e = .returned (tup4 .i64 a b c d) ∧ Below w.heap.size w w' := by
  have lA1 := halfA_lt a b
  have lD1 := halfD_lt (a := a) (b := b) (m := 16) hd (by omega)
  have lC1 := halfC_lt a b c d 16
  have lB1 := halfB_lt (a := a) (c := c) (d := d) (m := 16) (n := 12) hb (by omega)
  have lA2 := halfA_lt (halfA a b) (halfB a b c d 16 12)
  have lD2 := halfD_lt (a := (halfA a b)) (b := (halfB a b c d 16 12)) (m := 8) lD1 (by omega)
  have lC2 := halfC_lt (halfA a b) (halfB a b c d 16 12) (halfC a b c d 16) (halfD a b d 16) 8
  have A1 : ((a : Nat) + (b : Nat) : Int) % 4294967296 = ((halfA a b) : Nat) := by unfold halfA; omega
  have xd1 : bits .xor .i64 ((d : Nat) : Int) (((halfA a b) : Nat) : Int) = (xD a b d : Nat) := i64_xor_nat _ _ (by omega) (by omega)
  have C1 : ((c : Nat) + ((halfD a b d 16) : Nat) : Int) % 4294967296 = ((halfC a b c d 16) : Nat) := by unfold halfC; omega
  have xb1 : bits .xor .i64 ((b : Nat) : Int) (((halfC a b c d 16) : Nat) : Int) = (xB a b c d 16 : Nat) := i64_xor_nat _ _ (by omega) (by omega)
  have XD1 := Lib.hid (show xD a b d < 4294967296 from xor_lt (by omega) (by omega))
  have XB1 := Lib.hid (show xB a b c d 16 < 4294967296 from xor_lt (by omega) (by omega))
  have A2 : (((halfA a b) : Nat) + ((halfB a b c d 16 12) : Nat) : Int) % 4294967296 = ((halfA (halfA a b) (halfB a b c d 16 12)) : Nat) := by unfold halfA; omega
  have xd2 : bits .xor .i64 (((halfD a b d 16) : Nat) : Int) (((halfA (halfA a b) (halfB a b c d 16 12)) : Nat) : Int) = (xD (halfA a b) (halfB a b c d 16 12) (halfD a b d 16) : Nat) := i64_xor_nat _ _ (by omega) (by omega)
  have C2 : (((halfC a b c d 16) : Nat) + ((halfD (halfA a b) (halfB a b c d 16 12) (halfD a b d 16) 8) : Nat) : Int) % 4294967296 = ((halfC (halfA a b) (halfB a b c d 16 12) (halfC a b c d 16) (halfD a b d 16) 8) : Nat) := by unfold halfC; omega
  have xb2 : bits .xor .i64 (((halfB a b c d 16 12) : Nat) : Int) (((halfC (halfA a b) (halfB a b c d 16 12) (halfC a b c d 16) (halfD a b d 16) 8) : Nat) : Int) = (xB (halfA a b) (halfB a b c d 16 12) (halfC a b c d 16) (halfD a b d 16) 8 : Nat) := i64_xor_nat _ _ (by omega) (by omega)
  have XD2 := Lib.hid (show xD (halfA a b) (halfB a b c d 16 12) (halfD a b d 16) < 4294967296 from xor_lt (by omega) (by omega))
  have XB2 := Lib.hid (show xB (halfA a b) (halfB a b c d 16 12) (halfC a b c d 16) (halfD a b d 16) 8 < 4294967296 from xor_lt (by omega) (by omega))
  have HB := Lib.hid (Below.refl w.heap.size w)
  go_enter Try.func10, Try.ntmps10
  go_wp2_with fail
  (with_reducible refine (rrot_16 (xD a b d) _ XD1.out).mono ?_); rintro e w1 ⟨rfl, b1⟩
  rw [show rot (xD a b d) 16 = (halfD a b d 16) from rfl]
  have HB1 := Lib.hid (HB.out.trans (b1.mono HB.out.size))
  clear b1
  go_wp2_with fail
  (with_reducible refine (rrot_12 (xB a b c d 16) _ XB1.out).mono ?_); rintro e w2 ⟨rfl, b2⟩
  rw [show rot (xB a b c d 16) 12 = (halfB a b c d 16 12) from rfl]
  have HB2 := Lib.hid (HB1.out.trans (b2.mono HB1.out.size))
  clear b2
  go_wp2_with fail
  (with_reducible refine (rrot_8 (xD (halfA a b) (halfB a b c d 16 12) (halfD a b d 16)) _ XD2.out).mono ?_); rintro e w3 ⟨rfl, b3⟩
  rw [show rot (xD (halfA a b) (halfB a b c d 16 12) (halfD a b d 16)) 8 = (halfD (halfA a b) (halfB a b c d 16 12) (halfD a b d 16) 8) from rfl]
  have HB3 := Lib.hid (HB2.out.trans (b3.mono HB2.out.size))
  clear b3
  go_wp2_with fail
  (with_reducible refine (rrot_7 (xB (halfA a b) (halfB a b c d 16 12) (halfC a b c d 16) (halfD a b d 16) 8) _ XB2.out).mono ?_); rintro e w4 ⟨rfl, b4⟩
  rw [show rot (xB (halfA a b) (halfB a b c d 16 12) (halfC a b c d 16) (halfD a b d 16) 8) 7 = (halfB (halfA a b) (halfB a b c d 16 12) (halfC a b c d 16) (halfD a b d 16) 8 7) from rfl]
  have HB4 := Lib.hid (HB3.out.trans (b4.mono HB3.out.size))
  clear b4
  go_wp2_with fail
  refine bodyPost_ret (results_tmp4 rfl _ _ _) rfl ?_
  exact ⟨rfl, HB4.out⟩
end Go.Proofs.Ytbfejjjdolfcfaa

/- Contracts of Unfold, and of the reference's Fold and Unfold. -/
import Derived.Test.YtbimolbiccmdiaaFold
import Derived.Test.YtbimolbiccmdiaaRefF
namespace Go.Proofs.Ytbimolbiccmdiaa
open Go.RowKit

/-- What Unfold gives. -/
def unfoldV (v : Int) : Value := if v < 0 ∨ 34359738368 ≤ v then .tuple #[.int .i64 0, .int .i64 3] else .tuple #[.int .i64 (if v % 2 = 1 then -(v / 2) - 1 else v / 2), .int .i64 0]

theorem i64_and_nat (a b : Nat) (ha : a < 9223372036854775808) (hb : b < 9223372036854775808) : bits .and .i64 (a : Int) (b : Int) = ((a &&& b : Nat) : Int) := by
  have hx : a &&& b < 2 ^ 63 := Nat.and_lt_two_pow _ (by omega)
  show IntKind.i64.wrap ((BitVec.ofInt 64 (a : Int) &&& BitVec.ofInt 64 (b : Int)).toNat : Int) = _
  rw [BitVec.toNat_and, ofInt_i64 a ha, ofInt_i64 b hb, IntKind.wrap_i64]
  omega
theorem i64_xor_nat (a b : Nat) (ha : a < 9223372036854775808) (hb : b < 9223372036854775808) : bits .xor .i64 (a : Int) (b : Int) = ((a ^^^ b : Nat) : Int) := by
  have hx : a ^^^ b < 2 ^ 63 := Nat.xor_lt_two_pow (by omega) (by omega)
  show IntKind.i64.wrap ((BitVec.ofInt 64 (a : Int) ^^^ BitVec.ofInt 64 (b : Int)).toNat : Int) = _
  rw [BitVec.toNat_xor, ofInt_i64 a ha, ofInt_i64 b hb, IntKind.wrap_i64]
  omega
theorem i64_xor_ones (a : Nat) (ha : a < 9223372036854775808) : bits .xor .i64 (a : Int) (-1) = -(a : Int) - 1 := by
  show IntKind.i64.wrap ((BitVec.ofInt 64 (a : Int) ^^^ BitVec.ofInt 64 (-1)).toNat : Int) = _
  have h1 : BitVec.ofInt 64 (-1) = BitVec.allOnes 64 := by decide
  rw [h1, BitVec.xor_allOnes, BitVec.toNat_not, ofInt_i64 a ha, IntKind.wrap_i64]
  omega
theorem zig (v : Int) (h0 : 0 ≤ v) (h1 : v < 34359738368) : bits .xor .i64 (v / 2) (wrap64 (-bits .and .i64 v 1)) = if v % 2 = 1 then -(v / 2) - 1 else v / 2 := by
  obtain ⟨n, rfl⟩ := Int.eq_ofNat_of_zero_le h0
  have ha := i64_and_nat n 1 (by omega) (by omega)
  rw [Nat.and_one_is_mod] at ha
  have ha' : bits BinOp.and IntKind.i64 (n : Int) 1 = ((n % 2 : Nat) : Int) := ha
  rw [ha']
  have hd : (n : Int) / 2 = ((n / 2 : Nat) : Int) := by simp
  rcases Nat.mod_two_eq_zero_or_one n with h | h
  · rw [h, if_neg (by omega), hd, show wrap64 (-((0 : Nat) : Int)) = 0 from IntWalk.wrap64_in _ ⟨by omega, by omega⟩]
    have := i64_xor_nat (n / 2) 0 (by omega) (by omega)
    rw [Nat.xor_zero] at this
    exact this
  · rw [h, if_pos (by omega), hd, show wrap64 (-((1 : Nat) : Int)) = -1 from IntWalk.wrap64_in _ ⟨by omega, by omega⟩]
    exact i64_xor_ones (n / 2) (by omega)

set_option maxHeartbeats 400000 in
theorem unfold_any (v : Int) (w : World) : Calls Try.prog 22 #[.int .i64 v] w fun e w' => e = .returned (unfoldV v) ∧ w = w' := by
  unfold unfoldV
  by_cases h : v < 0 ∨ 34359738368 ≤ v
  · rw [if_pos h]
    have H := Lib.hid h
    clear h
    go_enter Try.func22, Try.ntmps22
    go_wp2_with (first | (go_at_call 33; (with_reducible refine (allowed_no _ _ H.out).mono ?_); rintro e w' ⟨rfl, rfl⟩))
    go_ret2
    exact ⟨rfl, rfl⟩
  · rw [if_neg h]
    have h0 : 0 ≤ v := by omega
    have h1 : v < 34359738368 := by omega
    clear h
    go_enter Try.func22, Try.ntmps22
    go_wp2_with (first | (go_at_call 33; (with_reducible refine (allowed_yes _ _ h0 h1).mono ?_); rintro e w' ⟨rfl, rfl⟩))
    all_goals
      go_ret2
      refine ⟨?_, rfl⟩
      have hz := zig v h0 h1
      simp [hz]
      try omega

set_option maxHeartbeats 400000 in
theorem rfold_any (v : Int) (w : World) : Calls Try.prog 21 #[.int .i64 v] w fun e w' => e = .returned (foldV v) ∧ w = w' := by
  unfold foldV
  by_cases h1 : v < -17179869184
  · go_enter Try.func21, Try.ntmps21
    go_wp2
    go_ret2
    exact ⟨by simp, rfl⟩
  · by_cases h2 : 17179869183 < v
    · go_enter Try.func21, Try.ntmps21
      go_wp2
      go_ret2
      exact ⟨by simp, rfl⟩
    · by_cases h3 : v < 0
      · go_enter Try.func21, Try.ntmps21
        go_wp2
        go_ret2
        exact ⟨by simp, rfl⟩
      · go_enter Try.func21, Try.ntmps21
        go_wp2
        go_ret2
        exact ⟨by simp, rfl⟩

set_option maxHeartbeats 400000 in
theorem runfold_any (v : Int) (w : World) : Calls Try.prog 23 #[.int .i64 v] w fun e w' => e = .returned (unfoldV v) ∧ w = w' := by
  unfold unfoldV
  by_cases h : v < 0 ∨ 34359738368 ≤ v
  · rw [if_pos h]
    have H := Lib.hid h
    clear h
    go_enter Try.func23, Try.ntmps23
    go_wp2_with (first | (go_at_call 27; (with_reducible refine (rallowed_no _ _ H.out).mono ?_); rintro e w' ⟨rfl, rfl⟩))
    go_ret2
    exact ⟨rfl, rfl⟩
  · rw [if_neg h]
    have h0 : 0 ≤ v := by omega
    have h1 : v < 34359738368 := by omega
    clear h
    by_cases hm : v % 2 = 1
    · rw [if_pos hm]
      have hd : (v % 2 == 1) = true := by simp [hm]
      have HM := Lib.hid hm
      clear hm
      go_enter Try.func23, Try.ntmps23
      go_wp2_with (first | (go_at_call 27; (with_reducible refine (rallowed_yes _ _ h0 h1).mono ?_); rintro e w' ⟨rfl, rfl⟩))
      go_ret2
      refine ⟨?_, rfl⟩
      have e1 : wrap64 (-(v + 1).tdiv 2) = -(v / 2) - 1 := by
        have := HM.out
        rw [Int.tdiv_eq_ediv_of_nonneg (by omega), IntWalk.wrap64_in _ ⟨by omega, by omega⟩]
        omega
      simp [e1]
    · rw [if_neg hm]
      have hd : (v % 2 == 1) = false := by simp [hm]
      have HM := Lib.hid hm
      clear hm
      go_enter Try.func23, Try.ntmps23
      go_wp2_with (first | (go_at_call 27; (with_reducible refine (rallowed_yes _ _ h0 h1).mono ?_); rintro e w' ⟨rfl, rfl⟩))
      go_ret2
      exact ⟨rfl, rfl⟩
end Go.Proofs.Ytbimolbiccmdiaa

/- The walk of BitsJoins, all cases. -/
import Derived.Test.YthgbnpafhkhjpaaL3
namespace Go.Proofs.Ythgbnpafhkhjpaa
open Go.RowKit
set_option linter.unusedVariables false
set_option linter.unusedSimpArgs false

set_option maxRecDepth 100000 in
set_option maxHeartbeats 4000000 in
theorem joins_any (x y m n ahead : Int) (w : World) (_ : (Lit.int .i64 x).wf = true) (_ : (Lit.int .i64 y).wf = true) (_ : (Lit.int .i64 m).wf = true) (_ : (Lit.int .i64 n).wf = true) (_ : (Lit.int .i64 ahead).wf = true) : Calls Try.prog 3 #[.int .i64 x, .int .i64 y, .int .i64 m, .int .i64 n, .int .i64 ahead] w fun e w' => e = .returned (.bool true) ∧ Below w.heap.size w w' := by
  rename_i k1 k2 k3 k4 k5
  clear k1 k2 k3 k4 k5
  have KN9 := Lib.hid (known_any w)
  cases q1 : decide (m < 1)
  rotate_left
  · skip
    go_enter Try.func3, Try.ntmps3
    go_wp2_with (go_at_call 9; (with_reducible refine KN9.out.mono ?_); rintro e w1 ⟨rfl, b1⟩; have B1 := Lib.hid b1; clear b1)
    go_ret
    exact ⟨rfl, B1.out⟩
  cases q2 : decide (n < 1)
  rotate_left
  · skip
    go_enter Try.func3, Try.ntmps3
    go_wp2_with (go_at_call 9; (with_reducible refine KN9.out.mono ?_); rintro e w1 ⟨rfl, b1⟩; have B1 := Lib.hid b1; clear b1)
    go_ret
    exact ⟨rfl, B1.out⟩
  cases q3 : decide (31 < m)
  rotate_left
  · skip
    go_enter Try.func3, Try.ntmps3
    go_wp2_with (go_at_call 9; (with_reducible refine KN9.out.mono ?_); rintro e w1 ⟨rfl, b1⟩; have B1 := Lib.hid b1; clear b1)
    go_ret
    exact ⟨rfl, B1.out⟩
  cases q4 : decide (31 < n)
  rotate_left
  · skip
    go_enter Try.func3, Try.ntmps3
    go_wp2_with (go_at_call 9; (with_reducible refine KN9.out.mono ?_); rintro e w1 ⟨rfl, b1⟩; have B1 := Lib.hid b1; clear b1)
    go_ret
    exact ⟨rfl, B1.out⟩
  have e1 : 1 ≤ m ∧ m ≤ 31 ∧ 1 ≤ n ∧ n ≤ 31 := by simp at q1 q2 q3 q4; omega
  obtain ⟨e1, e2, e3, e4⟩ := e1
  cases q5 : decide (32 < m + n)
  rotate_left
  · skip
    go_enter Try.func3, Try.ntmps3
    go_wp2_with (go_at_call 9; (with_reducible refine KN9.out.mono ?_); rintro e w1 ⟨rfl, b1⟩; have B1 := Lib.hid b1; clear b1)
    go_ret
    exact ⟨rfl, B1.out⟩
  cases q6 : decide (x < 0)
  rotate_left
  · skip
    go_enter Try.func3, Try.ntmps3
    go_wp2_with (go_at_call 9; (with_reducible refine KN9.out.mono ?_); rintro e w1 ⟨rfl, b1⟩; have B1 := Lib.hid b1; clear b1)
    go_ret
    exact ⟨rfl, B1.out⟩
  cases q7 : decide (y < 0)
  rotate_left
  · skip
    go_enter Try.func3, Try.ntmps3
    go_wp2_with (go_at_call 9; (with_reducible refine KN9.out.mono ?_); rintro e w1 ⟨rfl, b1⟩; have B1 := Lib.hid b1; clear b1)
    go_ret
    exact ⟨rfl, B1.out⟩
  obtain ⟨m, rfl⟩ : ∃ k : Nat, m = k := ⟨m.toNat, by omega⟩
  obtain ⟨n, rfl⟩ : ∃ k : Nat, n = k := ⟨n.toNat, by omega⟩
  have hpm : 2 ^ m ≤ 2 ^ 31 := Nat.pow_le_pow_right (by omega) (by omega)
  have hpn : 2 ^ n ≤ 2 ^ 31 := Nat.pow_le_pow_right (by omega) (by omega)
  have cM : (2 : Int) ^ m = ((2 ^ m : Nat) : Int) := by simp
  have cN : (2 : Int) ^ n = ((2 ^ n : Nat) : Int) := by simp
  have r1 : (1 : Int) ≤ 2 ^ m := by rw [cM]; have := Nat.two_pow_pos m; omega
  have r2 : (2 : Int) ^ m ≤ 2147483648 := by rw [cM]; omega
  have r3 : (1 : Int) ≤ 2 ^ n := by rw [cN]; have := Nat.two_pow_pos n; omega
  have r4 : (2 : Int) ^ n ≤ 2147483648 := by rw [cN]; omega
  have r7 : (m : Int) < 64 := by omega
  have r8 : (n : Int) < 64 := by omega
  have r9 : (0 : Int) ≤ m := by omega
  have r10 : (0 : Int) ≤ n := by omega
  have CM := Lib.hid cM
  have CN := Lib.hid cN
  clear hpm hpn cM cN
  cases q8 : decide ((2 : Int) ^ m ≤ x)
  rotate_left
  · skip
    go_enter Try.func3, Try.ntmps3
    go_wp2_with (go_at_call 9; (with_reducible refine KN9.out.mono ?_); rintro e w1 ⟨rfl, b1⟩; have B1 := Lib.hid b1; clear b1)
    go_ret
    exact ⟨rfl, B1.out⟩
  cases q9 : decide ((2 : Int) ^ n ≤ y)
  rotate_left
  · skip
    go_enter Try.func3, Try.ntmps3
    go_wp2_with (go_at_call 9; (with_reducible refine KN9.out.mono ?_); rintro e w1 ⟨rfl, b1⟩; have B1 := Lib.hid b1; clear b1)
    go_ret
    exact ⟨rfl, B1.out⟩
  cases q10 : decide (ahead < 1)
  rotate_left
  · skip
    go_enter Try.func3, Try.ntmps3
    go_wp2_with (go_at_call 9; (with_reducible refine KN9.out.mono ?_); rintro e w1 ⟨rfl, b1⟩; have B1 := Lib.hid b1; clear b1)
    go_ret
    exact ⟨rfl, B1.out⟩
  cases q11 : decide (31 < ahead)
  rotate_left
  · skip
    go_enter Try.func3, Try.ntmps3
    go_wp2_with (go_at_call 9; (with_reducible refine KN9.out.mono ?_); rintro e w1 ⟨rfl, b1⟩; have B1 := Lib.hid b1; clear b1)
    go_ret
    exact ⟨rfl, B1.out⟩
  clear KN9
  simp only [decide_eq_false_iff_not] at q1 q2 q3 q4 q5 q6 q7 q8 q9 q10 q11
  rw [CM.out] at q8
  rw [CN.out] at q9
  obtain ⟨x, rfl⟩ : ∃ k : Nat, x = k := ⟨x.toNat, by omega⟩
  obtain ⟨y, rfl⟩ : ∃ k : Nat, y = k := ⟨y.toNat, by omega⟩
  obtain ⟨ahead, rfl⟩ : ∃ k : Nat, ahead = k := ⟨ahead.toNat, by omega⟩
  exact joins_main x y m n ahead w (by omega) (by omega) (by omega) (by omega) (by omega) (by omega) (by omega) (by omega) (by omega)
end Go.Proofs.Ythgbnpafhkhjpaa

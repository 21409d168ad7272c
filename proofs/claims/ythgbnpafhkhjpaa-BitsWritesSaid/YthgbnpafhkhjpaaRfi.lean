/- The reference's fits. -/
import Derived.Test.YthgbnpafhkhjpaaRr
namespace Go.Proofs.Ythgbnpafhkhjpaa
open Go.RowKit
set_option linter.unusedVariables false
set_option linter.unusedSimpArgs false

set_option maxRecDepth 100000 in
theorem rfits_any (v : Int) (n : Nat) (hn : n ≤ 32) (w : World) : Calls Try.prog 68 #[.int .i64 v, .int .i64 n] w fun e w' => e = .returned (.bool (decide (0 ≤ v) && decide (v < 2 ^ n))) ∧ w = w' := by
  have cN : (2 : Int) ^ n = ((2 ^ n : Nat) : Int) := by simp
  have hpn : 2 ^ n ≤ 2 ^ 32 := Nat.pow_le_pow_right (by omega) hn
  have r3 : (1 : Int) ≤ 2 ^ n := by rw [cN]; have := Nat.two_pow_pos n; omega
  have r4 : (2 : Int) ^ n ≤ 4294967296 := by rw [cN]; omega
  have r8 : (n : Int) < 64 := by omega
  have r10 : (0 : Int) ≤ n := by omega
  clear cN hpn
  cases q : decide (0 ≤ v)
  · go_enter Try.func68, Try.ntmps68
    go_wp2_with fail
    go_ret
    exact ⟨by simp, rfl⟩
  · go_enter Try.func68, Try.ntmps68
    go_wp2_with fail
    go_ret
    exact ⟨by simp, rfl⟩
end Go.Proofs.Ythgbnpafhkhjpaa

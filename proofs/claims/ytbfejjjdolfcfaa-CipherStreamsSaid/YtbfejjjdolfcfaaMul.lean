/- Contracts of bits.Mul64, bits.Mul at 1 and 8. -/
import Derived.Test.YtbfejjjdolfcfaaCat
namespace Go.Proofs.Ytbfejjjdolfcfaa
open Go.RowKit
set_option linter.unusedVariables false
set_option linter.unusedSimpArgs false

set_option maxRecDepth 100000 in
theorem mul_18 (w : World) : Calls Try.prog 38 #[.int .u64 1, .int .u64 8] w fun e w' => e = .returned (.tuple #[.int .u64 0, .int .u64 8]) ∧ w = w' := by
  have b1 : bits BinOp.and IntKind.u64 1 4294967295 = 1 := by decide +kernel
  have b2 : bits BinOp.and IntKind.u64 8 4294967295 = 8 := by decide +kernel
  have b3 : bits BinOp.and IntKind.u64 0 4294967295 = 0 := by decide +kernel
  go_enter Try.func38, Try.ntmps38
  go_wp2
  go_ret2
  exact ⟨rfl, rfl⟩
end Go.Proofs.Ytbfejjjdolfcfaa

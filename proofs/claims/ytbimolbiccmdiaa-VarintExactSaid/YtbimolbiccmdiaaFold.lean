/- Contracts of varint.Fold, varint.Unfold and of the reference's, at every int. -/
import Derived.Test.YtbimolbiccmdiaaRows
import Derived.WalkKit
import Derived.WalkSpells
import Derived.WalkLawsBesides
namespace Go.Proofs.Ytbimolbiccmdiaa
open Go.RowKit

/-- What Fold gives. -/
def foldV (v : Int) : Value := if v < -17179869184 ∨ 17179869184 ≤ v then .tuple #[.int .i64 0, .int .i64 3] else if v < 0 then .tuple #[.int .i64 (-2 * v - 1), .int .i64 0] else .tuple #[.int .i64 (2 * v), .int .i64 0]

set_option maxHeartbeats 400000 in
theorem fold_any (v : Int) (w : World) :
    Calls Try.prog 20 #[.int .i64 v] w fun e w' => e = .returned (foldV v) ∧ w = w' := by
  unfold foldV
  by_cases h1 : v < -17179869184
  · go_enter Try.func20, Try.ntmps20
    go_wp2
    go_ret2
    exact ⟨by simp, rfl⟩
  · by_cases h2 : 17179869184 ≤ v
    · go_enter Try.func20, Try.ntmps20
      go_wp2
      go_ret2
      exact ⟨by simp, rfl⟩
    · by_cases h3 : v < 0
      · go_enter Try.func20, Try.ntmps20
        go_wp2
        go_ret2
        exact ⟨by simp, rfl⟩
      · go_enter Try.func20, Try.ntmps20
        go_wp2
        go_ret2
        exact ⟨by simp, rfl⟩
end Go.Proofs.Ytbimolbiccmdiaa

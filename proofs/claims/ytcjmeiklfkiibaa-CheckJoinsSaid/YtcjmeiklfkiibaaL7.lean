/- The walk of CheckJoins. -/
import Derived.Test.YtcjmeiklfkiibaaKn
import Derived.Test.YtcjmeiklfkiibaaJoin
namespace Go.Proofs.Ytcjmeiklfkiibaa
open Go.RowKit

set_option maxRecDepth 100000 in
set_option maxHeartbeats 1000000 in
theorem joins_law (f s n : Int) (w : World) (_ : (Lit.int IntKind.i64 f).wf = true) (_ : (Lit.int IntKind.i64 s).wf = true) (hn : (Lit.int IntKind.i64 n).wf = true) :
    Calls Try.prog 7 #[.int .i64 f, .int .i64 s, .int .i64 n] w fun e w' => e = .returned (.bool true) ∧ Below w.heap.size w w' := by
  have hn2 : n < 9223372036854775808 := by
    simp [Lit.wf, IntKind.min, IntKind.max, IntKind.bits, IntKind.signed] at hn
    omega
  obtain ⟨v, e0, c1, c2⟩ : ∃ v e0 : Int, (∀ W : World, Calls Try.prog 18 #[.int .i64 f, .int .i64 s, .int .i64 n] W fun e w' => e = .returned (.tuple #[.int .i64 v, .int .i64 e0]) ∧ W = w') ∧ (∀ W : World, Calls Try.prog 19 #[.int .i64 f, .int .i64 s, .int .i64 n] W fun e w' => e = .returned (.tuple #[.int .i64 v, .int .i64 e0]) ∧ W = w') := by
    by_cases h : BadJ f s n
    · exact ⟨0, 2, fun W => join_bad f s n W h, fun W => rjoin_bad f s n W h⟩
    · unfold BadJ at h
      exact ⟨_, 0, fun W => join_ok f s n W (by omega) (by omega) (by omega) (by omega) (by omega) hn2, fun W => rjoin_ok f s n W (by omega) (by omega) (by omega) (by omega) (by omega) hn2⟩
  have C1 := Lib.hid c1
  have C2 := Lib.hid c2
  clear c1 c2 hn hn2
  go_enter Try.func7, Try.ntmps7
  go_wp2_with (first
    | (go_at_call 18; (with_reducible refine (C1.out _).mono ?_); rintro e w1 ⟨rfl, rfl⟩)
    | (go_at_call 19; (with_reducible refine (C2.out _).mono ?_); rintro e w1 ⟨rfl, rfl⟩)
    | (go_at_call 11; (with_reducible refine (known_any _).mono ?_); rintro e w5 ⟨rfl, b5⟩; have B5 := Lib.hid b5; clear b5))
  go_ret
  exact ⟨by simp, B5.out⟩
end Go.Proofs.Ytcjmeiklfkiibaa

/- Contracts of check.Join, the reference's mod and Join. -/
import Derived.Test.YtcjmeiklfkiibaaProg
import Derived.Test.YtcjmeiklfkiibaaBase
import Derived.Test.YtcjmeiklfkiibaaLaws
import Derived.WalkLawsBesides
namespace Go.Proofs.Ytcjmeiklfkiibaa
open Go.RowKit

theorem mod_pos (v : Int) (w : World) (h : 0 ≤ v) (h2 : v < 9223372036854775808) : Calls Try.prog 31 #[.int .i64 v] w fun e w' => e = .returned (.int .i64 (v % 65521)) ∧ w = w' := by
  go_enter Try.func31, Try.ntmps31
  go_wp2
  go_ret
  refine ⟨?_, rfl⟩
  show Ending.returned (.int .i64 _) = _
  congr 2
  omega
theorem mod_neg (v : Int) (w : World) (h : v = -1) : Calls Try.prog 31 #[.int .i64 v] w fun e w' => e = .returned (.int .i64 (v % 65521)) ∧ w = w' := by
  subst h
  go_enter Try.func31, Try.ntmps31
  go_wp2
  go_ret
  exact ⟨rfl, rfl⟩

def lowJ (f s : Int) : Int := (f % 65536 + s % 65536 - 1) % 65521
def highJ (f s n : Int) : Int := (f / 65536 + s / 65536 + n % 65521 * ((f % 65536 - 1) % 65521)) % 65521

theorem prod_lt {p q : Int} (h1 : 0 ≤ p) (h2 : p < 65521) (h3 : 0 ≤ q) (h4 : q < 65521) : 0 ≤ p * q ∧ p * q < 4294967296 := by
  refine ⟨Int.mul_nonneg h1 h3, ?_⟩
  have : p * q ≤ 65521 * 65521 := Int.mul_le_mul (by omega) (by omega) h3 (by omega)
  omega

set_option maxRecDepth 100000 in
theorem join_ok (f s n : Int) (w : World) (h1 : 0 ≤ f) (h2 : f < 4294967296) (h3 : 0 ≤ s) (h4 : s < 4294967296) (h5 : 0 ≤ n) (h6 : n < 9223372036854775808) : Calls Try.prog 18 #[.int .i64 f, .int .i64 s, .int .i64 n] w fun e w' => e = .returned (.tuple #[.int .i64 (highJ f s n * 65536 + lowJ f s), .int .i64 0]) ∧ w = w' := by
  obtain ⟨p1, p2⟩ := prod_lt (p := n % 65521) (q := (f % 65536 - 1) % 65521) (by omega) (by omega) (by omega) (by omega)
  go_enter Try.func18, Try.ntmps18
  go_wp2
  all_goals (go_ret2; exact ⟨rfl, rfl⟩)

theorem mod_any (v : Int) (w : World) (h : -1 ≤ v) (h2 : v < 9223372036854775808) : Calls Try.prog 31 #[.int .i64 v] w fun e w' => e = .returned (.int .i64 (v % 65521)) ∧ w = w' := by
  by_cases h0 : 0 ≤ v
  · exact mod_pos v w h0 h2
  · exact mod_neg v w (by omega)

/-- What Join refuses. -/
def BadJ (f s n : Int) : Prop := f < 0 ∨ 4294967296 ≤ f ∨ s < 0 ∨ 4294967296 ≤ s ∨ n < 0

set_option maxRecDepth 100000 in
theorem join_bad (f s n : Int) (w : World) (h : BadJ f s n) : Calls Try.prog 18 #[.int .i64 f, .int .i64 s, .int .i64 n] w fun e w' => e = .returned (.tuple #[.int .i64 0, .int .i64 2]) ∧ w = w' := by
  by_cases h1 : f < 0
  · clear h
    go_enter Try.func18, Try.ntmps18
    go_wp2
    all_goals (go_ret2; exact ⟨rfl, rfl⟩)
  by_cases h2 : s < 0
  · clear h
    go_enter Try.func18, Try.ntmps18
    go_wp2
    all_goals (go_ret2; exact ⟨rfl, rfl⟩)
  by_cases h3 : n < 0
  · clear h
    go_enter Try.func18, Try.ntmps18
    go_wp2
    all_goals (go_ret2; exact ⟨rfl, rfl⟩)
  by_cases h4 : 4294967296 ≤ f
  · clear h
    go_enter Try.func18, Try.ntmps18
    go_wp2
    all_goals (go_ret2; exact ⟨rfl, rfl⟩)
  have h5 : 4294967296 ≤ s := by unfold BadJ at h; omega
  clear h
  go_enter Try.func18, Try.ntmps18
  go_wp2
  all_goals (go_ret2; exact ⟨rfl, rfl⟩)

set_option maxRecDepth 100000 in
theorem rjoin_bad (f s n : Int) (w : World) (h : BadJ f s n) : Calls Try.prog 19 #[.int .i64 f, .int .i64 s, .int .i64 n] w fun e w' => e = .returned (.tuple #[.int .i64 0, .int .i64 2]) ∧ w = w' := by
  by_cases h1 : f < 0
  · clear h
    go_enter Try.func19, Try.ntmps19
    go_wp2
    all_goals (go_ret2; exact ⟨rfl, rfl⟩)
  by_cases h4 : 4294967296 ≤ f
  · clear h
    go_enter Try.func19, Try.ntmps19
    go_wp2
    all_goals (go_ret2; exact ⟨rfl, rfl⟩)
  have h1 : 0 ≤ f := by omega
  have h4 : f < 4294967296 := by omega
  by_cases h2 : s < 0
  · clear h
    go_enter Try.func19, Try.ntmps19
    go_wp2
    all_goals (go_ret2; exact ⟨rfl, rfl⟩)
  by_cases h5 : 4294967296 ≤ s
  · clear h
    go_enter Try.func19, Try.ntmps19
    go_wp2
    all_goals (go_ret2; exact ⟨rfl, rfl⟩)
  have h2 : 0 ≤ s := by omega
  have h5 : s < 4294967296 := by omega
  have h3 : n < 0 := by unfold BadJ at h; omega
  clear h
  go_enter Try.func19, Try.ntmps19
  go_wp2
  all_goals (go_ret2; exact ⟨rfl, rfl⟩)

set_option maxRecDepth 100000 in
theorem rjoin_ok (f s n : Int) (w : World) (h1 : 0 ≤ f) (h2 : f < 4294967296) (h3 : 0 ≤ s) (h4 : s < 4294967296) (h5 : 0 ≤ n) (h6 : n < 9223372036854775808) : Calls Try.prog 19 #[.int .i64 f, .int .i64 s, .int .i64 n] w fun e w' => e = .returned (.tuple #[.int .i64 (highJ f s n * 65536 + lowJ f s), .int .i64 0]) ∧ w = w' := by
  obtain ⟨p1, p2⟩ := prod_lt (p := n % 65521) (q := (f % 65536 - 1) % 65521) (by omega) (by omega) (by omega) (by omega)
  go_enter Try.func19, Try.ntmps19
  go_wp2_with (go_at_call 31; (with_reducible refine (mod_any _ _ (by omega) (by omega)).mono ?_); rintro e w' ⟨rfl, rfl⟩)
  go_ret2
  refine ⟨?_, rfl⟩
  show Ending.returned (.tuple #[.int .i64 (65536 * highJ f s n + lowJ f s), .int .i64 0]) = _
  rw [Int.mul_comm]
end Go.Proofs.Ytcjmeiklfkiibaa

/- The law's write: one call of a writer. -/
import Derived.Test.YthgbnpafhkhjpaaPa3
namespace Go.Proofs.Ythgbnpafhkhjpaa
open Go.RowKit
set_option linter.unusedVariables false
set_option linter.unusedSimpArgs false

set_option maxRecDepth 100000 in
set_option maxHeartbeats 2000000 in
theorem lwrite_of (p A : Option Addr) (kd v n : Int) (k c : Nat) (Q : Int → World → Prop) (w : World) (h0 : 0 ≤ kd) (h1 : kd < 256)
    (c0 : ∀ W, Below w.heap.size w W → Calls Try.prog 11 #[.pointer p, .int .i64 v, .int .i64 n] W fun e w' => ∃ x, e = .returned (.int .i64 x) ∧ (kd % 4 = 0 → Q x w'))
    (c1 : ∀ W, Below w.heap.size w W → Calls Try.prog 17 #[.pointer p, .int .i64 v, .int .i64 n] W fun e w' => ∃ x, e = .returned (.int .i64 x) ∧ (kd % 4 = 1 → Q x w'))
    (c2 : ∀ W, Below w.heap.size w W → Calls Try.prog 43 #[.pointer p, .slice A k c] W fun e w' => ∃ x, e = .returned (.int .i64 x) ∧ (kd % 4 = 2 → Q x w'))
    (c3 : ∀ W, Below w.heap.size w W → Calls Try.prog 33 #[.pointer p, .int .i64 n] W fun e w' => ∃ x, e = .returned (.int .i64 x) ∧ (kd % 4 = 3 → Q x w')) :
    Calls Try.prog 19 #[.pointer p, .agg #[.int .u8 kd, .int .i64 v, .int .i64 n, .slice A k c]] w fun e w' => ∃ x, e = .returned (.int .i64 x) ∧ Q x w' := by
  have hb : Below w.heap.size w (w.alloc (.cells #[.int .u8 kd, .int .i64 v, .int .i64 n, .slice A k c] 41)) := (Below.refl _ w).alloc (Nat.le_refl _) _
  have C0 := Lib.hid (c0 _ hb)
  have C1 := Lib.hid (c1 _ hb)
  have C2 := Lib.hid (c2 _ hb)
  have C3 := Lib.hid (c3 _ hb)
  clear c0 c1 c2 c3 hb
  have hr : kd.tmod 4 = kd % 4 := Int.tmod_eq_emod_of_nonneg h0
  rcases (show kd % 4 = 0 ∨ kd % 4 = 1 ∨ kd % 4 = 2 ∨ kd % 4 = 3 by omega) with hk | hk | hk | hk
  · have q0 : (kd % 4 == 0) = true := by simp [hk]
    go_enter Try.func19, Try.ntmps19
    go_wp2_with (first
      | (go_at_call 11; (with_reducible refine C0.out.mono ?_); rintro e w1 ⟨x, rfl, hQ⟩))
    go_ret
    exact ⟨_, rfl, hQ hk⟩
  · have q0 : (kd % 4 == 0) = false := by simp [hk]
    have q1 : (kd % 4 == 1) = true := by simp [hk]
    go_enter Try.func19, Try.ntmps19
    go_wp2_with (first
      | (go_at_call 17; (with_reducible refine C1.out.mono ?_); rintro e w1 ⟨x, rfl, hQ⟩))
    go_ret
    exact ⟨_, rfl, hQ hk⟩
  · have q0 : (kd % 4 == 0) = false := by simp [hk]
    have q1 : (kd % 4 == 1) = false := by simp [hk]
    have q2 : (kd % 4 == 2) = true := by simp [hk]
    go_enter Try.func19, Try.ntmps19
    go_wp2_with (first
      | (go_at_call 43; (with_reducible refine C2.out.mono ?_); rintro e w1 ⟨x, rfl, hQ⟩))
    go_ret
    exact ⟨_, rfl, hQ hk⟩
  · have q0 : (kd % 4 == 0) = false := by simp [hk]
    have q1 : (kd % 4 == 1) = false := by simp [hk]
    have q2 : (kd % 4 == 2) = false := by simp [hk]
    go_enter Try.func19, Try.ntmps19
    go_wp2_with (first
      | (go_at_call 33; (with_reducible refine C3.out.mono ?_); rintro e w1 ⟨x, rfl, hQ⟩))
    go_ret
    exact ⟨_, rfl, hQ hk⟩

theorem lwrite_none (p A : Option Addr) (kd v n : Int) (k c : Nat) (w : World) (h0 : 0 ≤ kd) (h1 : kd < 256) (hk : k ≤ 1000000) (h36 : ∀ W, Below w.heap.size w W → Calls Try.prog 36 #[.pointer p] W fun e w' => e = .returned (.bool false) ∧ W = w') :
    Calls Try.prog 19 #[.pointer p, .agg #[.int .u8 kd, .int .i64 v, .int .i64 n, .slice A k c]] w fun e w' => ∃ x, e = .returned (.int .i64 x) ∧ (x = 1 ∧ Below w.heap.size w w') := by
  have up : ∀ W, Below w.heap.size w W → ∀ W2, Below W.heap.size W W2 → Calls Try.prog 36 #[.pointer p] W2 fun e w' => e = .returned (.bool false) ∧ W2 = w' := fun W hb W2 h2 => h36 W2 (hb.trans (h2.mono hb.size))
  refine lwrite_of p A kd v n k c _ w h0 h1 (fun W hb => (put_none p v n W (up W hb)).mono ?_) (fun W hb => (little_none p v n W (up W hb)).mono ?_) (fun W hb => (bytes_none p A k c W hk (up W hb)).mono ?_) (fun W hb => (align_none p n W (up W hb)).mono ?_)
  all_goals
    rintro e w' ⟨x, rfl, hx, h⟩
    exact ⟨x, rfl, fun _ => ⟨hx, hb.trans (h.mono hb.size)⟩⟩
end Go.Proofs.Ythgbnpafhkhjpaa

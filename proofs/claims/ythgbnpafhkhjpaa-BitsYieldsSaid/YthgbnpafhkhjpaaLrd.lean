/- The law's read: one call of a reader. -/
import Derived.Test.YthgbnpafhkhjpaaKn
namespace Go.Proofs.Ythgbnpafhkhjpaa
open Go.RowKit
set_option linter.unusedVariables false
set_option linter.unusedSimpArgs false

set_option maxRecDepth 100000 in
set_option maxHeartbeats 2000000 in
theorem lread_of (p A : Option Addr) (kd v n : Int) (k c : Nat) (Q : Int → Value → Int → World → Prop) (w : World) (h0 : 0 ≤ kd) (h1 : kd < 256)
    (c0 : ∀ W, Below w.heap.size w W → Calls Try.prog 16 #[.pointer p, .int .i64 n] W fun e w' => ∃ x E, e = .returned (.tuple #[.int .i64 x, .int .i64 E]) ∧ (kd % 5 = 0 → Q x (.slice none 0 0) E w'))
    (c1 : ∀ W, Below w.heap.size w W → Calls Try.prog 20 #[.pointer p, .int .i64 n] W fun e w' => ∃ x E, e = .returned (.tuple #[.int .i64 x, .int .i64 E]) ∧ (kd % 5 = 1 → Q x (.slice none 0 0) E w'))
    (c2 : ∀ W, Below w.heap.size w W → Calls Try.prog 21 #[.pointer p, .int .i64 n] W fun e w' => ∃ B m d E, e = .returned (.tuple #[.slice B m d, .int .i64 E]) ∧ (kd % 5 = 2 → Q 0 (.slice B m d) E w'))
    (c3 : ∀ W, Below w.heap.size w W → Calls Try.prog 15 #[.pointer p, .int .i64 n] W fun e w' => ∃ E, e = .returned (.int .i64 E) ∧ (kd % 5 = 3 → Q 0 (.slice none 0 0) E w'))
    (c4 : ∀ W, Below w.heap.size w W → Calls Try.prog 22 #[.pointer p, .int .i64 n] W fun e w' => ∃ E, e = .returned (.int .i64 E) ∧ (kd % 5 = 4 → Q 0 (.slice none 0 0) E w')) :
    Calls Try.prog 27 #[.pointer p, .agg #[.int .u8 kd, .int .i64 v, .int .i64 n, .slice A k c]] w fun e w' => ∃ x u E, e = .returned (.tuple #[.int .i64 x, u, .int .i64 E]) ∧ Q x u E w' := by
  have hb : Below w.heap.size w (w.alloc (.cells #[.int .u8 kd, .int .i64 v, .int .i64 n, .slice A k c] 41)) := (Below.refl _ w).alloc (Nat.le_refl _) _
  have C0 := Lib.hid (c0 _ hb)
  have C1 := Lib.hid (c1 _ hb)
  have C2 := Lib.hid (c2 _ hb)
  have C3 := Lib.hid (c3 _ hb)
  have C4 := Lib.hid (c4 _ hb)
  clear c0 c1 c2 c3 c4 hb
  have hr : kd.tmod 5 = kd % 5 := Int.tmod_eq_emod_of_nonneg h0
  rcases (show kd % 5 = 0 ∨ kd % 5 = 1 ∨ kd % 5 = 2 ∨ kd % 5 = 3 ∨ kd % 5 = 4 by omega) with hk | hk | hk | hk | hk
  · have q0 : (kd % 5 == 0) = true := by simp [hk]
    go_enter Try.func27, Try.ntmps27
    go_wp2_with (first
      | (go_at_call 16; (with_reducible refine C0.out.mono ?_); rintro e w1 ⟨x, E, rfl, hQ⟩))
    refine bodyPost_ret (v := .tuple #[.int .i64 x, .slice none 0 0, .int .i64 E]) (by simp [results, Try.results27, go_sem]) rfl ⟨_, _, _, rfl, hQ hk⟩
  · have q0 : (kd % 5 == 0) = false := by simp [hk]
    have q1 : (kd % 5 == 1) = true := by simp [hk]
    go_enter Try.func27, Try.ntmps27
    go_wp2_with (first
      | (go_at_call 20; (with_reducible refine C1.out.mono ?_); rintro e w1 ⟨x, E, rfl, hQ⟩))
    refine bodyPost_ret (v := .tuple #[.int .i64 x, .slice none 0 0, .int .i64 E]) (by simp [results, Try.results27, go_sem]) rfl ⟨_, _, _, rfl, hQ hk⟩
  · have q0 : (kd % 5 == 0) = false := by simp [hk]
    have q1 : (kd % 5 == 1) = false := by simp [hk]
    have q2 : (kd % 5 == 2) = true := by simp [hk]
    go_enter Try.func27, Try.ntmps27
    go_wp2_with (first
      | (go_at_call 21; (with_reducible refine C2.out.mono ?_); rintro e w1 ⟨B, m, d, E, rfl, hQ⟩))
    refine bodyPost_ret (v := .tuple #[.int .i64 0, .slice B m d, .int .i64 E]) (by simp [results, Try.results27, go_sem]) rfl ⟨_, _, _, rfl, hQ hk⟩
  · have q0 : (kd % 5 == 0) = false := by simp [hk]
    have q1 : (kd % 5 == 1) = false := by simp [hk]
    have q2 : (kd % 5 == 2) = false := by simp [hk]
    have q3 : (kd % 5 == 3) = true := by simp [hk]
    go_enter Try.func27, Try.ntmps27
    go_wp2_with (first
      | (go_at_call 15; (with_reducible refine C3.out.mono ?_); rintro e w1 ⟨E, rfl, hQ⟩))
    refine bodyPost_ret (v := .tuple #[.int .i64 0, .slice none 0 0, .int .i64 E]) (by simp [results, Try.results27, go_sem]) rfl ⟨_, _, _, rfl, hQ hk⟩
  · have q0 : (kd % 5 == 0) = false := by simp [hk]
    have q1 : (kd % 5 == 1) = false := by simp [hk]
    have q2 : (kd % 5 == 2) = false := by simp [hk]
    have q3 : (kd % 5 == 3) = false := by simp [hk]
    go_enter Try.func27, Try.ntmps27
    go_wp2_with (first
      | (go_at_call 22; (with_reducible refine C4.out.mono ?_); rintro e w1 ⟨E, rfl, hQ⟩))
    refine bodyPost_ret (v := .tuple #[.int .i64 0, .slice none 0 0, .int .i64 E]) (by simp [results, Try.results27, go_sem]) rfl ⟨_, _, _, rfl, hQ hk⟩

theorem lread_none (p A : Option Addr) (kd v n : Int) (k c : Nat) (w : World) (h0 : 0 ≤ kd) (h1 : kd < 256) (h49 : ∀ W, Below w.heap.size w W → Calls Try.prog 49 #[.pointer p] W fun e w' => e = .returned (.bool false) ∧ W = w') :
    Calls Try.prog 27 #[.pointer p, .agg #[.int .u8 kd, .int .i64 v, .int .i64 n, .slice A k c]] w fun e w' => ∃ x u E, e = .returned (.tuple #[.int .i64 x, u, .int .i64 E]) ∧ (x = 0 ∧ (∃ B d, u = .slice B 0 d) ∧ E = 1 ∧ Below w.heap.size w w') := by
  have up : ∀ W, Below w.heap.size w W → ∀ W2, Below W.heap.size W W2 → Calls Try.prog 49 #[.pointer p] W2 fun e w' => e = .returned (.bool false) ∧ W2 = w' := fun W hb W2 h2 => h49 W2 (hb.trans (h2.mono hb.size))
  refine lread_of p A kd v n k c _ w h0 h1 (fun W hb => (get_none p n W (up W hb)).mono ?_) (fun W hb => ?_) (fun W hb => ?_) (fun W hb => (skip_none p n W (up W hb)).mono ?_) (fun W hb => (pad_none p n W (up W hb)).mono ?_)
  · rintro e w' ⟨rfl, h⟩
    exact ⟨_, _, rfl, fun _ => ⟨rfl, ⟨none, 0, rfl⟩, rfl, hb.trans (h.mono hb.size)⟩⟩
  · refine (rlittle_of p n 1 [] (fun w' => Below W.heap.size W w') W (by simp) (take_none p n 1 4 W (up W hb))).mono ?_
    rintro e w' ⟨rfl, h⟩
    exact ⟨_, _, rfl, fun _ => ⟨rfl, ⟨none, 0, rfl⟩, rfl, hb.trans (h.mono hb.size)⟩⟩
  · refine (rtake_of p n 1 0 [] (fun w' => Below W.heap.size W w') W (take_none p n 0 n W (up W hb))).mono ?_
    rintro e w' ⟨v', rfl, ho, h⟩
    obtain ⟨B, d, rfl, -⟩ := own_form ho
    exact ⟨_, _, _, _, rfl, fun _ => ⟨rfl, ⟨B, d, rfl⟩, rfl, hb.trans (h.mono hb.size)⟩⟩
  · rintro e w' ⟨rfl, h⟩
    exact ⟨_, rfl, fun _ => ⟨rfl, ⟨none, 0, rfl⟩, rfl, hb.trans (h.mono hb.size)⟩⟩
  · rintro e w' ⟨rfl, h⟩
    exact ⟨_, rfl, fun _ => ⟨rfl, ⟨none, 0, rfl⟩, rfl, hb.trans (h.mono hb.size)⟩⟩
end Go.Proofs.Ythgbnpafhkhjpaa

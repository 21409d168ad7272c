/- The walk of CheckNone. -/
import Derived.Test.YtcjmeiklfkiibaaSt
import Derived.Outline
namespace Go.Proofs.Ytcjmeiklfkiibaa
open Go.RowKit

set_option maxRecDepth 100000 in
theorem sum_none (p : Value) (w : World) (c0 : Calls Try.prog 32 #[p] w fun e w' => e = .returned (.bool true) ∧ w = w') : Calls Try.prog 22 #[p] w fun e w' => e = .returned (.tuple #[.int .i64 0, .int .i64 1]) ∧ w = w' := by
  have C0 := Lib.hid c0
  clear c0
  go_enter Try.func22, Try.ntmps22
  go_wp2_with (go_at_call 32; (with_reducible refine C0.out.mono ?_); rintro e w1 ⟨rfl, rfl⟩)
  go_ret2
  exact ⟨rfl, rfl⟩
set_option maxRecDepth 100000 in
theorem write_none (p v : Value) (w : World) (c0 : Calls Try.prog 32 #[p] w fun e w' => e = .returned (.bool true) ∧ w = w') : Calls Try.prog 21 #[p, v] w fun e w' => e = .returned (.int .i64 1) ∧ w = w' := by
  have C0 := Lib.hid c0
  clear c0
  go_enter Try.func21, Try.ntmps21
  go_wp2_with (go_at_call 32; (with_reducible refine C0.out.mono ?_); rintro e w1 ⟨rfl, rfl⟩)
  go_ret
  exact ⟨rfl, rfl⟩
set_option maxRecDepth 100000 in
theorem len_none (p : Value) (w : World) (c0 : Calls Try.prog 32 #[p] w fun e w' => e = .returned (.bool true) ∧ w = w') : Calls Try.prog 24 #[p] w fun e w' => e = .returned (.int .i64 0) ∧ w = w' := by
  have C0 := Lib.hid c0
  clear c0
  go_enter Try.func24, Try.ntmps24
  go_wp2_with (go_at_call 32; (with_reducible refine C0.out.mono ?_); rintro e w1 ⟨rfl, rfl⟩)
  go_ret
  exact ⟨rfl, rfl⟩
set_option maxRecDepth 100000 in
theorem copy_none (p : Value) (w : World) (c0 : Calls Try.prog 32 #[p] w fun e w' => e = .returned (.bool true) ∧ w = w') : Calls Try.prog 23 #[p] w fun e w' => e = .returned (.pointer none) ∧ w = w' := by
  have C0 := Lib.hid c0
  clear c0
  go_enter Try.func23, Try.ntmps23
  go_wp2_with (go_at_call 32; (with_reducible refine C0.out.mono ?_); rintro e w1 ⟨rfl, rfl⟩)
  go_ret
  exact ⟨rfl, rfl⟩

theorem none_zero (g : Nat) (w : World) (hg : Blk w g 56 #[.int .i64 0, .int .i64 0, .int .i64 0, .int .i64 0]) : Calls Try.prog 32 #[.pointer (some ⟨g, 0, none⟩)] w fun e w' => e = .returned (.bool true) ∧ w = w' := by
  have h := none_some g 56 _ _ _ 0 w hg
  rw [show decide ((0 : Int) = 0) = true from rfl] at h
  exact h

set_option maxRecDepth 100000 in
set_option maxHeartbeats 2000000 in
theorem none_law (A : Option Addr) (n c : Nat) (l : List UInt8) (w : World) (_ : l.length = n) (_ : n ≤ c) (_ : c ≤ maxLen) (_ : BS w w.heap.size A l) :
    Calls Try.prog 10 #[.slice A n c] w fun e w' => e = .returned (.bool true) ∧ Below w.heap.size w w' := by
  by_cases hn : (n : Int) ≤ 100
  · skip
    go_enter Try.func10, Try.ntmps10
    go_wp2_with fail
    have cz := none_zero w.heap.size _ ((Blk.new w 56 #[.int .i64 0, .int .i64 0, .int .i64 0, .int .i64 0]).alloc (.cells #[.pointer none, .pointer (some ⟨w.heap.size, 0, none⟩)] 43))
    have CZ := Lib.hid cz
    have HBW := Lib.hid (((Below.refl _ w).alloc (Nat.le_refl _) (.cells #[.int .i64 0, .int .i64 0, .int .i64 0, .int .i64 0] 56)).alloc (by simp) (.cells #[.pointer none, .pointer (some ⟨w.heap.size, 0, none⟩)] 43))
    clear cz
    go_loop [17] (fun i => ∃ k : Int, (k = 0 ∨ k = 1 ∨ k = 2) ∧ i = .int .i64 k) (fun i => (2 - intOf i).toNat)
    case atStart => exact ⟨0, by omega, rfl⟩
    case round =>
      obtain ⟨k, hk, rfl⟩ := hrel
      rcases hk with rfl | rfl | rfl
      · go_wp2_with (first
        | (go_at_call 22; (with_reducible refine (sum_none _ _ (none_nil _)).mono ?_); rintro e w1 ⟨rfl, rfl⟩)
        | (go_at_call 21; (with_reducible refine (write_none _ _ _ (none_nil _)).mono ?_); rintro e w1 ⟨rfl, rfl⟩)
        | (go_at_call 24; (with_reducible refine (len_none _ _ (none_nil _)).mono ?_); rintro e w1 ⟨rfl, rfl⟩)
        | (go_at_call 23; (with_reducible refine (copy_none _ _ (none_nil _)).mono ?_); rintro e w1 ⟨rfl, rfl⟩))
        go_round
        case rel => exact ⟨1, by omega, rfl⟩
        case measure => simp [intOf]
      · go_wp2_with (first
        | (go_at_call 22; (with_reducible refine (sum_none _ _ CZ.out).mono ?_); rintro e w1 ⟨rfl, rfl⟩)
        | (go_at_call 21; (with_reducible refine (write_none _ _ _ CZ.out).mono ?_); rintro e w1 ⟨rfl, rfl⟩)
        | (go_at_call 24; (with_reducible refine (len_none _ _ CZ.out).mono ?_); rintro e w1 ⟨rfl, rfl⟩)
        | (go_at_call 23; (with_reducible refine (copy_none _ _ CZ.out).mono ?_); rintro e w1 ⟨rfl, rfl⟩))
        go_round
        case rel => exact ⟨2, by omega, rfl⟩
        case measure => simp [intOf]
      · go_wp2_with (go_at_call 11; (with_reducible refine (known_any _).mono ?_); rintro e w5 ⟨rfl, b5⟩; have B5 := Lib.hid (HBW.out.trans (b5.mono HBW.out.size)); clear b5)
        go_ret
        exact ⟨rfl, B5.out⟩
  · skip
    go_enter Try.func10, Try.ntmps10
    go_wp2_with (go_at_call 11; (with_reducible refine (known_any _).mono ?_); rintro e w5 ⟨rfl, b5⟩; have B5 := Lib.hid b5; clear b5)
    go_ret
    exact ⟨rfl, B5.out⟩
end Go.Proofs.Ytcjmeiklfkiibaa

/- (*Stream).none, and the methods without a stream. -/
import Derived.Test.YtbfejjjdolfcfaaXo3
namespace Go.Proofs.Ytbfejjjdolfcfaa
open Go.RowKit
set_option linter.unusedVariables false
set_option linter.unusedSimpArgs false

set_option maxRecDepth 100000 in
theorem none_nil (w : World) : Calls Try.prog 32 #[.pointer none] w fun e w' => e = .returned (.bool true) ∧ w = w' := by
  go_enter Try.func32, Try.ntmps32
  go_wp2_with fail
  go_ret
  exact ⟨rfl, rfl⟩
set_option maxRecDepth 100000 in
theorem none_some (g : Nat) (k a : Int) (t : Bool) (w : World) (hg : Blk w g 46 #[.int .i64 k, .int .i64 a, .bool t]) : Calls Try.prog 32 #[.pointer (some ⟨g, 0, none⟩)] w fun e w' => e = .returned (.bool (!t)) ∧ w = w' := by
  have h2 := hg.cell 2
  simp at h2
  clear hg
  go_enter Try.func32, Try.ntmps32
  go_wp2_with fail
  go_ret
  exact ⟨rfl, rfl⟩
set_option maxRecDepth 100000 in
theorem next_none (p v : Value) (w : World) (c0 : Calls Try.prog 32 #[p] w fun e w' => e = .returned (.bool true) ∧ w = w') : Calls Try.prog 16 #[p, v] w fun e w' => e = .returned (.tuple #[.slice none 0 0, .int .i64 1]) ∧ w = w' := by
  have C0 := Lib.hid c0
  clear c0
  go_enter Try.func16, Try.ntmps16
  go_wp2_with (go_at_call 32; (with_reducible refine C0.out.mono ?_); rintro e w1 ⟨rfl, rfl⟩)
  go_ret2
  exact ⟨rfl, rfl⟩
set_option maxRecDepth 100000 in
theorem seek_none (p v : Value) (w : World) (c0 : Calls Try.prog 32 #[p] w fun e w' => e = .returned (.bool true) ∧ w = w') : Calls Try.prog 17 #[p, v] w fun e w' => e = .returned (.int .i64 1) ∧ w = w' := by
  have C0 := Lib.hid c0
  clear c0
  go_enter Try.func17, Try.ntmps17
  go_wp2_with (go_at_call 32; (with_reducible refine C0.out.mono ?_); rintro e w1 ⟨rfl, rfl⟩)
  go_ret
  exact ⟨rfl, rfl⟩
set_option maxRecDepth 100000 in
theorem place_none (p : Value) (w : World) (c0 : Calls Try.prog 32 #[p] w fun e w' => e = .returned (.bool true) ∧ w = w') : Calls Try.prog 18 #[p] w fun e w' => e = .returned (.int .i64 0) ∧ w = w' := by
  have C0 := Lib.hid c0
  clear c0
  go_enter Try.func18, Try.ntmps18
  go_wp2_with (go_at_call 32; (with_reducible refine C0.out.mono ?_); rintro e w1 ⟨rfl, rfl⟩)
  go_ret
  exact ⟨rfl, rfl⟩
set_option maxRecDepth 100000 in
theorem copy_none (p : Value) (w : World) (c0 : Calls Try.prog 32 #[p] w fun e w' => e = .returned (.bool true) ∧ w = w') : Calls Try.prog 19 #[p] w fun e w' => e = .returned (.pointer none) ∧ w = w' := by
  have C0 := Lib.hid c0
  clear c0
  go_enter Try.func19, Try.ntmps19
  go_wp2_with (go_at_call 32; (with_reducible refine C0.out.mono ?_); rintro e w1 ⟨rfl, rfl⟩)
  go_ret
  exact ⟨rfl, rfl⟩
end Go.Proofs.Ytbfejjjdolfcfaa

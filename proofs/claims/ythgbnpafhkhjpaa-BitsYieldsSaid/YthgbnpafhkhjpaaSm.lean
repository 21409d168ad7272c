/- Small contracts: in, (*Writer).is, (*Writer).Len. -/
import Derived.Test.YthgbnpafhkhjpaaAd2
namespace Go.Proofs.Ythgbnpafhkhjpaa
open Go.RowKit
set_option linter.unusedVariables false
set_option linter.unusedSimpArgs false

set_option maxRecDepth 100000 in
theorem in_any (v a b : Int) (w : World) : Calls Try.prog 37 #[.int .i64 v, .int .i64 a, .int .i64 b] w fun e w' => e = .returned (.bool (decide (a ≤ v) && decide (v ≤ b))) ∧ w = w' := by
  cases h : decide (a ≤ v)
  · go_enter Try.func37, Try.ntmps37
    go_wp2_with fail
    go_ret
    exact ⟨by simp, rfl⟩
  · go_enter Try.func37, Try.ntmps37
    go_wp2_with fail
    go_ret
    exact ⟨by simp, rfl⟩
set_option maxRecDepth 100000 in
theorem wis_nil (w : World) : Calls Try.prog 36 #[.pointer none] w fun e w' => e = .returned (.bool false) ∧ w = w' := by
  go_enter Try.func36, Try.ntmps36
  go_wp2_with fail
  go_ret
  exact ⟨rfl, rfl⟩
set_option maxRecDepth 100000 in
theorem wis_some (g : Nat) (v : Value) (m : Int) (t : Bool) (w : World) (hg : Blk w g 63 #[v, .int .i64 m, .bool t]) : Calls Try.prog 36 #[.pointer (some ⟨g, 0, none⟩)] w fun e w' => e = .returned (.bool t) ∧ w = w' := by
  have h2 := hg.cell 2
  simp at h2
  clear hg
  go_enter Try.func36, Try.ntmps36
  go_wp2_with fail
  go_ret
  exact ⟨rfl, rfl⟩
set_option maxRecDepth 100000 in
theorem wlen_some (g : Nat) (v : Value) (m : Int) (w : World) (hg : Blk w g 63 #[v, .int .i64 m, .bool true]) : Calls Try.prog 13 #[.pointer (some ⟨g, 0, none⟩)] w fun e w' => e = .returned (.int .i64 m) ∧ w = w' := by
  have c0 := wis_some g v m true w hg
  have h1 := hg.cell 1
  simp at h1
  have C0 := Lib.hid c0
  clear c0 hg
  go_enter Try.func13, Try.ntmps13
  go_wp2_with (go_at_call 36; (with_reducible refine C0.out.mono ?_); rintro e w1 ⟨rfl, rfl⟩)
  go_ret
  exact ⟨rfl, rfl⟩
set_option maxRecDepth 100000 in
theorem wlen_none (p : Value) (w : World) (c0 : Calls Try.prog 36 #[p] w fun e w' => e = .returned (.bool false) ∧ w = w') : Calls Try.prog 13 #[p] w fun e w' => e = .returned (.int .i64 0) ∧ w = w' := by
  have C0 := Lib.hid c0
  clear c0
  go_enter Try.func13, Try.ntmps13
  go_wp2_with (go_at_call 36; (with_reducible refine C0.out.mono ?_); rintro e w1 ⟨rfl, rfl⟩)
  go_ret
  exact ⟨rfl, rfl⟩
end Go.Proofs.Ythgbnpafhkhjpaa

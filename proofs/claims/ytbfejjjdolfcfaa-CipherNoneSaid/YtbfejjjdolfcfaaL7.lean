/- The walk of CipherNone. -/
import Derived.Test.YtbfejjjdolfcfaaSt
import Derived.Test.YtbfejjjdolfcfaaKn
namespace Go.Proofs.Ytbfejjjdolfcfaa
open Go.RowKit
set_option linter.unusedVariables false
set_option linter.unusedSimpArgs false

set_option maxRecDepth 100000 in
set_option maxHeartbeats 2000000 in
theorem none_law (A : Option Addr) (n c : Nat) (l : List UInt8) (pl : Int) (w : World) (_ : l.length = n) (_ : n ≤ c) (_ : c ≤ maxLen) (_ : BS w w.heap.size A l) (_ : (Lit.int .i64 pl).wf = true) :
    Calls Try.prog 7 #[.slice A n c, .int .i64 pl] w fun e w' => e = .returned (.bool true) ∧ Below w.heap.size w w' := by
  by_cases hn : (n : Int) ≤ 100
  · skip
    go_enter Try.func7, Try.ntmps7
    go_wp2_with fail
    have cz := none_some w.heap.size 0 0 false _ ((Blk.new w 46 #[.int .i64 0, .int .i64 0, .bool false]).alloc (.cells #[.pointer none, .pointer (some ⟨w.heap.size, 0, none⟩)] 42))
    have CZ := Lib.hid cz
    have HBW := Lib.hid (((Below.refl _ w).alloc (Nat.le_refl _) (.cells #[.int .i64 0, .int .i64 0, .bool false] 46)).alloc (by simp) (.cells #[.pointer none, .pointer (some ⟨w.heap.size, 0, none⟩)] 42))
    clear cz
    go_loop [19] (fun i => ∃ k : Int, (k = 0 ∨ k = 1 ∨ k = 2) ∧ i = .int .i64 k) (fun i => (2 - intOf i).toNat)
    case atStart => exact ⟨0, by omega, rfl⟩
    case round =>
      obtain ⟨k, hk, rfl⟩ := hrel
      rcases hk with rfl | rfl | rfl
      · go_wp2_with (first
        | (go_at_call 16; (with_reducible refine (next_none _ _ _ (none_nil _)).mono ?_); rintro e w1 ⟨rfl, rfl⟩)
        | (go_at_call 17; (with_reducible refine (seek_none _ _ _ (none_nil _)).mono ?_); rintro e w1 ⟨rfl, rfl⟩)
        | (go_at_call 18; (with_reducible refine (place_none _ _ (none_nil _)).mono ?_); rintro e w1 ⟨rfl, rfl⟩)
        | (go_at_call 19; (with_reducible refine (copy_none _ _ (none_nil _)).mono ?_); rintro e w1 ⟨rfl, rfl⟩))
        go_round
        case rel => exact ⟨1, by omega, rfl⟩
        case measure => simp [intOf]
      · go_wp2_with (first
        | (go_at_call 16; (with_reducible refine (next_none _ _ _ CZ.out).mono ?_); rintro e w1 ⟨rfl, rfl⟩)
        | (go_at_call 17; (with_reducible refine (seek_none _ _ _ CZ.out).mono ?_); rintro e w1 ⟨rfl, rfl⟩)
        | (go_at_call 18; (with_reducible refine (place_none _ _ CZ.out).mono ?_); rintro e w1 ⟨rfl, rfl⟩)
        | (go_at_call 19; (with_reducible refine (copy_none _ _ CZ.out).mono ?_); rintro e w1 ⟨rfl, rfl⟩))
        go_round
        case rel => exact ⟨2, by omega, rfl⟩
        case measure => simp [intOf]
      · go_wp2_with (go_at_call 11; (with_reducible refine (known_any _).mono ?_); rintro e w5 ⟨rfl, b5⟩; have B5 := Lib.hid (HBW.out.trans (b5.mono HBW.out.size)); clear b5)
        go_ret
        exact ⟨rfl, B5.out⟩
  · skip
    go_enter Try.func7, Try.ntmps7
    go_wp2_with (go_at_call 11; (with_reducible refine (known_any _).mono ?_); rintro e w5 ⟨rfl, b5⟩; have B5 := Lib.hid b5; clear b5)
    go_ret
    exact ⟨rfl, B5.out⟩
end Go.Proofs.Ytbfejjjdolfcfaa

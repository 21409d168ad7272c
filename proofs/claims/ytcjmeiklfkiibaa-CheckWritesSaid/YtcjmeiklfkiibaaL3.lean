/- The walk of CheckSums. -/
import Derived.Test.YtcjmeiklfkiibaaKn
import Derived.Test.YtcjmeiklfkiibaaRefS
namespace Go.Proofs.Ytcjmeiklfkiibaa
open Go.RowKit

theorem bits_any (k : Int) (w : World) : Calls Try.prog 12 #[.int .i64 k] w fun e w' => e = .returned (.tuple #[.int .i64 (bitsS k), .int .i64 (noS k)]) ∧ Below w.heap.size w w' := by
  by_cases h : 1 ≤ k ∧ k ≤ 3
  · have h : k = 1 ∨ k = 2 ∨ k = 3 := by omega
    rcases h with rfl | rfl | rfl
    · exact bits_1 w
    · exact bits_2 w
    · exact bits_3 w
  · have hb : bitsS k = 0 := by unfold bitsS; rw [if_neg (by omega), if_neg (by omega)]
    have hc : noS k = 2 := by unfold noS; rw [if_neg (by omega)]
    rw [hb, hc]
    exact bits_bad k w (by omega)
theorem ofx_any (k : Int) (A : Option Addr) (n c : Nat) (l : List UInt8) (w : World) (hl : l.length = n) (hn : n ≤ 60000) (hb : BS w w.heap.size A l) :
    Calls Try.prog 13 #[.int .i64 k, .slice A n c] w fun e w' => e = .returned (.tuple #[.int .i64 (valS k l), .int .i64 (noS k)]) ∧ Below w.heap.size w w' := by
  by_cases h : 1 ≤ k ∧ k ≤ 3
  · have hv : valS k l = chkS k l := by unfold valS; rw [if_pos h]
    have hc : noS k = 0 := by unfold noS; rw [if_pos h]
    rw [hv, hc]
    exact ofx_ok k h A n c l w hl hn hb
  · have hv : valS k l = 0 := by unfold valS; rw [if_neg h]
    have hc : noS k = 2 := by unfold noS; rw [if_neg h]
    rw [hv, hc]
    exact ofx_bad k _ w (by omega)

set_option maxRecDepth 100000 in
set_option maxHeartbeats 1000000 in
theorem sums_law (k : Int) (A : Option Addr) (n c : Nat) (l : List UInt8) (w : World) (_ : (Lit.int IntKind.i64 k).wf = true) (hl : l.length = n) (_ : n ≤ c) (_ : c ≤ maxLen) (hb : BS w w.heap.size A l) :
    Calls Try.prog 3 #[.int .i64 k, .slice A n c] w fun e w' => e = .returned (.bool true) ∧ Below w.heap.size w w' := by
  by_cases hn : (n : Int) ≤ 3000
  · have c1 := bits_any k w
    have c2 := fun W (h : Below w.heap.size w W) => ofx_any k A n c l W hl (by omega) ((hb.below h).more h.size)
    have c3 := fun W => rbits_any k W
    have c4 := fun W (h : Below w.heap.size w W) => rsum_any k A n c l W hl (by omega) ((hb.below h).more h.size)
    generalize bitsS k = v1 at c1 c3
    generalize noS k = v2 at c1 c2 c3 c4
    generalize valS k l = v3 at c2 c4
    have C1 := Lib.hid c1
    have C2 := Lib.hid c2
    have C3 := Lib.hid c3
    have C4 := Lib.hid c4
    clear c1 c2 c3 c4 hb hl
    go_enter Try.func3, Try.ntmps3
    go_wp2_with (first
      | (go_at_call 12; (with_reducible refine C1.out.mono ?_); rintro e w1 ⟨rfl, b1⟩; have B1 := Lib.hid b1; clear b1)
      | (go_at_call 13; (with_reducible refine (C2.out _ B1.out).mono ?_); rintro e w2 ⟨rfl, b2⟩; have B2 := Lib.hid (B1.out.trans (b2.mono B1.out.size)); clear b2)
      | (go_at_call 14; (with_reducible refine (C3.out _).mono ?_); rintro e w3 ⟨rfl, rfl⟩)
      | (go_at_call 15; (with_reducible refine (C4.out _ B2.out).mono ?_); rintro e w3 ⟨rfl, rfl⟩)
      | (go_at_call 11; (with_reducible refine (known_any _).mono ?_); rintro e w5 ⟨rfl, b5⟩; have B5 := Lib.hid (B2.out.trans (b5.mono B2.out.size)); clear b5))
    go_ret
    exact ⟨by simp, B5.out⟩
  · clear hl hb
    go_enter Try.func3, Try.ntmps3
    go_wp2_with (first | (go_at_call 11; (with_reducible refine (known_any _).mono ?_); rintro e w5 ⟨rfl, b5⟩; have B5 := Lib.hid b5; clear b5))
    go_ret
    exact ⟨rfl, B5.out⟩
end Go.Proofs.Ytcjmeiklfkiibaa

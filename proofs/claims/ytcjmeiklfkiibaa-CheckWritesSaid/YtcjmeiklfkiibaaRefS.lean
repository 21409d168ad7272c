/- The contract of the reference's Sum. -/
import Derived.Test.YtcjmeiklfkiibaaRefA
import Derived.Test.YtcjmeiklfkiibaaRefO
import Derived.Test.YtcjmeiklfkiibaaRefC
namespace Go.Proofs.Ytcjmeiklfkiibaa
open Go.RowKit

/-- The checksum of any kind, 0 where there is none. -/
def valS (k : Int) (l : List UInt8) : Int := if 1 ≤ k ∧ k ≤ 3 then chkS k l else 0

set_option maxRecDepth 100000 in
theorem rsum_any (k : Int) (A : Option Addr) (n c : Nat) (l : List UInt8) (w : World) (hl : l.length = n) (hn : n ≤ 60000) (hb : BS w w.heap.size A l) :
    Calls Try.prog 15 #[.int .i64 k, .slice A n c] w fun e w' => e = .returned (.tuple #[.int .i64 (valS k l), .int .i64 (noS k)]) ∧ w = w' := by
  by_cases h1 : k = 1
  · subst h1
    have c1 := rone_any A n c l w hl hn hb
    have hv : valS 1 l = 65535 - wrdS 0 0 l := by simp [valS, chkS]
    rw [hv]
    have C1 := Lib.hid c1
    clear c1 hv hl hn hb
    go_enter Try.func15, Try.ntmps15
    go_wp2_with (go_at_call 27; (with_reducible refine C1.out.mono ?_); rintro e w1 ⟨rfl, rfl⟩)
    go_ret2
    exact ⟨rfl, rfl⟩
  by_cases h2 : k = 2
  · subst h2
    have c1 := rcrc_any A n c l w hl hn hb
    have hv : valS 2 l = (divS 65535 l : Int) := by simp [valS, chkS]
    rw [hv]
    have C1 := Lib.hid c1
    clear c1 hv hl hn hb
    go_enter Try.func15, Try.ntmps15
    go_wp2_with (go_at_call 28; (with_reducible refine C1.out.mono ?_); rintro e w1 ⟨rfl, rfl⟩)
    go_ret2
    exact ⟨rfl, rfl⟩
  by_cases h3 : k = 3
  · subst h3
    have c1 := radl_any A n c l w hl hn hb
    have hv : valS 3 l = 65536 * (adlS 1 0 l).2 + (adlS 1 0 l).1 := by simp [valS, chkS, Int.mul_comm]
    rw [hv]
    have C1 := Lib.hid c1
    clear c1 hv hl hn hb
    go_enter Try.func15, Try.ntmps15
    go_wp2_with (go_at_call 29; (with_reducible refine C1.out.mono ?_); rintro e w1 ⟨rfl, rfl⟩)
    go_ret2
    exact ⟨rfl, rfl⟩
  have hb : valS k l = 0 := by unfold valS; rw [if_neg (by omega)]
  have hc : noS k = 2 := by unfold noS; rw [if_neg (by omega)]
  rw [hb, hc]
  have d1 : (k == 1) = false := by simp [h1]
  have d2 : (k == 2) = false := by simp [h2]
  have d3 : (k == 3) = false := by simp [h3]
  clear h1 h2 h3 hb hc hl hn
  go_enter Try.func15, Try.ntmps15
  go_wp2
  go_ret2
  exact ⟨rfl, rfl⟩
end Go.Proofs.Ytcjmeiklfkiibaa

/- The walk of VarintReads. -/
import Derived.Test.YtbimolbiccmdiaaKn
import Derived.Test.YtbimolbiccmdiaaRRead
namespace Go.Proofs.Ytbimolbiccmdiaa
open Go.RowKit

set_option maxRecDepth 100000 in
set_option maxHeartbeats 1000000 in
theorem reads_law (A : Option Addr) (n c : Nat) (l : List UInt8) (loose : Bool) (w : World) (hl : l.length = n) (hc : n ≤ c) (_ : c ≤ maxLen) (hb : BS w w.heap.size A l) :
    Calls Try.prog 4 #[.slice A n c, .bool loose] w fun e w' => e = .returned (.bool true) ∧ Below w.heap.size w w' := by
  by_cases hn : (n : Int) ≤ 20
  · have c1 := read_any A n c w.heap.size l loose w hl (by omega) hc hb
    have c2 := rread_any A n c w.heap.size l loose w hl (by omega) hb
    rcases readS l loose with ⟨x, y, z⟩
    simp only [tup3] at c1 c2
    have C1 := Lib.hid c1
    have C2 := Lib.hid c2
    clear c1 c2 hb hl hc
    go_enter Try.func4, Try.ntmps4
    go_wp2_with (first | (go_at_call 14; (with_reducible refine C1.out.mono ?_); rintro e w' ⟨rfl, rfl⟩) | (go_at_call 15; (with_reducible refine C2.out.mono ?_); rintro e w' ⟨rfl, rfl⟩) | (go_at_call 10; (with_reducible refine (known_any _).mono ?_); rintro e w5 ⟨rfl, b5⟩; have B5 := Lib.hid b5; clear b5))
    go_ret
    exact ⟨by simp, B5.out⟩
  · clear hl hb hc
    go_enter Try.func4, Try.ntmps4
    go_wp2_with (first | (go_at_call 10; (with_reducible refine (known_any _).mono ?_); rintro e w5 ⟨rfl, b5⟩; have B5 := Lib.hid b5; clear b5))
    go_ret
    exact ⟨rfl, B5.out⟩
end Go.Proofs.Ytbimolbiccmdiaa

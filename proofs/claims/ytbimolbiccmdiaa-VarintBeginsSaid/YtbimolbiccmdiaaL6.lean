/- The walk of VarintBegins. -/
import Derived.Test.YtbimolbiccmdiaaKn
import Derived.Test.YtbimolbiccmdiaaRBeg
namespace Go.Proofs.Ytbimolbiccmdiaa
open Go.RowKit

set_option maxRecDepth 100000 in
set_option maxHeartbeats 1000000 in
theorem begins_law (A : Option Addr) (n c : Nat) (l : List UInt8) (loose : Bool) (lo hi : Int) (w : World) (hl : l.length = n) (hc : n ≤ c) (_ : c ≤ maxLen) (hb : BS w w.heap.size A l) (_ : (Lit.int .i64 lo).wf = true) (_ : (Lit.int .i64 hi).wf = true) :
    Calls Try.prog 6 #[.slice A n c, .bool loose, .agg #[.int .i64 lo, .int .i64 hi]] w fun e w' => e = .returned (.bool true) ∧ Below w.heap.size w w' := by
  by_cases hn : (n : Int) ≤ 10
  · have bb : Below w.heap.size w (w.alloc (.cells #[.int .i64 lo, .int .i64 hi] 44)) := (Below.refl _ _).alloc (Nat.le_refl _) _
    have c1 := begins_any A n c l loose lo hi _ hl (by omega) hc ((hb.below bb).more bb.size)
    have c2 := fun W (hW : Below w.heap.size w W) => rbegins_any A n c w.heap.size l loose lo hi W hl (by omega) (hb.below hW)
    rcases beginsS l loose lo hi with ⟨x, y⟩
    simp only [tupB] at c1 c2
    have BB := Lib.hid bb
    have C1 := Lib.hid c1
    have C2 := Lib.hid c2
    clear c1 c2 hb hl hc bb
    go_enter Try.func6, Try.ntmps6
    go_wp2_with fail
    (with_reducible refine C1.out.mono ?_); rintro e w1 ⟨rfl, b1⟩
    have B1 := Lib.hid (BB.out.trans (b1.mono BB.out.size))
    have blk : Blk w1 w.heap.size 44 #[.int .i64 lo, .int .i64 hi] := (Blk.new w _ _).below b1 (by simp)
    have e0 := blk.cell 0
    have e1 := blk.cell 1
    clear b1 blk
    simp at e0 e1
    go_wp2_with fail
    (with_reducible refine (C2.out _ B1.out).mono ?_); rintro e w2 ⟨rfl, rfl⟩
    go_wp2_with (first | (go_at_call 10; (with_reducible refine (known_any _).mono ?_); rintro e w5 ⟨rfl, b5⟩; have B5 := Lib.hid b5; clear b5))
    go_ret
    exact ⟨by simp, B1.out.trans (B5.out.mono B1.out.size)⟩
  · clear hl hb hc
    go_enter Try.func6, Try.ntmps6
    go_wp2_with (first | (go_at_call 10; (with_reducible refine (known_any _).mono ?_); rintro e w5 ⟨rfl, b5⟩; have B5 := Lib.hid b5; clear b5))
    go_ret
    exact ⟨rfl, ((Below.refl _ _).alloc (Nat.le_refl _) _).trans (B5.out.mono (by simp))⟩
end Go.Proofs.Ytbimolbiccmdiaa

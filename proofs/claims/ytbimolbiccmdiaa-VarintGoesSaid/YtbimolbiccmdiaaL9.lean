/- The walk of VarintGoes. -/
import Derived.Test.YtbimolbiccmdiaaG1
import Derived.Test.YtbimolbiccmdiaaG2
import Derived.Test.YtbimolbiccmdiaaG3
import Derived.Test.YtbimolbiccmdiaaG4
import Derived.Test.YtbimolbiccmdiaaG5
namespace Go.Proofs.Ytbimolbiccmdiaa
open Go.RowKit

set_option maxRecDepth 100000 in
set_option maxHeartbeats 4000000 in
theorem goes_law (A : Option Addr) (n c : Nat) (l : List UInt8) (loose : Bool) (lo hi : Int) (w : World) (hl : l.length = n) (hc : n ≤ c) (_ : c ≤ maxLen) (hb : BS w w.heap.size A l) (_ : (Lit.int IntKind.i64 lo).wf = true) (_ : (Lit.int IntKind.i64 hi).wf = true) :
    Calls Try.prog 9 #[.slice A n c, .bool loose, .agg #[.int .i64 lo, .int .i64 hi]] w fun e w' => e = .returned (.bool true) ∧ Below w.heap.size w w' := by
  by_cases hn : (n : Int) ≤ 6
  · by_cases hr : lo < 0 ∨ hi < lo ∨ 34359738368 ≤ hi
    · have bb : Below w.heap.size w (w.alloc (.cells #[.int .i64 lo, .int .i64 hi] 44)) := (Below.refl _ _).alloc (Nat.le_refl _) _
      have c1 := begins_bad A n c l loose lo hi (w.alloc (.cells #[.int .i64 lo, .int .i64 hi] 44)) hr
      have hbs : beginsS l loose lo hi = (false, 2) := by
        unfold beginsS
        rw [if_pos hr]
      rw [hbs] at c1
      simp only [tupB] at c1
      have BB := Lib.hid bb
      have C1 := Lib.hid c1
      clear c1 hb hc bb hbs hr hl
      go_enter Try.func9, Try.ntmps9
      go_wp2_with fail
      (with_reducible refine C1.out.mono ?_); rintro e w1 ⟨rfl, b1'⟩
      have B1 := Lib.hid (BB.out.trans (b1'.mono BB.out.size))
      clear b1'
      go_wp2_with (go_at_call 10; (with_reducible refine (known_any _).mono ?_); rintro e w5 ⟨rfl, b5⟩; have HB6 := Lib.hid (B1.out.trans (b5.mono B1.out.size)); clear b5)
      go_ret
      exact ⟨rfl, HB6.out⟩
    · obtain ⟨h0, h1, h2⟩ : 0 ≤ lo ∧ lo ≤ hi ∧ hi < 34359738368 := by omega
      rcases hrs : readS l loose with ⟨rv, rm, re⟩
      by_cases hre : re = 0
      · by_cases hrm : rm = (n : Int)
        · by_cases hv : lo ≤ rv
          · by_cases hv2 : rv ≤ hi
            · exact goes_law5 A n c l loose lo hi w hl hc hb hn h0 h1 h2 rv rm re hrs hre hrm hv hv2
            · exact goes_law4 A n c l loose lo hi w hl hc hb hn h0 h1 h2 rv rm re hrs hre hrm hv hv2
          · exact goes_law3 A n c l loose lo hi w hl hc hb hn h0 h1 h2 rv rm re hrs hre hrm hv
        · exact goes_law2 A n c l loose lo hi w hl hc hb hn h0 h1 h2 rv rm re hrs hre hrm
      · exact goes_law1 A n c l loose lo hi w hl hc hb hn h0 h1 h2 rv rm re hrs hre
  · have bb : Below w.heap.size w (w.alloc (.cells #[.int .i64 lo, .int .i64 hi] 44)) := (Below.refl _ _).alloc (Nat.le_refl _) _
    have BB := Lib.hid bb
    clear hl hb hc bb
    go_enter Try.func9, Try.ntmps9
    go_wp2_with (go_at_call 10; (with_reducible refine (known_any _).mono ?_); rintro e w5 ⟨rfl, b5⟩; have B5 := Lib.hid (BB.out.trans (b5.mono BB.out.size)); clear b5)
    go_ret
    exact ⟨rfl, B5.out⟩
end Go.Proofs.Ytbimolbiccmdiaa

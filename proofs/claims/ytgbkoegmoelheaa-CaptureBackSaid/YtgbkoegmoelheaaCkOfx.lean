/- Contracts of check.Of and check.Bits. -/
import Derived.Test.YtgbkoegmoelheaaCkWri
import Derived.Test.YtgbkoegmoelheaaCkSum
import Derived.Test.YtgbkoegmoelheaaCkChk
namespace Go.Proofs.Ytgbkoegmoelheaa.Ck
open Go.RowKit

theorem bs_ne {w : World} {A : Option Addr} {l : List UInt8} {n g : Nat} (h : BS w w.heap.size A l) (hl : l.length = n) (hg : w.heap.size ≤ g) : 0 < n → ∀ p : Addr, A = some p → p.block ≠ g := by
  intro h0 p hp
  obtain ⟨b, o, e, hb, _⟩ := h (by omega)
  rw [e] at hp; cases hp
  show b ≠ g
  omega


set_option maxRecDepth 100000 in
set_option maxHeartbeats 1000000 in
theorem ofx_1 (A : Option Addr) (n c : Nat) (l : List UInt8) (w : World) (hl : l.length = n) (hn : n ≤ 60000) (hb : BS w w.heap.size A l) :
    Calls Try.prog 56 #[.int .i64 1, .slice A n c] w fun e w' => e = .returned (.tuple #[.int .i64 (chkS 1 l), .int .i64 0]) ∧ Below w.heap.size w w' := by
  have c1 := new_1 w
  have c2 := fun W g (hB : BS W W.heap.size A l) (hN : 0 < n → ∀ p : Addr, A = some p → p.block ≠ g) (hgW : Blk W g 123 #[.int .i64 0, .int .i64 0, .int .i64 0, .int .i64 1]) => write_1 A n c g 0 0 0 l W hl hn (by omega) (by omega) (by omega) (by omega) hB hN hgW
  have c3 := fun W g (hgW : Blk W g 123 #[.int .i64 (wrdS 0 0 l), .int .i64 0, .int .i64 (0 + n), .int .i64 1]) => sum_1 g (wrdS 0 0 l) 0 (0 + n) W (wrdS_range l 0 0 (by omega) (by omega)).1 (wrdS_range l 0 0 (by omega) (by omega)).2 hgW
  have hck : chkS 1 l = 65535 - wrdS 0 0 l := by simp [chkS]
  rw [hck]
  generalize (wrdS 0 0 l) = r1 at c2 c3 ⊢
  clear hck
  have C1 := Lib.hid c1
  have C2 := Lib.hid c2
  have C3 := Lib.hid c3
  have HB := Lib.hid hb
  have HL := Lib.hid hl
  clear c1 c2 c3 hb hl hn 
  go_enter Try.func56, Try.ntmps56
  go_wp2_with (go_at_call 59; (with_reducible refine C1.out.mono ?_); rintro e w1 ⟨g, rfl, hg, hbl, b1⟩; have B1 := Lib.hid b1; have HG := Lib.hid hg; have HBL := Lib.hid hbl; clear b1 hg hbl; refine Hid.out ?_)
  refine Lib.hid ?_
  have C4 := Lib.hid (C2.out w1 g ((HB.out.below B1.out).more B1.out.size) (bs_ne HB.out HL.out HG.out) (by have h := HBL.out; simp [first0] at h; exact h))
  go_wp2_with (go_at_call 60; (with_reducible refine C4.out.mono ?_); rintro e w2 ⟨⟨rfl, hbl2⟩, b2⟩; have B2 := Lib.hid b2; have HBL2 := Lib.hid hbl2; clear b2 hbl2; refine Hid.out ?_)
  refine Lib.hid ?_
  have C5 := Lib.hid (C3.out w2 g HBL2.out)
  go_wp2_with (go_at_call 61; (with_reducible refine C5.out.mono ?_); rintro e w3 ⟨rfl, b3⟩; have B3 := Lib.hid b3; clear b3)
  go_ret2
  have hb12 := below_grown B1.out B1.out.size HG.out B2.out
  exact ⟨rfl, hb12.trans (B3.out.mono hb12.size)⟩

set_option maxRecDepth 100000 in
set_option maxHeartbeats 1000000 in
theorem ofx_2 (A : Option Addr) (n c : Nat) (l : List UInt8) (w : World) (hl : l.length = n) (hn : n ≤ 60000) (hb : BS w w.heap.size A l) :
    Calls Try.prog 56 #[.int .i64 2, .slice A n c] w fun e w' => e = .returned (.tuple #[.int .i64 (chkS 2 l), .int .i64 0]) ∧ Below w.heap.size w w' := by
  have c1 := new_2 w
  have c2 := fun W g (hB : BS W W.heap.size A l) (hN : 0 < n → ∀ p : Addr, A = some p → p.block ≠ g) (hgW : Blk W g 123 #[.int .i64 65535, .int .i64 0, .int .i64 0, .int .i64 2]) => write_2 A n c g 65535 0 0 l W hl hn (by omega) (by omega) (by omega) hB hN hgW
  have c3 := fun W g (hgW : Blk W g 123 #[.int .i64 ((divS 65535 l : Nat) : Int), .int .i64 0, .int .i64 (0 + n), .int .i64 2]) => sum_2 g ((divS 65535 l : Nat) : Int) 0 (0 + n) W hgW
  have hck : chkS 2 l = ((divS 65535 l : Nat) : Int) := by simp [chkS]
  rw [hck]
  generalize ((divS 65535 l : Nat) : Int) = r1 at c2 c3 ⊢
  clear hck
  have C1 := Lib.hid c1
  have C2 := Lib.hid c2
  have C3 := Lib.hid c3
  have HB := Lib.hid hb
  have HL := Lib.hid hl
  clear c1 c2 c3 hb hl hn 
  go_enter Try.func56, Try.ntmps56
  go_wp2_with (go_at_call 59; (with_reducible refine C1.out.mono ?_); rintro e w1 ⟨g, rfl, hg, hbl, b1⟩; have B1 := Lib.hid b1; have HG := Lib.hid hg; have HBL := Lib.hid hbl; clear b1 hg hbl; refine Hid.out ?_)
  refine Lib.hid ?_
  have C4 := Lib.hid (C2.out w1 g ((HB.out.below B1.out).more B1.out.size) (bs_ne HB.out HL.out HG.out) (by have h := HBL.out; simp [first0] at h; exact h))
  go_wp2_with (go_at_call 60; (with_reducible refine C4.out.mono ?_); rintro e w2 ⟨⟨rfl, hbl2⟩, b2⟩; have B2 := Lib.hid b2; have HBL2 := Lib.hid hbl2; clear b2 hbl2; refine Hid.out ?_)
  refine Lib.hid ?_
  have C5 := Lib.hid (C3.out w2 g HBL2.out)
  go_wp2_with (go_at_call 61; (with_reducible refine C5.out.mono ?_); rintro e w3 ⟨rfl, b3⟩; have B3 := Lib.hid b3; clear b3)
  go_ret2
  have hb12 := below_grown B1.out B1.out.size HG.out B2.out
  exact ⟨rfl, hb12.trans (B3.out.mono hb12.size)⟩

set_option maxRecDepth 100000 in
set_option maxHeartbeats 1000000 in
theorem ofx_3 (A : Option Addr) (n c : Nat) (l : List UInt8) (w : World) (hl : l.length = n) (hn : n ≤ 60000) (hb : BS w w.heap.size A l) :
    Calls Try.prog 56 #[.int .i64 3, .slice A n c] w fun e w' => e = .returned (.tuple #[.int .i64 (chkS 3 l), .int .i64 0]) ∧ Below w.heap.size w w' := by
  have c1 := new_3 w
  have c2 := fun W g (hB : BS W W.heap.size A l) (hN : 0 < n → ∀ p : Addr, A = some p → p.block ≠ g) (hgW : Blk W g 123 #[.int .i64 1, .int .i64 0, .int .i64 0, .int .i64 3]) => write_3 A n c g 1 0 0 l W hl hn (by omega) (by omega) (by omega) (by omega) (by omega) (by omega) hB hN hgW
  have c3 := fun W g (hgW : Blk W g 123 #[.int .i64 (adlS 1 0 l).1, .int .i64 (adlS 1 0 l).2, .int .i64 (0 + n), .int .i64 3]) => sum_3 g (adlS 1 0 l).1 (adlS 1 0 l).2 (0 + n) W (adlS_range l 1 0 (by omega) (by omega) (by omega) (by omega)).1.1 (by have := (adlS_range l 1 0 (by omega) (by omega) (by omega) (by omega)).1.2; omega) (adlS_range l 1 0 (by omega) (by omega) (by omega) (by omega)).2.1 (by have := (adlS_range l 1 0 (by omega) (by omega) (by omega) (by omega)).2.2; omega) hgW
  have hck : chkS 3 l = (adlS 1 0 l).2 * 65536 + (adlS 1 0 l).1 := by simp [chkS]
  rw [hck]
  generalize (adlS 1 0 l).1 = r1 at c2 c3 ⊢
  generalize (adlS 1 0 l).2 = r2 at c2 c3 ⊢
  have C1 := Lib.hid c1
  have C2 := Lib.hid c2
  have C3 := Lib.hid c3
  have HB := Lib.hid hb
  have HL := Lib.hid hl
  clear c1 c2 c3 hb hl hn hck
  go_enter Try.func56, Try.ntmps56
  go_wp2_with (go_at_call 59; (with_reducible refine C1.out.mono ?_); rintro e w1 ⟨g, rfl, hg, hbl, b1⟩; have B1 := Lib.hid b1; have HG := Lib.hid hg; have HBL := Lib.hid hbl; clear b1 hg hbl; refine Hid.out ?_)
  refine Lib.hid ?_
  have C4 := Lib.hid (C2.out w1 g ((HB.out.below B1.out).more B1.out.size) (bs_ne HB.out HL.out HG.out) (by have h := HBL.out; simp [first0] at h; exact h))
  go_wp2_with (go_at_call 60; (with_reducible refine C4.out.mono ?_); rintro e w2 ⟨⟨rfl, hbl2⟩, b2⟩; have B2 := Lib.hid b2; have HBL2 := Lib.hid hbl2; clear b2 hbl2; refine Hid.out ?_)
  refine Lib.hid ?_
  have C5 := Lib.hid (C3.out w2 g HBL2.out)
  go_wp2_with (go_at_call 61; (with_reducible refine C5.out.mono ?_); rintro e w3 ⟨rfl, b3⟩; have B3 := Lib.hid b3; clear b3)
  go_ret2
  have hb12 := below_grown B1.out B1.out.size HG.out B2.out
  exact ⟨rfl, hb12.trans (B3.out.mono hb12.size)⟩

set_option maxRecDepth 100000 in
theorem ofx_bad (k : Int) (v : Value) (w : World) (h : k < 1 ∨ 3 < k) : Calls Try.prog 56 #[.int .i64 k, v] w fun e w' => e = .returned (.tuple #[.int .i64 0, .int .i64 2]) ∧ Below w.heap.size w w' := by
  have c1 := new_bad k w h
  have C1 := Lib.hid c1
  clear c1 h
  go_enter Try.func56, Try.ntmps56
  go_wp2_with (go_at_call 59; (with_reducible refine C1.out.mono ?_); rintro e w1 ⟨rfl, b1⟩; have B1 := Lib.hid b1; clear b1)
  go_ret2
  exact ⟨rfl, B1.out⟩
end Go.Proofs.Ytgbkoegmoelheaa.Ck

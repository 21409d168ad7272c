/- Contracts of check.New, none and the three results. -/
import Derived.Test.YtgbkoegmoelheaaCkMe
import Derived.Test.YtgbkoegmoelheaaCkAdl
namespace Go.Proofs.Ytgbkoegmoelheaa.Ck
open Go.RowKit

theorem grown_of_below {w w' : World} {r : Option Nat} (h : Below w.heap.size w w') : w.grownBy w' r := ⟨h.os, h.tape, h.output, h.size, fun b hb _ => h.block b hb⟩
theorem below_grown {B : Nat} {a w w' : World} {g : Nat} (h : Below B a w) (hB : B ≤ w.heap.size) (hg : B ≤ g) (h2 : w.grownBy w' (some g)) : Below B a w' := h.grown h2 hB (fun k hk => by cases hk; exact hg)

set_option maxRecDepth 100000 in
theorem res1_any (a b m : Int) (w : World) (ha : 0 ≤ a) (ha2 : a ≤ 65535) : Calls Try.prog 66 #[.agg #[.int .i64 a, .int .i64 b, .int .i64 m]] w fun e w' => e = .returned (.int .i64 (65535 - a)) ∧ Below w.heap.size w w' := by
  go_enter Try.func66, Try.ntmps66
  go_wp2
  go_ret
  exact ⟨rfl, (Below.refl _ w).alloc (Nat.le_refl _) _⟩
set_option maxRecDepth 100000 in
theorem res2_any (a b m : Int) (w : World) : Calls Try.prog 68 #[.agg #[.int .i64 a, .int .i64 b, .int .i64 m]] w fun e w' => e = .returned (.int .i64 a) ∧ Below w.heap.size w w' := by
  go_enter Try.func68, Try.ntmps68
  go_wp2
  go_ret
  exact ⟨rfl, (Below.refl _ w).alloc (Nat.le_refl _) _⟩
set_option maxRecDepth 100000 in
theorem res3_any (a b m : Int) (w : World) (ha : 0 ≤ a) (ha2 : a < 65536) (hb : 0 ≤ b) (hb2 : b < 65536) : Calls Try.prog 70 #[.agg #[.int .i64 a, .int .i64 b, .int .i64 m]] w fun e w' => e = .returned (.int .i64 (b * 65536 + a)) ∧ Below w.heap.size w w' := by
  go_enter Try.func70, Try.ntmps70
  go_wp2
  go_ret
  exact ⟨rfl, (Below.refl _ w).alloc (Nat.le_refl _) _⟩

theorem none_nil (w : World) : Calls Try.prog 63 #[.pointer none] w fun e w' => e = .returned (.bool true) ∧ w = w' := by
  go_enter Try.func63, Try.ntmps63
  go_wp2
  go_ret
  exact ⟨rfl, rfl⟩
theorem none_some (g : Nat) (t : TypeId) (a b m : Value) (k : Int) (w : World) (hg : Blk w g t #[a, b, m, .int .i64 k]) : Calls Try.prog 63 #[.pointer (some ⟨g, 0, none⟩)] w fun e w' => e = .returned (.bool (decide (k = 0))) ∧ w = w' := by
  have e3 := hg.cell 3
  simp at e3
  clear hg
  go_enter Try.func63, Try.ntmps63
  go_wp2
  go_ret
  exact ⟨rfl, rfl⟩

/-- The first of the two numbers. -/
def first0 (k : Int) : Int := if k = 1 then 0 else if k = 2 then 65535 else 1
/-- The ends of New. -/
def Newed (w : World) (k : Int) (e : Ending) (w' : World) : Prop := ∃ g, e = .returned (.tuple #[.pointer (some ⟨g, 0, none⟩), .int .i64 0]) ∧ w.heap.size ≤ g ∧ Blk w' g 123 #[.int .i64 (first0 k), .int .i64 0, .int .i64 0, .int .i64 k] ∧ Below w.heap.size w w'

theorem blk_new1 (w : World) (o : Obj) (t : TypeId) (cs : Array Value) : Blk ((w.alloc o).alloc (.cells cs t)) (w.heap.size + 1) t cs := by
  have h := Blk.new (w.alloc o) t cs
  rwa [World.size_alloc] at h

set_option maxRecDepth 100000 in
theorem new_1 (w : World) : Calls Try.prog 59 #[.int .i64 1] w fun e w' => Newed w 1 e w' := by
  have c1 := of_1 w
  simp only [meth1] at c1
  have C1 := Lib.hid c1
  clear c1
  go_enter Try.func59, Try.ntmps59
  go_wp2_with (go_at_call 62; (with_reducible refine C1.out.mono ?_); rintro e w1 ⟨rfl, b1⟩; have B1 := Lib.hid b1; clear b1)
  go_ret2
  exact ⟨w1.heap.size + 1, rfl, by have := B1.out.size; omega, blk_new1 _ _ _ _, (B1.out.alloc B1.out.size _).alloc (by have := B1.out.size; simp; omega) _⟩

set_option maxRecDepth 100000 in
theorem new_2 (w : World) : Calls Try.prog 59 #[.int .i64 2] w fun e w' => Newed w 2 e w' := by
  have c1 := of_2 w
  simp only [meth2] at c1
  have C1 := Lib.hid c1
  clear c1
  go_enter Try.func59, Try.ntmps59
  go_wp2_with (go_at_call 62; (with_reducible refine C1.out.mono ?_); rintro e w1 ⟨rfl, b1⟩; have B1 := Lib.hid b1; clear b1)
  go_ret2
  exact ⟨w1.heap.size + 1, rfl, by have := B1.out.size; omega, blk_new1 _ _ _ _, (B1.out.alloc B1.out.size _).alloc (by have := B1.out.size; simp; omega) _⟩

set_option maxRecDepth 100000 in
theorem new_3 (w : World) : Calls Try.prog 59 #[.int .i64 3] w fun e w' => Newed w 3 e w' := by
  have c1 := of_3 w
  simp only [meth3] at c1
  have C1 := Lib.hid c1
  clear c1
  go_enter Try.func59, Try.ntmps59
  go_wp2_with (go_at_call 62; (with_reducible refine C1.out.mono ?_); rintro e w1 ⟨rfl, b1⟩; have B1 := Lib.hid b1; clear b1)
  go_ret2
  exact ⟨w1.heap.size + 1, rfl, by have := B1.out.size; omega, blk_new1 _ _ _ _, (B1.out.alloc B1.out.size _).alloc (by have := B1.out.size; simp; omega) _⟩

set_option maxRecDepth 100000 in
theorem new_bad (k : Int) (w : World) (h : k < 1 ∨ 3 < k) : Calls Try.prog 59 #[.int .i64 k] w fun e w' => e = .returned (.tuple #[.pointer none, .int .i64 2]) ∧ Below w.heap.size w w' := by
  have c1 := of_bad k w h
  simp only [meth0] at c1
  have C1 := Lib.hid c1
  clear c1 h
  go_enter Try.func59, Try.ntmps59
  go_wp2_with (go_at_call 62; (with_reducible refine C1.out.mono ?_); rintro e w1 ⟨rfl, b1⟩; have B1 := Lib.hid b1; clear b1)
  go_ret2
  exact ⟨rfl, B1.out.alloc B1.out.size _⟩
end Go.Proofs.Ytgbkoegmoelheaa.Ck

/- Contracts of check.Bytes on bad arguments; the chapter's examples: known returns true. -/
import Derived.Test.YtibkhjpjneoabaaCkByt
import Derived.Test.YtibkhjpjneoabaaCkGen
namespace Go.Proofs.Ytibkhjpjneoabaa.Ck
open Go.RowKit

set_option maxRecDepth 100000 in
theorem byt_badk (k v : Int) (w : World) (h : k < 1 ∨ 3 < k) : Calls Try.prog 42 #[.int .i64 k, .int .i64 v] w fun e w' => e = .returned (.tuple #[.slice none 0 0, .int .i64 2]) ∧ Below w.heap.size w w' := by
  have c1 := of_bad k w h
  simp only [meth0] at c1
  have C1 := Lib.hid c1
  clear c1 h
  go_enter Try.func42, Try.ntmps42
  go_wp2_with (go_at_call 61; (with_reducible refine C1.out.mono ?_); rintro e w1 ⟨rfl, b1⟩; have B1 := Lib.hid b1; clear b1)
  go_ret2
  exact ⟨rfl, B1.out.alloc B1.out.size _⟩

set_option maxRecDepth 100000 in
theorem byt_out_1 (v : Int) (w : World) (h : v < 0 ∨ 65536 ≤ v) : Calls Try.prog 42 #[.int .i64 1, .int .i64 v] w fun e w' => e = .returned (.tuple #[.slice none 0 0, .int .i64 2]) ∧ Below w.heap.size w w' := by
  have c1 := of_1 w
  simp only [meth1] at c1
  have C1 := Lib.hid c1
  clear c1
  by_cases h0 : v < 0
  · clear h
    go_enter Try.func42, Try.ntmps42
    go_wp2_with (go_at_call 61; (with_reducible refine C1.out.mono ?_); rintro e w1 ⟨rfl, b1⟩; have B1 := Lib.hid b1; clear b1)
    go_ret2
    exact ⟨rfl, B1.out.alloc B1.out.size _⟩
  · have h1 : 65536 ≤ v := by omega
    have h2 : 0 ≤ v := by omega
    clear h h0
    go_enter Try.func42, Try.ntmps42
    go_wp2_with (go_at_call 61; (with_reducible refine C1.out.mono ?_); rintro e w1 ⟨rfl, b1⟩; have B1 := Lib.hid b1; clear b1)
    go_ret2
    exact ⟨rfl, B1.out.alloc B1.out.size _⟩

set_option maxRecDepth 100000 in
theorem byt_out_2 (v : Int) (w : World) (h : v < 0 ∨ 65536 ≤ v) : Calls Try.prog 42 #[.int .i64 2, .int .i64 v] w fun e w' => e = .returned (.tuple #[.slice none 0 0, .int .i64 2]) ∧ Below w.heap.size w w' := by
  have c1 := of_2 w
  simp only [meth2] at c1
  have C1 := Lib.hid c1
  clear c1
  by_cases h0 : v < 0
  · clear h
    go_enter Try.func42, Try.ntmps42
    go_wp2_with (go_at_call 61; (with_reducible refine C1.out.mono ?_); rintro e w1 ⟨rfl, b1⟩; have B1 := Lib.hid b1; clear b1)
    go_ret2
    exact ⟨rfl, B1.out.alloc B1.out.size _⟩
  · have h1 : 65536 ≤ v := by omega
    have h2 : 0 ≤ v := by omega
    clear h h0
    go_enter Try.func42, Try.ntmps42
    go_wp2_with (go_at_call 61; (with_reducible refine C1.out.mono ?_); rintro e w1 ⟨rfl, b1⟩; have B1 := Lib.hid b1; clear b1)
    go_ret2
    exact ⟨rfl, B1.out.alloc B1.out.size _⟩

set_option maxRecDepth 100000 in
theorem byt_out_3 (v : Int) (w : World) (h : v < 0 ∨ 4294967296 ≤ v) : Calls Try.prog 42 #[.int .i64 3, .int .i64 v] w fun e w' => e = .returned (.tuple #[.slice none 0 0, .int .i64 2]) ∧ Below w.heap.size w w' := by
  have c1 := of_3 w
  simp only [meth3] at c1
  have C1 := Lib.hid c1
  clear c1
  by_cases h0 : v < 0
  · clear h
    go_enter Try.func42, Try.ntmps42
    go_wp2_with (go_at_call 61; (with_reducible refine C1.out.mono ?_); rintro e w1 ⟨rfl, b1⟩; have B1 := Lib.hid b1; clear b1)
    go_ret2
    exact ⟨rfl, B1.out.alloc B1.out.size _⟩
  · have h1 : 4294967296 ≤ v := by omega
    have h2 : 0 ≤ v := by omega
    clear h h0
    go_enter Try.func42, Try.ntmps42
    go_wp2_with (go_at_call 61; (with_reducible refine C1.out.mono ?_); rintro e w1 ⟨rfl, b1⟩; have B1 := Lib.hid b1; clear b1)
    go_ret2
    exact ⟨rfl, B1.out.alloc B1.out.size _⟩

theorem ofx_ok (k : Int) (hk : 1 ≤ k ∧ k ≤ 3) (A : Option Addr) (n c : Nat) (l : List UInt8) (w : World) (hl : l.length = n) (hn : n ≤ 60000) (hb : BS w w.heap.size A l) :
    Calls Try.prog 41 #[.int .i64 k, .slice A n c] w fun e w' => e = .returned (.tuple #[.int .i64 (chkS k l), .int .i64 0]) ∧ Below w.heap.size w w' := by
  have h : k = 1 ∨ k = 2 ∨ k = 3 := by omega
  rcases h with rfl | rfl | rfl
  · exact ofx_1 A n c l w hl hn hb
  · exact ofx_2 A n c l w hl hn hb
  · exact ofx_3 A n c l w hl hn hb
end Go.Proofs.Ytibkhjpjneoabaa.Ck

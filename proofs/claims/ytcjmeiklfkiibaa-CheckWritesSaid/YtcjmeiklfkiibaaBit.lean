/- Contracts of check.Bits, slices.Clone and check.Bytes. -/
import Derived.Test.YtcjmeiklfkiibaaOfx
import Derived.Test.YtcjmeiklfkiibaaLaw3
import Derived.Lib.SliceRun
namespace Go.Proofs.Ytcjmeiklfkiibaa
open Go.RowKit


set_option maxRecDepth 100000 in
theorem bits_1 (w : World) : Calls Try.prog 12 #[.int .i64 1] w fun e w' => e = .returned (.tuple #[.int .i64 16, .int .i64 0]) ∧ Below w.heap.size w w' := by
  have c1 := of_1 w
  simp only [meth1] at c1
  have C1 := Lib.hid c1
  clear c1
  go_enter Try.func12, Try.ntmps12
  go_wp2_with (go_at_call 26; (with_reducible refine C1.out.mono ?_); rintro e w1 ⟨rfl, b1⟩; have B1 := Lib.hid b1; clear b1)
  go_ret2
  exact ⟨rfl, B1.out.alloc B1.out.size _⟩

set_option maxRecDepth 100000 in
theorem bits_2 (w : World) : Calls Try.prog 12 #[.int .i64 2] w fun e w' => e = .returned (.tuple #[.int .i64 16, .int .i64 0]) ∧ Below w.heap.size w w' := by
  have c1 := of_2 w
  simp only [meth2] at c1
  have C1 := Lib.hid c1
  clear c1
  go_enter Try.func12, Try.ntmps12
  go_wp2_with (go_at_call 26; (with_reducible refine C1.out.mono ?_); rintro e w1 ⟨rfl, b1⟩; have B1 := Lib.hid b1; clear b1)
  go_ret2
  exact ⟨rfl, B1.out.alloc B1.out.size _⟩

set_option maxRecDepth 100000 in
theorem bits_3 (w : World) : Calls Try.prog 12 #[.int .i64 3] w fun e w' => e = .returned (.tuple #[.int .i64 32, .int .i64 0]) ∧ Below w.heap.size w w' := by
  have c1 := of_3 w
  simp only [meth3] at c1
  have C1 := Lib.hid c1
  clear c1
  go_enter Try.func12, Try.ntmps12
  go_wp2_with (go_at_call 26; (with_reducible refine C1.out.mono ?_); rintro e w1 ⟨rfl, b1⟩; have B1 := Lib.hid b1; clear b1)
  go_ret2
  exact ⟨rfl, B1.out.alloc B1.out.size _⟩

set_option maxRecDepth 100000 in
theorem bits_bad (k : Int) (w : World) (h : k < 1 ∨ 3 < k) : Calls Try.prog 12 #[.int .i64 k] w fun e w' => e = .returned (.tuple #[.int .i64 0, .int .i64 2]) ∧ Below w.heap.size w w' := by
  have c1 := of_bad k w h
  simp only [meth0] at c1
  have C1 := Lib.hid c1
  clear c1 h
  go_enter Try.func12, Try.ntmps12
  go_wp2_with (go_at_call 26; (with_reducible refine C1.out.mono ?_); rintro e w1 ⟨rfl, b1⟩; have B1 := Lib.hid b1; clear b1)
  go_ret2
  exact ⟨rfl, B1.out.alloc B1.out.size _⟩

theorem el22 : El Try.prog 22 5 1 := El.mk' (z := .int .u8 0) Try.underlying22 (by kernel_rfl) rfl

/-- The ends of Clone. -/
def Cloned (w : World) (n : Nat) (xs : List Value) (e : Ending) (w' : World) : Prop := ∃ v, e = .returned v ∧ w'.ownsRow w.heap.size 5 1 v n xs ∧ Below w.heap.size w w'

set_option maxRecDepth 100000 in
theorem clone_some (a : Addr) (n c : Nat) (xs : List Value) (w : World) (hn : n ≤ 60000) (hs : Holds w (some a) n xs) (h1 : ∀ u ∈ xs, u.oneCell' = true) :
    Calls Try.prog 30 #[.slice (some a) n c] w fun e w' => Cloned w n xs e w' := by
  have HS := Lib.hid hs
  have H1 := Lib.hid h1
  have HN := Lib.hid hn
  have hnil := Lib.run_eql_slice_nil (P := Try.prog) w 22 5 (some a) n c 0 0 Try.underlying22
  simp at hnil
  clear hs h1 hn
  go_enter Try.func30, Try.ntmps30
  go_wp2_with (at_builtin; go_must (refine wpList_app_own (base := w.heap.size) (n := 0) (m := n) (xs := []) (news := xs) rfl (.tmp 5) (.tmp 6) 22 rfl el22 rfl (own_none00 w 5) rfl (HS.out.alloc _) H1.out (by have := HN.out; unfold maxLen; omega) (by have := HN.out; omega) (by simp) ?_; intro v1 w1 hown hg _; rw [Nat.zero_add, List.nil_append] at hown; have HO := Lib.hid hown; have HB := Lib.hid (below_own ((Below.refl w.heap.size w).alloc (Nat.le_refl _) _) (by simp) (own_none00 w 5) hg); clear hown hg))
  go_ret
  exact ⟨v1, rfl, HO.out, HB.out⟩
end Go.Proofs.Ytcjmeiklfkiibaa

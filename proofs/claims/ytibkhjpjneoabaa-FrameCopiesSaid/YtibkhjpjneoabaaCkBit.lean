/- Contracts of check.Bits, slices.Clone and check.Bytes. -/
import Derived.Test.YtibkhjpjneoabaaCkOfx
import Derived.Test.YtibkhjpjneoabaaCkGen
import Derived.Lib.SliceRun
namespace Go.Proofs.Ytibkhjpjneoabaa.Ck
open Go.RowKit


theorem el22 : El Try.prog 28 5 1 := El.mk' (z := .int .u8 0) Try.underlying28 (by kernel_rfl) rfl

/-- The ends of Clone. -/
def Cloned (w : World) (n : Nat) (xs : List Value) (e : Ending) (w' : World) : Prop := ∃ v, e = .returned v ∧ w'.ownsRow w.heap.size 5 1 v n xs ∧ Below w.heap.size w w'

set_option maxRecDepth 100000 in
theorem clone_some (a : Addr) (n c : Nat) (xs : List Value) (w : World) (hn : n ≤ 60000) (hs : Holds w (some a) n xs) (h1 : ∀ u ∈ xs, u.oneCell' = true) :
    Calls Try.prog 39 #[.slice (some a) n c] w fun e w' => Cloned w n xs e w' := by
  have HS := Lib.hid hs
  have H1 := Lib.hid h1
  have HN := Lib.hid hn
  have hnil := Lib.run_eql_slice_nil (P := Try.prog) w 28 5 (some a) n c 0 0 Try.underlying28
  simp at hnil
  clear hs h1 hn
  go_enter Try.func39, Try.ntmps39
  go_wp2_with (at_builtin; go_must (refine wpList_app_own (base := w.heap.size) (n := 0) (m := n) (xs := []) (news := xs) rfl (.tmp 5) (.tmp 6) 28 rfl el22 rfl (own_none00 w 5) rfl (HS.out.alloc _) H1.out (by have := HN.out; unfold maxLen; omega) (by have := HN.out; omega) (by simp) ?_; intro v1 w1 hown hg _; rw [Nat.zero_add, List.nil_append] at hown; have HO := Lib.hid hown; have HB := Lib.hid (below_own ((Below.refl w.heap.size w).alloc (Nat.le_refl _) _) (by simp) (own_none00 w 5) hg); clear hown hg))
  go_ret
  exact ⟨v1, rfl, HO.out, HB.out⟩
end Go.Proofs.Ytibkhjpjneoabaa.Ck

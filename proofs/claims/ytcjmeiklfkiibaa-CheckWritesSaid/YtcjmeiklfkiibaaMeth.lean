/- The contract of check.methods. -/
import Derived.Test.YtcjmeiklfkiibaaProg
import Derived.Test.YtcjmeiklfkiibaaLaws
import Derived.Laws.EntriesVeiled
import Derived.Laws.ResultCell
namespace Go.Proofs.Ytcjmeiklfkiibaa
open Go.RowKit

/-- The three methods, their cells in a row. -/
def methC : Array Value := #[.int .i64 16, .int .i64 0, .int .i64 0, .int .i64 0, .func (.func 34) #[] #[], .func (.func 35) #[] #[], .int .i64 16, .int .i64 65535, .int .i64 0, .int .i64 0, .func (.func 36) #[] #[], .func (.func 37) #[] #[], .int .i64 32, .int .i64 1, .int .i64 0, .int .i64 0, .func (.func 38) #[] #[], .func (.func 39) #[] #[]]
def meth1 : Array Value := #[.int .i64 16, .int .i64 0, .int .i64 0, .int .i64 0, .func (.func 34) #[] #[], .func (.func 35) #[] #[]]
def meth2 : Array Value := #[.int .i64 16, .int .i64 65535, .int .i64 0, .int .i64 0, .func (.func 36) #[] #[], .func (.func 37) #[] #[]]
def meth3 : Array Value := #[.int .i64 32, .int .i64 1, .int .i64 0, .int .i64 0, .func (.func 38) #[] #[], .func (.func 39) #[] #[]]
def meth0 : Array Value := #[.int .i64 0, .int .i64 0, .int .i64 0, .int .i64 0, .nilFunc, .nilFunc]

set_option maxRecDepth 100000 in
theorem meth_any (w : World) : Calls Try.prog 33 #[] w fun e w' => e = .returned (.agg methC) ∧ Below w.heap.size w w' := by
  go_enter Try.func33, Try.ntmps33
  go_wp2
  refine bodyPost_ret (v := .agg methC) ?_ rfl ⟨rfl, (Below.refl _ w).alloc (Nat.le_refl _) _⟩
  exact results_cell_row rfl _ _ w.heap.size 70 methC (0, 0) _ rfl (Blk.new w 70 methC) Try.underlying70 rfl (by kernel_rfl)

end Go.Proofs.Ytcjmeiklfkiibaa

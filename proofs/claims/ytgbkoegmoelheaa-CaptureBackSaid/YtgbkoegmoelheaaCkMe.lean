/- The contract of check.methods. The contract of check.of. -/
import Derived.Test.YtgbkoegmoelheaaProg
import Derived.Test.YtgbkoegmoelheaaCkGen
import Derived.Laws.EntriesVeiled
import Derived.Laws.ResultCell
namespace Go.Proofs.Ytgbkoegmoelheaa.Ck
open Go.RowKit

/-- The three methods, their cells in a row. -/
def methC : Array Value := #[.int .i64 16, .int .i64 0, .int .i64 0, .int .i64 0, .func (.func 65) #[] #[], .func (.func 66) #[] #[], .int .i64 16, .int .i64 65535, .int .i64 0, .int .i64 0, .func (.func 67) #[] #[], .func (.func 68) #[] #[], .int .i64 32, .int .i64 1, .int .i64 0, .int .i64 0, .func (.func 69) #[] #[], .func (.func 70) #[] #[]]
def meth1 : Array Value := #[.int .i64 16, .int .i64 0, .int .i64 0, .int .i64 0, .func (.func 65) #[] #[], .func (.func 66) #[] #[]]
def meth2 : Array Value := #[.int .i64 16, .int .i64 65535, .int .i64 0, .int .i64 0, .func (.func 67) #[] #[], .func (.func 68) #[] #[]]
def meth3 : Array Value := #[.int .i64 32, .int .i64 1, .int .i64 0, .int .i64 0, .func (.func 69) #[] #[], .func (.func 70) #[] #[]]
def meth0 : Array Value := #[.int .i64 0, .int .i64 0, .int .i64 0, .int .i64 0, .nilFunc, .nilFunc]

set_option maxRecDepth 100000 in
theorem meth_any (w : World) : Calls Try.prog 64 #[] w fun e w' => e = .returned (.agg methC) ∧ Below w.heap.size w w' := by
  go_enter Try.func64, Try.ntmps64
  go_wp2
  refine bodyPost_ret (v := .agg methC) ?_ rfl ⟨rfl, (Below.refl _ w).alloc (Nat.le_refl _) _⟩
  exact results_cell_row rfl _ _ w.heap.size 125 methC (0, 0) _ rfl (Blk.new w 125 methC) Try.underlying125 rfl (by kernel_rfl)

end Go.Proofs.Ytgbkoegmoelheaa.Ck

namespace Go.Proofs.Ytgbkoegmoelheaa.Ck
open Go.RowKit

theorem results_row_tmp {P : Program} {fn : Func} {p u : Tmp} {ty : TypeId} (h : fn.results = #[.cell p ty, .tmp u]) (tmps : Array Value) (w : World) (g : Nat) (t : TypeId) (cs : Array Value) (d : TypeDesc)
    (hp : tmps.getD p undef = .pointer (some ⟨g, 0, none⟩)) (hg : Blk w g t cs) (hu : P.underlying ty = some d) (hd : (match d with | .struct _ | .array _ _ => true | _ => false) = true) (hi : (P.info? ty).map (·.size) = some cs.size) :
    (results fn tmps).run P w = .ok (.tuple #[.agg cs, tmps.getD u undef]) w := by
  rw [results_cell_tmp h, hp]
  simp [asAddr, Result.andThen, run_loadVar_row w g t ty cs (0, 0) d hg hu hd hi]

theorem idx_1 (W : World) : (Instr.index 125 (.agg methC) (.int .i64 0)).run Try.prog W = .ok (.agg meth1) W := by
  simp [Instr.index, asIntOf, run_underlying Try.underlying125, go_sem, methC, meth1]

set_option maxRecDepth 100000 in
theorem of_1 (w : World) : Calls Try.prog 62 #[.int .i64 1] w fun e w' => e = .returned (.tuple #[.agg meth1, .bool true]) ∧ Below w.heap.size w w' := by
  have c1 := fun W => meth_any W
  simp only [methC] at c1
  have C1 := Lib.hid c1
  clear c1
  go_enter Try.func62, Try.ntmps62
  go_wp2_with fail
  (with_reducible refine (C1.out _).mono ?_); rintro e w1 ⟨rfl, b1⟩; have B1 := Lib.hid b1; clear b1
  go_wp2_with fail
  (with_reducible refine (C1.out _).mono ?_); rintro e w2 ⟨rfl, b2⟩
  have b3 := B1.out.trans (b2.mono B1.out.size)
  have blk : Blk w2 w.heap.size 119 meth0 := (Blk.new w 119 meth0).below b3 (by simp)
  have hs := Lib.hid (show w.heap.size < w2.heap.size from blk.lt)
  have B3 := Lib.hid (((Below.refl _ w).alloc (Nat.le_refl _) (.cells meth0 119)).trans (b3.mono (by simp)))
  have e0 := blk.cell 0
  have e1 := blk.cell 1
  have e2 := blk.cell 2
  have e3 := blk.cell 3
  have e4 := blk.cell 4
  have e5 := blk.cell 5
  have f0 := blk.frozen 0
  have f1 := blk.frozen 1
  have f2 := blk.frozen 2
  have f3 := blk.frozen 3
  have f4 := blk.frozen 4
  have f5 := blk.frozen 5
  simp [meth0] at e0 e1 e2 e3 e4 e5
  have BLK := Lib.hid blk
  clear b2 b3 blk
  have ix := idx_1 w2
  simp only [methC, meth1] at ix
  go_wp2_with fail
  have FIN : Blk _ w.heap.size 119 _ := (((((BLK.out.set_ 0 (meth1.getD 0 undef)).set_ 1 (meth1.getD 1 undef)).set_ 2 (meth1.getD 2 undef)).set_ 3 (meth1.getD 3 undef)).set_ 4 (meth1.getD 4 undef)).set_ 5 (meth1.getD 5 undef)
  refine bodyPost_ret (v := .tuple #[.agg meth1, .bool true]) ?_ rfl ⟨rfl, ?_⟩
  · refine results_row_tmp (p := 2) (u := 3) (ty := 119) rfl _ _ w.heap.size 119 meth1 _ ?_ ?_ Try.underlying119 rfl (by kernel_rfl)
    · rfl
    · exact FIN
  · exact (((((B3.out.setCell (Nat.le_refl _) _).setCell (Nat.le_refl _) _).setCell (Nat.le_refl _) _).setCell (Nat.le_refl _) _).setCell (Nat.le_refl _) _).setCell (Nat.le_refl _) _

theorem idx_2 (W : World) : (Instr.index 125 (.agg methC) (.int .i64 1)).run Try.prog W = .ok (.agg meth2) W := by
  simp [Instr.index, asIntOf, run_underlying Try.underlying125, go_sem, methC, meth2]

set_option maxRecDepth 100000 in
theorem of_2 (w : World) : Calls Try.prog 62 #[.int .i64 2] w fun e w' => e = .returned (.tuple #[.agg meth2, .bool true]) ∧ Below w.heap.size w w' := by
  have c1 := fun W => meth_any W
  simp only [methC] at c1
  have C1 := Lib.hid c1
  clear c1
  go_enter Try.func62, Try.ntmps62
  go_wp2_with fail
  (with_reducible refine (C1.out _).mono ?_); rintro e w1 ⟨rfl, b1⟩; have B1 := Lib.hid b1; clear b1
  go_wp2_with fail
  (with_reducible refine (C1.out _).mono ?_); rintro e w2 ⟨rfl, b2⟩
  have b3 := B1.out.trans (b2.mono B1.out.size)
  have blk : Blk w2 w.heap.size 119 meth0 := (Blk.new w 119 meth0).below b3 (by simp)
  have hs := Lib.hid (show w.heap.size < w2.heap.size from blk.lt)
  have B3 := Lib.hid (((Below.refl _ w).alloc (Nat.le_refl _) (.cells meth0 119)).trans (b3.mono (by simp)))
  have e0 := blk.cell 0
  have e1 := blk.cell 1
  have e2 := blk.cell 2
  have e3 := blk.cell 3
  have e4 := blk.cell 4
  have e5 := blk.cell 5
  have f0 := blk.frozen 0
  have f1 := blk.frozen 1
  have f2 := blk.frozen 2
  have f3 := blk.frozen 3
  have f4 := blk.frozen 4
  have f5 := blk.frozen 5
  simp [meth0] at e0 e1 e2 e3 e4 e5
  have BLK := Lib.hid blk
  clear b2 b3 blk
  have ix := idx_2 w2
  simp only [methC, meth2] at ix
  go_wp2_with fail
  have FIN : Blk _ w.heap.size 119 _ := (((((BLK.out.set_ 0 (meth2.getD 0 undef)).set_ 1 (meth2.getD 1 undef)).set_ 2 (meth2.getD 2 undef)).set_ 3 (meth2.getD 3 undef)).set_ 4 (meth2.getD 4 undef)).set_ 5 (meth2.getD 5 undef)
  refine bodyPost_ret (v := .tuple #[.agg meth2, .bool true]) ?_ rfl ⟨rfl, ?_⟩
  · refine results_row_tmp (p := 2) (u := 3) (ty := 119) rfl _ _ w.heap.size 119 meth2 _ ?_ ?_ Try.underlying119 rfl (by kernel_rfl)
    · rfl
    · exact FIN
  · exact (((((B3.out.setCell (Nat.le_refl _) _).setCell (Nat.le_refl _) _).setCell (Nat.le_refl _) _).setCell (Nat.le_refl _) _).setCell (Nat.le_refl _) _).setCell (Nat.le_refl _) _

theorem idx_3 (W : World) : (Instr.index 125 (.agg methC) (.int .i64 2)).run Try.prog W = .ok (.agg meth3) W := by
  simp [Instr.index, asIntOf, run_underlying Try.underlying125, go_sem, methC, meth3]

set_option maxRecDepth 100000 in
theorem of_3 (w : World) : Calls Try.prog 62 #[.int .i64 3] w fun e w' => e = .returned (.tuple #[.agg meth3, .bool true]) ∧ Below w.heap.size w w' := by
  have c1 := fun W => meth_any W
  simp only [methC] at c1
  have C1 := Lib.hid c1
  clear c1
  go_enter Try.func62, Try.ntmps62
  go_wp2_with fail
  (with_reducible refine (C1.out _).mono ?_); rintro e w1 ⟨rfl, b1⟩; have B1 := Lib.hid b1; clear b1
  go_wp2_with fail
  (with_reducible refine (C1.out _).mono ?_); rintro e w2 ⟨rfl, b2⟩
  have b3 := B1.out.trans (b2.mono B1.out.size)
  have blk : Blk w2 w.heap.size 119 meth0 := (Blk.new w 119 meth0).below b3 (by simp)
  have hs := Lib.hid (show w.heap.size < w2.heap.size from blk.lt)
  have B3 := Lib.hid (((Below.refl _ w).alloc (Nat.le_refl _) (.cells meth0 119)).trans (b3.mono (by simp)))
  have e0 := blk.cell 0
  have e1 := blk.cell 1
  have e2 := blk.cell 2
  have e3 := blk.cell 3
  have e4 := blk.cell 4
  have e5 := blk.cell 5
  have f0 := blk.frozen 0
  have f1 := blk.frozen 1
  have f2 := blk.frozen 2
  have f3 := blk.frozen 3
  have f4 := blk.frozen 4
  have f5 := blk.frozen 5
  simp [meth0] at e0 e1 e2 e3 e4 e5
  have BLK := Lib.hid blk
  clear b2 b3 blk
  have ix := idx_3 w2
  simp only [methC, meth3] at ix
  go_wp2_with fail
  have FIN : Blk _ w.heap.size 119 _ := (((((BLK.out.set_ 0 (meth3.getD 0 undef)).set_ 1 (meth3.getD 1 undef)).set_ 2 (meth3.getD 2 undef)).set_ 3 (meth3.getD 3 undef)).set_ 4 (meth3.getD 4 undef)).set_ 5 (meth3.getD 5 undef)
  refine bodyPost_ret (v := .tuple #[.agg meth3, .bool true]) ?_ rfl ⟨rfl, ?_⟩
  · refine results_row_tmp (p := 2) (u := 3) (ty := 119) rfl _ _ w.heap.size 119 meth3 _ ?_ ?_ Try.underlying119 rfl (by kernel_rfl)
    · rfl
    · exact FIN
  · exact (((((B3.out.setCell (Nat.le_refl _) _).setCell (Nat.le_refl _) _).setCell (Nat.le_refl _) _).setCell (Nat.le_refl _) _).setCell (Nat.le_refl _) _).setCell (Nat.le_refl _) _

set_option maxRecDepth 100000 in
theorem of_bad (k : Int) (w : World) (h : k < 1 ∨ 3 < k) : Calls Try.prog 62 #[.int .i64 k] w fun e w' => e = .returned (.tuple #[.agg meth0, .bool false]) ∧ Below w.heap.size w w' := by
  have c1 := fun W => meth_any W
  simp only [methC] at c1
  have C1 := Lib.hid c1
  clear c1
  have hz : ∀ W : World, Blk (w.alloc (.cells meth0 119)) w.heap.size 119 meth0 := fun _ => Blk.new w 119 meth0
  by_cases h1 : k < 1
  · clear h hz
    go_enter Try.func62, Try.ntmps62
    go_wp2_with fail
    refine bodyPost_ret (v := .tuple #[.agg meth0, .bool false]) ?_ rfl ⟨rfl, (Below.refl _ w).alloc (Nat.le_refl _) _⟩
    refine results_row_tmp (p := 2) (u := 3) (ty := 119) rfl _ _ w.heap.size 119 meth0 _ ?_ ?_ Try.underlying119 rfl (by kernel_rfl)
    · rfl
    · exact Blk.new w 119 meth0
  · have h2 : 3 < k := by omega
    have h3 : 1 ≤ k := by omega
    clear h h1 hz
    go_enter Try.func62, Try.ntmps62
    go_wp2_with fail
    (with_reducible refine (C1.out _).mono ?_); rintro e w2 ⟨rfl, b3⟩
    have blk : Blk w2 w.heap.size 119 meth0 := (Blk.new w 119 meth0).below b3 (by simp)
    have B3 := Lib.hid (((Below.refl _ w).alloc (Nat.le_refl _) (.cells meth0 119)).trans (b3.mono (by simp)))
    have e0 := blk.cell 0
    have e1 := blk.cell 1
    have e2 := blk.cell 2
    have e3 := blk.cell 3
    have e4 := blk.cell 4
    have e5 := blk.cell 5
    have f0 := blk.frozen 0
    have f1 := blk.frozen 1
    have f2 := blk.frozen 2
    have f3 := blk.frozen 3
    have f4 := blk.frozen 4
    have f5 := blk.frozen 5
    simp [meth0] at e0 e1 e2 e3 e4 e5
    have BLK := Lib.hid blk
    clear b3 blk
    go_wp2_with fail
    have FIN : Blk _ w.heap.size 119 _ := (((((BLK.out.set_ 0 (meth0.getD 0 undef)).set_ 1 (meth0.getD 1 undef)).set_ 2 (meth0.getD 2 undef)).set_ 3 (meth0.getD 3 undef)).set_ 4 (meth0.getD 4 undef)).set_ 5 (meth0.getD 5 undef)
    refine bodyPost_ret (v := .tuple #[.agg meth0, .bool false]) ?_ rfl ⟨rfl, ?_⟩
    · refine results_row_tmp (p := 2) (u := 3) (ty := 119) rfl _ _ w.heap.size 119 meth0 _ ?_ ?_ Try.underlying119 rfl (by kernel_rfl)
      · rfl
      · exact FIN
    · exact (((((B3.out.setCell (Nat.le_refl _) _).setCell (Nat.le_refl _) _).setCell (Nat.le_refl _) _).setCell (Nat.le_refl _) _).setCell (Nat.le_refl _) _).setCell (Nat.le_refl _) _
end Go.Proofs.Ytgbkoegmoelheaa.Ck

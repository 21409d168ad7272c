/- The iterator that Bits hands out. -/
import Derived.Test.YthgbnpafhkhjpaaCp
namespace Go.Proofs.Ythgbnpafhkhjpaa
open Go.RowKit
set_option linter.unusedVariables false
set_option linter.unusedSimpArgs false

set_option maxRecDepth 100000 in
set_option maxHeartbeats 2000000 in
theorem rbits_some (B g : Nat) (v : Value) (l : List UInt8) (p : Nat) (w : World) (hr : RS w B g v l p) :
    Calls Try.prog 32 #[.pointer (some ⟨g, 0, none⟩)] w fun e w' => ∃ Pb Sb g' v', e = .returned (.func (.func 65) #[] #[.pointer (some ⟨Pb, 0, none⟩), .pointer (some ⟨Sb, 0, none⟩)]) ∧ w.heap.size ≤ Pb ∧ w.heap.size ≤ Sb ∧ w.heap.size ≤ g' ∧ Blk w' Pb 3 #[.int .i64 p] ∧ Blk w' Sb 98 #[.pointer (some ⟨g', 0, none⟩)] ∧ RS w' w.heap.size g' v' l p ∧ Below w.heap.size w w' := by
  have C26 := Lib.hid (rcopy_some B g v l p w hr)
  clear hr
  go_enter Try.func32, Try.ntmps32
  go_wp2_with (first | (go_at_call 26; (with_reducible refine C26.out.mono ?_); rintro e w1 ⟨g', v', rfl, hg', r1, b1⟩; have hc2 := r1.blk.cell 2; simp only [List.getElem?_toArray, List.getElem?_cons_zero, List.getElem?_cons_succ] at hc2; have R1 := Lib.hid r1; have B1 := Lib.hid b1; have HG' := Lib.hid hg'; clear r1 b1 hg'))
  go_region_held3 (fun W : World => W.cell? ⟨g', 2, none⟩ = some (.int .i64 p)) (first | exact hc2 | exact cell_drew hc2 | exact cell_drew (cell_keep (cell_keep hc2 _) _))
    (first
      | (go_at_call 40; (with_reducible refine (from_any _ _ _).mono ?_); rintro e w7 ⟨rfl, rfl⟩))
  all_goals
    go_wp2_with fail
    go_ret
    have hb2 : Below w1.heap.size w1 ((w1.alloc (.cells #[.pointer (some ⟨g', 0, none⟩)] 98)).alloc (.cells #[.int .i64 p] 3)).drew := below_drew (((Below.refl _ w1).alloc (Nat.le_refl _) _).alloc (by simp) _)
    refine ⟨w1.heap.size + 1, w1.heap.size, g', v', rfl, by have := B1.out.size; omega, B1.out.size, HG'.out, ?_, ((Blk.new w1 98 _).alloc _).drew, R1.out.below hb2 (Nat.le_refl _), B1.out.trans (hb2.mono B1.out.size)⟩
    have := Blk.new (w1.alloc (.cells #[.pointer (some ⟨g', 0, none⟩)] 98)) 3 #[.int .i64 p]
    rw [World.size_alloc] at this
    exact this.drew
end Go.Proofs.Ythgbnpafhkhjpaa

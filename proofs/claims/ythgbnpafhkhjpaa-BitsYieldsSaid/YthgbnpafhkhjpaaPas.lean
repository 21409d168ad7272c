/- The contract of (*Reader).pass, Skip. -/
import Derived.Test.YthgbnpafhkhjpaaRe2
namespace Go.Proofs.Ythgbnpafhkhjpaa
open Go.RowKit
set_option linter.unusedVariables false
set_option linter.unusedSimpArgs false

set_option maxRecDepth 100000 in
set_option maxHeartbeats 1000000 in
theorem pass_err (p : Option Addr) (count E : Int) (b n : Nat) (w : World) (hne : (E == 0) = false)
    (h46 : ∀ W, Below w.heap.size w W → Calls Try.prog 46 #[.pointer p, .int .i64 count, .slice (some ⟨b, 0, none⟩) n n] W fun e w' => e = .returned (.tuple #[.agg #[.slice none 0 0, .int .i64 0], .int .i64 E]) ∧ Below W.heap.size W w') :
    Calls Try.prog 39 #[.pointer p, .int .i64 count, .slice (some ⟨b, 0, none⟩) n n] w fun e w' => e = .returned (.tuple #[.agg #[.slice none 0 0, .int .i64 0], .int .i64 E]) ∧ Below w.heap.size w w' := by
  have hb0 : Below w.heap.size w (w.alloc (.cells #[.slice none 0 0, .int .i64 0] 61)) := (Below.refl _ w).alloc (Nat.le_refl _) _
  have C46 := Lib.hid (h46 _ hb0)
  have HB0 := Lib.hid hb0
  have HK0 := Lib.hid (Blk.new w 61 #[.slice none 0 0, .int .i64 0])
  clear h46 hb0
  go_enter Try.func39, Try.ntmps39
  go_wp2_with (go_at_call 46; (with_reducible refine C46.out.mono ?_); rintro e w1 ⟨rfl, b1⟩; have HB1 := Lib.hid (HB0.out.trans (b1.mono HB0.out.size)); have hk1 := HK0.out.below b1 HK0.out.lt; clear b1; have hk2 := hk1.alloc (.cells #[.slice none 0 0, .int .i64 0] 61); have f0 := hk2.frozen 0; have f1 := hk2.frozen 1; have q0 := hk2.cell 0; have q1 := hk2.cell 1; simp only [List.getElem?_toArray, List.getElem?_cons_zero, List.getElem?_cons_succ] at q0 q1; have HK1 := Lib.hid hk2; clear hk1 hk2)
  refine bodyPost_ret (v := .tuple #[.agg #[.slice none 0 0, .int .i64 0], .int .i64 E]) ?_ rfl ⟨rfl, ?_⟩
  · exact results_row_tmp (p := 6) (u := 7) (ty := 61) rfl _ _ w.heap.size 61 #[.slice none 0 0, .int .i64 0] _ rfl ((HK1.out.set_ 0 (.slice none 0 0)).set_ 1 (.int .i64 0)) Try.underlying61 rfl (by kernel_rfl)
  · exact ((HB1.out.alloc HB1.out.size _).setCell (by simp) _).setCell (by simp) _

set_option maxRecDepth 100000 in
set_option maxHeartbeats 1000000 in
theorem pass_ok (B g : Nat) (v : Value) (l : List UInt8) (p c : Nat) (b n : Nat) (cs : List (Bool × Int)) (w : World) (hr : RS w B g v l p) (hcs : CS w b 0 cs) (hn : cs.length = n) (h0 : 0 < n) (h1 : n ≤ 100) (hE0 : firstE cs = 0) (hc : p + c ≤ 8 * l.length) :
    Calls Try.prog 39 #[.pointer (some ⟨g, 0, none⟩), .int .i64 c, .slice (some ⟨b, 0, none⟩) n n] w fun e w' => ∃ v', e = .returned (.tuple #[.agg #[v', .int .i64 c], .int .i64 0]) ∧ w'.ownsRow w.heap.size 5 1 v' ((c + 7) / 8) ((pack (cut l p c)).map u8) ∧ RS w' B g v l (p + c) ∧ Two g (.slice none 0 0) w w' := by
  have hb0 : Below w.heap.size w (w.alloc (.cells #[.slice none 0 0, .int .i64 0] 61)) := (Below.refl _ w).alloc (Nat.le_refl _) _
  have C46 := Lib.hid (read_ok B g v l p c b n cs _ (hr.below hb0 (Nat.le_refl _)) (hcs.keep hb0) hn h0 h1 hE0 hc)
  have HR := Lib.hid hr
  have HC := Lib.hid hc
  have HB0 := Lib.hid hb0
  have HK0 := Lib.hid (Blk.new w 61 #[.slice none 0 0, .int .i64 0])
  have hpc : (p : Int) + c ≤ 10000000 := by have := hr.small; omega
  have hp0 : (0 : Int) ≤ p := by omega
  have hc0 : (0 : Int) ≤ c := by omega
  clear hb0 hr hcs hn h0 h1 hE0 hc
  go_enter Try.func39, Try.ntmps39
  go_wp2_with (go_at_call 46; (with_reducible refine C46.out.mono ?_); rintro e w1 ⟨v1, rfl, ho, b1⟩; have HB1 := Lib.hid (HB0.out.trans (b1.mono HB0.out.size)); have hk1 := HK0.out.below b1 HK0.out.lt; clear b1; obtain ⟨A1, c1, rfl, -⟩ := own_form ho; have hk2 := hk1.alloc (.cells #[.slice A1 ((c + 7) / 8) c1, .int .i64 c] 61); have f0 := hk2.frozen 0; have f1 := hk2.frozen 1; have q0 := hk2.cell 0; have q1 := hk2.cell 1; have hr1 := HR.out.below HB1.out (Nat.le_refl _); have hg2 := hr1.blk.alloc (.cells #[.slice A1 ((c + 7) / 8) c1, .int .i64 c] 61); have f2 := hg2.frozen 2; have q2 := hg2.cell 2; simp only [List.getElem?_toArray, List.getElem?_cons_zero, List.getElem?_cons_succ] at q0 q1 q2; have HO1 := Lib.hid (own_alloc (o := .cells #[.slice A1 ((c + 7) / 8) c1, .int .i64 c] 61) ho); have HR1 := Lib.hid (hr1.below ((Below.refl _ w1).alloc (Nat.le_refl _) (.cells #[.slice A1 ((c + 7) / 8) c1, .int .i64 c] 61)) (Nat.le_refl _)); have HK1 := Lib.hid hk2; clear hk1 hk2 hr1 hg2 ho)
  have hg := HR1.out.blk.lt
  have hgw := HR.out.blk.lt
  have hs1 := HB1.out.size
  have n1 := own_not_blk HO1.out HR1.out.blk (by decide)
  have n2 := own_not_blk HO1.out HK1.out (by decide)
  have n3 := own_not_blk HR1.out.own HR1.out.blk (by decide)
  have n4 := own_not_blk HR1.out.own HK1.out (by decide)
  refine bodyPost_ret (v := .tuple #[.agg #[.slice A1 ((c + 7) / 8) c1, .int .i64 c], .int .i64 0]) ?_ rfl ⟨_, rfl, own_base (own_setCell (own_setCell (own_setCell HO1.out n1 _) n2 _) n2 _) (by simp), ⟨?_, own_setCell (own_setCell (own_setCell HR1.out.own n3 _) n4 _) n4 _, ?_, HC.out, HR.out.small⟩, ?_⟩
  · exact results_row_tmp (p := 6) (u := 7) (ty := 61) rfl _ _ w.heap.size 61 #[.slice A1 ((c + 7) / 8) c1, .int .i64 c] _ rfl (((HK1.out.far (by simp; omega) _).set_ 0 (.slice A1 ((c + 7) / 8) c1)).set_ 1 (.int .i64 c)) Try.underlying61 rfl (by kernel_rfl)
  · have := ((HR1.out.blk.set_ 2 (.int .i64 ((p : Int) + c))).far (p := ⟨w.heap.size, 0, none⟩) (by simp; omega) (.slice A1 ((c + 7) / 8) c1)).far (p := ⟨w.heap.size, 1, none⟩) (by simp; omega) (.int .i64 c)
    simpa using this
  · rw [World.size_setCell, World.size_setCell, World.size_setCell]; exact HR1.out.base
  · exact ((((Two.refl g (.slice none 0 0) w).below (HB1.out.alloc HB1.out.size _)).set (.inl rfl)).set (.inr (.inr (Nat.le_refl _)))).set (.inr (.inr (Nat.le_refl _)))
end Go.Proofs.Ythgbnpafhkhjpaa

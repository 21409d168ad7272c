/- The chapter's examples: known returns true. -/
import Derived.Test.YtbfejjjdolfcfaaKnP
import Derived.Test.YtbfejjjdolfcfaaXo3
import Derived.Test.YtbfejjjdolfcfaaStr
namespace Go.Proofs.Ytbfejjjdolfcfaa
open Go.RowKit
set_option linter.unusedVariables false
set_option linter.unusedSimpArgs false

theorem kq_any (w : World) : Calls Try.prog 9 #[.int .u32 286331153, .int .u32 16909060, .int .u32 2609737539, .int .u32 19088743] w fun e w' => e = .returned (.tuple #[.int .u32 3928658676, .int .u32 3407673550, .int .u32 1166100270, .int .u32 1484899515]) ∧ Below w.heap.size w w' := by
  have h := quarter_any 286331153 16909060 2609737539 19088743 w (by omega) (by omega) (by omega) (by omega)
  unfold tup4 at h
  rw [kq.1, kq.2.1, kq.2.2.1, kq.2.2.2] at h
  exact h
def Z8 : Array Value := #[.int .i64 0, .int .i64 0, .int .i64 0, .int .i64 0, .int .i64 0, .int .i64 0, .int .i64 0, .int .i64 0]
def o16 : List UInt8 := [118, 184, 224, 173, 160, 241, 61, 144, 64, 93, 106, 229, 83, 134, 189, 40]
def KBlk (w : World) (e : Ending) (w' : World) : Prop := ∃ g cap, e = .returned (.tuple #[.slice (some ⟨g, 0, none⟩) 64 cap, .int .i64 0]) ∧ 64 ≤ cap ∧ Holds w' (some ⟨g, 0, none⟩) 16 (o16.map u8) ∧ Below w.heap.size w w'
theorem kb_any (g g' : Nat) (w : World) (h1 : Blk w g 3 Z8) (h2 : Blk w g' 3 #[.int .i64 0, .int .i64 0, .int .i64 0]) :
    Calls Try.prog 12 #[.slice (some ⟨g, 0, none⟩) 8 8, .slice (some ⟨g', 0, none⟩) 3 3, .int .i64 0] w (KBlk w) := by
  have h := blk_key 0 (by decide) 0 (by omega) g g' w h1 h2
  refine h.mono fun e w' ⟨v, he, ho, hb⟩ => ?_
  obtain ⟨gg, cap, rfl, -, -, hc, -⟩ := own_holds ho (by omega)
  have ht := holds_own (own_take ho (show 16 ≤ 64 by omega))
  rw [← List.map_take, show (blkB (List.replicate 8 0) [0, 0, 0] ((0 : Nat) : Int)).take 16 = o16 by rw [show ((0 : Nat) : Int) = 0 from rfl, kblk]; rfl] at ht
  exact ⟨gg, cap, he, hc, ht, hb⟩
theorem kx_any (key a : Int) (A : Option Addr) (n c : Nat) (l out : List UInt8) (E : Int) (w : World) (hl : l.length = n) (hn : n ≤ 3000) (hb : Holds w A n (l.map u8)) (hc : A = none → c = 0) (hE : errP key a n = E) (ho : xorR key a l = out) :
    Calls Try.prog 14 #[.int .i64 key, .int .i64 a, .slice A n c] w fun e w' => ∃ B d, e = .returned (.tuple #[.slice B out.length d, .int .i64 E]) ∧ Holds w' B out.length (out.map u8) ∧ Below w.heap.size w w' := by
  subst hE ho
  refine (xor_any A n c key a l w hl hn hb hc).mono fun e w' ⟨v, he, hv, hb⟩ => ?_
  obtain ⟨B, d, rfl, -⟩ := own_form hv
  exact ⟨B, d, he, holds_own hv, hb⟩
theorem holds_nil (w : World) : Holds w none 0 ([] : List Value) := by
  unfold Holds
  exact ⟨rfl, fun _ => ⟨rfl, rfl⟩, fun b hb => by cases hb⟩
theorem make8' (w : World) : (Instr.makeSlice 29 (.int .i64 8) (.int .i64 8)).run Try.prog w = .ok (.slice (some ⟨w.heap.size, 0, none⟩) 8 8) (w.alloc (.cells Z8 3)) := make8 w

set_option maxRecDepth 100000 in
set_option maxHeartbeats 2000000 in
theorem known_any (w : World) : Calls Try.prog 11 #[] w fun e w' => e = .returned (.bool true) ∧ Below w.heap.size w w' := by
  go_enter Try.func11, Try.ntmps11
  go_wp2_with (go_at_call 9; (with_reducible refine (kq_any _).mono ?_); rintro e w1 ⟨rfl, b1⟩)
  have HB1 := Lib.hid b1
  clear b1
  have hA8 := ((Blk.new w1 3 Z8).alloc (.cells #[.int .i64 0, .int .i64 0, .int .i64 0] 3)).drew
  have hA3 := (blk_new1 w1 (.cells Z8 3) 3 #[.int .i64 0, .int .i64 0, .int .i64 0]).drew
  have hB3 := ((Blk.new w1 3 #[.int .i64 0, .int .i64 0, .int .i64 0]).alloc (.cells Z8 3)).drew
  have hB8 := (blk_new1 w1 (.cells #[.int .i64 0, .int .i64 0, .int .i64 0] 3) 3 Z8).drew
  have HA8 := Lib.hid hA8
  have HA3 := Lib.hid hA3
  have HB3 := Lib.hid hB3
  have HB8 := Lib.hid hB8
  have HBA := Lib.hid (below_drew ((HB1.out.alloc HB1.out.size (.cells Z8 3)).alloc (by have := HB1.out.size; simp; omega) (.cells #[.int .i64 0, .int .i64 0, .int .i64 0] 3)))
  have HBB := Lib.hid (below_drew ((HB1.out.alloc HB1.out.size (.cells #[.int .i64 0, .int .i64 0, .int .i64 0] 3)).alloc (by have := HB1.out.size; simp; omega) (.cells Z8 3)))
  clear hA8 hA3 hB3 hB8
  have hmk8 := fun w => make8' w
  have hmk3 := fun w => make3 w
  go_region_held3 (fun _ => True) (trivial) (first
    | (go_at_call 12; go_must ((with_reducible refine (kb_any _ _ _ (by first | exact HA8.out | exact HB8.out) (by first | exact HA3.out | exact HB3.out)).mono ?_); rintro e w2 ⟨g2, cap2, rfl, hc2, hh2, b2⟩; have HH2 := Lib.hid hh2; have B2 := Lib.hid (show Below w.heap.size w w2 from (by first | exact HBA.out.trans (b2.mono HBA.out.size) | exact HBB.out.trans (b2.mono HBB.out.size))); clear hh2 b2)))
  all_goals
    clear hmk8 hmk3
    have s1 := conv_bs (P := Try.prog) w2 30 9 5 Try.underlying30 Try.underlying5 Try.underlying9 (n := 16) (c := cap2) (l := o16) rfl HH2.out
    unfold o16 at s1
    have hc2' : (64 : Int) ≤ cap2 := by omega
    go_wp2_with fail
    have HE1 := Lib.hid (show errP 0 5 (3 : Nat) = 0 by decide)
    have HE2 := Lib.hid (show errP 1 274877906942 (3 : Nat) = 3 by decide)
    have HE3 := Lib.hid (show errP (-1) 0 (0 : Nat) = 2 by decide)
    have HX1 := Lib.hid (show xorR 0 5 [1, 2, 3] = [1, 2, 3] by unfold xorR; rw [if_pos (by decide)]; rfl)
    have HX2 := Lib.hid (show xorR 1 274877906942 [1, 2, 3] = [] by unfold xorR; rw [if_neg (by decide)])
    have HX3 := Lib.hid (show xorR (-1) 0 [] = [] by unfold xorR; rw [if_neg (by decide)])
    (with_reducible refine (kx_any 0 5 _ 3 3 [1, 2, 3] [1, 2, 3] 0 _ rfl (by omega) (holds_blk (Blk.new w2 5 #[.int .u8 1, .int .u8 2, .int .u8 3]) rfl rfl) (fun h => by cases h) HE1.out HX1.out).mono ?_); rintro e w3 ⟨A3, d3, rfl, hh3, b3⟩
    have HH3 := Lib.hid hh3
    have B3 := Lib.hid ((B2.out.alloc B2.out.size (.cells #[.int .u8 1, .int .u8 2, .int .u8 3] 5)).trans (b3.mono (by have := B2.out.size; simp; omega)))
    clear hh3 b3 s1
    go_wp2_with fail
    (with_reducible refine (kx_any 1 274877906942 _ 3 3 [1, 2, 3] [] 3 _ rfl (by omega) (holds_blk (Blk.new w3 5 #[.int .u8 1, .int .u8 2, .int .u8 3]) rfl rfl) (fun h => by cases h) HE2.out HX2.out).mono ?_); rintro e w4 ⟨A4, d4, rfl, -, b4⟩
    have B4 := Lib.hid ((B3.out.alloc B3.out.size (.cells #[.int .u8 1, .int .u8 2, .int .u8 3] 5)).trans (b4.mono (by have := B3.out.size; simp; omega)))
    have b34 := ((Below.refl _ w3).alloc (Nat.le_refl _) (.cells #[.int .u8 1, .int .u8 2, .int .u8 3] 5)).trans (b4.mono (by simp))
    have HH4 := Lib.hid (HH3.out.keep b34)
    clear b4 b34
    go_wp2_with fail
    (with_reducible refine (kx_any (-1) 0 none 0 0 [] [] 2 _ rfl (by omega) (holds_nil _) (fun _ => rfl) HE3.out HX3.out).mono ?_); rintro e w5 ⟨A5, d5, rfl, -, b5⟩
    have s5 := conv_bs (P := Try.prog) w5 30 9 5 Try.underlying30 Try.underlying5 Try.underlying9 (n := 3) (c := d3) (l := [1, 2, 3]) rfl (HH4.out.keep b5)
    have B5 := Lib.hid (B4.out.trans (b5.mono B4.out.size))
    clear b5
    go_wp2_with fail
    go_ret
    exact ⟨by simp, B5.out⟩
end Go.Proofs.Ytbfejjjdolfcfaa

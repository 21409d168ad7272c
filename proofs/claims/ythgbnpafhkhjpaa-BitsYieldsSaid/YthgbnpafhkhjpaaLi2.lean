/- The contract of (*Writer).Little. -/
import Derived.Test.YthgbnpafhkhjpaaLit
import Derived.Test.YthgbnpafhkhjpaaOrd
namespace Go.Proofs.Ythgbnpafhkhjpaa
open Go.RowKit
set_option linter.unusedVariables false
set_option linter.unusedSimpArgs false

theorem cs_at3 {W : World} {b : Nat} {x y z : Bool} {e f h : Int} (hb : b = W.heap.size) : CS (W.alloc (.cells #[.bool x, .int .i64 e, .bool y, .int .i64 f, .bool z, .int .i64 h] 72)) b 0 [(x, e), (y, f), (z, h)] := by
  subst hb
  exact cs_new W [(x, e), (y, f), (z, h)]

/-- Whether a little number may be put. -/
def littleOk (v k : Int) : Bool := (decide (1 ≤ k) && decide (k ≤ 4)) && (decide (0 ≤ v) && decide (v ≤ 2 ^ (8 * k.toNat) - 1))

set_option maxRecDepth 100000 in
set_option maxHeartbeats 8000000 in
theorem little_walk (p : Option Addr) (v k : Int) (len : Int) (there : Bool) (Q : Int → World → Prop) (w : World)
    (h36 : ∀ W, Below w.heap.size w W → Calls Try.prog 36 #[.pointer p] W fun e w' => e = .returned (.bool there) ∧ W = w')
    (h13 : ∀ W, Below w.heap.size w W → Calls Try.prog 13 #[.pointer p] W fun e w' => e = .returned (.int .i64 len) ∧ W = w')
    (h34 : ∀ (b : Nat) (W : World) (cnt : Int), (1 ≤ k ∧ k ≤ 4 → cnt = 8 * k) → Below w.heap.size w W → CS W b 0 [(there, 1), (littleOk v k, 2), (len.tmod 8 == 0, 8)] → Blk W w.heap.size 3 #[.int .i64 v] → Blk W (w.heap.size + 1) 3 #[.int .i64 k] →
      Calls Try.prog 34 #[.pointer p, .func (.func 41) #[] #[.pointer (some ⟨w.heap.size + 1, 0, none⟩), .pointer (some ⟨w.heap.size, 0, none⟩)], .int .i64 cnt, .slice (some ⟨b, 0, none⟩) 3 3] W fun e w' => ∃ x, e = .returned (.int .i64 x) ∧ w'.cell? ⟨w.heap.size, 0, none⟩ = some (.int .i64 v) ∧ w'.cell? ⟨w.heap.size + 1, 0, none⟩ = some (.int .i64 k) ∧ Q x w') :
    Calls Try.prog 17 #[.pointer p, .int .i64 v, .int .i64 k] w fun e w' => ∃ x, e = .returned (.int .i64 x) ∧ Q x w' := by
  obtain ⟨w0, hW0⟩ : ∃ w0, (w.alloc (.cells #[.int .i64 v] 3)).alloc (.cells #[.int .i64 k] 3) = w0 := ⟨_, rfl⟩
  have hB0 : Below w.heap.size w w0 := hW0 ▸ ((Below.refl _ w).alloc (Nat.le_refl _) _).alloc (by simp) _
  have hz0 : w0.heap.size = w.heap.size + 2 := by rw [← hW0]; simp
  have hBv0 : Blk w0 w.heap.size 3 #[.int .i64 v] := hW0 ▸ (Blk.new w 3 #[.int .i64 v]).alloc _
  have hBk0 : Blk w0 (w.heap.size + 1) 3 #[.int .i64 k] := by have := Blk.new (w.alloc (.cells #[.int .i64 v] 3)) 3 #[.int .i64 k]; rw [World.size_alloc, hW0] at this; exact this
  have HC := Lib.hid (show w0.cell? ⟨w.heap.size, 0, none⟩ = some (.int .i64 v) ∧ w0.cell? ⟨w.heap.size + 1, 0, none⟩ = some (.int .i64 k) from ⟨hBv0.cell 0, hBk0.cell 0⟩)
  have H34 := Lib.hid h34
  have HW0 := Lib.hid hW0
  clear h34
  cases ha : (decide (1 ≤ k) && decide (k ≤ 4))
  · have hp : littleOk v k = false := by unfold littleOk; rw [ha]; rfl
    rw [hp] at H34
    have H37 := Lib.hid (fun W => (show Calls Try.prog 37 #[.int .i64 k, .int .i64 1, .int .i64 4] W fun e w' => e = .returned (.bool false) ∧ W = w' from ha ▸ in_any k 1 4 W))
    have H36 := Lib.hid (h36 w0.drew (below_drew hB0))
    have HA := Lib.hid (waligned_any p len w0.drew (fun W hW => h13 W ((below_drew hB0).trans (hW.mono hB0.size))))
    have hB1 : Below w.heap.size w (w0.alloc (.cells #[.bool (len.tmod 8 == 0), .int .i64 8] 72)).drew := below_drew (hB0.alloc (by omega) _)
    have HCA := Lib.hid (show (w0.alloc (.cells #[.bool (len.tmod 8 == 0), .int .i64 8] 72)).drew.cell? ⟨w.heap.size, 0, none⟩ = some (.int .i64 v) ∧ (w0.alloc (.cells #[.bool (len.tmod 8 == 0), .int .i64 8] 72)).drew.cell? ⟨w.heap.size + 1, 0, none⟩ = some (.int .i64 k) from ⟨(hBv0.alloc _).cell 0, (hBk0.alloc _).cell 0⟩)
    obtain ⟨W2, hW2⟩ : ∃ W2, ((w0.alloc (.cells #[.bool (len.tmod 8 == 0), .int .i64 8] 72)).alloc (.cells #[.bool there, .int .i64 1, .bool false, .int .i64 2, .bool (len.tmod 8 == 0), .int .i64 8] 72)).drew = W2 := ⟨_, rfl⟩
    have HCS := Lib.hid (show W2.cell? ⟨w.heap.size, 0, none⟩ = some (.int .i64 v) ∧ W2.cell? ⟨w.heap.size + 1, 0, none⟩ = some (.int .i64 k) from hW2 ▸ ⟨((hBv0.alloc _).alloc _).cell 0, ((hBk0.alloc _).alloc _).cell 0⟩)
    have HB := Lib.hid (show Below w.heap.size w W2 from hW2 ▸ below_drew ((hB0.alloc (by omega) _).alloc (by simp; omega) _))
    have HCC := Lib.hid (show CS W2 (w0.heap.size + 1) 0 [(there, 1), (false, 2), (len.tmod 8 == 0, 8)] from hW2 ▸ CS.drew (cs_at3 (by simp)))
    have HBv := Lib.hid (show Blk W2 w.heap.size 3 #[.int .i64 v] from hW2 ▸ ((hBv0.alloc _).alloc _).drew)
    have HBk := Lib.hid (show Blk W2 (w.heap.size + 1) 3 #[.int .i64 k] from hW2 ▸ ((hBk0.alloc _).alloc _).drew)

    have HW2 := Lib.hid hW2
    have NHA := Lib.hid (show ¬(1 ≤ k ∧ k ≤ 4) from fun h => by simp [h.1, h.2] at ha)
    clear hp ha h36 h13 hB0 hB1 hBv0 hBk0 hW0 hW2 hz0
    go_enter Try.func17, Try.ntmps17
    go_wp2_with fail
    rw [HW0.out]
    refine wp_region_G (S0 := (fun (w' : World) => w'.cell? ⟨w.heap.size, 0, none⟩ = some (.int .i64 v) ∧ w'.cell? ⟨w.heap.size + 1, 0, none⟩ = some (.int .i64 k))) (S1 := (fun (w' : World) => w'.cell? ⟨w.heap.size, 0, none⟩ = some (.int .i64 v) ∧ w'.cell? ⟨w.heap.size + 1, 0, none⟩ = some (.int .i64 k))) (c := 23) (by kernel_rfl) ?_
    have hHeld := (show w0.drew.cell? ⟨w.heap.size, 0, none⟩ = some (.int .i64 v) ∧ w0.drew.cell? ⟨w.heap.size + 1, 0, none⟩ = some (.int .i64 k) from HC.out)
    have h01 := (fun (w' : World) (h : w'.cell? ⟨w.heap.size, 0, none⟩ = some (.int .i64 v) ∧ w'.cell? ⟨w.heap.size + 1, 0, none⟩ = some (.int .i64 k)) => h)
    refine wpG_takeA (i := 0) (oi := ⟨some 9, _, _, _, _, _⟩) (v := ?_) rfl (by kernel_rfl) (by kernel_rfl) (by kernel_rfl) (by decide) (fun _ _ _ h => h) h01 rfl hHeld (Or.inl ⟨by rfl, ?_⟩) ?_
    rotate_left
    · (intro w hSw; (try dsimp only at hSw); go_simp; (try with_reducible rfl))
    try simp only [Act.put, List.setIfInBounds_toArray, List.set_cons_zero, List.set_cons_succ]
    refine wpG_takeA (i := 1) (oi := ⟨some 10, _, _, _, _, _⟩) (v := ?_) rfl (by kernel_rfl) (by kernel_rfl) (by kernel_rfl) (by decide) (fun _ _ _ h => h) h01 rfl hHeld (Or.inl ⟨by rfl, ?_⟩) ?_
    rotate_left
    · (intro w hSw; (try dsimp only at hSw); go_simp; (try with_reducible rfl))
    try simp only [Act.put, List.setIfInBounds_toArray, List.set_cons_zero, List.set_cons_succ]
    refine wpG_takeA (i := 2) (oi := ⟨some 11, _, _, _, _, _⟩) (v := ?_) rfl (by kernel_rfl) (by kernel_rfl) (by kernel_rfl) (by decide) (fun _ _ _ h => h) h01 rfl hHeld (Or.inl ⟨by rfl, ?_⟩) ?_
    rotate_left
    · (intro w hSw; (try dsimp only at hSw); go_simp; (try with_reducible rfl))
    try simp only [Act.put, List.setIfInBounds_toArray, List.set_cons_zero, List.set_cons_succ]
    refine wpG_takeA (i := 3) (oi := ⟨some 12, _, _, _, _, _⟩) (v := ?_) rfl (by kernel_rfl) (by kernel_rfl) (by kernel_rfl) (by decide) (fun _ _ _ h => h) h01 rfl hHeld (Or.inl ⟨by rfl, ?_⟩) ?_
    rotate_left
    · (intro w hSw; (try dsimp only at hSw); go_simp; (try with_reducible rfl))
    try simp only [Act.put, List.setIfInBounds_toArray, List.set_cons_zero, List.set_cons_succ]
    refine wpG_takeA (i := 4) (oi := ⟨some 13, _, _, _, _, _⟩) (v := ?_) rfl (by kernel_rfl) (by kernel_rfl) (by kernel_rfl) (by decide) (fun _ _ _ h => h) h01 rfl hHeld (Or.inl ⟨by rfl, ?_⟩) ?_
    rotate_left
    · (intro w hSw; (try dsimp only at hSw); go_simp; (try with_reducible rfl))
    try simp only [Act.put, List.setIfInBounds_toArray, List.set_cons_zero, List.set_cons_succ]
    refine wpG_takeA (i := 7) (oi := ⟨some 16, _, _, _, _, _⟩) (v := ?_) rfl (by kernel_rfl) (by kernel_rfl) (by kernel_rfl) (by decide) (fun _ _ _ h => h) h01 rfl hHeld (Or.inl ⟨by rfl, ?_⟩) ?_
    rotate_left
    · (intro w hSw; (try dsimp only at hSw); go_simp; (try with_reducible rfl))
    try simp only [Act.put, List.setIfInBounds_toArray, List.set_cons_zero, List.set_cons_succ]
    refine wpG_takeA (i := 20) (oi := ⟨some 29, _, _, _, _, _⟩) (v := ?_) rfl (by kernel_rfl) (by kernel_rfl) (by kernel_rfl) (by decide) (fun _ _ _ h => h) h01 rfl hHeld (Or.inl ⟨by rfl, ?_⟩) ?_
    rotate_left
    · (intro w hSw; (try dsimp only at hSw); go_simp; (try with_reducible rfl))
    try simp only [Act.put, List.setIfInBounds_toArray, List.set_cons_zero, List.set_cons_succ]
    refine wpG_oneA (i := 5) (o := ⟨some 14, _, _, _, _, _⟩) (by kernel_rfl) rfl rfl (fun K hK => ?_)
    go_simp
    (with_reducible refine H36.out.mono ?_); rintro e w1 ⟨rfl, rfl⟩
    refine hK.out _ _ hHeld (fun hHeld => ?_)
    clear hK K
    try simp only [Act.put, List.setIfInBounds_toArray, List.set_cons_zero, List.set_cons_succ]
    refine wpG_takeA (i := 6) (oi := ⟨some 15, _, _, _, _, _⟩) (v := ?_) rfl (by kernel_rfl) (by kernel_rfl) (by kernel_rfl) (by decide) (fun _ _ _ h => h) h01 rfl hHeld (Or.inl ⟨by rfl, ?_⟩) ?_
    rotate_left
    · (intro w hSw; (try dsimp only at hSw); go_simp; (try with_reducible rfl))
    try simp only [Act.put, List.setIfInBounds_toArray, List.set_cons_zero, List.set_cons_succ]
    refine wpG_oneA (i := 8) (o := ⟨some 17, _, _, _, _, _⟩) (by kernel_rfl) rfl rfl (fun K hK => ?_)
    go_simp
    (with_reducible refine (H37.out _).mono ?_); rintro e w1 ⟨rfl, rfl⟩
    refine hK.out _ _ hHeld (fun hHeld => ?_)
    clear hK K
    try simp only [Act.put, List.setIfInBounds_toArray, List.set_cons_zero, List.set_cons_succ]
    refine wpG_takeA (i := 9) (oi := ⟨some 18, _, _, _, _, _⟩) (v := ?_) rfl (by kernel_rfl) (by kernel_rfl) (by kernel_rfl) (by decide) (fun _ _ _ h => h) h01 rfl hHeld (Or.inl ⟨by rfl, ?_⟩) ?_
    rotate_left
    · (intro w hSw; (try dsimp only at hSw); go_simp; (try with_reducible rfl))
    try simp only [Act.put, List.setIfInBounds_toArray, List.set_cons_zero, List.set_cons_succ]
    refine wpG_takeA (i := 10) (oi := ⟨some 19, _, _, _, _, _⟩) (v := undef) rfl (by kernel_rfl) (by kernel_rfl) (by kernel_rfl) (by decide) (fun _ _ _ h => h) h01 rfl hHeld (Or.inr ⟨by rfl, rfl⟩) ?_
    try simp only [Act.put, List.setIfInBounds_toArray, List.set_cons_zero, List.set_cons_succ]
    refine wpG_takeA (i := 11) (oi := ⟨some 20, _, _, _, _, _⟩) (v := undef) rfl (by kernel_rfl) (by kernel_rfl) (by kernel_rfl) (by decide) (fun _ _ _ h => h) h01 rfl hHeld (Or.inr ⟨by rfl, rfl⟩) ?_
    try simp only [Act.put, List.setIfInBounds_toArray, List.set_cons_zero, List.set_cons_succ]
    refine wpG_takeA (i := 12) (oi := ⟨some 21, _, _, _, _, _⟩) (v := undef) rfl (by kernel_rfl) (by kernel_rfl) (by kernel_rfl) (by decide) (fun _ _ _ h => h) h01 rfl hHeld (Or.inr ⟨by rfl, rfl⟩) ?_
    try simp only [Act.put, List.setIfInBounds_toArray, List.set_cons_zero, List.set_cons_succ]
    refine wpG_takeA (i := 13) (oi := ⟨some 22, _, _, _, _, _⟩) (v := undef) rfl (by kernel_rfl) (by kernel_rfl) (by kernel_rfl) (by decide) (fun _ _ _ h => h) h01 rfl hHeld (Or.inr ⟨by rfl, rfl⟩) ?_
    try simp only [Act.put, List.setIfInBounds_toArray, List.set_cons_zero, List.set_cons_succ]
    refine wpG_takeA (i := 14) (oi := ⟨some 23, _, _, _, _, _⟩) (v := undef) rfl (by kernel_rfl) (by kernel_rfl) (by kernel_rfl) (by decide) (fun _ _ _ h => h) h01 rfl hHeld (Or.inr ⟨by rfl, rfl⟩) ?_
    try simp only [Act.put, List.setIfInBounds_toArray, List.set_cons_zero, List.set_cons_succ]
    refine wpG_takeA (i := 15) (oi := ⟨some 24, _, _, _, _, _⟩) (v := undef) rfl (by kernel_rfl) (by kernel_rfl) (by kernel_rfl) (by decide) (fun _ _ _ h => h) h01 rfl hHeld (Or.inr ⟨by rfl, rfl⟩) ?_
    try simp only [Act.put, List.setIfInBounds_toArray, List.set_cons_zero, List.set_cons_succ]
    refine wpG_takeA (i := 16) (oi := ⟨some 25, _, _, _, _, _⟩) (v := undef) rfl (by kernel_rfl) (by kernel_rfl) (by kernel_rfl) (by decide) (fun _ _ _ h => h) h01 rfl hHeld (Or.inr ⟨by rfl, rfl⟩) ?_
    try simp only [Act.put, List.setIfInBounds_toArray, List.set_cons_zero, List.set_cons_succ]
    refine wpG_oneA (i := 17) (o := ⟨some 26, _, _, _, _, _⟩) (by kernel_rfl) rfl rfl (fun K hK => ?_)
    go_simp
    refine hK.out _ _ hHeld (fun hHeld => ?_)
    clear hK K
    try simp only [Act.put, List.setIfInBounds_toArray, List.set_cons_zero, List.set_cons_succ]
    refine wpG_takeA (i := 18) (oi := ⟨some 27, _, _, _, _, _⟩) (v := ?_) rfl (by kernel_rfl) (by kernel_rfl) (by kernel_rfl) (by decide) (fun _ _ _ h => h) h01 rfl hHeld (Or.inl ⟨by rfl, ?_⟩) ?_
    rotate_left
    · (intro w hSw; (try dsimp only at hSw); go_simp; (try with_reducible rfl))
    try simp only [Act.put, List.setIfInBounds_toArray, List.set_cons_zero, List.set_cons_succ]
    refine wpG_takeA (i := 19) (oi := ⟨some 28, _, _, _, _, _⟩) (v := ?_) rfl (by kernel_rfl) (by kernel_rfl) (by kernel_rfl) (by decide) (fun _ _ _ h => h) h01 rfl hHeld (Or.inl ⟨by rfl, ?_⟩) ?_
    rotate_left
    · (intro w hSw; (try dsimp only at hSw); go_simp; (try with_reducible rfl))
    try simp only [Act.put, List.setIfInBounds_toArray, List.set_cons_zero, List.set_cons_succ]
    refine wpG_oneA (i := 21) (o := ⟨some 30, _, _, _, _, _⟩) (by kernel_rfl) rfl rfl (fun K hK => ?_)
    go_simp
    (with_reducible refine HA.out.mono ?_); rintro e w1 ⟨rfl, rfl⟩
    refine hK.out _ _ HCA.out (fun hHeld => ?_)
    clear hK K
    try simp only [Act.put, List.setIfInBounds_toArray, List.set_cons_zero, List.set_cons_succ]
    refine wpG_oneA (i := 22) (o := ⟨some 31, _, _, _, _, _⟩) (by kernel_rfl) rfl rfl (fun K hK => ?_)
    go_simp
    rw [HW2.out]
    refine hK.out _ _ HCS.out (fun hHeld => ?_)
    clear hK K
    try simp only [Act.put, List.setIfInBounds_toArray, List.set_cons_zero, List.set_cons_succ]
    refine wpG_oneB (i := 23) (o := ⟨some 32, _, _, _, _, _⟩) (by kernel_rfl) rfl rfl (fun K hK => ?_)
    go_simp
    (refine (H34.out _ _ _ ?_ HB.out HCC.out HBv.out HBk.out).mono ?_); (· intro hk4; (first | rfl | exact absurd hk4 NHA.out)); rintro e w1 ⟨x, rfl, hcc, hcc2, hQ⟩
    refine hK.out _ _ ⟨hcc, hcc2⟩ (fun hHeld => ?_)
    clear hK K
    try simp only [Act.put, List.setIfInBounds_toArray, List.set_cons_zero, List.set_cons_succ]
    refine wpG_takeB (i := 24) (oi := ⟨some 6, _, _, _, _, _⟩) (v := ?_) rfl (by kernel_rfl) (by kernel_rfl) (by kernel_rfl) (by decide) (fun _ _ _ h => h) h01 rfl hHeld (Or.inl ⟨by rfl, ?_⟩) ?_
    rotate_left
    · (intro w hSw; (try dsimp only at hSw); go_simp; (try with_reducible rfl))
    try simp only [Act.put, List.setIfInBounds_toArray, List.set_cons_zero, List.set_cons_succ]
    refine wpG_done (by kernel_rfl) ?_ _
    go_wp2_with fail
    go_ret
    exact ⟨x, rfl, hQ⟩
  · have ha1 : 1 ≤ k ∧ k ≤ 4 := by simpa using ha
    rcases (show k = 1 ∨ k = 2 ∨ k = 3 ∨ k = 4 by omega) with rfl | rfl | rfl | rfl
    · have hp : littleOk v 1 = (decide (0 ≤ v) && decide (v ≤ 255)) := by unfold littleOk; simp
      rw [hp] at H34
      have H37 := Lib.hid (fun W => (show Calls Try.prog 37 #[.int .i64 1, .int .i64 1, .int .i64 4] W fun e w' => e = .returned (.bool true) ∧ W = w' from in_any 1 1 4 W))
      have H36 := Lib.hid (h36 w0.drew (below_drew hB0))
      have HA := Lib.hid (waligned_any p len w0.drew (fun W hW => h13 W ((below_drew hB0).trans (hW.mono hB0.size))))
      have hB1 : Below w.heap.size w (w0.alloc (.cells #[.bool (len.tmod 8 == 0), .int .i64 8] 72)).drew := below_drew (hB0.alloc (by omega) _)
      have HCA := Lib.hid (show (w0.alloc (.cells #[.bool (len.tmod 8 == 0), .int .i64 8] 72)).drew.cell? ⟨w.heap.size, 0, none⟩ = some (.int .i64 v) ∧ (w0.alloc (.cells #[.bool (len.tmod 8 == 0), .int .i64 8] 72)).drew.cell? ⟨w.heap.size + 1, 0, none⟩ = some (.int .i64 1) from ⟨(hBv0.alloc _).cell 0, (hBk0.alloc _).cell 0⟩)
      obtain ⟨W2, hW2⟩ : ∃ W2, ((w0.alloc (.cells #[.bool (len.tmod 8 == 0), .int .i64 8] 72)).alloc (.cells #[.bool there, .int .i64 1, .bool (decide (0 ≤ v) && decide (v ≤ 255)), .int .i64 2, .bool (len.tmod 8 == 0), .int .i64 8] 72)).drew = W2 := ⟨_, rfl⟩
      have HCS := Lib.hid (show W2.cell? ⟨w.heap.size, 0, none⟩ = some (.int .i64 v) ∧ W2.cell? ⟨w.heap.size + 1, 0, none⟩ = some (.int .i64 1) from hW2 ▸ ⟨((hBv0.alloc _).alloc _).cell 0, ((hBk0.alloc _).alloc _).cell 0⟩)
      have HB := Lib.hid (show Below w.heap.size w W2 from hW2 ▸ below_drew ((hB0.alloc (by omega) _).alloc (by simp; omega) _))
      have HCC := Lib.hid (show CS W2 (w0.heap.size + 1) 0 [(there, 1), ((decide (0 ≤ v) && decide (v ≤ 255)), 2), (len.tmod 8 == 0, 8)] from hW2 ▸ CS.drew (cs_at3 (by simp)))
      have HBv := Lib.hid (show Blk W2 w.heap.size 3 #[.int .i64 v] from hW2 ▸ ((hBv0.alloc _).alloc _).drew)
      have HBk := Lib.hid (show Blk W2 (w.heap.size + 1) 3 #[.int .i64 1] from hW2 ▸ ((hBk0.alloc _).alloc _).drew)
      have HW2 := Lib.hid hW2
      clear hp ha ha1 h36 h13 hB0 hB1 hBv0 hBk0 hW0 hW2 hz0
      go_enter Try.func17, Try.ntmps17
      go_wp2_with fail
      rw [HW0.out]
      refine wp_region_G (S0 := (fun (w' : World) => w'.cell? ⟨w.heap.size, 0, none⟩ = some (.int .i64 v) ∧ w'.cell? ⟨w.heap.size + 1, 0, none⟩ = some (.int .i64 1))) (S1 := (fun (w' : World) => w'.cell? ⟨w.heap.size, 0, none⟩ = some (.int .i64 v) ∧ w'.cell? ⟨w.heap.size + 1, 0, none⟩ = some (.int .i64 1))) (c := 23) (by kernel_rfl) ?_
      have hHeld := (show w0.drew.cell? ⟨w.heap.size, 0, none⟩ = some (.int .i64 v) ∧ w0.drew.cell? ⟨w.heap.size + 1, 0, none⟩ = some (.int .i64 1) from HC.out)
      have h01 := (fun (w' : World) (h : w'.cell? ⟨w.heap.size, 0, none⟩ = some (.int .i64 v) ∧ w'.cell? ⟨w.heap.size + 1, 0, none⟩ = some (.int .i64 1)) => h)
      refine wpG_takeA (i := 0) (oi := ⟨some 9, _, _, _, _, _⟩) (v := ?_) rfl (by kernel_rfl) (by kernel_rfl) (by kernel_rfl) (by decide) (fun _ _ _ h => h) h01 rfl hHeld (Or.inl ⟨by rfl, ?_⟩) ?_
      rotate_left
      · (intro w hSw; (try dsimp only at hSw); go_simp; (try with_reducible rfl))
      try simp only [Act.put, List.setIfInBounds_toArray, List.set_cons_zero, List.set_cons_succ]
      refine wpG_takeA (i := 1) (oi := ⟨some 10, _, _, _, _, _⟩) (v := ?_) rfl (by kernel_rfl) (by kernel_rfl) (by kernel_rfl) (by decide) (fun _ _ _ h => h) h01 rfl hHeld (Or.inl ⟨by rfl, ?_⟩) ?_
      rotate_left
      · (intro w hSw; (try dsimp only at hSw); go_simp; (try with_reducible rfl))
      try simp only [Act.put, List.setIfInBounds_toArray, List.set_cons_zero, List.set_cons_succ]
      refine wpG_takeA (i := 2) (oi := ⟨some 11, _, _, _, _, _⟩) (v := ?_) rfl (by kernel_rfl) (by kernel_rfl) (by kernel_rfl) (by decide) (fun _ _ _ h => h) h01 rfl hHeld (Or.inl ⟨by rfl, ?_⟩) ?_
      rotate_left
      · (intro w hSw; (try dsimp only at hSw); go_simp; (try with_reducible rfl))
      try simp only [Act.put, List.setIfInBounds_toArray, List.set_cons_zero, List.set_cons_succ]
      refine wpG_takeA (i := 3) (oi := ⟨some 12, _, _, _, _, _⟩) (v := (.int .i64 8)) rfl (by kernel_rfl) (by kernel_rfl) (by kernel_rfl) (by decide) (fun _ _ _ h => h) h01 rfl hHeld (Or.inl ⟨by rfl, ?_⟩) ?_
      · (intro w hSw; (try dsimp only at hSw); go_simp; (try (first | with_reducible rfl | rfl | (simp [IntKind.wrap_i64]; done))))
      try simp only [Act.put, List.setIfInBounds_toArray, List.set_cons_zero, List.set_cons_succ]
      refine wpG_takeA (i := 4) (oi := ⟨some 13, _, _, _, _, _⟩) (v := ?_) rfl (by kernel_rfl) (by kernel_rfl) (by kernel_rfl) (by decide) (fun _ _ _ h => h) h01 rfl hHeld (Or.inl ⟨by rfl, ?_⟩) ?_
      rotate_left
      · (intro w hSw; (try dsimp only at hSw); go_simp; (try with_reducible rfl))
      try simp only [Act.put, List.setIfInBounds_toArray, List.set_cons_zero, List.set_cons_succ]
      refine wpG_takeA (i := 7) (oi := ⟨some 16, _, _, _, _, _⟩) (v := ?_) rfl (by kernel_rfl) (by kernel_rfl) (by kernel_rfl) (by decide) (fun _ _ _ h => h) h01 rfl hHeld (Or.inl ⟨by rfl, ?_⟩) ?_
      rotate_left
      · (intro w hSw; (try dsimp only at hSw); go_simp; (try with_reducible rfl))
      try simp only [Act.put, List.setIfInBounds_toArray, List.set_cons_zero, List.set_cons_succ]
      refine wpG_takeA (i := 20) (oi := ⟨some 29, _, _, _, _, _⟩) (v := ?_) rfl (by kernel_rfl) (by kernel_rfl) (by kernel_rfl) (by decide) (fun _ _ _ h => h) h01 rfl hHeld (Or.inl ⟨by rfl, ?_⟩) ?_
      rotate_left
      · (intro w hSw; (try dsimp only at hSw); go_simp; (try with_reducible rfl))
      try simp only [Act.put, List.setIfInBounds_toArray, List.set_cons_zero, List.set_cons_succ]
      refine wpG_oneA (i := 5) (o := ⟨some 14, _, _, _, _, _⟩) (by kernel_rfl) rfl rfl (fun K hK => ?_)
      go_simp
      (with_reducible refine H36.out.mono ?_); rintro e w1 ⟨rfl, rfl⟩
      refine hK.out _ _ hHeld (fun hHeld => ?_)
      clear hK K
      try simp only [Act.put, List.setIfInBounds_toArray, List.set_cons_zero, List.set_cons_succ]
      refine wpG_takeA (i := 6) (oi := ⟨some 15, _, _, _, _, _⟩) (v := ?_) rfl (by kernel_rfl) (by kernel_rfl) (by kernel_rfl) (by decide) (fun _ _ _ h => h) h01 rfl hHeld (Or.inl ⟨by rfl, ?_⟩) ?_
      rotate_left
      · (intro w hSw; (try dsimp only at hSw); go_simp; (try with_reducible rfl))
      try simp only [Act.put, List.setIfInBounds_toArray, List.set_cons_zero, List.set_cons_succ]
      refine wpG_oneA (i := 8) (o := ⟨some 17, _, _, _, _, _⟩) (by kernel_rfl) rfl rfl (fun K hK => ?_)
      go_simp
      (with_reducible refine (H37.out _).mono ?_); rintro e w1 ⟨rfl, rfl⟩
      refine hK.out _ _ hHeld (fun hHeld => ?_)
      clear hK K
      try simp only [Act.put, List.setIfInBounds_toArray, List.set_cons_zero, List.set_cons_succ]
      refine wpG_takeA (i := 9) (oi := ⟨some 18, _, _, _, _, _⟩) (v := ?_) rfl (by kernel_rfl) (by kernel_rfl) (by kernel_rfl) (by decide) (fun _ _ _ h => h) h01 rfl hHeld (Or.inl ⟨by rfl, ?_⟩) ?_
      rotate_left
      · (intro w hSw; (try dsimp only at hSw); go_simp; (try with_reducible rfl))
      try simp only [Act.put, List.setIfInBounds_toArray, List.set_cons_zero, List.set_cons_succ]
      refine wpG_takeA (i := 10) (oi := ⟨some 19, _, _, _, _, _⟩) (v := ?_) rfl (by kernel_rfl) (by kernel_rfl) (by kernel_rfl) (by decide) (fun _ _ _ h => h) h01 rfl hHeld (Or.inl ⟨by rfl, ?_⟩) ?_
      rotate_left
      · (intro w hSw; (try dsimp only at hSw); go_simp; (try with_reducible rfl))
      try simp only [Act.put, List.setIfInBounds_toArray, List.set_cons_zero, List.set_cons_succ]
      refine wpG_takeA (i := 11) (oi := ⟨some 20, _, _, _, _, _⟩) (v := ?_) rfl (by kernel_rfl) (by kernel_rfl) (by kernel_rfl) (by decide) (fun _ _ _ h => h) h01 rfl hHeld (Or.inl ⟨by rfl, ?_⟩) ?_
      rotate_left
      · (intro w hSw; (try dsimp only at hSw); go_simp; (try with_reducible rfl))
      try simp only [Act.put, List.setIfInBounds_toArray, List.set_cons_zero, List.set_cons_succ]
      refine wpG_takeA (i := 12) (oi := ⟨some 21, _, _, _, _, _⟩) (v := (.int .i64 1)) rfl (by kernel_rfl) (by kernel_rfl) (by kernel_rfl) (by decide) (fun _ _ _ h => h) h01 rfl hHeld (Or.inl ⟨by rfl, ?_⟩) ?_
      · (intro w hSw; (try dsimp only at hSw); go_simp; (try (first | with_reducible rfl | rfl | (simp [IntKind.wrap_i64]; done))))
      try simp only [Act.put, List.setIfInBounds_toArray, List.set_cons_zero, List.set_cons_succ]
      refine wpG_takeA (i := 13) (oi := ⟨some 22, _, _, _, _, _⟩) (v := (.int .i64 1)) rfl (by kernel_rfl) (by kernel_rfl) (by kernel_rfl) (by decide) (fun _ _ _ h => h) h01 rfl hHeld (Or.inl ⟨by rfl, ?_⟩) ?_
      · (intro w hSw; (try dsimp only at hSw); go_simp; (try (first | with_reducible rfl | rfl | (simp [IntKind.wrap_i64]; done))))
      try simp only [Act.put, List.setIfInBounds_toArray, List.set_cons_zero, List.set_cons_succ]
      refine wpG_takeA (i := 14) (oi := ⟨some 23, _, _, _, _, _⟩) (v := (.int .i64 8)) rfl (by kernel_rfl) (by kernel_rfl) (by kernel_rfl) (by decide) (fun _ _ _ h => h) h01 rfl hHeld (Or.inl ⟨by rfl, ?_⟩) ?_
      · (intro w hSw; (try dsimp only at hSw); go_simp; (try (first | with_reducible rfl | rfl | (simp [IntKind.wrap_i64]; done))))
      try simp only [Act.put, List.setIfInBounds_toArray, List.set_cons_zero, List.set_cons_succ]
      refine wpG_takeA (i := 15) (oi := ⟨some 24, _, _, _, _, _⟩) (v := (.int .i64 256)) rfl (by kernel_rfl) (by kernel_rfl) (by kernel_rfl) (by decide) (fun _ _ _ h => h) h01 rfl hHeld (Or.inl ⟨by rfl, ?_⟩) ?_
      · (intro w hSw; (try dsimp only at hSw); go_simp; (try (first | with_reducible rfl | rfl | (simp [IntKind.wrap_i64]; done))))
      try simp only [Act.put, List.setIfInBounds_toArray, List.set_cons_zero, List.set_cons_succ]
      refine wpG_takeA (i := 16) (oi := ⟨some 25, _, _, _, _, _⟩) (v := (.int .i64 255)) rfl (by kernel_rfl) (by kernel_rfl) (by kernel_rfl) (by decide) (fun _ _ _ h => h) h01 rfl hHeld (Or.inl ⟨by rfl, ?_⟩) ?_
      · (intro w hSw; (try dsimp only at hSw); go_simp; (try (first | with_reducible rfl | rfl | (simp [IntKind.wrap_i64]; done))))
      try simp only [Act.put, List.setIfInBounds_toArray, List.set_cons_zero, List.set_cons_succ]
      refine wpG_oneA (i := 17) (o := ⟨some 26, _, _, _, _, _⟩) (by kernel_rfl) rfl rfl (fun K hK => ?_)
      go_simp
      (with_reducible refine (in_any _ _ _ _).mono ?_); rintro e w1 ⟨rfl, rfl⟩
      refine hK.out _ _ hHeld (fun hHeld => ?_)
      clear hK K
      try simp only [Act.put, List.setIfInBounds_toArray, List.set_cons_zero, List.set_cons_succ]
      refine wpG_takeA (i := 18) (oi := ⟨some 27, _, _, _, _, _⟩) (v := ?_) rfl (by kernel_rfl) (by kernel_rfl) (by kernel_rfl) (by decide) (fun _ _ _ h => h) h01 rfl hHeld (Or.inl ⟨by rfl, ?_⟩) ?_
      rotate_left
      · (intro w hSw; (try dsimp only at hSw); go_simp; (try with_reducible rfl))
      try simp only [Act.put, List.setIfInBounds_toArray, List.set_cons_zero, List.set_cons_succ]
      refine wpG_takeA (i := 19) (oi := ⟨some 28, _, _, _, _, _⟩) (v := ?_) rfl (by kernel_rfl) (by kernel_rfl) (by kernel_rfl) (by decide) (fun _ _ _ h => h) h01 rfl hHeld (Or.inl ⟨by rfl, ?_⟩) ?_
      rotate_left
      · (intro w hSw; (try dsimp only at hSw); go_simp; (try with_reducible rfl))
      try simp only [Act.put, List.setIfInBounds_toArray, List.set_cons_zero, List.set_cons_succ]
      refine wpG_oneA (i := 21) (o := ⟨some 30, _, _, _, _, _⟩) (by kernel_rfl) rfl rfl (fun K hK => ?_)
      go_simp
      (with_reducible refine HA.out.mono ?_); rintro e w1 ⟨rfl, rfl⟩
      refine hK.out _ _ HCA.out (fun hHeld => ?_)
      clear hK K
      try simp only [Act.put, List.setIfInBounds_toArray, List.set_cons_zero, List.set_cons_succ]
      refine wpG_oneA (i := 22) (o := ⟨some 31, _, _, _, _, _⟩) (by kernel_rfl) rfl rfl (fun K hK => ?_)
      go_simp
      rw [HW2.out]
      refine hK.out _ _ HCS.out (fun hHeld => ?_)
      clear hK K
      try simp only [Act.put, List.setIfInBounds_toArray, List.set_cons_zero, List.set_cons_succ]
      refine wpG_oneB (i := 23) (o := ⟨some 32, _, _, _, _, _⟩) (by kernel_rfl) rfl rfl (fun K hK => ?_)
      go_simp
      (refine (H34.out _ _ _ ?_ HB.out HCC.out HBv.out HBk.out).mono ?_); (· intro hk4; (first | rfl | exact absurd hk4 NHA.out)); rintro e w1 ⟨x, rfl, hcc, hcc2, hQ⟩
      refine hK.out _ _ ⟨hcc, hcc2⟩ (fun hHeld => ?_)
      clear hK K
      try simp only [Act.put, List.setIfInBounds_toArray, List.set_cons_zero, List.set_cons_succ]
      refine wpG_takeB (i := 24) (oi := ⟨some 6, _, _, _, _, _⟩) (v := ?_) rfl (by kernel_rfl) (by kernel_rfl) (by kernel_rfl) (by decide) (fun _ _ _ h => h) h01 rfl hHeld (Or.inl ⟨by rfl, ?_⟩) ?_
      rotate_left
      · (intro w hSw; (try dsimp only at hSw); go_simp; (try with_reducible rfl))
      try simp only [Act.put, List.setIfInBounds_toArray, List.set_cons_zero, List.set_cons_succ]
      refine wpG_done (by kernel_rfl) ?_ _
      go_wp2_with fail
      go_ret
      exact ⟨x, rfl, hQ⟩
    · have hp : littleOk v 2 = (decide (0 ≤ v) && decide (v ≤ 65535)) := by unfold littleOk; simp
      rw [hp] at H34
      have H37 := Lib.hid (fun W => (show Calls Try.prog 37 #[.int .i64 2, .int .i64 1, .int .i64 4] W fun e w' => e = .returned (.bool true) ∧ W = w' from in_any 2 1 4 W))
      have H36 := Lib.hid (h36 w0.drew (below_drew hB0))
      have HA := Lib.hid (waligned_any p len w0.drew (fun W hW => h13 W ((below_drew hB0).trans (hW.mono hB0.size))))
      have hB1 : Below w.heap.size w (w0.alloc (.cells #[.bool (len.tmod 8 == 0), .int .i64 8] 72)).drew := below_drew (hB0.alloc (by omega) _)
      have HCA := Lib.hid (show (w0.alloc (.cells #[.bool (len.tmod 8 == 0), .int .i64 8] 72)).drew.cell? ⟨w.heap.size, 0, none⟩ = some (.int .i64 v) ∧ (w0.alloc (.cells #[.bool (len.tmod 8 == 0), .int .i64 8] 72)).drew.cell? ⟨w.heap.size + 1, 0, none⟩ = some (.int .i64 2) from ⟨(hBv0.alloc _).cell 0, (hBk0.alloc _).cell 0⟩)
      obtain ⟨W2, hW2⟩ : ∃ W2, ((w0.alloc (.cells #[.bool (len.tmod 8 == 0), .int .i64 8] 72)).alloc (.cells #[.bool there, .int .i64 1, .bool (decide (0 ≤ v) && decide (v ≤ 65535)), .int .i64 2, .bool (len.tmod 8 == 0), .int .i64 8] 72)).drew = W2 := ⟨_, rfl⟩
      have HCS := Lib.hid (show W2.cell? ⟨w.heap.size, 0, none⟩ = some (.int .i64 v) ∧ W2.cell? ⟨w.heap.size + 1, 0, none⟩ = some (.int .i64 2) from hW2 ▸ ⟨((hBv0.alloc _).alloc _).cell 0, ((hBk0.alloc _).alloc _).cell 0⟩)
      have HB := Lib.hid (show Below w.heap.size w W2 from hW2 ▸ below_drew ((hB0.alloc (by omega) _).alloc (by simp; omega) _))
      have HCC := Lib.hid (show CS W2 (w0.heap.size + 1) 0 [(there, 1), ((decide (0 ≤ v) && decide (v ≤ 65535)), 2), (len.tmod 8 == 0, 8)] from hW2 ▸ CS.drew (cs_at3 (by simp)))
      have HBv := Lib.hid (show Blk W2 w.heap.size 3 #[.int .i64 v] from hW2 ▸ ((hBv0.alloc _).alloc _).drew)
      have HBk := Lib.hid (show Blk W2 (w.heap.size + 1) 3 #[.int .i64 2] from hW2 ▸ ((hBk0.alloc _).alloc _).drew)
      have HW2 := Lib.hid hW2
      clear hp ha ha1 h36 h13 hB0 hB1 hBv0 hBk0 hW0 hW2 hz0
      go_enter Try.func17, Try.ntmps17
      go_wp2_with fail
      rw [HW0.out]
      refine wp_region_G (S0 := (fun (w' : World) => w'.cell? ⟨w.heap.size, 0, none⟩ = some (.int .i64 v) ∧ w'.cell? ⟨w.heap.size + 1, 0, none⟩ = some (.int .i64 2))) (S1 := (fun (w' : World) => w'.cell? ⟨w.heap.size, 0, none⟩ = some (.int .i64 v) ∧ w'.cell? ⟨w.heap.size + 1, 0, none⟩ = some (.int .i64 2))) (c := 23) (by kernel_rfl) ?_
      have hHeld := (show w0.drew.cell? ⟨w.heap.size, 0, none⟩ = some (.int .i64 v) ∧ w0.drew.cell? ⟨w.heap.size + 1, 0, none⟩ = some (.int .i64 2) from HC.out)
      have h01 := (fun (w' : World) (h : w'.cell? ⟨w.heap.size, 0, none⟩ = some (.int .i64 v) ∧ w'.cell? ⟨w.heap.size + 1, 0, none⟩ = some (.int .i64 2)) => h)
      refine wpG_takeA (i := 0) (oi := ⟨some 9, _, _, _, _, _⟩) (v := ?_) rfl (by kernel_rfl) (by kernel_rfl) (by kernel_rfl) (by decide) (fun _ _ _ h => h) h01 rfl hHeld (Or.inl ⟨by rfl, ?_⟩) ?_
      rotate_left
      · (intro w hSw; (try dsimp only at hSw); go_simp; (try with_reducible rfl))
      try simp only [Act.put, List.setIfInBounds_toArray, List.set_cons_zero, List.set_cons_succ]
      refine wpG_takeA (i := 1) (oi := ⟨some 10, _, _, _, _, _⟩) (v := ?_) rfl (by kernel_rfl) (by kernel_rfl) (by kernel_rfl) (by decide) (fun _ _ _ h => h) h01 rfl hHeld (Or.inl ⟨by rfl, ?_⟩) ?_
      rotate_left
      · (intro w hSw; (try dsimp only at hSw); go_simp; (try with_reducible rfl))
      try simp only [Act.put, List.setIfInBounds_toArray, List.set_cons_zero, List.set_cons_succ]
      refine wpG_takeA (i := 2) (oi := ⟨some 11, _, _, _, _, _⟩) (v := ?_) rfl (by kernel_rfl) (by kernel_rfl) (by kernel_rfl) (by decide) (fun _ _ _ h => h) h01 rfl hHeld (Or.inl ⟨by rfl, ?_⟩) ?_
      rotate_left
      · (intro w hSw; (try dsimp only at hSw); go_simp; (try with_reducible rfl))
      try simp only [Act.put, List.setIfInBounds_toArray, List.set_cons_zero, List.set_cons_succ]
      refine wpG_takeA (i := 3) (oi := ⟨some 12, _, _, _, _, _⟩) (v := (.int .i64 16)) rfl (by kernel_rfl) (by kernel_rfl) (by kernel_rfl) (by decide) (fun _ _ _ h => h) h01 rfl hHeld (Or.inl ⟨by rfl, ?_⟩) ?_
      · (intro w hSw; (try dsimp only at hSw); go_simp; (try (first | with_reducible rfl | rfl | (simp [IntKind.wrap_i64]; done))))
      try simp only [Act.put, List.setIfInBounds_toArray, List.set_cons_zero, List.set_cons_succ]
      refine wpG_takeA (i := 4) (oi := ⟨some 13, _, _, _, _, _⟩) (v := ?_) rfl (by kernel_rfl) (by kernel_rfl) (by kernel_rfl) (by decide) (fun _ _ _ h => h) h01 rfl hHeld (Or.inl ⟨by rfl, ?_⟩) ?_
      rotate_left
      · (intro w hSw; (try dsimp only at hSw); go_simp; (try with_reducible rfl))
      try simp only [Act.put, List.setIfInBounds_toArray, List.set_cons_zero, List.set_cons_succ]
      refine wpG_takeA (i := 7) (oi := ⟨some 16, _, _, _, _, _⟩) (v := ?_) rfl (by kernel_rfl) (by kernel_rfl) (by kernel_rfl) (by decide) (fun _ _ _ h => h) h01 rfl hHeld (Or.inl ⟨by rfl, ?_⟩) ?_
      rotate_left
      · (intro w hSw; (try dsimp only at hSw); go_simp; (try with_reducible rfl))
      try simp only [Act.put, List.setIfInBounds_toArray, List.set_cons_zero, List.set_cons_succ]
      refine wpG_takeA (i := 20) (oi := ⟨some 29, _, _, _, _, _⟩) (v := ?_) rfl (by kernel_rfl) (by kernel_rfl) (by kernel_rfl) (by decide) (fun _ _ _ h => h) h01 rfl hHeld (Or.inl ⟨by rfl, ?_⟩) ?_
      rotate_left
      · (intro w hSw; (try dsimp only at hSw); go_simp; (try with_reducible rfl))
      try simp only [Act.put, List.setIfInBounds_toArray, List.set_cons_zero, List.set_cons_succ]
      refine wpG_oneA (i := 5) (o := ⟨some 14, _, _, _, _, _⟩) (by kernel_rfl) rfl rfl (fun K hK => ?_)
      go_simp
      (with_reducible refine H36.out.mono ?_); rintro e w1 ⟨rfl, rfl⟩
      refine hK.out _ _ hHeld (fun hHeld => ?_)
      clear hK K
      try simp only [Act.put, List.setIfInBounds_toArray, List.set_cons_zero, List.set_cons_succ]
      refine wpG_takeA (i := 6) (oi := ⟨some 15, _, _, _, _, _⟩) (v := ?_) rfl (by kernel_rfl) (by kernel_rfl) (by kernel_rfl) (by decide) (fun _ _ _ h => h) h01 rfl hHeld (Or.inl ⟨by rfl, ?_⟩) ?_
      rotate_left
      · (intro w hSw; (try dsimp only at hSw); go_simp; (try with_reducible rfl))
      try simp only [Act.put, List.setIfInBounds_toArray, List.set_cons_zero, List.set_cons_succ]
      refine wpG_oneA (i := 8) (o := ⟨some 17, _, _, _, _, _⟩) (by kernel_rfl) rfl rfl (fun K hK => ?_)
      go_simp
      (with_reducible refine (H37.out _).mono ?_); rintro e w1 ⟨rfl, rfl⟩
      refine hK.out _ _ hHeld (fun hHeld => ?_)
      clear hK K
      try simp only [Act.put, List.setIfInBounds_toArray, List.set_cons_zero, List.set_cons_succ]
      refine wpG_takeA (i := 9) (oi := ⟨some 18, _, _, _, _, _⟩) (v := ?_) rfl (by kernel_rfl) (by kernel_rfl) (by kernel_rfl) (by decide) (fun _ _ _ h => h) h01 rfl hHeld (Or.inl ⟨by rfl, ?_⟩) ?_
      rotate_left
      · (intro w hSw; (try dsimp only at hSw); go_simp; (try with_reducible rfl))
      try simp only [Act.put, List.setIfInBounds_toArray, List.set_cons_zero, List.set_cons_succ]
      refine wpG_takeA (i := 10) (oi := ⟨some 19, _, _, _, _, _⟩) (v := ?_) rfl (by kernel_rfl) (by kernel_rfl) (by kernel_rfl) (by decide) (fun _ _ _ h => h) h01 rfl hHeld (Or.inl ⟨by rfl, ?_⟩) ?_
      rotate_left
      · (intro w hSw; (try dsimp only at hSw); go_simp; (try with_reducible rfl))
      try simp only [Act.put, List.setIfInBounds_toArray, List.set_cons_zero, List.set_cons_succ]
      refine wpG_takeA (i := 11) (oi := ⟨some 20, _, _, _, _, _⟩) (v := ?_) rfl (by kernel_rfl) (by kernel_rfl) (by kernel_rfl) (by decide) (fun _ _ _ h => h) h01 rfl hHeld (Or.inl ⟨by rfl, ?_⟩) ?_
      rotate_left
      · (intro w hSw; (try dsimp only at hSw); go_simp; (try with_reducible rfl))
      try simp only [Act.put, List.setIfInBounds_toArray, List.set_cons_zero, List.set_cons_succ]
      refine wpG_takeA (i := 12) (oi := ⟨some 21, _, _, _, _, _⟩) (v := (.int .i64 2)) rfl (by kernel_rfl) (by kernel_rfl) (by kernel_rfl) (by decide) (fun _ _ _ h => h) h01 rfl hHeld (Or.inl ⟨by rfl, ?_⟩) ?_
      · (intro w hSw; (try dsimp only at hSw); go_simp; (try (first | with_reducible rfl | rfl | (simp [IntKind.wrap_i64]; done))))
      try simp only [Act.put, List.setIfInBounds_toArray, List.set_cons_zero, List.set_cons_succ]
      refine wpG_takeA (i := 13) (oi := ⟨some 22, _, _, _, _, _⟩) (v := (.int .i64 2)) rfl (by kernel_rfl) (by kernel_rfl) (by kernel_rfl) (by decide) (fun _ _ _ h => h) h01 rfl hHeld (Or.inl ⟨by rfl, ?_⟩) ?_
      · (intro w hSw; (try dsimp only at hSw); go_simp; (try (first | with_reducible rfl | rfl | (simp [IntKind.wrap_i64]; done))))
      try simp only [Act.put, List.setIfInBounds_toArray, List.set_cons_zero, List.set_cons_succ]
      refine wpG_takeA (i := 14) (oi := ⟨some 23, _, _, _, _, _⟩) (v := (.int .i64 16)) rfl (by kernel_rfl) (by kernel_rfl) (by kernel_rfl) (by decide) (fun _ _ _ h => h) h01 rfl hHeld (Or.inl ⟨by rfl, ?_⟩) ?_
      · (intro w hSw; (try dsimp only at hSw); go_simp; (try (first | with_reducible rfl | rfl | (simp [IntKind.wrap_i64]; done))))
      try simp only [Act.put, List.setIfInBounds_toArray, List.set_cons_zero, List.set_cons_succ]
      refine wpG_takeA (i := 15) (oi := ⟨some 24, _, _, _, _, _⟩) (v := (.int .i64 65536)) rfl (by kernel_rfl) (by kernel_rfl) (by kernel_rfl) (by decide) (fun _ _ _ h => h) h01 rfl hHeld (Or.inl ⟨by rfl, ?_⟩) ?_
      · (intro w hSw; (try dsimp only at hSw); go_simp; (try (first | with_reducible rfl | rfl | (simp [IntKind.wrap_i64]; done))))
      try simp only [Act.put, List.setIfInBounds_toArray, List.set_cons_zero, List.set_cons_succ]
      refine wpG_takeA (i := 16) (oi := ⟨some 25, _, _, _, _, _⟩) (v := (.int .i64 65535)) rfl (by kernel_rfl) (by kernel_rfl) (by kernel_rfl) (by decide) (fun _ _ _ h => h) h01 rfl hHeld (Or.inl ⟨by rfl, ?_⟩) ?_
      · (intro w hSw; (try dsimp only at hSw); go_simp; (try (first | with_reducible rfl | rfl | (simp [IntKind.wrap_i64]; done))))
      try simp only [Act.put, List.setIfInBounds_toArray, List.set_cons_zero, List.set_cons_succ]
      refine wpG_oneA (i := 17) (o := ⟨some 26, _, _, _, _, _⟩) (by kernel_rfl) rfl rfl (fun K hK => ?_)
      go_simp
      (with_reducible refine (in_any _ _ _ _).mono ?_); rintro e w1 ⟨rfl, rfl⟩
      refine hK.out _ _ hHeld (fun hHeld => ?_)
      clear hK K
      try simp only [Act.put, List.setIfInBounds_toArray, List.set_cons_zero, List.set_cons_succ]
      refine wpG_takeA (i := 18) (oi := ⟨some 27, _, _, _, _, _⟩) (v := ?_) rfl (by kernel_rfl) (by kernel_rfl) (by kernel_rfl) (by decide) (fun _ _ _ h => h) h01 rfl hHeld (Or.inl ⟨by rfl, ?_⟩) ?_
      rotate_left
      · (intro w hSw; (try dsimp only at hSw); go_simp; (try with_reducible rfl))
      try simp only [Act.put, List.setIfInBounds_toArray, List.set_cons_zero, List.set_cons_succ]
      refine wpG_takeA (i := 19) (oi := ⟨some 28, _, _, _, _, _⟩) (v := ?_) rfl (by kernel_rfl) (by kernel_rfl) (by kernel_rfl) (by decide) (fun _ _ _ h => h) h01 rfl hHeld (Or.inl ⟨by rfl, ?_⟩) ?_
      rotate_left
      · (intro w hSw; (try dsimp only at hSw); go_simp; (try with_reducible rfl))
      try simp only [Act.put, List.setIfInBounds_toArray, List.set_cons_zero, List.set_cons_succ]
      refine wpG_oneA (i := 21) (o := ⟨some 30, _, _, _, _, _⟩) (by kernel_rfl) rfl rfl (fun K hK => ?_)
      go_simp
      (with_reducible refine HA.out.mono ?_); rintro e w1 ⟨rfl, rfl⟩
      refine hK.out _ _ HCA.out (fun hHeld => ?_)
      clear hK K
      try simp only [Act.put, List.setIfInBounds_toArray, List.set_cons_zero, List.set_cons_succ]
      refine wpG_oneA (i := 22) (o := ⟨some 31, _, _, _, _, _⟩) (by kernel_rfl) rfl rfl (fun K hK => ?_)
      go_simp
      rw [HW2.out]
      refine hK.out _ _ HCS.out (fun hHeld => ?_)
      clear hK K
      try simp only [Act.put, List.setIfInBounds_toArray, List.set_cons_zero, List.set_cons_succ]
      refine wpG_oneB (i := 23) (o := ⟨some 32, _, _, _, _, _⟩) (by kernel_rfl) rfl rfl (fun K hK => ?_)
      go_simp
      (refine (H34.out _ _ _ ?_ HB.out HCC.out HBv.out HBk.out).mono ?_); (· intro hk4; (first | rfl | exact absurd hk4 NHA.out)); rintro e w1 ⟨x, rfl, hcc, hcc2, hQ⟩
      refine hK.out _ _ ⟨hcc, hcc2⟩ (fun hHeld => ?_)
      clear hK K
      try simp only [Act.put, List.setIfInBounds_toArray, List.set_cons_zero, List.set_cons_succ]
      refine wpG_takeB (i := 24) (oi := ⟨some 6, _, _, _, _, _⟩) (v := ?_) rfl (by kernel_rfl) (by kernel_rfl) (by kernel_rfl) (by decide) (fun _ _ _ h => h) h01 rfl hHeld (Or.inl ⟨by rfl, ?_⟩) ?_
      rotate_left
      · (intro w hSw; (try dsimp only at hSw); go_simp; (try with_reducible rfl))
      try simp only [Act.put, List.setIfInBounds_toArray, List.set_cons_zero, List.set_cons_succ]
      refine wpG_done (by kernel_rfl) ?_ _
      go_wp2_with fail
      go_ret
      exact ⟨x, rfl, hQ⟩
    · have hp : littleOk v 3 = (decide (0 ≤ v) && decide (v ≤ 16777215)) := by unfold littleOk; simp
      rw [hp] at H34
      have H37 := Lib.hid (fun W => (show Calls Try.prog 37 #[.int .i64 3, .int .i64 1, .int .i64 4] W fun e w' => e = .returned (.bool true) ∧ W = w' from in_any 3 1 4 W))
      have H36 := Lib.hid (h36 w0.drew (below_drew hB0))
      have HA := Lib.hid (waligned_any p len w0.drew (fun W hW => h13 W ((below_drew hB0).trans (hW.mono hB0.size))))
      have hB1 : Below w.heap.size w (w0.alloc (.cells #[.bool (len.tmod 8 == 0), .int .i64 8] 72)).drew := below_drew (hB0.alloc (by omega) _)
      have HCA := Lib.hid (show (w0.alloc (.cells #[.bool (len.tmod 8 == 0), .int .i64 8] 72)).drew.cell? ⟨w.heap.size, 0, none⟩ = some (.int .i64 v) ∧ (w0.alloc (.cells #[.bool (len.tmod 8 == 0), .int .i64 8] 72)).drew.cell? ⟨w.heap.size + 1, 0, none⟩ = some (.int .i64 3) from ⟨(hBv0.alloc _).cell 0, (hBk0.alloc _).cell 0⟩)
      obtain ⟨W2, hW2⟩ : ∃ W2, ((w0.alloc (.cells #[.bool (len.tmod 8 == 0), .int .i64 8] 72)).alloc (.cells #[.bool there, .int .i64 1, .bool (decide (0 ≤ v) && decide (v ≤ 16777215)), .int .i64 2, .bool (len.tmod 8 == 0), .int .i64 8] 72)).drew = W2 := ⟨_, rfl⟩
      have HCS := Lib.hid (show W2.cell? ⟨w.heap.size, 0, none⟩ = some (.int .i64 v) ∧ W2.cell? ⟨w.heap.size + 1, 0, none⟩ = some (.int .i64 3) from hW2 ▸ ⟨((hBv0.alloc _).alloc _).cell 0, ((hBk0.alloc _).alloc _).cell 0⟩)
      have HB := Lib.hid (show Below w.heap.size w W2 from hW2 ▸ below_drew ((hB0.alloc (by omega) _).alloc (by simp; omega) _))
      have HCC := Lib.hid (show CS W2 (w0.heap.size + 1) 0 [(there, 1), ((decide (0 ≤ v) && decide (v ≤ 16777215)), 2), (len.tmod 8 == 0, 8)] from hW2 ▸ CS.drew (cs_at3 (by simp)))
      have HBv := Lib.hid (show Blk W2 w.heap.size 3 #[.int .i64 v] from hW2 ▸ ((hBv0.alloc _).alloc _).drew)
      have HBk := Lib.hid (show Blk W2 (w.heap.size + 1) 3 #[.int .i64 3] from hW2 ▸ ((hBk0.alloc _).alloc _).drew)
      have HW2 := Lib.hid hW2
      clear hp ha ha1 h36 h13 hB0 hB1 hBv0 hBk0 hW0 hW2 hz0
      go_enter Try.func17, Try.ntmps17
      go_wp2_with fail
      rw [HW0.out]
      refine wp_region_G (S0 := (fun (w' : World) => w'.cell? ⟨w.heap.size, 0, none⟩ = some (.int .i64 v) ∧ w'.cell? ⟨w.heap.size + 1, 0, none⟩ = some (.int .i64 3))) (S1 := (fun (w' : World) => w'.cell? ⟨w.heap.size, 0, none⟩ = some (.int .i64 v) ∧ w'.cell? ⟨w.heap.size + 1, 0, none⟩ = some (.int .i64 3))) (c := 23) (by kernel_rfl) ?_
      have hHeld := (show w0.drew.cell? ⟨w.heap.size, 0, none⟩ = some (.int .i64 v) ∧ w0.drew.cell? ⟨w.heap.size + 1, 0, none⟩ = some (.int .i64 3) from HC.out)
      have h01 := (fun (w' : World) (h : w'.cell? ⟨w.heap.size, 0, none⟩ = some (.int .i64 v) ∧ w'.cell? ⟨w.heap.size + 1, 0, none⟩ = some (.int .i64 3)) => h)
      refine wpG_takeA (i := 0) (oi := ⟨some 9, _, _, _, _, _⟩) (v := ?_) rfl (by kernel_rfl) (by kernel_rfl) (by kernel_rfl) (by decide) (fun _ _ _ h => h) h01 rfl hHeld (Or.inl ⟨by rfl, ?_⟩) ?_
      rotate_left
      · (intro w hSw; (try dsimp only at hSw); go_simp; (try with_reducible rfl))
      try simp only [Act.put, List.setIfInBounds_toArray, List.set_cons_zero, List.set_cons_succ]
      refine wpG_takeA (i := 1) (oi := ⟨some 10, _, _, _, _, _⟩) (v := ?_) rfl (by kernel_rfl) (by kernel_rfl) (by kernel_rfl) (by decide) (fun _ _ _ h => h) h01 rfl hHeld (Or.inl ⟨by rfl, ?_⟩) ?_
      rotate_left
      · (intro w hSw; (try dsimp only at hSw); go_simp; (try with_reducible rfl))
      try simp only [Act.put, List.setIfInBounds_toArray, List.set_cons_zero, List.set_cons_succ]
      refine wpG_takeA (i := 2) (oi := ⟨some 11, _, _, _, _, _⟩) (v := ?_) rfl (by kernel_rfl) (by kernel_rfl) (by kernel_rfl) (by decide) (fun _ _ _ h => h) h01 rfl hHeld (Or.inl ⟨by rfl, ?_⟩) ?_
      rotate_left
      · (intro w hSw; (try dsimp only at hSw); go_simp; (try with_reducible rfl))
      try simp only [Act.put, List.setIfInBounds_toArray, List.set_cons_zero, List.set_cons_succ]
      refine wpG_takeA (i := 3) (oi := ⟨some 12, _, _, _, _, _⟩) (v := (.int .i64 24)) rfl (by kernel_rfl) (by kernel_rfl) (by kernel_rfl) (by decide) (fun _ _ _ h => h) h01 rfl hHeld (Or.inl ⟨by rfl, ?_⟩) ?_
      · (intro w hSw; (try dsimp only at hSw); go_simp; (try (first | with_reducible rfl | rfl | (simp [IntKind.wrap_i64]; done))))
      try simp only [Act.put, List.setIfInBounds_toArray, List.set_cons_zero, List.set_cons_succ]
      refine wpG_takeA (i := 4) (oi := ⟨some 13, _, _, _, _, _⟩) (v := ?_) rfl (by kernel_rfl) (by kernel_rfl) (by kernel_rfl) (by decide) (fun _ _ _ h => h) h01 rfl hHeld (Or.inl ⟨by rfl, ?_⟩) ?_
      rotate_left
      · (intro w hSw; (try dsimp only at hSw); go_simp; (try with_reducible rfl))
      try simp only [Act.put, List.setIfInBounds_toArray, List.set_cons_zero, List.set_cons_succ]
      refine wpG_takeA (i := 7) (oi := ⟨some 16, _, _, _, _, _⟩) (v := ?_) rfl (by kernel_rfl) (by kernel_rfl) (by kernel_rfl) (by decide) (fun _ _ _ h => h) h01 rfl hHeld (Or.inl ⟨by rfl, ?_⟩) ?_
      rotate_left
      · (intro w hSw; (try dsimp only at hSw); go_simp; (try with_reducible rfl))
      try simp only [Act.put, List.setIfInBounds_toArray, List.set_cons_zero, List.set_cons_succ]
      refine wpG_takeA (i := 20) (oi := ⟨some 29, _, _, _, _, _⟩) (v := ?_) rfl (by kernel_rfl) (by kernel_rfl) (by kernel_rfl) (by decide) (fun _ _ _ h => h) h01 rfl hHeld (Or.inl ⟨by rfl, ?_⟩) ?_
      rotate_left
      · (intro w hSw; (try dsimp only at hSw); go_simp; (try with_reducible rfl))
      try simp only [Act.put, List.setIfInBounds_toArray, List.set_cons_zero, List.set_cons_succ]
      refine wpG_oneA (i := 5) (o := ⟨some 14, _, _, _, _, _⟩) (by kernel_rfl) rfl rfl (fun K hK => ?_)
      go_simp
      (with_reducible refine H36.out.mono ?_); rintro e w1 ⟨rfl, rfl⟩
      refine hK.out _ _ hHeld (fun hHeld => ?_)
      clear hK K
      try simp only [Act.put, List.setIfInBounds_toArray, List.set_cons_zero, List.set_cons_succ]
      refine wpG_takeA (i := 6) (oi := ⟨some 15, _, _, _, _, _⟩) (v := ?_) rfl (by kernel_rfl) (by kernel_rfl) (by kernel_rfl) (by decide) (fun _ _ _ h => h) h01 rfl hHeld (Or.inl ⟨by rfl, ?_⟩) ?_
      rotate_left
      · (intro w hSw; (try dsimp only at hSw); go_simp; (try with_reducible rfl))
      try simp only [Act.put, List.setIfInBounds_toArray, List.set_cons_zero, List.set_cons_succ]
      refine wpG_oneA (i := 8) (o := ⟨some 17, _, _, _, _, _⟩) (by kernel_rfl) rfl rfl (fun K hK => ?_)
      go_simp
      (with_reducible refine (H37.out _).mono ?_); rintro e w1 ⟨rfl, rfl⟩
      refine hK.out _ _ hHeld (fun hHeld => ?_)
      clear hK K
      try simp only [Act.put, List.setIfInBounds_toArray, List.set_cons_zero, List.set_cons_succ]
      refine wpG_takeA (i := 9) (oi := ⟨some 18, _, _, _, _, _⟩) (v := ?_) rfl (by kernel_rfl) (by kernel_rfl) (by kernel_rfl) (by decide) (fun _ _ _ h => h) h01 rfl hHeld (Or.inl ⟨by rfl, ?_⟩) ?_
      rotate_left
      · (intro w hSw; (try dsimp only at hSw); go_simp; (try with_reducible rfl))
      try simp only [Act.put, List.setIfInBounds_toArray, List.set_cons_zero, List.set_cons_succ]
      refine wpG_takeA (i := 10) (oi := ⟨some 19, _, _, _, _, _⟩) (v := ?_) rfl (by kernel_rfl) (by kernel_rfl) (by kernel_rfl) (by decide) (fun _ _ _ h => h) h01 rfl hHeld (Or.inl ⟨by rfl, ?_⟩) ?_
      rotate_left
      · (intro w hSw; (try dsimp only at hSw); go_simp; (try with_reducible rfl))
      try simp only [Act.put, List.setIfInBounds_toArray, List.set_cons_zero, List.set_cons_succ]
      refine wpG_takeA (i := 11) (oi := ⟨some 20, _, _, _, _, _⟩) (v := ?_) rfl (by kernel_rfl) (by kernel_rfl) (by kernel_rfl) (by decide) (fun _ _ _ h => h) h01 rfl hHeld (Or.inl ⟨by rfl, ?_⟩) ?_
      rotate_left
      · (intro w hSw; (try dsimp only at hSw); go_simp; (try with_reducible rfl))
      try simp only [Act.put, List.setIfInBounds_toArray, List.set_cons_zero, List.set_cons_succ]
      refine wpG_takeA (i := 12) (oi := ⟨some 21, _, _, _, _, _⟩) (v := (.int .i64 3)) rfl (by kernel_rfl) (by kernel_rfl) (by kernel_rfl) (by decide) (fun _ _ _ h => h) h01 rfl hHeld (Or.inl ⟨by rfl, ?_⟩) ?_
      · (intro w hSw; (try dsimp only at hSw); go_simp; (try (first | with_reducible rfl | rfl | (simp [IntKind.wrap_i64]; done))))
      try simp only [Act.put, List.setIfInBounds_toArray, List.set_cons_zero, List.set_cons_succ]
      refine wpG_takeA (i := 13) (oi := ⟨some 22, _, _, _, _, _⟩) (v := (.int .i64 3)) rfl (by kernel_rfl) (by kernel_rfl) (by kernel_rfl) (by decide) (fun _ _ _ h => h) h01 rfl hHeld (Or.inl ⟨by rfl, ?_⟩) ?_
      · (intro w hSw; (try dsimp only at hSw); go_simp; (try (first | with_reducible rfl | rfl | (simp [IntKind.wrap_i64]; done))))
      try simp only [Act.put, List.setIfInBounds_toArray, List.set_cons_zero, List.set_cons_succ]
      refine wpG_takeA (i := 14) (oi := ⟨some 23, _, _, _, _, _⟩) (v := (.int .i64 24)) rfl (by kernel_rfl) (by kernel_rfl) (by kernel_rfl) (by decide) (fun _ _ _ h => h) h01 rfl hHeld (Or.inl ⟨by rfl, ?_⟩) ?_
      · (intro w hSw; (try dsimp only at hSw); go_simp; (try (first | with_reducible rfl | rfl | (simp [IntKind.wrap_i64]; done))))
      try simp only [Act.put, List.setIfInBounds_toArray, List.set_cons_zero, List.set_cons_succ]
      refine wpG_takeA (i := 15) (oi := ⟨some 24, _, _, _, _, _⟩) (v := (.int .i64 16777216)) rfl (by kernel_rfl) (by kernel_rfl) (by kernel_rfl) (by decide) (fun _ _ _ h => h) h01 rfl hHeld (Or.inl ⟨by rfl, ?_⟩) ?_
      · (intro w hSw; (try dsimp only at hSw); go_simp; (try (first | with_reducible rfl | rfl | (simp [IntKind.wrap_i64]; done))))
      try simp only [Act.put, List.setIfInBounds_toArray, List.set_cons_zero, List.set_cons_succ]
      refine wpG_takeA (i := 16) (oi := ⟨some 25, _, _, _, _, _⟩) (v := (.int .i64 16777215)) rfl (by kernel_rfl) (by kernel_rfl) (by kernel_rfl) (by decide) (fun _ _ _ h => h) h01 rfl hHeld (Or.inl ⟨by rfl, ?_⟩) ?_
      · (intro w hSw; (try dsimp only at hSw); go_simp; (try (first | with_reducible rfl | rfl | (simp [IntKind.wrap_i64]; done))))
      try simp only [Act.put, List.setIfInBounds_toArray, List.set_cons_zero, List.set_cons_succ]
      refine wpG_oneA (i := 17) (o := ⟨some 26, _, _, _, _, _⟩) (by kernel_rfl) rfl rfl (fun K hK => ?_)
      go_simp
      (with_reducible refine (in_any _ _ _ _).mono ?_); rintro e w1 ⟨rfl, rfl⟩
      refine hK.out _ _ hHeld (fun hHeld => ?_)
      clear hK K
      try simp only [Act.put, List.setIfInBounds_toArray, List.set_cons_zero, List.set_cons_succ]
      refine wpG_takeA (i := 18) (oi := ⟨some 27, _, _, _, _, _⟩) (v := ?_) rfl (by kernel_rfl) (by kernel_rfl) (by kernel_rfl) (by decide) (fun _ _ _ h => h) h01 rfl hHeld (Or.inl ⟨by rfl, ?_⟩) ?_
      rotate_left
      · (intro w hSw; (try dsimp only at hSw); go_simp; (try with_reducible rfl))
      try simp only [Act.put, List.setIfInBounds_toArray, List.set_cons_zero, List.set_cons_succ]
      refine wpG_takeA (i := 19) (oi := ⟨some 28, _, _, _, _, _⟩) (v := ?_) rfl (by kernel_rfl) (by kernel_rfl) (by kernel_rfl) (by decide) (fun _ _ _ h => h) h01 rfl hHeld (Or.inl ⟨by rfl, ?_⟩) ?_
      rotate_left
      · (intro w hSw; (try dsimp only at hSw); go_simp; (try with_reducible rfl))
      try simp only [Act.put, List.setIfInBounds_toArray, List.set_cons_zero, List.set_cons_succ]
      refine wpG_oneA (i := 21) (o := ⟨some 30, _, _, _, _, _⟩) (by kernel_rfl) rfl rfl (fun K hK => ?_)
      go_simp
      (with_reducible refine HA.out.mono ?_); rintro e w1 ⟨rfl, rfl⟩
      refine hK.out _ _ HCA.out (fun hHeld => ?_)
      clear hK K
      try simp only [Act.put, List.setIfInBounds_toArray, List.set_cons_zero, List.set_cons_succ]
      refine wpG_oneA (i := 22) (o := ⟨some 31, _, _, _, _, _⟩) (by kernel_rfl) rfl rfl (fun K hK => ?_)
      go_simp
      rw [HW2.out]
      refine hK.out _ _ HCS.out (fun hHeld => ?_)
      clear hK K
      try simp only [Act.put, List.setIfInBounds_toArray, List.set_cons_zero, List.set_cons_succ]
      refine wpG_oneB (i := 23) (o := ⟨some 32, _, _, _, _, _⟩) (by kernel_rfl) rfl rfl (fun K hK => ?_)
      go_simp
      (refine (H34.out _ _ _ ?_ HB.out HCC.out HBv.out HBk.out).mono ?_); (· intro hk4; (first | rfl | exact absurd hk4 NHA.out)); rintro e w1 ⟨x, rfl, hcc, hcc2, hQ⟩
      refine hK.out _ _ ⟨hcc, hcc2⟩ (fun hHeld => ?_)
      clear hK K
      try simp only [Act.put, List.setIfInBounds_toArray, List.set_cons_zero, List.set_cons_succ]
      refine wpG_takeB (i := 24) (oi := ⟨some 6, _, _, _, _, _⟩) (v := ?_) rfl (by kernel_rfl) (by kernel_rfl) (by kernel_rfl) (by decide) (fun _ _ _ h => h) h01 rfl hHeld (Or.inl ⟨by rfl, ?_⟩) ?_
      rotate_left
      · (intro w hSw; (try dsimp only at hSw); go_simp; (try with_reducible rfl))
      try simp only [Act.put, List.setIfInBounds_toArray, List.set_cons_zero, List.set_cons_succ]
      refine wpG_done (by kernel_rfl) ?_ _
      go_wp2_with fail
      go_ret
      exact ⟨x, rfl, hQ⟩
    · have hp : littleOk v 4 = (decide (0 ≤ v) && decide (v ≤ 4294967295)) := by unfold littleOk; simp
      rw [hp] at H34
      have H37 := Lib.hid (fun W => (show Calls Try.prog 37 #[.int .i64 4, .int .i64 1, .int .i64 4] W fun e w' => e = .returned (.bool true) ∧ W = w' from in_any 4 1 4 W))
      have H36 := Lib.hid (h36 w0.drew (below_drew hB0))
      have HA := Lib.hid (waligned_any p len w0.drew (fun W hW => h13 W ((below_drew hB0).trans (hW.mono hB0.size))))
      have hB1 : Below w.heap.size w (w0.alloc (.cells #[.bool (len.tmod 8 == 0), .int .i64 8] 72)).drew := below_drew (hB0.alloc (by omega) _)
      have HCA := Lib.hid (show (w0.alloc (.cells #[.bool (len.tmod 8 == 0), .int .i64 8] 72)).drew.cell? ⟨w.heap.size, 0, none⟩ = some (.int .i64 v) ∧ (w0.alloc (.cells #[.bool (len.tmod 8 == 0), .int .i64 8] 72)).drew.cell? ⟨w.heap.size + 1, 0, none⟩ = some (.int .i64 4) from ⟨(hBv0.alloc _).cell 0, (hBk0.alloc _).cell 0⟩)
      obtain ⟨W2, hW2⟩ : ∃ W2, ((w0.alloc (.cells #[.bool (len.tmod 8 == 0), .int .i64 8] 72)).alloc (.cells #[.bool there, .int .i64 1, .bool (decide (0 ≤ v) && decide (v ≤ 4294967295)), .int .i64 2, .bool (len.tmod 8 == 0), .int .i64 8] 72)).drew = W2 := ⟨_, rfl⟩
      have HCS := Lib.hid (show W2.cell? ⟨w.heap.size, 0, none⟩ = some (.int .i64 v) ∧ W2.cell? ⟨w.heap.size + 1, 0, none⟩ = some (.int .i64 4) from hW2 ▸ ⟨((hBv0.alloc _).alloc _).cell 0, ((hBk0.alloc _).alloc _).cell 0⟩)
      have HB := Lib.hid (show Below w.heap.size w W2 from hW2 ▸ below_drew ((hB0.alloc (by omega) _).alloc (by simp; omega) _))
      have HCC := Lib.hid (show CS W2 (w0.heap.size + 1) 0 [(there, 1), ((decide (0 ≤ v) && decide (v ≤ 4294967295)), 2), (len.tmod 8 == 0, 8)] from hW2 ▸ CS.drew (cs_at3 (by simp)))
      have HBv := Lib.hid (show Blk W2 w.heap.size 3 #[.int .i64 v] from hW2 ▸ ((hBv0.alloc _).alloc _).drew)
      have HBk := Lib.hid (show Blk W2 (w.heap.size + 1) 3 #[.int .i64 4] from hW2 ▸ ((hBk0.alloc _).alloc _).drew)
      have HW2 := Lib.hid hW2
      clear hp ha ha1 h36 h13 hB0 hB1 hBv0 hBk0 hW0 hW2 hz0
      go_enter Try.func17, Try.ntmps17
      go_wp2_with fail
      rw [HW0.out]
      refine wp_region_G (S0 := (fun (w' : World) => w'.cell? ⟨w.heap.size, 0, none⟩ = some (.int .i64 v) ∧ w'.cell? ⟨w.heap.size + 1, 0, none⟩ = some (.int .i64 4))) (S1 := (fun (w' : World) => w'.cell? ⟨w.heap.size, 0, none⟩ = some (.int .i64 v) ∧ w'.cell? ⟨w.heap.size + 1, 0, none⟩ = some (.int .i64 4))) (c := 23) (by kernel_rfl) ?_
      have hHeld := (show w0.drew.cell? ⟨w.heap.size, 0, none⟩ = some (.int .i64 v) ∧ w0.drew.cell? ⟨w.heap.size + 1, 0, none⟩ = some (.int .i64 4) from HC.out)
      have h01 := (fun (w' : World) (h : w'.cell? ⟨w.heap.size, 0, none⟩ = some (.int .i64 v) ∧ w'.cell? ⟨w.heap.size + 1, 0, none⟩ = some (.int .i64 4)) => h)
      refine wpG_takeA (i := 0) (oi := ⟨some 9, _, _, _, _, _⟩) (v := ?_) rfl (by kernel_rfl) (by kernel_rfl) (by kernel_rfl) (by decide) (fun _ _ _ h => h) h01 rfl hHeld (Or.inl ⟨by rfl, ?_⟩) ?_
      rotate_left
      · (intro w hSw; (try dsimp only at hSw); go_simp; (try with_reducible rfl))
      try simp only [Act.put, List.setIfInBounds_toArray, List.set_cons_zero, List.set_cons_succ]
      refine wpG_takeA (i := 1) (oi := ⟨some 10, _, _, _, _, _⟩) (v := ?_) rfl (by kernel_rfl) (by kernel_rfl) (by kernel_rfl) (by decide) (fun _ _ _ h => h) h01 rfl hHeld (Or.inl ⟨by rfl, ?_⟩) ?_
      rotate_left
      · (intro w hSw; (try dsimp only at hSw); go_simp; (try with_reducible rfl))
      try simp only [Act.put, List.setIfInBounds_toArray, List.set_cons_zero, List.set_cons_succ]
      refine wpG_takeA (i := 2) (oi := ⟨some 11, _, _, _, _, _⟩) (v := ?_) rfl (by kernel_rfl) (by kernel_rfl) (by kernel_rfl) (by decide) (fun _ _ _ h => h) h01 rfl hHeld (Or.inl ⟨by rfl, ?_⟩) ?_
      rotate_left
      · (intro w hSw; (try dsimp only at hSw); go_simp; (try with_reducible rfl))
      try simp only [Act.put, List.setIfInBounds_toArray, List.set_cons_zero, List.set_cons_succ]
      refine wpG_takeA (i := 3) (oi := ⟨some 12, _, _, _, _, _⟩) (v := (.int .i64 32)) rfl (by kernel_rfl) (by kernel_rfl) (by kernel_rfl) (by decide) (fun _ _ _ h => h) h01 rfl hHeld (Or.inl ⟨by rfl, ?_⟩) ?_
      · (intro w hSw; (try dsimp only at hSw); go_simp; (try (first | with_reducible rfl | rfl | (simp [IntKind.wrap_i64]; done))))
      try simp only [Act.put, List.setIfInBounds_toArray, List.set_cons_zero, List.set_cons_succ]
      refine wpG_takeA (i := 4) (oi := ⟨some 13, _, _, _, _, _⟩) (v := ?_) rfl (by kernel_rfl) (by kernel_rfl) (by kernel_rfl) (by decide) (fun _ _ _ h => h) h01 rfl hHeld (Or.inl ⟨by rfl, ?_⟩) ?_
      rotate_left
      · (intro w hSw; (try dsimp only at hSw); go_simp; (try with_reducible rfl))
      try simp only [Act.put, List.setIfInBounds_toArray, List.set_cons_zero, List.set_cons_succ]
      refine wpG_takeA (i := 7) (oi := ⟨some 16, _, _, _, _, _⟩) (v := ?_) rfl (by kernel_rfl) (by kernel_rfl) (by kernel_rfl) (by decide) (fun _ _ _ h => h) h01 rfl hHeld (Or.inl ⟨by rfl, ?_⟩) ?_
      rotate_left
      · (intro w hSw; (try dsimp only at hSw); go_simp; (try with_reducible rfl))
      try simp only [Act.put, List.setIfInBounds_toArray, List.set_cons_zero, List.set_cons_succ]
      refine wpG_takeA (i := 20) (oi := ⟨some 29, _, _, _, _, _⟩) (v := ?_) rfl (by kernel_rfl) (by kernel_rfl) (by kernel_rfl) (by decide) (fun _ _ _ h => h) h01 rfl hHeld (Or.inl ⟨by rfl, ?_⟩) ?_
      rotate_left
      · (intro w hSw; (try dsimp only at hSw); go_simp; (try with_reducible rfl))
      try simp only [Act.put, List.setIfInBounds_toArray, List.set_cons_zero, List.set_cons_succ]
      refine wpG_oneA (i := 5) (o := ⟨some 14, _, _, _, _, _⟩) (by kernel_rfl) rfl rfl (fun K hK => ?_)
      go_simp
      (with_reducible refine H36.out.mono ?_); rintro e w1 ⟨rfl, rfl⟩
      refine hK.out _ _ hHeld (fun hHeld => ?_)
      clear hK K
      try simp only [Act.put, List.setIfInBounds_toArray, List.set_cons_zero, List.set_cons_succ]
      refine wpG_takeA (i := 6) (oi := ⟨some 15, _, _, _, _, _⟩) (v := ?_) rfl (by kernel_rfl) (by kernel_rfl) (by kernel_rfl) (by decide) (fun _ _ _ h => h) h01 rfl hHeld (Or.inl ⟨by rfl, ?_⟩) ?_
      rotate_left
      · (intro w hSw; (try dsimp only at hSw); go_simp; (try with_reducible rfl))
      try simp only [Act.put, List.setIfInBounds_toArray, List.set_cons_zero, List.set_cons_succ]
      refine wpG_oneA (i := 8) (o := ⟨some 17, _, _, _, _, _⟩) (by kernel_rfl) rfl rfl (fun K hK => ?_)
      go_simp
      (with_reducible refine (H37.out _).mono ?_); rintro e w1 ⟨rfl, rfl⟩
      refine hK.out _ _ hHeld (fun hHeld => ?_)
      clear hK K
      try simp only [Act.put, List.setIfInBounds_toArray, List.set_cons_zero, List.set_cons_succ]
      refine wpG_takeA (i := 9) (oi := ⟨some 18, _, _, _, _, _⟩) (v := ?_) rfl (by kernel_rfl) (by kernel_rfl) (by kernel_rfl) (by decide) (fun _ _ _ h => h) h01 rfl hHeld (Or.inl ⟨by rfl, ?_⟩) ?_
      rotate_left
      · (intro w hSw; (try dsimp only at hSw); go_simp; (try with_reducible rfl))
      try simp only [Act.put, List.setIfInBounds_toArray, List.set_cons_zero, List.set_cons_succ]
      refine wpG_takeA (i := 10) (oi := ⟨some 19, _, _, _, _, _⟩) (v := ?_) rfl (by kernel_rfl) (by kernel_rfl) (by kernel_rfl) (by decide) (fun _ _ _ h => h) h01 rfl hHeld (Or.inl ⟨by rfl, ?_⟩) ?_
      rotate_left
      · (intro w hSw; (try dsimp only at hSw); go_simp; (try with_reducible rfl))
      try simp only [Act.put, List.setIfInBounds_toArray, List.set_cons_zero, List.set_cons_succ]
      refine wpG_takeA (i := 11) (oi := ⟨some 20, _, _, _, _, _⟩) (v := ?_) rfl (by kernel_rfl) (by kernel_rfl) (by kernel_rfl) (by decide) (fun _ _ _ h => h) h01 rfl hHeld (Or.inl ⟨by rfl, ?_⟩) ?_
      rotate_left
      · (intro w hSw; (try dsimp only at hSw); go_simp; (try with_reducible rfl))
      try simp only [Act.put, List.setIfInBounds_toArray, List.set_cons_zero, List.set_cons_succ]
      refine wpG_takeA (i := 12) (oi := ⟨some 21, _, _, _, _, _⟩) (v := (.int .i64 4)) rfl (by kernel_rfl) (by kernel_rfl) (by kernel_rfl) (by decide) (fun _ _ _ h => h) h01 rfl hHeld (Or.inl ⟨by rfl, ?_⟩) ?_
      · (intro w hSw; (try dsimp only at hSw); go_simp; (try (first | with_reducible rfl | rfl | (simp [IntKind.wrap_i64]; done))))
      try simp only [Act.put, List.setIfInBounds_toArray, List.set_cons_zero, List.set_cons_succ]
      refine wpG_takeA (i := 13) (oi := ⟨some 22, _, _, _, _, _⟩) (v := (.int .i64 4)) rfl (by kernel_rfl) (by kernel_rfl) (by kernel_rfl) (by decide) (fun _ _ _ h => h) h01 rfl hHeld (Or.inl ⟨by rfl, ?_⟩) ?_
      · (intro w hSw; (try dsimp only at hSw); go_simp; (try (first | with_reducible rfl | rfl | (simp [IntKind.wrap_i64]; done))))
      try simp only [Act.put, List.setIfInBounds_toArray, List.set_cons_zero, List.set_cons_succ]
      refine wpG_takeA (i := 14) (oi := ⟨some 23, _, _, _, _, _⟩) (v := (.int .i64 32)) rfl (by kernel_rfl) (by kernel_rfl) (by kernel_rfl) (by decide) (fun _ _ _ h => h) h01 rfl hHeld (Or.inl ⟨by rfl, ?_⟩) ?_
      · (intro w hSw; (try dsimp only at hSw); go_simp; (try (first | with_reducible rfl | rfl | (simp [IntKind.wrap_i64]; done))))
      try simp only [Act.put, List.setIfInBounds_toArray, List.set_cons_zero, List.set_cons_succ]
      refine wpG_takeA (i := 15) (oi := ⟨some 24, _, _, _, _, _⟩) (v := (.int .i64 4294967296)) rfl (by kernel_rfl) (by kernel_rfl) (by kernel_rfl) (by decide) (fun _ _ _ h => h) h01 rfl hHeld (Or.inl ⟨by rfl, ?_⟩) ?_
      · (intro w hSw; (try dsimp only at hSw); go_simp; (try (first | with_reducible rfl | rfl | (simp [IntKind.wrap_i64]; done))))
      try simp only [Act.put, List.setIfInBounds_toArray, List.set_cons_zero, List.set_cons_succ]
      refine wpG_takeA (i := 16) (oi := ⟨some 25, _, _, _, _, _⟩) (v := (.int .i64 4294967295)) rfl (by kernel_rfl) (by kernel_rfl) (by kernel_rfl) (by decide) (fun _ _ _ h => h) h01 rfl hHeld (Or.inl ⟨by rfl, ?_⟩) ?_
      · (intro w hSw; (try dsimp only at hSw); go_simp; (try (first | with_reducible rfl | rfl | (simp [IntKind.wrap_i64]; done))))
      try simp only [Act.put, List.setIfInBounds_toArray, List.set_cons_zero, List.set_cons_succ]
      refine wpG_oneA (i := 17) (o := ⟨some 26, _, _, _, _, _⟩) (by kernel_rfl) rfl rfl (fun K hK => ?_)
      go_simp
      (with_reducible refine (in_any _ _ _ _).mono ?_); rintro e w1 ⟨rfl, rfl⟩
      refine hK.out _ _ hHeld (fun hHeld => ?_)
      clear hK K
      try simp only [Act.put, List.setIfInBounds_toArray, List.set_cons_zero, List.set_cons_succ]
      refine wpG_takeA (i := 18) (oi := ⟨some 27, _, _, _, _, _⟩) (v := ?_) rfl (by kernel_rfl) (by kernel_rfl) (by kernel_rfl) (by decide) (fun _ _ _ h => h) h01 rfl hHeld (Or.inl ⟨by rfl, ?_⟩) ?_
      rotate_left
      · (intro w hSw; (try dsimp only at hSw); go_simp; (try with_reducible rfl))
      try simp only [Act.put, List.setIfInBounds_toArray, List.set_cons_zero, List.set_cons_succ]
      refine wpG_takeA (i := 19) (oi := ⟨some 28, _, _, _, _, _⟩) (v := ?_) rfl (by kernel_rfl) (by kernel_rfl) (by kernel_rfl) (by decide) (fun _ _ _ h => h) h01 rfl hHeld (Or.inl ⟨by rfl, ?_⟩) ?_
      rotate_left
      · (intro w hSw; (try dsimp only at hSw); go_simp; (try with_reducible rfl))
      try simp only [Act.put, List.setIfInBounds_toArray, List.set_cons_zero, List.set_cons_succ]
      refine wpG_oneA (i := 21) (o := ⟨some 30, _, _, _, _, _⟩) (by kernel_rfl) rfl rfl (fun K hK => ?_)
      go_simp
      (with_reducible refine HA.out.mono ?_); rintro e w1 ⟨rfl, rfl⟩
      refine hK.out _ _ HCA.out (fun hHeld => ?_)
      clear hK K
      try simp only [Act.put, List.setIfInBounds_toArray, List.set_cons_zero, List.set_cons_succ]
      refine wpG_oneA (i := 22) (o := ⟨some 31, _, _, _, _, _⟩) (by kernel_rfl) rfl rfl (fun K hK => ?_)
      go_simp
      rw [HW2.out]
      refine hK.out _ _ HCS.out (fun hHeld => ?_)
      clear hK K
      try simp only [Act.put, List.setIfInBounds_toArray, List.set_cons_zero, List.set_cons_succ]
      refine wpG_oneB (i := 23) (o := ⟨some 32, _, _, _, _, _⟩) (by kernel_rfl) rfl rfl (fun K hK => ?_)
      go_simp
      (refine (H34.out _ _ _ ?_ HB.out HCC.out HBv.out HBk.out).mono ?_); (· intro hk4; (first | rfl | exact absurd hk4 NHA.out)); rintro e w1 ⟨x, rfl, hcc, hcc2, hQ⟩
      refine hK.out _ _ ⟨hcc, hcc2⟩ (fun hHeld => ?_)
      clear hK K
      try simp only [Act.put, List.setIfInBounds_toArray, List.set_cons_zero, List.set_cons_succ]
      refine wpG_takeB (i := 24) (oi := ⟨some 6, _, _, _, _, _⟩) (v := ?_) rfl (by kernel_rfl) (by kernel_rfl) (by kernel_rfl) (by decide) (fun _ _ _ h => h) h01 rfl hHeld (Or.inl ⟨by rfl, ?_⟩) ?_
      rotate_left
      · (intro w hSw; (try dsimp only at hSw); go_simp; (try with_reducible rfl))
      try simp only [Act.put, List.setIfInBounds_toArray, List.set_cons_zero, List.set_cons_succ]
      refine wpG_done (by kernel_rfl) ?_ _
      go_wp2_with fail
      go_ret
      exact ⟨x, rfl, hQ⟩
end Go.Proofs.Ythgbnpafhkhjpaa

/- The methods of a stream that is there. -/
import Derived.Test.YtbfejjjdolfcfaaSt
import Derived.Test.YtbfejjjdolfcfaaOrd
namespace Go.Proofs.Ytbfejjjdolfcfaa
open Go.RowKit
set_option linter.unusedVariables false
set_option linter.unusedSimpArgs false

theorem errP_bound {key a : Int} {n : Nat} (h : errP key a n = 0) : 0 ≤ a ∧ a + n ≤ 274877906944 := by
  obtain ⟨_, h1, h2⟩ := errP_ok h
  exact ⟨h1, by omega⟩

set_option maxRecDepth 100000 in
theorem new_ok (key : Int) (w : World) (h : errP key 0 0 = 0) : Calls Try.prog 20 #[.int .i64 key] w fun e w' => ∃ g, e = .returned (.tuple #[.pointer (some ⟨g, 0, none⟩), .int .i64 0]) ∧ w.heap.size ≤ g ∧ Blk w' g 46 #[.int .i64 key, .int .i64 0, .bool true] ∧ Below w.heap.size w w' := by
  have c30 := fun W => check_any key 0 0 W (by omega) (by omega)
  rw [h] at c30
  have C30 := Lib.hid c30
  have HG := Lib.hid (Blk.new w 46 #[.int .i64 key, .int .i64 0, .bool true])
  have h0 := HG.out.cell 0
  have h1 := HG.out.cell 1
  simp at h0 h1
  clear c30 h
  go_enter Try.func20, Try.ntmps20
  go_wp2_with fail
  (with_reducible refine (C30.out _).mono ?_); rintro e w1 ⟨rfl, b1⟩
  have HG1 := Lib.hid (HG.out.below b1 HG.out.lt)
  have HB1 := Lib.hid (((Below.refl _ w).alloc (Nat.le_refl _) (.cells #[.int .i64 key, .int .i64 0, .bool true] 46)).trans (b1.mono (by simp)))
  clear b1
  go_wp2_with fail
  go_ret2
  exact ⟨_, rfl, Nat.le_refl _, HG1.out, HB1.out⟩
set_option maxRecDepth 100000 in
theorem new_bad (key : Int) (w : World) (h : errP key 0 0 ≠ 0) : Calls Try.prog 20 #[.int .i64 key] w fun e w' => e = .returned (.tuple #[.pointer none, .int .i64 (errP key 0 0)]) ∧ Below w.heap.size w w' := by
  have c30 := fun W => check_any key 0 0 W (by omega) (by omega)
  have hd : (errP key 0 0 != 0) = true := by rw [bne_iff_ne]; exact h
  generalize errP key 0 0 = E at *
  have C30 := Lib.hid c30
  have HG := Lib.hid (Blk.new w 46 #[.int .i64 key, .int .i64 0, .bool true])
  have h0 := HG.out.cell 0
  have h1 := HG.out.cell 1
  simp at h0 h1
  clear c30 h
  go_enter Try.func20, Try.ntmps20
  go_wp2_with fail
  (with_reducible refine (C30.out _).mono ?_); rintro e w1 ⟨rfl, b1⟩
  have HB1 := Lib.hid (((Below.refl _ w).alloc (Nat.le_refl _) (.cells #[.int .i64 key, .int .i64 0, .bool true] 46)).trans (b1.mono (by simp)))
  clear b1
  go_wp2_with fail
  go_ret2
  exact ⟨rfl, HB1.out⟩
set_option maxRecDepth 100000 in
theorem place_some (g : Nat) (key a : Int) (w : World) (hg : Blk w g 46 #[.int .i64 key, .int .i64 a, .bool true]) : Calls Try.prog 18 #[.pointer (some ⟨g, 0, none⟩)] w fun e w' => e = .returned (.int .i64 a) ∧ w = w' := by
  have c0 := none_some g key a true w hg
  have h1 := hg.cell 1
  simp at h1
  have C0 := Lib.hid c0
  clear c0 hg
  go_enter Try.func18, Try.ntmps18
  go_wp2_with (go_at_call 32; (with_reducible refine C0.out.mono ?_); rintro e w1 ⟨rfl, rfl⟩)
  go_ret
  exact ⟨rfl, rfl⟩
set_option maxRecDepth 100000 in
theorem copy_some (g : Nat) (key a : Int) (w : World) (hg : Blk w g 46 #[.int .i64 key, .int .i64 a, .bool true]) : Calls Try.prog 19 #[.pointer (some ⟨g, 0, none⟩)] w fun e w' => e = .returned (.pointer (some ⟨w.heap.size, 0, none⟩)) ∧ Blk w' w.heap.size 46 #[.int .i64 key, .int .i64 a, .bool true] ∧ Below w.heap.size w w' := by
  have c0 := none_some g key a true w hg
  have h0 := hg.cell 0
  have h1 := hg.cell 1
  have h2 := hg.cell 2
  simp at h0 h1 h2
  have C0 := Lib.hid c0
  clear c0
  go_enter Try.func19, Try.ntmps19
  go_wp2_with (go_at_call 32; (with_reducible refine C0.out.mono ?_); rintro e w1 ⟨rfl, rfl⟩)
  go_ret
  exact ⟨rfl, Blk.new w 46 _, (Below.refl _ w).alloc (Nat.le_refl _) _⟩
set_option maxRecDepth 100000 in
theorem seek_bad (g : Nat) (key a b : Int) (w : World) (hg : Blk w g 46 #[.int .i64 key, .int .i64 a, .bool true]) (h : errP key b 0 ≠ 0) : Calls Try.prog 17 #[.pointer (some ⟨g, 0, none⟩), .int .i64 b] w fun e w' => e = .returned (.int .i64 (errP key b 0)) ∧ Below w.heap.size w w' := by
  have c0 := none_some g key a true w hg
  have c30 := fun W => check_any key b 0 W (by omega) (by omega)
  have hd : (errP key b 0 != 0) = true := by rw [bne_iff_ne]; exact h
  generalize errP key b 0 = E at *
  have h0 := hg.cell 0
  simp at h0
  have C0 := Lib.hid c0
  have C30 := Lib.hid c30
  clear c0 c30 h
  go_enter Try.func17, Try.ntmps17
  go_wp2_with (go_at_call 32; (with_reducible refine C0.out.mono ?_); rintro e w1 ⟨rfl, rfl⟩)
  (with_reducible refine (C30.out _).mono ?_); rintro e w1 ⟨rfl, b1⟩
  have HB1 := Lib.hid (((Below.refl _ w).alloc (Nat.le_refl _) (.cells #[.int .i64 key, .int .i64 b] 44)).trans (b1.mono (by simp)))
  clear b1
  go_wp2_with fail
  go_ret
  exact ⟨rfl, HB1.out⟩
set_option maxRecDepth 100000 in
theorem seek_ok (g : Nat) (key a b : Int) (w : World) (hg : Blk w g 46 #[.int .i64 key, .int .i64 a, .bool true]) (h : errP key b 0 = 0) : Calls Try.prog 17 #[.pointer (some ⟨g, 0, none⟩), .int .i64 b] w fun e w' => e = .returned (.int .i64 (errP key b 0)) ∧ Blk w' g 46 #[.int .i64 key, .int .i64 b, .bool true] ∧ w.grownBy w' (some g) := by
  have c0 := none_some g key a true w hg
  have c30 := fun W => check_any key b 0 W (by omega) (by omega)
  rw [h] at c30 ⊢
  have h0 := hg.cell 0
  simp at h0
  have C0 := Lib.hid c0
  have C30 := Lib.hid c30
  have HG := Lib.hid hg
  clear c0 c30 h hg
  go_enter Try.func17, Try.ntmps17
  go_wp2_with (go_at_call 32; (with_reducible refine C0.out.mono ?_); rintro e w1 ⟨rfl, rfl⟩)
  (with_reducible refine (C30.out _).mono ?_); rintro e w1 ⟨rfl, b1⟩
  have HG1 := Lib.hid ((HG.out.alloc (.cells #[.int .i64 key, .int .i64 b] 44)).below b1 (HG.out.alloc (.cells #[.int .i64 key, .int .i64 b] 44)).lt)
  have hbx := (Blk.new w 44 #[.int .i64 key, .int .i64 b]).below b1 (Blk.new w 44 #[.int .i64 key, .int .i64 b]).lt
  have HB1 := Lib.hid (((Below.refl _ w).alloc (Nat.le_refl _) (.cells #[.int .i64 key, .int .i64 b] 44)).trans (b1.mono (by simp)))
  have hx0 := hbx.cell 0
  have hx1 := hbx.cell 1
  have hg0 := HG1.out.cell 0
  have hg1 := HG1.out.cell 1
  have hf0 := HG1.out.frozen 0
  have hf1 := HG1.out.frozen 1
  simp at hx0 hx1 hg0 hg1
  clear b1 h0
  have hbx' := Lib.hid hbx
  clear hbx
  go_wp2_with fail
  go_ret
  have k1 := HG1.out.set_ 0 (.int .i64 key)
  have k2 := k1.set_ 1 (.int .i64 b)
  simp at k2
  exact ⟨rfl, k2, grown_set (grown_set (grown_of_below HB1.out) 0 _) 1 _⟩
set_option maxRecDepth 100000 in
set_option maxHeartbeats 2000000 in
theorem next_ok (g : Nat) (key a : Int) (A : Option Addr) (n c : Nat) (l : List UInt8) (w : World) (hg : Blk w g 46 #[.int .i64 key, .int .i64 a, .bool true]) (hl : l.length = n) (hn : n ≤ 3000) (hb : Holds w A n (l.map u8)) (hc : A = none → c = 0) (h : errP key a n = 0) :
    Calls Try.prog 16 #[.pointer (some ⟨g, 0, none⟩), .slice A n c] w fun e w' => ∃ v, e = .returned (.tuple #[v, .int .i64 (errP key a n)]) ∧ w'.ownsRow w.heap.size 5 1 v (xorR key a l).length ((xorR key a l).map u8) ∧ Blk w' g 46 #[.int .i64 key, .int .i64 (a + n), .bool true] ∧ w.grownBy w' (some g) := by
  have c0 := none_some g key a true w hg
  have C0 := Lib.hid c0
  have C14 := Lib.hid (xor_any A n c key a l w.drew hl hn hb hc)
  have HG := Lib.hid hg
  obtain ⟨hb0, hb1⟩ := errP_bound h
  rw [h] at C14 ⊢
  generalize xorR key a l = out at *
  clear c0 hg hl hb hc h
  go_enter Try.func16, Try.ntmps16
  go_wp2_with (go_at_call 32; (with_reducible refine C0.out.mono ?_); rintro e w1 ⟨rfl, rfl⟩)
  refine wp_region_G (S0 := (fun (w' : World) => w'.cell? ⟨g, 0, none⟩ = some (.int .i64 key) ∧ w'.cell? ⟨g, 1, none⟩ = some (.int .i64 a))) (S1 := (fun (w' : World) => w'.cell? ⟨g, 0, none⟩ = some (.int .i64 key) ∧ w'.cell? ⟨g, 1, none⟩ = some (.int .i64 a))) (c := 11) (by kernel_rfl) ?_
  have hHeld := (show w.drew.cell? ⟨g, 0, none⟩ = some (.int .i64 key) ∧ w.drew.cell? ⟨g, 1, none⟩ = some (.int .i64 a) from ⟨HG.out.cell 0, HG.out.cell 1⟩)
  have h01 := (fun (w : World) (h : w.cell? ⟨g, 0, none⟩ = some (.int .i64 key) ∧ w.cell? ⟨g, 1, none⟩ = some (.int .i64 a)) => h)
  refine wpG_takeA (i := 0) (oi := ⟨some 11, _, _, _, _, _⟩) (v := ?_) rfl (by kernel_rfl) (by kernel_rfl) (by kernel_rfl) (by decide) (fun _ _ _ h => h) h01 rfl hHeld (Or.inl ⟨by rfl, ?_⟩) ?_
  rotate_left
  · (intro w hSw; (try dsimp only at hSw); go_simp; (try with_reducible rfl))
  try simp only [Act.put, List.setIfInBounds_toArray, List.set_cons_zero, List.set_cons_succ]
  refine wpG_takeA (i := 1) (oi := ⟨some 12, _, _, _, _, _⟩) (v := ?_) rfl (by kernel_rfl) (by kernel_rfl) (by kernel_rfl) (by decide) (fun _ _ _ h => h) h01 rfl hHeld (Or.inl ⟨by rfl, ?_⟩) ?_
  rotate_left
  · (intro w hSw; (try dsimp only at hSw); go_simp; (try with_reducible rfl))
  try simp only [Act.put, List.setIfInBounds_toArray, List.set_cons_zero, List.set_cons_succ]
  refine wpG_takeA (i := 2) (oi := ⟨some 13, _, _, _, _, _⟩) (v := ?_) rfl (by kernel_rfl) (by kernel_rfl) (by kernel_rfl) (by decide) (fun _ _ _ h => h) h01 rfl hHeld (Or.inl ⟨by rfl, ?_⟩) ?_
  rotate_left
  · (intro w hSw; (try dsimp only at hSw); go_simp; (try with_reducible rfl))
  try simp only [Act.put, List.setIfInBounds_toArray, List.set_cons_zero, List.set_cons_succ]
  refine wpG_takeA (i := 3) (oi := ⟨some 14, _, _, _, _, _⟩) (v := ?_) rfl (by kernel_rfl) (by kernel_rfl) (by kernel_rfl) (by decide) (fun _ _ _ h => h) h01 rfl hHeld (Or.inl ⟨by rfl, ?_⟩) ?_
  rotate_left
  · (intro w hSw; (try dsimp only at hSw); go_simp; (try with_reducible rfl))
  try simp only [Act.put, List.setIfInBounds_toArray, List.set_cons_zero, List.set_cons_succ]
  refine wpG_takeA (i := 4) (oi := ⟨some 15, _, _, _, _, _⟩) (v := ?_) rfl (by kernel_rfl) (by kernel_rfl) (by kernel_rfl) (by decide) (fun _ _ _ h => h) h01 rfl hHeld (Or.inl ⟨by rfl, ?_⟩) ?_
  rotate_left
  · (intro w hSw; (try dsimp only at hSw); go_simp; (try with_reducible rfl))
  try simp only [Act.put, List.setIfInBounds_toArray, List.set_cons_zero, List.set_cons_succ]
  refine wpG_takeA (i := 5) (oi := ⟨some 16, _, _, _, _, _⟩) (v := ?_) rfl (by kernel_rfl) (by kernel_rfl) (by kernel_rfl) (by decide) (fun _ _ _ h => h) h01 rfl hHeld (Or.inl ⟨by rfl, ?_⟩) ?_
  rotate_left
  · (intro w hSw; (try dsimp only at hSw); go_simp; (try with_reducible rfl))
  try simp only [Act.put, List.setIfInBounds_toArray, List.set_cons_zero, List.set_cons_succ]
  refine wpG_takeA (i := 6) (oi := ⟨some 17, _, _, _, _, _⟩) (v := ?_) rfl (by kernel_rfl) (by kernel_rfl) (by kernel_rfl) (by decide) (fun _ _ _ h => h) h01 rfl hHeld (Or.inl ⟨by rfl, ?_⟩) ?_
  rotate_left
  · (intro w hSw; (try dsimp only at hSw); go_simp; (try with_reducible rfl))
  try simp only [Act.put, List.setIfInBounds_toArray, List.set_cons_zero, List.set_cons_succ]
  refine wpG_takeA (i := 7) (oi := ⟨some 18, _, _, _, _, _⟩) (v := ?_) rfl (by kernel_rfl) (by kernel_rfl) (by kernel_rfl) (by decide) (fun _ _ _ h => h) h01 rfl hHeld (Or.inl ⟨by rfl, ?_⟩) ?_
  rotate_left
  · (intro w hSw; (try dsimp only at hSw); go_simp; (try with_reducible rfl))
  try simp only [Act.put, List.setIfInBounds_toArray, List.set_cons_zero, List.set_cons_succ]
  refine wpG_takeA (i := 8) (oi := ⟨some 19, _, _, _, _, _⟩) (v := ?_) rfl (by kernel_rfl) (by kernel_rfl) (by kernel_rfl) (by decide) (fun _ _ _ h => h) h01 rfl hHeld (Or.inl ⟨by rfl, ?_⟩) ?_
  rotate_left
  · (intro w hSw; (try dsimp only at hSw); go_simp; (try with_reducible rfl))
  try simp only [Act.put, List.setIfInBounds_toArray, List.set_cons_zero, List.set_cons_succ]
  refine wpG_takeA (i := 9) (oi := ⟨some 20, _, _, _, _, _⟩) (v := ?_) rfl (by kernel_rfl) (by kernel_rfl) (by kernel_rfl) (by decide) (fun _ _ _ h => h) h01 rfl hHeld (Or.inl ⟨by rfl, ?_⟩) ?_
  rotate_left
  · (intro w hSw; (try dsimp only at hSw); go_simp; (try with_reducible rfl))
  try simp only [Act.put, List.setIfInBounds_toArray, List.set_cons_zero, List.set_cons_succ]
  refine wpG_takeA (i := 10) (oi := ⟨some 21, _, _, _, _, _⟩) (v := ?_) rfl (by kernel_rfl) (by kernel_rfl) (by kernel_rfl) (by decide) (fun _ _ _ h => h) h01 rfl hHeld (Or.inl ⟨by rfl, ?_⟩) ?_
  rotate_left
  · (intro w hSw; (try dsimp only at hSw); go_simp; (try with_reducible rfl))
  try simp only [Act.put, List.setIfInBounds_toArray, List.set_cons_zero, List.set_cons_succ]
  refine wpG_oneB (i := 11) (o := ⟨some 22, _, _, _, _, _⟩) (by kernel_rfl) rfl rfl (fun K hK => ?_)
  go_simp
  (with_reducible refine C14.out.mono ?_); rintro e w2 ⟨v2, rfl, ho, b2⟩
  obtain ⟨A2, c2, rfl, -⟩ := own_form ho
  have HX2 := Lib.hid ho
  have HG2 := Lib.hid (HG.out.drew.below b2 HG.out.drew.lt)
  have HB2 := Lib.hid b2
  clear ho b2
  refine hK.out _ _ ⟨HG2.out.cell 0, HG2.out.cell 1⟩ (fun hHeld => ?_)
  clear hK K
  try simp only [Act.put, List.setIfInBounds_toArray, List.set_cons_zero, List.set_cons_succ]
  refine wpG_takeB (i := 12) (oi := ⟨some 10, _, _, _, _, _⟩) (v := ?_) rfl (by kernel_rfl) (by kernel_rfl) (by kernel_rfl) (by decide) (fun _ _ _ h => h) h01 rfl hHeld (Or.inl ⟨by rfl, ?_⟩) ?_
  rotate_left
  · (intro w hSw; (try dsimp only at hSw); go_simp; (try with_reducible rfl))
  try simp only [Act.put, List.setIfInBounds_toArray, List.set_cons_zero, List.set_cons_succ]
  refine wpG_takeB (i := 13) (oi := ⟨some 23, _, _, _, _, _⟩) (v := ?_) rfl (by kernel_rfl) (by kernel_rfl) (by kernel_rfl) (by decide) (fun _ _ _ h => h) h01 rfl hHeld (Or.inl ⟨by rfl, ?_⟩) ?_
  rotate_left
  · (intro w hSw; (try dsimp only at hSw); go_simp; (try with_reducible rfl))
  try simp only [Act.put, List.setIfInBounds_toArray, List.set_cons_zero, List.set_cons_succ]
  refine wpG_takeB (i := 14) (oi := ⟨some 24, _, _, _, _, _⟩) (v := ?_) rfl (by kernel_rfl) (by kernel_rfl) (by kernel_rfl) (by decide) (fun _ _ _ h => h) h01 rfl hHeld (Or.inl ⟨by rfl, ?_⟩) ?_
  rotate_left
  · (intro w hSw; (try dsimp only at hSw); go_simp; (try with_reducible rfl))
  try simp only [Act.put, List.setIfInBounds_toArray, List.set_cons_zero, List.set_cons_succ]
  refine wpG_takeB (i := 15) (oi := ⟨some 6, _, _, _, _, _⟩) (v := ?_) rfl (by kernel_rfl) (by kernel_rfl) (by kernel_rfl) (by decide) (fun _ _ _ h => h) h01 rfl hHeld (Or.inl ⟨by rfl, ?_⟩) ?_
  rotate_left
  · (intro w hSw; (try dsimp only at hSw); go_simp; (try with_reducible rfl))
  try simp only [Act.put, List.setIfInBounds_toArray, List.set_cons_zero, List.set_cons_succ]
  refine wpG_takeB (i := 16) (oi := ⟨some 7, _, _, _, _, _⟩) (v := ?_) rfl (by kernel_rfl) (by kernel_rfl) (by kernel_rfl) (by decide) (fun _ _ _ h => h) h01 rfl hHeld (Or.inl ⟨by rfl, ?_⟩) ?_
  rotate_left
  · (intro w hSw; (try dsimp only at hSw); go_simp; (try with_reducible rfl))
  try simp only [Act.put, List.setIfInBounds_toArray, List.set_cons_zero, List.set_cons_succ]
  refine wpG_done (by kernel_rfl) ?_ _
  clear hHeld h01
  have h1 := HG2.out.cell 1
  simp at h1
  have hfr := HG2.out.frozen 1
  have HW := Lib.hid (show Below w.heap.size w w2 from ⟨HB2.out.os, HB2.out.tape, HB2.out.output, HB2.out.size, HB2.out.block⟩)
  go_wp2_with fail
  go_ret2
  have k := HG2.out.set_ 1 (.int .i64 (a + n))
  simp at k
  exact ⟨_, rfl, own_setCell HX2.out (by intro e; have h1 := (HX2.out.lt _ e).1; have h2 := HG.out.lt; simp at h1; exact absurd h2 (Nat.not_lt.2 h1)) _, k, grown_set (grown_of_below HW.out) 1 _⟩
set_option maxRecDepth 100000 in
set_option maxHeartbeats 2000000 in
theorem next_bad (g : Nat) (key a : Int) (A : Option Addr) (n c : Nat) (l : List UInt8) (w : World) (hg : Blk w g 46 #[.int .i64 key, .int .i64 a, .bool true]) (hl : l.length = n) (hn : n ≤ 3000) (hb : Holds w A n (l.map u8)) (hc : A = none → c = 0) (h : errP key a n ≠ 0) :
    Calls Try.prog 16 #[.pointer (some ⟨g, 0, none⟩), .slice A n c] w fun e w' => ∃ v, e = .returned (.tuple #[v, .int .i64 (errP key a n)]) ∧ w'.ownsRow w.heap.size 5 1 v (xorR key a l).length ((xorR key a l).map u8) ∧ Blk w' g 46 #[.int .i64 key, .int .i64 a, .bool true] ∧ w.grownBy w' (some g) := by
  have c0 := none_some g key a true w hg
  have C0 := Lib.hid c0
  have C14 := Lib.hid (xor_any A n c key a l w.drew hl hn hb hc)
  have HG := Lib.hid hg
  have hd : (errP key a n == 0) = false := by rw [beq_eq_false_iff_ne]; exact h
  generalize errP key a n = E at *
  generalize xorR key a l = out at *
  clear c0 hg hl hb hc h
  go_enter Try.func16, Try.ntmps16
  go_wp2_with (go_at_call 32; (with_reducible refine C0.out.mono ?_); rintro e w1 ⟨rfl, rfl⟩)
  refine wp_region_G (S0 := (fun (w' : World) => w'.cell? ⟨g, 0, none⟩ = some (.int .i64 key) ∧ w'.cell? ⟨g, 1, none⟩ = some (.int .i64 a))) (S1 := (fun (w' : World) => w'.cell? ⟨g, 0, none⟩ = some (.int .i64 key) ∧ w'.cell? ⟨g, 1, none⟩ = some (.int .i64 a))) (c := 11) (by kernel_rfl) ?_
  have hHeld := (show w.drew.cell? ⟨g, 0, none⟩ = some (.int .i64 key) ∧ w.drew.cell? ⟨g, 1, none⟩ = some (.int .i64 a) from ⟨HG.out.cell 0, HG.out.cell 1⟩)
  have h01 := (fun (w : World) (h : w.cell? ⟨g, 0, none⟩ = some (.int .i64 key) ∧ w.cell? ⟨g, 1, none⟩ = some (.int .i64 a)) => h)
  refine wpG_takeA (i := 0) (oi := ⟨some 11, _, _, _, _, _⟩) (v := ?_) rfl (by kernel_rfl) (by kernel_rfl) (by kernel_rfl) (by decide) (fun _ _ _ h => h) h01 rfl hHeld (Or.inl ⟨by rfl, ?_⟩) ?_
  rotate_left
  · (intro w hSw; (try dsimp only at hSw); go_simp; (try with_reducible rfl))
  try simp only [Act.put, List.setIfInBounds_toArray, List.set_cons_zero, List.set_cons_succ]
  refine wpG_takeA (i := 1) (oi := ⟨some 12, _, _, _, _, _⟩) (v := ?_) rfl (by kernel_rfl) (by kernel_rfl) (by kernel_rfl) (by decide) (fun _ _ _ h => h) h01 rfl hHeld (Or.inl ⟨by rfl, ?_⟩) ?_
  rotate_left
  · (intro w hSw; (try dsimp only at hSw); go_simp; (try with_reducible rfl))
  try simp only [Act.put, List.setIfInBounds_toArray, List.set_cons_zero, List.set_cons_succ]
  refine wpG_takeA (i := 2) (oi := ⟨some 13, _, _, _, _, _⟩) (v := ?_) rfl (by kernel_rfl) (by kernel_rfl) (by kernel_rfl) (by decide) (fun _ _ _ h => h) h01 rfl hHeld (Or.inl ⟨by rfl, ?_⟩) ?_
  rotate_left
  · (intro w hSw; (try dsimp only at hSw); go_simp; (try with_reducible rfl))
  try simp only [Act.put, List.setIfInBounds_toArray, List.set_cons_zero, List.set_cons_succ]
  refine wpG_takeA (i := 3) (oi := ⟨some 14, _, _, _, _, _⟩) (v := ?_) rfl (by kernel_rfl) (by kernel_rfl) (by kernel_rfl) (by decide) (fun _ _ _ h => h) h01 rfl hHeld (Or.inl ⟨by rfl, ?_⟩) ?_
  rotate_left
  · (intro w hSw; (try dsimp only at hSw); go_simp; (try with_reducible rfl))
  try simp only [Act.put, List.setIfInBounds_toArray, List.set_cons_zero, List.set_cons_succ]
  refine wpG_takeA (i := 4) (oi := ⟨some 15, _, _, _, _, _⟩) (v := ?_) rfl (by kernel_rfl) (by kernel_rfl) (by kernel_rfl) (by decide) (fun _ _ _ h => h) h01 rfl hHeld (Or.inl ⟨by rfl, ?_⟩) ?_
  rotate_left
  · (intro w hSw; (try dsimp only at hSw); go_simp; (try with_reducible rfl))
  try simp only [Act.put, List.setIfInBounds_toArray, List.set_cons_zero, List.set_cons_succ]
  refine wpG_takeA (i := 5) (oi := ⟨some 16, _, _, _, _, _⟩) (v := ?_) rfl (by kernel_rfl) (by kernel_rfl) (by kernel_rfl) (by decide) (fun _ _ _ h => h) h01 rfl hHeld (Or.inl ⟨by rfl, ?_⟩) ?_
  rotate_left
  · (intro w hSw; (try dsimp only at hSw); go_simp; (try with_reducible rfl))
  try simp only [Act.put, List.setIfInBounds_toArray, List.set_cons_zero, List.set_cons_succ]
  refine wpG_takeA (i := 6) (oi := ⟨some 17, _, _, _, _, _⟩) (v := ?_) rfl (by kernel_rfl) (by kernel_rfl) (by kernel_rfl) (by decide) (fun _ _ _ h => h) h01 rfl hHeld (Or.inl ⟨by rfl, ?_⟩) ?_
  rotate_left
  · (intro w hSw; (try dsimp only at hSw); go_simp; (try with_reducible rfl))
  try simp only [Act.put, List.setIfInBounds_toArray, List.set_cons_zero, List.set_cons_succ]
  refine wpG_takeA (i := 7) (oi := ⟨some 18, _, _, _, _, _⟩) (v := ?_) rfl (by kernel_rfl) (by kernel_rfl) (by kernel_rfl) (by decide) (fun _ _ _ h => h) h01 rfl hHeld (Or.inl ⟨by rfl, ?_⟩) ?_
  rotate_left
  · (intro w hSw; (try dsimp only at hSw); go_simp; (try with_reducible rfl))
  try simp only [Act.put, List.setIfInBounds_toArray, List.set_cons_zero, List.set_cons_succ]
  refine wpG_takeA (i := 8) (oi := ⟨some 19, _, _, _, _, _⟩) (v := ?_) rfl (by kernel_rfl) (by kernel_rfl) (by kernel_rfl) (by decide) (fun _ _ _ h => h) h01 rfl hHeld (Or.inl ⟨by rfl, ?_⟩) ?_
  rotate_left
  · (intro w hSw; (try dsimp only at hSw); go_simp; (try with_reducible rfl))
  try simp only [Act.put, List.setIfInBounds_toArray, List.set_cons_zero, List.set_cons_succ]
  refine wpG_takeA (i := 9) (oi := ⟨some 20, _, _, _, _, _⟩) (v := ?_) rfl (by kernel_rfl) (by kernel_rfl) (by kernel_rfl) (by decide) (fun _ _ _ h => h) h01 rfl hHeld (Or.inl ⟨by rfl, ?_⟩) ?_
  rotate_left
  · (intro w hSw; (try dsimp only at hSw); go_simp; (try with_reducible rfl))
  try simp only [Act.put, List.setIfInBounds_toArray, List.set_cons_zero, List.set_cons_succ]
  refine wpG_takeA (i := 10) (oi := ⟨some 21, _, _, _, _, _⟩) (v := ?_) rfl (by kernel_rfl) (by kernel_rfl) (by kernel_rfl) (by decide) (fun _ _ _ h => h) h01 rfl hHeld (Or.inl ⟨by rfl, ?_⟩) ?_
  rotate_left
  · (intro w hSw; (try dsimp only at hSw); go_simp; (try with_reducible rfl))
  try simp only [Act.put, List.setIfInBounds_toArray, List.set_cons_zero, List.set_cons_succ]
  refine wpG_oneB (i := 11) (o := ⟨some 22, _, _, _, _, _⟩) (by kernel_rfl) rfl rfl (fun K hK => ?_)
  go_simp
  (with_reducible refine C14.out.mono ?_); rintro e w2 ⟨v2, rfl, ho, b2⟩
  obtain ⟨A2, c2, rfl, -⟩ := own_form ho
  have HX2 := Lib.hid ho
  have HG2 := Lib.hid (HG.out.drew.below b2 HG.out.drew.lt)
  have HB2 := Lib.hid b2
  clear ho b2
  refine hK.out _ _ ⟨HG2.out.cell 0, HG2.out.cell 1⟩ (fun hHeld => ?_)
  clear hK K
  try simp only [Act.put, List.setIfInBounds_toArray, List.set_cons_zero, List.set_cons_succ]
  refine wpG_takeB (i := 12) (oi := ⟨some 10, _, _, _, _, _⟩) (v := ?_) rfl (by kernel_rfl) (by kernel_rfl) (by kernel_rfl) (by decide) (fun _ _ _ h => h) h01 rfl hHeld (Or.inl ⟨by rfl, ?_⟩) ?_
  rotate_left
  · (intro w hSw; (try dsimp only at hSw); go_simp; (try with_reducible rfl))
  try simp only [Act.put, List.setIfInBounds_toArray, List.set_cons_zero, List.set_cons_succ]
  refine wpG_takeB (i := 13) (oi := ⟨some 23, _, _, _, _, _⟩) (v := ?_) rfl (by kernel_rfl) (by kernel_rfl) (by kernel_rfl) (by decide) (fun _ _ _ h => h) h01 rfl hHeld (Or.inl ⟨by rfl, ?_⟩) ?_
  rotate_left
  · (intro w hSw; (try dsimp only at hSw); go_simp; (try with_reducible rfl))
  try simp only [Act.put, List.setIfInBounds_toArray, List.set_cons_zero, List.set_cons_succ]
  refine wpG_takeB (i := 14) (oi := ⟨some 24, _, _, _, _, _⟩) (v := ?_) rfl (by kernel_rfl) (by kernel_rfl) (by kernel_rfl) (by decide) (fun _ _ _ h => h) h01 rfl hHeld (Or.inl ⟨by rfl, ?_⟩) ?_
  rotate_left
  · (intro w hSw; (try dsimp only at hSw); go_simp; (try with_reducible rfl))
  try simp only [Act.put, List.setIfInBounds_toArray, List.set_cons_zero, List.set_cons_succ]
  refine wpG_takeB (i := 15) (oi := ⟨some 6, _, _, _, _, _⟩) (v := ?_) rfl (by kernel_rfl) (by kernel_rfl) (by kernel_rfl) (by decide) (fun _ _ _ h => h) h01 rfl hHeld (Or.inl ⟨by rfl, ?_⟩) ?_
  rotate_left
  · (intro w hSw; (try dsimp only at hSw); go_simp; (try with_reducible rfl))
  try simp only [Act.put, List.setIfInBounds_toArray, List.set_cons_zero, List.set_cons_succ]
  refine wpG_takeB (i := 16) (oi := ⟨some 7, _, _, _, _, _⟩) (v := ?_) rfl (by kernel_rfl) (by kernel_rfl) (by kernel_rfl) (by decide) (fun _ _ _ h => h) h01 rfl hHeld (Or.inl ⟨by rfl, ?_⟩) ?_
  rotate_left
  · (intro w hSw; (try dsimp only at hSw); go_simp; (try with_reducible rfl))
  try simp only [Act.put, List.setIfInBounds_toArray, List.set_cons_zero, List.set_cons_succ]
  refine wpG_done (by kernel_rfl) ?_ _
  clear hHeld h01
  have h1 := HG2.out.cell 1
  simp at h1
  have hfr := HG2.out.frozen 1
  have HW := Lib.hid (show Below w.heap.size w w2 from ⟨HB2.out.os, HB2.out.tape, HB2.out.output, HB2.out.size, HB2.out.block⟩)
  go_wp2_with fail
  go_ret2
  exact ⟨_, rfl, HX2.out, HG2.out, grown_of_below HW.out⟩
end Go.Proofs.Ytbfejjjdolfcfaa

/- The law's is. -/
import Derived.Test.YthkpmbgclllnjaaSw
namespace Go.Proofs.Ythkpmbgclllnjaa
open Go.RowKit
set_option linter.unusedVariables false
set_option linter.unusedSimpArgs false

/-- The box, and the two byte slices. -/
def SJ (w : World) (g lim : Nat) (A : Option Addr) (n c tk : Nat) (cl : Bool) (Ap : Option Addr) (d cp : Nat) (m : List UInt8) (W : World) : Prop := FR g lim A n c tk cl W ∧ RB W Ap d cp m ∧ Below w.heap.size w W
section
variable {w : World} {B bs bt bb : Nat} {v : Value} {lim : Nat} {A : Option Addr} {n c : Nat} {all : List UInt8} {tk : Nat}
set_option maxRecDepth 100000 in
set_option maxHeartbeats 2000000 in
theorem is_false (h : SS w B bs bt bb v lim (all.drop tk) tk false) (hr : RB w A n c all) (ht : tk ≤ n) (hn : n ≤ 1000000) :
    Calls Try.prog 19 #[.pointer (some ⟨bs, 0, none⟩), .agg #[.int .i64 lim, .slice A n c, .int .i64 tk, .bool false]] w fun e w' => e = .returned (.bool true) ∧ Below w.heap.size w w' := by
  have hlb := h.limB
  have hln := h.lenB
  obtain ⟨d, hd⟩ : ∃ d, n - tk = d := ⟨_, rfl⟩
  have hld : (all.drop tk).length = d := by rw [List.length_drop, hr.len, hd]
  obtain ⟨m, hm⟩ : ∃ m, all.drop tk = m := ⟨_, rfl⟩
  have hbw : Below w.heap.size w (w.alloc (.cells #[.int .i64 lim, .slice A n c, .int .i64 tk, .bool false] 37)) := (Below.refl _ w).alloc (Nat.le_refl _) _
  have HK := Lib.hid (Blk.new w 37 #[.int .i64 lim, .slice A n c, .int .i64 tk, .bool false])
  have C21 := Lib.hid (fun W => rleft_at lim false hr ht W)
  rw [hd, hm] at C21
  rw [hm] at h hld hln
  obtain ⟨z, hz⟩ : ∃ z, decide (d = 0) = z := ⟨_, rfl⟩
  have hzi : ((d : Int) == 0) = z := by rw [← hz]; by_cases h : d = 0 <;> simp [h]
  have C14 := Lib.hid (show ∀ W, Below w.heap.size w W → Calls Try.prog 14 #[.pointer (some ⟨bs, 0, none⟩)] W fun e w' => e = .returned (.int .i64 (d : Int)) ∧ Below W.heap.size W w' from fun W hb => hld ▸ left_some (h.below hb))
  have C25 := Lib.hid (show ∀ W, Below w.heap.size w W → Calls Try.prog 25 #[.pointer (some ⟨bs, 0, none⟩)] W fun e w' => e = .returned (.int .i64 ((lim : Int) - d)) ∧ Below W.heap.size W w' from fun W hb => hld ▸ room_some (h.below hb))
  have C13 := Lib.hid (show ∀ W, Below w.heap.size w W → Calls Try.prog 13 #[.pointer (some ⟨bs, 0, none⟩)] W fun e w' => e = .returned (.int .i64 (tk : Int)) ∧ Below W.heap.size W w' from fun W hb => off_some (h.below hb))
  have C26 := Lib.hid (show ∀ W, Below w.heap.size w W → Calls Try.prog 26 #[.pointer (some ⟨bs, 0, none⟩)] W fun e w' => e = .returned (.bool false) ∧ Below W.heap.size W w' from fun W hb => (ended_some (h.below hb)).mono fun e w' ⟨he, hb'⟩ => ⟨by rw [he, Bool.false_and], hb'⟩)
  have C27 := Lib.hid (show ∀ W, Below w.heap.size w W → Calls Try.prog 27 #[.pointer (some ⟨bs, 0, none⟩), .int .i64 (d : Int)] W fun e w' => ∃ A c, e = .returned (.tuple #[.slice A d c, .int .i64 0]) ∧ w'.ownsRow W.heap.size 5 1 (.slice A d c) d (m.map u8) ∧ Below W.heap.size W w' from fun W hb => (peek_ok (h.below hb) d (by omega)).mono fun e w' ⟨A, c, he, ho, hb'⟩ => ⟨A, c, he, by rw [List.take_of_length_le (by omega)] at ho; exact ho, hb'⟩)
  have HZ := Lib.hid hzi
  have HWR := Lib.hid (show IntKind.i64.wrap ((lim : Int) - d) = (lim : Int) - d from IntWalk.i64_in _ (by omega))
  have HBW := Lib.hid hbw
  have HFR := Lib.hid (show ∀ W, Below w.heap.size w W → (∃ W0, Below W0.heap.size W0 W ∧ W0 = w.alloc (.cells #[.int .i64 lim, .slice A n c, .int .i64 tk, .bool false] 37)) → FR w.heap.size lim A n c tk false W from fun W hb ⟨W0, h0, e0⟩ => by subst e0; exact FR.of (HK.out.below h0 HK.out.lt))
  have q0 : (0 : Int) ≤ d := by omega
  have q1 : (d : Int) ≤ 1000000 := by omega
  have q2 : (lim : Int) ≤ 1048576 := by omega
  have q3 : (0 : Int) ≤ lim := by omega
  have q4 : (d : Int) ≤ lim := by omega
  have HLD := Lib.hid hld
  clear h hr ht hn hd hld hm hbw hlb hln hzi
  go_enter Try.func19, Try.ntmps19
  go_wp2_with (go_at_call 21; (with_reducible refine (C21.out _).mono ?_); rintro e w1 ⟨A1, c1, rfl, -, -, b1⟩; have HB1 := Lib.hid (HBW.out.trans (b1.mono HBW.out.size)); have HK1 := Lib.hid (HK.out.below b1 HK.out.lt); clear b1)
  clear HFR
  have HFR := Lib.hid (show ∀ W, Below w1.heap.size w1 W → FR w.heap.size lim A n c tk false W from fun W hb => FR.of (HK1.out.below hb HK1.out.lt))
  have HS0 := Lib.hid (HFR.out w1.drew (below_drew (Below.refl _ _)))
  have C14 := Lib.hid (fun W (hb : Below w1.heap.size w1 W) => C14.out W (HB1.out.trans (hb.mono HB1.out.size)))
  have C25 := Lib.hid (fun W (hb : Below w1.heap.size w1 W) => C25.out W (HB1.out.trans (hb.mono HB1.out.size)))
  have C13 := Lib.hid (fun W (hb : Below w1.heap.size w1 W) => C13.out W (HB1.out.trans (hb.mono HB1.out.size)))
  have C26 := Lib.hid (fun W (hb : Below w1.heap.size w1 W) => C26.out W (HB1.out.trans (hb.mono HB1.out.size)))
  have C27 := Lib.hid (fun W (hb : Below w1.heap.size w1 W) => C27.out W (HB1.out.trans (hb.mono HB1.out.size)))
  refine wp_region_G (S0 := (FR w.heap.size lim A n c tk false)) (S1 := (FR w.heap.size lim A n c tk false)) (c := 99) (by kernel_rfl) ?_
  have hHeld := HS0.out
  have h01 := (fun (W : World) (h : (FR w.heap.size lim A n c tk false) W) => h)
  refine wpG_takeB (i := 0) (oi := ⟨some 11, _, _, _, _, _⟩) (v := .pointer (some ⟨bs, 0, none⟩)) rfl (by kernel_rfl) (by kernel_rfl) (by kernel_rfl) (by decide) (fun _ _ _ h => h) h01 rfl hHeld (Or.inl ⟨by rfl, ?_⟩) ?_
  · (intro W9 hSw; obtain ⟨v1, v2, v3, v4⟩ := hSw; go_simp; (try (first | with_reducible rfl | exact HZ.out | (rw [HWR.out]; done) | (simp; done) | rfl)))
  try simp only [Act.put, List.setIfInBounds_toArray, List.set_cons_zero, List.set_cons_succ]
  refine wpG_takeB (i := 1) (oi := ⟨some 12, _, _, _, _, _⟩) (v := .bool false) rfl (by kernel_rfl) (by kernel_rfl) (by kernel_rfl) (by decide) (fun _ _ _ h => h) h01 rfl hHeld (Or.inl ⟨by rfl, ?_⟩) ?_
  · (intro W9 hSw; obtain ⟨v1, v2, v3, v4⟩ := hSw; go_simp; (try (first | with_reducible rfl | exact HZ.out | (rw [HWR.out]; done) | (simp; done) | rfl)))
  try simp only [Act.put, List.setIfInBounds_toArray, List.set_cons_zero, List.set_cons_succ]
  refine wpG_takeB (i := 2) (oi := ⟨some 13, _, _, _, _, _⟩) (v := .bool false) rfl (by kernel_rfl) (by kernel_rfl) (by kernel_rfl) (by decide) (fun _ _ _ h => h) h01 rfl hHeld (Or.inl ⟨by rfl, ?_⟩) ?_
  · (intro W9 hSw; obtain ⟨v1, v2, v3, v4⟩ := hSw; go_simp; (try (first | with_reducible rfl | exact HZ.out | (rw [HWR.out]; done) | (simp; done) | rfl)))
  try simp only [Act.put, List.setIfInBounds_toArray, List.set_cons_zero, List.set_cons_succ]
  refine wpG_takeB (i := 3) (oi := ⟨some 14, _, _, _, _, _⟩) (v := .pointer (some ⟨bs, 0, none⟩)) rfl (by kernel_rfl) (by kernel_rfl) (by kernel_rfl) (by decide) (fun _ _ _ h => h) h01 rfl hHeld (Or.inl ⟨by rfl, ?_⟩) ?_
  · (intro W9 hSw; obtain ⟨v1, v2, v3, v4⟩ := hSw; go_simp; (try (first | with_reducible rfl | exact HZ.out | (rw [HWR.out]; done) | (simp; done) | rfl)))
  try simp only [Act.put, List.setIfInBounds_toArray, List.set_cons_zero, List.set_cons_succ]
  refine wpG_takeB (i := 5) (oi := ⟨some 16, _, _, _, _, _⟩) (v := .int .i64 (d : Int)) rfl (by kernel_rfl) (by kernel_rfl) (by kernel_rfl) (by decide) (fun _ _ _ h => h) h01 rfl hHeld (Or.inl ⟨by rfl, ?_⟩) ?_
  · (intro W9 hSw; obtain ⟨v1, v2, v3, v4⟩ := hSw; go_simp; (try (first | with_reducible rfl | exact HZ.out | (rw [HWR.out]; done) | (simp; done) | rfl)))
  try simp only [Act.put, List.setIfInBounds_toArray, List.set_cons_zero, List.set_cons_succ]
  refine wpG_oneB (i := 4) (o := ⟨some 15, _, _, _, _, _⟩) (by kernel_rfl) rfl rfl (fun K hK => ?_)
  go_simp
  (with_reducible refine (C14.out _ (below_drew (Below.refl w1.heap.size w1))).mono ?_); rintro e w3 ⟨rfl, b3⟩
  have HB3 := Lib.hid (show Below w1.heap.size w1 w3 from (below_drew (Below.refl w1.heap.size w1)).trans (b3.mono (below_drew (Below.refl w1.heap.size w1)).size))
  clear b3
  refine hK.out _ _ (HFR.out w3 HB3.out) (fun hHeld => ?_)
  clear hK K
  try simp only [Act.put, List.setIfInBounds_toArray, List.set_cons_zero, List.set_cons_succ]
  refine wpG_takeB (i := 6) (oi := ⟨some 17, _, _, _, _, _⟩) (v := .bool false) rfl (by kernel_rfl) (by kernel_rfl) (by kernel_rfl) (by decide) (fun _ _ _ h => h) h01 rfl hHeld (Or.inl ⟨by rfl, ?_⟩) ?_
  · (intro W9 hSw; obtain ⟨v1, v2, v3, v4⟩ := hSw; go_simp; (try (first | with_reducible rfl | exact HZ.out | (rw [HWR.out]; done) | (simp; done) | rfl)))
  try simp only [Act.put, List.setIfInBounds_toArray, List.set_cons_zero, List.set_cons_succ]
  refine wpG_takeB (i := 7) (oi := ⟨some 18, _, _, _, _, _⟩) (v := .bool false) rfl (by kernel_rfl) (by kernel_rfl) (by kernel_rfl) (by decide) (fun _ _ _ h => h) h01 rfl hHeld (Or.inl ⟨by rfl, ?_⟩) ?_
  · (intro W9 hSw; obtain ⟨v1, v2, v3, v4⟩ := hSw; go_simp; (try (first | with_reducible rfl | exact HZ.out | (rw [HWR.out]; done) | (simp; done) | rfl)))
  try simp only [Act.put, List.setIfInBounds_toArray, List.set_cons_zero, List.set_cons_succ]
  refine wpG_takeB (i := 8) (oi := ⟨some 19, _, _, _, _, _⟩) (v := .bool false) rfl (by kernel_rfl) (by kernel_rfl) (by kernel_rfl) (by decide) (fun _ _ _ h => h) h01 rfl hHeld (Or.inl ⟨by rfl, ?_⟩) ?_
  · (intro W9 hSw; obtain ⟨v1, v2, v3, v4⟩ := hSw; go_simp; (try (first | with_reducible rfl | exact HZ.out | (rw [HWR.out]; done) | (simp; done) | rfl)))
  try simp only [Act.put, List.setIfInBounds_toArray, List.set_cons_zero, List.set_cons_succ]
  refine wpG_takeB (i := 9) (oi := ⟨some 20, _, _, _, _, _⟩) (v := .pointer (some ⟨bs, 0, none⟩)) rfl (by kernel_rfl) (by kernel_rfl) (by kernel_rfl) (by decide) (fun _ _ _ h => h) h01 rfl hHeld (Or.inl ⟨by rfl, ?_⟩) ?_
  · (intro W9 hSw; obtain ⟨v1, v2, v3, v4⟩ := hSw; go_simp; (try (first | with_reducible rfl | exact HZ.out | (rw [HWR.out]; done) | (simp; done) | rfl)))
  try simp only [Act.put, List.setIfInBounds_toArray, List.set_cons_zero, List.set_cons_succ]
  refine wpG_takeB (i := 11) (oi := ⟨some 22, _, _, _, _, _⟩) (v := .pointer (some ⟨w.heap.size, 0, none⟩)) rfl (by kernel_rfl) (by kernel_rfl) (by kernel_rfl) (by decide) (fun _ _ _ h => h) h01 rfl hHeld (Or.inl ⟨by rfl, ?_⟩) ?_
  · (intro W9 hSw; obtain ⟨v1, v2, v3, v4⟩ := hSw; go_simp; (try (first | with_reducible rfl | exact HZ.out | (rw [HWR.out]; done) | (simp; done) | rfl)))
  try simp only [Act.put, List.setIfInBounds_toArray, List.set_cons_zero, List.set_cons_succ]
  refine wpG_takeB (i := 12) (oi := ⟨some 23, _, _, _, _, _⟩) (v := .int .i64 (lim : Int)) rfl (by kernel_rfl) (by kernel_rfl) (by kernel_rfl) (by decide) (fun _ _ _ h => h) h01 rfl hHeld (Or.inl ⟨by rfl, ?_⟩) ?_
  · (intro W9 hSw; obtain ⟨v1, v2, v3, v4⟩ := hSw; go_simp; (try (first | with_reducible rfl | exact HZ.out | (rw [HWR.out]; done) | (simp; done) | rfl)))
  try simp only [Act.put, List.setIfInBounds_toArray, List.set_cons_zero, List.set_cons_succ]
  refine wpG_takeB (i := 13) (oi := ⟨some 24, _, _, _, _, _⟩) (v := .int .i64 (d : Int)) rfl (by kernel_rfl) (by kernel_rfl) (by kernel_rfl) (by decide) (fun _ _ _ h => h) h01 rfl hHeld (Or.inl ⟨by rfl, ?_⟩) ?_
  · (intro W9 hSw; obtain ⟨v1, v2, v3, v4⟩ := hSw; go_simp; (try (first | with_reducible rfl | exact HZ.out | (rw [HWR.out]; done) | (simp; done) | rfl)))
  try simp only [Act.put, List.setIfInBounds_toArray, List.set_cons_zero, List.set_cons_succ]
  refine wpG_takeB (i := 14) (oi := ⟨some 25, _, _, _, _, _⟩) (v := .int .i64 ((lim : Int) - d)) rfl (by kernel_rfl) (by kernel_rfl) (by kernel_rfl) (by decide) (fun _ _ _ h => h) h01 rfl hHeld (Or.inl ⟨by rfl, ?_⟩) ?_
  · (intro W9 hSw; obtain ⟨v1, v2, v3, v4⟩ := hSw; go_simp; (try (first | with_reducible rfl | exact HZ.out | (rw [HWR.out]; done) | (simp; done) | rfl)))
  try simp only [Act.put, List.setIfInBounds_toArray, List.set_cons_zero, List.set_cons_succ]
  refine wpG_oneB (i := 10) (o := ⟨some 21, _, _, _, _, _⟩) (by kernel_rfl) rfl rfl (fun K hK => ?_)
  go_simp
  (with_reducible refine (C25.out _ (HB3.out)).mono ?_); rintro e w4 ⟨rfl, b4⟩
  have HB4 := Lib.hid (show Below w1.heap.size w1 w4 from (HB3.out).trans (b4.mono (HB3.out).size))
  clear b4
  refine hK.out _ _ (HFR.out w4 HB4.out) (fun hHeld => ?_)
  clear hK K
  try simp only [Act.put, List.setIfInBounds_toArray, List.set_cons_zero, List.set_cons_succ]
  refine wpG_takeB (i := 15) (oi := ⟨some 26, _, _, _, _, _⟩) (v := .bool false) rfl (by kernel_rfl) (by kernel_rfl) (by kernel_rfl) (by decide) (fun _ _ _ h => h) h01 rfl hHeld (Or.inl ⟨by rfl, ?_⟩) ?_
  · (intro W9 hSw; obtain ⟨v1, v2, v3, v4⟩ := hSw; go_simp; (try (first | with_reducible rfl | exact HZ.out | (rw [HWR.out]; done) | (simp; done) | rfl)))
  try simp only [Act.put, List.setIfInBounds_toArray, List.set_cons_zero, List.set_cons_succ]
  refine wpG_takeB (i := 16) (oi := ⟨some 27, _, _, _, _, _⟩) (v := .bool false) rfl (by kernel_rfl) (by kernel_rfl) (by kernel_rfl) (by decide) (fun _ _ _ h => h) h01 rfl hHeld (Or.inl ⟨by rfl, ?_⟩) ?_
  · (intro W9 hSw; obtain ⟨v1, v2, v3, v4⟩ := hSw; go_simp; (try (first | with_reducible rfl | exact HZ.out | (rw [HWR.out]; done) | (simp; done) | rfl)))
  try simp only [Act.put, List.setIfInBounds_toArray, List.set_cons_zero, List.set_cons_succ]
  refine wpG_takeB (i := 17) (oi := ⟨some 28, _, _, _, _, _⟩) (v := .bool false) rfl (by kernel_rfl) (by kernel_rfl) (by kernel_rfl) (by decide) (fun _ _ _ h => h) h01 rfl hHeld (Or.inl ⟨by rfl, ?_⟩) ?_
  · (intro W9 hSw; obtain ⟨v1, v2, v3, v4⟩ := hSw; go_simp; (try (first | with_reducible rfl | exact HZ.out | (rw [HWR.out]; done) | (simp; done) | rfl)))
  try simp only [Act.put, List.setIfInBounds_toArray, List.set_cons_zero, List.set_cons_succ]
  refine wpG_takeB (i := 18) (oi := ⟨some 29, _, _, _, _, _⟩) (v := .pointer (some ⟨bs, 0, none⟩)) rfl (by kernel_rfl) (by kernel_rfl) (by kernel_rfl) (by decide) (fun _ _ _ h => h) h01 rfl hHeld (Or.inl ⟨by rfl, ?_⟩) ?_
  · (intro W9 hSw; obtain ⟨v1, v2, v3, v4⟩ := hSw; go_simp; (try (first | with_reducible rfl | exact HZ.out | (rw [HWR.out]; done) | (simp; done) | rfl)))
  try simp only [Act.put, List.setIfInBounds_toArray, List.set_cons_zero, List.set_cons_succ]
  refine wpG_takeB (i := 20) (oi := ⟨some 31, _, _, _, _, _⟩) (v := .pointer (some ⟨w.heap.size, 2, none⟩)) rfl (by kernel_rfl) (by kernel_rfl) (by kernel_rfl) (by decide) (fun _ _ _ h => h) h01 rfl hHeld (Or.inl ⟨by rfl, ?_⟩) ?_
  · (intro W9 hSw; obtain ⟨v1, v2, v3, v4⟩ := hSw; go_simp; (try (first | with_reducible rfl | exact HZ.out | (rw [HWR.out]; done) | (simp; done) | rfl)))
  try simp only [Act.put, List.setIfInBounds_toArray, List.set_cons_zero, List.set_cons_succ]
  refine wpG_takeB (i := 21) (oi := ⟨some 32, _, _, _, _, _⟩) (v := .int .i64 (tk : Int)) rfl (by kernel_rfl) (by kernel_rfl) (by kernel_rfl) (by decide) (fun _ _ _ h => h) h01 rfl hHeld (Or.inl ⟨by rfl, ?_⟩) ?_
  · (intro W9 hSw; obtain ⟨v1, v2, v3, v4⟩ := hSw; go_simp; (try (first | with_reducible rfl | exact HZ.out | (rw [HWR.out]; done) | (simp; done) | rfl)))
  try simp only [Act.put, List.setIfInBounds_toArray, List.set_cons_zero, List.set_cons_succ]
  refine wpG_oneB (i := 19) (o := ⟨some 30, _, _, _, _, _⟩) (by kernel_rfl) rfl rfl (fun K hK => ?_)
  go_simp
  (with_reducible refine (C13.out _ (HB4.out)).mono ?_); rintro e w5 ⟨rfl, b5⟩
  have HB5 := Lib.hid (show Below w1.heap.size w1 w5 from (HB4.out).trans (b5.mono (HB4.out).size))
  clear b5
  refine hK.out _ _ (HFR.out w5 HB5.out) (fun hHeld => ?_)
  clear hK K
  try simp only [Act.put, List.setIfInBounds_toArray, List.set_cons_zero, List.set_cons_succ]
  refine wpG_takeB (i := 22) (oi := ⟨some 33, _, _, _, _, _⟩) (v := .bool false) rfl (by kernel_rfl) (by kernel_rfl) (by kernel_rfl) (by decide) (fun _ _ _ h => h) h01 rfl hHeld (Or.inl ⟨by rfl, ?_⟩) ?_
  · (intro W9 hSw; obtain ⟨v1, v2, v3, v4⟩ := hSw; go_simp; (try (first | with_reducible rfl | exact HZ.out | (rw [HWR.out]; done) | (simp; done) | rfl)))
  try simp only [Act.put, List.setIfInBounds_toArray, List.set_cons_zero, List.set_cons_succ]
  refine wpG_takeB (i := 23) (oi := ⟨some 34, _, _, _, _, _⟩) (v := .bool false) rfl (by kernel_rfl) (by kernel_rfl) (by kernel_rfl) (by decide) (fun _ _ _ h => h) h01 rfl hHeld (Or.inl ⟨by rfl, ?_⟩) ?_
  · (intro W9 hSw; obtain ⟨v1, v2, v3, v4⟩ := hSw; go_simp; (try (first | with_reducible rfl | exact HZ.out | (rw [HWR.out]; done) | (simp; done) | rfl)))
  try simp only [Act.put, List.setIfInBounds_toArray, List.set_cons_zero, List.set_cons_succ]
  refine wpG_takeB (i := 24) (oi := ⟨some 35, _, _, _, _, _⟩) (v := .bool false) rfl (by kernel_rfl) (by kernel_rfl) (by kernel_rfl) (by decide) (fun _ _ _ h => h) h01 rfl hHeld (Or.inl ⟨by rfl, ?_⟩) ?_
  · (intro W9 hSw; obtain ⟨v1, v2, v3, v4⟩ := hSw; go_simp; (try (first | with_reducible rfl | exact HZ.out | (rw [HWR.out]; done) | (simp; done) | rfl)))
  try simp only [Act.put, List.setIfInBounds_toArray, List.set_cons_zero, List.set_cons_succ]
  refine wpG_takeB (i := 25) (oi := ⟨some 36, _, _, _, _, _⟩) (v := .pointer (some ⟨bs, 0, none⟩)) rfl (by kernel_rfl) (by kernel_rfl) (by kernel_rfl) (by decide) (fun _ _ _ h => h) h01 rfl hHeld (Or.inl ⟨by rfl, ?_⟩) ?_
  · (intro W9 hSw; obtain ⟨v1, v2, v3, v4⟩ := hSw; go_simp; (try (first | with_reducible rfl | exact HZ.out | (rw [HWR.out]; done) | (simp; done) | rfl)))
  try simp only [Act.put, List.setIfInBounds_toArray, List.set_cons_zero, List.set_cons_succ]
  refine wpG_takeB (i := 27) (oi := ⟨some 38, _, _, _, _, _⟩) (v := .pointer (some ⟨w.heap.size, 3, none⟩)) rfl (by kernel_rfl) (by kernel_rfl) (by kernel_rfl) (by decide) (fun _ _ _ h => h) h01 rfl hHeld (Or.inl ⟨by rfl, ?_⟩) ?_
  · (intro W9 hSw; obtain ⟨v1, v2, v3, v4⟩ := hSw; go_simp; (try (first | with_reducible rfl | exact HZ.out | (rw [HWR.out]; done) | (simp; done) | rfl)))
  try simp only [Act.put, List.setIfInBounds_toArray, List.set_cons_zero, List.set_cons_succ]
  refine wpG_takeB (i := 28) (oi := ⟨some 39, _, _, _, _, _⟩) (v := .bool false) rfl (by kernel_rfl) (by kernel_rfl) (by kernel_rfl) (by decide) (fun _ _ _ h => h) h01 rfl hHeld (Or.inl ⟨by rfl, ?_⟩) ?_
  · (intro W9 hSw; obtain ⟨v1, v2, v3, v4⟩ := hSw; go_simp; (try (first | with_reducible rfl | exact HZ.out | (rw [HWR.out]; done) | (simp; done) | rfl)))
  try simp only [Act.put, List.setIfInBounds_toArray, List.set_cons_zero, List.set_cons_succ]
  refine wpG_oneB (i := 26) (o := ⟨some 37, _, _, _, _, _⟩) (by kernel_rfl) rfl rfl (fun K hK => ?_)
  go_simp
  (with_reducible refine (C26.out _ (HB5.out)).mono ?_); rintro e w6 ⟨rfl, b6⟩
  have HB6 := Lib.hid (show Below w1.heap.size w1 w6 from (HB5.out).trans (b6.mono (HB5.out).size))
  clear b6
  refine hK.out _ _ (HFR.out w6 HB6.out) (fun hHeld => ?_)
  clear hK K
  try simp only [Act.put, List.setIfInBounds_toArray, List.set_cons_zero, List.set_cons_succ]
  refine wpG_takeB (i := 29) (oi := ⟨some 40, _, _, _, _, _⟩) (v := .bool false) rfl (by kernel_rfl) (by kernel_rfl) (by kernel_rfl) (by decide) (fun _ _ _ h => h) h01 rfl hHeld (Or.inl ⟨by rfl, ?_⟩) ?_
  · (intro W9 hSw; obtain ⟨v1, v2, v3, v4⟩ := hSw; go_simp; (try (first | with_reducible rfl | exact HZ.out | (rw [HWR.out]; done) | (simp; done) | rfl)))
  try simp only [Act.put, List.setIfInBounds_toArray, List.set_cons_zero, List.set_cons_succ]
  refine wpG_takeB (i := 30) (oi := ⟨some 41, _, _, _, _, _⟩) (v := undef) rfl (by kernel_rfl) (by kernel_rfl) (by kernel_rfl) (by decide) (fun _ _ _ h => h) h01 rfl hHeld (Or.inr ⟨by rfl, rfl⟩) ?_
  try simp only [Act.put, List.setIfInBounds_toArray, List.set_cons_zero, List.set_cons_succ]
  refine wpG_takeB (i := 31) (oi := ⟨some 42, _, _, _, _, _⟩) (v := undef) rfl (by kernel_rfl) (by kernel_rfl) (by kernel_rfl) (by decide) (fun _ _ _ h => h) h01 rfl hHeld (Or.inr ⟨by rfl, rfl⟩) ?_
  try simp only [Act.put, List.setIfInBounds_toArray, List.set_cons_zero, List.set_cons_succ]
  refine wpG_takeB (i := 32) (oi := ⟨some 43, _, _, _, _, _⟩) (v := .bool false) rfl (by kernel_rfl) (by kernel_rfl) (by kernel_rfl) (by decide) (fun _ _ _ h => h) h01 rfl hHeld (Or.inl ⟨by rfl, ?_⟩) ?_
  · (intro W9 hSw; obtain ⟨v1, v2, v3, v4⟩ := hSw; go_simp; (try (first | with_reducible rfl | exact HZ.out | (rw [HWR.out]; done) | (simp; done) | rfl)))
  try simp only [Act.put, List.setIfInBounds_toArray, List.set_cons_zero, List.set_cons_succ]
  refine wpG_takeB (i := 33) (oi := ⟨some 44, _, _, _, _, _⟩) (v := .bool false) rfl (by kernel_rfl) (by kernel_rfl) (by kernel_rfl) (by decide) (fun _ _ _ h => h) h01 rfl hHeld (Or.inl ⟨by rfl, ?_⟩) ?_
  · (intro W9 hSw; obtain ⟨v1, v2, v3, v4⟩ := hSw; go_simp; (try (first | with_reducible rfl | exact HZ.out | (rw [HWR.out]; done) | (simp; done) | rfl)))
  try simp only [Act.put, List.setIfInBounds_toArray, List.set_cons_zero, List.set_cons_succ]
  refine wpG_takeB (i := 34) (oi := ⟨some 45, _, _, _, _, _⟩) (v := .bool false) rfl (by kernel_rfl) (by kernel_rfl) (by kernel_rfl) (by decide) (fun _ _ _ h => h) h01 rfl hHeld (Or.inl ⟨by rfl, ?_⟩) ?_
  · (intro W9 hSw; obtain ⟨v1, v2, v3, v4⟩ := hSw; go_simp; (try (first | with_reducible rfl | exact HZ.out | (rw [HWR.out]; done) | (simp; done) | rfl)))
  try simp only [Act.put, List.setIfInBounds_toArray, List.set_cons_zero, List.set_cons_succ]
  refine wpG_done (by kernel_rfl) ?_ _
  clear hHeld h01
  go_wp2_with (go_at_call 27; (with_reducible refine (C27.out _ HB6.out).mono ?_); rintro e w7 ⟨Ap, cp, rfl, ho, b7⟩; have HBX := Lib.hid (HB6.out.trans (b7.mono HB6.out.size)); have HB7 := Lib.hid (HB1.out.trans (HBX.out.mono HB1.out.size)); have HO := Lib.hid ho; clear ho b7)
  obtain ⟨A0, c0, e0, hrb7⟩ := own_RB HO.out
  injection e0 with e1 e2 e3
  subst e1 e3
  have HRB7 := Lib.hid hrb7
  obtain ⟨S, hS⟩ : ∃ S, (⟨m.toArray⟩ : ByteArray) = S := ⟨_, rfl⟩
  have HSX := Lib.hid hS
  clear hrb7 hS e2
  have HSJ := Lib.hid (show ∀ W, Below w7.heap.size w7 W → SJ w w.heap.size lim A n c tk false Ap d cp m W from fun W hb => ⟨HFR.out W (HBX.out.trans (hb.mono HBX.out.size)), HRB7.out.below hb, HB7.out.trans (hb.mono HB7.out.size)⟩)
  have HS5 := Lib.hid (HSJ.out w7.drew (below_drew (Below.refl _ _)))
  refine wp_region_G (S0 := (SJ w w.heap.size lim A n c tk false Ap d cp m)) (S1 := (SJ w w.heap.size lim A n c tk false Ap d cp m)) (c := 99) (by kernel_rfl) ?_
  have hHeld := HS5.out
  have h01 := (fun (W : World) (h : (SJ w w.heap.size lim A n c tk false Ap d cp m) W) => h)
  refine wpG_takeB (i := 0) (oi := ⟨some 52, _, _, _, _, _⟩) (v := .int .i64 0) rfl (by kernel_rfl) (by kernel_rfl) (by kernel_rfl) (by decide) (fun _ _ _ h => h) h01 rfl hHeld (Or.inl ⟨by rfl, ?_⟩) ?_
  · (intro W9 hSw; obtain ⟨⟨v1, v2, v3, v4⟩, va, vb⟩ := hSw; have hca := conv_bs (P := Try.prog) W9 22 9 5 Try.underlying22 Try.underlying5 Try.underlying9 (c := cp) va.len va.h; rw [HSX.out] at hca; (try (have hcb := conv_bs (P := Try.prog) W9 22 9 5 Try.underlying22 Try.underlying5 Try.underlying9 (c := c2) HR2.out.1.len (HR2.out.1.below vb).h; rw [HSX.out] at hcb)); clear va vb; go_simp; (try (first | with_reducible rfl | rfl | (simp; done))))
  try simp only [Act.put, List.setIfInBounds_toArray, List.set_cons_zero, List.set_cons_succ]
  refine wpG_takeB (i := 1) (oi := ⟨some 53, _, _, _, _, _⟩) (v := .bool true) rfl (by kernel_rfl) (by kernel_rfl) (by kernel_rfl) (by decide) (fun _ _ _ h => h) h01 rfl hHeld (Or.inl ⟨by rfl, ?_⟩) ?_
  · (intro W9 hSw; obtain ⟨⟨v1, v2, v3, v4⟩, va, vb⟩ := hSw; have hca := conv_bs (P := Try.prog) W9 22 9 5 Try.underlying22 Try.underlying5 Try.underlying9 (c := cp) va.len va.h; rw [HSX.out] at hca; (try (have hcb := conv_bs (P := Try.prog) W9 22 9 5 Try.underlying22 Try.underlying5 Try.underlying9 (c := c2) HR2.out.1.len (HR2.out.1.below vb).h; rw [HSX.out] at hcb)); clear va vb; go_simp; (try (first | with_reducible rfl | rfl | (simp; done))))
  try simp only [Act.put, List.setIfInBounds_toArray, List.set_cons_zero, List.set_cons_succ]
  refine wpG_takeB (i := 2) (oi := ⟨some 54, _, _, _, _, _⟩) (v := .bool true) rfl (by kernel_rfl) (by kernel_rfl) (by kernel_rfl) (by decide) (fun _ _ _ h => h) h01 rfl hHeld (Or.inl ⟨by rfl, ?_⟩) ?_
  · (intro W9 hSw; obtain ⟨⟨v1, v2, v3, v4⟩, va, vb⟩ := hSw; have hca := conv_bs (P := Try.prog) W9 22 9 5 Try.underlying22 Try.underlying5 Try.underlying9 (c := cp) va.len va.h; rw [HSX.out] at hca; (try (have hcb := conv_bs (P := Try.prog) W9 22 9 5 Try.underlying22 Try.underlying5 Try.underlying9 (c := c2) HR2.out.1.len (HR2.out.1.below vb).h; rw [HSX.out] at hcb)); clear va vb; go_simp; (try (first | with_reducible rfl | rfl | (simp; done))))
  try simp only [Act.put, List.setIfInBounds_toArray, List.set_cons_zero, List.set_cons_succ]
  refine wpG_takeB (i := 3) (oi := ⟨some 55, _, _, _, _, _⟩) (v := .slice Ap d cp) rfl (by kernel_rfl) (by kernel_rfl) (by kernel_rfl) (by decide) (fun _ _ _ h => h) h01 rfl hHeld (Or.inl ⟨by rfl, ?_⟩) ?_
  · (intro W9 hSw; obtain ⟨⟨v1, v2, v3, v4⟩, va, vb⟩ := hSw; have hca := conv_bs (P := Try.prog) W9 22 9 5 Try.underlying22 Try.underlying5 Try.underlying9 (c := cp) va.len va.h; rw [HSX.out] at hca; (try (have hcb := conv_bs (P := Try.prog) W9 22 9 5 Try.underlying22 Try.underlying5 Try.underlying9 (c := c2) HR2.out.1.len (HR2.out.1.below vb).h; rw [HSX.out] at hcb)); clear va vb; go_simp; (try (first | with_reducible rfl | rfl | (simp; done))))
  try simp only [Act.put, List.setIfInBounds_toArray, List.set_cons_zero, List.set_cons_succ]
  refine wpG_takeB (i := 4) (oi := ⟨some 56, _, _, _, _, _⟩) (v := .string S) rfl (by kernel_rfl) (by kernel_rfl) (by kernel_rfl) (by decide) (fun _ _ _ h => h) h01 rfl hHeld (Or.inl ⟨by rfl, ?_⟩) ?_
  · (intro W9 hSw; obtain ⟨⟨v1, v2, v3, v4⟩, va, vb⟩ := hSw; have hca := conv_bs (P := Try.prog) W9 22 9 5 Try.underlying22 Try.underlying5 Try.underlying9 (c := cp) va.len va.h; rw [HSX.out] at hca; (try (have hcb := conv_bs (P := Try.prog) W9 22 9 5 Try.underlying22 Try.underlying5 Try.underlying9 (c := c2) HR2.out.1.len (HR2.out.1.below vb).h; rw [HSX.out] at hcb)); clear va vb; go_simp; (try (first | with_reducible rfl | rfl | (simp; done))))
  try simp only [Act.put, List.setIfInBounds_toArray, List.set_cons_zero, List.set_cons_succ]
  refine wpG_takeB (i := 5) (oi := ⟨some 57, _, _, _, _, _⟩) (v := .agg #[.int .i64 lim, .slice A n c, .int .i64 tk, .bool false]) rfl (by kernel_rfl) (by kernel_rfl) (by kernel_rfl) (by decide) (fun _ _ _ h => h) h01 rfl hHeld (Or.inl ⟨by rfl, ?_⟩) ?_
  · (intro W9 hSw; obtain ⟨⟨v1, v2, v3, v4⟩, va, vb⟩ := hSw; have hca := conv_bs (P := Try.prog) W9 22 9 5 Try.underlying22 Try.underlying5 Try.underlying9 (c := cp) va.len va.h; rw [HSX.out] at hca; (try (have hcb := conv_bs (P := Try.prog) W9 22 9 5 Try.underlying22 Try.underlying5 Try.underlying9 (c := c2) HR2.out.1.len (HR2.out.1.below vb).h; rw [HSX.out] at hcb)); clear va vb; go_simp; (try (first | with_reducible rfl | rfl | (simp; done))))
  try simp only [Act.put, List.setIfInBounds_toArray, List.set_cons_zero, List.set_cons_succ]
  refine wpG_oneB (i := 6) (o := ⟨some 58, _, _, _, _, _⟩) (by kernel_rfl) rfl rfl (fun K hK => ?_)
  go_simp
  (with_reducible refine (C21.out _).mono ?_); rintro e w8 ⟨A2, c2, rfl, r8, -, b8⟩
  have HB8 := Lib.hid (show Below w7.heap.size w7 w8 from (below_drew (Below.refl w7.heap.size w7)).trans b8)
  have HR2 := Lib.hid (And.intro r8 trivial)
  clear b8 r8
  refine hK.out _ _ (HSJ.out w8 HB8.out) (fun hHeld => ?_)
  clear hK K
  try simp only [Act.put, List.setIfInBounds_toArray, List.set_cons_zero, List.set_cons_succ]
  refine wpG_takeB (i := 7) (oi := ⟨some 59, _, _, _, _, _⟩) (v := .string S) rfl (by kernel_rfl) (by kernel_rfl) (by kernel_rfl) (by decide) (fun _ _ _ h => h) h01 rfl hHeld (Or.inl ⟨by rfl, ?_⟩) ?_
  · (intro W9 hSw; obtain ⟨⟨v1, v2, v3, v4⟩, va, vb⟩ := hSw; have hca := conv_bs (P := Try.prog) W9 22 9 5 Try.underlying22 Try.underlying5 Try.underlying9 (c := cp) va.len va.h; rw [HSX.out] at hca; (try (have hcb := conv_bs (P := Try.prog) W9 22 9 5 Try.underlying22 Try.underlying5 Try.underlying9 (c := c2) HR2.out.1.len (HR2.out.1.below vb).h; rw [HSX.out] at hcb)); clear va vb; go_simp; (try (first | with_reducible rfl | rfl | (simp; done))))
  try simp only [Act.put, List.setIfInBounds_toArray, List.set_cons_zero, List.set_cons_succ]
  refine wpG_takeB (i := 8) (oi := ⟨some 60, _, _, _, _, _⟩) (v := .bool true) rfl (by kernel_rfl) (by kernel_rfl) (by kernel_rfl) (by decide) (fun _ _ _ h => h) h01 rfl hHeld (Or.inl ⟨by rfl, ?_⟩) ?_
  · (intro W9 hSw; obtain ⟨⟨v1, v2, v3, v4⟩, va, vb⟩ := hSw; have hca := conv_bs (P := Try.prog) W9 22 9 5 Try.underlying22 Try.underlying5 Try.underlying9 (c := cp) va.len va.h; rw [HSX.out] at hca; (try (have hcb := conv_bs (P := Try.prog) W9 22 9 5 Try.underlying22 Try.underlying5 Try.underlying9 (c := c2) HR2.out.1.len (HR2.out.1.below vb).h; rw [HSX.out] at hcb)); clear va vb; go_simp; (try (first | with_reducible rfl | rfl | (simp; done))))
  try simp only [Act.put, List.setIfInBounds_toArray, List.set_cons_zero, List.set_cons_succ]
  refine wpG_takeB (i := 9) (oi := ⟨some 61, _, _, _, _, _⟩) (v := .bool true) rfl (by kernel_rfl) (by kernel_rfl) (by kernel_rfl) (by decide) (fun _ _ _ h => h) h01 rfl hHeld (Or.inl ⟨by rfl, ?_⟩) ?_
  · (intro W9 hSw; obtain ⟨⟨v1, v2, v3, v4⟩, va, vb⟩ := hSw; have hca := conv_bs (P := Try.prog) W9 22 9 5 Try.underlying22 Try.underlying5 Try.underlying9 (c := cp) va.len va.h; rw [HSX.out] at hca; (try (have hcb := conv_bs (P := Try.prog) W9 22 9 5 Try.underlying22 Try.underlying5 Try.underlying9 (c := c2) HR2.out.1.len (HR2.out.1.below vb).h; rw [HSX.out] at hcb)); clear va vb; go_simp; (try (first | with_reducible rfl | rfl | (simp; done))))
  try simp only [Act.put, List.setIfInBounds_toArray, List.set_cons_zero, List.set_cons_succ]
  refine wpG_takeB (i := 10) (oi := ⟨some 4, _, _, _, _, _⟩) (v := .bool true) rfl (by kernel_rfl) (by kernel_rfl) (by kernel_rfl) (by decide) (fun _ _ _ h => h) h01 rfl hHeld (Or.inl ⟨by rfl, ?_⟩) ?_
  · (intro W9 hSw; obtain ⟨⟨v1, v2, v3, v4⟩, va, vb⟩ := hSw; have hca := conv_bs (P := Try.prog) W9 22 9 5 Try.underlying22 Try.underlying5 Try.underlying9 (c := cp) va.len va.h; rw [HSX.out] at hca; (try (have hcb := conv_bs (P := Try.prog) W9 22 9 5 Try.underlying22 Try.underlying5 Try.underlying9 (c := c2) HR2.out.1.len (HR2.out.1.below vb).h; rw [HSX.out] at hcb)); clear va vb; go_simp; (try (first | with_reducible rfl | rfl | (simp; done))))
  try simp only [Act.put, List.setIfInBounds_toArray, List.set_cons_zero, List.set_cons_succ]
  refine wpG_done (by kernel_rfl) ?_ _
  clear hHeld h01
  go_wp2_with fail
  go_ret
  exact ⟨rfl, HB7.out.trans (HB8.out.mono HB7.out.size)⟩
set_option maxRecDepth 100000 in
set_option maxHeartbeats 2000000 in
theorem is_true (h : SS w B bs bt bb v lim (all.drop tk) tk true) (hr : RB w A n c all) (ht : tk ≤ n) (hn : n ≤ 1000000) :
    Calls Try.prog 19 #[.pointer (some ⟨bs, 0, none⟩), .agg #[.int .i64 lim, .slice A n c, .int .i64 tk, .bool true]] w fun e w' => e = .returned (.bool true) ∧ Below w.heap.size w w' := by
  have hlb := h.limB
  have hln := h.lenB
  obtain ⟨d, hd⟩ : ∃ d, n - tk = d := ⟨_, rfl⟩
  have hld : (all.drop tk).length = d := by rw [List.length_drop, hr.len, hd]
  obtain ⟨m, hm⟩ : ∃ m, all.drop tk = m := ⟨_, rfl⟩
  have hbw : Below w.heap.size w (w.alloc (.cells #[.int .i64 lim, .slice A n c, .int .i64 tk, .bool true] 37)) := (Below.refl _ w).alloc (Nat.le_refl _) _
  have HK := Lib.hid (Blk.new w 37 #[.int .i64 lim, .slice A n c, .int .i64 tk, .bool true])
  have C21 := Lib.hid (fun W => rleft_at lim true hr ht W)
  rw [hd, hm] at C21
  rw [hm] at h hld hln
  obtain ⟨z, hz⟩ : ∃ z, decide (d = 0) = z := ⟨_, rfl⟩
  have hzi : ((d : Int) == 0) = z := by rw [← hz]; by_cases h : d = 0 <;> simp [h]
  have C14 := Lib.hid (show ∀ W, Below w.heap.size w W → Calls Try.prog 14 #[.pointer (some ⟨bs, 0, none⟩)] W fun e w' => e = .returned (.int .i64 (d : Int)) ∧ Below W.heap.size W w' from fun W hb => hld ▸ left_some (h.below hb))
  have C25 := Lib.hid (show ∀ W, Below w.heap.size w W → Calls Try.prog 25 #[.pointer (some ⟨bs, 0, none⟩)] W fun e w' => e = .returned (.int .i64 ((lim : Int) - d)) ∧ Below W.heap.size W w' from fun W hb => hld ▸ room_some (h.below hb))
  have C13 := Lib.hid (show ∀ W, Below w.heap.size w W → Calls Try.prog 13 #[.pointer (some ⟨bs, 0, none⟩)] W fun e w' => e = .returned (.int .i64 (tk : Int)) ∧ Below W.heap.size W w' from fun W hb => off_some (h.below hb))
  have C26 := Lib.hid (show ∀ W, Below w.heap.size w W → Calls Try.prog 26 #[.pointer (some ⟨bs, 0, none⟩)] W fun e w' => e = .returned (.bool z) ∧ Below W.heap.size W w' from fun W hb => (ended_some (h.below hb)).mono fun e w' ⟨he, hb'⟩ => ⟨by rw [he, Bool.true_and, hld, hz], hb'⟩)
  have C27 := Lib.hid (show ∀ W, Below w.heap.size w W → Calls Try.prog 27 #[.pointer (some ⟨bs, 0, none⟩), .int .i64 (d : Int)] W fun e w' => ∃ A c, e = .returned (.tuple #[.slice A d c, .int .i64 0]) ∧ w'.ownsRow W.heap.size 5 1 (.slice A d c) d (m.map u8) ∧ Below W.heap.size W w' from fun W hb => (peek_ok (h.below hb) d (by omega)).mono fun e w' ⟨A, c, he, ho, hb'⟩ => ⟨A, c, he, by rw [List.take_of_length_le (by omega)] at ho; exact ho, hb'⟩)
  have HZ := Lib.hid hzi
  have HWR := Lib.hid (show IntKind.i64.wrap ((lim : Int) - d) = (lim : Int) - d from IntWalk.i64_in _ (by omega))
  have HBW := Lib.hid hbw
  have HFR := Lib.hid (show ∀ W, Below w.heap.size w W → (∃ W0, Below W0.heap.size W0 W ∧ W0 = w.alloc (.cells #[.int .i64 lim, .slice A n c, .int .i64 tk, .bool true] 37)) → FR w.heap.size lim A n c tk true W from fun W hb ⟨W0, h0, e0⟩ => by subst e0; exact FR.of (HK.out.below h0 HK.out.lt))
  have q0 : (0 : Int) ≤ d := by omega
  have q1 : (d : Int) ≤ 1000000 := by omega
  have q2 : (lim : Int) ≤ 1048576 := by omega
  have q3 : (0 : Int) ≤ lim := by omega
  have q4 : (d : Int) ≤ lim := by omega
  have HLD := Lib.hid hld
  clear h hr ht hn hd hld hm hbw hlb hln hzi
  go_enter Try.func19, Try.ntmps19
  go_wp2_with (go_at_call 21; (with_reducible refine (C21.out _).mono ?_); rintro e w1 ⟨A1, c1, rfl, -, -, b1⟩; have HB1 := Lib.hid (HBW.out.trans (b1.mono HBW.out.size)); have HK1 := Lib.hid (HK.out.below b1 HK.out.lt); clear b1)
  clear HFR
  have HFR := Lib.hid (show ∀ W, Below w1.heap.size w1 W → FR w.heap.size lim A n c tk true W from fun W hb => FR.of (HK1.out.below hb HK1.out.lt))
  have HS0 := Lib.hid (HFR.out w1.drew (below_drew (Below.refl _ _)))
  have C14 := Lib.hid (fun W (hb : Below w1.heap.size w1 W) => C14.out W (HB1.out.trans (hb.mono HB1.out.size)))
  have C25 := Lib.hid (fun W (hb : Below w1.heap.size w1 W) => C25.out W (HB1.out.trans (hb.mono HB1.out.size)))
  have C13 := Lib.hid (fun W (hb : Below w1.heap.size w1 W) => C13.out W (HB1.out.trans (hb.mono HB1.out.size)))
  have C26 := Lib.hid (fun W (hb : Below w1.heap.size w1 W) => C26.out W (HB1.out.trans (hb.mono HB1.out.size)))
  have C27 := Lib.hid (fun W (hb : Below w1.heap.size w1 W) => C27.out W (HB1.out.trans (hb.mono HB1.out.size)))
  refine wp_region_G (S0 := (FR w.heap.size lim A n c tk true)) (S1 := (FR w.heap.size lim A n c tk true)) (c := 99) (by kernel_rfl) ?_
  have hHeld := HS0.out
  have h01 := (fun (W : World) (h : (FR w.heap.size lim A n c tk true) W) => h)
  refine wpG_takeB (i := 0) (oi := ⟨some 11, _, _, _, _, _⟩) (v := .pointer (some ⟨bs, 0, none⟩)) rfl (by kernel_rfl) (by kernel_rfl) (by kernel_rfl) (by decide) (fun _ _ _ h => h) h01 rfl hHeld (Or.inl ⟨by rfl, ?_⟩) ?_
  · (intro W9 hSw; obtain ⟨v1, v2, v3, v4⟩ := hSw; go_simp; (try (first | with_reducible rfl | exact HZ.out | (rw [HWR.out]; done) | (simp; done) | rfl)))
  try simp only [Act.put, List.setIfInBounds_toArray, List.set_cons_zero, List.set_cons_succ]
  refine wpG_takeB (i := 1) (oi := ⟨some 12, _, _, _, _, _⟩) (v := .bool false) rfl (by kernel_rfl) (by kernel_rfl) (by kernel_rfl) (by decide) (fun _ _ _ h => h) h01 rfl hHeld (Or.inl ⟨by rfl, ?_⟩) ?_
  · (intro W9 hSw; obtain ⟨v1, v2, v3, v4⟩ := hSw; go_simp; (try (first | with_reducible rfl | exact HZ.out | (rw [HWR.out]; done) | (simp; done) | rfl)))
  try simp only [Act.put, List.setIfInBounds_toArray, List.set_cons_zero, List.set_cons_succ]
  refine wpG_takeB (i := 2) (oi := ⟨some 13, _, _, _, _, _⟩) (v := .bool false) rfl (by kernel_rfl) (by kernel_rfl) (by kernel_rfl) (by decide) (fun _ _ _ h => h) h01 rfl hHeld (Or.inl ⟨by rfl, ?_⟩) ?_
  · (intro W9 hSw; obtain ⟨v1, v2, v3, v4⟩ := hSw; go_simp; (try (first | with_reducible rfl | exact HZ.out | (rw [HWR.out]; done) | (simp; done) | rfl)))
  try simp only [Act.put, List.setIfInBounds_toArray, List.set_cons_zero, List.set_cons_succ]
  refine wpG_takeB (i := 3) (oi := ⟨some 14, _, _, _, _, _⟩) (v := .pointer (some ⟨bs, 0, none⟩)) rfl (by kernel_rfl) (by kernel_rfl) (by kernel_rfl) (by decide) (fun _ _ _ h => h) h01 rfl hHeld (Or.inl ⟨by rfl, ?_⟩) ?_
  · (intro W9 hSw; obtain ⟨v1, v2, v3, v4⟩ := hSw; go_simp; (try (first | with_reducible rfl | exact HZ.out | (rw [HWR.out]; done) | (simp; done) | rfl)))
  try simp only [Act.put, List.setIfInBounds_toArray, List.set_cons_zero, List.set_cons_succ]
  refine wpG_takeB (i := 5) (oi := ⟨some 16, _, _, _, _, _⟩) (v := .int .i64 (d : Int)) rfl (by kernel_rfl) (by kernel_rfl) (by kernel_rfl) (by decide) (fun _ _ _ h => h) h01 rfl hHeld (Or.inl ⟨by rfl, ?_⟩) ?_
  · (intro W9 hSw; obtain ⟨v1, v2, v3, v4⟩ := hSw; go_simp; (try (first | with_reducible rfl | exact HZ.out | (rw [HWR.out]; done) | (simp; done) | rfl)))
  try simp only [Act.put, List.setIfInBounds_toArray, List.set_cons_zero, List.set_cons_succ]
  refine wpG_oneB (i := 4) (o := ⟨some 15, _, _, _, _, _⟩) (by kernel_rfl) rfl rfl (fun K hK => ?_)
  go_simp
  (with_reducible refine (C14.out _ (below_drew (Below.refl w1.heap.size w1))).mono ?_); rintro e w3 ⟨rfl, b3⟩
  have HB3 := Lib.hid (show Below w1.heap.size w1 w3 from (below_drew (Below.refl w1.heap.size w1)).trans (b3.mono (below_drew (Below.refl w1.heap.size w1)).size))
  clear b3
  refine hK.out _ _ (HFR.out w3 HB3.out) (fun hHeld => ?_)
  clear hK K
  try simp only [Act.put, List.setIfInBounds_toArray, List.set_cons_zero, List.set_cons_succ]
  refine wpG_takeB (i := 6) (oi := ⟨some 17, _, _, _, _, _⟩) (v := .bool false) rfl (by kernel_rfl) (by kernel_rfl) (by kernel_rfl) (by decide) (fun _ _ _ h => h) h01 rfl hHeld (Or.inl ⟨by rfl, ?_⟩) ?_
  · (intro W9 hSw; obtain ⟨v1, v2, v3, v4⟩ := hSw; go_simp; (try (first | with_reducible rfl | exact HZ.out | (rw [HWR.out]; done) | (simp; done) | rfl)))
  try simp only [Act.put, List.setIfInBounds_toArray, List.set_cons_zero, List.set_cons_succ]
  refine wpG_takeB (i := 7) (oi := ⟨some 18, _, _, _, _, _⟩) (v := .bool false) rfl (by kernel_rfl) (by kernel_rfl) (by kernel_rfl) (by decide) (fun _ _ _ h => h) h01 rfl hHeld (Or.inl ⟨by rfl, ?_⟩) ?_
  · (intro W9 hSw; obtain ⟨v1, v2, v3, v4⟩ := hSw; go_simp; (try (first | with_reducible rfl | exact HZ.out | (rw [HWR.out]; done) | (simp; done) | rfl)))
  try simp only [Act.put, List.setIfInBounds_toArray, List.set_cons_zero, List.set_cons_succ]
  refine wpG_takeB (i := 8) (oi := ⟨some 19, _, _, _, _, _⟩) (v := .bool false) rfl (by kernel_rfl) (by kernel_rfl) (by kernel_rfl) (by decide) (fun _ _ _ h => h) h01 rfl hHeld (Or.inl ⟨by rfl, ?_⟩) ?_
  · (intro W9 hSw; obtain ⟨v1, v2, v3, v4⟩ := hSw; go_simp; (try (first | with_reducible rfl | exact HZ.out | (rw [HWR.out]; done) | (simp; done) | rfl)))
  try simp only [Act.put, List.setIfInBounds_toArray, List.set_cons_zero, List.set_cons_succ]
  refine wpG_takeB (i := 9) (oi := ⟨some 20, _, _, _, _, _⟩) (v := .pointer (some ⟨bs, 0, none⟩)) rfl (by kernel_rfl) (by kernel_rfl) (by kernel_rfl) (by decide) (fun _ _ _ h => h) h01 rfl hHeld (Or.inl ⟨by rfl, ?_⟩) ?_
  · (intro W9 hSw; obtain ⟨v1, v2, v3, v4⟩ := hSw; go_simp; (try (first | with_reducible rfl | exact HZ.out | (rw [HWR.out]; done) | (simp; done) | rfl)))
  try simp only [Act.put, List.setIfInBounds_toArray, List.set_cons_zero, List.set_cons_succ]
  refine wpG_takeB (i := 11) (oi := ⟨some 22, _, _, _, _, _⟩) (v := .pointer (some ⟨w.heap.size, 0, none⟩)) rfl (by kernel_rfl) (by kernel_rfl) (by kernel_rfl) (by decide) (fun _ _ _ h => h) h01 rfl hHeld (Or.inl ⟨by rfl, ?_⟩) ?_
  · (intro W9 hSw; obtain ⟨v1, v2, v3, v4⟩ := hSw; go_simp; (try (first | with_reducible rfl | exact HZ.out | (rw [HWR.out]; done) | (simp; done) | rfl)))
  try simp only [Act.put, List.setIfInBounds_toArray, List.set_cons_zero, List.set_cons_succ]
  refine wpG_takeB (i := 12) (oi := ⟨some 23, _, _, _, _, _⟩) (v := .int .i64 (lim : Int)) rfl (by kernel_rfl) (by kernel_rfl) (by kernel_rfl) (by decide) (fun _ _ _ h => h) h01 rfl hHeld (Or.inl ⟨by rfl, ?_⟩) ?_
  · (intro W9 hSw; obtain ⟨v1, v2, v3, v4⟩ := hSw; go_simp; (try (first | with_reducible rfl | exact HZ.out | (rw [HWR.out]; done) | (simp; done) | rfl)))
  try simp only [Act.put, List.setIfInBounds_toArray, List.set_cons_zero, List.set_cons_succ]
  refine wpG_takeB (i := 13) (oi := ⟨some 24, _, _, _, _, _⟩) (v := .int .i64 (d : Int)) rfl (by kernel_rfl) (by kernel_rfl) (by kernel_rfl) (by decide) (fun _ _ _ h => h) h01 rfl hHeld (Or.inl ⟨by rfl, ?_⟩) ?_
  · (intro W9 hSw; obtain ⟨v1, v2, v3, v4⟩ := hSw; go_simp; (try (first | with_reducible rfl | exact HZ.out | (rw [HWR.out]; done) | (simp; done) | rfl)))
  try simp only [Act.put, List.setIfInBounds_toArray, List.set_cons_zero, List.set_cons_succ]
  refine wpG_takeB (i := 14) (oi := ⟨some 25, _, _, _, _, _⟩) (v := .int .i64 ((lim : Int) - d)) rfl (by kernel_rfl) (by kernel_rfl) (by kernel_rfl) (by decide) (fun _ _ _ h => h) h01 rfl hHeld (Or.inl ⟨by rfl, ?_⟩) ?_
  · (intro W9 hSw; obtain ⟨v1, v2, v3, v4⟩ := hSw; go_simp; (try (first | with_reducible rfl | exact HZ.out | (rw [HWR.out]; done) | (simp; done) | rfl)))
  try simp only [Act.put, List.setIfInBounds_toArray, List.set_cons_zero, List.set_cons_succ]
  refine wpG_oneB (i := 10) (o := ⟨some 21, _, _, _, _, _⟩) (by kernel_rfl) rfl rfl (fun K hK => ?_)
  go_simp
  (with_reducible refine (C25.out _ (HB3.out)).mono ?_); rintro e w4 ⟨rfl, b4⟩
  have HB4 := Lib.hid (show Below w1.heap.size w1 w4 from (HB3.out).trans (b4.mono (HB3.out).size))
  clear b4
  refine hK.out _ _ (HFR.out w4 HB4.out) (fun hHeld => ?_)
  clear hK K
  try simp only [Act.put, List.setIfInBounds_toArray, List.set_cons_zero, List.set_cons_succ]
  refine wpG_takeB (i := 15) (oi := ⟨some 26, _, _, _, _, _⟩) (v := .bool false) rfl (by kernel_rfl) (by kernel_rfl) (by kernel_rfl) (by decide) (fun _ _ _ h => h) h01 rfl hHeld (Or.inl ⟨by rfl, ?_⟩) ?_
  · (intro W9 hSw; obtain ⟨v1, v2, v3, v4⟩ := hSw; go_simp; (try (first | with_reducible rfl | exact HZ.out | (rw [HWR.out]; done) | (simp; done) | rfl)))
  try simp only [Act.put, List.setIfInBounds_toArray, List.set_cons_zero, List.set_cons_succ]
  refine wpG_takeB (i := 16) (oi := ⟨some 27, _, _, _, _, _⟩) (v := .bool false) rfl (by kernel_rfl) (by kernel_rfl) (by kernel_rfl) (by decide) (fun _ _ _ h => h) h01 rfl hHeld (Or.inl ⟨by rfl, ?_⟩) ?_
  · (intro W9 hSw; obtain ⟨v1, v2, v3, v4⟩ := hSw; go_simp; (try (first | with_reducible rfl | exact HZ.out | (rw [HWR.out]; done) | (simp; done) | rfl)))
  try simp only [Act.put, List.setIfInBounds_toArray, List.set_cons_zero, List.set_cons_succ]
  refine wpG_takeB (i := 17) (oi := ⟨some 28, _, _, _, _, _⟩) (v := .bool false) rfl (by kernel_rfl) (by kernel_rfl) (by kernel_rfl) (by decide) (fun _ _ _ h => h) h01 rfl hHeld (Or.inl ⟨by rfl, ?_⟩) ?_
  · (intro W9 hSw; obtain ⟨v1, v2, v3, v4⟩ := hSw; go_simp; (try (first | with_reducible rfl | exact HZ.out | (rw [HWR.out]; done) | (simp; done) | rfl)))
  try simp only [Act.put, List.setIfInBounds_toArray, List.set_cons_zero, List.set_cons_succ]
  refine wpG_takeB (i := 18) (oi := ⟨some 29, _, _, _, _, _⟩) (v := .pointer (some ⟨bs, 0, none⟩)) rfl (by kernel_rfl) (by kernel_rfl) (by kernel_rfl) (by decide) (fun _ _ _ h => h) h01 rfl hHeld (Or.inl ⟨by rfl, ?_⟩) ?_
  · (intro W9 hSw; obtain ⟨v1, v2, v3, v4⟩ := hSw; go_simp; (try (first | with_reducible rfl | exact HZ.out | (rw [HWR.out]; done) | (simp; done) | rfl)))
  try simp only [Act.put, List.setIfInBounds_toArray, List.set_cons_zero, List.set_cons_succ]
  refine wpG_takeB (i := 20) (oi := ⟨some 31, _, _, _, _, _⟩) (v := .pointer (some ⟨w.heap.size, 2, none⟩)) rfl (by kernel_rfl) (by kernel_rfl) (by kernel_rfl) (by decide) (fun _ _ _ h => h) h01 rfl hHeld (Or.inl ⟨by rfl, ?_⟩) ?_
  · (intro W9 hSw; obtain ⟨v1, v2, v3, v4⟩ := hSw; go_simp; (try (first | with_reducible rfl | exact HZ.out | (rw [HWR.out]; done) | (simp; done) | rfl)))
  try simp only [Act.put, List.setIfInBounds_toArray, List.set_cons_zero, List.set_cons_succ]
  refine wpG_takeB (i := 21) (oi := ⟨some 32, _, _, _, _, _⟩) (v := .int .i64 (tk : Int)) rfl (by kernel_rfl) (by kernel_rfl) (by kernel_rfl) (by decide) (fun _ _ _ h => h) h01 rfl hHeld (Or.inl ⟨by rfl, ?_⟩) ?_
  · (intro W9 hSw; obtain ⟨v1, v2, v3, v4⟩ := hSw; go_simp; (try (first | with_reducible rfl | exact HZ.out | (rw [HWR.out]; done) | (simp; done) | rfl)))
  try simp only [Act.put, List.setIfInBounds_toArray, List.set_cons_zero, List.set_cons_succ]
  refine wpG_oneB (i := 19) (o := ⟨some 30, _, _, _, _, _⟩) (by kernel_rfl) rfl rfl (fun K hK => ?_)
  go_simp
  (with_reducible refine (C13.out _ (HB4.out)).mono ?_); rintro e w5 ⟨rfl, b5⟩
  have HB5 := Lib.hid (show Below w1.heap.size w1 w5 from (HB4.out).trans (b5.mono (HB4.out).size))
  clear b5
  refine hK.out _ _ (HFR.out w5 HB5.out) (fun hHeld => ?_)
  clear hK K
  try simp only [Act.put, List.setIfInBounds_toArray, List.set_cons_zero, List.set_cons_succ]
  refine wpG_takeB (i := 22) (oi := ⟨some 33, _, _, _, _, _⟩) (v := .bool false) rfl (by kernel_rfl) (by kernel_rfl) (by kernel_rfl) (by decide) (fun _ _ _ h => h) h01 rfl hHeld (Or.inl ⟨by rfl, ?_⟩) ?_
  · (intro W9 hSw; obtain ⟨v1, v2, v3, v4⟩ := hSw; go_simp; (try (first | with_reducible rfl | exact HZ.out | (rw [HWR.out]; done) | (simp; done) | rfl)))
  try simp only [Act.put, List.setIfInBounds_toArray, List.set_cons_zero, List.set_cons_succ]
  refine wpG_takeB (i := 23) (oi := ⟨some 34, _, _, _, _, _⟩) (v := .bool false) rfl (by kernel_rfl) (by kernel_rfl) (by kernel_rfl) (by decide) (fun _ _ _ h => h) h01 rfl hHeld (Or.inl ⟨by rfl, ?_⟩) ?_
  · (intro W9 hSw; obtain ⟨v1, v2, v3, v4⟩ := hSw; go_simp; (try (first | with_reducible rfl | exact HZ.out | (rw [HWR.out]; done) | (simp; done) | rfl)))
  try simp only [Act.put, List.setIfInBounds_toArray, List.set_cons_zero, List.set_cons_succ]
  refine wpG_takeB (i := 24) (oi := ⟨some 35, _, _, _, _, _⟩) (v := .bool false) rfl (by kernel_rfl) (by kernel_rfl) (by kernel_rfl) (by decide) (fun _ _ _ h => h) h01 rfl hHeld (Or.inl ⟨by rfl, ?_⟩) ?_
  · (intro W9 hSw; obtain ⟨v1, v2, v3, v4⟩ := hSw; go_simp; (try (first | with_reducible rfl | exact HZ.out | (rw [HWR.out]; done) | (simp; done) | rfl)))
  try simp only [Act.put, List.setIfInBounds_toArray, List.set_cons_zero, List.set_cons_succ]
  refine wpG_takeB (i := 25) (oi := ⟨some 36, _, _, _, _, _⟩) (v := .pointer (some ⟨bs, 0, none⟩)) rfl (by kernel_rfl) (by kernel_rfl) (by kernel_rfl) (by decide) (fun _ _ _ h => h) h01 rfl hHeld (Or.inl ⟨by rfl, ?_⟩) ?_
  · (intro W9 hSw; obtain ⟨v1, v2, v3, v4⟩ := hSw; go_simp; (try (first | with_reducible rfl | exact HZ.out | (rw [HWR.out]; done) | (simp; done) | rfl)))
  try simp only [Act.put, List.setIfInBounds_toArray, List.set_cons_zero, List.set_cons_succ]
  refine wpG_takeB (i := 27) (oi := ⟨some 38, _, _, _, _, _⟩) (v := .pointer (some ⟨w.heap.size, 3, none⟩)) rfl (by kernel_rfl) (by kernel_rfl) (by kernel_rfl) (by decide) (fun _ _ _ h => h) h01 rfl hHeld (Or.inl ⟨by rfl, ?_⟩) ?_
  · (intro W9 hSw; obtain ⟨v1, v2, v3, v4⟩ := hSw; go_simp; (try (first | with_reducible rfl | exact HZ.out | (rw [HWR.out]; done) | (simp; done) | rfl)))
  try simp only [Act.put, List.setIfInBounds_toArray, List.set_cons_zero, List.set_cons_succ]
  refine wpG_takeB (i := 28) (oi := ⟨some 39, _, _, _, _, _⟩) (v := .bool true) rfl (by kernel_rfl) (by kernel_rfl) (by kernel_rfl) (by decide) (fun _ _ _ h => h) h01 rfl hHeld (Or.inl ⟨by rfl, ?_⟩) ?_
  · (intro W9 hSw; obtain ⟨v1, v2, v3, v4⟩ := hSw; go_simp; (try (first | with_reducible rfl | exact HZ.out | (rw [HWR.out]; done) | (simp; done) | rfl)))
  try simp only [Act.put, List.setIfInBounds_toArray, List.set_cons_zero, List.set_cons_succ]
  refine wpG_oneB (i := 26) (o := ⟨some 37, _, _, _, _, _⟩) (by kernel_rfl) rfl rfl (fun K hK => ?_)
  go_simp
  (with_reducible refine (C26.out _ (HB5.out)).mono ?_); rintro e w6 ⟨rfl, b6⟩
  have HB6 := Lib.hid (show Below w1.heap.size w1 w6 from (HB5.out).trans (b6.mono (HB5.out).size))
  clear b6
  refine hK.out _ _ (HFR.out w6 HB6.out) (fun hHeld => ?_)
  clear hK K
  try simp only [Act.put, List.setIfInBounds_toArray, List.set_cons_zero, List.set_cons_succ]
  refine wpG_takeB (i := 29) (oi := ⟨some 40, _, _, _, _, _⟩) (v := .bool true) rfl (by kernel_rfl) (by kernel_rfl) (by kernel_rfl) (by decide) (fun _ _ _ h => h) h01 rfl hHeld (Or.inl ⟨by rfl, ?_⟩) ?_
  · (intro W9 hSw; obtain ⟨v1, v2, v3, v4⟩ := hSw; go_simp; (try (first | with_reducible rfl | exact HZ.out | (rw [HWR.out]; done) | (simp; done) | rfl)))
  try simp only [Act.put, List.setIfInBounds_toArray, List.set_cons_zero, List.set_cons_succ]
  refine wpG_takeB (i := 30) (oi := ⟨some 41, _, _, _, _, _⟩) (v := .int .i64 (d : Int)) rfl (by kernel_rfl) (by kernel_rfl) (by kernel_rfl) (by decide) (fun _ _ _ h => h) h01 rfl hHeld (Or.inl ⟨by rfl, ?_⟩) ?_
  · (intro W9 hSw; obtain ⟨v1, v2, v3, v4⟩ := hSw; go_simp; (try (first | with_reducible rfl | exact HZ.out | (rw [HWR.out]; done) | (simp; done) | rfl)))
  try simp only [Act.put, List.setIfInBounds_toArray, List.set_cons_zero, List.set_cons_succ]
  refine wpG_takeB (i := 31) (oi := ⟨some 42, _, _, _, _, _⟩) (v := .bool z) rfl (by kernel_rfl) (by kernel_rfl) (by kernel_rfl) (by decide) (fun _ _ _ h => h) h01 rfl hHeld (Or.inl ⟨by rfl, ?_⟩) ?_
  · (intro W9 hSw; obtain ⟨v1, v2, v3, v4⟩ := hSw; go_simp; (try (first | with_reducible rfl | exact HZ.out | (rw [HWR.out]; done) | (simp; done) | rfl)))
  try simp only [Act.put, List.setIfInBounds_toArray, List.set_cons_zero, List.set_cons_succ]
  refine wpG_takeB (i := 32) (oi := ⟨some 43, _, _, _, _, _⟩) (v := .bool z) rfl (by kernel_rfl) (by kernel_rfl) (by kernel_rfl) (by decide) (fun _ _ _ h => h) h01 rfl hHeld (Or.inl ⟨by rfl, ?_⟩) ?_
  · (intro W9 hSw; obtain ⟨v1, v2, v3, v4⟩ := hSw; go_simp; (try (first | with_reducible rfl | exact HZ.out | (rw [HWR.out]; done) | (simp; done) | rfl)))
  try simp only [Act.put, List.setIfInBounds_toArray, List.set_cons_zero, List.set_cons_succ]
  refine wpG_takeB (i := 33) (oi := ⟨some 44, _, _, _, _, _⟩) (v := .bool false) rfl (by kernel_rfl) (by kernel_rfl) (by kernel_rfl) (by decide) (fun _ _ _ h => h) h01 rfl hHeld (Or.inl ⟨by rfl, ?_⟩) ?_
  · (intro W9 hSw; obtain ⟨v1, v2, v3, v4⟩ := hSw; go_simp; (try (first | with_reducible rfl | exact HZ.out | (rw [HWR.out]; done) | (simp; done) | rfl)))
  try simp only [Act.put, List.setIfInBounds_toArray, List.set_cons_zero, List.set_cons_succ]
  refine wpG_takeB (i := 34) (oi := ⟨some 45, _, _, _, _, _⟩) (v := .bool false) rfl (by kernel_rfl) (by kernel_rfl) (by kernel_rfl) (by decide) (fun _ _ _ h => h) h01 rfl hHeld (Or.inl ⟨by rfl, ?_⟩) ?_
  · (intro W9 hSw; obtain ⟨v1, v2, v3, v4⟩ := hSw; go_simp; (try (first | with_reducible rfl | exact HZ.out | (rw [HWR.out]; done) | (simp; done) | rfl)))
  try simp only [Act.put, List.setIfInBounds_toArray, List.set_cons_zero, List.set_cons_succ]
  refine wpG_done (by kernel_rfl) ?_ _
  clear hHeld h01
  go_wp2_with (go_at_call 27; (with_reducible refine (C27.out _ HB6.out).mono ?_); rintro e w7 ⟨Ap, cp, rfl, ho, b7⟩; have HBX := Lib.hid (HB6.out.trans (b7.mono HB6.out.size)); have HB7 := Lib.hid (HB1.out.trans (HBX.out.mono HB1.out.size)); have HO := Lib.hid ho; clear ho b7)
  obtain ⟨A0, c0, e0, hrb7⟩ := own_RB HO.out
  injection e0 with e1 e2 e3
  subst e1 e3
  have HRB7 := Lib.hid hrb7
  obtain ⟨S, hS⟩ : ∃ S, (⟨m.toArray⟩ : ByteArray) = S := ⟨_, rfl⟩
  have HSX := Lib.hid hS
  clear hrb7 hS e2
  have HSJ := Lib.hid (show ∀ W, Below w7.heap.size w7 W → SJ w w.heap.size lim A n c tk true Ap d cp m W from fun W hb => ⟨HFR.out W (HBX.out.trans (hb.mono HBX.out.size)), HRB7.out.below hb, HB7.out.trans (hb.mono HB7.out.size)⟩)
  have HS5 := Lib.hid (HSJ.out w7.drew (below_drew (Below.refl _ _)))
  refine wp_region_G (S0 := (SJ w w.heap.size lim A n c tk true Ap d cp m)) (S1 := (SJ w w.heap.size lim A n c tk true Ap d cp m)) (c := 99) (by kernel_rfl) ?_
  have hHeld := HS5.out
  have h01 := (fun (W : World) (h : (SJ w w.heap.size lim A n c tk true Ap d cp m) W) => h)
  refine wpG_takeB (i := 0) (oi := ⟨some 52, _, _, _, _, _⟩) (v := .int .i64 0) rfl (by kernel_rfl) (by kernel_rfl) (by kernel_rfl) (by decide) (fun _ _ _ h => h) h01 rfl hHeld (Or.inl ⟨by rfl, ?_⟩) ?_
  · (intro W9 hSw; obtain ⟨⟨v1, v2, v3, v4⟩, va, vb⟩ := hSw; have hca := conv_bs (P := Try.prog) W9 22 9 5 Try.underlying22 Try.underlying5 Try.underlying9 (c := cp) va.len va.h; rw [HSX.out] at hca; (try (have hcb := conv_bs (P := Try.prog) W9 22 9 5 Try.underlying22 Try.underlying5 Try.underlying9 (c := c2) HR2.out.1.len (HR2.out.1.below vb).h; rw [HSX.out] at hcb)); clear va vb; go_simp; (try (first | with_reducible rfl | rfl | (simp; done))))
  try simp only [Act.put, List.setIfInBounds_toArray, List.set_cons_zero, List.set_cons_succ]
  refine wpG_takeB (i := 1) (oi := ⟨some 53, _, _, _, _, _⟩) (v := .bool true) rfl (by kernel_rfl) (by kernel_rfl) (by kernel_rfl) (by decide) (fun _ _ _ h => h) h01 rfl hHeld (Or.inl ⟨by rfl, ?_⟩) ?_
  · (intro W9 hSw; obtain ⟨⟨v1, v2, v3, v4⟩, va, vb⟩ := hSw; have hca := conv_bs (P := Try.prog) W9 22 9 5 Try.underlying22 Try.underlying5 Try.underlying9 (c := cp) va.len va.h; rw [HSX.out] at hca; (try (have hcb := conv_bs (P := Try.prog) W9 22 9 5 Try.underlying22 Try.underlying5 Try.underlying9 (c := c2) HR2.out.1.len (HR2.out.1.below vb).h; rw [HSX.out] at hcb)); clear va vb; go_simp; (try (first | with_reducible rfl | rfl | (simp; done))))
  try simp only [Act.put, List.setIfInBounds_toArray, List.set_cons_zero, List.set_cons_succ]
  refine wpG_takeB (i := 2) (oi := ⟨some 54, _, _, _, _, _⟩) (v := .bool true) rfl (by kernel_rfl) (by kernel_rfl) (by kernel_rfl) (by decide) (fun _ _ _ h => h) h01 rfl hHeld (Or.inl ⟨by rfl, ?_⟩) ?_
  · (intro W9 hSw; obtain ⟨⟨v1, v2, v3, v4⟩, va, vb⟩ := hSw; have hca := conv_bs (P := Try.prog) W9 22 9 5 Try.underlying22 Try.underlying5 Try.underlying9 (c := cp) va.len va.h; rw [HSX.out] at hca; (try (have hcb := conv_bs (P := Try.prog) W9 22 9 5 Try.underlying22 Try.underlying5 Try.underlying9 (c := c2) HR2.out.1.len (HR2.out.1.below vb).h; rw [HSX.out] at hcb)); clear va vb; go_simp; (try (first | with_reducible rfl | rfl | (simp; done))))
  try simp only [Act.put, List.setIfInBounds_toArray, List.set_cons_zero, List.set_cons_succ]
  refine wpG_takeB (i := 3) (oi := ⟨some 55, _, _, _, _, _⟩) (v := .slice Ap d cp) rfl (by kernel_rfl) (by kernel_rfl) (by kernel_rfl) (by decide) (fun _ _ _ h => h) h01 rfl hHeld (Or.inl ⟨by rfl, ?_⟩) ?_
  · (intro W9 hSw; obtain ⟨⟨v1, v2, v3, v4⟩, va, vb⟩ := hSw; have hca := conv_bs (P := Try.prog) W9 22 9 5 Try.underlying22 Try.underlying5 Try.underlying9 (c := cp) va.len va.h; rw [HSX.out] at hca; (try (have hcb := conv_bs (P := Try.prog) W9 22 9 5 Try.underlying22 Try.underlying5 Try.underlying9 (c := c2) HR2.out.1.len (HR2.out.1.below vb).h; rw [HSX.out] at hcb)); clear va vb; go_simp; (try (first | with_reducible rfl | rfl | (simp; done))))
  try simp only [Act.put, List.setIfInBounds_toArray, List.set_cons_zero, List.set_cons_succ]
  refine wpG_takeB (i := 4) (oi := ⟨some 56, _, _, _, _, _⟩) (v := .string S) rfl (by kernel_rfl) (by kernel_rfl) (by kernel_rfl) (by decide) (fun _ _ _ h => h) h01 rfl hHeld (Or.inl ⟨by rfl, ?_⟩) ?_
  · (intro W9 hSw; obtain ⟨⟨v1, v2, v3, v4⟩, va, vb⟩ := hSw; have hca := conv_bs (P := Try.prog) W9 22 9 5 Try.underlying22 Try.underlying5 Try.underlying9 (c := cp) va.len va.h; rw [HSX.out] at hca; (try (have hcb := conv_bs (P := Try.prog) W9 22 9 5 Try.underlying22 Try.underlying5 Try.underlying9 (c := c2) HR2.out.1.len (HR2.out.1.below vb).h; rw [HSX.out] at hcb)); clear va vb; go_simp; (try (first | with_reducible rfl | rfl | (simp; done))))
  try simp only [Act.put, List.setIfInBounds_toArray, List.set_cons_zero, List.set_cons_succ]
  refine wpG_takeB (i := 5) (oi := ⟨some 57, _, _, _, _, _⟩) (v := .agg #[.int .i64 lim, .slice A n c, .int .i64 tk, .bool true]) rfl (by kernel_rfl) (by kernel_rfl) (by kernel_rfl) (by decide) (fun _ _ _ h => h) h01 rfl hHeld (Or.inl ⟨by rfl, ?_⟩) ?_
  · (intro W9 hSw; obtain ⟨⟨v1, v2, v3, v4⟩, va, vb⟩ := hSw; have hca := conv_bs (P := Try.prog) W9 22 9 5 Try.underlying22 Try.underlying5 Try.underlying9 (c := cp) va.len va.h; rw [HSX.out] at hca; (try (have hcb := conv_bs (P := Try.prog) W9 22 9 5 Try.underlying22 Try.underlying5 Try.underlying9 (c := c2) HR2.out.1.len (HR2.out.1.below vb).h; rw [HSX.out] at hcb)); clear va vb; go_simp; (try (first | with_reducible rfl | rfl | (simp; done))))
  try simp only [Act.put, List.setIfInBounds_toArray, List.set_cons_zero, List.set_cons_succ]
  refine wpG_oneB (i := 6) (o := ⟨some 58, _, _, _, _, _⟩) (by kernel_rfl) rfl rfl (fun K hK => ?_)
  go_simp
  (with_reducible refine (C21.out _).mono ?_); rintro e w8 ⟨A2, c2, rfl, r8, -, b8⟩
  have HB8 := Lib.hid (show Below w7.heap.size w7 w8 from (below_drew (Below.refl w7.heap.size w7)).trans b8)
  have HR2 := Lib.hid (And.intro r8 trivial)
  clear b8 r8
  refine hK.out _ _ (HSJ.out w8 HB8.out) (fun hHeld => ?_)
  clear hK K
  try simp only [Act.put, List.setIfInBounds_toArray, List.set_cons_zero, List.set_cons_succ]
  refine wpG_takeB (i := 7) (oi := ⟨some 59, _, _, _, _, _⟩) (v := .string S) rfl (by kernel_rfl) (by kernel_rfl) (by kernel_rfl) (by decide) (fun _ _ _ h => h) h01 rfl hHeld (Or.inl ⟨by rfl, ?_⟩) ?_
  · (intro W9 hSw; obtain ⟨⟨v1, v2, v3, v4⟩, va, vb⟩ := hSw; have hca := conv_bs (P := Try.prog) W9 22 9 5 Try.underlying22 Try.underlying5 Try.underlying9 (c := cp) va.len va.h; rw [HSX.out] at hca; (try (have hcb := conv_bs (P := Try.prog) W9 22 9 5 Try.underlying22 Try.underlying5 Try.underlying9 (c := c2) HR2.out.1.len (HR2.out.1.below vb).h; rw [HSX.out] at hcb)); clear va vb; go_simp; (try (first | with_reducible rfl | rfl | (simp; done))))
  try simp only [Act.put, List.setIfInBounds_toArray, List.set_cons_zero, List.set_cons_succ]
  refine wpG_takeB (i := 8) (oi := ⟨some 60, _, _, _, _, _⟩) (v := .bool true) rfl (by kernel_rfl) (by kernel_rfl) (by kernel_rfl) (by decide) (fun _ _ _ h => h) h01 rfl hHeld (Or.inl ⟨by rfl, ?_⟩) ?_
  · (intro W9 hSw; obtain ⟨⟨v1, v2, v3, v4⟩, va, vb⟩ := hSw; have hca := conv_bs (P := Try.prog) W9 22 9 5 Try.underlying22 Try.underlying5 Try.underlying9 (c := cp) va.len va.h; rw [HSX.out] at hca; (try (have hcb := conv_bs (P := Try.prog) W9 22 9 5 Try.underlying22 Try.underlying5 Try.underlying9 (c := c2) HR2.out.1.len (HR2.out.1.below vb).h; rw [HSX.out] at hcb)); clear va vb; go_simp; (try (first | with_reducible rfl | rfl | (simp; done))))
  try simp only [Act.put, List.setIfInBounds_toArray, List.set_cons_zero, List.set_cons_succ]
  refine wpG_takeB (i := 9) (oi := ⟨some 61, _, _, _, _, _⟩) (v := .bool true) rfl (by kernel_rfl) (by kernel_rfl) (by kernel_rfl) (by decide) (fun _ _ _ h => h) h01 rfl hHeld (Or.inl ⟨by rfl, ?_⟩) ?_
  · (intro W9 hSw; obtain ⟨⟨v1, v2, v3, v4⟩, va, vb⟩ := hSw; have hca := conv_bs (P := Try.prog) W9 22 9 5 Try.underlying22 Try.underlying5 Try.underlying9 (c := cp) va.len va.h; rw [HSX.out] at hca; (try (have hcb := conv_bs (P := Try.prog) W9 22 9 5 Try.underlying22 Try.underlying5 Try.underlying9 (c := c2) HR2.out.1.len (HR2.out.1.below vb).h; rw [HSX.out] at hcb)); clear va vb; go_simp; (try (first | with_reducible rfl | rfl | (simp; done))))
  try simp only [Act.put, List.setIfInBounds_toArray, List.set_cons_zero, List.set_cons_succ]
  refine wpG_takeB (i := 10) (oi := ⟨some 4, _, _, _, _, _⟩) (v := .bool true) rfl (by kernel_rfl) (by kernel_rfl) (by kernel_rfl) (by decide) (fun _ _ _ h => h) h01 rfl hHeld (Or.inl ⟨by rfl, ?_⟩) ?_
  · (intro W9 hSw; obtain ⟨⟨v1, v2, v3, v4⟩, va, vb⟩ := hSw; have hca := conv_bs (P := Try.prog) W9 22 9 5 Try.underlying22 Try.underlying5 Try.underlying9 (c := cp) va.len va.h; rw [HSX.out] at hca; (try (have hcb := conv_bs (P := Try.prog) W9 22 9 5 Try.underlying22 Try.underlying5 Try.underlying9 (c := c2) HR2.out.1.len (HR2.out.1.below vb).h; rw [HSX.out] at hcb)); clear va vb; go_simp; (try (first | with_reducible rfl | rfl | (simp; done))))
  try simp only [Act.put, List.setIfInBounds_toArray, List.set_cons_zero, List.set_cons_succ]
  refine wpG_done (by kernel_rfl) ?_ _
  clear hHeld h01
  go_wp2_with fail
  go_ret
  exact ⟨rfl, HB7.out.trans (HB8.out.mono HB7.out.size)⟩
end
end Go.Proofs.Ythkpmbgclllnjaa

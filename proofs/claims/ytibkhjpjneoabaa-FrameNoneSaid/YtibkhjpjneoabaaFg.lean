/- Small contracts. -/
import Derived.Test.YtibkhjpjneoabaaFf
namespace Go.Proofs.Ytibkhjpjneoabaa
open Go.RowKit
set_option linter.unusedVariables false
set_option linter.unusedSimpArgs false

theorem bytes_ne {l1 l2 : List UInt8} (h : l1 ≠ l2) : (⟨l1.toArray⟩ : ByteArray) ≠ ⟨l2.toArray⟩ := fun e => h (by injection e with e; simpa using congrArg Array.toList e)
theorem bytes_beq (l1 l2 : List UInt8) : ((⟨l1.toArray⟩ : ByteArray).toList == (⟨l2.toArray⟩ : ByteArray).toList) = decide (l1 = l2) := by
  rw [ByteArray.toList_eq, ByteArray.toList_eq]
  show (l1 == l2) = _
  by_cases e : l1 = l2 <;> simp [e]
set_option maxRecDepth 100000 in
theorem equal_any (A1 A2 : Option Addr) (n1 n2 c1 c2 : Nat) (l1 l2 : List UInt8) (w : World) (h1 : RB w A1 n1 c1 l1) (h2 : RB w A2 n2 c2 l2) :
    Calls Try.prog 71 #[.slice A1 n1 c1, .slice A2 n2 c2] w fun e w' => e = .returned (.bool (decide (l1 = l2))) ∧ w = w' := by
  have hc1 := conv_RB h1
  have hc2 := conv_RB h2
  have hd := bytes_beq l1 l2
  have HD := Lib.hid hd
  clear h1 h2 hd
  generalize decide (l1 = l2) = b at *
  generalize (⟨l1.toArray⟩ : ByteArray) = s1 at *
  generalize (⟨l2.toArray⟩ : ByteArray) = s2 at *
  go_enter Try.func71, Try.ntmps71
  go_wp2_with fail
  go_ret
  exact ⟨by rw [← HD.out]; first | rfl | simp, rfl⟩
set_option maxRecDepth 100000 in
theorem new_yes (k m c : Int) (hF : OkF k m c) (w : World) :
    Calls Try.prog 16 #[FV k m c] w fun e w' => ∃ r, e = .returned (.tuple #[.pointer (some ⟨r, 0, none⟩), .int .i64 0]) ∧ w.heap.size ≤ r ∧ RdS w' (w.heap.size) r k m c (.slice none 0 0) St.new ∧ Below w.heap.size w w' := by
  obtain ⟨W0, hW0⟩ : ∃ W0, w.alloc (.cells #[.int .i64 k, .int .i64 m, .int .i64 c] 24) = W0 := ⟨_, rfl⟩
  have hb0 : Below w.heap.size w W0 := hW0 ▸ (Below.refl _ w).alloc (Nat.le_refl _) _
  have kf : Blk W0 w.heap.size 24 #[.int .i64 k, .int .i64 m, .int .i64 c] := hW0 ▸ Blk.new w 24 _
  have C13 := Lib.hid (valid_yes k m c W0 hF)
  unfold FV at C13 ⊢
  have HW0 := Lib.hid hW0
  have HB0 := Lib.hid hb0
  have KF := Lib.hid kf
  obtain ⟨f0, f1, f2⟩ : W0.cell? ⟨w.heap.size, 0, none⟩ = some (.int .i64 k) ∧ W0.cell? ⟨w.heap.size, 1, none⟩ = some (.int .i64 m) ∧ W0.cell? ⟨w.heap.size, 2, none⟩ = some (.int .i64 c) := ⟨kf.cell 0, kf.cell 1, kf.cell 2⟩
  clear hF hW0 hb0 kf
  go_enter Try.func16, Try.ntmps16
  go_upto_region 1 with fail
  rw [HW0.out]
  go_wp2_with (go_at_call 13; (with_reducible refine C13.out.mono ?_); rintro e w1 ⟨rfl, b1⟩; have HB1 := Lib.hid b1; have k1 := KF.out.below b1 KF.out.lt; obtain ⟨g0, g1, g2⟩ : w1.cell? ⟨w.heap.size, 0, none⟩ = some (.int .i64 k) ∧ w1.cell? ⟨w.heap.size, 1, none⟩ = some (.int .i64 m) ∧ w1.cell? ⟨w.heap.size, 2, none⟩ = some (.int .i64 c) := ⟨k1.cell 0, k1.cell 1, k1.cell 2⟩; clear b1 k1)
  go_ret2
  have hb := HB0.out.trans (HB1.out.mono HB0.out.size)
  exact ⟨w1.heap.size, rfl, hb.size, ⟨Blk.new w1 58 _, World.ownsRow_nil _ _ 5 1, by simp; exact Nat.le_succ_of_le hb.size, fun _ => rfl⟩, hb.alloc hb.size _⟩
set_option maxRecDepth 100000 in
theorem new_no (k m c : Int) (hF : BadF k m c) (w : World) :
    Calls Try.prog 16 #[FV k m c] w fun e w' => e = .returned (.tuple #[.pointer none, .int .i64 2]) ∧ Below w.heap.size w w' := by
  obtain ⟨W0, hW0⟩ : ∃ W0, w.alloc (.cells #[.int .i64 k, .int .i64 m, .int .i64 c] 24) = W0 := ⟨_, rfl⟩
  have hb0 : Below w.heap.size w W0 := hW0 ▸ (Below.refl _ w).alloc (Nat.le_refl _) _
  have kf : Blk W0 w.heap.size 24 #[.int .i64 k, .int .i64 m, .int .i64 c] := hW0 ▸ Blk.new w 24 _
  have C13 := Lib.hid (valid_no k m c W0 hF)
  unfold FV at C13 ⊢
  have HW0 := Lib.hid hW0
  have HB0 := Lib.hid hb0
  obtain ⟨f0, f1, f2⟩ : W0.cell? ⟨w.heap.size, 0, none⟩ = some (.int .i64 k) ∧ W0.cell? ⟨w.heap.size, 1, none⟩ = some (.int .i64 m) ∧ W0.cell? ⟨w.heap.size, 2, none⟩ = some (.int .i64 c) := ⟨kf.cell 0, kf.cell 1, kf.cell 2⟩
  clear hF hW0 hb0 kf
  go_enter Try.func16, Try.ntmps16
  go_upto_region 1 with fail
  rw [HW0.out]
  go_wp2_with (go_at_call 13; (with_reducible refine C13.out.mono ?_); rintro e w1 ⟨rfl, b1⟩; have HB1 := Lib.hid b1; clear b1)
  go_ret2
  exact ⟨rfl, HB0.out.trans (HB1.out.mono HB0.out.size)⟩
/-- There is no reader at p. -/
def NoRd (p : Option Addr) (w : World) : Prop := ∀ W, Below w.heap.size w W → Calls Try.prog 32 #[.pointer p] W fun e w' => e = .returned (.bool true) ∧ W = w'
theorem NoRd.nil (w : World) : NoRd none w := fun W _ => none_nil W
theorem NoRd.below {p : Option Addr} {w w' : World} (h : NoRd p w) (hb : Below w.heap.size w w') : NoRd p w' := fun W h2 => h W (hb.trans (h2.mono hb.size))
set_option maxRecDepth 100000 in
theorem offset_none (p : Option Addr) (w : World) (h : NoRd p w) : Calls Try.prog 22 #[.pointer p] w fun e w' => e = .returned (.int .i64 0) ∧ w = w' := by
  have C := Lib.hid (h w (Below.refl _ w))
  clear h
  go_enter Try.func22, Try.ntmps22
  go_wp2_with (go_at_call 32; (with_reducible refine C.out.mono ?_); rintro e w1 ⟨rfl, rfl⟩)
  go_ret
  exact ⟨rfl, rfl⟩
set_option maxRecDepth 100000 in
theorem broken_none (p : Option Addr) (w : World) (h : NoRd p w) : Calls Try.prog 19 #[.pointer p] w fun e w' => e = .returned (.bool false) ∧ w = w' := by
  have C := Lib.hid (h w (Below.refl _ w))
  clear h
  go_enter Try.func19, Try.ntmps19
  go_wp2_with (go_at_call 32; (with_reducible refine C.out.mono ?_); rintro e w1 ⟨rfl, rfl⟩)
  go_ret
  exact ⟨rfl, rfl⟩
set_option maxRecDepth 100000 in
theorem copy_none (p : Option Addr) (w : World) (h : NoRd p w) : Calls Try.prog 24 #[.pointer p] w fun e w' => e = .returned (.pointer none) ∧ w = w' := by
  have C := Lib.hid (h w (Below.refl _ w))
  clear h
  go_enter Try.func24, Try.ntmps24
  go_wp2_with (go_at_call 32; (with_reducible refine C.out.mono ?_); rintro e w1 ⟨rfl, rfl⟩)
  go_ret
  exact ⟨rfl, rfl⟩
set_option maxRecDepth 100000 in
theorem close_none (p : Option Addr) (w : World) (h : NoRd p w) : Calls Try.prog 23 #[.pointer p] w fun e w' => e = .returned (.tuple #[.slice none 0 0, .int .i64 1]) ∧ w = w' := by
  have C := Lib.hid (h w (Below.refl _ w))
  clear h
  go_enter Try.func23, Try.ntmps23
  go_wp2_with (go_at_call 32; (with_reducible refine C.out.mono ?_); rintro e w1 ⟨rfl, rfl⟩)
  go_ret2
  exact ⟨rfl, rfl⟩
set_option maxRecDepth 100000 in
theorem feed_none (p : Option Addr) (A : Option Addr) (n c : Nat) (w : World) (h : NoRd p w) : Calls Try.prog 17 #[.pointer p, .slice A n c] w fun e w' => e = .returned (.tuple #[.slice none 0 0, .int .i64 1]) ∧ Below w.heap.size w w' := by
  have C := Lib.hid (fun W hb => h W hb)
  clear h
  go_enter Try.func17, Try.ntmps17
  go_wp2_with (go_at_call 32; (with_reducible refine (C.out _ ((Below.refl _ w).alloc (Nat.le_refl _) _)).mono ?_); rintro e w1 ⟨rfl, rfl⟩)
  go_ret2
  exact ⟨rfl, (Below.refl _ w).alloc (Nat.le_refl _) _⟩
section
variable {B r : Nat} {k m c : Int} {v : Value} {s : St} {w : World}
theorem RdS.some_ (hF : OkF k m c) (h : RdS w B r k m c v s) : Calls Try.prog 32 #[.pointer (some ⟨r, 0, none⟩)] w fun e w' => e = .returned (.bool false) ∧ w = w' := none_some r m w hF.m1 (h.blk.cell 1)
end
set_option maxRecDepth 100000 in
theorem offset_any (B r : Nat) (k m c : Int) (v : Value) (s : St) (w : World) (hF : OkF k m c) (h : RdS w B r k m c v s) : Calls Try.prog 22 #[.pointer (some ⟨r, 0, none⟩)] w fun e w' => e = .returned (.int .i64 s.off) ∧ w = w' := by
  have C := Lib.hid (h.some_ hF)
  have k4 : w.cell? ⟨r, 4, none⟩ = some (.int .i64 s.off) := h.blk.cell 4
  clear h hF
  go_enter Try.func22, Try.ntmps22
  go_wp2_with (go_at_call 32; (with_reducible refine C.out.mono ?_); rintro e w1 ⟨rfl, rfl⟩)
  go_ret
  exact ⟨rfl, rfl⟩
set_option maxRecDepth 100000 in
theorem broken_any (B r : Nat) (k m c : Int) (v : Value) (s : St) (w : World) (hF : OkF k m c) (h : RdS w B r k m c v s) : Calls Try.prog 19 #[.pointer (some ⟨r, 0, none⟩)] w fun e w' => e = .returned (.bool (decide (s.st = 2) || s.lost)) ∧ w = w' := by
  have C := Lib.hid (h.some_ hF)
  have k3 : w.cell? ⟨r, 3, none⟩ = some (.int .i64 s.st) := h.blk.cell 3
  have k9 : w.cell? ⟨r, 9, none⟩ = some (.bool s.lost) := h.blk.cell 9
  clear h hF
  by_cases h2 : s.st = 2
  · have q : (s.st == 2) = true := by simpa using h2
    have H2 := Lib.hid h2
    clear h2
    go_enter Try.func19, Try.ntmps19
    go_wp2_with (go_at_call 32; (with_reducible refine C.out.mono ?_); rintro e w1 ⟨rfl, rfl⟩)
    go_ret
    exact ⟨by simp [H2.out], rfl⟩
  · have q : (s.st == 2) = false := by simpa using h2
    have H2 := Lib.hid h2
    clear h2
    go_enter Try.func19, Try.ntmps19
    go_wp2_with (go_at_call 32; (with_reducible refine C.out.mono ?_); rintro e w1 ⟨rfl, rfl⟩)
    go_ret
    exact ⟨by simp [H2.out], rfl⟩
set_option maxRecDepth 100000 in
theorem close_shut (B r : Nat) (k m c : Int) (v : Value) (s : St) (w : World) (hF : OkF k m c) (h : RdS w B r k m c v s) (hs : s.st = 3) : Calls Try.prog 23 #[.pointer (some ⟨r, 0, none⟩)] w fun e w' => e = .returned (.tuple #[.slice none 0 0, .int .i64 8]) ∧ w = w' := by
  have C := Lib.hid (h.some_ hF)
  have k3 : w.cell? ⟨r, 3, none⟩ = some (.int .i64 s.st) := h.blk.cell 3
  rw [hs] at k3
  clear h hF hs
  go_enter Try.func23, Try.ntmps23
  go_wp2_with (go_at_call 32; (with_reducible refine C.out.mono ?_); rintro e w1 ⟨rfl, rfl⟩)
  go_ret2
  exact ⟨rfl, rfl⟩
set_option maxRecDepth 100000 in
theorem feed_shut (B r : Nat) (k m c : Int) (v : Value) (s : St) (A : Option Addr) (n cp : Nat) (w : World) (hF : OkF k m c) (h : RdS w B r k m c v s) (hs : s.st = 3) : Calls Try.prog 17 #[.pointer (some ⟨r, 0, none⟩), .slice A n cp] w fun e w' => e = .returned (.tuple #[.slice none 0 0, .int .i64 8]) ∧ Below w.heap.size w w' := by
  have hb : Below w.heap.size w (w.alloc (.cells #[.pointer (some ⟨r, 0, none⟩)] 37)) := (Below.refl _ w).alloc (Nat.le_refl _) _
  have h1 := h.below hb
  have C := Lib.hid (h1.some_ hF)
  have k3 := h1.blk.cell 3
  simp only [List.getElem?_toArray, List.getElem?_cons_zero, List.getElem?_cons_succ, hs] at k3
  have k0 := (Blk.new w 37 #[.pointer (some ⟨r, 0, none⟩)]).cell 0
  simp only [List.getElem?_toArray, List.getElem?_cons_zero, List.getElem?_cons_succ] at k0
  obtain ⟨W0, hW0⟩ : ∃ W0, w.alloc (.cells #[.pointer (some ⟨r, 0, none⟩)] 37) = W0 := ⟨_, rfl⟩
  rw [hW0] at C k3 k0 hb
  have HW0 := Lib.hid hW0
  have HB := Lib.hid hb
  clear h h1 hF hs hb hW0
  go_enter Try.func17, Try.ntmps17
  go_upto_region 1 with fail
  rw [HW0.out]
  go_wp2_with (go_at_call 32; (with_reducible refine C.out.mono ?_); rintro e w1 ⟨rfl, rfl⟩)
  go_ret2
  exact ⟨rfl, HB.out⟩
def St.closed (s : St) : St := { s with st := 3, lost := decide (s.st = 2) }
set_option maxRecDepth 100000 in
set_option maxHeartbeats 1000000 in
theorem close_any (B r : Nat) (k m c : Int) (v : Value) (s : St) (w : World) (hF : OkF k m c) (h : RdS w B r k m c v s) (hs : s.st ≠ 3) (hn : s.begun = false) : Calls Try.prog 23 #[.pointer (some ⟨r, 0, none⟩)] w fun e w' => e = .returned (.tuple #[.slice none 0 0, .int .i64 0]) ∧ RdS w' B r k m c v s.closed ∧ Only (fun q => q = r) w w' := by
  have C := Lib.hid (h.some_ hF)
  have k3 : w.cell? ⟨r, 3, none⟩ = some (.int .i64 s.st) := h.blk.cell 3
  have k7 : w.cell? ⟨r, 7, none⟩ = some (.bool s.begun) := h.blk.cell 7
  have k9 : w.cell? ⟨r, 9, none⟩ = some (.bool s.lost) := h.blk.cell 9
  have z3 := h.blk.frozen 3
  have z9 := h.blk.frozen 9
  rw [hn] at k7
  have HN := Lib.hid hn
  have H := Lib.hid h
  have q3 : (s.st == 3) = false := by simpa using hs
  have q2 : (s.st == 2) = decide (s.st = 2) := by by_cases e : s.st = 2 <;> simp [e]
  have Q2 := Lib.hid q2
  clear h hF hs hn q2
  go_enter Try.func23, Try.ntmps23
  go_wp2_with (go_at_call 32; (with_reducible refine C.out.mono ?_); rintro e w1 ⟨rfl, rfl⟩)
  go_ret2
  have hb := (H.out.blk.set_ 9 (.bool (s.st == 2))).set_ 3 (.int .i64 3)
  simp only [List.setIfInBounds_toArray, List.set_cons_zero, List.set_cons_succ] at hb
  rw [Q2.out] at hb ⊢
  exact ⟨rfl, ⟨hb, own_setCell (own_setCell H.out.own H.out.ne _) H.out.ne _, by simpa using H.out.base, H.out.nil⟩, ((Only.refl (fun q => q = r) w).set (fun _ => rfl) 9 _).set (fun _ => rfl) 3 _⟩
set_option maxRecDepth 100000 in
set_option maxHeartbeats 1000000 in
theorem close_mid (B r : Nat) (k m c : Int) (v : Value) (s : St) (w : World) (hF : OkF k m c) (h : RdS w B r k m c v s) (hs : s.st ≠ 3) (hn : s.begun = true) : Calls Try.prog 23 #[.pointer (some ⟨r, 0, none⟩)] w fun e w' => ∃ b, e = .returned (.tuple #[.slice (some ⟨b, 0, none⟩) 1 1, .int .i64 0]) ∧ w.heap.size ≤ b ∧ Blk w' b 44 #[.int .i64 s.at_, .slice none 0 0, .int .i64 4] ∧ RdS w' B r k m c v s.closed ∧ Only (fun q => q = r) w w' := by
  have C := Lib.hid (h.some_ hF)
  have k3 : w.cell? ⟨r, 3, none⟩ = some (.int .i64 s.st) := h.blk.cell 3
  have k5 : w.cell? ⟨r, 5, none⟩ = some (.int .i64 s.at_) := h.blk.cell 5
  have k7 : w.cell? ⟨r, 7, none⟩ = some (.bool s.begun) := h.blk.cell 7
  have k9 : w.cell? ⟨r, 9, none⟩ = some (.bool s.lost) := h.blk.cell 9
  have z3 := h.blk.frozen 3
  have z9 := h.blk.frozen 9
  rw [hn] at k7
  have HN := Lib.hid hn
  have H := Lib.hid h
  have q3 : (s.st == 3) = false := by simpa using hs
  have q2 : (s.st == 2) = decide (s.st = 2) := by by_cases e : s.st = 2 <;> simp [e]
  have Q2 := Lib.hid q2
  clear h hF hs hn q2
  go_enter Try.func23, Try.ntmps23
  go_wp2_with (go_at_call 32; (with_reducible refine C.out.mono ?_); rintro e w1 ⟨rfl, rfl⟩)
  go_ret2
  have hb := (H.out.blk.set_ 9 (.bool (s.st == 2))).set_ 3 (.int .i64 3)
  simp only [List.setIfInBounds_toArray, List.set_cons_zero, List.set_cons_succ] at hb
  rw [Q2.out] at hb ⊢
  have h2 : RdS ((w.setCell ⟨r, 9, none⟩ (.bool (decide (s.st = 2)))).setCell ⟨r, 3, none⟩ (.int .i64 3)) B r k m c v s.closed := ⟨hb, own_setCell (own_setCell H.out.own H.out.ne _) H.out.ne _, by simpa using H.out.base, H.out.nil⟩
  have ho : Only (fun q => q = r) w ((w.setCell ⟨r, 9, none⟩ (.bool (decide (s.st = 2)))).setCell ⟨r, 3, none⟩ (.int .i64 3)) := ((Only.refl (fun q => q = r) w).set (fun _ => rfl) 9 _).set (fun _ => rfl) 3 _
  exact ⟨_, rfl, by simp, by have := Blk.new ((w.setCell ⟨r, 9, none⟩ (.bool (decide (s.st = 2)))).setCell ⟨r, 3, none⟩ (.int .i64 3)) 44 #[.int .i64 s.at_, .slice none 0 0, .int .i64 4]; rw [World.size_setCell, World.size_setCell] at this; exact this, h2.below ((Below.refl _ _).alloc (Nat.le_refl _) _), ho.below ((Below.refl _ _).alloc (Nat.le_refl _) _)⟩
end Go.Proofs.Ytibkhjpjneoabaa
